/- AE, part 5: the operations on abstract values. -/
import Derived.Test.YtjidefnbancmfaaAe4
set_option linter.unusedVariables false
namespace Go.AE

inductive Opd where
  | tmp (t : Nat)
  | const (v : V)
inductive EqTy where
  | bool | ptr | slice | map | func | iface
  deriving DecidableEq
/-- the kinds of scalars. -/
inductive Sc where
  | int | str | bool
  deriving DecidableEq
/-- how keys are compared: scalars, or a struct's cells one by one. -/
inductive KeyTy where
  | scalar (s : Sc)
  | cells (l : List Sc)
inductive AOp where
  | mov (x : Opd)
  | pick (c a b : Opd)
  | bin (op : BinOp) (x y : Opd)
  | eqv (neg : Bool) (ty : EqTy) (x y : Opd)
  | eqAgg (neg : Bool) (l : List Sc) (x y : Opd)
  | un (op : UnOp) (x : Opd)
  | conv (k : IntKind) (x : Opd)
  | convStr (x : Opd)
  | bytesOf (x : Opd)
  | strOf (x : Opd)
  | nilCheck (x : Opd)
  | fieldAddr (off : Nat) (x : Opd)
  | indexAddr (esz : Nat) (x i : Opd)
  | indexArr (n esz : Nat) (x i : Opd)
  | indexStr (x i : Opd)
  | indexAgg (n esz : Nat) (agg : Bool) (x i : Opd)
  | field (off sz : Nat) (agg : Bool) (x : Opd)
  | load (sz : Nat) (agg : Bool) (a : Opd)
  | store (sz : Nat) (a v : Opd)
  | alloc (zero : List V)
  | box (x : Opd)
  | build (zero : List V) (parts : List (Nat × Nat × Opd))
  | buildSlice (len : Nat) (zero : List V) (parts : List (Nat × Nat × Opd))
  | mkSlice (esz bytes : Nat) (zero : List V) (l c : Opd)
  | slice (esz : Nat) (x : Opd) (lo hi mx : Option Opd)
  | sliceStr (x : Opd) (lo hi : Option Opd)
  | sliceArr (n esz : Nat) (x : Opd) (lo hi mx : Option Opd)
  | mkMap
  | lookup (key : KeyTy) (zero : V) (ok : Bool) (m k : Opd)
  | mapUpdate (key : KeyTy) (m k v : Opd)
  | mapEntry (key : KeyTy) (zero : V) (m k : Opd)
  | entryStore (m s v : Opd)
  | delete (key : KeyTy) (m k : Opd)
  | mkIface (t : TypeId) (x : Opd)
  | typeAssert (t : TypeId) (zero : V) (ok : Bool) (x : Opd)
  | mkFunc (fn : Fn) (first cap : List Opd)
  | extract (i : Nat) (x : Opd)
  | lenStr (x : Opd)
  | lenSl (x : Opd)
  | lenMap (x : Opd)
  | lenArr (n : Nat)
  | cap (x : Opd)
  | mn (xs : List Opd)
  | mx (xs : List Opd)
  | append (esz bytes : Nat) (s x : Opd)
  | copy (esz : Nat) (d s : Opd)
  | clear (zero : List V) (x : Opd)
  | clearMap (x : Opd)
  | call (f : Opd) (args : List Opd)
  | rangeMap (x : Opd)
  | nextMap (x : Opd)
  | stuck

abbrev Fr := T V
def Opd.ev (fr : Fr) : Opd → Option V
  | .tmp t => fr.get t
  | .const v => some v
def evs (fr : Fr) : List Opd → Option (List V)
  | [] => some []
  | x :: xs => match x.ev fr with
    | some v => match evs fr xs with
      | some vs => some (v :: vs)
      | none => none
    | none => none

def V.one : V → Bool
  | .agg _ => false
  | .tuple _ => false
  | .undef => false
  | _ => true
def allOne : List V → Bool
  | [] => true
  | v :: l => match v.one with
    | true => allOne l
    | false => false
def V.cells : V → List V
  | .agg l => l
  | v => [v]

/-! ### Numbers and strings -/
def bitsI (op : BinOp) (k : IntKind) (x y : Int) : Int :=
  let a := BitVec.ofInt k.bits x
  let b := BitVec.ofInt k.bits y
  k.wrap ((match op with | .and => a &&& b | .or => a ||| b | .xor => a ^^^ b | _ => a &&& ~~~b).toNat)
def binI (op : BinOp) (k : IntKind) (a b : Int) : Option V :=
  match op with
  | .add => some (.int k (k.wrap (a + b)))
  | .sub => some (.int k (k.wrap (a - b)))
  | .mul => some (.int k (k.wrap (a * b)))
  | .quo => if b = 0 then none else some (.int k (k.wrap (a.tdiv b)))
  | .rem => if b = 0 then none else some (.int k (a.tmod b))
  | .and => some (.int k (bitsI .and k a b))
  | .or => some (.int k (bitsI .or k a b))
  | .xor => some (.int k (bitsI .xor k a b))
  | .andNot => some (.int k (bitsI .andNot k a b))
  | .eql => some (.bool (a == b))
  | .neq => some (.bool (a != b))
  | .lss => some (.bool (decide (a < b)))
  | .leq => some (.bool (decide (a ≤ b)))
  | .gtr => some (.bool (decide (a > b)))
  | .geq => some (.bool (decide (a ≥ b)))
  | .shl => none
  | .shr => none
def shiftI (op : BinOp) (k : IntKind) (a b : Int) : Option V :=
  if b < 0 then none else
  match op with
  | .shl => some (.int k (k.wrap (a * 2 ^ (min b.toNat k.bits))))
  | .shr => some (.int k (a.fdiv (2 ^ (min b.toNat k.bits))))
  | _ => none
def lessL : List Nat → List Nat → Bool
  | _, [] => false
  | [], _ :: _ => true
  | a :: x, b :: y => Nat.blt a b || (Nat.beq a b && lessL x y)
def eqL : List Nat → List Nat → Bool
  | [], [] => true
  | a :: x, b :: y => Nat.beq a b && eqL x y
  | _, _ => false
def strS (op : BinOp) (a b : List Nat) : Option V :=
  match op with
  | .add => if a.length + b.length ≤ 4611686018427387904 then some (.str (a ++ b)) else none
  | .eql => some (.bool (eqL a b))
  | .neq => some (.bool (!eqL a b))
  | .lss => some (.bool (lessL a b))
  | .leq => some (.bool (lessL a b || eqL a b))
  | .gtr => some (.bool (!(lessL a b || eqL a b)))
  | .geq => some (.bool (!lessL a b))
  | _ => none
def aBin (op : BinOp) : V → V → Option V
  | .int k a, .int k' b => match op with
    | .shl => shiftI .shl k a b
    | .shr => shiftI .shr k a b
    | op => if k = k' then binI op k a b else none
  | .str a, .str b => strS op a b
  | _, _ => none
def eqV : EqTy → V → V → Option Bool
  | .bool, .bool a, .bool b => some (a == b)
  | .ptr, .nilptr, .nilptr => some true
  | .ptr, .nilptr, .ptr _ _ => some false
  | .ptr, .ptr _ _, .nilptr => some false
  | .ptr, .ptr b o, .ptr b' o' => if b = b' then some (Nat.beq o o') else none
  | .slice, .nilslice, .nilslice => some true
  | .slice, .nilslice, .slice _ _ _ _ => some false
  | .slice, .slice _ _ _ _, .nilslice => some false
  | .map, .nilmap, .nilmap => some true
  | .map, .nilmap, .map _ => some false
  | .map, .map _, .nilmap => some false
  | .func, .nilfunc, .nilfunc => some true
  | .func, .nilfunc, .func _ _ _ => some false
  | .func, .func _ _ _, .nilfunc => some false
  | .iface, .niliface, .niliface => some true
  | .iface, .niliface, .iface _ _ => some false
  | .iface, .iface _ _, .niliface => some false
  | _, _, _ => none
def eqScalar : Sc → V → V → Option Bool
  | .int, .int k a, .int k' b => if k = k' then some (a == b) else none
  | .str, .str a, .str b => some (eqL a b)
  | .bool, .bool a, .bool b => some (a == b)
  | _, _, _ => none
def eqCells : List Sc → List V → List V → Option Bool
  | [], [], [] => some true
  | s :: l, a :: x, b :: y => match eqScalar s a b with
    | some true => eqCells l x y
    | some false => some false
    | none => none
  | _, _, _ => none
def aUn (op : UnOp) : V → Option V
  | .int k n => match op with
    | .neg => some (.int k (k.wrap (0 - n)))
    | .xor => some (.int k (bitsI .xor k (if k.signed then -1 else k.max) n))
    | _ => none
  | .bool b => match op with
    | .not => some (.bool (!b))
    | _ => none
  | _ => none

/-! ### Memory -/
/-- cells of a block, from a place on. -/
def takeN : Nat → List V → Option (List V)
  | 0, _ => some []
  | n + 1, v :: l => match takeN n l with
    | some r => some (v :: r)
    | none => none
  | _ + 1, [] => none
def AW.load (aw : AW) (b off n : Nat) : Option (List V) :=
  match aw.heap.get b with
  | some (.cells l sh) => match aw.alive b sh with
    | true => takeN n (l.drop off)
    | false => none
  | _ => none
/-- cells written over. -/
def over : List V → Nat → List V → Option (List V)
  | l, 0, [] => some l
  | _ :: l, 0, v :: vs => match over l 0 vs with
    | some r => some (v :: r)
    | none => none
  | x :: l, off + 1, vs => match over l off vs with
    | some r => some (x :: r)
    | none => none
  | _, _, _ => none
def AW.store (aw : AW) (b off : Nat) (vs : List V) : Option AW :=
  match aw.heap.get b with
  | some (.cells l sh) => match aw.alive b sh, sh, allOne vs with
    | true, .own, true => match over l off vs with
      | some l' => some (aw.turn b (.cells l' sh))
      | none => none
    | true, .lax, true => match over l off vs with
      | some l' => some (aw.turn b (.cells l' sh))
      | none => none
    | true, .fam f, true => match over l off vs with
      | some l' => some (aw.turn b (.cells l' sh))
      | none => none
    | _, _, _ => none
  | _ => none
inductive Res where
  | val (v : V)
  | skip
  | call (f : Nat) (args : List V)
def valOf (o : Option V) (aw : AW) : Option (Res × AW) :=
  match o with
  | some v => some (.val v, aw)
  | none => none
/-- a struct's or an array's part. -/
def partV (l : List V) (off sz : Nat) (agg : Bool) : Option V :=
  match agg with
  | true => match takeN sz (l.drop off) with
    | some r => some (.agg r)
    | none => none
  | false => (l.drop off).head?
def idx : V → Option Nat
  | .int _ (.ofNat n) => some n
  | _ => none
def fillV : List V → List (Nat × Nat × V) → Option (List V)
  | l, [] => some l
  | l, (off, sz, v) :: rest => if v.cells.length = sz then match over l off v.cells with
      | some l' => fillV l' rest
      | none => none
    else none
def evParts (fr : Fr) : List (Nat × Nat × Opd) → Option (List (Nat × Nat × V))
  | [] => some []
  | (o, s, x) :: rest => match x.ev fr with
    | some v => match evParts fr rest with
      | some r => some ((o, s, v) :: r)
      | none => none
    | none => none
def AW.fresh (aw : AW) (l : List V) : AW := aw.new (.cells l .own)
def AW.freshLax (aw : AW) (l : List V) : AW := aw.new (.cells l .lax)
/-- the bounds of a cut: low, high, most. -/
def evOpt (fr : Fr) : Option Opd → Option (Option Nat)
  | none => some none
  | some x => match x.ev fr with
    | some v => match idx v with
      | some n => some (some n)
      | none => none
    | none => none
def capOf (len : Nat) : Cap → Nat
  | .known c => c
  | .upTo _ => len
def sliceV (esz : Nat) (b off len : Nat) (cap : Cap) (lo hi mx : Option Nat) : Option V :=
  match cap with
  | .known c =>
    let m := mx.getD c
    let h := hi.getD len
    let l := lo.getD 0
    if m ≤ c ∧ h ≤ m ∧ l ≤ h ∧ (mx.isSome = true → hi.isSome = true) then some (.slice b (if m = l then off else off + l * esz) (h - l) (.known (m - l))) else none
  | .upTo e =>
    let h := hi.getD len
    let l := lo.getD 0
    match mx with
    | none => if h ≤ len ∧ l ≤ h ∧ e = esz then some (.slice b (off + l * esz) (h - l) (.upTo esz)) else none
    | some m => if m ≤ len ∧ h ≤ m ∧ l ≤ h ∧ l < m ∧ hi.isSome = true then some (.slice b (off + l * esz) (h - l) (.known (m - l))) else none
def intCells (l : List Nat) : List V := l.map fun c => .int .u8 (Int.ofNat c)
def bytesV : List V → Option (List Nat)
  | [] => some []
  | .int .u8 (.ofNat n) :: l => match Nat.blt n 256, bytesV l with
    | true, some r => some (n :: r)
    | _, _ => none
  | _ :: _ => none
/-- a slice's or a string's elements: how many, and their cells. -/
def AW.elems (aw : AW) (esz : Nat) : V → Option (Nat × List V)
  | .nilslice => some (0, [])
  | .slice b off len _ => match len with
    | 0 => some (0, [])
    | len => match aw.load b off (len * esz) with
      | some l => some (len, l)
      | none => none
  | .str l => if esz = 1 then some (l.length, intCells l) else none
  | _ => none
/-- appended to a slice that goes as far as its block, one of a family's, at the block's end. -/
def AW.appendFam (aw : AW) (esz b off len k : Nat) (news : List V) : Option (V × AW) :=
  match aw.heap.get b with
  | some (.cells l (.fam f)) => match aw.alive b (.fam f), aw.fams.get f, Nat.beq (off + len * esz) l.length with
    | true, some F, true => some (.slice aw.next 0 (len + k) (.upTo esz), aw.grow b f F (l.drop off ++ news))
    | _, _, _ => none
  | _ => none
/-- appended to a slice that goes as far as its block. -/
def AW.appendUp (aw : AW) (esz b off len k : Nat) (news : List V) : Option (V × AW) :=
  match aw.heap.get b with
  | some (.cells l sh) => match Nat.beq (off + len * esz) l.length with
    | true => match sh with
      | .own => (aw.found b l).appendFam esz b off len k news
      | .lax => (aw.found b l).appendFam esz b off len k news
      | _ => aw.appendFam esz b off len k news
    | false => match Nat.ble (off + (len + k) * esz) l.length, Nat.ble 1 len with
      | true, true => match aw.store b (off + len * esz) news with
        | some aw' => some (.slice b off (len + k) (.upTo esz), aw')
        | none => none
      | _, _ => none
  | _ => none
def AW.appendV (aw : AW) (esz bytes : Nat) (s : V) (k : Nat) (news : List V) : Option (V × AW) :=
  match k with
  | 0 => match s with
    | .nilslice => some (s, aw)
    | .slice _ _ _ (.upTo _) => some (s, aw)
    | .slice _ _ len (.known c) => if len ≤ c then some (s, aw) else none
    | _ => none
  | k => match s with
    | .nilslice => if k * bytes ≤ 70368744177664 ∧ k ≤ 70368744177664 then some (.slice aw.next 0 k (.upTo esz), aw.fresh news) else none
    | .slice b off len (.known c) =>
      if (len + k) * bytes ≤ 70368744177664 ∧ len + k ≤ 70368744177664 ∧ len ≤ c then
        if len + k ≤ c then match aw.store b (off + len * esz) news with
          | some aw' => some (.slice b off (len + k) (.known c), aw')
          | none => none
        else match aw.elems esz (.slice b off len (.known c)) with
          | some (_, old) => some (.slice aw.next 0 (len + k) (.upTo esz), aw.fresh (old ++ news))
          | none => none
      else none
    | .slice b off len (.upTo e) =>
      if e = esz ∧ (len + k) * bytes ≤ 70368744177664 ∧ len + k ≤ 70368744177664 ∧ allOne news = true ∧ 0 < esz then aw.appendUp esz b off len k news else none
    | _ => none

/-! ### Maps -/
def eqKey : KeyTy → V → V → Option Bool
  | .scalar s, a, b => eqScalar s a b
  | .cells l, .agg x, .agg y => eqCells l x y
  | _, _, _ => none
def findE (t : KeyTy) (k : V) : List (V × V × Nat) → Nat → Option (Option (Nat × V × Nat))
  | [], _ => some none
  | (k', v, n) :: es, i => match eqKey t k k' with
    | some true => some (some (i, v, n))
    | some false => findE t k es (i + 1)
    | none => none
/-- is it a key of that kind at all? -/
def keyOk : KeyTy → V → Bool
  | .scalar .int, .int _ _ => true
  | .scalar .str, .str _ => true
  | .scalar .bool, .bool _ => true
  | .cells l, .agg x => Nat.beq x.length l.length
  | _, _ => false
def AW.entries (aw : AW) : V → Option (Option Nat × List (V × V × Nat) × Nat)
  | .nilmap => some (none, [], 0)
  | .map b => match aw.heap.get b with
    | some (.map es ck) => some (some b, es, ck)
    | _ => none
  | _ => none
def setE (i : Nat) (k v : V) (es : List (V × V × Nat)) : List (V × V × Nat) :=
  match es[i]? with
  | some (_, _, n) => es.set i (k, v, n)
  | none => es

def minL : V → List V → Option V
  | v, [] => some v
  | .int k x, .int _ y :: rest => minL (.int k (if y < x then y else x)) rest
  | _, _ => none
def maxL : V → List V → Option V
  | v, [] => some v
  | .int k x, .int _ y :: rest => maxL (.int k (if x < y then y else x)) rest
  | _, _ => none
/-! ### One operation -/
def aop (o : AOp) (fr : Fr) (aw : AW) : Option (Res × AW) :=
  match o with
  | .stuck => none
  | .mov x => valOf (x.ev fr) aw
  | .pick c a b => match c.ev fr with
    | some (.bool true) => valOf (a.ev fr) aw
    | some (.bool false) => valOf (b.ev fr) aw
    | _ => none
  | .bin op x y => match x.ev fr, y.ev fr with
    | some a, some b => valOf (aBin op a b) aw
    | _, _ => none
  | .eqv neg ty x y => match x.ev fr, y.ev fr with
    | some a, some b => match eqV ty a b with
      | some r => some (.val (.bool (neg != r)), aw)
      | none => none
    | _, _ => none
  | .eqAgg neg l x y => match x.ev fr, y.ev fr with
    | some (.agg a), some (.agg b) => match eqCells l a b with
      | some r => some (.val (.bool (neg != r)), aw)
      | none => none
    | _, _ => none
  | .un op x => match x.ev fr with
    | some a => valOf (aUn op a) aw
    | none => none
  | .conv k x => match x.ev fr with
    | some (.int _ n) => some (.val (.int k (k.wrap n)), aw)
    | _ => none
  | .convStr x => match x.ev fr with
    | some (.str l) => some (.val (.str l), aw)
    | _ => none
  | .bytesOf x => match x.ev fr with
    | some (.str l) => if l.length ≤ 70368744177664 then some (.val (.slice aw.next 0 l.length (.upTo 1)), aw.freshLax (intCells l)) else none
    | _ => none
  | .strOf x => match x.ev fr with
    | some .nilslice => some (.val (.str []), aw)
    | some (.slice b off len cap) => match aw.elems 1 (.slice b off len cap) with
      | some (_, l) => match bytesV l with
        | some cs => some (.val (.str cs), aw)
        | none => none
      | none => none
    | _ => none
  | .nilCheck x => match x.ev fr with
    | some (.ptr b off) => some (.val (.ptr b off), aw)
    | some (.func (.func f) a c) => some (.val (.func (.func f) a c), aw)
    | some (.iface t v) => some (.val (.iface t v), aw)
    | _ => none
  | .fieldAddr off x => match x.ev fr with
    | some (.ptr b o) => some (.val (.ptr b (o + off)), aw)
    | _ => none
  | .indexAddr esz x i => match x.ev fr, i.ev fr with
    | some (.slice b off len _), some iv => match idx iv with
      | some n => if n < len then some (.val (.ptr b (off + n * esz)), aw) else none
      | none => none
    | _, _ => none
  | .indexArr n esz x i => match x.ev fr, i.ev fr with
    | some (.ptr b off), some iv => match idx iv with
      | some j => if j < n then some (.val (.ptr b (off + j * esz)), aw) else none
      | none => none
    | _, _ => none
  | .indexStr x i => match x.ev fr, i.ev fr with
    | some (.str l), some iv => match idx iv with
      | some n => match l[n]? with
        | some c => some (.val (.int .u8 (Int.ofNat c)), aw)
        | none => none
      | none => none
    | _, _ => none
  | .indexAgg n esz agg x i => match x.ev fr, i.ev fr with
    | some (.agg l), some iv => match idx iv with
      | some j => if j < n then valOf (partV l (j * esz) esz agg) aw else none
      | none => none
    | _, _ => none
  | .field off sz agg x => match x.ev fr with
    | some (.agg l) => valOf (partV l off sz agg) aw
    | _ => none
  | .load sz agg a => match a.ev fr with
    | some (.ptr b off) => match agg with
      | true => match aw.load b off sz with
        | some l => some (.val (.agg l), aw)
        | none => none
      | false => match aw.load b off 1 with
        | some [v] => some (.val v, aw)
        | _ => none
    | _ => none
  | .store sz a v => match a.ev fr, v.ev fr with
    | some (.ptr b off), some v => if v.cells.length = sz then match aw.store b off v.cells with
        | some aw' => some (.skip, aw')
        | none => none
      else none
    | _, _ => none
  | .alloc zero => some (.val (.ptr aw.next 0), aw.fresh zero)
  | .box x => match x.ev fr with
    | some v => some (.val (.ptr aw.next 0), aw.fresh v.cells)
    | none => none
  | .build zero parts => match evParts fr parts with
    | some ps => match fillV zero ps with
      | some l => some (.val (.agg l), aw)
      | none => none
    | none => none
  | .buildSlice len zero parts => match evParts fr parts with
    | some ps => match fillV zero ps with
      | some l => some (.val (.slice aw.next 0 len (.known len)), aw.fresh l)
      | none => none
    | none => none
  | .mkSlice esz bytes zero l c => match l.ev fr, c.ev fr with
    | some lv, some cv => match idx lv, idx cv with
      | some l, some c => if l ≤ c ∧ c ≤ 70368744177664 ∧ c * bytes ≤ 70368744177664 then
          some (.val (.slice aw.next 0 l (.known c)), aw.fresh ((List.replicate c zero).flatten))
        else none
      | _, _ => none
    | _, _ => none
  | .slice esz x lo hi mx => match x.ev fr, evOpt fr lo, evOpt fr hi, evOpt fr mx with
    | some (.slice b off len cap), some lo, some hi, some mx => valOf (sliceV esz b off len cap lo hi mx) aw
    | some .nilslice, some lo, some hi, some mx => match lo.getD 0, hi.getD 0, mx.getD 0 with
      | 0, 0, 0 => if mx.isSome = true → hi.isSome = true then some (.val .nilslice, aw) else none
      | _, _, _ => none
    | _, _, _, _ => none
  | .sliceStr x lo hi => match x.ev fr, evOpt fr lo, evOpt fr hi with
    | some (.str s), some lo, some hi =>
      let h := hi.getD s.length
      let l := lo.getD 0
      if h ≤ s.length ∧ l ≤ h then some (.val (.str ((s.drop l).take (h - l))), aw) else none
    | _, _, _ => none
  | .sliceArr n esz x lo hi mx => match x.ev fr, evOpt fr lo, evOpt fr hi, evOpt fr mx with
    | some (.ptr b off), some lo, some hi, some mx => valOf (sliceV esz b off n (.known n) lo hi mx) aw
    | _, _, _, _ => none
  | .mkMap => some (.val (.map aw.next), aw.new (.map [] 0))
  | .lookup t zero ok m k => match m.ev fr, k.ev fr with
    | some m, some k => match aw.entries m, keyOk t k with
      | some (_, es, _), true => match findE t k es 0 with
        | some (some (_, v, _)) => some (.val (match ok with | true => .tuple [v, .bool true] | false => v), aw)
        | some none => some (.val (match ok with | true => .tuple [zero, .bool false] | false => zero), aw)
        | none => none
      | _, _ => none
    | _, _ => none
  | .mapUpdate t m k v => match m.ev fr, k.ev fr, v.ev fr with
    | some m, some k, some v => match aw.entries m, keyOk t k with
      | some (some b, es, ck), true => match findE t k es 0 with
        | some (some (i, _, _)) => some (.skip, aw.turn b (.map (setE i k v es) ck))
        | some none => some (.skip, aw.turn b (.map (es ++ [(k, v, ck)]) (ck + 1)))
        | none => none
      | _, _ => none
    | _, _, _ => none
  | .mapEntry t zero m k => match m.ev fr, k.ev fr with
    | some m, some k => match aw.entries m, keyOk t k with
      | some (some b, es, ck), true => match findE t k es 0 with
        | some (some (i, v, n)) => some (.val (.tuple [v, .int .i64 (Int.ofNat n)]), aw.turn b (.map (setE i k v es) ck))
        | some none => some (.val (.tuple [zero, .int .i64 (Int.ofNat ck)]), aw.turn b (.map (es ++ [(k, zero, ck)]) (ck + 1)))
        | none => none
      | _, _ => none
    | _, _ => none
  | .entryStore m s v => match m.ev fr, s.ev fr, v.ev fr with
    | some m, some s, some v => match aw.entries m, idx s with
      | some (some b, es, ck), some n => match es.findIdx? (fun e => Nat.beq e.2.2 n) with
        | some i => match es[i]? with
          | some (k, _, n) => some (.skip, aw.turn b (.map (es.set i (k, v, n)) ck))
          | none => none
        | none => none
      | _, _ => none
    | _, _, _ => none
  | .delete t m k => match m.ev fr, k.ev fr with
    | some m, some k => match aw.entries m, keyOk t k with
      | some (none, _, _), true => some (.val (.tuple []), aw)
      | some (some b, es, ck), true => match findE t k es 0 with
        | some (some (i, _, _)) => some (.val (.tuple []), aw.turn b (.map (es.eraseIdx i) ck))
        | some none => some (.val (.tuple []), aw.turn b (.map es ck))
        | none => none
      | _, _ => none
    | _, _ => none
  | .mkIface t x => match x.ev fr with
    | some v => some (.val (.iface t v), aw)
    | none => none
  | .typeAssert t zero ok x => match x.ev fr with
    | some (.iface t' v) => match Nat.beq t' t with
      | true => some (.val (match ok with | true => .tuple [v, .bool true] | false => v), aw)
      | false => match ok with
        | true => some (.val (.tuple [zero, .bool false]), aw)
        | false => none
    | some .niliface => match ok with
      | true => some (.val (.tuple [zero, .bool false]), aw)
      | false => none
    | _ => none
  | .mkFunc fn first cap => match evs fr first, evs fr cap with
    | some f, some c => some (.val (.func fn f c), aw)
    | _, _ => none
  | .extract i x => match x.ev fr with
    | some (.tuple l) => valOf (l[i]?) aw
    | _ => none
  | .lenStr x => match x.ev fr with
    | some (.str l) => some (.val (.int .i64 (Int.ofNat l.length)), aw)
    | _ => none
  | .lenSl x => match x.ev fr with
    | some (.slice _ _ n _) => some (.val (.int .i64 (Int.ofNat n)), aw)
    | some .nilslice => some (.val (.int .i64 (Int.ofNat 0)), aw)
    | _ => none
  | .lenMap x => match x.ev fr with
    | some m => match aw.entries m with
      | some (_, es, _) => some (.val (.int .i64 (Int.ofNat es.length)), aw)
      | none => none
    | none => none
  | .lenArr n => some (.val (.int .i64 (Int.ofNat n)), aw)
  | .cap x => match x.ev fr with
    | some (.slice _ _ _ (.known c)) => some (.val (.int .i64 (Int.ofNat c)), aw)
    | some .nilslice => some (.val (.int .i64 (Int.ofNat 0)), aw)
    | _ => none
  | .mn xs => match evs fr xs with
    | some (v :: rest) => valOf (minL v rest) aw
    | _ => none
  | .mx xs => match evs fr xs with
    | some (v :: rest) => valOf (maxL v rest) aw
    | _ => none
  | .append esz bytes s x => match s.ev fr, x.ev fr with
    | some s, some x => match aw.elems esz x with
      | some (k, news) => match aw.appendV esz bytes s k news with
        | some (v, aw') => some (.val v, aw')
        | none => none
      | none => none
    | _, _ => none
  | .copy esz d s => match d.ev fr, s.ev fr with
    | some (.slice b off len _), some s => match aw.elems esz s with
      | some (k, l) => match takeN (min k len * esz) l with
        | some cs => match cs with
          | [] => some (.val (.int .i64 (Int.ofNat (min k len))), aw)
          | cs => match aw.store b off cs with
            | some aw' => some (.val (.int .i64 (Int.ofNat (min k len))), aw')
            | none => none
        | none => none
      | none => none
    | some .nilslice, some s => match aw.elems esz s with
      | some (k, l) => some (.val (.int .i64 0), aw)
      | none => none
    | _, _ => none
  | .clear zero x => match x.ev fr with
    | some .nilslice => some (.val (.tuple []), aw)
    | some (.slice b off len _) => match len with
      | 0 => some (.val (.tuple []), aw)
      | len => match aw.store b off ((List.replicate len zero).flatten) with
        | some aw' => some (.val (.tuple []), aw')
        | none => none
    | _ => none
  | .clearMap x => match x.ev fr with
    | some m => match aw.entries m with
      | some (none, _, _) => some (.val (.tuple []), aw)
      | some (some b, _, ck) => some (.val (.tuple []), aw.turn b (.map [] ck))
      | none => none
    | none => none
  | .call f args => match f.ev fr, evs fr args with
    | some (.func (.func f) first cap), some args => some (.call f (first ++ args ++ cap), aw)
    | _, _ => none
  | .rangeMap x => match x.ev fr with
    | some m => match aw.entries m with
      | some (b, _, ck) => some (.val (.ptr aw.next 0), aw.new (.mapIter b (match b with | some _ => ck | none => 0) [] (match b with | some _ => ck | none => 0)))
      | none => none
    | none => none
  | .nextMap x => match x.ev fr with
    | some (.ptr r 0) => match aw.heap.get r with
      | some (.mapIter none _ _ _) => some (.val (.tuple [.bool false]), aw)
      | some (.mapIter (some b) since seen last) => match aw.heap.get b with
        | some (.map es ck) => match Nat.beq ck last, es with
          | true, [] => some (.val (.tuple [.bool false]), aw)
          | true, [(k, v, n)] => match seen with
            | [] => if n < since then some (.val (.tuple [.bool true, k, v]), aw.turn r (.mapIter (some b) since [n] ck)) else none
            | [q] => if q = n ∧ n < last then some (.val (.tuple [.bool false]), aw) else none
            | _ => none
          | _, _ => none
        | _ => none
      | _ => none
    | _ => none
end Go.AE
