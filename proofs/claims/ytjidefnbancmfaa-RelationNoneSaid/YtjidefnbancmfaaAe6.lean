/- AE, part 6: the model's code turned into abstract code; its steps as a relation. -/
import Derived.Test.YtjidefnbancmfaaAe5
set_option linter.unusedVariables false
namespace Go.AE

def cV1 : Value → Option V
  | .bool b => some (.bool b)
  | .int k n => some (.int k n)
  | .string s => some (.str (strL s))
  | .pointer none => some .nilptr
  | .slice none 0 0 => some .nilslice
  | .map none => some .nilmap
  | .nilFunc => some .nilfunc
  | .nilIface => some .niliface
  | _ => none
def cVs : List Value → Option (List V)
  | [] => some []
  | v :: l => match cV1 v with
    | some x => match cVs l with
      | some xs => some (x :: xs)
      | none => none
    | none => none
def cV : Value → Option V
  | .agg cs => match cVs cs.toList with
    | some l => some (.agg l)
    | none => none
  | .tuple cs => match cVs cs.toList with
    | some l => some (.tuple l)
    | none => none
  | v => cV1 v
def cOpd : Operand → Option Opd
  | .tmp t => some (.tmp t)
  | .const v => match cV v with
    | some x => some (.const x)
    | none => none
  | .global _ => none
  | .func f => some (.const (.func (.func f) [] []))
def cOpds : List Operand → Option (List Opd)
  | [] => some []
  | o :: l => match cOpd o with
    | some x => match cOpds l with
      | some xs => some (x :: xs)
      | none => none
    | none => none
def cOpt : Option Operand → Option (Option Opd)
  | none => some none
  | some o => match cOpd o with
    | some x => some (some x)
    | none => none
def aggOf (P : Program) (t : TypeId) : Option Bool :=
  match P.underlying t with
  | some (.struct _) => some true
  | some (.array _ _) => some true
  | some _ => some false
  | none => none
def zeroOf (P : Program) (t : TypeId) : Option V :=
  match P.info? t with
  | some i => match i.zero with
    | some z => cV z
    | none => none
  | none => none
def sizeOf? (P : Program) (t : TypeId) : Option Nat :=
  match P.info? t with
  | some i => some i.size
  | none => none
def bytesOf? (P : Program) (t : TypeId) : Option Nat :=
  match P.info? t with
  | some i => some i.bytes
  | none => none
def scTy (P : Program) (t : TypeId) : Option Sc :=
  match P.underlying t with
  | some (.int _) => some .int
  | some .string => some .str
  | some .bool => some .bool
  | _ => none
/-- a struct of scalars, a cell each, in their order; a name '_' is none. -/
def scFields (P : Program) : List Field → Nat → Option (List Sc)
  | [], _ => some []
  | f :: fs, n => match f.name != "_", Nat.beq f.offset n, scTy P f.type, scFields P fs (n + 1) with
    | true, true, some s, some r => some (s :: r)
    | _, _, _, _ => none
def keyTy (P : Program) (t : TypeId) : Option KeyTy :=
  match P.underlying t with
  | some (.int _) => some (.scalar .int)
  | some .string => some (.scalar .str)
  | some .bool => some (.scalar .bool)
  | some (.struct fs) => match P.stoodInHeld t, scFields P fs.toList 0 with
    | false, some l => some (.cells l)
    | _, _ => none
  | _ => none
def cParts (place : Nat → Option (Nat × Nat)) : List (Nat × Operand) → Option (List (Nat × Nat × Opd))
  | [] => some []
  | (i, o) :: l => match place i, cOpd o with
    | some (off, sz), some x => match cParts place l with
      | some r => some ((off, sz, x) :: r)
      | none => none
    | _, _ => none
def fieldPlaces (P : Program) : List Field → Option (List (Nat × Nat))
  | [] => some []
  | f :: fs => match sizeOf? P f.type, fieldPlaces P fs with
    | some s, some r => some ((f.offset, s) :: r)
    | _, _ => none
def isNilIface : Operand → Bool
  | .const .nilIface => true
  | _ => false
def cBin (P : Program) (op : BinOp) (t : TypeId) (x y : Operand) : Option AOp :=
  match cOpd x, cOpd y with
  | some a, some b =>
    match P.underlying t with
    | some (.int _) => some (.bin op a b)
    | some .string => some (.bin op a b)
    | some d =>
      match (match op with | .eql => some false | .neq => some true | _ => none : Option Bool) with
      | none => none
      | some neg =>
        match d with
        | .bool => some (.eqv neg .bool a b)
        | .pointer e => match sizeOf? P e with
          | some (_ + 1) => some (.eqv neg .ptr a b)
          | _ => none
        | .slice _ => some (.eqv neg .slice a b)
        | .map _ _ => some (.eqv neg .map a b)
        | .func _ _ _ => some (.eqv neg .func a b)
        | .interface _ => if isNilIface x || isNilIface y then some (.eqv neg .iface a b) else none
        | .struct fs => match P.stoodInHeld t, P.eqGuardType P.depth t, scFields P fs.toList 0 with
          | false, false, some l => some (.eqAgg neg l a b)
          | _, _, _ => none
        | _ => none
    | none => none
  | _, _ => none
def cBuiltin (P : Program) (b : Builtin) (ts : List TypeId) (args : List Operand) : Option AOp :=
  match b, ts, args with
  | .len, [t], [x] => match cOpd x with
    | some a => match P.underlying t with
      | some .string => some (.lenStr a)
      | some (.slice _) => some (.lenSl a)
      | some (.map _ _) => some (.lenMap a)
      | some (.array n _) => some (.lenArr n)
      | _ => none
    | none => none
  | .cap, [t], [x] => match cOpd x with
    | some a => match P.underlying t with
      | some (.slice _) => some (.cap a)
      | _ => none
    | none => none
  | .append, [t, u], [s, x] => match cOpd s, cOpd x with
    | some a, some b => match P.underlying t, P.underlying u with
      | some (.slice e), some d => match d with
        | .int _ => none
        | _ => match P.info? e with
          | some i => match i.zero with
            | some z => if z.cells.size = i.size then some (.append i.size i.bytes a b) else none
            | none => none
          | none => none
      | _, _ => none
    | _, _ => none
  | .copy, t :: _, [d, s] => match cOpd d, cOpd s with
    | some a, some b => match P.underlying t with
      | some (.slice e) => match sizeOf? P e with
        | some n => some (.copy n a b)
        | none => none
      | _ => none
    | _, _ => none
  | .clear, t :: _, [x] => match cOpd x with
    | some a => match P.underlying t with
      | some (.slice e) => match zeroOf P e with
        | some z => some (.clear z.cells a)
        | none => none
      | some (.map _ _) => some (.clearMap a)
      | _ => none
    | none => none
  | .min, _, xs => match cOpds xs with
    | some as => some (.mn as)
    | none => none
  | .max, _, xs => match cOpds xs with
    | some as => some (.mx as)
    | none => none
  | .delete, t :: _, [m, k] => match cOpd m, cOpd k with
    | some a, some b => match P.underlying t with
      | some (.map kt _) => match keyTy P kt with
        | some ty => some (.delete ty a b)
        | none => none
      | _ => none
    | _, _ => none
  | _, _, _ => none
def cOp (P : Program) (o : Op) : Option AOp :=
  match o with
  | .move x => match cOpd x with | some a => some (.mov a) | none => none
  | .assign x => match cOpd x with | some a => some (.mov a) | none => none
  | .pick c x y => match cOpd c, cOpd x, cOpd y with
    | some c, some a, some b => some (.pick c a b)
    | _, _, _ => none
  | .binOp op t x y _ => cBin P op t x y
  | .unOp op _ x => match cOpd x with | some a => some (.un op a) | none => none
  | .convert src dst x => match cOpd x with
    | some a => match P.underlying src, P.underlying dst with
      | some (.int _), some (.int k) => some (.conv k a)
      | some .string, some .string => some (.convStr a)
      | some .string, some (.slice e) => match P.underlying e with
        | some (.int .u8) => some (.bytesOf a)
        | _ => none
      | some (.slice e), some .string => match P.underlying e with
        | some (.int .u8) => some (.strOf a)
        | _ => none
      | _, _ => none
    | none => none
  | .nilCheck x => match cOpd x with | some a => some (.nilCheck a) | none => none
  | .fieldAddr s x f => match cOpd x with
    | some a => match P.underlying s with
      | some (.struct fs) => match fs[f]? with
        | some fd => match sizeOf? P fd.type with
          | some (_ + 1) => some (.fieldAddr fd.offset a)
          | _ => none
        | none => none
      | _ => none
    | none => none
  | .indexAddr t x i => match cOpd x, cOpd i with
    | some a, some b => match P.underlying t with
      | some (.slice e) => match sizeOf? P e with
        | some n => some (.indexAddr n a b)
        | none => none
      | some (.array k e) => match sizeOf? P e with
        | some n => some (.indexArr k n a b)
        | none => none
      | _ => none
    | _, _ => none
  | .index t x i => match cOpd x, cOpd i with
    | some a, some b => match P.underlying t with
      | some .string => some (.indexStr a b)
      | some (.array k e) => match sizeOf? P e, aggOf P e with
        | some n, some g => some (.indexAgg k n g a b)
        | _, _ => none
      | _ => none
    | _, _ => none
  | .field t x f => match cOpd x with
    | some a => match P.underlying t with
      | some (.struct fs) => match fs[f]? with
        | some fd => match sizeOf? P fd.type, aggOf P fd.type with
          | some n, some g => some (.field fd.offset n g a)
          | _, _ => none
        | none => none
      | _ => none
    | none => none
  | .load t x => match cOpd x with
    | some a => match sizeOf? P t, aggOf P t with
      | some n, some g => some (.load n g a)
      | _, _ => none
    | none => none
  | .store t x v => match cOpd x, cOpd v with
    | some a, some b => match sizeOf? P t with
      | some n => some (.store n a b)
      | none => none
    | _, _ => none
  | .alloc t => match zeroOf P t with
    | some z => some (.alloc z.cells)
    | none => none
  | .box _ x => match cOpd x with | some a => some (.box a) | none => none
  | .build t parts => match zeroOf P t with
    | some z => match P.underlying t with
      | some (.struct fs) => match fieldPlaces P fs.toList with
        | some ps => match cParts (ps[·]?) parts.toList with
          | some r => some (.build z.cells r)
          | none => none
        | none => none
      | some (.array _ e) => match sizeOf? P e with
        | some n => match cParts (fun i => some (i * n, n)) parts.toList with
          | some r => some (.build z.cells r)
          | none => none
        | none => none
      | _ => none
    | none => none
  | .buildSlice t len parts => match P.underlying t with
    | some (.slice e) => match P.info? e with
      | some i => if len * i.size ≤ 16777216 then
          if len * i.size = 0 then match cParts (fun j => some (j * i.size, i.size)) parts.toList with
            | some r => some (.buildSlice len [] r)
            | none => none
          else match zeroOf P e with
            | some z => if z.cells.length = i.size then match cParts (fun j => some (j * i.size, i.size)) parts.toList with
                | some r => some (.buildSlice len ((List.replicate len z.cells).flatten) r)
                | none => none
              else none
            | none => none
        else none
      | none => none
    | _ => none
  | .makeSlice t l c => match cOpd l, cOpd c with
    | some a, some b => match P.underlying t with
      | some (.slice e) => match P.info? e, zeroOf P e with
        | some i, some z => if z.cells.length = i.size ∧ 0 < i.size then some (.mkSlice i.size i.bytes z.cells a b) else none
        | _, _ => none
      | _ => none
    | _, _ => none
  | .slice t x lo hi mx => match cOpd x, cOpt lo, cOpt hi, cOpt mx with
    | some a, some lo, some hi, some mx => match P.underlying t with
      | some .string => match mx with
        | none => some (.sliceStr a lo hi)
        | some _ => none
      | some (.slice e) => match sizeOf? P e with
        | some n => some (.slice n a lo hi mx)
        | none => none
      | some (.array k e) => match sizeOf? P e with
        | some n => some (.sliceArr k n a lo hi mx)
        | none => none
      | _ => none
    | _, _, _, _ => none
  | .makeMap _ none => some .mkMap
  | .lookup t x k ok => match cOpd x, cOpd k with
    | some a, some b => match P.underlying t with
      | some (.map kt e) => match keyTy P kt, zeroOf P e with
        | some ty, some z => some (.lookup ty z ok a b)
        | _, _ => none
      | _ => none
    | _, _ => none
  | .mapUpdate t m k v => match cOpd m, cOpd k, cOpd v with
    | some a, some b, some c => match P.underlying t with
      | some (.map kt _) => match keyTy P kt with
        | some ty => some (.mapUpdate ty a b c)
        | none => none
      | _ => none
    | _, _, _ => none
  | .insert t m k v => match cOpd m, cOpd k, cOpd v with
    | some a, some b, some c => match P.underlying t with
      | some (.map kt _) => match keyTy P kt with
        | some ty => some (.mapUpdate ty a b c)
        | none => none
      | _ => none
    | _, _, _ => none
  | .mapEntry t m k => match cOpd m, cOpd k with
    | some a, some b => match P.underlying t with
      | some (.map kt e) => match keyTy P kt, zeroOf P e with
        | some ty, some z => some (.mapEntry ty z a b)
        | _, _ => none
      | _ => none
    | _, _ => none
  | .entryStore _ m s v => match cOpd m, cOpd s, cOpd v with
    | some a, some b, some c => some (.entryStore a b c)
    | _, _, _ => none
  | .makeInterface t x => match cOpd x with
    | some a => match P.underlying t with
      | some (.interface _) => none
      | some _ => some (.mkIface t a)
      | none => none
    | none => none
  | .typeAssert x _ t ok => match cOpd x with
    | some a => match P.underlying t, zeroOf P t with
      | some (.interface _), _ => none
      | some _, some z => some (.typeAssert t z ok a)
      | _, _ => none
    | none => none
  | .makeFunc fn first cap => match cOpds first.toList, cOpds cap.toList with
    | some f, some c => some (.mkFunc fn f c)
    | _, _ => none
  | .extract x i => match cOpd x with | some a => some (.extract i a) | none => none
  | .call c => match c.callee with
    | .value f => match cOpd f, cOpds c.args.toList with
      | some a, some as => some (.call a as)
      | _, _ => none
    | .builtin b => cBuiltin P b c.argTypes.toList c.args.toList
    | .invoke _ _ => none
  | .range t x => match cOpd x with
    | some a => match P.underlying t with
      | some (.map _ _) => some (.rangeMap a)
      | _ => none
    | none => none
  | .next x false => match cOpd x with
    | some a => some (.nextMap a)
    | none => none
  | _ => none

structure AOper where
  dst : Option Nat
  guard : Option (Nat × Bool)
  op : AOp
/-- an operation of a region whose order is drawn: what comes ahead of it in each order; the temporaries that it must not look at. -/
structure DOper where
  op : AOper
  eff : Bool
  anc : List Nat
  hide : List Nat
inductive ARes where
  | tmp (t : Nat)
  | cell (a sz : Nat) (agg : Bool)
inductive ACode where
  | skip
  | region (ops : List AOper)
  | drawn (ops : List DOper)
  | seq (a b : ACode)
  | cond (c : Opd) (thn els : ACode)
  | block (id : Nat) (body : ACode)
  | loop (body : ACode)
  | exit (id : Nat)
  | scope (body : ACode)
  | ret
structure AFun where
  ntmps : Nat
  results : List ARes
  body : ACode

/-- what is not known gets stuck. -/
def cOpS (P : Program) (o : Op) : Option AOp :=
  match cOp P o with
  | some a => some a
  | none => some .stuck
def cGuard (ops : Array Oper) : Option (Nat × Bool) → Option (Option (Nat × Bool))
  | none => some none
  | some (j, b) => match ops[j]? with
    | some o => match o.dst with
      | some d => some (some (d, b))
      | none => none
    | none => none
def dstOk (N : Nat) : Option Nat → Bool
  | none => true
  | some d => Nat.blt d N
def cOper (P : Program) (N : Nat) (ops : Array Oper) (o : Oper) : Option AOper :=
  match cGuard ops o.guard, cOpS P o.op, dstOk N o.dst with
  | some g, some a, true => some ⟨o.dst, g, a⟩
  | _, _, _ => none
def cOpers (P : Program) (N : Nat) (ops : Array Oper) : List Oper → Option (List AOper)
  | [] => some []
  | o :: l => match cOper P N ops o with
    | some a => match cOpers P N ops l with
      | some r => some (a :: r)
      | none => none
    | none => none
/-- operations that leave the memory as it is. -/
def AOp.quiet : AOp → Bool
  | .mov _ | .pick .. | .bin .. | .eqv .. | .eqAgg .. | .un .. | .conv .. | .convStr _ | .strOf _ | .nilCheck _ | .fieldAddr .. | .indexAddr .. | .indexArr .. | .indexStr .. | .indexAgg .. | .field .. | .load ..
  | .build .. | .slice .. | .sliceStr .. | .sliceArr .. | .lookup .. | .mkIface .. | .typeAssert .. | .mkFunc .. | .extract .. | .lenStr _ | .lenSl _ | .lenMap _ | .lenArr _ | .cap _ | .mn _ | .mx _ => true
  | _ => false
def memN (x : Nat) : List Nat → Bool
  | [] => false
  | y :: l => match Nat.beq x y with
    | true => true
    | false => memN x l
def addN (l : List Nat) : List Nat → List Nat
  | [] => l
  | x :: r => match memN x l with
    | true => addN l r
    | false => addN (x :: l) r
/-- all that comes ahead, of what comes next ahead. -/
def ancOf (done : List (List Nat)) : List Nat → List Nat
  | [] => []
  | a :: r => addN (addN (ancOf done r) [a]) (done.getD a [])
def ancAll : List (List Nat) → List (List Nat) → List (List Nat)
  | [], done => done
  | af :: r, done => ancAll r (done ++ [ancOf done af])
def hideOf (l : List AOper) (ancs : List (List Nat)) (i : Nat) (anc : List Nat) : List Nat :=
  (List.range l.length).filterMap fun k => match l[k]? with
    | some o => match o.dst with
      | some d => match Nat.beq k i || memN k anc || memN i (ancs.getD k []) with
        | true => none
        | false => some d
      | none => none
    | none => none
def dPair (i : Nat) (x : DOper) (j : Nat) (y : DOper) : Bool :=
  (match memN i y.anc with
   | true => true
   | false => !(x.eff && y.eff) && (match y.op.dst with | some d => memN d x.hide | none => true) && (match x.op.dst with | some d => memN d y.hide | none => true)) &&
  (match x.op.dst, y.op.dst with
   | some d, some d' => !Nat.beq d d'
   | _, _ => true)
def dOne (l : List DOper) (j : Nat) (y : DOper) (af : List Nat) : Bool :=
  af.all (fun a => Nat.blt a j) && y.anc.all (fun x => Nat.blt x j && (memN x af || af.any fun k => match l[k]? with | some z => memN x z.anc | none => false)) && (y.eff || y.op.op.quiet)
def dOK (l : List DOper) (afters : List (List Nat)) : Bool :=
  (List.range l.length).all fun j => match l[j]?, afters[j]? with
    | some y, some af => dOne l j y af && (List.range j).all fun i => match l[i]? with
      | some x => dPair i x j y
      | none => false
    | _, _ => false
def aftersOf (ops : Array Oper) : List (List Nat) := ops.toList.map fun o => (o.after.toList.filter (Region.binds .any)).map (·.on)
def cDrawn (P : Program) (N : Nat) (ops : Array Oper) : Option (List DOper) :=
  match cOpers P N ops ops.toList with
  | some l =>
    let ancs := ancAll (aftersOf ops) []
    let d := (l.zip ancs).zipIdx.map fun ((o, anc), i) => (⟨o, !o.op.quiet, anc, hideOf l ancs i anc⟩ : DOper)
    match Nat.beq d.length ops.size && dOK d (aftersOf ops) with
    | true => some d
    | false => none
  | none => none
def cCode (P : Program) (N : Nat) : Code → Option ACode
  | .skip => some .skip
  | .region _ ops false => match cOpers P N ops ops.toList with
    | some l => some (.region l)
    | none => none
  | .region _ ops true => match cDrawn P N ops with
    | some l => some (.drawn l)
    | none => none
  | .seq a b => match cCode P N a, cCode P N b with
    | some x, some y => some (.seq x y)
    | _, _ => none
  | .cond c a b => match cOpd c, cCode P N a, cCode P N b with
    | some c, some x, some y => some (.cond c x y)
    | _, _, _ => none
  | .block id b => match cCode P N b with
    | some x => some (.block id x)
    | none => none
  | .loop b => match cCode P N b with
    | some x => some (.loop x)
    | none => none
  | .exit id => some (.exit id)
  | .scope b => match cCode P N b with
    | some x => some (.scope x)
    | none => none
  | .ret => some .ret
  | _ => none
def cRes (P : Program) : List ResultVar → Option (List ARes)
  | [] => some []
  | .tmp t :: l => match cRes P l with
    | some r => some (.tmp t :: r)
    | none => none
  | .cell a t :: l => match sizeOf? P t, aggOf P t, cRes P l with
    | some n, some g, some r => some (.cell a n g :: r)
    | _, _, _ => none
def cFun (P : Program) (f : Func) : Option AFun :=
  match f.body with
  | some c => match cCode P f.ntmps c, cRes P f.results.toList with
    | some x, some r => if f.name = "runtime.NumGoroutine" then none else some ⟨f.ntmps, r, x⟩
    | _, _ => none
  | none => none

inductive AExit where
  | normal
  | exit (id : Nat)
  | ret
def putO (fr : Fr) : Option Nat → V → Fr
  | some d, v => fr.put d v
  | none, _ => fr
def wanted (fr : Fr) : Option (Nat × Bool) → Option Bool
  | none => some true
  | some (d, b) => match fr.get d with
    | some (.bool x) => some (x == b)
    | some .undef => some false
    | _ => none
def initFr : List V → Nat → Fr
  | [], _ => .e
  | v :: l, i => (initFr l (i + 1)).put i v
def resV (fr : Fr) (aw : AW) : List ARes → Option (List V)
  | [] => some []
  | .tmp t :: l => match fr.get t with
    | some v => match resV fr aw l with
      | some r => some (v :: r)
      | none => none
    | none => none
  | .cell a sz agg :: l => match fr.get a with
    | some (.ptr b off) => match (match agg with
        | true => match aw.load b off sz with | some l => some (V.agg l) | none => none
        | false => match aw.load b off 1 with | some [v] => some v | _ => none) with
      | some v => match resV fr aw l with
        | some r => some (v :: r)
        | none => none
      | none => none
    | _ => none
def resOne : List V → V
  | [v] => v
  | l => .tuple l

/-- functions by their numbers: their code; or what they do, told otherwise. -/
structure Tab where
  code : Nat → Option AFun
  prim : Nat → List V → AW → V → AW → Prop
  ext : Nat → List V → AW → V → Prop

/-- how an operation of a drawn region went. -/
structure Stp where
  fe : Fr
  v : V
  aw0 : AW
  aw1 : AW
def T.del {α : Type} : T α → Nat → T α
  | .e, _ => .e
  | .n l v r, k => match k with
    | 0 => .n l none r
    | k + 1 => match k % 2 with
      | 0 => .n (del l (k / 2)) v r
      | _ => .n l v (del r (k / 2))
def hideL (fr : Fr) : List Nat → Fr
  | [] => fr
  | d :: l => hideL (T.del fr d) l
mutual
def V.beq : V → V → Bool
  | .undef, .undef => true
  | .bool a, .bool b => match a, b with
    | true, true => true
    | false, false => true
    | _, _ => false
  | .int k n, .int k' n' => decide (k = k') && decide (n = n')
  | .str l, .str l' => eqL l l'
  | .ptr b o, .ptr b' o' => Nat.beq b b' && Nat.beq o o'
  | .nilptr, .nilptr => true
  | .slice b o l c, .slice b' o' l' c' => Nat.beq b b' && Nat.beq o o' && Nat.beq l l' && decide (c = c')
  | .nilslice, .nilslice => true
  | .map b, .map b' => Nat.beq b b'
  | .nilmap, .nilmap => true
  | .nilfunc, .nilfunc => true
  | .iface t v, .iface t' v' => Nat.beq t t' && V.beq v v'
  | .niliface, .niliface => true
  | .agg l, .agg l' => VL.beq l l'
  | .tuple l, .tuple l' => VL.beq l l'
  | _, _ => false
def VL.beq : List V → List V → Bool
  | [], [] => true
  | x :: l, y :: l' => V.beq x y && VL.beq l l'
  | _, _ => false
end
def againOK (d : DOper) (s : Stp) (aw : AW) : Bool :=
  match wanted s.fe d.op.guard with
  | some false => true
  | some true => match aop d.op.op s.fe aw with
    | some (.val v, _) => V.beq v s.v
    | _ => false
  | none => false
def drawnOK (l : List DOper) (st : List Stp) : Bool :=
  (List.range l.length).all fun i => match l[i]?, st[i]? with
    | some d, some s => d.eff || (List.range l.length).all fun e => match l[e]?, st[e]? with
      | some de, some se => !de.eff || memN i de.anc || memN e d.anc || (againOK d s se.aw0 && againOK d s se.aw1)
      | _, _ => false
    | _, _ => false

mutual
inductive Exec (tab : Tab) : ACode → Fr → AW → AExit → Fr → AW → Prop
  | skip {fr aw} : Exec tab .skip fr aw .normal fr aw
  | region {l fr aw fr' aw'} : Ops tab l fr aw fr' aw' → Exec tab (.region l) fr aw .normal fr' aw'
  | drawn {l fr aw st fr' aw'} : Pass tab l fr aw st fr' aw' → drawnOK l st = true → Exec tab (.drawn l) fr aw .normal fr' aw'
  | seq {a b fr aw fr1 aw1 e fr2 aw2} : Exec tab a fr aw .normal fr1 aw1 → Exec tab b fr1 aw1 e fr2 aw2 → Exec tab (.seq a b) fr aw e fr2 aw2
  | seqE {a b fr aw id fr1 aw1} : Exec tab a fr aw (.exit id) fr1 aw1 → Exec tab (.seq a b) fr aw (.exit id) fr1 aw1
  | seqR {a b fr aw fr1 aw1} : Exec tab a fr aw .ret fr1 aw1 → Exec tab (.seq a b) fr aw .ret fr1 aw1
  | condT {c a b fr aw e fr1 aw1} : c.ev fr = some (.bool true) → Exec tab a fr aw e fr1 aw1 → Exec tab (.cond c a b) fr aw e fr1 aw1
  | condF {c a b fr aw e fr1 aw1} : c.ev fr = some (.bool false) → Exec tab b fr aw e fr1 aw1 → Exec tab (.cond c a b) fr aw e fr1 aw1
  | block {id b fr aw fr1 aw1} : Exec tab b fr aw .normal fr1 aw1 → Exec tab (.block id b) fr aw .normal fr1 aw1
  | blockX {id b fr aw fr1 aw1} : Exec tab b fr aw (.exit id) fr1 aw1 → Exec tab (.block id b) fr aw .normal fr1 aw1
  | blockE {id id' b fr aw fr1 aw1} : Exec tab b fr aw (.exit id') fr1 aw1 → id' ≠ id → Exec tab (.block id b) fr aw (.exit id') fr1 aw1
  | blockR {id b fr aw fr1 aw1} : Exec tab b fr aw .ret fr1 aw1 → Exec tab (.block id b) fr aw .ret fr1 aw1
  | loop {b fr aw fr1 aw1 e fr2 aw2} : Exec tab b fr aw .normal fr1 aw1 → Exec tab (.loop b) fr1 aw1 e fr2 aw2 → Exec tab (.loop b) fr aw e fr2 aw2
  | loopE {b fr aw id fr1 aw1} : Exec tab b fr aw (.exit id) fr1 aw1 → Exec tab (.loop b) fr aw (.exit id) fr1 aw1
  | loopR {b fr aw fr1 aw1} : Exec tab b fr aw .ret fr1 aw1 → Exec tab (.loop b) fr aw .ret fr1 aw1
  | exit {id fr aw} : Exec tab (.exit id) fr aw (.exit id) fr aw
  | scope {b fr aw e fr1 aw1} : Exec tab b fr aw e fr1 aw1 → Exec tab (.scope b) fr aw e fr1 aw1
  | ret {fr aw} : Exec tab .ret fr aw .ret fr aw
inductive Ops (tab : Tab) : List AOper → Fr → AW → Fr → AW → Prop
  | nil {fr aw} : Ops tab [] fr aw fr aw
  | cons {o l fr aw v aw1 fr' aw'} : One tab o fr aw v aw1 → Ops tab l (putO fr o.dst v) aw1 fr' aw' → Ops tab (o :: l) fr aw fr' aw'
inductive Pass (tab : Tab) : List DOper → Fr → AW → List Stp → Fr → AW → Prop
  | nil {fr aw} : Pass tab [] fr aw [] fr aw
  | cons {d l fr aw v aw1 st fr' aw'} : One tab d.op (hideL fr d.hide) aw v aw1 → Pass tab l (putO fr d.op.dst v) aw1 st fr' aw' → Pass tab (d :: l) fr aw (⟨hideL fr d.hide, v, aw, aw1⟩ :: st) fr' aw'
inductive One (tab : Tab) : AOper → Fr → AW → V → AW → Prop
  | pass {o fr aw} : wanted fr o.guard = some false → One tab o fr aw .undef aw
  | val {o fr aw v aw1} : wanted fr o.guard = some true → aop o.op fr aw = some (.val v, aw1) → One tab o fr aw v aw1
  | skip {o fr aw aw1} : wanted fr o.guard = some true → aop o.op fr aw = some (.skip, aw1) → One tab o fr aw .undef aw1
  | call {o fr aw f args aw0 v aw1} : wanted fr o.guard = some true → aop o.op fr aw = some (.call f args, aw0) → CallR tab f args aw0 v aw1 → One tab o fr aw v aw1
  | ext {o fr aw f args aw0 v} : wanted fr o.guard = some true → aop o.op fr aw = some (.call f args, aw0) → tab.ext f args aw0 v → One tab o fr aw v aw0
inductive CallR (tab : Tab) : Nat → List V → AW → V → AW → Prop
  | code {f args aw af e fr' aw' vs} : tab.code f = some af → args.length ≤ af.ntmps → Exec tab af.body (initFr args 0) aw e fr' aw' → (e = .normal ∨ e = .ret) → resV fr' aw' af.results = some vs → CallR tab f args aw (resOne vs) aw'
  | prim {f args aw v aw'} : tab.prim f args aw v aw' → CallR tab f args aw v aw'
end
end Go.AE
