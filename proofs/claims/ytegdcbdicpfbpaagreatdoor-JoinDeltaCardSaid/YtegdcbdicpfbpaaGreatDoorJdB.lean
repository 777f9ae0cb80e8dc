/- A part of the proof. -/
import Derived.Test.YtegdcbdicpfbpaaGreatDoorJdA
import Derived.Laws.StructEq
import Derived.Lib.Strings
open Int renaming ofNat → Fq
set_option linter.unusedVariables false
set_option linter.unusedSectionVars false
namespace Go.AE
variable [Globs]
def cV1:Value→Option V
 | .bool b=>some (.bool b)
 | .int k n=>some (.int k n)
 | .string s=>some (.str (LH s))
 | .pointer none=>some .nilptr
 | .slice none 0 0=>some .nilslice
 | .map none=>some .nilmap
 | .nilFunc=>some .nilfunc
 | .nilIface=>some .niliface
 | _=>none
def cVs:List Value→Option (List V)
 | []=>some []
 | v::l=>match cV1 v with
  | some x=>match cVs l with
   | some xs=>some (x::xs)
   | none=>none
  | none=>none
def cV:Value→Option V
 | .agg cs=>match cVs cs.toList with
  | some l=>some (.agg l)
  | none=>none
 | .tuple cs=>match cVs cs.toList with
  | some l=>some (.tuple l)
  | none=>none
 | v=>cV1 v
def La:Operand→Option Opd
 | .tmp t=>some (.tmp t)
 | .const v=>match cV v with
  | some x=>some (.const x)
  | none=>none
 | .global g=>match NM g Globs.gl 0 with
  | some i=>some (.const (.ptr i 0))
  | none=>none
 | .func f=>some (.const (.func (.func f) [] []))
def Ic:List Operand→Option (List Opd)
 | []=>some []
 | o::l=>match La o with
  | some x=>match Ic l with
   | some xs=>some (x::xs)
   | none=>none
  | none=>none
def TI:Option Operand→Option (Option Opd)
 | none=>some none
 | some o=>match La o with
  | some x=>some (some x)
  | none=>none
def Sl (P:Program) (t:TypeId):Option Bool :=
 match P.underlying t with
 | some (.struct _)=>some true
 | some (.array _ _)=>some true
 | some _=>some false
 | none=>none
def BG (P:Program) (t:TypeId):Option V :=
 match P.info? t with
 | some i=>match i.zero with
  | some z=>cV z
  | none=>none
 | none=>none
def sizeOf? (P:Program) (t:TypeId):Option Nat :=
 match P.info? t with
 | some i=>some i.size
 | none=>none
def Cr (P:Program) (t:TypeId):Option Sc :=
 match P.underlying t with
 | some (.int _)=>some .int
 | some .string=>some .str
 | some .bool=>some .bool
 | _=>none
def IA (P:Program):List Field→Nat→Option (List Sc)
 | [],_=>some []
 | f::fs,n=>match f.name != "_",Nat.beq f.offset n,Cr P f.type,IA P fs (n+1)with
  | true,true,some s,some r=>some (s::r)
  | _,_,_,_=>none
def Ih (P:Program) (t:TypeId):Option KeyTy :=
 match P.underlying t with
 | some (.int _)=>some (.scalar .int)
 | some .string=>some (.scalar .str)
 | some .bool=>some (.scalar .bool)
 | some (.struct fs)=>match P.stoodInHeld t,IA P fs.toList 0 with
  | false,some l=>some (.cells l)
  | _,_=>none
 | _=>none
def IX (place:Nat→Option (Nat×Nat)):List (Nat×Operand)→Option (List (Nat×Nat×Opd))
 | []=>some []
 | (i,o)::l=>match place i,La o with
  | some (off,sz),some x=>match IX place l with
   | some r=>some ((off,sz,x)::r)
   | none=>none
  | _,_=>none
def AU (P:Program):List Field→Option (List (Nat×Nat))
 | []=>some []
 | f::fs=>match sizeOf? P f.type,AU P fs with
  | some s,some r=>some ((f.offset,s)::r)
  | _,_=>none
def Ce:Operand→Bool
 | .const .nilIface=>true
 | _=>false
def EL (P:Program) (op:BinOp) (t:TypeId) (x y:Operand):Option AOp :=
 match La x,La y with
 | some a,some b =>
  match P.underlying t with
  | some (.int _)=>some (.bin op a b)
  | some .string=>some (.bin op a b)
  | some d =>
   match (match op with | .eql=>some false | .neq=>some true|_=>none:Option Bool)with
   | none=>none
   | some neg =>
    match d with
    | .bool=>some (.eqv neg .bool a b)
    | .pointer e=>match sizeOf? P e with
     | some (_+1)=>some (.eqv neg .ptr a b)
     | _=>none
    | .slice _=>some (.eqv neg .slice a b)
    | .map _ _=>some (.eqv neg .map a b)
    | .func _ _ _=>some (.eqv neg .func a b)
    | .interface _=>if Ce x||Ce y then some (.eqv neg .iface a b)else none
    | .struct fs=>match P.stoodInHeld t,P.eqGuardType P.depth t,IA P fs.toList 0 with
     | false,false,some l=>some (.eqAgg neg l a b)
     | _,_,_=>none
    | _=>none
  | none=>none
 | _,_=>none
def Ef (P:Program) (b:Builtin) (ts:List TypeId) (args:List Operand):Option AOp :=
 match b,ts,args with
 | .len,[t],[x]=>match La x with
  | some a=>match P.underlying t with
   | some .string=>some (.lenStr a)
   | some (.slice _)=>some (.lenSl a)
   | some (.map _ _)=>some (.lenMap a)
   | some (.array n _)=>some (.lenArr n)
   | _=>none
  | none=>none
 | .cap,[t],[x]=>match La x with
  | some a=>match P.underlying t with
   | some (.slice _)=>some (.cap a)
   | _=>none
  | none=>none
 | .append,[t,u],[s,x]=>match La s,La x with
  | some a,some b=>match P.underlying t,P.underlying u with
   | some (.slice e),some d=>match d with
    | .int _=>none
    | _=>match P.info? e with
     | some i=>match i.zero with
      | some z=>if z.cells.size=i.size then some (.append i.size i.bytes a b)else none
      | none=>none
     | none=>none
   | _,_=>none
  | _,_=>none
 | .copy,t::_,[d,s]=>match La d,La s with
  | some a,some b=>match P.underlying t with
   | some (.slice e)=>match sizeOf? P e with
    | some n=>some (.copy n a b)
    | none=>none
   | _=>none
  | _,_=>none
 | .clear,t::_,[x]=>match La x with
  | some a=>match P.underlying t with
   | some (.slice e)=>match BG P e with
    | some z=>some (.clear z.cells a)
    | none=>none
   | some (.map _ _)=>some (.clearMap a)
   | _=>none
  | none=>none
 | .min,_,xs=>match Ic xs with
  | some ar=>some (.mn ar)
  | none=>none
 | .max,_,xs=>match Ic xs with
  | some ar=>some (.mx ar)
  | none=>none
 | .delete,t::_,[m,k]=>match La m,La k with
  | some a,some b=>match P.underlying t with
   | some (.map kt _)=>match Ih P kt with
    | some ty=>some (.delete ty a b)
    | none=>none
   | _=>none
  | _,_=>none
 | _,_,_=>none
def AC (P:Program) (t:Nat) (name:String):Option (Nat×Option (Nat×Bool)) :=
 match P.info? t with
 | some i=>match i.methods.find? (fun m=>m.name==name)with
  | some m=>match m.path.toList,m.func with
   | [],some (f,pr)=>match P.underlying t with
    | some (.pointer e)=>match pr with
     | true=>some (f,none)
     | false=>match sizeOf? P e,Sl P e with
      | some n,some g=>some (f,some (n,g))
      | _,_=>none
    | some _=>match pr with
     | true=>none
     | false=>some (f,none)
    | none=>none
   | _,_=>none
  | none=>none
 | none=>none
def Jpn (P:Program) (name:String):List (Nat×Nat×Option (Nat×Bool)) :=
 (List.range P.types.size).filterMap fun t=>match AC P t name with
  | some r=>some (t,r)
  | none=>none
def cOp (P:Program) (o:Op):Option AOp :=
 match o with
 | .move x=>match La x with|some a=>some (.mov a)|none=>none
 | .assign x=>match La x with|some a=>some (.mov a)|none=>none
 | .pick c x y=>match La c,La x,La y with
  | some c,some a,some b=>some (.pick c a b)
  | _,_,_=>none
 | .binOp op t x y _=>EL P op t x y
 | .unOp op _ x=>match La x with|some a=>some (.un op a)|none=>none
 | .convert src dst x=>match La x with
  | some a=>match P.underlying src,P.underlying dst with
   | some (.int _),some (.int k)=>some (.conv k a)
   | some .string,some .string=>some (.convStr a)
   | some .string,some (.slice e)=>match P.underlying e with
    | some (.int .u8)=>some (.bytesOf a)
    | _=>none
   | some (.slice e),some .string=>match P.underlying e with
    | some (.int .u8)=>some (.strOf a)
    | _=>none
   | _,_=>none
  | none=>none
 | .nilCheck x=>match La x with|some a=>some (.nilCheck a)|none=>none
 | .fieldAddr s x f=>match La x with
  | some a=>match P.underlying s with
   | some (.struct fs)=>match fs[f]? with
    | some fd=>match sizeOf? P fd.type with
     | some (_+1)=>some (.fieldAddr fd.offset a)
     | _=>none
    | none=>none
   | _=>none
  | none=>none
 | .indexAddr t x i=>match La x,La i with
  | some a,some b=>match P.underlying t with
   | some (.slice e)=>match sizeOf? P e with
    | some n=>some (.indexAddr n a b)
    | none=>none
   | some (.array k e)=>match sizeOf? P e with
    | some n=>some (.indexArr k n a b)
    | none=>none
   | _=>none
  | _,_=>none
 | .index t x i=>match La x,La i with
  | some a,some b=>match P.underlying t with
   | some .string=>some (.indexStr a b)
   | some (.array k e)=>match sizeOf? P e,Sl P e with
    | some n,some g=>some (.indexAgg k n g a b)
    | _,_=>none
   | _=>none
  | _,_=>none
 | .field t x f=>match La x with
  | some a=>match P.underlying t with
   | some (.struct fs)=>match fs[f]? with
    | some fd=>match sizeOf? P fd.type,Sl P fd.type with
     | some n,some g=>some (.field fd.offset n g a)
     | _,_=>none
    | none=>none
   | _=>none
  | none=>none
 | .load t x=>match La x with
  | some a=>match sizeOf? P t,Sl P t with
   | some n,some g=>some (.load n g a)
   | _,_=>none
  | none=>none
 | .store t x v=>match La x,La v with
  | some a,some b=>match sizeOf? P t with
   | some n=>some (.store n a b)
   | none=>none
  | _,_=>none
 | .alloc t=>match BG P t with
  | some z=>some (.alloc z.cells)
  | none=>none
 | .box _ x=>match La x with|some a=>some (.box a)|none=>none
 | .build t parts=>match BG P t with
  | some z=>match P.underlying t with
   | some (.struct fs)=>match AU P fs.toList with
    | some ps=>match IX (ps[·]?) parts.toList with
     | some r=>some (.build z.cells r)
     | none=>none
    | none=>none
   | some (.array _ e)=>match sizeOf? P e with
    | some n=>match IX (fun i=>some (i*n,n)) parts.toList with
     | some r=>some (.build z.cells r)
     | none=>none
    | none=>none
   | _=>none
  | none=>none
 | .buildSlice t len parts=>match P.underlying t with
  | some (.slice e)=>match P.info? e with
   | some i=>if len*i.size≤16777216 then
     if len*i.size=0 then match IX (fun j=>some (j*i.size,i.size)) parts.toList with
      | some r=>some (.buildSlice len [] r)
      | none=>none
     else match BG P e with
      | some z=>if z.cells.length=i.size then match IX (fun j=>some (j*i.size,i.size)) parts.toList with
        | some r=>some (.buildSlice len ((List.replicate len z.cells).flatten) r)
        | none=>none
       else none
      | none=>none
    else none
   | none=>none
  | _=>none
 | .makeSlice t l c=>match La l,La c with
  | some a,some b=>match P.underlying t with
   | some (.slice e)=>match P.info? e,BG P e with
    | some i,some z=>if z.cells.length=i.size∧0<i.size then some (.mkSlice i.size i.bytes z.cells a b)else none
    | _,_=>none
   | _=>none
  | _,_=>none
 | .slice t x lo hi mx=>match La x,TI lo,TI hi,TI mx with
  | some a,some lo,some hi,some mx=>match P.underlying t with
   | some .string=>match mx with
    | none=>some (.sliceStr a lo hi)
    | some _=>none
   | some (.slice e)=>match sizeOf? P e with
    | some n=>some (.slice n a lo hi mx)
    | none=>none
   | some (.array k e)=>match sizeOf? P e with
    | some n=>some (.sliceArr k n a lo hi mx)
    | none=>none
   | _=>none
  | _,_,_,_=>none
 | .makeMap _ none=>some .mkMap
 | .lookup t x k ok=>match La x,La k with
  | some a,some b=>match P.underlying t with
   | some (.map kt e)=>match Ih P kt,BG P e with
    | some ty,some z=>some (.lookup ty z ok a b)
    | _,_=>none
   | _=>none
  | _,_=>none
 | .mapUpdate t m k v=>match La m,La k,La v with
  | some a,some b,some c=>match P.underlying t with
   | some (.map kt _)=>match Ih P kt with
    | some ty=>some (.mapUpdate ty a b c)
    | none=>none
   | _=>none
  | _,_,_=>none
 | .insert t m k v=>match La m,La k,La v with
  | some a,some b,some c=>match P.underlying t with
   | some (.map kt _)=>match Ih P kt with
    | some ty=>some (.mapUpdate ty a b c)
    | none=>none
   | _=>none
  | _,_,_=>none
 | .mapEntry t m k=>match La m,La k with
  | some a,some b=>match P.underlying t with
   | some (.map kt e)=>match Ih P kt,BG P e with
    | some ty,some z=>some (.mapEntry ty z a b)
    | _,_=>none
   | _=>none
  | _,_=>none
 | .entryStore _ m s v=>match La m,La s,La v with
  | some a,some b,some c=>some (.entryStore a b c)
  | _,_,_=>none
 | .makeInterface t x=>match La x with
  | some a=>match P.underlying t with
   | some (.interface _)=>none
   | some _=>some (.mkIface t a)
   | none=>none
  | none=>none
 | .typeAssert x _ t ok=>match La x with
  | some a=>match P.underlying t,BG P t with
   | some (.interface _),_=>none
   | some _,some z=>some (.typeAssert t z ok a)
   | _,_=>none
  | none=>none
 | .makeFunc fn first cap=>match Ic first.toList,Ic cap.toList with
  | some f,some c=>some (.mkFunc fn f c)
  | _,_=>none
 | .extract x i=>match La x with|some a=>some (.extract i a)|none=>none
 | .call c=>match c.callee with
  | .value f=>match La f,Ic c.args.toList with
   | some a,some ar=>some (.call a ar)
   | _,_=>none
  | .builtin b=>Ef P b c.argTypes.toList c.args.toList
  | .invoke x name=>match La x,Ic c.args.toList with
   | some a,some ar=>some (.inv (Jpn P name) a ar)
   | _,_=>none
 | .range t x=>match La x with
  | some a=>match P.underlying t with
   | some (.map _ _)=>some (.rangeMap a)
   | _=>none
  | none=>none
 | .next x false=>match La x with
  | some a=>some (.nextMap a)
  | none=>none
 | .entry x=>match La x with
  | some a=>some (.entry a)
  | none=>none
 | _=>none
structure AOper where
 dst:Option Nat
 guard:Option (Nat×Bool)
 op:AOp
structure DOper where
 op:AOper
 eff:Bool
 anc:List Nat
 hide:List Nat
inductive ARes where
 | tmp (t:Nat)
 | cell (a sz:Nat) (agg:Bool)
inductive ACode where
 | skip
 | region (ops:List AOper)
 | drawn (ops:List DOper)
 | seq (a b:ACode)
 | cond (c:Opd) (thn els:ACode)
 | block (id:Nat) (body:ACode)
 | loop (body:ACode)
 | exit (id:Nat)
 | scope (body:ACode)
 | ret
structure AFun where
 ntmps:Nat
 results:List ARes
 body:ACode
def Ab (P:Program) (o:Op):Option AOp :=
 match cOp P o with
 | some a=>some a
 | none=>some .stuck
def Nq (ops:Array Oper):Option (Nat×Bool)→Option (Option (Nat×Bool))
 | none=>some none
 | some (j,b)=>match ops[j]? with
  | some o=>match o.dst with
   | some d=>some (some (d,b))
   | none=>none
  | none=>none
def Jp6 (N:Nat):Option Nat→Bool
 | none=>true
 | some d=>Nat.blt d N
def Ie (P:Program) (N:Nat) (ops:Array Oper) (o:Oper):Option AOper :=
 match Nq ops o.guard,Ab P o.op,Jp6 N o.dst with
 | some g,some a,true=>some ⟨o.dst,g,a⟩
 | _,_,_=>none
def CG (P:Program) (N:Nat) (ops:Array Oper):List Oper→Option (List AOper)
 | []=>some []
 | o::l=>match Ie P N ops o with
  | some a=>match CG P N ops l with
   | some r=>some (a::r)
   | none=>none
  | none=>none
def AOp.quiet:AOp→Bool
 | .mov _ | .pick .. | .bin .. | .eqv .. | .eqAgg .. | .un .. | .conv .. | .convStr _ | .strOf _ | .nilCheck _ | .fieldAddr .. | .indexAddr .. | .indexArr .. | .indexStr .. | .indexAgg .. | .field .. | .load ..
 | .build .. | .slice .. | .sliceStr .. | .sliceArr .. | .lookup .. | .mkIface .. | .typeAssert .. | .mkFunc .. | .extract .. | .lenStr _ | .lenSl _ | .lenMap _ | .lenArr _ | .cap _ | .mn _ | .mx _ | .entry _=>true
 | _=>false
def AOp.loose:AOp→Bool
 | .alloc _ | .box _ | .buildSlice .. | .mkSlice .. | .mkMap=>true
 | _=>false
def tb (m i:Nat):Bool:=Nat.beq (Nat.land (Nat.shiftRight m i) 1) 1
def D6:List Nat→Nat→Nat
 | [],_=>0
 | x::l,k=>match k with
  | 0=>x
  | k+1=>D6 l k
def DN (ms:List Nat):List Nat→Nat
 | []=>0
 | a::r=>Nat.lor (Nat.lor (Nat.shiftLeft 1 a) (D6 ms a)) (DN ms r)
def Tz:List Nat→Nat
 | []=>0
 | a::r=>Nat.lor (Nat.shiftLeft 1 a) (Tz r)
def Jpm:Fx→List Nat→List Nat
 | [],done=>done
 | af::r,done=>Jpm r (done++[DN done af])
def JpR (m:Nat):Nat→List Nat
 | 0=>[]
 | n+1=>match tb m n with
  | true=>n::JpR m n
  | false=>JpR m n
def Jq6 (l:Fx) (_:Fx):Fx:=(Jpm l []).map fun m=>JpR m l.length
def Ns (i am:Nat):List AOper→List Nat→Nat→List Nat
 | o::l,mk::ms,k=>match o.dst with
  | some d=>match Nat.beq k i||tb am k||tb mk i with
   | true=>Ns i am l ms (k+1)
   | false=>d::Ns i am l ms (k+1)
  | none=>Ns i am l ms (k+1)
 | _,_,_=>[]
def Jv7 (l:List AOper) (ancs:Fx) (i:Nat) (anc:List Nat):List Nat:=Ns i (Tz anc) l (ancs.map Tz) 0
def DZ (i:Nat) (x:DOper) (j:Nat) (y:DOper):Bool :=
 (match OJ i y.anc with
  | true=>true
  | false=>(!(x.eff&&y.eff)||x.op.op.loose)&&(match y.op.dst with|some d=>OJ d x.hide|none=>true)&&(match x.op.dst with|some d=>OJ d y.hide|none=>true)) &&
 (match x.op.dst,y.op.dst with
  | some d,some d'=>!Nat.beq d d'
  | _,_=>true)
def AR (l:List DOper) (j:Nat) (y:DOper) (af:List Nat):Bool :=
 af.all (fun a=>Nat.blt a j)&&y.anc.all (fun x=>Nat.blt x j&&(OJ x af||af.any fun k=>match l[k]? with|some z=>OJ x z.anc|none=>false))&&(y.eff||y.op.op.quiet)
def dOK (l:List DOper) (afters:Fx):Bool :=
 (List.range l.length).all fun j=>match l[j]?,afters[j]? with
  | some y,some af=>AR l j y af&&(List.range j).all fun i=>match l[i]? with
   | some x=>DZ i x j y
   | none=>false
  | _,_=>false
def Jp2 (ms:List Nat) (j:Nat) (y:DOper) (af:List Nat):Bool :=
 af.all (fun a=>Nat.blt a j)&&y.anc.all (fun x=>Nat.blt x j&&tb (DN ms af) x)&&(y.eff||y.op.op.quiet)
def Jnc (i:Nat) (x:DOper) (j:Nat) (y:DOper):Bool :=
 (match tb (Tz y.anc) i with
  | true=>true
  | false=>(match x.eff&&y.eff with|true=>x.op.op.loose|false=>true)&&(match y.op.dst with|some d=>tb (Tz x.hide) d|none=>true)&&(match x.op.dst with|some d=>tb (Tz y.hide) d|none=>true)) &&
 (match x.op.dst,y.op.dst with
  | some d,some d'=>!Nat.beq d d'
  | _,_=>true)
def NJ (j:Nat) (y:DOper):List DOper→Nat→Bool
 | [],_=>true
 | x::xs,i=>match Nat.blt i j with
  | true=>Jnc i x j y&&NJ j y xs (i+1)
  | false=>true
def ND (l:List DOper) (ms:List Nat):List DOper→Fx→Nat→Bool
 | [],_,_=>true
 | y::ys,afs,j=>match afs with
  | af::afs=>Jp2 ms j y af&&NJ j y l 0&&ND l ms ys afs (j+1)
  | []=>false
def JvZ (l:List DOper) (afters:Fx):Bool:=ND l (l.map fun d=>Tz d.anc) l afters 0
theorem Jui (m i:Nat):tb m i=m.testBit i:=by
 unfold tb Nat.testBit;show Nat.beq ((m >>> i) &&& 1) 1=(1 &&& (m >>> i) != 0);rw[Nat.and_comm]
 have h:1 &&& (m >>> i)=0∨1 &&& (m >>> i)=1:=by
  rw[Nat.one_and_eq_mod_two];omega
 rcases h with h|h<;>rw[h]<;>rfl
theorem Jpf:∀{l:List Nat} {k:Nat},D6 l k=l.getD k 0
 | [],k=>by simp[D6]
 | x::l,0=>by simp[D6]
 | x::l,k+1=>by simp only[D6];rw[Jpf];simp
theorem Jiw {a x:Nat}:(Nat.shiftLeft 1 a).testBit x=true↔x=a:=by
 show (1 <<< a).testBit x=true↔_;rw[Nat.testBit_shiftLeft];simp only[FT,decide_eq_true_eq];constructor
 ·rintro⟨h1,h2⟩;cases hd:x-a with
  | zero=>omega
  | succ n=>rw[hd]at h2;simp[Nat.testBit_succ]at h2
 ·rintro rfl;exact⟨FH _,by simp⟩
theorem maskL_bit:∀{l:List Nat} {x:Nat},(Tz l).testBit x=true↔x∈l
 | [],x=>by simp[Tz]
 | a::l,x=>by
  simp only[Tz];show ((Nat.shiftLeft 1 a) ||| Tz l).testBit x=true↔_;rw[Nat.testBit_or,Bool.or_eq_true,Jiw,maskL_bit,FJ]
theorem Jma {ms:List Nat}:∀{af:List Nat} {x:Nat},(DN ms af).testBit x=true↔x∈af∨∃k∈af,(ms.getD k 0).testBit x=true
 | [],x=>by simp[DN]
 | a::r,x=>by
  simp only[DN];show (((Nat.shiftLeft 1 a) ||| D6 ms a) ||| DN ms r).testBit x=true↔_;rw[Nat.testBit_or,Nat.testBit_or,Bool.or_eq_true,Bool.or_eq_true,Jiw,Jma,Jpf];simp only[FJ,exists_eq_or_imp];constructor
  ·rintro ((h|h)|(h|h))
   ·exact .inl (.inl h)
   ·exact .inr (.inl h)
   ·exact .inl (.inr h)
   ·exact .inr (.inr h)
  ·rintro ((h|h)|(h|h))
   ·exact .inl (.inl h)
   ·exact .inr (.inl h)
   ·exact .inl (.inr h)
   ·exact .inr (.inr h)
theorem memN_mem {x:Nat}:∀{l:List Nat},OJ x l=true↔x∈l
 | []=>by simp[OJ]
 | y::l=>by
  simp only[OJ];cases h:Nat.beq x y with
  | true=>have:=Nat.eq_of_beq_eq_true h;simp[this]
  | false =>
   have:x≠y:=fun he=>by rw[he,Nat.beq_refl]at h;cases h
   simp[this,memN_mem]
theorem Ju6 {x:Nat}{l:List Nat}:OJ x l=tb (Tz l) x:=by
 rw[Jui];cases h:(Tz l).testBit x with
 | true=>exact memN_mem.2 (maskL_bit.1 h)
 | false =>
  cases hm:OJ x l with
  | false=>rfl
  | true=>rw[maskL_bit.2 (memN_mem.1 hm)]at h;cases h
theorem Jrq {i:Nat}{x:DOper}{j:Nat}{y:DOper}:Jnc i x j y=DZ i x j y:=by
 simp only[Jnc,DZ,Ju6];cases x.eff<;>cases y.eff<;>cases x.op.op.loose<;>simp
variable {l:List DOper}
theorem JsX {j:Nat}{y:DOper}{af:List Nat}(h:Jp2 (l.map fun d=>Tz d.anc) j y af=true):AR l j y af=true:=by
 simp only[Jp2,FT,List.all_eq_true,Jui]at h;simp only[AR,FT,List.all_eq_true];refine⟨⟨h.1.1,fun x hx=>⟨(h.1.2 x hx).1,?_⟩⟩,h.2⟩;have hb:=(h.1.2 x hx).2;rw[Jma]at hb;rw[Bool.or_eq_true];rcases hb with hb|⟨k,hk,hb⟩
 ·exact .inl (memN_mem.2 hb)
 ·refine .inr (List.any_eq_true.2 ⟨k,hk,?_⟩);cases hl:l[k]? with
  | none =>
   have:(l.map fun d=>Tz d.anc).getD k 0=0:=by simp[List.getD,hl]
   rw[this]at hb;simp at hb
  | some z =>
   have:(l.map fun d=>Tz d.anc).getD k 0=Tz z.anc:=by simp[List.getD,hl]
   rw[this,maskL_bit]at hb;exact memN_mem.2 hb
theorem Jo7 {j:Nat}{y:DOper}:∀{l:List DOper} {k:Nat},NJ j y l k=true→∀i x,k+i<j→l[i]? = some x→DZ (k+i) x j y=true
 | [],k,_,i,x,_,hx=>by simp at hx
 | z::l,k,h,i,x,hi,hx=>by
  simp only[NJ]at h;split at h
  ·rw[FT]at h;cases i with
   | zero=>simp at hx;subst hx;rw[←Jrq];exact h.1
   | succ i =>
    have:=Jo7 (k:=k+1) h.2 i x Fh (by simpa using hx)
    rwa [show k+1+i=k+(i+1)by omega]at this
  ·rename_i hb;exact absurd (Nat.blt_eq.mpr (by omega:k<j)) (by rw[hb];simp)
theorem Jna {l:List DOper}:∀{ys:List DOper} {afs:Fx} {k:Nat},ND l (l.map fun d=>Tz d.anc) ys afs k=true→∀j y,ys[j]? = some y→∃af,afs[j]? = some af∧AR l (k+j) y af=true∧∀i x,i<k+j→l[i]? = some x→DZ i x (k+j) y=true
 | [],afs,k,_,j,y,hy=>by simp at hy
 | z::ys,afs,k,h,j,y,hy=>by
  simp only[ND]at h;split at h
  ·rename_i af afs;rw[FT,FT]at h;cases j with
   | zero =>
    simp at hy;subst hy;exact⟨af,rfl,JsX h.1.1,fun i x hi hx=>by have:=Jo7 h.1.2 i x Fh hx;rwa [FV]at this⟩
   | succ j =>
    obtain⟨a,h1,h2,h3⟩:=Jna (k:=k+1) h.2 j y (by simpa using hy);rw[show k+1+j=k+(j+1)by omega]at h2 h3;exact⟨a,by simpa using h1,h2,h3⟩
  ·cases h
theorem JuM {afters:Fx}(h:JvZ l afters=true):dOK l afters=true:=by
 simp only[dOK,List.all_eq_true,List.mem_range];intro j hj;have hy:l[j]? = some l[j]:=FB hj;obtain⟨af,h1,h2,h3⟩:=Jna h j _ hy;rw[FV]at h2 h3;simp only[hy,h1,h2,Bool.true_and,List.all_eq_true,List.mem_range];intro i hi;have hx:l[i]? = some (l[i]'(by omega)):=FB Fh;simp only[hx];exact h3 i _ hi hx
def Dq (ops:Array Oper):Fx:=ops.toList.map fun o=>(o.after.toList.filter (Region.binds .any)).map (·.on)
def I8 (k:Nat):List Nat→Nat→Nat
 | [],i=>i
 | x::l,i=>match Nat.beq x k with
  | true=>i
  | false=>I8 k l (i+1)
def Jqh (p:Nat→Bool):List Nat→Option Nat
 | []=>none
 | k::l=>match p k with
  | true=>some k
  | false=>Jqh p l
def EJ (p:Nat→Bool):List Nat→Bool
 | []=>true
 | k::l=>match p k with
  | true=>EJ p l
  | false=>false
def Jlr (l:List AOper) (ancs:Fx):Nat→List Nat→List Nat→List Nat
 | 0,_,done=>done
 | f+1,todo,done =>
  let ready (k:Nat):Bool:=EJ (fun a=>OJ a done) (ancs.getD k [])
  let light (k:Nat):Bool:=match l[k]? with
   | some o=>o.op.quiet||o.op.loose
   | none=>false
  match Jqh (fun k=>ready k&&light k) todo with
  | some k=>Jlr l ancs f (todo.filter fun x=>!Nat.beq x k) (done++[k])
  | none=>match Jqh ready todo with
   | some k=>Jlr l ancs f (todo.filter fun x=>!Nat.beq x k) (done++[k])
   | none=>done
def NE (l:List AOper) (ancs:Fx) (p:List Nat):List Nat→Option (List DOper)
 | []=>some []
 | k::r=>match l[k]?,NE l ancs p r with
  | some o,some q=>some (⟨o,!o.op.quiet,(ancs.getD k []).map (I8 · p 0),Jv7 l ancs k (ancs.getD k [])⟩::q)
  | _,_=>none
def Nl:List Nat→Bool
 | []=>true
 | k::l=>!OJ k l&&Nl l
def Jr0 (n:Nat) (p:List Nat):Bool:=Nat.beq p.length n&&Nl p&&EJ (fun k=>OJ k p) (List.range n)
def Na (af:Fx) (p:List Nat):Fx:=p.map fun k=>(af.getD k []).map (I8 · p 0)
def MJ (ops:Array Oper) (l:List AOper) (p:List Nat):Option (List DOper) :=
 match NE l (Jq6 (Dq ops) []) p p with
 | some d=>match Jr0 ops.size p&&JvZ d (Na (Dq ops) p)with
  | true=>some d
  | false=>none
 | none=>none
def AB (P:Program) (N:Nat) (ops:Array Oper):Option (List DOper) :=
 match CG P N ops ops.toList with
 | some l=>match MJ ops l (List.range ops.size)with
  | some d=>some d
  | none=>MJ ops l (Jlr l (Jq6 (Dq ops) []) ops.size (List.range ops.size) [])
 | none=>none
def Af:Option Opd→List Opd
 | none=>[]
 | some x=>[x]
def AOp.opds:AOp→List Opd
 | .mov x | .un _ x | .conv _ x | .convStr x | .bytesOf x | .strOf x | .nilCheck x | .fieldAddr _ x | .field _ _ _ x | .load _ _ x | .box x | .mkIface _ x | .typeAssert _ _ _ x | .extract _ x
 | .lenStr x | .lenSl x | .lenMap x | .cap x | .clear _ x | .clearMap x | .rangeMap x | .nextMap x | .entry x=>[x]
 | .pick c a b=>[c,a,b]
 | .bin _ x y | .eqv _ _ x y | .eqAgg _ _ x y | .indexAddr _ x y | .indexArr _ _ x y | .indexStr x y | .indexAgg _ _ _ x y | .store _ x y | .mkSlice _ _ _ x y | .lookup _ _ _ x y | .mapEntry _ _ x y | .delete _ x y | .append _ _ x y | .copy _ x y=>[x,y]
 | .alloc _ | .mkMap | .lenArr _ | .stuck=>[]
 | .build _ ps | .buildSlice _ _ ps=>ps.map (·.2.2)
 | .slice _ x a b c | .sliceArr _ _ x a b c=>x::(Af a++Af b++Af c)
 | .sliceStr x a b=>x::(Af a++Af b)
 | .mapUpdate _ a b c | .entryStore a b c=>[a,b,c]
 | .mkFunc _ f c=>f++c
 | .mn l | .mx l=>l
 | .call f l | .inv _ f l=>f::l
def Opd.clear (hs:List Nat):Opd→Bool
 | .tmp t=>!OJ t hs
 | .const _=>true
def DOper.clear (d:DOper):Bool:=d.op.op.opds.all (Opd.clear d.hide)&&(match d.op.guard with|none=>true|some (g,_)=>!OJ g d.hide)
def DOper.unh (d:DOper):DOper:={d with hide:=[]}
def AOp.pure:AOp→Bool
 | .mov _ | .pick .. | .bin .. | .un .. | .conv .. | .nilCheck _ | .fieldAddr .. | .indexAddr .. | .indexArr .. | .indexStr .. | .build .. | .extract .. | .lenStr _ | .lenSl _ | .field .. | .sliceStr .. | .sliceArr .. | .mkIface .. | .typeAssert .. | .mkFunc .. | .convStr _ | .mn _ | .mx _ | .eqAgg .. | .lenArr _ | .cap _=>true
 | .eqv .. => true
 | _=>false
def JrX (l:List DOper) (i:Nat) (d:DOper):List (Nat×Nat) :=
 (List.range l.length).filterMap fun e=>match l[e]? with
  | some de=>if de.eff && !OJ i de.anc && !OJ e d.anc then some (i,e)else none
  | none=>none
def DR (l:List DOper):List (Nat×Nat) :=
 (List.range l.length).flatMap fun i=>match l[i]? with
  | some d=>if d.eff||d.op.op.pure then []else JrX l i d
  | none=>[]
def Jo4 (l:List DOper):ACode :=
 match l.all DOper.clear with
 | true=>match (DR l).isEmpty with
  | true=> .region (l.map (·.op))
  | false=> .drawn (l.map DOper.unh)
 | false=> .drawn l
def Ta (P:Program) (N:Nat):Code→Option ACode
 | .skip=>some .skip
 | .region _ ops false=>match CG P N ops ops.toList with
  | some l=>some (.region l)
  | none=>none
 | .region _ ops true=>match AB P N ops with
  | some l=>some (Jo4 l)
  | none=>none
 | .seq a b=>match Ta P N a,Ta P N b with
  | some x,some y=>some (.seq x y)
  | _,_=>none
 | .cond c a b=>match La c,Ta P N a,Ta P N b with
  | some c,some x,some y=>some (.cond c x y)
  | _,_,_=>none
 | .block id b=>match Ta P N b with
  | some x=>some (.block id x)
  | none=>none
 | .loop b=>match Ta P N b with
  | some x=>some (.loop x)
  | none=>none
 | .exit id=>some (.exit id)
 | .scope b=>match Ta P N b with
  | some x=>some (.scope x)
  | none=>none
 | .ret=>some .ret
 | _=>none
def Ac (P:Program):List ResultVar→Option (List ARes)
 | []=>some []
 | .tmp t::l=>match Ac P l with
  | some r=>some (.tmp t::r)
  | none=>none
 | .cell a t::l=>match sizeOf? P t,Sl P t,Ac P l with
  | some n,some g,some r=>some (.cell a n g::r)
  | _,_,_=>none
def NL (P:Program) (f:Func):Option AFun :=
 match f.body with
 | some c=>match Ta P f.ntmps c,Ac P f.results.toList with
  | some x,some r=>if f.name = "runtime.NumGoroutine" then none else some ⟨f.ntmps,r,x⟩
  | _,_=>none
 | none=>none
inductive AExit where
 | normal
 | exit (id:Nat)
 | ret
def OB (fr:Fr):Option Nat→V→Fr
 | some d,v=>fr.put d v
 | none,_=>fr
def wanted (fr:Fr):Option (Nat×Bool)→Option Bool
 | none=>some true
 | some (d,b)=>match fr.get d with
  | some (.bool x)=>some (x==b)
  | some .undef=>some false
  | _=>none
def IY:List V→Nat→Fr
 | [],_=> .e
 | v::l,i=>(IY l (i+1)).put i v
def Ox (fr:Fr) (aw:AW):List ARes→Option (List V)
 | []=>some []
 | .tmp t::l=>match fr.get t with
  | some v=>match Ox fr aw l with
   | some r=>some (v::r)
   | none=>none
  | none=>none
 | .cell a sz agg::l=>match fr.get a with
  | some (.ptr b off)=>match (match agg with
    | true=>match aw.load b off sz with|some l=>some (V.agg l)|none=>none
    | false=>match aw.load b off 1 with|some [v]=>some v|_=>none)with
   | some v=>match Ox fr aw l with
    | some r=>some (v::r)
    | none=>none
   | none=>none
  | _=>none
def Oy:List V→V
 | [v]=>v
 | l=> .tuple l
structure Tab where
 code:Nat→Option AFun
 prim:Nat→List V→AW→V→AW→Prop
 ext:Nat→List V→AW→V→AW→Prop
structure Stp where
 fe:Fr
 v:V
 aw0:AW
 aw1:AW
def Om (fr:Fr):List Nat→Fr
 | []=>fr
 | d::l=>Om (T.del fr d) l
mutual
def V.beq:V→V→Bool
 | .undef,.undef=>true
 | .bool a,.bool b=>match a,b with
  | true,true=>true
  | false,false=>true
  | _,_=>false
 | .int k n,.int k' n'=>decide (k=k')&&decide (n=n')
 | .str l,.str l'=>eqL l l'
 | .ptr b o,.ptr b' o'=>Nat.beq b b'&&Nat.beq o o'
 | .nilptr,.nilptr=>true
 | .slice b o l c,.slice b' o' l' c'=>Nat.beq b b'&&Nat.beq o o'&&Nat.beq l l'&&decide (c=c')
 | .nilslice,.nilslice=>true
 | .map b,.map b'=>Nat.beq b b'
 | .nilmap,.nilmap=>true
 | .func f a c,.func f' a' c'=>decide (f=f')&&VL.beq a a'&&VL.beq c c'
 | .nilfunc,.nilfunc=>true
 | .iface t v,.iface t' v'=>Nat.beq t t'&&V.beq v v'
 | .niliface,.niliface=>true
 | .agg l,.agg l'=>VL.beq l l'
 | .tuple l,.tuple l'=>VL.beq l l'
 | _,_=>false
def VL.beq:List V→List V→Bool
 | [],[]=>true
 | x::l,y::l'=>V.beq x y&&VL.beq l l'
 | _,_=>false
end
def TP (d:DOper) (s:Stp) (aw:AW):Bool :=
 match wanted s.fe d.op.guard with
 | some false=>true
 | some true=>match aop d.op.op s.fe aw with
  | some (.val v,_)=>V.beq v s.v
  | _=>false
 | none=>false
def SV (l:List DOper) (st:List Stp):Bool :=
 (List.range l.length).all fun i=>match l[i]?,st[i]? with
  | some d,some s=>d.eff||(List.range l.length).all fun e=>match l[e]?,st[e]? with
   | some de,some se=>!de.eff||OJ i de.anc||OJ e d.anc||(TP d s se.aw0&&TP d s se.aw1)
   | _,_=>false
  | _,_=>false
mutual
inductive Exec (tab:Tab):ACode→Fr→AW→AExit→Fr→AW→Prop
 | skip {fr aw}:Exec tab .skip fr aw .normal fr aw
 | region {l fr aw fr' aw'}:Ops tab l fr aw fr' aw'→Exec tab (.region l) fr aw .normal fr' aw'
 | drawn {l fr aw st fr' aw'}:Pass tab l fr aw st fr' aw'→SV l st=true→Exec tab (.drawn l) fr aw .normal fr' aw'
 | seq {a b fr aw fr1 aw1 e fr2 aw2}:Exec tab a fr aw .normal fr1 aw1→Exec tab b fr1 aw1 e fr2 aw2→Exec tab (.seq a b) fr aw e fr2 aw2
 | seqE {a b fr aw id fr1 aw1}:Exec tab a fr aw (.exit id) fr1 aw1→Exec tab (.seq a b) fr aw (.exit id) fr1 aw1
 | seqR {a b fr aw fr1 aw1}:Exec tab a fr aw .ret fr1 aw1→Exec tab (.seq a b) fr aw .ret fr1 aw1
 | condT {c a b fr aw e fr1 aw1}:c.ev fr=some (.bool true)→Exec tab a fr aw e fr1 aw1→Exec tab (.cond c a b) fr aw e fr1 aw1
 | condF {c a b fr aw e fr1 aw1}:c.ev fr=some (.bool false)→Exec tab b fr aw e fr1 aw1→Exec tab (.cond c a b) fr aw e fr1 aw1
 | block {id b fr aw fr1 aw1}:Exec tab b fr aw .normal fr1 aw1→Exec tab (.block id b) fr aw .normal fr1 aw1
 | blockX {id b fr aw fr1 aw1}:Exec tab b fr aw (.exit id) fr1 aw1→Exec tab (.block id b) fr aw .normal fr1 aw1
 | blockE {id id' b fr aw fr1 aw1}:Exec tab b fr aw (.exit id') fr1 aw1→id'≠id→Exec tab (.block id b) fr aw (.exit id') fr1 aw1
 | blockR {id b fr aw fr1 aw1}:Exec tab b fr aw .ret fr1 aw1→Exec tab (.block id b) fr aw .ret fr1 aw1
 | loop {b fr aw fr1 aw1 e fr2 aw2}:Exec tab b fr aw .normal fr1 aw1→Exec tab (.loop b) fr1 aw1 e fr2 aw2→Exec tab (.loop b) fr aw e fr2 aw2
 | loopE {b fr aw id fr1 aw1}:Exec tab b fr aw (.exit id) fr1 aw1→Exec tab (.loop b) fr aw (.exit id) fr1 aw1
 | loopR {b fr aw fr1 aw1}:Exec tab b fr aw .ret fr1 aw1→Exec tab (.loop b) fr aw .ret fr1 aw1
 | exit {id fr aw}:Exec tab (.exit id) fr aw (.exit id) fr aw
 | scope {b fr aw e fr1 aw1}:Exec tab b fr aw e fr1 aw1→Exec tab (.scope b) fr aw e fr1 aw1
 | ret {fr aw}:Exec tab .ret fr aw .ret fr aw
inductive Ops (tab:Tab):List AOper→Fr→AW→Fr→AW→Prop
 | nil {fr aw}:Ops tab [] fr aw fr aw
 | cons {o l fr aw v aw1 fr' aw'}:One tab o fr aw v aw1→Ops tab l (OB fr o.dst v) aw1 fr' aw'→Ops tab (o::l) fr aw fr' aw'
inductive Pass (tab:Tab):List DOper→Fr→AW→List Stp→Fr→AW→Prop
 | nil {fr aw}:Pass tab [] fr aw [] fr aw
 | cons {d l fr aw v aw1 st fr' aw'}:One tab d.op (Om fr d.hide) aw v aw1→Pass tab l (OB fr d.op.dst v) aw1 st fr' aw'→Pass tab (d::l) fr aw (⟨Om fr d.hide,v,aw,aw1⟩::st) fr' aw'
inductive One (tab:Tab):AOper→Fr→AW→V→AW→Prop
 | pass {o fr aw}:wanted fr o.guard=some false→One tab o fr aw .undef aw
 | val {o fr aw v aw1}:wanted fr o.guard=some true→aop o.op fr aw=some (.val v,aw1)→One tab o fr aw v aw1
 | skip {o fr aw aw1}:wanted fr o.guard=some true→aop o.op fr aw=some (.skip,aw1)→One tab o fr aw .undef aw1
 | call {o fr aw f args aw0 v aw1}:wanted fr o.guard=some true→aop o.op fr aw=some (.call f args,aw0)→CallR tab f args aw0 v aw1→One tab o fr aw v aw1
 | ext {o fr aw f args aw0 v aw1}:wanted fr o.guard=some true→aop o.op fr aw=some (.call f args,aw0)→tab.ext f args aw0 v aw1→One tab o fr aw v aw1
inductive CallR (tab:Tab):Nat→List V→AW→V→AW→Prop
 | code {f args aw af e fr' aw' vs}:tab.code f=some af→args.length≤af.ntmps→Exec tab af.body (IY args 0) aw e fr' aw'→(e = .normal∨e = .ret)→Ox fr' aw' af.results=some vs→CallR tab f args aw (Oy vs) aw'
 | prim {f args aw v aw'}:tab.prim f args aw v aw'→CallR tab f args aw v aw'
end
set_option linter.unusedSimpArgs false
section
variable [Globs]
structure FR (m:Map) (N:Nat) (fr:Fr) (tmps:Array Value):Prop where
 size:tmps.size=N
 val:∀d v,fr.get d=some v→∃v',tmps[d]? = some v'∧VR m v v'
 glob:GlobIn m
variable {m:Map}
theorem FR.mono {m':Map}(hm:m.le m'){N:Nat}{fr:Fr}{tmps:Array Value}(h:FR m N fr tmps):FR m' N fr tmps:=
 ⟨h.1,fun d v hd=>let ⟨v',h1,h2⟩:=h.2 d v hd;⟨v',h1,h2.mono hm⟩,h.glob.le hm⟩
theorem Jrg {v:Value}{x:V}(h:cV1 v=some x):VR m x v:=by
 unfold cV1 at h;split at h<;>cases h<;>first|rfl|exact⟨_,rfl,rfl⟩
theorem Jm1 {m:Map}:∀{l:List Value} {x:List V},cVs l=some x→VRs m x l
 | [],x,h=>by cases h;rfl
 | v::l,x,h=>by
  simp only[cVs]at h;split at h
  ·rename_i y hy;split at h
   ·rename_i ys hys;cases h;exact⟨v,l,rfl,Jrg hy,Jm1 hys⟩
   ·cases h
  ·cases h
theorem Juc {v:Value}{x:V}(h:cV v=some x):VR m x v:=by
 unfold cV at h;split at h
 ·split at h
  ·rename_i l hl;cases h;exact⟨_,rfl,Jm1 hl⟩
  ·cases h
 ·split at h
  ·rename_i l hl;cases h;exact⟨_,rfl,Jm1 hl⟩
  ·cases h
 ·exact Jrg h
theorem Li {N:Nat}{fr:Fr}{a:Act}(hfr:FR m N fr a.tmps){o:Operand}{x:Opd}{v:V}(hc:La o=some x)(h:x.ev fr=some v):VR m v (a.eval o):=by
 unfold La at hc;split at hc
 ·cases hc;obtain⟨v',h1,h2⟩:=hfr.val _ _ h;simp only[Act.eval,Array.getD_eq_getD_getElem?,h1,Option.getD_some];exact h2
 ·split at hc
  ·rename_i y hy;cases hc;cases h;exact Juc hy
  ·cases hc
 ·split at hc
  ·rename_i i hi;cases hc;cases h;obtain⟨j,n,h1,h2⟩:=Jpg hi;rw[FV]at h1;subst h1;exact⟨_,hfr.glob _ _ _ h2,rfl⟩
  ·cases hc
 ·cases hc;cases h;exact⟨#[],#[],rfl,rfl,rfl⟩
theorem DC {m:Map}{N:Nat}{fr:Fr}{a:Act}(hfr:FR m N fr a.tmps):∀{l:List Operand} {xs:List Opd} {vs:List V},Ic l=some xs→evs fr xs=some vs→VRs m vs (l.map a.eval)
 | [],xs,vs,hc,h=>by cases hc;cases h;rfl
 | o::l,xs,vs,hc,h=>by
  simp only[Ic]at hc;split at hc
  ·rename_i x hx;split at hc
   ·rename_i xs' hxs;cases hc;simp only[evs]at h;split at h
    ·rename_i v hv;split at h
     ·rename_i vs' hvs;cases h;exact⟨_,_,rfl,Li hfr hx hv,DC hfr hxs hvs⟩
     ·cases h
    ·cases h
   ·cases hc
  ·cases hc
theorem eqL_iff:∀{a b:List Nat},eqL a b=true↔a=b
 | [],[]=>by simp[eqL]
 | [],_::_=>by simp[eqL]
 | _::_,[]=>by simp[eqL]
 | a::x,b::y=>by simp only[eqL,FT,List.cons.injEq,eqL_iff (a:=x) (b:=y)];rw[Nat.beq_eq]
theorem Jod {s t:ByteArray}(h:LH s=LH t):s=t:=by
 have h1:s.data.toList=t.data.toList:=by
  have:∀(a b:List UInt8),a.map UInt8.toNat=b.map UInt8.toNat→a=b:=by
   intro a;induction a with
   | nil=>intro b hb;cases b with|nil=>rfl|cons _ _=>simp at hb
   | cons x xs ih =>
    intro b hb;cases b with
    | nil=>simp at hb
    | cons y ys =>
     simp only[Kv,List.cons.injEq]at hb;rw[ih ys hb.2,UInt8.toNat_inj.1 hb.1]
  exact this _ _ h
 cases s;cases t;simp only[ByteArray.mk.injEq];exact Array.ext' h1
theorem Cb (s:ByteArray):(LH s).length=s.size:=by
 unfold LH;rw[F9];rfl
theorem EU (s:ByteArray):s.toList=s.data.toList:=by
 exact ByteArray.toList_eq s
theorem Qk (s t:ByteArray):(s.toList==t.toList)=eqL (LH s) (LH t):=by
 rw[Bool.eq_iff_iff,eqL_iff,beq_iff_eq,EU,EU];constructor
 ·intro h;simp[LH,h]
 ·intro h;rw[Jod h]
theorem JkX:∀(a b:List UInt8),Op.bytesLess a b=Oq (a.map UInt8.toNat) (b.map UInt8.toNat)
 | _,[]=>by cases ‹List UInt8› <;> rfl
 | [],_::_=>rfl
 | a::x,b::y=>by
  simp only[Op.bytesLess,Kv,Oq,JkX x y]
  congr 1
  ·rw[Bool.eq_iff_iff];simp[UInt8.lt_iff_toNat_lt,Nat.blt_eq]
  ·congr 1
   rw[Bool.eq_iff_iff];simp[←UInt8.toNat_inj]
end
section
variable [Globs]
def OpOK (P:Program) (o:Oper) (a:Act) (aw aw':AW) (w:World) (m:Map) (base:Nat):Res→Prop
 | .val v=>∃v' w' m',(execOp a.eval o).run P w = .ok (.value v') w'∧VR m' v v'∧R aw' w' m' base∧Goes aw aw' w w' m m'
 | .skip=>∃w' m',(execOp a.eval o).run P w = .ok .skip w'∧R aw' w' m' base∧Goes aw aw' w w' m m'
 | .call f args=>aw'=aw∧∃args',(execOp a.eval o).run P w=(callFunc f args').run P w∧VRs m args args'.toList
section
variable {P:Program} {o:Oper} {act:Act} {aw:AW} {w:World} {m:Map} {base N:Nat} {fr:Fr}
variable {v:V}
theorem OpOK.quiet {v':Value}(hR:R aw w m base)(h:(execOp act.eval o).run P w = .ok (.value v') w)(hv:VR m v v'):OpOK P o act aw aw w m base (.val v):=
 ⟨v',w,m,h,hv,hR,.refl aw w m⟩
variable {x:Operand} {a:Opd}
theorem Jwh (hR:R aw w m base)(hfr:FR m N fr act.tmps)(ho:o.op = .move x∨o.op = .assign x)(hc:La x=some a)(hv:a.ev fr=some v): OpOK P o act aw aw w m base (.val v):=by
 refine OpOK.quiet (v':=act.eval x) hR ?_ (Li hfr hc hv);rcases ho with ho|ho<;>simp only[execOp,ho]<;>rfl
variable {y:Operand}
theorem Jpu (hR:R aw w m base)(hfr:FR m N fr act.tmps){c:Operand}{c' b:Opd}(ho:o.op = .pick c x y)(hc:La c=some c')(hx:La x=some a)(hy:La y=some b){r:Bool}(h1:c'.ev fr=some (.bool r))(h2:(if r then a else b).ev fr=some v):OpOK P o act aw aw w m base (.val v):=by
 have e1:act.eval c = .bool r:=Li hfr hc h1;cases r with
 | true =>
  refine OpOK.quiet (v':=act.eval x) hR ?_ (Li hfr hx h2);simp[execOp,ho,e1,asBool]
 | false =>
  refine OpOK.quiet (v':=act.eval y) hR ?_ (Li hfr hy h2);simp[execOp,ho,e1,asBool]
theorem JuB (op:BinOp)(t:TypeId)(k:IntKind)(a b:Int)(hs:op≠.shl∧op≠.shr)(h:NK op k a b=some v): ∃v',(binOp op t (.int k a) (.int k b)).run P w = .ok v' w∧VR m v v':=by
 cases op<;>simp only[NK,FQ,reduceCtorEq]at h
 case add=>subst h;exact⟨.int k (k.wrap (a+b)),by simp[binOp,Op.intArith],rfl⟩
 case sub=>subst h;exact⟨.int k (k.wrap (a-b)),by simp[binOp,Op.intArith],rfl⟩
 case mul=>subst h;exact⟨.int k (k.wrap (a*b)),by simp[binOp,Op.intArith],rfl⟩
 case quo =>
  split at h
  ·cases h
  ·rename_i hb;cases h;exact⟨.int k (k.wrap (a.tdiv b)),by simp[binOp,Op.intDiv,hb],rfl⟩
 case rem =>
  split at h
  ·cases h
  ·rename_i hb;cases h;exact⟨.int k (a.tmod b),by simp[binOp,Op.intDiv,hb],rfl⟩
 case and=>subst h;exact⟨.int k (Sm .and k a b),by simp[binOp,Op.intBits,Sm],rfl⟩
 case or=>subst h;exact⟨.int k (Sm .or k a b),by simp[binOp,Op.intBits,Sm],rfl⟩
 case xor=>subst h;exact⟨.int k (Sm .xor k a b),by simp[binOp,Op.intBits,Sm],rfl⟩
 case andNot=>subst h;exact⟨.int k (Sm .andNot k a b),by simp[binOp,Op.intBits,Sm],rfl⟩
 case eql=>subst h;exact⟨.bool (a==b),by simp[binOp,Op.intCmp],rfl⟩
 case neq=>subst h;exact⟨.bool (a != b),by simp[binOp,Op.intCmp],rfl⟩
 case lss=>subst h;exact⟨.bool (decide (a<b)),by simp[binOp,Op.intCmp],rfl⟩
 case leq=>subst h;exact⟨.bool (decide (a≤b)),by simp[binOp,Op.intCmp],rfl⟩
 case gtr=>subst h;exact⟨.bool (decide (a>b)),by simp[binOp,Op.intCmp],rfl⟩
 case geq=>subst h;exact⟨.bool (decide (a≥b)),by simp[binOp,Op.intCmp],rfl⟩
theorem Jmi (op:BinOp)(t:TypeId)(k k':IntKind)(a b:Int)(h:AJ op k a b=some v): ∃v',(binOp op t (.int k a) (.int k' b)).run P w = .ok v' w∧VR m v v':=by
 unfold AJ at h;split at h
 ·cases h
 ·rename_i hb;cases op<;>simp only[FQ,reduceCtorEq]at h
  case shl=>subst h;exact⟨.int k (k.wrap (a*2 ^ (min b.toNat k.bits))),by simp only[binOp,Op.shift];rw[if_neg hb];rfl,rfl⟩
  case shr=>subst h;exact⟨.int k (a.fdiv (2 ^ (min b.toNat k.bits))),by simp only[binOp,Op.shift];rw[if_neg hb];rfl,rfl⟩
theorem Jvs (op:BinOp)(t:TypeId)(a b:ByteArray)(h:Oi op (LH a) (LH b)=some v): ∃v',(binOp op t (.string a) (.string b)).run P w = .ok v' w∧VR m v v':=by
 have e1:(a.toList==b.toList)=eqL (LH a) (LH b):=Qk a b;have e2:Op.bytesLess a.toList b.toList=Oq (LH a) (LH b):=by rw[EU,EU];exact JkX _ _
 cases op<;>simp only[Oi,FQ,reduceCtorEq]at h
 case add =>
  split at h
  ·rename_i hl;cases h;rw[Cb,Cb]at hl;refine⟨.string (a++b),?_,_,rfl,?_⟩
   ·have:¬(((a.size+b.size:Nat):Int)>9223372036854775807):=Fh;simp only[binOp,Op.stringOp,IntKind.max_i64];rw[if_neg this];rfl
   ·simp[LH,ByteArray.data_append]
  ·cases h
 case eql=>subst h;exact⟨.bool (eqL (LH a) (LH b)),by simp only[binOp,Op.stringOp,e1,e2];rfl,rfl⟩
 case neq=>subst h;exact⟨.bool (!eqL (LH a) (LH b)),by simp only[binOp,Op.stringOp,e1,e2];rfl,rfl⟩
 case lss=>subst h;exact⟨.bool (Oq (LH a) (LH b)),by simp only[binOp,Op.stringOp,e1,e2];rfl,rfl⟩
 case leq=>subst h;exact⟨.bool (Oq (LH a) (LH b)||eqL (LH a) (LH b)),by simp only[binOp,Op.stringOp,e1,e2];rfl,rfl⟩
 case gtr=>subst h;exact⟨.bool (!(Oq (LH a) (LH b)||eqL (LH a) (LH b))),by simp only[binOp,Op.stringOp,e1,e2];rfl,rfl⟩
 case geq=>subst h;exact⟨.bool (!Oq (LH a) (LH b)),by simp only[binOp,Op.stringOp,e1,e2];rfl,rfl⟩
theorem Juu (op:BinOp)(t:TypeId){x y:Value}{a b:V}(hx:VR m a x)(hy:VR m b y)(h:D9 op a b=some v): ∃v',(binOp op t x y).run P w = .ok v' w∧VR m v v':=by
 unfold D9 at h;split at h
 ·rename_i k a k' b;cases hx;cases hy;cases op
  case shl=>exact Jmi _ t k k' a b h
  case shr=>exact Jmi _ t k k' a b h
  all_goals
   simp only[]at h;split at h
   ·rename_i hk;subst hk;exact JuB _ t k a b ⟨by simp,by simp⟩ h
   ·cases h
 ·obtain⟨s,rfl,rfl⟩:=hx;obtain⟨s',rfl,rfl⟩:=hy;exact Jvs op t s s' h
 ·cases h
theorem Jqa (op:BinOp)(t:TypeId)(ox oy:Operand){x y:Value}{a b:V}(hx:VR m a x)(hy:VR m b y)(h:D9 op a b=some v):eqGuard op t ox oy x y=pure ():=by
 unfold D9 at h;split at h
 ·cases hx;cases hy;exact eqGuard_at_int ..
 ·obtain⟨s,rfl,rfl⟩:=hx;exact eqGuard_at_string ..
 ·cases h
variable {t:TypeId}
theorem JvS (hR:R aw w m base)(hfr:FR m N fr act.tmps){op:BinOp}{yt:TypeId}{b:Opd}(ho:o.op = .binOp op t x y yt)(hx:La x=some a)(hy:La y=some b){va vb:V}(h1:a.ev fr=some va)(h2:b.ev fr=some vb)(h:D9 op va vb=some v):OpOK P o act aw aw w m base (.val v):=by
 have e1:=Li hfr hx h1;have e2:=Li hfr hy h2;obtain⟨v',h3,h4⟩:=Juu (P:=P) (w:=w) op t e1 e2 h;refine OpOK.quiet hR ?_ h4;simp only[execOp,ho,Jqa op t x y e1 e2 h];simp[h3]
theorem JwN (hR:R aw w m base)(hfr:FR m N fr act.tmps){op:UnOp}(ho:o.op = .unOp op t x)(hx:La x=some a){va:V}(h1:a.ev fr=some va)(h:aUn op va=some v):OpOK P o act aw aw w m base (.val v):=by
 have e1:=Li hfr hx h1;unfold aUn at h;split at h
 ·rename_i k n;cases hq:act.eval x<;>rw[hq]at e1<;>cases e1;split at h<;>cases h
  ·exact OpOK.quiet hR (v':=.int k (k.wrap (0-n))) (by simp[execOp,ho,hq,Op.unary,Op.intArith]) rfl
  ·exact OpOK.quiet hR (v':=.int k (Sm .xor k (if k.signed then -1 else k.max) n)) (by simp[execOp,ho,hq,Op.unary,Op.intBits,Sm]) rfl
 ·rename_i b;cases hq:act.eval x<;>rw[hq]at e1<;>cases e1;split at h<;>cases h;exact OpOK.quiet hR (v':=.bool (!b)) (by simp[execOp,ho,hq,Op.unary]) rfl
 ·cases h
variable {src dst:TypeId}
theorem JuK (hR:R aw w m base)(hfr:FR m N fr act.tmps){k0 k:IntKind}(ho:o.op = .convert src dst x)(hs:P.underlying src=some (.int k0))(hd:P.underlying dst=some (.int k))(hx:La x=some a){k':IntKind}{n:Int}(h1:a.ev fr=some (.int k' n)):OpOK P o act aw aw w m base (.val (.int k (k.wrap n))):=by
 have e1:act.eval x = .int k' n:=Li hfr hx h1;refine OpOK.quiet hR (v':=.int k (k.wrap n)) ?_ rfl;simp[execOp,ho,e1,convert,run_underlying hs,run_underlying hd,Conv.intToInt]
variable {l:List Nat}
theorem JpY (hR:R aw w m base)(hfr:FR m N fr act.tmps)(ho:o.op = .convert src dst x)(hs:P.underlying src=some .string)(hd:P.underlying dst=some .string)(hx:La x=some a)(h1:a.ev fr=some (.str l)):OpOK P o act aw aw w m base (.val (.str l)):=by
 obtain⟨s,e1,e2⟩:=Li hfr hx h1;refine OpOK.quiet hR (v':=.string s) ?_ ⟨s,rfl,e2⟩;simp[execOp,ho,e1,convert,run_underlying hs,run_underlying hd]
theorem Rq (hR:R aw w m base)(hfr:FR m N fr act.tmps)(ho:o.op = .nilCheck x)(hx:La x=some a)(h1:a.ev fr=some v)(hv:(∃b off,v = .ptr b off)∨(∃f p q,v = .func (.func f) p q)∨(∃t u,v = .iface t u)):OpOK P o act aw aw w m base (.val v):=by
 have e0:=Li hfr hx h1;rcases hv with⟨b,off,rfl⟩|⟨f,p,q,rfl⟩|⟨t,u,rfl⟩
 ·obtain⟨e,_,e1⟩:=id e0;refine OpOK.quiet hR (v':=act.eval x) ?_ e0;simp[execOp,ho,e1]
 ·obtain⟨f',c',e1,_,_⟩:=id e0;refine OpOK.quiet hR (v':=act.eval x) ?_ e0;simp[execOp,ho,e1]
 ·obtain⟨y,e1,_⟩:=id e0;refine OpOK.quiet hR (v':=act.eval x) ?_ e0;simp[execOp,ho,e1]
variable {n b off:Nat}
theorem Jnj (hR:R aw w m base)(hfr:FR m N fr act.tmps){s:TypeId}{f:Nat}{fs:Array Field}{fd:Field}(ho:o.op = .fieldAddr s x f)(hx:La x=some a)(hu:P.underlying s=some (.struct fs))(hf:fs[f]? = some fd)(hs:sizeOf? P fd.type=some (n+1))(h1:a.ev fr=some (.ptr b off)): OpOK P o act aw aw w m base (.val (.ptr b (off+fd.offset))):=by
 obtain⟨e,hm,e1⟩:=Li hfr hx h1
 have hi:∃i,P.info? fd.type=some i∧i.size=n+1:=by
  unfold sizeOf? at hs;split at hs
  ·rename_i i hi;exact⟨i,hi,by simpa using hs⟩
  ·cases hs
 obtain⟨i,hi,hin⟩:=hi;refine OpOK.quiet hR (v':=.pointer (some ⟨e.c,e.s+(off+fd.offset),none⟩)) ?_ ⟨e,hm,rfl⟩;simp[execOp,ho,e1,Instr.fieldAt,run_underlying hu,hf,Instr.sureAddr,fieldPlace,sizeOf,typeInfo,hi,hin,Addr.add_lit,Kj]
theorem Ch {x:Value}(h:idx v=some n)(hv:VR m v x):∃k,x = .int k (n:Int):=by
 unfold idx at h;split at h
 ·cases h;exact⟨_,hv⟩
 ·cases h
theorem Q8 (hs:sizeOf? P t=some n):∃i,P.info? t=some i∧i.size=n:=by
 unfold sizeOf? at hs;split at hs
 ·rename_i i hi;exact⟨i,hi,by simpa using hs⟩
 ·cases hs
variable {el:TypeId} {i:Operand} {c:Opd} {iv:V}
theorem Jny (hR:R aw w m base)(hfr:FR m N fr act.tmps){esz:Nat}(ho:o.op = .indexAddr t x i)(hx:La x=some a)(hi:La i=some c)(hu:P.underlying t=some (.slice el))(hs:sizeOf? P el=some esz){len:Nat}{cap:Cap}(h1:a.ev fr=some (.slice b off len cap))(h2:c.ev fr=some iv)(h3:idx iv=some n)(hn:n<len): OpOK P o act aw aw w m base (.val (.ptr b (off+n*esz))):=by
 obtain⟨e,hm,e1⟩:=Li hfr hx h1;obtain⟨k,e2⟩:=Ch h3 (Li hfr hi h2);obtain⟨inf,hinf,hsz⟩:=Q8 hs
 have e3:∃cp,act.eval x = .slice (some ⟨e.c,e.s+off,none⟩) len cp:=by
  cases cap with
  | known c=>exact⟨c,e1⟩
  | upTo z =>
   obtain⟨ad,cp,q1,q2,q3⟩:=e1;rcases q3 with⟨rfl,_⟩|h0
   ·exact⟨cp,q1⟩
   ·omega
 obtain⟨cp,e3⟩:=e3;refine OpOK.quiet hR (v':=.pointer (some ⟨e.c,e.s+(off+n*esz),none⟩)) ?_ ⟨e,hm,rfl⟩;have hlt:(n:Int)<(len:Int):=Fh;simp[execOp,ho,e3,e2,Instr.indexAt,run_underlying hu,asIntOf,hn,sizeOf,typeInfo,hinf,hsz,Addr.add_lit,Kj]
theorem JoF (hR:R aw w m base)(hfr:FR m N fr act.tmps){esz len:Nat}(ho:o.op = .indexAddr t x i)(hx:La x=some a)(hi:La i=some c)(hu:P.underlying t=some (.array len el))(hs:sizeOf? P el=some esz)(h1:a.ev fr=some (.ptr b off))(h2:c.ev fr=some iv)(h3:idx iv=some n)(hn:n<len): OpOK P o act aw aw w m base (.val (.ptr b (off+n*esz))):=by
 obtain⟨e,hm,e1⟩:=Li hfr hx h1;obtain⟨k,e2⟩:=Ch h3 (Li hfr hi h2);obtain⟨inf,hinf,hsz⟩:=Q8 hs;refine OpOK.quiet hR (v':=.pointer (some ⟨e.c,e.s+(off+n*esz),none⟩)) ?_ ⟨e,hm,rfl⟩;have hlt:(n:Int)<(len:Int):=Fh;simp[execOp,ho,e1,e2,Instr.indexAt,Instr.sureAddr,run_underlying hu,asIntOf,hn,sizeOf,typeInfo,hinf,hsz,Addr.add_lit,Kj]
theorem JoG (hR:R aw w m base)(hfr:FR m N fr act.tmps)(ho:o.op = .index t x i)(hx:La x=some a)(hi:La i=some c)(hu:P.underlying t=some .string){ch:Nat}(h1:a.ev fr=some (.str l))(h2:c.ev fr=some iv)(h3:idx iv=some n)(hn:l[n]? = some ch): OpOK P o act aw aw w m base (.val (.int .u8 (Fq ch))):=by
 obtain⟨s,e1,rfl⟩:=Li hfr hx h1;obtain⟨k,e2⟩:=Ch h3 (Li hfr hi h2)
 have hch:∃u,s[n]? = some u∧u.toNat=ch:=by
  simp only[LH,F7,Option.map_eq_some_iff]at hn;obtain⟨u,hu1,hu2⟩:=hn;refine⟨u,?_,hu2⟩;have hlt:n<s.data.toList.length:=(List.getElem?_eq_some_iff.1 hu1).1;have hlt':n<s.size:=by simpa[ByteArray.size_data]using hlt
  rw[FB hlt]at hu1;rw[getElem?_pos s n hlt'];rw[←hu1]
  congr 1
 obtain⟨u,hu1,rfl⟩:=hch;refine OpOK.quiet hR (v':=.int .u8 u.toNat) ?_ rfl;simp[execOp,ho,e1,e2,Instr.index,run_underlying hu,asIntOf,hu1]
end
end
section
variable [Globs]
theorem M4:∀{n:Nat} {l r:List V},Lr n l=some r→r=l.take n∧n≤l.length
 | 0,l,r,h=>by cases h;simp
 | n+1,[],r,h=>by cases h
 | n+1,v::l,r,h=>by
  simp only[Lr]at h;split at h
  ·rename_i q hq;cases h;obtain⟨h1,h2⟩:=M4 hq;exact⟨by simp[h1],by simp;omega⟩
  ·cases h
theorem VRs.drop {m:Map}:∀{n:Nat} {l:List V} {l':List Value},VRs m l l'→VRs m (l.drop n) (l'.drop n)
 | 0,l,l',h=>h
 | n+1,[],l',h=>by cases h;exact rfl
 | n+1,x::xs,l',h=>by obtain⟨y,ys,rfl,_,h3⟩:=h;exact VRs.drop (n:=n) h3
theorem VRs.take {m:Map}:∀{n:Nat} {l:List V} {l':List Value},VRs m l l'→VRs m (l.take n) (l'.take n)
 | 0,l,l',h=>by simp;exact rfl
 | n+1,[],l',h=>by cases h;exact rfl
 | n+1,x::xs,l',h=>by obtain⟨y,ys,rfl,h2,h3⟩:=h;exact⟨y,ys.take n,rfl,h2,VRs.take h3⟩
section
variable {P:Program} {o:Oper} {act:Act} {aw:AW} {w:World} {m:Map} {base N:Nat} {fr:Fr}
variable {t:TypeId} {g:Bool}
theorem IW (h:Sl P t=some g):(isAgg t).run P w = .ok g w:=by
 unfold Sl at h;split at h
 ·rename_i fs hu;cases h;simp[isAgg,run_underlying hu]
 ·rename_i n e hu;cases h;simp[isAgg,run_underlying hu]
 ·rename_i d h1 h2 hu;cases h;simp only[isAgg,Sem.run_bind,run_underlying hu,Result.andThen_ok];cases d<;>first|rfl|(exact absurd hu (h1 _))|(exact absurd hu (h2 _ _))
 ·cases h
variable {n:Nat}
theorem TY (h:sizeOf? P t=some n):(sizeOf t).run P w = .ok n w:=by
 obtain⟨i,h1,h2⟩:=Q8 h;simp[sizeOf,typeInfo,h1,h2]
variable {l:List V} {v:V}
theorem Jps {cs:Array Value}{off:Nat}(hl:VRs m l cs.toList)(hs:sizeOf? P t=some n)(hg:Sl P t=some g)(h:Cj l off n g=some v): ∃v',(part t cs off).run P w = .ok v' w∧VR m v v':=by
 unfold Cj at h;cases g with
 | true =>
  simp only[]at h;split at h
  ·rename_i r hr;cases h;obtain⟨h1,h2⟩:=M4 hr;refine⟨.agg (cs.extract off (off+n)),?_,_,rfl,?_⟩
   ·simp[part,IW hg,TY hs]
   ·rw[h1];have:=(hl.drop (n:=off)).take (n:=n);simpa[Array.toList_extract,List.extract_eq_take_drop]using this
  ·cases h
 | false =>
  simp only[List.head?_drop]at h;obtain⟨y,hy1,hy2⟩:=hl.get h;refine⟨y,?_,hy2⟩;have:cs[off]? = some y:=by simpa using hy1
  simp[part,IW hg,this]
variable {x:Operand} {a:Opd}
theorem JoE (hR:R aw w m base)(hfr:FR m N fr act.tmps){el:TypeId}{i:Operand}{c:Opd}{len:Nat}(ho:o.op = .index t x i)(hx:La x=some a)(hi:La i=some c)(hu:P.underlying t=some (.array len el))(hs:sizeOf? P el=some n)(hg:Sl P el=some g){j:Nat}{iv:V}(h1:a.ev fr=some (.agg l))(h2:c.ev fr=some iv)(h3:idx iv=some j)(hj:j<len)(h4:Cj l (j*n) n g=some v):OpOK P o act aw aw w m base (.val v):=by
 obtain⟨cs,e1,e3⟩:=Li hfr hx h1;obtain⟨k,e2⟩:=Ch h3 (Li hfr hi h2);obtain⟨v',q1,q2⟩:=Jps (P:=P) (w:=w) e3 hs hg h4;refine OpOK.quiet hR ?_ q2;simp[execOp,ho,e1,e2,Instr.index,run_underlying hu,asIntOf,hj,TY hs,q1]
theorem Jtc (hR:R aw w m base)(hfr:FR m N fr act.tmps){f:Nat}{fs:Array Field}{fd:Field}(ho:o.op = .field t x f)(hx:La x=some a)(hu:P.underlying t=some (.struct fs))(hf:fs[f]? = some fd)(hs:sizeOf? P fd.type=some n)(hg:Sl P fd.type=some g)(h1:a.ev fr=some (.agg l))(h4:Cj l fd.offset n g=some v): OpOK P o act aw aw w m base (.val v):=by
 obtain⟨cs,e1,e3⟩:=Li hfr hx h1;obtain⟨v',q1,q2⟩:=Jps (P:=P) (w:=w) e3 hs hg h4;refine OpOK.quiet hR ?_ q2;simp[execOp,ho,e1,Instr.field,run_underlying hu,hf,asAgg,q1]
def Jng (P:Program) (t:TypeId):EqTy→Prop
 | .bool=>P.underlying t=some .bool
 | .ptr=>∃e n,P.underlying t=some (.pointer e)∧sizeOf? P e=some (n+1)
 | .slice=>∃e,P.underlying t=some (.slice e)
 | .map=>∃k e,P.underlying t=some (.map k e)
 | .func=>∃a b c,P.underlying t=some (.func a b c)
 | .iface=>∃ms,P.underlying t=some (.interface ms)
variable {ty:EqTy} {b:V} {y:Value} {r:Bool}
theorem JuP (d:Nat)(ht:Jng P t ty){a:V}{x:Value}(hx:VR m a x)(hy:VR m b y)(h:eqV ty a b=some r): (Op.equalIn (d+1) t x y).run P w = .ok r w:=by
 unfold eqV at h;split at h
 case h_1=>cases h;cases hx;cases hy;simp[Op.equalIn,run_underlying ht]
 case h_2=>cases h;cases hx;cases hy;obtain⟨e,n,hu,hs⟩:=ht;simp[Op.equalIn,run_underlying hu]
 case h_3=>cases h;cases hx;obtain⟨e',q1,rfl⟩:=hy;obtain⟨e,n,hu,hs⟩:=ht;simp[Op.equalIn,run_underlying hu]
 case h_4=>cases h;cases hy;obtain⟨e',q1,rfl⟩:=hx;obtain⟨e,n,hu,hs⟩:=ht;simp[Op.equalIn,run_underlying hu]
 case h_5 =>
  split at h
  ·rename_i b o b' o' hb;subst hb;cases h;obtain⟨e1,q1,rfl⟩:=hx;obtain⟨e2,q2,rfl⟩:=hy;rw[q1]at q2;cases q2;obtain⟨e,n,hu,hs⟩:=ht
   have hbeq:((⟨e1.c,e1.s+o,none⟩:Addr)==⟨e1.c,e1.s+o',none⟩)=Nat.beq o o':=by
    rw[Bool.eq_iff_iff,beq_iff_eq,Nat.beq_eq];simp
   simp[Op.equalIn,run_underlying hu,TY hs,sameAddr,hbeq]
  ·cases h
 case h_6=>cases h;cases hx;cases hy;obtain⟨e,hu⟩:=ht;simp[Op.equalIn,run_underlying hu]
 case h_7 =>
  cases h;cases hx;obtain⟨e,hu⟩:=ht;obtain⟨e',q1,q2⟩:=hy;rename_i b off len cap;cases cap with
  | known c=>simp only[]at q2;subst q2;simp[Op.equalIn,run_underlying hu]
  | upTo z=>obtain⟨ad,cp,rfl,_⟩:=q2;simp[Op.equalIn,run_underlying hu]
 case h_8 =>
  cases h;cases hy;obtain⟨e,hu⟩:=ht;obtain⟨e',q1,q2⟩:=hx;rename_i b off len cap;cases cap with
  | known c=>simp only[]at q2;subst q2;simp[Op.equalIn,run_underlying hu]
  | upTo z=>obtain⟨ad,cp,rfl,_⟩:=q2;simp[Op.equalIn,run_underlying hu]
 case h_9=>cases h;cases hx;cases hy;obtain⟨k,e,hu⟩:=ht;simp[Op.equalIn,run_underlying hu]
 case h_10=>cases h;cases hx;obtain⟨e',q1,rfl⟩:=hy;obtain⟨k,e,hu⟩:=ht;simp[Op.equalIn,run_underlying hu]
 case h_11=>cases h;cases hy;obtain⟨e',q1,rfl⟩:=hx;obtain⟨k,e,hu⟩:=ht;simp[Op.equalIn,run_underlying hu]
 case h_12=>cases h;cases hx;cases hy;obtain⟨q,k,e,hu⟩:=ht;simp[Op.equalIn,run_underlying hu]
 case h_13=>cases h;cases hx;obtain⟨p1,p2,rfl,_⟩:=hy;obtain⟨q,k,e,hu⟩:=ht;simp[Op.equalIn,run_underlying hu]
 case h_14=>cases h;cases hy;obtain⟨p1,p2,rfl,_⟩:=hx;obtain⟨q,k,e,hu⟩:=ht;simp[Op.equalIn,run_underlying hu]
 case h_15=>cases h;cases hx;cases hy;obtain⟨e,hu⟩:=ht;simp[Op.equalIn,run_underlying hu]
 case h_16=>cases h;cases hx;obtain⟨p1,rfl,_⟩:=hy;obtain⟨e,hu⟩:=ht;simp[Op.equalIn,run_underlying hu]
 case h_17=>cases h;cases hy;obtain⟨p1,rfl,_⟩:=hx;obtain⟨e,hu⟩:=ht;simp[Op.equalIn,run_underlying hu]
 case h_18=>cases h
theorem JjA (h:Ce x=true):x = .const .nilIface:=by
 unfold Ce at h;split at h
 ·rfl
 ·cases h
theorem Js7 {op:BinOp}{ox oy:Operand}{a:V}{x:Value}(hx:VR m a x)(hy:VR m b y)(h:eqV ty a b=some r)(hn:ty = .iface→Ce ox=true∨Ce oy=true):eqGuard op t ox oy x y=pure ():=by
 unfold eqV at h;split at h
 case h_1=>cases hx;exact eqGuard_at_bool ..
 case h_2=>cases hx;exact eqGuard_at_pointer ..
 case h_3=>cases hx;exact eqGuard_at_pointer ..
 case h_4=>obtain⟨e',q1,rfl⟩:=hx;exact eqGuard_at_pointer ..
 case h_5=>obtain⟨e',q1,rfl⟩:=hx;exact eqGuard_at_pointer ..
 case h_6=>cases hx;exact eqGuard_at_slice ..
 case h_7=>cases hx;exact eqGuard_at_slice ..
 case h_8 =>
  obtain⟨e',q1,q2⟩:=hx;rename_i b off len cap;cases cap with
  | known c=>simp only[]at q2;subst q2;exact eqGuard_at_slice ..
  | upTo z=>obtain⟨ad,cp,rfl,_⟩:=q2;exact eqGuard_at_slice ..
 case h_9=>cases hx;exact eqGuard_at_map ..
 case h_10=>cases hx;exact eqGuard_at_map ..
 case h_11=>obtain⟨e',q1,rfl⟩:=hx;exact eqGuard_at_map ..
 case h_12=>cases hx;exact eqGuard_at_nilFunc ..
 case h_13=>cases hx;exact eqGuard_at_nilFunc ..
 case h_14=>obtain⟨p1,p2,rfl,_⟩:=hx;exact eqGuard_at_func ..
 case h_15 =>
  cases hx;cases hy;rcases hn rfl with h1|h1
  ·rw[JjA h1];exact eqGuard_nil_constL ..
  ·rw[JjA h1];exact eqGuard_nil_constR ..
 case h_16=>cases hx;obtain⟨p1,rfl,_⟩:=hy;exact eqGuard_nil_iface ..
 case h_17=>obtain⟨p1,rfl,_⟩:=hx;exact eqGuard_at_iface ..
 case h_18=>cases h
theorem Jop {a:V}{x:Value}(hx:VR m a x)(hy:VR m b y)(h:eqV ty a b=some r)(neg:Bool):
  binOp (if neg then .neq else .eql) t x y=(do pure (.bool (neg != (←Op.equal t x y))):Sem Value):=by
 unfold eqV at h;have f1:∀z:Bool,(false != z)=z:=by decide
 have f2:∀z:Bool,(true != z) = !z:=by decide
 split at h
 case h_1=>cases hx;cases hy;cases neg<;>simp[binOp,f1,f2]
 case h_2=>cases hx;cases hy;cases neg<;>simp[binOp,f1,f2]
 case h_3=>cases hx;obtain⟨e',q1,rfl⟩:=hy;cases neg<;>simp[binOp,f1,f2]
 case h_4=>cases hy;obtain⟨e',q1,rfl⟩:=hx;cases neg<;>simp[binOp,f1,f2]
 case h_5=>obtain⟨e',q1,rfl⟩:=hx;obtain⟨e',q1,rfl⟩:=hy;cases neg<;>simp[binOp,f1,f2]
 case h_6=>cases hx;cases hy;cases neg<;>simp[binOp,f1,f2]
 case h_7 =>
  cases hx;obtain⟨e',q1,q2⟩:=hy;rename_i b off len cap;cases cap with
  | known c=>simp only[]at q2;subst q2;cases neg<;>simp[binOp,f1,f2]
  | upTo z=>obtain⟨ad,cp,rfl,_⟩:=q2;cases neg<;>simp[binOp,f1,f2]
 case h_8 =>
  cases hy;obtain⟨e',q1,q2⟩:=hx;rename_i b off len cap;cases cap with
  | known c=>simp only[]at q2;subst q2;cases neg<;>simp[binOp,f1,f2]
  | upTo z=>obtain⟨ad,cp,rfl,_⟩:=q2;cases neg<;>simp[binOp,f1,f2]
 case h_9=>cases hx;cases hy;cases neg<;>simp[binOp,f1,f2]
 case h_10=>cases hx;obtain⟨e',q1,rfl⟩:=hy;cases neg<;>simp[binOp,f1,f2]
 case h_11=>cases hy;obtain⟨e',q1,rfl⟩:=hx;cases neg<;>simp[binOp,f1,f2]
 case h_12=>cases hx;cases hy;cases neg<;>simp[binOp,f1,f2]
 case h_13=>cases hx;obtain⟨p1,p2,rfl,_⟩:=hy;cases neg<;>simp[binOp,f1,f2]
 case h_14=>cases hy;obtain⟨p1,p2,rfl,_⟩:=hx;cases neg<;>simp[binOp,f1,f2]
 case h_15=>cases hx;cases hy;cases neg<;>simp[binOp,f1,f2]
 case h_16=>cases hx;obtain⟨p1,rfl,_⟩:=hy;cases neg<;>simp[binOp,f1,f2]
 case h_17=>cases hy;obtain⟨p1,rfl,_⟩:=hx;cases neg<;>simp[binOp,f1,f2]
 case h_18=>cases h
theorem Jv2 (hR:R aw w m base)(hfr:FR m N fr act.tmps){neg:Bool}{yt:TypeId}{y:Operand}{b:Opd}(ho:o.op = .binOp (if neg then .neq else .eql) t x y yt)(hx:La x=some a)(hy:La y=some b)(ht:Jng P t ty)(hn:ty = .iface→Ce x=true∨Ce y=true){va vb:V}(h1:a.ev fr=some va)(h2:b.ev fr=some vb)(h:eqV ty va vb=some r):OpOK P o act aw aw w m base (.val (.bool (neg != r))):=by
 have e1:=Li hfr hx h1;have e2:=Li hfr hy h2;refine OpOK.quiet hR (v':=.bool (neg != r)) ?_ rfl;have e3:=JuP (P:=P) (w:=w) 9999 ht e1 e2 h;have e4:(Op.equal t (act.eval x) (act.eval y)).run P w = .ok r w:=e3;simp only[execOp,ho,Js7 e1 e2 h hn,Jop e1 e2 h neg];simp[e4]
end
end
section
variable [Globs]
section
variable {P:Program} {o:Oper} {act:Act} {aw:AW} {w:World} {m:Map} {base N:Nat} {fr:Fr}
variable {t:TypeId}
theorem Jn8 {s:Sc}(h:Cr P t=some s):Sl P t=some false:=by
 unfold Cr at h;unfold Sl;split at h
 ·rename_i hu;rw[hu]
 ·rename_i hu;rw[hu]
 ·rename_i hu;rw[hu]
 ·cases h
variable {r:Bool}
theorem JiJ (d:Nat){s:Sc}(ht:Cr P t=some s){a b:V}{x y:Value}(hx:VR m a x)(hy:VR m b y)(h:Cg s a b=some r): (Op.equalIn (d+1) t x y).run P w = .ok r w:=by
 unfold Cg at h;unfold Cr at ht;split at h
 ·split at h
  ·rename_i k a k' b hk;subst hk;cases h;cases hx;cases hy;split at ht
   ·rename_i hu;exact run_equalIn_int w d t _ _ _ _ hu
   all_goals cases ht
  ·cases h
 ·cases h;obtain⟨s,rfl,rfl⟩:=hx;obtain⟨s',rfl,rfl⟩:=hy;split at ht
  ·cases ht
  ·rename_i hu;rw[run_equalIn_string w d t _ _ hu,Qk]
  all_goals cases ht
 ·cases h;cases hx;cases hy;split at ht
  ·cases ht
  ·cases ht
  ·rename_i hu;exact run_equalIn_bool w d t _ _ hu
  ·cases ht
 ·cases h
theorem Jju (d:Nat){xs ys:Array Value}:∀{fs:List Field} {n:Nat} {l:List Sc} {a b:List V} {r:Bool},IA P fs n=some l→VRs m a (xs.toList.drop n)→VRs m b (ys.toList.drop n)→ TR l a b=some r→(Op.eqFields (d+1) xs ys fs).run P w = .ok r w
 | [],n,l,a,b,r,hf,ha,hb,h=>by
  cases hf;unfold TR at h;split at h
  ·cases h;rfl
  ·rename_i h1;cases h1
  ·cases h
 | f::fs,n,l,a,b,r,hf,ha,hb,h=>by
  simp only[IA]at hf;split at hf
  ·rename_i s q hnm hoff hs hq;cases hf;have hname:f.name≠"_" := by simpa using hnm
   have hoff':f.offset=n:=Nat.eq_of_beq_eq_true hoff;cases a with
   | nil=>simp[TR]at h
   | cons va ar =>
    cases b with
    | nil=>simp[TR]at h
    | cons vb bs =>
     obtain⟨x,xr,hx1,hx2,hx3⟩:=ha;obtain⟨y,yr,hy1,hy2,hy3⟩:=hb
     have gx:xs[n]? = some x:=by
      have:=congrArg (·[0]?) hx1;simpa using this
     have gy:ys[n]? = some y:=by
      have:=congrArg (·[0]?) hy1;simpa using this
     have dx:xs.toList.drop (n+1)=xr:=by
      have:=congrArg (List.drop 1) hx1;simpa[List.drop_drop,KA]using this
     have dy:ys.toList.drop (n+1)=yr:=by
      have:=congrArg (List.drop 1) hy1;simpa[List.drop_drop,KA]using this
     have hg:=Jn8 hs;have p1:(part f.type xs f.offset).run P w = .ok x w:=by simp[part,IW hg,hoff',gx]
     have p2:(part f.type ys f.offset).run P w = .ok y w:=by simp[part,IW hg,hoff',gy]
     simp only[Op.eqFields,if_pos hname,Sem.run_bind,p1,p2,Result.andThen_ok];simp only[TR]at h;split at h
     ·rename_i he;rw[JiJ d hs hx2 hy2 he];simp only[Result.andThen_ok,Bool.not_true,FM,if_false];exact Jju d hq (by rw[dx];exact hx3) (by rw[dy];exact hy3) h
     ·rename_i he;cases h;rw[JiJ d hs hx2 hy2 he];simp
     ·cases h
  ·cases hf
variable {fs:Array Field} {l:List Sc}
theorem Jjt (d:Nat)(hu:P.underlying t=some (.struct fs))(hst:P.stoodInHeld t=false)(hf:IA P fs.toList 0=some l){xs ys:Array Value}{a b:List V}(ha:VRs m a xs.toList)(hb:VRs m b ys.toList)(h:TR l a b=some r):(Op.equalIn (d+2) t (.agg xs) (.agg ys)).run P w = .ok r w:=by
 have hfo:P.fieldsOf t=fs:=by simp[Program.fieldsOf,hu]
 rw[run_equalIn_struct w (d+1) t xs ys (by rw[hfo];exact hu) hst,hfo];exact Jju d hf (by simpa using ha) (by simpa using hb) h
variable {x:Operand} {a:Opd}
theorem Js6 (hR:R aw w m base)(hfr:FR m N fr act.tmps){neg:Bool}{yt:TypeId}{y:Operand}{b:Opd}(ho:o.op = .binOp (if neg then .neq else .eql) t x y yt)(hx:La x=some a)(hy:La y=some b)(hu:P.underlying t=some (.struct fs))(hst:P.stoodInHeld t=false)(hg:P.eqGuardType P.depth t=false)(hf:IA P fs.toList 0=some l){va vb:List V}(h1:a.ev fr=some (.agg va))(h2:b.ev fr=some (.agg vb))(h:TR l va vb=some r):OpOK P o act aw aw w m base (.val (.bool (neg != r))):=by
 obtain⟨xs,e1,e3⟩:=Li hfr hx h1;obtain⟨ys,e2,e4⟩:=Li hfr hy h2;have e5:(Op.equalIn 10000 t (.agg xs) (.agg ys)).run P w = .ok r w:=Jjt (P:=P) (w:=w) 9998 hu hst hf e3 e4 h;refine OpOK.quiet hR (v':=.bool (neg != r)) ?_ rfl;have e6:=run_eqGuard_agg w (if neg then .neq else .eql) t x y xs ys hg;cases neg with
 | false =>
  simp only[execOp,ho,Sem.run_bind,e1,e2];simp only[FM,if_false]at e6 ⊢;rw[e6];simp only[Result.andThen_ok,run_eql_struct,e5];cases r<;>rfl
 | true =>
  simp only[execOp,ho,Sem.run_bind,e1,e2];simp only[if_true]at e6 ⊢;rw[e6];simp only[Result.andThen_ok,run_neq_struct,e5];cases r<;>rfl
variable {d:TypeDesc} {v:V}
theorem JqC (hR:R aw w m base)(hfr:FR m N fr act.tmps)(ho:o.op = .makeInterface t x)(hx:La x=some a)(hu:P.underlying t=some d)(hd:∀ms,d≠.interface ms)(h1:a.ev fr=some v):OpOK P o act aw aw w m base (.val (.iface t v)):=by
 refine OpOK.quiet hR (v':=.iface t (act.eval x)) ?_ ⟨_,rfl,Li hfr hx h1⟩;simp only[execOp,ho,Instr.makeInterface,Sem.run_bind,run_underlying hu,Result.andThen_ok];cases d<;>first|rfl|exact absurd rfl (hd _)
theorem Iy {z:V}(hz:BG P t=some z):∃z',(zeroValue t).run P w = .ok z' w∧VR m z z':=by
 unfold BG at hz;split at hz
 ·rename_i i hi;split at hz
  ·rename_i z' hz';exact⟨z',by simp[zeroValue,typeInfo,hi,hz'],Juc hz⟩
  ·cases hz
 ·cases hz
theorem N8 (hR:R aw w m base)(hfr:FR m N fr act.tmps){xt:TypeId}{z:V}{ok:Bool}(ho:o.op = .typeAssert x xt t ok)(hx:La x=some a)(hu:P.underlying t=some d)(hd:∀ms,d≠.interface ms)
 (hz:BG P t=some z){r:V}(h1:a.ev fr=some v)
 (h:(∃u,v = .iface t u∧r=(match (generalizing:=false) ok with|true=> .tuple [u,.bool true]|false=>u))∨(ok=true∧r = .tuple [z,.bool false]∧(v = .niliface∨∃t' u,v = .iface t' u∧t'≠t))):
  OpOK P o act aw aw w m base (.val r):=by
 have e1:=Li hfr hx h1;obtain⟨z',hz1,hz2⟩:=Iy (P:=P) (w:=w) (m:=m) hz;rcases h with⟨u,rfl,rfl⟩|⟨rfl,rfl,hv⟩
 ·obtain⟨y,e2,e3⟩:=e1;cases ok with
  | true =>
   refine OpOK.quiet hR (v':=.tuple #[y,.bool true]) ?_ ⟨_,rfl,y,[.bool true],rfl,e3,_,[],rfl,rfl,rfl⟩;simp only[execOp,ho,Instr.typeAssert,Sem.run_bind,run_underlying hu,Result.andThen_ok,e2];cases d<;>first|(simp;done)|exact absurd rfl (hd _)
  | false =>
   refine OpOK.quiet hR (v':=y) ?_ e3;simp only[execOp,ho,Instr.typeAssert,Sem.run_bind,run_underlying hu,Result.andThen_ok,e2];cases d<;>first|(simp;done)|exact absurd rfl (hd _)
 ·refine OpOK.quiet hR (v':=.tuple #[z',.bool false]) ?_ ⟨_,rfl,z',[.bool false],rfl,hz2,_,[],rfl,rfl,rfl⟩;rcases hv with rfl|⟨t',u,rfl,hne⟩
  ·cases hq:act.eval x<;>rw[hq]at e1<;>cases e1;simp only[execOp,ho,Instr.typeAssert,Sem.run_bind,run_underlying hu,Result.andThen_ok,hq];cases d<;>first|(simp[hz1];done)|exact absurd rfl (hd _)
  ·obtain⟨y,e2,e3⟩:=e1;simp only[execOp,ho,Instr.typeAssert,Sem.run_bind,run_underlying hu,Result.andThen_ok,e2];cases d<;>first|(simp[hz1,hne];done)|exact absurd rfl (hd _)
theorem JrS (hR:R aw w m base)(hfr:FR m N fr act.tmps){fn:Fn}{first cap:Array Operand}{f c:List Opd}(ho:o.op = .makeFunc fn first cap)(hf:Ic first.toList=some f)(hc:Ic cap.toList=some c){vf vc:List V}(h1:evs fr f=some vf)(h2:evs fr c=some vc):OpOK P o act aw aw w m base (.val (.func fn vf vc)):=by
 refine OpOK.quiet hR (v':=.func fn (first.map act.eval) (cap.map act.eval)) ?_ ⟨_,_,rfl,by simpa using DC hfr hf h1,by simpa using DC hfr hc h2⟩;simp[execOp,ho,Instr.makeFunc]
theorem Jqd (hR:R aw w m base)(hfr:FR m N fr act.tmps){i:Nat}(ho:o.op = .extract x i)(hx:La x=some a){l:List V}(h1:a.ev fr=some (.tuple l))(h2:l[i]? = some v): OpOK P o act aw aw w m base (.val v):=by
 obtain⟨vs,e1,e2⟩:=Li hfr hx h1;obtain⟨y,q1,q2⟩:=e2.get h2;refine OpOK.quiet hR (v':=y) ?_ q2;have:vs[i]? = some y:=by simpa using q1
 simp[execOp,ho,e1,Instr.extract,this]
end
end
section
variable [Globs]
section
variable {P:Program} {o:Oper} {act:Act} {aw:AW} {w:World} {m:Map} {base N:Nat} {fr:Fr}
variable {args:Array Operand} {ts:Array TypeId}
theorem TD {b:Builtin}{vs:Array Value}{s:Sem Value}{v:Value}{w':World}(ho:o.op = .call {callee:=.builtin b,args:=args,argTypes:=ts})
 (hvs:args.map act.eval=vs)(hb:∀c,builtin b ts o.type c vs=(do pure (.value (←s)):Sem Next))(hs:s.run P w = .ok v w'):(execOp act.eval o).run P w = .ok (.value v) w':=by
 simp only[execOp,ho,resolve,invoke,Sem.run_bind,Sem.run_pure,Result.andThen_ok,hvs];rw[hb];simp[hs]
variable {t:TypeId} {x:Operand}
theorem Nz (ht:ts.toList=[t])(ha:args.toList=[x]):ts = #[t]∧args = #[x]:=by
 cases ts;cases args;simp_all
theorem len_ok (hR:R aw w m base)(hfr:FR m N fr act.tmps){a:Opd}{d:TypeDesc}(ho:o.op = .call {callee:=.builtin .len,args:=args,argTypes:=ts})
 (ht:ts.toList=[t])(ha:args.toList=[x])(hx:La x=some a)(hu:P.underlying t=some d)(hd:d = .string∨∃e,d = .slice e){v:V}(h1:a.ev fr=some v){n:Nat}
 (h:((∃l,v = .str l∧n=l.length)∧d = .string)∨(((∃b off cap,v = .slice b off n cap)∨(v = .nilslice∧n=0))∧∃e,d = .slice e)):OpOK P o act aw aw w m base (.val (.int .i64 (Fq n))):=by
 obtain⟨rfl,rfl⟩:=Nz ht ha;have e1:=Li hfr hx h1;refine OpOK.quiet hR (v':=.int .i64 (Fq n)) ?_ rfl;refine TD ho (s:=Builtin.len_ #[t] o.type #[act.eval x]) Fj (fun _=>rfl) ?_;rcases h with⟨⟨l,rfl,rfl⟩,rfl⟩|⟨⟨b,off,cap,rfl⟩|⟨rfl,rfl⟩,e,rfl⟩
 ·obtain⟨s,e2,rfl⟩:=e1;simp[Builtin.len_,e2,run_underlying hu,goInt,Cb]
 ·obtain⟨e',_,e2⟩:=e1;cases cap with
  | known c=>simp only[]at e2;simp[Builtin.len_,e2,run_underlying hu,goInt]
  | upTo z=>obtain⟨ad,cp,e3,_⟩:=e2;simp[Builtin.len_,e3,run_underlying hu,goInt]
 ·cases hq:act.eval x<;>rw[hq]at e1<;>cases e1;simp[Builtin.len_,hq,run_underlying hu,goInt]
variable {e:TypeId}
theorem JrN (hR:R aw w m base){n:Nat}(ho:o.op = .call {callee:=.builtin .len,args:=args,argTypes:=ts})
 (ht:ts.toList=[t])(ha:args.toList=[x])(hu:P.underlying t=some (.array n e)):OpOK P o act aw aw w m base (.val (.int .i64 (Fq n))):=by
 obtain⟨rfl,rfl⟩:=Nz ht ha;refine OpOK.quiet hR (v':=.int .i64 (Fq n)) ?_ rfl;refine TD ho (s:=Builtin.len_ #[t] o.type #[act.eval x]) Fj (fun _=>rfl) ?_;simp[Builtin.len_,run_underlying hu,goInt]
theorem Jrh (hR:R aw w m base)(hfr:FR m N fr act.tmps){a:Opd}(ho:o.op = .call {callee:=.builtin .cap,args:=args,argTypes:=ts})
 (ht:ts.toList=[t])(ha:args.toList=[x])(hx:La x=some a)(hu:P.underlying t=some (.slice e)){v:V}(h1:a.ev fr=some v){c:Nat}
 (h:(∃b off n,v = .slice b off n (.known c))∨(v = .nilslice∧c=0)):OpOK P o act aw aw w m base (.val (.int .i64 (Fq c))):=by
 obtain⟨rfl,rfl⟩:=Nz ht ha;have e1:=Li hfr hx h1;refine OpOK.quiet hR (v':=.int .i64 (Fq c)) ?_ rfl;refine TD ho (s:=Builtin.cap_ #[t] o.type #[act.eval x]) Fj (fun _=>rfl) ?_;rcases h with⟨b,off,n,rfl⟩|⟨rfl,rfl⟩
 ·obtain⟨e',_,e2⟩:=e1;simp only[]at e2;simp[Builtin.cap_,e2,run_underlying hu,goInt]
 ·cases hq:act.eval x<;>rw[hq]at e1<;>cases e1;simp[Builtin.cap_,hq,run_underlying hu,goInt]
def OV (m:Map):Option Nat→Option Value→Prop
 | none,v=>v=none
 | some n,v=>∃k,v=some (.int k (n:Int))
theorem IR (hfr:FR m N fr act.tmps){x:Option Operand}{a:Option Opd}(hx:TI x=some a){n:Option Nat}(h:Be fr a=some n):OV m n (x.map act.eval):=by
 cases x with
 | none=>cases hx;cases h;rfl
 | some x =>
  simp only[TI]at hx;split at hx
  ·rename_i a' ha;cases hx;simp only[Be]at h;split at h
   ·rename_i v hv;split at h
    ·rename_i k hk;cases h;obtain⟨kk,e⟩:=Ch hk (Li hfr ha hv);exact⟨kk,by simp[e]⟩
    ·cases h
   ·cases h
  ·cases hx
theorem Mw {isS:Bool}{len cap:Nat}{lo hi mx:Option Nat}{lo' hi' mx':Option Value}(hlo:OV m lo lo')(hhi:OV m hi hi')(hmx:OV m mx mx')(h1:mx.getD cap≤cap)(h2:hi.getD len≤mx.getD cap∨(hi=none∧mx=none))(h3:lo.getD 0≤hi.getD len)(h4:mx.isSome=true→hi.isSome=true): (Instr.sliceBounds isS len cap lo' hi' mx').run P w = .ok (lo.getD 0,hi.getD len,mx.getD cap) w:=by
 have sb:∀(k:IntKind) (n y:Nat) (c:BoundsCode),n≤y→(Instr.sliceBound (.int k (n:Int)) y c).run P w = .ok n w:=by
  intro k n y c h;have:=run_sliceBound (P:=P) w k (n:Int) y c Fh Fh;simpa using this
 cases mx with
 | none =>
  cases hmx;cases hi with
  | none =>
   cases hhi;cases lo with
   | none=>cases hlo;simp[Instr.sliceBounds]
   | some l=>obtain⟨k,rfl⟩:=hlo;simp only[Option.getD_some,Option.getD_none]at h3;simp[Instr.sliceBounds,sb k l len _ h3]
  | some h =>
   obtain⟨k,rfl⟩:=hhi;have h2':h≤cap:=by simpa using h2
   cases lo with
   | none=>cases hlo;simp[Instr.sliceBounds,sb k h cap _ h2']
   | some l=>obtain⟨k2,rfl⟩:=hlo;simp only[Option.getD_some]at h3;simp[Instr.sliceBounds,sb k h cap _ h2',sb k2 l h _ h3]
 | some q =>
  obtain⟨k0,rfl⟩:=hmx;cases hi with
  | none=>simp at h4
  | some h =>
   obtain⟨k,rfl⟩:=hhi;simp only[Option.getD_some]at h1 h3;have h2':h≤q:=by simpa using h2
   cases lo with
   | none=>cases hlo;simp[Instr.sliceBounds,sb k0 q cap _ h1,sb k h q _ h2']
   | some l=>obtain⟨k2,rfl⟩:=hlo;simp only[Option.getD_some]at h3;simp[Instr.sliceBounds,sb k0 q cap _ h1,sb k h q _ h2',sb k2 l h _ h3]
end
end
section
variable [Globs]
theorem getElem?_over:∀{l:List V} {off:Nat} {vs l':List V},over l off vs=some l'→l'.length=l.length∧off+vs.length≤l.length∧∀i,l'[i]? = if off≤i∧i<off+vs.length then vs[i-off]? else l[i]?
 | l,0,[],l',h=>by
  have:l'=l:=by cases l<;>simp[over]at h<;>first|exact h|exact h.symm
  subst this;refine⟨rfl,by simp,fun i=>?_⟩;rw[if_neg Fj]
 | [],0,v::vs,l',h=>by simp[over]at h
 | x::l,0,v::vs,l',h=>by
  simp only[over]at h;split at h
  ·rename_i r hr;cases h;obtain⟨h1,h2,h3⟩:=getElem?_over hr;refine⟨by simp[h1],by simp;omega,fun i=>?_⟩;cases i with
   | zero=>simp
   | succ i =>
    simp only[Kh,h3];by_cases hi:i<vs.length
    ·rw[if_pos Fh,if_pos (by simp;omega)];simp
    ·rw[if_neg Fh,if_neg (by simp;omega)]
  ·cases h
 | [],off+1,vs,l',h=>by cases vs<;>simp[over]at h
 | x::l,off+1,vs,l',h=>by
  simp only[over]at h;split at h
  ·rename_i r hr;cases h;obtain⟨h1,h2,h3⟩:=getElem?_over hr;refine⟨by simp[h1],by simp;omega,fun i=>?_⟩;cases i with
   | zero=>simp
   | succ i =>
    simp only[Kh,h3];by_cases hi:off≤i∧i<off+vs.length
    ·rw[if_pos hi,if_pos Fh];congr 1;omega
    ·rw[if_neg hi,if_neg Fh]
  ·cases h
theorem VR.cells {m:Map}{v:V}{x:Value}(h:VR m v x):VRs m v.cells x.cells.toList:=by
 cases v<;>simp only[V.cells]
 case agg l=>obtain⟨a,rfl,h2⟩:=h;exact h2
 case undef=>cases h;exact⟨_,[],rfl,rfl,rfl⟩
 case bool=>cases h;exact⟨_,[],rfl,rfl,rfl⟩
 case int=>cases h;exact⟨_,[],rfl,rfl,rfl⟩
 case nilptr=>cases h;exact⟨_,[],rfl,rfl,rfl⟩
 case nilslice=>cases h;exact⟨_,[],rfl,rfl,rfl⟩
 case nilmap=>cases h;exact⟨_,[],rfl,rfl,rfl⟩
 case nilfunc=>cases h;exact⟨_,[],rfl,rfl,rfl⟩
 case niliface=>cases h;exact⟨_,[],rfl,rfl,rfl⟩
 case str=>obtain⟨s,rfl,h2⟩:=h;exact⟨_,[],rfl,⟨s,rfl,h2⟩,rfl⟩
 case ptr=>obtain⟨e,h1,rfl⟩:=h;exact⟨_,[],rfl,⟨e,h1,rfl⟩,rfl⟩
 case map=>obtain⟨e,h1,rfl⟩:=h;exact⟨_,[],rfl,⟨e,h1,rfl⟩,rfl⟩
 case iface=>obtain⟨y,rfl,h2⟩:=h;exact⟨_,[],rfl,⟨y,rfl,h2⟩,rfl⟩
 case func=>obtain⟨f',c',rfl,h2,h3⟩:=h;exact⟨_,[],rfl,⟨f',c',rfl,h2,h3⟩,rfl⟩
 case tuple=>obtain⟨a,rfl,h2⟩:=h;exact⟨_,[],rfl,⟨a,rfl,h2⟩,rfl⟩
 case slice b off len cap =>
  have h0:=h;obtain⟨e,h1,h2⟩:=h;cases cap with
  | known c=>simp only[]at h2;subst h2;exact⟨_,[],rfl,h0,rfl⟩
  | upTo z=>obtain⟨ad,cp,rfl,h3⟩:=h2;exact⟨_,[],rfl,h0,rfl⟩
theorem Jit (off:Nat):∀(vs:List Value) (k:Nat) (cs:Array Value),((vs.zipIdx k).foldl (fun cs (p:Value×Nat)=>cs.setIfInBounds (off+p.2) p.1) cs).size=cs.size∧ ∀i,off+k+vs.length≤cs.size→((vs.zipIdx k).foldl (fun cs (p:Value×Nat)=>cs.setIfInBounds (off+p.2) p.1) cs)[i]? = if off+k≤i∧i<off+k+vs.length then vs[i-(off+k)]? else cs[i]?
 | [],k,cs=>by
  refine⟨by simp,fun i _=>?_⟩;rw[if_neg Fj];simp
 | v::vs,k,cs=>by
  obtain⟨h1,h2⟩:=Jit off vs (k+1) (cs.setIfInBounds (off+k) v);simp only[List.zipIdx_cons,Ku];refine⟨by rw[h1];simp,fun i hi=>?_⟩;simp only[FC]at hi ⊢;rw[h2 i (by simp;omega)];by_cases c1:off+(k+1)≤i∧i<off+(k+1)+vs.length
  ·rw[if_pos c1,if_pos Fh];have:i-(off+k)=(i-(off+(k+1)))+1:=Fh;rw[this,Kh]
  ·rw[if_neg c1];by_cases c2:i=off+k
   ·subst c2;rw[if_pos Fh];have:off+k<cs.size:=Fh;simp[this]
   ·rw[if_neg Fh,Array.getElem?_setIfInBounds_ne Fh]
section
variable {P:Program} {o:Oper} {act:Act} {aw:AW} {w:World} {m:Map} {base N:Nat} {fr:Fr}
variable {esz b off len:Nat} {cap:Cap} {r:V}
theorem Jmj {x:Value}(hx:VR m (.slice b off len cap) x){lo hi mx:Option Nat}(h:TS esz b off len cap lo hi mx=some r): ∃a ln cp,x = .slice (some a) ln cp∧ln=len∧mx.getD cp≤cp∧(hi.getD len≤mx.getD cp∨(hi=none∧mx=none))∧lo.getD 0≤hi.getD len∧(mx.isSome=true→hi.isSome=true)∧ VR m r (.slice (some (if mx.getD cp=lo.getD 0 then a else a.add (lo.getD 0*esz))) (hi.getD len-lo.getD 0) (mx.getD cp-lo.getD 0)):=by
 obtain⟨e,hm,h2⟩:=hx;cases cap with
 | known c =>
  simp only[]at h2;subst h2;simp only[TS]at h;split at h
  ·rename_i hc;cases h;refine⟨_,_,_,rfl,rfl,hc.1,.inl hc.2.1,hc.2.2.1,hc.2.2.2,e,hm,?_⟩;simp only[]
   congr 1
   split<;>simp[Addr.add_lit,Kj]
  ·cases h
 | upTo z =>
  obtain⟨ad,cp,rfl,hle,hcase⟩:=h2;cases mx with
  | none =>
   simp only[TS]at h;split at h
   ·rename_i hc;obtain⟨c1,c2,c3⟩:=hc;subst c3;cases h;refine⟨_,_,_,rfl,rfl,FH _,.inl (by simp only[Option.getD_none];omega),c2,by simp,e,hm,_,_,rfl,?_,?_⟩
    ·simp only[Option.getD_none];omega
    ·simp only[Option.getD_none];by_cases hcl:cp=lo.getD 0
     ·right;rcases hcase with⟨rfl,htot⟩|h0
      ·rw[←hcl];omega
      ·have:lo.getD 0=0:=Fh;rw[this];omega
     ·left;rw[if_neg hcl];rcases hcase with⟨rfl,htot⟩|h0
      ·refine⟨by simp[Addr.add_lit,Kj],?_⟩;have:cp=lo.getD 0+(cp-lo.getD 0):=Fh;have h5:cp*z=lo.getD 0*z+(cp-lo.getD 0)*z:=by rw[←Nat.add_mul];congr 1
       omega
      ·omega
   ·cases h
  | some q =>
   simp only[TS]at h;split at h
   ·rename_i hc;obtain⟨c1,c2,c3,c4,c5⟩:=hc;cases h;refine⟨_,_,_,rfl,rfl,by simp only[Option.getD_some];omega,.inl c2,c3,fun _=>c5,e,hm,?_⟩;simp only[Option.getD_some];rcases hcase with⟨rfl,htot⟩|h0
    ·by_cases hq:q=lo.getD 0
     ·have h00:lo.getD 0=0:=Fh;rw[if_pos hq,h00,Nat.zero_mul,KF]
     ·rw[if_neg hq];simp[Addr.add_lit,Kj]
    ·omega
   ·cases h
theorem Jsi (hR:R aw w m base){x:Value}(hx:VR m (.slice b off len cap) x){lo hi mx:Option Nat}(h:aw.sliceW esz b off len cap lo hi mx=some r): ∃a ln cp,x = .slice (some a) ln cp∧ln=len∧mx.getD cp≤cp∧(hi.getD len≤mx.getD cp∨(hi=none∧mx=none))∧lo.getD 0≤hi.getD len∧(mx.isSome=true→hi.isSome=true)∧ VR m r (.slice (some (if mx.getD cp=lo.getD 0 then a else a.add (lo.getD 0*esz))) (hi.getD len-lo.getD 0) (mx.getD cp-lo.getD 0)):=by
 unfold AW.sliceW at h;split at h
 ·rename_i v hv;cases h;exact Jmj hx hv
 ·cases cap with
  | known c=>cases h
  | upTo e =>
   cases hi with
   | none=>cases h
   | some hh =>
    cases mx with
    | some q=>cases h
    | none =>
     simp only[AW.sliceUp]at h;split at h
     ·rename_i l sh hbk;split at h
      ·rename_i hc;obtain⟨hal,rfl,c2,c3,c4⟩:=hc;cases h;obtain⟨en,hm,ad,cp,rfl,hle,hcase⟩:=hx;obtain⟨cur,tt,l1,hi',p1,p2,p3,p4,p5⟩:=hR.blk b en _ hm hbk hal;rcases hcase with⟨rfl,htot⟩|h0
       ·have hroom:hh≤cp:=by
         apply Nat.le_of_mul_le_mul_right (c:=e) _ c2;omega
        refine⟨_,_,_,rfl,rfl,FH _,.inl (by simp only[Option.getD_none,Option.getD_some];exact hroom),by simp only[Option.getD_some];omega,by simp,en,hm,_,_,rfl,?_,.inl ⟨?_,?_⟩⟩
        ·simp only[Option.getD_none,Option.getD_some];omega
        ·simp only[Option.getD_none];rw[if_neg Fh];simp[Addr.add_lit,Kj]
        ·simp only[Option.getD_none];have:cp=lo.getD 0+(cp-lo.getD 0):=Fh;have h5:cp*e=lo.getD 0*e+(cp-lo.getD 0)*e:=by rw[←Nat.add_mul];congr 1
         omega
       ·have:0<hh*e:=Nat.mul_pos Fh c2;omega
      ·cases h
     ·cases h
variable {t el:TypeId} {x:Operand} {lo hi mx:Option Operand} {a:Opd} {al ah am:Option Opd} {l h q:Option Nat}
theorem Jt1 (hR:R aw w m base)(hfr:FR m N fr act.tmps)(ho:o.op = .slice t x lo hi mx)(hx:La x=some a)(hl:TI lo=some al)(hh:TI hi=some ah)(hmx:TI mx=some am)(hu:P.underlying t=some (.slice el))(hs:sizeOf? P el=some esz)(h1:a.ev fr=some (.slice b off len cap))(h2:Be fr al=some l)(h3:Be fr ah=some h)(h4:Be fr am=some q)(h5:aw.sliceW esz b off len cap l h q=some r): OpOK P o act aw aw w m base (.val r):=by
 obtain⟨ad,ln,cp,e1,rfl,c1,c2,c3,c4,hv⟩:=Jsi hR (Li hfr hx h1) h5;refine OpOK.quiet hR ?_ hv;have hb:=Mw (P:=P) (w:=w) (isS:=true) (IR hfr hl h2) (IR hfr hh h3) (IR hfr hmx h4) c1 c2 c3 c4;simp[execOp,ho,e1,Instr.sliceAt,Instr.slice,run_underlying hu,hb,TY hs];split<;>simp
theorem JoQ (hR:R aw w m base)(hfr:FR m N fr act.tmps)(ho:o.op = .slice t x lo hi mx)(hx:La x=some a)(hl:TI lo=some al)(hh:TI hi=some ah)(hmx:TI mx=some am)(hu:P.underlying t=some (.slice el))(hs:sizeOf? P el=some esz)(h1:a.ev fr=some .nilslice)(h2:Be fr al=some l)(h3:Be fr ah=some h)(h4:Be fr am=some q)(h5:l.getD 0=0)(h6:h.getD 0=0)(h7:q.getD 0=0)(h8:q.isSome=true→h.isSome=true): OpOK P o act aw aw w m base (.val .nilslice):=by
 have e1:act.eval x = .slice none 0 0:=Li hfr hx h1;refine OpOK.quiet hR (v':=.slice none 0 0) ?_ rfl;have hb:=Mw (P:=P) (w:=w) (isS:=true) (len:=0) (cap:=0) (IR hfr hl h2) (IR hfr hh h3) (IR hfr hmx h4) Fh (.inl Fh) Fh h8;rw[h5,h6,h7]at hb;simp[execOp,ho,e1,Instr.sliceAt,Instr.slice,run_underlying hu,hb,TY hs]
theorem JoP (hR:R aw w m base)(hfr:FR m N fr act.tmps){n:Nat}(ho:o.op = .slice t x lo hi mx)(hx:La x=some a)(hl:TI lo=some al)(hh:TI hi=some ah)(hmx:TI mx=some am)(hu:P.underlying t=some (.array n el))(hs:sizeOf? P el=some esz)(h1:a.ev fr=some (.ptr b off))(h2:Be fr al=some l)(h3:Be fr ah=some h)(h4:Be fr am=some q)(h5:TS esz b off n (.known n) l h q=some r): OpOK P o act aw aw w m base (.val r):=by
 obtain⟨e,hm,e1⟩:=Li hfr hx h1;have hx':VR m (.slice b off n (.known n)) (.slice (some ⟨e.c,e.s+off,none⟩) n n):=⟨e,hm,rfl⟩;obtain⟨ad,ln,cp,e2,rfl,c1,c2,c3,c4,hv⟩:=Jmj hx' h5;cases e2;refine OpOK.quiet hR ?_ hv;have hb:=Mw (P:=P) (w:=w) (isS:=false) (IR hfr hl h2) (IR hfr hh h3) (IR hfr hmx h4) c1 c2 c3 c4;simp[execOp,ho,e1,Instr.sliceAt,Instr.sureAddr,run_underlying hu,hb,TY hs]
theorem JoR (hR:R aw w m base)(hfr:FR m N fr act.tmps)(ho:o.op = .slice t x lo hi none)(hx:La x=some a)(hl:TI lo=some al)(hh:TI hi=some ah)(hu:P.underlying t=some .string){s:List Nat}(h1:a.ev fr=some (.str s))(h2:Be fr al=some l)(h3:Be fr ah=some h)(h4:h.getD s.length≤s.length)(h5:l.getD 0≤h.getD s.length): OpOK P o act aw aw w m base (.val (.str ((s.drop (l.getD 0)).take (h.getD s.length-l.getD 0)))):=by
 obtain⟨bs,e1,rfl⟩:=Li hfr hx h1;rw[Cb]at h4 h5 ⊢;have hb:=Mw (P:=P) (w:=w) (isS:=false) (len:=bs.size) (cap:=bs.size) (mx:=none) (mx':=none) (IR hfr hl h2) (IR hfr hh h3) rfl (FH _) (.inl h4) h5 Fj;refine OpOK.quiet hR (v':=.string (bs.extract (l.getD 0) (h.getD bs.size))) ?_ ⟨_,rfl,?_⟩
 ·simp only[Option.getD_none]at hb;simp only[execOp,ho,e1,Instr.sliceAt,Instr.slice,run_underlying hu,Sem.run_bind,Result.andThen_ok,Option.map_none,Option.isSome_none,FM,if_false,Sem.run_pure,hb]
 ·unfold LH;rw[Lib.extract_data,List.map_take,List.map_drop]
theorem Dx {place:Nat→Option (Nat×Nat)}(hfr:FR m N fr act.tmps):∀{parts:List (Nat×Operand)} {r:List (Nat×Nat×Opd)} {ps:List (Nat×Nat×V)} {l l':List V} {cs:Array Value}, IX place parts=some r→Lg fr r=some ps→Lj l ps=some l'→VRs m l cs.toList→∃cs',Instr.fill place cs (parts.map fun p=>(p.1,act.eval p.2))=some cs'∧VRs m l' cs'.toList
 | [],r,ps,l,l',cs,hc,he,hf,hl=>by
  cases hc;cases he;cases hf;exact⟨cs,rfl,hl⟩
 | (i,x)::parts,r,ps,l,l',cs,hc,he,hf,hl=>by
  simp only[IX]at hc;split at hc
  ·rename_i off sz a hp ha;split at hc
   ·rename_i r' hr';cases hc;simp only[Lg]at he;split at he
    ·rename_i v hv;split at he
     ·rename_i ps' hps';cases he;simp only[Lj]at hf;split at hf
      ·rename_i hsz;split at hf
       ·rename_i l1 hl1;have hvx:=(Li hfr ha hv).cells;obtain⟨g1,g2,g3⟩:=getElem?_over hl1;have hcl:(act.eval x).cells.size=sz:=by have:=hvx.length;simpa[hsz]using this
        have hll:=hl.length;simp only[Array.length_toList]at hll;have hcl':(act.eval x).cells.toList.length=sz:=by simpa using hcl
        obtain⟨f1,f2⟩:=Jit off (act.eval x).cells.toList 0 cs
        have hnew:VRs m l1 ((((act.eval x).cells.toList.zipIdx 0).foldl (fun cs (p:Value×Nat)=>cs.setIfInBounds (off+p.2) p.1) cs)).toList:=by
         refine VRs.of_get (by simp[f1,hll,g1]) (fun j u y hu hy=>?_);rw[g3]at hu;have hy':=hy;simp only[Array.getElem?_toList]at hy';rw[f2 j Fh]at hy';by_cases hj:off≤j∧j<off+v.cells.length
         ·rw[if_pos hj]at hu;rw[if_pos Fh]at hy';obtain⟨z,z1,z2⟩:=hvx.get hu;simp only[KF]at hy';rw[z1]at hy';cases hy';exact z2
         ·rw[if_neg hj]at hu;rw[if_neg Fh]at hy';obtain⟨z,z1,z2⟩:=hl.get hu;simp only[Array.getElem?_toList]at z1;rw[z1]at hy';cases hy';exact z2
        obtain⟨cs',k1,k2⟩:=Dx hfr hr' hps' hf hnew;refine⟨cs',?_,k2⟩;simp only[Kv,Instr.fill,hp];rw[if_neg (by simp[hcl];omega)];rw[←k1]
        congr 1
        rw[←Array.foldl_toList,Array.toList_zipIdx]
       ·cases hf
      ·cases hf
     ·cases he
    ·cases he
   ·cases hc
  ·cases hc
theorem Jk9:∀{fs:List Field} {ps:List (Nat×Nat)},AU P fs=some ps→(fs.mapM fun f=>(do pure (f.offset,←sizeOf f.type):Sem (Nat×Nat))).run P w = .ok ps w
 | [],ps,h=>by cases h;simp
 | f::fs,ps,h=>by
  simp only[AU]at h;split at h
  ·rename_i s r hs hr;cases h;simp only[List.mapM_cons,Sem.run_bind,TY hs,Result.andThen_ok,Sem.run_pure,Jk9 hr]
  ·cases h
variable {parts:Array (Nat×Operand)} {ps:List (Nat×Nat×V)}
theorem Jrf (hR:R aw w m base)(hfr:FR m N fr act.tmps){z:V}{fs:Array Field}{places:List (Nat×Nat)}{r:List (Nat×Nat×Opd)}(ho:o.op = .build t parts)(hz:BG P t=some z)(hu:P.underlying t=some (.struct fs))(hp:AU P fs.toList=some places)(hc:IX (places[·]?) parts.toList=some r){l:List V}(h1:Lg fr r=some ps)(h2:Lj z.cells ps=some l): OpOK P o act aw aw w m base (.val (.agg l)):=by
 obtain⟨z',hz1,hz2⟩:=Iy (P:=P) (w:=w) (m:=m) hz;obtain⟨cs',k1,k2⟩:=Dx hfr hc h1 h2 hz2.cells;refine OpOK.quiet hR (v':=.agg cs') ?_ ⟨_,rfl,k2⟩;have hm:=Jk9 (P:=P) (w:=w) hp;have e:(parts.map fun p=>(p.1,act.eval p.2)).toList=parts.toList.map fun p=>(p.1,act.eval p.2):=Fj;simp only[execOp,ho,Instr.build,Sem.run_bind,hz1,Result.andThen_ok,run_underlying hu,Array.mapM_eq_mapM_toList,Sem.run_map,hm,e];have e2:(fun x:Nat=>places.toArray[x]?)=(fun x:Nat=>places[x]?):=by funext x;simp
 rw[e2,k1];rfl
theorem Jre (hR:R aw w m base)(hfr:FR m N fr act.tmps){n:Nat}{z:V}{r:List (Nat×Nat×Opd)}(ho:o.op = .build t parts)(hz:BG P t=some z)(hu:P.underlying t=some (.array len el))(hs:sizeOf? P el=some n)(hc:IX (fun i=>some (i*n,n)) parts.toList=some r){l:List V}(h1:Lg fr r=some ps)(h2:Lj z.cells ps=some l): OpOK P o act aw aw w m base (.val (.agg l)):=by
 obtain⟨z',hz1,hz2⟩:=Iy (P:=P) (w:=w) (m:=m) hz;obtain⟨cs',k1,k2⟩:=Dx hfr hc h1 h2 hz2.cells;refine OpOK.quiet hR (v':=.agg cs') ?_ ⟨_,rfl,k2⟩;have e:(parts.map fun p=>(p.1,act.eval p.2)).toList=parts.toList.map fun p=>(p.1,act.eval p.2):=Fj;simp only[execOp,ho,Instr.build,Sem.run_bind,hz1,Result.andThen_ok,run_underlying hu,TY hs,e,k1];rfl
end
end
section
abbrev Qo (d:Nat) (o:AOp):AOper:=⟨some d,none,o⟩
abbrev Qz (o:AOp):AOper:=⟨none,none,o⟩
abbrev Qt (d g:Nat) (o:AOp):AOper:=⟨some d,some (g,true),o⟩
abbrev Qf (d g:Nat) (o:AOp):AOper:=⟨some d,some (g,false),o⟩
abbrev Qu (n:Nat):Opd:=.tmp n
abbrev Qi (n:Int):Opd:=.const (.int .i64 n)
abbrev Qb (b:Bool):Opd:=.const (.bool b)
abbrev Qc (f:Nat) (l:List Opd):AOp:=.call (.const (.func (.func f) [] [])) l
abbrev Qm (d n:Nat):AOper:=⟨some d,none,.mov (.tmp n)⟩
abbrev Qn (d n:Nat):AOper:=⟨some d,none,.nilCheck (.tmp n)⟩
abbrev Qa (d k n:Nat):AOper:=⟨some d,none,.fieldAddr k (.tmp n)⟩
abbrev Ql (d n:Nat):AOper:=⟨some d,none,.load 1 false (.tmp n)⟩
abbrev Qw (d k n:Nat):AOper:=⟨some d,none,.load k true (.tmp n)⟩
abbrev Qx (d k a b:Nat):AOper:=⟨some d,none,.indexAddr k (.tmp a) (.tmp b)⟩
abbrev Qd (d a:Nat):AOper:=⟨some d,none,.bin .add (.tmp a) (.const (.int .i64 1))⟩
abbrev Qs (d a b:Nat):AOper:=⟨some d,none,.bin .lss (.tmp a) (.tmp b)⟩
abbrev Qh (d a:Nat):AOper:=⟨some d,none,.un .not (.tmp a)⟩
abbrev Qe (d a:Nat):AOper:=⟨some d,none,.lenSl (.tmp a)⟩
abbrev Fs (d g n:Nat):AOper:=⟨some d,some (g,true),.mov (.tmp n)⟩
abbrev Fu (d g n:Nat):AOper:=⟨some d,some (g,false),.mov (.tmp n)⟩
abbrev Fv (n:Int):Opd:=.const (.int .u8 n)
abbrev KJ (d:Nat)(n:Int):AOper:=⟨some d,none,.mov (.const (.int .i64 n))⟩
abbrev KL (d:Nat)(b:Bool):AOper:=⟨some d,none,.mov (.const (.bool b))⟩
abbrev KM (d a b:Nat):AOper:=⟨some d,none,.pick (.tmp a) (.tmp b) (.const (.bool false))⟩
abbrev KN (d a b:Nat):AOper:=⟨some d,none,.pick (.tmp a) (.const (.bool true)) (.tmp b)⟩
abbrev KO (d g k n:Nat):AOper:=⟨some d,some (g,true),.load k false (.tmp n)⟩
abbrev KP (d g k n:Nat):AOper:=⟨some d,some (g,false),.load k false (.tmp n)⟩
abbrev KQ (d g k n:Nat):AOper:=⟨some d,some (g,true),.fieldAddr k (.tmp n)⟩
abbrev KR (d g k n:Nat):AOper:=⟨some d,some (g,false),.fieldAddr k (.tmp n)⟩
abbrev KT (d a:Nat)(n:Int):AOper:=⟨some d,none,.bin .eql (.tmp a) (.const (.int .i64 n))⟩
abbrev KU (d:Nat):AOper:=⟨some d,none,.mov (.const .nilslice)⟩
abbrev KV (d k a:Nat):AOper:=⟨some d,none,.extract k (.tmp a)⟩
abbrev KW (d a:Nat):AOper:=⟨some d,none,.box (.tmp a)⟩
abbrev KX (d k l a b:Nat):AOper:=⟨some d,none,.append k l (.tmp a) (.tmp b)⟩
abbrev KY (d g k a b:Nat):AOper:=⟨some d,some (g,true),.indexAddr k (.tmp a) (.tmp b)⟩
abbrev QR (l:List AOper) (a:ACode):ACode:=.seq (.region l) a
abbrev QI (c:Nat) (a b:ACode):ACode:=.cond (.tmp c) a b
abbrev QD (o:AOper) (l:List Nat):DOper:=⟨o,false,l,[]⟩
abbrev QE (o:AOper) (l:List Nat):DOper:=⟨o,true,l,[]⟩
end
end Go.AE
