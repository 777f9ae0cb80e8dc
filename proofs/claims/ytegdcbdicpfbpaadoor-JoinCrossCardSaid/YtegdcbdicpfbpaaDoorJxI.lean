/- A part of the proof. -/
import Derived.Test.YtegdcbdicpfbpaaDoorJxH
import Derived.Lib.ItoaMem
import Derived.Lib.ParseIntB
import Derived.Lib.Join
import Derived.Test.YtegdcbdicpfbpaaDoorRows
import Derived.Shelf.Spec.SlicesInsertGrow
import Derived.Lib.LaidTab
import Derived.Lib.AppendIntMem
import Derived.Lib.AtoiErrMem
import Derived.Shelf.Strconv.Itoa4
import Derived.Shelf.Strconv.ParseIntPublic10
import Derived.Shelf.Strings.OnBuilder
import Derived.LaidSub
import GoSem.ClaimSeven
import Derived.Test.YtegdcbdicpfbpaaDoorJxE
open Int renaming ofNat → Fq
open Go.IntKind renaming wrap → KX
set_option linter.unusedVariables false
set_option linter.unusedSectionVars false
set_option linter.unusedSimpArgs false
open Go.RowKit Go.WideShapes Go.ChangeShapes
namespace Go.AE
variable [Globs]
structure RoExt (aw aw':AW):Prop where
 next:aw.next≤aw'.next
 heap:∀b,b<aw.next→aw'.heap.get b=aw.heap.get b
theorem RoExt.refl (aw:AW):RoExt aw aw:=⟨FH _,fun _ _=>rfl⟩
theorem RoExt.trans {a b c:AW}(h:RoExt a b)(h':RoExt b c):RoExt a c:=⟨Kj h.next h'.next,fun k hk=>(h'.heap k (FK hk h.next)).trans (h.heap k hk)⟩
theorem RoExt.new (aw:AW)(x:Blk):RoExt aw (aw.new x):=⟨Nat.le_succ _,fun b hb=>T.get_put_ne Fh⟩
inductive All2 {α β:Type} (r:α→β→Prop):List α→List β→Prop
 | nil:All2 r [] []
 | cons {a b l m}:r a b→All2 r l m→All2 r (a::l) (b::m)
theorem All2.imp {α β:Type}{r q:α→β→Prop}(h:∀a b,r a b→q a b):∀{l:List α} {m:List β},All2 r l m→All2 q l m
 | [],_,.nil=> .nil
 | _::_,_,.cons h1 h2=> .cons (h _ _ h1) (All2.imp h h2)
theorem All2.len {α β:Type}{r:α→β→Prop}:∀{l:List α} {m:List β},All2 r l m→l.length=m.length
 | [],_,.nil=>rfl
 | _::_,_,.cons _ h2=>by simp[All2.len h2]
theorem All2.snoc {α β:Type}{r:α→β→Prop}{a:α}{b:β}(h:r a b):∀{l:List α} {m:List β},All2 r l m→All2 r (l++[a]) (m++[b])
 | [],_,.nil=> .cons h .nil
 | _::_,_,.cons h1 h2=> .cons h1 (All2.snoc h h2)
theorem All2.get {α β:Type}{r:α→β→Prop}:∀{l:List α} {m:List β},All2 r l m→∀{i:Nat} {a:α},l[i]? = some a→∃b,m[i]? = some b∧r a b
 | [],_,.nil,i,a,h=>by simp at h
 | x::l,y::m,.cons h1 h2,0,a,h=>by simp at h;subst h;exact⟨y,rfl,h1⟩
 | x::l,y::m,.cons h1 h2,i+1,a,h=>by simpa using All2.get h2 (i:=i) (by simpa using h)
section
variable {H:Type} {enc:TypeId×Value→H} {P:Program} {w:World}
end
section
variable [Globs]
section
variable {H:Type} {enc:TypeId×Value→H} {P:Program} {w:World}
end
end
end Go.AE
open Go.RowKit
namespace Go.AE
variable [Globs]
variable {base:Nat}
theorem R.bind {y:AW}{w:World}{m:Map}{n c tot:Nat}(hR:R y w m base){x:Blk}(hn:n<y.next)(hm:m n=none)(hx:y.heap.get n=some x)(hl:x.lone=true)(hcl:c<w.heap.size)(hcb:base≤c)(hfr:∀b e,m b=some e→e.c≠c)(hb:BR y (m.set n ⟨c,0,tot⟩) w n ⟨c,0,tot⟩ x):R y w (m.set n ⟨c,0,tot⟩) base:=by
 have hle:m.le (m.set n ⟨c,0,tot⟩):=Map.le_set hm
 have hnf:∀{l:List V} {f:Nat},y.heap.get n≠some (.cells l (.fam f)):=by
  intro l f h;rw[hx]at h;cases h;cases hl
 refine⟨hR.glob.le hle,hR.gblk,fun b e l f h hy=>?_,hR.size,fun b e h=>?_,fun b e h=>?_,fun b e z h hz=>?_,fun b e z b' e' z' h hz h' hz' h1 h2 hne hec=>?_,fun f F hF=>?_⟩
 ·rcases Map.set_cases h with⟨rfl,rfl⟩|⟨h1,h2⟩
  ·exact absurd hy hnf
  ·exact hR.famlt b e l f h2 hy
 ·rcases Map.set_cases h with⟨rfl,rfl⟩|⟨h1,h2⟩
  ·exact⟨hn,hcl⟩
  ·exact hR.lt b e h2
 ·rcases Map.set_cases h with⟨rfl,rfl⟩|⟨h1,h2⟩
  ·exact .inl hcb
  ·exact hR.base b e h2
 ·rcases Map.set_cases h with⟨rfl,rfl⟩|⟨h1,h2⟩
  ·rw[hx]at hz;cases hz;exact hb
  ·exact BR.mono hle (fun _ _ _ h=>h) rfl (hR.blk b e z h2 hz)
 ·rcases Map.set_cases h with⟨rfl,rfl⟩|⟨k1,k2⟩
  ·rcases Map.set_cases h' with⟨rfl,rfl⟩|⟨k3,k4⟩
   ·exact absurd rfl hne
   ·exact absurd hec.symm (hfr b' e' k4)
  ·rcases Map.set_cases h' with⟨rfl,rfl⟩|⟨k3,k4⟩
   ·exact absurd hec (hfr b e k2)
   ·exact hR.apart b e z b' e' z' k2 hz k4 hz' h1 h2 hne hec
 ·obtain⟨h1,h2⟩:=hR.fam f F hF;refine⟨h1,fun b e l e' l' h hy ha h' hy' hec=>?_⟩;rcases Map.set_cases h with⟨rfl,rfl⟩|⟨k1,k2⟩
  ·exact absurd hy hnf
  ·rcases Map.set_cases h' with⟨q,rfl⟩|⟨k3,k4⟩
   ·rw[q]at hy';exact absurd hy' hnf
   ·exact h2 b e l e' l' k2 hy ha k4 hy' hec
theorem R.take {aw:AW}{w w':World}{m:Map}(hR:R aw w m base)(hb:Below w.heap.size w w'){c lo hi:Nat}{cur:Array Value}{t:TypeId}{l:List V}(hc:w.heap.size≤c)(hx:w'.heap[c]? = some (.cells cur t (lo,hi)))(hlh:lo=hi)(hl:CR m l 0 cur)(hsz:l.length≤cur.size): R (aw.fresh l) w' (m.set aw.next ⟨c,0,cur.size⟩) base∧Goes aw (aw.fresh l) w w' m (m.set aw.next ⟨c,0,cur.size⟩):=by
 obtain⟨h1,h2⟩:=hR.below hb;have hnone:m aw.next=none:=CF hR;have hle:m.le (m.set aw.next ⟨c,0,cur.size⟩):=Map.le_set hnone;have hcl:c<w'.heap.size:=(Array.getElem?_eq_some_iff.1 hx).1;refine⟨(h1.pad (.cells l .own)).bind (FV _) hnone T.get_put_same rfl hcl (Kj hR.size hc) (fun b e he hec=>?_) (fun _=>⟨cur,t,lo,hi,hx,rfl,by simpa using hsz,.inr (.inl ⟨hlh,fun _=>rfl⟩),hl.mono hle⟩),?_⟩
 ·have:=(hR.lt b e he).2;omega
 ·have h3:=h2.pad (.cells l .own);refine⟨hle,fun b e hbe=>?_,h3.next,h3.size,h3.os,h3.tape,h3.output,h3.ro,h3.roOld,h3.frame,h3.none,h3.unm⟩;rcases Map.set_cases hbe with⟨rfl,rfl⟩|⟨_,h4⟩
  ·exact .inr ⟨FH _,.inl hc⟩
  ·exact .inl h4
end Go.AE
open Go.RowKit
namespace Go.AE
variable [Globs]
section
def DI:Nat→Nat→List Nat→List Nat
 | 0,_,acc=>acc
 | f+1,n,acc=>match Nat.blt n 10 with
  | true=>(48+n)::acc
  | false=>DI f (n / 10) ((48+n % 10)::acc)
def Lf (n:Nat):List Nat:=DI (n+1) n []
def P7:Int→List Nat
 | .ofNat n=>Lf n
 | .negSucc n=>45::Lf (n+1)
theorem RD:∀(f n:Nat) (acc:List Nat),n<f→DI f n acc=(Lib.decDigits n).map UInt8.toNat++acc
 | 0,n,acc,h=>by omega
 | f+1,n,acc,h=>by
  rw[DI,Lib.decDigits];by_cases hn:n<10
  ·have:Nat.blt n 10=true:=Nat.blt_eq.mpr hn;rw[this,dif_pos hn];simp only[Ku,Kv,List.singleton_append]
   congr 1
   rw[UInt8.toNat_ofNat'];omega
  ·have hb:Nat.blt n 10=false:=by
    cases hb:Nat.blt n 10 with
    | false=>rfl
    | true=>exact absurd (Nat.blt_eq.mp hb) hn
   rw[hb,dif_neg hn];simp only[];rw[RD f (n / 10) _ Fh,List.map_append,F5];simp only[Ku,Kv,List.singleton_append]
   congr 2
   rw[UInt8.toNat_ofNat'];omega
theorem IA (n:Nat):Lf n=(Lib.decDigits n).map UInt8.toNat:=by
 rw[Lf,RD _ _ _ (FV n),Kb]
theorem JpI:∀(n:Int),P7 n=(Lib.itoa n).map UInt8.toNat
 | .ofNat n=>by
  have:Lib.itoa (Fq n)=Lib.decDigits n:=Lib.itoa_nonneg n;rw[this];exact IA n
 | .negSucc n=>by
  have:Lib.itoa (Int.negSucc n)=45::Lib.decDigits (n+1):=Lib.itoa_neg (n+1) Fh;rw[this,Ku];show 45::Lf (n+1)=_;rw[IA];rfl
theorem AB {n:Nat}(h:n<10):Lf n=[48+n]:=by
 rw[IA,Lib.decDigits,dif_pos h];simp only[Ku,Kv]
 congr 1
 rw[UInt8.toNat_ofNat'];omega
theorem RB {n:Nat}(h:¬n<10):Lf n=Lf (n / 10)++[48+n % 10]:=by
 rw[IA,Lib.decDigits,dif_neg h,List.map_append,←IA];simp only[Ku,Kv]
 congr 2
 rw[UInt8.toNat_ofNat'];omega
def IX:V→Value
 | .int k n=> .int k n
 | _=>undef
theorem QS {m:Map}:∀{l:List V} {c:List Value},(∀x∈l,∃k n,x = .int k n)→c.length=l.length→(∀(i:Nat) (x:V),l[i]? = some x→∃y,c[i]? = some y∧VR m x y)→c=l.map IX
 | [],c,_,hl,_=>by simpa using hl
 | x::l,[],_,hl,_=>by simp at hl
 | x::l,y::c,hi,hl,hr=>by
  obtain⟨k,n,rfl⟩:=hi x Fj;obtain⟨y',h1,h2⟩:=hr 0 _ rfl;simp at h1;subst h1;rw[Ku,←QS (l:=l) (c:=c) (fun z hz=>hi z (by simp[hz])) (by simpa using hl) (fun i z hz=>by simpa using hr (i+1) z (by simpa using hz))]
  congr 1
def Qy (P:Program) (f g:Nat):Prop:=∀(n:Int) (w:World),-9223372036854775808≤n→n≤9223372036854775807→(∃t fz,w.heap[g]? = some (.cells (Lib.pow10Tab.map (Value.int .u64)).toArray t fz))→
 Calls P f #[.int .i64 n,.int .i64 10] w fun e w'=>e = .returned (.string ⟨(Lib.itoa n).toArray⟩)∧Below w.heap.size w w'
def IB (args:List V) (aw:AW):Option (V×AW) :=
 match args with
 | [.int .i64 n,.int .i64 10]=>if -9223372036854775808≤n∧n≤9223372036854775807 then some (.str (P7 n),aw)else none
 | _=>none
theorem Jlu {P:Program}{f g:Nat}(hF:Qy P f g)(hg:Globs.gl[0]? = some (g,pow10V)){args:List V}{aw:AW}{v:V}{aw':AW}(h:IB args aw=some (v,aw'))(w:World)(m:Map)(base:Nat)(args':Array Value)(hR:R aw w m base)(hargs:VRs m args args'.toList): Calls P f args' w fun r w'=>∃v' m',r = .returned v'∧VR m' v v'∧R aw' w' m' base∧Goes aw aw' w w' m m':=by
 unfold IB at h;split at h
 ·rename_i n;split at h
  ·rename_i hn;cases h;obtain⟨x,r1,e1,hx,e2⟩:=hargs;obtain⟨y,r2,e3,hy,e4⟩:=e2;cases e4;have hx':x = .int .i64 n:=hx;have hy':y = .int .i64 10:=hy;subst hx';subst hy';obtain rfl:args' = #[.int .i64 n,.int .i64 10]:=by cases args';simp_all
   have hm:=hR.glob 0 g _ hg;obtain⟨cur,t,lo,hi,p1,p2,p3,p4,p5⟩:=hR.blk 0 _ _ hm (hR.gblk 0 g _ hg) rfl
   have hcur:cur.toList=pow10V.map IX:=by
    refine QS (m:=m) (fun x hx=>?_) (by rw[Array.length_toList];exact p2) (fun i x hx=>?_)
    ·simp only[pow10V,FJ,FZ,or_false]at hx;rcases hx with rfl|rfl|rfl|rfl|rfl|rfl|rfl|rfl|rfl|rfl|rfl|rfl|rfl|rfl|rfl|rfl|rfl|rfl|rfl|rfl<;>exact⟨_,_,rfl⟩
    ·obtain⟨y,q1,q2⟩:=p5 i x hx;exact⟨y,by simpa using q1,q2⟩
   have htab:pow10V.map IX=Lib.pow10Tab.map (Value.int .u64):=by rfl
   have hc:cur=(Lib.pow10Tab.map (Value.int .u64)).toArray:=by
    apply Array.ext';rw[hcur,htab]
   refine (hF n w hn.1 hn.2 ⟨t,(lo,hi),by rw[p1,hc]⟩).mono ?_;rintro r w' ⟨rfl,hbel⟩;obtain⟨q1,q2⟩:=hR.below hbel;refine⟨_,m,rfl,⟨_,rfl,?_⟩,q1,q2⟩;rw[JpI];simp[H6]
  ·cases h
 ·cases h
end
end Go.AE
namespace Delphi
def OB (c:Nat):Bool:=decide (97≤c)&&decide (c≤122)
def HS (c:Nat):Bool:=decide (48≤c)&&decide (c≤57)
def BZ (c:Nat):Bool:=decide (65≤c)&&decide (c≤90)
def HZ (c:Nat):Bool:=OB c||(HS c||decide (c=95))
def PJ (c:Nat):Bool:=HZ c||BZ c
def Bf (c:Nat):Bool:=decide (c=32)||decide (c=9)||decide (c=10)||decide (c=13)
def blk:Bool→List Nat→Nat
 | _,[]=>0
 | true,c::t=>if c=10 then blk false t+1 else blk true t+1
 | false,c::t=>if Bf c then blk false t+1 else if c=37 then blk true t+1 else 0
theorem Tf:∀(b:Bool) (s:List Nat),blk b s≤s.length
 | _,[]=>by simp[blk]
 | true,c::t=>by
  have h1:=Tf false t;have h2:=Tf true t;simp only[blk,FC];split<;>omega
 | false,c::t=>by
  have h1:=Tf false t;have h2:=Tf true t;simp only[blk,FC];(repeat' split)<;>omega
def Bb (s:List Nat):Nat :=
 let n:=if s.head? = some 45 then 1 else 0
 let d:=((s.drop n).takeWhile HS).length
 if d=0 then 0 else if n=1∧s[1]? = some 48 then 0 else if s[n]? = some 48 then 1 else n+d
def signs:Fx:=[[58,45],[33,61],[60,61],[40],[41],[44],[46],[33],[61],[60]]
def Hx (s:List Nat):Nat×Nat :=
 match s with
 | []=>(0,0)
 | c::_ =>
  if OB c then (1,(s.takeWhile HZ).length)
  else if BZ c then (2,(s.takeWhile PJ).length)
  else if HS c||decide (c=45)then (3,Bb s)
  else match signs.find? (fun g=>g.isPrefixOf s)with
   | some g=>(4,g.length)
   | none=>(0,0)
theorem Jjo (s:List Nat):Bb s≤s.length:=by
 unfold Bb
 have h1:∀n,((s.drop n).takeWhile HS).length≤s.length-n:=fun n=>by
  have:=(List.takeWhile_prefix (p:=HS) (l:=s.drop n)).length_le;simpa using this
 cases s with
 | nil=>simp
 | cons c t =>
  by_cases hc:(c::t).head? = some 45
  ·have:=h1 1;simp only[hc,if_true]at this ⊢;simp only[FC]at this ⊢
   (repeat' split)<;>omega
  ·have:=h1 0;simp only[hc,if_false]at this ⊢;simp only[FC]at this ⊢
   (repeat' split)<;>omega
theorem Rk (s:List Nat):(Hx s).2≤s.length:=by
 cases s with
 | nil=>simp[Hx]
 | cons c t =>
  simp only[Hx];split
  ·exact (List.takeWhile_prefix _).length_le
  ·split
   ·exact (List.takeWhile_prefix _).length_le
   ·split
    ·exact Jjo _
    ·split
     ·rename_i g hg;have:=List.find?_some hg;exact (List.isPrefixOf_iff_prefix.1 this).length_le
     ·simp
structure Wd where
 kind:Nat
 text:List Nat
 at':Nat
def Bj:Nat→Nat→List Nat→List Wd×Bool
 | 0,_,_=>([],true)
 | n+1,at',s =>
  let u:=s.drop (blk false s)
  match u with
  | []=>([],true)
  | _::_ =>
   if (Hx u).2=0∨((Hx u).1≠4∧16<(Hx u).2)then ([],false)
   else
    let r:=Bj n (at'+blk false s+(Hx u).2) (u.drop (Hx u).2)
    (⟨(Hx u).1,u.take (Hx u).2,at'+blk false s⟩::r.1,r.2)
theorem NS:∀(n m at':Nat) (s:List Nat),s.length<n→s.length<m→Bj n at' s=Bj m at' s
 | 0,m,_,s,h,_=>by omega
 | n+1,0,_,s,_,h=>by omega
 | n+1,m+1,at',s,h1,h2=>by
  simp only[Bj];split
  ·rfl
  ·rename_i c t hu;split
   ·rfl
   ·rename_i hw
    have hlen:((s.drop (blk false s)).drop (Hx (s.drop (blk false s))).2).length<s.length:=by
     have hb:=Tf false s;have:(s.drop (blk false s)).length=s.length-blk false s:=Fj;have hpos:0<(s.drop (blk false s)).length:=by rw[hu];simp
     have:0<(Hx (s.drop (blk false s))).2:=Fh;simp only[Kh]at *;omega
    rw[NS n m _ _ Fh Fh]
def scan (at':Nat) (s:List Nat):List Wd×Bool:=Bj (s.length+1) at' s
theorem IG (at':Nat)(s:List Nat):scan at' s =
  match s.drop (blk false s)with
  | []=>([],true)
  | c::t =>
   if (Hx (c::t)).2=0∨((Hx (c::t)).1≠4∧16<(Hx (c::t)).2)then ([],false)
   else
    let r:=scan (at'+blk false s+(Hx (c::t)).2) ((c::t).drop (Hx (c::t)).2)
    (⟨(Hx (c::t)).1,(c::t).take (Hx (c::t)).2,at'+blk false s⟩::r.1,r.2):=by
 unfold scan
 conv=>lhs;simp only[Bj]
 split
 ·rfl
 ·rename_i c t h;rw[h];simp only[];split
  ·rfl
  ·rename_i hw
   have hlen:((c::t).drop (Hx (c::t)).2).length<s.length:=by
    have hb:=Tf false s;have:(s.drop (blk false s)).length=s.length-blk false s:=Fj;rw[h]at this;have hm:(Hx (c::t)).2≠0:=fun he=>hw (.inl he);simp only[Kh,FC]at this ⊢;omega
   rw[NS s.length _ _ _ hlen (FV _)]
theorem Rs (at':Nat)(s:List Nat)(k:Nat)(h:blk false s=k+blk false (s.drop k)):scan at' s=scan (at'+k) (s.drop k):=by
 rw[IG at' s,IG (at'+k) (s.drop k),List.drop_drop,h,Ki]
section
structure Tm where
 kind:Nat
 name:List Nat
 num:Int
 deriving DecidableEq
structure Lt where
 kind:Nat
 name:List Nat
 args:List Tm
 deriving DecidableEq
structure Rl where
 head:Lt
 body:List Lt
 deriving DecidableEq
def Tm.zero:Tm:=⟨0,[],0⟩
def Lt.zero:Lt:=⟨0,[],[]⟩
def KZ (e x:Nat):Nat:=if e=0 then x else e
def Pt (ws:List Wd) (k:Nat) (s:List Nat):Bool :=
 match ws[k]? with
 | some w=>decide (w.kind=4)&&decide (w.text=s)
 | none=>false
def Ld (ws:List Wd) (s:List Nat) (k e:Nat):Nat×Nat :=
 if e=0 then (if Pt ws k s then (k+1,e)else (k,4))else (k,e)
def Bo (n c:Nat):Nat:=if c=45 then n else n*10+(c+208) % 256
def O8 (s:List Nat):Nat:=s.foldl Bo 0
def Lx (ws:List Wd) (k e:Nat):Option Wd:=if e=0 then ws[k]? else none
def HG (ws:List Wd) (k e:Nat):Tm×Nat×Nat :=
 match Lx ws k e with
 | none=>(Tm.zero,k,KZ e 4)
 | some w =>
  if w.kind=4 then (Tm.zero,k,4)
  else if w.kind=1 then (⟨2,w.text,0⟩,k+1,e)
  else if w.kind=2 then (⟨1,w.text,0⟩,k+1,e)
  else if 2147483648<O8 w.text then (Tm.zero,k+1,4)
  else (⟨3,[],if w.text.head? = some 45 then -(O8 w.text:Int)else (O8 w.text:Int)⟩,k+1,e)
def Li (ws:List Wd):Nat→List Tm→Nat→Nat→List Tm×Nat×Nat
 | 0,args,k,e=>(args,k,e)
 | n+1,args,k,e =>
  if e=0 then
   let r:=HG ws k e
   let e2:=if r.2.2=0∧args.length=4 then 8 else r.2.2
   if Pt ws r.2.1 [44]then Li ws n (args++[r.1]) (r.2.1+1) e2 else (args++[r.1],r.2.1,e2)
  else (args,k,e)
def HH (ws:List Wd) (k e:Nat):Lt×Nat×Nat :=
 match Lx ws k e with
 | none=>(Lt.zero,k,KZ e 4)
 | some w =>
  if w.kind=1 then
   if Pt ws (k+1) [40]then
    let r:=Li ws (ws.length+1) [] (k+2) e
    let q:=Ld ws [41] r.2.1 r.2.2
    (⟨1,w.text,r.1⟩,q.1,q.2)
   else (⟨1,w.text,[]⟩,k+1,e)
  else (Lt.zero,k,4)
def PH (s:List Nat):Nat :=
 if s=[61]then 3 else if s=[33,61]then 4 else if s=[60]then 5 else if s=[60,61]then 6 else 0
def H5 (ws:List Wd) (k:Nat):Nat :=
 match ws[k]? with
 | some w=>if w.kind=4 then PH w.text else 0
 | none=>0
def Ti (ws:List Wd) (k:Nat):Nat :=
 match ws[k]? with
 | some w=>w.kind
 | none=>0
def PB (ws:List Wd) (k e:Nat):Lt×Nat×Nat :=
 if Pt ws k [33]then
  let r:=HH ws (k+1) e
  ({r.1 with kind:=2},r.2.1,r.2.2)
 else if Ti ws k=1∧H5 ws (k+1)=0 then HH ws k e
 else
  let a:=HG ws k e
  if a.2.2≠0∨H5 ws a.2.1=0 then (Lt.zero,a.2.1,KZ a.2.2 4)
  else
   let b:=HG ws (a.2.1+1) a.2.2
   (⟨H5 ws a.2.1,[],[a.1,b.1]⟩,b.2.1,b.2.2)
def Pr (ws:List Wd):Nat→List Lt→Nat→Nat→List Lt×Nat×Nat
 | 0,l,k,e=>(l,k,e)
 | n+1,l,k,e =>
  if e=0 then
   let r:=PB ws k e
   let e2:=if r.2.2=0∧l.length=6 then 8 else r.2.2
   if Pt ws r.2.1 [44]then Pr ws n (l++[r.1]) (r.2.1+1) e2 else (l++[r.1],r.2.1,e2)
  else (l,k,e)
def H2 (ws:List Wd) (k e:Nat):Rl×Nat×Nat :=
 let h:=HH ws k e
 let b:=if Pt ws h.2.1 [58,45]=true∧h.2.2=0 then Pr ws (ws.length+1) [] (h.2.1+1) h.2.2 else ([],h.2.1,h.2.2)
 let q:=Ld ws [46] b.2.1 b.2.2
 (⟨h.1,b.1⟩,q.1,q.2)
def PK (ws:List Wd):Nat→List Rl→Nat→Nat→List Rl×Nat×Nat
 | 0,l,k,e=>(l,k,e)
 | n+1,l,k,e =>
  if e=0∧k<ws.length then
   let r:=H2 ws k e
   let e2:=if r.2.2=0∧l.length=30 then 8 else r.2.2
   PK ws n (l++[r.1]) r.2.1 e2
  else (l,k,e)
def OE (s:List Nat):List Rl×Nat :=
 if 4000<s.length then ([],8)
 else
  let ws:=(scan 0 s).1
  let r:=PK ws (ws.length+1) [] 0 0
  let e:=KZ r.2.2 (if (scan 0 s).2 then 0 else 4)
  if e=0 then (r.1,0)else ([],e)
theorem CL (ws:List Wd)(k e:Nat):k≤(HG ws k e).2.1:=by
 unfold HG
 (repeat' split)<;>simp
variable {ws:List Wd} {k e:Nat}
theorem IR (h:k≤ws.length):(HG ws k e).2.1≤ws.length:=by
 unfold HG;split
 ·exact h
 ·rename_i w hw
  have hk:k<ws.length:=by
   unfold Lx at hw;split at hw
   ·exact (List.getElem?_eq_some_iff.1 hw).1
   ·cases hw
  (repeat' split)<;>simp<;>omega
variable {s:List Nat}
theorem OG (h:Pt ws k s=true):k<ws.length:=by
 unfold Pt at h;split at h
 ·rename_i w hw;exact (List.getElem?_eq_some_iff.1 hw).1
 ·cases h
theorem Ez {ws:List Wd}:∀(n:Nat) (args:List Tm) (k e:Nat),k≤(Li ws n args k e).2.1
 | 0,_,_,_=>FH _
 | n+1,args,k,e=>by
  have h1:=CL ws k e;simp only[Li];split
  ·split
   ·exact Kj Fh (Ez n _ _ _)
   ·exact h1
  ·exact FH _
theorem EA {ws:List Wd}:∀(n:Nat) (args:List Tm) (k e:Nat),k≤ws.length→(Li ws n args k e).2.1≤ws.length
 | 0,_,_,_,h=>h
 | n+1,args,k,e,h=>by
  have h1:=IR (e:=e) h;simp only[Li];split
  ·split
   ·rename_i hs;exact EA n _ _ _ (OG hs)
   ·exact h1
  ·exact h
theorem Sz (ws:List Wd)(s:List Nat)(k e:Nat):k≤(Ld ws s k e).1:=by
 unfold Ld;(repeat' split)<;>simp
theorem ET (h:k≤ws.length):(Ld ws s k e).1≤ws.length:=by
 unfold Ld;split
 ·split
  ·rename_i hs;exact OG hs
  ·exact h
 ·exact h
theorem ED {w:Wd}(h:Lx ws k e=some w):k<ws.length∧e=0∧ws[k]? = some w:=by
 unfold Lx at h;split at h
 ·rename_i he;exact⟨(List.getElem?_eq_some_iff.1 h).1,he,h⟩
 ·cases h
theorem CJ (ws:List Wd)(k e:Nat):k≤(HH ws k e).2.1:=by
 unfold HH;split
 ·exact FH _
 ·split
  ·split
   ·exact Kj (Kj Fh (Ez _ _ (k+2) e)) (Sz ..)
   ·simp
  ·exact FH _
theorem CK (h:k≤ws.length):(HH ws k e).2.1≤ws.length:=by
 unfold HH;split
 ·exact h
 ·rename_i w hw;have hk:=(ED hw).1;split
  ·split
   ·rename_i hs;have:=OG hs;exact ET (EA _ _ _ _ Fh)
   ·exact hk
  ·exact h
theorem JoO (h:(HH ws k e).2.2=0):k<(HH ws k e).2.1:=by
 unfold HH at h ⊢;split
 ·rename_i hn;rw[hn]at h;simp only[KZ]at h;split at h
  ·omega
  ·omega
 ·rename_i w hw;rw[hw]at h;simp only at h ⊢;split
  ·split
   ·exact FK (FK Fh (Ez _ _ (k+2) e)) (Sz ..)
   ·simp
  ·rename_i hk;rw[if_neg hk]at h;simp at h
theorem JkT (ws:List Wd)(k e:Nat):k≤(PB ws k e).2.1:=by
 have h1:=CL ws k e;unfold PB;split
 ·exact Kj Fh (CJ ws (k+1) e)
 ·split
  ·exact CJ ws k e
  ·simp only;split
   ·exact h1
   ·exact Kj Fh (CL ws ((HG ws k e).2.1+1) (HG ws k e).2.2)
theorem Jna (h:H5 ws k≠0):k<ws.length:=by
 unfold H5 at h;split at h
 ·rename_i w hw;exact (List.getElem?_eq_some_iff.1 hw).1
 ·exact absurd rfl h
theorem JkU (h:k≤ws.length):(PB ws k e).2.1≤ws.length:=by
 have h1:=IR (e:=e) h;unfold PB;split
 ·rename_i hs;exact CK (OG hs)
 ·split
  ·exact CK h
  ·simp only;split
   ·exact h1
   ·rename_i hn;have:H5 ws (HG ws k e).2.1≠0:=fun h=>hn (.inr h);exact IR (Jna this)
theorem EB {ws:List Wd}:∀(n:Nat) (l:List Lt) (k e:Nat),k≤(Pr ws n l k e).2.1
 | 0,_,_,_=>FH _
 | n+1,l,k,e=>by
  have h1:=JkT ws k e;simp only[Pr];split
  ·split
   ·exact Kj Fh (EB n _ _ _)
   ·exact h1
  ·exact FH _
theorem EC {ws:List Wd}:∀(n:Nat) (l:List Lt) (k e:Nat),k≤ws.length→(Pr ws n l k e).2.1≤ws.length
 | 0,_,_,_,h=>h
 | n+1,l,k,e,h=>by
  have h1:=JkU (e:=e) h;simp only[Pr];split
  ·split
   ·rename_i hs;exact EC n _ _ _ (OG hs)
   ·exact h1
  ·exact h
theorem JlW (h:k≤ws.length):(H2 ws k e).2.1≤ws.length:=by
 have h1:=CK (e:=e) h;unfold H2;simp only;split
 ·rename_i hs;exact ET (EC _ _ _ _ (OG hs.1))
 ·exact ET h1
theorem Mk (h:(Ld ws s k e).2=0):e=0:=by
 unfold Ld at h;split at h
 ·assumption
 ·exact h
theorem JlU (ws:List Wd)(k e:Nat):k≤(H2 ws k e).2.1:=by
 have h1:=CJ ws k e;unfold H2;simp only;split
 ·exact Kj (Kj Fh (EB _ _ ((HH ws k e).2.1+1) _)) (Sz ..)
 ·exact Kj h1 (Sz ..)
theorem JlV (h:(H2 ws k e).2.2=0):k<(H2 ws k e).2.1:=by
 unfold H2 at h ⊢;simp only at h ⊢;split
 ·rename_i hs;exact FK (FK (Nat.lt_of_le_of_lt (CJ ws k e) (FV _)) (EB _ _ ((HH ws k e).2.1+1) _)) (Sz ..)
 ·rename_i hs;rw[if_neg hs]at h;have:=Mk h;exact FK (JoO this) (Sz ..)
end
section
theorem JjC:∀(n at':Nat) (s:List Nat),(∀c∈s,c<256)→((Bj n at' s).1.length≤s.length)∧∀w∈(Bj n at' s).1,w.text≠[]∧(w.kind≠4→w.text.length≤16)∧1≤w.kind∧w.kind≤4∧∀c∈w.text,c<256
 | 0,_,s,_=>by simp[Bj]
 | n+1,at',s,hs=>by
  simp only[Bj];split
  ·simp
  ·rename_i c t hu;split
   ·simp
   ·rename_i hw;have hb:=Tf false s;have hu':∀x∈s.drop (blk false s),x<256:=fun x hx=>hs x (List.mem_of_mem_drop hx);have hdl:(s.drop (blk false s)).length=s.length-blk false s:=Fj;have hle:=Rk (s.drop (blk false s))
    have hk:1≤(Hx (s.drop (blk false s))).1∧(Hx (s.drop (blk false s))).1≤4:=by
     have hne:(Hx (s.drop (blk false s))).2≠0:=fun h=>hw (.inl h);revert hne;unfold Hx
     (repeat' split)<;>simp
    have hne:(Hx (s.drop (blk false s))).2≠0:=fun h=>hw (.inl h);obtain⟨h1,h2⟩:=JjC n (at'+blk false s+(Hx (s.drop (blk false s))).2) ((s.drop (blk false s)).drop (Hx (s.drop (blk false s))).2) fun x hx=>hu' x (List.mem_of_mem_drop hx);refine⟨?_,fun w hw'=>?_⟩
    ·simp only[FC,Kh]at *;omega
    ·rcases List.mem_cons.1 hw' with rfl|hw'
     ·refine⟨?_,fun h4=>?_,hk.1,hk.2,fun x hx=>hu' x (List.mem_of_mem_take hx)⟩
      ·intro h;have:=congrArg List.length h;simp only[FT,FD]at this;omega
      ·have:(Hx (s.drop (blk false s))).2≤16:=Nat.le_of_not_lt fun h=>hw (.inr ⟨h4,h⟩);simp only[FT];omega
     ·exact h2 w hw'
theorem JoW {s:List Nat}(hs:∀c∈s,c<256):(scan 0 s).1.length≤s.length∧∀w∈(scan 0 s).1,w.text≠[]∧(w.kind≠4→w.text.length≤16)∧1≤w.kind∧w.kind≤4∧∀c∈w.text,c<256:=JjC _ _ _ hs
end
section
def DN (s:List Nat):Int:=if s.head? = some 45 then -(O8 s:Int)else (O8 s:Int)
end
end Delphi
namespace Go.AE
open Delphi Go.RowKit
variable [Globs]
section
end
end Go.AE
namespace Go.Proofs.YtegdcbdicpfbpaaDoor
open Go.Shelf Go.RowKit Go.Lib Go.Proofs
theorem Rf:∃i0,Tryd.prog.info? 54=some i0∧i0.zero=some (Value.slice none 0 0)∧i0.size=1∧i0.bytes=24:=⟨(Tryd.prog.info? 54).get!,by kernel_rfl,by kernel_rfl,by kernel_rfl,by kernel_rfl⟩
theorem Jni:∀w,(Go.sizeOf 54).run Tryd.prog w = .ok 1 w:=fun w=>by
 obtain⟨i0,h0,_,h1,_⟩:=Rf;simp[sizeOf,typeInfo,h0,h1]
set_option maxHeartbeats 4000000 in
set_option maxRecDepth 100000 in
theorem JmN (b off n c i vb voff m vc:Nat)(cs vs:List Value)(w:World)(hi:i<n)(hm:0<m)(hroom:n+m≤c)(hc63:n+m≤9223372036854775807)(hvb:vb≠b)(hcl:cs.length=n)(hvl:vs.length=m)(hcs:∀j v,cs[j]? = some v→w.cell? ⟨b,off+j,none⟩=some v)(hsp:∀j,j<n+m→(w.cell? ⟨b,off+j,none⟩).isSome=true)(hfz:∀j,j<n+m→w.frozen? ⟨b,off+j,none⟩=false)(hvs:∀j v,vs[j]? = some v→w.cell? ⟨vb,voff+j,none⟩=some v)(h1c:∀v∈cs,v.oneCell'=true)(h1v:∀v∈vs,v.oneCell'=true)(tA tB:TypeId)(kA kB:Nat)(hsa:w.shape? vb=some (tA,kA))(hsb:w.shape? b=some (tB,kB))(hkB:kB≠0)(hfa:w.frozen? ⟨vb,voff,none⟩=false)(hfe:w.frozen? ⟨vb,kA,none⟩=false): Calls Tryd.prog 38 #[.slice (some ⟨b,off,none⟩) n c,.int .i64 i,.slice (some ⟨vb,voff,none⟩) m vc] w fun e w' => e = .returned (.slice (some ⟨b,off,none⟩) (n+m) c)∧w'=(w.drew.setCells b (off+(i+m)) (cs.drop i)).setCells b (off+i) vs:=by
 have hz1:¬((m:Int)=0):=Fh;have hz2:¬((i:Int)=(n:Int)):=Fh;have hsz:(Tryd.prog.info? 54).map (·.size)=some 1:=by kernel_rfl
 have hov:∀lb cb,(callFunc 58 #[.slice (some ⟨vb,voff,none⟩) m vc,.slice (some ⟨b,off+(i+m),none⟩) lb cb]).run Tryd.prog w = .ok (.value (.bool false)) w:=fun lb cb=>by
  rw[run_callFunc_extern Tryd.func58 Fp Fp Fp (e:=Extern.SlicesOverlaps.overlaps #[35,35] #[4]) Fp,Lib.run_overlaps_apart w 35 4 54 Tryd.underlying35 1 Jni ⟨vb,voff,none⟩ ⟨b,off+(i+m),none⟩ m vc lb cb hvb tA tB kA kB hsa hsb hkB hfa hfe];rfl
 have hdl:(cs.drop i).length=n-i:=by rw[Kh,hcl]
 have mixed:Tryd.prog.follows .mixedOrders=true:=by kernel_rfl
 have hw1:IntKind.i64.wrap ((i:Int)+(m:Int))=(i:Int)+(m:Int):=by rw[IntKind.wrap_i64];omega
 have hb1:(0:Int)≤(i:Int)+(m:Int):=Fh;have hin:i≤n:=Fh;have htn:((i:Int)+(m:Int)).toNat=i+m:=Fh;have hb2:¬(c=i+m):=Fh;have hb3:(i:Int)≤(n:Int)+(m:Int):=Fh;have hb4:¬(c=i):=Fh
 have hcp1:∀ty dc sc,(Builtin.copy_ #[35,35] ty #[.slice (some ⟨b,off+(i+m),none⟩) (n+m-(i+m)) dc,.slice (some ⟨b,off+i,none⟩) (n+m-i) sc]).run Tryd.prog w.drew = .ok (goInt (cs.drop i).length) (w.drew.setCells b (off+(i+m)) (cs.drop i)):=fun ty dc sc =>
  run_copy_cells w.drew _ _ ty 54 b (off+(i+m)) (n+m-(i+m)) dc ⟨b,off+i,none⟩ (n+m-i) sc (cs.drop i) Tryd.underlying35 hsz (by rw[hdl];simp only[Nat.min_def];split<;>omega)
   (fun j v hj=>by rw[Addr.add_lit,Ki];exact hcs (i+j) v (by rwa [Kq]at hj))
   (fun j hj=>by rw[Ki];exact hsp _ Fh) (fun j hj=>by rw[Ki];exact hfz _ Fh) (fun v hv=>h1c v (List.mem_of_mem_drop hv))
 obtain⟨W1,hW1⟩:∃W1,W1=w.drew.setCells b (off+(i+m)) (cs.drop i):=⟨_,rfl⟩
 have hsp1:∀k,k<n+m→(W1.cell? ⟨b,off+k,none⟩).isSome=true:=fun k hk=>by
  rw[hW1];exact isSome_setCells b _ _ _ (fun j hj=>by rw[Ki];exact hsp _ Fh) _ (hsp k hk)
 have hcp2:∀(W:World),(∀x,W.cell? x=W1.cell? x)→(∀x,W.frozen? x=W1.frozen? x)→∀ty dc,(Builtin.copy_ #[35,35] ty #[.slice (some ⟨b,off+i,none⟩) (n+m-i) dc,.slice (some ⟨vb,voff,none⟩) m vc]).run Tryd.prog W = .ok (goInt vs.length) (W.setCells b (off+i) vs):=fun W hWc hWf ty dc =>
  run_copy_cells W _ _ ty 54 b (off+i) (n+m-i) dc ⟨vb,voff,none⟩ m vc vs Tryd.underlying35 hsz (by rw[hvl];simp only[Nat.min_def];split<;>omega)
   (fun j v hj=>by
    rw[Addr.add_lit,hWc,hW1,World.cell?_setCells_out b _ _ _ _ (fun h _=>absurd h hvb)];exact hvs j v hj)
   (fun j hj=>by rw[hWc,Ki];exact hsp1 _ Fh) (fun j hj=>by rw[hWf,hW1,World.frozen?_setCells,Ki];exact hfz _ Fh) h1v
 rw[←hW1]at hcp1
 go_enter Tryd.func38,Tryd.ntmps38
 go_wp2_with (simp only[hov])
 go_region_law_o (refine step_copy_runI rfl _ _ 35 35 rfl _ _ (by simp[Act.eval,Act.put]) (by simp[Act.eval,Act.put]) (hcp1 _ _ _) ?_)
 go_wp2_with (at_builtin;refine wpList_copy_runI _ rfl _ _ 35 35 rfl _ _ rfl rfl (hcp2 _ (fun _=>rfl) (fun _=>rfl) _ _) ?_)
 go_ret
 first|exact⟨rfl,rfl⟩|exact⟨rfl,by rw[hW1]⟩
set_option maxHeartbeats 4000000 in
set_option maxRecDepth 100000 in
theorem Joq (b off n c i vb voff m vc:Nat)(cs vs:List Value)(w:World)(hi:i<n)(hm:0<m)(hnc:n≤c)(hroom:c<n+m)(hbig:(n+m)*24≤140737488355328)(hcl:cs.length=n)(hvl:vs.length=m)(hcs:∀j v,cs[j]? = some v→w.cell? ⟨b,off+j,none⟩=some v)(hvs:∀j v,vs[j]? = some v→w.cell? ⟨vb,voff+j,none⟩=some v)(h1c:∀v∈cs,v.oneCell'=true)(h1v:∀v∈vs,v.oneCell'=true): Calls Tryd.prog 38 #[.slice (some ⟨b,off,none⟩) n c,.int .i64 i,.slice (some ⟨vb,voff,none⟩) m vc] w fun e w' => e = .returned (.slice (some ⟨w.heap.size,0,none⟩) (n+m) (grownCap w (n+m) c 54))∧ w'=(((w.alloc (.cells ((cs.take i).toArray++Builtin.zeroCells (Value.slice none 0 0).cells (n+m-i)++Builtin.zeroCells (Value.slice none 0 0).cells (grownCap w (n+m) c 54-(n+m))) 54)).drew.setCells w.heap.size i vs).drew).setCells w.heap.size (i+m) (cs.drop i):=by
 have mixed:Tryd.prog.follows .mixedOrders=true:=by kernel_rfl
 obtain⟨i0,hi0,hz0,hzs,hzb⟩:=Rf;have hz1:¬((m:Int)=0):=Fh;have hz2:¬((i:Int)=(n:Int)):=Fh;have hz3:(c:Int)<(n:Int)+(m:Int):=Fh;have hsz:(Tryd.prog.info? 54).map (·.size)=some 1:=by rw[hi0];simp[hzs]
 have hbw:b<w.heap.size:=block_lt_of_cell (hcs 0 _ (FB Fh));have hvw:vb<w.heap.size:=block_lt_of_cell (hvs 0 _ (FB Fh));have hkk:(n:Int)+(m:Int)-(i:Int)=((n+m-i:Nat):Int):=Fh;have hik:i+(n+m-i)=n+m:=Fh
 have hold:(Builtin.firstCells i0.size i (.slice (some ⟨b,off,none⟩) i c)).run Tryd.prog w.drew = .ok (cs.take i).toArray w.drew:=by
  rw[hzs]
  exact run_firstCells_some w.drew 1 i ⟨b,off,none⟩ i c (cs.take i) (by rw[FT];omega) (fun j v hj=>by
   rw[Addr.add_lit];rw[List.getElem?_take]at hj;split at hj
   ·exact hcs j v hj
   ·cases hj)
 have hrz:∀ty,(Builtin.append_ #[35,3] ty #[.slice (some ⟨b,off,none⟩) i c,.int .i64 ((n:Int)+(m:Int)-(i:Int))]).run Tryd.prog w =
   .ok (.slice (some ⟨w.heap.size,0,none⟩) (n+m) (grownCap w (n+m) c 54)) (w.drew.alloc (.cells ((cs.take i).toArray++Builtin.zeroCells (Value.slice none 0 0).cells (n+m-i)++Builtin.zeroCells (Value.slice none 0 0).cells (grownCap w (n+m) c 54-(n+m))) 54)):=fun ty=>by
  have h:=Lib.run_append_grow_zeros w 35 3 ty 54 i0 _ .i64 .i64 Tryd.underlying35 Tryd.underlying3 hi0 hz0 (some ⟨b,off,none⟩) i c (cs.take i) hold (n+m-i) Fh Fh Fh Fh (by rw[hzb];omega) (by rw[hzb,hik];exact growslice_fits hroom hbig);rw[hik]at h;rw[hkk];exact h
 obtain⟨G,hG⟩:∃G,G=grownCap w (n+m) c 54:=⟨_,rfl⟩;obtain⟨ROW,hROW⟩:∃ROW:Array Value,ROW=(cs.take i).toArray++Builtin.zeroCells (Value.slice none 0 0).cells (n+m-i)++Builtin.zeroCells (Value.slice none 0 0).cells (G-(n+m)):=⟨_,rfl⟩;rw[←hG]at hrz ⊢;rw[←hROW]at hrz ⊢
 have hRl:n+m≤ROW.size:=by
  rw[hROW];simp[Builtin.zeroCells,Value.cells];omega
 obtain⟨W1,hW1⟩:∃W1,W1=w.drew.alloc (.cells ROW 54):=⟨_,rfl⟩;rw[←hW1]at hrz
 have hN:∀j,j<n+m→(W1.cell? ⟨w.heap.size,j,none⟩).isSome=true:=fun j hj=>by
  rw[hW1,World.cell?_alloc_at (w:=w.drew) ROW _ w.heap.size j rfl,Array.getElem?_eq_getElem Fh];rfl
 have hNf:∀j,W1.frozen? ⟨w.heap.size,j,none⟩=false:=fun j=>by rw[hW1];exact World.frozen?_alloc_at (w:=w.drew) ROW _ w.heap.size j rfl
 have hOb:∀j v,w.cell? ⟨b,j,none⟩=some v→W1.cell? ⟨b,j,none⟩=some v:=fun j v h=>by rw[hW1,World.cell?_alloc_past (w:=w.drew) _ b j hbw];exact h
 have hOv:∀j v,w.cell? ⟨vb,j,none⟩=some v→W1.cell? ⟨vb,j,none⟩=some v:=fun j v h=>by rw[hW1,World.cell?_alloc_past (w:=w.drew) _ vb j hvw];exact h
 have hcpA:∀(W:World),(∀x,W.cell? x=W1.cell? x)→(∀x,W.frozen? x=W1.frozen? x)→∀ty dc,(Builtin.copy_ #[35,35] ty #[.slice (some ⟨w.heap.size,i,none⟩) (n+m-i) dc,.slice (some ⟨vb,voff,none⟩) m vc]).run Tryd.prog W = .ok (goInt vs.length) (W.setCells w.heap.size i vs):=fun W hWc hWf ty dc =>
  run_copy_cells W _ _ ty 54 w.heap.size i (n+m-i) dc ⟨vb,voff,none⟩ m vc vs Tryd.underlying35 hsz (by rw[hvl];simp only[Nat.min_def];split<;>omega)
   (fun j v hj=>by rw[Addr.add_lit,hWc];exact hOv _ v (hvs j v hj))
   (fun j hj=>by rw[hWc];exact hN _ Fh) (fun j hj=>by rw[hWf];exact hNf _) h1v
 have hGn:n+m≤G:=by rw[hG];exact grownCap_ge w _ _ _
 have hG63:G≤9223372036854775807:=by
  have:=grownCap_le_maxLen w (n+m) c 54 (by unfold maxLen;omega);rw[←hG]at this;unfold maxLen at this;omega
 have hGi:¬(G=i):=Fh;have hGim:¬(G=i+m):=Fh;have hci:¬(c=i):=Fh;have hbN:b≠w.heap.size:=Fh;have hdl:(cs.drop i).length=n-i:=by rw[Kh,hcl]
 have hcpB:∀(W:World),(∀x,W.cell? x=(W1.setCells w.heap.size i vs).cell? x)→(∀x,W.frozen? x=(W1.setCells w.heap.size i vs).frozen? x)→∀ty dc sc,(Builtin.copy_ #[35,35] ty #[.slice (some ⟨w.heap.size,i+m,none⟩) (n+m-(i+m)) dc,.slice (some ⟨b,off+i,none⟩) (n-i) sc]).run Tryd.prog W = .ok (goInt (cs.drop i).length) (W.setCells w.heap.size (i+m) (cs.drop i)):=fun W hWc hWf ty dc sc =>
  run_copy_cells W _ _ ty 54 w.heap.size (i+m) (n+m-(i+m)) dc ⟨b,off+i,none⟩ (n-i) sc (cs.drop i) Tryd.underlying35 hsz (by rw[hdl];simp only[Nat.min_def];split<;>omega)
   (fun j v hj=>by
    rw[Addr.add_lit,hWc,World.cell?_setCells_out _ _ _ _ _ (fun h _=>absurd h hbN),Ki];exact hOb _ v (hcs (i+j) v (by rwa [Kq]at hj)))
   (fun j hj=>by rw[hWc];exact isSome_setCells _ _ _ _ (fun t ht=>hN _ Fh) _ (hN _ Fh))
   (fun j hj=>by rw[hWf,World.frozen?_setCells];exact hNf _) (fun v hv=>h1c v (List.mem_of_mem_drop hv))
 subst hW1;have hE1:∀x,((w.alloc (.cells ROW 54)).drew).cell? x=(w.drew.alloc (.cells ROW 54)).cell? x:=fun x=>rfl;have hE2:∀x,((w.alloc (.cells ROW 54)).drew).frozen? x=(w.drew.alloc (.cells ROW 54)).frozen? x:=fun x=>rfl;have hF1:∀x,(((w.alloc (.cells ROW 54)).drew.setCells w.heap.size i vs).drew).cell? x=((w.drew.alloc (.cells ROW 54)).setCells w.heap.size i vs).cell? x:=fun x=>rfl;have hF2:∀x,(((w.alloc (.cells ROW 54)).drew.setCells w.heap.size i vs).drew).frozen? x=((w.drew.alloc (.cells ROW 54)).setCells w.heap.size i vs).frozen? x:=fun x=>rfl;have hw1:IntKind.i64.wrap ((i:Int)+(m:Int))=(i:Int)+(m:Int):=by rw[IntKind.wrap_i64];omega
 have hb1:(0:Int)≤(i:Int)+(m:Int):=Fh;have hin:i≤n:=Fh;have htn:((i:Int)+(m:Int)).toNat=i+m:=Fh;have hb3:(i:Int)≤(n:Int):=Fh;clear hkk hik hold hROW hG hRl
 go_enter Tryd.func38,Tryd.ntmps38
 go_wp2_with (first
  | (at_builtin;refine Lib.wpList_append_run _ rfl _ _ _ _ rfl _ _ rfl rfl _ _ (hrz _) ?_)
  | (at_builtin;refine wpList_copy_runI _ rfl _ _ 35 35 rfl _ _ rfl rfl (hcpA _ hE1 hE2 _ _) ?_)
  | (at_builtin;refine wpList_copy_runI _ rfl _ _ 35 35 rfl _ _ rfl rfl (hcpB _ (fun _=>rfl) (fun _=>rfl) _ _ _) ?_))
 go_region_law_o (refine step_copy_runI rfl _ _ 35 35 rfl (.slice (some ⟨w.heap.size,i+m,none⟩) (n+m-(i+m)) (G-(i+m))) (.slice (some ⟨b,off+i,none⟩) (n-i) (c-i)) (by simp[Act.eval,Act.put]) (by simp[Act.eval,Act.put]) (hcpB _ hF1 hF2 3 (G-(i+m)) (c-i)) ?_)
 go_wp2
 go_ret
 exact⟨rfl,rfl⟩
set_option maxRecDepth 100000
section
open Go.AE Go.RowKit Go.Shelf Delphi
def Jkk:Go.Shelf.Ren:=⟨fun|246=>77|283=>78|284=>79|285=>80|286=>81|129=>83|317=>82|318=>84|319=>85|320=>86|337=>87|338=>88|n=>n,fun|2=>2|3=>3|9=>9|4=>4|171=>143|0=>0|53=>144|37=>147|5=>5|173=>148|212=>152|51=>153|20=>20|213=>154|46=>131|232=>157|233=>158|n=>n,fun|17=>0|18=>1|19=>2|n=>n⟩
theorem Jqg:Go.Proofs.LaysM.n246 Tryd.prog Jkk where
 mixed:=by kernel_rfl
 f129:=Tryd.func83.trans (congrArg some Fp)
 f246:=Tryd.func77.trans (congrArg some Fp)
 f283:=Tryd.func78.trans (congrArg some Fp)
 f284:=Tryd.func79.trans (congrArg some Fp)
 f285:=Tryd.func80.trans (congrArg some Fp)
 f286:=Tryd.func81.trans (congrArg some Fp)
 f317:=Tryd.func82.trans (congrArg some Fp)
 f318:=Tryd.func84.trans (congrArg some Fp)
 f319:=Tryd.func85.trans (congrArg some Fp)
 f320:=Tryd.func86.trans (congrArg some Fp)
 f337:=Tryd.func87.trans (congrArg some Fp)
 f338:=Tryd.func88.trans (congrArg some Fp)
 t0:=Tryd.underlying0
 a0:=Tryd.isAgg0
 z0:=Tryd.sizeOf0
 v0:=Tryd.zeroValue0
 t2:=Tryd.underlying2
 a2:=Tryd.isAgg2
 z2:=Tryd.sizeOf2
 v2:=Tryd.zeroValue2
 t3:=Tryd.underlying3
 a3:=Tryd.isAgg3
 z3:=Tryd.sizeOf3
 v3:=Tryd.zeroValue3
 t4:=Tryd.underlying4
 a4:=Tryd.isAgg4
 z4:=Tryd.sizeOf4
 v4:=Tryd.zeroValue4
 t5:=Tryd.underlying5
 a5:=Tryd.isAgg5
 z5:=Tryd.sizeOf5
 v5:=Tryd.zeroValue5
 t9:=Tryd.underlying9
 a9:=Tryd.isAgg9
 z9:=Tryd.sizeOf9
 v9:=Tryd.zeroValue9
 t20:=Tryd.underlying20
 a20:=Tryd.isAgg20
 z20:=Tryd.sizeOf20
 v20:=Tryd.zeroValue20
 t37:=Tryd.underlying147
 a37:=Tryd.isAgg147
 z37:=Tryd.sizeOf147
 v37:=Tryd.zeroValue147
 t46:=Tryd.underlying131
 a46:=Tryd.isAgg131
 z46:=Tryd.sizeOf131
 v46:=Tryd.zeroValue131
 t51:=Tryd.underlying153
 a51:=Tryd.isAgg153
 z51:=Tryd.sizeOf153
 v51:=Tryd.zeroValue153
 t53:=Tryd.underlying144
 a53:=Tryd.isAgg144
 z53:=Tryd.sizeOf144
 v53:=Tryd.zeroValue144
 t171:=Tryd.underlying143
 a171:=Tryd.isAgg143
 z171:=Tryd.sizeOf143
 v171:=Tryd.zeroValue143
 t173:=Tryd.underlying148
 a173:=Tryd.isAgg148
 z173:=Tryd.sizeOf148
 v173:=Tryd.zeroValue148
 t212:=Tryd.underlying152
 a212:=Tryd.isAgg152
 z212:=Tryd.sizeOf152
 v212:=Tryd.zeroValue152
 t213:=Tryd.underlying154
 a213:=Tryd.isAgg154
 z213:=Tryd.sizeOf154
 t232:=Tryd.underlying157
 a232:=Tryd.isAgg157
 z232:=Tryd.sizeOf157
 v232:=Tryd.zeroValue157
 t233:=Tryd.underlying158
 a233:=Tryd.isAgg158
 z233:=Tryd.sizeOf158
 v233:=Tryd.zeroValue158
 g17:=by kernel_rfl
 g18:=by kernel_rfl
 g19:=by kernel_rfl
 i0:=by kernel_rfl
 i2:=by kernel_rfl
 i3:=by kernel_rfl
 i4:=by kernel_rfl
 i5:=by kernel_rfl
 i9:=by kernel_rfl
 i20:=by kernel_rfl
 i37:=by kernel_rfl
 i46:=by kernel_rfl
 i51:=by kernel_rfl
 i53:=by kernel_rfl
 i171:=by kernel_rfl
 i173:=by kernel_rfl
 i212:=by kernel_rfl
 i232:=by kernel_rfl
 i233:=by kernel_rfl
 m17:=by kernel_rfl
 m18:=by kernel_rfl
 m19:=by kernel_rfl
variable {w:World}
theorem var_at {l:List Value}:(∃t fz,w.heap[0]? = some (.cells l.toArray t fz))↔w.var? Tryd.prog "internal/strconv.uint64pow10" = some l.toArray:=by
 have hg:Tryd.prog.globalNamed "internal/strconv.uint64pow10" = some 0:=by kernel_rfl
 unfold World.var?;rw[hg];constructor
 ·rintro⟨t,fz,h⟩;simp[h]
 ·intro h;simp only[Option.bind_some]at h;split at h
  ·rename_i cs t fz hh;cases h;exact⟨t,fz,hh⟩
  ·cases h
theorem JpJ:Qy Tryd.prog 77 0:=by
 intro n w h0 h1 hh
 have htab:Lib.TabIs Tryd.prog w "internal/strconv.uint64pow10" .u64 Lib.pow10Tab:=by
  unfold Lib.TabIs;exact var_at.1 hh
 refine (Any.internal_strconv_FormatInt_10 Jqg n h0 h1 w htab).mono ?_;rintro e w' ⟨rfl,k,os,rfl⟩;exact⟨rfl,Lib.below_grow _ _ (FH _) k os⟩
def Mr (P:Program):XTab where
 code:=(XTab.of P).code
 prim f args aw:=match f with
  | 77=>IB args aw
  | 38=>Be 24 args aw
  | _=>Option.none
 ext f args aw:=Option.none
theorem Jpn:TabOK Tryd.prog (Mr Tryd.prog).tab where
 mixed:=by kernel_rfl
 code:=(XTab.of_ok (P:=Tryd.prog) Fp).code
 prim f args aw v aw' h:=by
  simp only[XTab.tab,Mr]at h;split at h
  ·exact⟨⟨_,Tryd.func77,by kernel_rfl,by decide +kernel⟩,fun w m base args' hR hargs=>Jlu JpJ rfl h w m base args' hR hargs⟩
  ·exact⟨⟨_,Tryd.func38,by kernel_rfl,by decide +kernel⟩,fun w m base args' hR hargs=>JlD (te:=54) (zero:=Value.slice none 0 0) (fun b off n c i vb voff m vc cs vs w=>JmN b off n c i vb voff m vc cs vs w) (fun b off n c i vb voff m vc cs vs w=>Joq b off n c i vb voff m vc cs vs w) rfl h w m base args' hR hargs⟩
  ·cases h
 ext f args aw v aw' h w m base args' hR hargs:=by cases h
theorem JjM {m:Map}:∀{l:List V},(∀x∈l,∃k n,x = .int k n)→VRs m l (l.map IX)
 | [],_=>rfl
 | x::l,h=>by
  obtain⟨k,n,rfl⟩:=h x Fj;exact⟨_,_,rfl,rfl,JjM fun y hy=>h y (by simp[hy])⟩
theorem JoM:∀x∈pow10V,∃k n,x = .int k n:=by
 intro x hx;simp only[pow10V,FJ,FZ,or_false]at hx;rcases hx with rfl|rfl|rfl|rfl|rfl|rfl|rfl|rfl|rfl|rfl|rfl|rfl|rfl|rfl|rfl|rfl|rfl|rfl|rfl|rfl<;>exact⟨_,_,rfl⟩
theorem JmK (h:∃t fz,w.heap[0]? = some (.cells (pow10V.map IX).toArray t fz)):Ij w:=by
 intro i g l hi;obtain⟨t,fz,h⟩:=h;cases i with
 | zero =>
  cases hi;exact⟨_,t,fz,h,JjM JoM⟩
 | succ i=>cases hi
theorem Jlx {l:List (String×DataW Unit)}(hl:laidMetH Tryd.prog l w)(hm:("internal/strconv.uint64pow10",Lib.tabData .u64 Lib.pow10Tab)∈l.filter fun x=>x.2.handleName?.isNone):Ij w:=by
 obtain⟨ps,hv,_⟩:=(laidMetH_iff.1 hl).1
 have go:∀{l:List (String×DataW Unit)} {ps:List MemPlace},DataW.LaidVars Tryd.prog w l ps→("internal/strconv.uint64pow10",Lib.tabData .u64 Lib.pow10Tab)∈l→Ij w:=by
  intro l;induction l with
  | nil=>intro ps _ h;cases h
  | cons x l ih =>
   intro ps h hm;obtain⟨n,d⟩:=x;obtain⟨g,t,cs,fuel,p,q,h1,h2,h3,h4,h5,_⟩:=h;rcases List.mem_cons.1 hm with e|e
   ·cases e;have hg:Tryd.prog.globalNamed "internal/strconv.uint64pow10" = some 0:=by kernel_rfl
    rw[hg]at h1;cases h1;have ht:(Tryd.prog.globals[0]?).map (·.type)=some 152:=by kernel_rfl
    rw[ht]at h2;cases h2;have:=Lib.cells_of_tab Tryd.underlying152 Tryd.underlying144 Fp Fp h4;refine JmK ?_;have hx:=(var_at (l:=cs.toList)).2 (by simpa using h3);rw[this]at hx;exact hx
   ·exact ih h5 e
 exact go hv hm
theorem JjN {b:Nat}{x:Blk}(h:AW.start.heap.get b=some x):∃l,x = .cells l .ro:=by
 obtain⟨_,_,l,_,_,h3⟩:=Ie (k:=0) h;exact⟨l,h3⟩
def Ca (P:Program):Tab:=(Mr P).tab
end
end Go.Proofs.YtegdcbdicpfbpaaDoor
namespace Go.AE
variable [Globs]
section
variable {tab:Tab}
def WX (tab:Tab) (c:ACode) (fr:Fr) (aw:AW) (Q:AExit→Fr→AW→Prop):Prop:=∃e fr' aw',Exec tab c fr aw e fr' aw'∧Q e fr' aw'
def WO (tab:Tab) (l:List AOper) (fr:Fr) (aw:AW) (K:Fr→AW→Prop):Prop:=∃fr' aw',Ops tab l fr aw fr' aw'∧K fr' aw'
def W1 (tab:Tab) (o:AOper) (fr:Fr) (aw:AW) (K:V→AW→Prop):Prop:=∃v aw',One tab o fr aw v aw'∧K v aw'
def WF (tab:Tab) (f:Nat) (args:List V) (aw:AW) (K:V→AW→Prop):Prop:=∃v aw',CallR tab f args aw v aw'∧K v aw'
def WD (tab:Tab) (l:List DOper) (fr:Fr) (aw:AW) (K:List Stp→Fr→AW→Prop):Prop:=∃st fr' aw',Pass tab l fr aw st fr' aw'∧K st fr' aw'
variable {fr:Fr} {aw:AW} {Q:AExit→Fr→AW→Prop}
theorem WX.mono {c:ACode}{Q':AExit→Fr→AW→Prop}(h:WX tab c fr aw Q)(hq:∀e f a,Q e f a→Q' e f a):WX tab c fr aw Q':=by
 obtain⟨e,f,a,h1,h2⟩:=h;exact⟨e,f,a,h1,hq _ _ _ h2⟩
variable {args:List V} {K:V→AW→Prop}
theorem WF.mono {f:Nat}{K':V→AW→Prop}(h:WF tab f args aw K)(hk:∀v a,K v a→K' v a):WF tab f args aw K':=by
 obtain⟨v,a,h1,h2⟩:=h;exact⟨v,a,h1,hk _ _ h2⟩
def onw (Q:AExit→Fr→AW→Prop) (N:Fr→AW→Prop):AExit→Fr→AW→Prop
 | .normal,f,a=>N f a
 | e,f,a=>Q e f a
def inB (id:Nat) (Q:AExit→Fr→AW→Prop):AExit→Fr→AW→Prop
 | .exit id',f,a=>if id'=id then Q .normal f a else Q (.exit id') f a
 | e,f,a=>Q e f a
variable {N:Fr→AW→Prop} {f:Fr} {a:AW}
@[simp] theorem onw_normal:onw Q N .normal f a=N f a:=rfl
variable {id:Nat}
@[simp] theorem onw_exit:onw Q N (.exit id) f a=Q (.exit id) f a:=rfl
@[simp] theorem onw_ret:onw Q N .ret f a=Q .ret f a:=rfl
@[simp] theorem inB_normal:inB id Q .normal f a=Q .normal f a:=rfl
@[simp] theorem inB_exit {id':Nat}:inB id Q (.exit id') f a=if id'=id then Q .normal f a else Q (.exit id') f a:=rfl
@[simp] theorem inB_ret:inB id Q .ret f a=Q .ret f a:=rfl
def MC (o:Option V) (A B:Prop):Prop :=
 match o with
 | some (.bool b)=>bif b then A else B
 | _=>False
theorem JnV {b:Bool}{A B:Prop}(h1:b=true→A)(h2:b=false→B):MC (some (.bool b)) A B:=by
 cases b
 ·exact h2 rfl
 ·exact h1 rfl
theorem Jkp:WX tab .skip fr aw Q=Q .normal fr aw:=by
 refine propext ⟨?_,fun h=>⟨_,_,_,.skip,h⟩⟩;rintro⟨_,_,_,h1,h2⟩;cases h1;exact h2
theorem Mf:WX tab .ret fr aw Q=Q .ret fr aw:=by
 refine propext ⟨?_,fun h=>⟨_,_,_,.ret,h⟩⟩;rintro⟨_,_,_,h1,h2⟩;cases h1;exact h2
theorem Jko:WX tab (.exit id) fr aw Q=Q (.exit id) fr aw:=by
 refine propext ⟨?_,fun h=>⟨_,_,_,.exit,h⟩⟩;rintro⟨_,_,_,h1,h2⟩;cases h1;exact h2
variable {l:List AOper}
theorem QA:WX tab (.region l) fr aw Q=WO tab l fr aw (fun f a=>Q .normal f a):=by
 refine propext ⟨?_,?_⟩
 ·rintro⟨_,_,_,h1,h2⟩;cases h1;rename_i h;exact⟨_,_,h,h2⟩
 ·rintro⟨_,_,h1,h2⟩;exact⟨_,_,_,.region h1,h2⟩
theorem JnJ {l:List DOper}:WX tab (.drawn l) fr aw Q=WD tab l fr aw (fun st f a=>Om l st=true∧Q .normal f a):=by
 refine propext ⟨?_,?_⟩
 ·rintro⟨_,_,_,h1,h2⟩;cases h1;rename_i h h';exact⟨_,_,_,h',h,h2⟩
 ·rintro⟨_,_,_,h1,h',h2⟩;exact⟨_,_,_,.drawn h1 h',h2⟩
variable {b:ACode}
theorem Jmb {a:ACode}:WX tab (.seq a b) fr aw Q=WX tab a fr aw (onw Q fun f w=>WX tab b f w Q):=by
 refine propext ⟨?_,?_⟩
 ·rintro⟨_,_,_,h1,h2⟩;cases h1 with
  | seq i1 i2=>exact⟨_,_,_,i1,_,_,_,i2,h2⟩
  | seqE i1=>exact⟨_,_,_,i1,h2⟩
  | seqR i1=>exact⟨_,_,_,i1,h2⟩
 ·rintro⟨e,_,_,h1,h2⟩;cases e with
  | normal=>obtain⟨_,_,_,i2,h3⟩:=h2;exact⟨_,_,_,.seq h1 i2,h3⟩
  | exit id=>exact⟨_,_,_,.seqE h1,h2⟩
  | ret=>exact⟨_,_,_,.seqR h1,h2⟩
theorem Jkn {c:Opd}{a:ACode}:WX tab (.cond c a b) fr aw Q=MC (c.ev fr) (WX tab a fr aw Q) (WX tab b fr aw Q):=by
 refine propext ⟨?_,?_⟩
 ·rintro⟨_,_,_,h1,h2⟩;cases h1 with
  | condT i0 i1=>rw[i0];exact⟨_,_,_,i1,h2⟩
  | condF i0 i1=>rw[i0];exact⟨_,_,_,i1,h2⟩
 ·intro h;unfold MC at h;split at h
  ·rename_i v hv;cases v with
   | true=>obtain⟨_,_,_,i1,h2⟩:=h;exact⟨_,_,_,.condT hv i1,h2⟩
   | false=>obtain⟨_,_,_,i1,h2⟩:=h;exact⟨_,_,_,.condF hv i1,h2⟩
  ·exact h.elim
theorem Q9:WX tab (.block id b) fr aw Q=WX tab b fr aw (inB id Q):=by
 refine propext ⟨?_,?_⟩
 ·rintro⟨_,_,_,h1,h2⟩;cases h1 with
  | block i1=>exact⟨_,_,_,i1,h2⟩
  | blockX i1=>exact⟨_,_,_,i1,by simpa using h2⟩
  | blockE i1 hne=>exact⟨_,_,_,i1,by simpa[hne]using h2⟩
  | blockR i1=>exact⟨_,_,_,i1,h2⟩
 ·rintro⟨e,_,_,h1,h2⟩;cases e with
  | normal=>exact⟨_,_,_,.block h1,h2⟩
  | exit id' =>
   simp only[inB_exit]at h2;split at h2
   ·rename_i he;subst he;exact⟨_,_,_,.blockX h1,h2⟩
   ·rename_i he;exact⟨_,_,_,.blockE h1 he,h2⟩
  | ret=>exact⟨_,_,_,.blockR h1,h2⟩
theorem GI:WX tab (.scope b) fr aw Q=WX tab b fr aw Q:=by
 refine propext ⟨?_,?_⟩
 ·rintro⟨_,_,_,h1,h2⟩;cases h1;rename_i h;exact⟨_,_,_,h,h2⟩
 ·rintro⟨_,_,_,h1,h2⟩;exact⟨_,_,_,.scope h1,h2⟩
theorem Jpk:WX tab (.loop b) fr aw Q=WX tab b fr aw (onw Q fun f w=>WX tab (.loop b) f w Q):=by
 refine propext ⟨?_,?_⟩
 ·rintro⟨_,_,_,h1,h2⟩;cases h1 with
  | loop i1 i2=>exact⟨_,_,_,i1,_,_,_,i2,h2⟩
  | loopE i1=>exact⟨_,_,_,i1,h2⟩
  | loopR i1=>exact⟨_,_,_,i1,h2⟩
 ·rintro⟨e,_,_,h1,h2⟩;cases e with
  | normal=>obtain⟨_,_,_,i2,h3⟩:=h2;exact⟨_,_,_,.loop h1 i2,h3⟩
  | exit id=>exact⟨_,_,_,.loopE h1,h2⟩
  | ret=>exact⟨_,_,_,.loopR h1,h2⟩
theorem Jl8 {K:Fr→AW→Prop}:WO tab [] fr aw K=K fr aw:=by
 refine propext ⟨?_,fun h=>⟨_,_,.nil,h⟩⟩;rintro⟨_,_,h1,h2⟩;cases h1;exact h2
theorem Iy {o:AOper}{K:Fr→AW→Prop}:WO tab (o::l) fr aw K=W1 tab o fr aw (fun v a=>WO tab l (PG fr o.dst v) a K):=by
 refine propext ⟨?_,?_⟩
 ·rintro⟨_,_,h1,h2⟩;cases h1;rename_i i1 i2;exact⟨_,_,i1,_,_,i2,h2⟩
 ·rintro⟨_,_,i1,_,_,i2,h2⟩;exact⟨_,_,.cons i1 i2,h2⟩
theorem Jqq {K:List Stp→Fr→AW→Prop}:WD tab [] fr aw K=K [] fr aw:=by
 refine propext ⟨?_,fun h=>⟨_,_,_,.nil,h⟩⟩;rintro⟨_,_,_,h1,h2⟩;cases h1;exact h2
theorem De {d:DOper}{l:List DOper}{K:List Stp→Fr→AW→Prop}:WD tab (d::l) fr aw K=W1 tab d.op (Pb fr d.hide) aw (fun v a=>WD tab l (PG fr d.op.dst v) a (fun st f w=>K (⟨Pb fr d.hide,v,aw,a⟩::st) f w)):=by
 refine propext ⟨?_,?_⟩
 ·rintro⟨_,_,_,h1,h2⟩;cases h1;rename_i i1 i2;exact⟨_,_,i1,_,_,_,i2,h2⟩
 ·rintro⟨_,_,i1,_,_,_,i2,h2⟩;exact⟨_,_,_,.cons i1 i2,h2⟩
def WC (tab:Tab) (f:Nat) (args:List V) (aw:AW) (K:V→AW→Prop):Prop:=WF tab f args aw K∨∃v aw',tab.ext f args aw v aw'∧K v aw'
theorem WC.of {f:Nat}(h:WF tab f args aw K):WC tab f args aw K:=.inl h
def JqZ (tab:Tab) (r:Option (Res×AW)) (K:V→AW→Prop):Prop :=
 match r with
 | some (.val v,a)=>K v a
 | some (.skip,a)=>K .undef a
 | some (.call f args,a)=>WC tab f args a K
 | none=>False
def Jpd (w:Option Bool) (A:Prop) (B:Prop):Prop :=
 match w with
 | some b=>bif b then A else B
 | none=>False
theorem BG {o:AOper}:W1 tab o fr aw K=Jpd (wanted fr o.guard) (JqZ tab (aop o.op fr aw) K) (K .undef aw):=by
 refine propext ⟨?_,fun h=>?_⟩
 ·rintro⟨v,a,h1,h2⟩;cases h1 with
  | pass hw=>rw[hw];exact h2
  | val hw ha=>rw[hw,ha];exact h2
  | skip hw ha=>rw[hw,ha];exact h2
  | call hw ha hc=>rw[hw,ha];exact .inl ⟨_,_,hc,h2⟩
  | ext hw ha hc=>rw[hw,ha];exact .inr ⟨_,_,hc,h2⟩
 ·unfold Jpd at h;split at h
  ·rename_i b hw;cases b with
   | true =>
    unfold JqZ at h;simp only[cond_true]at h;split at h
    ·rename_i ha;exact⟨_,_,.val hw ha,h⟩
    ·rename_i ha;exact⟨_,_,.skip hw ha,h⟩
    ·rename_i ha;rcases h with⟨v,a,h1,h2⟩|⟨v,a,h1,h2⟩
     ·exact⟨_,_,.call hw ha h1,h2⟩
     ·exact⟨_,_,.ext hw ha h1,h2⟩
    ·exact h.elim
   | false=>exact⟨_,_,.pass hw,h⟩
  ·exact h.elim
theorem Jpg {f:Nat}{af:AFun}(hc:tab.code f=some af)(hn:args.length≤af.ntmps)(h:WX tab af.body (OY args 0) aw (fun e fr' aw'=>(e = .normal∨e = .ret)∧∃vs,PQ fr' aw' af.results=some vs∧K (H7 vs) aw')):WF tab f args aw K:=by
 obtain⟨e,fr',aw',h1,h2,vs,h3,h4⟩:=h;exact⟨_,_,.code hc hn h1 h2 h3,h4⟩
end
section
variable [Globs]
inductive SI where
 | code (c:ACode)
 | ops (l:List AOper)
 | endB (id:Nat)
section
variable {tab:Tab}
def KS (tab:Tab):List SI→(Fr→AW→Prop)→AExit→Fr→AW→Prop
 | [],Q=>fun e f w=>match e with
  | .exit _=>False
  | _=>Q f w
 | .endB id::s,Q=>inB id (KS tab s Q)
 | .code c::s,Q=>onw (KS tab s Q) (fun f w=>WX tab c f w (KS tab s Q))
 | .ops l::s,Q=>onw (KS tab s Q) (fun f w=>WO tab l f w (fun f w=>KS tab s Q .normal f w))
def WS (tab:Tab) (s:List SI) (fr:Fr) (aw:AW) (Q:Fr→AW→Prop):Prop:=KS tab s Q .normal fr aw
def Lu (id:Nat):List SI→Option (List SI)
 | []=>none
 | .endB id'::s=>if id=id' then some s else Lu id s
 | .code _::s=>Lu id s
 | .ops _::s=>Lu id s
theorem Du {Q:Fr→AW→Prop}{f:Fr}{w:AW}(h:Q f w):∀{s:List SI},KS tab s Q .ret f w
 | []=>h
 | .endB id::s=>Du (s:=s) h
 | .code c::s=>Du (s:=s) h
 | .ops l::s=>Du (s:=s) h
theorem Db {id:Nat}{Q:Fr→AW→Prop}{f:Fr}{w:AW}:∀{s s':List SI},Lu id s=some s'→WS tab s' f w Q→KS tab s Q (.exit id) f w
 | [],s',h,_=>by cases h
 | .endB id'::s,s',h,hw=>by
  simp only[Lu]at h;split at h
  ·rename_i hb;subst hb;cases h;simp only[KS,inB,if_pos];exact hw
  ·rename_i hb;simp only[KS,inB,if_neg hb];exact Db h hw
 | .code c::s,s',h,hw=>Db (s:=s) h hw
 | .ops l::s,s',h,hw=>Db (s:=s) h hw
variable {fr:Fr} {aw:AW} {Q:Fr→AW→Prop}
theorem LY (h:Q fr aw):WS tab [] fr aw Q:=h
variable {id:Nat} {s:List SI}
theorem Jph (h:WS tab s fr aw Q):WS tab (.endB id::s) fr aw Q:=h
theorem Jpj (h:WS tab s fr aw Q):WS tab (.code .skip::s) fr aw Q:=by
 show WX tab .skip fr aw _;rw[Jkp];exact h
theorem Jqs {a b:ACode}(h:WS tab (.code a :: .code b::s) fr aw Q):WS tab (.code (.seq a b)::s) fr aw Q:=by
 show WX tab (.seq a b) fr aw _;rw[Jmb];exact h
theorem JnF {b:ACode}(h:WS tab (.code b :: .endB id::s) fr aw Q):WS tab (.code (.block id b)::s) fr aw Q:=by
 show WX tab (.block id b) fr aw _;rw[Q9];exact h
theorem JnI {b:ACode}(h:WS tab (.code b::s) fr aw Q):WS tab (.code (.scope b)::s) fr aw Q:=by
 show WX tab (.scope b) fr aw _;rw[GI];exact h
variable {l:List AOper}
theorem Jma (h:WS tab (.ops l::s) fr aw Q):WS tab (.code (.region l)::s) fr aw Q:=by
 show WX tab (.region l) fr aw _;rw[QA];exact h
variable {s':List SI}
theorem Jkm (hp:Lu id s=some s')(h:WS tab s' fr aw Q):WS tab (.code (.exit id)::s) fr aw Q:=by
 show WX tab (.exit id) fr aw _;rw[Jko];exact Db hp h
theorem Hp (h:Q fr aw):WS tab (.code .ret::s) fr aw Q:=by
 show WX tab .ret fr aw _;rw[Mf];exact Du h
theorem OQ {b:ACode}(h:WS tab (.code b :: .code (.loop b)::s) fr aw Q):WS tab (.code (.loop b)::s) fr aw Q:=by
 show WX tab (.loop b) fr aw _;rw[Jpk];exact h
theorem OA {b:ACode}(I:Nat→Fr→AW→Prop)(step:∀n f w,I n f w→(∀n' f' w',n'<n→I n' f' w'→WS tab (.code (.loop b)::s) f' w' Q)→WS tab (.code b :: .code (.loop b)::s) f w Q): ∀(n:Nat) {fr:Fr} {aw:AW},I n fr aw→WS tab (.code (.loop b)::s) fr aw Q:=by
 intro n;induction n using Nat.strongRecOn with
 | ind n ih=>intro fr aw hI;exact OQ (step n fr aw hI fun n' f' w' h1 h2=>ih n' h1 h2)
variable {c:Opd}
theorem Jkl {a b:ACode}{t:Bool}(hc:c.ev fr=some (.bool t))(h1:t=true→WS tab (.code a::s) fr aw Q)(h2:t=false→WS tab (.code b::s) fr aw Q):WS tab (.code (.cond c a b)::s) fr aw Q:=by
 show WX tab (.cond c a b) fr aw _;rw[Jkn,hc];exact JnV h1 h2
theorem JnH {a b:ACode}(hc:c.ev fr=some (.bool true))(h1:WS tab (.code a::s) fr aw Q):WS tab (.code (.cond c a b)::s) fr aw Q:=
 Jkl hc (fun _=>h1) (fun h=>by cases h)
theorem JnG {a b:ACode}(hc:c.ev fr=some (.bool false))(h1:WS tab (.code b::s) fr aw Q):WS tab (.code (.cond c a b)::s) fr aw Q:=
 Jkl hc (fun h=>by cases h) (fun _=>h1)
theorem Jl9 (h:WS tab s fr aw Q):WS tab (.ops []::s) fr aw Q:=by
 show WO tab [] fr aw _;rw[Jl8];exact h
variable {o:AOper} {aw1:AW} {v:V}
theorem Jqt (hw:wanted fr o.guard=some true)(ha:aop o.op fr aw=some (.val v,aw1))(h:WS tab (.ops l::s) (PG fr o.dst v) aw1 Q):WS tab (.ops (o::l)::s) fr aw Q:=by
 show WO tab (o::l) fr aw _;rw[Iy,BG,hw,ha];exact h
theorem Jqr (hw:wanted fr o.guard=some true)(ha:aop o.op fr aw=some (.skip,aw1))(h:WS tab (.ops l::s) (PG fr o.dst .undef) aw1 Q):WS tab (.ops (o::l)::s) fr aw Q:=by
 show WO tab (o::l) fr aw _;rw[Iy,BG,hw,ha];exact h
theorem Jpi (hw:wanted fr o.guard=some false)(h:WS tab (.ops l::s) (PG fr o.dst .undef) aw Q):WS tab (.ops (o::l)::s) fr aw Q:=by
 show WO tab (o::l) fr aw _;rw[Iy,BG,hw];exact h
variable {args:List V}
theorem Hq {f:Nat}(hw:wanted fr o.guard=some true)(ha:aop o.op fr aw=some (.call f args,aw1))(h:WF tab f args aw1 (fun v w=>WS tab (.ops l::s) (PG fr o.dst v) w Q)):WS tab (.ops (o::l)::s) fr aw Q:=by
 show WO tab (o::l) fr aw _;rw[Iy,BG,hw,ha];exact .inl h
theorem Hy {f:Nat}{K:V→AW→Prop}{af:AFun}(hc:tab.code f=some af)(hn:Nat.ble args.length af.ntmps=true)(h:WS tab [.code af.body] (OY args 0) aw (fun fr' aw'=>∃vs,PQ fr' aw' af.results=some vs∧K (H7 vs) aw')):WF tab f args aw K:=by
 refine Jpg hc (Nat.le_of_ble_eq_true hn) (WX.mono h ?_);intro e f w hk;cases e with
 | normal=>exact⟨.inl rfl,hk⟩
 | ret=>exact⟨.inr rfl,hk⟩
 | exit id=>exact hk.elim
inductive RS where
 | on (s:List SI) (fr:Fr) (aw:AW)
 | none
def Pq:Nat→List SI→Fr→AW→RS
 | 0,s,fr,aw=>RS.on s fr aw
 | n+1,[],fr,aw=>RS.on [] fr aw
 | n+1,.endB _::s,fr,aw=>Pq n s fr aw
 | n+1,.ops []::s,fr,aw=>Pq n s fr aw
 | n+1,.ops (o::l)::s,fr,aw=>match wanted fr o.guard with
  | some true=>match aop o.op fr aw with
   | some (.val v,aw1)=>Pq n (.ops l::s) (PG fr o.dst v) aw1
   | some (.skip,aw1)=>Pq n (.ops l::s) (PG fr o.dst .undef) aw1
   | _=>RS.on (.ops (o::l)::s) fr aw
  | some false=>Pq n (.ops l::s) (PG fr o.dst .undef) aw
  | none=>RS.on (.ops (o::l)::s) fr aw
 | n+1,.code c::s,fr,aw=>match c with
  | .skip=>Pq n s fr aw
  | .seq a b=>Pq n (.code a :: .code b::s) fr aw
  | .block id b=>Pq n (.code b :: .endB id::s) fr aw
  | .scope b=>Pq n (.code b::s) fr aw
  | .region l=>Pq n (.ops l::s) fr aw
  | .exit id=>match Lu id s with
   | some s'=>Pq n s' fr aw
   | none=>RS.on (.code (.exit id)::s) fr aw
  | .cond c a b=>match c.ev fr with
   | some (.bool true)=>Pq n (.code a::s) fr aw
   | some (.bool false)=>Pq n (.code b::s) fr aw
   | _=>RS.on (.code (.cond c a b)::s) fr aw
  | .loop b=>RS.on (.code (.loop b)::s) fr aw
  | .drawn l=>RS.on (.code (.drawn l)::s) fr aw
  | .ret=>RS.on [.code .ret] fr aw
theorem PR:∀(n:Nat) {s:List SI} {fr:Fr} {aw:AW},Pq n s fr aw≠RS.none
 | 0,s,fr,aw=>by intro h;cases h
 | n+1,[],fr,aw=>by intro h;cases h
 | n+1,.endB _::s,fr,aw=>PR n
 | n+1,.ops []::s,fr,aw=>PR n
 | n+1,.ops (o::l)::s,fr,aw=>by
  simp only[Pq];split
  ·split
   ·exact PR n
   ·exact PR n
   ·intro h;cases h
  ·exact PR n
  ·intro h;cases h
 | n+1,.code c::s,fr,aw=>by
  cases c with
  | skip=>exact PR n
  | seq a b=>exact PR n
  | block id b=>exact PR n
  | scope b=>exact PR n
  | region l=>exact PR n
  | exit id =>
   simp only[Pq];split
   ·exact PR n
   ·intro h;cases h
  | cond c a b =>
   simp only[Pq];split
   ·exact PR n
   ·exact PR n
   ·intro h;cases h
  | loop b=>intro h;cases h
  | drawn l=>intro h;cases h
  | ret=>intro h;cases h
theorem P2 {Q:Fr→AW→Prop}:∀(n:Nat) {s s':List SI} {fr fr':Fr} {aw aw':AW},Pq n s fr aw=RS.on s' fr' aw'→WS tab s' fr' aw' Q→WS tab s fr aw Q
 | 0,s,s',fr,fr',aw,aw',h,hw=>by cases h;exact hw
 | n+1,[],s',fr,fr',aw,aw',h,hw=>by cases h;exact hw
 | n+1,.endB _::s,s',fr,fr',aw,aw',h,hw=>Jph (P2 n h hw)
 | n+1,.ops []::s,s',fr,fr',aw,aw',h,hw=>Jl9 (P2 n h hw)
 | n+1,.ops (o::l)::s,s',fr,fr',aw,aw',h,hw=>by
  simp only[Pq]at h;split at h
  ·rename_i h1;split at h
   ·rename_i h2;exact Jqt h1 h2 (P2 n h hw)
   ·rename_i h2;exact Jqr h1 h2 (P2 n h hw)
   ·cases h;exact hw
  ·rename_i h1;exact Jpi h1 (P2 n h hw)
  ·cases h;exact hw
 | n+1,.code c::s,s',fr,fr',aw,aw',h,hw=>by
  cases c with
  | skip=>exact Jpj (P2 n h hw)
  | seq a b=>exact Jqs (P2 n h hw)
  | block id b=>exact JnF (P2 n h hw)
  | scope b=>exact JnI (P2 n h hw)
  | region l=>exact Jma (P2 n h hw)
  | exit id =>
   simp only[Pq]at h;split at h
   ·rename_i h1;exact Jkm h1 (P2 n h hw)
   ·cases h;exact hw
  | cond c a b =>
   simp only[Pq]at h;split at h
   ·rename_i h1;exact JnH h1 (P2 n h hw)
   ·rename_i h1;exact JnG h1 (P2 n h hw)
   ·cases h;exact hw
  | loop b=>cases h;exact hw
  | drawn l=>cases h;exact hw
  | ret=>cases h;have h0:WX tab .ret fr aw (KS tab [] Q):=hw;rw[Mf]at h0;exact Hp h0
theorem L8 {Q:Fr→AW→Prop}:∀(n:Nat) {s s':List SI} {fr fr':Fr} {aw aw':AW},Pq n s fr aw=RS.on s' fr' aw'→WS tab s fr aw Q→WS tab s' fr' aw' Q
 | 0,s,s',fr,fr',aw,aw',h,hw=>by cases h;exact hw
 | n+1,[],s',fr,fr',aw,aw',h,hw=>by cases h;exact hw
 | n+1,.endB _::s,s',fr,fr',aw,aw',h,hw=>L8 n h hw
 | n+1,.ops []::s,s',fr,fr',aw,aw',h,hw=>by
  have hw:WO tab [] fr aw _:=hw;rw[Jl8]at hw;exact L8 n h hw
 | n+1,.ops (o::l)::s,s',fr,fr',aw,aw',h,hw=>by
  have hw0:WO tab (o::l) fr aw _:=hw;rw[Iy,BG]at hw0;simp only[Pq]at h;split at h
  ·rename_i h1;rw[h1]at hw0;split at h
   ·rename_i h2;rw[h2]at hw0;exact L8 n h hw0
   ·rename_i h2;rw[h2]at hw0;exact L8 n h hw0
   ·cases h;exact hw
  ·rename_i h1;rw[h1]at hw0;exact L8 n h hw0
  ·cases h;exact hw
 | n+1,.code c::s,s',fr,fr',aw,aw',h,hw=>by
  have hw0:WX tab c fr aw _:=hw;cases c with
  | skip=>rw[Jkp]at hw0;exact L8 n h hw0
  | seq a b=>rw[Jmb]at hw0;exact L8 n (s:=.code a :: .code b::s) h hw0
  | block id b=>rw[Q9]at hw0;exact L8 n (s:=.code b :: .endB id::s) h hw0
  | scope b=>rw[GI]at hw0;exact L8 n (s:=.code b::s) h hw0
  | region l=>rw[QA]at hw0;exact L8 n (s:=.ops l::s) h hw0
  | exit id =>
   rw[Jko]at hw0;simp only[Pq]at h;split at h
   ·rename_i s1 h1;refine L8 n h ?_;clear h hw;induction s with
    | nil=>cases h1
    | cons x s ih =>
     cases x with
     | code c=>exact ih hw0 h1
     | ops l=>exact ih hw0 h1
     | endB id' =>
      simp only[Lu]at h1;split at h1
      ·rename_i he;subst he;cases h1;simp only[KS,inB,if_pos]at hw0;exact hw0
      ·rename_i he;simp only[KS,inB,if_neg he]at hw0;exact ih hw0 h1
   ·cases h;exact hw
  | cond c a b =>
   rw[Jkn]at hw0;simp only[Pq]at h;split at h
   ·rename_i h1;rw[h1]at hw0;exact L8 n (s:=.code a::s) h hw0
   ·rename_i h1;rw[h1]at hw0;exact L8 n (s:=.code b::s) h hw0
   ·cases h;exact hw
  | loop b=>cases h;exact hw
  | drawn l=>cases h;exact hw
  | ret =>
   cases h;rw[Mf]at hw0
   have:∀{s:List SI},KS tab s Q .ret fr aw→Q fr aw:=by
    intro s;induction s with
    | nil=>intro h;exact h
    | cons x s ih=>intro h;cases x<;>exact ih h
   exact Hp (this hw0)
theorem Jkv:∃f:Nat→List SI→Fr→AW→RS,f=Pq:=⟨_,rfl⟩
@[irreducible] noncomputable def eRun:Nat→List SI→Fr→AW→RS:=Classical.choose Jkv
theorem PZ:eRun=Pq:=by unfold eRun;exact Classical.choose_spec Jkv
variable {fr':Fr} {aw':AW}
theorem Ho (n:Nat)(h:eRun n s fr aw=RS.on s' fr' aw')(hw:WS tab s' fr' aw' Q):WS tab s fr aw Q:=by
 rw[PZ]at h;exact P2 n h hw
theorem Fz (h:eRun 1000 s fr aw=RS.on s' fr' aw')(hw:WS tab s' fr' aw' Q):WS tab s fr aw Q:=Ho 1000 h hw
theorem Hs (n:Nat){m:Nat}(h:eRun n s fr aw=eRun m s' fr' aw')(hw:WS tab s' fr' aw' Q):WS tab s fr aw Q:=by
 rw[PZ]at h;cases he:Pq m s' fr' aw' with
 | on s1 f1 a1=>rw[he]at h;exact P2 n h (L8 m he hw)
 | none=>exact absurd he (PR m)
variable {n:Nat}
theorem Jn6:eRun (n+1) [] fr aw=RS.on [] fr aw:=by rw[PZ];rfl
theorem JmD:eRun (n+1) (.endB id::s) fr aw=eRun n s fr aw:=by rw[PZ];rfl
theorem JjZ:eRun (n+1) (.ops []::s) fr aw=eRun n s fr aw:=by rw[PZ];rfl
theorem Jn7:eRun (n+1) (.ops (o::l)::s) fr aw=match wanted fr o.guard with
  | some true=>match aop o.op fr aw with
   | some (.val v,aw1)=>eRun n (.ops l::s) (PG fr o.dst v) aw1
   | some (.skip,aw1)=>eRun n (.ops l::s) (PG fr o.dst .undef) aw1
   | _=>RS.on (.ops (o::l)::s) fr aw
  | some false=>eRun n (.ops l::s) (PG fr o.dst .undef) aw
  | none=>RS.on (.ops (o::l)::s) fr aw:=by rw[PZ];rfl
theorem JmF:eRun (n+1) (.code .skip::s) fr aw=eRun n s fr aw:=by rw[PZ];rfl
theorem Jn9 {a b:ACode}:eRun (n+1) (.code (.seq a b)::s) fr aw=eRun n (.code a :: .code b::s) fr aw:=by rw[PZ];rfl
theorem Jlk {b:ACode}:eRun (n+1) (.code (.block id b)::s) fr aw=eRun n (.code b :: .endB id::s) fr aw:=by rw[PZ];rfl
theorem Jlm {b:ACode}:eRun (n+1) (.code (.scope b)::s) fr aw=eRun n (.code b::s) fr aw:=by rw[PZ];rfl
theorem Jj0:eRun (n+1) (.code (.region l)::s) fr aw=eRun n (.ops l::s) fr aw:=by rw[PZ];rfl
theorem Hn:eRun (n+1) (.code (.exit id)::s) fr aw=match Lu id s with
   | some s'=>eRun n s' fr aw
   | none=>RS.on (.code (.exit id)::s) fr aw:=by rw[PZ];rfl
theorem JmC {a b:ACode}:eRun (n+1) (.code (.cond c a b)::s) fr aw=match c.ev fr with
   | some (.bool true)=>eRun n (.code a::s) fr aw
   | some (.bool false)=>eRun n (.code b::s) fr aw
   | _=>RS.on (.code (.cond c a b)::s) fr aw:=by rw[PZ];rfl
theorem JmE {b:ACode}:eRun (n+1) (.code (.loop b)::s) fr aw=RS.on (.code (.loop b)::s) fr aw:=by rw[PZ];rfl
theorem Jll {l:List DOper}:eRun (n+1) (.code (.drawn l)::s) fr aw=RS.on (.code (.drawn l)::s) fr aw:=by rw[PZ];rfl
theorem Jn8:eRun (n+1) (.code .ret::s) fr aw=RS.on [.code .ret] fr aw:=by rw[PZ];rfl
variable {α:Type} {k j:Nat} {x:α}
theorem T.get_putk {t:T α}:(t.put k x).get j=if j=k then some x else t.get j:=by
 by_cases hj:j=k
 ·subst hj;rw[if_pos rfl,get_put_same]
 ·rw[if_neg hj,get_put_ne hj]
theorem JlC:OY [] k = .e:=rfl
theorem Jj7 {l:List V}:OY (v::l) k=(OY l (k+1)).put k v:=rfl
theorem Jm6 {d:Nat}:PG fr (some d) v=fr.put d v:=rfl
theorem Jm5:PG fr none v=fr:=rfl
theorem Cg:wanted fr none=some true:=rfl
theorem JqG {t:Nat}:(Opd.tmp t).ev fr=fr.get t:=rfl
theorem Jod:(Opd.const v).ev fr=some v:=rfl
theorem JlZ:H7 [v]=v:=rfl
theorem Jl0 {u:V}:H7 [v,u] = .tuple [v,u]:=rfl
variable {a b:Nat}
theorem Mi:Nat.beq a b=decide (a=b):=by
 cases h:Nat.beq a b with
 | true=>simp[Nat.eq_of_beq_eq_true h]
 | false=>simp[Nat.ne_of_beq_eq_false h]
theorem Mj:Nat.ble a b=decide (a≤b):=by
 cases h:Nat.ble a b with
 | true=>simp[Nat.le_of_ble_eq_true h]
 | false=>simp only[Bool.false_eq,decide_eq_false_iff_not];exact Nat.not_le_of_not_ble_eq_true (by simp[h])
theorem JmX:Nat.blt a b=decide (a<b):=by
 unfold Nat.blt;rw[Mj];rfl
theorem Oq {n:Int}(h1 : -9223372036854775808≤n)(h2:n≤9223372036854775807):KX .i64 n=n:=by
 have h:KX .i64 n=if n % 18446744073709551616≥9223372036854775808 then n % 18446744073709551616-18446744073709551616 else n % 18446744073709551616:=by
  simp[KX,IntKind.bits,IntKind.signed]
 rw[h];split<;>omega
theorem CP (h:a+b≤9223372036854775807):KX .i64 (Fq a+Fq b)=Fq (a+b):=by
 have e1:Fq a=(a:Int):=rfl;have e2:Fq b=(b:Int):=rfl;have e3:Fq (a+b)=((a+b:Nat):Int):=rfl;rw[Oq]<;>omega
theorem Hv (h:a+1≤9223372036854775807):KX .i64 (Fq a+1)=Fq (a+1):=CP (b:=1) h
theorem Mt:decide (Fq a>Fq b)=decide (b<a):=Fj
theorem MI:decide (Fq a≥Fq b)=decide (b≤a):=Fj
theorem Mw:decide (Fq a≤Fq b)=decide (a≤b):=Fj
theorem Mx:decide (Fq a<Fq b)=decide (a<b):=Fj
theorem MG:(Fq a==Fq b)=decide (a=b):=by
 by_cases h:a=b
 ·simp[h]
 ·simp only[h,decide_false,beq_eq_false_iff_ne,ne_eq];intro e;exact h (Int.ofNat.inj e)
theorem Jpa:(Fq a != Fq b) = !decide (a=b):=by
 simp only[bne,MG]
theorem Jrc:decide (Fq a>(no_index (@OfNat.ofNat Int b instOfNat)))=decide (@OfNat.ofNat Nat b (instOfNatNat b)<a):=Mt
theorem Jra:decide (Fq a≥(no_index (@OfNat.ofNat Int b instOfNat)))=decide (@OfNat.ofNat Nat b (instOfNatNat b)≤a):=MI
theorem Jrg:decide (Fq a≤(no_index (@OfNat.ofNat Int b instOfNat)))=decide (a≤@OfNat.ofNat Nat b (instOfNatNat b)):=Mw
theorem Jri:decide (Fq a<(no_index (@OfNat.ofNat Int b instOfNat)))=decide (a < @OfNat.ofNat Nat b (instOfNatNat b)):=Mx
theorem Jq5:(Fq a==(no_index (@OfNat.ofNat Int b instOfNat)))=decide (a = @OfNat.ofNat Nat b (instOfNatNat b)):=MG
theorem Jrl:(Fq a != (no_index (@OfNat.ofNat Int b instOfNat))) = !decide (a = @OfNat.ofNat Nat b (instOfNatNat b)):=Jpa
theorem Jrb:decide ((no_index (@OfNat.ofNat Int b instOfNat))>Fq a)=decide (a < @OfNat.ofNat Nat b (instOfNatNat b)):=Mt
theorem Jq9:decide ((no_index (@OfNat.ofNat Int b instOfNat))≥Fq a)=decide (a≤@OfNat.ofNat Nat b (instOfNatNat b)):=MI
theorem Jrh:decide ((no_index (@OfNat.ofNat Int b instOfNat))<Fq a)=decide (@OfNat.ofNat Nat b (instOfNatNat b)<a):=Mx
theorem Jrf:decide ((no_index (@OfNat.ofNat Int b instOfNat))≤Fq a)=decide (@OfNat.ofNat Nat b (instOfNatNat b)≤a):=Mw
theorem Jie {s:List α}:(s.drop k).take (s.length-k)=s.drop k:=FW Fj
theorem Jif {s:List α}:(s.drop k).take (k+n-k)=(s.drop k).take n:=by rw[Nat.add_sub_cancel_left]
structure Ext (N:Nat) (w w':AW):Prop where
 le:N≤w.next
 next:w.next≤w'.next
 heap:∀b,b<N→w'.heap.get b=w.heap.get b
 fams:∀b,b<N→w'.fams.get b=w.fams.get b
theorem Ext.refl (w:AW):Ext w.next w w:=⟨FH _,FH _,fun _ _=>rfl,fun _ _=>rfl⟩
variable {N:Nat}
theorem Ext.trans {a b c:AW}(h:Ext N a b)(h':Ext N b c):Ext N a c:=
 ⟨h.le,Kj h.next h'.next,fun k hk=>(h'.heap k hk).trans (h.heap k hk),fun k hk=>(h'.fams k hk).trans (h.fams k hk)⟩
theorem Ext.mono {M:Nat}{a b:AW}(h:Ext N a b)(hm:M≤N):Ext M a b:=
 ⟨Kj hm h.le,h.next,fun k hk=>h.heap k (FK hk hm),fun k hk=>h.fams k (FK hk hm)⟩
variable {w:AW}
theorem Ext.new (h:N≤w.next)(x:Blk):Ext N w (w.new x):=
 ⟨h,Nat.le_succ _,fun b hb=>T.get_put_ne Fh,fun _ _=>rfl⟩
theorem Ext.le' {a b:AW}(h:Ext N a b):N≤b.next:=Kj h.le h.next
inductive Own (N:Nat) (w:AW):V→Nat→Nat→List V→Prop
 | nil {esz:Nat}:Own N w .nilslice esz 0 []
 | blk {b n esz:Nat} {cs:List V} {sh:Share} (hN:N≤b) (hb:b<w.next) (hx:w.heap.get b=some (.cells cs sh)) (hl:cs.length=n*esz) (he:0<esz) (hn:0<n)
   (hs:sh = .own∨sh = .lax∨∃f F,sh = .fam f∧N≤f∧f<w.next∧w.fams.get f=some F∧F.last=b∧F.floor≤w.next∧w.alive b sh=true):Own N w (.slice b 0 n (.upTo esz)) esz n cs
variable {esz:Nat} {cs:List V}
theorem Own.ext {w':AW}(h:Own N w v esz n cs){M:Nat}(hM:w.next≤M)(he:Ext M w w'):Own N w' v esz n cs:=by
 cases h with
 | nil=>exact .nil
 | blk hN hb hx hl he' hn hs =>
  refine .blk hN (FK hb he.next) ((he.heap _ Fh).trans hx) hl he' hn ?_;rcases hs with rfl|rfl|⟨f,F,rfl,h1,h2,h3,h4,h6,h5⟩
  ·exact .inl rfl
  ·exact .inr (.inl rfl)
  ·refine .inr (.inr ⟨f,F,rfl,h1,FK h2 he.next,(he.fams f Fh).trans h3,h4,Kj h6 he.next,?_⟩);simp only[AW.alive,h3,(he.fams f Fh).trans h3]at h5 ⊢;exact h5
theorem Ir:∀(l:List V) (n:Nat),l.length=n→HC n l=some l
 | [],n,h=>by cases h;rfl
 | x::l,n,h=>by
  cases n with
  | zero=>cases h
  | succ n=>simp only[HC,Ir l n (by simpa using h)]
theorem Cf:∀(n:Nat) (l:List V),n≤l.length→HC n l=some (l.take n)
 | 0,l,h=>by simp[HC]
 | n+1,[],h=>by simp at h
 | n+1,x::l,h=>by simp only[HC,Cf n l (by simpa using h),List.take_succ_cons]
theorem Own.alive {n esz:Nat}{cs:List V}{sh:Share}(hs:sh = .own∨sh = .lax∨∃f F,sh = .fam f∧N≤f∧f<w.next∧w.fams.get f=some F∧F.last=b∧F.floor≤w.next∧w.alive b sh=true):w.alive b sh=true:=by
 rcases hs with rfl|rfl|⟨f,F,rfl,h1,h2,h3,h4,h6,h5⟩
 ·rfl
 ·rfl
 ·exact h5
theorem Own.len (h:Own N w v esz n cs):cs.length=n*esz:=by
 cases h with
 | nil=>simp
 | blk hN hb hx hl he' hn hs=>exact hl
theorem Own.load {c:Cap}(h:Own N w (.slice b 0 n c) esz n cs){o:Nat}(hk:o+k≤cs.length):w.load b o k=some ((cs.drop o).take k):=by
 cases h with
 | blk hN hb hx hl he' hn hs =>
  simp only[AW.load,hx,Own.alive (n:=n) (esz:=esz) (cs:=cs) hs];exact Cf _ _ (by simp;omega)
theorem Sl:∀{l:List V},HB l=true↔∀v∈l,v.one=true
 | []=>by simp[HB]
 | x::l=>by
  simp only[HB];cases h:x.one with
  | true=>simp[Sl,h]
  | false=>simp[h]
variable {bytes:Nat} {news:List V}
theorem Own.append (h:Own N w v esz n cs)(hNw:N≤w.next)(he:0<esz)(hk:0<k)(hl:news.length=k*esz)(h1:HB news=true)(hb:(n+k)*bytes≤70368744177664)(hb':n+k≤70368744177664): ∃v' w',w.appendV esz bytes v k news=some (v',w')∧Own N w' v' esz (n+k) (cs++news)∧Ext N w w':=by
 obtain⟨k,rfl⟩:∃m,k=m+1:=⟨k-1,by omega⟩;cases h with
 | nil =>
  refine⟨.slice w.next 0 (k+1) (.upTo esz),w.fresh news,?_,?_,Ext.new hNw _⟩
  ·simp only[AW.appendV];rw[if_pos ⟨by simpa using hb,by omega⟩]
  ·rw[FU];exact .blk hNw (FV _) T.get_put_same (by simpa using hl) he Fh (.inl rfl)
 | @blk b _ _ _ sh hN hbw hx hlen he' hn hs =>
  have hbeq:Nat.beq (0+n*esz) cs.length=true:=by rw[FU,hlen,Nat.beq_refl]
  have hin:esz=esz∧(n+(k+1))*bytes≤70368744177664∧n+(k+1)≤70368744177664∧HB news=true∧0<esz:=⟨rfl,hb,hb',h1,he⟩
  have fam:∀(u:AW) (f:Nat) (F:Fam),u.heap.get b=some (.cells cs (.fam f))→N≤f→f<u.next→b<u.next→N≤u.next→u.fams.get f=some F→F.last=b→F.floor≤u.next→u.alive b (.fam f)=true→∃v' w',u.appendFam esz b 0 n (k+1) news=some (v',w')∧Own N w' v' esz (n+(k+1)) (cs++news)∧Ext N u w':=by
   intro u f F hx hNf hfu hbu hNu hF hlast hfl hal;refine⟨.slice u.next 0 (n+(k+1)) (.upTo esz),u.grow b f F (cs.drop 0++news),?_,?_,?_⟩
   ·simp only[AW.appendFam,hx,hal,hF,hbeq]
   ·have hg:(u.grow b f F (cs.drop 0++news)).fams.get f=some ⟨F.keep,F.floor,u.next⟩:=by
     simp only[AW.grow,T.get_putk,if_true,hlast,Nat.beq_refl]
    refine .blk hNu (FV _) (sh:=.fam f) ?_ ?_ he Fh (.inr (.inr ⟨f,⟨F.keep,F.floor,u.next⟩,rfl,hNf,Nat.lt_succ_of_lt hfu,hg,rfl,Nat.le_succ_of_le hfl,?_⟩))
    ·simp only[AW.grow,T.get_putk,if_true,FY]
    ·rw[FE,hlen,hl,Nat.add_mul n]
    ·simp only[AW.alive,hg,Bool.or_eq_true];exact .inr (Nat.ble_eq_true_of_le hfl)
   ·refine⟨hNu,Nat.le_succ _,fun c hc=>?_,fun c hc=>?_⟩
    ·exact T.get_put_ne Fh
    ·exact T.get_put_ne Fh
  have fnd:sh = .own∨sh = .lax→∃v' w',(w.found b cs).appendFam esz b 0 n (k+1) news=some (v',w')∧Own N w' v' esz (n+(k+1)) (cs++news)∧Ext N w w':=by
   intro _
   obtain⟨v',w',q1,q2,q3⟩:=fam (w.found b cs) w.next ⟨b,w.next+1,b⟩ T.get_put_same hNw (FV _) (Nat.lt_succ_of_lt hbw) (Nat.le_succ_of_le hNw) T.get_put_same rfl (FH _)
    (by simp only[AW.alive,AW.found,T.get_putk,if_true,Nat.beq_refl,Bool.true_or])
   refine⟨v',w',q1,q2,Ext.trans ⟨hNw,Nat.le_succ _,fun c hc=>?_,fun c hc=>?_⟩ q3⟩
   ·exact T.get_put_ne Fh
   ·exact T.get_put_ne Fh
  have happ:w.appendV esz bytes (.slice b 0 n (.upTo esz)) (k+1) news=w.appendUp esz b 0 n (k+1) news:=if_pos hin;rw[happ];simp only[AW.appendUp,hx,hbeq];rcases hs with rfl|rfl|⟨f,F,rfl,g1,g2,g3,g4,g6,g5⟩
  ·exact fnd (.inl rfl)
  ·exact fnd (.inr rfl)
  ·exact fam w f F hx g1 g2 hbw hNw g3 g4 g6 g5
def MJ:List DOper→Fr→AW→Option Fr
 | [],fr,_=>some fr
 | d::l,fr,aw=>match wanted (Pb fr d.hide) d.op.guard with
  | some true=>match aop d.op.op (Pb fr d.hide) aw with
   | some (.val v,_)=>MJ l (PG fr d.op.dst v) aw
   | _=>none
  | some false=>MJ l (PG fr d.op.dst .undef) aw
  | none=>none
theorem Pass.len {l:List DOper}{st:List Stp}:Pass tab l fr aw st fr' aw'→st.length=l.length:=by
 induction l generalizing fr aw st with
 | nil=>intro h;cases h;rfl
 | cons d l ih=>intro h;cases h;rename_i h1 h2;simp[ih h2]
theorem JpO {k:IntKind}:idx (.int k (no_index (@OfNat.ofNat Int n instOfNat)))=some (@OfNat.ofNat Nat n (instOfNatNat n)):=rfl
theorem JpP {k:IntKind}:idx (.int k (Fq n))=some n:=rfl
theorem Pl {c:Cap}(hn:0<n)(hl:cs.length=n*esz):(w.fresh cs).elems esz (.slice w.next 0 n c)=some (n,cs):=by
 obtain⟨n,rfl⟩:∃m,n=m+1:=⟨n-1,by omega⟩;simp only[AW.elems,AW.load,AW.fresh,AW.new,T.get_putk,if_true,AW.alive,FY];rw[Ir cs _ hl]
theorem Own.push (h:Own N w v esz n cs)(hNw:N≤w.next)(he:0<esz)(hl:news.length=esz)(h1:HB news=true)(hb:(n+1)*bytes≤70368744177664)(hb':n+1≤70368744177664): ∃v' w',(w.fresh news).appendV esz bytes v 1 news=some (v',w')∧Own N w' v' esz (n+1) (cs++news)∧Ext N w w':=by
 have hx:Ext w.next w (w.fresh news):=Ext.new (FH _) _;obtain⟨v',w',h2,h3,h4⟩:=(h.ext (FH _) hx).append (news:=news) (bytes:=bytes) (k:=1) (Kj hNw hx.next) he Fh Fh h1 hb hb';exact⟨v',w',h2,h3,(hx.mono hNw).trans h4⟩
theorem RH {α:Type}{enc:α→List V}{sz:Nat}(h:∀x,(enc x).length=sz):∀(l:List α) (i:Nat),(l.flatMap enc).drop (i*sz)=(l.drop i).flatMap enc
 | [],i=>by simp
 | x::l,0=>by simp
 | x::l,i+1=>by
  have e:(i+1)*sz=sz+i*sz:=by rw[Nat.add_mul,Nat.one_mul,Kz]
  rw[Kw,e,←List.drop_drop,List.drop_append_of_le_length (by rw[h x];exact FH _)];have:List.drop sz (enc x)=[]:=List.drop_eq_nil_of_le (by rw[h x];exact FH _);rw[this,List.nil_append,RH h l i,List.drop_succ_cons]
theorem AX {α:Type}{enc:α→List V}{sz:Nat}(h:∀x,(enc x).length=sz):∀(l:List α),(l.flatMap enc).length=l.length*sz
 | []=>by simp
 | x::l=>by rw[Kw,FE,h x,AX h l,FC,Nat.add_mul,Nat.one_mul,Kz]
variable {enc:α→List V}
theorem Cx {sz:Nat}(h:∀x,(enc x).length=sz){l:List α}{i:Nat}(hx:l[i]? = some x)(hj:j+k≤sz):(((l.flatMap enc).drop (0+i*sz+j)).take k)=((enc x).drop j).take k:=by
 have hi:i<l.length:=(List.getElem?_eq_some_iff.1 hx).1
 have hd:l.drop i=x::l.drop (i+1):=by
  rw[FL hi];rw[FB hi]at hx;rw[FX hx]
 rw[FU,←List.drop_drop,RH h,hd,Kw,List.drop_append_of_le_length (by rw[h x];omega),List.take_append_of_le_length (by rw[Kh,h x];omega)]
theorem Own.part {sz:Nat}{c:Cap}{l:List α}(h:∀x,(enc x).length=sz)(ho:Own N w (.slice b 0 n c) sz n (l.flatMap enc)){i:Nat}(hx:l[i]? = some x)(hj:j+k≤sz): w.load b (0+i*sz+j) k=some (((enc x).drop j).take k):=by
 have hi:i<l.length:=(List.getElem?_eq_some_iff.1 hx).1;rw[ho.load ?_,Cx h hx hj];rw[AX h]
 have:i*sz+sz≤l.length*sz:=by
  have:(i+1)*sz≤l.length*sz:=Nat.mul_le_mul_right _ hi
  rwa [Nat.add_mul,Nat.one_mul]at this
 omega
theorem Own.inv (h:Own N w v esz n cs):(v = .nilslice∧n=0∧cs=[])∨∃b,v = .slice b 0 n (.upTo esz)∧0<n:=by
 cases h with
 | nil=>exact .inl ⟨rfl,rfl,rfl⟩
 | blk hN hb hx hl he hn hs=>exact .inr ⟨_,rfl,hn⟩
end
end
section
variable [Globs]
theorem Joz:lenV .nilslice=some 0:=rfl
theorem JlG {b o n:Nat}{c:Cap}:lenV (.slice b o n c)=some n:=rfl
attribute [go_sem] Joz JlG Jn6 JmD JjZ Jn7 JmF Jn9 Jlk Jlm Jj0 JmC JmE Jll Jn8 MJ Pb T.get_delk PC Option.getD_none Option.getD_some Nat.le_refl and_self true_and and_true Jie Jif Mt MI Mw Mx MG Jpa Jrc Jra Jrg Jri Jq5 Jrl Jrb Jq9 Jrf Jrh Bool.true_and Bool.false_and Lu Cg wanted aop JqG Jod evs Jj7 JlC Jm6 Jm5 AE.valOf T.get_putk T.get_e JpO JpP List.getElem?_cons_zero List.getElem?_cons_succ T9 DJ aUn beq_self_eq_true Bool.true_beq Bool.false_beq Bool.not_true Bool.not_false List.append_nil List.nil_append List.cons_append Mi Mj JmX decide_true decide_false PQ JlZ Jl0
attribute [go_sem] Nat.reduceAdd Nat.reduceLT Nat.reduceEqDiff reduceIte reduceCtorEq Int.reduceBEq Int.reduceBNe Int.reduceLT Int.reduceLE Int.reduceGT Int.reduceGE Int.reduceEq Int.reduceAdd Int.reduceSub Int.reduceMul Nat.reduceMul Nat.reduceSub Nat.reduceLeDiff
end
end Go.AE
namespace Go.Proofs.YtegdcbdicpfbpaaDoor
open Go.AE Delphi
variable {tab:Tab}
theorem Jia {g s:List Nat}:g.isPrefixOf s=(decide (g.length≤s.length)&&eqL (s.take g.length) g):=by
 have e:∀(a b:List Nat),eqL a b=decide (a=b):=fun a b=>by
  cases h:eqL a b with
  | true=>simp[eqL_iff.1 h]
  | false=>simp only[Bool.false_eq,decide_eq_false_iff_not];intro hh;rw[eqL_iff.2 hh]at h;cases h
 rw[Bool.eq_iff_iff,List.isPrefixOf_iff_prefix,e];simp only[FQ,decide_eq_true_eq];constructor
 ·intro h;exact⟨h.length_le,(List.prefix_iff_eq_take.1 h).symm⟩
 ·intro h;exact List.prefix_iff_eq_take.2 h.2.symm
def P4 (w:Wd):List V:=[.int .i64 (Fq w.kind),.str w.text,.int .i64 (Fq w.at')]
def TE (l:List Wd):List V:=l.flatMap P4
theorem Nn (l:List Wd)(w:Wd):TE (l++[w])=TE l++P4 w:=by simp[TE]
end Go.Proofs.YtegdcbdicpfbpaaDoor
