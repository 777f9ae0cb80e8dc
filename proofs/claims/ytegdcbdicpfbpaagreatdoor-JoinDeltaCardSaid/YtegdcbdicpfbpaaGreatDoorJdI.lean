/- A part of the proof. -/
import Derived.Test.YtegdcbdicpfbpaaGreatDoorJdH
import Derived.Lib.ItoaMem
import Derived.Lib.ParseIntB
import Derived.Lib.Join
import Derived.Test.YtegdcbdicpfbpaaGreatDoorRows
import Derived.Shelf.Spec.SlicesInsertGrow
import Derived.Lib.LaidTab
import Derived.Lib.AppendIntMem
import Derived.Lib.AtoiErrMem
import Derived.Shelf.Strconv.Itoa4
import Derived.Shelf.Strconv.ParseIntPublic10
import Derived.Shelf.Strings.OnBuilder
import Derived.LaidSub
import GoSem.ClaimSeven
import Derived.Test.YtegdcbdicpfbpaaGreatDoorJdE
open Int renaming ofNat → Fq
set_option linter.unusedVariables false
set_option linter.unusedSectionVars false
set_option linter.unusedSimpArgs false
open Go.RowKit Go.WideShapes Go.ChangeShapes
namespace Go.AE
variable [Globs]
def Co (aw:AW) (m:Map):Prop:=∀b e x,m b=some e→aw.heap.get b=some x→∃l,x = .cells l .ro
theorem R.addRo {aw:AW}{w:World}{m:Map}{base:Nat}(hR:R aw w m base)(hA:Co aw m){c s lo hi:Nat}{cur:Array Value}{t:TypeId}{l:List V}(hc:w.heap[c]? = some (.cells cur t (lo,hi)))(hs:s+l.length≤cur.size)(hl:CR m l s cur): R (aw.new (.cells l .ro)) w (m.set aw.next ⟨c,s,cur.size⟩) base∧m.le (m.set aw.next ⟨c,s,cur.size⟩)∧Co (aw.new (.cells l .ro)) (m.set aw.next ⟨c,s,cur.size⟩):=by
 have hnone:m aw.next=none:=by
  cases h:m aw.next with
  | none=>rfl
  | some e=>exact absurd (hR.lt _ _ h).1 Fh
 have hle:m.le (m.set aw.next ⟨c,s,cur.size⟩):=Map.le_set hnone;have hclt:c<w.heap.size:=(Array.getElem?_eq_some_iff.1 hc).1
 have old:∀{b:Nat} {e:Emb},(m.set aw.next ⟨c,s,cur.size⟩) b=some e→(b=aw.next∧e=⟨c,s,cur.size⟩)∨(b≠aw.next∧m b=some e):=by
  intro b e h;by_cases hb:b=aw.next
  ·subst hb;rw[Map.set_same]at h;exact .inl ⟨rfl,(FY h).symm⟩
  ·rw[Map.set_ne _ _ hb]at h;exact .inr ⟨hb,h⟩
 have hold:∀{b:Nat},b≠aw.next→(aw.new (.cells l .ro)).heap.get b=aw.heap.get b:=fun hb=>T.get_put_ne hb;have hnew:(aw.new (.cells l .ro)).heap.get aw.next=some (.cells l .ro):=T.get_put_same
 have hA':Co (aw.new (.cells l .ro)) (m.set aw.next ⟨c,s,cur.size⟩):=by
  intro b e x hb hx;rcases old hb with⟨rfl,rfl⟩|⟨h1,h2⟩
  ·rw[hnew]at hx;exact⟨l,(FY hx).symm⟩
  ·rw[hold h1]at hx;exact hA b e x h2 hx
 refine⟨⟨hR.glob.le hle,fun i g l h=>hR.gnew h,?_,hR.size,?_,?_,?_,?_,?_⟩,hle,hA'⟩
 ·intro b e l' f hb hx;obtain⟨l2,h2⟩:=hA' b e _ hb hx;cases h2
 ·intro b e hb;rcases old hb with⟨rfl,rfl⟩|⟨h1,h2⟩
  ·exact⟨FW _,hclt⟩
  ·exact⟨Nat.lt_succ_of_lt (hR.lt b e h2).1,(hR.lt b e h2).2⟩
 ·intro b e hb;rcases old hb with⟨rfl,rfl⟩|⟨h1,h2⟩
  ·exact .inr ⟨l,hnew⟩
  ·rw[hold h1];exact hR.base b e h2
 ·intro b e x hb hx;rcases old hb with⟨rfl,rfl⟩|⟨h1,h2⟩
  ·rw[hnew]at hx;cases hx;exact fun _=>⟨cur,t,lo,hi,hc,rfl,hs,.inl rfl,hl.mono hle⟩
  ·rw[hold h1]at hx;obtain⟨l2,rfl⟩:=hA b e x h2 hx;intro _;obtain⟨cur2,t2,lo2,hi2,p1,p2,p3,p4,p5⟩:=hR.blk b e _ h2 hx rfl;exact⟨cur2,t2,lo2,hi2,p1,p2,p3,p4,p5.mono hle⟩
 ·intro b e x b' e' x' hb hx hb' hx' _ _ _ _;obtain⟨l1,rfl⟩:=hA' b e x hb hx;obtain⟨l2,rfl⟩:=hA' b' e' x' hb' hx';rfl
 ·intro f F hF;obtain⟨h1,h2⟩:=hR.fam f F hF;refine⟨Nat.le_succ_of_le h1,fun b e l' e' l2 hb hx=>?_⟩;obtain⟨l3,h3⟩:=hA' b e _ hb hx;cases h3
structure RoExt (aw aw':AW):Prop where
 next:aw.next≤aw'.next
 heap:∀b,b<aw.next→aw'.heap.get b=aw.heap.get b
theorem RoExt.refl (aw:AW):RoExt aw aw:=⟨FH _,fun _ _=>rfl⟩
theorem RoExt.trans {a b c:AW}(h:RoExt a b)(h':RoExt b c):RoExt a c:=⟨Kk h.next h'.next,fun k hk=>(h'.heap k (FK hk h.next)).trans (h.heap k hk)⟩
theorem RoExt.new (aw:AW)(x:Blk):RoExt aw (aw.new x):=⟨Nat.le_succ _,fun b hb=>T.get_put_ne Fh⟩
inductive All2 {α β:Type} (r:α→β→Prop):List α→List β→Prop
 | nil:All2 r [] []
 | cons {a b l m}:r a b→All2 r l m→All2 r (a::l) (b::m)
theorem All2.imp {α β:Type}{r q:α→β→Prop}(h:∀a b,r a b→q a b):∀{l:List α} {m:List β},All2 r l m→All2 q l m
 | [],_,.nil=> .nil
 | _::_,_,.cons h1 h2=> .cons (h _ _ h1) (All2.imp h h2)
theorem All2.len {α β:Type}{r:α→β→Prop}:∀{l:List α} {m:List β},All2 r l m→l.length=m.length
 | [],_,.nil=>rfl
 | _::_,_,.cons _ h2=>by simp[All2.len h2]
theorem All2.snoc {α β:Type}{r:α→β→Prop}{a:α}{b:β}(h:r a b):∀{l:List α} {m:List β},All2 r l m→All2 r (l++[a]) (m++[b])
 | [],_,.nil=> .cons h .nil
 | _::_,_,.cons h1 h2=> .cons h1 (All2.snoc h h2)
theorem All2.get {α β:Type}{r:α→β→Prop}:∀{l:List α} {m:List β},All2 r l m→∀{i:Nat} {a:α},l[i]? = some a→∃b,m[i]? = some b∧r a b
 | [],_,.nil,i,a,h=>by simp at h
 | x::l,y::m,.cons h1 h2,0,a,h=>by simp at h;subst h;exact⟨y,rfl,h1⟩
 | x::l,y::m,.cons h1 h2,i+1,a,h=>by simpa using All2.get h2 (i:=i) (by simpa using h)
section
variable {H:Type} {enc:TypeId×Value→H} {P:Program} {w:World}
structure Opens (enc:TypeId×Value→H) (P:Program) (w:World) (t:TypeId) (α:Type) (rel:AW→α→List V→Prop):Prop where
 ext:∀{aw aw':AW} {a:α} {xs:List V},RoExt aw aw'→rel aw a xs→rel aw' a xs
 len:∀{aw:AW} {a:α} {xs:List V},rel aw a xs→xs.length=P.cellsOf t
 go:∀{fuel:Nat} {cs:List Value} {y:DataW H×List MemPlace},DataW.trod enc P w 0 (fun _=>true) true fuel t cs=some y→∀{aw:AW} {m:Map},R aw w m w.heap.size→Co aw m→
  ∃aw' m' a xs,R aw' w m' w.heap.size∧Co aw' m'∧m.le m'∧RoExt aw aw'∧VRs m' xs cs∧rel aw' a xs
variable {t:TypeId}
theorem Mj {k:IntKind}(ht:P.underlying t=some (.int k))(h1:P.cellsOf t=1):Opens enc P w t Int (fun _ n xs=>xs=[.int k n]∧(Lit.int k n).wf=true) where
 ext _ h:=h
 len h:=by rw[h.1,h1];rfl
 go h aw m hR hA:=by
  obtain⟨n,rfl,rfl,hw⟩:=DataW.trod_int ht h;exact⟨aw,m,n,[.int k n],hR,hA,.refl _,.refl _,⟨_,_,rfl,rfl,rfl⟩,rfl,hw⟩
theorem Mk (ht:P.underlying t=some .string)(h1:P.cellsOf t=1):Opens enc P w t (List Nat) (fun _ s xs=>xs=[.str s]∧(∀c∈s,c<256)∧s.length≤maxLen) where
 ext _ h:=h
 len h:=by rw[h.1,h1];rfl
 go h aw m hR hA:=by
  obtain⟨s,rfl,rfl,hs⟩:=DataW.trod_string ht h;refine⟨aw,m,LH s,[.str (LH s)],hR,hA,.refl _,.refl _,⟨_,_,rfl,⟨s,rfl,rfl⟩,rfl⟩,rfl,?_,by rw[Cb];exact hs⟩;intro c hc;simp only[LH,Ke]at hc;obtain⟨u,_,rfl⟩:=hc;exact u.toNat_lt
theorem Jm3 {a:Addr}{v:Value}(h:w.cell? a=some v):a=⟨a.block,a.off,none⟩∧∃cur t lo hi,w.heap[a.block]? = some (.cells cur t (lo,hi))∧cur[a.off]? = some v:=by
 have hs:=World.cell?_spot h;obtain⟨b,o,sp⟩:=a;simp only at hs;subst hs;refine⟨rfl,?_⟩;unfold World.cell? at h;split at h
 ·rename_i c t fz hb;simp at h;obtain⟨lo,hi⟩:=fz;exact⟨c,t,lo,hi,hb,h⟩
 ·cases h
def JpK (n:Nat):Cap→Prop
 | .known k=>n≤k
 | .upTo _=>n=0
def DL {α:Type} (rel:AW→α→List V→Prop) (aw:AW) (l:List α) (xs:List V):Prop :=
 (xs=[.nilslice]∧l=[])∨∃b c xss,xs=[.slice b 0 l.length c]∧b<aw.next∧aw.heap.get b=some (.cells (List.flatten xss) .ro)∧All2 (rel aw) l xss∧l.length≤maxLen∧JpK l.length c
theorem Ma {e:TypeId}{α:Type}{rel:AW→α→List V→Prop}(ht:P.underlying t=some (.slice e))(h1:P.cellsOf t=1)(hp:0<P.cellsOf e)(he:Opens enc P w e α rel)(hdum:∃cur ty lo hi,w.heap[0]? = some (.cells cur ty (lo,hi))): Opens enc P w t (List α) (DL rel) where
 ext hx h:=by
  rcases h with h|⟨b,c,xss,rfl,hb,hg,ha,hl⟩
  ·exact .inl h
  ·exact .inr ⟨b,c,xss,rfl,FK hb hx.next,(hx.heap b hb).trans hg,ha.imp fun _ _ h=>he.ext hx h,hl⟩
 len h:=by
  rw[h1];rcases h with⟨rfl,_⟩|⟨b,c,xss,rfl,_⟩<;>rfl
 go h aw m hR hA:=by
  rcases DataW.trod_slice ht h with⟨rfl,rfl⟩|⟨a,len,cap,elems,rest,n,rfl,rfl,rfl,_,hlc,hcm,hel,hel2,hrest,_⟩
  ·exact⟨aw,m,[],[.nilslice],hR,hA,.refl _,.refl _,⟨_,_,rfl,rfl,rfl⟩,.inl ⟨rfl,rfl⟩⟩
  ·by_cases hc0:cap=0
   ·subst hc0;have hl0:len=0:=Fh;subst hl0;obtain⟨cur,ty,lo,hi,hd⟩:=hdum;obtain⟨r1,r2,r3⟩:=hR.addRo hA (c:=0) (s:=cur.size) (l:=[]) hd Fj (by intro i x hx;simp at hx);exact⟨_,_,[],[.slice aw.next 0 0 (.upTo (P.cellsOf e))],r1,r3,r2,RoExt.new _ _,⟨_,_,rfl,⟨_,Map.set_same _ _ _,a,0,rfl,FH _,.inr ⟨rfl,rfl⟩⟩,rfl⟩,.inr ⟨aw.next,.upTo (P.cellsOf e),[],rfl,FW _,T.get_put_same,.nil,Nat.zero_le _,rfl⟩⟩
   ·-- its first cell is there
    have hfirst:∃v,w.cell? (a.add 0)=some v:=by
     by_cases hl0:len=0
     ·have hrl:=(hrest rfl).1;have hr:=(hrest rfl).2 0 Fh;rw[FB (by omega:0<rest.length),Option.bind_eq_some_iff]at hr;obtain⟨cs,hcs,_⟩:=hr;obtain⟨_,c2,c3⟩:=World.cells?_some hcs;have:=c3 0 hp;rw[FB (by rw[c2];exact hp)]at this;subst hl0;simp only[KF,Nat.zero_mul]at this;exact⟨cs[0]'(by rw[c2];exact hp),by rw[←this];simp[Addr.add]⟩
     ·have hr:=hel2 0 Fh;rw[FB (by omega:0<elems.length),Option.bind_eq_some_iff]at hr;obtain⟨cs,hcs,_⟩:=hr;obtain⟨_,c2,c3⟩:=World.cells?_some hcs;have:=c3 0 hp;rw[FB (by rw[c2];exact hp)]at this;simp only[Nat.zero_mul]at this;exact⟨cs[0]'(by rw[c2];exact hp),by rw[←this];simp[Addr.add]⟩
    obtain⟨v0,hv0⟩:=hfirst;have ea:a.add 0=a:=by simp[Addr.add]
    rw[ea]at hv0;obtain⟨e0,cur,ty,lo,hi,hbl,hcur⟩:=Jm3 hv0;obtain⟨ab,ao,asp⟩:=a;simp only[Addr.mk.injEq,true_and]at e0;subst e0
    have key:∀k,k≤len→∃aw' m' l xss,R aw' w m' w.heap.size∧Co aw' m'∧m.le m'∧RoExt aw aw'∧All2 (rel aw') l xss∧l.length=k∧(List.flatten xss).length=k*P.cellsOf e∧(∀(j:Nat) (x:V),(List.flatten xss)[j]? = some x→∃y,w.cell? ⟨ab,ao+j,none⟩=some y∧VR m' x y):=by
     intro k;induction k with
     | zero=>intro _;exact⟨aw,m,[],[],hR,hA,.refl _,.refl _,.nil,rfl,by simp,fun j x h=>by simp at h⟩
     | succ k ih =>
      intro hk;obtain⟨aw1,m1,l,xss,i1,i2,i3,i4,i5,i6,i7,i8⟩:=ih Fh;have hg:=hel2 k Fh;have hsome:elems[k]? = some (elems[k]'(by omega)):=FB Fh;rw[hsome,Option.bind_eq_some_iff]at hg;obtain⟨cs,hcs,hy⟩:=hg;obtain⟨_,c2,c3⟩:=World.cells?_some hcs;obtain⟨aw2,m2,a2,xs,j1,j2,j3,j4,j5,j6⟩:=he.go hy i1 i2;have hxl:=he.len j6;refine⟨aw2,m2,l++[a2],xss++[xs],j1,j2,i3.trans j3,i4.trans j4,(i5.imp fun _ _ h=>he.ext j4 h).snoc j6,by simp[i6],?_,?_⟩
      ·rw[List.flatten_append,FE,i7,Nat.add_mul,Nat.one_mul];simp[hxl]
      ·intro j x hj;have hfl:(xss++[xs]).flatten=xss.flatten++xs:=Fj;rw[hfl]at hj;by_cases hjk:j<k*P.cellsOf e
       ·rw[F5 Fh]at hj;obtain⟨y,y1,y2⟩:=i8 j x hj;exact⟨y,y1,y2.mono j3⟩
       ·rw[F4 Fh,i7]at hj;obtain⟨y,y1,y2⟩:=j5.get hj
        have hlt:j-k*P.cellsOf e<P.cellsOf e:=by
         have:=(List.getElem?_eq_some_iff.1 hj).1;omega
        have h3:=c3 _ hlt;rw[y1,add_plain,add_plain]at h3;refine⟨y,?_,y2⟩;rw[←h3]
        congr 2
        omega
    obtain⟨aw1,m1,l,xss,i1,i2,i3,i4,i5,i6,i7,i8⟩:=key len (FH _)
    have hall:∀(j:Nat) (x:V),(List.flatten xss)[j]? = some x→∃y,cur[ao+j]? = some y∧VR m1 x y:=by
     intro j x hj;obtain⟨y,y1,y2⟩:=i8 j x hj;obtain⟨_,cur2,ty2,lo2,hi2,hb2,hcur2⟩:=Jm3 y1;simp only at hb2 hcur2 hbl;rw[hbl]at hb2;cases hb2;exact⟨y,hcur2,y2⟩
    have hroom:ao+(List.flatten xss).length≤cur.size:=by
     cases hfl:(List.flatten xss).length with
     | zero =>
      have h0:ao<cur.size:=(Array.getElem?_eq_some_iff.1 hcur).1;omega
     | succ q =>
      obtain⟨y,y1,_⟩:=hall q _ (FB Fh);have:=(Array.getElem?_eq_some_iff.1 y1).1;omega
    obtain⟨r1,r2,r3⟩:=i1.addRo i2 (c:=ab) (s:=ao) (l:=xss.flatten) hbl hroom hall;exact⟨_,_,l,[.slice aw1.next 0 len (.known cap)],r1,r3,i3.trans r2,i4.trans (RoExt.new _ _),⟨_,_,rfl,⟨_,Map.set_same _ _ _,rfl⟩,rfl⟩,.inr ⟨aw1.next,.known cap,xss,by rw[i6],FW _,T.get_put_same,i5.imp fun _ _ h=>he.ext (RoExt.new _ _) h,by omega,by show l.length≤cap;omega⟩⟩
end
section
variable [Globs]
section
variable {H:Type} {enc:TypeId×Value→H} {P:Program} {w:World}
structure OpensF (enc:TypeId×Value→H) (P:Program) (w:World) (fs:List Field) (o n:Nat) (β:Type) (rel:AW→β→List V→Prop):Prop where
 ext:∀{aw aw':AW} {a:β} {xs:List V},RoExt aw aw'→rel aw a xs→rel aw' a xs
 len:∀{aw:AW} {a:β} {xs:List V},rel aw a xs→xs.length=n
 go:∀{fuel:Nat} {cs:List Value},(∀f∈fs,∃y,DataW.trod enc P w 0 (fun _=>true) true fuel f.type ((cs.drop f.offset).take (P.cellsOf f.type))=some y)→cs.length=o+n→∀{aw:AW} {m:Map},R aw w m w.heap.size→Co aw m→
  ∃aw' m' a xs,R aw' w m' w.heap.size∧Co aw' m'∧m.le m'∧RoExt aw aw'∧VRs m' xs (cs.drop o)∧rel aw' a xs
theorem Mt {o:Nat}:OpensF enc P w [] o 0 Unit (fun _ _ xs=>xs=[]) where
 ext _ h:=h
 len h:=by rw[h];rfl
 go _ hl aw m hR hA:=⟨aw,m,(),[],hR,hA,.refl _,.refl _,by rw[List.drop_eq_nil_of_le Fh];rfl,rfl⟩
theorem Ca {f:Field}{fs:List Field}{o k n:Nat}{α β:Type}{rel:AW→α→List V→Prop}{rel':AW→β→List V→Prop}(he:Opens enc P w f.type α rel)(hk:P.cellsOf f.type=k)(ho:f.offset=o)(hr:OpensF enc P w fs (o+k) n β rel'): OpensF enc P w (f::fs) o (k+n) (α×β) (fun aw p xs=>∃x1 x2,xs=x1++x2∧rel aw p.1 x1∧rel' aw p.2 x2) where
 ext hx h:=by
  obtain⟨x1,x2,rfl,h1,h2⟩:=h;exact⟨x1,x2,rfl,he.ext hx h1,hr.ext hx h2⟩
 len h:=by
  obtain⟨x1,x2,rfl,h1,h2⟩:=h;rw[FE,he.len h1,hr.len h2,hk]
 go:=by
  intro fuel cs hall hl aw m hR hA;obtain⟨y,hy⟩:=hall f Fj;obtain⟨aw1,m1,a1,x1,i1,i2,i3,i4,i5,i6⟩:=he.go hy hR hA;obtain⟨aw2,m2,a2,x2,j1,j2,j3,j4,j5,j6⟩:=hr.go (fuel:=fuel) (cs:=cs) (fun g hg=>hall g (by simp[hg])) Fh i1 i2;refine⟨aw2,m2,(a1,a2),x1++x2,j1,j2,i3.trans j3,i4.trans j4,?_,x1,x2,rfl,he.ext j4 i6,j6⟩;have e:cs.drop o=(cs.drop o).take k++cs.drop (o+k):=by rw[←List.drop_drop,List.take_append_drop]
  rw[e];rw[ho,hk]at i5;exact (i5.mono j3).append j5
variable {t:TypeId}
theorem EX {fs:Array Field}{l:List Field}{n:Nat}{β:Type}{rel:AW→β→List V→Prop}(ht:P.underlying t=some (.struct fs))(hl:fs.toList=l)(hn:P.cellsOf t=n)(h:OpensF enc P w l 0 n β rel):Opens enc P w t β rel where
 ext:=h.ext
 len hr:=by rw[h.len hr,hn]
 go:=by
  intro fuel cs y hy aw m hR hA;obtain⟨xs,k,rfl,rfl,h1,h2,h3⟩:=DataW.trod_struct ht hy;have:=h.go (fuel:=k) (cs:=cs) (fun f hf=>?_) Fh hR hA
  ·simpa using this
  ·rw[←hl]at hf;obtain⟨i,hi,e⟩:=List.mem_iff_getElem.1 hf;have hi':i<fs.size:=by simpa using hi
   have hg:fs[i]? = some f:=by
    rw[Array.getElem?_eq_getElem hi'];rw[←e];simp
   have:=h3 i f hg;rw[FB Fh]at this;exact⟨_,this⟩
theorem Jl9 {α:Type}{rel:AW→α→List V→Prop}(h:Opens enc P w t α rel){v:Value}{d:DataW H}{ps:List MemPlace}(hc:v.cells.toList=[v])(ht:DataW.Trod enc P w 0 (fun _=>true) true t v d ps){aw:AW}{m:Map}(hR:R aw w m w.heap.size)(hA:Co aw m): ∃aw' m' a x,R aw' w m' w.heap.size∧Co aw' m'∧m.le m'∧RoExt aw aw'∧VR m' x v∧rel aw' a [x]:=by
 obtain⟨fuel,hf⟩:=ht;obtain⟨aw',m',a,xs,h1,h2,h3,h4,h5,h6⟩:=h.go hf hR hA;rw[hc]at h5;cases xs with
 | nil=>cases h5
 | cons x xs =>
  obtain⟨y,ys,e,h7,h8⟩:=h5;cases e;cases xs with
  | nil=>exact⟨aw',m',a,x,h1,h2,h3,h4,h7,h6⟩
  | cons x2 xs=>obtain⟨y,ys,e,_⟩:=h8;cases e
end
end
end Go.AE
open Go.RowKit
namespace Go.AE
variable [Globs]
variable {base:Nat}
theorem R.bind {y:AW}{w:World}{m:Map}{n c tot:Nat}(hR:R y w m base){x:Blk}(hn:n<y.next)(hm:m n=none)(hx:y.heap.get n=some x)(hl:x.lone=true)(hcl:c<w.heap.size)(hcb:base≤c)(hfr:∀b e,m b=some e→e.c≠c)(hb:BR y (m.set n ⟨c,0,tot⟩) w n ⟨c,0,tot⟩ x):R y w (m.set n ⟨c,0,tot⟩) base:=by
 have hle:m.le (m.set n ⟨c,0,tot⟩):=Map.le_set hm
 have hnf:∀{l:List V} {f:Nat},y.heap.get n≠some (.cells l (.fam f)):=by
  intro l f h;rw[hx]at h;cases h;cases hl
 refine⟨hR.glob.le hle,hR.gblk,fun b e l f h hy=>?_,hR.size,fun b e h=>?_,fun b e h=>?_,fun b e z h hz=>?_,fun b e z b' e' z' h hz h' hz' h1 h2 hne hec=>?_,fun f F hF=>?_⟩
 ·rcases Map.set_cases h with⟨rfl,rfl⟩|⟨h1,h2⟩
  ·exact absurd hy hnf
  ·exact hR.famlt b e l f h2 hy
 ·rcases Map.set_cases h with⟨rfl,rfl⟩|⟨h1,h2⟩
  ·exact⟨hn,hcl⟩
  ·exact hR.lt b e h2
 ·rcases Map.set_cases h with⟨rfl,rfl⟩|⟨h1,h2⟩
  ·exact .inl hcb
  ·exact hR.base b e h2
 ·rcases Map.set_cases h with⟨rfl,rfl⟩|⟨h1,h2⟩
  ·rw[hx]at hz;cases hz;exact hb
  ·exact BR.mono hle (fun _ _ _ h=>h) rfl (hR.blk b e z h2 hz)
 ·rcases Map.set_cases h with⟨rfl,rfl⟩|⟨k1,k2⟩
  ·rcases Map.set_cases h' with⟨rfl,rfl⟩|⟨k3,k4⟩
   ·exact absurd rfl hne
   ·exact absurd hec.symm (hfr b' e' k4)
  ·rcases Map.set_cases h' with⟨rfl,rfl⟩|⟨k3,k4⟩
   ·exact absurd hec (hfr b e k2)
   ·exact hR.apart b e z b' e' z' k2 hz k4 hz' h1 h2 hne hec
 ·obtain⟨h1,h2⟩:=hR.fam f F hF;refine⟨h1,fun b e l e' l' h hy ha h' hy' hec=>?_⟩;rcases Map.set_cases h with⟨rfl,rfl⟩|⟨k1,k2⟩
  ·exact absurd hy hnf
  ·rcases Map.set_cases h' with⟨q,rfl⟩|⟨k3,k4⟩
   ·rw[q]at hy';exact absurd hy' hnf
   ·exact h2 b e l e' l' k2 hy ha k4 hy' hec
theorem R.take {aw:AW}{w w':World}{m:Map}(hR:R aw w m base)(hb:Below w.heap.size w w'){c lo hi:Nat}{cur:Array Value}{t:TypeId}{l:List V}(hc:w.heap.size≤c)(hx:w'.heap[c]? = some (.cells cur t (lo,hi)))(hlh:lo=hi)(hl:CR m l 0 cur)(hsz:l.length≤cur.size): R (aw.fresh l) w' (m.set aw.next ⟨c,0,cur.size⟩) base∧Goes aw (aw.fresh l) w w' m (m.set aw.next ⟨c,0,cur.size⟩):=by
 obtain⟨h1,h2⟩:=hR.below hb;have hnone:m aw.next=none:=Mi hR;have hle:m.le (m.set aw.next ⟨c,0,cur.size⟩):=Map.le_set hnone;have hcl:c<w'.heap.size:=(Array.getElem?_eq_some_iff.1 hx).1;refine⟨(h1.pad (.cells l .own)).bind (FW _) hnone T.get_put_same rfl hcl (Kk hR.size hc) (fun b e he hec=>?_) (fun _=>⟨cur,t,lo,hi,hx,rfl,by simpa using hsz,.inr (.inl ⟨hlh,fun _=>rfl⟩),hl.mono hle⟩),?_⟩
 ·have:=(hR.lt b e he).2;omega
 ·have h3:=h2.pad (.cells l .own);refine⟨hle,fun b e hbe=>?_,h3.next,h3.size,h3.os,h3.tape,h3.output,h3.ro,h3.roOld,h3.frame,h3.none,h3.unm⟩;rcases Map.set_cases hbe with⟨rfl,rfl⟩|⟨_,h4⟩
  ·exact .inr ⟨FH _,.inl hc⟩
  ·exact .inl h4
end Go.AE
open Go.RowKit
namespace Go.AE
variable [Globs]
section
def NF:Nat→Nat→List Nat→List Nat
 | 0,_,acc=>acc
 | f+1,n,acc=>match Nat.blt n 10 with
  | true=>(48+n)::acc
  | false=>NF f (n / 10) ((48+n % 10)::acc)
def Te (n:Nat):List Nat:=NF (n+1) n []
def Ba:Int→List Nat
 | .ofNat n=>Te n
 | .negSucc n=>45::Te (n+1)
theorem JlQ:∀(f n:Nat) (acc:List Nat),n<f→NF f n acc=(Lib.decDigits n).map UInt8.toNat++acc
 | 0,n,acc,h=>by omega
 | f+1,n,acc,h=>by
  rw[NF,Lib.decDigits];by_cases hn:n<10
  ·have:Nat.blt n 10=true:=Nat.blt_eq.mpr hn;rw[this,dif_pos hn];simp only[Kv,Kw,List.singleton_append]
   congr 1
   rw[UInt8.toNat_ofNat'];omega
  ·have hb:Nat.blt n 10=false:=by
    cases hb:Nat.blt n 10 with
    | false=>rfl
    | true=>exact absurd (Nat.blt_eq.mp hb) hn
   rw[hb,dif_neg hn];simp only[];rw[JlQ f (n / 10) _ Fh,List.map_append,F6];simp only[Kv,Kw,List.singleton_append]
   congr 2
   rw[UInt8.toNat_ofNat'];omega
theorem Et (n:Nat):Te n=(Lib.decDigits n).map UInt8.toNat:=by
 rw[Te,JlQ _ _ _ (FW n),Kc]
theorem JuT:∀(n:Int),Ba n=(Lib.itoa n).map UInt8.toNat
 | .ofNat n=>by
  have:Lib.itoa (Fq n)=Lib.decDigits n:=Lib.itoa_nonneg n;rw[this];exact Et n
 | .negSucc n=>by
  have:Lib.itoa (Int.negSucc n)=45::Lib.decDigits (n+1):=Lib.itoa_neg (n+1) Fh;rw[this,Kv];show 45::Te (n+1)=_;rw[Et];rfl
theorem Rj {n:Nat}(h:n<10):Te n=[48+n]:=by
 rw[Et,Lib.decDigits,dif_pos h];simp only[Kv,Kw]
 congr 1
 rw[UInt8.toNat_ofNat'];omega
theorem JlP {n:Nat}(h:¬n<10):Te n=Te (n / 10)++[48+n % 10]:=by
 rw[Et,Lib.decDigits,dif_neg h,List.map_append,←Et];simp only[Kv,Kw]
 congr 2
 rw[UInt8.toNat_ofNat'];omega
def EE:V→Value
 | .int k n=> .int k n
 | _=>undef
theorem JnA {m:Map}:∀{l:List V} {c:List Value},(∀x∈l,∃k n,x = .int k n)→c.length=l.length→(∀(i:Nat) (x:V),l[i]? = some x→∃y,c[i]? = some y∧VR m x y)→c=l.map EE
 | [],c,_,hl,_=>by simpa using hl
 | x::l,[],_,hl,_=>by simp at hl
 | x::l,y::c,hi,hl,hr=>by
  obtain⟨k,n,rfl⟩:=hi x Fj;obtain⟨y',h1,h2⟩:=hr 0 _ rfl;simp at h1;subst h1;rw[Kv,←JnA (l:=l) (c:=c) (fun z hz=>hi z (by simp[hz])) (by simpa using hl) (fun i z hz=>by simpa using hr (i+1) z (by simpa using hz))]
  congr 1
def JlA (P:Program) (f g:Nat):Prop:=∀(n:Int) (w:World),-9223372036854775808≤n→n≤9223372036854775807→(∃t fz,w.heap[g]? = some (.cells (Lib.pow10Tab.map (Value.int .u64)).toArray t fz))→
 Calls P f #[.int .i64 n,.int .i64 10] w fun e w'=>e = .returned (.string ⟨(Lib.itoa n).toArray⟩)∧Below w.heap.size w w'
def Eu (args:List V) (aw:AW):Option (V×AW) :=
 match args with
 | [.int .i64 n,.int .i64 10]=>if -9223372036854775808≤n∧n≤9223372036854775807 then some (.str (Ba n),aw)else none
 | _=>none
theorem Jqj {P:Program}{f g:Nat}(hF:JlA P f g)(hg:Globs.gl[0]? = some (g,pow10V)){args:List V}{aw:AW}{v:V}{aw':AW}(h:Eu args aw=some (v,aw'))(w:World)(m:Map)(base:Nat)(args':Array Value)(hR:R aw w m base)(hargs:VRs m args args'.toList): Calls P f args' w fun r w'=>∃v' m',r = .returned v'∧VR m' v v'∧R aw' w' m' base∧Goes aw aw' w w' m m':=by
 unfold Eu at h;split at h
 ·rename_i n;split at h
  ·rename_i hn;cases h;obtain⟨x,r1,e1,hx,e2⟩:=hargs;obtain⟨y,r2,e3,hy,e4⟩:=e2;cases e4;have hx':x = .int .i64 n:=hx;have hy':y = .int .i64 10:=hy;subst hx';subst hy';obtain rfl:args' = #[.int .i64 n,.int .i64 10]:=by cases args';simp_all
   have hm:=hR.glob 0 g _ hg;obtain⟨cur,t,lo,hi,p1,p2,p3,p4,p5⟩:=hR.blk 0 _ _ hm (hR.gblk 0 g _ hg) rfl
   have hcur:cur.toList=pow10V.map EE:=by
    refine JnA (m:=m) (fun x hx=>?_) (by rw[Array.length_toList];exact p2) (fun i x hx=>?_)
    ·simp only[pow10V,FJ,F3,or_false]at hx;rcases hx with rfl|rfl|rfl|rfl|rfl|rfl|rfl|rfl|rfl|rfl|rfl|rfl|rfl|rfl|rfl|rfl|rfl|rfl|rfl|rfl<;>exact⟨_,_,rfl⟩
    ·obtain⟨y,q1,q2⟩:=p5 i x hx;exact⟨y,by simpa using q1,q2⟩
   have htab:pow10V.map EE=Lib.pow10Tab.map (Value.int .u64):=by rfl
   have hc:cur=(Lib.pow10Tab.map (Value.int .u64)).toArray:=by
    apply Array.ext';rw[hcur,htab]
   refine (hF n w hn.1 hn.2 ⟨t,(lo,hi),by rw[p1,hc]⟩).mono ?_;rintro r w' ⟨rfl,hbel⟩;obtain⟨q1,q2⟩:=hR.below hbel;refine⟨_,m,rfl,⟨_,rfl,?_⟩,q1,q2⟩;rw[JuT];simp[LH]
  ·cases h
 ·cases h
end
end Go.AE
namespace Delphi
def Ir (c:Nat):Bool:=decide (97≤c)&&decide (c≤122)
def LX (c:Nat):Bool:=decide (48≤c)&&decide (c≤57)
def Db (c:Nat):Bool:=decide (65≤c)&&decide (c≤90)
def OH (c:Nat):Bool:=Ir c||(LX c||decide (c=95))
def BV (c:Nat):Bool:=OH c||Db c
def Cf (c:Nat):Bool:=decide (c=32)||decide (c=9)||decide (c=10)||decide (c=13)
def blk:Bool→List Nat→Nat
 | _,[]=>0
 | true,c::t=>if c=10 then blk false t+1 else blk true t+1
 | false,c::t=>if Cf c then blk false t+1 else if c=37 then blk true t+1 else 0
theorem Da:∀(b:Bool) (s:List Nat),blk b s≤s.length
 | _,[]=>by simp[blk]
 | true,c::t=>by
  have h1:=Da false t;have h2:=Da true t;simp only[blk,FC];split<;>omega
 | false,c::t=>by
  have h1:=Da false t;have h2:=Da true t;simp only[blk,FC];(repeat' split)<;>omega
def Cc (s:List Nat):Nat :=
 let n:=if s.head? = some 45 then 1 else 0
 let d:=((s.drop n).takeWhile LX).length
 if d=0 then 0 else if n=1∧s[1]? = some 48 then 0 else if s[n]? = some 48 then 1 else n+d
def signs:Fx:=[[58,45],[33,61],[60,61],[40],[41],[44],[46],[33],[61],[60]]
def LA (s:List Nat):Nat×Nat :=
 match s with
 | []=>(0,0)
 | c::_ =>
  if Ir c then (1,(s.takeWhile OH).length)
  else if Db c then (2,(s.takeWhile BV).length)
  else if LX c||decide (c=45)then (3,Cc s)
  else match signs.find? (fun g=>g.isPrefixOf s)with
   | some g=>(4,g.length)
   | none=>(0,0)
theorem JnS (s:List Nat):Cc s≤s.length:=by
 unfold Cc
 have h1:∀n,((s.drop n).takeWhile LX).length≤s.length-n:=fun n=>by
  have:=(List.takeWhile_prefix (p:=LX) (l:=s.drop n)).length_le;simpa using this
 cases s with
 | nil=>simp
 | cons c t =>
  by_cases hc:(c::t).head? = some 45
  ·have:=h1 1;simp only[hc,if_true]at this ⊢;simp only[FC]at this ⊢
   (repeat' split)<;>omega
  ·have:=h1 0;simp only[hc,if_false]at this ⊢;simp only[FC]at this ⊢
   (repeat' split)<;>omega
theorem JkY (s:List Nat):(LA s).2≤s.length:=by
 cases s with
 | nil=>simp[LA]
 | cons c t =>
  simp only[LA];split
  ·exact (List.takeWhile_prefix _).length_le
  ·split
   ·exact (List.takeWhile_prefix _).length_le
   ·split
    ·exact JnS _
    ·split
     ·rename_i g hg;have:=List.find?_some hg;exact (List.isPrefixOf_iff_prefix.1 this).length_le
     ·simp
structure Wd where
 kind:Nat
 text:List Nat
 at':Nat
def Cm:Nat→Nat→List Nat→List Wd×Bool
 | 0,_,_=>([],true)
 | n+1,at',s =>
  let u:=s.drop (blk false s)
  match u with
  | []=>([],true)
  | _::_ =>
   if (LA u).2=0∨((LA u).1≠4∧16<(LA u).2)then ([],false)
   else
    let r:=Cm n (at'+blk false s+(LA u).2) (u.drop (LA u).2)
    (⟨(LA u).1,u.take (LA u).2,at'+blk false s⟩::r.1,r.2)
theorem Jla:∀(n m at':Nat) (s:List Nat),s.length<n→s.length<m→Cm n at' s=Cm m at' s
 | 0,m,_,s,h,_=>by omega
 | n+1,0,_,s,_,h=>by omega
 | n+1,m+1,at',s,h1,h2=>by
  simp only[Cm];split
  ·rfl
  ·rename_i c t hu;split
   ·rfl
   ·rename_i hw
    have hlen:((s.drop (blk false s)).drop (LA (s.drop (blk false s))).2).length<s.length:=by
     have hb:=Da false s;have:(s.drop (blk false s)).length=s.length-blk false s:=Fj;have hpos:0<(s.drop (blk false s)).length:=by rw[hu];simp
     have:0<(LA (s.drop (blk false s))).2:=Fh;simp only[Ki]at *;omega
    rw[Jla n m _ _ Fh Fh]
def scan (at':Nat) (s:List Nat):List Wd×Bool:=Cm (s.length+1) at' s
theorem Ex (at':Nat)(s:List Nat):scan at' s =
  match s.drop (blk false s)with
  | []=>([],true)
  | c::t =>
   if (LA (c::t)).2=0∨((LA (c::t)).1≠4∧16<(LA (c::t)).2)then ([],false)
   else
    let r:=scan (at'+blk false s+(LA (c::t)).2) ((c::t).drop (LA (c::t)).2)
    (⟨(LA (c::t)).1,(c::t).take (LA (c::t)).2,at'+blk false s⟩::r.1,r.2):=by
 unfold scan
 conv=>lhs;simp only[Cm]
 split
 ·rfl
 ·rename_i c t h;rw[h];simp only[];split
  ·rfl
  ·rename_i hw
   have hlen:((c::t).drop (LA (c::t)).2).length<s.length:=by
    have hb:=Da false s;have:(s.drop (blk false s)).length=s.length-blk false s:=Fj;rw[h]at this;have hm:(LA (c::t)).2≠0:=fun he=>hw (.inl he);simp only[Ki,FC]at this ⊢;omega
   rw[Jla s.length _ _ _ hlen (FW _)]
theorem Jmg (at':Nat)(s:List Nat)(k:Nat)(h:blk false s=k+blk false (s.drop k)):scan at' s=scan (at'+k) (s.drop k):=by
 rw[Ex at' s,Ex (at'+k) (s.drop k),List.drop_drop,h,Kj]
section
structure Tm where
 kind:Nat
 name:List Nat
 num:Int
 deriving DecidableEq
structure Lt where
 kind:Nat
 name:List Nat
 args:List Tm
 deriving DecidableEq
structure Rl where
 head:Lt
 body:List Lt
 deriving DecidableEq
def Tm.zero:Tm:=⟨0,[],0⟩
def Lt.zero:Lt:=⟨0,[],[]⟩
def Bh (e x:Nat):Nat:=if e=0 then x else e
def OY (ws:List Wd) (k:Nat) (s:List Nat):Bool :=
 match ws[k]? with
 | some w=>decide (w.kind=4)&&decide (w.text=s)
 | none=>false
def BQ (ws:List Wd) (s:List Nat) (k e:Nat):Nat×Nat :=
 if e=0 then (if OY ws k s then (k+1,e)else (k,4))else (k,e)
def TK (n c:Nat):Nat:=if c=45 then n else n*10+(c+208) % 256
def IK (s:List Nat):Nat:=s.foldl TK 0
def TN (ws:List Wd) (k e:Nat):Option Wd:=if e=0 then ws[k]? else none
def Ls (ws:List Wd) (k e:Nat):Tm×Nat×Nat :=
 match TN ws k e with
 | none=>(Tm.zero,k,Bh e 4)
 | some w =>
  if w.kind=4 then (Tm.zero,k,4)
  else if w.kind=1 then (⟨2,w.text,0⟩,k+1,e)
  else if w.kind=2 then (⟨1,w.text,0⟩,k+1,e)
  else if 2147483648<IK w.text then (Tm.zero,k+1,4)
  else (⟨3,[],if w.text.head? = some 45 then -(IK w.text:Int)else (IK w.text:Int)⟩,k+1,e)
def Tc (ws:List Wd):Nat→List Tm→Nat→Nat→List Tm×Nat×Nat
 | 0,args,k,e=>(args,k,e)
 | n+1,args,k,e =>
  if e=0 then
   let r:=Ls ws k e
   let e2:=if r.2.2=0∧args.length=4 then 8 else r.2.2
   if OY ws r.2.1 [44]then Tc ws n (args++[r.1]) (r.2.1+1) e2 else (args++[r.1],r.2.1,e2)
  else (args,k,e)
def Lu (ws:List Wd) (k e:Nat):Lt×Nat×Nat :=
 match TN ws k e with
 | none=>(Lt.zero,k,Bh e 4)
 | some w =>
  if w.kind=1 then
   if OY ws (k+1) [40]then
    let r:=Tc ws (ws.length+1) [] (k+2) e
    let q:=BQ ws [41] r.2.1 r.2.2
    (⟨1,w.text,r.1⟩,q.1,q.2)
   else (⟨1,w.text,[]⟩,k+1,e)
  else (Lt.zero,k,4)
def TW (s:List Nat):Nat :=
 if s=[61]then 3 else if s=[33,61]then 4 else if s=[60]then 5 else if s=[60,61]then 6 else 0
def OC (ws:List Wd) (k:Nat):Nat :=
 match ws[k]? with
 | some w=>if w.kind=4 then TW w.text else 0
 | none=>0
def De (ws:List Wd) (k:Nat):Nat :=
 match ws[k]? with
 | some w=>w.kind
 | none=>0
def Ow (ws:List Wd) (k e:Nat):Lt×Nat×Nat :=
 if OY ws k [33]then
  let r:=Lu ws (k+1) e
  ({r.1 with kind:=2},r.2.1,r.2.2)
 else if De ws k=1∧OC ws (k+1)=0 then Lu ws k e
 else
  let a:=Ls ws k e
  if a.2.2≠0∨OC ws a.2.1=0 then (Lt.zero,a.2.1,Bh a.2.2 4)
  else
   let b:=Ls ws (a.2.1+1) a.2.2
   (⟨OC ws a.2.1,[],[a.1,b.1]⟩,b.2.1,b.2.2)
def OX (ws:List Wd):Nat→List Lt→Nat→Nat→List Lt×Nat×Nat
 | 0,l,k,e=>(l,k,e)
 | n+1,l,k,e =>
  if e=0 then
   let r:=Ow ws k e
   let e2:=if r.2.2=0∧l.length=6 then 8 else r.2.2
   if OY ws r.2.1 [44]then OX ws n (l++[r.1]) (r.2.1+1) e2 else (l++[r.1],r.2.1,e2)
  else (l,k,e)
def OT (ws:List Wd) (k e:Nat):Rl×Nat×Nat :=
 let h:=Lu ws k e
 let b:=if OY ws h.2.1 [58,45]=true∧h.2.2=0 then OX ws (ws.length+1) [] (h.2.1+1) h.2.2 else ([],h.2.1,h.2.2)
 let q:=BQ ws [46] b.2.1 b.2.2
 (⟨h.1,b.1⟩,q.1,q.2)
def BZ (ws:List Wd):Nat→List Rl→Nat→Nat→List Rl×Nat×Nat
 | 0,l,k,e=>(l,k,e)
 | n+1,l,k,e =>
  if e=0∧k<ws.length then
   let r:=OT ws k e
   let e2:=if r.2.2=0∧l.length=30 then 8 else r.2.2
   BZ ws n (l++[r.1]) r.2.1 e2
  else (l,k,e)
def IV (s:List Nat):List Rl×Nat :=
 if 4000<s.length then ([],8)
 else
  let ws:=(scan 0 s).1
  let r:=BZ ws (ws.length+1) [] 0 0
  let e:=Bh r.2.2 (if (scan 0 s).2 then 0 else 4)
  if e=0 then (r.1,0)else ([],e)
theorem MZ (ws:List Wd)(k e:Nat):k≤(Ls ws k e).2.1:=by
 unfold Ls
 (repeat' split)<;>simp
variable {ws:List Wd} {k e:Nat}
theorem Ei (h:k≤ws.length):(Ls ws k e).2.1≤ws.length:=by
 unfold Ls;split
 ·exact h
 ·rename_i w hw
  have hk:k<ws.length:=by
   unfold TN at hw;split at hw
   ·exact (List.getElem?_eq_some_iff.1 hw).1
   ·cases hw
  (repeat' split)<;>simp<;>omega
variable {s:List Nat}
theorem Iz (h:OY ws k s=true):k<ws.length:=by
 unfold OY at h;split at h
 ·rename_i w hw;exact (List.getElem?_eq_some_iff.1 hw).1
 ·cases h
theorem QY {ws:List Wd}:∀(n:Nat) (args:List Tm) (k e:Nat),k≤(Tc ws n args k e).2.1
 | 0,_,_,_=>FH _
 | n+1,args,k,e=>by
  have h1:=MZ ws k e;simp only[Tc];split
  ·split
   ·exact Kk Fh (QY n _ _ _)
   ·exact h1
  ·exact FH _
theorem QZ {ws:List Wd}:∀(n:Nat) (args:List Tm) (k e:Nat),k≤ws.length→(Tc ws n args k e).2.1≤ws.length
 | 0,_,_,_,h=>h
 | n+1,args,k,e,h=>by
  have h1:=Ei (e:=e) h;simp only[Tc];split
  ·split
   ·rename_i hs;exact QZ n _ _ _ (Iz hs)
   ·exact h1
  ·exact h
theorem Aw (ws:List Wd)(s:List Nat)(k e:Nat):k≤(BQ ws s k e).1:=by
 unfold BQ;(repeat' split)<;>simp
theorem Jlw (h:k≤ws.length):(BQ ws s k e).1≤ws.length:=by
 unfold BQ;split
 ·split
  ·rename_i hs;exact Iz hs
  ·exact h
 ·exact h
theorem Q5 {w:Wd}(h:TN ws k e=some w):k<ws.length∧e=0∧ws[k]? = some w:=by
 unfold TN at h;split at h
 ·rename_i he;exact⟨(List.getElem?_eq_some_iff.1 h).1,he,h⟩
 ·cases h
theorem MW (ws:List Wd)(k e:Nat):k≤(Lu ws k e).2.1:=by
 unfold Lu;split
 ·exact FH _
 ·split
  ·split
   ·exact Kk (Kk Fh (QY _ _ (k+2) e)) (Aw ..)
   ·simp
  ·exact FH _
theorem MX (h:k≤ws.length):(Lu ws k e).2.1≤ws.length:=by
 unfold Lu;split
 ·exact h
 ·rename_i w hw;have hk:=(Q5 hw).1;split
  ·split
   ·rename_i hs;have:=Iz hs;exact Jlw (QZ _ _ _ _ Fh)
   ·exact hk
  ·exact h
theorem JtO (h:(Lu ws k e).2.2=0):k<(Lu ws k e).2.1:=by
 unfold Lu at h ⊢;split
 ·rename_i hn;rw[hn]at h;simp only[Bh]at h;split at h
  ·omega
  ·omega
 ·rename_i w hw;rw[hw]at h;simp only at h ⊢;split
  ·split
   ·exact FK (FK Fh (QY _ _ (k+2) e)) (Aw ..)
   ·simp
  ·rename_i hk;rw[if_neg hk]at h;simp at h
theorem JpA (ws:List Wd)(k e:Nat):k≤(Ow ws k e).2.1:=by
 have h1:=MZ ws k e;unfold Ow;split
 ·exact Kk Fh (MW ws (k+1) e)
 ·split
  ·exact MW ws k e
  ·simp only;split
   ·exact h1
   ·exact Kk Fh (MZ ws ((Ls ws k e).2.1+1) (Ls ws k e).2.2)
theorem Jr7 (h:OC ws k≠0):k<ws.length:=by
 unfold OC at h;split at h
 ·rename_i w hw;exact (List.getElem?_eq_some_iff.1 hw).1
 ·exact absurd rfl h
theorem JpB (h:k≤ws.length):(Ow ws k e).2.1≤ws.length:=by
 have h1:=Ei (e:=e) h;unfold Ow;split
 ·rename_i hs;exact MX (Iz hs)
 ·split
  ·exact MX h
  ·simp only;split
   ·exact h1
   ·rename_i hn;have:OC ws (Ls ws k e).2.1≠0:=fun h=>hn (.inr h);exact Ei (Jr7 this)
theorem Q0 {ws:List Wd}:∀(n:Nat) (l:List Lt) (k e:Nat),k≤(OX ws n l k e).2.1
 | 0,_,_,_=>FH _
 | n+1,l,k,e=>by
  have h1:=JpA ws k e;simp only[OX];split
  ·split
   ·exact Kk Fh (Q0 n _ _ _)
   ·exact h1
  ·exact FH _
theorem Q3 {ws:List Wd}:∀(n:Nat) (l:List Lt) (k e:Nat),k≤ws.length→(OX ws n l k e).2.1≤ws.length
 | 0,_,_,_,h=>h
 | n+1,l,k,e,h=>by
  have h1:=JpB (e:=e) h;simp only[OX];split
  ·split
   ·rename_i hs;exact Q3 n _ _ _ (Iz hs)
   ·exact h1
  ·exact h
theorem JqO (h:k≤ws.length):(OT ws k e).2.1≤ws.length:=by
 have h1:=MX (e:=e) h;unfold OT;simp only;split
 ·rename_i hs;exact Jlw (Q3 _ _ _ _ (Iz hs.1))
 ·exact Jlw h1
theorem Jn0 (h:(BQ ws s k e).2=0):e=0:=by
 unfold BQ at h;split at h
 ·assumption
 ·exact h
theorem JqM (ws:List Wd)(k e:Nat):k≤(OT ws k e).2.1:=by
 have h1:=MW ws k e;unfold OT;simp only;split
 ·exact Kk (Kk Fh (Q0 _ _ ((Lu ws k e).2.1+1) _)) (Aw ..)
 ·exact Kk h1 (Aw ..)
theorem JqN (h:(OT ws k e).2.2=0):k<(OT ws k e).2.1:=by
 unfold OT at h ⊢;simp only at h ⊢;split
 ·rename_i hs;exact FK (FK (Nat.lt_of_le_of_lt (MW ws k e) (FW _)) (Q0 _ _ ((Lu ws k e).2.1+1) _)) (Aw ..)
 ·rename_i hs;rw[if_neg hs]at h;have:=Jn0 h;exact FK (JtO this) (Aw ..)
end
section
theorem Jn9:∀(n at':Nat) (s:List Nat),(∀c∈s,c<256)→((Cm n at' s).1.length≤s.length)∧∀w∈(Cm n at' s).1,w.text≠[]∧(w.kind≠4→w.text.length≤16)∧1≤w.kind∧w.kind≤4∧∀c∈w.text,c<256
 | 0,_,s,_=>by simp[Cm]
 | n+1,at',s,hs=>by
  simp only[Cm];split
  ·simp
  ·rename_i c t hu;split
   ·simp
   ·rename_i hw;have hb:=Da false s;have hu':∀x∈s.drop (blk false s),x<256:=fun x hx=>hs x (List.mem_of_mem_drop hx);have hdl:(s.drop (blk false s)).length=s.length-blk false s:=Fj;have hle:=JkY (s.drop (blk false s))
    have hk:1≤(LA (s.drop (blk false s))).1∧(LA (s.drop (blk false s))).1≤4:=by
     have hne:(LA (s.drop (blk false s))).2≠0:=fun h=>hw (.inl h);revert hne;unfold LA
     (repeat' split)<;>simp
    have hne:(LA (s.drop (blk false s))).2≠0:=fun h=>hw (.inl h);obtain⟨h1,h2⟩:=Jn9 n (at'+blk false s+(LA (s.drop (blk false s))).2) ((s.drop (blk false s)).drop (LA (s.drop (blk false s))).2) fun x hx=>hu' x (List.mem_of_mem_drop hx);refine⟨?_,fun w hw'=>?_⟩
    ·simp only[FC,Ki]at *;omega
    ·rcases List.mem_cons.1 hw' with rfl|hw'
     ·refine⟨?_,fun h4=>?_,hk.1,hk.2,fun x hx=>hu' x (List.mem_of_mem_take hx)⟩
      ·intro h;have:=congrArg List.length h;simp only[FU,FD]at this;omega
      ·have:(LA (s.drop (blk false s))).2≤16:=Nat.le_of_not_lt fun h=>hw (.inr ⟨h4,h⟩);simp only[FU];omega
     ·exact h2 w hw'
theorem Jt0 {s:List Nat}(hs:∀c∈s,c<256):(scan 0 s).1.length≤s.length∧∀w∈(scan 0 s).1,w.text≠[]∧(w.kind≠4→w.text.length≤16)∧1≤w.kind∧w.kind≤4∧∀c∈w.text,c<256:=Jn9 _ _ _ hs
end
section
def JtI (s:List Nat):Bool:=let d:=if s.head? = some 45 then s.drop 1 else s;!d.isEmpty&&d.all LX
def Ae (s:List Nat):Int:=if s.head? = some 45 then -(IK s:Int)else (IK s:Int)
theorem JkH {n c:Nat}(h:LX c=true):TK n c=n*10+(c-48):=by
 unfold LX at h;simp only[FT,decide_eq_true_eq]at h;unfold TK;rw[if_neg Fh];omega
def AO:Fx→List Nat
 | []=>[]
 | b::r=>b++r.flatMap fun x=>[44,32]++x
end
end Delphi
namespace Go.AE
open Delphi Go.RowKit
variable [Globs]
section
def JmN (P:Program) (f:Nat):Prop:=∀(s:ByteArray) (v:Int) (w:World),s.size≤16→Lib.parseIntB 64 s.data.toList = .ok v→
 Calls P f #[.string s,.int .i64 10,.int .i64 64] w fun e w'=>e = .returned (.tuple #[.int .i64 v,.nilIface])∧Below w.heap.size w w'
def JnU (args:List V) (aw:AW):Option (V×AW) :=
 match args with
 | [.str s,.int .i64 10,.int .i64 64]=>if JtI s=true∧s.length≤16 then some (.tuple [.int .i64 (Ae s),.niliface],aw)else none
 | _=>none
theorem Jkw {b:UInt8}(h:LX b.toNat=true):48≤b.toNat∧b.toNat≤57:=by
 unfold LX at h;simp only[FT,decide_eq_true_eq]at h;exact h
theorem Rk:∀(l:List UInt8) (n k:Nat),n<10 ^ k→(∀b∈l,LX b.toNat=true)→(l.map (·.toNat)).foldl TK n<10 ^ (k+l.length)
 | [],n,k,h,_=>by simpa using h
 | b::l,n,k,h,hd=>by
  have h1:=Jkw (hd b Fj);rw[Kv,Ku,JkH (hd b Fj),FC,KA l.length 1,←Kj];refine Rk l _ (k+1) ?_ fun x hx=>hd x (by simp[hx]);rw[Nat.pow_succ];omega
theorem JnV:∀(l:List UInt8) (n k:Nat),n<10 ^ k→k+l.length≤16→(∀b∈l,LX b.toNat=true)→Lib.parseUintM 18446744073709551615 n l = .ok ((l.map (·.toNat)).foldl TK n)
 | [],n,k,h,_,_=>rfl
 | b::l,n,k,h,hk,hd=>by
  have h1:=Jkw (hd b Fj);rw[FC]at hk;have h10:10 ^ k≤10 ^ 15:=Nat.pow_le_pow_right Fh Fh;rw[Kv,Ku,JkH (hd b Fj)];unfold Lib.parseUintM;rw[if_pos h1,if_neg Fh,if_neg Fh];exact JnV l _ (k+1) (by rw[Nat.pow_succ];omega) Fh fun x hx=>hd x (by simp[hx])
theorem JrZ {s:ByteArray}(h:JtI (LH s)=true)(hl:s.size≤16):Lib.parseIntB 64 s.data.toList = .ok (Ae (LH s)):=by
 have hlen:s.data.toList.length≤16:=by rw[Array.length_toList];exact hl
 unfold JtI at h;unfold Ae IK;unfold LH at h ⊢;generalize s.data.toList=l at h hlen ⊢;cases l with
 | nil=>simp at h
 | cons c r =>
  simp only[Kv,List.head?_cons,FQ,List.drop_succ_cons,FZ,FT,Bool.not_eq_true',List.all_eq_true]at h ⊢;have e64:(2:Nat) ^ 64-1=18446744073709551615:=by decide
  have e63:(2:Nat) ^ (64-1)=9223372036854775808:=by decide
  unfold Lib.parseIntB;simp only;by_cases h45:c.toNat=45
  ·rw[if_pos h45]at h;rw[if_pos h45,if_pos (.inr h45)];obtain⟨h1,h2⟩:=h;have hd:∀b∈r,LX b.toNat=true:=fun b hb=>h2 b.toNat (by simp only[Ke];exact⟨b,hb,rfl⟩);have hr:r≠[]:=by intro he;rw[he]at h1;simp at h1
   rw[FC]at hlen;have hp:=JnV r 0 0 Fj Fh hd;have hle:=Rk r 0 0 Fj hd;have h15:10 ^ (0+r.length)≤10 ^ 15:=Nat.pow_le_pow_right Fh Fh;unfold Lib.parseUintB;rw[if_neg hr,e64,hp,e63]
   have hz:(c.toNat::r.map (·.toNat)).foldl TK 0=(r.map (·.toNat)).foldl TK 0:=by
    rw[Ku];congr 1;unfold TK;rw[if_pos h45]
   simp only[h45,not_true_eq_false,false_and,if_false,true_and];rw[if_neg Fh,if_pos trivial];rw[h45]at hz;rw[hz]
  ·rw[if_neg h45]at h;rw[if_neg h45];obtain⟨h1,h2⟩:=h
   have hd:∀b∈c::r,LX b.toNat=true:=fun b hb=>h2 b.toNat (by
    rcases List.mem_cons.1 hb with rfl|hb
    ·simp
    ·rw[FJ];right;rw[Ke];exact⟨b,hb,rfl⟩)
   have h43:¬(c.toNat=43∨c.toNat=45):=by
    have:=Jkw (hd c Fj);omega
   rw[if_neg h43];have hp:=JnV (c::r) 0 0 Fj Fh hd;have hle:=Rk (c::r) 0 0 Fj hd;have h16:10 ^ (0+(c::r).length)≤10 ^ 16:=Nat.pow_le_pow_right Fh Fh;unfold Lib.parseUintB;rw[if_neg Fj,e64,hp,e63];simp only[h45,not_false_eq_true,true_and,false_and,if_false];rw[if_neg Fh];rfl
variable {P:Program} {args:List V}
theorem JrY {f:Nat}(hF:JmN P f){aw:AW}{v:V}{aw':AW}(h:JnU args aw=some (v,aw'))(w:World)(m:Map)(base:Nat)(args':Array Value)(hR:R aw w m base)(hargs:VRs m args args'.toList): Calls P f args' w fun r w'=>∃v' m',r = .returned v'∧VR m' v v'∧R aw' w' m' base∧Goes aw aw' w w' m m':=by
 unfold JnU at h;split at h
 ·rename_i s;split at h
  ·rename_i hn;cases h;obtain⟨x,r1,e1,⟨t,hx,hs⟩,e2⟩:=hargs;obtain⟨y,r2,e3,hy,e4⟩:=e2;obtain⟨z,r3,e5,hz,e6⟩:=e4;cases e6;have hy':y = .int .i64 10:=hy;have hz':z = .int .i64 64:=hz;subst hx;subst hy';subst hz';subst hs;obtain rfl:args' = #[.string t,.int .i64 10,.int .i64 64]:=by cases args';simp_all
   have hsz:t.size≤16:=by have:=hn.2;rw[Cb]at this;exact this
   refine (hF t _ w hsz (JrZ hn.1 hsz)).mono ?_;rintro r w' ⟨rfl,hbel⟩;obtain⟨q1,q2⟩:=hR.below hbel;exact⟨_,m,rfl,⟨_,rfl,_,_,rfl,rfl,_,_,rfl,rfl,rfl⟩,q1,q2⟩
  ·cases h
 ·cases h
def JoV (P:Program) (f:Nat):Prop :=
 (∀(a:Option Addr) (c:Nat) (w:World),Calls P f #[.slice a 0 c,.string ⟨#[44,32]⟩] w fun e w'=>e = .returned (.string ⟨#[]⟩)∧w'=w)∧
 ∀(bk o c:Nat) (xs:List ByteArray) (w:World),(∀(j:Nat) x,xs[j]? = some x→w.cell? ⟨bk,o+j,none⟩=some (.string x))→bk<w.heap.size→xs.length≤140737488355328→xs.length≤c→
  (Lib.join (xs.map (·.data.toList)) [44,32]).length≤140737488355328→
  Calls P f #[.slice (some ⟨bk,o,none⟩) xs.length c,.string ⟨#[44,32]⟩] w fun e w'=>e = .returned (.string ⟨(Lib.join (xs.map (·.data.toList)) [44,32]).toArray⟩)∧Below w.heap.size w w'
def NG:List V→Option (Fx)
 | []=>some []
 | .str s::l=>match NG l with
  | some r=>some (s::r)
  | none=>none
 | _::_=>none
def Ju3:V→Bool
 | .nilslice=>true
 | .slice _ _ n (.known c)=>Nat.ble n c
 | .slice _ _ _ (.upTo _)=>true
 | _=>false
def Jqu (args:List V) (aw:AW):Option (V×AW) :=
 match args with
 | [v,.str [44,32]]=>match Ju3 v,aw.elems 1 v with
  | true,some (_,cs)=>match NG cs with
   | some l=>if (AO l).length≤100000000000000∧l.length≤1000 then some (.str (AO l),aw)else none
   | none=>none
  | _,_=>none
 | _=>none
theorem Jmm {m:Map}:∀{cs:List V} {l:Fx} {ys:List Value},NG cs=some l→VRs m cs ys→∃xs:List ByteArray,ys=xs.map Value.string∧l=xs.map LH
 | [],l,ys,h,hr=>by cases h;cases hr;exact⟨[],rfl,rfl⟩
 | c::cs,l,ys,h,hr=>by
  cases c<;>simp only[NG]at h
  case str s =>
   split at h
   ·rename_i r hr';cases h;obtain⟨y,ys',rfl,⟨t,rfl,rfl⟩,h2⟩:=hr;obtain⟨xs,rfl,rfl⟩:=Jmm hr' h2;exact⟨t::xs,rfl,rfl⟩
   ·cases h
  all_goals cases h
theorem Ju4 (xs:List ByteArray):AO (xs.map LH)=(Lib.join (xs.map (·.data.toList)) [44,32]).map (·.toNat):=by
 cases xs with
 | nil=>rfl
 | cons x xs =>
  rw[Kv,Kv,Lib.join_cons];simp only[AO,Lib.joinTail,List.map_append,List.flatMap_map]
  congr 1
  induction xs with
  | nil=>rfl
  | cons y ys ih =>
   simp only[Kz,Kv,List.flatten_cons,List.map_append,ih];rfl
theorem Jto {f:Nat}(hF:JoV P f){aw:AW}{v:V}{aw':AW}(h:Jqu args aw=some (v,aw'))(w:World)(m:Map)(base:Nat)(args':Array Value)(hR:R aw w m base)(hargs:VRs m args args'.toList): Calls P f args' w fun r w'=>∃v' m',r = .returned v'∧VR m' v v'∧R aw' w' m' base∧Goes aw aw' w w' m m':=by
 unfold Jqu at h;split at h
 ·rename_i v0;split at h
  ·rename_i n cs hfit hel;split at h
   ·rename_i l hl;split at h
    ·rename_i hsz;cases h;obtain⟨x,r1,e1,hx,e2⟩:=hargs;obtain⟨y,r2,e3,⟨t,hy,ht⟩,e4⟩:=e2;cases e4
     have ht':t=⟨#[44,32]⟩:=by
      have h1:t.data.toList.map (·.toNat)=[44,32]:=ht
      have h2:t.data.toList=[44,32]:=by
       cases hh:t.data.toList with
       | nil=>rw[hh]at h1;simp at h1
       | cons a r =>
        cases r with
        | nil=>rw[hh]at h1;simp at h1
        | cons b r =>
         cases r with
         | nil =>
          rw[hh]at h1;simp only[Kv,Kw,List.cons.injEq,and_true]at h1;rw[show a=44 from UInt8.toNat_inj.1 h1.1,show b=32 from UInt8.toNat_inj.1 h1.2]
         | cons c r=>rw[hh]at h1;simp at h1
      apply ByteArray.ext;apply Array.ext';rw[h2]
     subst hy;subst ht';obtain rfl:args' = #[x,.string ⟨#[44,32]⟩]:=by cases args';simp_all
     have noneC:∀(a:Option Addr) (c:Nat),l=[]→x = .slice a 0 c→Calls P f #[x,.string ⟨#[44,32]⟩] w fun r w'=>∃v' m',r = .returned v'∧VR m' (.str (AO l)) v'∧R aw w' m' base∧Goes aw aw w w' m m':=by
      intro a c hl0 hxx;subst hl0;subst hxx;refine (hF.1 a c w).mono ?_;rintro r w' ⟨rfl,rfl⟩;obtain⟨q1,q2⟩:=hR.below (Below.refl _ _);exact⟨_,m,rfl,⟨_,rfl,rfl⟩,q1,q2⟩
     cases v0 with
     | nilslice =>
      cases hel;cases hl;cases hx;exact noneC _ _ rfl rfl
     | slice b off len cap =>
      have hcap:∀{c},cap = .known c→len≤c:=by
       rintro c rfl;exact Nat.le_of_ble_eq_true hfit
      cases len with
      | zero =>
       cases hel;cases hl;obtain⟨e,_,h2⟩:=hx;cases cap with
       | known c=>simp only[]at h2;exact noneC _ _ rfl h2
       | upTo z=>obtain⟨ad,cp,h3,_⟩:=h2;exact noneC _ _ rfl h3
      | succ len =>
       have hel:(match aw.load b off ((len+1)*1)with|some l=>some (len+1,l)|none=>none)=some (n,cs):=hel;split at hel
       ·rename_i l' hl';cases hel;obtain⟨e,hm,h2⟩:=hx;obtain⟨ys,y1,y2,y3⟩:=Dv hR hm hl';obtain⟨xs,rfl,rfl⟩:=Jmm hl y2;rw[F9]at y1
        have hcells:∀(j:Nat) z,xs[j]? = some z→w.cell? ⟨e.c,e.s+off+j,none⟩=some (.string z):=by
         intro j z hj;have h9:=y3 j _ (by rw[F7,hj];rfl);by_cases h0:j=0
         ·subst h0;simpa[Addr.add]using h9
         ·simpa[Addr.add,h0]using h9
        have hbk:e.c<w.heap.size:=by
         obtain⟨z,hz⟩:∃z,xs[0]? = some z:=⟨_,FB Fh⟩;have:=hcells 0 z hz;unfold World.cell? at this;by_cases hlt:e.c<w.heap.size
         ·exact hlt
         ·rw[Array.getElem?_eq_none (by show w.heap.size≤e.c;omega)]at this;cases this
        have hj:=Ju4 xs
        have hjl:(Lib.join (xs.map (·.data.toList)) [44,32]).length≤140737488355328:=by
         have:=congrArg List.length hj;rw[F9]at this;rw[←this];have:=hsz.1;omega
        have fine:∀c,xs.length≤c→x = .slice (some ⟨e.c,e.s+off,Option.none⟩) xs.length c→Calls P f #[x,.string ⟨#[44,32]⟩] w fun r w'=>∃v' m',r = .returned v'∧VR m' (.str (AO (xs.map LH))) v'∧R aw w' m' base∧Goes aw aw w w' m m':=by
         intro c hc hxx;subst hxx;refine (hF.2 e.c (e.s+off) c xs w hcells hbk (by have:=hsz.2;rw[F9]at this;omega) hc hjl).mono ?_;rintro r w' ⟨rfl,hbel⟩;obtain⟨q1,q2⟩:=hR.below hbel;refine⟨_,m,rfl,⟨_,rfl,?_⟩,q1,q2⟩;rw[hj];simp[LH]
        have hlen:xs.length=len+1:=Fh;cases cap with
        | known c =>
         simp only[]at h2;exact fine c (by have:=hcap rfl;omega) (by rw[hlen];exact h2)
        | upTo z =>
         obtain⟨ad,cp,h3,hle,hcase⟩:=h2;rcases hcase with⟨rfl,_⟩|h0
         ·exact fine cp Fh (by rw[hlen];exact h3)
         ·omega
       ·cases hel
     | _=>cases hfit
    ·cases h
   ·cases h
  ·cases h
 ·cases h
end
end Go.AE
namespace Go.Proofs.YtegdcbdicpfbpaaGreatDoor
open Go.Shelf Go.RowKit Go.Lib Go.Proofs
theorem JkU:∃i0,Tryz.prog.info? 64=some i0∧i0.zero=some (Value.slice none 0 0)∧i0.size=1∧i0.bytes=24:=⟨(Tryz.prog.info? 64).get!,by kernel_rfl,by kernel_rfl,by kernel_rfl,by kernel_rfl⟩
theorem Jsh:∀w,(Go.sizeOf 64).run Tryz.prog w = .ok 1 w:=fun w=>by
 obtain⟨i0,h0,_,h1,_⟩:=JkU;simp[sizeOf,typeInfo,h0,h1]
set_option maxHeartbeats 4000000 in
set_option maxRecDepth 100000 in
theorem JrI (b off n c i vb voff m vc:Nat)(cs vs:List Value)(w:World)(hi:i<n)(hm:0<m)(hroom:n+m≤c)(hc63:n+m≤9223372036854775807)(hvb:vb≠b)(hcl:cs.length=n)(hvl:vs.length=m)(hcs:∀j v,cs[j]? = some v→w.cell? ⟨b,off+j,none⟩=some v)(hsp:∀j,j<n+m→(w.cell? ⟨b,off+j,none⟩).isSome=true)(hfz:∀j,j<n+m→w.frozen? ⟨b,off+j,none⟩=false)(hvs:∀j v,vs[j]? = some v→w.cell? ⟨vb,voff+j,none⟩=some v)(h1c:∀v∈cs,v.oneCell'=true)(h1v:∀v∈vs,v.oneCell'=true)(tA tB:TypeId)(kA kB:Nat)(hsa:w.shape? vb=some (tA,kA))(hsb:w.shape? b=some (tB,kB))(hkB:kB≠0)(hfa:w.frozen? ⟨vb,voff,none⟩=false)(hfe:w.frozen? ⟨vb,kA,none⟩=false): Calls Tryz.prog 68 #[.slice (some ⟨b,off,none⟩) n c,.int .i64 i,.slice (some ⟨vb,voff,none⟩) m vc] w fun e w' => e = .returned (.slice (some ⟨b,off,none⟩) (n+m) c)∧w'=(w.drew.setCells b (off+(i+m)) (cs.drop i)).setCells b (off+i) vs:=by
 have hz1:¬((m:Int)=0):=Fh;have hz2:¬((i:Int)=(n:Int)):=Fh;have hsz:(Tryz.prog.info? 64).map (·.size)=some 1:=by kernel_rfl
 have hov:∀lb cb,(callFunc 104 #[.slice (some ⟨vb,voff,none⟩) m vc,.slice (some ⟨b,off+(i+m),none⟩) lb cb]).run Tryz.prog w = .ok (.value (.bool false)) w:=fun lb cb=>by
  rw[run_callFunc_extern Tryz.func104 Fp Fp Fp (e:=Extern.SlicesOverlaps.overlaps #[37,37] #[4]) Fp,Lib.run_overlaps_apart w 37 4 64 Tryz.underlying37 1 Jsh ⟨vb,voff,none⟩ ⟨b,off+(i+m),none⟩ m vc lb cb hvb tA tB kA kB hsa hsb hkB hfa hfe];rfl
 have hdl:(cs.drop i).length=n-i:=by rw[Ki,hcl]
 have mixed:Tryz.prog.follows .mixedOrders=true:=by kernel_rfl
 have hw1:IntKind.i64.wrap ((i:Int)+(m:Int))=(i:Int)+(m:Int):=by rw[IntKind.wrap_i64];omega
 have hb1:(0:Int)≤(i:Int)+(m:Int):=Fh;have hin:i≤n:=Fh;have htn:((i:Int)+(m:Int)).toNat=i+m:=Fh;have hb2:¬(c=i+m):=Fh;have hb3:(i:Int)≤(n:Int)+(m:Int):=Fh;have hb4:¬(c=i):=Fh
 have hcp1:∀ty dc sc,(Builtin.copy_ #[37,37] ty #[.slice (some ⟨b,off+(i+m),none⟩) (n+m-(i+m)) dc,.slice (some ⟨b,off+i,none⟩) (n+m-i) sc]).run Tryz.prog w.drew = .ok (goInt (cs.drop i).length) (w.drew.setCells b (off+(i+m)) (cs.drop i)):=fun ty dc sc =>
  run_copy_cells w.drew _ _ ty 64 b (off+(i+m)) (n+m-(i+m)) dc ⟨b,off+i,none⟩ (n+m-i) sc (cs.drop i) Tryz.underlying37 hsz (by rw[hdl];simp only[Nat.min_def];split<;>omega)
   (fun j v hj=>by rw[Addr.add_lit,Kj];exact hcs (i+j) v (by rwa [Kr]at hj))
   (fun j hj=>by rw[Kj];exact hsp _ Fh) (fun j hj=>by rw[Kj];exact hfz _ Fh) (fun v hv=>h1c v (List.mem_of_mem_drop hv))
 obtain⟨W1,hW1⟩:∃W1,W1=w.drew.setCells b (off+(i+m)) (cs.drop i):=⟨_,rfl⟩
 have hsp1:∀k,k<n+m→(W1.cell? ⟨b,off+k,none⟩).isSome=true:=fun k hk=>by
  rw[hW1];exact isSome_setCells b _ _ _ (fun j hj=>by rw[Kj];exact hsp _ Fh) _ (hsp k hk)
 have hcp2:∀(W:World),(∀x,W.cell? x=W1.cell? x)→(∀x,W.frozen? x=W1.frozen? x)→∀ty dc,(Builtin.copy_ #[37,37] ty #[.slice (some ⟨b,off+i,none⟩) (n+m-i) dc,.slice (some ⟨vb,voff,none⟩) m vc]).run Tryz.prog W = .ok (goInt vs.length) (W.setCells b (off+i) vs):=fun W hWc hWf ty dc =>
  run_copy_cells W _ _ ty 64 b (off+i) (n+m-i) dc ⟨vb,voff,none⟩ m vc vs Tryz.underlying37 hsz (by rw[hvl];simp only[Nat.min_def];split<;>omega)
   (fun j v hj=>by
    rw[Addr.add_lit,hWc,hW1,World.cell?_setCells_out b _ _ _ _ (fun h _=>absurd h hvb)];exact hvs j v hj)
   (fun j hj=>by rw[hWc,Kj];exact hsp1 _ Fh) (fun j hj=>by rw[hWf,hW1,World.frozen?_setCells,Kj];exact hfz _ Fh) h1v
 rw[←hW1]at hcp1
 go_enter Tryz.func68,Tryz.ntmps68
 go_wp2_with (simp only[hov])
 go_region_law_o (refine step_copy_runI rfl _ _ 37 37 rfl _ _ (by simp[Act.eval,Act.put]) (by simp[Act.eval,Act.put]) (hcp1 _ _ _) ?_)
 go_wp2_with (at_builtin;refine wpList_copy_runI _ rfl _ _ 37 37 rfl _ _ rfl rfl (hcp2 _ (fun _=>rfl) (fun _=>rfl) _ _) ?_)
 go_ret
 first|exact⟨rfl,rfl⟩|exact⟨rfl,by rw[hW1]⟩
set_option maxHeartbeats 4000000 in
set_option maxRecDepth 100000 in
theorem Jtn (b off n c i vb voff m vc:Nat)(cs vs:List Value)(w:World)(hi:i<n)(hm:0<m)(hnc:n≤c)(hroom:c<n+m)(hbig:(n+m)*24≤140737488355328)(hcl:cs.length=n)(hvl:vs.length=m)(hcs:∀j v,cs[j]? = some v→w.cell? ⟨b,off+j,none⟩=some v)(hvs:∀j v,vs[j]? = some v→w.cell? ⟨vb,voff+j,none⟩=some v)(h1c:∀v∈cs,v.oneCell'=true)(h1v:∀v∈vs,v.oneCell'=true): Calls Tryz.prog 68 #[.slice (some ⟨b,off,none⟩) n c,.int .i64 i,.slice (some ⟨vb,voff,none⟩) m vc] w fun e w' => e = .returned (.slice (some ⟨w.heap.size,0,none⟩) (n+m) (grownCap w (n+m) c 64))∧ w'=(((w.alloc (.cells ((cs.take i).toArray++Builtin.zeroCells (Value.slice none 0 0).cells (n+m-i)++Builtin.zeroCells (Value.slice none 0 0).cells (grownCap w (n+m) c 64-(n+m))) 64)).drew.setCells w.heap.size i vs).drew).setCells w.heap.size (i+m) (cs.drop i):=by
 have mixed:Tryz.prog.follows .mixedOrders=true:=by kernel_rfl
 obtain⟨i0,hi0,hz0,hzs,hzb⟩:=JkU;have hz1:¬((m:Int)=0):=Fh;have hz2:¬((i:Int)=(n:Int)):=Fh;have hz3:(c:Int)<(n:Int)+(m:Int):=Fh;have hsz:(Tryz.prog.info? 64).map (·.size)=some 1:=by rw[hi0];simp[hzs]
 have hbw:b<w.heap.size:=block_lt_of_cell (hcs 0 _ (FB Fh));have hvw:vb<w.heap.size:=block_lt_of_cell (hvs 0 _ (FB Fh));have hkk:(n:Int)+(m:Int)-(i:Int)=((n+m-i:Nat):Int):=Fh;have hik:i+(n+m-i)=n+m:=Fh
 have hold:(Builtin.firstCells i0.size i (.slice (some ⟨b,off,none⟩) i c)).run Tryz.prog w.drew = .ok (cs.take i).toArray w.drew:=by
  rw[hzs]
  exact run_firstCells_some w.drew 1 i ⟨b,off,none⟩ i c (cs.take i) (by rw[FU];omega) (fun j v hj=>by
   rw[Addr.add_lit];rw[List.getElem?_take]at hj;split at hj
   ·exact hcs j v hj
   ·cases hj)
 have hrz:∀ty,(Builtin.append_ #[37,3] ty #[.slice (some ⟨b,off,none⟩) i c,.int .i64 ((n:Int)+(m:Int)-(i:Int))]).run Tryz.prog w =
   .ok (.slice (some ⟨w.heap.size,0,none⟩) (n+m) (grownCap w (n+m) c 64)) (w.drew.alloc (.cells ((cs.take i).toArray++Builtin.zeroCells (Value.slice none 0 0).cells (n+m-i)++Builtin.zeroCells (Value.slice none 0 0).cells (grownCap w (n+m) c 64-(n+m))) 64)):=fun ty=>by
  have h:=Lib.run_append_grow_zeros w 37 3 ty 64 i0 _ .i64 .i64 Tryz.underlying37 Tryz.underlying3 hi0 hz0 (some ⟨b,off,none⟩) i c (cs.take i) hold (n+m-i) Fh Fh Fh Fh (by rw[hzb];omega) (by rw[hzb,hik];exact growslice_fits hroom hbig);rw[hik]at h;rw[hkk];exact h
 obtain⟨G,hG⟩:∃G,G=grownCap w (n+m) c 64:=⟨_,rfl⟩;obtain⟨ROW,hROW⟩:∃ROW:Array Value,ROW=(cs.take i).toArray++Builtin.zeroCells (Value.slice none 0 0).cells (n+m-i)++Builtin.zeroCells (Value.slice none 0 0).cells (G-(n+m)):=⟨_,rfl⟩;rw[←hG]at hrz ⊢;rw[←hROW]at hrz ⊢
 have hRl:n+m≤ROW.size:=by
  rw[hROW];simp[Builtin.zeroCells,Value.cells];omega
 obtain⟨W1,hW1⟩:∃W1,W1=w.drew.alloc (.cells ROW 64):=⟨_,rfl⟩;rw[←hW1]at hrz
 have hN:∀j,j<n+m→(W1.cell? ⟨w.heap.size,j,none⟩).isSome=true:=fun j hj=>by
  rw[hW1,World.cell?_alloc_at (w:=w.drew) ROW _ w.heap.size j rfl,Array.getElem?_eq_getElem Fh];rfl
 have hNf:∀j,W1.frozen? ⟨w.heap.size,j,none⟩=false:=fun j=>by rw[hW1];exact World.frozen?_alloc_at (w:=w.drew) ROW _ w.heap.size j rfl
 have hOb:∀j v,w.cell? ⟨b,j,none⟩=some v→W1.cell? ⟨b,j,none⟩=some v:=fun j v h=>by rw[hW1,World.cell?_alloc_past (w:=w.drew) _ b j hbw];exact h
 have hOv:∀j v,w.cell? ⟨vb,j,none⟩=some v→W1.cell? ⟨vb,j,none⟩=some v:=fun j v h=>by rw[hW1,World.cell?_alloc_past (w:=w.drew) _ vb j hvw];exact h
 have hcpA:∀(W:World),(∀x,W.cell? x=W1.cell? x)→(∀x,W.frozen? x=W1.frozen? x)→∀ty dc,(Builtin.copy_ #[37,37] ty #[.slice (some ⟨w.heap.size,i,none⟩) (n+m-i) dc,.slice (some ⟨vb,voff,none⟩) m vc]).run Tryz.prog W = .ok (goInt vs.length) (W.setCells w.heap.size i vs):=fun W hWc hWf ty dc =>
  run_copy_cells W _ _ ty 64 w.heap.size i (n+m-i) dc ⟨vb,voff,none⟩ m vc vs Tryz.underlying37 hsz (by rw[hvl];simp only[Nat.min_def];split<;>omega)
   (fun j v hj=>by rw[Addr.add_lit,hWc];exact hOv _ v (hvs j v hj))
   (fun j hj=>by rw[hWc];exact hN _ Fh) (fun j hj=>by rw[hWf];exact hNf _) h1v
 have hGn:n+m≤G:=by rw[hG];exact grownCap_ge w _ _ _
 have hG63:G≤9223372036854775807:=by
  have:=grownCap_le_maxLen w (n+m) c 64 (by unfold maxLen;omega);rw[←hG]at this;unfold maxLen at this;omega
 have hGi:¬(G=i):=Fh;have hGim:¬(G=i+m):=Fh;have hci:¬(c=i):=Fh;have hbN:b≠w.heap.size:=Fh;have hdl:(cs.drop i).length=n-i:=by rw[Ki,hcl]
 have hcpB:∀(W:World),(∀x,W.cell? x=(W1.setCells w.heap.size i vs).cell? x)→(∀x,W.frozen? x=(W1.setCells w.heap.size i vs).frozen? x)→∀ty dc sc,(Builtin.copy_ #[37,37] ty #[.slice (some ⟨w.heap.size,i+m,none⟩) (n+m-(i+m)) dc,.slice (some ⟨b,off+i,none⟩) (n-i) sc]).run Tryz.prog W = .ok (goInt (cs.drop i).length) (W.setCells w.heap.size (i+m) (cs.drop i)):=fun W hWc hWf ty dc sc =>
  run_copy_cells W _ _ ty 64 w.heap.size (i+m) (n+m-(i+m)) dc ⟨b,off+i,none⟩ (n-i) sc (cs.drop i) Tryz.underlying37 hsz (by rw[hdl];simp only[Nat.min_def];split<;>omega)
   (fun j v hj=>by
    rw[Addr.add_lit,hWc,World.cell?_setCells_out _ _ _ _ _ (fun h _=>absurd h hbN),Kj];exact hOb _ v (hcs (i+j) v (by rwa [Kr]at hj)))
   (fun j hj=>by rw[hWc];exact isSome_setCells _ _ _ _ (fun t ht=>hN _ Fh) _ (hN _ Fh))
   (fun j hj=>by rw[hWf,World.frozen?_setCells];exact hNf _) (fun v hv=>h1c v (List.mem_of_mem_drop hv))
 subst hW1;have hE1:∀x,((w.alloc (.cells ROW 64)).drew).cell? x=(w.drew.alloc (.cells ROW 64)).cell? x:=fun x=>rfl;have hE2:∀x,((w.alloc (.cells ROW 64)).drew).frozen? x=(w.drew.alloc (.cells ROW 64)).frozen? x:=fun x=>rfl;have hF1:∀x,(((w.alloc (.cells ROW 64)).drew.setCells w.heap.size i vs).drew).cell? x=((w.drew.alloc (.cells ROW 64)).setCells w.heap.size i vs).cell? x:=fun x=>rfl;have hF2:∀x,(((w.alloc (.cells ROW 64)).drew.setCells w.heap.size i vs).drew).frozen? x=((w.drew.alloc (.cells ROW 64)).setCells w.heap.size i vs).frozen? x:=fun x=>rfl;have hw1:IntKind.i64.wrap ((i:Int)+(m:Int))=(i:Int)+(m:Int):=by rw[IntKind.wrap_i64];omega
 have hb1:(0:Int)≤(i:Int)+(m:Int):=Fh;have hin:i≤n:=Fh;have htn:((i:Int)+(m:Int)).toNat=i+m:=Fh;have hb3:(i:Int)≤(n:Int):=Fh;clear hkk hik hold hROW hG hRl
 go_enter Tryz.func68,Tryz.ntmps68
 go_wp2_with (first
  | (at_builtin;refine Lib.wpList_append_run _ rfl _ _ _ _ rfl _ _ rfl rfl _ _ (hrz _) ?_)
  | (at_builtin;refine wpList_copy_runI _ rfl _ _ 37 37 rfl _ _ rfl rfl (hcpA _ hE1 hE2 _ _) ?_)
  | (at_builtin;refine wpList_copy_runI _ rfl _ _ 37 37 rfl _ _ rfl rfl (hcpB _ (fun _=>rfl) (fun _=>rfl) _ _ _) ?_))
 go_region_law_o (refine step_copy_runI rfl _ _ 37 37 rfl (.slice (some ⟨w.heap.size,i+m,none⟩) (n+m-(i+m)) (G-(i+m))) (.slice (some ⟨b,off+i,none⟩) (n-i) (c-i)) (by simp[Act.eval,Act.put]) (by simp[Act.eval,Act.put]) (hcpB _ hF1 hF2 3 (G-(i+m)) (c-i)) ?_)
 go_wp2
 go_ret
 exact⟨rfl,rfl⟩
set_option maxRecDepth 100000
section
open Go.AE Go.RowKit Go.Shelf Delphi
def JoU:Go.Shelf.Ren:=⟨fun|246=>130|283=>148|284=>149|285=>150|286=>151|129=>157|317=>156|318=>158|319=>159|320=>160|337=>167|338=>168|n=>n,fun|2=>2|3=>3|9=>9|4=>4|171=>209|0=>0|53=>210|37=>143|5=>5|173=>213|212=>219|51=>220|20=>20|213=>221|46=>190|232=>235|233=>236|n=>n,fun|17=>1|18=>4|19=>5|n=>n⟩
theorem JvA:Go.Proofs.LaysM.n246 Tryz.prog JoU where
 mixed:=by kernel_rfl
 f129:=Tryz.func157.trans (congrArg some Fp)
 f246:=Tryz.func130.trans (congrArg some Fp)
 f283:=Tryz.func148.trans (congrArg some Fp)
 f284:=Tryz.func149.trans (congrArg some Fp)
 f285:=Tryz.func150.trans (congrArg some Fp)
 f286:=Tryz.func151.trans (congrArg some Fp)
 f317:=Tryz.func156.trans (congrArg some Fp)
 f318:=Tryz.func158.trans (congrArg some Fp)
 f319:=Tryz.func159.trans (congrArg some Fp)
 f320:=Tryz.func160.trans (congrArg some Fp)
 f337:=Tryz.func167.trans (congrArg some Fp)
 f338:=Tryz.func168.trans (congrArg some Fp)
 t0:=Tryz.underlying0
 a0:=Tryz.isAgg0
 z0:=Tryz.sizeOf0
 v0:=Tryz.zeroValue0
 t2:=Tryz.underlying2
 a2:=Tryz.isAgg2
 z2:=Tryz.sizeOf2
 v2:=Tryz.zeroValue2
 t3:=Tryz.underlying3
 a3:=Tryz.isAgg3
 z3:=Tryz.sizeOf3
 v3:=Tryz.zeroValue3
 t4:=Tryz.underlying4
 a4:=Tryz.isAgg4
 z4:=Tryz.sizeOf4
 v4:=Tryz.zeroValue4
 t5:=Tryz.underlying5
 a5:=Tryz.isAgg5
 z5:=Tryz.sizeOf5
 v5:=Tryz.zeroValue5
 t9:=Tryz.underlying9
 a9:=Tryz.isAgg9
 z9:=Tryz.sizeOf9
 v9:=Tryz.zeroValue9
 t20:=Tryz.underlying20
 a20:=Tryz.isAgg20
 z20:=Tryz.sizeOf20
 v20:=Tryz.zeroValue20
 t37:=Tryz.underlying143
 a37:=Tryz.isAgg143
 z37:=Tryz.sizeOf143
 v37:=Tryz.zeroValue143
 t46:=Tryz.underlying190
 a46:=Tryz.isAgg190
 z46:=Tryz.sizeOf190
 v46:=Tryz.zeroValue190
 t51:=Tryz.underlying220
 a51:=Tryz.isAgg220
 z51:=Tryz.sizeOf220
 v51:=Tryz.zeroValue220
 t53:=Tryz.underlying210
 a53:=Tryz.isAgg210
 z53:=Tryz.sizeOf210
 v53:=Tryz.zeroValue210
 t171:=Tryz.underlying209
 a171:=Tryz.isAgg209
 z171:=Tryz.sizeOf209
 v171:=Tryz.zeroValue209
 t173:=Tryz.underlying213
 a173:=Tryz.isAgg213
 z173:=Tryz.sizeOf213
 v173:=Tryz.zeroValue213
 t212:=Tryz.underlying219
 a212:=Tryz.isAgg219
 z212:=Tryz.sizeOf219
 v212:=Tryz.zeroValue219
 t213:=Tryz.underlying221
 a213:=Tryz.isAgg221
 z213:=Tryz.sizeOf221
 t232:=Tryz.underlying235
 a232:=Tryz.isAgg235
 z232:=Tryz.sizeOf235
 v232:=Tryz.zeroValue235
 t233:=Tryz.underlying236
 a233:=Tryz.isAgg236
 z233:=Tryz.sizeOf236
 v233:=Tryz.zeroValue236
 g17:=by kernel_rfl
 g18:=by kernel_rfl
 g19:=by kernel_rfl
 i0:=by kernel_rfl
 i2:=by kernel_rfl
 i3:=by kernel_rfl
 i4:=by kernel_rfl
 i5:=by kernel_rfl
 i9:=by kernel_rfl
 i20:=by kernel_rfl
 i37:=by kernel_rfl
 i46:=by kernel_rfl
 i51:=by kernel_rfl
 i53:=by kernel_rfl
 i171:=by kernel_rfl
 i173:=by kernel_rfl
 i212:=by kernel_rfl
 i232:=by kernel_rfl
 i233:=by kernel_rfl
 m17:=by kernel_rfl
 m18:=by kernel_rfl
 m19:=by kernel_rfl
def JqZ:Go.Shelf.Ren:=⟨fun|174=>142|247=>154|245=>155|287=>162|279=>163|280=>164|281=>165|282=>166|321=>169|322=>170|316=>171|171=>122|205=>172|243=>145|246=>130|283=>148|284=>149|285=>150|286=>151|129=>157|317=>156|318=>158|319=>159|320=>160|337=>167|338=>168|n=>n,fun|9=>9|3=>3|2=>2|75=>147|85=>198|4=>4|167=>223|5=>5|53=>210|175=>224|46=>190|168=>226|37=>143|0=>0|210=>233|21=>21|127=>173|145=>239|143=>237|171=>209|173=>213|212=>219|51=>220|20=>20|213=>221|232=>235|233=>236|80=>150|n=>n,fun|15=>2|16=>3|17=>1|18=>4|19=>5|n=>n⟩
theorem Jws:Go.Proofs.LaysC.n174 Tryz.prog JqZ where
 mixed:=by kernel_rfl
 f129:=Tryz.func157.trans (congrArg some Fp)
 f171:=Tryz.func122.trans (congrArg some Fp)
 f174:=Tryz.func142.trans (congrArg some Fp)
 f205:=Tryz.func172.trans (congrArg some Fp)
 f243:=Tryz.func145.trans (congrArg some Fp)
 f245:=Tryz.func155.trans (congrArg some Fp)
 f246:=Tryz.func130.trans (congrArg some Fp)
 f247:=Tryz.func154.trans (congrArg some Fp)
 f279:=Tryz.func163.trans (congrArg some Fp)
 f280:=Tryz.func164.trans (congrArg some Fp)
 f281:=Tryz.func165.trans (congrArg some Fp)
 f282:=Tryz.func166.trans (congrArg some Fp)
 f283:=Tryz.func148.trans (congrArg some Fp)
 f284:=Tryz.func149.trans (congrArg some Fp)
 f285:=Tryz.func150.trans (congrArg some Fp)
 f286:=Tryz.func151.trans (congrArg some Fp)
 f287:=Tryz.func162.trans (congrArg some Fp)
 f316:=Tryz.func171.trans (congrArg some Fp)
 f317:=Tryz.func156.trans (congrArg some Fp)
 f318:=Tryz.func158.trans (congrArg some Fp)
 f319:=Tryz.func159.trans (congrArg some Fp)
 f320:=Tryz.func160.trans (congrArg some Fp)
 f321:=Tryz.func169.trans (congrArg some Fp)
 f322:=Tryz.func170.trans (congrArg some Fp)
 f337:=Tryz.func167.trans (congrArg some Fp)
 f338:=Tryz.func168.trans (congrArg some Fp)
 t0:=Tryz.underlying0
 a0:=Tryz.isAgg0
 z0:=Tryz.sizeOf0
 v0:=Tryz.zeroValue0
 t2:=Tryz.underlying2
 a2:=Tryz.isAgg2
 z2:=Tryz.sizeOf2
 v2:=Tryz.zeroValue2
 t3:=Tryz.underlying3
 a3:=Tryz.isAgg3
 z3:=Tryz.sizeOf3
 v3:=Tryz.zeroValue3
 t4:=Tryz.underlying4
 a4:=Tryz.isAgg4
 z4:=Tryz.sizeOf4
 v4:=Tryz.zeroValue4
 t5:=Tryz.underlying5
 a5:=Tryz.isAgg5
 z5:=Tryz.sizeOf5
 v5:=Tryz.zeroValue5
 t9:=Tryz.underlying9
 a9:=Tryz.isAgg9
 z9:=Tryz.sizeOf9
 v9:=Tryz.zeroValue9
 t20:=Tryz.underlying20
 a20:=Tryz.isAgg20
 z20:=Tryz.sizeOf20
 v20:=Tryz.zeroValue20
 t21:=Tryz.underlying21
 a21:=Tryz.isAgg21
 z21:=Tryz.sizeOf21
 v21:=Tryz.zeroValue21
 t37:=Tryz.underlying143
 a37:=Tryz.isAgg143
 z37:=Tryz.sizeOf143
 v37:=Tryz.zeroValue143
 t46:=Tryz.underlying190
 a46:=Tryz.isAgg190
 z46:=Tryz.sizeOf190
 v46:=Tryz.zeroValue190
 t51:=Tryz.underlying220
 a51:=Tryz.isAgg220
 z51:=Tryz.sizeOf220
 v51:=Tryz.zeroValue220
 t53:=Tryz.underlying210
 a53:=Tryz.isAgg210
 z53:=Tryz.sizeOf210
 v53:=Tryz.zeroValue210
 t75:=Tryz.underlying147
 a75:=Tryz.isAgg147
 z75:=Tryz.sizeOf147
 v75:=Tryz.zeroValue147
 t85:=Tryz.underlying198
 a85:=Tryz.isAgg198
 z85:=Tryz.sizeOf198
 v85:=Tryz.zeroValue198
 t127:=Tryz.underlying173
 a127:=Tryz.isAgg173
 z127:=Tryz.sizeOf173
 v127:=Tryz.zeroValue173
 t143:=Tryz.underlying237
 a143:=Tryz.isAgg237
 z143:=Tryz.sizeOf237
 v143:=Tryz.zeroValue237
 t145:=Tryz.underlying239
 a145:=Tryz.isAgg239
 z145:=Tryz.sizeOf239
 v145:=Tryz.zeroValue239
 t167:=Tryz.underlying223
 a167:=Tryz.isAgg223
 z167:=Tryz.sizeOf223
 v167:=Tryz.zeroValue223
 t168:=Tryz.underlying226
 a168:=Tryz.isAgg226
 z168:=Tryz.sizeOf226
 v168:=Tryz.zeroValue226
 t171:=Tryz.underlying209
 a171:=Tryz.isAgg209
 z171:=Tryz.sizeOf209
 v171:=Tryz.zeroValue209
 t173:=Tryz.underlying213
 a173:=Tryz.isAgg213
 z173:=Tryz.sizeOf213
 v173:=Tryz.zeroValue213
 t175:=Tryz.underlying224
 a175:=Tryz.isAgg224
 z175:=Tryz.sizeOf224
 v175:=Tryz.zeroValue224
 t210:=Tryz.underlying233
 a210:=Tryz.isAgg233
 z210:=Tryz.sizeOf233
 v210:=Tryz.zeroValue233
 t212:=Tryz.underlying219
 a212:=Tryz.isAgg219
 z212:=Tryz.sizeOf219
 v212:=Tryz.zeroValue219
 t213:=Tryz.underlying221
 a213:=Tryz.isAgg221
 z213:=Tryz.sizeOf221
 t232:=Tryz.underlying235
 a232:=Tryz.isAgg235
 z232:=Tryz.sizeOf235
 v232:=Tryz.zeroValue235
 t233:=Tryz.underlying236
 a233:=Tryz.isAgg236
 z233:=Tryz.sizeOf236
 v233:=Tryz.zeroValue236
 g15:=by kernel_rfl
 g16:=by kernel_rfl
 g17:=by kernel_rfl
 g18:=by kernel_rfl
 g19:=by kernel_rfl
 t80:=Tryz.underlying150
 a80:=Tryz.isAgg150
 z80:=Tryz.sizeOf150
 v80:=Tryz.zeroValue150
 i0:=by kernel_rfl
 i2:=by kernel_rfl
 i3:=by kernel_rfl
 i4:=by kernel_rfl
 i5:=by kernel_rfl
 i9:=by kernel_rfl
 i20:=by kernel_rfl
 i21:=by kernel_rfl
 i37:=by kernel_rfl
 i46:=by kernel_rfl
 i51:=by kernel_rfl
 i53:=by kernel_rfl
 i75:=by kernel_rfl
 i80:=by kernel_rfl
 i85:=by kernel_rfl
 i127:=by kernel_rfl
 i143:=by kernel_rfl
 i145:=by kernel_rfl
 i167:=by kernel_rfl
 i168:=by kernel_rfl
 i171:=by kernel_rfl
 i173:=by kernel_rfl
 i175:=by kernel_rfl
 i210:=by kernel_rfl
 i212:=by kernel_rfl
 i232:=by kernel_rfl
 i233:=by kernel_rfl
 m15:=by kernel_rfl
 m16:=by kernel_rfl
 m17:=by kernel_rfl
 m18:=by kernel_rfl
 m19:=by kernel_rfl
 c0:=by kernel_rfl
 c2:=by kernel_rfl
 c3:=by kernel_rfl
 c4:=by kernel_rfl
 c5:=by kernel_rfl
 c9:=by kernel_rfl
 c20:=by kernel_rfl
 c21:=by kernel_rfl
 c37:=by kernel_rfl
 c46:=by kernel_rfl
 c51:=by kernel_rfl
 c53:=by kernel_rfl
 c75:=by kernel_rfl
 c80:=by kernel_rfl
 c85:=by kernel_rfl
 c127:=by kernel_rfl
 c143:=by kernel_rfl
 c145:=by kernel_rfl
 c167:=by kernel_rfl
 c168:=by kernel_rfl
 c171:=by kernel_rfl
 c173:=by kernel_rfl
 c175:=by kernel_rfl
 c210:=by kernel_rfl
 c212:=by kernel_rfl
 c213:=by kernel_rfl
 c232:=by kernel_rfl
 c233:=by kernel_rfl
def Jmq:Go.Shelf.Ren:=⟨fun|156=>46|165=>77|166=>78|169=>79|240=>110|241=>111|276=>131|277=>132|n=>n,fun|31=>98|9=>9|3=>3|4=>4|0=>0|20=>20|72=>145|76=>148|70=>142|37=>143|75=>147|127=>173|164=>192|5=>5|80=>150|n=>n,fun|n=>n⟩
theorem Jum:Go.Proofs.Lays.n156 Tryz.prog Jmq where
 mixed:=by kernel_rfl
 f156:=Tryz.func46.trans (congrArg some Fp)
 f165:=Tryz.func77.trans (congrArg some Fp)
 f166:=Tryz.func78.trans (congrArg some Fp)
 f169:=Tryz.func79.trans (congrArg some Fp)
 f240:=Tryz.func110.trans (congrArg some Fp)
 f241:=Tryz.func111.trans (congrArg some Fp)
 f276:=Tryz.func131.trans (congrArg some Fp)
 f277:=Tryz.func132.trans (congrArg some Fp)
 t0:=Tryz.underlying0
 a0:=Tryz.isAgg0
 z0:=Tryz.sizeOf0
 v0:=Tryz.zeroValue0
 t3:=Tryz.underlying3
 a3:=Tryz.isAgg3
 z3:=Tryz.sizeOf3
 v3:=Tryz.zeroValue3
 t4:=Tryz.underlying4
 a4:=Tryz.isAgg4
 z4:=Tryz.sizeOf4
 v4:=Tryz.zeroValue4
 t9:=Tryz.underlying9
 a9:=Tryz.isAgg9
 z9:=Tryz.sizeOf9
 v9:=Tryz.zeroValue9
 t20:=Tryz.underlying20
 a20:=Tryz.isAgg20
 z20:=Tryz.sizeOf20
 v20:=Tryz.zeroValue20
 t31:=Tryz.underlying98
 a31:=Tryz.isAgg98
 z31:=Tryz.sizeOf98
 v31:=Tryz.zeroValue98
 t37:=Tryz.underlying143
 a37:=Tryz.isAgg143
 z37:=Tryz.sizeOf143
 v37:=Tryz.zeroValue143
 t70:=Tryz.underlying142
 a70:=Tryz.isAgg142
 z70:=Tryz.sizeOf142
 v70:=Tryz.zeroValue142
 t72:=Tryz.underlying145
 a72:=Tryz.isAgg145
 z72:=Tryz.sizeOf145
 v72:=Tryz.zeroValue145
 t75:=Tryz.underlying147
 a75:=Tryz.isAgg147
 z75:=Tryz.sizeOf147
 v75:=Tryz.zeroValue147
 t76:=Tryz.underlying148
 a76:=Tryz.isAgg148
 z76:=Tryz.sizeOf148
 v76:=Tryz.zeroValue148
 t127:=Tryz.underlying173
 a127:=Tryz.isAgg173
 z127:=Tryz.sizeOf173
 v127:=Tryz.zeroValue173
 t164:=Tryz.underlying192
 a164:=Tryz.isAgg192
 z164:=Tryz.sizeOf192
 v164:=Tryz.zeroValue192
theorem Jst:Go.Proofs.Builder.Extra Tryz.prog Jmq where
 sizeBuilder:=by kernel_rfl
 liesBuilder:=by kernel_rfl
 t5:=Tryz.underlying5
 a5:=Tryz.isAgg5
 z5:=Tryz.sizeOf5
 v5:=Tryz.zeroValue5
 infoByte:=by kernel_rfl
 cellsByte:=by kernel_rfl
 sizeByte:=by kernel_rfl
 neB5:=by decide
variable {w:World}
theorem var_at {l:List Value}:(∃t fz,w.heap[1]? = some (.cells l.toArray t fz))↔w.var? Tryz.prog "internal/strconv.uint64pow10" = some l.toArray:=by
 have hg:Tryz.prog.globalNamed "internal/strconv.uint64pow10" = some 1:=by kernel_rfl
 unfold World.var?;rw[hg];constructor
 ·rintro⟨t,fz,h⟩;simp[h]
 ·intro h;simp only[Option.bind_some]at h;split at h
  ·rename_i cs t fz hh;cases h;exact⟨t,fz,hh⟩
  ·cases h
theorem JuU:JlA Tryz.prog 130 1:=by
 intro n w h0 h1 hh
 have htab:Lib.TabIs Tryz.prog w "internal/strconv.uint64pow10" .u64 Lib.pow10Tab:=by
  unfold Lib.TabIs;exact var_at.1 hh
 refine (Any.internal_strconv_FormatInt_10 JvA n h0 h1 w htab).mono ?_;rintro e w' ⟨rfl,k,os,rfl⟩;exact⟨rfl,Lib.below_grow _ _ (FH _) k os⟩
theorem Jwl:JmN Tryz.prog 142:=by
 intro s v w hs hv;refine (Any.strconv_ParseInt_10_at64_ok Jws s Fh v hv w).mono ?_;rintro e w' ⟨rfl,hw⟩;refine⟨rfl,?_⟩;rcases hw with rfl|⟨t,rfl⟩
 ·exact Below.refl _ _
 ·exact Lib.bytesWorld_below _ _ _
theorem JwC:JoV Tryz.prog 46:=
 ⟨fun a c w=>Any.strings_Join_none Jum Jst a c _ w,fun bk o c xs w h1 h2 h3 h4 h5=>Any.strings_Join Jum Jst bk o c xs _ w h1 h2 h3 h4 h5⟩
def NA (P:Program):XTab where
 code:=(XTab.of P).code
 prim f args aw:=match f with
  | 130=>Eu args aw
  | 142=>JnU args aw
  | 46=>Jqu args aw
  | 68=>Ci 24 args aw
  | _=>Option.none
 ext f args aw:=match f with
  | 161=>match Jnh args with
   | some v=>some (v,aw)
   | Option.none=>Option.none
  | _=>Option.none
theorem Juy:TabOK Tryz.prog (NA Tryz.prog).tab where
 mixed:=by kernel_rfl
 code:=(XTab.of_ok (P:=Tryz.prog) Fp).code
 prim f args aw v aw' h:=by
  simp only[XTab.tab,NA]at h;split at h
  ·exact⟨⟨_,Tryz.func130,by kernel_rfl,by decide +kernel⟩,fun w m base args' hR hargs=>Jqj JuU rfl h w m base args' hR hargs⟩
  ·exact⟨⟨_,Tryz.func142,by kernel_rfl,by decide +kernel⟩,fun w m base args' hR hargs=>JrY Jwl h w m base args' hR hargs⟩
  ·exact⟨⟨_,Tryz.func46,by kernel_rfl,by decide +kernel⟩,fun w m base args' hR hargs=>Jto JwC h w m base args' hR hargs⟩
  ·exact⟨⟨_,Tryz.func68,by kernel_rfl,by decide +kernel⟩,fun w m base args' hR hargs=>Jqt (te:=64) (zero:=Value.slice none 0 0) (fun b off n c i vb voff m vc cs vs w=>JrI b off n c i vb voff m vc cs vs w) (fun b off n c i vb voff m vc cs vs w=>Jtn b off n c i vb voff m vc cs vs w) rfl h w m base args' hR hargs⟩
  ·cases h
 ext f args aw v aw' h w m base args' hR hargs:=by
  simp only[XTab.tab,NA]at h;split at h
  ·split at h
   ·rename_i u hu;cases h;exact JrB hR (Jry Tryz.func161 Fp Fp Fp Fp hu w m args' hargs)
   ·cases h
  ·cases h
theorem Jol {m:Map}:∀{l:List V},(∀x∈l,∃k n,x = .int k n)→VRs m l (l.map EE)
 | [],_=>rfl
 | x::l,h=>by
  obtain⟨k,n,rfl⟩:=h x Fj;exact⟨_,_,rfl,rfl,Jol fun y hy=>h y (by simp[hy])⟩
theorem JtM:∀x∈pow10V,∃k n,x = .int k n:=by
 intro x hx;simp only[pow10V,FJ,F3,or_false]at hx;rcases hx with rfl|rfl|rfl|rfl|rfl|rfl|rfl|rfl|rfl|rfl|rfl|rfl|rfl|rfl|rfl|rfl|rfl|rfl|rfl|rfl<;>exact⟨_,_,rfl⟩
theorem JrF (h:∃t fz,w.heap[1]? = some (.cells (pow10V.map EE).toArray t fz)):Ed w:=by
 intro i g l hi;obtain⟨t,fz,h⟩:=h;cases i with
 | zero =>
  cases hi;exact⟨_,t,fz,h,Jol JtM⟩
 | succ i=>cases hi
theorem Jqm {l:List (String×DataW Unit)}(hl:laidMetH Tryz.prog l w)(hm:("internal/strconv.uint64pow10",Lib.tabData .u64 Lib.pow10Tab)∈l.filter fun x=>x.2.handleName?.isNone):Ed w:=by
 obtain⟨ps,hv,_⟩:=(laidMetH_iff.1 hl).1
 have go:∀{l:List (String×DataW Unit)} {ps:List MemPlace},DataW.LaidVars Tryz.prog w l ps→("internal/strconv.uint64pow10",Lib.tabData .u64 Lib.pow10Tab)∈l→Ed w:=by
  intro l;induction l with
  | nil=>intro ps _ h;cases h
  | cons x l ih =>
   intro ps h hm;obtain⟨n,d⟩:=x;obtain⟨g,t,cs,fuel,p,q,h1,h2,h3,h4,h5,_⟩:=h;rcases List.mem_cons.1 hm with e|e
   ·cases e;have hg:Tryz.prog.globalNamed "internal/strconv.uint64pow10" = some 1:=by kernel_rfl
    rw[hg]at h1;cases h1;have ht:(Tryz.prog.globals[1]?).map (·.type)=some 219:=by kernel_rfl
    rw[ht]at h2;cases h2;have:=Lib.cells_of_tab Tryz.underlying219 Tryz.underlying210 Fp Fp h4;refine JrF ?_;have hx:=(var_at (l:=cs.toList)).2 (by simpa using h3);rw[this]at hx;exact hx
   ·exact ih h5 e
 exact go hv hm
theorem Jom {b:Nat}{x:Blk}(h:AW.start.heap.get b=some x):∃l,x = .cells l .ro:=by
 obtain⟨_,_,l,_,_,h3⟩:=AV (k:=0) h;exact⟨l,h3⟩
def EQ (P:Program):Tab:=(NA P).tab
end
end Go.Proofs.YtegdcbdicpfbpaaGreatDoor
namespace Go.AE
variable [Globs]
section
variable {tab:Tab}
def WX (tab:Tab) (c:ACode) (fr:Fr) (aw:AW) (Q:AExit→Fr→AW→Prop):Prop:=∃e fr' aw',Exec tab c fr aw e fr' aw'∧Q e fr' aw'
def WO (tab:Tab) (l:List AOper) (fr:Fr) (aw:AW) (K:Fr→AW→Prop):Prop:=∃fr' aw',Ops tab l fr aw fr' aw'∧K fr' aw'
def W1 (tab:Tab) (o:AOper) (fr:Fr) (aw:AW) (K:V→AW→Prop):Prop:=∃v aw',One tab o fr aw v aw'∧K v aw'
def WF (tab:Tab) (f:Nat) (args:List V) (aw:AW) (K:V→AW→Prop):Prop:=∃v aw',CallR tab f args aw v aw'∧K v aw'
def WD (tab:Tab) (l:List DOper) (fr:Fr) (aw:AW) (K:List Stp→Fr→AW→Prop):Prop:=∃st fr' aw',Pass tab l fr aw st fr' aw'∧K st fr' aw'
variable {fr:Fr} {aw:AW} {Q:AExit→Fr→AW→Prop}
theorem WX.mono {c:ACode}{Q':AExit→Fr→AW→Prop}(h:WX tab c fr aw Q)(hq:∀e f a,Q e f a→Q' e f a):WX tab c fr aw Q':=by
 obtain⟨e,f,a,h1,h2⟩:=h;exact⟨e,f,a,h1,hq _ _ _ h2⟩
variable {args:List V} {K:V→AW→Prop}
theorem WF.mono {f:Nat}{K':V→AW→Prop}(h:WF tab f args aw K)(hk:∀v a,K v a→K' v a):WF tab f args aw K':=by
 obtain⟨v,a,h1,h2⟩:=h;exact⟨v,a,h1,hk _ _ h2⟩
def onw (Q:AExit→Fr→AW→Prop) (N:Fr→AW→Prop):AExit→Fr→AW→Prop
 | .normal,f,a=>N f a
 | e,f,a=>Q e f a
def inB (id:Nat) (Q:AExit→Fr→AW→Prop):AExit→Fr→AW→Prop
 | .exit id',f,a=>if id'=id then Q .normal f a else Q (.exit id') f a
 | e,f,a=>Q e f a
variable {N:Fr→AW→Prop} {f:Fr} {a:AW}
@[simp] theorem onw_normal:onw Q N .normal f a=N f a:=rfl
variable {id:Nat}
@[simp] theorem onw_exit:onw Q N (.exit id) f a=Q (.exit id) f a:=rfl
@[simp] theorem onw_ret:onw Q N .ret f a=Q .ret f a:=rfl
@[simp] theorem inB_normal:inB id Q .normal f a=Q .normal f a:=rfl
@[simp] theorem inB_exit {id':Nat}:inB id Q (.exit id') f a=if id'=id then Q .normal f a else Q (.exit id') f a:=rfl
@[simp] theorem inB_ret:inB id Q .ret f a=Q .ret f a:=rfl
def JpX (o:Option V) (A B:Prop):Prop :=
 match o with
 | some (.bool b)=>bif b then A else B
 | _=>False
theorem JsU {b:Bool}{A B:Prop}(h1:b=true→A)(h2:b=false→B):JpX (some (.bool b)) A B:=by
 cases b
 ·exact h2 rfl
 ·exact h1 rfl
theorem Jo0:WX tab .skip fr aw Q=Q .normal fr aw:=by
 refine propext ⟨?_,fun h=>⟨_,_,_,.skip,h⟩⟩;rintro⟨_,_,_,h1,h2⟩;cases h1;exact h2
theorem JmP:WX tab .ret fr aw Q=Q .ret fr aw:=by
 refine propext ⟨?_,fun h=>⟨_,_,_,.ret,h⟩⟩;rintro⟨_,_,_,h1,h2⟩;cases h1;exact h2
theorem JoZ:WX tab (.exit id) fr aw Q=Q (.exit id) fr aw:=by
 refine propext ⟨?_,fun h=>⟨_,_,_,.exit,h⟩⟩;rintro⟨_,_,_,h1,h2⟩;cases h1;exact h2
variable {l:List AOper}
theorem JlB:WX tab (.region l) fr aw Q=WO tab l fr aw (fun f a=>Q .normal f a):=by
 refine propext ⟨?_,?_⟩
 ·rintro⟨_,_,_,h1,h2⟩;cases h1;rename_i h;exact⟨_,_,h,h2⟩
 ·rintro⟨_,_,h1,h2⟩;exact⟨_,_,_,.region h1,h2⟩
theorem JsH {l:List DOper}:WX tab (.drawn l) fr aw Q=WD tab l fr aw (fun st f a=>SV l st=true∧Q .normal f a):=by
 refine propext ⟨?_,?_⟩
 ·rintro⟨_,_,_,h1,h2⟩;cases h1;rename_i h h';exact⟨_,_,_,h',h,h2⟩
 ·rintro⟨_,_,_,h1,h',h2⟩;exact⟨_,_,_,.drawn h1 h',h2⟩
variable {b:ACode}
theorem Jq4 {a:ACode}:WX tab (.seq a b) fr aw Q=WX tab a fr aw (onw Q fun f w=>WX tab b f w Q):=by
 refine propext ⟨?_,?_⟩
 ·rintro⟨_,_,_,h1,h2⟩;cases h1 with
  | seq i1 i2=>exact⟨_,_,_,i1,_,_,_,i2,h2⟩
  | seqE i1=>exact⟨_,_,_,i1,h2⟩
  | seqR i1=>exact⟨_,_,_,i1,h2⟩
 ·rintro⟨e,_,_,h1,h2⟩;cases e with
  | normal=>obtain⟨_,_,_,i2,h3⟩:=h2;exact⟨_,_,_,.seq h1 i2,h3⟩
  | exit id=>exact⟨_,_,_,.seqE h1,h2⟩
  | ret=>exact⟨_,_,_,.seqR h1,h2⟩
theorem JoY {c:Opd}{a:ACode}:WX tab (.cond c a b) fr aw Q=JpX (c.ev fr) (WX tab a fr aw Q) (WX tab b fr aw Q):=by
 refine propext ⟨?_,?_⟩
 ·rintro⟨_,_,_,h1,h2⟩;cases h1 with
  | condT i0 i1=>rw[i0];exact⟨_,_,_,i1,h2⟩
  | condF i0 i1=>rw[i0];exact⟨_,_,_,i1,h2⟩
 ·intro h;unfold JpX at h;split at h
  ·rename_i v hv;cases v with
   | true=>obtain⟨_,_,_,i1,h2⟩:=h;exact⟨_,_,_,.condT hv i1,h2⟩
   | false=>obtain⟨_,_,_,i1,h2⟩:=h;exact⟨_,_,_,.condF hv i1,h2⟩
  ·exact h.elim
theorem JmO:WX tab (.block id b) fr aw Q=WX tab b fr aw (inB id Q):=by
 refine propext ⟨?_,?_⟩
 ·rintro⟨_,_,_,h1,h2⟩;cases h1 with
  | block i1=>exact⟨_,_,_,i1,h2⟩
  | blockX i1=>exact⟨_,_,_,i1,by simpa using h2⟩
  | blockE i1 hne=>exact⟨_,_,_,i1,by simpa[hne]using h2⟩
  | blockR i1=>exact⟨_,_,_,i1,h2⟩
 ·rintro⟨e,_,_,h1,h2⟩;cases e with
  | normal=>exact⟨_,_,_,.block h1,h2⟩
  | exit id' =>
   simp only[inB_exit]at h2;split at h2
   ·rename_i he;subst he;exact⟨_,_,_,.blockX h1,h2⟩
   ·rename_i he;exact⟨_,_,_,.blockE h1 he,h2⟩
  | ret=>exact⟨_,_,_,.blockR h1,h2⟩
theorem JmQ:WX tab (.scope b) fr aw Q=WX tab b fr aw Q:=by
 refine propext ⟨?_,?_⟩
 ·rintro⟨_,_,_,h1,h2⟩;cases h1;rename_i h;exact⟨_,_,_,h,h2⟩
 ·rintro⟨_,_,_,h1,h2⟩;exact⟨_,_,_,.scope h1,h2⟩
theorem Jut:WX tab (.loop b) fr aw Q=WX tab b fr aw (onw Q fun f w=>WX tab (.loop b) f w Q):=by
 refine propext ⟨?_,?_⟩
 ·rintro⟨_,_,_,h1,h2⟩;cases h1 with
  | loop i1 i2=>exact⟨_,_,_,i1,_,_,_,i2,h2⟩
  | loopE i1=>exact⟨_,_,_,i1,h2⟩
  | loopR i1=>exact⟨_,_,_,i1,h2⟩
 ·rintro⟨e,_,_,h1,h2⟩;cases e with
  | normal=>obtain⟨_,_,_,i2,h3⟩:=h2;exact⟨_,_,_,.loop h1 i2,h3⟩
  | exit id=>exact⟨_,_,_,.loopE h1,h2⟩
  | ret=>exact⟨_,_,_,.loopR h1,h2⟩
theorem Jq1 {K:Fr→AW→Prop}:WO tab [] fr aw K=K fr aw:=by
 refine propext ⟨?_,fun h=>⟨_,_,.nil,h⟩⟩;rintro⟨_,_,h1,h2⟩;cases h1;exact h2
theorem Es {o:AOper}{K:Fr→AW→Prop}:WO tab (o::l) fr aw K=W1 tab o fr aw (fun v a=>WO tab l (OB fr o.dst v) a K):=by
 refine propext ⟨?_,?_⟩
 ·rintro⟨_,_,h1,h2⟩;cases h1;rename_i i1 i2;exact⟨_,_,i1,_,_,i2,h2⟩
 ·rintro⟨_,_,i1,_,_,i2,h2⟩;exact⟨_,_,.cons i1 i2,h2⟩
theorem JvL {K:List Stp→Fr→AW→Prop}:WD tab [] fr aw K=K [] fr aw:=by
 refine propext ⟨?_,fun h=>⟨_,_,_,.nil,h⟩⟩;rintro⟨_,_,_,h1,h2⟩;cases h1;exact h2
theorem M7 {d:DOper}{l:List DOper}{K:List Stp→Fr→AW→Prop}:WD tab (d::l) fr aw K=W1 tab d.op (Om fr d.hide) aw (fun v a=>WD tab l (OB fr d.op.dst v) a (fun st f w=>K (⟨Om fr d.hide,v,aw,a⟩::st) f w)):=by
 refine propext ⟨?_,?_⟩
 ·rintro⟨_,_,_,h1,h2⟩;cases h1;rename_i i1 i2;exact⟨_,_,i1,_,_,_,i2,h2⟩
 ·rintro⟨_,_,i1,_,_,_,i2,h2⟩;exact⟨_,_,_,.cons i1 i2,h2⟩
def WC (tab:Tab) (f:Nat) (args:List V) (aw:AW) (K:V→AW→Prop):Prop:=WF tab f args aw K∨∃v aw',tab.ext f args aw v aw'∧K v aw'
theorem WC.of {f:Nat}(h:WF tab f args aw K):WC tab f args aw K:=.inl h
def Jwn (tab:Tab) (r:Option (Res×AW)) (K:V→AW→Prop):Prop :=
 match r with
 | some (.val v,a)=>K v a
 | some (.skip,a)=>K .undef a
 | some (.call f args,a)=>WC tab f args a K
 | none=>False
def Jul (w:Option Bool) (A:Prop) (B:Prop):Prop :=
 match w with
 | some b=>bif b then A else B
 | none=>False
theorem CL {o:AOper}:W1 tab o fr aw K=Jul (wanted fr o.guard) (Jwn tab (aop o.op fr aw) K) (K .undef aw):=by
 refine propext ⟨?_,fun h=>?_⟩
 ·rintro⟨v,a,h1,h2⟩;cases h1 with
  | pass hw=>rw[hw];exact h2
  | val hw ha=>rw[hw,ha];exact h2
  | skip hw ha=>rw[hw,ha];exact h2
  | call hw ha hc=>rw[hw,ha];exact .inl ⟨_,_,hc,h2⟩
  | ext hw ha hc=>rw[hw,ha];exact .inr ⟨_,_,hc,h2⟩
 ·unfold Jul at h;split at h
  ·rename_i b hw;cases b with
   | true =>
    unfold Jwn at h;simp only[cond_true]at h;split at h
    ·rename_i ha;exact⟨_,_,.val hw ha,h⟩
    ·rename_i ha;exact⟨_,_,.skip hw ha,h⟩
    ·rename_i ha;rcases h with⟨v,a,h1,h2⟩|⟨v,a,h1,h2⟩
     ·exact⟨_,_,.call hw ha h1,h2⟩
     ·exact⟨_,_,.ext hw ha h1,h2⟩
    ·exact h.elim
   | false=>exact⟨_,_,.pass hw,h⟩
  ·exact h.elim
theorem Jup {f:Nat}{af:AFun}(hc:tab.code f=some af)(hn:args.length≤af.ntmps)(h:WX tab af.body (IY args 0) aw (fun e fr' aw'=>(e = .normal∨e = .ret)∧∃vs,Ox fr' aw' af.results=some vs∧K (Oy vs) aw')):WF tab f args aw K:=by
 obtain⟨e,fr',aw',h1,h2,vs,h3,h4⟩:=h;exact⟨_,_,.code hc hn h1 h2 h3,h4⟩
end
end Go.AE
