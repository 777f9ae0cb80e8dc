/- A part of the proof. -/
import Derived.Test.YtegdcbdicpfbpaaDoorJhL
import Derived.Test.YtegdcbdicpfbpaaDoorJhH
import Derived.Test.YtegdcbdicpfbpaaDoorJhJ
set_option linter.unusedVariables false
set_option maxRecDepth 10000
set_option linter.unusedSimpArgs false
namespace Go.AE
theorem Fb {p:Prop} (h:p:=by simp only [go_sem,HA,simprocAttr]<;>rfl):p:=h
theorem Fe {p:Prop} (h:p:=by simp only [go_sem,HA,simprocAttr];rfl):p:=h
theorem Ff {p:Prop} (h:p:=by simp only [go_sem,HA,simprocAttr]):p:=h
theorem Fg {α:Type} {a b c:α} (f:b=c) (h:a=b:=by first|(simp only [go_sem,HA,simprocAttr];done)|rfl):a=c:=h.trans f
end Go.AE
namespace Delphi
def JmW (rules:List Rl) (nm:List Nat):Prop:=∃r∈rules,r.head.name=nm
instance (rules:List Rl) (nm:List Nat):Decidable (JmW rules nm):=List.decidableBEx _ rules
end Delphi
namespace Go.Proofs.YtegdcbdicpfbpaaDoor
open Go.AE Delphi
variable {tab:Tab}
end Go.Proofs.YtegdcbdicpfbpaaDoor
namespace Delphi
structure RBr (r:Rl):Prop where
 head:r.head.args.length≤5
 body:r.body.length≤7
 args:∀l∈r.body,l.args.length≤5
theorem RBr.big {r:Rl}(h:RBr r):RBd r:=⟨by have:=h.head;omega,by have:=h.body;omega,fun l hl=>by have:=h.args l hl;omega⟩
end Delphi
namespace Go.Proofs.YtegdcbdicpfbpaaDoor
open Go.AE Delphi
variable {tab:Tab}
variable {s:List Nat} {K:V→AW→Prop}
theorem JoE (C:Codes tab){n:Nat}{aw:AW}(h:K (.str (s.take n)) aw):WF tab V0 [.str s,.int .i64 (Int.ofNat n)] aw K:=by
 refine HL C.YJ rfl ?_;by_cases hl:n<s.length
 ·have h1:n≤s.length:=Fh;refine Fz (by simp only[go_sem,HA,simprocAttr,Zf,hl,h1,Nat.zero_le,FY,Nat.sub_zero];rfl) ?_;refine HC ⟨_,by simp only[go_sem,HA,simprocAttr,Zf];rfl,?_⟩;exact h
 ·refine Fz (by simp only[go_sem,HA,simprocAttr,Zf,hl];rfl) ?_;refine HC ⟨_,by simp only[go_sem,HA,simprocAttr,Zf];rfl,?_⟩;rw[FW Fh]at h;exact h
theorem JlY (C:Codes tab){aw:AW}(hb:∀x∈s,x<256)(h:∀w v T rs,rs=(JaB (s.take 1200)).1→RdL (RlC T) T w v 4 rs→Frm (fun _=>False) aw w→(∀x,T x→aw.next≤x∧x<w.next)→K v w):WF tab VV [.str s] aw K:=by
 refine HL C.Yt rfl ?_;refine Fz (by simp only[go_sem,HA,simprocAttr,Ys,UB];rfl) ?_;refine HD Ff Fe ?_;refine JoE C (n:=1200) ?_;refine HB 1000 Fe ?_;refine HD Ff Fe ?_;refine Jjl C (by rw[FT];omega) (fun x hx=>hb x (List.mem_of_mem_take hx)) fun w v T h1 h2 h3=>?_;refine HB 1000 Fe ?_;refine HC ⟨_,by simp only[go_sem,HA,simprocAttr,Ys];rfl,?_⟩;exact h w v T _ rfl h1 h2 h3
section
open Go.AE Delphi Val
variable {tab:Tab}
theorem Jga {T:Fw}{w:AW}{v:V}{l:List Lt}(h:RdL (LtC T) T w v 3 l){i:Nat}{t:Lt}(hi:l[i]? = some t):∃b o c xs,v = .slice b o l.length c∧w.load b (o+i*3) 3=some xs∧LtC T w t xs:=by
 have hlt:i<l.length:=(List.getElem?_eq_some_iff.1 hi).1;obtain⟨xss,h1,h2⟩:=h;obtain⟨xs,h3,h4⟩:=Jgq (sz:=3) (fun a xs h=>h.one.1) h2 hi;rcases h1.inv with⟨_,q2,_⟩|⟨b,o,c,rfl,hB⟩
 ·omega
 ·refine⟨b,o,c,xs,rfl,?_,h3⟩;rw[hB.load (i*3) 3 Fh];exact congrArg some h4
end
section
open Go.AE Delphi Val
variable {tab:Tab}
end
section
open Go.AE Delphi Val
variable {tab:Tab}
abbrev Fc:=List Nat×List Tk
def FcC (T:Fw) (w:AW) (f:Fc) (xs:List V):Prop:=∃v,xs=[.str f.1,v]∧Rd T w v 3 f.2.length (Jb5 f.2)
variable {T:Fw} {w:AW} {xs:List V}
theorem FcC.frm {S:Fw}{w':AW}{f:Fc}(h:FcC T w f xs)(hf:Frm S w w')(hd:∀x,T x→¬S x):FcC T w' f xs:=by
 obtain⟨v,h1,h2⟩:=h;exact⟨v,h1,h2.frm hf hd⟩
theorem FcC.one {f:Fc}(h:FcC T w f xs):xs.length=2∧HM xs=true:=by
 obtain⟨v,rfl,h2⟩:=h;refine⟨rfl,?_⟩;rcases h2.inv with⟨rfl,_⟩|⟨_,_,_,rfl,_⟩<;>rfl
abbrev Fcs (T:Fw) (w:AW) (v:V) (l:List Fc):Prop:=RdL (FcC T) T w v 2 l
variable {v:V} {l:List Fc}
theorem Fcs.frm {S:Fw}{w':AW}(h:Fcs T w v l)(hf:Frm S w w')(hd:∀x,T x→¬S x):Fcs T w' v l:=RdL.frm h (fun _ _ h=>h.frm hf hd) hf hd
theorem Fcs.lenV (h:Fcs T w v l):lenV v=some l.length:=by obtain⟨_,h,_⟩:=h;exact h.lenV
theorem Jf0 (h:Fcs T w v l){i:Nat}{t:Fc}(hi:l[i]? = some t):∃b o c xv,v = .slice b o l.length c∧T b∧b<w.next∧w.load b (o+i*2) 2=some [.str t.1,xv]∧w.load b (o+i*2) 1=some [.str t.1]∧w.load b (o+i*2+1) 1=some [xv]∧Rd T w xv 3 t.2.length (Jb5 t.2):=by
 have hlt:i<l.length:=(List.getElem?_eq_some_iff.1 hi).1;rcases RdL.inv h (fun a xs h=>h.one.1)with⟨_,rfl⟩|⟨b,o,c,rfl,h1,h2,_,hat⟩
 ·simp at hlt
 ·obtain⟨xs,hx,hl⟩:=hat i t hi;obtain⟨xv,rfl,hx⟩:=hx;exact⟨b,o,c,xv,rfl,h1,h2,hl 0 2 Fh,hl 0 1 Fh,hl 1 1 Fh,hx⟩
end
section
open Go.AE Delphi Val
variable {tab:Tab}
abbrev Bn:=List Nat×Tk
def bnC (b:Bn):List V:=.str b.1::tkC b.2
def JhG (l:List Bn):List V:=l.flatMap bnC
def P4 (k:Nat) (a b:Tk):Bool:=if k=3 then P0 a b else if k=4 then !P0 a b else if k=5 then PR a b else !PR b a
theorem Jmg (C:Codes tab){k:Nat}{a b:Tk}{aw:AW}(h:∀w,Frm (fun _=>False) aw w→K (.bool (P4 k a b)) w):WF tab VY [.int .i64 (Int.ofNat k),.agg (tkC a),.agg (tkC b)] aw K:=by
 refine HL C.YG rfl ?_;obtain⟨w1,e1,c1,r1,m1⟩:=PU aw (tkC a);obtain⟨w2,e2,c2,r2,m2⟩:=PU w1 (tkC b);have c1:=c1.frm r2 fun h=>h;have f02:=r1.tr r2;have a3:w2.load aw.next 0 3=some (tkC a):=c1.all rfl;have b3:w2.load w1.next 0 3=some (tkC b):=c2.all rfl;have hc1:V.cells (.agg (tkC a))=tkC a:=rfl;have hc2:V.cells (.agg (tkC b))=tkC b:=rfl;by_cases h3:k=3
 ·subst h3;have e:P4 3 a b=P0 a b:=rfl;rw[e]at h;have hk3:(Int.ofNat 3==(3:Int))=true:=rfl;refine Fz (by simp only[go_sem,HA,simprocAttr,Jv,US,hc1,hc2,e1,e2,a3,b3,hk3];rfl) ?_;refine HD Ff Fe ?_;refine Jmf C fun w3 g3=>?_;refine HB 1000 Fe ?_;refine HC ⟨_,by simp only[go_sem,HA,simprocAttr,Jv];rfl,?_⟩;exact h w3 (f02.tr g3)
 by_cases h4:k=4
 ·subst h4;have e:P4 4 a b = !P0 a b:=rfl;rw[e]at h;refine Fz (by simp only[go_sem,HA,simprocAttr,Jv,YF,UR,hc1,hc2,e1,e2,a3,b3];rfl) ?_;refine HD Ff Fe ?_;refine Jmf C fun w3 g3=>?_;have h:=h w3 (f02.tr g3);refine HB 1000 Fe ?_;refine HC ⟨_,by simp only[go_sem,HA,simprocAttr,Jv];rfl,?_⟩;exact h
 by_cases h5:k=5
 ·subst h5;have e:P4 5 a b=PR a b:=rfl;rw[e]at h;refine Fz (by simp only[go_sem,HA,simprocAttr,Jv,YF,WQ,UQ,hc1,hc2,e1,e2,a3,b3];rfl) ?_;refine HD Ff Fe ?_;refine Jiy C fun w3 g3=>?_;refine HB 1000 Fe ?_;refine HC ⟨_,by simp only[go_sem,HA,simprocAttr,Jv];rfl,?_⟩;exact h w3 (f02.tr g3)
 have e:P4 k a b = !PR b a:=by unfold P4;rw[if_neg h3,if_neg h4,if_neg h5]
 rw[e]at h;refine Fz (by simp only[go_sem,HA,simprocAttr,Jv,YF,WQ,UT,hc1,hc2,e1,e2,a3,b3,h3,h4,h5];rfl) ?_;refine HD Ff Fe ?_;refine Jiy C fun w3 g3=>?_;have h:=h w3 (f02.tr g3);refine HB 1000 Fe ?_;refine HC ⟨_,by simp only[go_sem,HA,simprocAttr,Jv];rfl,?_⟩;exact h
end
section
open Go.AE Delphi Val
variable {tab:Tab}
end
section
open Go.AE Delphi Val
variable {tab:Tab}
theorem Fcs.mono {T T':Fw}{w:AW}{v:V}{l:List Fc}(h:Fcs T w v l)(ht:∀x,T x→T' x):Fcs T' w v l:=by
 obtain⟨xss,h1,h2⟩:=h;refine⟨xss,h1.mono ht,All2.imp (fun a xs h=>?_) h2⟩;obtain⟨xv,q1,q2⟩:=h;exact⟨xv,q1,q2.mono ht⟩
theorem JdO {α β:Type}{r q:α→β→Prop}{l:List α}{m:List β}(h:All2 r l m)(hq:∀a b,r a b→q a b):All2 q l m:=All2.imp hq h
end
section
open Go.AE Delphi Val
variable {tab:Tab}
end
section
open Go.AE Delphi Val
variable {tab:Tab}
structure WysB (N:Nat) (w:AW) (v:V) (ways:List (List Bn)) (S T:Fw) (cs:List V):Prop where
 b:Buf S w v 1 ways.length cs
 len:cs.length=ways.length
 at':∀(i:Nat) x bs,cs[i]? = some x→ways[i]? = some bs→Rd T w x 4 bs.length (JhG bs)
 s:∀x,S x→N≤x∧x<w.next
 t:∀x,T x→N≤x∧x<w.next∧¬S x
def Wys (N:Nat) (w:AW) (v:V) (ways:List (List Bn)):Prop:=∃S T cs,WysB N w v ways S T cs
variable {N:Nat} {w:AW} {v:V} {ways:List (List Bn)}
theorem Wys.frm {w':AW}(h:Wys N w v ways)(g:Frm (fun _=>False) w w'):Wys N w' v ways:=by
 obtain⟨S,T,cs,h⟩:=h;have n:=g.next;exact⟨S,T,cs,h.b.frm g fun _ _ h=>h,h.len,fun i x bs h1 h2=>(h.at' i x bs h1 h2).frm g fun _ _ h=>h,fun x hx=>⟨(h.s x hx).1,by have:=(h.s x hx).2;omega⟩,fun x hx=>⟨(h.t x hx).1,by have:=(h.t x hx).2.1;omega,(h.t x hx).2.2⟩⟩
theorem Wys.lenV (h:Wys N w v ways):lenV v=some ways.length:=by
 obtain⟨S,T,cs,h⟩:=h;exact h.b.lenV
theorem Wys.nil:Wys N w .nilslice []:=⟨fun _=>False,fun _=>False,[],.nil,rfl,fun i x bs h=>by simp at h,fun _ h=>h.elim,fun _ h=>h.elim⟩
variable {bs:List Bn}
theorem Wys.at (h:Wys N w v ways){i:Nat}(hi:ways[i]? = some bs):∃b o c bv T,v = .slice b o ways.length c∧w.load b (o+i*1) 1=some [bv]∧Rd T w bv 4 bs.length (JhG bs):=by
 obtain⟨S,T,cs,h⟩:=h;have hlt:i<ways.length:=(List.getElem?_eq_some_iff.1 hi).1;have hlc:i<cs.length:=by rw[h.len];exact hlt
 have hb:=h.b;rcases hb.inv with⟨_,h0,_⟩|⟨b,rfl,_⟩
 ·omega
 ·exact⟨b,0,_,cs[i],T,rfl,hb.load1 (FB hlc),h.at' i _ _ (FB hlc) hi⟩
theorem JpH {T:Fw}{esz n:Nat}{cs:List V}(h:Rd T w v esz n cs):v.one=true∧v.cells=[v]:=by
 rcases h.inv with⟨rfl,_⟩|⟨_,_,_,rfl,_⟩<;>exact⟨rfl,rfl⟩
theorem Wys.push {wa:AW}{bv:V}{Tb:Fw}(h:Wys N wa v ways)(g:Frm (fun _=>False) wa w)(hb:Rd Tb w bv 4 bs.length (JhG bs))(hT:∀x,Tb x→wa.next≤x∧x<w.next)(hN:N≤wa.next)(hl:ways.length≤1000000): ∃v' w',(w.fresh [bv]).appendV 1 24 v 1 [bv]=some (v',w')∧Wys N w' v' (ways++[bs])∧Frm (fun x=>N≤x) w w':=by
 obtain⟨S,T,cs,h⟩:=h;have n:=g.next;obtain⟨v',w',S',q1,q2,q3,q4⟩:=(h.b.frm g fun _ _ h=>h).push (news:=[bv]) (bytes:=24) (fun x hx=>by have:=(h.s x hx).2;omega) Fh rfl (by simp only[HM,(JpH hb).1]) Fh Fh;have n':=q3.next;have hS':∀x,S' x→S x∨w.next≤x:=fun x hx=>(q4 x hx).2;refine⟨v',w',q1,⟨S',fun x=>T x∨Tb x,cs++[bv],by rw[FE];exact q2,by rw[FE,FE,h.len];rfl,?_,fun x hx=>?_,fun x hx=>?_⟩,q3.mono fun x _ hx=>(h.s x hx).1⟩
 ·intro i x bs' h1 h2;by_cases hi:i<cs.length
  ·rw[F4 hi]at h1;rw[F4 (by rw[←h.len];exact hi)]at h2;exact (((h.at' i x bs' h1 h2).frm g fun _ _ h=>h).frm q3 fun y hy hs=>(h.t y hy).2.2 hs).mono fun y hy=> .inl hy
  ·have hic:i=cs.length:=by
    have:=(List.getElem?_eq_some_iff.1 h1).1;rw[FE]at this;simp at this;omega
   subst hic;rw[F3 (FH _),Nat.sub_self]at h1;rw[h.len,F3 (FH _),Nat.sub_self]at h2;simp only[Ke,FP]at h1 h2;subst h1 h2;exact (hb.frm q3 fun y hy hs=>by have:=(h.s y hs).2;have:=(hT y hy).1;omega).mono fun y hy=> .inr hy
 ·refine⟨?_,(q4 x hx).1⟩;rcases hS' x hx with h1|h1
  ·exact (h.s x h1).1
  ·omega
 ·rcases hx with hx|hx
  ·refine⟨(h.t x hx).1,by have:=(h.t x hx).2.1;omega,fun hs=>?_⟩;rcases hS' x hs with h1|h1
   ·exact (h.t x hx).2.2 h1
   ·have:=(h.t x hx).2.1;omega
  ·refine⟨by have:=(hT x hx).1;omega,by have:=(hT x hx).2;omega,fun hs=>?_⟩;rcases hS' x hs with h1|h1
   ·have:=(h.s x h1).2;have:=(hT x hx).1;omega
   ·have:=(hT x hx).2;omega
theorem PK {α:Type}{l:List α}{i:Nat}{t:α}(h:l[i]? = some t):l.take (i+1)=l.take i++[t]:=by rw[List.take_add_one,h];rfl
end
section
open Go.AE Delphi Val
variable {tab:Tab}
def WysR (w:AW) (v:V) (ways:List (List Bn)):Prop:=∃T cs,Rd T w v 1 ways.length cs∧(cs.length=ways.length)∧∀(i:Nat) x bs,cs[i]? = some x→ways[i]? = some bs→Rd T w x 4 bs.length (JhG bs)
variable {w:AW} {v:V} {ways:List (List Bn)}
theorem Wys.r {N:Nat}(h:Wys N w v ways):WysR w v ways:=by
 obtain⟨S,T,cs,h⟩:=h;exact⟨fun x=>S x∨T x,cs,h.b.rd.mono fun x hx=> .inl hx,h.len,fun i x bs h1 h2=>(h.at' i x bs h1 h2).mono fun y hy=> .inr hy⟩
theorem WysR.frm {w':AW}(h:WysR w v ways)(g:Frm (fun _=>False) w w'):WysR w' v ways:=by
 obtain⟨T,cs,h1,h2,h3⟩:=h;exact⟨T,cs,h1.frm g fun _ _ h=>h,h2,fun i x bs q1 q2=>(h3 i x bs q1 q2).frm g fun _ _ h=>h⟩
theorem WysR.lenV (h:WysR w v ways):lenV v=some ways.length:=by
 obtain⟨T,cs,h,_⟩:=h;exact h.lenV
theorem WysR.at (h:WysR w v ways){i:Nat}{bs:List Bn}(hi:ways[i]? = some bs):∃b o c bv T,v = .slice b o ways.length c∧w.load b (o+i*1) 1=some [bv]∧Rd T w bv 4 bs.length (JhG bs):=by
 obtain⟨T,cs,h1,h2,h3⟩:=h;have hlt:i<ways.length:=(List.getElem?_eq_some_iff.1 hi).1;have hlc:i<cs.length:=by rw[h2];exact hlt
 rcases h1.inv with⟨_,h0,_⟩|⟨b,o,c,rfl,hB⟩
 ·omega
 ·refine⟨b,o,c,cs[i],T,rfl,?_,h3 i _ _ (FB hlc) hi⟩;rw[Kz];exact hB.cell Fh (FB hlc)
end
section
open Go.AE Delphi Val
variable {tab:Tab}
end
end Go.Proofs.YtegdcbdicpfbpaaDoor
namespace Go.Proofs.YtegdcbdicpfbpaaDoor.Rel
open Go.AE
variable {tab:Tab}
def Jbj (a b:Int):Int:=if a<b then -1 else if b<a then 1 else 0
def Pa:List Int→List Int→Int
 | [],[]=>0
 | [],_::_=>-1
 | _::_,[]=>1
 | a::l,b::m=>if Jbj a b=0 then Pa l m else Jbj a b
def rowC (l:List Int):List V:=l.map (V.int .i64)
inductive RowV (T:Nat→Prop) (w:AW):V→List Int→Prop
 | nil:RowV T w .nilslice []
 | blk {b n:Nat} {c:Cap} {l:List Int} {sh:Share} (hT:T b) (hb:b<w.next) (hx:w.heap.get b=some (.cells (rowC l) sh)) (ha:Al T w b sh) (hn:l.length=n):RowV T w (.slice b 0 n c) l
variable {T:Fw} {w:AW} {v:V} {l:List Int}
theorem RowV.mono {T':Fw}(h:RowV T w v l)(hs:∀x,T x→T' x):RowV T' w v l:=by
 cases h with
 | nil=>exact .nil
 | blk hT hb hx ha hn=>exact .blk (hs _ hT) hb hx (ha.mono hs) hn
theorem RowV.frm {S:Fw}{w':AW}(h:RowV T w v l)(hf:Frm S w w')(hd:∀x,T x→¬S x):RowV T w' v l:=by
 cases h with
 | nil=>exact .nil
 | blk hT hb hx ha hn=>exact .blk hT (FK hb hf.next) ((hf.heap _ hb (hd _ hT)).trans hx) (ha.frm hf hd) hn
theorem RowV.inv (h:RowV T w v l):(v = .nilslice∧l=[])∨∃b c,v = .slice b 0 l.length c∧T b∧b<w.next∧∃sh,w.heap.get b=some (.cells (rowC l) sh)∧Al T w b sh:=by
 cases h with
 | nil=>exact .inl ⟨rfl,rfl⟩
 | blk hT hb hx ha hn=>subst hn;exact .inr ⟨_,_,rfl,hT,hb,_,hx,ha⟩
theorem row_load {b i:Nat}{x:Int}(hx:∃sh,w.heap.get b=some (.cells (rowC l) sh)∧Al T w b sh)(hi:l[i]? = some x):w.load b (0+i*1) 1=some [.int .i64 x]:=by
 obtain⟨sh,hx,ha⟩:=hx;have hlt:i<l.length:=(List.getElem?_eq_some_iff.1 hi).1
 have e:(rowC l).drop i = .int .i64 x::(rowC l).drop (i+1):=by
  rw[FL (by simpa[rowC]using hlt)];rw[FB hlt]at hi;simp only[rowC,List.getElem_map,FX hi]
 simp only[AW.load,hx,ha.alive,FU,Kz,e,HN]
variable {a:Int} {aw:AW} {K:V→AW→Prop}
theorem Jie (C:Codes tab)(h:K (.bool false) aw):WF tab WG [.int .i64 a] aw K:=by
 refine HL C.Wb rfl ?_;have e:(a != a)=false:=Fj;refine Fz (by simp only[go_sem,HA,simprocAttr,Wa,e];rfl) ?_;refine HC ⟨_,by simp only[go_sem,HA,simprocAttr,Wa];rfl,?_⟩;exact h
theorem Jkg (C:Codes tab){b:Int}(h:K (.int .i64 (Jbj a b)) aw):WF tab Un [.int .i64 a,.int .i64 b] aw K:=by
 refine HL C.X3 rfl ?_;refine Fz (by simp only[go_sem,HA,simprocAttr,Zw];rfl) ?_;refine HD Ff Fe ?_;refine Jie C ?_;refine HB 1000 Fe ?_;refine HD Ff Fe ?_;refine Jie C ?_;by_cases h1:a<b
 ·rw[show Jbj a b = -1 from if_pos h1]at h;refine Fz (by simp only[go_sem,HA,simprocAttr,h1];rfl) ?_;refine HC ⟨_,by simp only[go_sem,HA,simprocAttr,Zw];rfl,?_⟩;exact h
 ·by_cases h2:b<a
  ·rw[show Jbj a b=1 from by rw[Jbj,if_neg h1,if_pos h2]]at h;have h3:a>b:=h2;refine Fz (by simp only[go_sem,HA,simprocAttr,h1,h3];rfl) ?_;refine HC ⟨_,by simp only[go_sem,HA,simprocAttr,Zw];rfl,?_⟩;exact h
  ·rw[show Jbj a b=0 from by rw[Jbj,if_neg h1,if_neg h2]]at h;have h3:¬a>b:=h2;refine Fz (by simp only[go_sem,HA,simprocAttr,h1,h3];rfl) ?_;refine HC ⟨_,by simp only[go_sem,HA,simprocAttr,Zw];rfl,?_⟩;exact h
theorem JhO:∀(l:List Int),Pa l []=if 0<l.length then 1 else 0
 | []=>rfl
 | _::_=>rfl
variable {l1 l2:List Int}
theorem JlA {i:Nat}{b:Int}(h1:l1[i]? = some a)(h2:l2[i]? = some b):Pa (l1.drop i) (l2.drop i)=if Jbj a b=0 then Pa (l1.drop (i+1)) (l2.drop (i+1))else Jbj a b:=by
 have k1:i<l1.length:=(List.getElem?_eq_some_iff.1 h1).1;have k2:i<l2.length:=(List.getElem?_eq_some_iff.1 h2).1;rw[FL k1,FL k2];rw[FB k1]at h1;rw[FB k2]at h2;rw[FX h1,FX h2];rfl
def Jp9 (v1 v2:V) (l1 l2:List Int) (aw:AW) (q:Nat) (f:Fr) (w:AW):Prop :=
 ∃i,f.get 1=some v2∧f.get 9=some v1∧f.get 0=some v1∧f.get 10=some (.int .i64 (Int.ofNat l1.length))∧f.get 11=some (.int .i64 (Int.ofNat i))∧w=aw∧Pa l1 l2=Pa (l1.drop i) (l2.drop i)∧i≤l1.length∧i≤l2.length∧q=l1.length-i
theorem JlC (C:Codes tab){U:Fw}{v1 v2:V}(r1:RowV T aw v1 l1)(r2:RowV U aw v2 l2)(hl1:l1.length≤1000)(hl2:l2.length≤1000)(h:K (.int .i64 (Pa l1 l2)) aw):WF tab Ui [v1,v2] aw K:=by
 refine HL C.XJ rfl ?_;rcases r1.inv with⟨rfl,rfl⟩|⟨b1,c1,rfl,_,_,hx1⟩
 ·rcases r2.inv with⟨rfl,rfl⟩|⟨b2,c2,rfl,_,_,hx2⟩
  ·refine Fz (by simp only[go_sem,HA,simprocAttr,Jd];rfl) ?_;refine Jay ?_;refine Fz (by simp only[go_sem,HA,simprocAttr,JB];rfl) ?_;refine HC ⟨_,by simp only[go_sem,HA,simprocAttr,Jd];rfl,?_⟩;exact h
  ·refine Fz (by simp only[go_sem,HA,simprocAttr,Jd];rfl) ?_;refine Jay ?_;cases l2 with
   | nil =>
    refine Fz (by simp only[go_sem,HA,simprocAttr,JB,FD];rfl) ?_;refine HC ⟨_,by simp only[go_sem,HA,simprocAttr,Jd];rfl,?_⟩;exact h
   | cons x l2 =>
    have e:0<(x::l2).length:=Fj;refine Fz (by simp only[go_sem,HA,simprocAttr,JB,e];rfl) ?_;refine HC ⟨_,by simp only[go_sem,HA,simprocAttr,Jd];rfl,?_⟩;exact h
 rcases r2.inv with⟨rfl,rfl⟩|⟨b2,c2,rfl,_,_,hx2⟩
 ·rw[JhO]at h;cases l1 with
  | nil =>
   refine Fz (by simp only[go_sem,HA,simprocAttr,Jd,FD];rfl) ?_;refine Jay ?_;refine Fz (by simp only[go_sem,HA,simprocAttr,JB,FD];rfl) ?_;refine HC ⟨_,by simp only[go_sem,HA,simprocAttr,Jd];rfl,?_⟩;exact h
  | cons x l1 =>
   have e:0<(x::l1).length:=Fj;rw[if_pos e]at h;refine Fz (by simp only[go_sem,HA,simprocAttr,Jd];rfl) ?_;refine Jay ?_;have e1:=row_load hx1 (i:=0) (x:=x) rfl;refine Fz (by simp only[go_sem,HA,simprocAttr,JB,XI,e,e1];rfl) ?_;refine HC ⟨_,by simp only[go_sem,HA,simprocAttr,Jd];rfl,?_⟩;exact h
 refine Fz (by simp only[go_sem,HA,simprocAttr,Jd];rfl) ?_;refine JaH (Jp9 _ _ l1 l2 aw) ?_ l1.length ⟨0,Fb,Fb,Fb,Fb,Fb,rfl,by simp,by omega,by omega,by omega⟩;rintro q f w ⟨i,f1,f9,f0,f10,f11,rfl,hc,hi1,hi2,rfl⟩ ih;by_cases hlt:i<l1.length
 ·have g1:l1[i]? = some l1[i]:=FB hlt;have e1:=row_load hx1 g1;by_cases hlt2:l2.length≤i
  ·have e2:Pa l1 l2=1:=by
    rw[hc,List.drop_eq_nil_of_le hlt2,JhO,if_pos (by rw[Kh];omega)]
   rw[e2]at h;refine Fz (by simp only[go_sem,HA,simprocAttr,JB,XI,f1,f9,f10,f11,hlt,hlt2,e1];rfl) ?_;refine HC ⟨_,by simp only[go_sem,HA,simprocAttr,Jd];rfl,?_⟩;exact h
  ·have hlt3:i<l2.length:=Fh;have g2:l2[i]? = some l2[i]:=FB hlt3;have e2:=row_load hx2 g2;refine Fz (by simp only[go_sem,HA,simprocAttr,JB,XI,f1,f9,f10,f11,hlt,hlt2,hlt3,e1,e2];rfl) ?_;refine HD Ff Fe ?_;refine Jkg C ?_;rw[JlA g1 g2]at hc;by_cases hz:Jbj l1[i] l2[i]=0
   ·rw[if_pos hz]at hc;rw[hz];have hwr:IntKind.wrap .i64 (Int.ofNat i+1)=Int.ofNat (i+1):=HJ Fh;have z0:((0:Int) != 0)=false:=rfl;refine Fz (by simp only[go_sem,HA,simprocAttr,z0,f0,f1,f9,f10,f11,hwr];rfl) ?_;exact ih _ _ _ Fh ⟨i+1,(Fg f1),(Fg f9),(Fg f0),(Fg f10),Fb,rfl,hc,by omega,by omega,rfl⟩
   ·rw[if_neg hz]at hc;rw[hc]at h;have z0:(Jbj l1[i] l2[i] != 0)=true:=by simp[hz]
    refine Fz (by simp only[go_sem,HA,simprocAttr,z0,f0,f1,f9,f10,f11];rfl) ?_;refine HC ⟨_,by simp only[go_sem,HA,simprocAttr,Jd];rfl,?_⟩;exact h
 ·have hie:i=l1.length:=Fh
  have hc2:Pa l1 l2=if l1.length<l2.length then -1 else 0:=by
   rw[hc,List.drop_eq_nil_of_le (by omega:l1.length≤i)];by_cases h2:l1.length<l2.length
   ·rw[if_pos h2,hie,FL h2];rfl
   ·rw[if_neg h2,List.drop_eq_nil_of_le Fh];rfl
  rw[hc2]at h;by_cases h2:l1.length<l2.length
  ·rw[if_pos h2]at h;refine Fz (by simp only[go_sem,HA,simprocAttr,JB,f0,f1,f9,f10,f11,hlt,h2];rfl) ?_;refine HC ⟨_,by simp only[go_sem,HA,simprocAttr,Jd];rfl,?_⟩;exact h
  ·rw[if_neg h2]at h;refine Fz (by simp only[go_sem,HA,simprocAttr,JB,f0,f1,f9,f10,f11,hlt,h2];rfl) ?_;refine HC ⟨_,by simp only[go_sem,HA,simprocAttr,Jd];rfl,?_⟩;exact h
theorem JhX (C:Codes tab){U:Fw}{v1 v2:V}(r1:RowV T aw v1 l1)(r2:RowV U aw v2 l2)(hl1:l1.length≤1000)(hl2:l2.length≤1000)(h:K (.int .i64 (Pa l1 l2)) aw):WF tab Yi [v1,v2] aw K:=by
 refine HL C.XH rfl ?_;refine Fz (by simp only[go_sem,HA,simprocAttr,XG];rfl) ?_;refine HD Ff Fe ?_;refine JlC C r1 r2 hl1 hl2 ?_;refine HB 1000 Fe ?_;refine HC ⟨_,by simp only[go_sem,HA,simprocAttr,XG];rfl,?_⟩;exact h
section
open Go.AE
variable {tab:Tab}
variable {b:Int}
theorem cmpI_zero:Jbj a b=0↔a=b:=by
 unfold Jbj;split
 ·constructor<;>intro h<;>omega
 ·split
  ·constructor<;>intro h<;>omega
  ·constructor<;>intro h<;>omega
theorem JmY:Jbj a b<0↔a<b:=by
 unfold Jbj;split
 ·constructor<;>intro h<;>omega
 ·split
  ·constructor<;>intro h<;>omega
  ·constructor<;>intro h<;>omega
theorem Jez {m:List Int}:Pa (a::l) (b::m)<0↔a<b∨(a=b∧Pa l m<0):=by
 simp only[Pa];by_cases h:Jbj a b=0
 ·rw[if_pos h];have:=cmpI_zero.1 h;constructor
  ·intro h';exact .inr ⟨this,h'⟩
  ·rintro (h'|h')
   ·omega
   ·exact h'.2
 ·rw[if_neg h,JmY];constructor
  ·exact .inl
  ·rintro (h'|h')
   ·exact h'
   ·exact absurd (cmpI_zero.2 h'.1) h
theorem Jb0:∀{a b c:List Int},Pa a b<0→Pa b c<0→Pa a c<0
 | a,b,[],h1,h2=>by cases b<;>simp[Pa]at h2
 | [],b,_::_,h1,h2=>by simp[Pa]
 | x::a,[],_::_,h1,h2=>by simp[Pa]at h1
 | x::a,y::b,z::c,h1,h2=>by
  rw[Jez]at h1 h2 ⊢;rcases h1 with h1|⟨h1,h1'⟩<;>rcases h2 with h2|⟨h2,h2'⟩
  ·left;omega
  ·left;omega
  ·left;omega
  ·right;exact⟨by omega,Jb0 h1' h2'⟩
theorem cmpL_zero:∀{a b:List Int},Pa a b=0↔a=b
 | [],[]=>by simp[Pa]
 | [],_::_=>by simp[Pa]
 | _::_,[]=>by simp[Pa]
 | x::a,y::b=>by
  simp only[Pa];by_cases h:Jbj x y=0
  ·rw[if_pos h,cmpL_zero];have:=cmpI_zero.1 h;subst this;simp
  ·rw[if_neg h];have:x≠y:=fun e=>h (cmpI_zero.2 e);simp[h,this]
theorem JfX:∀{a b:List Int},Pa a b<0∨a=b∨Pa b a<0
 | [],[]=>by simp
 | [],_::_=>by simp[Pa]
 | _::_,[]=>by simp[Pa]
 | x::a,y::b=>by
  rw[Jez,Jez];rcases JfX (a:=a) (b:=b)with h|h|h
  ·by_cases e:x=y
   ·exact .inl (.inr ⟨e,h⟩)
   ·by_cases e2:x<y
    ·exact .inl (.inl e2)
    ·exact .inr (.inr (.inl Fh))
  ·by_cases e:x=y
   ·exact .inr (.inl (by rw[e,h]))
   ·by_cases e2:x<y
    ·exact .inl (.inl e2)
    ·exact .inr (.inr (.inl Fh))
  ·by_cases e:x=y
   ·exact .inr (.inr (.inr ⟨e.symm,h⟩))
   ·by_cases e2:x<y
    ·exact .inl (.inl e2)
    ·exact .inr (.inr (.inl Fh))
theorem JlB {a:List Int}:¬Pa a a<0:=by rw[cmpL_zero.2 rfl];omega
abbrev Rise (rows:Fy):Prop:=rows.Pairwise fun a b=>Pa a b<0
def posn (rows:Fy) (r:List Int):Nat:=(rows.takeWhile fun x=>decide (Pa x r<0)).length
theorem Jgx (rows:Fy)(r:List Int):posn rows r≤rows.length:=(List.takeWhile_sublist _).length_le
theorem JjS:∀{rows:Fy} {r:List Int} {i:Nat},i≤rows.length→(∀(j:Nat) x,j<i→rows[j]? = some x→Pa x r<0)→(∀x,rows[i]? = some x→¬Pa x r<0)→posn rows r=i
 | [],r,i,hi,h1,h2=>by simp[posn];simp at hi;omega
 | x::rows,r,0,hi,h1,h2=>by
  have:=h2 x rfl;simp[posn,this]
 | x::rows,r,i+1,hi,h1,h2=>by
  have hx:=h1 0 x Fh rfl;have:=JjS (rows:=rows) (r:=r) (i:=i) (by simpa using hi) (fun j y hj hy=>h1 (j+1) y Fh (by simpa using hy)) (fun y hy=>h2 y (by simpa using hy));simp only[posn,List.takeWhile_cons,hx,decide_true,if_true,FC]at this ⊢;rw[this]
variable {rows:Fy} {r:List Int}
theorem JnA (hr:Rise rows){i:Nat}(hi:i≤rows.length)(h1:∀(j:Nat) x,j<i→rows[j]? = some x→Pa x r<0)(h2:∀x,rows[i]? = some x→¬Pa x r<0):(r∈rows)↔rows[i]? = some r:=by
 constructor
 ·intro hm;obtain⟨k,hk,e⟩:=List.mem_iff_getElem.1 hm;have e':rows[k]? = some r:=by rw[FB hk,e]
  have a1:¬k<i:=fun hlt=>JlB (h1 k r hlt e');rcases KD i k with a2|a2
  ·have hi':i<rows.length:=Fh;have:=List.pairwise_iff_getElem.1 hr i k hi' hk a2;rw[e]at this;exact absurd this (h2 _ (FB hi'))
  ·have:k=i:=Fh;rw[←this];exact e'
 ·intro h;exact FI h
def RowsV (T:Fw) (w:AW) (cs:List V) (rows:Fy):Prop:=cs.length=rows.length∧∀(i:Nat) v l,cs[i]? = some v→rows[i]? = some l→RowV T w v l
variable {cs:List V}
theorem RowsV.mono {T':Fw}(h:RowsV T w cs rows)(hs:∀x,T x→T' x):RowsV T' w cs rows:=⟨h.1,fun i v l h1 h2=>(h.2 i v l h1 h2).mono hs⟩
theorem RowsV.frm {S:Fw}{w':AW}(h:RowsV T w cs rows)(hf:Frm S w w')(hd:∀x,T x→¬S x):RowsV T w' cs rows:=⟨h.1,fun i v l h1 h2=>(h.2 i v l h1 h2).frm hf hd⟩
theorem RowsV.at (h:RowsV T w cs rows){i:Nat}(hi:rows[i]? = some l):∃v,cs[i]? = some v∧RowV T w v l:=by
 have hlt:i<cs.length:=by rw[h.1];exact (List.getElem?_eq_some_iff.1 hi).1
 exact⟨cs[i],FB hlt,h.2 i _ _ (FB hlt) hi⟩
theorem JnY {n:Nat}(h:n<18446744073709551616):IntKind.wrap .u64 (Int.ofNat n)=Int.ofNat n:=by
 have e:Int.ofNat n=(n:Int):=rfl;have h1:IntKind.wrap .u64 (Int.ofNat n)=(Int.ofNat n) % 18446744073709551616:=by simp[IntKind.wrap,IntKind.bits,IntKind.signed]
 rw[h1,e];omega
theorem JoU {n:Nat}:JdE .shr .u64 (Int.ofNat n) 1=some (.int .u64 (Int.ofNat (n / 2))):=by
 have e:(Int.ofNat n).fdiv (2 ^ (min (1:Int).toNat (IntKind.bits .u64)))=Int.ofNat (n / 2):=by
  show Int.fdiv (n:Int) 2=((n / 2:Nat):Int);rw[Int.fdiv_eq_ediv_of_nonneg _ Fh];omega
 simp only[JdE,e];rfl
def Jp8 (n:Nat) (rows:Fy) (lv rv:V) (r:List Int) (aw:AW) (q:Nat) (f:Fr) (w:AW):Prop :=
 ∃i j,f.get 0=some lv∧f.get 1=some rv∧f.get 2=some (.func (.func Yi) [] [])∧f.get 8=some (.int .i64 (Int.ofNat n))∧f.get 9=some (.int .i64 (Int.ofNat i))∧f.get 10=some (.int .i64 (Int.ofNat j))∧w=aw∧i≤j∧j≤n∧q=j-i∧
  (∀(k:Nat) x,k<i→rows[k]? = some x→Pa x r<0)∧(∀(k:Nat) x,j≤k→rows[k]? = some x→¬Pa x r<0)
theorem Jhb (C:Codes tab){S U:Fw}{lv rv:V}(hb:Buf S aw lv 1 rows.length cs)(hv:RowsV T aw cs rows)(hr:RowV U aw rv r)(hrise:Rise rows)(hn:rows.length≤1000000)(hlen:∀x∈rows,x.length≤1000)(hlr:r.length≤1000)(h:K (.tuple [.int .i64 (Int.ofNat (posn rows r)),.bool (decide (r∈rows))]) aw):WF tab Uh [lv,rv,.func (.func Yi) [] []] aw K:=by
 refine HL C.XF rfl ?_;rcases hb.inv with⟨rfl,h0,hc⟩|⟨b,rfl,_,_⟩
 ·have:rows=[]:=List.length_eq_zero_iff.1 h0;subst this;refine Fz (by simp only[go_sem,HA,simprocAttr,J6];rfl) ?_;refine Jay ?_;refine Fz (by simp only[go_sem,HA,simprocAttr,Z6];rfl) ?_;refine HC ⟨_,by simp only[go_sem,HA,simprocAttr,J6];rfl,?_⟩;have e:posn [] r=0:=rfl;have e2:decide (r∈([]:Fy))=false:=Fj;rw[e,e2]at h;exact h
 refine Fz (by simp only[go_sem,HA,simprocAttr,J6];rfl) ?_;refine JaH (Jp8 rows.length rows (.slice b 0 rows.length (.upTo 1)) rv r aw) ?_ rows.length ⟨0,rows.length,Fb,Fb,Fb,Fb,Fb,Fb,rfl,by omega,by omega,by omega,?_,?_⟩
 ·rintro q f w ⟨i,j,f0,f1,f2,f8,f9,f10,rfl,hij,hjn,rfl,hl,hg⟩ ih;by_cases hlt:i<j
  ·have w1:IntKind.wrap .i64 (Int.ofNat i+Int.ofNat j)=Int.ofNat (i+j):=Jei Fh;have w2:IntKind.wrap .u64 (Int.ofNat (i+j))=Int.ofNat (i+j):=JnY Fh;have w3:IntKind.wrap .i64 (Int.ofNat ((i+j) / 2))=Int.ofNat ((i+j) / 2):=JaX (by have:Int.ofNat ((i+j) / 2)=(((i+j) / 2:Nat):Int):=rfl;omega) (by have:Int.ofNat ((i+j) / 2)=(((i+j) / 2:Nat):Int):=rfl;omega);have hh:(i+j) / 2<rows.length:=Fh;have g1:rows[(i+j) / 2]? = some rows[(i+j) / 2]:=FB hh;obtain⟨v,g2,g3⟩:=hv.at g1;have e1:=hb.load1 g2;refine Fz (by simp only[go_sem,HA,simprocAttr,Z6,Hc,f0,f1,f2,f8,f9,f10,hlt,w1,w2,w3,JoU,hh,e1];rfl) ?_;refine HD Ff Fe ?_;refine JhX C g3 hr (hlen _ (FI g1)) hlr ?_;by_cases hc:Pa rows[(i+j) / 2] r<0
   ·have w4:IntKind.wrap .i64 (Int.ofNat ((i+j) / 2)+1)=Int.ofNat ((i+j) / 2+1):=HJ Fh;refine Fz (by simp only[go_sem,HA,simprocAttr,hc,w4];rfl) ?_;refine ih (j-((i+j) / 2+1)) _ _ Fh ⟨(i+j) / 2+1,j,(Fg f0),(Fg f1),(Fg f2),(Fg f8),Fb,(Fg f10),rfl,by omega,hjn,rfl,?_,hg⟩;intro k x hk hx;by_cases hki:k<i
    ·exact hl k x hki hx
    ·by_cases hke:k=(i+j) / 2
     ·subst hke;rw[g1]at hx;cases hx;exact hc
     ·have hkl:=(List.getElem?_eq_some_iff.1 hx).1;have:=List.pairwise_iff_getElem.1 hrise k _ hkl hh Fh;rw[FB hkl]at hx;cases hx;exact Jb0 this hc
   ·refine Fz (by simp only[go_sem,HA,simprocAttr,hc];rfl) ?_;refine ih ((i+j) / 2-i) _ _ Fh ⟨i,(i+j) / 2,(Fg f0),(Fg f1),(Fg f2),(Fg f8),(Fg f9),Fb,rfl,by omega,by omega,rfl,hl,?_⟩;intro k x hk hx;by_cases hke:k=(i+j) / 2
    ·subst hke;rw[g1]at hx;cases hx;exact hc
    ·have hkl:=(List.getElem?_eq_some_iff.1 hx).1;have:=List.pairwise_iff_getElem.1 hrise _ k hh hkl Fh;rw[FB hkl]at hx;cases hx;exact fun hx=>hc (Jb0 this hx)
  ·have:i=j:=Fh;subst this;have hp:posn rows r=i:=JjS hjn hl (fun x hx=>hg i x (FH _) hx);have hm:=JnA hrise hjn hl (fun x hx=>hg i x (FH _) hx);rw[hp]at h;by_cases hin:i<rows.length
   ·have g1:rows[i]? = some rows[i]:=FB hin;obtain⟨v,g2,g3⟩:=hv.at g1;have e1:=hb.load1 g2;refine Fz (by simp only[go_sem,HA,simprocAttr,Z6,f0,f1,f2,f8,f9,f10,hlt,hin,e1];rfl) ?_;refine HD Ff Fe ?_;refine JhX C g3 hr (hlen _ (FI g1)) hlr ?_
    have e3:(Pa rows[i] r==0)=decide (r∈rows):=by
     rw[show (Pa rows[i] r==0)=decide (Pa rows[i] r=0)from rfl]
     congr 1
     rw[cmpL_zero,hm,g1];simp
    refine Fz (by simp only[go_sem,HA,simprocAttr,e3,f0,f1,f2,f8,f9,f10];rfl) ?_;refine HC ⟨_,by simp only[go_sem,HA,simprocAttr,J6];rfl,?_⟩;exact h
   ·have e3:decide (r∈rows)=false:=by
     rw[decide_eq_false_iff_not,hm,List.getElem?_eq_none Fh];simp
    rw[e3]at h;refine Fz (by simp only[go_sem,HA,simprocAttr,Z6,f0,f1,f2,f8,f9,f10,hlt,hin];rfl) ?_;refine HC ⟨_,by simp only[go_sem,HA,simprocAttr,J6];rfl,?_⟩;exact h
 ·intro k x hk;omega
 ·intro k x hk hx;have:=(List.getElem?_eq_some_iff.1 hx).1;omega
end
section
open Go.AE
variable {tab:Tab}
structure SetV (S:Fw) (w:AW) (bp:Nat) (width:Nat) (rows:Fy) (lv:V) (cs:List V) (S0 T:Fw):Prop where
 hp:S bp
 lt:bp<w.next
 hx:w.heap.get bp=some (.cells [.int .i64 (Int.ofNat width),lv] .own)
 h0:∀b,S0 b→S b∧b≠bp∧b<w.next
 hT:∀b,T b→S b∧b≠bp∧¬S0 b∧b<w.next
 hS:∀b,S b→b<w.next
 hb:Buf S0 w lv 1 rows.length cs
 hv:RowsV T w cs rows
 rise:Rise rows
 wid:∀x∈rows,x.length=width
 w4:width≤4
def SetOf (S:Fw) (w:AW) (p:V) (width:Nat) (rows:Fy):Prop:=∃bp lv cs S0 T,p = .ptr bp 0∧SetV S w bp width rows lv cs S0 T
variable {S S0:Fw} {bp width:Nat} {rows:Fy} {lv:V} {cs:List V}
theorem SetV.frm {R:Fw}{w':AW}(h:SetV S w bp width rows lv cs S0 T)(hf:Frm R w w')(hd:∀x,S x→¬R x):SetV S w' bp width rows lv cs S0 T where
 hp:=h.hp
 lt:=FK h.lt hf.next
 hx:=(hf.heap _ h.lt (hd _ h.hp)).trans h.hx
 h0 b hb:=⟨(h.h0 b hb).1,(h.h0 b hb).2.1,FK (h.h0 b hb).2.2 hf.next⟩
 hT b hb:=⟨(h.hT b hb).1,(h.hT b hb).2.1,(h.hT b hb).2.2.1,FK (h.hT b hb).2.2.2 hf.next⟩
 hS b hb:=FK (h.hS b hb) hf.next
 hb:=h.hb.frm hf fun x hx=>hd x (h.h0 x hx).1
 hv:=h.hv.frm hf fun x hx=>hd x (h.hT x hx).1
 rise:=h.rise
 wid:=h.wid
 w4:=h.w4
theorem SetOf.frm {R:Fw}{w':AW}{p:V}(h:SetOf S w p width rows)(hf:Frm R w w')(hd:∀x,S x→¬R x):SetOf S w' p width rows:=by
 obtain⟨bp,lv,cs,S0,T,rfl,h⟩:=h;exact⟨bp,lv,cs,S0,T,rfl,h.frm hf hd⟩
theorem SetV.load0 (h:SetV S w bp width rows lv cs S0 T):w.load bp 0 1=some [.int .i64 (Int.ofNat width)]:=by
 simp only[AW.load,h.hx,AW.alive,FY,HN]
theorem SetV.load1 (h:SetV S w bp width rows lv cs S0 T):w.load bp 1 1=some [lv]:=by
 simp only[AW.load,h.hx,AW.alive,List.drop_succ_cons,FY,HN]
variable {U:Fw} {rv:V} {r:List Int}
theorem JjD (C:Codes tab)(hs:SetV S aw bp width rows lv cs S0 T)(hr:RowV U aw rv r)(hn:rows.length≤1000000)(hlr:r.length≤1000)(h1:r.length≠width→K (.tuple [.int .i64 (-1),.bool false]) aw)(h2:r.length=width→K (.tuple [.int .i64 (Int.ofNat (posn rows r)),.bool (decide (r∈rows))]) aw):WF tab Wy [.ptr bp 0,rv] aw K:=by
 refine HL C.ZS rfl ?_;have e0:=hs.load0;have e1:=hs.load1;have w4:=hs.w4;have hl:∀x∈rows,x.length≤1000:=fun x hx=>by have:=hs.wid x hx;omega
 rcases hr.inv with⟨rfl,rfl⟩|⟨b,c,rfl,_⟩
 ·by_cases hw:width=0
  ·subst hw;have e2:((0:Int) != Int.ofNat 0)=false:=rfl;refine Fz (by simp only[go_sem,HA,simprocAttr,Jl,eqV,e0,e1,e2];rfl) ?_;refine HD Ff Fe ?_;refine Jhb C hs.hb hs.hv hr hs.rise hn hl hlr ?_;refine HB 1000 Fe ?_;refine HC ⟨_,by simp only[go_sem,HA,simprocAttr,Jl];rfl,?_⟩;exact h2 rfl
  ·have e2:¬0=width:=fun h=>hw h.symm;refine Fz (by simp only[go_sem,HA,simprocAttr,-Int.reduceOfNat,Jl,eqV,e0,e1,e2];rfl) ?_;refine HC ⟨_,by simp only[go_sem,HA,simprocAttr,-Int.reduceOfNat,Jl];rfl,?_⟩;exact h1 fun h=>hw h.symm
 ·by_cases hw:r.length=width
  ·refine Fz (by simp only[go_sem,HA,simprocAttr,Jl,eqV,e0,e1,hw];rfl) ?_;refine HD Ff Fe ?_;refine Jhb C hs.hb hs.hv (hw▸hr) hs.rise hn hl hlr ?_;refine HB 1000 Fe ?_;refine HC ⟨_,by simp only[go_sem,HA,simprocAttr,Jl];rfl,?_⟩;exact h2 hw
  ·refine Fz (by simp only[go_sem,HA,simprocAttr,Jl,eqV,e0,e1,hw];rfl) ?_;refine HC ⟨_,by simp only[go_sem,HA,simprocAttr,Jl];rfl,?_⟩;exact h1 hw
theorem Jmh {b:Nat}{c:Cap}{sh:Share}(hx:w.heap.get b=some (.cells (rowC l) sh))(ha:Al T w b sh):w.elems 1 (.slice b 0 l.length c)=some (l.length,rowC l):=by
 cases l with
 | nil=>rfl
 | cons x l =>
  simp only[AW.elems,FC,AW.load,hx,ha.alive,FY];rw[Jcy _ _ (by simp[rowC])]
theorem JhN (C:Codes tab)(hr:RowV U aw rv r)(hlr:r.length≤1000)(h:∀v w,RowV (fun b=>aw.next≤b∧b<w.next) w v r→Frm (fun _=>False) aw w→K v w):WF tab Wz [rv] aw K:=by
 refine HL C.Xd rfl ?_;rcases hr.inv with⟨rfl,rfl⟩|⟨b,c,rfl,_,hb,sh,hx,ha⟩
 ·refine Fz (by simp only[go_sem,HA,simprocAttr,JU,eqV];rfl) ?_;refine HC ⟨_,by simp only[go_sem,HA,simprocAttr,JU];rfl,?_⟩;exact h _ _ .nil (Frm.refl _)
 ·have hx':(aw.fresh []).heap.get b=some (.cells (rowC r) sh):=(T.get_put_ne Fh).trans hx;have hf:Frm (fun _=>False) aw (aw.fresh []):=Frm.new _ _;have he:=Jmh (c:=c) hx' (ha.frm hf fun _ _ h=>h);cases hrl:r.length with
  | zero =>
   have:r=[]:=List.length_eq_zero_iff.1 hrl;subst this;rw[FD]at he;refine Fz (by simp only[go_sem,HA,simprocAttr,JU,eqV,HI,HQ,FD,he,AW.appendV];rfl) ?_;refine HC ⟨_,by simp only[go_sem,HA,simprocAttr,JU];rfl,?_⟩;refine h _ _ (.blk (n:=0) ⟨FH _,FV _⟩ (FV _) T.get_put_same (.inl rfl) rfl) hf
  | succ k =>
   have hap:(aw.fresh []).appendV 1 8 (.slice aw.next 0 0 (.known 0)) (k+1) (rowC r)=some (.slice (aw.next+1) 0 (k+1) (.upTo 1),(aw.fresh []).fresh (rowC r)):=by
    simp only[AW.appendV];rw[if_pos ⟨by omega,by omega,by omega⟩,if_neg Fh];simp only[AW.elems,FU,List.nil_append];rfl
   rw[hrl]at he;refine Fz (by simp only[go_sem,HA,simprocAttr,JU,eqV,HI,HQ,hrl,he,hap];rfl) ?_;refine HC ⟨_,by simp only[go_sem,HA,simprocAttr,JU];rfl,?_⟩;refine h _ _ (.blk (n:=k+1) ⟨Nat.le_succ _,FV _⟩ (FV _) T.get_put_same (.inl rfl) hrl) (hf.trans (Frm.new _ _) (fun _ _ h=>h) fun _ _ h=>h)
theorem JlR (C:Codes tab)(hP:∀args aw v aw',Jbd 24 args aw=some (v,aw')→tab.prim J9 args aw v aw'){x:V}{n i bv:Nat}(hb:Buf S aw lv 1 n cs)(hi:i≤n)(hv:aw.heap.get bv=some (.cells [x] .own))(hne:¬S bv)(h1:x.one=true)(h2:HM cs=true)(hn:n≤1000000)(h:∀v w S',Buf S' w v 1 (n+1) (cs.take i++[x]++cs.drop i)→Frm S aw w→JaU S S' aw w→K v w):WF tab J9 [lv,.int .i64 (Int.ofNat i),.slice bv 0 1 (.known 1)] aw K:=by
 have hel:aw.elems 1 (.slice bv 0 1 (.known 1))=some (1,[x]):=by simp only[AW.elems,AW.load,hv,AW.alive,FY,HN]
 have hcl:=hb.len;rw[Kz]at hcl;have hone:HM [x]=true:=by simp[HM,h1]
 rcases hb.inv with⟨rfl,rfl,rfl⟩|⟨b,rfl,hSb,_⟩
 ·have:i=0:=Fh;subst this;obtain⟨v',w',S',q1,q2,q3,q4⟩:=hb.add (news:=[x]) (bytes:=24) Fh rfl hone Fh Fh
  have ev:WF tab J9 [.nilslice,.int .i64 (Int.ofNat 0),.slice bv 0 1 (.known 1)] aw K:=by
   refine HL C.ZT rfl ?_;have e0:idx (.int .i64 (Int.ofNat 0))=some 0:=rfl;have e1:(Int.ofNat 0==(0:Int))=true:=rfl;have e2:((1:Int)==0)=false:=rfl;refine Fz (by simp only[go_sem,HA,simprocAttr,Zm,e0,e1,e2,hel,q1,imp_self];rfl) ?_;refine HC ⟨_,by simp only[go_sem,HA,simprocAttr,Zm];rfl,?_⟩;exact h _ _ _ q2 q3 q4
  exact ev
 ·by_cases hin:i<n
  ·obtain⟨v',w',S',q1,q2,q3,q4⟩:=hb.insert (bytes:=24) (k:=1) (i:=i) hin hv (fun e=>hne (e▸hSb)) h1 h2 Fh Fh;exact⟨_,_,.prim (hP _ _ _ _ q1),h _ _ _ q2 q3 q4⟩
  ·have:i=n:=Fh;subst this;obtain⟨v',w',S',q1,q2,q3,q4⟩:=hb.add (news:=[x]) (bytes:=24) Fh rfl hone Fh Fh;refine HL C.ZT rfl ?_;have e2:((1:Int)==0)=false:=rfl;refine Fz (by simp only[go_sem,HA,simprocAttr,Zm,AW.sliceW,Jbb,e2,hel,q1];rfl) ?_;refine HC ⟨_,by simp only[go_sem,HA,simprocAttr,Zm];rfl,?_⟩;refine h _ _ _ ?_ q3 q4;rw[FW Fh,List.drop_eq_nil_of_le Fh,Kb];exact q2
def insR (rows:Fy) (r:List Int):Fy:=rows.take (posn rows r)++[r]++rows.drop (posn rows r)
theorem JoQ:∀(j:Nat) x,j<posn rows r→rows[j]? = some x→Pa x r<0:=by
 intro j x hj hx;unfold posn at hj;have hjl:=(List.getElem?_eq_some_iff.1 hx).1
 have h1:(rows.takeWhile fun x=>decide (Pa x r<0))[j]? = some x:=by
  have hp:=List.takeWhile_prefix (l:=rows) (fun x=>decide (Pa x r<0));obtain⟨t,ht⟩:=hp;rw[←ht,F4 hj]at hx;exact hx
 have:=FI h1;have ha:=List.all_eq_true.1 (List.all_takeWhile (l:=rows) (p:=fun x=>decide (Pa x r<0))) _ this;simpa using ha
theorem Jgw:∀{rows:Fy} {r:List Int} x,rows[posn rows r]? = some x→¬Pa x r<0
 | [],r,x,h=>by simp at h
 | y::rows,r,x,h=>by
  by_cases hy:Pa y r<0
  ·have e:posn (y::rows) r=posn rows r+1:=by simp[posn,hy]
   rw[e]at h;exact Jgw x (by simpa using h)
  ·have e:posn (y::rows) r=0:=by simp[posn,hy]
   rw[e]at h;simp at h;rw[←h];exact hy
theorem JoP (hr:Rise rows)(hn:r∉rows):∀(j:Nat) x,posn rows r≤j→rows[j]? = some x→Pa r x<0:=by
 intro j x hj hx;have hjl:=(List.getElem?_eq_some_iff.1 hx).1;have hpl:posn rows r<rows.length:=Fh
 have h1:¬Pa x r<0:=by
  by_cases he:j=posn rows r
  ·rw[he]at hx;exact Jgw x hx
  ·have h2:=Jgw (rows:=rows) (r:=r) _ (FB hpl);have h3:=List.pairwise_iff_getElem.1 hr _ j hpl hjl Fh;rw[FB hjl]at hx;cases hx;exact fun hx=>h2 (Jb0 h3 hx)
 rcases JfX (a:=r) (b:=x)with h|h|h
 ·exact h
 ·subst h;exact absurd (FI hx) hn
 ·exact absurd h h1
theorem JnL (hr:Rise rows)(hn:r∉rows):Rise (insR rows r):=by
 have hlo:∀x∈rows.take (posn rows r),Pa x r<0:=by
  intro x hx;obtain⟨j,hj,e⟩:=List.mem_iff_getElem.1 hx;rw[FT]at hj;refine JoQ (rows:=rows) j x Fh ?_;rw[List.getElem_take]at e;rw[FB Fh,e]
 have hhi:∀x∈rows.drop (posn rows r),Pa r x<0:=by
  intro x hx;obtain⟨j,hj,e⟩:=List.mem_iff_getElem.1 hx;rw[Kh]at hj;refine JoP hr hn (posn rows r+j) x Fh ?_;rw[List.getElem_drop]at e;rw[FB Fh,e]
 unfold insR Rise;rw[F5,List.pairwise_append];refine⟨List.Pairwise.sublist (List.take_sublist _ _) hr,?_,?_⟩
 ·rw[List.singleton_append,List.pairwise_cons];exact⟨hhi,List.Pairwise.sublist (List.drop_sublist _ _) hr⟩
 ·intro a ha b hb;rw[List.singleton_append,FJ]at hb;rcases hb with rfl|hb
  ·exact hlo a ha
  ·exact Jb0 (hlo a ha) (hhi b hb)
theorem mem_ins {x:List Int}:x∈insR rows r↔x=r∨x∈rows:=by
 unfold insR;rw[F5,F9,List.singleton_append,FJ]
 have:x∈rows↔x∈rows.take (posn rows r)∨x∈rows.drop (posn rows r):=by
  rw[←F9,List.take_append_drop]
 rw[this];constructor
 ·rintro (h|h|h)
  ·exact .inr (.inl h)
  ·exact .inl h
  ·exact .inr (.inr h)
 ·rintro (h|h|h)
  ·exact .inr (.inl h)
  ·exact .inl h
  ·exact .inr (.inr h)
theorem Jmi {i:Nat}(h:RowsV T w cs rows)(hv:RowV T w v r)(hi:i≤rows.length):RowsV T w (cs.take i++[v]++cs.drop i) (rows.take i++[r]++rows.drop i):=by
 have h1:=h.1;refine⟨by simp[h1],fun k x l hx hl=>?_⟩;rw[F5]at hx hl;by_cases hk:k<i
 ·rw[F4 (by simp;omega),List.getElem?_take_of_lt hk]at hx hl;exact h.2 k x l hx hl
 ·rw[F3 (by simp;omega)]at hx hl;have e1:(cs.take i).length=i:=by simp;omega
  have e2:(rows.take i).length=i:=by simp;omega
  rw[e1]at hx;rw[e2]at hl;by_cases hk2:k=i
  ·subst hk2;simp at hx hl;rw[←hx,←hl];exact hv
  ·obtain⟨m,hm⟩:∃m,k-i=m+1:=⟨k-i-1,by omega⟩;rw[hm]at hx hl;simp at hx hl;exact h.2 _ x l hx hl
theorem Jmj (h:RowsV T w cs rows):HM cs=true:=by
 rw[Jbv];intro v hv;obtain⟨i,hi,e⟩:=List.mem_iff_getElem.1 hv;have hi':i<rows.length:=by rw[←h.1];exact hi
 have:=h.2 i v _ (by rw[FB hi,e]) (FB hi');rcases this.inv with⟨rfl,_⟩|⟨b,c,rfl,_⟩<;>rfl
theorem RowV.cells (h:RowV T w v l):v.cells=[v]:=by
 rcases h.inv with⟨rfl,_⟩|⟨b,c,rfl,_⟩<;>rfl
theorem RowV.isOne (h:RowV T w v l):v.one=true:=by
 rcases h.inv with⟨rfl,_⟩|⟨b,c,rfl,_⟩<;>rfl
theorem add_ok (C:Codes tab)(hP:∀args aw v aw',Jbd 24 args aw=some (v,aw')→tab.prim J9 args aw v aw'){p:V}(hs:SetOf S aw p width rows)(hr:RowV U aw rv r)(hn:rows.length≤1000000)(hlr:r.length≤1000)(h1:¬(r.length=width∧r∉rows)→K (.bool false) aw)(h2:r.length=width→r∉rows→∀w S',SetOf S' w p width (insR rows r)→Frm S aw w→JaU S S' aw w→K (.bool true) w):WF tab Wt [p,rv] aw K:=by
 obtain⟨bp,lv,cs,S0,T,rfl,hs⟩:=hs;refine HL C.YO rfl ?_;refine Fz (by simp only[go_sem,HA,simprocAttr,Zh];rfl) ?_;refine HD Ff Fe ?_;refine JjD C hs hr hn hlr ?_ ?_
 ·intro hw;have e1:decide ((-1:Int)<0)=true:=rfl;refine Fz (by simp only[go_sem,HA,simprocAttr,e1];rfl) ?_;refine HC ⟨_,by simp only[go_sem,HA,simprocAttr,Zh];rfl,?_⟩;exact h1 fun h=>hw h.1
 ·intro hw;by_cases hm:r∈rows
  ·have e1:¬posn rows r<0:=Fh;refine Fz (by simp only[go_sem,HA,simprocAttr,hm,e1];rfl) ?_;refine HC ⟨_,by simp only[go_sem,HA,simprocAttr,Zh];rfl,?_⟩;exact h1 fun h=>h.2 hm
  ·have e1:¬posn rows r<0:=Fh;refine Fz (by simp only[go_sem,HA,simprocAttr,hm,e1];rfl) ?_;have l1:=hs.load1;refine Pp ?_;refine H0 100 (by simp only[go_sem,HA,simprocAttr,l1];rfl) ?_;refine PD Ff Fe ?_;refine JhN C hr hlr fun v w hv hf=>?_;have hvc:=hv.cells;refine H0 100 (by simp only[go_sem,HA,simprocAttr,HI,HQ,over,hvc,FC,FD];rfl) ?_;refine PD Ff Fe ?_;have hfa:Frm (fun _=>False) aw (w.fresh [v]):=hf.trans (Frm.new _ _) (fun _ _ h=>h) fun _ _ h=>h;have hsa:=hs.frm hfa fun _ _ h=>h;have hsw:=hs.frm hf fun _ _ h=>h;have hnS0:¬S0 w.next:=fun h=>by have:=(hs.h0 _ h).2.2;have:=hf.next;omega
   refine JlR C hP hsa.hb (i:=posn rows r) (Jgx _ _) (AE.T.get_put_same (k:=w.next)) hnS0 hv.isOne (Jmj hsa.hv) hn fun lv' w2 S' q1 q2 q3=>?_;have hbp2:¬S0 bp:=fun h=>(hs.h0 _ h).2.1 rfl;have hx2:w2.heap.get bp=some (.cells [.int .i64 (Int.ofNat width),lv] .own):=(q2.heap _ hsa.lt hbp2).trans hsa.hx;have l2:w2.load bp 1 1=some [lv]:=by simp only[AW.load,hx2,AW.alive,List.drop_succ_cons,FY,HN]
   have hlv':lv'.one=true:=by rcases q1.inv with⟨rfl,_⟩|⟨b,rfl,_⟩<;>rfl
   have hlc':lv'.cells=[lv']:=by rcases q1.inv with⟨rfl,_⟩|⟨b,rfl,_⟩<;>rfl
   have hst:=Jee (i:=1) (v:=lv') hx2 Fj hlv';refine H0 100 (by simp only[go_sem,HA,simprocAttr,hlc',hst,FC,FD];rfl) ?_;have la:=hsa.load1;have lw:=hsw.load1;refine Pr ⟨(show HW _ _ [(4,7),(4,8)]from by simp only[go_sem,HA,simprocAttr,HW,chk,List.reverse_cons,List.reverse_nil,Pk,Pv,Pt,Pu,List.getElem?_nil,false_or,or_true,or_false,exists_eq',FP,Prod.mk.injEq,Bool.true_eq_false,FM,and_true,true_and,implies_true,l1,la,lw]),?_⟩;refine HB 1000 Fe ?_;refine HC ⟨_,by simp only[go_sem,HA,simprocAttr,Zh];rfl,?_⟩;have hnx:(w.fresh [v]).next=w.next+1:=rfl;have hn1:=hf.next;have hn2:=q2.next;have hlt:=hs.lt;have hturn:Frm (fun b=>b=bp) w2 (w2.turn bp (.cells ([.int .i64 (Int.ofNat width),lv].set 1 lv') .own)):=Jal rfl (.inl rfl);have hvf:RowV (fun b=>aw.next≤b∧b<w.next) (w.fresh [v]) v r:=hv.frm (S:=fun _=>False) (Frm.new _ _) fun _ _ h=>h;have hv2:RowV (fun b=>aw.next≤b∧b<w.next) w2 v r:=hvf.frm q2 fun x hx h=>by have:=(hs.h0 x h).2.2;omega
   have hr2:RowsV T w2 cs rows:=hsa.hv.frm q2 fun x hx h=>(hs.hT x hx).2.2.1 h;refine h2 hw hm _ (fun b=>S b∨(aw.next≤b∧b<w2.next)) ⟨bp,lv',cs.take (posn rows r)++[v]++cs.drop (posn rows r),S',fun b=>T b∨(aw.next≤b∧b<w.next),rfl,?_⟩ ?_ ?_
   ·refine⟨.inl hs.hp,?_,AE.T.get_put_same,?_,?_,?_,?_,?_,JnL hs.rise hm,?_,hs.w4⟩
    ·show bp<w2.next;omega
    ·intro b hb;obtain⟨g1,g2⟩:=q3 b hb;rcases g2 with g2|g2
     ·have:=hs.h0 b g2;exact⟨.inl this.1,this.2.1,g1⟩
     ·exact⟨.inr ⟨by omega,g1⟩,by omega,g1⟩
    ·rintro b (hb|hb)
     ·have:=hs.hT b hb;refine⟨.inl this.1,this.2.1,fun h=>?_,FK this.2.2.2 (show aw.next≤w2.next by omega)⟩;rcases (q3 b h).2 with g|g
      ·exact this.2.2.1 g
      ·have:=this.2.2.2;omega
     ·refine⟨.inr ⟨hb.1,by omega⟩,by omega,fun h=>?_,show b<w2.next by omega⟩;rcases (q3 b h).2 with g|g
      ·have:=(hs.h0 b g).2.2;omega
      ·omega
    ·rintro b (hb|hb)
     ·have:=hs.hS b hb;show b<w2.next;omega
     ·exact hb.2
    ·have e:(insR rows r).length=rows.length+1:=by
      have:=Jgx rows r;simp[insR];omega
     rw[e];refine q1.frm hturn fun x hx h=>?_;subst h;rcases (q3 x hx).2 with g|g
     ·exact hbp2 g
     ·omega
    ·refine Jmi ((hr2.mono fun x h=> .inl h).frm hturn fun x hx h=>?_) ((hv2.mono fun x h=> .inr h).frm hturn fun x hx h=>?_) (Jgx _ _)
     ·subst h;rcases hx with g|g
      ·exact (hs.hT _ g).2.1 rfl
      ·omega
     ·subst h;rcases hx with g|g
      ·exact (hs.hT _ g).2.1 rfl
      ·omega
    ·intro x hx;rcases mem_ins.1 hx with rfl|hx
     ·exact hw
     ·exact hs.wid x hx
   ·refine (hfa.trans q2 (U:=S) (fun _ _ h=>h.elim) fun x _ h=>(hs.h0 x h).1).trans hturn (fun _ _ h=>h) ?_;rintro x _ rfl;exact hs.hp
   ·rintro b (hb|hb)
    ·exact⟨by have:=hs.hS b hb;show b<w2.next;omega,.inl hb⟩
    ·exact⟨hb.2,.inr hb.1⟩
end
section
open Go.AE
variable {tab:Tab}
variable {width:Nat}
theorem has_ok (C:Codes tab){S U:Fw}{p rv:V}{rows:Fy}{r:List Int}(hs:SetOf S aw p width rows)(hr:RowV U aw rv r)(hn:rows.length≤1000000)(hlr:r.length≤1000)(h:K (.bool (decide (r∈rows))) aw):WF tab Yh [p,rv] aw K:=by
 obtain⟨bp,lv,cs,S0,T,rfl,hs⟩:=hs;refine HL C.Z5 rfl ?_;refine Fz (by simp only[go_sem,HA,simprocAttr,J5];rfl) ?_;refine HD Ff Fe ?_;refine JjD C hs hr hn hlr ?_ ?_
 ·intro hw;have:decide (r∈rows)=false:=decide_eq_false fun h=>hw (hs.wid r h);rw[this]at h;refine HB 1000 Fe ?_;refine HC ⟨_,by simp only[go_sem,HA,simprocAttr,J5];rfl,?_⟩;exact h
 ·intro hw;refine HB 1000 Fe ?_;refine HC ⟨_,by simp only[go_sem,HA,simprocAttr,J5];rfl,?_⟩;exact h
theorem len_ok (C:Codes tab){S:Fw}{p:V}{rows:Fy}(hs:SetOf S aw p width rows)(h:K (.int .i64 (Int.ofNat rows.length)) aw):WF tab Yl [p] aw K:=by
 obtain⟨bp,lv,cs,S0,T,rfl,hs⟩:=hs;refine HL C.X0 rfl ?_;have l1:=hs.load1;rcases hs.hb.inv with⟨rfl,h0,_⟩|⟨b,rfl,hSb,_⟩
 ·refine Fz (by simp only[go_sem,HA,simprocAttr,Zu,l1,eqV];rfl) ?_;refine HC ⟨_,by simp only[go_sem,HA,simprocAttr,Zu];rfl,?_⟩;rw[h0]at h;exact h
 ·refine Fz (by simp only[go_sem,HA,simprocAttr,Zu,l1,eqV];rfl) ?_;refine HC ⟨_,by simp only[go_sem,HA,simprocAttr,Zu];rfl,?_⟩;exact h
theorem new_ok (C:Codes tab)(hw:width≤4)(h:∀w,SetOf (fun b=>b=aw.next) w (.ptr aw.next 0) width []→Frm (fun _=>False) aw w→w.next=aw.next+1→K (.ptr aw.next 0) w):WF tab Ws [.int .i64 (Int.ofNat width)] aw K:=by
 refine HL C.YN rfl ?_;have e1:¬width<0:=Fh;have e2:¬4<width:=Fh;refine Fz (by simp only[go_sem,HA,simprocAttr,YM,e1,e2,HI,HQ,over,V.cells,FC,FD];rfl) ?_;refine HC ⟨_,by simp only[go_sem,HA,simprocAttr,YM];rfl,?_⟩;refine h _ ⟨aw.next,.nilslice,[],fun _=>False,fun _=>False,rfl,⟨rfl,FV _,AE.T.get_put_same,fun _ h=>h.elim,fun _ h=>h.elim,?_,.nil,⟨rfl,fun i v l h=>by simp at h⟩,.nil,fun x hx=>by simp at hx,hw⟩⟩ (Frm.new _ _) rfl;rintro b rfl;exact FV _
end
section
open Go.AE
variable {tab:Tab}
def fitsR:List Int→List Int→Bool
 | x::l,n::m=>!(decide (0<n)&&x != n)&&fitsR l m
 | _,_=>true
variable {x r:List Int}
theorem Jky {i:Nat}{n:Int}(h1:x[i]? = some a)(h2:r[i]? = some n):fitsR (x.drop i) (r.drop i)=(!(decide (0<n)&&a != n)&&fitsR (x.drop (i+1)) (r.drop (i+1))):=by
 have k1:i<x.length:=(List.getElem?_eq_some_iff.1 h1).1;have k2:i<r.length:=(List.getElem?_eq_some_iff.1 h2).1;rw[FL k1,FL k2];rw[FB k1]at h1;rw[FB k2]at h2;rw[FX h1,FX h2];rfl
theorem JgS:∀(x:List Int),fitsR x []=true
 | []=>rfl
 | _::_=>rfl
theorem Jf2:∀(x:List Int) (k:Nat),fitsR x (List.replicate k 0)=true
 | [],0=>rfl
 | [],k+1=>rfl
 | _::_,0=>rfl
 | _::l,k+1=>by simp[List.replicate_succ,fitsR,Jf2 l k]
def Jqc (xv rv:V) (x r:List Int) (aw:AW) (q:Nat) (f:Fr) (w:AW):Prop :=
 ∃i,f.get 0=some xv∧f.get 7=some rv∧f.get 8=some (.int .i64 (Int.ofNat r.length))∧f.get 9=some (.int .i64 (Int.ofNat i))∧w=aw∧fitsR x r=fitsR (x.drop i) (r.drop i)∧i≤r.length∧q=r.length-i
theorem Jov (C:Codes tab){U:Fw}{xv rv:V}(hx:RowV T aw xv x)(hr:RowV U aw rv r)(hl:x.length=r.length)(hlr:r.length≤1000)(h:K (.bool (fitsR x r)) aw):WF tab Um [xv,rv] aw K:=by
 refine HL C.X2 rfl ?_;rcases hr.inv with⟨rfl,rfl⟩|⟨b2,c2,rfl,_,_,hx2⟩
 ·rw[JgS]at h;refine Fz (by simp only[go_sem,HA,simprocAttr,JH];rfl) ?_;refine Jay ?_;refine Fz (by simp only[go_sem,HA,simprocAttr,J7];rfl) ?_;refine HC ⟨_,by simp only[go_sem,HA,simprocAttr,JH];rfl,?_⟩;exact h
 rcases hx.inv with⟨rfl,rfl⟩|⟨b1,c1,rfl,_,_,hx1⟩
 ·have:r=[]:=List.length_eq_zero_iff.1 (by simpa using hl.symm);subst this;refine Fz (by simp only[go_sem,HA,simprocAttr,JH,FD];rfl) ?_;refine Jay ?_;refine Fz (by simp only[go_sem,HA,simprocAttr,J7,FD];rfl) ?_;refine HC ⟨_,by simp only[go_sem,HA,simprocAttr,JH];rfl,?_⟩;exact h
 refine Fz (by simp only[go_sem,HA,simprocAttr,JH];rfl) ?_;refine JaH (Jqc _ _ x r aw) ?_ r.length ⟨0,Fb,Fb,Fb,Fb,rfl,by simp,by omega,by omega⟩;rintro q f w ⟨i,f0,f7,f8,f9,rfl,hc,hi,rfl⟩ ih;by_cases hlt:i<r.length
 ·have hlx:i<x.length:=Fh;have g1:x[i]? = some x[i]:=FB hlx;have g2:r[i]? = some r[i]:=FB hlt;have e1:=row_load hx1 g1;have e2:=row_load hx2 g2;rw[Jky g1 g2]at hc;have hwr:IntKind.wrap .i64 (Int.ofNat i+1)=Int.ofNat (i+1):=HJ Fh;by_cases hp:r[i]>0
  ·have hp':0<r[i]:=hp;by_cases he:x[i]=r[i]
   ·have e3:(x[i] != r[i])=false:=by simp[he]
    rw[e3,Bool.and_false,Bool.not_false,Bool.true_and]at hc;refine Fz (by simp only[go_sem,HA,simprocAttr,J7,X1,f0,f7,f8,f9,hlt,hlx,e1,e2,hp,e3,hwr];rfl) ?_;exact ih _ _ _ Fh ⟨i+1,(Fg f0),(Fg f7),(Fg f8),Fb,rfl,hc,by omega,rfl⟩
   ·have e3:(x[i] != r[i])=true:=by simp[he]
    rw[e3,decide_eq_true hp',Bool.and_true,Bool.not_true,Bool.false_and]at hc;rw[hc]at h;refine Fz (by simp only[go_sem,HA,simprocAttr,J7,X1,f0,f7,f8,f9,hlt,hlx,e1,e2,hp,e3,hwr];rfl) ?_;refine HC ⟨_,by simp only[go_sem,HA,simprocAttr,JH];rfl,?_⟩;exact h
  ·have hp':¬0<r[i]:=hp;rw[decide_eq_false hp',Bool.false_and,Bool.not_false,Bool.true_and]at hc;refine Fz (by simp only[go_sem,HA,simprocAttr,J7,X1,f0,f7,f8,f9,hlt,hlx,e1,e2,hp,hwr];rfl) ?_;exact ih _ _ _ Fh ⟨i+1,(Fg f0),(Fg f7),(Fg f8),Fb,rfl,hc,by omega,rfl⟩
 ·rw[List.drop_eq_nil_of_le (by omega:r.length≤i),JgS]at hc;rw[hc]at h;refine Fz (by simp only[go_sem,HA,simprocAttr,J7,f0,f7,f8,f9,hlt];rfl) ?_;refine HC ⟨_,by simp only[go_sem,HA,simprocAttr,JH];rfl,?_⟩;exact h
def ListOf (N:Nat) (w:AW) (v:V) (rows:Fy) (cs:List V) (S T:Fw):Prop :=
 Buf S w v 1 rows.length cs∧RowsV T w cs rows∧(∀x,S x→N≤x∧x<w.next∧¬T x)∧(∀x,T x→N≤x∧x<w.next)
def Jqe (lv pv:V) (rows:Fy) (pat:List Int) (aw:AW) (q:Nat) (f:Fr) (w:AW):Prop :=
 ∃i v cs S T,f.get 1=some pv∧f.get 22=some lv∧f.get 23=some (.int .i64 (Int.ofNat rows.length))∧f.get 24=some (.int .i64 (Int.ofNat i))∧f.get 5=some v∧ListOf aw.next w v ((rows.take i).filter fun x=>fitsR x pat) cs S T∧Frm (fun _=>False) aw w∧i≤rows.length∧q=rows.length-i
theorem JbN {rows:Fy}{i:Nat}{p:List Int→Bool}(h:rows[i]? = some x):(rows.take (i+1)).filter p=(rows.take i).filter p++if p x then [x]else []:=by
 rw[List.take_add_one,h,List.filter_append];simp only[Option.toList_some];by_cases hp:p x<;>simp[hp]
theorem match_ok (C : Codes tab) {S U : Nat → Prop} {p pv : V} {width : Nat} {rows : List (List Int)} {pat : List Int} {aw : AW} {K : V → AW → Prop} (hs : SetOf S aw p width rows) (hr : RowV U aw pv pat) (hn : rows.length ≤ 1000000) (hlr : pat.length ≤ 1000)
    (h1 : pat.length ≠ width → K .nilslice aw) (h2 : pat.length = width → ∀ v w cs S1 T1, ListOf aw.next w v (rows.filter fun x => fitsR x pat) cs S1 T1 → Frm (fun _ => False) aw w → K v w) : WF tab Zz [p, pv] aw K := by
  obtain ⟨bp, lv, cs, S0, T, rfl, hs⟩ := hs
  refine HL C.Z2 rfl ?_
  have e0 := hs.load0
  have e1 := hs.load1
  have begun : pat.length = width → ∀ fr : Fr, fr.get 1 = some pv → fr.get 22 = some lv → fr.get 23 = some (.int .i64 (Int.ofNat rows.length)) → fr.get 24 = some (.int .i64 (Int.ofNat 0)) → fr.get 5 = some .nilslice →
      WS tab [.code (.loop XB), .endB 0, .code (.seq (.region [⟨some 37, none, .mov (.tmp 5)⟩, ⟨some 4, none, .mov (.tmp 37)⟩]) .ret)] fr aw (fun fr' aw' => ∃ vs, PV fr' aw' Jf.results = some vs ∧ K (Ph vs) aw') := by
    intro hw fr f1 f22 f23 f24 f5
    refine JaH (Jqe lv pv rows pat aw) ?_ rows.length ⟨0, .nilslice, [], fun _ => False, fun _ => False, f1, f22, f23, f24, f5, ⟨.nil, ⟨rfl, fun i v l h => by simp at h⟩, fun _ h => h.elim, fun _ h => h.elim⟩, Frm.refl _, by omega, rfl⟩
    clear f1 f22 f23 f24 f5
    rintro q f w ⟨i, v, vs, S1, T1, f1, f22, f23, f24, f5, ⟨hb1, hv1, hS1, hT1⟩, hf, hi, rfl⟩ ih
    have hsw := hs.frm hf fun _ _ h => h
    by_cases hlt : i < rows.length
    · have g1 : rows[i]? = some rows[i] := List.getElem?_eq_getElem hlt
      obtain ⟨xv, g2, g3⟩ := hsw.hv.at g1
      have hwr : IntKind.wrap .i64 (Int.ofNat i + 1) = Int.ofNat (i + 1) := HJ (by omega)
      have hwx := hs.wid _ (List.mem_of_getElem? g1)
      have hrw := hr.frm hf fun _ _ h => h
      rcases hsw.hb.inv with ⟨_, h0, _⟩ | ⟨b, rfl, hSb, _⟩
      · omega
      have ld := hsw.hb.load1 g2
      refine HB 1000 (by simp only [go_sem, HA, simprocAttr, XB, G7, G6, f1, f22, f23, f24, f5, hlt, ld]; rfl) ?_
      refine HD (by simp only [go_sem, HA, simprocAttr]) (by simp only [go_sem, HA, simprocAttr]; rfl) ?_
      refine Jov C g3 hrw (by omega) hlr ?_
      by_cases hp : fitsR rows[i] pat = true
      · refine HB 1000 (by simp only [go_sem, HA, simprocAttr, hp, f1, f22, f23, f24, f5]; rfl) ?_
        refine HD (by simp only [go_sem, HA, simprocAttr]) (by simp only [go_sem, HA, simprocAttr]; rfl) ?_
        refine JhN C g3 (by omega) fun v' w' hv' hf' => ?_
        have hvc := hv'.cells
        have hfa : Frm (fun _ => False) w (w'.fresh [v']) := hf'.trans (Frm.new _ _) (fun _ _ h => h) fun _ _ h => h
        have hel : (w'.fresh [v']).elems 1 (.slice w'.next 0 1 (.known 1)) = some (1, [v']) := by
          simp only [AW.elems, AW.load, AW.fresh, AW.new, AE.T.get_putk, if_true, AW.alive, List.drop_zero, HN]
        have hlen : ((rows.take i).filter fun x => fitsR x pat).length ≤ rows.length := Nat.le_trans (List.length_filter_le _ _) (by rw [List.length_take]; omega)
        obtain ⟨v2, w2, S2, q1, q2, q3, q4⟩ := (hb1.frm hfa fun _ _ h => h).add (news := [v']) (bytes := 24) (by omega) rfl (by simp [HM, hv'.isOne]) (by omega) (by omega)
        have hnx : (w'.fresh [v']).next = w'.next + 1 := rfl
        have hn1 := hf.next
        have hn2 := hf'.next
        have hn3 := q3.next
        refine HB 1000 (by simp only [go_sem, HA, simprocAttr, HI, HQ, over, hvc, List.length_cons, List.length_nil, hel, q1, f1, f22, f23, f24, f5, hwr]; rfl) ?_
        refine ih (rows.length - (i + 1)) _ _ (by omega) ⟨i + 1, v2, vs ++ [v'], S2, fun x => T1 x ∨ (w.next ≤ x ∧ x < w'.next), (by simp only [go_sem, HA, simprocAttr, f1] <;> rfl), (by simp only [go_sem, HA, simprocAttr, f22] <;> rfl), (by simp only [go_sem, HA, simprocAttr, f23] <;> rfl), (by simp only [go_sem, HA, simprocAttr] <;> rfl), (by simp only [go_sem, HA, simprocAttr] <;> rfl), ⟨?_, ?_, ?_, ?_⟩, ?_, by omega, rfl⟩
        · rw [JbN g1, if_pos hp, List.length_append]; exact q2
        · rw [JbN g1, if_pos hp]
          have a1 : RowsV T1 w2 vs _ := (hv1.frm hfa fun _ _ h => h).frm q3 fun x hx h => (hS1 x h).2.2 hx
          have a2 : RowV (fun b => w.next ≤ b ∧ b < w'.next) w2 v' rows[i] := (hv'.frm (w' := w'.fresh [v']) (S := fun _ => False) (Frm.new _ _) fun _ _ h => h).frm q3 fun x hx h => by have := (hS1 x h).2.1; omega
          have hl1 := hv1.1
          refine ⟨by simp [hl1], fun k y l hy hl => ?_⟩
          by_cases hk : k < vs.length
          · rw [List.getElem?_append_left hk] at hy
            rw [List.getElem?_append_left (by omega)] at hl
            exact (a1.2 k y l hy hl).mono fun _ h => .inl h
          · rw [List.getElem?_append_right (by omega)] at hy hl
            rw [← hl1] at hl
            cases hkk : k - vs.length with
            | zero => rw [hkk] at hy hl; simp at hy hl; rw [← hy, ← hl]; exact a2.mono fun _ h => .inr h
            | succ m => rw [hkk] at hy; simp at hy
        · intro x hx
          obtain ⟨m1, m2⟩ := q4 x hx
          rcases m2 with m2 | m2
          · have := hS1 x m2
            exact ⟨this.1, m1, fun h => h.elim this.2.2 fun h => by omega⟩
          · refine ⟨by omega, m1, fun h => h.elim (fun h => ?_) fun h => by omega⟩
            have := hT1 x h; omega
        · rintro x (h | h)
          · have := hT1 x h; omega
          · omega
        · refine (hf.trans hfa (fun _ _ h => h) fun _ _ h => h).trans q3 (fun _ _ h => h) fun x hx h => ?_
          have := (hS1 x h).1; omega
      · have hp' : fitsR rows[i] pat = false := by simpa using hp
        refine HB 1000 (by simp only [go_sem, HA, simprocAttr, hp', f1, f22, f23, f24, f5, hwr]; rfl) ?_
        refine ih (rows.length - (i + 1)) _ _ (by omega) ⟨i + 1, v, vs, S1, T1, (by simp only [go_sem, HA, simprocAttr, f1] <;> rfl), (by simp only [go_sem, HA, simprocAttr, f22] <;> rfl), (by simp only [go_sem, HA, simprocAttr, f23] <;> rfl), (by simp only [go_sem, HA, simprocAttr] <;> rfl), (by simp only [go_sem, HA, simprocAttr, f5] <;> rfl), ?_, hf, by omega, rfl⟩
        rw [JbN g1, if_neg (by simp [hp']), List.append_nil]
        exact ⟨hb1, hv1, hS1, hT1⟩
    · have e : rows.take i = rows := List.take_of_length_le (by omega)
      rw [e] at hb1 hv1
      refine HB 1000 (by simp only [go_sem, HA, simprocAttr, XB, f1, f22, f23, f24, f5, hlt]; rfl) ?_
      refine HC ⟨_, by simp only [go_sem, HA, simprocAttr, Jf, f5]; rfl, ?_⟩
      exact h2 hw _ _ _ _ _ ⟨hb1, hv1, hS1, hT1⟩ hf
  rcases hr.inv with ⟨rfl, rfl⟩ | ⟨b, c, rfl, _⟩
  · by_cases hw : width = 0
    · subst hw
      have e2 : ((0 : Int) != Int.ofNat 0) = false := rfl
      rcases hs.hb.inv with ⟨rfl, h0, _⟩ | ⟨b, rfl, hSb, _⟩
      · rw [h0] at begun
        refine HB 1000 (by simp only [go_sem, HA, simprocAttr, Jf, eqV, e0, e1, e2]; rfl) ?_
        exact begun rfl _ (by simp only [go_sem, HA, simprocAttr] <;> rfl) (by simp only [go_sem, HA, simprocAttr] <;> rfl) (by simp only [go_sem, HA, simprocAttr] <;> rfl) (by simp only [go_sem, HA, simprocAttr] <;> rfl) (by simp only [go_sem, HA, simprocAttr] <;> rfl)
      · refine HB 1000 (by simp only [go_sem, HA, simprocAttr, Jf, eqV, e0, e1, e2]; rfl) ?_
        exact begun rfl _ (by simp only [go_sem, HA, simprocAttr] <;> rfl) (by simp only [go_sem, HA, simprocAttr] <;> rfl) (by simp only [go_sem, HA, simprocAttr] <;> rfl) (by simp only [go_sem, HA, simprocAttr] <;> rfl) (by simp only [go_sem, HA, simprocAttr] <;> rfl)
    · have e2 : ¬ 0 = width := fun h => hw h.symm
      refine HB 1000 (by simp only [go_sem, HA, Nat.reduceAdd, Nat.reduceLT, Nat.reduceEqDiff, reduceIte, reduceCtorEq, Int.reduceLT, Int.reduceBEq, Int.reduceGE, Int.reduceEq, Int.reduceAdd, Nat.reduceLeDiff, Jf, eqV, e0, e1, e2]; rfl) ?_
      refine HC ⟨_, by simp only [go_sem, HA, Nat.reduceAdd, Nat.reduceLT, Nat.reduceEqDiff, reduceIte, reduceCtorEq, Int.reduceLT, Int.reduceBEq, Int.reduceGE, Int.reduceEq, Int.reduceAdd, Nat.reduceLeDiff, Jf]; rfl, ?_⟩
      exact h1 fun h => hw h.symm
  · by_cases hw : pat.length = width
    · rcases hs.hb.inv with ⟨rfl, h0, _⟩ | ⟨b, rfl, hSb, _⟩
      · rw [h0] at begun
        refine HB 1000 (by simp only [go_sem, HA, simprocAttr, Jf, eqV, e0, e1, hw]; rfl) ?_
        exact begun hw _ (by simp only [go_sem, HA, simprocAttr, hw] <;> rfl) (by simp only [go_sem, HA, simprocAttr] <;> rfl) (by simp only [go_sem, HA, simprocAttr] <;> rfl) (by simp only [go_sem, HA, simprocAttr] <;> rfl) (by simp only [go_sem, HA, simprocAttr] <;> rfl)
      · refine HB 1000 (by simp only [go_sem, HA, simprocAttr, Jf, eqV, e0, e1, hw]; rfl) ?_
        exact begun hw _ (by simp only [go_sem, HA, simprocAttr, hw] <;> rfl) (by simp only [go_sem, HA, simprocAttr] <;> rfl) (by simp only [go_sem, HA, simprocAttr] <;> rfl) (by simp only [go_sem, HA, simprocAttr] <;> rfl) (by simp only [go_sem, HA, simprocAttr] <;> rfl)
    · refine HB 1000 (by simp only [go_sem, HA, simprocAttr, Jf, eqV, e0, e1, hw]; rfl) ?_
      refine HC ⟨_, by simp only [go_sem, HA, simprocAttr, Jf]; rfl, ?_⟩
      exact h1 hw
end
section
open Go.AE
variable {tab:Tab}
theorem JmC (k:Nat):(List.replicate k [V.int .i64 0]).flatten=rowC (List.replicate k 0):=by
 induction k with
 | zero=>rfl
 | succ k ih=>rw[List.replicate_succ,List.flatten_cons,ih,List.replicate_succ];rfl
theorem Ji8 (rows:Fy)(k:Nat):(rows.filter fun x=>fitsR x (List.replicate k 0))=rows:=by
 rw[List.filter_eq_self];intro x _;exact Jf2 x k
theorem ListOf.weaken {N M:Nat}{rows:Fy}{cs:List V}{S:Fw}(h:ListOf N w v rows cs S T)(hM:M≤N):ListOf M w v rows cs S T:=
 ⟨h.1,h.2.1,fun x hx=>by have:=h.2.2.1 x hx;exact⟨by omega,this.2.1,this.2.2⟩,fun x hx=>by have:=h.2.2.2 x hx;exact⟨by omega,this.2⟩⟩
theorem all_ok (C:Codes tab){S:Fw}{p:V}{width:Nat}{rows:Fy}(hs:SetOf S aw p width rows)(hn:rows.length≤1000000)(h:∀v w cs S1 T1,ListOf aw.next w v rows cs S1 T1→Frm (fun _=>False) aw w→K v w):WF tab V9 [p] aw K:=by
 obtain⟨bp,lv,cs,S0,T,rfl,hs⟩:=hs;refine HL C.Xc rfl ?_;have w4:=hs.w4;have e0:=hs.load0;have c1:width≤70368744177664:=Fh;have c2:width*8≤70368744177664:=Fh;refine Fz (by simp only[go_sem,HA,simprocAttr,Xb,eqV,e0,c1,c2,JmC];rfl) ?_;refine HD Ff Fe ?_;have hf:Frm (fun _=>False) aw (aw.fresh (rowC (List.replicate width 0))):=Frm.new _ _;have hs':SetOf S (aw.fresh (rowC (List.replicate width 0))) (.ptr bp 0) width rows:=⟨bp,lv,cs,S0,T,rfl,hs.frm hf fun _ _ h=>h⟩;refine match_ok C (pat:=List.replicate width 0) hs' (.blk (T:=fun b=>b=aw.next) rfl (FV _) AE.T.get_put_same (.inl rfl) Fj) hn (by simp;omega) (fun h=>absurd Fj h) ?_;intro _ v w cs' S1 T1 hl hf2;rw[Ji8]at hl;refine HB 1000 Fe ?_;refine HC ⟨_,by simp only[go_sem,HA,simprocAttr,Xb];rfl,?_⟩;exact h _ _ _ _ _ (hl.weaken (Nat.le_succ _)) (hf.trans hf2 (fun _ _ h=>h) fun _ _ h=>h)
end
end Go.Proofs.YtegdcbdicpfbpaaDoor.Rel
namespace Go.Proofs.YtegdcbdicpfbpaaDoor.Val
open Go.AE Delphi
variable {tab:Tab}
section
open Go.AE Delphi
variable {tab:Tab}
structure FcW (aw:AW) (nm:List Nat) (av v:V) (S:Fw) (out:List Tk) (w:AW):Prop where
 a:CB w aw.next [.str nm,av]
 b:Bt S w v 3 out.length (Jb5 out)
 s:∀x,S x→aw.next<x∧x<w.next
 f:Frm (fun _=>False) aw w
 may:∀t∈out,TkPr t
 len:out.length≤6
theorem FcW.step {aw:AW}{nm:List Nat}{av v:V}{S:Fw}{out:List Tk}{w w':AW}(h:FcW aw nm av v S out w)(hf:Frm (fun _=>False) w w'):FcW aw nm av v S out w':=
 ⟨h.a.frm hf fun h=>h,h.b.frm hf fun _ _ h=>h,fun x hx=>⟨(h.s x hx).1,FK (h.s x hx).2 hf.next⟩,h.f.tr hf,h.may,h.len⟩
theorem JnV (l:List Tk):(Jb5 l).length=l.length*3:=by
 induction l with
 | nil=>rfl
 | cons x l ih=>show (tkC x++Jb5 l).length=_;rw[FE,ih,FC];show 3+_=_;omega
end
section
open Go.AE Delphi
variable {tab:Tab}
theorem Tk.ext' {a b:Tk}(h1:a.k=b.k)(h2:a.s=b.s)(h3:a.n=b.n):a=b:=by
 cases a;cases b;simp only at h1 h2 h3;subst h1;subst h2;subst h3;rfl
instance tkDec:DecidableEq Tk:=fun a b =>
 if h:a.k=b.k∧a.s=b.s∧a.n=b.n then isTrue (Tk.ext' h.1 h.2.1 h.2.2) else isFalse fun e=>h (by rw [e];exact ⟨rfl,rfl,rfl⟩)
theorem Jmv (a b:Tk):P0 a b=decide (a=b):=by
 unfold P0;by_cases h:a=b
 ·subst h;simp[JhU]
 ·rw[decide_eq_false h];cases h1:(a.k==b.k)with
  | false=>rfl
  | true=>cases h2:eqL a.s b.s with
   | false=>rfl
   | true=>cases h3:(a.n==b.n)with
    | false=>rfl
    | true=>exact absurd (Tk.ext' (eq_of_beq h1) (eqL_iff.1 h2) (eq_of_beq h3)) h
def tkV (t:Tk):V:=.agg (tkC t)
def JkT (n:Nat):V:=.int .i64 (Int.ofNat n)
theorem Jn4:KeyE (.cells [.int,.str,.int]) tkV:=⟨fun a b=>by
 show P3 _ (tkC a) (tkC b)=_;rw[←Jmv];simp only[tkC,P3,JaR,P0,if_true];cases (a.k==b.k)<;>cases eqL a.s b.s<;>cases (a.n==b.n)<;>rfl,fun _=>rfl⟩
def JaW:Nat→List Tk→List (Tk×Nat)
 | _,[]=>[]
 | k,c::r=>(c,k)::JaW (k+1) r
theorem Jg2:∀(l:List Tk) (k:Nat) (c:Tk),JaW k (l++[c])=JaW k l++[(c,k+l.length)]
 | [],k,c=>rfl
 | x::l,k,c=>by
  simp only[List.cons_append,JaW,Jg2 l (k+1) c,FC]
  congr 3;simp;omega
theorem aget_numF:∀{l:List Tk} {k:Nat} {c:Tk},(HE (JaW k l) c=none↔c∉l)
 | [],k,c=>by simp[JaW,HE]
 | x::l,k,c=>by
  simp only[JaW,HE];by_cases h:c=x
  ·simp[h]
  ·rw[if_neg h,aget_numF];simp[h]
def Ja5 (l:List Tk) (c:Tk):Nat:=(HE (JaW 1 l) c).getD 0
theorem JfH {l:List Tk}{c:Tk}(h:c∈l):HE (JaW 1 l) c=some (Ja5 l c):=by
 unfold Ja5;cases hx:HE (JaW 1 l) c with
 | none=>exact absurd h (aget_numF.1 hx)
 | some v=>rfl
structure TabW (tb mb:Nat) (v:V) (S:Fw) (ts:List Tk) (w:AW):Prop where
 a:CB w tb [.map mb,v]
 m:MB tkV JkT w mb (JaW 1 ts)
 b:Bt S w v 3 ts.length (Jb5 ts)
 s:∀x,S x→x<w.next∧x≠tb∧x≠mb
 ne:mb≠tb
variable {tb mb:Nat} {v:V} {S:Fw} {ts:List Tk}
theorem TabW.step {T:Fw}{w w':AW}(h:TabW tb mb v S ts w)(hf:Frm T w w')(h1:¬T tb)(h2:¬T mb)(h3:∀x,S x→¬T x):TabW tb mb v S ts w':=
 ⟨h.a.frm hf h1,h.m.frm hf h2,h.b.frm hf h3,fun x hx=>⟨FK (h.s x hx).1 hf.next,(h.s x hx).2⟩,h.ne⟩
theorem TabW.step0 {w w':AW}(h:TabW tb mb v S ts w)(hf:Frm (fun _=>False) w w'):TabW tb mb v S ts w':=h.step hf (fun h=>h) (fun h=>h) fun _ _ h=>h
variable {aw:AW} {K:V→AW→Prop}
theorem new_ok (C:Codes tab)(h:∀w,TabW (aw.next+1) aw.next .nilslice (fun _=>False) [] w→Frm (fun _=>False) aw w→K (.ptr (aw.next+1) 0) w):WF tab Wq [] aw K:=by
 refine HL C.Yv rfl ?_;have hm:=MB.new (ke:=tkV) (ve:=JkT) aw;have fm:=Ja4 (S:=fun _=>False) aw;have n1:(aw.new (.map [] 0)).next=aw.next+1:=rfl;obtain⟨w1,e1,c1,r1,m1⟩:=PU (aw.new (.map [] 0)) [.map aw.next,.nilslice];have hov:over [V.nilmap,V.nilslice] 0 [V.map aw.next]=some [V.map aw.next,V.nilslice]:=rfl;refine Fz (by simp only[go_sem,HA,simprocAttr,Yu,HI,HQ,hov,HN,FY,JbQ,e1,n1];rfl) ?_;refine HC ⟨_,by simp only[go_sem,HA,simprocAttr,Yu];rfl,?_⟩;rw[n1]at c1;subst e1;exact h _ ⟨c1,hm.frm r1 fun h=>h,.nil,fun _ h=>h.elim,by omega⟩ (fm.tr r1)
theorem len_ok (C:Codes tab)(hT:TabW tb mb v S ts aw)(h:K (.int .i64 (Int.ofNat ts.length)) aw):WF tab WH [.ptr tb 0] aw K:=by
 refine HL C.We rfl ?_;have l1:=CB.ld hT.a 1 1 _ rfl;have hlv:=hT.b.lenV;have hp:eqV .ptr (.ptr tb 0) .nilptr=some false:=rfl;refine Fz (by simp only[go_sem,HA,simprocAttr,Wc,l1,hlv,hp];rfl) ?_;refine HC ⟨_,by simp only[go_sem,HA,simprocAttr,Wc];rfl,?_⟩;exact h
theorem JoY (C:Codes tab){i:Int}(hT:TabW tb mb v S ts aw)(hlen:ts.length≤100000)(hi : -100000≤i∧i≤100000)(h:∀w t,Frm (fun _=>False) aw w→(∀k:Nat,i=Int.ofNat (k+1)→k<ts.length→ts[k]? = some t)→(i<1∨i>Int.ofNat ts.length→t=⟨0,[],0⟩)→K (.agg (tkC t)) w):WF tab V4 [.ptr tb 0,.int .i64 i] aw K:=by
 refine HL C.YR rfl ?_;have hp:eqV .ptr (.ptr tb 0) .nilptr=some false:=rfl;obtain⟨w1,e1,c1,r1,m1⟩:=PU aw [.int .i64 0,.str [],.int .i64 0];have hT1:=hT.step0 r1;have l1:=CB.ld hT1.a 1 1 _ rfl;have hlv:=hT1.b.lenV
 have fin:∀t:Tk,∃w2,w1.store aw.next 0 (tkC t)=some w2∧w2.load aw.next 0 3=some (tkC t)∧Frm (fun _=>False) aw w2:=fun t =>
  ⟨_,c1.setAll (vs:=tkC t) rfl rfl,(H3 (l:=tkC t) c1.lt).all (n:=3) rfl,r1.trans HO (fun _ _ h=>h) (by rintro x hx rfl;omega)⟩
 obtain⟨w2,s2,k2,f2⟩:=fin ⟨0,[],0⟩;have s2:w1.store aw.next 0 [.int .i64 0,.str [],.int .i64 0]=some w2:=s2;have k2:w2.load aw.next 0 3=some [.int .i64 0,.str [],.int .i64 0]:=k2;by_cases h1:i<1
 ·refine Fz (by simp only[go_sem,HA,simprocAttr,JP,hp,e1,h1,HI,HQ,over,HN,FC,FD,s2];rfl) ?_;refine HC ⟨_,by simp only[go_sem,HA,simprocAttr,JP,k2];rfl,?_⟩;exact h w2 ⟨0,[],0⟩ f2 (fun k hk=>by rw[hk]at h1;have:((k+1:Nat):Int)<1:=h1;omega) fun _=>rfl
 by_cases h2:i>Int.ofNat ts.length
 ·refine Fz (by simp only[go_sem,HA,simprocAttr,JP,hp,e1,h1,l1,hlv,h2,HI,HQ,over,HN,FC,FD,s2];rfl) ?_;refine HC ⟨_,by simp only[go_sem,HA,simprocAttr,JP,k2];rfl,?_⟩;exact h w2 ⟨0,[],0⟩ f2 (fun k hk hl=>by rw[hk]at h2;have:((k+1:Nat):Int)>(ts.length:Int):=h2;omega) fun _=>rfl
 obtain⟨k,rfl⟩:∃k:Nat,i=Int.ofNat (k+1):=⟨i.toNat-1,by show _=((i.toNat-1+1:Nat):Int);omega⟩;have hk:k<ts.length:=by have:¬(((k+1:Nat):Int)>(ts.length:Int)):=h2;omega
 have hwr:IntKind.wrap .i64 (Int.ofNat (k+1)-1)=Int.ofNat k:=by
  rw[show Int.ofNat (k+1)-1=Int.ofNat k by show ((k+1:Nat):Int)-1=(k:Int);omega];exact JaX (by show (-9223372036854775808:Int)≤(k:Int);omega) (by show (k:Int)≤_;omega)
 obtain⟨t,ht⟩:∃t,ts[k]? = some t:=⟨_,FB hk⟩;obtain⟨b,o,c,rfl,hTb,hbl,a3⟩:=Jmw hT1.b.rd ht;obtain⟨w3,s3,k3,f3⟩:=fin t;refine Fz (by simp only[go_sem,HA,simprocAttr,JP,hp,e1,h1,l1,hlv,h2,hwr,hk,a3,Jbg,s3];rfl) ?_;refine HC ⟨_,by simp only[go_sem,HA,simprocAttr,JP,k3];rfl,?_⟩;exact h w3 t f3 (fun k' hk' hl=>by have e:Int.ofNat (k+1)=Int.ofNat (k'+1):=hk';have:k+1=k'+1:=Int.ofNat.inj e;obtain rfl:k=k':=(by omega);exact ht) fun hc=>by rcases hc with hc|hc;exact absurd hc h1;exact absurd hc h2
end
section
open Go.AE Delphi
variable {tab:Tab}
theorem id_ok (C:Codes tab){tb mb:Nat}{v:V}{S:Fw}{ts:List Tk}{c:Tk}{aw:AW}{K:V→AW→Prop}(hT:TabW tb mb v S ts aw)(hlen:ts.length≤100000)(hc:TkOk c)(h0:HY c=false→∀w,Frm (fun _=>False) aw w→K (.int .i64 0) w)(h1:HY c=true→c∈ts→∀w,Frm (fun _=>False) aw w→K (.int .i64 (Int.ofNat (Ja5 ts c))) w)(h2:HY c=true→c∉ts→∀w v' S',TabW tb mb v' S' (ts++[c]) w→Frm (fun x=>S x∨x=tb∨x=mb) aw w→(∀x,S' x→S x∨aw.next≤x)→K (.int .i64 (Int.ofNat (ts.length+1))) w):WF tab JJ [.ptr tb 0,.agg (tkC c)] aw K:=by
 refine HL C.YA rfl ?_;have hp:eqV .ptr (.ptr tb 0) .nilptr=some false:=rfl;obtain⟨w1,e1,c1,r1,m1⟩:=PU aw (tkC c);have k1:=c1.all (n:=3) rfl;refine Fz (by simp only[go_sem,HA,simprocAttr,Zc,hp,e1,k1];rfl) ?_;refine HD Ff Fe ?_;refine Jpz C hc fun w2 g2=>?_;have c2:=c1.frm g2 fun h=>h;have k2:=c2.all (n:=3) rfl;have f2:=r1.tr g2;cases hm:HY c with
 | false =>
  refine HB 1000 Fe ?_;refine HC ⟨_,by simp only[go_sem,HA,simprocAttr,Zc];rfl,?_⟩;exact h0 hm w2 f2
 | true =>
 have hT2:=hT.step0 f2;have l0:=CB.ld hT2.a 0 1 _ rfl;have l1:=CB.ld hT2.a 1 1 _ rfl;have hlook:w2.lookV (.cells [.int,.str,.int]) (.int .i64 0) (.map mb) (.agg (tkC c))=some (JeK JkT (.int .i64 0) (HE (JaW 1 ts) c)):=hT2.m.look Jn4 (.int .i64 0) c;by_cases hin:c∈ts
 ·rw[JfH hin]at hlook;have hlook:w2.lookV (.cells [.int,.str,.int]) (.int .i64 0) (.map mb) (.agg (tkC c))=some (.int .i64 (Int.ofNat (Ja5 ts c)),true):=hlook;refine Fz (by simp only[go_sem,HA,simprocAttr,l0,k2,hlook];rfl) ?_;refine HC ⟨_,by simp only[go_sem,HA,simprocAttr,Zc];rfl,?_⟩;exact h1 hm hin w2 f2
 ·rw[aget_numF.2 hin]at hlook;have hlook:w2.lookV (.cells [.int,.str,.int]) (.int .i64 0) (.map mb) (.agg (tkC c))=some (.int .i64 0,false):=hlook;have g3:=HU (S:=fun _=>False) w2 (tkC c);have hT3:=hT2.step0 g3;have l1':=CB.ld hT3.a 1 1 _ rfl;have hel:(w2.fresh (tkC c)).elems 3 (.slice w2.next 0 1 (.known 1))=some (1,tkC c):=PG Fh rfl;have hov:over [V.int .i64 0,V.str [],V.int .i64 0] 0 (tkC c)=some (tkC c):=rfl;obtain⟨v',w4,S4,u1,u2,u3,u4⟩:=hT3.b.addN (news:=tkC c) (k:=1) (bytes:=32) Fh rfl rfl Fh Fh;have c4:=hT3.a.frm u3 fun h=>((hT3.s _ h).2.1 rfl).elim;have s4:w4.store tb 1 [v']=some (w4.put tb [.map mb,v']):=c4.set (i:=1) (v:=v') Fj u2.one.1;have c5:CB (w4.put tb [.map mb,v']) tb _:=H3 (l:=[V.map mb,v']) c4.lt;have f5:=HO (w:=w4) (b:=tb) (l:=[V.map mb,v']);refine Fz (by simp only[go_sem,HA,simprocAttr,l0,k2,hlook,UG];rfl) ?_;refine Pp ?_;refine H0 100 (by simp only[go_sem,HA,simprocAttr,l1,k2,Jbg,HI,HQ,hov,FC,FD,hel,u1,s4,u2.one.2];rfl) ?_;refine Pr ⟨(show HW _ _ [(4,6)]from by simp only[go_sem,HA,simprocAttr,HW,chk,List.reverse_cons,List.reverse_nil,Pk,Pv,Pt,Pu,List.getElem?_nil,false_or,or_true,or_false,exists_eq',FP,Prod.mk.injEq,Bool.true_eq_false,FM,and_true,true_and,implies_true,l1,l1']),?_⟩;have hta:=hT.a.lt;have hma:=hT.m.lt;have hSn:∀x,S x→x<aw.next:=fun x hx=>(hT.s x hx).1;have ct:=(c2.frm g3 fun h=>h).frm u3 fun h=>by have:=hSn _ h;omega
  have ct:=ct.frm f5 Fh;have m5:=((hT3.m.frm u3 fun h=>((hT3.s _ h).2.2 rfl).elim).frm f5 hT.ne)
  have b5:Bt S4 (w4.put tb [.map mb,v']) v' 3 (ts.length+1) (Jb5 ts++tkC c):=u2.frm f5 fun x hx h=>by
   obtain⟨q1,q2⟩:=u4 x hx;rcases q2 with q2|q2
   ·exact (hT3.s x q2).2.1 h
   ·have n3:(w2.fresh (tkC c)).next=w2.next+1:=rfl;have:=f2.next;omega
  have r5:Frm (fun x=>S x∨x=tb∨x=mb) aw (w4.put tb [.map mb,v']) :=
   ((f2.tr g3).no.trans u3 (fun _ _ h=>h) fun x _ h=> .inl h).trans f5 (fun _ _ h=>h) fun x _ h=> .inr (.inl h)
  have n3:(w2.fresh (tkC c)).next=w2.next+1:=rfl;have n2:=f2.next;have n5:(w4.put tb [.map mb,v']).next=w4.next:=rfl;generalize w4.put tb [.map mb,v']=w5 at *;have j1:=CB.ld c5 1 1 _ rfl;have j0:=CB.ld c5 0 1 _ rfl;have hlv:=b5.lenV;have kt:=ct.all (n:=3) rfl;obtain⟨w6,p1,p2,p3,p4⟩:=m5.put Jn4 c (ts.length+1);have p1:w5.putV (.cells [.int,.str,.int]) (.map mb) (.agg (tkC c)) (.int .i64 (Int.ofNat (ts.length+1)))=some w6:=p1;refine Fz (by simp only[go_sem,HA,simprocAttr,j1,j0,hlv,kt,p1];rfl) ?_;refine HC ⟨_,by simp only[go_sem,HA,simprocAttr,Zc];rfl,?_⟩;have hput:Pj (JaW 1 ts) c (ts.length+1)=JaW 1 (ts++[c]):=by rw[Jdb (aget_numF.2 hin),Jg2,Kw 1]
  rw[hput]at p2;refine h2 hm hin w6 v' S4 ⟨c5.frm p3 (fun h=>hT.ne h.symm),p2,?_,fun x hx=>?_,hT.ne⟩ (r5.trans p3 (fun _ _ h=>h) fun x _ h=> .inr (.inr h)) fun x hx=>?_
  ·have:Jb5 (ts++[c])=Jb5 ts++tkC c:=by simp[Jb5]
   rw[this,FE]
   exact b5.frm p3 fun x hx h=>by
    obtain⟨q1,q2⟩:=u4 x hx;rcases q2 with q2|q2
    ·exact (hT3.s x q2).2.2 h
    ·omega
  ·obtain⟨q1,q2⟩:=u4 x hx;refine⟨by omega,?_⟩;rcases q2 with q2|q2
   ·exact (hT3.s x q2).2
   ·exact⟨by omega,by omega⟩
  ·rcases (u4 x hx).2 with q2|q2
   ·exact .inl q2
   ·exact .inr Fh
end
end Go.Proofs.YtegdcbdicpfbpaaDoor.Val
