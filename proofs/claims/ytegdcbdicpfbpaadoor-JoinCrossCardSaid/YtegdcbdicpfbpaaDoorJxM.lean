/- A part of the proof. -/
import Derived.Test.YtegdcbdicpfbpaaDoorJxH
import Derived.Test.YtegdcbdicpfbpaaDoorJxJ
import Derived.Test.YtegdcbdicpfbpaaDoorJxL
open Int renaming ofNat → Fq
open Go.IntKind renaming wrap → KX
set_option linter.unusedVariables false
set_option linter.unusedSimpArgs false
namespace Go.AE
theorem Fb {p:Prop} (h:p:=by simp only [go_sem,Hn]<;>rfl):p:=h
theorem Fe {p:Prop} (h:p:=by simp only [go_sem,Hn];rfl):p:=h
theorem Ff {p:Prop} (h:p:=by simp only [go_sem,Hn]):p:=h
theorem Fg {α:Type} {a b c:α} (f:b=c) (h:a=b:=by first|(simp only [go_sem,Hn];done)|rfl):a=c:=h.trans f
end Go.AE
namespace Go.Proofs.YtegdcbdicpfbpaaDoor.Rel
open Go.AE
variable {tab:Tab}
def Lp (a b:Int):Int:=if a<b then -1 else if b<a then 1 else 0
def H0:List Int→List Int→Int
 | [],[]=>0
 | [],_::_=>-1
 | _::_,[]=>1
 | a::l,b::m=>if Lp a b=0 then H0 l m else Lp a b
def rowC (l:List Int):List V:=l.map (V.int .i64)
inductive RowV (T:Nat→Prop) (w:AW):V→List Int→Prop
 | nil:RowV T w .nilslice []
 | blk {b n:Nat} {c:Cap} {l:List Int} {sh:Share} (hT:T b) (hb:b<w.next) (hx:w.heap.get b=some (.cells (rowC l) sh)) (ha:Al T w b sh) (hn:l.length=n):RowV T w (.slice b 0 n c) l
variable {T:Fw} {w:AW} {v:V} {l:List Int}
theorem RowV.mono {T':Fw}(h:RowV T w v l)(hs:∀x,T x→T' x):RowV T' w v l:=by
 cases h with
 | nil=>exact .nil
 | blk hT hb hx ha hn=>exact .blk (hs _ hT) hb hx (ha.mono hs) hn
theorem RowV.frm {S:Fw}{w':AW}(h:RowV T w v l)(hf:Frm S w w')(hd:∀x,T x→¬S x):RowV T w' v l:=by
 cases h with
 | nil=>exact .nil
 | blk hT hb hx ha hn=>exact .blk hT (FK hb hf.next) ((hf.heap _ hb (hd _ hT)).trans hx) (ha.frm hf hd) hn
theorem RowV.inv (h:RowV T w v l):(v = .nilslice∧l=[])∨∃b c,v = .slice b 0 l.length c∧T b∧b<w.next∧∃sh,w.heap.get b=some (.cells (rowC l) sh)∧Al T w b sh:=by
 cases h with
 | nil=>exact .inl ⟨rfl,rfl⟩
 | blk hT hb hx ha hn=>subst hn;exact .inr ⟨_,_,rfl,hT,hb,_,hx,ha⟩
theorem row_load {b i:Nat}{x:Int}(hx:∃sh,w.heap.get b=some (.cells (rowC l) sh)∧Al T w b sh)(hi:l[i]? = some x):w.load b (0+i*1) 1=some [.int .i64 x]:=by
 obtain⟨sh,hx,ha⟩:=hx;have hlt:i<l.length:=(List.getElem?_eq_some_iff.1 hi).1
 have e:(rowC l).drop i = .int .i64 x::(rowC l).drop (i+1):=by
  rw[FL (by simpa[rowC]using hlt)];rw[FB hlt]at hi;simp only[rowC,List.getElem_map,FX hi]
 simp only[AW.load,hx,ha.alive,FU,KA,e,HC]
variable {a:Int} {aw:AW} {K:V→AW→Prop}
theorem QT (C:Codes tab)(h:K (.bool false) aw):WF tab Ws [.int .i64 a] aw K:=by
 refine Hy C.XZ rfl ?_;have e:(a != a)=false:=Fj;refine Fz (by simp only[go_sem,Hn,XY,e];rfl) ?_;refine Hp ⟨_,by simp only[go_sem,Hn,XY];rfl,?_⟩;exact h
theorem Jlb (C:Codes tab){b:Int}(h:K (.int .i64 (Lp a b)) aw):WF tab V6 [.int .i64 a,.int .i64 b] aw K:=by
 refine Hy C.XR rfl ?_;refine Fz (by simp only[go_sem,Hn,Zo];rfl) ?_;refine Hq Ff Fe ?_;refine QT C ?_;refine Ho 1000 Fe ?_;refine Hq Ff Fe ?_;refine QT C ?_;by_cases h1:a<b
 ·rw[show Lp a b = -1 from if_pos h1]at h;refine Fz (by simp only[go_sem,Hn,h1];rfl) ?_;refine Hp ⟨_,by simp only[go_sem,Hn,Zo];rfl,?_⟩;exact h
 ·by_cases h2:b<a
  ·rw[show Lp a b=1 from by rw[Lp,if_neg h1,if_pos h2]]at h;have h3:a>b:=h2;refine Fz (by simp only[go_sem,Hn,h1,h3];rfl) ?_;refine Hp ⟨_,by simp only[go_sem,Hn,Zo];rfl,?_⟩;exact h
  ·rw[show Lp a b=0 from by rw[Lp,if_neg h1,if_neg h2]]at h;have h3:¬a>b:=h2;refine Fz (by simp only[go_sem,Hn,h1,h3];rfl) ?_;refine Hp ⟨_,by simp only[go_sem,Hn,Zo];rfl,?_⟩;exact h
theorem QX:∀(l:List Int),H0 l []=if 0<l.length then 1 else 0
 | []=>rfl
 | _::_=>rfl
variable {l1 l2:List Int}
theorem Jmt {i:Nat}{b:Int}(h1:l1[i]? = some a)(h2:l2[i]? = some b):H0 (l1.drop i) (l2.drop i)=if Lp a b=0 then H0 (l1.drop (i+1)) (l2.drop (i+1))else Lp a b:=by
 have k1:i<l1.length:=(List.getElem?_eq_some_iff.1 h1).1;have k2:i<l2.length:=(List.getElem?_eq_some_iff.1 h2).1;rw[FL k1,FL k2];rw[FB k1]at h1;rw[FB k2]at h2;rw[FX h1,FX h2];rfl
def Jrs (v1 v2:V) (l1 l2:List Int) (aw:AW) (q:Nat) (f:Fr) (w:AW):Prop :=
 ∃i,f.get 1=some v2∧f.get 9=some v1∧f.get 0=some v1∧f.get 10=some (.int .i64 (Fq l1.length))∧f.get 11=some (.int .i64 (Fq i))∧w=aw∧H0 l1 l2=H0 (l1.drop i) (l2.drop i)∧i≤l1.length∧i≤l2.length∧q=l1.length-i
theorem Jmv (C:Codes tab){U:Fw}{v1 v2:V}(r1:RowV T aw v1 l1)(r2:RowV U aw v2 l2)(hl1:l1.length≤1000)(hl2:l2.length≤1000)(h:K (.int .i64 (H0 l1 l2)) aw):WF tab V1 [v1,v2] aw K:=by
 refine Hy C.Xx rfl ?_;rcases r1.inv with⟨rfl,rfl⟩|⟨b1,c1,rfl,_,_,hx1⟩
 ·rcases r2.inv with⟨rfl,rfl⟩|⟨b2,c2,rfl,_,_,hx2⟩
  ·refine Fz (by simp only[go_sem,Hn,Jc];rfl) ?_;refine OQ ?_;refine Fz (by simp only[go_sem,Hn,Ju];rfl) ?_;refine Hp ⟨_,by simp only[go_sem,Hn,Jc];rfl,?_⟩;exact h
  ·refine Fz (by simp only[go_sem,Hn,Jc];rfl) ?_;refine OQ ?_;cases l2 with
   | nil =>
    refine Fz (by simp only[go_sem,Hn,Ju,FD];rfl) ?_;refine Hp ⟨_,by simp only[go_sem,Hn,Jc];rfl,?_⟩;exact h
   | cons x l2 =>
    have e:0<(x::l2).length:=Fj;refine Fz (by simp only[go_sem,Hn,Ju,e];rfl) ?_;refine Hp ⟨_,by simp only[go_sem,Hn,Jc];rfl,?_⟩;exact h
 rcases r2.inv with⟨rfl,rfl⟩|⟨b2,c2,rfl,_,_,hx2⟩
 ·rw[QX]at h;cases l1 with
  | nil =>
   refine Fz (by simp only[go_sem,Hn,Jc,FD];rfl) ?_;refine OQ ?_;refine Fz (by simp only[go_sem,Hn,Ju,FD];rfl) ?_;refine Hp ⟨_,by simp only[go_sem,Hn,Jc];rfl,?_⟩;exact h
  | cons x l1 =>
   have e:0<(x::l1).length:=Fj;rw[if_pos e]at h;refine Fz (by simp only[go_sem,Hn,Jc];rfl) ?_;refine OQ ?_;have e1:=row_load hx1 (i:=0) (x:=x) rfl;refine Fz (by simp only[go_sem,Hn,Ju,Xw,e,e1];rfl) ?_;refine Hp ⟨_,by simp only[go_sem,Hn,Jc];rfl,?_⟩;exact h
 refine Fz (by simp only[go_sem,Hn,Jc];rfl) ?_;refine OA (Jrs _ _ l1 l2 aw) ?_ l1.length ⟨0,Fb,Fb,Fb,Fb,Fb,rfl,by simp,by omega,by omega,by omega⟩;rintro q f w ⟨i,f1,f9,f0,f10,f11,rfl,hc,hi1,hi2,rfl⟩ ih;by_cases hlt:i<l1.length
 ·have g1:l1[i]? = some l1[i]:=FB hlt;have e1:=row_load hx1 g1;by_cases hlt2:l2.length≤i
  ·have e2:H0 l1 l2=1:=by
    rw[hc,List.drop_eq_nil_of_le hlt2,QX,if_pos (by rw[Kh];omega)]
   rw[e2]at h;refine Fz (by simp only[go_sem,Hn,Ju,Xw,f1,f9,f10,f11,hlt,hlt2,e1];rfl) ?_;refine Hp ⟨_,by simp only[go_sem,Hn,Jc];rfl,?_⟩;exact h
  ·have hlt3:i<l2.length:=Fh;have g2:l2[i]? = some l2[i]:=FB hlt3;have e2:=row_load hx2 g2;refine Fz (by simp only[go_sem,Hn,Ju,Xw,f1,f9,f10,f11,hlt,hlt2,hlt3,e1,e2];rfl) ?_;refine Hq Ff Fe ?_;refine Jlb C ?_;rw[Jmt g1 g2]at hc;by_cases hz:Lp l1[i] l2[i]=0
   ·rw[if_pos hz]at hc;rw[hz];have hwr:KX .i64 (Fq i+1)=Fq (i+1):=Hv Fh;have z0:((0:Int) != 0)=false:=rfl;refine Fz (by simp only[go_sem,Hn,z0,f0,f1,f9,f10,f11,hwr];rfl) ?_;exact ih _ _ _ Fh ⟨i+1,(Fg f1),(Fg f9),(Fg f0),(Fg f10),Fb,rfl,hc,by omega,by omega,rfl⟩
   ·rw[if_neg hz]at hc;rw[hc]at h;have z0:(Lp l1[i] l2[i] != 0)=true:=by simp[hz]
    refine Fz (by simp only[go_sem,Hn,z0,f0,f1,f9,f10,f11];rfl) ?_;refine Hp ⟨_,by simp only[go_sem,Hn,Jc];rfl,?_⟩;exact h
 ·have hie:i=l1.length:=Fh
  have hc2:H0 l1 l2=if l1.length<l2.length then -1 else 0:=by
   rw[hc,List.drop_eq_nil_of_le (by omega:l1.length≤i)];by_cases h2:l1.length<l2.length
   ·rw[if_pos h2,hie,FL h2];rfl
   ·rw[if_neg h2,List.drop_eq_nil_of_le Fh];rfl
  rw[hc2]at h;by_cases h2:l1.length<l2.length
  ·rw[if_pos h2]at h;refine Fz (by simp only[go_sem,Hn,Ju,f0,f1,f9,f10,f11,hlt,h2];rfl) ?_;refine Hp ⟨_,by simp only[go_sem,Hn,Jc];rfl,?_⟩;exact h
  ·rw[if_neg h2]at h;refine Fz (by simp only[go_sem,Hn,Ju,f0,f1,f9,f10,f11,hlt,h2];rfl) ?_;refine Hp ⟨_,by simp only[go_sem,Hn,Jc];rfl,?_⟩;exact h
theorem Q5 (C:Codes tab){U:Fw}{v1 v2:V}(r1:RowV T aw v1 l1)(r2:RowV U aw v2 l2)(hl1:l1.length≤1000)(hl2:l2.length≤1000)(h:K (.int .i64 (H0 l1 l2)) aw):WF tab Z8 [v1,v2] aw K:=by
 refine Hy C.Xv rfl ?_;refine Fz (by simp only[go_sem,Hn,Xu];rfl) ?_;refine Hq Ff Fe ?_;refine Jmv C r1 r2 hl1 hl2 ?_;refine Ho 1000 Fe ?_;refine Hp ⟨_,by simp only[go_sem,Hn,Xu];rfl,?_⟩;exact h
section
open Go.AE
variable {tab:Tab}
variable {b:Int}
theorem cmpI_zero:Lp a b=0↔a=b:=by
 unfold Lp;split
 ·constructor<;>intro h<;>omega
 ·split
  ·constructor<;>intro h<;>omega
  ·constructor<;>intro h<;>omega
theorem JnS:Lp a b<0↔a<b:=by
 unfold Lp;split
 ·constructor<;>intro h<;>omega
 ·split
  ·constructor<;>intro h<;>omega
  ·constructor<;>intro h<;>omega
theorem Aw {m:List Int}:H0 (a::l) (b::m)<0↔a<b∨(a=b∧H0 l m<0):=by
 simp only[H0];by_cases h:Lp a b=0
 ·rw[if_pos h];have:=cmpI_zero.1 h;constructor
  ·intro h';exact .inr ⟨this,h'⟩
  ·rintro (h'|h')
   ·omega
   ·exact h'.2
 ·rw[if_neg h,JnS];constructor
  ·exact .inl
  ·rintro (h'|h')
   ·exact h'
   ·exact absurd (cmpI_zero.2 h'.1) h
theorem Ia:∀{a b c:List Int},H0 a b<0→H0 b c<0→H0 a c<0
 | a,b,[],h1,h2=>by cases b<;>simp[H0]at h2
 | [],b,_::_,h1,h2=>by simp[H0]
 | x::a,[],_::_,h1,h2=>by simp[H0]at h1
 | x::a,y::b,z::c,h1,h2=>by
  rw[Aw]at h1 h2 ⊢;rcases h1 with h1|⟨h1,h1'⟩<;>rcases h2 with h2|⟨h2,h2'⟩
  ·left;omega
  ·left;omega
  ·left;omega
  ·right;exact⟨by omega,Ia h1' h2'⟩
theorem cmpL_zero:∀{a b:List Int},H0 a b=0↔a=b
 | [],[]=>by simp[H0]
 | [],_::_=>by simp[H0]
 | _::_,[]=>by simp[H0]
 | x::a,y::b=>by
  simp only[H0];by_cases h:Lp x y=0
  ·rw[if_pos h,cmpL_zero];have:=cmpI_zero.1 h;subst this;simp
  ·rw[if_neg h];have:x≠y:=fun e=>h (cmpI_zero.2 e);simp[h,this]
theorem N8:∀{a b:List Int},H0 a b<0∨a=b∨H0 b a<0
 | [],[]=>by simp
 | [],_::_=>by simp[H0]
 | _::_,[]=>by simp[H0]
 | x::a,y::b=>by
  rw[Aw,Aw];rcases N8 (a:=a) (b:=b)with h|h|h
  ·by_cases e:x=y
   ·exact .inl (.inr ⟨e,h⟩)
   ·by_cases e2:x<y
    ·exact .inl (.inl e2)
    ·exact .inr (.inr (.inl Fh))
  ·by_cases e:x=y
   ·exact .inr (.inl (by rw[e,h]))
   ·by_cases e2:x<y
    ·exact .inl (.inl e2)
    ·exact .inr (.inr (.inl Fh))
  ·by_cases e:x=y
   ·exact .inr (.inr (.inr ⟨e.symm,h⟩))
   ·by_cases e2:x<y
    ·exact .inl (.inl e2)
    ·exact .inr (.inr (.inl Fh))
theorem Jmu {a:List Int}:¬H0 a a<0:=by rw[cmpL_zero.2 rfl];omega
abbrev Rise (rows:Fy):Prop:=rows.Pairwise fun a b=>H0 a b<0
def posn (rows:Fy) (r:List Int):Nat:=(rows.takeWhile fun x=>decide (H0 x r<0)).length
theorem EQ (rows:Fy)(r:List Int):posn rows r≤rows.length:=(List.takeWhile_sublist _).length_le
theorem JkO:∀{rows:Fy} {r:List Int} {i:Nat},i≤rows.length→(∀(j:Nat) x,j<i→rows[j]? = some x→H0 x r<0)→(∀x,rows[i]? = some x→¬H0 x r<0)→posn rows r=i
 | [],r,i,hi,h1,h2=>by simp[posn];simp at hi;omega
 | x::rows,r,0,hi,h1,h2=>by
  have:=h2 x rfl;simp[posn,this]
 | x::rows,r,i+1,hi,h1,h2=>by
  have hx:=h1 0 x Fh rfl;have:=JkO (rows:=rows) (r:=r) (i:=i) (by simpa using hi) (fun j y hj hy=>h1 (j+1) y Fh (by simpa using hy)) (fun y hy=>h2 y (by simpa using hy));simp only[posn,List.takeWhile_cons,hx,decide_true,if_true,FC]at this ⊢;rw[this]
variable {rows:Fy} {r:List Int}
theorem JoE (hr:Rise rows){i:Nat}(hi:i≤rows.length)(h1:∀(j:Nat) x,j<i→rows[j]? = some x→H0 x r<0)(h2:∀x,rows[i]? = some x→¬H0 x r<0):(r∈rows)↔rows[i]? = some r:=by
 constructor
 ·intro hm;obtain⟨k,hk,e⟩:=List.mem_iff_getElem.1 hm;have e':rows[k]? = some r:=by rw[FB hk,e]
  have a1:¬k<i:=fun hlt=>Jmu (h1 k r hlt e');rcases KE i k with a2|a2
  ·have hi':i<rows.length:=Fh;have:=List.pairwise_iff_getElem.1 hr i k hi' hk a2;rw[e]at this;exact absurd this (h2 _ (FB hi'))
  ·have:k=i:=Fh;rw[←this];exact e'
 ·intro h;exact FI h
def RowsV (T:Fw) (w:AW) (cs:List V) (rows:Fy):Prop:=cs.length=rows.length∧∀(i:Nat) v l,cs[i]? = some v→rows[i]? = some l→RowV T w v l
variable {cs:List V}
theorem RowsV.mono {T':Fw}(h:RowsV T w cs rows)(hs:∀x,T x→T' x):RowsV T' w cs rows:=⟨h.1,fun i v l h1 h2=>(h.2 i v l h1 h2).mono hs⟩
theorem RowsV.frm {S:Fw}{w':AW}(h:RowsV T w cs rows)(hf:Frm S w w')(hd:∀x,T x→¬S x):RowsV T w' cs rows:=⟨h.1,fun i v l h1 h2=>(h.2 i v l h1 h2).frm hf hd⟩
theorem RowsV.at (h:RowsV T w cs rows){i:Nat}(hi:rows[i]? = some l):∃v,cs[i]? = some v∧RowV T w v l:=by
 have hlt:i<cs.length:=by rw[h.1];exact (List.getElem?_eq_some_iff.1 hi).1
 exact⟨cs[i],FB hlt,h.2 i _ _ (FB hlt) hi⟩
theorem Jo7 {n:Nat}(h:n<18446744073709551616):KX .u64 (Fq n)=Fq n:=by
 have e:Fq n=(n:Int):=rfl;have h1:KX .u64 (Fq n)=(Fq n) % 18446744073709551616:=by simp[KX,IntKind.bits,IntKind.signed]
 rw[h1,e];omega
theorem Jp6 {n:Nat}:SN .shr .u64 (Fq n) 1=some (.int .u64 (Fq (n / 2))):=by
 have e:(Fq n).fdiv (2 ^ (min (1:Int).toNat (IntKind.bits .u64)))=Fq (n / 2):=by
  show Int.fdiv (n:Int) 2=((n / 2:Nat):Int);rw[Int.fdiv_eq_ediv_of_nonneg _ Fh];omega
 simp only[SN,e];rfl
def Jrr (n:Nat) (rows:Fy) (lv rv:V) (r:List Int) (aw:AW) (q:Nat) (f:Fr) (w:AW):Prop :=
 ∃i j,f.get 0=some lv∧f.get 1=some rv∧f.get 2=some (.func (.func Z8) [] [])∧f.get 8=some (.int .i64 (Fq n))∧f.get 9=some (.int .i64 (Fq i))∧f.get 10=some (.int .i64 (Fq j))∧w=aw∧i≤j∧j≤n∧q=j-i∧
  (∀(k:Nat) x,k<i→rows[k]? = some x→H0 x r<0)∧(∀(k:Nat) x,j≤k→rows[k]? = some x→¬H0 x r<0)
theorem Rt (C:Codes tab){S U:Fw}{lv rv:V}(hb:Buf S aw lv 1 rows.length cs)(hv:RowsV T aw cs rows)(hr:RowV U aw rv r)(hrise:Rise rows)(hn:rows.length≤1000000)(hlen:∀x∈rows,x.length≤1000)(hlr:r.length≤1000)(h:K (.tuple [.int .i64 (Fq (posn rows r)),.bool (decide (r∈rows))]) aw):WF tab V0 [lv,rv,.func (.func Z8) [] []] aw K:=by
 refine Hy C.Xt rfl ?_;rcases hb.inv with⟨rfl,h0,hc⟩|⟨b,rfl,_,_⟩
 ·have:rows=[]:=List.length_eq_zero_iff.1 h0;subst this;refine Fz (by simp only[go_sem,Hn,JW];rfl) ?_;refine OQ ?_;refine Fz (by simp only[go_sem,Hn,ZW];rfl) ?_;refine Hp ⟨_,by simp only[go_sem,Hn,JW];rfl,?_⟩;have e:posn [] r=0:=rfl;have e2:decide (r∈([]:Fy))=false:=Fj;rw[e,e2]at h;exact h
 refine Fz (by simp only[go_sem,Hn,JW];rfl) ?_;refine OA (Jrr rows.length rows (.slice b 0 rows.length (.upTo 1)) rv r aw) ?_ rows.length ⟨0,rows.length,Fb,Fb,Fb,Fb,Fb,Fb,rfl,by omega,by omega,by omega,?_,?_⟩
 ·rintro q f w ⟨i,j,f0,f1,f2,f8,f9,f10,rfl,hij,hjn,rfl,hl,hg⟩ ih;by_cases hlt:i<j
  ·have w1:KX .i64 (Fq i+Fq j)=Fq (i+j):=CP Fh;have w2:KX .u64 (Fq (i+j))=Fq (i+j):=Jo7 Fh;have w3:KX .i64 (Fq ((i+j) / 2))=Fq ((i+j) / 2):=Oq (by have:Fq ((i+j) / 2)=(((i+j) / 2:Nat):Int):=rfl;omega) (by have:Fq ((i+j) / 2)=(((i+j) / 2:Nat):Int):=rfl;omega);have hh:(i+j) / 2<rows.length:=Fh;have g1:rows[(i+j) / 2]? = some rows[(i+j) / 2]:=FB hh;obtain⟨v,g2,g3⟩:=hv.at g1;have e1:=hb.load1 g2;refine Fz (by simp only[go_sem,Hn,ZW,GX,f0,f1,f2,f8,f9,f10,hlt,w1,w2,w3,Jp6,hh,e1];rfl) ?_;refine Hq Ff Fe ?_;refine Q5 C g3 hr (hlen _ (FI g1)) hlr ?_;by_cases hc:H0 rows[(i+j) / 2] r<0
   ·have w4:KX .i64 (Fq ((i+j) / 2)+1)=Fq ((i+j) / 2+1):=Hv Fh;refine Fz (by simp only[go_sem,Hn,hc,w4];rfl) ?_;refine ih (j-((i+j) / 2+1)) _ _ Fh ⟨(i+j) / 2+1,j,(Fg f0),(Fg f1),(Fg f2),(Fg f8),Fb,(Fg f10),rfl,by omega,hjn,rfl,?_,hg⟩;intro k x hk hx;by_cases hki:k<i
    ·exact hl k x hki hx
    ·by_cases hke:k=(i+j) / 2
     ·subst hke;rw[g1]at hx;cases hx;exact hc
     ·have hkl:=(List.getElem?_eq_some_iff.1 hx).1;have:=List.pairwise_iff_getElem.1 hrise k _ hkl hh Fh;rw[FB hkl]at hx;cases hx;exact Ia this hc
   ·refine Fz (by simp only[go_sem,Hn,hc];rfl) ?_;refine ih ((i+j) / 2-i) _ _ Fh ⟨i,(i+j) / 2,(Fg f0),(Fg f1),(Fg f2),(Fg f8),(Fg f9),Fb,rfl,by omega,by omega,rfl,hl,?_⟩;intro k x hk hx;by_cases hke:k=(i+j) / 2
    ·subst hke;rw[g1]at hx;cases hx;exact hc
    ·have hkl:=(List.getElem?_eq_some_iff.1 hx).1;have:=List.pairwise_iff_getElem.1 hrise _ k hh hkl Fh;rw[FB hkl]at hx;cases hx;exact fun hx=>hc (Ia this hx)
  ·have:i=j:=Fh;subst this;have hp:posn rows r=i:=JkO hjn hl (fun x hx=>hg i x (FH _) hx);have hm:=JoE hrise hjn hl (fun x hx=>hg i x (FH _) hx);rw[hp]at h;by_cases hin:i<rows.length
   ·have g1:rows[i]? = some rows[i]:=FB hin;obtain⟨v,g2,g3⟩:=hv.at g1;have e1:=hb.load1 g2;refine Fz (by simp only[go_sem,Hn,ZW,f0,f1,f2,f8,f9,f10,hlt,hin,e1];rfl) ?_;refine Hq Ff Fe ?_;refine Q5 C g3 hr (hlen _ (FI g1)) hlr ?_
    have e3:(H0 rows[i] r==0)=decide (r∈rows):=by
     rw[show (H0 rows[i] r==0)=decide (H0 rows[i] r=0)from rfl]
     congr 1
     rw[cmpL_zero,hm,g1];simp
    refine Fz (by simp only[go_sem,Hn,e3,f0,f1,f2,f8,f9,f10];rfl) ?_;refine Hp ⟨_,by simp only[go_sem,Hn,JW];rfl,?_⟩;exact h
   ·have e3:decide (r∈rows)=false:=by
     rw[decide_eq_false_iff_not,hm,List.getElem?_eq_none Fh];simp
    rw[e3]at h;refine Fz (by simp only[go_sem,Hn,ZW,f0,f1,f2,f8,f9,f10,hlt,hin];rfl) ?_;refine Hp ⟨_,by simp only[go_sem,Hn,JW];rfl,?_⟩;exact h
 ·intro k x hk;omega
 ·intro k x hk hx;have:=(List.getElem?_eq_some_iff.1 hx).1;omega
end
section
open Go.AE
variable {tab:Tab}
structure SetV (S:Fw) (w:AW) (bp:Nat) (width:Nat) (rows:Fy) (lv:V) (cs:List V) (S0 T:Fw):Prop where
 hp:S bp
 lt:bp<w.next
 hx:w.heap.get bp=some (.cells [.int .i64 (Fq width),lv] .own)
 h0:∀b,S0 b→S b∧b≠bp∧b<w.next
 hT:∀b,T b→S b∧b≠bp∧¬S0 b∧b<w.next
 hS:∀b,S b→b<w.next
 hb:Buf S0 w lv 1 rows.length cs
 hv:RowsV T w cs rows
 rise:Rise rows
 wid:∀x∈rows,x.length=width
 w4:width≤4
def SetOf (S:Fw) (w:AW) (p:V) (width:Nat) (rows:Fy):Prop:=∃bp lv cs S0 T,p = .ptr bp 0∧SetV S w bp width rows lv cs S0 T
variable {S S0:Fw} {bp width:Nat} {rows:Fy} {lv:V} {cs:List V}
theorem SetV.frm {R:Fw}{w':AW}(h:SetV S w bp width rows lv cs S0 T)(hf:Frm R w w')(hd:∀x,S x→¬R x):SetV S w' bp width rows lv cs S0 T where
 hp:=h.hp
 lt:=FK h.lt hf.next
 hx:=(hf.heap _ h.lt (hd _ h.hp)).trans h.hx
 h0 b hb:=⟨(h.h0 b hb).1,(h.h0 b hb).2.1,FK (h.h0 b hb).2.2 hf.next⟩
 hT b hb:=⟨(h.hT b hb).1,(h.hT b hb).2.1,(h.hT b hb).2.2.1,FK (h.hT b hb).2.2.2 hf.next⟩
 hS b hb:=FK (h.hS b hb) hf.next
 hb:=h.hb.frm hf fun x hx=>hd x (h.h0 x hx).1
 hv:=h.hv.frm hf fun x hx=>hd x (h.hT x hx).1
 rise:=h.rise
 wid:=h.wid
 w4:=h.w4
theorem SetOf.frm {R:Fw}{w':AW}{p:V}(h:SetOf S w p width rows)(hf:Frm R w w')(hd:∀x,S x→¬R x):SetOf S w' p width rows:=by
 obtain⟨bp,lv,cs,S0,T,rfl,h⟩:=h;exact⟨bp,lv,cs,S0,T,rfl,h.frm hf hd⟩
theorem SetV.load0 (h:SetV S w bp width rows lv cs S0 T):w.load bp 0 1=some [.int .i64 (Fq width)]:=by
 simp only[AW.load,h.hx,AW.alive,FY,HC]
theorem SetV.load1 (h:SetV S w bp width rows lv cs S0 T):w.load bp 1 1=some [lv]:=by
 simp only[AW.load,h.hx,AW.alive,List.drop_succ_cons,FY,HC]
variable {U:Fw} {rv:V} {r:List Int}
theorem Jkx (C:Codes tab)(hs:SetV S aw bp width rows lv cs S0 T)(hr:RowV U aw rv r)(hn:rows.length≤1000000)(hlr:r.length≤1000)(h1:r.length≠width→K (.tuple [.int .i64 (-1),.bool false]) aw)(h2:r.length=width→K (.tuple [.int .i64 (Fq (posn rows r)),.bool (decide (r∈rows))]) aw):WF tab Wn [.ptr bp 0,rv] aw K:=by
 refine Hy C.ZI rfl ?_;have e0:=hs.load0;have e1:=hs.load1;have w4:=hs.w4;have hl:∀x∈rows,x.length≤1000:=fun x hx=>by have:=hs.wid x hx;omega
 rcases hr.inv with⟨rfl,rfl⟩|⟨b,c,rfl,_⟩
 ·by_cases hw:width=0
  ·subst hw;have e2:((0:Int) != Fq 0)=false:=rfl;refine Fz (by simp only[go_sem,Hn,Jh,eqV,e0,e1,e2];rfl) ?_;refine Hq Ff Fe ?_;refine Rt C hs.hb hs.hv hr hs.rise hn hl hlr ?_;refine Ho 1000 Fe ?_;refine Hp ⟨_,by simp only[go_sem,Hn,Jh];rfl,?_⟩;exact h2 rfl
  ·have e2:¬0=width:=fun h=>hw h.symm;refine Fz (by simp only[go_sem,Hn,Jh,eqV,e0,e1,e2];rfl) ?_;refine Hp ⟨_,by simp only[go_sem,Hn,Jh];rfl,?_⟩;exact h1 fun h=>hw h.symm
 ·by_cases hw:r.length=width
  ·refine Fz (by simp only[go_sem,Hn,Jh,eqV,e0,e1,hw];rfl) ?_;refine Hq Ff Fe ?_;refine Rt C hs.hb hs.hv (hw▸hr) hs.rise hn hl hlr ?_;refine Ho 1000 Fe ?_;refine Hp ⟨_,by simp only[go_sem,Hn,Jh];rfl,?_⟩;exact h2 hw
  ·refine Fz (by simp only[go_sem,Hn,Jh,eqV,e0,e1,hw];rfl) ?_;refine Hp ⟨_,by simp only[go_sem,Hn,Jh];rfl,?_⟩;exact h1 hw
theorem Jnc {b:Nat}{c:Cap}{sh:Share}(hx:w.heap.get b=some (.cells (rowC l) sh))(ha:Al T w b sh):w.elems 1 (.slice b 0 l.length c)=some (l.length,rowC l):=by
 cases l with
 | nil=>rfl
 | cons x l =>
  simp only[AW.elems,FC,AW.load,hx,ha.alive,FY];rw[Ir _ _ (by simp[rowC])]
theorem QW (C:Codes tab)(hr:RowV U aw rv r)(hlr:r.length≤1000)(h:∀v w,RowV (fun b=>aw.next≤b∧b<w.next) w v r→Frm (fun _=>False) aw w→K v w):WF tab Wo [rv] aw K:=by
 refine Hy C.Y1 rfl ?_;rcases hr.inv with⟨rfl,rfl⟩|⟨b,c,rfl,_,hb,sh,hx,ha⟩
 ·refine Fz (by simp only[go_sem,Hn,JK,eqV];rfl) ?_;refine Hp ⟨_,by simp only[go_sem,Hn,JK];rfl,?_⟩;exact h _ _ .nil (Frm.refl _)
 ·have hx':(aw.fresh []).heap.get b=some (.cells (rowC r) sh):=(T.get_put_ne Fh).trans hx;have hf:Frm (fun _=>False) aw (aw.fresh []):=Frm.new _ _;have he:=Jnc (c:=c) hx' (ha.frm hf fun _ _ h=>h);cases hrl:r.length with
  | zero =>
   have:r=[]:=List.length_eq_zero_iff.1 hrl;subst this;rw[FD]at he;refine Fz (by simp only[go_sem,Hn,JK,eqV,Hw,HF,FD,he,AW.appendV];rfl) ?_;refine Hp ⟨_,by simp only[go_sem,Hn,JK];rfl,?_⟩;refine h _ _ (.blk (n:=0) ⟨FH _,FV _⟩ (FV _) T.get_put_same (.inl rfl) rfl) hf
  | succ k =>
   have hap:(aw.fresh []).appendV 1 8 (.slice aw.next 0 0 (.known 0)) (k+1) (rowC r)=some (.slice (aw.next+1) 0 (k+1) (.upTo 1),(aw.fresh []).fresh (rowC r)):=by
    simp only[AW.appendV];rw[if_pos ⟨by omega,by omega,by omega⟩,if_neg Fh];simp only[AW.elems,FU,List.nil_append];rfl
   rw[hrl]at he;refine Fz (by simp only[go_sem,Hn,JK,eqV,Hw,HF,hrl,he,hap];rfl) ?_;refine Hp ⟨_,by simp only[go_sem,Hn,JK];rfl,?_⟩;refine h _ _ (.blk (n:=k+1) ⟨Nat.le_succ _,FV _⟩ (FV _) T.get_put_same (.inl rfl) hrl) (hf.trans (Frm.new _ _) (fun _ _ h=>h) fun _ _ h=>h)
theorem JmO (C:Codes tab)(hP:∀args aw v aw',Be 24 args aw=some (v,aw')→tab.prim J0 args aw v aw'){x:V}{n i bv:Nat}(hb:Buf S aw lv 1 n cs)(hi:i≤n)(hv:aw.heap.get bv=some (.cells [x] .own))(hne:¬S bv)(h1:x.one=true)(h2:HB cs=true)(hn:n≤1000000)(h:∀v w S',Buf S' w v 1 (n+1) (cs.take i++[x]++cs.drop i)→Frm S aw w→LC S S' aw w→K v w):WF tab J0 [lv,.int .i64 (Fq i),.slice bv 0 1 (.known 1)] aw K:=by
 have hel:aw.elems 1 (.slice bv 0 1 (.known 1))=some (1,[x]):=by simp only[AW.elems,AW.load,hv,AW.alive,FY,HC]
 have hcl:=hb.len;rw[KA]at hcl;have hone:HB [x]=true:=by simp[HB,h1]
 rcases hb.inv with⟨rfl,rfl,rfl⟩|⟨b,rfl,hSb,_⟩
 ·have:i=0:=Fh;subst this;obtain⟨v',w',S',q1,q2,q3,q4⟩:=hb.add (news:=[x]) (bytes:=24) Fh rfl hone Fh Fh
  have ev:WF tab J0 [.nilslice,.int .i64 (Fq 0),.slice bv 0 1 (.known 1)] aw K:=by
   refine Hy C.ZJ rfl ?_;have e0:idx (.int .i64 (Fq 0))=some 0:=rfl;have e1:(Fq 0==(0:Int))=true:=rfl;have e2:((1:Int)==0)=false:=rfl;refine Fz (by simp only[go_sem,Hn,Ze,e0,e1,e2,hel,q1,imp_self];rfl) ?_;refine Hp ⟨_,by simp only[go_sem,Hn,Ze];rfl,?_⟩;exact h _ _ _ q2 q3 q4
  exact ev
 ·by_cases hin:i<n
  ·obtain⟨v',w',S',q1,q2,q3,q4⟩:=hb.insert (bytes:=24) (k:=1) (i:=i) hin hv (fun e=>hne (e▸hSb)) h1 h2 Fh Fh;exact⟨_,_,.prim (hP _ _ _ _ q1),h _ _ _ q2 q3 q4⟩
  ·have:i=n:=Fh;subst this;obtain⟨v',w',S',q1,q2,q3,q4⟩:=hb.add (news:=[x]) (bytes:=24) Fh rfl hone Fh Fh;refine Hy C.ZJ rfl ?_;have e2:((1:Int)==0)=false:=rfl;refine Fz (by simp only[go_sem,Hn,Ze,AW.sliceW,OO,e2,hel,q1];rfl) ?_;refine Hp ⟨_,by simp only[go_sem,Hn,Ze];rfl,?_⟩;refine h _ _ _ ?_ q3 q4;rw[FW Fh,List.drop_eq_nil_of_le Fh,Kb];exact q2
def insR (rows:Fy) (r:List Int):Fy:=rows.take (posn rows r)++[r]++rows.drop (posn rows r)
theorem Jp2:∀(j:Nat) x,j<posn rows r→rows[j]? = some x→H0 x r<0:=by
 intro j x hj hx;unfold posn at hj;have hjl:=(List.getElem?_eq_some_iff.1 hx).1
 have h1:(rows.takeWhile fun x=>decide (H0 x r<0))[j]? = some x:=by
  have hp:=List.takeWhile_prefix (l:=rows) (fun x=>decide (H0 x r<0));obtain⟨t,ht⟩:=hp;rw[←ht,F4 hj]at hx;exact hx
 have:=FI h1;have ha:=List.all_eq_true.1 (List.all_takeWhile (l:=rows) (p:=fun x=>decide (H0 x r<0))) _ this;simpa using ha
theorem EP:∀{rows:Fy} {r:List Int} x,rows[posn rows r]? = some x→¬H0 x r<0
 | [],r,x,h=>by simp at h
 | y::rows,r,x,h=>by
  by_cases hy:H0 y r<0
  ·have e:posn (y::rows) r=posn rows r+1:=by simp[posn,hy]
   rw[e]at h;exact EP x (by simpa using h)
  ·have e:posn (y::rows) r=0:=by simp[posn,hy]
   rw[e]at h;simp at h;rw[←h];exact hy
theorem Jp1 (hr:Rise rows)(hn:r∉rows):∀(j:Nat) x,posn rows r≤j→rows[j]? = some x→H0 r x<0:=by
 intro j x hj hx;have hjl:=(List.getElem?_eq_some_iff.1 hx).1;have hpl:posn rows r<rows.length:=Fh
 have h1:¬H0 x r<0:=by
  by_cases he:j=posn rows r
  ·rw[he]at hx;exact EP x hx
  ·have h2:=EP (rows:=rows) (r:=r) _ (FB hpl);have h3:=List.pairwise_iff_getElem.1 hr _ j hpl hjl Fh;rw[FB hjl]at hx;cases hx;exact fun hx=>h2 (Ia h3 hx)
 rcases N8 (a:=r) (b:=x)with h|h|h
 ·exact h
 ·subst h;exact absurd (FI hx) hn
 ·exact absurd h h1
theorem JoQ (hr:Rise rows)(hn:r∉rows):Rise (insR rows r):=by
 have hlo:∀x∈rows.take (posn rows r),H0 x r<0:=by
  intro x hx;obtain⟨j,hj,e⟩:=List.mem_iff_getElem.1 hx;rw[FT]at hj;refine Jp2 (rows:=rows) j x Fh ?_;rw[List.getElem_take]at e;rw[FB Fh,e]
 have hhi:∀x∈rows.drop (posn rows r),H0 r x<0:=by
  intro x hx;obtain⟨j,hj,e⟩:=List.mem_iff_getElem.1 hx;rw[Kh]at hj;refine Jp1 hr hn (posn rows r+j) x Fh ?_;rw[List.getElem_drop]at e;rw[FB Fh,e]
 unfold insR Rise;rw[F5,List.pairwise_append];refine⟨List.Pairwise.sublist (List.take_sublist _ _) hr,?_,?_⟩
 ·rw[List.singleton_append,List.pairwise_cons];exact⟨hhi,List.Pairwise.sublist (List.drop_sublist _ _) hr⟩
 ·intro a ha b hb;rw[List.singleton_append,FJ]at hb;rcases hb with rfl|hb
  ·exact hlo a ha
  ·exact Ia (hlo a ha) (hhi b hb)
theorem mem_ins {x:List Int}:x∈insR rows r↔x=r∨x∈rows:=by
 unfold insR;rw[F5,F9,List.singleton_append,FJ]
 have:x∈rows↔x∈rows.take (posn rows r)∨x∈rows.drop (posn rows r):=by
  rw[←F9,List.take_append_drop]
 rw[this];constructor
 ·rintro (h|h|h)
  ·exact .inr (.inl h)
  ·exact .inl h
  ·exact .inr (.inr h)
 ·rintro (h|h|h)
  ·exact .inr (.inl h)
  ·exact .inl h
  ·exact .inr (.inr h)
theorem Jnd {i:Nat}(h:RowsV T w cs rows)(hv:RowV T w v r)(hi:i≤rows.length):RowsV T w (cs.take i++[v]++cs.drop i) (rows.take i++[r]++rows.drop i):=by
 have h1:=h.1;refine⟨by simp[h1],fun k x l hx hl=>?_⟩;rw[F5]at hx hl;by_cases hk:k<i
 ·rw[F4 (by simp;omega),Kr hk]at hx hl;exact h.2 k x l hx hl
 ·rw[F3 (by simp;omega)]at hx hl;have e1:(cs.take i).length=i:=by simp;omega
  have e2:(rows.take i).length=i:=by simp;omega
  rw[e1]at hx;rw[e2]at hl;by_cases hk2:k=i
  ·subst hk2;simp at hx hl;rw[←hx,←hl];exact hv
  ·obtain⟨m,hm⟩:∃m,k-i=m+1:=⟨k-i-1,by omega⟩;rw[hm]at hx hl;simp at hx hl;exact h.2 _ x l hx hl
theorem Jne (h:RowsV T w cs rows):HB cs=true:=by
 rw[Sl];intro v hv;obtain⟨i,hi,e⟩:=List.mem_iff_getElem.1 hv;have hi':i<rows.length:=by rw[←h.1];exact hi
 have:=h.2 i v _ (by rw[FB hi,e]) (FB hi');rcases this.inv with⟨rfl,_⟩|⟨b,c,rfl,_⟩<;>rfl
theorem RowV.cells (h:RowV T w v l):v.cells=[v]:=by
 rcases h.inv with⟨rfl,_⟩|⟨b,c,rfl,_⟩<;>rfl
theorem RowV.isOne (h:RowV T w v l):v.one=true:=by
 rcases h.inv with⟨rfl,_⟩|⟨b,c,rfl,_⟩<;>rfl
theorem add_ok (C:Codes tab)(hP:∀args aw v aw',Be 24 args aw=some (v,aw')→tab.prim J0 args aw v aw'){p:V}(hs:SetOf S aw p width rows)(hr:RowV U aw rv r)(hn:rows.length≤1000000)(hlr:r.length≤1000)(h1:¬(r.length=width∧r∉rows)→K (.bool false) aw)(h2:r.length=width→r∉rows→∀w S',SetOf S' w p width (insR rows r)→Frm S aw w→LC S S' aw w→K (.bool true) w):WF tab Wk [p,rv] aw K:=by
 obtain⟨bp,lv,cs,S0,T,rfl,hs⟩:=hs;refine Hy C.YF rfl ?_;refine Fz (by simp only[go_sem,Hn,J9];rfl) ?_;refine Hq Ff Fe ?_;refine Jkx C hs hr hn hlr ?_ ?_
 ·intro hw;have e1:decide ((-1:Int)<0)=true:=rfl;refine Fz (by simp only[go_sem,Hn,e1];rfl) ?_;refine Hp ⟨_,by simp only[go_sem,Hn,J9];rfl,?_⟩;exact h1 fun h=>hw h.1
 ·intro hw;by_cases hm:r∈rows
  ·have e1:¬posn rows r<0:=Fh;refine Fz (by simp only[go_sem,Hn,hm,e1];rfl) ?_;refine Hp ⟨_,by simp only[go_sem,Hn,J9];rfl,?_⟩;exact h1 fun h=>h.2 hm
  ·have e1:¬posn rows r<0:=Fh;refine Fz (by simp only[go_sem,Hn,hm,e1];rfl) ?_;have l1:=hs.load1;refine Pg ?_;refine HQ 100 (by simp only[go_sem,Hn,l1];rfl) ?_;refine Pp Ff Fe ?_;refine QW C hr hlr fun v w hv hf=>?_;have hvc:=hv.cells;refine HQ 100 (by simp only[go_sem,Hn,Hw,HF,over,hvc,FC,FD];rfl) ?_;refine Pp Ff Fe ?_;have hfa:Frm (fun _=>False) aw (w.fresh [v]):=hf.trans (Frm.new _ _) (fun _ _ h=>h) fun _ _ h=>h;have hsa:=hs.frm hfa fun _ _ h=>h;have hsw:=hs.frm hf fun _ _ h=>h;have hnS0:¬S0 w.next:=fun h=>by have:=(hs.h0 _ h).2.2;have:=hf.next;omega
   refine JmO C hP hsa.hb (i:=posn rows r) (EQ _ _) (AE.T.get_put_same (k:=w.next)) hnS0 hv.isOne (Jne hsa.hv) hn fun lv' w2 S' q1 q2 q3=>?_;have hbp2:¬S0 bp:=fun h=>(hs.h0 _ h).2.1 rfl;have hx2:w2.heap.get bp=some (.cells [.int .i64 (Fq width),lv] .own):=(q2.heap _ hsa.lt hbp2).trans hsa.hx;have l2:w2.load bp 1 1=some [lv]:=by simp only[AW.load,hx2,AW.alive,List.drop_succ_cons,FY,HC]
   have hlv':lv'.one=true:=by rcases q1.inv with⟨rfl,_⟩|⟨b,rfl,_⟩<;>rfl
   have hlc':lv'.cells=[lv']:=by rcases q1.inv with⟨rfl,_⟩|⟨b,rfl,_⟩<;>rfl
   have hst:=Av (i:=1) (v:=lv') hx2 Fj hlv';refine HQ 100 (by simp only[go_sem,Hn,hlc',hst,FC,FD];rfl) ?_;have la:=hsa.load1;have lw:=hsw.load1;refine Pk ⟨(show HP _ _ [(4,7),(4,8)]from by simp only[go_sem,Hn,HP,chk,List.reverse_cons,List.reverse_nil,H9,Po,Pm,Pn,List.getElem?_nil,false_or,or_true,or_false,exists_eq',FP,Prod.mk.injEq,Bool.true_eq_false,FM,and_true,true_and,implies_true,l1,la,lw]),?_⟩;refine Ho 1000 Fe ?_;refine Hp ⟨_,by simp only[go_sem,Hn,J9];rfl,?_⟩;have hnx:(w.fresh [v]).next=w.next+1:=rfl;have hn1:=hf.next;have hn2:=q2.next;have hlt:=hs.lt;have hturn:Frm (fun b=>b=bp) w2 (w2.turn bp (.cells ([.int .i64 (Fq width),lv].set 1 lv') .own)):=OI rfl (.inl rfl);have hvf:RowV (fun b=>aw.next≤b∧b<w.next) (w.fresh [v]) v r:=hv.frm (S:=fun _=>False) (Frm.new _ _) fun _ _ h=>h;have hv2:RowV (fun b=>aw.next≤b∧b<w.next) w2 v r:=hvf.frm q2 fun x hx h=>by have:=(hs.h0 x h).2.2;omega
   have hr2:RowsV T w2 cs rows:=hsa.hv.frm q2 fun x hx h=>(hs.hT x hx).2.2.1 h;refine h2 hw hm _ (fun b=>S b∨(aw.next≤b∧b<w2.next)) ⟨bp,lv',cs.take (posn rows r)++[v]++cs.drop (posn rows r),S',fun b=>T b∨(aw.next≤b∧b<w.next),rfl,?_⟩ ?_ ?_
   ·refine⟨.inl hs.hp,?_,AE.T.get_put_same,?_,?_,?_,?_,?_,JoQ hs.rise hm,?_,hs.w4⟩
    ·show bp<w2.next;omega
    ·intro b hb;obtain⟨g1,g2⟩:=q3 b hb;rcases g2 with g2|g2
     ·have:=hs.h0 b g2;exact⟨.inl this.1,this.2.1,g1⟩
     ·exact⟨.inr ⟨by omega,g1⟩,by omega,g1⟩
    ·rintro b (hb|hb)
     ·have:=hs.hT b hb;refine⟨.inl this.1,this.2.1,fun h=>?_,FK this.2.2.2 (show aw.next≤w2.next by omega)⟩;rcases (q3 b h).2 with g|g
      ·exact this.2.2.1 g
      ·have:=this.2.2.2;omega
     ·refine⟨.inr ⟨hb.1,by omega⟩,by omega,fun h=>?_,show b<w2.next by omega⟩;rcases (q3 b h).2 with g|g
      ·have:=(hs.h0 b g).2.2;omega
      ·omega
    ·rintro b (hb|hb)
     ·have:=hs.hS b hb;show b<w2.next;omega
     ·exact hb.2
    ·have e:(insR rows r).length=rows.length+1:=by
      have:=EQ rows r;simp[insR];omega
     rw[e];refine q1.frm hturn fun x hx h=>?_;subst h;rcases (q3 x hx).2 with g|g
     ·exact hbp2 g
     ·omega
    ·refine Jnd ((hr2.mono fun x h=> .inl h).frm hturn fun x hx h=>?_) ((hv2.mono fun x h=> .inr h).frm hturn fun x hx h=>?_) (EQ _ _)
     ·subst h;rcases hx with g|g
      ·exact (hs.hT _ g).2.1 rfl
      ·omega
     ·subst h;rcases hx with g|g
      ·exact (hs.hT _ g).2.1 rfl
      ·omega
    ·intro x hx;rcases mem_ins.1 hx with rfl|hx
     ·exact hw
     ·exact hs.wid x hx
   ·refine (hfa.trans q2 (U:=S) (fun _ _ h=>h.elim) fun x _ h=>(hs.h0 x h).1).trans hturn (fun _ _ h=>h) ?_;rintro x _ rfl;exact hs.hp
   ·rintro b (hb|hb)
    ·exact⟨by have:=hs.hS b hb;show b<w2.next;omega,.inl hb⟩
    ·exact⟨hb.2,.inr hb.1⟩
end
section
open Go.AE
variable {tab:Tab}
variable {width:Nat}
theorem has_ok (C:Codes tab){S U:Fw}{p rv:V}{rows:Fy}{r:List Int}(hs:SetOf S aw p width rows)(hr:RowV U aw rv r)(hn:rows.length≤1000000)(hlr:r.length≤1000)(h:K (.bool (decide (r∈rows))) aw):WF tab Z7 [p,rv] aw K:=by
 obtain⟨bp,lv,cs,S0,T,rfl,hs⟩:=hs;refine Hy C.ZV rfl ?_;refine Fz (by simp only[go_sem,Hn,JV];rfl) ?_;refine Hq Ff Fe ?_;refine Jkx C hs hr hn hlr ?_ ?_
 ·intro hw;have:decide (r∈rows)=false:=decide_eq_false fun h=>hw (hs.wid r h);rw[this]at h;refine Ho 1000 Fe ?_;refine Hp ⟨_,by simp only[go_sem,Hn,JV];rfl,?_⟩;exact h
 ·intro hw;refine Ho 1000 Fe ?_;refine Hp ⟨_,by simp only[go_sem,Hn,JV];rfl,?_⟩;exact h
theorem len_ok (C:Codes tab){S:Fw}{p:V}{rows:Fy}(hs:SetOf S aw p width rows)(h:K (.int .i64 (Fq rows.length)) aw):WF tab Yb [p] aw K:=by
 obtain⟨bp,lv,cs,S0,T,rfl,hs⟩:=hs;refine Hy C.XO rfl ?_;have l1:=hs.load1;rcases hs.hb.inv with⟨rfl,h0,_⟩|⟨b,rfl,hSb,_⟩
 ·refine Fz (by simp only[go_sem,Hn,Zm,l1,eqV];rfl) ?_;refine Hp ⟨_,by simp only[go_sem,Hn,Zm];rfl,?_⟩;rw[h0]at h;exact h
 ·refine Fz (by simp only[go_sem,Hn,Zm,l1,eqV];rfl) ?_;refine Hp ⟨_,by simp only[go_sem,Hn,Zm];rfl,?_⟩;exact h
theorem new_ok (C:Codes tab)(hw:width≤4)(h:∀w,SetOf (fun b=>b=aw.next) w (.ptr aw.next 0) width []→Frm (fun _=>False) aw w→w.next=aw.next+1→K (.ptr aw.next 0) w):WF tab Wj [.int .i64 (Fq width)] aw K:=by
 refine Hy C.YE rfl ?_;have e1:¬width<0:=Fh;have e2:¬4<width:=Fh;refine Fz (by simp only[go_sem,Hn,YD,e1,e2,Hw,HF,over,V.cells,FC,FD];rfl) ?_;refine Hp ⟨_,by simp only[go_sem,Hn,YD];rfl,?_⟩;refine h _ ⟨aw.next,.nilslice,[],fun _=>False,fun _=>False,rfl,⟨rfl,FV _,AE.T.get_put_same,fun _ h=>h.elim,fun _ h=>h.elim,?_,.nil,⟨rfl,fun i v l h=>by simp at h⟩,.nil,fun x hx=>by simp at hx,hw⟩⟩ (Frm.new _ _) rfl;rintro b rfl;exact FV _
end
section
open Go.AE
variable {tab:Tab}
def fitsR:List Int→List Int→Bool
 | x::l,n::m=>!(decide (0<n)&&x != n)&&fitsR l m
 | _,_=>true
variable {x r:List Int}
theorem Jlt {i:Nat}{n:Int}(h1:x[i]? = some a)(h2:r[i]? = some n):fitsR (x.drop i) (r.drop i)=(!(decide (0<n)&&a != n)&&fitsR (x.drop (i+1)) (r.drop (i+1))):=by
 have k1:i<x.length:=(List.getElem?_eq_some_iff.1 h1).1;have k2:i<r.length:=(List.getElem?_eq_some_iff.1 h2).1;rw[FL k1,FL k2];rw[FB k1]at h1;rw[FB k2]at h2;rw[FX h1,FX h2];rfl
theorem RL:∀(x:List Int),fitsR x []=true
 | []=>rfl
 | _::_=>rfl
theorem Rb:∀(x:List Int) (k:Nat),fitsR x (List.replicate k 0)=true
 | [],0=>rfl
 | [],k+1=>rfl
 | _::_,0=>rfl
 | _::l,k+1=>by simp[List.replicate_succ,fitsR,Rb l k]
def Jru (xv rv:V) (x r:List Int) (aw:AW) (q:Nat) (f:Fr) (w:AW):Prop :=
 ∃i,f.get 0=some xv∧f.get 7=some rv∧f.get 8=some (.int .i64 (Fq r.length))∧f.get 9=some (.int .i64 (Fq i))∧w=aw∧fitsR x r=fitsR (x.drop i) (r.drop i)∧i≤r.length∧q=r.length-i
theorem JpH (C:Codes tab){U:Fw}{xv rv:V}(hx:RowV T aw xv x)(hr:RowV U aw rv r)(hl:x.length=r.length)(hlr:r.length≤1000)(h:K (.bool (fitsR x r)) aw):WF tab V5 [xv,rv] aw K:=by
 refine Hy C.XQ rfl ?_;rcases hr.inv with⟨rfl,rfl⟩|⟨b2,c2,rfl,_,_,hx2⟩
 ·rw[RL]at h;refine Fz (by simp only[go_sem,Hn,JA];rfl) ?_;refine OQ ?_;refine Fz (by simp only[go_sem,Hn,JX];rfl) ?_;refine Hp ⟨_,by simp only[go_sem,Hn,JA];rfl,?_⟩;exact h
 rcases hx.inv with⟨rfl,rfl⟩|⟨b1,c1,rfl,_,_,hx1⟩
 ·have:r=[]:=List.length_eq_zero_iff.1 (by simpa using hl.symm);subst this;refine Fz (by simp only[go_sem,Hn,JA,FD];rfl) ?_;refine OQ ?_;refine Fz (by simp only[go_sem,Hn,JX,FD];rfl) ?_;refine Hp ⟨_,by simp only[go_sem,Hn,JA];rfl,?_⟩;exact h
 refine Fz (by simp only[go_sem,Hn,JA];rfl) ?_;refine OA (Jru _ _ x r aw) ?_ r.length ⟨0,Fb,Fb,Fb,Fb,rfl,by simp,by omega,by omega⟩;rintro q f w ⟨i,f0,f7,f8,f9,rfl,hc,hi,rfl⟩ ih;by_cases hlt:i<r.length
 ·have hlx:i<x.length:=Fh;have g1:x[i]? = some x[i]:=FB hlx;have g2:r[i]? = some r[i]:=FB hlt;have e1:=row_load hx1 g1;have e2:=row_load hx2 g2;rw[Jlt g1 g2]at hc;have hwr:KX .i64 (Fq i+1)=Fq (i+1):=Hv Fh;by_cases hp:r[i]>0
  ·have hp':0<r[i]:=hp;by_cases he:x[i]=r[i]
   ·have e3:(x[i] != r[i])=false:=by simp[he]
    rw[e3,Bool.and_false,Bool.not_false,Bool.true_and]at hc;refine Fz (by simp only[go_sem,Hn,JX,XP,f0,f7,f8,f9,hlt,hlx,e1,e2,hp,e3,hwr];rfl) ?_;exact ih _ _ _ Fh ⟨i+1,(Fg f0),(Fg f7),(Fg f8),Fb,rfl,hc,by omega,rfl⟩
   ·have e3:(x[i] != r[i])=true:=by simp[he]
    rw[e3,decide_eq_true hp',Bool.and_true,Bool.not_true,Bool.false_and]at hc;rw[hc]at h;refine Fz (by simp only[go_sem,Hn,JX,XP,f0,f7,f8,f9,hlt,hlx,e1,e2,hp,e3,hwr];rfl) ?_;refine Hp ⟨_,by simp only[go_sem,Hn,JA];rfl,?_⟩;exact h
  ·have hp':¬0<r[i]:=hp;rw[decide_eq_false hp',Bool.false_and,Bool.not_false,Bool.true_and]at hc;refine Fz (by simp only[go_sem,Hn,JX,XP,f0,f7,f8,f9,hlt,hlx,e1,e2,hp,hwr];rfl) ?_;exact ih _ _ _ Fh ⟨i+1,(Fg f0),(Fg f7),(Fg f8),Fb,rfl,hc,by omega,rfl⟩
 ·rw[List.drop_eq_nil_of_le (by omega:r.length≤i),RL]at hc;rw[hc]at h;refine Fz (by simp only[go_sem,Hn,JX,f0,f7,f8,f9,hlt];rfl) ?_;refine Hp ⟨_,by simp only[go_sem,Hn,JA];rfl,?_⟩;exact h
def ListOf (N:Nat) (w:AW) (v:V) (rows:Fy) (cs:List V) (S T:Fw):Prop :=
 Buf S w v 1 rows.length cs∧RowsV T w cs rows∧(∀x,S x→N≤x∧x<w.next∧¬T x)∧(∀x,T x→N≤x∧x<w.next)
def Jrx (lv pv:V) (rows:Fy) (pat:List Int) (aw:AW) (q:Nat) (f:Fr) (w:AW):Prop :=
 ∃i v cs S T,f.get 1=some pv∧f.get 22=some lv∧f.get 23=some (.int .i64 (Fq rows.length))∧f.get 24=some (.int .i64 (Fq i))∧f.get 5=some v∧ListOf aw.next w v ((rows.take i).filter fun x=>fitsR x pat) cs S T∧Frm (fun _=>False) aw w∧i≤rows.length∧q=rows.length-i
theorem DU {rows:Fy}{i:Nat}{p:List Int→Bool}(h:rows[i]? = some x):(rows.take (i+1)).filter p=(rows.take i).filter p++if p x then [x]else []:=by
 rw[List.take_add_one,h,List.filter_append];simp only[Option.toList_some];by_cases hp:p x<;>simp[hp]
theorem match_ok (C : Codes tab) {S U : Nat → Prop} {p pv : V} {width : Nat} {rows : List (List Int)} {pat : List Int} {aw : AW} {K : V → AW → Prop} (hs : SetOf S aw p width rows) (hr : RowV U aw pv pat) (hn : rows.length ≤ 1000000) (hlr : pat.length ≤ 1000)
    (h1 : pat.length ≠ width → K .nilslice aw) (h2 : pat.length = width → ∀ v w cs S1 T1, ListOf aw.next w v (rows.filter fun x => fitsR x pat) cs S1 T1 → Frm (fun _ => False) aw w → K v w) : WF tab Zq [p, pv] aw K := by
  obtain ⟨bp, lv, cs, S0, T, rfl, hs⟩ := hs
  refine Hy C.ZS rfl ?_
  have e0 := hs.load0
  have e1 := hs.load1
  have begun : pat.length = width → ∀ fr : Fr, fr.get 1 = some pv → fr.get 22 = some lv → fr.get 23 = some (.int .i64 (Fq rows.length)) → fr.get 24 = some (.int .i64 (Fq 0)) → fr.get 5 = some .nilslice →
      WS tab [.code (.loop Xp), .endB 0, .code (.seq (.region [⟨some 37, none, .mov (.tmp 5)⟩, ⟨some 4, none, .mov (.tmp 37)⟩]) .ret)] fr aw (fun fr' aw' => ∃ vs, PQ fr' aw' Je.results = some vs ∧ K (H7 vs) aw') := by
    intro hw fr f1 f22 f23 f24 f5
    refine OA (Jrx lv pv rows pat aw) ?_ rows.length ⟨0, .nilslice, [], fun _ => False, fun _ => False, f1, f22, f23, f24, f5, ⟨.nil, ⟨rfl, fun i v l h => by simp at h⟩, fun _ h => h.elim, fun _ h => h.elim⟩, Frm.refl _, by omega, rfl⟩
    clear f1 f22 f23 f24 f5
    rintro q f w ⟨i, v, vs, S1, T1, f1, f22, f23, f24, f5, ⟨hb1, hv1, hS1, hT1⟩, hf, hi, rfl⟩ ih
    have hsw := hs.frm hf fun _ _ h => h
    by_cases hlt : i < rows.length
    · have g1 : rows[i]? = some rows[i] := List.getElem?_eq_getElem hlt
      obtain ⟨xv, g2, g3⟩ := hsw.hv.at g1
      have hwr : KX .i64 (Fq i + 1) = Fq (i + 1) := Hv (by omega)
      have hwx := hs.wid _ (List.mem_of_getElem? g1)
      have hrw := hr.frm hf fun _ _ h => h
      rcases hsw.hb.inv with ⟨_, h0, _⟩ | ⟨b, rfl, hSb, _⟩
      · omega
      have ld := hsw.hb.load1 g2
      refine Ho 1000 (by simp only [go_sem, Hn, Xp, GR, GQ, f1, f22, f23, f24, f5, hlt, ld]; rfl) ?_
      refine Hq (by simp only [go_sem, Hn]) (by simp only [go_sem, Hn]; rfl) ?_
      refine JpH C g3 hrw (by omega) hlr ?_
      by_cases hp : fitsR rows[i] pat = true
      · refine Ho 1000 (by simp only [go_sem, Hn, hp, f1, f22, f23, f24, f5]; rfl) ?_
        refine Hq (by simp only [go_sem, Hn]) (by simp only [go_sem, Hn]; rfl) ?_
        refine QW C g3 (by omega) fun v' w' hv' hf' => ?_
        have hvc := hv'.cells
        have hfa : Frm (fun _ => False) w (w'.fresh [v']) := hf'.trans (Frm.new _ _) (fun _ _ h => h) fun _ _ h => h
        have hel : (w'.fresh [v']).elems 1 (.slice w'.next 0 1 (.known 1)) = some (1, [v']) := by
          simp only [AW.elems, AW.load, AW.fresh, AW.new, AE.T.get_putk, if_true, AW.alive, List.drop_zero, HC]
        have hlen : ((rows.take i).filter fun x => fitsR x pat).length ≤ rows.length := Nat.le_trans (List.length_filter_le _ _) (by rw [List.length_take]; omega)
        obtain ⟨v2, w2, S2, q1, q2, q3, q4⟩ := (hb1.frm hfa fun _ _ h => h).add (news := [v']) (bytes := 24) (by omega) rfl (by simp [HB, hv'.isOne]) (by omega) (by omega)
        have hnx : (w'.fresh [v']).next = w'.next + 1 := rfl
        have hn1 := hf.next
        have hn2 := hf'.next
        have hn3 := q3.next
        refine Ho 1000 (by simp only [go_sem, Hn, Hw, HF, over, hvc, List.length_cons, List.length_nil, hel, q1, f1, f22, f23, f24, f5, hwr]; rfl) ?_
        refine ih (rows.length - (i + 1)) _ _ (by omega) ⟨i + 1, v2, vs ++ [v'], S2, fun x => T1 x ∨ (w.next ≤ x ∧ x < w'.next), (by simp only [go_sem, Hn, f1] <;> rfl), (by simp only [go_sem, Hn, f22] <;> rfl), (by simp only [go_sem, Hn, f23] <;> rfl), (by simp only [go_sem, Hn] <;> rfl), (by simp only [go_sem, Hn] <;> rfl), ⟨?_, ?_, ?_, ?_⟩, ?_, by omega, rfl⟩
        · rw [DU g1, if_pos hp, List.length_append]; exact q2
        · rw [DU g1, if_pos hp]
          have a1 : RowsV T1 w2 vs _ := (hv1.frm hfa fun _ _ h => h).frm q3 fun x hx h => (hS1 x h).2.2 hx
          have a2 : RowV (fun b => w.next ≤ b ∧ b < w'.next) w2 v' rows[i] := (hv'.frm (w' := w'.fresh [v']) (S := fun _ => False) (Frm.new _ _) fun _ _ h => h).frm q3 fun x hx h => by have := (hS1 x h).2.1; omega
          have hl1 := hv1.1
          refine ⟨by simp [hl1], fun k y l hy hl => ?_⟩
          by_cases hk : k < vs.length
          · rw [List.getElem?_append_left hk] at hy
            rw [List.getElem?_append_left (by omega)] at hl
            exact (a1.2 k y l hy hl).mono fun _ h => .inl h
          · rw [List.getElem?_append_right (by omega)] at hy hl
            rw [← hl1] at hl
            cases hkk : k - vs.length with
            | zero => rw [hkk] at hy hl; simp at hy hl; rw [← hy, ← hl]; exact a2.mono fun _ h => .inr h
            | succ m => rw [hkk] at hy; simp at hy
        · intro x hx
          obtain ⟨m1, m2⟩ := q4 x hx
          rcases m2 with m2 | m2
          · have := hS1 x m2
            exact ⟨this.1, m1, fun h => h.elim this.2.2 fun h => by omega⟩
          · refine ⟨by omega, m1, fun h => h.elim (fun h => ?_) fun h => by omega⟩
            have := hT1 x h; omega
        · rintro x (h | h)
          · have := hT1 x h; omega
          · omega
        · refine (hf.trans hfa (fun _ _ h => h) fun _ _ h => h).trans q3 (fun _ _ h => h) fun x hx h => ?_
          have := (hS1 x h).1; omega
      · have hp' : fitsR rows[i] pat = false := by simpa using hp
        refine Ho 1000 (by simp only [go_sem, Hn, hp', f1, f22, f23, f24, f5, hwr]; rfl) ?_
        refine ih (rows.length - (i + 1)) _ _ (by omega) ⟨i + 1, v, vs, S1, T1, (by simp only [go_sem, Hn, f1] <;> rfl), (by simp only [go_sem, Hn, f22] <;> rfl), (by simp only [go_sem, Hn, f23] <;> rfl), (by simp only [go_sem, Hn] <;> rfl), (by simp only [go_sem, Hn, f5] <;> rfl), ?_, hf, by omega, rfl⟩
        rw [DU g1, if_neg (by simp [hp']), List.append_nil]
        exact ⟨hb1, hv1, hS1, hT1⟩
    · have e : rows.take i = rows := List.take_of_length_le (by omega)
      rw [e] at hb1 hv1
      refine Ho 1000 (by simp only [go_sem, Hn, Xp, f1, f22, f23, f24, f5, hlt]; rfl) ?_
      refine Hp ⟨_, by simp only [go_sem, Hn, Je, f5]; rfl, ?_⟩
      exact h2 hw _ _ _ _ _ ⟨hb1, hv1, hS1, hT1⟩ hf
  rcases hr.inv with ⟨rfl, rfl⟩ | ⟨b, c, rfl, _⟩
  · by_cases hw : width = 0
    · subst hw
      have e2 : ((0 : Int) != Fq 0) = false := rfl
      rcases hs.hb.inv with ⟨rfl, h0, _⟩ | ⟨b, rfl, hSb, _⟩
      · rw [h0] at begun
        refine Ho 1000 (by simp only [go_sem, Hn, Je, eqV, e0, e1, e2]; rfl) ?_
        exact begun rfl _ (by simp only [go_sem, Hn] <;> rfl) (by simp only [go_sem, Hn] <;> rfl) (by simp only [go_sem, Hn] <;> rfl) (by simp only [go_sem, Hn] <;> rfl) (by simp only [go_sem, Hn] <;> rfl)
      · refine Ho 1000 (by simp only [go_sem, Hn, Je, eqV, e0, e1, e2]; rfl) ?_
        exact begun rfl _ (by simp only [go_sem, Hn] <;> rfl) (by simp only [go_sem, Hn] <;> rfl) (by simp only [go_sem, Hn] <;> rfl) (by simp only [go_sem, Hn] <;> rfl) (by simp only [go_sem, Hn] <;> rfl)
    · have e2 : ¬ 0 = width := fun h => hw h.symm
      refine Ho 1000 (by simp only [go_sem, Hn, Je, eqV, e0, e1, e2]; rfl) ?_
      refine Hp ⟨_, by simp only [go_sem, Hn, Je]; rfl, ?_⟩
      exact h1 fun h => hw h.symm
  · by_cases hw : pat.length = width
    · rcases hs.hb.inv with ⟨rfl, h0, _⟩ | ⟨b, rfl, hSb, _⟩
      · rw [h0] at begun
        refine Ho 1000 (by simp only [go_sem, Hn, Je, eqV, e0, e1, hw]; rfl) ?_
        exact begun hw _ (by simp only [go_sem, Hn, hw] <;> rfl) (by simp only [go_sem, Hn] <;> rfl) (by simp only [go_sem, Hn] <;> rfl) (by simp only [go_sem, Hn] <;> rfl) (by simp only [go_sem, Hn] <;> rfl)
      · refine Ho 1000 (by simp only [go_sem, Hn, Je, eqV, e0, e1, hw]; rfl) ?_
        exact begun hw _ (by simp only [go_sem, Hn, hw] <;> rfl) (by simp only [go_sem, Hn] <;> rfl) (by simp only [go_sem, Hn] <;> rfl) (by simp only [go_sem, Hn] <;> rfl) (by simp only [go_sem, Hn] <;> rfl)
    · refine Ho 1000 (by simp only [go_sem, Hn, Je, eqV, e0, e1, hw]; rfl) ?_
      refine Hp ⟨_, by simp only [go_sem, Hn, Je]; rfl, ?_⟩
      exact h1 hw
end
section
open Go.AE
variable {tab:Tab}
theorem Jnw (k:Nat):(List.replicate k [V.int .i64 0]).flatten=rowC (List.replicate k 0):=by
 induction k with
 | zero=>rfl
 | succ k ih=>rw[List.replicate_succ,List.flatten_cons,ih,List.replicate_succ];rfl
theorem Jj2 (rows:Fy)(k:Nat):(rows.filter fun x=>fitsR x (List.replicate k 0))=rows:=by
 rw[List.filter_eq_self];intro x _;exact Rb x k
theorem ListOf.weaken {N M:Nat}{rows:Fy}{cs:List V}{S:Fw}(h:ListOf N w v rows cs S T)(hM:M≤N):ListOf M w v rows cs S T:=
 ⟨h.1,h.2.1,fun x hx=>by have:=h.2.2.1 x hx;exact⟨by omega,this.2.1,this.2.2⟩,fun x hx=>by have:=h.2.2.2 x hx;exact⟨by omega,this.2⟩⟩
theorem all_ok (C:Codes tab){S:Fw}{p:V}{width:Nat}{rows:Fy}(hs:SetOf S aw p width rows)(hn:rows.length≤1000000)(h:∀v w cs S1 T1,ListOf aw.next w v rows cs S1 T1→Frm (fun _=>False) aw w→K v w):WF tab VS [p] aw K:=by
 obtain⟨bp,lv,cs,S0,T,rfl,hs⟩:=hs;refine Hy C.Y0 rfl ?_;have w4:=hs.w4;have e0:=hs.load0;have c1:width≤70368744177664:=Fh;have c2:width*8≤70368744177664:=Fh;refine Fz (by simp only[go_sem,Hn,YZ,eqV,e0,c1,c2,Jnw];rfl) ?_;refine Hq Ff Fe ?_;have hf:Frm (fun _=>False) aw (aw.fresh (rowC (List.replicate width 0))):=Frm.new _ _;have hs':SetOf S (aw.fresh (rowC (List.replicate width 0))) (.ptr bp 0) width rows:=⟨bp,lv,cs,S0,T,rfl,hs.frm hf fun _ _ h=>h⟩;refine match_ok C (pat:=List.replicate width 0) hs' (.blk (T:=fun b=>b=aw.next) rfl (FV _) AE.T.get_put_same (.inl rfl) Fj) hn (by simp;omega) (fun h=>absurd Fj h) ?_;intro _ v w cs' S1 T1 hl hf2;rw[Jj2]at hl;refine Ho 1000 Fe ?_;refine Hp ⟨_,by simp only[go_sem,Hn,YZ];rfl,?_⟩;exact h _ _ _ _ _ (hl.weaken (Nat.le_succ _)) (hf.trans hf2 (fun _ _ h=>h) fun _ _ h=>h)
end
end Go.Proofs.YtegdcbdicpfbpaaDoor.Rel
set_option maxRecDepth 10000
namespace Go.Proofs.YtegdcbdicpfbpaaDoor.Val
open Go.AE Delphi
variable {tab:Tab}
section
open Go.AE Delphi
variable {tab:Tab}
structure FcW (aw:AW) (nm:List Nat) (av v:V) (S:Fw) (out:List Tk) (w:AW):Prop where
 a:CB w aw.next [.str nm,av]
 b:Bt S w v 3 out.length (Oi out)
 s:∀x,S x→aw.next<x∧x<w.next
 f:Frm (fun _=>False) aw w
 may:∀t∈out,TkPr t
 len:out.length≤6
theorem FcW.step {aw:AW}{nm:List Nat}{av v:V}{S:Fw}{out:List Tk}{w w':AW}(h:FcW aw nm av v S out w)(hf:Frm (fun _=>False) w w'):FcW aw nm av v S out w':=
 ⟨h.a.frm hf fun h=>h,h.b.frm hf fun _ _ h=>h,fun x hx=>⟨(h.s x hx).1,FK (h.s x hx).2 hf.next⟩,h.f.tr hf,h.may,h.len⟩
theorem Jo2 (l:List Tk):(Oi l).length=l.length*3:=by
 induction l with
 | nil=>rfl
 | cons x l ih=>show (tkC x++Oi l).length=_;rw[FE,ih,FC];show 3+_=_;omega
end
section
open Go.AE Delphi
variable {tab:Tab}
theorem Tk.ext' {a b:Tk}(h1:a.k=b.k)(h2:a.s=b.s)(h3:a.n=b.n):a=b:=by
 cases a;cases b;simp only at h1 h2 h3;subst h1;subst h2;subst h3;rfl
instance tkDec:DecidableEq Tk:=fun a b =>
 if h:a.k=b.k∧a.s=b.s∧a.n=b.n then isTrue (Tk.ext' h.1 h.2.1 h.2.2) else isFalse fun e=>h (by rw [e];exact ⟨rfl,rfl,rfl⟩)
theorem Jnq (a b:Tk):Bc a b=decide (a=b):=by
 unfold Bc;by_cases h:a=b
 ·subst h;simp[Q3]
 ·rw[decide_eq_false h];cases h1:(a.k==b.k)with
  | false=>rfl
  | true=>cases h2:eqL a.s b.s with
   | false=>rfl
   | true=>cases h3:(a.n==b.n)with
    | false=>rfl
    | true=>exact absurd (Tk.ext' (eq_of_beq h1) (eqL_iff.1 h2) (eq_of_beq h3)) h
def tkV (t:Tk):V:=.agg (tkC t)
def DN (n:Nat):V:=.int .i64 (Fq n)
theorem Jpc:KeyE (.cells [.int,.str,.int]) tkV:=⟨fun a b=>by
 show P0 _ (tkC a) (tkC b)=_;rw[←Jnq];simp only[tkC,P0,Ba,Bc,if_true];cases (a.k==b.k)<;>cases eqL a.s b.s<;>cases (a.n==b.n)<;>rfl,fun _=>rfl⟩
def KY:Nat→List Tk→List (Tk×Nat)
 | _,[]=>[]
 | k,c::r=>(c,k)::KY (k+1) r
theorem R8:∀(l:List Tk) (k:Nat) (c:Tk),KY k (l++[c])=KY k l++[(c,k+l.length)]
 | [],k,c=>rfl
 | x::l,k,c=>by
  simp only[List.cons_append,KY,R8 l (k+1) c,FC]
  congr 3;simp;omega
theorem aget_app {l m:List (Tk×Nat)}{c:Tk}:Hr (l++m) c=match Hr l c with|some v=>some v|none=>Hr m c:=by
 induction l with
 | nil=>rfl
 | cons x l ih =>
  obtain⟨a,b⟩:=x;simp only[List.cons_append,Hr];by_cases h:c=a
  ·simp[h]
  ·simp only[if_neg h,ih]
theorem aget_numF:∀{l:List Tk} {k:Nat} {c:Tk},(Hr (KY k l) c=none↔c∉l)
 | [],k,c=>by simp[KY,Hr]
 | x::l,k,c=>by
  simp only[KY,Hr];by_cases h:c=x
  ·simp[h]
  ·rw[if_neg h,aget_numF];simp[h]
def PE (l:List Tk) (c:Tk):Nat:=(Hr (KY 1 l) c).getD 0
theorem Da {l:List Tk}{c:Tk}(h:c∈l):Hr (KY 1 l) c=some (PE l c):=by
 unfold PE;cases hx:Hr (KY 1 l) c with
 | none=>exact absurd h (aget_numF.1 hx)
 | some v=>rfl
structure TabW (tb mb:Nat) (v:V) (S:Fw) (ts:List Tk) (w:AW):Prop where
 a:CB w tb [.map mb,v]
 m:MB tkV DN w mb (KY 1 ts)
 b:Bt S w v 3 ts.length (Oi ts)
 s:∀x,S x→x<w.next∧x≠tb∧x≠mb
 ne:mb≠tb
variable {tb mb:Nat} {v:V} {S:Fw} {ts:List Tk}
theorem TabW.step {T:Fw}{w w':AW}(h:TabW tb mb v S ts w)(hf:Frm T w w')(h1:¬T tb)(h2:¬T mb)(h3:∀x,S x→¬T x):TabW tb mb v S ts w':=
 ⟨h.a.frm hf h1,h.m.frm hf h2,h.b.frm hf h3,fun x hx=>⟨FK (h.s x hx).1 hf.next,(h.s x hx).2⟩,h.ne⟩
theorem TabW.step0 {w w':AW}(h:TabW tb mb v S ts w)(hf:Frm (fun _=>False) w w'):TabW tb mb v S ts w':=h.step hf (fun h=>h) (fun h=>h) fun _ _ h=>h
variable {aw:AW} {K:V→AW→Prop}
theorem new_ok (C:Codes tab)(h:∀w,TabW (aw.next+1) aw.next .nilslice (fun _=>False) [] w→Frm (fun _=>False) aw w→K (.ptr (aw.next+1) 0) w):WF tab Wg [] aw K:=by
 refine Hy C.Yp rfl ?_;have hm:=MB.new (ke:=tkV) (ve:=DN) aw;have fm:=Te (S:=fun _=>False) aw;have n1:(aw.new (.map [] 0)).next=aw.next+1:=rfl;obtain⟨w1,e1,c1,r1,m1⟩:=Lc (aw.new (.map [] 0)) [.map aw.next,.nilslice];have hov:over [V.nilmap,V.nilslice] 0 [V.map aw.next]=some [V.map aw.next,V.nilslice]:=rfl;refine Fz (by simp only[go_sem,Hn,Yo,Hw,HF,hov,HC,FY,Sq,e1,n1];rfl) ?_;refine Hp ⟨_,by simp only[go_sem,Hn,Yo];rfl,?_⟩;rw[n1]at c1;subst e1;exact h _ ⟨c1,hm.frm r1 fun h=>h,.nil,fun _ h=>h.elim,by omega⟩ (fm.tr r1)
theorem len_ok (C:Codes tab)(hT:TabW tb mb v S ts aw)(h:K (.int .i64 (Fq ts.length)) aw):WF tab Wt [.ptr tb 0] aw K:=by
 refine Hy C.X1 rfl ?_;have l1:=CB.ld hT.a 1 1 _ rfl;have hlv:=hT.b.lenV;have hp:eqV .ptr (.ptr tb 0) .nilptr=some false:=rfl;refine Fz (by simp only[go_sem,Hn,X0,l1,hlv,hp];rfl) ?_;refine Hp ⟨_,by simp only[go_sem,Hn,X0];rfl,?_⟩;exact h
theorem Jqa (C:Codes tab){i:Int}(hT:TabW tb mb v S ts aw)(hlen:ts.length≤100000)(hi : -100000≤i∧i≤100000)(h:∀w t,Frm (fun _=>False) aw w→(∀k:Nat,i=Fq (k+1)→k<ts.length→ts[k]? = some t)→(i<1∨i>Fq ts.length→t=⟨0,[],0⟩)→K (.agg (tkC t)) w):WF tab VM [.ptr tb 0,.int .i64 i] aw K:=by
 refine Hy C.YH rfl ?_;have hp:eqV .ptr (.ptr tb 0) .nilptr=some false:=rfl;obtain⟨w1,e1,c1,r1,m1⟩:=Lc aw [.int .i64 0,.str [],.int .i64 0];have hT1:=hT.step0 r1;have l1:=CB.ld hT1.a 1 1 _ rfl;have hlv:=hT1.b.lenV
 have fin:∀t:Tk,∃w2,w1.store aw.next 0 (tkC t)=some w2∧w2.load aw.next 0 3=some (tkC t)∧Frm (fun _=>False) aw w2:=fun t =>
  ⟨_,c1.setAll (vs:=tkC t) rfl rfl,(H1 (l:=tkC t) c1.lt).all (n:=3) rfl,r1.trans HN (fun _ _ h=>h) (by rintro x hx rfl;omega)⟩
 obtain⟨w2,s2,k2,f2⟩:=fin ⟨0,[],0⟩;have s2:w1.store aw.next 0 [.int .i64 0,.str [],.int .i64 0]=some w2:=s2;have k2:w2.load aw.next 0 3=some [.int .i64 0,.str [],.int .i64 0]:=k2;by_cases h1:i<1
 ·refine Fz (by simp only[go_sem,Hn,JH,hp,e1,h1,Hw,HF,over,HC,FC,FD,s2];rfl) ?_;refine Hp ⟨_,by simp only[go_sem,Hn,JH,k2];rfl,?_⟩;exact h w2 ⟨0,[],0⟩ f2 (fun k hk=>by rw[hk]at h1;have:((k+1:Nat):Int)<1:=h1;omega) fun _=>rfl
 by_cases h2:i>Fq ts.length
 ·refine Fz (by simp only[go_sem,Hn,JH,hp,e1,h1,l1,hlv,h2,Hw,HF,over,HC,FC,FD,s2];rfl) ?_;refine Hp ⟨_,by simp only[go_sem,Hn,JH,k2];rfl,?_⟩;exact h w2 ⟨0,[],0⟩ f2 (fun k hk hl=>by rw[hk]at h2;have:((k+1:Nat):Int)>(ts.length:Int):=h2;omega) fun _=>rfl
 obtain⟨k,rfl⟩:∃k:Nat,i=Fq (k+1):=⟨i.toNat-1,by show _=((i.toNat-1+1:Nat):Int);omega⟩;have hk:k<ts.length:=by have:¬(((k+1:Nat):Int)>(ts.length:Int)):=h2;omega
 have hwr:KX .i64 (Fq (k+1)-1)=Fq k:=by
  rw[show Fq (k+1)-1=Fq k by show ((k+1:Nat):Int)-1=(k:Int);omega];exact Oq (by show (-9223372036854775808:Int)≤(k:Int);omega) (by show (k:Int)≤_;omega)
 obtain⟨t,ht⟩:∃t,ts[k]? = some t:=⟨_,FB hk⟩;obtain⟨b,o,c,rfl,hTb,hbl,a3⟩:=Jnr hT1.b.rd ht;obtain⟨w3,s3,k3,f3⟩:=fin t;refine Fz (by simp only[go_sem,Hn,JH,hp,e1,h1,l1,hlv,h2,hwr,hk,a3,Bg,s3];rfl) ?_;refine Hp ⟨_,by simp only[go_sem,Hn,JH,k3];rfl,?_⟩;exact h w3 t f3 (fun k' hk' hl=>by have e:Fq (k+1)=Fq (k'+1):=hk';have:k+1=k'+1:=Int.ofNat.inj e;obtain rfl:k=k':=(by omega);exact ht) fun hc=>by rcases hc with hc|hc;exact absurd hc h1;exact absurd hc h2
end
section
open Go.AE Delphi
variable {tab:Tab}
theorem id_ok (C:Codes tab){tb mb:Nat}{v:V}{S:Fw}{ts:List Tk}{c:Tk}{aw:AW}{K:V→AW→Prop}(hT:TabW tb mb v S ts aw)(hlen:ts.length≤100000)(hc:TkOk c)(h0:HV c=false→∀w,Frm (fun _=>False) aw w→K (.int .i64 0) w)(h1:HV c=true→c∈ts→∀w,Frm (fun _=>False) aw w→K (.int .i64 (Fq (PE ts c))) w)(h2:HV c=true→c∉ts→∀w v' S',TabW tb mb v' S' (ts++[c]) w→Frm (fun x=>S x∨x=tb∨x=mb) aw w→(∀x,S' x→S x∨aw.next≤x)→K (.int .i64 (Fq (ts.length+1))) w):WF tab JY [.ptr tb 0,.agg (tkC c)] aw K:=by
 refine Hy C.Yt rfl ?_;have hp:eqV .ptr (.ptr tb 0) .nilptr=some false:=rfl;obtain⟨w1,e1,c1,r1,m1⟩:=Lc aw (tkC c);have k1:=c1.all (n:=3) rfl;refine Fz (by simp only[go_sem,Hn,J4,hp,e1,k1];rfl) ?_;refine Hq Ff Fe ?_;refine JqR C hc fun w2 g2=>?_;have c2:=c1.frm g2 fun h=>h;have k2:=c2.all (n:=3) rfl;have f2:=r1.tr g2;cases hm:HV c with
 | false =>
  refine Ho 1000 Fe ?_;refine Hp ⟨_,by simp only[go_sem,Hn,J4];rfl,?_⟩;exact h0 hm w2 f2
 | true =>
 have hT2:=hT.step0 f2;have l0:=CB.ld hT2.a 0 1 _ rfl;have l1:=CB.ld hT2.a 1 1 _ rfl;have hlook:w2.lookV (.cells [.int,.str,.int]) (.int .i64 0) (.map mb) (.agg (tkC c))=some (Tq DN (.int .i64 0) (Hr (KY 1 ts) c)):=hT2.m.look Jpc (.int .i64 0) c;by_cases hin:c∈ts
 ·rw[Da hin]at hlook;have hlook:w2.lookV (.cells [.int,.str,.int]) (.int .i64 0) (.map mb) (.agg (tkC c))=some (.int .i64 (Fq (PE ts c)),true):=hlook;refine Fz (by simp only[go_sem,Hn,l0,k2,hlook];rfl) ?_;refine Hp ⟨_,by simp only[go_sem,Hn,J4];rfl,?_⟩;exact h1 hm hin w2 f2
 ·rw[aget_numF.2 hin]at hlook;have hlook:w2.lookV (.cells [.int,.str,.int]) (.int .i64 0) (.map mb) (.agg (tkC c))=some (.int .i64 0,false):=hlook;have g3:=HJ (S:=fun _=>False) w2 (tkC c);have hT3:=hT2.step0 g3;have l1':=CB.ld hT3.a 1 1 _ rfl;have hel:(w2.fresh (tkC c)).elems 3 (.slice w2.next 0 1 (.known 1))=some (1,tkC c):=Pl Fh rfl;have hov:over [V.int .i64 0,V.str [],V.int .i64 0] 0 (tkC c)=some (tkC c):=rfl;obtain⟨v',w4,S4,u1,u2,u3,u4⟩:=hT3.b.addN (news:=tkC c) (k:=1) (bytes:=32) Fh rfl rfl Fh Fh;have c4:=hT3.a.frm u3 fun h=>((hT3.s _ h).2.1 rfl).elim;have s4:w4.store tb 1 [v']=some (w4.put tb [.map mb,v']):=c4.set (i:=1) (v:=v') Fj u2.one.1;have c5:CB (w4.put tb [.map mb,v']) tb _:=H1 (l:=[V.map mb,v']) c4.lt;have f5:=HN (w:=w4) (b:=tb) (l:=[V.map mb,v']);refine Fz (by simp only[go_sem,Hn,l0,k2,hlook,Uv];rfl) ?_;refine Pg ?_;refine HQ 100 (by simp only[go_sem,Hn,l1,k2,Bg,Hw,HF,hov,FC,FD,hel,u1,s4,u2.one.2];rfl) ?_;refine Pk ⟨(show HP _ _ [(4,6)]from by simp only[go_sem,Hn,HP,chk,List.reverse_cons,List.reverse_nil,H9,Po,Pm,Pn,List.getElem?_nil,false_or,or_true,or_false,exists_eq',FP,Prod.mk.injEq,Bool.true_eq_false,FM,and_true,true_and,implies_true,l1,l1']),?_⟩;have hta:=hT.a.lt;have hma:=hT.m.lt;have hSn:∀x,S x→x<aw.next:=fun x hx=>(hT.s x hx).1;have ct:=(c2.frm g3 fun h=>h).frm u3 fun h=>by have:=hSn _ h;omega
  have ct:=ct.frm f5 Fh;have m5:=((hT3.m.frm u3 fun h=>((hT3.s _ h).2.2 rfl).elim).frm f5 hT.ne)
  have b5:Bt S4 (w4.put tb [.map mb,v']) v' 3 (ts.length+1) (Oi ts++tkC c):=u2.frm f5 fun x hx h=>by
   obtain⟨q1,q2⟩:=u4 x hx;rcases q2 with q2|q2
   ·exact (hT3.s x q2).2.1 h
   ·have n3:(w2.fresh (tkC c)).next=w2.next+1:=rfl;have:=f2.next;omega
  have r5:Frm (fun x=>S x∨x=tb∨x=mb) aw (w4.put tb [.map mb,v']) :=
   ((f2.tr g3).no.trans u3 (fun _ _ h=>h) fun x _ h=> .inl h).trans f5 (fun _ _ h=>h) fun x _ h=> .inr (.inl h)
  have n3:(w2.fresh (tkC c)).next=w2.next+1:=rfl;have n2:=f2.next;have n5:(w4.put tb [.map mb,v']).next=w4.next:=rfl;generalize w4.put tb [.map mb,v']=w5 at *;have j1:=CB.ld c5 1 1 _ rfl;have j0:=CB.ld c5 0 1 _ rfl;have hlv:=b5.lenV;have kt:=ct.all (n:=3) rfl;obtain⟨w6,p1,p2,p3,p4⟩:=m5.put Jpc c (ts.length+1);have p1:w5.putV (.cells [.int,.str,.int]) (.map mb) (.agg (tkC c)) (.int .i64 (Fq (ts.length+1)))=some w6:=p1;refine Fz (by simp only[go_sem,Hn,j1,j0,hlv,kt,p1];rfl) ?_;refine Hp ⟨_,by simp only[go_sem,Hn,J4];rfl,?_⟩;have hput:Pe (KY 1 ts) c (ts.length+1)=KY 1 (ts++[c]):=by rw[Cv (aget_numF.2 hin),R8,Kz 1]
  rw[hput]at p2;refine h2 hm hin w6 v' S4 ⟨c5.frm p3 (fun h=>hT.ne h.symm),p2,?_,fun x hx=>?_,hT.ne⟩ (r5.trans p3 (fun _ _ h=>h) fun x _ h=> .inr (.inr h)) fun x hx=>?_
  ·have:Oi (ts++[c])=Oi ts++tkC c:=by simp[Oi]
   rw[this,FE]
   exact b5.frm p3 fun x hx h=>by
    obtain⟨q1,q2⟩:=u4 x hx;rcases q2 with q2|q2
    ·exact (hT3.s x q2).2.2 h
    ·omega
  ·obtain⟨q1,q2⟩:=u4 x hx;refine⟨by omega,?_⟩;rcases q2 with q2|q2
   ·exact (hT3.s x q2).2
   ·exact⟨by omega,by omega⟩
  ·rcases (u4 x hx).2 with q2|q2
   ·exact .inl q2
   ·exact .inr Fh
end
end Go.Proofs.YtegdcbdicpfbpaaDoor.Val
namespace Go.Proofs.YtegdcbdicpfbpaaDoor
open Go.AE Delphi Val
variable {tab:Tab}
section
variable {α β:Type} [DecidableEq α]
def Tp:List (α×β)→α→List (α×β)
 | [],_=>[]
 | (a,b)::l,k=>if k=a then l else (a,b)::Tp l k
variable {ke:α→V} {ve:β→V} {t:KeyTy}
theorem RJ (hk:KeyE t ke){k:α}:∀{M:List (α×β)} {es:List (V×V×Nat)} (i:Nat),All2 (I7 ke ve) M es→∀v,Hr M k=some v→∃j n,PS t (ke k) es i=some (some (i+j,ve v,n))∧All2 (I7 ke ve) (Tp M k) (es.eraseIdx j)
 | [],_,i,.nil=>fun v h=>by simp[Hr]at h
 | (a,b)::M,(x,y,n)::es,i,.cons h1 h2=>by
  intro v hv;obtain⟨q1,q2⟩:=h1;simp only at q1 q2;subst q1;subst q2;by_cases h:k=a
  ·subst h;simp only[Hr,if_true,FP]at hv;subst hv;refine⟨0,n,by simp only[PS,hk.eq,decide_true,KD],?_⟩;simp only[Tp,if_true,List.eraseIdx_cons_zero];exact h2
  ·simp only[Hr,if_neg h]at hv;obtain⟨j,m,s1,s2⟩:=RJ hk (k:=k) (i+1) h2 v hv;refine⟨j+1,m,?_,?_⟩
   ·simp only[PS,hk.eq,decide_eq_false h];rw[s1];congr 3;omega
   ·simp only[Tp,if_neg h,List.eraseIdx_cons_succ];exact .cons ⟨rfl,rfl⟩ s2
theorem JqS (hk:KeyE t ke){w:AW}{b:Nat}{M:List (α×β)}{k:α}{v:β}(h:MB ke ve w b M)(hv:Hr M k=some v):∃es ck j n,w.entries (.map b)=some (some b,es,ck)∧PS t (ke k) es 0=some (some (j,ve v,n))∧MB ke ve (w.turn b (.map (es.eraseIdx j) ck)) b (Tp M k)∧Frm (fun x=>x=b) w (w.turn b (.map (es.eraseIdx j) ck)):=by
 obtain⟨es,ck,h1,h2⟩:=h.get;obtain⟨j,n,s1,s2⟩:=RJ hk 0 h2 v hv;rw[FU]at s1;exact⟨es,ck,j,n,by simp only[AW.entries,h1],s1,⟨h.lt,_,_,T.get_put_same,s2⟩,A9⟩
end
variable {K:V→AW→Prop}
theorem Jo6 (C:Codes tab){S:Fw}{p:V}{width:Nat}{rows:Fy}{aw:AW}(hs:Rel.SetOf S aw p width rows)(h:K (.int .i64 (Fq width)) aw):WF tab Yc [p] aw K:=by
 refine Hy C.ZY rfl ?_;obtain⟨bp,lv,cs,S0,T,rfl,hs⟩:=hs;have hp:eqV .ptr (.ptr bp 0) .nilptr=some false:=rfl;have e0:=hs.load0;refine Fz (by simp only[go_sem,Hn,Zn,Vx,hp,e0];rfl) ?_;refine Hp ⟨_,by simp only[go_sem,Hn,Zn];rfl,?_⟩;exact h
theorem Jkj (C:Codes tab){aw:AW}(h:K (.int .i64 (-1)) aw):WF tab Yc [.nilptr] aw K:=by
 refine Hy C.ZY rfl ?_;have hp:eqV .ptr .nilptr .nilptr=some true:=rfl;refine Fz (by simp only[go_sem,Hn,Zn,Vx,G2,hp];rfl) ?_;refine Hp ⟨_,by simp only[go_sem,Hn,Zn];rfl,?_⟩;exact h
section
open Go.AE Delphi Val
variable {tab:Tab}
def idT (ts:List Tk) (c:Tk):Nat×List Tk:=if HV c=true then (if c∈ts then (PE ts c,ts)else (ts.length+1,ts++[c]))else (0,ts)
theorem EJ (ts:List Tk)(c:Tk):(idT ts c).2.length≤ts.length+1:=by
 unfold idT;split
 ·split
  ·simp only;omega
  ·simp
 ·simp only;omega
def HM (M:List (List Nat×Int)) (nm:List Nat):Int:=(Hr M nm).getD 0
def PX (M:List (List Nat×Int)) (s:List Int×List Tk) (x:Tm):List Int×List Tk:=if x.kind=1 then (s.1++[HM M x.name],s.2)else (s.1++[Fq (idT s.2 (Hz x)).1],(idT s.2 (Hz x)).2)
def HE (M:List (List Nat×Int)) (ts:List Tk) (l:List Tm):List Int×List Tk:=l.foldl (PX M) ([],ts)
theorem Rq (M:List (List Nat×Int))(ts:List Tk)(l:List Tm)(x:Tm):HE M ts (l++[x])=PX M (HE M ts l) x:=by unfold HE;rw[List.foldl_append];rfl
theorem Jjy (M:List (List Nat×Int)):∀(l:List Tm) (s:List Int×List Tk),(l.foldl (PX M) s).1.length=s.1.length+l.length∧(l.foldl (PX M) s).2.length≤s.2.length+l.length
 | [],s=>⟨rfl,FH _⟩
 | x::l,s=>by
  obtain⟨h1,h2⟩:=Jjy M l (PX M s x);have:=EJ s.2 (Hz x)
  have e:(PX M s x).1.length=s.1.length+1∧(PX M s x).2.length≤s.2.length+1:=by
   unfold PX;split
   ·simp
   ·exact⟨by simp,this⟩
  rw[Kt,h1,FC];constructor
  ·omega
  ·omega
theorem SC (M:List (List Nat×Int))(ts:List Tk)(l:List Tm):(HE M ts l).1.length=l.length∧(HE M ts l).2.length≤ts.length+l.length:=by
 have:=Jjy M l ([],ts);simpa[HE]using this
variable {ts:List Tk}
theorem Dq (C:Codes tab){tb mb:Nat}{v:V}{S:Fw}{c:Tk}{aw:AW}(hT:TabW tb mb v S ts aw)(hlen:ts.length≤100000)(hc:TkOk c)(h:∀w v' S',TabW tb mb v' S' (idT ts c).2 w→Frm (fun x=>S x∨x=tb∨x=mb) aw w→(∀x,S' x→S x∨aw.next≤x)→K (.int .i64 (Fq (idT ts c).1)) w):WF tab JY [.ptr tb 0,.agg (tkC c)] aw K:=by
 refine Val.id_ok C hT hlen hc ?_ ?_ ?_
 ·intro hm w g;have e:idT ts c=(0,ts):=if_neg (by rw[hm];simp);rw[e]at h;exact h w v S (hT.step0 g) (g.mono fun _ _ h=>h.elim) fun x hx=> .inl hx
 ·intro hm hmem w g;have e:idT ts c=(PE ts c,ts):=by unfold idT;rw[if_pos hm,if_pos hmem]
  rw[e]at h;exact h w v S (hT.step0 g) (g.mono fun _ _ h=>h.elim) fun x hx=> .inl hx
 ·intro hm hmem w v' S' q1 q2 q3;have e:idT ts c=(ts.length+1,ts++[c]):=by unfold idT;rw[if_pos hm,if_neg hmem]
  rw[e]at h;exact h w v' S' q1 q2 q3
theorem JkX {α:Type}(a:List α)(x y:α)(b:List α):(a++x::b).set a.length y=a++y::b:=by
 rw[List.set_append_right _ _ (FH _),Nat.sub_self];rfl
theorem Mg (C:Codes tab){tb mb jb vb:Nat}{tv:V}{S O:Fw}{M:List (List Nat×Int)}{l:Lt}{xs cells:List V}{aw:AW}(hT:TabW tb mb tv S ts aw)(hO:∀x,O x→x<aw.next∧¬S x∧x≠tb∧x≠mb)(hj:CB aw jb cells)(hjO:O jb)(h4:HC 1 (cells.drop 4)=some [.ptr tb 0])(h12:HC 1 (cells.drop 12)=some [.map vb])(hM:SM aw vb M)(hvO:O vb)(hx:LtC O aw l xs)(hal:l.args.length≤10)(hok:∀t∈l.args,t.kind≠1→TkOk (Hz t))(hts:ts.length+l.args.length≤90000)(h:∀w v tv' S' R,Rel.RowV R w v (HE M ts l.args).1→TabW tb mb tv' S' (HE M ts l.args).2 w→Frm (fun x=>S x∨x=tb∨x=mb) aw w→(∀x,S' x→S x∨aw.next≤x)→(∀x,R x→aw.next≤x∧x<w.next∧¬S' x)→K v w):WF tab Z6 [.ptr jb 0,.agg xs] aw K:=by
 refine Hy C.Xn rfl ?_;obtain⟨xl,xo⟩:=hx.one;obtain⟨xv,rfl,hx⟩:=hx;obtain⟨w1,e1,c1,r1,m1⟩:=Lc aw [.int .i64 (Fq l.kind),.str l.name,xv];have a2:=CB.ld c1 2 1 _ rfl;have hxv:=hx.lenV
 have e2:(List.replicate l.args.length [V.int .i64 0]).flatten=List.replicate l.args.length (V.int .i64 0):=by
  induction l.args.length with
  | zero=>rfl
  | succ n ih=>rw[List.replicate_succ,List.flatten_cons,ih,List.replicate_succ];rfl
 obtain⟨w2,e3,c2,r2,m2⟩:=Lc w1 (List.replicate l.args.length (V.int .i64 0));have hc1:l.args.length≤70368744177664:=Fh;have hc2:l.args.length*8≤70368744177664:=Fh;have a2':=CB.ld (c1.frm r2 fun h=>h) 2 1 _ rfl;refine Fz (by simp only[go_sem,Hn,Xm,GO,e1,a2,a2',hxv,e2,e3,hc1,hc2,FH];rfl) ?_;have f02:=r1.tr r2;have n1:=r1.next
 refine HT (fun n f w=>∃i tv' S',f.get 0=some (.ptr jb 0)∧f.get 5=some (.slice w1.next 0 l.args.length (.known l.args.length))∧f.get 13=some xv∧f.get 14=some (.int .i64 (Fq l.args.length))∧f.get 15=some (.int .i64 (Fq i))∧TabW tb mb tv' S' (HE M ts (l.args.take i)).2 w∧Frm (fun x=>S x∨x=tb∨x=mb) aw w∧(∀x,S' x→S x∨aw.next≤x)∧CB w w1.next (Rel.rowC (HE M ts (l.args.take i)).1++List.replicate (l.args.length-i) (V.int .i64 0))∧¬S' w1.next∧i≤l.args.length∧n=l.args.length-i)
  (fun f w=>∃tv' S',f.get 5=some (.slice w1.next 0 l.args.length (.known l.args.length))∧TabW tb mb tv' S' (HE M ts l.args).2 w∧Frm (fun x=>S x∨x=tb∨x=mb) aw w∧(∀x,S' x→S x∨aw.next≤x)∧CB w w1.next (Rel.rowC (HE M ts l.args).1)∧¬S' w1.next) ?_ ?_ l.args.length
  ⟨0,tv,S,Fb,Fb,Fb,Fb,Fb,hT.step0 f02,f02.mono fun _ _ h=>h.elim,fun x hx=> .inl hx,c2,fun hs=>by have:=(hT.s _ hs).1;omega,Nat.zero_le _,rfl⟩
 ·rintro n f w ⟨i,tv',S',f0,f5,f13,f14,f15,hTw,g,hS',hc,hnS,hi,rfl⟩ ih out;by_cases hil:i<l.args.length
  case neg =>
   obtain rfl:i=l.args.length:=Fh;rw[List.take_length]at hTw hc;rw[Nat.sub_self,List.replicate_zero,Kb]at hc;refine Hs 1000 (by simp only[go_sem,Xl,f14,f15,hil];rfl) ?_;exact out _ _ _ ⟨tv',S',(Fg f5),hTw,g,hS',hc,hnS⟩ rfl
  obtain⟨t,ht⟩:∃t,l.args[i]? = some t:=⟨_,FB hil⟩;have hwr:KX .i64 (Fq i+1)=Fq (i+1):=Hv Fh;have htk:=PF ht
  have hOw:∀x,O x→¬(S x∨x=tb∨x=mb):=fun x hx h=>by
   obtain⟨_,h1,h2,h3⟩:=hO x hx;rcases h with h|h|h
   ·exact h1 h
   ·exact h2 h
   ·exact h3 h
  obtain⟨b,o,c,rfl,_,_,la,_⟩:=SQ (hx.frm g hOw) ht;have hjw:=hj.frm g (hOw jb hjO);have hMw:SM w vb M:=hM.frm g (hOw vb hvO);obtain⟨w3,s3,c3,r3,n3⟩:=PA w (zs:=[V.int .i64 0,V.str [],V.int .i64 0]) (vs:=tmC t) rfl rfl;have k0:w3.load w.next 0 1=some [.int .i64 (Fq t.kind)]:=CB.ld c3 0 1 _ rfl;have k1:w3.load w.next 1 1=some [.str t.name]:=CB.ld c3 1 1 _ rfl;have k3:w3.load w.next 0 3=some (tmC t):=c3.all rfl;have j12:w3.load jb 12 1=some [.map vb]:=CB.ld (hjw.frm r3 fun h=>h) 12 1 _ h12;have look:=(hMw.frm r3 fun h=>h).look Px (.int .i64 0) t.name
  have hlk:w3.lookV (.scalar .str) (.int .i64 0) (.map vb) (.str t.name)=some (.int .i64 (HM M t.name),(Hr M t.name).isSome):=by
   rw[look];unfold HM;cases Hr M t.name<;>rfl
  have hc3:=hc.frm r3 fun h=>h;have hlen:=(SC M ts (l.args.take i)).1;rw[FT,KC hi]at hlen;have hrl:(Rel.rowC (HE M ts (l.args.take i)).1).length=i:=by unfold Rel.rowC;rw[F7,hlen]
  obtain⟨m,hm⟩:∃m,l.args.length-i=m+1:=⟨l.args.length-i-1,by omega⟩;have hm':l.args.length-(i+1)=m:=Fh;rw[hm,List.replicate_succ]at hc3;have st:=hc3.set (i:=i) (v:=.int .i64 (HM M t.name)) (by rw[FE,hrl,FC];omega) rfl
  have sm:(Rel.rowC (HE M ts (l.args.take i)).1++V.int .i64 0::List.replicate m (V.int .i64 0)).set i (.int .i64 (HM M t.name))=Rel.rowC (HE M ts (l.args.take i)).1++V.int .i64 (HM M t.name)::List.replicate m (V.int .i64 0):=by
   have:=JkX (Rel.rowC (HE M ts (l.args.take i)).1) (V.int .i64 0) (.int .i64 (HM M t.name)) (List.replicate m (V.int .i64 0))
   rwa [hrl]at this
  rw[sm]at st;have c4:=H1 (l:=Rel.rowC (HE M ts (l.args.take i)).1++V.int .i64 (HM M t.name)::List.replicate m (V.int .i64 0)) hc3.lt;have fr4:Frm (fun x=>x=w1.next) w3 (w3.put w1.next (Rel.rowC (HE M ts (l.args.take i)).1++V.int .i64 (HM M t.name)::List.replicate m (V.int .i64 0))):=HN;obtain⟨w4,e4⟩:∃w4,w4=w3.put w1.next (Rel.rowC (HE M ts (l.args.take i)).1++V.int .i64 (HM M t.name)::List.replicate m (V.int .i64 0)):=⟨_,rfl⟩;rw[←e4]at st c4 fr4;have g0:=g.next;have n2:=r2.next;have hjn:jb≠w1.next:=by have:=(hO jb hjO).1;omega
  have htbn:tb≠w1.next:=by have:=hT.a.lt;omega
  have hmbn:mb≠w1.next:=by have:=hT.m.lt;omega
  have hT4:TabW tb mb tv' S' (HE M ts (l.args.take i)).2 w4:=(hTw.step0 r3).step fr4 htbn hmbn fun x hx h=>by subst h;exact hnS hx
  have g4:Frm (fun x=>S x∨x=tb∨x=mb) aw w4:=(g.trans r3 (fun _ _ h=>h) fun _ _ h=>h.elim).trans fr4 (fun _ _ h=>h) fun x hx h=>by omega
  have k0':w4.load w.next 0 1=some [.int .i64 (Fq t.kind)]:=CB.ld (c3.frm fr4 (by have:=hc.lt;omega)) 0 1 _ rfl;have k3':w4.load w.next 0 3=some (tmC t):=(c3.frm fr4 (by have:=hc.lt;omega)).all rfl;by_cases hk:t.kind=1
  ·have e:HE M ts (l.args.take (i+1))=((HE M ts (l.args.take i)).1++[HM M t.name],(HE M ts (l.args.take i)).2):=by
    rw[htk,Rq];exact if_pos hk
   rw[hk]at k0';have htl:(tmC t).length=3:=rfl;refine Fz (by simp only[go_sem,Hn,Xl,Vr,Vq,f0,f5,f13,f14,f15,hil,la,htl,s3,k1,j12,hlk,FU,KA,FC,FD,st,k0',hwr];rfl) ?_;refine ih _ _ _ Fh ⟨i+1,tv',S',(Fg f0),(Fg f5),(Fg f13),(Fg f14),Fb,by rw[e];exact hT4,g4,hS',?_,hnS,by omega,rfl⟩;rw[e,hm'];have e5:Rel.rowC ((HE M ts (l.args.take i)).1++[HM M t.name])++List.replicate m (V.int .i64 0)=Rel.rowC (HE M ts (l.args.take i)).1++V.int .i64 (HM M t.name)::List.replicate m (V.int .i64 0):=by unfold Rel.rowC;rw[List.map_append,F5];rfl
   rw[e5];exact c4
  ·have e:HE M ts (l.args.take (i+1))=((HE M ts (l.args.take i)).1++[Fq (idT (HE M ts (l.args.take i)).2 (Hz t)).1],(idT (HE M ts (l.args.take i)).2 (Hz t)).2):=by
    rw[htk,Rq];exact if_neg hk
   have htl:(tmC t).length=3:=rfl;have j4:w4.load jb 4 1=some [.ptr tb 0]:=CB.ld ((hjw.frm r3 fun h=>h).frm fr4 hjn) 4 1 _ h4;have htsl:=(SC M ts (l.args.take i)).2;rw[FT,KC hi]at htsl;refine Fz (by simp only[go_sem,Hn,Xl,Vr,Vq,GN,f0,f5,f13,f14,f15,hil,la,htl,s3,k1,j12,hlk,FU,KA,FC,FD,st,k0',hk,j4,k3'];rfl) ?_;refine Hq Ff Fe ?_;rw[Jns];refine Dq C hT4 Fh (hok t (FI ht) hk) fun w5 tv5 S5 q1 q2 q3=>?_
   have hw1n:¬(S' w1.next∨w1.next=tb∨w1.next=mb):=by
    rintro (h|h|h)
    ·exact hnS h
    ·exact htbn h.symm
    ·exact hmbn h.symm
   have c5:=c4.frm q2 hw1n;have n45:=q2.next;have st5:=c5.set (i:=i) (v:=.int .i64 (Fq (idT (HE M ts (l.args.take i)).2 (Hz t)).1)) (by rw[FE,hrl,FC];omega) rfl
   have sm5:(Rel.rowC (HE M ts (l.args.take i)).1++V.int .i64 (HM M t.name)::List.replicate m (V.int .i64 0)).set i (.int .i64 (Fq (idT (HE M ts (l.args.take i)).2 (Hz t)).1))=Rel.rowC (HE M ts (l.args.take i)).1++V.int .i64 (Fq (idT (HE M ts (l.args.take i)).2 (Hz t)).1)::List.replicate m (V.int .i64 0):=by
    have:=JkX (Rel.rowC (HE M ts (l.args.take i)).1) (V.int .i64 (HM M t.name)) (.int .i64 (Fq (idT (HE M ts (l.args.take i)).2 (Hz t)).1)) (List.replicate m (V.int .i64 0))
    rwa [hrl]at this
   rw[sm5]at st5;have c6:=H1 (l:=Rel.rowC (HE M ts (l.args.take i)).1++V.int .i64 (Fq (idT (HE M ts (l.args.take i)).2 (Hz t)).1)::List.replicate m (V.int .i64 0)) c5.lt;have fr6:Frm (fun x=>x=w1.next) w5 (w5.put w1.next (Rel.rowC (HE M ts (l.args.take i)).1++V.int .i64 (Fq (idT (HE M ts (l.args.take i)).2 (Hz t)).1)::List.replicate m (V.int .i64 0))):=HN
   have hnS5:¬S5 w1.next:=fun h=>by
    rcases q3 _ h with h|h
    ·exact hnS h
    ·have:=c4.lt;omega
   refine Fz (by simp only[go_sem,Hn,f5,f15,hil,FU,KA,FC,FD,st5,hwr];rfl) ?_;refine ih _ _ _ Fh ⟨i+1,tv5,S5,(Fg f0),(Fg f5),(Fg f13),(Fg f14),Fb,by rw[e];exact q1.step fr6 htbn hmbn fun x hx h=>by subst h;exact hnS5 hx,?_,?_,?_,hnS5,by omega,rfl⟩
   ·refine (g4.trans q2 (fun _ _ h=>h) fun x hx h=>?_).trans fr6 (fun _ _ h=>h) fun x hx h=>by omega
    rcases h with h|h|h
    ·exact (hS' x h).imp id fun h=>by omega
    ·exact .inr (.inl h)
    ·exact .inr (.inr h)
   ·intro x hx;rcases q3 x hx with h|h
    ·exact hS' x h
    ·exact .inr (by have:=g4.next;omega)
   ·rw[e,hm'];have e5:Rel.rowC ((HE M ts (l.args.take i)).1++[Fq (idT (HE M ts (l.args.take i)).2 (Hz t)).1])++List.replicate m (V.int .i64 0)=Rel.rowC (HE M ts (l.args.take i)).1++V.int .i64 (Fq (idT (HE M ts (l.args.take i)).2 (Hz t)).1)::List.replicate m (V.int .i64 0):=by unfold Rel.rowC;rw[List.map_append,F5];rfl
    rw[e5];exact c6
 ·rintro f w ⟨tv',S',f5,hTw,g,hS',hc,hnS⟩;refine Fz (by simp only[go_sem,Hn,f5];rfl) ?_;refine Hp ⟨_,by simp only[go_sem,Hn,Xm];rfl,?_⟩;refine h w _ tv' S' (fun x=>x=w1.next) (.blk rfl hc.lt hc.get (.inl rfl) (SC M ts l.args).1) hTw g hS' ?_;rintro x rfl;exact⟨by omega,hc.lt,hnS⟩
end
end Go.Proofs.YtegdcbdicpfbpaaDoor
