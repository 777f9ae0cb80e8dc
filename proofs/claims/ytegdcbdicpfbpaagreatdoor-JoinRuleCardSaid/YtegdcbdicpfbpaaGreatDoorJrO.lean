/- A part of the proof. -/
import Derived.Test.YtegdcbdicpfbpaaGreatDoorJrH
import Derived.Test.YtegdcbdicpfbpaaGreatDoorJrK
import Derived.Test.YtegdcbdicpfbpaaGreatDoorJrL
import Derived.Test.YtegdcbdicpfbpaaGreatDoorJrN
set_option linter.unusedVariables false
set_option linter.unusedSimpArgs false
namespace Go.Proofs.YtegdcbdicpfbpaaGreatDoor.Rel
open Go.AE
variable {tab:Tab}
def cmpI (a b:Int):Int:=if a<b then -1 else if b<a then 1 else 0
def cmpL:List Int→List Int→Int
 | [],[]=>0
 | [],_::_=>-1
 | _::_,[]=>1
 | a::l,b::m=>if cmpI a b=0 then cmpL l m else cmpI a b
def rowC (l:List Int):List V:=l.map (V.int .i64)
inductive RowV (T:Nat→Prop) (w:AW):V→List Int→Prop
 | nil:RowV T w .nilslice []
 | blk {b n:Nat} {c:Cap} {l:List Int} {sh:Share} (hT:T b) (hb:b<w.next) (hx:w.heap.get b=some (.cells (rowC l) sh)) (ha:Al T w b sh) (hn:l.length=n):RowV T w (.slice b 0 n c) l
variable {T:Fw} {w:AW} {v:V} {l:List Int}
theorem RowV.mono {T':Fw}(h:RowV T w v l)(hs:∀x,T x→T' x):RowV T' w v l:=by
 cases h with
 | nil=>exact .nil
 | blk hT hb hx ha hn=>exact .blk (hs _ hT) hb hx (ha.mono hs) hn
theorem RowV.frm {S:Fw}{w':AW}(h:RowV T w v l)(hf:Frm S w w')(hd:∀x,T x→¬S x):RowV T w' v l:=by
 cases h with
 | nil=>exact .nil
 | blk hT hb hx ha hn=>exact .blk hT (FK hb hf.next) ((hf.heap _ hb (hd _ hT)).trans hx) (ha.frm hf hd) hn
theorem RowV.inv (h:RowV T w v l):(v = .nilslice∧l=[])∨∃b c,v = .slice b 0 l.length c∧T b∧b<w.next∧∃sh,w.heap.get b=some (.cells (rowC l) sh)∧Al T w b sh:=by
 cases h with
 | nil=>exact .inl ⟨rfl,rfl⟩
 | blk hT hb hx ha hn=>subst hn;exact .inr ⟨_,_,rfl,hT,hb,_,hx,ha⟩
theorem row_load {b i:Nat}{x:Int}(hx:∃sh,w.heap.get b=some (.cells (rowC l) sh)∧Al T w b sh)(hi:l[i]? = some x):w.load b (0+i*1) 1=some [.int .i64 x]:=by
 obtain⟨sh,hx,ha⟩:=hx;have hlt:i<l.length:=(List.getElem?_eq_some_iff.1 hi).1
 have e:(rowC l).drop i = .int .i64 x::(rowC l).drop (i+1):=by
  rw[FL (by simpa[rowC]using hlt)];rw[FB hlt]at hi;simp only[rowC,List.getElem_map,FY hi]
 simp only[AW.load,hx,ha.alive,FV,KC,e,Jbh]
variable {a:Int} {aw:AW} {K:V→AW→Prop}
theorem Jnc (C:Codes tab)(h:K (.bool false) aw):WF tab VS [.int .i64 a] aw K:=by
 refine Ja7 C.Vk rfl ?_;have e:(a != a)=false:=Fj;refine Fz (by simp only[go_sem,JaX,simprocAttr,Vj,e];rfl) ?_;refine JaZ ⟨_,by simp only[go_sem,JaX,simprocAttr,Vj];rfl,?_⟩;exact h
theorem Jpw (C:Codes tab){b:Int}(h:K (.int .i64 (cmpI a b)) aw):WF tab GP [.int .i64 a,.int .i64 b] aw K:=by
 refine Ja7 C.Vc rfl ?_;refine Fz (by simp only[go_sem,JaX,simprocAttr,ZG];rfl) ?_;refine Ja0 Ff Fe ?_;refine Jnc C ?_;refine JaY 1000 Fe ?_;refine Ja0 Ff Fe ?_;refine Jnc C ?_;by_cases h1:a<b
 ·rw[show cmpI a b = -1 from if_pos h1]at h;refine Fz (by simp only[go_sem,JaX,simprocAttr,h1];rfl) ?_;refine JaZ ⟨_,by simp only[go_sem,JaX,simprocAttr,ZG];rfl,?_⟩;exact h
 ·by_cases h2:b<a
  ·rw[show cmpI a b=1 from by rw[cmpI,if_neg h1,if_pos h2]]at h;have h3:a>b:=h2;refine Fz (by simp only[go_sem,JaX,simprocAttr,h1,h3];rfl) ?_;refine JaZ ⟨_,by simp only[go_sem,JaX,simprocAttr,ZG];rfl,?_⟩;exact h
  ·rw[show cmpI a b=0 from by rw[cmpI,if_neg h1,if_neg h2]]at h;have h3:¬a>b:=h2;refine Fz (by simp only[go_sem,JaX,simprocAttr,h1,h3];rfl) ?_;refine JaZ ⟨_,by simp only[go_sem,JaX,simprocAttr,ZG];rfl,?_⟩;exact h
theorem JmK:∀(l:List Int),cmpL l []=if 0<l.length then 1 else 0
 | []=>rfl
 | _::_=>rfl
variable {l1 l2:List Int}
theorem JqY {i:Nat}{b:Int}(h1:l1[i]? = some a)(h2:l2[i]? = some b):cmpL (l1.drop i) (l2.drop i)=if cmpI a b=0 then cmpL (l1.drop (i+1)) (l2.drop (i+1))else cmpI a b:=by
 have k1:i<l1.length:=(List.getElem?_eq_some_iff.1 h1).1;have k2:i<l2.length:=(List.getElem?_eq_some_iff.1 h2).1;rw[FL k1,FL k2];rw[FB k1]at h1;rw[FB k2]at h2;rw[FY h1,FY h2];rfl
def Jwo (v1 v2:V) (l1 l2:List Int) (aw:AW) (q:Nat) (f:Fr) (w:AW):Prop :=
 ∃i,f.get 1=some v2∧f.get 9=some v1∧f.get 0=some v1∧f.get 10=some (.int .i64 (Int.ofNat l1.length))∧f.get 11=some (.int .i64 (Int.ofNat i))∧w=aw∧cmpL l1 l2=cmpL (l1.drop i) (l2.drop i)∧i≤l1.length∧i≤l2.length∧q=l1.length-i
theorem Jq0 (C:Codes tab){U:Fw}{v1 v2:V}(r1:RowV T aw v1 l1)(r2:RowV U aw v2 l2)(hl1:l1.length≤1000)(hl2:l2.length≤1000)(h:K (.int .i64 (cmpL l1 l2)) aw):WF tab GK [v1,v2] aw K:=by
 refine Ja7 C.WA rfl ?_;rcases r1.inv with⟨rfl,rfl⟩|⟨b1,c1,rfl,_,_,hx1⟩
 ·rcases r2.inv with⟨rfl,rfl⟩|⟨b2,c2,rfl,_,_,hx2⟩
  ·refine Fz (by simp only[go_sem,JaX,simprocAttr,Jd];rfl) ?_;refine Jdz ?_;refine Fz (by simp only[go_sem,JaX,simprocAttr,JA];rfl) ?_;refine JaZ ⟨_,by simp only[go_sem,JaX,simprocAttr,Jd];rfl,?_⟩;exact h
  ·refine Fz (by simp only[go_sem,JaX,simprocAttr,Jd];rfl) ?_;refine Jdz ?_;cases l2 with
   | nil =>
    refine Fz (by simp only[go_sem,JaX,simprocAttr,JA,FD];rfl) ?_;refine JaZ ⟨_,by simp only[go_sem,JaX,simprocAttr,Jd];rfl,?_⟩;exact h
   | cons x l2 =>
    have e:0<(x::l2).length:=Fj;refine Fz (by simp only[go_sem,JaX,simprocAttr,JA,e];rfl) ?_;refine JaZ ⟨_,by simp only[go_sem,JaX,simprocAttr,Jd];rfl,?_⟩;exact h
 rcases r2.inv with⟨rfl,rfl⟩|⟨b2,c2,rfl,_,_,hx2⟩
 ·rw[JmK]at h;cases l1 with
  | nil =>
   refine Fz (by simp only[go_sem,JaX,simprocAttr,Jd,FD];rfl) ?_;refine Jdz ?_;refine Fz (by simp only[go_sem,JaX,simprocAttr,JA,FD];rfl) ?_;refine JaZ ⟨_,by simp only[go_sem,JaX,simprocAttr,Jd];rfl,?_⟩;exact h
  | cons x l1 =>
   have e:0<(x::l1).length:=Fj;rw[if_pos e]at h;refine Fz (by simp only[go_sem,JaX,simprocAttr,Jd];rfl) ?_;refine Jdz ?_;have e1:=row_load hx1 (i:=0) (x:=x) rfl;refine Fz (by simp only[go_sem,JaX,simprocAttr,JA,Wz,e,e1];rfl) ?_;refine JaZ ⟨_,by simp only[go_sem,JaX,simprocAttr,Jd];rfl,?_⟩;exact h
 refine Fz (by simp only[go_sem,JaX,simprocAttr,Jd];rfl) ?_;refine JdJ (Jwo _ _ l1 l2 aw) ?_ l1.length ⟨0,Fb,Fb,Fb,Fb,Fb,rfl,by simp,by omega,by omega,by omega⟩;rintro q f w ⟨i,f1,f9,f0,f10,f11,rfl,hc,hi1,hi2,rfl⟩ ih;by_cases hlt:i<l1.length
 ·have g1:l1[i]? = some l1[i]:=FB hlt;have e1:=row_load hx1 g1;by_cases hlt2:l2.length≤i
  ·have e2:cmpL l1 l2=1:=by
    rw[hc,List.drop_eq_nil_of_le hlt2,JmK,if_pos (by rw[Ki];omega)]
   rw[e2]at h;refine Fz (by simp only[go_sem,JaX,simprocAttr,JA,Wz,f1,f9,f10,f11,hlt,hlt2,e1];rfl) ?_;refine JaZ ⟨_,by simp only[go_sem,JaX,simprocAttr,Jd];rfl,?_⟩;exact h
  ·have hlt3:i<l2.length:=Fh;have g2:l2[i]? = some l2[i]:=FB hlt3;have e2:=row_load hx2 g2;refine Fz (by simp only[go_sem,JaX,simprocAttr,JA,Wz,f1,f9,f10,f11,hlt,hlt2,hlt3,e1,e2];rfl) ?_;refine Ja0 Ff Fe ?_;refine Jpw C ?_;rw[JqY g1 g2]at hc;by_cases hz:cmpI l1[i] l2[i]=0
   ·rw[if_pos hz]at hc;rw[hz];have hwr:IntKind.wrap .i64 (Int.ofNat i+1)=Int.ofNat (i+1):=Ja3 Fh;have z0:((0:Int) != 0)=false:=rfl;refine Fz (by simp only[go_sem,JaX,simprocAttr,z0,f0,f1,f9,f10,f11,hwr];rfl) ?_;exact ih _ _ _ Fh ⟨i+1,(Fg f1),(Fg f9),(Fg f0),(Fg f10),Fb,rfl,hc,by omega,by omega,rfl⟩
   ·rw[if_neg hz]at hc;rw[hc]at h;have z0:(cmpI l1[i] l2[i] != 0)=true:=by simp[hz]
    refine Fz (by simp only[go_sem,JaX,simprocAttr,z0,f0,f1,f9,f10,f11];rfl) ?_;refine JaZ ⟨_,by simp only[go_sem,JaX,simprocAttr,Jd];rfl,?_⟩;exact h
 ·have hie:i=l1.length:=Fh
  have hc2:cmpL l1 l2=if l1.length<l2.length then -1 else 0:=by
   rw[hc,List.drop_eq_nil_of_le (by omega:l1.length≤i)];by_cases h2:l1.length<l2.length
   ·rw[if_pos h2,hie,FL h2];rfl
   ·rw[if_neg h2,List.drop_eq_nil_of_le Fh];rfl
  rw[hc2]at h;by_cases h2:l1.length<l2.length
  ·rw[if_pos h2]at h;refine Fz (by simp only[go_sem,JaX,simprocAttr,JA,f0,f1,f9,f10,f11,hlt,h2];rfl) ?_;refine JaZ ⟨_,by simp only[go_sem,JaX,simprocAttr,Jd];rfl,?_⟩;exact h
  ·rw[if_neg h2]at h;refine Fz (by simp only[go_sem,JaX,simprocAttr,JA,f0,f1,f9,f10,f11,hlt,h2];rfl) ?_;refine JaZ ⟨_,by simp only[go_sem,JaX,simprocAttr,Jd];rfl,?_⟩;exact h
theorem JmW (C:Codes tab){U:Fw}{v1 v2:V}(r1:RowV T aw v1 l1)(r2:RowV U aw v2 l2)(hl1:l1.length≤1000)(hl2:l2.length≤1000)(h:K (.int .i64 (cmpL l1 l2)) aw):WF tab YH [v1,v2] aw K:=by
 refine Ja7 C.Wy rfl ?_;refine Fz (by simp only[go_sem,JaX,simprocAttr,Wx];rfl) ?_;refine Ja0 Ff Fe ?_;refine Jq0 C r1 r2 hl1 hl2 ?_;refine JaY 1000 Fe ?_;refine JaZ ⟨_,by simp only[go_sem,JaX,simprocAttr,Wx];rfl,?_⟩;exact h
section
open Go.AE
variable {tab:Tab}
variable {b:Int}
theorem cmpI_zero:cmpI a b=0↔a=b:=by
 unfold cmpI;split
 ·constructor<;>intro h<;>omega
 ·split
  ·constructor<;>intro h<;>omega
  ·constructor<;>intro h<;>omega
theorem Jsw:cmpI a b<0↔a<b:=by
 unfold cmpI;split
 ·constructor<;>intro h<;>omega
 ·split
  ·constructor<;>intro h<;>omega
  ·constructor<;>intro h<;>omega
theorem Jii {m:List Int}:cmpL (a::l) (b::m)<0↔a<b∨(a=b∧cmpL l m<0):=by
 simp only[cmpL];by_cases h:cmpI a b=0
 ·rw[if_pos h];have:=cmpI_zero.1 h;constructor
  ·intro h';exact .inr ⟨this,h'⟩
  ·rintro (h'|h')
   ·omega
   ·exact h'.2
 ·rw[if_neg h,Jsw];constructor
  ·exact .inl
  ·rintro (h'|h')
   ·exact h'
   ·exact absurd (cmpI_zero.2 h'.1) h
theorem Je9:∀{a b c:List Int},cmpL a b<0→cmpL b c<0→cmpL a c<0
 | a,b,[],h1,h2=>by cases b<;>simp[cmpL]at h2
 | [],b,_::_,h1,h2=>by simp[cmpL]
 | x::a,[],_::_,h1,h2=>by simp[cmpL]at h1
 | x::a,y::b,z::c,h1,h2=>by
  rw[Jii]at h1 h2 ⊢;rcases h1 with h1|⟨h1,h1'⟩<;>rcases h2 with h2|⟨h2,h2'⟩
  ·left;omega
  ·left;omega
  ·left;omega
  ·right;exact⟨by omega,Je9 h1' h2'⟩
theorem cmpL_zero:∀{a b:List Int},cmpL a b=0↔a=b
 | [],[]=>by simp[cmpL]
 | [],_::_=>by simp[cmpL]
 | _::_,[]=>by simp[cmpL]
 | x::a,y::b=>by
  simp only[cmpL];by_cases h:cmpI x y=0
  ·rw[if_pos h,cmpL_zero];have:=cmpI_zero.1 h;subst this;simp
  ·rw[if_neg h];have:x≠y:=fun e=>h (cmpI_zero.2 e);simp[h,this]
theorem Jkl:∀{a b:List Int},cmpL a b<0∨a=b∨cmpL b a<0
 | [],[]=>by simp
 | [],_::_=>by simp[cmpL]
 | _::_,[]=>by simp[cmpL]
 | x::a,y::b=>by
  rw[Jii,Jii];rcases Jkl (a:=a) (b:=b)with h|h|h
  ·by_cases e:x=y
   ·exact .inl (.inr ⟨e,h⟩)
   ·by_cases e2:x<y
    ·exact .inl (.inl e2)
    ·exact .inr (.inr (.inl Fh))
  ·by_cases e:x=y
   ·exact .inr (.inl (by rw[e,h]))
   ·by_cases e2:x<y
    ·exact .inl (.inl e2)
    ·exact .inr (.inr (.inl Fh))
  ·by_cases e:x=y
   ·exact .inr (.inr (.inr ⟨e.symm,h⟩))
   ·by_cases e2:x<y
    ·exact .inl (.inl e2)
    ·exact .inr (.inr (.inl Fh))
theorem JqZ {a:List Int}:¬cmpL a a<0:=by rw[cmpL_zero.2 rfl];omega
abbrev Rise (rows:Fy):Prop:=rows.Pairwise fun a b=>cmpL a b<0
def posn (rows:Fy) (r:List Int):Nat:=(rows.takeWhile fun x=>decide (cmpL x r<0)).length
theorem Jk8 (rows:Fy)(r:List Int):posn rows r≤rows.length:=(List.takeWhile_sublist _).length_le
theorem Jo6:∀{rows:Fy} {r:List Int} {i:Nat},i≤rows.length→(∀(j:Nat) x,j<i→rows[j]? = some x→cmpL x r<0)→(∀x,rows[i]? = some x→¬cmpL x r<0)→posn rows r=i
 | [],r,i,hi,h1,h2=>by simp[posn];simp at hi;omega
 | x::rows,r,0,hi,h1,h2=>by
  have:=h2 x rfl;simp[posn,this]
 | x::rows,r,i+1,hi,h1,h2=>by
  have hx:=h1 0 x Fh rfl;have:=Jo6 (rows:=rows) (r:=r) (i:=i) (by simpa using hi) (fun j y hj hy=>h1 (j+1) y Fh (by simpa using hy)) (fun y hy=>h2 y (by simpa using hy));simp only[posn,List.takeWhile_cons,hx,decide_true,if_true,FC]at this ⊢;rw[this]
variable {rows:Fy} {r:List Int}
theorem Jth (hr:Rise rows){i:Nat}(hi:i≤rows.length)(h1:∀(j:Nat) x,j<i→rows[j]? = some x→cmpL x r<0)(h2:∀x,rows[i]? = some x→¬cmpL x r<0):(r∈rows)↔rows[i]? = some r:=by
 constructor
 ·intro hm;obtain⟨k,hk,e⟩:=List.mem_iff_getElem.1 hm;have e':rows[k]? = some r:=by rw[FB hk,e]
  have a1:¬k<i:=fun hlt=>JqZ (h1 k r hlt e');rcases KG i k with a2|a2
  ·have hi':i<rows.length:=Fh;have:=List.pairwise_iff_getElem.1 hr i k hi' hk a2;rw[e]at this;exact absurd this (h2 _ (FB hi'))
  ·have:k=i:=Fh;rw[←this];exact e'
 ·intro h;exact FI h
def RowsV (T:Fw) (w:AW) (cs:List V) (rows:Fy):Prop:=cs.length=rows.length∧∀(i:Nat) v l,cs[i]? = some v→rows[i]? = some l→RowV T w v l
variable {cs:List V}
theorem RowsV.mono {T':Fw}(h:RowsV T w cs rows)(hs:∀x,T x→T' x):RowsV T' w cs rows:=⟨h.1,fun i v l h1 h2=>(h.2 i v l h1 h2).mono hs⟩
theorem RowsV.frm {S:Fw}{w':AW}(h:RowsV T w cs rows)(hf:Frm S w w')(hd:∀x,T x→¬S x):RowsV T w' cs rows:=⟨h.1,fun i v l h1 h2=>(h.2 i v l h1 h2).frm hf hd⟩
theorem RowsV.at (h:RowsV T w cs rows){i:Nat}(hi:rows[i]? = some l):∃v,cs[i]? = some v∧RowV T w v l:=by
 have hlt:i<cs.length:=by rw[h.1];exact (List.getElem?_eq_some_iff.1 hi).1
 exact⟨cs[i],FB hlt,h.2 i _ _ (FB hlt) hi⟩
theorem JtO {n:Nat}(h:n<18446744073709551616):IntKind.wrap .u64 (Int.ofNat n)=Int.ofNat n:=by
 have e:Int.ofNat n=(n:Int):=rfl;have h1:IntKind.wrap .u64 (Int.ofNat n)=(Int.ofNat n) % 18446744073709551616:=by simp[IntKind.wrap,IntKind.bits,IntKind.signed]
 rw[h1,e];omega
theorem JuZ {n:Nat}:Jg7 .shr .u64 (Int.ofNat n) 1=some (.int .u64 (Int.ofNat (n / 2))):=by
 have e:(Int.ofNat n).fdiv (2 ^ (min (1:Int).toNat (IntKind.bits .u64)))=Int.ofNat (n / 2):=by
  show Int.fdiv (n:Int) 2=((n / 2:Nat):Int);rw[Int.fdiv_eq_ediv_of_nonneg _ Fh];omega
 simp only[Jg7,e];rfl
def Jwn (n:Nat) (rows:Fy) (lv rv:V) (r:List Int) (aw:AW) (q:Nat) (f:Fr) (w:AW):Prop :=
 ∃i j,f.get 0=some lv∧f.get 1=some rv∧f.get 2=some (.func (.func YH) [] [])∧f.get 8=some (.int .i64 (Int.ofNat n))∧f.get 9=some (.int .i64 (Int.ofNat i))∧f.get 10=some (.int .i64 (Int.ofNat j))∧w=aw∧i≤j∧j≤n∧q=j-i∧
  (∀(k:Nat) x,k<i→rows[k]? = some x→cmpL x r<0)∧(∀(k:Nat) x,j≤k→rows[k]? = some x→¬cmpL x r<0)
theorem JlV (C:Codes tab){S U:Fw}{lv rv:V}(hb:Buf S aw lv 1 rows.length cs)(hv:RowsV T aw cs rows)(hr:RowV U aw rv r)(hrise:Rise rows)(hn:rows.length≤1000000)(hlen:∀x∈rows,x.length≤1000)(hlr:r.length≤1000)(h:K (.tuple [.int .i64 (Int.ofNat (posn rows r)),.bool (decide (r∈rows))]) aw):WF tab GJ [lv,rv,.func (.func YH) [] []] aw K:=by
 refine Ja7 C.Ww rfl ?_;rcases hb.inv with⟨rfl,h0,hc⟩|⟨b,rfl,_,_⟩
 ·have:rows=[]:=List.length_eq_zero_iff.1 h0;subst this;refine Fz (by simp only[go_sem,JaX,simprocAttr,Zb];rfl) ?_;refine Jdz ?_;refine Fz (by simp only[go_sem,JaX,simprocAttr,Yr];rfl) ?_;refine JaZ ⟨_,by simp only[go_sem,JaX,simprocAttr,Zb];rfl,?_⟩;have e:posn [] r=0:=rfl;have e2:decide (r∈([]:Fy))=false:=Fj;rw[e,e2]at h;exact h
 refine Fz (by simp only[go_sem,JaX,simprocAttr,Zb];rfl) ?_;refine JdJ (Jwn rows.length rows (.slice b 0 rows.length (.upTo 1)) rv r aw) ?_ rows.length ⟨0,rows.length,Fb,Fb,Fb,Fb,Fb,Fb,rfl,by omega,by omega,by omega,?_,?_⟩
 ·rintro q f w ⟨i,j,f0,f1,f2,f8,f9,f10,rfl,hij,hjn,rfl,hl,hg⟩ ih;by_cases hlt:i<j
  ·have w1:IntKind.wrap .i64 (Int.ofNat i+Int.ofNat j)=Int.ofNat (i+j):=JhZ Fh;have w2:IntKind.wrap .u64 (Int.ofNat (i+j))=Int.ofNat (i+j):=JtO Fh;have w3:IntKind.wrap .i64 (Int.ofNat ((i+j) / 2))=Int.ofNat ((i+j) / 2):=JdM (by have:Int.ofNat ((i+j) / 2)=(((i+j) / 2:Nat):Int):=rfl;omega) (by have:Int.ofNat ((i+j) / 2)=(((i+j) / 2:Nat):Int):=rfl;omega);have hh:(i+j) / 2<rows.length:=Fh;have g1:rows[(i+j) / 2]? = some rows[(i+j) / 2]:=FB hh;obtain⟨v,g2,g3⟩:=hv.at g1;have e1:=hb.load1 g2;refine Fz (by simp only[go_sem,JaX,simprocAttr,Yr,Jav,f0,f1,f2,f8,f9,f10,hlt,w1,w2,w3,JuZ,hh,e1];rfl) ?_;refine Ja0 Ff Fe ?_;refine JmW C g3 hr (hlen _ (FI g1)) hlr ?_;by_cases hc:cmpL rows[(i+j) / 2] r<0
   ·have w4:IntKind.wrap .i64 (Int.ofNat ((i+j) / 2)+1)=Int.ofNat ((i+j) / 2+1):=Ja3 Fh;refine Fz (by simp only[go_sem,JaX,simprocAttr,hc,w4];rfl) ?_;refine ih (j-((i+j) / 2+1)) _ _ Fh ⟨(i+j) / 2+1,j,(Fg f0),(Fg f1),(Fg f2),(Fg f8),Fb,(Fg f10),rfl,by omega,hjn,rfl,?_,hg⟩;intro k x hk hx;by_cases hki:k<i
    ·exact hl k x hki hx
    ·by_cases hke:k=(i+j) / 2
     ·subst hke;rw[g1]at hx;cases hx;exact hc
     ·have hkl:=(List.getElem?_eq_some_iff.1 hx).1;have:=List.pairwise_iff_getElem.1 hrise k _ hkl hh Fh;rw[FB hkl]at hx;cases hx;exact Je9 this hc
   ·refine Fz (by simp only[go_sem,JaX,simprocAttr,hc];rfl) ?_;refine ih ((i+j) / 2-i) _ _ Fh ⟨i,(i+j) / 2,(Fg f0),(Fg f1),(Fg f2),(Fg f8),(Fg f9),Fb,rfl,by omega,by omega,rfl,hl,?_⟩;intro k x hk hx;by_cases hke:k=(i+j) / 2
    ·subst hke;rw[g1]at hx;cases hx;exact hc
    ·have hkl:=(List.getElem?_eq_some_iff.1 hx).1;have:=List.pairwise_iff_getElem.1 hrise _ k hh hkl Fh;rw[FB hkl]at hx;cases hx;exact fun hx=>hc (Je9 this hx)
  ·have:i=j:=Fh;subst this;have hp:posn rows r=i:=Jo6 hjn hl (fun x hx=>hg i x (FH _) hx);have hm:=Jth hrise hjn hl (fun x hx=>hg i x (FH _) hx);rw[hp]at h;by_cases hin:i<rows.length
   ·have g1:rows[i]? = some rows[i]:=FB hin;obtain⟨v,g2,g3⟩:=hv.at g1;have e1:=hb.load1 g2;refine Fz (by simp only[go_sem,JaX,simprocAttr,Yr,f0,f1,f2,f8,f9,f10,hlt,hin,e1];rfl) ?_;refine Ja0 Ff Fe ?_;refine JmW C g3 hr (hlen _ (FI g1)) hlr ?_
    have e3:(cmpL rows[i] r==0)=decide (r∈rows):=by
     rw[show (cmpL rows[i] r==0)=decide (cmpL rows[i] r=0)from rfl]
     congr 1
     rw[cmpL_zero,hm,g1];simp
    refine Fz (by simp only[go_sem,JaX,simprocAttr,e3,f0,f1,f2,f8,f9,f10];rfl) ?_;refine JaZ ⟨_,by simp only[go_sem,JaX,simprocAttr,Zb];rfl,?_⟩;exact h
   ·have e3:decide (r∈rows)=false:=by
     rw[decide_eq_false_iff_not,hm,List.getElem?_eq_none Fh];simp
    rw[e3]at h;refine Fz (by simp only[go_sem,JaX,simprocAttr,Yr,f0,f1,f2,f8,f9,f10,hlt,hin];rfl) ?_;refine JaZ ⟨_,by simp only[go_sem,JaX,simprocAttr,Zb];rfl,?_⟩;exact h
 ·intro k x hk;omega
 ·intro k x hk hx;have:=(List.getElem?_eq_some_iff.1 hx).1;omega
end
section
open Go.AE
variable {tab:Tab}
structure SetV (S:Fw) (w:AW) (bp:Nat) (width:Nat) (rows:Fy) (lv:V) (cs:List V) (S0 T:Fw):Prop where
 hp:S bp
 lt:bp<w.next
 hx:w.heap.get bp=some (.cells [.int .i64 (Int.ofNat width),lv] .own)
 h0:∀b,S0 b→S b∧b≠bp∧b<w.next
 hT:∀b,T b→S b∧b≠bp∧¬S0 b∧b<w.next
 hS:∀b,S b→b<w.next
 hb:Buf S0 w lv 1 rows.length cs
 hv:RowsV T w cs rows
 rise:Rise rows
 wid:∀x∈rows,x.length=width
 w4:width≤4
def SetOf (S:Fw) (w:AW) (p:V) (width:Nat) (rows:Fy):Prop:=∃bp lv cs S0 T,p = .ptr bp 0∧SetV S w bp width rows lv cs S0 T
variable {S S0:Fw} {bp width:Nat} {rows:Fy} {lv:V} {cs:List V}
theorem SetV.frm {R:Fw}{w':AW}(h:SetV S w bp width rows lv cs S0 T)(hf:Frm R w w')(hd:∀x,S x→¬R x):SetV S w' bp width rows lv cs S0 T where
 hp:=h.hp
 lt:=FK h.lt hf.next
 hx:=(hf.heap _ h.lt (hd _ h.hp)).trans h.hx
 h0 b hb:=⟨(h.h0 b hb).1,(h.h0 b hb).2.1,FK (h.h0 b hb).2.2 hf.next⟩
 hT b hb:=⟨(h.hT b hb).1,(h.hT b hb).2.1,(h.hT b hb).2.2.1,FK (h.hT b hb).2.2.2 hf.next⟩
 hS b hb:=FK (h.hS b hb) hf.next
 hb:=h.hb.frm hf fun x hx=>hd x (h.h0 x hx).1
 hv:=h.hv.frm hf fun x hx=>hd x (h.hT x hx).1
 rise:=h.rise
 wid:=h.wid
 w4:=h.w4
theorem SetOf.frm {R:Fw}{w':AW}{p:V}(h:SetOf S w p width rows)(hf:Frm R w w')(hd:∀x,S x→¬R x):SetOf S w' p width rows:=by
 obtain⟨bp,lv,cs,S0,T,rfl,h⟩:=h;exact⟨bp,lv,cs,S0,T,rfl,h.frm hf hd⟩
theorem SetV.load0 (h:SetV S w bp width rows lv cs S0 T):w.load bp 0 1=some [.int .i64 (Int.ofNat width)]:=by
 simp only[AW.load,h.hx,AW.alive,FZ,Jbh]
theorem SetV.load1 (h:SetV S w bp width rows lv cs S0 T):w.load bp 1 1=some [lv]:=by
 simp only[AW.load,h.hx,AW.alive,List.drop_succ_cons,FZ,Jbh]
variable {U:Fw} {rv:V} {r:List Int}
theorem JoL (C:Codes tab)(hs:SetV S aw bp width rows lv cs S0 T)(hr:RowV U aw rv r)(hn:rows.length≤1000000)(hlr:r.length≤1000)(h1:r.length≠width→K (.tuple [.int .i64 (-1),.bool false]) aw)(h2:r.length=width→K (.tuple [.int .i64 (Int.ofNat (posn rows r)),.bool (decide (r∈rows))]) aw):WF tab VJ [.ptr bp 0,rv] aw K:=by
 refine Ja7 C.Yb rfl ?_;have e0:=hs.load0;have e1:=hs.load1;have w4:=hs.w4;have hl:∀x∈rows,x.length≤1000:=fun x hx=>by have:=hs.wid x hx;omega
 rcases hr.inv with⟨rfl,rfl⟩|⟨b,c,rfl,_⟩
 ·by_cases hw:width=0
  ·subst hw;have e2:((0:Int) != Int.ofNat 0)=false:=rfl;refine Fz (by simp only[go_sem,JaX,simprocAttr,Jk,eqV,e0,e1,e2];rfl) ?_;refine Ja0 Ff Fe ?_;refine JlV C hs.hb hs.hv hr hs.rise hn hl hlr ?_;refine JaY 1000 Fe ?_;refine JaZ ⟨_,by simp only[go_sem,JaX,simprocAttr,Jk];rfl,?_⟩;exact h2 rfl
  ·have e2:¬0=width:=fun h=>hw h.symm;refine Fz (by simp only[go_sem,JaX,simprocAttr,-Int.reduceOfNat,Jk,eqV,e0,e1,e2];rfl) ?_;refine JaZ ⟨_,by simp only[go_sem,JaX,simprocAttr,-Int.reduceOfNat,Jk];rfl,?_⟩;exact h1 fun h=>hw h.symm
 ·by_cases hw:r.length=width
  ·refine Fz (by simp only[go_sem,JaX,simprocAttr,Jk,eqV,e0,e1,hw];rfl) ?_;refine Ja0 Ff Fe ?_;refine JlV C hs.hb hs.hv (hw▸hr) hs.rise hn hl hlr ?_;refine JaY 1000 Fe ?_;refine JaZ ⟨_,by simp only[go_sem,JaX,simprocAttr,Jk];rfl,?_⟩;exact h2 hw
  ·refine Fz (by simp only[go_sem,JaX,simprocAttr,Jk,eqV,e0,e1,hw];rfl) ?_;refine JaZ ⟨_,by simp only[go_sem,JaX,simprocAttr,Jk];rfl,?_⟩;exact h1 hw
theorem JrN {b:Nat}{c:Cap}{sh:Share}(hx:w.heap.get b=some (.cells (rowC l) sh))(ha:Al T w b sh):w.elems 1 (.slice b 0 l.length c)=some (l.length,rowC l):=by
 cases l with
 | nil=>rfl
 | cons x l =>
  simp only[AW.elems,FC,AW.load,hx,ha.alive,FZ];rw[JfS _ _ (by simp[rowC])]
theorem JmJ (C:Codes tab)(hr:RowV U aw rv r)(hlr:r.length≤1000)(h:∀v w,RowV (fun b=>aw.next≤b∧b<w.next) w v r→Frm (fun _=>False) aw w→K v w):WF tab VK [rv] aw K:=by
 refine Ja7 C.XY rfl ?_;rcases hr.inv with⟨rfl,rfl⟩|⟨b,c,rfl,_,hb,sh,hx,ha⟩
 ·refine Fz (by simp only[go_sem,JaX,simprocAttr,JT,eqV];rfl) ?_;refine JaZ ⟨_,by simp only[go_sem,JaX,simprocAttr,JT];rfl,?_⟩;exact h _ _ .nil (Frm.refl _)
 ·have hx':(aw.fresh []).heap.get b=some (.cells (rowC r) sh):=(T.get_put_ne Fh).trans hx;have hf:Frm (fun _=>False) aw (aw.fresh []):=Frm.new _ _;have he:=JrN (c:=c) hx' (ha.frm hf fun _ _ h=>h);cases hrl:r.length with
  | zero =>
   have:r=[]:=List.length_eq_zero_iff.1 hrl;subst this;rw[FD]at he;refine Fz (by simp only[go_sem,JaX,simprocAttr,JT,eqV,Ja4,Jbe,FD,he,AW.appendV];rfl) ?_;refine JaZ ⟨_,by simp only[go_sem,JaX,simprocAttr,JT];rfl,?_⟩;refine h _ _ (.blk (n:=0) ⟨FH _,FW _⟩ (FW _) T.get_put_same (.inl rfl) rfl) hf
  | succ k =>
   have hap:(aw.fresh []).appendV 1 8 (.slice aw.next 0 0 (.known 0)) (k+1) (rowC r)=some (.slice (aw.next+1) 0 (k+1) (.upTo 1),(aw.fresh []).fresh (rowC r)):=by
    simp only[AW.appendV];rw[if_pos ⟨by omega,by omega,by omega⟩,if_neg Fh];simp only[AW.elems,FV,List.nil_append];rfl
   rw[hrl]at he;refine Fz (by simp only[go_sem,JaX,simprocAttr,JT,eqV,Ja4,Jbe,hrl,he,hap];rfl) ?_;refine JaZ ⟨_,by simp only[go_sem,JaX,simprocAttr,JT];rfl,?_⟩;refine h _ _ (.blk (n:=k+1) ⟨Nat.le_succ _,FW _⟩ (FW _) T.get_put_same (.inl rfl) hrl) (hf.trans (Frm.new _ _) (fun _ _ h=>h) fun _ _ h=>h)
theorem Jrl (C:Codes tab)(hP:∀args aw v aw',Jeh 24 args aw=some (v,aw')→tab.prim Zf args aw v aw'){x:V}{n i bv:Nat}(hb:Buf S aw lv 1 n cs)(hi:i≤n)(hv:aw.heap.get bv=some (.cells [x] .own))(hne:¬S bv)(h1:x.one=true)(h2:Jbf cs=true)(hn:n≤1000000)(h:∀v w S',Buf S' w v 1 (n+1) (cs.take i++[x]++cs.drop i)→Frm S aw w→Jd0 S S' aw w→K v w):WF tab Zf [lv,.int .i64 (Int.ofNat i),.slice bv 0 1 (.known 1)] aw K:=by
 have hel:aw.elems 1 (.slice bv 0 1 (.known 1))=some (1,[x]):=by simp only[AW.elems,AW.load,hv,AW.alive,FZ,Jbh]
 have hcl:=hb.len;rw[KC]at hcl;have hone:Jbf [x]=true:=by simp[Jbf,h1]
 rcases hb.inv with⟨rfl,rfl,rfl⟩|⟨b,rfl,hSb,_⟩
 ·have:i=0:=Fh;subst this;obtain⟨v',w',S',q1,q2,q3,q4⟩:=hb.add (news:=[x]) (bytes:=24) Fh rfl hone Fh Fh
  have ev:WF tab Zf [.nilslice,.int .i64 (Int.ofNat 0),.slice bv 0 1 (.known 1)] aw K:=by
   refine Ja7 C.Yc rfl ?_;have e0:idx (.int .i64 (Int.ofNat 0))=some 0:=rfl;have e1:(Int.ofNat 0==(0:Int))=true:=rfl;have e2:((1:Int)==0)=false:=rfl;refine Fz (by simp only[go_sem,JaX,simprocAttr,Zw,e0,e1,e2,hel,q1,imp_self];rfl) ?_;refine JaZ ⟨_,by simp only[go_sem,JaX,simprocAttr,Zw];rfl,?_⟩;exact h _ _ _ q2 q3 q4
  exact ev
 ·by_cases hin:i<n
  ·obtain⟨v',w',S',q1,q2,q3,q4⟩:=hb.insert (bytes:=24) (k:=1) (i:=i) hin hv (fun e=>hne (e▸hSb)) h1 h2 Fh Fh;exact⟨_,_,.prim (hP _ _ _ _ q1),h _ _ _ q2 q3 q4⟩
  ·have:i=n:=Fh;subst this;obtain⟨v',w',S',q1,q2,q3,q4⟩:=hb.add (news:=[x]) (bytes:=24) Fh rfl hone Fh Fh;refine Ja7 C.Yc rfl ?_;have e2:((1:Int)==0)=false:=rfl;refine Fz (by simp only[go_sem,JaX,simprocAttr,Zw,AW.sliceW,Jdn,e2,hel,q1];rfl) ?_;refine JaZ ⟨_,by simp only[go_sem,JaX,simprocAttr,Zw];rfl,?_⟩;refine h _ _ _ ?_ q3 q4;rw[FX Fh,List.drop_eq_nil_of_le Fh,Kc];exact q2
def insR (rows:Fy) (r:List Int):Fy:=rows.take (posn rows r)++[r]++rows.drop (posn rows r)
theorem JuS:∀(j:Nat) x,j<posn rows r→rows[j]? = some x→cmpL x r<0:=by
 intro j x hj hx;unfold posn at hj;have hjl:=(List.getElem?_eq_some_iff.1 hx).1
 have h1:(rows.takeWhile fun x=>decide (cmpL x r<0))[j]? = some x:=by
  have hp:=List.takeWhile_prefix (l:=rows) (fun x=>decide (cmpL x r<0));obtain⟨t,ht⟩:=hp;rw[←ht,F5 hj]at hx;exact hx
 have:=FI h1;have ha:=List.all_eq_true.1 (List.all_takeWhile (l:=rows) (p:=fun x=>decide (cmpL x r<0))) _ this;simpa using ha
theorem Jk7:∀{rows:Fy} {r:List Int} x,rows[posn rows r]? = some x→¬cmpL x r<0
 | [],r,x,h=>by simp at h
 | y::rows,r,x,h=>by
  by_cases hy:cmpL y r<0
  ·have e:posn (y::rows) r=posn rows r+1:=by simp[posn,hy]
   rw[e]at h;exact Jk7 x (by simpa using h)
  ·have e:posn (y::rows) r=0:=by simp[posn,hy]
   rw[e]at h;simp at h;rw[←h];exact hy
theorem JuR (hr:Rise rows)(hn:r∉rows):∀(j:Nat) x,posn rows r≤j→rows[j]? = some x→cmpL r x<0:=by
 intro j x hj hx;have hjl:=(List.getElem?_eq_some_iff.1 hx).1;have hpl:posn rows r<rows.length:=Fh
 have h1:¬cmpL x r<0:=by
  by_cases he:j=posn rows r
  ·rw[he]at hx;exact Jk7 x hx
  ·have h2:=Jk7 (rows:=rows) (r:=r) _ (FB hpl);have h3:=List.pairwise_iff_getElem.1 hr _ j hpl hjl Fh;rw[FB hjl]at hx;cases hx;exact fun hx=>h2 (Je9 h3 hx)
 rcases Jkl (a:=r) (b:=x)with h|h|h
 ·exact h
 ·subst h;exact absurd (FI hx) hn
 ·exact absurd h h1
theorem Jtv (hr:Rise rows)(hn:r∉rows):Rise (insR rows r):=by
 have hlo:∀x∈rows.take (posn rows r),cmpL x r<0:=by
  intro x hx;obtain⟨j,hj,e⟩:=List.mem_iff_getElem.1 hx;rw[FU]at hj;refine JuS (rows:=rows) j x Fh ?_;rw[List.getElem_take]at e;rw[FB Fh,e]
 have hhi:∀x∈rows.drop (posn rows r),cmpL r x<0:=by
  intro x hx;obtain⟨j,hj,e⟩:=List.mem_iff_getElem.1 hx;rw[Ki]at hj;refine JuR hr hn (posn rows r+j) x Fh ?_;rw[List.getElem_drop]at e;rw[FB Fh,e]
 unfold insR Rise;rw[F6,List.pairwise_append];refine⟨List.Pairwise.sublist (List.take_sublist _ _) hr,?_,?_⟩
 ·rw[List.singleton_append,List.pairwise_cons];exact⟨hhi,List.Pairwise.sublist (List.drop_sublist _ _) hr⟩
 ·intro a ha b hb;rw[List.singleton_append,FJ]at hb;rcases hb with rfl|hb
  ·exact hlo a ha
  ·exact Je9 (hlo a ha) (hhi b hb)
theorem mem_ins {x:List Int}:x∈insR rows r↔x=r∨x∈rows:=by
 unfold insR;rw[F6,Ka,List.singleton_append,FJ]
 have:x∈rows↔x∈rows.take (posn rows r)∨x∈rows.drop (posn rows r):=by
  rw[←Ka,List.take_append_drop]
 rw[this];constructor
 ·rintro (h|h|h)
  ·exact .inr (.inl h)
  ·exact .inl h
  ·exact .inr (.inr h)
 ·rintro (h|h|h)
  ·exact .inr (.inl h)
  ·exact .inl h
  ·exact .inr (.inr h)
theorem JrO {i:Nat}(h:RowsV T w cs rows)(hv:RowV T w v r)(hi:i≤rows.length):RowsV T w (cs.take i++[v]++cs.drop i) (rows.take i++[r]++rows.drop i):=by
 have h1:=h.1;refine⟨by simp[h1],fun k x l hx hl=>?_⟩;rw[F6]at hx hl;by_cases hk:k<i
 ·rw[F5 (by simp;omega),Kt hk]at hx hl;exact h.2 k x l hx hl
 ·rw[F4 (by simp;omega)]at hx hl;have e1:(cs.take i).length=i:=by simp;omega
  have e2:(rows.take i).length=i:=by simp;omega
  rw[e1]at hx;rw[e2]at hl;by_cases hk2:k=i
  ·subst hk2;simp at hx hl;rw[←hx,←hl];exact hv
  ·obtain⟨m,hm⟩:∃m,k-i=m+1:=⟨k-i-1,by omega⟩;rw[hm]at hx hl;simp at hx hl;exact h.2 _ x l hx hl
theorem JrP (h:RowsV T w cs rows):Jbf cs=true:=by
 rw[JeB];intro v hv;obtain⟨i,hi,e⟩:=List.mem_iff_getElem.1 hv;have hi':i<rows.length:=by rw[←h.1];exact hi
 have:=h.2 i v _ (by rw[FB hi,e]) (FB hi');rcases this.inv with⟨rfl,_⟩|⟨b,c,rfl,_⟩<;>rfl
theorem RowV.cells (h:RowV T w v l):v.cells=[v]:=by
 rcases h.inv with⟨rfl,_⟩|⟨b,c,rfl,_⟩<;>rfl
theorem RowV.isOne (h:RowV T w v l):v.one=true:=by
 rcases h.inv with⟨rfl,_⟩|⟨b,c,rfl,_⟩<;>rfl
theorem add_ok (C:Codes tab)(hP:∀args aw v aw',Jeh 24 args aw=some (v,aw')→tab.prim Zf args aw v aw'){p:V}(hs:SetOf S aw p width rows)(hr:RowV U aw rv r)(hn:rows.length≤1000000)(hlr:r.length≤1000)(h1:¬(r.length=width∧r∉rows)→K (.bool false) aw)(h2:r.length=width→r∉rows→∀w S',SetOf S' w p width (insR rows r)→Frm S aw w→Jd0 S S' aw w→K (.bool true) w):WF tab VG [p,rv] aw K:=by
 obtain⟨bp,lv,cs,S0,T,rfl,hs⟩:=hs;refine Ja7 C.Xt rfl ?_;refine Fz (by simp only[go_sem,JaX,simprocAttr,Zq];rfl) ?_;refine Ja0 Ff Fe ?_;refine JoL C hs hr hn hlr ?_ ?_
 ·intro hw;have e1:decide ((-1:Int)<0)=true:=rfl;refine Fz (by simp only[go_sem,JaX,simprocAttr,e1];rfl) ?_;refine JaZ ⟨_,by simp only[go_sem,JaX,simprocAttr,Zq];rfl,?_⟩;exact h1 fun h=>hw h.1
 ·intro hw;by_cases hm:r∈rows
  ·have e1:¬posn rows r<0:=Fh;refine Fz (by simp only[go_sem,JaX,simprocAttr,hm,e1];rfl) ?_;refine JaZ ⟨_,by simp only[go_sem,JaX,simprocAttr,Zq];rfl,?_⟩;exact h1 fun h=>h.2 hm
  ·have e1:¬posn rows r<0:=Fh;refine Fz (by simp only[go_sem,JaX,simprocAttr,hm,e1];rfl) ?_;have l1:=hs.load1;refine JbM ?_;refine Jbn 100 (by simp only[go_sem,JaX,simprocAttr,l1];rfl) ?_;refine Jb4 Ff Fe ?_;refine JmJ C hr hlr fun v w hv hf=>?_;have hvc:=hv.cells;refine Jbn 100 (by simp only[go_sem,JaX,simprocAttr,Ja4,Jbe,over,hvc,FC,FD];rfl) ?_;refine Jb4 Ff Fe ?_;have hfa:Frm (fun _=>False) aw (w.fresh [v]):=hf.trans (Frm.new _ _) (fun _ _ h=>h) fun _ _ h=>h;have hsa:=hs.frm hfa fun _ _ h=>h;have hsw:=hs.frm hf fun _ _ h=>h;have hnS0:¬S0 w.next:=fun h=>by have:=(hs.h0 _ h).2.2;have:=hf.next;omega
   refine Jrl C hP hsa.hb (i:=posn rows r) (Jk8 _ _) (AE.T.get_put_same (k:=w.next)) hnS0 hv.isOne (JrP hsa.hv) hn fun lv' w2 S' q1 q2 q3=>?_;have hbp2:¬S0 bp:=fun h=>(hs.h0 _ h).2.1 rfl;have hx2:w2.heap.get bp=some (.cells [.int .i64 (Int.ofNat width),lv] .own):=(q2.heap _ hsa.lt hbp2).trans hsa.hx;have l2:w2.load bp 1 1=some [lv]:=by simp only[AW.load,hx2,AW.alive,List.drop_succ_cons,FZ,Jbh]
   have hlv':lv'.one=true:=by rcases q1.inv with⟨rfl,_⟩|⟨b,rfl,_⟩<;>rfl
   have hlc':lv'.cells=[lv']:=by rcases q1.inv with⟨rfl,_⟩|⟨b,rfl,_⟩<;>rfl
   have hst:=JhX (i:=1) (v:=lv') hx2 Fj hlv';refine Jbn 100 (by simp only[go_sem,JaX,simprocAttr,hlc',hst,FC,FD];rfl) ?_;have la:=hsa.load1;have lw:=hsw.load1;refine JbO ⟨(show Jbg _ _ [(4,7),(4,8)]from by simp only[go_sem,JaX,simprocAttr,Jbg,chk,List.reverse_cons,List.reverse_nil,JbE,JbR,JbP,JbQ,List.getElem?_nil,false_or,or_true,or_false,exists_eq',FQ,Prod.mk.injEq,Bool.true_eq_false,FM,and_true,true_and,implies_true,l1,la,lw]),?_⟩;refine JaY 1000 Fe ?_;refine JaZ ⟨_,by simp only[go_sem,JaX,simprocAttr,Zq];rfl,?_⟩;have hnx:(w.fresh [v]).next=w.next+1:=rfl;have hn1:=hf.next;have hn2:=q2.next;have hlt:=hs.lt;have hturn:Frm (fun b=>b=bp) w2 (w2.turn bp (.cells ([.int .i64 (Int.ofNat width),lv].set 1 lv') .own)):=Jdm rfl (.inl rfl);have hvf:RowV (fun b=>aw.next≤b∧b<w.next) (w.fresh [v]) v r:=hv.frm (S:=fun _=>False) (Frm.new _ _) fun _ _ h=>h;have hv2:RowV (fun b=>aw.next≤b∧b<w.next) w2 v r:=hvf.frm q2 fun x hx h=>by have:=(hs.h0 x h).2.2;omega
   have hr2:RowsV T w2 cs rows:=hsa.hv.frm q2 fun x hx h=>(hs.hT x hx).2.2.1 h;refine h2 hw hm _ (fun b=>S b∨(aw.next≤b∧b<w2.next)) ⟨bp,lv',cs.take (posn rows r)++[v]++cs.drop (posn rows r),S',fun b=>T b∨(aw.next≤b∧b<w.next),rfl,?_⟩ ?_ ?_
   ·refine⟨.inl hs.hp,?_,AE.T.get_put_same,?_,?_,?_,?_,?_,Jtv hs.rise hm,?_,hs.w4⟩
    ·show bp<w2.next;omega
    ·intro b hb;obtain⟨g1,g2⟩:=q3 b hb;rcases g2 with g2|g2
     ·have:=hs.h0 b g2;exact⟨.inl this.1,this.2.1,g1⟩
     ·exact⟨.inr ⟨by omega,g1⟩,by omega,g1⟩
    ·rintro b (hb|hb)
     ·have:=hs.hT b hb;refine⟨.inl this.1,this.2.1,fun h=>?_,FK this.2.2.2 (show aw.next≤w2.next by omega)⟩;rcases (q3 b h).2 with g|g
      ·exact this.2.2.1 g
      ·have:=this.2.2.2;omega
     ·refine⟨.inr ⟨hb.1,by omega⟩,by omega,fun h=>?_,show b<w2.next by omega⟩;rcases (q3 b h).2 with g|g
      ·have:=(hs.h0 b g).2.2;omega
      ·omega
    ·rintro b (hb|hb)
     ·have:=hs.hS b hb;show b<w2.next;omega
     ·exact hb.2
    ·have e:(insR rows r).length=rows.length+1:=by
      have:=Jk8 rows r;simp[insR];omega
     rw[e];refine q1.frm hturn fun x hx h=>?_;subst h;rcases (q3 x hx).2 with g|g
     ·exact hbp2 g
     ·omega
    ·refine JrO ((hr2.mono fun x h=> .inl h).frm hturn fun x hx h=>?_) ((hv2.mono fun x h=> .inr h).frm hturn fun x hx h=>?_) (Jk8 _ _)
     ·subst h;rcases hx with g|g
      ·exact (hs.hT _ g).2.1 rfl
      ·omega
     ·subst h;rcases hx with g|g
      ·exact (hs.hT _ g).2.1 rfl
      ·omega
    ·intro x hx;rcases mem_ins.1 hx with rfl|hx
     ·exact hw
     ·exact hs.wid x hx
   ·refine (hfa.trans q2 (U:=S) (fun _ _ h=>h.elim) fun x _ h=>(hs.h0 x h).1).trans hturn (fun _ _ h=>h) ?_;rintro x _ rfl;exact hs.hp
   ·rintro b (hb|hb)
    ·exact⟨by have:=hs.hS b hb;show b<w2.next;omega,.inl hb⟩
    ·exact⟨hb.2,.inr hb.1⟩
end
section
open Go.AE
variable {tab:Tab}
variable {width:Nat}
theorem has_ok (C:Codes tab){S U:Fw}{p rv:V}{rows:Fy}{r:List Int}(hs:SetOf S aw p width rows)(hr:RowV U aw rv r)(hn:rows.length≤1000000)(hlr:r.length≤1000)(h:K (.bool (decide (r∈rows))) aw):WF tab YG [p,rv] aw K:=by
 obtain⟨bp,lv,cs,S0,T,rfl,hs⟩:=hs;refine Ja7 C.Yp rfl ?_;refine Fz (by simp only[go_sem,JaX,simprocAttr,Za];rfl) ?_;refine Ja0 Ff Fe ?_;refine JoL C hs hr hn hlr ?_ ?_
 ·intro hw;have:decide (r∈rows)=false:=decide_eq_false fun h=>hw (hs.wid r h);rw[this]at h;refine JaY 1000 Fe ?_;refine JaZ ⟨_,by simp only[go_sem,JaX,simprocAttr,Za];rfl,?_⟩;exact h
 ·intro hw;refine JaY 1000 Fe ?_;refine JaZ ⟨_,by simp only[go_sem,JaX,simprocAttr,Za];rfl,?_⟩;exact h
theorem len_ok (C:Codes tab){S:Fw}{p:V}{rows:Fy}(hs:SetOf S aw p width rows)(h:K (.int .i64 (Int.ofNat rows.length)) aw):WF tab YK [p] aw K:=by
 obtain⟨bp,lv,cs,S0,T,rfl,hs⟩:=hs;refine Ja7 C.WW rfl ?_;have l1:=hs.load1;rcases hs.hb.inv with⟨rfl,h0,_⟩|⟨b,rfl,hSb,_⟩
 ·refine Fz (by simp only[go_sem,JaX,simprocAttr,ZE,l1,eqV];rfl) ?_;refine JaZ ⟨_,by simp only[go_sem,JaX,simprocAttr,ZE];rfl,?_⟩;rw[h0]at h;exact h
 ·refine Fz (by simp only[go_sem,JaX,simprocAttr,ZE,l1,eqV];rfl) ?_;refine JaZ ⟨_,by simp only[go_sem,JaX,simprocAttr,ZE];rfl,?_⟩;exact h
theorem new_ok (C:Codes tab)(hw:width≤4)(h:∀w,SetOf (fun b=>b=aw.next) w (.ptr aw.next 0) width []→Frm (fun _=>False) aw w→w.next=aw.next+1→K (.ptr aw.next 0) w):WF tab VD [.int .i64 (Int.ofNat width)] aw K:=by
 refine Ja7 C.Xb rfl ?_;have e1:¬width<0:=Fh;have e2:¬4<width:=Fh;refine Fz (by simp only[go_sem,JaX,simprocAttr,Xa,e1,e2,Ja4,Jbe,over,V.cells,FC,FD];rfl) ?_;refine JaZ ⟨_,by simp only[go_sem,JaX,simprocAttr,Xa];rfl,?_⟩;refine h _ ⟨aw.next,.nilslice,[],fun _=>False,fun _=>False,rfl,⟨rfl,FW _,AE.T.get_put_same,fun _ h=>h.elim,fun _ h=>h.elim,?_,.nil,⟨rfl,fun i v l h=>by simp at h⟩,.nil,fun x hx=>by simp at hx,hw⟩⟩ (Frm.new _ _) rfl;rintro b rfl;exact FW _
end
section
open Go.AE
variable {tab:Tab}
def fitsR:List Int→List Int→Bool
 | x::l,n::m=>!(decide (0<n)&&x != n)&&fitsR l m
 | _,_=>true
variable {x r:List Int}
theorem JpT {i:Nat}{n:Int}(h1:x[i]? = some a)(h2:r[i]? = some n):fitsR (x.drop i) (r.drop i)=(!(decide (0<n)&&a != n)&&fitsR (x.drop (i+1)) (r.drop (i+1))):=by
 have k1:i<x.length:=(List.getElem?_eq_some_iff.1 h1).1;have k2:i<r.length:=(List.getElem?_eq_some_iff.1 h2).1;rw[FL k1,FL k2];rw[FB k1]at h1;rw[FB k2]at h2;rw[FY h1,FY h2];rfl
theorem Jly:∀(x:List Int),fitsR x []=true
 | []=>rfl
 | _::_=>rfl
theorem Jks:∀(x:List Int) (k:Nat),fitsR x (List.replicate k 0)=true
 | [],0=>rfl
 | [],k+1=>rfl
 | _::_,0=>rfl
 | _::l,k+1=>by simp[List.replicate_succ,fitsR,Jks l k]
def Jwq (xv rv:V) (x r:List Int) (aw:AW) (q:Nat) (f:Fr) (w:AW):Prop :=
 ∃i,f.get 0=some xv∧f.get 7=some rv∧f.get 8=some (.int .i64 (Int.ofNat r.length))∧f.get 9=some (.int .i64 (Int.ofNat i))∧w=aw∧fitsR x r=fitsR (x.drop i) (r.drop i)∧i≤r.length∧q=r.length-i
theorem Juv (C:Codes tab){U:Fw}{xv rv:V}(hx:RowV T aw xv x)(hr:RowV U aw rv r)(hl:x.length=r.length)(hlr:r.length≤1000)(h:K (.bool (fitsR x r)) aw):WF tab GO [xv,rv] aw K:=by
 refine Ja7 C.WZ rfl ?_;rcases hr.inv with⟨rfl,rfl⟩|⟨b2,c2,rfl,_,_,hx2⟩
 ·rw[Jly]at h;refine Fz (by simp only[go_sem,JaX,simprocAttr,JI];rfl) ?_;refine Jdz ?_;refine Fz (by simp only[go_sem,JaX,simprocAttr,Zc];rfl) ?_;refine JaZ ⟨_,by simp only[go_sem,JaX,simprocAttr,JI];rfl,?_⟩;exact h
 rcases hx.inv with⟨rfl,rfl⟩|⟨b1,c1,rfl,_,_,hx1⟩
 ·have:r=[]:=List.length_eq_zero_iff.1 (by simpa using hl.symm);subst this;refine Fz (by simp only[go_sem,JaX,simprocAttr,JI,FD];rfl) ?_;refine Jdz ?_;refine Fz (by simp only[go_sem,JaX,simprocAttr,Zc,FD];rfl) ?_;refine JaZ ⟨_,by simp only[go_sem,JaX,simprocAttr,JI];rfl,?_⟩;exact h
 refine Fz (by simp only[go_sem,JaX,simprocAttr,JI];rfl) ?_;refine JdJ (Jwq _ _ x r aw) ?_ r.length ⟨0,Fb,Fb,Fb,Fb,rfl,by simp,by omega,by omega⟩;rintro q f w ⟨i,f0,f7,f8,f9,rfl,hc,hi,rfl⟩ ih;by_cases hlt:i<r.length
 ·have hlx:i<x.length:=Fh;have g1:x[i]? = some x[i]:=FB hlx;have g2:r[i]? = some r[i]:=FB hlt;have e1:=row_load hx1 g1;have e2:=row_load hx2 g2;rw[JpT g1 g2]at hc;have hwr:IntKind.wrap .i64 (Int.ofNat i+1)=Int.ofNat (i+1):=Ja3 Fh;by_cases hp:r[i]>0
  ·have hp':0<r[i]:=hp;by_cases he:x[i]=r[i]
   ·have e3:(x[i] != r[i])=false:=by simp[he]
    rw[e3,Bool.and_false,Bool.not_false,Bool.true_and]at hc;refine Fz (by simp only[go_sem,JaX,simprocAttr,Zc,WY,f0,f7,f8,f9,hlt,hlx,e1,e2,hp,e3,hwr];rfl) ?_;exact ih _ _ _ Fh ⟨i+1,(Fg f0),(Fg f7),(Fg f8),Fb,rfl,hc,by omega,rfl⟩
   ·have e3:(x[i] != r[i])=true:=by simp[he]
    rw[e3,decide_eq_true hp',Bool.and_true,Bool.not_true,Bool.false_and]at hc;rw[hc]at h;refine Fz (by simp only[go_sem,JaX,simprocAttr,Zc,WY,f0,f7,f8,f9,hlt,hlx,e1,e2,hp,e3,hwr];rfl) ?_;refine JaZ ⟨_,by simp only[go_sem,JaX,simprocAttr,JI];rfl,?_⟩;exact h
  ·have hp':¬0<r[i]:=hp;rw[decide_eq_false hp',Bool.false_and,Bool.not_false,Bool.true_and]at hc;refine Fz (by simp only[go_sem,JaX,simprocAttr,Zc,WY,f0,f7,f8,f9,hlt,hlx,e1,e2,hp,hwr];rfl) ?_;exact ih _ _ _ Fh ⟨i+1,(Fg f0),(Fg f7),(Fg f8),Fb,rfl,hc,by omega,rfl⟩
 ·rw[List.drop_eq_nil_of_le (by omega:r.length≤i),Jly]at hc;rw[hc]at h;refine Fz (by simp only[go_sem,JaX,simprocAttr,Zc,f0,f7,f8,f9,hlt];rfl) ?_;refine JaZ ⟨_,by simp only[go_sem,JaX,simprocAttr,JI];rfl,?_⟩;exact h
def ListOf (N:Nat) (w:AW) (v:V) (rows:Fy) (cs:List V) (S T:Fw):Prop :=
 Buf S w v 1 rows.length cs∧RowsV T w cs rows∧(∀x,S x→N≤x∧x<w.next∧¬T x)∧(∀x,T x→N≤x∧x<w.next)
def Jwt (lv pv:V) (rows:Fy) (pat:List Int) (aw:AW) (q:Nat) (f:Fr) (w:AW):Prop :=
 ∃i v cs S T,f.get 1=some pv∧f.get 22=some lv∧f.get 23=some (.int .i64 (Int.ofNat rows.length))∧f.get 24=some (.int .i64 (Int.ofNat i))∧f.get 5=some v∧ListOf aw.next w v ((rows.take i).filter fun x=>fitsR x pat) cs S T∧Frm (fun _=>False) aw w∧i≤rows.length∧q=rows.length-i
theorem JeW {rows:Fy}{i:Nat}{p:List Int→Bool}(h:rows[i]? = some x):(rows.take (i+1)).filter p=(rows.take i).filter p++if p x then [x]else []:=by
 rw[List.take_add_one,h,List.filter_append];simp only[Option.toList_some];by_cases hp:p x<;>simp[hp]
theorem match_ok (C : Codes tab) {S U : Nat → Prop} {p pv : V} {width : Nat} {rows : List (List Int)} {pat : List Int} {aw : AW} {K : V → AW → Prop} (hs : SetOf S aw p width rows) (hr : RowV U aw pv pat) (hn : rows.length ≤ 1000000) (hlr : pat.length ≤ 1000)
    (h1 : pat.length ≠ width → K .nilslice aw) (h2 : pat.length = width → ∀ v w cs S1 T1, ListOf aw.next w v (rows.filter fun x => fitsR x pat) cs S1 T1 → Frm (fun _ => False) aw w → K v w) : WF tab ZL [p, pv] aw K := by
  obtain ⟨bp, lv, cs, S0, T, rfl, hs⟩ := hs
  refine Ja7 C.Ym rfl ?_
  have e0 := hs.load0
  have e1 := hs.load1
  have begun : pat.length = width → ∀ fr : Fr, fr.get 1 = some pv → fr.get 22 = some lv → fr.get 23 = some (.int .i64 (Int.ofNat rows.length)) → fr.get 24 = some (.int .i64 (Int.ofNat 0)) → fr.get 5 = some .nilslice →
      WS tab [.code (.loop Wo), .endB 0, .code (.seq (.region [⟨some 37, none, .mov (.tmp 5)⟩, ⟨some 4, none, .mov (.tmp 37)⟩]) .ret)] fr aw (fun fr' aw' => ∃ vs, Jcv fr' aw' Jf.results = some vs ∧ K (JbT vs) aw') := by
    intro hw fr f1 f22 f23 f24 f5
    refine JdJ (Jwt lv pv rows pat aw) ?_ rows.length ⟨0, .nilslice, [], fun _ => False, fun _ => False, f1, f22, f23, f24, f5, ⟨.nil, ⟨rfl, fun i v l h => by simp at h⟩, fun _ h => h.elim, fun _ h => h.elim⟩, Frm.refl _, by omega, rfl⟩
    clear f1 f22 f23 f24 f5
    rintro q f w ⟨i, v, vs, S1, T1, f1, f22, f23, f24, f5, ⟨hb1, hv1, hS1, hT1⟩, hf, hi, rfl⟩ ih
    have hsw := hs.frm hf fun _ _ h => h
    by_cases hlt : i < rows.length
    · have g1 : rows[i]? = some rows[i] := List.getElem?_eq_getElem hlt
      obtain ⟨xv, g2, g3⟩ := hsw.hv.at g1
      have hwr : IntKind.wrap .i64 (Int.ofNat i + 1) = Int.ofNat (i + 1) := Ja3 (by omega)
      have hwx := hs.wid _ (List.mem_of_getElem? g1)
      have hrw := hr.frm hf fun _ _ h => h
      rcases hsw.hb.inv with ⟨_, h0, _⟩ | ⟨b, rfl, hSb, _⟩
      · omega
      have ld := hsw.hb.load1 g2
      refine JaY 1000 (by simp only [go_sem, JaX, simprocAttr, Wo, Jah, Jag, f1, f22, f23, f24, f5, hlt, ld]; rfl) ?_
      refine Ja0 (by simp only [go_sem, JaX, simprocAttr]) (by simp only [go_sem, JaX, simprocAttr]; rfl) ?_
      refine Juv C g3 hrw (by omega) hlr ?_
      by_cases hp : fitsR rows[i] pat = true
      · refine JaY 1000 (by simp only [go_sem, JaX, simprocAttr, hp, f1, f22, f23, f24, f5]; rfl) ?_
        refine Ja0 (by simp only [go_sem, JaX, simprocAttr]) (by simp only [go_sem, JaX, simprocAttr]; rfl) ?_
        refine JmJ C g3 (by omega) fun v' w' hv' hf' => ?_
        have hvc := hv'.cells
        have hfa : Frm (fun _ => False) w (w'.fresh [v']) := hf'.trans (Frm.new _ _) (fun _ _ h => h) fun _ _ h => h
        have hel : (w'.fresh [v']).elems 1 (.slice w'.next 0 1 (.known 1)) = some (1, [v']) := by
          simp only [AW.elems, AW.load, AW.fresh, AW.new, AE.T.get_putk, if_true, AW.alive, List.drop_zero, Jbh]
        have hlen : ((rows.take i).filter fun x => fitsR x pat).length ≤ rows.length := Nat.le_trans (List.length_filter_le _ _) (by rw [List.length_take]; omega)
        obtain ⟨v2, w2, S2, q1, q2, q3, q4⟩ := (hb1.frm hfa fun _ _ h => h).add (news := [v']) (bytes := 24) (by omega) rfl (by simp [Jbf, hv'.isOne]) (by omega) (by omega)
        have hnx : (w'.fresh [v']).next = w'.next + 1 := rfl
        have hn1 := hf.next
        have hn2 := hf'.next
        have hn3 := q3.next
        refine JaY 1000 (by simp only [go_sem, JaX, simprocAttr, Ja4, Jbe, over, hvc, List.length_cons, List.length_nil, hel, q1, f1, f22, f23, f24, f5, hwr]; rfl) ?_
        refine ih (rows.length - (i + 1)) _ _ (by omega) ⟨i + 1, v2, vs ++ [v'], S2, fun x => T1 x ∨ (w.next ≤ x ∧ x < w'.next), (by simp only [go_sem, JaX, simprocAttr, f1] <;> rfl), (by simp only [go_sem, JaX, simprocAttr, f22] <;> rfl), (by simp only [go_sem, JaX, simprocAttr, f23] <;> rfl), (by simp only [go_sem, JaX, simprocAttr] <;> rfl), (by simp only [go_sem, JaX, simprocAttr] <;> rfl), ⟨?_, ?_, ?_, ?_⟩, ?_, by omega, rfl⟩
        · rw [JeW g1, if_pos hp, List.length_append]; exact q2
        · rw [JeW g1, if_pos hp]
          have a1 : RowsV T1 w2 vs _ := (hv1.frm hfa fun _ _ h => h).frm q3 fun x hx h => (hS1 x h).2.2 hx
          have a2 : RowV (fun b => w.next ≤ b ∧ b < w'.next) w2 v' rows[i] := (hv'.frm (w' := w'.fresh [v']) (S := fun _ => False) (Frm.new _ _) fun _ _ h => h).frm q3 fun x hx h => by have := (hS1 x h).2.1; omega
          have hl1 := hv1.1
          refine ⟨by simp [hl1], fun k y l hy hl => ?_⟩
          by_cases hk : k < vs.length
          · rw [List.getElem?_append_left hk] at hy
            rw [List.getElem?_append_left (by omega)] at hl
            exact (a1.2 k y l hy hl).mono fun _ h => .inl h
          · rw [List.getElem?_append_right (by omega)] at hy hl
            rw [← hl1] at hl
            cases hkk : k - vs.length with
            | zero => rw [hkk] at hy hl; simp at hy hl; rw [← hy, ← hl]; exact a2.mono fun _ h => .inr h
            | succ m => rw [hkk] at hy; simp at hy
        · intro x hx
          obtain ⟨m1, m2⟩ := q4 x hx
          rcases m2 with m2 | m2
          · have := hS1 x m2
            exact ⟨this.1, m1, fun h => h.elim this.2.2 fun h => by omega⟩
          · refine ⟨by omega, m1, fun h => h.elim (fun h => ?_) fun h => by omega⟩
            have := hT1 x h; omega
        · rintro x (h | h)
          · have := hT1 x h; omega
          · omega
        · refine (hf.trans hfa (fun _ _ h => h) fun _ _ h => h).trans q3 (fun _ _ h => h) fun x hx h => ?_
          have := (hS1 x h).1; omega
      · have hp' : fitsR rows[i] pat = false := by simpa using hp
        refine JaY 1000 (by simp only [go_sem, JaX, simprocAttr, hp', f1, f22, f23, f24, f5, hwr]; rfl) ?_
        refine ih (rows.length - (i + 1)) _ _ (by omega) ⟨i + 1, v, vs, S1, T1, (by simp only [go_sem, JaX, simprocAttr, f1] <;> rfl), (by simp only [go_sem, JaX, simprocAttr, f22] <;> rfl), (by simp only [go_sem, JaX, simprocAttr, f23] <;> rfl), (by simp only [go_sem, JaX, simprocAttr] <;> rfl), (by simp only [go_sem, JaX, simprocAttr, f5] <;> rfl), ?_, hf, by omega, rfl⟩
        rw [JeW g1, if_neg (by simp [hp']), List.append_nil]
        exact ⟨hb1, hv1, hS1, hT1⟩
    · have e : rows.take i = rows := List.take_of_length_le (by omega)
      rw [e] at hb1 hv1
      refine JaY 1000 (by simp only [go_sem, JaX, simprocAttr, Wo, f1, f22, f23, f24, f5, hlt]; rfl) ?_
      refine JaZ ⟨_, by simp only [go_sem, JaX, simprocAttr, Jf, f5]; rfl, ?_⟩
      exact h2 hw _ _ _ _ _ ⟨hb1, hv1, hS1, hT1⟩ hf
  rcases hr.inv with ⟨rfl, rfl⟩ | ⟨b, c, rfl, _⟩
  · by_cases hw : width = 0
    · subst hw
      have e2 : ((0 : Int) != Int.ofNat 0) = false := rfl
      rcases hs.hb.inv with ⟨rfl, h0, _⟩ | ⟨b, rfl, hSb, _⟩
      · rw [h0] at begun
        refine JaY 1000 (by simp only [go_sem, JaX, simprocAttr, Jf, eqV, e0, e1, e2]; rfl) ?_
        exact begun rfl _ (by simp only [go_sem, JaX, simprocAttr] <;> rfl) (by simp only [go_sem, JaX, simprocAttr] <;> rfl) (by simp only [go_sem, JaX, simprocAttr] <;> rfl) (by simp only [go_sem, JaX, simprocAttr] <;> rfl) (by simp only [go_sem, JaX, simprocAttr] <;> rfl)
      · refine JaY 1000 (by simp only [go_sem, JaX, simprocAttr, Jf, eqV, e0, e1, e2]; rfl) ?_
        exact begun rfl _ (by simp only [go_sem, JaX, simprocAttr] <;> rfl) (by simp only [go_sem, JaX, simprocAttr] <;> rfl) (by simp only [go_sem, JaX, simprocAttr] <;> rfl) (by simp only [go_sem, JaX, simprocAttr] <;> rfl) (by simp only [go_sem, JaX, simprocAttr] <;> rfl)
    · have e2 : ¬ 0 = width := fun h => hw h.symm
      refine JaY 1000 (by simp only [go_sem, JaX, Nat.reduceAdd, Nat.reduceLT, Nat.reduceEqDiff, reduceIte, reduceCtorEq, Int.reduceLT, Int.reduceBEq, Int.reduceGE, Int.reduceEq, Int.reduceAdd, Nat.reduceLeDiff, Jf, eqV, e0, e1, e2]; rfl) ?_
      refine JaZ ⟨_, by simp only [go_sem, JaX, Nat.reduceAdd, Nat.reduceLT, Nat.reduceEqDiff, reduceIte, reduceCtorEq, Int.reduceLT, Int.reduceBEq, Int.reduceGE, Int.reduceEq, Int.reduceAdd, Nat.reduceLeDiff, Jf]; rfl, ?_⟩
      exact h1 fun h => hw h.symm
  · by_cases hw : pat.length = width
    · rcases hs.hb.inv with ⟨rfl, h0, _⟩ | ⟨b, rfl, hSb, _⟩
      · rw [h0] at begun
        refine JaY 1000 (by simp only [go_sem, JaX, simprocAttr, Jf, eqV, e0, e1, hw]; rfl) ?_
        exact begun hw _ (by simp only [go_sem, JaX, simprocAttr, hw] <;> rfl) (by simp only [go_sem, JaX, simprocAttr] <;> rfl) (by simp only [go_sem, JaX, simprocAttr] <;> rfl) (by simp only [go_sem, JaX, simprocAttr] <;> rfl) (by simp only [go_sem, JaX, simprocAttr] <;> rfl)
      · refine JaY 1000 (by simp only [go_sem, JaX, simprocAttr, Jf, eqV, e0, e1, hw]; rfl) ?_
        exact begun hw _ (by simp only [go_sem, JaX, simprocAttr, hw] <;> rfl) (by simp only [go_sem, JaX, simprocAttr] <;> rfl) (by simp only [go_sem, JaX, simprocAttr] <;> rfl) (by simp only [go_sem, JaX, simprocAttr] <;> rfl) (by simp only [go_sem, JaX, simprocAttr] <;> rfl)
    · refine JaY 1000 (by simp only [go_sem, JaX, simprocAttr, Jf, eqV, e0, e1, hw]; rfl) ?_
      refine JaZ ⟨_, by simp only [go_sem, JaX, simprocAttr, Jf]; rfl, ?_⟩
      exact h1 hw
end
section
open Go.AE
variable {tab:Tab}
theorem Jr8 (k:Nat):(List.replicate k [V.int .i64 0]).flatten=rowC (List.replicate k 0):=by
 induction k with
 | zero=>rfl
 | succ k ih=>rw[List.replicate_succ,List.flatten_cons,ih,List.replicate_succ];rfl
theorem Jod (rows:Fy)(k:Nat):(rows.filter fun x=>fitsR x (List.replicate k 0))=rows:=by
 rw[List.filter_eq_self];intro x _;exact Jks x k
theorem ListOf.weaken {N M:Nat}{rows:Fy}{cs:List V}{S:Fw}(h:ListOf N w v rows cs S T)(hM:M≤N):ListOf M w v rows cs S T:=
 ⟨h.1,h.2.1,fun x hx=>by have:=h.2.2.1 x hx;exact⟨by omega,this.2.1,this.2.2⟩,fun x hx=>by have:=h.2.2.2 x hx;exact⟨by omega,this.2⟩⟩
theorem all_ok (C:Codes tab){S:Fw}{p:V}{width:Nat}{rows:Fy}(hs:SetOf S aw p width rows)(hn:rows.length≤1000000)(h:∀v w cs S1 T1,ListOf aw.next w v rows cs S1 T1→Frm (fun _=>False) aw w→K v w):WF tab Gy [p] aw K:=by
 obtain⟨bp,lv,cs,S0,T,rfl,hs⟩:=hs;refine Ja7 C.XX rfl ?_;have w4:=hs.w4;have e0:=hs.load0;have c1:width≤70368744177664:=Fh;have c2:width*8≤70368744177664:=Fh;refine Fz (by simp only[go_sem,JaX,simprocAttr,XW,eqV,e0,c1,c2,Jr8];rfl) ?_;refine Ja0 Ff Fe ?_;have hf:Frm (fun _=>False) aw (aw.fresh (rowC (List.replicate width 0))):=Frm.new _ _;have hs':SetOf S (aw.fresh (rowC (List.replicate width 0))) (.ptr bp 0) width rows:=⟨bp,lv,cs,S0,T,rfl,hs.frm hf fun _ _ h=>h⟩;refine match_ok C (pat:=List.replicate width 0) hs' (.blk (T:=fun b=>b=aw.next) rfl (FW _) AE.T.get_put_same (.inl rfl) Fj) hn (by simp;omega) (fun h=>absurd Fj h) ?_;intro _ v w cs' S1 T1 hl hf2;rw[Jod]at hl;refine JaY 1000 Fe ?_;refine JaZ ⟨_,by simp only[go_sem,JaX,simprocAttr,XW];rfl,?_⟩;exact h _ _ _ _ _ (hl.weaken (Nat.le_succ _)) (hf.trans hf2 (fun _ _ h=>h) fun _ _ h=>h)
end
end Go.Proofs.YtegdcbdicpfbpaaGreatDoor.Rel
set_option maxRecDepth 10000
namespace Go.Proofs.YtegdcbdicpfbpaaGreatDoor.Val
open Go.AE Delphi
variable {tab:Tab}
section
open Go.AE Delphi
variable {tab:Tab}
structure FcW (aw:AW) (nm:List Nat) (av v:V) (S:Fw) (out:List Tk) (w:AW):Prop where
 a:CB w aw.next [.str nm,av]
 b:Bt S w v 3 out.length (JcY out)
 s:∀x,S x→aw.next<x∧x<w.next
 f:Frm (fun _=>False) aw w
 may:∀t∈out,TkPr t
 len:out.length≤6
theorem FcW.step {aw:AW}{nm:List Nat}{av v:V}{S:Fw}{out:List Tk}{w w':AW}(h:FcW aw nm av v S out w)(hf:Frm (fun _=>False) w w'):FcW aw nm av v S out w':=
 ⟨h.a.frm hf fun h=>h,h.b.frm hf fun _ _ h=>h,fun x hx=>⟨(h.s x hx).1,FK (h.s x hx).2 hf.next⟩,h.f.tr hf,h.may,h.len⟩
theorem JtJ (l:List Tk):(JcY l).length=l.length*3:=by
 induction l with
 | nil=>rfl
 | cons x l ih=>show (tkC x++JcY l).length=_;rw[FE,ih,FC];show 3+_=_;omega
end
section
open Go.AE Delphi
variable {tab:Tab}
theorem Tk.ext' {a b:Tk}(h1:a.k=b.k)(h2:a.s=b.s)(h3:a.n=b.n):a=b:=by
 cases a;cases b;simp only at h1 h2 h3;subst h1;subst h2;subst h3;rfl
instance tkDec:DecidableEq Tk:=fun a b =>
 if h:a.k=b.k∧a.s=b.s∧a.n=b.n then isTrue (Tk.ext' h.1 h.2.1 h.2.2) else isFalse fun e=>h (by rw [e];exact ⟨rfl,rfl,rfl⟩)
theorem JfT (a b:Tk):JbW a b=decide (a=b):=by
 unfold JbW;by_cases h:a=b
 ·subst h;simp[JmR]
 ·rw[decide_eq_false h];cases h1:(a.k==b.k)with
  | false=>rfl
  | true=>cases h2:eqL a.s b.s with
   | false=>rfl
   | true=>cases h3:(a.n==b.n)with
    | false=>rfl
    | true=>exact absurd (Tk.ext' (eq_of_beq h1) (eqL_iff.1 h2) (eq_of_beq h3)) h
def tkV (t:Tk):V:=.agg (tkC t)
def JjT (n:Nat):V:=.int .i64 (Int.ofNat n)
theorem JtW:KeyE (.cells [.int,.str,.int]) tkV:=⟨fun a b=>by
 show JcR _ (tkC a) (tkC b)=_;rw[←JfT];simp only[tkC,JcR,JdY,JbW,if_true];cases (a.k==b.k)<;>cases eqL a.s b.s<;>cases (a.n==b.n)<;>rfl,fun _=>rfl⟩
def Jdi:Nat→List Tk→List (Tk×Nat)
 | _,[]=>[]
 | k,c::r=>(c,k)::Jdi (k+1) r
theorem JlL:∀(l:List Tk) (k:Nat) (c:Tk),Jdi k (l++[c])=Jdi k l++[(c,k+l.length)]
 | [],k,c=>rfl
 | x::l,k,c=>by
  simp only[List.cons_append,Jdi,JlL l (k+1) c,FC]
  congr 3;simp;omega
theorem aget_app {l m:List (Tk×Nat)}{c:Tk}:Ja1 (l++m) c=match Ja1 l c with|some v=>some v|none=>Ja1 m c:=by
 induction l with
 | nil=>rfl
 | cons x l ih =>
  obtain⟨a,b⟩:=x;simp only[List.cons_append,Ja1];by_cases h:c=a
  ·simp[h]
  ·simp only[if_neg h,ih]
theorem aget_numF:∀{l:List Tk} {k:Nat} {c:Tk},(Ja1 (Jdi k l) c=none↔c∉l)
 | [],k,c=>by simp[Jdi,Ja1]
 | x::l,k,c=>by
  simp only[Jdi,Ja1];by_cases h:c=x
  ·simp[h]
  ·rw[if_neg h,aget_numF];simp[h]
def Jcr (l:List Tk) (c:Tk):Nat:=(Ja1 (Jdi 1 l) c).getD 0
theorem JhN {l:List Tk}{c:Tk}(h:c∈l):Ja1 (Jdi 1 l) c=some (Jcr l c):=by
 unfold Jcr;cases hx:Ja1 (Jdi 1 l) c with
 | none=>exact absurd h (aget_numF.1 hx)
 | some v=>rfl
structure TabW (tb mb:Nat) (v:V) (S:Fw) (ts:List Tk) (w:AW):Prop where
 a:CB w tb [.map mb,v]
 m:MB tkV JjT w mb (Jdi 1 ts)
 b:Bt S w v 3 ts.length (JcY ts)
 s:∀x,S x→x<w.next∧x≠tb∧x≠mb
 ne:mb≠tb
variable {tb mb:Nat} {v:V} {S:Fw} {ts:List Tk}
theorem TabW.step {T:Fw}{w w':AW}(h:TabW tb mb v S ts w)(hf:Frm T w w')(h1:¬T tb)(h2:¬T mb)(h3:∀x,S x→¬T x):TabW tb mb v S ts w':=
 ⟨h.a.frm hf h1,h.m.frm hf h2,h.b.frm hf h3,fun x hx=>⟨FK (h.s x hx).1 hf.next,(h.s x hx).2⟩,h.ne⟩
theorem TabW.step0 {w w':AW}(h:TabW tb mb v S ts w)(hf:Frm (fun _=>False) w w'):TabW tb mb v S ts w':=h.step hf (fun h=>h) (fun h=>h) fun _ _ h=>h
variable {aw:AW} {K:V→AW→Prop}
theorem new_ok (C:Codes tab)(h:∀w,TabW (aw.next+1) aw.next .nilslice (fun _=>False) [] w→Frm (fun _=>False) aw w→K (.ptr (aw.next+1) 0) w):WF tab VA [] aw K:=by
 refine Ja7 C.YZ rfl ?_;have hm:=MB.new (ke:=tkV) (ve:=JjT) aw;have fm:=Jev (S:=fun _=>False) aw;have n1:(aw.new (.map [] 0)).next=aw.next+1:=rfl;obtain⟨w1,e1,c1,r1,m1⟩:=Jb8 (aw.new (.map [] 0)) [.map aw.next,.nilslice];have hov:over [V.nilmap,V.nilslice] 0 [V.map aw.next]=some [V.map aw.next,V.nilslice]:=rfl;refine Fz (by simp only[go_sem,JaX,simprocAttr,YY,Ja4,Jbe,hov,Jbh,FZ,JeZ,e1,n1];rfl) ?_;refine JaZ ⟨_,by simp only[go_sem,JaX,simprocAttr,YY];rfl,?_⟩;rw[n1]at c1;subst e1;exact h _ ⟨c1,hm.frm r1 fun h=>h,.nil,fun _ h=>h.elim,by omega⟩ (fm.tr r1)
theorem len_ok (C:Codes tab)(hT:TabW tb mb v S ts aw)(h:K (.int .i64 (Int.ofNat ts.length)) aw):WF tab VT [.ptr tb 0] aw K:=by
 refine Ja7 C.Vn rfl ?_;have l1:=CB.ld hT.a 1 1 _ rfl;have hlv:=hT.b.lenV;have hp:eqV .ptr (.ptr tb 0) .nilptr=some false:=rfl;refine Fz (by simp only[go_sem,JaX,simprocAttr,Vl,l1,hlv,hp];rfl) ?_;refine JaZ ⟨_,by simp only[go_sem,JaX,simprocAttr,Vl];rfl,?_⟩;exact h
theorem Jpi (C:Codes tab){i:Int}(hT:TabW tb mb v S ts aw)(hlen:ts.length≤100000)(hi : -100000≤i∧i≤100000)(h:∀w t,Frm (fun _=>False) aw w→(∀k:Nat,i=Int.ofNat (k+1)→k<ts.length→ts[k]? = some t)→(i<1∨i>Int.ofNat ts.length→t=⟨0,[],0⟩)→K (.agg (tkC t)) w):WF tab VH [.ptr tb 0,.int .i64 i] aw K:=by
 refine Ja7 C.Xx rfl ?_;have hp:eqV .ptr (.ptr tb 0) .nilptr=some false:=rfl;obtain⟨w1,e1,c1,r1,m1⟩:=Jb8 aw [.int .i64 0,.str [],.int .i64 0];have hT1:=hT.step0 r1;have l1:=CB.ld hT1.a 1 1 _ rfl;have hlv:=hT1.b.lenV
 have fin:∀t:Tk,∃w2,w1.store aw.next 0 (tkC t)=some w2∧w2.load aw.next 0 3=some (tkC t)∧Frm (fun _=>False) aw w2:=fun t =>
  ⟨_,c1.setAll (vs:=tkC t) rfl rfl,(Jbx (l:=tkC t) c1.lt).all (n:=3) rfl,r1.trans Jbj (fun _ _ h=>h) (by rintro x hx rfl;omega)⟩
 obtain⟨w2,s2,k2,f2⟩:=fin ⟨0,[],0⟩;have s2:w1.store aw.next 0 [.int .i64 0,.str [],.int .i64 0]=some w2:=s2;have k2:w2.load aw.next 0 3=some [.int .i64 0,.str [],.int .i64 0]:=k2;by_cases h1:i<1
 ·refine Fz (by simp only[go_sem,JaX,simprocAttr,JM,hp,e1,h1,Ja4,Jbe,over,Jbh,FC,FD,s2];rfl) ?_;refine JaZ ⟨_,by simp only[go_sem,JaX,simprocAttr,JM,k2];rfl,?_⟩;exact h w2 ⟨0,[],0⟩ f2 (fun k hk=>by rw[hk]at h1;have:((k+1:Nat):Int)<1:=h1;omega) fun _=>rfl
 by_cases h2:i>Int.ofNat ts.length
 ·refine Fz (by simp only[go_sem,JaX,simprocAttr,JM,hp,e1,h1,l1,hlv,h2,Ja4,Jbe,over,Jbh,FC,FD,s2];rfl) ?_;refine JaZ ⟨_,by simp only[go_sem,JaX,simprocAttr,JM,k2];rfl,?_⟩;exact h w2 ⟨0,[],0⟩ f2 (fun k hk hl=>by rw[hk]at h2;have:((k+1:Nat):Int)>(ts.length:Int):=h2;omega) fun _=>rfl
 obtain⟨k,rfl⟩:∃k:Nat,i=Int.ofNat (k+1):=⟨i.toNat-1,by show _=((i.toNat-1+1:Nat):Int);omega⟩;have hk:k<ts.length:=by have:¬(((k+1:Nat):Int)>(ts.length:Int)):=h2;omega
 have hwr:IntKind.wrap .i64 (Int.ofNat (k+1)-1)=Int.ofNat k:=by
  rw[show Int.ofNat (k+1)-1=Int.ofNat k by show ((k+1:Nat):Int)-1=(k:Int);omega];exact JdM (by show (-9223372036854775808:Int)≤(k:Int);omega) (by show (k:Int)≤_;omega)
 obtain⟨t,ht⟩:∃t,ts[k]? = some t:=⟨_,FB hk⟩;obtain⟨b,o,c,rfl,hTb,hbl,a3⟩:=JfU hT1.b.rd ht;obtain⟨w3,s3,k3,f3⟩:=fin t;refine Fz (by simp only[go_sem,JaX,simprocAttr,JM,hp,e1,h1,l1,hlv,h2,hwr,hk,a3,JcA,s3];rfl) ?_;refine JaZ ⟨_,by simp only[go_sem,JaX,simprocAttr,JM,k3];rfl,?_⟩;exact h w3 t f3 (fun k' hk' hl=>by have e:Int.ofNat (k+1)=Int.ofNat (k'+1):=hk';have:k+1=k'+1:=Int.ofNat.inj e;obtain rfl:k=k':=(by omega);exact ht) fun hc=>by rcases hc with hc|hc;exact absurd hc h1;exact absurd hc h2
end
section
open Go.AE Delphi
variable {tab:Tab}
theorem id_ok (C:Codes tab){tb mb:Nat}{v:V}{S:Fw}{ts:List Tk}{c:Tk}{aw:AW}{K:V→AW→Prop}(hT:TabW tb mb v S ts aw)(hlen:ts.length≤100000)(hc:TkOk c)(h0:Jbd c=false→∀w,Frm (fun _=>False) aw w→K (.int .i64 0) w)(h1:Jbd c=true→c∈ts→∀w,Frm (fun _=>False) aw w→K (.int .i64 (Int.ofNat (Jcr ts c))) w)(h2:Jbd c=true→c∉ts→∀w v' S',TabW tb mb v' S' (ts++[c]) w→Frm (fun x=>S x∨x=tb∨x=mb) aw w→(∀x,S' x→S x∨aw.next≤x)→K (.int .i64 (Int.ofNat (ts.length+1))) w):WF tab Zd [.ptr tb 0,.agg (tkC c)] aw K:=by
 refine Ja7 C.Xe rfl ?_;have hp:eqV .ptr (.ptr tb 0) .nilptr=some false:=rfl;obtain⟨w1,e1,c1,r1,m1⟩:=Jb8 aw (tkC c);have k1:=c1.all (n:=3) rfl;refine Fz (by simp only[go_sem,JaX,simprocAttr,Zn,hp,e1,k1];rfl) ?_;refine Ja0 Ff Fe ?_;refine JvN C hc fun w2 g2=>?_;have c2:=c1.frm g2 fun h=>h;have k2:=c2.all (n:=3) rfl;have f2:=r1.tr g2;cases hm:Jbd c with
 | false =>
  refine JaY 1000 Fe ?_;refine JaZ ⟨_,by simp only[go_sem,JaX,simprocAttr,Zn];rfl,?_⟩;exact h0 hm w2 f2
 | true =>
 have hT2:=hT.step0 f2;have l0:=CB.ld hT2.a 0 1 _ rfl;have l1:=CB.ld hT2.a 1 1 _ rfl;have hlook:w2.lookV (.cells [.int,.str,.int]) (.int .i64 0) (.map mb) (.agg (tkC c))=some (Jix JjT (.int .i64 0) (Ja1 (Jdi 1 ts) c)):=hT2.m.look JtW (.int .i64 0) c;by_cases hin:c∈ts
 ·rw[JhN hin]at hlook;have hlook:w2.lookV (.cells [.int,.str,.int]) (.int .i64 0) (.map mb) (.agg (tkC c))=some (.int .i64 (Int.ofNat (Jcr ts c)),true):=hlook;refine Fz (by simp only[go_sem,JaX,simprocAttr,l0,k2,hlook];rfl) ?_;refine JaZ ⟨_,by simp only[go_sem,JaX,simprocAttr,Zn];rfl,?_⟩;exact h1 hm hin w2 f2
 ·rw[aget_numF.2 hin]at hlook;have hlook:w2.lookV (.cells [.int,.str,.int]) (.int .i64 0) (.map mb) (.agg (tkC c))=some (.int .i64 0,false):=hlook;have g3:=Jbc (S:=fun _=>False) w2 (tkC c);have hT3:=hT2.step0 g3;have l1':=CB.ld hT3.a 1 1 _ rfl;have hel:(w2.fresh (tkC c)).elems 3 (.slice w2.next 0 1 (.known 1))=some (1,tkC c):=JbH Fh rfl;have hov:over [V.int .i64 0,V.str [],V.int .i64 0] 0 (tkC c)=some (tkC c):=rfl;obtain⟨v',w4,S4,u1,u2,u3,u4⟩:=hT3.b.addN (news:=tkC c) (k:=1) (bytes:=32) Fh rfl rfl Fh Fh;have c4:=hT3.a.frm u3 fun h=>((hT3.s _ h).2.1 rfl).elim;have s4:w4.store tb 1 [v']=some (w4.put tb [.map mb,v']):=c4.set (i:=1) (v:=v') Fj u2.one.1;have c5:CB (w4.put tb [.map mb,v']) tb _:=Jbx (l:=[V.map mb,v']) c4.lt;have f5:=Jbj (w:=w4) (b:=tb) (l:=[V.map mb,v']);refine Fz (by simp only[go_sem,JaX,simprocAttr,l0,k2,hlook,HI];rfl) ?_;refine JbM ?_;refine Jbn 100 (by simp only[go_sem,JaX,simprocAttr,l1,k2,JcA,Ja4,Jbe,hov,FC,FD,hel,u1,s4,u2.one.2];rfl) ?_;refine JbO ⟨(show Jbg _ _ [(4,6)]from by simp only[go_sem,JaX,simprocAttr,Jbg,chk,List.reverse_cons,List.reverse_nil,JbE,JbR,JbP,JbQ,List.getElem?_nil,false_or,or_true,or_false,exists_eq',FQ,Prod.mk.injEq,Bool.true_eq_false,FM,and_true,true_and,implies_true,l1,l1']),?_⟩;have hta:=hT.a.lt;have hma:=hT.m.lt;have hSn:∀x,S x→x<aw.next:=fun x hx=>(hT.s x hx).1;have ct:=(c2.frm g3 fun h=>h).frm u3 fun h=>by have:=hSn _ h;omega
  have ct:=ct.frm f5 Fh;have m5:=((hT3.m.frm u3 fun h=>((hT3.s _ h).2.2 rfl).elim).frm f5 hT.ne)
  have b5:Bt S4 (w4.put tb [.map mb,v']) v' 3 (ts.length+1) (JcY ts++tkC c):=u2.frm f5 fun x hx h=>by
   obtain⟨q1,q2⟩:=u4 x hx;rcases q2 with q2|q2
   ·exact (hT3.s x q2).2.1 h
   ·have n3:(w2.fresh (tkC c)).next=w2.next+1:=rfl;have:=f2.next;omega
  have r5:Frm (fun x=>S x∨x=tb∨x=mb) aw (w4.put tb [.map mb,v']) :=
   ((f2.tr g3).no.trans u3 (fun _ _ h=>h) fun x _ h=> .inl h).trans f5 (fun _ _ h=>h) fun x _ h=> .inr (.inl h)
  have n3:(w2.fresh (tkC c)).next=w2.next+1:=rfl;have n2:=f2.next;have n5:(w4.put tb [.map mb,v']).next=w4.next:=rfl;generalize w4.put tb [.map mb,v']=w5 at *;have j1:=CB.ld c5 1 1 _ rfl;have j0:=CB.ld c5 0 1 _ rfl;have hlv:=b5.lenV;have kt:=ct.all (n:=3) rfl;obtain⟨w6,p1,p2,p3,p4⟩:=m5.put JtW c (ts.length+1);have p1:w5.putV (.cells [.int,.str,.int]) (.map mb) (.agg (tkC c)) (.int .i64 (Int.ofNat (ts.length+1)))=some w6:=p1;refine Fz (by simp only[go_sem,JaX,simprocAttr,j1,j0,hlv,kt,p1];rfl) ?_;refine JaZ ⟨_,by simp only[go_sem,JaX,simprocAttr,Zn];rfl,?_⟩;have hput:Jb5 (Jdi 1 ts) c (ts.length+1)=Jdi 1 (ts++[c]):=by rw[JgC (aget_numF.2 hin),JlL,KA 1]
  rw[hput]at p2;refine h2 hm hin w6 v' S4 ⟨c5.frm p3 (fun h=>hT.ne h.symm),p2,?_,fun x hx=>?_,hT.ne⟩ (r5.trans p3 (fun _ _ h=>h) fun x _ h=> .inr (.inr h)) fun x hx=>?_
  ·have:JcY (ts++[c])=JcY ts++tkC c:=by simp[JcY]
   rw[this,FE]
   exact b5.frm p3 fun x hx h=>by
    obtain⟨q1,q2⟩:=u4 x hx;rcases q2 with q2|q2
    ·exact (hT3.s x q2).2.2 h
    ·omega
  ·obtain⟨q1,q2⟩:=u4 x hx;refine⟨by omega,?_⟩;rcases q2 with q2|q2
   ·exact (hT3.s x q2).2
   ·exact⟨by omega,by omega⟩
  ·rcases (u4 x hx).2 with q2|q2
   ·exact .inl q2
   ·exact .inr Fh
end
end Go.Proofs.YtegdcbdicpfbpaaGreatDoor.Val
namespace Go.Proofs.YtegdcbdicpfbpaaGreatDoor
open Go.AE Delphi Val
variable {tab:Tab}
section
variable {α β:Type} [DecidableEq α]
def Jie:List (α×β)→α→List (α×β)
 | [],_=>[]
 | (a,b)::l,k=>if k=a then l else (a,b)::Jie l k
variable {ke:α→V} {ve:β→V} {t:KeyTy}
theorem Jlx (hk:KeyE t ke){k:α}:∀{M:List (α×β)} {es:List (V×V×Nat)} (i:Nat),All2 (Jmo ke ve) M es→∀v,Ja1 M k=some v→∃j n,JcJ t (ke k) es i=some (some (i+j,ve v,n))∧All2 (Jmo ke ve) (Jie M k) (es.eraseIdx j)
 | [],_,i,.nil=>fun v h=>by simp[Ja1]at h
 | (a,b)::M,(x,y,n)::es,i,.cons h1 h2=>by
  intro v hv;obtain⟨q1,q2⟩:=h1;simp only at q1 q2;subst q1;subst q2;by_cases h:k=a
  ·subst h;simp only[Ja1,if_true,FQ]at hv;subst hv;refine⟨0,n,by simp only[JcJ,hk.eq,decide_true,KF],?_⟩;simp only[Jie,if_true,List.eraseIdx_cons_zero];exact h2
  ·simp only[Ja1,if_neg h]at hv;obtain⟨j,m,s1,s2⟩:=Jlx hk (k:=k) (i+1) h2 v hv;refine⟨j+1,m,?_,?_⟩
   ·simp only[JcJ,hk.eq,decide_eq_false h];rw[s1];congr 3;omega
   ·simp only[Jie,if_neg h,List.eraseIdx_cons_succ];exact .cons ⟨rfl,rfl⟩ s2
theorem JvO (hk:KeyE t ke){w:AW}{b:Nat}{M:List (α×β)}{k:α}{v:β}(h:MB ke ve w b M)(hv:Ja1 M k=some v):∃es ck j n,w.entries (.map b)=some (some b,es,ck)∧JcJ t (ke k) es 0=some (some (j,ve v,n))∧MB ke ve (w.turn b (.map (es.eraseIdx j) ck)) b (Jie M k)∧Frm (fun x=>x=b) w (w.turn b (.map (es.eraseIdx j) ck)):=by
 obtain⟨es,ck,h1,h2⟩:=h.get;obtain⟨j,n,s1,s2⟩:=Jlx hk 0 h2 v hv;rw[FV]at s1;exact⟨es,ck,j,n,by simp only[AW.entries,h1],s1,⟨h.lt,_,_,T.get_put_same,s2⟩,Jiy⟩
end
variable {K:V→AW→Prop}
theorem JtN (C:Codes tab){S:Fw}{p:V}{width:Nat}{rows:Fy}{aw:AW}(hs:Rel.SetOf S aw p width rows)(h:K (.int .i64 (Int.ofNat width)) aw):WF tab YL [p] aw K:=by
 refine Ja7 C.Yt rfl ?_;obtain⟨bp,lv,cs,S0,T,rfl,hs⟩:=hs;have hp:eqV .ptr (.ptr bp 0) .nilptr=some false:=rfl;have e0:=hs.load0;refine Fz (by simp only[go_sem,JaX,simprocAttr,ZF,U3,hp,e0];rfl) ?_;refine JaZ ⟨_,by simp only[go_sem,JaX,simprocAttr,ZF];rfl,?_⟩;exact h
theorem Jou (C:Codes tab){aw:AW}(h:K (.int .i64 (-1)) aw):WF tab YL [.nilptr] aw K:=by
 refine Ja7 C.Yt rfl ?_;have hp:eqV .ptr .nilptr .nilptr=some true:=rfl;refine Fz (by simp only[go_sem,JaX,simprocAttr,ZF,U3,JaA,hp];rfl) ?_;refine JaZ ⟨_,by simp only[go_sem,JaX,simprocAttr,ZF];rfl,?_⟩;exact h
end Go.Proofs.YtegdcbdicpfbpaaGreatDoor
