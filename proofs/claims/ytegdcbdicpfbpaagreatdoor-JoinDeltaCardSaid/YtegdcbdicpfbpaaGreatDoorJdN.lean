/- A part of the proof. -/
import Derived.Test.YtegdcbdicpfbpaaGreatDoorJdM
import Derived.Test.YtegdcbdicpfbpaaGreatDoorJdH
import Derived.Test.YtegdcbdicpfbpaaGreatDoorJdK
open Int renaming ofNat → Fq
open Go.IntKind renaming wrap → KZ
set_option linter.unusedVariables false
set_option maxRecDepth 10000
set_option linter.unusedSimpArgs false
namespace Go.Proofs.YtegdcbdicpfbpaaGreatDoor
open Go.AE Delphi Val
variable {tab:Tab}
variable {T:Fw} {w:AW} {cs:List V}
theorem Jug {b o n esz k:Nat}{c:Cap}(h:RdB T w b o n esz c cs)(hn:0<n)(hk:k≤n): ∃o',(∀w':AW,w'.sliceW esz b o n c none (some k) (some k)=some (.slice b o' k (.known k)))∧w.elems esz (.slice b o' k (.known k))=some (k,cs.take (k*esz))∧(k≠0→o'=o):=by
 have hel:∀o',(k≠0→o'=o)→w.elems esz (.slice b o' k (.known k))=some (k,cs.take (k*esz)):=by
  intro o' ho;cases k with
  | zero=>simp[AW.elems]
  | succ k =>
   have:=h.load 0 ((k+1)*esz) (by rw[FV];exact Nat.mul_le_mul_right _ hk);rw[FZ,KF]at this;rw[ho Fh];simp only[AW.elems,this]
 have hf:=h.fit;cases c with
 | known m =>
  have hf:n≤m:=hf;refine⟨o,fun w'=>?_,hel o fun _=>rfl,fun _=>rfl⟩;simp only[AW.sliceW,TS,Option.getD_some,Option.getD_none,Nat.sub_zero,Option.isSome_some,implies_true,Nat.zero_mul,KF,ite_self];rw[if_pos (by simp;omega)]
 | upTo z =>
  refine⟨o,fun w'=>?_,hel o fun _=>rfl,fun _=>rfl⟩;simp only[AW.sliceW,TS,Option.getD_some,Option.getD_none,Nat.sub_zero,Option.isSome_some,Nat.zero_mul,KF];rw[if_pos (by simp;omega)]
theorem Juh {b o n esz k:Nat}{c:Cap}(h:RdB T w b o n esz c cs)(hl:cs.length=n*esz)(hn:0<n)(hk:k≤n): ∃v,(∀w':AW,w'.sliceW esz b o n c (some k) none none=some v)∧w.elems esz v=some (n-k,cs.drop (k*esz))∧(∃o' c',v = .slice b o' (n-k) c'):=by
 have hle:k*esz≤n*esz:=Nat.mul_le_mul_right _ hk
 have hel:∀o' c',(k<n→o'=o+k*esz)→w.elems esz (.slice b o' (n-k) c')=some (n-k,cs.drop (k*esz)):=by
  intro o' c' ho;by_cases hkn:k=n
  ·subst hkn;rw[Nat.sub_self,List.drop_eq_nil_of_le Fh];rfl
  ·obtain⟨m,hm⟩:∃m,n-k=m+1:=⟨n-k-1,by omega⟩;have h2:=h.load (k*esz) ((n-k)*esz) (by rw[←Nat.add_mul];exact Nat.mul_le_mul_right _ Fh);rw[FX (by rw[Ki,hl,Nat.sub_mul];omega)]at h2;rw[ho Fh];rw[hm]at h2 ⊢;simp only[AW.elems,h2]
 have hf:=h.fit;cases c with
 | known m =>
  have hf:n≤m:=hf;refine⟨_,fun w'=>?_,hel (if m=k then o else o+k*esz) (.known (m-k)) (fun hkn=>if_neg Fh),_,_,rfl⟩;simp only[AW.sliceW,TS,Option.getD_some,Option.getD_none];rw[if_pos ⟨FH _,hf,hk,by simp⟩]
 | upTo z =>
  have hz:z=esz:=by rcases hf with h|h;exact h;omega
  refine⟨_,fun w'=>?_,hel _ (.upTo esz) (fun _=>rfl),_,_,rfl⟩;simp only[AW.sliceW,TS,Option.getD_some,Option.getD_none];rw[if_pos ⟨FH _,hk,hz⟩]
variable {l:List Fc}
theorem Fcs.mono {T':Fw}{v:V}(h:Fcs T w v l)(ht:∀x,T x→T' x):Fcs T' w v l:=by
 obtain⟨xss,h1,h2⟩:=h;refine⟨xss,h1.mono ht,All2.imp (fun a xs h=>?_) h2⟩;obtain⟨xv,q1,q2⟩:=h;exact⟨xv,q1,q2.mono ht⟩
def OM (l:List Fc) (f:Fc):Nat:=(l.takeWhile fun x=>Ov x f).length
def I5 (l:List Fc) (f:Fc):Bool:=match l[OM l f]? with|some x=>BK x f|none=>false
def OE (l:List Fc) (f:Fc):List Fc:=if I5 l f then l else l.take (OM l f)++f::l.drop (OM l f)
theorem Rz {α:Type}{p:α→Bool}:∀{l:List α} {k:Nat},k≤l.length→(∀j x,j<k→l[j]? = some x→p x=true)→(∀x,l[k]? = some x→p x=false)→(l.takeWhile p).length=k
 | [],k,hk,_,_=>by simp at hk;subst hk;rfl
 | a::l,0,_,_,h=>by rw[List.takeWhile_cons_of_neg (by simp[h a rfl])];rfl
 | a::l,k+1,hk,h1,h2=>by
  rw[List.takeWhile_cons_of_pos (h1 0 a Fh rfl),FC,Rz (k:=k) (by simpa using hk) (fun j x hj hx=>h1 (j+1) x Fh (by simpa using hx)) fun x hx=>h2 x (by simpa using hx)]
theorem JkB {α β:Type}{r:α→β→Prop}:∀{l:List α} {m:List β} (n:Nat),All2 r l m→All2 r (l.take n) (m.take n)
 | _,_,0,_=> .nil
 | _,_,n+1,.nil=> .nil
 | _,_,n+1,.cons h1 h2=> .cons h1 (JkB n h2)
theorem JkA {α β:Type}{r:α→β→Prop}:∀{l:List α} {m:List β} (n:Nat),All2 r l m→All2 r (l.drop n) (m.drop n)
 | _,_,0,h=>h
 | _,_,n+1,.nil=> .nil
 | _,_,n+1,.cons h1 h2=>JkA n h2
theorem JlE {α β:Type}{r:α→β→Prop}:∀{l:List α} {m:List β} {l':List α} {m':List β},All2 r l m→All2 r l' m'→All2 r (l++l') (m++m')
 | _,_,_,_,.nil,h=>h
 | _,_,_,_,.cons h1 h2,h=> .cons h1 (JlE h2 h)
theorem Rf {α β:Type}{r q:α→β→Prop}{l:List α}{m:List β}(h:All2 r l m)(hq:∀a b,r a b→q a b):All2 q l m:=All2.imp hq h
theorem JkO {α:Type}{r:α→List V→Prop}{sz:Nat}(hsz:∀a xs,r a xs→xs.length=sz):∀{l:List α} {xss:List (List V)} (n:Nat),All2 r l xss→(xss.take n).flatten=xss.flatten.take (n*sz)∧(xss.drop n).flatten=xss.flatten.drop (n*sz)
 | _,_,0,_=>by simp
 | _,_,n+1,.nil=>by simp
 | a::l,x::m,n+1,.cons h1 h2=>by
  obtain⟨q1,q2⟩:=JkO hsz n h2;have hx:=hsz _ _ h1;have e:(n+1)*sz=x.length+n*sz:=by rw[hx,Nat.add_mul,Nat.one_mul,KA]
  refine⟨?_,?_⟩
  ·rw[List.take_succ_cons,List.flatten_cons,List.flatten_cons,q1,e,List.take_length_add_append]
  ·rw[List.drop_succ_cons,List.flatten_cons,q2,e,List.drop_length_add_append]
theorem JpC (C:Codes tab){T':Fw}{f:Fc}{lv:V}{ys:List V}{aw:AW}{K:V→AW→Prop}(hx:Fcs T aw lv l)(hnil:l=[]→lv = .nilslice)(hy:FcC T' aw f ys)(hl:l.length≤1000000)(hlx:∀x∈l,x.2.length≤1000)(hly:f.2.length≤1000)(h:∀w v,Fcs (fun x=>T x∨T' x∨(aw.next≤x∧x<w.next)) w v (OE l f)→(OE l f=[]→v = .nilslice)→Frm (fun _=>False) aw w→K (.tuple [v,.bool (!I5 l f)]) w):WF tab VN [lv,.agg ys] aw K:=by
 refine Ld C.Xx rfl ?_;obtain⟨yl,yo⟩:=hy.one;obtain⟨w1,e1,c1,r1,m1⟩:=Oe aw ys;have hc1:V.cells (.agg ys)=ys:=rfl;have hlv:=hx.lenV;refine Fz (by simp only[go_sem,K5,J3,hc1,e1];rfl) ?_
 refine LK (fun n fr w=>∃i,fr.get 0=some lv∧fr.get 3=some (.ptr aw.next 0)∧fr.get 6=some (.int .i64 (Fq i))∧Frm (fun _=>False) w1 w∧(∀j x,j<i→l[j]? = some x→Ov x f=true)∧i≤l.length∧n=l.length-i)
  (fun fr w=>fr.get 0=some lv∧fr.get 3=some (.ptr aw.next 0)∧fr.get 6=some (.int .i64 (Fq (OM l f)))∧Frm (fun _=>False) w1 w) ?_ ?_ l.length ⟨0,Fb,Fb,Fb,Frm.refl _,fun j x hj=>by omega,Nat.zero_le _,rfl⟩
 ·rintro n fr w ⟨i,f0,f3,f6,g,hL,hi,rfl⟩ ih out;by_cases hlt:i<l.length
  case neg =>
   have hk:OM l f=i:=Rz hi hL fun x hx=>by rw[List.getElem?_eq_none Fh]at hx;cases hx
   refine Lb 1000 (by simp only[go_sem,Uo,f0,f6,hlv,hlt];rfl) ?_;exact out _ _ _ ⟨(Fg f0),(Fg f3),by rw[hk];exact (Fg f6),g⟩ rfl
  obtain⟨t,ht⟩:∃t,l[i]? = some t:=⟨_,FB hlt⟩;have f0w:=r1.tr g;have a0:=(c1.frm g fun h=>h).all yl;obtain⟨b,o,c,xv,rfl,_,_,la,_,_,hxv⟩:=Sw (hx.frm f0w fun _ _ h=>h) ht;have hwr:KZ .i64 (Fq i+1)=Fq (i+1):=Lh Fh;refine Fz (by simp only[go_sem,K5,Uo,f0,f3,f6,hlv,hlt,la,a0];rfl) ?_;refine K9 Ff Fe ?_;refine Ru C (x:=t) (y:=f) (T:=T) ⟨xv,rfl,hxv⟩ (hy.frm f0w fun _ _ h=>h) (hlx t (FI ht)) fun w2 g2=>?_;cases hs:Ov t f with
  | true =>
   refine Fz (by simp only[go_sem,K5,f6,hwr];rfl) ?_
   exact ih _ _ _ Fh ⟨i+1,(Fg f0),(Fg f3),Fb,g.tr g2,fun j x hj hx=>by
    rcases Nat.lt_succ_iff_lt_or_eq.1 hj with hj|rfl
    ·exact hL j x hj hx
    ·rw[ht]at hx;cases hx;exact hs,by omega,rfl⟩
  | false =>
   have hk:OM l f=i:=Rz hi hL fun x hx=>by rw[ht]at hx;cases hx;exact hs
   refine Lb 1000 (by simp only[go_sem];rfl) ?_;exact out _ _ _ ⟨(Fg f0),(Fg f3),by rw[hk];exact (Fg f6),g.tr g2⟩ rfl
 rintro fr w ⟨f0,f3,f6,g⟩;have f0w:=r1.tr g;have cw:=c1.frm g fun h=>h;have a0:=cw.all yl;have hkl:OM l f≤l.length:=by unfold OM;exact (List.takeWhile_sublist _).length_le
 have hyw:=hy.frm f0w fun _ _ h=>h;have hxw:=hx.frm f0w fun _ _ h=>h
 have put:I5 l f=false→∀fr' w',fr'.get 0=some lv→fr'.get 3=some (.ptr aw.next 0)→fr'.get 6=some (.int .i64 (Fq (OM l f)))→Frm (fun _=>False) w w'→WS tab [.code Xw] fr' w' (fun fr' aw'=>∃vs,Ox fr' aw' J3.results=some vs∧K (Oy vs) aw'):=by
  intro hA fr w' f0 f3 f6 g';have hF:OE l f=l.take (OM l f)++f::l.drop (OM l f):=by unfold OE;rw[hA];rfl
  rw[hF,hA]at h;have f0w:=f0w.tr g';have cw:=cw.frm g' fun h=>h;have a0:=cw.all yl;have hyw:=hyw.frm g' fun _ _ h=>h;have hxw:=hxw.frm g' fun _ _ h=>h;have n0:=f0w.next;obtain⟨xss,q1,q2⟩:=hxw;have hl2:=q1.len;generalize hk:OM l f=k at *
  have hov:over [V.str [],V.nilslice] 0 ys=some ys:=by
   have:=CZ [] [V.str [],V.nilslice] [] ys (by rw[yl];rfl);simpa using this
  have hcc:V.cells (.agg ys)=ys:=rfl;rcases q1.inv with⟨rfl,h0,hcs⟩|⟨b,o,c,rfl,hB⟩
  ·have hl0:l=[]:=List.length_eq_zero_iff.1 h0;subst hl0;have hk0:k=0:=by simpa using hkl
   subst hk0;have c2:=OQ w' ys;have r2:=LZ (S:=fun _=>False) w' ys;obtain⟨w2,e2⟩:∃w2,w2=w'.fresh ys:=⟨_,rfl⟩;rw[←e2]at c2 r2;have ap1:w2.appendV 2 40 (.slice w'.next 0 1 (.known 1)) 0 []=some (.slice w'.next 0 1 (.known 1),w2):=rfl;have hel1:w2.elems 2 (.slice w'.next 0 1 (.known 1))=some (1,ys):=by rw[e2];exact Tj Fh (by rw[yl])
   have ap2:w2.appendV 2 40 .nilslice 1 ys=some (.slice w2.next 0 1 (.upTo 2),w2.fresh ys):=rfl;have c3:=OQ w2 ys;have r3:=LZ (S:=fun _=>False) w2 ys;have hy3:=(hyw.frm r2 fun _ _ h=>h).frm r3 fun _ _ h=>h;have hfin:=h (w2.fresh ys) (.slice w2.next 0 1 (.upTo 2)) ⟨[ys],.blk (.inr (.inr ⟨by have:=r2.next;omega,c3.lt⟩)) c3.lt c3.get (.inl rfl) (by rw[yl];decide) (by show ([ys].flatten)=_;rw[FZ,FX (by rw[yl];decide)];simp) (.inl rfl),.cons (by obtain⟨xv,z1,z2⟩:=hy3;exact⟨xv,z1,z2.mono fun x hx=> .inr (.inl hx)⟩) .nil⟩ Fj ((f0w.tr r2).tr r3);have e2':w'.fresh ys=w2:=e2.symm;have hnl:w2.elems 2 V.nilslice=some (0,[]):=rfl;refine Fz (by simp only[go_sem,K5,Xw];rfl) ?_;refine Bo ?_;refine LU 100 (by simp only[go_sem,K5,f0,f3,f6,a0,Lg,Lj,hcc,hov,yl,FC,FD,e2',hnl,ap1,hel1,ap2,Option.isSome_none,Option.isSome_some,implies_true,FM,false_implies];rfl) ?_;refine O1 ⟨(show LF _ _ [(3,5),(3,9),(8,5)]from by simp only[go_sem,K5,LF,chk,List.reverse_cons,List.reverse_nil,O8,O6,O4,O5,List.getElem?_nil,false_or,or_true,or_false,exists_eq',FQ,Prod.mk.injEq,Bool.true_eq_false,FM,and_true,true_and,implies_true,f0,f3,f6,Option.isSome_none,Option.isSome_some,implies_true,FM,false_implies,if_true]),?_⟩;refine K6 1000 Fe ?_;refine K7 ⟨_,by simp only[go_sem,K5,J3];rfl,?_⟩;exact hfin
  ·have hn0:0<l.length:=by
    rcases Nat.eq_zero_or_pos l.length with h0|h0
    ·have:=hnil (List.length_eq_zero_iff.1 h0);cases this
    ·exact h0
   obtain⟨o1,s1,k1,_⟩:=Jug hB hn0 hkl;obtain⟨v2,s2,k2,o2,c2',hv2⟩:=Juh hB hl2 hn0 hkl;subst hv2;have c2:=OQ w' ys;have r2:=LZ (S:=fun _=>False) w' ys;obtain⟨w2,e2⟩:∃w2,w2=w'.fresh ys:=⟨_,rfl⟩;rw[←e2]at c2 r2;have e2':w'.fresh ys=w2:=e2.symm;have hq2:=(q1.frm r2 fun _ _ h=>h)
   have k2':w2.elems 2 (.slice b o2 (l.length-k) c2')=some (l.length-k,xss.flatten.drop (k*2)):=by
    rcases hq2.inv with⟨hh,_⟩|⟨b',o',c',hh,hB2⟩
    ·cases hh
    ·cases hh;obtain⟨v3,s3,k3,_⟩:=Juh hB2 hl2 hn0 hkl;have:=(s3 w2).symm.trans (s2 w2);cases this;exact k3
   have ldl:(xss.flatten.drop (k*2)).length=(l.length-k)*2:=by rw[Ki,hl2];omega
   obtain⟨vi,w3,ap1,hrd,fr3⟩:=JiQ (n:=1) (esz:=2) (bytes:=40) c2 (by rw[yl]) Fh ldl Fh Fh;have heli:=hrd.elems;have hlen1:1+(l.length-k)=(l.length-k)+1:=Fh
   have k1':w3.elems 2 (.slice b o1 k (.known k))=some (k,xss.flatten.take (k*2)):=by
    rcases (hq2.frm fr3 fun _ _ h=>h).inv with⟨hh,_⟩|⟨b',o',c',hh,hB2⟩
    ·cases hh
    ·cases hh;obtain⟨o3,s3,k3,_⟩:=Jug hB2 hn0 hkl;have:=(s3 w2).symm.trans (s1 w2);cases this;exact k3
   have ap2:w3.appendV 2 40 (.slice b o1 k (.known k)) (1+(l.length-k)) (ys++xss.flatten.drop (k*2))=some (.slice w3.next 0 (k+(1+(l.length-k))) (.upTo 2),w3.fresh (xss.flatten.take (k*2)++(ys++xss.flatten.drop (k*2)))):=by
    rw[hlen1];show (if _∧_∧k≤k then _ else none)=_;rw[if_pos ⟨by omega,by omega,FH _⟩,if_neg Fh,k1']
   have c4:=OQ w3 (xss.flatten.take (k*2)++(ys++xss.flatten.drop (k*2)));have r4:=LZ (S:=fun _=>False) w3 (xss.flatten.take (k*2)++(ys++xss.flatten.drop (k*2)));have Og:=(r2.tr fr3).tr r4;obtain⟨t1,t2⟩:=JkO (fun a xs h=>(FcC.one h).1) k q2;have tlen:(xss.flatten.take (k*2)).length=k*2:=by rw[FU,hl2];omega
   have hfin:=h (w3.fresh (xss.flatten.take (k*2)++(ys++xss.flatten.drop (k*2)))) (.slice w3.next 0 (k+(1+(l.length-k))) (.upTo 2)) ⟨xss.take k++ys::xss.drop k,?_,?_⟩ Fj (f0w.tr Og)
   ·refine Fz (by simp only[go_sem,K5,Xw];rfl) ?_;refine Bo ?_;refine LU 100 (by simp only[go_sem,K5,f0,f3,f6,a0,Lg,Lj,hcc,hov,yl,FC,FD,s1,e2',s2,k2',ap1,heli,ap2];rfl) ?_;refine O1 ⟨(show LF _ _ [(3,5),(3,9),(8,5)]from by simp only[go_sem,K5,LF,chk,List.reverse_cons,List.reverse_nil,O8,O6,O4,O5,List.getElem?_nil,false_or,or_true,or_false,exists_eq',FQ,Prod.mk.injEq,Bool.true_eq_false,FM,and_true,true_and,implies_true,f0,f3,f6,s1,s2]),?_⟩;refine K6 1000 Fe ?_;refine K7 ⟨_,by simp only[go_sem,K5,J3];rfl,?_⟩;exact hfin
   ·have el:(l.take k++f::l.drop k).length=k+(1+(l.length-k)):=by simp;omega
    rw[el];refine .blk (.inr (.inr ⟨by have:=r2.next;have:=fr3.next;omega,c4.lt⟩)) c4.lt c4.get (.inl rfl) ?_ ?_ (.inl rfl)
    ·simp only[FE,tlen,yl,ldl];omega
    ·rw[FZ,FX (l:=xss.flatten.take (k*2)++(ys++xss.flatten.drop (k*2))) (by rw[FE,FE,tlen,yl,ldl];omega),List.flatten_append,List.flatten_cons,t1,t2]
   ·refine JlE (JkB k ?_) (.cons ?_ (JkA k ?_))
    ·exact All2.imp (fun a xs h=>by obtain⟨xv,z1,z2⟩:=h;exact⟨xv,z1,(z2.frm Og fun _ _ h=>h).mono fun x hx=> .inl hx⟩) q2
    ·obtain⟨xv,z1,z2⟩:=hyw;exact⟨xv,z1,(z2.frm Og fun _ _ h=>h).mono fun x hx=> .inr (.inl hx)⟩
    ·exact All2.imp (fun a xs h=>by obtain⟨xv,z1,z2⟩:=h;exact⟨xv,z1,(z2.frm Og fun _ _ h=>h).mono fun x hx=> .inl hx⟩) q2
 cases hat:l[OM l f]? with
 | none =>
  have hA:I5 l f=false:=by unfold I5;rw[hat]
  have hlt:¬OM l f<l.length:=by have:=List.getElem?_eq_none_iff.1 hat;omega
  refine Lb 30 (by simp only[go_sem,K5,Up,f0,f6,hlv,hlt];rfl) ?_;exact put hA _ _ (Fg f0) (Fg f3) (Fg f6) (Frm.refl _)
 | some t =>
  have hlt:OM l f<l.length:=(List.getElem?_eq_some_iff.1 hat).1;have hA:I5 l f=BK t f:=by unfold I5;rw[hat]
  obtain⟨b,o,c,xv,rfl,_,_,la,_,_,hxv⟩:=Sw hxw hat;refine Fz (by simp only[go_sem,K5,Up,f0,f3,f6,hlv,hlt,la,a0];rfl) ?_;refine K9 Ff Fe ?_;refine Jly C (x:=t) (y:=f) (T:=T) ⟨xv,rfl,hxv⟩ hyw (hlx t (FI hat)) hly fun w2 g2=>?_;cases hs:BK t f with
  | true =>
   rw[hs]at hA;have hF:OE l f=l:=by unfold OE;rw[hA];rfl
   rw[hF,hA]at h;refine Fz (by simp only[go_sem,K5,Pa,f0];rfl) ?_;refine K7 ⟨_,by simp only[go_sem,K5,J3];rfl,?_⟩;exact h w2 _ (Fcs.mono (Fcs.frm hxw g2 fun _ _ h=>h) fun x hx=> .inl hx) hnil (f0w.tr g2)
  | false =>
   rw[hs]at hA;refine Lb 10 Fe ?_;exact put hA _ _ (Fg f0) (Fg f3) (Fg f6) g2
section
open Go.AE Delphi Val
variable {tab:Tab}
def Ck (facts:List Fc) (bs:List Bn) (l:Lt):Bool :=
 if l.kind=1 then true
 else if l.kind=2 then !(facts.any fun x=>BK x (Tv l bs))
 else match l.args with
  | [a,b]=>TA l.kind (OD a bs) (OD b bs)
  | _=>false
def Sz (r:Rl) (facts:List Fc) (bs:List Bn):Bool:=r.body.all (Ck facts bs)
structure LtB (l:Lt):Prop where
 ar:l.args.length≤1000
 two:l.kind≠1→l.kind≠2→l.args.length=2
theorem JqV (C:Codes tab){T2 T3:Fw}{r:Rl}{facts:List Fc}{bs:List Bn}{xs:List V}{fv bv:V}{aw:AW}{K:V→AW→Prop}(hx:RlC T aw r xs)(hf:Fcs T2 aw fv facts)(hb:Rd T3 aw bv 4 bs.length (BC bs))(hbl:r.body.length≤1000)(hlt:∀l∈r.body,LtB l)(hfl:facts.length≤1000000)(hfx:∀x∈facts,x.2.length≤1000)(hn:bs.length≤1000000)(h:∀w,Frm (fun _=>False) aw w→K (.bool (Sz r facts bs)) w):WF tab Gw [.agg xs,fv,bv] aw K:=by
 refine Ld C.Xv rfl ?_;obtain⟨xl,xo⟩:=hx.one;obtain⟨xv,xb,rfl,hxh,hxb⟩:=hx;obtain⟨w1,e1,c1,r1,m1⟩:=Oe aw [.int .i64 (Fq r.head.kind),.str r.head.name,xv,xb];have hbv:lenV xb=some r.body.length:=by obtain⟨xss,q1,_⟩:=hxb;exact q1.lenV
 refine Fz (by simp only[go_sem,K5,Zs,e1];rfl) ?_
 refine LK (fun n f w=>∃i,f.get 1=some fv∧f.get 2=some bv∧f.get 3=some (.ptr aw.next 0)∧f.get 7=some (.int .i64 (Fq i))∧Frm (fun _=>False) w1 w∧Sz r facts bs=(r.body.drop i).all (Ck facts bs)∧i≤r.body.length∧n=r.body.length-i)
  (fun f w=>Frm (fun _=>False) w1 w∧Sz r facts bs=true) ?_ ?_ r.body.length ⟨0,Fb,Fb,Fb,Fb,Frm.refl _,rfl,Nat.zero_le _,rfl⟩
 ·rintro n f w ⟨i,f1,f2,f3,f7,g,hL,hi,rfl⟩ ih out;have b3:=CB.ld (c1.frm g fun h=>h) 3 1 _ rfl;by_cases hil:i<r.body.length
  case neg =>
   obtain rfl:i=r.body.length:=Fh;rw[List.drop_length]at hL;refine Lb 1000 (by simp only[go_sem,Z2,f3,f7,b3,hbv,hil];rfl) ?_;exact out _ _ _ ⟨g,hL⟩ rfl
  obtain⟨t,ht⟩:∃t,r.body[i]? = some t:=⟨_,FB hil⟩;have hd:r.body.drop i=t::r.body.drop (i+1):=by rw[FL hil];rw[FB hil]at ht;cases ht;rfl
  rw[hd,List.all_cons]at hL;have htb:=hlt t (FI ht);have f0w:=r1.tr g;have hwr:KZ .i64 (Fq i+1)=Fq (i+1):=Lh Fh;obtain⟨b,o,c,ys,rfl,la,ha⟩:=CJ (hxb.frm (fun _ _ h=>h.frm f0w fun _ _ h=>h) f0w fun _ _ h=>h) ht;obtain⟨yl,yo⟩:=ha.one;obtain⟨zv,rfl,hz⟩:=ha;obtain⟨w2,s2,c2,r2,n2⟩:=Oj w (zs:=[V.int .i64 0,V.str [],V.nilslice]) (vs:=[.int .i64 (Fq t.kind),.str t.name,zv]) rfl yo;have f02:=f0w.tr r2;have g2:=g.tr r2;obtain⟨kk,hkk⟩:∃kk,kk=t.kind:=⟨_,rfl⟩;rw[←hkk]at la s2 c2;have k0:=CB.ld c2 0 1 _ rfl;have hz2:=hz.frm r2 fun _ _ h=>h;by_cases h1:kk=1
  ·subst h1;have e:Ck facts bs t=true:=if_pos hkk.symm;rw[e,Bool.true_and]at hL;refine Fz (by simp only[go_sem,K5,Z2,Xu,Xt,f1,f2,f3,f7,b3,hbv,hil,la,FC,FD,s2,k0,hwr];rfl) ?_;exact ih _ _ _ Fh ⟨i+1,(Fg f1),(Fg f2),(Fg f3),Fb,g2,hL,by omega,rfl⟩
  by_cases h2:kk=2
  ·subst h2;have e:Ck facts bs t = !(facts.any fun x=>BK x (Tv t bs)):=by unfold Ck;rw[if_neg Fh,if_pos hkk.symm]
   rw[e]at hL;have k3:w2.load w.next 0 3=some [.int .i64 (Fq 2),.str t.name,zv]:=c2.all rfl;refine Fz (by simp only[go_sem,K5,Z2,Xu,Xt,Un,H8,f1,f2,f3,f7,b3,hbv,hil,la,FC,FD,s2,k0,k3];rfl) ?_;refine K9 Ff Fe ?_;refine Jk8 C (l:=t) (T:=T) ⟨zv,by rw[←hkk],hz2⟩ (hb.frm f02 fun _ _ h=>h) hn htb.ar fun w3 gs S q1 q2 q3=>?_;refine K6 1000 Fe ?_;refine K9 Ff Fe ?_;refine Jvn C (y:=Tv t bs) (hf.frm (f02.tr q2) fun _ _ h=>h) q1 hfl hfx (by show (t.args.map _).length≤_;rw[F9];exact htb.ar) fun w4 q4=>?_;have g4:=(g2.tr q2).tr q4;cases hs:facts.any fun x=>BK x (Tv t bs)with
   | true =>
    rw[hs]at hL;have hL:Sz r facts bs=false:=hL;rw[hL]at h;refine Fz (by simp only[go_sem,K5,H4];rfl) ?_;refine K7 ⟨_,by simp only[go_sem,K5,Zs];rfl,?_⟩;exact h w4 (r1.tr g4)
   | false =>
    rw[hs,Bool.not_false,Bool.true_and]at hL;refine Fz (by simp only[go_sem,K5,f7,hwr];rfl) ?_;exact ih _ _ _ Fh ⟨i+1,(Fg f1),(Fg f2),(Fg f3),Fb,g4,hL,by omega,rfl⟩
  ·have ht2:t.args.length=2:=htb.two Fh Fh
   obtain⟨a,d,had⟩:∃a b,t.args=[a,b]:=by
    match hh:t.args,ht2 with
    | [a,b],_=>exact⟨a,b,rfl⟩
   have e:Ck facts bs t=TA kk (OD a bs) (OD d bs):=by unfold Ck;rw[if_neg Fh,if_neg Fh,had,hkk]
   rw[e]at hL;obtain⟨b5,o5,c5,rfl,_,_,ta,_⟩:=Ij hz2 (i:=0) (t:=a) (by rw[had];rfl);rw[Nat.zero_mul,KF]at ta;rw[ht2]at la s2 c2;have k2:=CB.ld c2 2 1 _ rfl;refine Fz (by simp only[go_sem,K5,Z2,Xu,Xt,Un,H9,f1,f2,f3,f7,b3,hbv,hil,la,FC,FD,s2,k0,k2,h1,h2,ta];rfl) ?_;refine K9 Ff Fe ?_;refine MP C (t:=a) (hb.frm f02 fun _ _ h=>h) hn fun w3 g3=>?_;rw[MS];obtain⟨w4,s4,c4,r4,n4⟩:=Oj w3 (zs:=[V.int .i64 0,V.str [],V.int .i64 0]) (vs:=tkC (OD a bs)) rfl rfl;have g24:=g3.tr r4;have k2':=CB.ld (c2.frm g24 fun h=>h) 2 1 _ rfl;have f04:=f02.tr g24;obtain⟨_,_,_,he,_,_,tb,_⟩:=Ij (hz2.frm g24 fun _ _ h=>h) (i:=1) (t:=d) (by rw[had];rfl);cases he;have tb:w4.load b5 (o5+3) 3=some (tmC d):=tb;refine Fz (by simp only[go_sem,K5,H7,f2,TE,s4,k2',tb];rfl) ?_;refine K9 Ff Fe ?_;refine MP C (t:=d) (hb.frm f04 fun _ _ h=>h) hn fun w5 g5=>?_;rw[MS];obtain⟨w6,s6,c6,r6,n6⟩:=Oj w5 (zs:=[V.int .i64 0,V.str [],V.int .i64 0]) (vs:=tkC (OD d bs)) rfl rfl;have g46:=g5.tr r6;have k0':=CB.ld ((c2.frm g24 fun h=>h).frm g46 fun h=>h) 0 1 _ rfl;have ka:w6.load w3.next 0 3=some (tkC (OD a bs)):=(c4.frm g46 fun h=>h).all rfl;have kb:w6.load w5.next 0 3=some (tkC (OD d bs)):=c6.all rfl;refine Fz (by simp only[go_sem,K5,H6,TE,s6,k0',ka,kb];rfl) ?_;refine K9 Ff Fe ?_;refine Jr9 C (k:=kk) fun w7 g7=>?_;have g27:=((g2.tr g24).tr g46).tr g7;cases hs:TA kk (OD a bs) (OD d bs)with
   | false =>
    rw[hs]at hL;have hL:Sz r facts bs=false:=hL;rw[hL]at h;refine Fz (by simp only[go_sem,K5,H5];rfl) ?_;refine K7 ⟨_,by simp only[go_sem,K5,Zs];rfl,?_⟩;exact h w7 (r1.tr g27)
   | true =>
    rw[hs,Bool.true_and]at hL;refine Fz (by simp only[go_sem,K5,f7,hwr];rfl) ?_;exact ih _ _ _ Fh ⟨i+1,(Fg f1),(Fg f2),(Fg f3),Fb,g27,hL,by omega,rfl⟩
 ·rintro f w ⟨g,hL⟩;rw[hL]at h;refine K6 1000 Fe ?_;refine K7 ⟨_,by simp only[go_sem,K5,Zs];rfl,?_⟩;exact h w (r1.tr g)
end
section
open Go.AE Delphi Val
variable {tab:Tab}
structure WysB (N:Nat) (w:AW) (v:V) (ways:List (List Bn)) (S T:Fw) (cs:List V):Prop where
 b:Buf S w v 1 ways.length cs
 len:cs.length=ways.length
 at':∀(i:Nat) x bs,cs[i]? = some x→ways[i]? = some bs→Rd T w x 4 bs.length (BC bs)
 s:∀x,S x→N≤x∧x<w.next
 t:∀x,T x→N≤x∧x<w.next∧¬S x
def Wys (N:Nat) (w:AW) (v:V) (ways:List (List Bn)):Prop:=∃S T cs,WysB N w v ways S T cs
variable {N:Nat} {v:V} {ways:List (List Bn)}
theorem Wys.frm {w':AW}(h:Wys N w v ways)(g:Frm (fun _=>False) w w'):Wys N w' v ways:=by
 obtain⟨S,T,cs,h⟩:=h;have n:=g.next;exact⟨S,T,cs,h.b.frm g fun _ _ h=>h,h.len,fun i x bs h1 h2=>(h.at' i x bs h1 h2).frm g fun _ _ h=>h,fun x hx=>⟨(h.s x hx).1,by have:=(h.s x hx).2;omega⟩,fun x hx=>⟨(h.t x hx).1,by have:=(h.t x hx).2.1;omega,(h.t x hx).2.2⟩⟩
theorem Wys.lenV (h:Wys N w v ways):lenV v=some ways.length:=by
 obtain⟨S,T,cs,h⟩:=h;exact h.b.lenV
theorem Wys.nil:Wys N w .nilslice []:=⟨fun _=>False,fun _=>False,[],.nil,rfl,fun i x bs h=>by simp at h,fun _ h=>h.elim,fun _ h=>h.elim⟩
variable {i:Nat} {bs:List Bn}
theorem Wys.at (h:Wys N w v ways)(hi:ways[i]? = some bs):∃b o c bv T,v = .slice b o ways.length c∧w.load b (o+i*1) 1=some [bv]∧Rd T w bv 4 bs.length (BC bs):=by
 obtain⟨S,T,cs,h⟩:=h;have hlt:i<ways.length:=(List.getElem?_eq_some_iff.1 hi).1;have hlc:i<cs.length:=by rw[h.len];exact hlt
 have hb:=h.b;rcases hb.inv with⟨_,h0,_⟩|⟨b,rfl,_⟩
 ·omega
 ·exact⟨b,0,_,cs[i],T,rfl,hb.load1 (FB hlc),h.at' i _ _ (FB hlc) hi⟩
theorem Jr8 {esz n:Nat}(h:Rd T w v esz n cs):v.one=true∧v.cells=[v]:=by
 rcases h.inv with⟨rfl,_⟩|⟨_,_,_,rfl,_⟩<;>exact⟨rfl,rfl⟩
theorem Wys.push {wa:AW}{bv:V}{Tb:Fw}(h:Wys N wa v ways)(g:Frm (fun _=>False) wa w)(hb:Rd Tb w bv 4 bs.length (BC bs))(hT:∀x,Tb x→wa.next≤x∧x<w.next)(hN:N≤wa.next)(hl:ways.length≤1000000): ∃v' w',(w.fresh [bv]).appendV 1 24 v 1 [bv]=some (v',w')∧Wys N w' v' (ways++[bs])∧Frm (fun x=>N≤x) w w':=by
 obtain⟨S,T,cs,h⟩:=h;have n:=g.next;obtain⟨v',w',S',q1,q2,q3,q4⟩:=(h.b.frm g fun _ _ h=>h).push (news:=[bv]) (bytes:=24) (fun x hx=>by have:=(h.s x hx).2;omega) Fh rfl (by simp only[Lv,(Jr8 hb).1]) Fh Fh;have n':=q3.next;have hS':∀x,S' x→S x∨w.next≤x:=fun x hx=>(q4 x hx).2;refine⟨v',w',q1,⟨S',fun x=>T x∨Tb x,cs++[bv],by rw[FE];exact q2,by rw[FE,FE,h.len];rfl,?_,fun x hx=>?_,fun x hx=>?_⟩,q3.mono fun x _ hx=>(h.s x hx).1⟩
 ·intro i x bs' h1 h2;by_cases hi:i<cs.length
  ·rw[F5 hi]at h1;rw[F5 (by rw[←h.len];exact hi)]at h2;exact (((h.at' i x bs' h1 h2).frm g fun _ _ h=>h).frm q3 fun y hy hs=>(h.t y hy).2.2 hs).mono fun y hy=> .inl hy
  ·have hic:i=cs.length:=by
    have:=(List.getElem?_eq_some_iff.1 h1).1;rw[FE]at this;simp at this;omega
   subst hic;rw[F4 (FH _),Nat.sub_self]at h1;rw[h.len,F4 (FH _),Nat.sub_self]at h2;simp only[Kg,FQ]at h1 h2;subst h1 h2;exact (hb.frm q3 fun y hy hs=>by have:=(h.s y hs).2;have:=(hT y hy).1;omega).mono fun y hy=> .inr hy
 ·refine⟨?_,(q4 x hx).1⟩;rcases hS' x hx with h1|h1
  ·exact (h.s x h1).1
  ·omega
 ·rcases hx with hx|hx
  ·refine⟨(h.t x hx).1,by have:=(h.t x hx).2.1;omega,fun hs=>?_⟩;rcases hS' x hs with h1|h1
   ·exact (h.t x hx).2.2 h1
   ·have:=(h.t x hx).2.1;omega
  ·refine⟨by have:=(hT x hx).1;omega,by have:=(hT x hx).2;omega,fun hs=>?_⟩;rcases hS' x hs with h1|h1
   ·have:=(h.s x h1).2;have:=(hT x hx).1;omega
   ·have:=(hT x hx).2;omega
theorem Qp:∀{ts:List Tm} {cs:List Tk} {bs o:List Bn},Bi ts cs bs=some o→o.length≤bs.length+ts.length
 | [],cs,bs,o,h=>by
  have:Bi [] cs bs=some bs:=by cases cs<;>rfl
  rw[this]at h;cases h;simp
 | t::ts,[],bs,o,h=>by
  have h:some bs=some o:=h;cases h;simp
 | t::ts,c::cs,bs,o,h=>by
  simp only[Bi]at h;split at h
  ·have:=Qp h;simp only[FE,FC,FD]at this ⊢;omega
  ·split at h
   ·have:=Qp h;simp only[FC];omega
   ·cases h
theorem Jtd {l:Lt}{f:Fc}{o:List Bn}(h:IJ l f bs=some o):o.length≤bs.length+l.args.length:=by
 unfold IJ at h;split at h
 ·exact Qp h
 ·cases h
def TL (l:Lt) (ov:List Fc) (b:List Bn):List (List Bn):=ov.filterMap fun f=>IJ l f b
def OA (l:Lt) (ov:List Fc) (ways:List (List Bn)):List (List Bn):=ways.flatMap fun b=>TL l ov b
theorem O7 {α:Type}{l:List α}{t:α}(h:l[i]? = some t):l.take (i+1)=l.take i++[t]:=by rw[List.take_add_one,h];rfl
structure RwF (f:Fr) (p:Nat) (fv dv:V) (a i:Int) (wv:V):Prop where
 f1:f.get 1=some fv
 f2:f.get 2=some (.int .i64 a)
 f3:f.get 3=some dv
 f4:f.get 4=some (.ptr p 0)
 f11:f.get 11=some (.int .i64 i)
 f10:f.get 10=some wv
theorem JtY (C:Codes tab){T2:Fw}{l:Lt}{b:List Bn}{ov:List Fc}{bodyN w0 p:Nat}{xb nv ovv fv dv:V}{a:Int}{wb wo:Nat}{wc:Cap}{aw:AW}{nx:List (List Bn)}{f:Fr}{st:List SI}{Q:Fr→AW→Prop}(hN:N≤aw.next)(hF:RwF f p fv dv a (Fq i) (.slice wb wo ways.length wc))(f12:f.get 12=some ovv)(f13:f.get 13=some nv)(f14:f.get 14=some (.int .i64 (Fq w0)))(f15:f.get 15=some (.int .i64 (Fq 0)))(hp:p<N)(hb3:∀w,Frm (fun x=>N≤x) aw w→w.load p 3 1=some [xb])(hlit:∀w,Frm (fun x=>N≤x) aw w→∃b o c xs,xb = .slice b o bodyN c∧w.load b (o+i*3) 3=some xs∧LtC T w l xs)(hi:i<bodyN)(hov:∀w,Frm (fun x=>N≤x) aw w→Fcs T2 w ovv ov)(hw0:w0<ways.length)(hway:∀w,Frm (fun x=>N≤x) aw w→∃bv T3,w.load wb (wo+w0*1) 1=some [bv]∧Rd T3 w bv 4 b.length (BC b))(hla:l.args.length≤1000)(hbl:b.length≤1000)(hol:ov.length≤100000)(hnx:Wys N aw nv nx)(hnl:nx.length≤4000)(h:∀f' w' nv',RwF f' p fv dv a (Fq i) (.slice wb wo ways.length wc)→f'.get 12=some ovv→f'.get 13=some nv'→f'.get 14=some (.int .i64 (Fq w0))→Wys N w' nv' (nx++TL l ov b)→Frm (fun x=>N≤x) aw w'→WS tab st f' w' Q): WS tab (.code (.loop Y3) :: .endB 4::st) f aw Q:=by
 refine LK (fun n f w=>∃k nv,RwF f p fv dv a (Fq i) (.slice wb wo ways.length wc)∧f.get 12=some ovv∧f.get 13=some nv∧f.get 14=some (.int .i64 (Fq w0))∧f.get 15=some (.int .i64 (Fq k))∧Wys N w nv (nx++TL l (ov.take k) b)∧Frm (fun x=>N≤x) aw w∧k≤ov.length∧n=ov.length-k)
  (fun f w=>∃nv,RwF f p fv dv a (Fq i) (.slice wb wo ways.length wc)∧f.get 12=some ovv∧f.get 13=some nv∧f.get 14=some (.int .i64 (Fq w0))∧Wys N w nv (nx++TL l ov b)∧Frm (fun x=>N≤x) aw w) ?_ ?_ ov.length
  ⟨0,nv,hF,f12,f13,f14,f15,by rw[List.take_zero];simpa[TL]using hnx,Frm.refl _,Nat.zero_le _,rfl⟩
 ·rintro n f w ⟨k,nv,⟨f1,f2,f3,f4,f11,f10⟩,f12,f13,f14,f15,hW,g,hk,rfl⟩ ih out;have hovw:=hov w g;have hlv:=hovw.lenV;by_cases hlt:k<ov.length
  case neg =>
   obtain rfl:k=ov.length:=Fh;rw[List.take_length]at hW;refine Lb 1000 (by simp only[go_sem,Y3,f12,f15,hlv,hlt];rfl) ?_;exact out _ _ _ ⟨nv,⟨(Fg f1),(Fg f2),(Fg f3),(Fg f4),(Fg f11),(Fg f10)⟩,(Fg f12),(Fg f13),(Fg f14),hW,g⟩ rfl
  obtain⟨t,ht⟩:∃t,ov[k]? = some t:=⟨_,FB hlt⟩;have b3:=hb3 w g;obtain⟨lb,lo,lc,xs,rfl,la,hl⟩:=hlit w g;obtain⟨bv,T3,wl,hbv⟩:=hway w g;obtain⟨fb,fo,fc,fxv,rfl,_,_,lf,_,_,hfx⟩:=Sw hovw ht;have hwr:KZ .i64 (Fq k+1)=Fq (k+1):=Lh Fh
  have htk:TL l (ov.take (k+1)) b=TL l (ov.take k) b++(match IJ l t b with|some o=>[o]|none=>[]):=by
   rw[O7 ht];unfold TL;rw[List.filterMap_append,List.filterMap_cons];cases IJ l t b<;>rfl
  have hfl:(TL l (ov.take k) b).length≤100000:=by
   unfold TL;have:=List.length_filterMap_le (fun f=>IJ l f b) (ov.take k);rw[FU]at this;omega
  refine Fz (by simp only[go_sem,K5,Y3,Hr,f1,f2,f3,f4,f11,f10,f12,f14,f15,hlv,hlt,b3,la,hi,lf,hw0,wl];rfl) ?_;refine K9 Ff Fe ?_;refine Jvm C (fc:=t) (T':=T2) hl ⟨fxv,rfl,hfx⟩ hbv hbl hla ?_ ?_
  ·intro hn v w2 g2;rw[hn,Kc]at htk;refine Fz (by simp only[go_sem,K5,f15,hwr];rfl) ?_;exact ih _ _ _ Fh ⟨k+1,nv,⟨(Fg f1),(Fg f2),(Fg f3),(Fg f4),(Fg f11),(Fg f10)⟩,(Fg f12),(Fg f13),(Fg f14),Fb,by rw[htk];exact hW.frm g2,g.trans g2 (fun _ _ h=>h) (fun _ _ h=>h.elim),by omega,rfl⟩
  ·intro o hn v w2 S q1 g2 q3;rw[hn]at htk;have htk:TL l (ov.take (k+1)) b=TL l (ov.take k) b++[o]:=htk;obtain⟨v',w3,u1,u2,u3⟩:=hW.push g2 q1.rd q3 (by have:=g.next;omega) (by rw[FE];omega);have hel:(w2.fresh [v]).elems 1 (.slice w2.next 0 1 (.known 1))=some (1,[v]):=Tj Fh rfl;have hvc:v.cells=[v]:=(Jr8 q1.rd).2;have hov0:over [V.nilslice] 0 [v]=some [v]:=rfl;refine Fz (by simp only[go_sem,K5,Hq,f13,Lg,Lj,hvc,hov0,FC,FD,hel,u1,f15,hwr];rfl) ?_;exact ih _ _ _ Fh ⟨k+1,v',⟨(Fg f1),(Fg f2),(Fg f3),(Fg f4),(Fg f11),(Fg f10)⟩,(Fg f12),Fb,(Fg f14),Fb,by rw[htk,←F6];exact u2,(g.trans g2 (fun _ _ h=>h) (fun _ _ h=>h.elim)).trans u3 (fun _ _ h=>h) (fun _ _ h=>h),by omega,rfl⟩
 ·rintro f w ⟨nv,hF,f12,f13,f14,hW,g⟩;exact h f w nv hF f12 f13 f14 hW g
end
section
open Go.AE Delphi Val
variable {tab:Tab}
def WysR (w:AW) (v:V) (ways:List (List Bn)):Prop:=∃T cs,Rd T w v 1 ways.length cs∧(cs.length=ways.length)∧∀(i:Nat) x bs,cs[i]? = some x→ways[i]? = some bs→Rd T w x 4 bs.length (BC bs)
variable {v:V} {ways:List (List Bn)}
theorem Wys.r {N:Nat}(h:Wys N w v ways):WysR w v ways:=by
 obtain⟨S,T,cs,h⟩:=h;exact⟨fun x=>S x∨T x,cs,h.b.rd.mono fun x hx=> .inl hx,h.len,fun i x bs h1 h2=>(h.at' i x bs h1 h2).mono fun y hy=> .inr hy⟩
theorem WysR.frm {w':AW}(h:WysR w v ways)(g:Frm (fun _=>False) w w'):WysR w' v ways:=by
 obtain⟨T,cs,h1,h2,h3⟩:=h;exact⟨T,cs,h1.frm g fun _ _ h=>h,h2,fun i x bs q1 q2=>(h3 i x bs q1 q2).frm g fun _ _ h=>h⟩
theorem WysR.lenV (h:WysR w v ways):lenV v=some ways.length:=by
 obtain⟨T,cs,h,_⟩:=h;exact h.lenV
theorem WysR.at (h:WysR w v ways){i:Nat}{bs:List Bn}(hi:ways[i]? = some bs):∃b o c bv T,v = .slice b o ways.length c∧w.load b (o+i*1) 1=some [bv]∧Rd T w bv 4 bs.length (BC bs):=by
 obtain⟨T,cs,h1,h2,h3⟩:=h;have hlt:i<ways.length:=(List.getElem?_eq_some_iff.1 hi).1;have hlc:i<cs.length:=by rw[h2];exact hlt
 rcases h1.inv with⟨_,h0,_⟩|⟨b,o,c,rfl,hB⟩
 ·omega
 ·refine⟨b,o,c,cs[i],T,rfl,?_,h3 i _ _ (FB hlc) hi⟩;rw[KC];exact hB.cell Fh (FB hlc)
theorem Jrz (l:Lt)(ov:List Fc)(ways:List (List Bn))(b:List Bn):OA l ov (ways++[b])=OA l ov ways++TL l ov b:=by simp[OA]
theorem JrA (l:Lt)(ov:List Fc)(ways:List (List Bn))(k:Nat):(OA l ov (ways.take k)).length≤(OA l ov ways).length:=by
 have:OA l ov ways=OA l ov (ways.take k)++OA l ov (ways.drop k):=by
  unfold OA;rw[←List.flatMap_append,List.take_append_drop]
 rw[this,FE];omega
abbrev RwK (K:V→AW→Prop):Fr→AW→Prop:=fun fr' aw'=>∃vs,Ox fr' aw' Zm.results=some vs∧K (Oy vs) aw'
theorem Jvo (C:Codes tab){T2:Fw}{l:Lt}{ov:List Fc}{body:List Lt}{i p:Nat}{xb ovv wv fv dv:V}{a:Int}{aw:AW}{f:Fr}{st:List SI}{K:V→AW→Prop}(hF:RwF f p fv dv a (Fq i) wv)(f12:f.get 12=some ovv)(f13:f.get 13=some .nilslice)(f14:f.get 14=some (.int .i64 (Fq 0)))(hp:p<aw.next)(hb3:∀w,Frm (fun _=>False) aw w→w.load p 3 1=some [xb])(hbody:RdL (LtC T) T aw xb 3 body)(hi:body[i]? = some l)(hov:Fcs T2 aw ovv ov)(hw:WysR aw wv ways)(hla:l.args.length≤1000)(hbl:∀b∈ways,b.length≤1000)(hol:ov.length≤100000)(hwl:ways.length≤4000)(hbad:4000<(OA l ov ways).length→∀w,Frm (fun _=>False) aw w→K (.tuple [.nilslice,.bool false]) w)(h:(OA l ov ways).length≤4000→∀f' w' nv',RwF f' p fv dv a (Fq i) wv→f'.get 13=some nv'→Wys aw.next w' nv' (OA l ov ways)→Frm (fun _=>False) aw w'→WS tab st f' w' (RwK K)): WS tab (.code (.loop ZU) :: .endB 2::st) f aw (RwK K):=by
 have hil:i<body.length:=(List.getElem?_eq_some_iff.1 hi).1;have down:∀{w},Frm (fun x=>aw.next≤x) aw w→Frm (fun _=>False) aw w:=fun g=>g.mono fun x hx h=>by omega
 refine LK (fun n f w=>∃k nv,RwF f p fv dv a (Fq i) wv∧f.get 12=some ovv∧f.get 13=some nv∧f.get 14=some (.int .i64 (Fq k))∧Wys aw.next w nv (OA l ov (ways.take k))∧(OA l ov (ways.take k)).length≤4000∧Frm (fun x=>aw.next≤x) aw w∧k≤ways.length∧n=ways.length-k)
  (fun f w=>∃nv,RwF f p fv dv a (Fq i) wv∧f.get 13=some nv∧Wys aw.next w nv (OA l ov ways)∧(OA l ov ways).length≤4000∧Frm (fun x=>aw.next≤x) aw w) ?_ ?_ ways.length
  ⟨0,.nilslice,hF,f12,f13,f14,by rw[List.take_zero];exact Wys.nil,by simp[OA],Frm.refl _,Nat.zero_le _,rfl⟩
 ·rintro n f w ⟨k,nv,hF,f12,f13,f14,hW,hle,g,hk,rfl⟩ ih out;obtain⟨f1,f2,f3,f4,f11,f10⟩:=hF;have hwlv:=hw.lenV;by_cases hlt:k<ways.length
  case neg =>
   obtain rfl:k=ways.length:=Fh;rw[List.take_length]at hW hle;refine Lb 1000 (by simp only[go_sem,ZU,f10,f14,hwlv,hlt];rfl) ?_;exact out _ _ _ ⟨nv,⟨(Fg f1),(Fg f2),(Fg f3),(Fg f4),(Fg f11),(Fg f10)⟩,(Fg f13),hW,hle,g⟩ rfl
  obtain⟨b,hb⟩:∃t,ways[k]? = some t:=⟨_,FB hlt⟩;have htk:OA l ov (ways.take (k+1))=OA l ov (ways.take k)++TL l ov b:=by rw[O7 hb,Jrz]
  have hwr:KZ .i64 (Fq k+1)=Fq (k+1):=Lh Fh;obtain⟨wb,wo,wc,bv,T3,rfl,_,_⟩:=hw.at hb;obtain⟨lb,lo,lc,xs,rfl,_,_⟩:=CJ hbody hi;refine Fz (by simp only[go_sem,K5,ZU,Ht,f10,f14,hwlv,hlt];rfl) ?_;have gt:∀{w'},Frm (fun x=>aw.next≤x) w w'→Frm (fun _=>False) aw w':=fun g'=>down (g.trans g' (fun _ _ h=>h) fun _ _ h=>h)
  have hlit0:∀w',Frm (fun x=>aw.next≤x) w w'→∃b o c xs',V.slice lb lo body.length lc = .slice b o body.length c∧w'.load b (o+i*3) 3=some xs'∧LtC T w' l xs':=fun w' g'=>by
   have f:=gt g';obtain⟨b,o,c,xs',e,q1,q2⟩:=CJ (hbody.frm (fun _ _ h=>h.frm f fun _ _ h=>h) f fun _ _ h=>h) hi;exact⟨b,o,c,xs',e,q1,q2⟩
  refine JtY C (l:=l) (b:=b) (ov:=ov) (ways:=ways) (T:=T) (T2:=T2) (bodyN:=body.length) (i:=i) (w0:=k) (N:=aw.next) (p:=p) (xb:=.slice lb lo body.length lc) (nv:=nv) (nx:=OA l ov (ways.take k)) (ovv:=ovv) (wb:=wb) (wo:=wo) (wc:=wc) g.next ⟨(Fg f1),(Fg f2),(Fg f3),(Fg f4),(Fg f11),(Fg f10)⟩ (Fg f12) (Fg f13) (Fg f14) Fb hp ?_ ?_ hil ?_ hlt ?_ hla (hbl b (FI hb)) hol hW hle ?_
  ·intro w' g';exact hb3 w' (gt g')
  ·exact hlit0
  ·intro w' g';exact hov.frm (gt g') fun _ _ h=>h
  ·intro w' g';obtain⟨b,o,c,bv',T',e,q1,q2⟩:=(hw.frm (gt g')).at hb;cases e;exact⟨bv',T',q1,q2⟩
  ·intro f' w' nv' hF' f12' f13' f14' hW' g';obtain⟨f1,f2,f3,f4,f11,f10⟩:=hF';rw[←htk]at hW';have hlv:=hW'.lenV;have gg:=g.trans g' (fun _ _ h=>h) fun _ _ h=>h;by_cases hbig:4000<(OA l ov (ways.take (k+1))).length
   ·refine Fz (by simp only[go_sem,K5,f13',hlv,hbig,Hs];rfl) ?_;refine K7 ⟨_,by simp only[go_sem,K5,Zm];rfl,?_⟩;exact hbad (FK hbig (JrA _ _ _ _)) w' (down gg)
   ·refine Fz (by simp only[go_sem,K5,f13',f14',hlv,hbig,hwr];rfl) ?_;exact ih _ _ _ Fh ⟨k+1,nv',⟨(Fg f1),(Fg f2),(Fg f3),(Fg f4),(Fg f11),(Fg f10)⟩,(by simp only[go_sem,K5,f12']<;>rfl),(by simp only[go_sem,K5,f13']<;>rfl),Fb,hW',by omega,gg,by omega,rfl⟩
 ·rintro f w ⟨nv,hF,f13,hW,hle,g⟩;exact h hle f w nv hF f13 hW (down g)
end
section
open Go.AE Delphi Val
variable {tab:Tab}
def Tt (facts delta:List Fc) (a:Int):List Lt→Nat→List (List Bn)→Option (List (List Bn))
 | [],_,ws=>some ws
 | l::ls,i,ws=>if l.kind=1 then (if 4000<(OA l (if Fq i=a then delta else facts) ws).length then none else Tt facts delta a ls (i+1) (OA l (if Fq i=a then delta else facts) ws))else Tt facts delta a ls (i+1) ws
def BI (r:Rl) (facts:List Fc) (ws:List (List Bn)):List Fc:=ws.foldl (fun o b=>if Sz r facts b then OE o (Tv r.head b)else o) []
def Dj (r:Rl) (facts:List Fc) (a:Int) (delta:List Fc):Option (List Fc):=(Tt facts delta a r.body 0 [[]]).map (BI r facts)
theorem MG {f x:Fc}(h:x∈OE l f):x∈l∨x=f:=by
 unfold OE at h;split at h
 ·exact .inl h
 ·rcases List.mem_append.1 h with h|h
  ·exact .inl (List.mem_of_mem_take h)
  ·rcases List.mem_cons.1 h with h|h
   ·exact .inr h
   ·exact .inl (List.mem_of_mem_drop h)
theorem QG (l:List Fc)(f:Fc):(OE l f).length≤l.length+1:=by
 unfold OE;split
 ·omega
 ·simp only[FE,FU,FC,Ki];omega
theorem JuR {l:Lt}{ov:List Fc}{ways:List (List Bn)}{n:Nat}(h:∀b∈ways,b.length≤n):∀b∈OA l ov ways,b.length≤n+l.args.length:=by
 intro b hb;unfold OA at hb;obtain⟨c,hc,hb⟩:=List.mem_flatMap.1 hb;unfold TL at hb;obtain⟨f,_,hf⟩:=List.mem_filterMap.1 hb;have:=Jtd hf;have:=h c hc;omega
structure RuleB (r:Rl):Prop where
 br:RBr r
 lt:∀l∈r.body,LtB l
theorem JtV (C:Codes tab){T2 T3:Fw}{r:Rl}{facts delta:List Fc}{a:Int}{xs:List V}{fv dv:V}{aw:AW}{K:V→AW→Prop}(hx:RlC T aw r xs)(hf:Fcs T2 aw fv facts)(hd:Fcs T3 aw dv delta)(hr:RuleB r)(hfl:facts.length≤100000)(hfx:∀x∈facts,x.2.length≤1000)(hdl:delta.length≤100000)(h0:Dj r facts a delta=none→∀w,Frm (fun _=>False) aw w→K (.tuple [.nilslice,.bool false]) w)(h1:∀rows,Dj r facts a delta=some rows→∀w v,Fcs (fun x=>aw.next≤x∧x<w.next) w v rows→(rows=[]→v = .nilslice)→Frm (fun _=>False) aw w→K (.tuple [v,.bool true]) w): WF tab Gl [.agg xs,fv,.int .i64 a,dv] aw K:=by
 refine Ld C.Y5 rfl ?_;obtain⟨xl,xo⟩:=hx.one;have hx0:=hx;obtain⟨xv,xb,rfl,hxh,hxb⟩:=hx;obtain⟨w1,e1,c1,r1,m1⟩:=Oe aw [.int .i64 (Fq r.head.kind),.str r.head.name,xv,xb];have hbv:lenV xb=some r.body.length:=by obtain⟨xss,q1,_⟩:=hxb;exact q1.lenV
 have hb7:=hr.br.body;have c2:=OQ w1 [V.nilslice];have r2:=LZ (S:=fun _=>False) w1 [V.nilslice];obtain⟨w2,e2⟩:∃w2,w2=w1.fresh [V.nilslice]:=⟨_,rfl⟩;rw[←e2]at c2 r2;have e2':w1.fresh [V.nilslice]=w2:=e2.symm;have f02:=r1.tr r2;have c1':=c1.frm r2 fun h=>h;have hov:over [V.nilslice] 0 [V.nilslice]=some [V.nilslice]:=rfl;have hvc:V.cells .nilslice=[V.nilslice]:=rfl
 have hw0:WysR w2 (.slice w1.next 0 1 (.known 1)) [[]]:=by
  refine⟨fun x=>x=w1.next,[.nilslice],.blk rfl c2.lt c2.get (.inl rfl) Fj Fj (FH _),rfl,?_⟩;intro i x bs q1 q2
  match i,q1,q2 with
  | 0,q1,q2 =>
   simp only[Kg,FQ]at q1 q2;subst q1 q2;exact .nil
  | i+1,q1,q2=>simp at q1
 refine Fz (by simp only[go_sem,K5,Zm,e1,hvc,Lg,Lj,hov,FC,FD,e2'];rfl) ?_
 refine LK (fun n f w=>∃i wv ways,RwF f aw.next fv dv a (Fq i) wv∧WysR w wv ways∧Tt facts delta a r.body 0 [[]]=Tt facts delta a (r.body.drop i) i ways∧(∀b∈ways,b.length≤5*i)∧ways.length≤4000∧Frm (fun _=>False) w2 w∧i≤r.body.length∧n=r.body.length-i)
  (fun f w=>∃i wv ways,RwF f aw.next fv dv a i wv∧WysR w wv ways∧Tt facts delta a r.body 0 [[]]=some ways∧(∀b∈ways,b.length≤50)∧ways.length≤4000∧Frm (fun _=>False) w2 w) ?_ ?_ r.body.length
  ⟨0,_,[[]],⟨Fb,Fb,Fb,Fb,Fb,Fb⟩,hw0,rfl,by simp,by simp,Frm.refl _,Nat.zero_le _,rfl⟩
 ·rintro n f w ⟨i,wv,ways,⟨f1,f2,f3,f4,f11,f10⟩,hW,hL,hbd,hwl,g,hi,rfl⟩ ih out;have cw:=c1'.frm g fun h=>h;have b3:=CB.ld cw 3 1 _ rfl;by_cases hil:i<r.body.length
  case neg =>
   obtain rfl:i=r.body.length:=Fh;rw[List.drop_length]at hL;refine Lb 1000 (by simp only[go_sem,ZV,f4,f11,b3,hbv,hil];rfl) ?_;exact out _ _ _ ⟨_,wv,ways,⟨(Fg f1),(Fg f2),(Fg f3),(Fg f4),(Fg f11),(Fg f10)⟩,hW,hL,fun b hb=>by have:=hbd b hb;omega,hwl,g⟩ rfl
  obtain⟨t,ht⟩:∃t,r.body[i]? = some t:=⟨_,FB hil⟩;have hdr:r.body.drop i=t::r.body.drop (i+1):=by rw[FL hil];rw[FB hil]at ht;cases ht;rfl
  rw[hdr]at hL;have hwr:KZ .i64 (Fq i+1)=Fq (i+1):=Lh Fh;have f0w:=f02.tr g;have hbw:=hxb.frm (fun _ _ h=>h.frm f0w fun _ _ h=>h) f0w fun _ _ h=>h;obtain⟨lb,lo,lc,ys,rfl,la,ha⟩:=CJ hbw ht;obtain⟨zv,rfl,hz⟩:=ha
  have hk0:w.load lb (lo+i*3) 1=some [.int .i64 (Fq t.kind)]:=by
   rcases RdL.inv hbw (fun a xs h=>h.one.1)with⟨hh,_⟩|⟨b',o',c',hh,_,_,_,hat⟩
   ·cases hh
   ·cases hh;obtain⟨xs,⟨zv',e,_⟩,hl⟩:=hat i t ht;have:=hl 0 1 Fh;rw[e]at this;exact this
  by_cases hk:t.kind=1
  case neg =>
   have hL:Tt facts delta a r.body 0 [[]]=Tt facts delta a (r.body.drop (i+1)) (i+1) ways:=by
    rw[hL];exact if_neg hk
   have hkd:¬Fq t.kind=1:=fun h=>hk (Int.ofNat.inj h);refine Fz (by simp only[go_sem,K5,ZV,Y4,f4,f11,b3,hbv,hil,hk0,hk,hwr];rfl) ?_;exact ih _ _ _ Fh ⟨i+1,wv,ways,⟨(Fg f1),(Fg f2),(Fg f3),(Fg f4),Fb,(Fg f10)⟩,hW,hL,fun b hb=>by have:=hbd b hb;omega,hwl,g,by omega,rfl⟩
  have hta:=hr.br.args t (FI ht);have n1:aw.next<w.next:=by have:=r1.next;have:=r2.next;have:=g.next;omega
  rw[hk]at hk0
  have step:∀(ov:List Fc) (T4:Fw) (ovv:V) (f':Fr),ov=(if Fq i=a then delta else facts)→Fcs T4 w ovv ov→ov.length≤100000→RwF f' aw.next fv dv a (Fq i) wv→f'.get 12=some ovv→f'.get 13=some .nilslice→f'.get 14=some (.int .i64 (Fq 0))→∀st,(∀f2 w2' ways',Tt facts delta a r.body 0 [[]]=Tt facts delta a (r.body.drop (i+1)) (i+1) ways'→(∀b∈ways',b.length≤5*(i+1))→ways'.length≤4000→Frm (fun _=>False) w w2'→∀nv,WysR w2' nv ways'→f2.get 13=some nv→RwF f2 aw.next fv dv a (Fq i) wv→WS tab st f2 w2' (RwK K))→WS tab (.code (.loop ZU) :: .endB 2::st) f' w (RwK K):=by
   intro ov T4 ovv f' hov hovw hovl hF' f12 f13 f14 st hst;refine Jvo C (l:=t) (ov:=ov) hF' f12 f13 f14 n1 (fun w' g'=>CB.ld (cw.frm g' fun h=>h) 3 1 _ rfl) hbw ht hovw hW Fh (fun b hb=>by have:=hbd b hb;omega) hovl hwl ?_ ?_
   ·intro hbig w' g';refine h0 ?_ w' (f0w.tr g');unfold Dj;rw[hL];simp only[Tt,if_pos hk];rw[←hov,if_pos hbig];rfl
   ·intro hsm f2 w' nv' hF2 f13 hW' g';refine hst f2 w' _ ?_ (fun b hb=>by have:=JuR hbd b hb;omega) hsm g' nv' hW'.r f13 hF2;rw[hL];simp only[Tt,if_pos hk];rw[←hov,if_neg Fh]
  by_cases hia:Fq i=a
  ·have hia':(Fq i==a)=true:=by rw[hia];exact beq_self_eq_true a
   refine Fz (by simp only[go_sem,K5,ZV,Y4,V4,Hp,f1,f2,f3,f4,f11,b3,hbv,hil,hk0,hia'];rfl) ?_;refine step delta T3 dv _ (if_pos hia).symm (hd.frm f0w fun _ _ h=>h) hdl ⟨(Fg f1),(Fg f2),(Fg f3),(Fg f4),(Fg f11),(Fg f10)⟩ Fb Fb Fb _ ?_;intro f5 w5 ways5 hL5 hb5 hl5 g5 nv hW5 f13 ⟨f1,f2,f3,f4,f11,f10⟩;refine Fz (by simp only[go_sem,K5,f13,f11,hwr];rfl) ?_;exact ih _ _ _ Fh ⟨i+1,nv,ways5,⟨(Fg f1),(Fg f2),(Fg f3),(Fg f4),Fb,Fb⟩,hW5,hL5,hb5,hl5,g.tr g5,by omega,rfl⟩
  ·have hia':(Fq i==a)=false:=beq_eq_false_iff_ne.2 hia;refine Fz (by simp only[go_sem,K5,ZV,Y4,V4,f1,f2,f4,f11,b3,hbv,hil,hk0,hia'];rfl) ?_;refine step facts T2 fv _ (if_neg hia).symm (hf.frm f0w fun _ _ h=>h) hfl ⟨(Fg f1),(Fg f2),(Fg f3),(Fg f4),(Fg f11),(Fg f10)⟩ Fb Fb Fb _ ?_;intro f5 w5 ways5 hL5 hb5 hl5 g5 nv hW5 f13 ⟨f1,f2,f3,f4,f11,f10⟩;refine Fz (by simp only[go_sem,K5,f13,f11,hwr];rfl) ?_;exact ih _ _ _ Fh ⟨i+1,nv,ways5,⟨(Fg f1),(Fg f2),(Fg f3),(Fg f4),Fb,Fb⟩,hW5,hL5,hb5,hl5,g.tr g5,by omega,rfl⟩
 ·rintro f w ⟨i,wv,ways,⟨f1,f2,f3,f4,f11,f10⟩,hW,hL,hbd,hwl,g⟩;have f0w:=f02.tr g;have hwlv:=hW.lenV;have hrow:Dj r facts a delta=some (BI r facts ways):=by unfold Dj;rw[hL];rfl
  have h1:=h1 _ hrow;have n1:aw.next≤w.next:=f0w.next;refine Fz (by simp only[go_sem,K5,Hw];rfl) ?_
  refine LK (fun n f w2=>∃k v,f.get 1=some fv∧f.get 4=some (.ptr aw.next 0)∧f.get 10=some wv∧f.get 18=some v∧f.get 19=some (.int .i64 (Fq k))∧Fcs (fun x=>aw.next≤x∧x<w2.next) w2 v (BI r facts (ways.take k))∧(BI r facts (ways.take k)=[]→v = .nilslice)∧(BI r facts (ways.take k)).length≤k∧(∀x∈BI r facts (ways.take k),x.2.length≤1000)∧Frm (fun _=>False) w w2∧k≤ways.length∧n=ways.length-k)
   (fun f w2=>∃v,f.get 18=some v∧Fcs (fun x=>aw.next≤x∧x<w2.next) w2 v (BI r facts ways)∧(BI r facts ways=[]→v = .nilslice)∧Frm (fun _=>False) w w2) ?_ ?_ ways.length
   ⟨0,.nilslice,(Fg f1),(Fg f4),(Fg f10),Fb,Fb,⟨[],.nil,.nil⟩,fun _=>rfl,by simp[BI],by simp[BI],Frm.refl _,Nat.zero_le _,rfl⟩
  ·rintro n f w2 ⟨k,v,f1,f4,f10,f18,f19,hO,hOn,hOl,hOx,g2,hk,rfl⟩ ih out;by_cases hlt:k<ways.length
   case neg =>
    obtain rfl:k=ways.length:=Fh;rw[List.take_length]at hO hOn;refine Lb 1000 (by simp only[go_sem,V5,f10,f19,hwlv,hlt];rfl) ?_;exact out _ _ _ ⟨v,(Fg f18),hO,hOn,g2⟩ rfl
   obtain⟨b,hb⟩:∃t,ways[k]? = some t:=⟨_,FB hlt⟩;have hbl:=hbd b (FI hb);have hwr:KZ .i64 (Fq k+1)=Fq (k+1):=Lh Fh
   have hrs:BI r facts (ways.take (k+1))=if Sz r facts b then OE (BI r facts (ways.take k)) (Tv r.head b)else BI r facts (ways.take k):=by
    rw[O7 hb];unfold BI;rw[List.foldl_append];rfl
   have f2w:=f0w.tr g2;obtain⟨wb,wo,wc,bv,T5,rfl,wl,hbv⟩:=(hW.frm g2).at hb;have cw:=c1'.frm (g.tr g2) fun h=>h;have k4:w2.load aw.next 0 4=some [.int .i64 (Fq r.head.kind),.str r.head.name,xv,xb]:=cw.all rfl;refine Fz (by simp only[go_sem,K5,V5,Hv,f1,f4,f10,f19,hwlv,hlt,k4,wl];rfl) ?_;refine K9 Ff Fe ?_;refine JqV C (r:=r) (T:=T) (hx0.frm f2w fun _ _ h=>h) (hf.frm f2w fun _ _ h=>h) hbv Fh hr.lt Fh hfx Fh fun w3 g3=>?_;cases hs:Sz r facts b with
   | false =>
    rw[hs]at hrs;have hrs:BI r facts (ways.take (k+1))=BI r facts (ways.take k):=hrs;have n3:=g3.next;refine Fz (by simp only[go_sem,K5,f19,hwr];rfl) ?_;exact ih _ _ _ Fh ⟨k+1,v,(Fg f1),(Fg f4),(Fg f10),(Fg f18),Fb,by rw[hrs];exact (Fcs.frm hO g3 fun _ _ h=>h).mono fun x hx=>⟨hx.1,by omega⟩,by rw[hrs];exact hOn,by rw[hrs];omega,by rw[hrs];exact hOx,g2.tr g3,by omega,rfl⟩
   | true =>
    rw[hs]at hrs;have hrs:BI r facts (ways.take (k+1))=OE (BI r facts (ways.take k)) (Tv r.head b):=hrs;have f3w:=f2w.tr g3;obtain⟨_,_,_,bv',T6,he,wl',hbv'⟩:=(hW.frm (g2.tr g3)).at hb;cases he;have k3:w3.load aw.next 0 3=some [.int .i64 (Fq r.head.kind),.str r.head.name,xv]:=by rw[(cw.frm g3 fun h=>h).load];rfl
    refine Fz (by simp only[go_sem,K5,Hu,f4,f10,f18,f19,hlt,k3,wl'];rfl) ?_;refine K9 Ff Fe ?_;refine Jk8 C (l:=r.head) (T:=T) ⟨xv,rfl,hxh.frm f3w fun _ _ h=>h⟩ hbv' Fh (by have:=hr.br.head;omega) fun w4 gs S q1 q2 q3=>?_;have g4:=(g2.tr g3).tr q2;have n4:=g4.next;have n3:=g3.next;have n34:=q2.next;have n2:=g2.next;have hgl:(Tv r.head b).2.length≤1000:=by show (r.head.args.map _).length≤_;rw[F9];have:=hr.br.head;omega
    refine K6 1000 Fe ?_;refine K9 Ff Fe ?_;refine JpC C (Fcs.frm hO (g3.tr q2) fun _ _ h=>h) hOn q1 Fh hOx hgl fun w5 v' p1 p2 p3=>?_;have n5:=p3.next;rw[←hrs]at p1 p2;refine Fz (by simp only[go_sem,K5,f19,hwr];rfl) ?_;refine ih _ _ _ Fh ⟨k+1,v',(Fg f1),(Fg f4),(Fg f10),Fb,Fb,Fcs.mono p1 fun x hx=>?_,p2,?_,?_,g4.tr p3,by omega,rfl⟩
    ·rcases hx with hx|hx|hx
     ·exact⟨hx.1,by omega⟩
     ·have:=q3 x hx;exact⟨by omega,by omega⟩
     ·exact⟨by omega,hx.2⟩
    ·rw[hrs];have:=QG (BI r facts (ways.take k)) (Tv r.head b);omega
    ·rw[hrs];intro x hx;rcases MG hx with hx|rfl
     ·exact hOx x hx
     ·exact hgl
  ·rintro f w2 ⟨v,f18,hO,hOn,g2⟩;refine Fz (by simp only[go_sem,K5,f18];rfl) ?_;refine K7 ⟨_,by simp only[go_sem,K5,Zm];rfl,?_⟩;exact h1 w2 v hO hOn (f0w.tr g2)
end
end Go.Proofs.YtegdcbdicpfbpaaGreatDoor
namespace Go.Proofs.YtegdcbdicpfbpaaGreatDoor.Rel
open Go.AE
variable {tab:Tab}
def cmpI (a b:Int):Int:=if a<b then -1 else if b<a then 1 else 0
def cmpL:List Int→List Int→Int
 | [],[]=>0
 | [],_::_=>-1
 | _::_,[]=>1
 | a::l,b::m=>if cmpI a b=0 then cmpL l m else cmpI a b
def rowC (l:List Int):List V:=l.map (V.int .i64)
inductive RowV (T:Nat→Prop) (w:AW):V→List Int→Prop
 | nil:RowV T w .nilslice []
 | blk {b n:Nat} {c:Cap} {l:List Int} {sh:Share} (hT:T b) (hb:b<w.next) (hx:w.heap.get b=some (.cells (rowC l) sh)) (ha:Al T w b sh) (hn:l.length=n):RowV T w (.slice b 0 n c) l
variable {T:Fw} {w:AW} {v:V} {l:List Int}
theorem RowV.mono {T':Fw}(h:RowV T w v l)(hs:∀x,T x→T' x):RowV T' w v l:=by
 cases h with
 | nil=>exact .nil
 | blk hT hb hx ha hn=>exact .blk (hs _ hT) hb hx (ha.mono hs) hn
theorem RowV.frm {S:Fw}{w':AW}(h:RowV T w v l)(hf:Frm S w w')(hd:∀x,T x→¬S x):RowV T w' v l:=by
 cases h with
 | nil=>exact .nil
 | blk hT hb hx ha hn=>exact .blk hT (FK hb hf.next) ((hf.heap _ hb (hd _ hT)).trans hx) (ha.frm hf hd) hn
theorem RowV.inv (h:RowV T w v l):(v = .nilslice∧l=[])∨∃b c,v = .slice b 0 l.length c∧T b∧b<w.next∧∃sh,w.heap.get b=some (.cells (rowC l) sh)∧Al T w b sh:=by
 cases h with
 | nil=>exact .inl ⟨rfl,rfl⟩
 | blk hT hb hx ha hn=>subst hn;exact .inr ⟨_,_,rfl,hT,hb,_,hx,ha⟩
theorem row_load {b i:Nat}{x:Int}(hx:∃sh,w.heap.get b=some (.cells (rowC l) sh)∧Al T w b sh)(hi:l[i]? = some x):w.load b (0+i*1) 1=some [.int .i64 x]:=by
 obtain⟨sh,hx,ha⟩:=hx;have hlt:i<l.length:=(List.getElem?_eq_some_iff.1 hi).1
 have e:(rowC l).drop i = .int .i64 x::(rowC l).drop (i+1):=by
  rw[FL (by simpa[rowC]using hlt)];rw[FB hlt]at hi;simp only[rowC,List.getElem_map,FY hi]
 simp only[AW.load,hx,ha.alive,FV,KC,e,Lr]
variable {a:Int} {aw:AW} {K:V→AW→Prop}
theorem JnB (C:Codes tab)(h:K (.bool false) aw):WF tab V1 [.int .i64 a] aw K:=by
 refine Ld C.Vu rfl ?_;have e:(a != a)=false:=Fj;refine Fz (by simp only[go_sem,K5,Vt,e];rfl) ?_;refine K7 ⟨_,by simp only[go_sem,K5,Vt];rfl,?_⟩;exact h
theorem JpW (C:Codes tab){b:Int}(h:K (.int .i64 (cmpI a b)) aw):WF tab GY [.int .i64 a,.int .i64 b] aw K:=by
 refine Ld C.Vl rfl ?_;refine Fz (by simp only[go_sem,K5,ZK];rfl) ?_;refine K9 Ff Fe ?_;refine JnB C ?_;refine K6 1000 Fe ?_;refine K9 Ff Fe ?_;refine JnB C ?_;by_cases h1:a<b
 ·rw[show cmpI a b = -1 from if_pos h1]at h;refine Fz (by simp only[go_sem,K5,h1];rfl) ?_;refine K7 ⟨_,by simp only[go_sem,K5,ZK];rfl,?_⟩;exact h
 ·by_cases h2:b<a
  ·rw[show cmpI a b=1 from by rw[cmpI,if_neg h1,if_pos h2]]at h;have h3:a>b:=h2;refine Fz (by simp only[go_sem,K5,h1,h3];rfl) ?_;refine K7 ⟨_,by simp only[go_sem,K5,ZK];rfl,?_⟩;exact h
  ·rw[show cmpI a b=0 from by rw[cmpI,if_neg h1,if_neg h2]]at h;have h3:¬a>b:=h2;refine Fz (by simp only[go_sem,K5,h1,h3];rfl) ?_;refine K7 ⟨_,by simp only[go_sem,K5,ZK];rfl,?_⟩;exact h
theorem Jm7:∀(l:List Int),cmpL l []=if 0<l.length then 1 else 0
 | []=>rfl
 | _::_=>rfl
variable {l1 l2:List Int}
theorem Jrn {i:Nat}{b:Int}(h1:l1[i]? = some a)(h2:l2[i]? = some b):cmpL (l1.drop i) (l2.drop i)=if cmpI a b=0 then cmpL (l1.drop (i+1)) (l2.drop (i+1))else cmpI a b:=by
 have k1:i<l1.length:=(List.getElem?_eq_some_iff.1 h1).1;have k2:i<l2.length:=(List.getElem?_eq_some_iff.1 h2).1;rw[FL k1,FL k2];rw[FB k1]at h1;rw[FB k2]at h2;rw[FY h1,FY h2];rfl
def JwQ (v1 v2:V) (l1 l2:List Int) (aw:AW) (q:Nat) (f:Fr) (w:AW):Prop :=
 ∃i,f.get 1=some v2∧f.get 9=some v1∧f.get 0=some v1∧f.get 10=some (.int .i64 (Fq l1.length))∧f.get 11=some (.int .i64 (Fq i))∧w=aw∧cmpL l1 l2=cmpL (l1.drop i) (l2.drop i)∧i≤l1.length∧i≤l2.length∧q=l1.length-i
theorem Jrp (C:Codes tab){U:Fw}{v1 v2:V}(r1:RowV T aw v1 l1)(r2:RowV U aw v2 l2)(hl1:l1.length≤1000)(hl2:l2.length≤1000)(h:K (.int .i64 (cmpL l1 l2)) aw):WF tab GS [v1,v2] aw K:=by
 refine Ld C.WM rfl ?_;rcases r1.inv with⟨rfl,rfl⟩|⟨b1,c1,rfl,_,_,hx1⟩
 ·rcases r2.inv with⟨rfl,rfl⟩|⟨b2,c2,rfl,_,_,hx2⟩
  ·refine Fz (by simp only[go_sem,K5,Jd];rfl) ?_;refine IQ ?_;refine Fz (by simp only[go_sem,K5,JA];rfl) ?_;refine K7 ⟨_,by simp only[go_sem,K5,Jd];rfl,?_⟩;exact h
  ·refine Fz (by simp only[go_sem,K5,Jd];rfl) ?_;refine IQ ?_;cases l2 with
   | nil =>
    refine Fz (by simp only[go_sem,K5,JA,FD];rfl) ?_;refine K7 ⟨_,by simp only[go_sem,K5,Jd];rfl,?_⟩;exact h
   | cons x l2 =>
    have e:0<(x::l2).length:=Fj;refine Fz (by simp only[go_sem,K5,JA,e];rfl) ?_;refine K7 ⟨_,by simp only[go_sem,K5,Jd];rfl,?_⟩;exact h
 rcases r2.inv with⟨rfl,rfl⟩|⟨b2,c2,rfl,_,_,hx2⟩
 ·rw[Jm7]at h;cases l1 with
  | nil =>
   refine Fz (by simp only[go_sem,K5,Jd,FD];rfl) ?_;refine IQ ?_;refine Fz (by simp only[go_sem,K5,JA,FD];rfl) ?_;refine K7 ⟨_,by simp only[go_sem,K5,Jd];rfl,?_⟩;exact h
  | cons x l1 =>
   have e:0<(x::l1).length:=Fj;rw[if_pos e]at h;refine Fz (by simp only[go_sem,K5,Jd];rfl) ?_;refine IQ ?_;have e1:=row_load hx1 (i:=0) (x:=x) rfl;refine Fz (by simp only[go_sem,K5,JA,WL,e,e1];rfl) ?_;refine K7 ⟨_,by simp only[go_sem,K5,Jd];rfl,?_⟩;exact h
 refine Fz (by simp only[go_sem,K5,Jd];rfl) ?_;refine Iq (JwQ _ _ l1 l2 aw) ?_ l1.length ⟨0,Fb,Fb,Fb,Fb,Fb,rfl,by simp,by omega,by omega,by omega⟩;rintro q f w ⟨i,f1,f9,f0,f10,f11,rfl,hc,hi1,hi2,rfl⟩ ih;by_cases hlt:i<l1.length
 ·have g1:l1[i]? = some l1[i]:=FB hlt;have e1:=row_load hx1 g1;by_cases hlt2:l2.length≤i
  ·have e2:cmpL l1 l2=1:=by
    rw[hc,List.drop_eq_nil_of_le hlt2,Jm7,if_pos (by rw[Ki];omega)]
   rw[e2]at h;refine Fz (by simp only[go_sem,K5,JA,WL,f1,f9,f10,f11,hlt,hlt2,e1];rfl) ?_;refine K7 ⟨_,by simp only[go_sem,K5,Jd];rfl,?_⟩;exact h
  ·have hlt3:i<l2.length:=Fh;have g2:l2[i]? = some l2[i]:=FB hlt3;have e2:=row_load hx2 g2;refine Fz (by simp only[go_sem,K5,JA,WL,f1,f9,f10,f11,hlt,hlt2,hlt3,e1,e2];rfl) ?_;refine K9 Ff Fe ?_;refine JpW C ?_;rw[Jrn g1 g2]at hc;by_cases hz:cmpI l1[i] l2[i]=0
   ·rw[if_pos hz]at hc;rw[hz];have hwr:KZ .i64 (Fq i+1)=Fq (i+1):=Lh Fh;have z0:((0:Int) != 0)=false:=rfl;refine Fz (by simp only[go_sem,K5,z0,f0,f1,f9,f10,f11,hwr];rfl) ?_;exact ih _ _ _ Fh ⟨i+1,(Fg f1),(Fg f9),(Fg f0),(Fg f10),Fb,rfl,hc,by omega,by omega,rfl⟩
   ·rw[if_neg hz]at hc;rw[hc]at h;have z0:(cmpI l1[i] l2[i] != 0)=true:=by simp[hz]
    refine Fz (by simp only[go_sem,K5,z0,f0,f1,f9,f10,f11];rfl) ?_;refine K7 ⟨_,by simp only[go_sem,K5,Jd];rfl,?_⟩;exact h
 ·have hie:i=l1.length:=Fh
  have hc2:cmpL l1 l2=if l1.length<l2.length then -1 else 0:=by
   rw[hc,List.drop_eq_nil_of_le (by omega:l1.length≤i)];by_cases h2:l1.length<l2.length
   ·rw[if_pos h2,hie,FL h2];rfl
   ·rw[if_neg h2,List.drop_eq_nil_of_le Fh];rfl
  rw[hc2]at h;by_cases h2:l1.length<l2.length
  ·rw[if_pos h2]at h;refine Fz (by simp only[go_sem,K5,JA,f0,f1,f9,f10,f11,hlt,h2];rfl) ?_;refine K7 ⟨_,by simp only[go_sem,K5,Jd];rfl,?_⟩;exact h
  ·rw[if_neg h2]at h;refine Fz (by simp only[go_sem,K5,JA,f0,f1,f9,f10,f11,hlt,h2];rfl) ?_;refine K7 ⟨_,by simp only[go_sem,K5,Jd];rfl,?_⟩;exact h
theorem Jnk (C:Codes tab){U:Fw}{v1 v2:V}(r1:RowV T aw v1 l1)(r2:RowV U aw v2 l2)(hl1:l1.length≤1000)(hl2:l2.length≤1000)(h:K (.int .i64 (cmpL l1 l2)) aw):WF tab YM [v1,v2] aw K:=by
 refine Ld C.WK rfl ?_;refine Fz (by simp only[go_sem,K5,WJ];rfl) ?_;refine K9 Ff Fe ?_;refine Jrp C r1 r2 hl1 hl2 ?_;refine K6 1000 Fe ?_;refine K7 ⟨_,by simp only[go_sem,K5,WJ];rfl,?_⟩;exact h
section
open Go.AE
variable {tab:Tab}
variable {b:Int}
theorem cmpI_zero:cmpI a b=0↔a=b:=by
 unfold cmpI;split
 ·constructor<;>intro h<;>omega
 ·split
  ·constructor<;>intro h<;>omega
  ·constructor<;>intro h<;>omega
theorem JsS:cmpI a b<0↔a<b:=by
 unfold cmpI;split
 ·constructor<;>intro h<;>omega
 ·split
  ·constructor<;>intro h<;>omega
  ·constructor<;>intro h<;>omega
theorem RD {m:List Int}:cmpL (a::l) (b::m)<0↔a<b∨(a=b∧cmpL l m<0):=by
 simp only[cmpL];by_cases h:cmpI a b=0
 ·rw[if_pos h];have:=cmpI_zero.1 h;constructor
  ·intro h';exact .inr ⟨this,h'⟩
  ·rintro (h'|h')
   ·omega
   ·exact h'.2
 ·rw[if_neg h,JsS];constructor
  ·exact .inl
  ·rintro (h'|h')
   ·exact h'
   ·exact absurd (cmpI_zero.2 h'.1) h
theorem Ea:∀{a b c:List Int},cmpL a b<0→cmpL b c<0→cmpL a c<0
 | a,b,[],h1,h2=>by cases b<;>simp[cmpL]at h2
 | [],b,_::_,h1,h2=>by simp[cmpL]
 | x::a,[],_::_,h1,h2=>by simp[cmpL]at h1
 | x::a,y::b,z::c,h1,h2=>by
  rw[RD]at h1 h2 ⊢;rcases h1 with h1|⟨h1,h1'⟩<;>rcases h2 with h2|⟨h2,h2'⟩
  ·left;omega
  ·left;omega
  ·left;omega
  ·right;exact⟨by omega,Ea h1' h2'⟩
theorem cmpL_zero:∀{a b:List Int},cmpL a b=0↔a=b
 | [],[]=>by simp[cmpL]
 | [],_::_=>by simp[cmpL]
 | _::_,[]=>by simp[cmpL]
 | x::a,y::b=>by
  simp only[cmpL];by_cases h:cmpI x y=0
  ·rw[if_pos h,cmpL_zero];have:=cmpI_zero.1 h;subst this;simp
  ·rw[if_neg h];have:x≠y:=fun e=>h (cmpI_zero.2 e);simp[h,this]
theorem JkF:∀{a b:List Int},cmpL a b<0∨a=b∨cmpL b a<0
 | [],[]=>by simp
 | [],_::_=>by simp[cmpL]
 | _::_,[]=>by simp[cmpL]
 | x::a,y::b=>by
  rw[RD,RD];rcases JkF (a:=a) (b:=b)with h|h|h
  ·by_cases e:x=y
   ·exact .inl (.inr ⟨e,h⟩)
   ·by_cases e2:x<y
    ·exact .inl (.inl e2)
    ·exact .inr (.inr (.inl Fh))
  ·by_cases e:x=y
   ·exact .inr (.inl (by rw[e,h]))
   ·by_cases e2:x<y
    ·exact .inl (.inl e2)
    ·exact .inr (.inr (.inl Fh))
  ·by_cases e:x=y
   ·exact .inr (.inr (.inr ⟨e.symm,h⟩))
   ·by_cases e2:x<y
    ·exact .inl (.inl e2)
    ·exact .inr (.inr (.inl Fh))
theorem Jro {a:List Int}:¬cmpL a a<0:=by rw[cmpL_zero.2 rfl];omega
abbrev Rise (rows:Fy):Prop:=rows.Pairwise fun a b=>cmpL a b<0
def posn (rows:Fy) (r:List Int):Nat:=(rows.takeWhile fun x=>decide (cmpL x r<0)).length
theorem Jlu (rows:Fy)(r:List Int):posn rows r≤rows.length:=(List.takeWhile_sublist _).length_le
theorem Jpv:∀{rows:Fy} {r:List Int} {i:Nat},i≤rows.length→(∀(j:Nat) x,j<i→rows[j]? = some x→cmpL x r<0)→(∀x,rows[i]? = some x→¬cmpL x r<0)→posn rows r=i
 | [],r,i,hi,h1,h2=>by simp[posn];simp at hi;omega
 | x::rows,r,0,hi,h1,h2=>by
  have:=h2 x rfl;simp[posn,this]
 | x::rows,r,i+1,hi,h1,h2=>by
  have hx:=h1 0 x Fh rfl;have:=Jpv (rows:=rows) (r:=r) (i:=i) (by simpa using hi) (fun j y hj hy=>h1 (j+1) y Fh (by simpa using hy)) (fun y hy=>h2 y (by simpa using hy));simp only[posn,List.takeWhile_cons,hx,decide_true,if_true,FC]at this ⊢;rw[this]
variable {rows:Fy} {r:List Int}
theorem JtD (hr:Rise rows){i:Nat}(hi:i≤rows.length)(h1:∀(j:Nat) x,j<i→rows[j]? = some x→cmpL x r<0)(h2:∀x,rows[i]? = some x→¬cmpL x r<0):(r∈rows)↔rows[i]? = some r:=by
 constructor
 ·intro hm;obtain⟨k,hk,e⟩:=List.mem_iff_getElem.1 hm;have e':rows[k]? = some r:=by rw[FB hk,e]
  have a1:¬k<i:=fun hlt=>Jro (h1 k r hlt e');rcases KG i k with a2|a2
  ·have hi':i<rows.length:=Fh;have:=List.pairwise_iff_getElem.1 hr i k hi' hk a2;rw[e]at this;exact absurd this (h2 _ (FB hi'))
  ·have:k=i:=Fh;rw[←this];exact e'
 ·intro h;exact FI h
def RowsV (T:Fw) (w:AW) (cs:List V) (rows:Fy):Prop:=cs.length=rows.length∧∀(i:Nat) v l,cs[i]? = some v→rows[i]? = some l→RowV T w v l
variable {cs:List V}
theorem RowsV.mono {T':Fw}(h:RowsV T w cs rows)(hs:∀x,T x→T' x):RowsV T' w cs rows:=⟨h.1,fun i v l h1 h2=>(h.2 i v l h1 h2).mono hs⟩
theorem RowsV.frm {S:Fw}{w':AW}(h:RowsV T w cs rows)(hf:Frm S w w')(hd:∀x,T x→¬S x):RowsV T w' cs rows:=⟨h.1,fun i v l h1 h2=>(h.2 i v l h1 h2).frm hf hd⟩
theorem RowsV.at (h:RowsV T w cs rows){i:Nat}(hi:rows[i]? = some l):∃v,cs[i]? = some v∧RowV T w v l:=by
 have hlt:i<cs.length:=by rw[h.1];exact (List.getElem?_eq_some_iff.1 hi).1
 exact⟨cs[i],FB hlt,h.2 i _ _ (FB hlt) hi⟩
theorem Jub {n:Nat}(h:n<18446744073709551616):KZ .u64 (Fq n)=Fq n:=by
 have e:Fq n=(n:Int):=rfl;have h1:KZ .u64 (Fq n)=(Fq n) % 18446744073709551616:=by simp[KZ,IntKind.bits,IntKind.signed]
 rw[h1,e];omega
theorem Jvq {n:Nat}:AJ .shr .u64 (Fq n) 1=some (.int .u64 (Fq (n / 2))):=by
 have e:(Fq n).fdiv (2 ^ (min (1:Int).toNat (IntKind.bits .u64)))=Fq (n / 2):=by
  show Int.fdiv (n:Int) 2=((n / 2:Nat):Int);rw[Int.fdiv_eq_ediv_of_nonneg _ Fh];omega
 simp only[AJ,e];rfl
def JwP (n:Nat) (rows:Fy) (lv rv:V) (r:List Int) (aw:AW) (q:Nat) (f:Fr) (w:AW):Prop :=
 ∃i j,f.get 0=some lv∧f.get 1=some rv∧f.get 2=some (.func (.func YM) [] [])∧f.get 8=some (.int .i64 (Fq n))∧f.get 9=some (.int .i64 (Fq i))∧f.get 10=some (.int .i64 (Fq j))∧w=aw∧i≤j∧j≤n∧q=j-i∧
  (∀(k:Nat) x,k<i→rows[k]? = some x→cmpL x r<0)∧(∀(k:Nat) x,j≤k→rows[k]? = some x→¬cmpL x r<0)
theorem Jmh (C:Codes tab){S U:Fw}{lv rv:V}(hb:Buf S aw lv 1 rows.length cs)(hv:RowsV T aw cs rows)(hr:RowV U aw rv r)(hrise:Rise rows)(hn:rows.length≤1000000)(hlen:∀x∈rows,x.length≤1000)(hlr:r.length≤1000)(h:K (.tuple [.int .i64 (Fq (posn rows r)),.bool (decide (r∈rows))]) aw):WF tab GR [lv,rv,.func (.func YM) [] []] aw K:=by
 refine Ld C.WI rfl ?_;rcases hb.inv with⟨rfl,h0,hc⟩|⟨b,rfl,_,_⟩
 ·have:rows=[]:=List.length_eq_zero_iff.1 h0;subst this;refine Fz (by simp only[go_sem,K5,Zc];rfl) ?_;refine IQ ?_;refine Fz (by simp only[go_sem,K5,Yv];rfl) ?_;refine K7 ⟨_,by simp only[go_sem,K5,Zc];rfl,?_⟩;have e:posn [] r=0:=rfl;have e2:decide (r∈([]:Fy))=false:=Fj;rw[e,e2]at h;exact h
 refine Fz (by simp only[go_sem,K5,Zc];rfl) ?_;refine Iq (JwP rows.length rows (.slice b 0 rows.length (.upTo 1)) rv r aw) ?_ rows.length ⟨0,rows.length,Fb,Fb,Fb,Fb,Fb,Fb,rfl,by omega,by omega,by omega,?_,?_⟩
 ·rintro q f w ⟨i,j,f0,f1,f2,f8,f9,f10,rfl,hij,hjn,rfl,hl,hg⟩ ih;by_cases hlt:i<j
  ·have w1:KZ .i64 (Fq i+Fq j)=Fq (i+j):=M5 Fh;have w2:KZ .u64 (Fq (i+j))=Fq (i+j):=Jub Fh;have w3:KZ .i64 (Fq ((i+j) / 2))=Fq ((i+j) / 2):=Iw (by have:Fq ((i+j) / 2)=(((i+j) / 2:Nat):Int):=rfl;omega) (by have:Fq ((i+j) / 2)=(((i+j) / 2:Nat):Int):=rfl;omega);have hh:(i+j) / 2<rows.length:=Fh;have g1:rows[(i+j) / 2]? = some rows[(i+j) / 2]:=FB hh;obtain⟨v,g2,g3⟩:=hv.at g1;have e1:=hb.load1 g2;refine Fz (by simp only[go_sem,K5,Yv,JaI,f0,f1,f2,f8,f9,f10,hlt,w1,w2,w3,Jvq,hh,e1];rfl) ?_;refine K9 Ff Fe ?_;refine Jnk C g3 hr (hlen _ (FI g1)) hlr ?_;by_cases hc:cmpL rows[(i+j) / 2] r<0
   ·have w4:KZ .i64 (Fq ((i+j) / 2)+1)=Fq ((i+j) / 2+1):=Lh Fh;refine Fz (by simp only[go_sem,K5,hc,w4];rfl) ?_;refine ih (j-((i+j) / 2+1)) _ _ Fh ⟨(i+j) / 2+1,j,(Fg f0),(Fg f1),(Fg f2),(Fg f8),Fb,(Fg f10),rfl,by omega,hjn,rfl,?_,hg⟩;intro k x hk hx;by_cases hki:k<i
    ·exact hl k x hki hx
    ·by_cases hke:k=(i+j) / 2
     ·subst hke;rw[g1]at hx;cases hx;exact hc
     ·have hkl:=(List.getElem?_eq_some_iff.1 hx).1;have:=List.pairwise_iff_getElem.1 hrise k _ hkl hh Fh;rw[FB hkl]at hx;cases hx;exact Ea this hc
   ·refine Fz (by simp only[go_sem,K5,hc];rfl) ?_;refine ih ((i+j) / 2-i) _ _ Fh ⟨i,(i+j) / 2,(Fg f0),(Fg f1),(Fg f2),(Fg f8),(Fg f9),Fb,rfl,by omega,by omega,rfl,hl,?_⟩;intro k x hk hx;by_cases hke:k=(i+j) / 2
    ·subst hke;rw[g1]at hx;cases hx;exact hc
    ·have hkl:=(List.getElem?_eq_some_iff.1 hx).1;have:=List.pairwise_iff_getElem.1 hrise _ k hh hkl Fh;rw[FB hkl]at hx;cases hx;exact fun hx=>hc (Ea this hx)
  ·have:i=j:=Fh;subst this;have hp:posn rows r=i:=Jpv hjn hl (fun x hx=>hg i x (FH _) hx);have hm:=JtD hrise hjn hl (fun x hx=>hg i x (FH _) hx);rw[hp]at h;by_cases hin:i<rows.length
   ·have g1:rows[i]? = some rows[i]:=FB hin;obtain⟨v,g2,g3⟩:=hv.at g1;have e1:=hb.load1 g2;refine Fz (by simp only[go_sem,K5,Yv,f0,f1,f2,f8,f9,f10,hlt,hin,e1];rfl) ?_;refine K9 Ff Fe ?_;refine Jnk C g3 hr (hlen _ (FI g1)) hlr ?_
    have e3:(cmpL rows[i] r==0)=decide (r∈rows):=by
     rw[show (cmpL rows[i] r==0)=decide (cmpL rows[i] r=0)from rfl]
     congr 1
     rw[cmpL_zero,hm,g1];simp
    refine Fz (by simp only[go_sem,K5,e3,f0,f1,f2,f8,f9,f10];rfl) ?_;refine K7 ⟨_,by simp only[go_sem,K5,Zc];rfl,?_⟩;exact h
   ·have e3:decide (r∈rows)=false:=by
     rw[decide_eq_false_iff_not,hm,List.getElem?_eq_none Fh];simp
    rw[e3]at h;refine Fz (by simp only[go_sem,K5,Yv,f0,f1,f2,f8,f9,f10,hlt,hin];rfl) ?_;refine K7 ⟨_,by simp only[go_sem,K5,Zc];rfl,?_⟩;exact h
 ·intro k x hk;omega
 ·intro k x hk hx;have:=(List.getElem?_eq_some_iff.1 hx).1;omega
end
end Go.Proofs.YtegdcbdicpfbpaaGreatDoor.Rel
