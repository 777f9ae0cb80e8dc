/- A part of the proof. -/
import Derived.Test.YtegdcbdicpfbpaaGreatDoorJdS
open Int renaming ofNat → Fq
open Go.IntKind renaming wrap → KZ
set_option linter.unusedVariables false
set_option maxRecDepth 10000
set_option linter.unusedSimpArgs false
namespace Go.Proofs.YtegdcbdicpfbpaaGreatDoor
open Go.AE Delphi Val
def I4 (l:List Fc):Prop:=l.Pairwise fun a b=>Ov a b=true
def O9 (l:List Fc):Prop:=∀f∈l,Ig f
theorem JlV:∀{a b:List Fc},I4 a→I4 b→(∀f,f∈a↔f∈b)→a=b
 | [],[],_,_,_=>rfl
 | [],y::b,_,_,h=>by have:=(h y).2 Fj;simp at this
 | x::a,[],_,_,h=>by have:=(h x).1 Fj;simp at this
 | x::a,y::b,ha,hb,h=>by
  obtain⟨ha1,ha2⟩:=List.pairwise_cons.1 ha;obtain⟨hb1,hb2⟩:=List.pairwise_cons.1 hb
  have hxy:x=y:=by
   rcases List.mem_cons.1 ((h x).1 Fj)with h1|h1
   ·exact h1
   ·rcases List.mem_cons.1 ((h y).2 Fj)with h2|h2
    ·exact h2.symm
    ·have:=Jni (ha1 y h2) (hb1 x h1);rw[Nh]at this;cases this
  subst hxy;rw[JlV ha2 hb2 fun f=>?_];constructor
  ·intro hf;rcases List.mem_cons.1 ((h f).1 (FO _ hf))with rfl|h1
   ·have:=ha1 f hf;rw[Nh]at this;cases this
   ·exact h1
  ·intro hf;rcases List.mem_cons.1 ((h f).2 (FO _ hf))with rfl|h1
   ·have:=hb1 f hf;rw[Nh]at this;cases this
   ·exact h1
theorem Juv (l:List Fc)(f:Fc):OM l f≤l.length:=(List.takeWhile_sublist _).length_le
variable {l:List Fc} {f x:Fc}
theorem Juw {j:Nat}(hj:j<OM l f)(hx:l[j]? = some x):Ov x f=true:=by
 unfold OM at hj
 have:∀(l:List Fc) (j:Nat),j<(l.takeWhile fun x=>Ov x f).length→l[j]? = some x→Ov x f=true:=by
  intro l;induction l with
  | nil=>intro j h _;simp at h
  | cons a l ih =>
   intro j h hx;rw[List.takeWhile_cons]at h;cases ha:Ov a f with
   | false=>rw[ha]at h;simp at h
   | true =>
    rw[ha]at h;cases j with
    | zero=>simp at hx;subst hx;exact ha
    | succ j =>
     simp only[if_true,FC]at h;exact ih j Fh (by simpa using hx)
 exact this l j hj hx
theorem JsI (hx:l[OM l f]? = some x):Ov x f=false:=by
 unfold OM at hx
 have:∀(l:List Fc),l[(l.takeWhile fun x=>Ov x f).length]? = some x→Ov x f=false:=by
  intro l;induction l with
  | nil=>intro h;simp at h
  | cons a l ih =>
   intro h;rw[List.takeWhile_cons]at h;cases ha:Ov a f with
   | false=>rw[ha]at h;simp at h;subst h;exact ha
   | true=>rw[ha]at h;exact ih (by simpa using h)
 exact this l hx
theorem JmS (hl:O9 l)(hf:Ig f):x∈OE l f↔x∈l∨x=f:=by
 refine⟨MG,fun h=>?_⟩;unfold OE;cases ha:I5 l f with
 | true =>
  rw[if_pos rfl];rcases h with h|rfl
  ·exact h
  ·unfold I5 at ha;cases hk:l[OM l x]? with
   | none=>rw[hk]at ha;cases ha
   | some y =>
    rw[hk]at ha;have hy:=FI hk;rw[←(Eb (hl y hy) hf).1 ha];exact hy
 | false =>
  rw[if_neg Fj];rcases h with h|rfl
  ·have:x∈l.take (OM l f)++l.drop (OM l f):=by rw[List.take_append_drop];exact h
   rcases List.mem_append.1 this with h1|h1
   ·exact List.mem_append_left _ h1
   ·exact List.mem_append_right _ (FO _ h1)
  ·exact List.mem_append_right _ Fj
theorem JmR (hl:O9 l)(hf:Ig f):O9 (OE l f):=fun x hx=>by
 rcases MG hx with h|rfl
 ·exact hl x h
 ·exact hf
theorem JlC (hl:O9 l)(hf:Ig f)(hs:I4 l):I4 (OE l f):=by
 unfold OE;cases ha:I5 l f with
 | true=>rw[if_pos rfl];exact hs
 | false =>
  rw[if_neg Fj];have hk:=Juv l f
  have h1:∀x∈l.take (OM l f),Ov x f=true:=by
   intro x hx;obtain⟨j,hj⟩:=List.getElem?_of_mem hx;have hjl:=(List.getElem?_eq_some_iff.1 hj).1;rw[FU]at hjl;rw[Kt Fh]at hj;exact Juw Fh hj
  have h2:∀x∈l.drop (OM l f),Ov f x=true:=by
   have hd:∀y,l[OM l f]? = some y→Ov f y=true:=by
    intro y hy;have hn:=JsI hy;cases hfy:Ov f y with
    | true=>rfl
    | false =>
     have:=Jpa (hl y (FI hy)) hf hn hfy;subst this;unfold I5 at ha;rw[hy]at ha;simp only at ha;rw[(Eb hf hf).2 rfl]at ha;cases ha
   intro x hx;obtain⟨j,hj⟩:=List.getElem?_of_mem hx;rw[Kr]at hj;have hjl:=(List.getElem?_eq_some_iff.1 hj).1;have hkl:OM l f<l.length:=Fh;have hy:=hd _ (FB hkl);by_cases h0:j=0
   ·subst h0;rw[KF,FB hkl]at hj;rw[←FY hj];exact hy
   ·have:=List.pairwise_iff_getElem.1 hs (OM l f) (OM l f+j) hkl hjl Fh;rw[FB hjl]at hj;rw[FY hj]at this;exact Jni hy this
  unfold I4;rw[List.pairwise_append,List.pairwise_cons];refine⟨hs.sublist (List.take_sublist _ _),⟨h2,hs.sublist (List.drop_sublist _ _)⟩,fun a ha b hb=>?_⟩;rcases List.mem_cons.1 hb with rfl|hb
  ·exact h1 a ha
  ·exact Jni (h1 a ha) (h2 b hb)
def agB (bs:List Bn) (σ:Sg):Prop:=∀v c,OG v bs=some c→σ v=c
theorem A9 (v n:List Nat)(c:Tk):∀(bs:List Bn),OG v (bs++[(n,c)])=match OG v bs with|some d=>some d|none=>if n=v then some c else none
 | []=>by
  simp only[List.nil_append,OG,eqL_iff]
 | b::bs=>by
  simp only[List.cons_append,OG];by_cases h:eqL b.1 v=true
  ·rw[if_pos h,if_pos h]
  ·rw[if_neg h,if_neg h];exact A9 v n c bs
theorem Ni (σ:Sg):∀(ts:List Tm) (cs:List Tk) (bs:List Bn),ts.length=cs.length→((agB bs σ∧ts.map (Oh σ)=cs)↔∃o,Bi ts cs bs=some o∧agB o σ)
 | [],cs,bs,hl=>by
  have:cs=[]:=List.length_eq_zero_iff.1 hl.symm;subst this;simp[Bi]
 | t::ts,[],bs,hl=>by simp at hl
 | t::ts,c::cs,bs,hl=>by
  have hl':ts.length=cs.length:=by simpa using hl
  unfold Bi;simp only[Kv,List.cons.injEq];cases hw:TF t bs with
  | none =>
   simp only;rw[←Ni σ ts cs _ hl']
   have hk:t.kind=1:=by
    unfold TF at hw;by_cases hk:t.kind=1
    ·exact hk
    ·rw[if_neg hk]at hw;cases hw
   unfold TF at hw;rw[if_pos hk]at hw;have ha:Oh σ t=σ t.name:=if_pos hk;rw[ha]
   have:agB (bs++[(t.name,c)]) σ↔agB bs σ∧σ t.name=c:=by
    constructor
    ·intro h;refine⟨fun v d hv=>h v d (by rw[A9,hv]),h t.name c (by rw[A9,hw];simp)⟩
    ·rintro⟨h1,h2⟩ v d hv;rw[A9]at hv;cases hb:OG v bs with
     | some e=>rw[hb]at hv;cases hv;exact h1 v _ hb
     | none =>
      rw[hb]at hv;simp only at hv;split at hv
      ·rename_i he;cases hv;rw[←he];exact h2
      ·cases hv
   rw[this];constructor
   ·rintro⟨h1,h2,h3⟩;exact⟨⟨h1,h2⟩,h3⟩
   ·rintro⟨⟨h1,h2⟩,h3⟩;exact⟨h1,h2,h3⟩
  | some u =>
   simp only
   have ha:agB bs σ→Oh σ t=u:=by
    intro h;unfold TF at hw;unfold Oh;by_cases hk:t.kind=1
    ·rw[if_pos hk]at hw ⊢;exact h _ _ hw
    ·rw[if_neg hk]at hw ⊢;exact FY hw
   rw[Eo];by_cases huc:u=c
   ·rw[decide_eq_true huc,if_pos rfl,←Ni σ ts cs bs hl'];constructor
    ·rintro⟨h1,_,h3⟩;exact⟨h1,h3⟩
    ·rintro⟨h1,h3⟩;exact⟨h1,(ha h1).trans huc,h3⟩
   ·rw[decide_eq_false huc,if_neg Fj];constructor
    ·rintro⟨h1,h2,_⟩;exact absurd ((ha h1).symm.trans h2) huc
    ·rintro⟨_,h,_⟩;cases h
theorem Jll:∀(ts:List Tm) (cs:List Tk) (bs o:List Bn),ts.length=cs.length→Bi ts cs bs=some o→∀v,(∃c,OG v o=some c)↔((∃c,OG v bs=some c)∨∃t∈ts,t.kind=1∧t.name=v)
 | [],cs,bs,o,hl,h=>by
  have:cs=[]:=List.length_eq_zero_iff.1 hl.symm;subst this;simp only[Bi,FQ]at h;subst h;intro v;simp
 | t::ts,[],bs,o,hl,h=>by simp at hl
 | t::ts,c::cs,bs,o,hl,h=>by
  have hl':ts.length=cs.length:=by simpa using hl
  unfold Bi at h;intro v;cases hw:TF t bs with
  | none =>
   rw[hw]at h;simp only at h;rw[Jll ts cs _ o hl' h v,A9]
   have hk:t.kind=1:=by
    unfold TF at hw;by_cases hk:t.kind=1
    ·exact hk
    ·rw[if_neg hk]at hw;cases hw
   constructor
   ·rintro (⟨d,hd⟩|⟨u,hu,h3⟩)
    ·cases hb:OG v bs with
     | some e=>exact .inl ⟨e,rfl⟩
     | none =>
      rw[hb]at hd;simp only at hd;split at hd
      ·rename_i he;exact .inr ⟨t,by simp,hk,he⟩
      ·cases hd
    ·exact .inr ⟨u,FO _ hu,h3⟩
   ·rintro (⟨d,hd⟩|⟨u,hu,h3⟩)
    ·exact .inl ⟨d,by rw[hd]⟩
    ·rcases List.mem_cons.1 hu with rfl|hu
     ·left;cases hb:OG v bs with
      | some e=>exact⟨e,rfl⟩
      | none=>exact⟨c,by simp only;rw[if_pos h3.2]⟩
     ·exact .inr ⟨u,hu,h3⟩
  | some u =>
   rw[hw]at h;simp only at h;split at h
   ·rw[Jll ts cs bs o hl' h v];constructor
    ·rintro (h1|⟨x,hx,h3⟩)
     ·exact .inl h1
     ·exact .inr ⟨x,FO _ hx,h3⟩
    ·rintro (h1|⟨x,hx,h3⟩)
     ·exact .inl h1
     ·rcases List.mem_cons.1 hx with rfl|hx
      ·unfold TF at hw;rw[if_pos h3.1,h3.2]at hw;exact .inl ⟨u,hw⟩
      ·exact .inr ⟨x,hx,h3⟩
   ·cases h
def EA (facts delta:List Fc) (a:Int) (body:List Lt) (i:Nat) (σ:Sg):Prop:=∀j l,body[j]? = some l→l.kind=1→(l.name,l.args.map (Oh σ))∈(if Fq (i+j)=a then delta else facts)
def CK (body:List Lt) (v:List Nat):Prop:=∃l∈body,l.kind=1∧∃t∈l.args,t.kind=1∧t.name=v
variable {ov:List Fc} {ways:List (List Bn)}
theorem Jta (σ:Sg){l:Lt}:(∃o∈OA l ov ways,agB o σ)↔((∃b∈ways,agB b σ)∧(l.name,l.args.map (Oh σ))∈ov):=by
 unfold OA TL;constructor
 ·rintro⟨o,ho,ha⟩;obtain⟨b,hb,ho⟩:=List.mem_flatMap.1 ho;obtain⟨f,hf,ho⟩:=List.mem_filterMap.1 ho;unfold IJ at ho;split at ho
  ·rename_i hc;obtain⟨h1,h2⟩:=(Ni σ l.args f.2 b hc.2).2 ⟨o,ho,ha⟩;refine⟨⟨b,hb,h1⟩,?_⟩;have:(l.name,l.args.map (Oh σ))=f:=by rw[h2,eqL_iff.1 hc.1]
   rw[this];exact hf
  ·cases ho
 ·rintro⟨⟨b,hb,h1⟩,hf⟩;obtain⟨o,ho,ha⟩:=(Ni σ l.args (l.args.map (Oh σ)) b (F9 ..).symm).1 ⟨h1,rfl⟩;refine⟨o,List.mem_flatMap.2 ⟨b,hb,List.mem_filterMap.2 ⟨_,hf,?_⟩⟩,ha⟩;unfold IJ;rw[if_pos ⟨eqL_iff.2 rfl,(F9 ..).symm⟩];exact ho
theorem Js9 {l:Lt}{P:List Nat→Prop}(h:∀b∈ways,∀v,(∃c,OG v b=some c)↔P v):∀o∈OA l ov ways,∀v,(∃c,OG v o=some c)↔(P v∨∃t∈l.args,t.kind=1∧t.name=v):=by
 intro o ho v;unfold OA TL at ho;obtain⟨b,hb,ho⟩:=List.mem_flatMap.1 ho;obtain⟨f,hf,ho⟩:=List.mem_filterMap.1 ho;unfold IJ at ho;split at ho
 ·rename_i hc;rw[Jll l.args f.2 b o hc.2 ho v,h b hb v]
 ·cases ho
theorem Jkx {facts delta:List Fc}{a:Int}:∀(body:List Lt) (i:Nat) (ws out:List (List Bn)) (P:List Nat→Prop),Tt facts delta a body i ws=some out→(∀b∈ws,∀v,(∃c,OG v b=some c)↔P v)→ (∀σ,(∃b∈out,agB b σ)↔((∃b∈ws,agB b σ)∧EA facts delta a body i σ))∧(∀b∈out,∀v,(∃c,OG v b=some c)↔(P v∨CK body v))
 | [],i,ws,out,P,h,hd=>by
  simp only[Tt,FQ]at h;subst h;exact⟨fun σ=>⟨fun hb=>⟨hb,fun j l hj=>by simp at hj⟩,fun hb=>hb.1⟩,fun b hb v=>by rw[hd b hb v];simp[CK]⟩
 | l::body,i,ws,out,P,h,hd=>by
  have split':∀σ,EA facts delta a (l::body) i σ↔((l.kind=1→(l.name,l.args.map (Oh σ))∈(if Fq i=a then delta else facts))∧EA facts delta a body (i+1) σ):=by
   intro σ;constructor
   ·intro hs;refine⟨fun hk=>by have:=hs 0 l rfl hk;rwa [KF]at this,fun j m hj hk=>?_⟩;have:=hs (j+1) m (by simpa using hj) hk
    rwa [show i+(j+1)=i+1+j by omega]at this
   ·rintro⟨h1,h2⟩ j m hj hk;cases j with
    | zero=>simp at hj;subst hj;rw[KF];exact h1 hk
    | succ j =>
     rw[show i+(j+1)=i+1+j by omega];exact h2 j m (by simpa using hj) hk
  have vsp:∀v,CK (l::body) v↔((l.kind=1∧∃t∈l.args,t.kind=1∧t.name=v)∨CK body v):=by
   intro v;unfold CK;simp only[FJ,exists_eq_or_imp]
  unfold Tt at h;by_cases hk:l.kind=1
  ·rw[if_pos hk]at h;by_cases hq:4000<(OA l (if Fq i=a then delta else facts) ws).length
   ·rw[if_pos hq]at h;cases h
   ·rw[if_neg hq]at h;obtain⟨h1,h2⟩:=Jkx body (i+1) _ out _ h (Js9 hd);refine⟨fun σ=>?_,fun b hb v=>?_⟩
    ·rw[h1 σ,Jta,split' σ];constructor
     ·rintro⟨⟨q1,q2⟩,q3⟩;exact⟨q1,fun _=>q2,q3⟩
     ·rintro⟨q1,q2,q3⟩;exact⟨⟨q1,q2 hk⟩,q3⟩
    ·rw[h2 b hb v,vsp v];constructor
     ·rintro ((q|q)|q)
      ·exact .inl q
      ·exact .inr (.inl ⟨hk,q⟩)
      ·exact .inr (.inr q)
     ·rintro (q|⟨_,q⟩|q)
      ·exact .inl (.inl q)
      ·exact .inl (.inr q)
      ·exact .inr q
  ·rw[if_neg hk]at h;obtain⟨h1,h2⟩:=Jkx body (i+1) ws out P h hd;refine⟨fun σ=>?_,fun b hb v=>?_⟩
   ·rw[h1 σ,split' σ];constructor
    ·rintro⟨q1,q3⟩;exact⟨q1,fun q=>absurd q hk,q3⟩
    ·rintro⟨q1,_,q3⟩;exact⟨q1,q3⟩
   ·rw[h2 b hb v,vsp v];constructor
    ·rintro (q|q)
     ·exact .inl q
     ·exact .inr (.inr q)
    ·rintro (q|⟨q,_⟩|q)
     ·exact .inl q
     ·exact absurd q hk
     ·exact .inr q
theorem R8 {r:Rl}{facts:List Fc}:∀(ws:List (List Bn)) (o:List Fc),O9 o→I4 o→(∀b∈ws,Sz r facts b=true→Ig (Tv r.head b))→ let out:=ws.foldl (fun o b=>if Sz r facts b then OE o (Tv r.head b)else o) o
  O9 out∧I4 out∧(∀f,f∈out↔(f∈o∨∃b∈ws,Sz r facts b=true∧f=Tv r.head b))∧out.length≤o.length+ws.length
 | [],o,h1,h2,h3=>⟨h1,h2,fun f=>by simp,by simp⟩
 | b::ws,o,h1,h2,h3=>by
  simp only[Ku];by_cases hp:Sz r facts b=true
  ·rw[if_pos hp];have hm:=h3 b Fj hp;obtain⟨q1,q2,q3,q4⟩:=R8 ws _ (JmR h1 hm) (JlC h1 hm h2) fun x hx=>h3 x (FO _ hx);refine⟨q1,q2,fun f=>?_,?_⟩
   ·rw[q3 f,JmS h1 hm];constructor
    ·rintro ((h|h)|⟨x,hx,h⟩)
     ·exact .inl h
     ·exact .inr ⟨b,by simp,hp,h⟩
     ·exact .inr ⟨x,FO _ hx,h⟩
    ·rintro (h|⟨x,hx,h,he⟩)
     ·exact .inl (.inl h)
     ·rcases List.mem_cons.1 hx with rfl|hx
      ·exact .inl (.inr he)
      ·exact .inr ⟨x,hx,h,he⟩
   ·have:=QG o (Tv r.head b);rw[FC];omega
  ·rw[if_neg hp];obtain⟨q1,q2,q3,q4⟩:=R8 ws o h1 h2 fun x hx=>h3 x (FO _ hx);refine⟨q1,q2,fun f=>?_,by rw[FC];omega⟩;rw[q3 f];constructor
   ·rintro (h|⟨x,hx,h⟩)
    ·exact .inl h
    ·exact .inr ⟨x,FO _ hx,h⟩
   ·rintro (h|⟨x,hx,h,he⟩)
    ·exact .inl h
    ·rcases List.mem_cons.1 hx with rfl|hx
     ·exact absurd h hp
     ·exact .inr ⟨x,hx,h,he⟩
theorem Jky {facts delta:List Fc}{a:Int}:∀(body:List Lt) (i:Nat) (ws out:List (List Bn)),Tt facts delta a body i ws=some out→ws.length≤4000→out.length≤4000
 | [],i,ws,out,h,hl=>by
  simp only[Tt,FQ]at h;subst h;exact hl
 | l::body,i,ws,out,h,hl=>by
  unfold Tt at h;by_cases hk:l.kind=1
  ·rw[if_pos hk]at h;by_cases hq:4000<(OA l (if Fq i=a then delta else facts) ws).length
   ·rw[if_pos hq]at h;cases h
   ·rw[if_neg hq]at h;exact Jky body _ _ out h Fh
  ·rw[if_neg hk]at h;exact Jky body _ _ out h hl
theorem JtU {r:Rl}{facts delta:List Fc}{a:Int}{out:List Fc}(h:Dj r facts a delta=some out)(hs:BD r=true)(hfm:O9 facts)(hdm:O9 delta)(hm:∀t∈r.head.args,t.kind≠1→Ll (Lc t)=true)(hmb:∀l∈r.body,∀t∈l.args,t.kind≠1→Ll (Lc t)=true)(ha:∀i,Fq i=a→i<r.body.length→(Le r.body i).kind=1): O9 out∧I4 out∧out.length≤4000∧∀f,f∈out↔∃h,AQ r (fun i args=>((Le r.body i).name,args)∈(if Fq i=a then delta else facts)) h∧f=(r.head.name,h):=by
 unfold Dj at h;cases hw:Tt facts delta a r.body 0 [[]]with
 | none=>rw[hw]at h;cases h
 | some ws =>
  rw[hw]at h;have h:=FY h;obtain⟨w1,w2⟩:=Jkx r.body 0 [[]] ws (fun _=>False) hw (by simp[OG])
  have w1:∀σ,(∃b∈ws,agB b σ)↔EA facts delta a r.body 0 σ:=fun σ=>by
   rw[w1 σ];exact⟨fun q=>q.2,fun q=>⟨⟨[],by simp,fun v c hv=>by simp[OG]at hv⟩,q⟩⟩
  have w2:∀b∈ws,∀v,(∃c,OG v b=some c)↔CK r.body v:=fun b hb v=>by rw[w2 b hb v];simp
  have hwl:=Jky r.body 0 [[]] ws hw Fj
  let sg:List Bn→Sg:=fun b v=>(OG v b).getD ⟨0,[],0⟩
  have hag:∀b,agB b (sg b):=fun b v c hv=>by show (OG v b).getD ⟨0,[],0⟩=c;rw[hv];rfl
  have hwo:∀b t,OD t b=Oh (sg b) t:=by
   intro b t;unfold OD TF Oh;by_cases hk:t.kind=1
   ·rw[if_pos hk,if_pos hk]
   ·rw[if_neg hk,if_neg hk];rfl
  have hgr:∀b l,Tv l b=(l.name,l.args.map (Oh (sg b))):=fun b l=>by
   unfold Tv;rw[List.map_congr_left fun t _=>hwo b t]
  have hbnd:∀v,v∈BX r↔CK r.body v:=fun v=>mem_rBound;have hsafe:∀v,v∈Tx r→v∈BX r:=fun v hv=>of_decide_eq_true (List.all_eq_true.1 hs v hv)
  have hway:∀b∈ws,∀t:Tm,(t.kind=1→CK r.body t.name)→(t.kind≠1→Ll (Lc t)=true)→Ll (Oh (sg b) t)=true:=by
   intro b hb t h1 h2;unfold Oh;by_cases hk:t.kind=1
   ·rw[if_pos hk];obtain⟨l,hl,hlk,u,hu,hu1,hun⟩:=h1 hk;have hat:=(w1 (sg b)).1 ⟨b,hb,hag b⟩;obtain⟨j,hj⟩:=List.getElem?_of_mem hl;have hf:=hat j l hj hlk
    have hfm':Ig (l.name,l.args.map (Oh (sg b))):=by
     split at hf
     ·exact hdm _ hf
     ·exact hfm _ hf
    have:=hfm' (Oh (sg b) u) (List.mem_map.2 ⟨u,hu,rfl⟩);have e:Oh (sg b) u=sg b t.name:=by unfold Oh;rw[if_pos hu1,hun]
    rwa [e]at this
   ·rw[if_neg hk];exact h2 hk
  have hgm:∀b∈ws,Ig (Tv r.head b):=by
   intro b hb;rw[hgr];intro c hc;obtain⟨t,ht,rfl⟩:=List.mem_map.1 hc;exact hway b hb t (fun hk=>(hbnd _).1 (hsafe _ (mem_rNeed.2 (.inl ⟨t,ht,hk,rfl⟩)))) (hm t ht)
  obtain⟨q1,q2,q3,q4⟩:=R8 (r:=r) (facts:=facts) ws [] (by simp[O9]) List.Pairwise.nil fun b hb _=>hgm b hb;have e:BI r facts ws=out:=h;unfold BI at e;rw[e]at q1 q2 q3 q4;refine⟨q1,q2,by simp at q4;omega,fun f=>?_⟩;rw[q3 f]
  have hpass:∀b∈ws,Sz r facts b=true↔∀i,i<r.body.length→(Le r.body i).kind≠1→Ip (fun args=>((Le r.body i).name,args)∈(if Fq i=a then delta else facts)) (Le r.body i) (sg b):=by
   intro b hb;unfold Sz;rw[List.all_eq_true]
   have one:∀i,i<r.body.length→(Le r.body i).kind≠1→(Ck facts b (Le r.body i)=true↔Ip (fun args=>((Le r.body i).name,args)∈(if Fq i=a then delta else facts)) (Le r.body i) (sg b)):=by
    intro i hi hk;have hna:¬Fq i=a:=fun e=>hk (ha i e hi);unfold Ck Ip;rw[if_neg hk,if_neg hk,if_neg hna];by_cases hk2:(Le r.body i).kind=2
    ·rw[if_pos hk2,if_pos hk2,hgr]
     have hcm:Ig ((Le r.body i).name,(Le r.body i).args.map (Oh (sg b))):=by
      intro c hc;obtain⟨t,ht,rfl⟩:=List.mem_map.1 hc;have hl:=Av hi;exact hway b hb t (fun hk1=>(hbnd _).1 (hsafe _ (mem_rNeed.2 (.inr ⟨_,hl,hk,t,ht,hk1,rfl⟩)))) (hmb _ hl t ht)
     rw[Bool.not_eq_true',List.any_eq_false];constructor
     ·intro h hf;exact absurd ((Eb (hfm _ hf) hcm).2 rfl) (h _ hf)
     ·intro h x hx hs;rw[(Eb (hfm _ hx) hcm).1 hs]at hx;exact h hx
    ·rw[if_neg hk2,if_neg hk2];unfold Ad;cases hal:(Le r.body i).args with
     | nil=>exact Iff.rfl
     | cons x l =>
      cases l with
      | nil=>exact Iff.rfl
      | cons y l =>
       cases l with
       | nil=>simp only;rw[hwo,hwo]
       | cons z l=>exact Iff.rfl
   constructor
   ·intro h i hi hk;exact (one i hi hk).1 (h _ (Av hi))
   ·intro h l hl;obtain⟨i,hi⟩:=List.getElem?_of_mem hl;have hil:i<r.body.length:=(List.getElem?_eq_some_iff.1 hi).1;have el:=Tu hi;by_cases hk:l.kind=1
    ·unfold Ck;rw[if_pos hk]
    ·have:=(one i hil (by rw[el];exact hk)).2 (h i hil (by rw[el];exact hk))
     rwa [el]at this
  have hatom:∀σ,EA facts delta a r.body 0 σ↔∀i,i<r.body.length→(Le r.body i).kind=1→Ip (fun args=>((Le r.body i).name,args)∈(if Fq i=a then delta else facts)) (Le r.body i) σ:=by
   intro σ;constructor
   ·intro h i hi hk;have hg:r.body[i]? = some (Le r.body i):=by unfold Le;rw[FB hi];rfl
    have:=h i _ hg hk;rw[FV]at this;unfold Ip;rw[if_pos hk];exact this
   ·intro h j l hj hk;have hjl:j<r.body.length:=(List.getElem?_eq_some_iff.1 hj).1;have:=h j hjl (by rw[Tu hj];exact hk);unfold Ip at this;rw[Tu hj,if_pos hk]at this;rw[FV];exact this
  have satC:∀(F:List Tk→Prop) (l:Lt) (σ τ:Sg),(∀t∈l.args,Oh σ t=Oh τ t)→(Ip F l σ↔Ip F l τ):=by
   intro F l σ τ h;have e1:l.args.map (Oh σ)=l.args.map (Oh τ):=List.map_congr_left h
   have e2:Ad σ l=Ad τ l:=by
    unfold Ad;cases hal:l.args with
    | nil=>rfl
    | cons x m =>
     cases m with
     | nil=>rfl
     | cons y m =>
      cases m with
      | nil=>simp only;rw[h x (by rw[hal];simp),h y (by rw[hal];simp)]
      | cons z m=>rfl
   unfold Ip;rw[e1,e2]
  constructor
  ·rintro (h|⟨b,hb,hp,rfl⟩)
   ·simp at h
   ·refine⟨_,⟨sg b,fun i hi=>?_,rfl⟩,hgr b r.head⟩;by_cases hk:(Le r.body i).kind=1
    ·exact (hatom _).1 ((w1 _).1 ⟨b,hb,hag b⟩) i hi hk
    ·exact (hpass b hb).1 hp i hi hk
  ·rintro⟨g,⟨σ,hσ,rfl⟩,rfl⟩;obtain⟨b,hb,hab⟩:=(w1 σ).2 ((hatom σ).2 fun i hi _=>hσ i hi)
   have hsame:∀t:Tm,(t.kind=1→CK r.body t.name)→Oh σ t=Oh (sg b) t:=by
    intro t ht;unfold Oh;by_cases hk:t.kind=1
    ·rw[if_pos hk,if_pos hk];obtain⟨c,hc⟩:=(w2 b hb t.name).2 (ht hk);rw[hab _ _ hc,hag b _ _ hc]
    ·rw[if_neg hk,if_neg hk]
   refine .inr ⟨b,hb,(hpass b hb).2 fun i hi hk=>?_,?_⟩
   ·have hl:=Av hi;exact (satC _ _ σ (sg b) fun t ht=>hsame t fun hk1=>(hbnd _).1 (hsafe _ (mem_rNeed.2 (.inr ⟨_,hl,hk,t,ht,hk1,rfl⟩)))).1 (hσ i hi)
   ·rw[hgr,List.map_congr_left fun t ht=>hsame t fun hk1=>(hbnd _).1 (hsafe _ (mem_rNeed.2 (.inl ⟨t,ht,hk1,rfl⟩)))]
section
open Go.AE Delphi Val
variable {tab:Tab}
def I6 (f:Fc):Bool:=f.2.all Ll&&(BO f.1&&decide (f.2.length≤4))
variable {T:Fw} {w:AW} {v:V}
theorem Jlk (h:Rd T w v 3 f.2.length (O0 f.2)){i:Nat}{t:Tk}(hi:f.2[i]? = some t):∃b o c,v = .slice b o f.2.length c∧w.load b (o+i*3) 3=some (tkC t):=by
 obtain⟨b,o,c,rfl,_,_,a3⟩:=Di h hi;exact⟨b,o,c,rfl,a3⟩
variable {xs:List V}
theorem JqA (C:Codes tab){aw:AW}{K:V→AW→Prop}(hx:FcC T aw f xs)(hl:f.2.length≤1000)(hnl:f.1.length≤1000000)(hnb:∀c∈f.1,c<256)(hok:∀t∈f.2,TkOk t)(h:∀w,Frm (fun _=>False) aw w→K (.bool (I6 f)) w):WF tab Gu [.agg xs] aw K:=by
 refine Ld C.Xq rfl ?_;obtain⟨v,rfl,hx⟩:=hx;obtain⟨w1,e1,c1,r1,m1⟩:=Oe aw [.str f.1,v];have hcc:V.cells (.agg [.str f.1,v])=[.str f.1,v]:=rfl;have hlv:=hx.lenV;refine Fz (by simp only[go_sem,K5,J2,hcc,e1];rfl) ?_
 refine LK (fun n fr w=>∃i,fr.get 1=some (.ptr aw.next 0)∧fr.get 3=some (.int .i64 (Fq i))∧Frm (fun _=>False) w1 w∧(∀t∈f.2.take i,Ll t=true)∧i≤f.2.length∧n=f.2.length-i)
  (fun fr w=>fr.get 1=some (.ptr aw.next 0)∧Frm (fun _=>False) w1 w∧∀t∈f.2,Ll t=true) ?_ ?_ f.2.length ⟨0,Fb,Fb,Frm.refl _,by simp,Nat.zero_le _,rfl⟩
 ·rintro n fr w ⟨i,f1,f3,g,hm,hi,rfl⟩ ih out;have c1':=c1.frm g fun h=>h;have a1:w.load aw.next 1 1=some [v]:=CB.ld c1' 1 1 _ rfl;by_cases hlt:i<f.2.length
  case neg =>
   obtain rfl:i=f.2.length:=Fh;rw[List.take_length]at hm;refine Lb 1000 (by simp only[go_sem,Uk,f1,f3,a1,hlv,hlt];rfl) ?_;exact out _ _ _ ⟨(Fg f1),g,hm⟩ rfl
  obtain⟨t,ht⟩:∃t,f.2[i]? = some t:=⟨_,FB hlt⟩;obtain⟨b,o,c,rfl,a3⟩:=Jlk ((hx.frm r1 fun _ _ h=>h).frm g fun _ _ h=>h) ht;have hwr:KZ .i64 (Fq i+1)=Fq (i+1):=Lh Fh;refine Fz (by simp only[go_sem,K5,Uk,HX,f1,f3,a1,hlt,a3,TE];rfl) ?_;refine K9 Ff Fe ?_;refine JqB C (hok t (FI ht)) fun w2 g2=>?_;cases hmt:Ll t with
  | false =>
   have e:I6 f=false:=by
    unfold I6
    have:f.2.all Ll=false:=by
     rw[List.all_eq_false];exact⟨t,FI ht,by rw[hmt];simp⟩
    rw[this];rfl
   rw[e]at h;refine Fz (by simp only[go_sem,K5,HW];rfl) ?_;refine K7 ⟨_,by simp only[go_sem,K5,J2];rfl,?_⟩;exact h w2 ((r1.tr g).tr g2)
  | true =>
   refine Fz (by simp only[go_sem,K5,f3,hwr];rfl) ?_;refine ih _ _ _ Fh ⟨i+1,(Fg f1),Fb,g.tr g2,fun u hu=>?_,by omega,rfl⟩;rw[O7 ht]at hu;rcases List.mem_append.1 hu with hu|hu
   ·exact hm u hu
   ·simp at hu;subst hu;exact hmt
 ·rintro fr w ⟨f1,g,hm⟩;have c1':=c1.frm g fun h=>h;have a1:w.load aw.next 1 1=some [v]:=CB.ld c1' 1 1 _ rfl;have a0:w.load aw.next 0 1=some [.str f.1]:=CB.ld c1' 0 1 _ rfl;have ha:f.2.all Ll=true:=List.all_eq_true.2 hm;have e:I6 f=(BO f.1&&decide (f.2.length≤4)):=by unfold I6;rw[ha];rfl
  rw[e]at h;refine Fz (by simp only[go_sem,K5,HY,f1,a0];rfl) ?_;refine K9 Ff Fe ?_;refine Jpp C Fh hnb ?_;cases hw:BO f.1 with
  | false =>
   rw[hw]at h;refine K6 1000 Fe ?_;refine K7 ⟨_,by simp only[go_sem,K5,J2];rfl,?_⟩;exact h w (r1.tr g)
  | true =>
   rw[hw,Bool.true_and]at h
   have hle:decide (Fq f.2.length≤4)=decide (f.2.length≤4):=by
    by_cases hq:f.2.length≤4
    ·rw[decide_eq_true hq];exact decide_eq_true (by show (f.2.length:Int)≤4;omega)
    ·rw[decide_eq_false hq];exact decide_eq_false (by show ¬((f.2.length:Int)≤4);omega)
   by_cases hq:f.2.length≤4
   ·rw[decide_eq_true hq]at h hle;refine Fz (by simp only[go_sem,K5,f1,a1,hlv,hle,hq];rfl) ?_;refine K7 ⟨_,by simp only[go_sem,K5,J2];rfl,?_⟩;exact h w (r1.tr g)
   ·rw[decide_eq_false hq]at h hle;refine Fz (by simp only[go_sem,K5,f1,a1,hlv,hle,hq];rfl) ?_;refine K7 ⟨_,by simp only[go_sem,K5,J2];rfl,?_⟩;exact h w (r1.tr g)
def BL (f:Fc):Fc:=(f.1.take 16,(f.2.take 4).map SG)
def Ik (out:List Fc) (f:Fc):Bool:=out.all fun x=>!decide (x.1=f.1)||decide (x.2.length=f.2.length)
def IC (n:Nat) (out:List Fc) (f:Fc):List Fc:=if out.length<n∧(I6 (BL f)&&Ik out (BL f))=true then out++[BL f]else out
def OP (n:Nat) (l:List Fc):List Fc:=l.foldl (IC n) []
def FcsB (S T:Fw) (w:AW) (v:V) (l:List Fc):Prop:=∃xss,Bt S w v 2 l.length xss.flatten∧All2 (FcC T w) l xss
variable {S:Fw}
theorem FcsB.rd (h:FcsB S T w v l){U:Fw}(h1:∀x,S x→U x)(h2:∀x,T x→U x):Fcs U w v l:=by
 obtain⟨xss,h3,h4⟩:=h;exact⟨xss,h3.rd.mono h1,Rf h4 fun f xs ⟨v,q1,q2⟩=>⟨v,q1,q2.mono h2⟩⟩
theorem FcsB.frm {R:Fw}{w':AW}(h:FcsB S T w v l)(g:Frm R w w')(h1:∀x,S x→¬R x)(h2:∀x,T x→¬R x):FcsB S T w' v l:=by
 obtain⟨xss,h3,h4⟩:=h;exact⟨xss,h3.frm g h1,Rf h4 fun f xs q=>q.frm g h2⟩
theorem FcsB.nil:FcsB S T w .nilslice []:=⟨[],.nil,.nil⟩
theorem FcsB.push {U:Fw}(h:FcsB S T w v l)(hf:FcC U w f xs)(hS:∀x,S x→x<w.next)(hT:∀x,T x→¬S x∧x<w.next)(hU:∀x,U x→¬S x∧x<w.next)(hl:l.length≤1000000): ∃v' w' S',(w.fresh xs).appendV 2 40 v 1 xs=some (v',w')∧FcsB S' (fun x=>T x∨U x) w' v' (l++[f])∧Frm S w w'∧TV S S' w w':=by
 obtain⟨xss,h3,h4⟩:=h;have hone:=hf.one;obtain⟨v',w',S',q1,q2,q3,q4⟩:=h3.push (news:=xs) (bytes:=40) hS Fh hone.1 hone.2 Fh Fh;refine⟨v',w',S',q1,⟨xss++[xs],by rw[FE,List.flatten_append];simpa using q2,?_⟩,q3,q4⟩
 have h5:All2 (FcC (fun x=>T x∨U x) w') l xss:=Rf h4 fun g ys q=>by
  obtain⟨u,q5,q6⟩:=q.frm q3 fun x hx=>(hT x hx).1;exact⟨u,q5,q6.mono fun _ h=> .inl h⟩
 refine h5.snoc ?_;obtain⟨u,q5,q6⟩:=hf.frm q3 fun x hx=>(hU x hx).1;exact⟨u,q5,q6.mono fun _ h=> .inr h⟩
end
section
open Go.AE Delphi Val
variable {tab:Tab}
structure CuF (f:Fr) (lv:V) (n:Int) (ov:V) (i fb:Nat):Prop where
 f0:f.get 0=some lv
 f1:f.get 1=some (.int .i64 n)
 f5:f.get 5=some ov
 f6:f.get 6=some (.int .i64 (Fq i))
 f7:f.get 7=some (.ptr fb 0)
variable {lv:V} {st:List SI} {Q:Fr→AW→Prop}
theorem JsW (C:Codes tab){T:Fw}{ov:V}{n:Int}{i fb:Nat}{fc:Fc}{nm:List Nat}{w:AW}{f:Fr}(hx:Fcs T w lv l)(hfc:l[i]? = some fc)(hT:∀x,T x→x<w.next∧x≠fb)(hF:CuF f lv n ov i fb)(f8:f.get 8=some (.int .i64 (Fq 0)))(hb:CB w fb [.str nm,.nilslice])(h:∀f' w' av S,CuF f' lv n ov i fb→CB w' fb [.str nm,av]→Bt S w' av 3 (fc.2.take 4).length (O0 ((fc.2.take 4).map SG))→Frm (fun x=>x=fb) w w'→(∀x,S x→w.next≤x∧x<w'.next)→WS tab st f' w' Q): WS tab (.code (.loop ZS) :: .endB 2::st) f w Q:=by
 refine LK (fun q f w1=>∃m av S,CuF f lv n ov i fb∧f.get 8=some (.int .i64 (Fq m))∧CB w1 fb [.str nm,av]∧Bt S w1 av 3 m (O0 ((fc.2.take m).map SG))∧Frm (fun x=>x=fb) w w1∧(∀x,S x→w.next≤x∧x<w1.next)∧m≤fc.2.length∧m≤4∧q=4-m)
  (fun f w1=>∃av S,CuF f lv n ov i fb∧CB w1 fb [.str nm,av]∧Bt S w1 av 3 (fc.2.take 4).length (O0 ((fc.2.take 4).map SG))∧Frm (fun x=>x=fb) w w1∧(∀x,S x→w.next≤x∧x<w1.next)) ?_ ?_ 4
  ⟨0,.nilslice,fun _=>False,hF,f8,hb,.nil,Frm.refl _,fun _ h=>h.elim,Nat.zero_le _,by omega,rfl⟩
 ·rintro q f w1 ⟨m,av,S,⟨f0,f1,f5,f6,f7⟩,f8,hc,hB,g,hS,hm,hm4,rfl⟩ ih out;have hil:i<l.length:=(List.getElem?_eq_some_iff.1 hfc).1;obtain⟨b,o,c,xv,rfl,_,_,l2,l0,l1,hxa⟩:=Sw (hx.frm g fun x hx=>(hT x hx).2) hfc;have hxl:=hxa.lenV;have hbl:=hb.lt
  have stop:(fc.2.take 4).length=m→CB w1 fb [.str nm,av]→∃av S,CuF (f) (.slice b o l.length c) n ov i fb∧CB w1 fb [.str nm,av]∧Bt S w1 av 3 (fc.2.take 4).length (O0 ((fc.2.take 4).map SG))∧Frm (fun x=>x=fb) w w1∧(∀x,S x→w.next≤x∧x<w1.next):=by
   intro e hc;have e2:fc.2.take 4=fc.2.take m:=by rw[←e,FU,List.take_eq_take_iff];omega
   rw[e2];refine⟨av,S,⟨f0,f1,f5,f6,f7⟩,hc,?_,g,hS⟩;have e3:(fc.2.take m).length=m:=by rw[←e2];exact e
   rw[e3];exact hB
  by_cases hlt:m<fc.2.length
  case neg =>
   obtain⟨av',S',⟨q0,q1,q5,q6,q7⟩,h2,h3,h4,h5⟩:=stop (by rw[FU];omega) hc;refine Lb 1000 (by simp only[go_sem,ZS,f0,f6,f8,hil,l1,hxl,hlt];rfl) ?_;exact out _ _ _ ⟨av',S',⟨(by simp only[go_sem,K5,q0]<;>rfl),(by simp only[go_sem,K5,q1]<;>rfl),(by simp only[go_sem,K5,q5]<;>rfl),(by simp only[go_sem,K5,q6]<;>rfl),(by simp only[go_sem,K5,q7]<;>rfl)⟩,h2,h3,h4,h5⟩ rfl
  by_cases h4:m<4
  case neg =>
   obtain⟨av',S',⟨q0,q1,q5,q6,q7⟩,h2,h3,h4',h5⟩:=stop (by rw[FU];omega) hc;refine Lb 1000 (by simp only[go_sem,ZS,f0,f6,f8,hil,l1,hxl,hlt,h4];rfl) ?_;exact out _ _ _ ⟨av',S',⟨(by simp only[go_sem,K5,q0]<;>rfl),(by simp only[go_sem,K5,q1]<;>rfl),(by simp only[go_sem,K5,q5]<;>rfl),(by simp only[go_sem,K5,q6]<;>rfl),(by simp only[go_sem,K5,q7]<;>rfl)⟩,h2,h3,h4',h5⟩ rfl
  obtain⟨t,ht⟩:∃t,fc.2[m]? = some t:=⟨_,FB hlt⟩;obtain⟨ab,ao,ac,rfl,a3⟩:=Jlk hxa ht;have k1:w1.load fb 1 1=some [av]:=CB.ld hc 1 1 _ rfl;refine Fz (by simp only[go_sem,K5,ZS,Hl,f0,f6,f8,hil,l1,hxl,hlt,h4];rfl) ?_;refine Bo ?_;refine LU 100 (by simp only[go_sem,K5,f0,f6,f7,f8,k1,hil,l1,hlt,a3,TE];rfl) ?_;refine BJ Ff Fe ?_;refine JuL C fun w2 g2=>?_;have hc2:=hc.frm g2 fun h=>h;have k1':w2.load fb 1 1=some [av]:=CB.ld hc2 1 1 _ rfl;have hB2:=hB.frm g2 fun _ _ h=>h;have hn1:=g.next;have hn2:=g2.next;obtain⟨v',w3,S3,u1,u2,u3,u4⟩:=hB2.push (news:=tkC (SG t)) (bytes:=32) (fun x hx=>by have:=hS x hx;omega) Fh rfl rfl Fh Fh;have hel:(w2.fresh (tkC (SG t))).elems 3 (.slice w2.next 0 1 (.known 1))=some (1,tkC (SG t)):=Tj Fh rfl;have hov:over [V.int .i64 0,V.str [],V.int .i64 0] 0 (tkC (SG t))=some (tkC (SG t)):=rfl;have k1'':(w2.fresh (tkC (SG t))).load fb 1 1=some [av]:=CB.ld (hc2.frm (LZ (S:=fun _=>False) _ _) fun h=>h) 1 1 _ rfl;have hc3:=hc2.frm u3 fun h=>by have:=(hS _ h).1;omega
  have s3:w3.store fb 1 [v']=some (w3.put fb [.str nm,v']):=hc3.set (i:=1) (v:=v') Fj u2.one.1;have c4:=Oc (l:=[V.str nm,v']) hc3.lt;have g4:Frm (fun x=>x=fb) w3 (w3.put fb [.str nm,v']):=LW;have hcc:V.cells (.agg (tkC (SG t)))=tkC (SG t):=rfl;have hwr:KZ .i64 (Fq m+1)=Fq (m+1):=Lh Fh;have hvc:=u2.one.2;refine LU 100 (by simp only[go_sem,K5,f7,hcc,TE,Lg,Lj,hov,FC,FD,hel,u1,hvc,s3];rfl) ?_;refine O1 ⟨(show LF _ _ [(1,10),(1,11)]from by simp only[go_sem,K5,LF,chk,List.reverse_cons,List.reverse_nil,O8,O6,O4,O5,List.getElem?_nil,false_or,or_true,or_false,exists_eq',FQ,Prod.mk.injEq,Bool.true_eq_false,FM,and_true,true_and,implies_true,k1,k1',k1'']),?_⟩;have hn3:=u3.next;obtain⟨w4,e4⟩:∃w4,w4=w3.put fb [.str nm,v']:=⟨_,rfl⟩;have hn4:w4.next=w3.next:=by rw[e4];rfl
  rw[←e4]at c4 g4 ⊢;refine Fz (by simp only[go_sem,K5,f8,hwr];rfl) ?_;refine ih _ _ _ Fh ⟨m+1,v',S3,⟨(Fg f0),(Fg f1),(Fg f5),(Fg f6),(Fg f7)⟩,Fb,c4,?_,((g.tr g2.no).trans u3 (fun _ _ h=>h) fun x hx h=>by have:=(hS x h).1;omega).tr g4,fun x hx=>?_,by omega,by omega,rfl⟩
  ·rw[O7 ht,List.map_append,Kv,Kw,Q9]
   exact u2.frm g4 fun x hx h=>by
    rcases (u4 x hx).2 with h1|h1
    ·have:=(hS x h1).1;omega
    ·omega
  ·refine⟨?_,by rw[hn4];exact (u4 x hx).1⟩;rcases (u4 x hx).2 with h1|h1
   ·exact (hS x h1).1
   ·omega
 ·rintro f w1 ⟨av,S,hF,hc,hB,g,hS⟩;exact h f w1 av S hF hc hB g hS
theorem JvX (C:Codes tab){U:Fw}{ov:V}{n:Int}{i fb:Nat}{out:List Fc}{fc:Fc}{av:V}{b0:Bool}{w:AW}{f:Fr}(ho:Fcs U w ov out)(hol:out.length≤100000)(hb:CB w fb [.str fc.1,av])(hav:lenV av=some fc.2.length)(hF:CuF f lv n ov i fb)(f9:f.get 9=some (.bool b0))(f10:f.get 10=some (.int .i64 (Fq 0)))(h:∀f',CuF f' lv n ov i fb→f'.get 9=some (.bool (b0&&Ik out fc))→WS tab st f' w Q): WS tab (.code (.loop JY) :: .endB 4::st) f w Q:=by
 have hlo:=ho.lenV
 refine LK (fun q f w1=>∃m,CuF f lv n ov i fb∧f.get 9=some (.bool (b0&&Ik (out.take m) fc))∧f.get 10=some (.int .i64 (Fq m))∧w1=w∧m≤out.length∧q=out.length-m)
  (fun f w1=>CuF f lv n ov i fb∧f.get 9=some (.bool (b0&&Ik out fc))∧w1=w) ?_ ?_ out.length ⟨0,hF,by rw[f9];simp[Ik],f10,rfl,Nat.zero_le _,rfl⟩
 ·rintro q f w1 ⟨m,⟨f0,f1,f5,f6,f7⟩,f9,f10,rfl,hm,rfl⟩ ih exit;by_cases hlt:m<out.length
  case neg =>
   obtain rfl:m=out.length:=Fh;rw[List.take_length]at f9;refine Lb 1000 (by simp only[go_sem,JY,f5,f10,hlo,hlt];rfl) ?_;exact exit _ _ _ ⟨⟨(Fg f0),(Fg f1),(Fg f5),(Fg f6),(Fg f7)⟩,(Fg f9),rfl⟩ rfl
  obtain⟨x,hx⟩:∃x,out[m]? = some x:=⟨_,FB hlt⟩;obtain⟨b,o,c,xv,rfl,_,_,l2,l0,l1,hxa⟩:=Sw ho hx;have hxl:=hxa.lenV;have k0:w1.load fb 0 1=some [.str fc.1]:=CB.ld hb 0 1 _ rfl;have k1:w1.load fb 1 1=some [av]:=CB.ld hb 1 1 _ rfl;have hwr:KZ .i64 (Fq m+1)=Fq (m+1):=Lh Fh
  have ea:Ik (out.take (m+1)) fc=(Ik (out.take m) fc&&(!decide (x.1=fc.1)||decide (x.2.length=fc.2.length))):=by
   unfold Ik;rw[O7 hx,List.all_append];simp
  cases hb9:(b0&&Ik (out.take m) fc)with
  | false =>
   have e9:(b0&&Ik (out.take (m+1)) fc)=false:=by rw[ea,←Bool.and_assoc,hb9];rfl
   rw[hb9]at f9;refine Fz (by simp only[go_sem,K5,JY,ZT,f5,f9,f10,hlo,hlt,hwr];rfl) ?_;exact ih _ _ _ Fh ⟨m+1,⟨(Fg f0),(Fg f1),(Fg f5),(Fg f6),(Fg f7)⟩,by rw[e9];exact Fb,Fb,rfl,by omega,rfl⟩
  | true =>
   rw[hb9]at f9;by_cases hn:x.1=fc.1
   ·have e9:(b0&&Ik (out.take (m+1)) fc)=decide (x.2.length=fc.2.length):=by rw[ea,←Bool.and_assoc,hb9,decide_eq_true hn];rfl
    have hne:Oi BinOp.neq x.1 fc.1=some (.bool false):=by
     simp only[Oi];rw[hn,eqL_iff.2 rfl];rfl
    have hle:(Fq x.2.length==Fq fc.2.length)=decide (x.2.length=fc.2.length):=by
     by_cases hq:x.2.length=fc.2.length
     ·rw[hq,decide_eq_true rfl];simp
     ·rw[decide_eq_false hq];simp only[beq_eq_false_iff_ne,ne_eq];exact fun h=>hq (Int.ofNat.inj h)
    by_cases hq:x.2.length=fc.2.length
    ·rw[decide_eq_true hq]at hle e9;refine Fz (by simp only[go_sem,K5,JY,ZT,f5,f7,f9,f10,hlo,hlt,l0,l1,k0,k1,hne,hxl,hav,hle,hq,hwr];rfl) ?_;exact ih _ _ _ Fh ⟨m+1,⟨(Fg f0),(Fg f1),(Fg f5),(Fg f6),(Fg f7)⟩,by rw[e9];exact Fb,Fb,rfl,by omega,rfl⟩
    ·rw[decide_eq_false hq]at hle e9;refine Fz (by simp only[go_sem,K5,JY,ZT,f5,f7,f9,f10,hlo,hlt,l0,l1,k0,k1,hne,hxl,hav,hle,hq,hwr];rfl) ?_;exact ih _ _ _ Fh ⟨m+1,⟨(Fg f0),(Fg f1),(Fg f5),(Fg f6),(Fg f7)⟩,by rw[e9];exact Fb,Fb,rfl,by omega,rfl⟩
   ·have e9:(b0&&Ik (out.take (m+1)) fc)=true:=by rw[ea,←Bool.and_assoc,hb9,decide_eq_false hn];rfl
    have hne:Oi BinOp.neq x.1 fc.1=some (.bool true):=by
     simp only[Oi];cases he:eqL x.1 fc.1 with
     | true=>exact absurd (eqL_iff.1 he) hn
     | false=>rfl
    refine Fz (by simp only[go_sem,K5,JY,ZT,f5,f7,f9,f10,hlo,hlt,l0,k0,hne,hwr];rfl) ?_;exact ih _ _ _ Fh ⟨m+1,⟨(Fg f0),(Fg f1),(Fg f5),(Fg f6),(Fg f7)⟩,by rw[e9];exact Fb,Fb,rfl,by omega,rfl⟩
 ·rintro f w1 ⟨hF,h9,rfl⟩;exact h f hF h9
theorem Mo (n:Nat)(l:List Fc)(f:Fc):OP n (l++[f])=IC n (OP n l) f:=by unfold OP;rw[List.foldl_append];rfl
theorem Mf (n:Nat)(l:List Fc):(OP n l).length≤n:=by
 unfold OP
 have:∀(l:List Fc) (o:List Fc),o.length≤n→(l.foldl (IC n) o).length≤n:=by
  intro l;induction l with
  | nil=>intro o h;exact h
  | cons f l ih =>
   intro o h;rw[Ku];refine ih _ ?_;unfold IC;split
   ·rename_i hc;rw[FE,Kb];omega
   ·exact h
 exact this l [] Fj
theorem Jp1 {n:Nat}(m:List Fc)(h:(OP n l).length=n):OP n (l++m)=OP n l:=by
 induction m generalizing l with
 | nil=>rw[Kc]
 | cons f m ih =>
  have e:OP n (l++[f])=OP n l:=by
   rw[Mo];unfold IC;rw[if_neg Fh]
  have:l++f::m=(l++[f])++m:=Fj;rw[this,ih (by rw[e];exact h),e]
theorem Jm9 (C:Codes tab){T:Fw}{n:Nat}{aw:AW}{K:V→AW→Prop}(hx:Fcs T aw lv l)(hT:∀x,T x→x<aw.next)(hll:l.length≤9223372036854775807)(hn:n≤1000)(hnb:∀f∈l,∀c∈f.1,c<256)(htb:∀f∈l,∀t∈f.2,∀c∈t.s,c<256)(h:∀w v S,Fcs S w v (OP n l)→Frm (fun _=>False) aw w→(∀x,S x→aw.next≤x∧x<w.next)→K v w):WF tab VJ [lv,.int .i64 (Fq n)] aw K:=by
 refine Ld C.Y2 rfl ?_;have hlv:=hx.lenV;refine Fz (by simp only[go_sem,K5,Y1];rfl) ?_
 refine LK (fun q f w=>∃i ov S U,f.get 0=some lv∧f.get 1=some (.int .i64 (Fq n))∧f.get 5=some ov∧f.get 6=some (.int .i64 (Fq i))∧FcsB S U w ov (OP n (l.take i))∧(∀x,S x→aw.next≤x∧x<w.next∧¬U x)∧(∀x,U x→aw.next≤x∧x<w.next)∧Frm (fun _=>False) aw w∧i≤l.length∧q=l.length-i)
  (fun f w=>∃ov S,f.get 5=some ov∧Fcs S w ov (OP n l)∧Frm (fun _=>False) aw w∧(∀x,S x→aw.next≤x∧x<w.next)) ?_ ?_ l.length
  ⟨0,.nilslice,fun _=>False,fun _=>False,Fb,Fb,Fb,Fb,FcsB.nil,fun _ h=>h.elim,fun _ h=>h.elim,Frm.refl _,Nat.zero_le _,rfl⟩
 ·rintro q f w ⟨i,ov,S,U,f0,f1,f5,f6,hB,hS,hU,g,hi,rfl⟩ ih out;have fin:∀x,(S x∨U x)→aw.next≤x∧x<w.next:=fun x hx=>hx.elim (fun h=>⟨(hS x h).1,(hS x h).2.1⟩) (hU x);have hlo:=hB.rd (U:=fun x=>S x∨U x) (fun _ h=> .inl h) fun _ h=> .inr h;have hlo':=hlo.lenV;by_cases hlt:i<l.length
  case neg =>
   obtain rfl:i=l.length:=Fh;rw[List.take_length]at hlo;refine Lb 1000 (by simp only[go_sem,Y0,f0,f6,hlv,hlt];rfl) ?_;exact out _ _ _ ⟨ov,_,(Fg f5),hlo,g,fin⟩ rfl
  have hcl:=Mf n (l.take i);by_cases hon:(OP n (l.take i)).length<n
  case neg =>
   have e:OP n l=OP n (l.take i):=by
    have:=Jp1 (n:=n) (l:=l.take i) (l.drop i) Fh;rw[List.take_append_drop]at this;exact this
   refine Lb 1000 (by simp only[go_sem,Y0,f0,f1,f5,f6,hlv,hlt,hlo',hon];rfl) ?_;exact out _ _ _ ⟨ov,_,(Fg f5),by rw[e];exact hlo,g,fin⟩ rfl
  obtain⟨fc,hfc⟩:∃fc,l[i]? = some fc:=⟨_,FB hlt⟩;have hfm:=FI hfc;have hxw:=hx.frm g fun _ _ h=>h;obtain⟨b,o,c,xv,rfl,_,_,l2,l0,l1,hxa⟩:=Sw hxw hfc;refine Fz (by simp only[go_sem,K5,Y0,Ho,f0,f1,f5,f6,hlv,hlt,hlo',hon,l0];rfl) ?_;refine K9 Ff Fe ?_;refine Jpk C (n:=16) ?_;obtain⟨w2,s2,c2,r2,n2⟩:=Oj w (zs:=[V.str [],V.nilslice]) (vs:=[V.str (fc.1.take 16),V.nilslice]) rfl rfl;have hov1:over [V.str [],V.nilslice] 0 [V.str (fc.1.take 16)]=some [V.str (fc.1.take 16),V.nilslice]:=rfl;have hwr:KZ .i64 (Fq i+1)=Fq (i+1):=Lh Fh;have gn:=g.next;refine Fz (by simp only[go_sem,K5,Lg,Lj,hov1,FC,FD,s2];rfl) ?_;refine JsW (i:=i) (fc:=fc) (ov:=ov) (n:=Fq n) (fb:=w.next) (nm:=fc.1.take 16) C (hxw.frm r2 fun _ _ h=>h) hfc (fun x hx=>⟨by have:=hT x hx;omega,by have:=hT x hx;omega⟩) ⟨(Fg f0),(Fg f1),(Fg f5),(Fg f6),Fb⟩ Fb c2 fun f3 w3 av Sa hF3 c3 hB3 g3 hSa=>?_;have hF3':=hF3;obtain⟨q0,q1,q5,q6,q7⟩:=hF3;have hn3:=g3.next
  have hln:lenV av=some (BL fc).2.length:=by
   have:=hB3.lenV;rw[this];unfold BL;rw[F9]
  have hfcC:FcC Sa w3 (BL fc) [.str (fc.1.take 16),av]:=⟨av,rfl,by
   have e:(BL fc).2.length=(fc.2.take 4).length:=by unfold BL;rw[F9]
   rw[e];exact hB3.rd⟩
  have k2:w3.load w.next 0 2=some [.str (fc.1.take 16),av]:=c3.all rfl;have h4:(BL fc).2.length≤4:=by unfold BL;rw[F9,FU];omega
  have hnl:(BL fc).1.length≤16:=by unfold BL;rw[FU];omega
  refine Fz (by simp only[go_sem,K5,Hn,q7,k2];rfl) ?_;refine K9 Ff Fe ?_;refine JqA C hfcC Fh Fh (fun c hc=>hnb fc hfm c (List.mem_of_mem_take hc)) (fun t ht=>?_) fun w4 g4=>?_
  ·unfold BL at ht;obtain⟨u,hu,rfl⟩:=List.mem_map.1 ht;refine⟨by show (u.s.take 20).length≤9223372036854775807;rw[FU];omega,fun c hc=>htb fc hfm u (List.mem_of_mem_take hu) c (List.mem_of_mem_take hc)⟩
  have c4:=c3.frm g4 fun h=>h;have g24:Frm (fun x=>x=w.next) w2 w4:=g3.tr g4.no;have g04:Frm (fun _=>False) w w4:=r2.trans g24 (fun _ _ h=>h) fun x hx h=>by omega
  have hB4:=hB.frm g04 (fun _ _ h=>h) fun _ _ h=>h;have ho4:=hB4.rd (U:=fun x=>S x∨U x) (fun _ h=> .inl h) fun _ h=> .inr h;refine K6 1000 Fe ?_;refine JvX (i:=i) (fc:=BL fc) (b0:=I6 (BL fc)) (out:=OP n (l.take i)) (fb:=w.next) C ho4 Fh c4 hln ⟨(by simp only[go_sem,K5,q0]<;>rfl),(by simp only[go_sem,K5,q1]<;>rfl),(by simp only[go_sem,K5,q5]<;>rfl),(by simp only[go_sem,K5,q6]<;>rfl),(by simp only[go_sem,K5,q7]<;>rfl)⟩ Fb Fb fun f5 hF5 h9=>?_;obtain⟨p0,p1,p5,p6,p7⟩:=hF5;have hn4:=g04.next;have k2':w4.load w.next 0 2=some [.str (fc.1.take 16),av]:=c4.all rfl;have esn:OP n (l.take (i+1))=IC n (OP n (l.take i)) (BL fc |> fun _=>fc):=by rw[O7 hfc,Mo]
  cases hb:(I6 (BL fc)&&Ik (OP n (l.take i)) (BL fc))with
  | false =>
   have e:OP n (l.take (i+1))=OP n (l.take i):=by
    rw[O7 hfc,Mo];unfold IC;rw[if_neg (by rw[hb];simp)]
   rw[hb]at h9;refine Fz (by simp only[go_sem,K5,h9,p6,hwr];rfl) ?_;refine ih _ _ _ Fh ⟨i+1,ov,S,U,(by simp only[go_sem,K5,p0]<;>rfl),(by simp only[go_sem,K5,p1]<;>rfl),(by simp only[go_sem,K5,p5]<;>rfl),Fb,by rw[e];exact hB4,fun x hx=>by have:=hS x hx;exact⟨this.1,by omega,this.2.2⟩,fun x hx=>by have:=hU x hx;exact⟨this.1,by omega⟩,g.tr g04,by omega,rfl⟩
  | true =>
   have e:OP n (l.take (i+1))=OP n (l.take i)++[BL fc]:=by
    rw[O7 hfc,Mo];unfold IC;rw[if_pos ⟨hon,hb⟩]
   rw[hb]at h9;have hn23:=g3.next;have hn34:=g4.next;obtain⟨v',w5,S5,u1,u2,u3,u4⟩:=hB4.push (hfcC.frm g4 fun _ _ h=>h) (fun x hx=>by have:=hS x hx;omega) (fun x hx=>⟨fun hs=>(hS x hs).2.2 hx,by have:=hU x hx;omega⟩) (fun x hx=>⟨fun hs=>by have:=hS x hs;have:=hSa x hx;omega,by have:=hSa x hx;omega⟩) Fh
   have hvc:v'.cells=[v']:=by
    obtain⟨xss,q,_⟩:=u2;exact q.one.2
   have hel:(w4.fresh [V.str (fc.1.take 16),av]).elems 2 (.slice w4.next 0 1 (.known 1))=some (1,[V.str (fc.1.take 16),av]):=Tj Fh rfl;have hcc:V.cells (.agg [V.str (fc.1.take 16),av])=[V.str (fc.1.take 16),av]:=rfl;have hone:=hfcC.one;have hov2:over [V.str [],V.nilslice] 0 [V.str (fc.1.take 16),av]=some [V.str (fc.1.take 16),av]:=rfl;refine Fz (by simp only[go_sem,K5,h9,Hm,p5,p7,k2',hcc,Lg,Lj,hov2,FC,FD,hel,u1,p6,hwr];rfl) ?_;have hn5:=u3.next;refine ih _ _ _ Fh ⟨i+1,v',S5,fun x=>U x∨Sa x,(by simp only[go_sem,K5,p0]<;>rfl),(by simp only[go_sem,K5,p1]<;>rfl),Fb,Fb,by rw[e];exact u2,fun x hx=>?_,fun x hx=>?_,(g.tr g04).trans u3 (fun _ _ h=>h) fun x hx h=>by have:=(hS x h).1;omega,by omega,rfl⟩
   ·refine⟨?_,(u4 x hx).1,fun hh=>?_⟩
    ·rcases (u4 x hx).2 with h1|h1
     ·exact (hS x h1).1
     ·omega
    ·rcases (u4 x hx).2 with h1|h1
     ·rcases hh with hh|hh
      ·exact (hS x h1).2.2 hh
      ·have:=hS x h1;have:=hSa x hh;omega
     ·rcases hh with hh|hh
      ·have:=hU x hh;omega
      ·have:=hSa x hh;omega
   ·rcases hx with hh|hh
    ·have:=hU x hh;exact⟨this.1,by omega⟩
    ·have:=hSa x hh;exact⟨by omega,by omega⟩
 ·rintro f w ⟨ov,S,f5,hF,g,hS⟩;refine Fz (by simp only[go_sem,K5,f5];rfl) ?_;refine K7 ⟨_,by simp only[go_sem,K5,Y1];rfl,?_⟩;exact h w ov S hF g hS
end
section
open Go.AE Delphi Val
variable {tab:Tab}
variable {w:AW}
theorem JvV {S:Fw}{v:V}{l:List Int}(h:Bt S w v 1 l.length (Rel.rowC l)):Rel.RowV S w v l:=by
 generalize hn:l.length=n at h;generalize hc:Rel.rowC l=cs at h;cases h with
 | nil =>
  have:l=[]:=List.length_eq_zero_iff.1 hn;subst this;exact .nil
 | blk hS hb hx hl he hp hs =>
  subst hc;refine .blk hS hb hx ?_ hn;rcases hs with rfl|rfl|⟨f,F,h1,h2,h3,h4,_,_,h7⟩
  ·exact .inl rfl
  ·exact .inr (.inl rfl)
  ·exact .inr (.inr (.inr ⟨f,F,h1,h2,h3,h4,h7⟩))
def CP (s:List Int×List Tk) (c:Tk):List Int×List Tk:=(s.1++[Fq (idT s.2 c).1],(idT s.2 c).2)
def LJ (ts:List Tk) (args:List Tk):List Int×List Tk:=args.foldl CP ([],ts)
theorem Jjz (ts:List Tk)(args:List Tk)(c:Tk):LJ ts (args++[c])=CP (LJ ts args) c:=by unfold LJ;rw[List.foldl_append];rfl
theorem Ec (ts:List Tk)(args:List Tk):(LJ ts args).1.length=args.length∧(LJ ts args).2.length≤ts.length+args.length:=by
 have:∀(args:List Tk) (s:List Int×List Tk),(args.foldl CP s).1.length=s.1.length+args.length∧(args.foldl CP s).2.length≤s.2.length+args.length:=by
  intro args;induction args with
  | nil=>intro s;exact⟨rfl,FH _⟩
  | cons c args ih =>
   intro s;obtain⟨h1,h2⟩:=ih (CP s c);have h3:=Jln s.2 c;have h4:(CP s c).1.length=s.1.length+1:=by unfold CP;simp
   have h5:(CP s c).2.length≤s.2.length+1:=h3;rw[Ku,h1,h4,FC];exact⟨by omega,by omega⟩
 simpa[LJ]using this args ([],ts)
abbrev Bp:=List (List Nat×(Nat×List (List Int)))
def Ty (M:Bp) (f:Fc):Bp:=match K8 M f.1 with
 | none=>Ob M f.1 (f.2.length,[])
 | some _=>M
def BM (M:Bp) (f:Fc):Nat×List (List Int):=(K8 (Ty M f) f.1).getD (0,[])
def Dg (s:List Tk×Bp) (f:Fc):List Tk×Bp:=((LJ s.1 f.2).2,Ob (Ty s.2 f) f.1 ((BM s.2 f).1,BP (BM s.2 f).2 (LJ s.1 f.2).1))
def LC (ts:List Tk) (l:List Fc):List Tk×Bp:=l.foldl Dg (ts,[])
theorem N9 (ts:List Tk)(l:List Fc)(f:Fc):LC ts (l++[f])=Dg (LC ts l) f:=by unfold LC;rw[List.foldl_append];rfl
structure LaidW (B sm:Nat) (w:AW) (M:Bp) (MV:List (List Nat×V)) (Sf:List Nat→Fw):Prop where
 pm:PM w sm MV
 key:∀nm,K8 M nm=none→K8 MV nm=none
 set:∀nm x,K8 M nm=some x→∃p,K8 MV nm=some p∧Rel.SetOf (Sf nm) w p x.1 x.2
 dis:∀nm nm' x,Sf nm x→Sf nm' x→nm=nm'
 lo:∀nm x,Sf nm x→B≤x∧x<w.next∧x≠sm
theorem LaidW.frm {B sm:Nat}{w':AW}{M:Bp}{MV:List (List Nat×V)}{Sf:List Nat→Fw}{R:Fw}(h:LaidW B sm w M MV Sf)(g:Frm R w w')(hs:¬R sm)(hf:∀nm x,Sf nm x→¬R x):LaidW B sm w' M MV Sf:=
 ⟨h.pm.frm g hs,h.key,fun nm x hx=>by obtain⟨p,h1,h2⟩:=h.set nm x hx;exact⟨p,h1,h2.frm g (hf nm)⟩,h.dis,fun nm x hx=>by
  obtain⟨h1,h2,h3⟩:=h.lo nm x hx;have:=g.next;exact⟨h1,by omega,h3⟩⟩
structure LdF (f:Fr) (tb:Nat) (lv:V) (b5 i b4:Nat):Prop where
 f0:f.get 0=some (.ptr tb 0)
 f1:f.get 1=some lv
 f4:f.get 4=some (.ptr b4 0)
 f5:f.get 5=some (.ptr b5 0)
 f6:f.get 6=some (.int .i64 (Fq i))
theorem Jtt (C:Codes tab){T S:Fw}{tb mb b5 b4 i:Nat}{lv tv:V}{ts:List Tk}{fc:Fc}{f:Fr}{st:List SI}{Q:Fr→AW→Prop}(hx:Fcs T w lv l)(hfc:l[i]? = some fc)(hT:∀x,T x→x<w.next∧¬S x∧x≠tb∧x≠mb)(ht:TabW tb mb tv S ts w)(hts:ts.length≤50000)(hal:fc.2.length≤1000)(hok:∀t∈fc.2,TkOk t)(hF:LdF f tb lv b5 i b4)(f7:f.get 7=some .nilslice)(f8:f.get 8=some (.int .i64 (Fq 0)))(h:∀f' w' rv R tv' S',LdF f' tb lv b5 i b4→f'.get 7=some rv→Rel.RowV R w' rv (LJ ts fc.2).1→TabW tb mb tv' S' (LJ ts fc.2).2 w'→Frm (fun x=>S x∨x=tb∨x=mb) w w'→(∀x,S' x→S x∨w.next≤x)→(∀x,R x→w.next≤x∧x<w'.next)→WS tab st f' w' Q): WS tab (.code (.loop ZX) :: .endB 2::st) f w Q:=by
 have hil:i<l.length:=(List.getElem?_eq_some_iff.1 hfc).1;have htS:=ht.s
 refine LK (fun q f w1=>∃m rv R tv1 S1,LdF f tb lv b5 i b4∧f.get 7=some rv∧f.get 8=some (.int .i64 (Fq m))∧Bt R w1 rv 1 m (Rel.rowC (LJ ts (fc.2.take m)).1)∧TabW tb mb tv1 S1 (LJ ts (fc.2.take m)).2 w1∧Frm (fun x=>S x∨x=tb∨x=mb) w w1∧(∀x,S1 x→S x∨w.next≤x)∧(∀x,R x→w.next≤x∧x<w1.next∧¬S1 x)∧m≤fc.2.length∧q=fc.2.length-m)
  (fun f w1=>∃rv R tv1 S1,LdF f tb lv b5 i b4∧f.get 7=some rv∧Bt R w1 rv 1 fc.2.length (Rel.rowC (LJ ts fc.2).1)∧TabW tb mb tv1 S1 (LJ ts fc.2).2 w1∧Frm (fun x=>S x∨x=tb∨x=mb) w w1∧(∀x,S1 x→S x∨w.next≤x)∧(∀x,R x→w.next≤x∧x<w1.next)) ?_ ?_ fc.2.length
  ⟨0,.nilslice,fun _=>False,tv,S,hF,f7,f8,.nil,ht,Frm.refl _,fun x hx=> .inl hx,fun _ h=>h.elim,Nat.zero_le _,rfl⟩
 ·rintro q f w1 ⟨m,rv,R,tv1,S1,⟨f0,f1,f4,f5,f6⟩,f7,f8,hB,hT1,g,hS1,hR,hm,rfl⟩ ih out
  have hTR:∀x,T x→¬(S x∨x=tb∨x=mb):=fun x hx h=>by
   obtain⟨_,h1,h2,h3⟩:=hT x hx;rcases h with h|h|h
   ·exact h1 h
   ·exact h2 h
   ·exact h3 h
  obtain⟨b,o,c,xv,rfl,_,_,l2,l0,l1,hxa⟩:=Sw (hx.frm g hTR) hfc;have hxl:=hxa.lenV;by_cases hlt:m<fc.2.length
  case neg =>
   obtain rfl:m=fc.2.length:=Fh;rw[List.take_length]at hB hT1;refine Lb 1000 (by simp only[go_sem,ZX,f1,f6,f8,hil,l1,hxl,hlt];rfl) ?_;exact out _ _ _ ⟨rv,R,tv1,S1,⟨(Fg f0),(Fg f1),(Fg f4),(Fg f5),(Fg f6)⟩,(Fg f7),hB,hT1,g,hS1,fun x hx=>⟨(hR x hx).1,(hR x hx).2.1⟩⟩ rfl
  obtain⟨t,ht'⟩:∃t,fc.2[m]? = some t:=⟨_,FB hlt⟩;obtain⟨ab,ao,ac,rfl,a3⟩:=Jlk hxa ht';have hln:=(Ec ts (fc.2.take m)).2;rw[FU]at hln;refine Fz (by simp only[go_sem,K5,ZX,Hz,f0,f1,f6,f7,f8,hil,l1,hxl,hlt,a3,TE];rfl) ?_;refine K9 Ff Fe ?_;refine Nu C hT1 Fh (hok t (FI ht')) fun w2 tv2 S2 t2 g2 s2=>?_;have n1:=g.next;have n2:=g2.next
  have hRn:∀x,R x→¬(S1 x∨x=tb∨x=mb):=fun x hx h=>by
   have:=hR x hx;rcases h with h|h|h
   ·exact this.2.2 h
   ·have:=ht.a.lt;omega
   ·have:=ht.m.lt;omega
  have hB2:=hB.frm g2 hRn;obtain⟨v',w3,R3,u1,u2,u3,u4⟩:=hB2.push (news:=[.int .i64 (Fq (idT (LJ ts (fc.2.take m)).2 t).1)]) (bytes:=8) (fun x hx=>by have:=hR x hx;omega) Fh rfl rfl Fh Fh;have hel:(w2.fresh [.int .i64 (Fq (idT (LJ ts (fc.2.take m)).2 t).1)]).elems 1 (.slice w2.next 0 1 (.known 1))=some (1,[.int .i64 (Fq (idT (LJ ts (fc.2.take m)).2 t).1)]):=Tj Fh rfl;have hov:over [V.int .i64 0] 0 [.int .i64 (Fq (idT (LJ ts (fc.2.take m)).2 t).1)]=some [.int .i64 (Fq (idT (LJ ts (fc.2.take m)).2 t).1)]:=rfl;have hwr:KZ .i64 (Fq m+1)=Fq (m+1):=Lh Fh;refine Fz (by simp only[go_sem,K5,f7,Lg,Lj,hov,FC,FD,hel,u1,f8,hwr];rfl) ?_;have hRt:∀x,R x→x≠tb∧x≠mb:=fun x hx=>⟨fun e=>hRn x hx (.inr (.inl e)),fun e=>hRn x hx (.inr (.inr e))⟩
  have t3:TabW tb mb tv2 S2 (idT (LJ ts (fc.2.take m)).2 t).2 w3:=t2.step u3 (fun e=>(hRt _ e).1 rfl) (fun e=>(hRt _ e).2 rfl) fun x hx e=>by
   rcases s2 x hx with h|h
   ·exact (hR x e).2.2 h
   ·have:=(hR x e).2.1;omega
  have esn:LJ ts (fc.2.take (m+1))=((LJ ts (fc.2.take m)).1++[Fq (idT (LJ ts (fc.2.take m)).2 t).1],(idT (LJ ts (fc.2.take m)).2 t).2):=by rw[O7 ht',Jjz];rfl
  have n3:=u3.next;refine ih _ _ _ Fh ⟨m+1,v',R3,tv2,S2,⟨(Fg f0),(Fg f1),(Fg f4),(Fg f5),(Fg f6)⟩,Fb,Fb,?_,by rw[esn];exact t3,?_,fun x hx=>?_,fun x hx=>?_,by omega,rfl⟩
  ·rw[esn];have e:Rel.rowC ((LJ ts (fc.2.take m)).1++[Fq (idT (LJ ts (fc.2.take m)).2 t).1])=Rel.rowC (LJ ts (fc.2.take m)).1++[.int .i64 (Fq (idT (LJ ts (fc.2.take m)).2 t).1)]:=by unfold Rel.rowC;rw[List.map_append];rfl
   rw[e];exact u2
  ·refine (g.trans g2 (fun _ _ h=>h) fun x hx h=>?_).trans u3 (fun _ _ h=>h) fun x hx h=>by have:=(hR x h).1;omega
   rcases h with h|h|h
   ·rcases hS1 x h with h|h
    ·exact .inl h
    ·omega
   ·exact .inr (.inl h)
   ·exact .inr (.inr h)
  ·rcases s2 x hx with h|h
   ·exact hS1 x h
   ·right;omega
  ·refine⟨?_,(u4 x hx).1,fun hs=>?_⟩
   ·rcases (u4 x hx).2 with h|h
    ·exact (hR x h).1
    ·omega
   ·rcases (u4 x hx).2 with h|h
    ·rcases s2 x hs with h2|h2
     ·exact (hR x h).2.2 h2
     ·have:=(hR x h).2.1;omega
    ·have:=(t2.s x hs).1;omega
 ·rintro f w1 ⟨rv,R,tv1,S1,hF,h7,hB,hT1,g,hS1,hR⟩;have hl:=(Ec ts fc.2).1;exact h f w1 rv R tv1 S1 hF h7 (JvV (by rw[hl];exact hB)) hT1 g hS1 hR
end
section
open Go.AE Delphi Val
variable {tab:Tab}
variable {w:AW} {MV:List (List Nat×V)} {Sf:List Nat→Fw}
theorem LaidW.upd {B sm:Nat}{w':AW}{M:Bp}{MV':List (List Nat×V)}{R S':Fw}{nm:List Nat}{p:V}{x:Nat×List (List Int)}(h:LaidW B sm w M MV Sf)(g:Frm R w w')(hpm:PM w' sm MV')(hmv:∀n,K8 MV' n=if n=nm then some p else K8 MV n)(hset:Rel.SetOf S' w' p x.1 x.2)(hR:∀n y,n≠nm→Sf n y→¬R y)(hS':∀y,S' y→B≤y∧y<w'.next∧y≠sm∧∀n,n≠nm→¬Sf n y):LaidW B sm w' (Ob M nm x) MV' (fun n y=>if n=nm then S' y else Sf n y):=by
 refine⟨hpm,fun n hn=>?_,fun n y hn=>?_,fun n n' y h1 h2=>?_,fun n y hy=>?_⟩
 ·rw[hmv];by_cases he:n=nm
  ·subst he;rw[Bd]at hn;cases hn
  ·rw[if_neg he];rw[Ti _ _ _ _ he]at hn;exact h.key n hn
 ·by_cases he:n=nm
  ·subst he;rw[Bd]at hn;cases hn;refine⟨p,by rw[hmv,if_pos rfl],?_⟩;simp only[if_true];exact hset
  ·rw[Ti _ _ _ _ he]at hn;obtain⟨q,h1,h2⟩:=h.set n y hn;refine⟨q,by rw[hmv,if_neg he];exact h1,?_⟩;simp only[if_neg he];exact h2.frm g fun z hz=>hR n z he hz
 ·by_cases he:n=nm<;>by_cases he':n'=nm
  ·rw[he,he']
  ·simp only[if_pos he]at h1;simp only[if_neg he']at h2;exact absurd h2 ((hS' y h1).2.2.2 n' he')
  ·simp only[if_neg he]at h1;simp only[if_pos he']at h2;exact absurd h1 ((hS' y h2).2.2.2 n he)
  ·simp only[if_neg he]at h1;simp only[if_neg he']at h2;exact h.dis n n' y h1 h2
 ·by_cases he:n=nm
  ·simp only[if_pos he]at hy;have:=hS' y hy;exact⟨this.1,this.2.1,this.2.2.1⟩
  ·simp only[if_neg he]at hy;obtain⟨h1,h2,h3⟩:=h.lo n y hy;have:=g.next;exact⟨h1,by omega,h3⟩
structure FcsL (l:List Fc):Prop where
 len:l.length≤1000
 ok:∀f∈l,f.2.length≤4∧f.1.length≤16∧∀t∈f.2,TkOk t
 ar:∀f∈l,∀g∈l,f.1=g.1→f.2.length=g.2.length
structure LaidS (B sm tb mb b5:Nat) (w0 w:AW) (S0 S:Fw) (M:Bp) (MV:List (List Nat×V)) (Sf:List Nat→Fw):Prop where
 lw:LaidW B sm w M MV Sf
 box:CB w b5 [.map sm]
 sd:∀n x,Sf n x→¬S x∧x≠tb∧x≠mb∧x≠b5
 ss:∀x,S x→x≠sm∧x≠b5
 ne:sm≠tb∧sm≠mb∧b5≠tb∧b5≠mb∧sm≠b5
 f:Frm (fun x=>S0 x∨x=tb∨x=mb) w0 w
 s:∀x,S x→S0 x∨w0.next≤x
structure LaidP (l:List Fc) (M:Bp):Prop where
 ar:∀nm x,K8 M nm=some x→∃g∈l,g.1=nm∧x.1=g.2.length
 len:∀nm x,K8 M nm=some x→x.2.length≤l.length
variable {ts:List Tk}
theorem Ap (hl:FcsL l):LaidP l (LC ts l).2∧(LC ts l).1.length≤ts.length+4*l.length:=by
 suffices h:∀i,i≤l.length→LaidP (l.take i) (LC ts (l.take i)).2∧(LC ts (l.take i)).1.length≤ts.length+4*i by
  have:=h l.length (FH _)
  rwa [List.take_length]at this
 intro i;induction i with
 | zero=>intro _;exact⟨⟨fun nm x h=>by simp[LC,K8]at h,fun nm x h=>by simp[LC,K8]at h⟩,by simp[LC]⟩
 | succ i ih =>
  intro hi;obtain⟨h1,h2⟩:=ih Fh;obtain⟨fc,hfc⟩:∃fc,l[i]? = some fc:=⟨_,FB Fh⟩;have hfm:=FI hfc;rw[O7 hfc,N9];have hil:(l.take i).length=i:=by rw[FU];omega
  have hx:(BM (LC ts (l.take i)).2 fc).1=fc.2.length∧(BM (LC ts (l.take i)).2 fc).2.length≤i:=by
   unfold BM Ty;cases hg:K8 (LC ts (l.take i)).2 fc.1 with
   | none =>
    simp only;rw[Bd];exact⟨rfl,Nat.zero_le _⟩
   | some x =>
    simp only;rw[hg];obtain⟨g,hgm,hgn,hga⟩:=h1.ar _ _ hg;refine⟨?_,by have:=h1.len _ _ hg;rw[hil]at this;exact this⟩;show x.1=_;rw[hga];exact hl.ar g (List.mem_of_mem_take hgm) fc hfm hgn
  have h0:∀nm x,nm≠fc.1→K8 (Ty (LC ts (l.take i)).2 fc) nm=some x→K8 (LC ts (l.take i)).2 nm=some x:=by
   intro nm x hne h;unfold Ty at h;cases hg:K8 (LC ts (l.take i)).2 fc.1 with
   | none=>rw[hg]at h;simp only at h;rwa [Ti _ _ _ _ hne]at h
   | some y=>rw[hg]at h;exact h
  refine⟨⟨fun nm x h=>?_,fun nm x h=>?_⟩,?_⟩
  ·by_cases he:nm=fc.1
   ·subst he;unfold Dg at h;simp only at h;rw[Bd]at h;cases h;exact⟨fc,by simp,rfl,hx.1⟩
   ·unfold Dg at h;simp only at h;rw[Ti _ _ _ _ he]at h;obtain⟨g,h3,h4,h5⟩:=h1.ar _ _ (h0 nm x he h);exact⟨g,List.mem_append_left _ h3,h4,h5⟩
  ·rw[FE,hil,Kb];by_cases he:nm=fc.1
   ·subst he;unfold Dg at h;simp only at h;rw[Bd]at h;cases h;show (BP _ _).length≤_;have h6:=hx.2;unfold BP;split
    ·omega
    ·rw[Jnz];omega
   ·unfold Dg at h;simp only at h;rw[Ti _ _ _ _ he]at h;have:=h1.len _ _ (h0 nm x he h);rw[hil]at this;omega
  ·have:=(Ec (LC ts (l.take i)).1 fc.2).2;have h7:=(hl.ok fc hfm).1;show (LJ (LC ts (l.take i)).1 fc.2).2.length≤_;omega
theorem SetOf.ptr {S:Fw}{p:V}{n:Nat}{rows:Fy}(h:Rel.SetOf S w p n rows):∃b,p = .ptr b 0∧n≤4∧∀x,S x→x<w.next:=by
 obtain⟨bp,lv,cs,S0,T,rfl,h⟩:=h;exact⟨bp,rfl,h.w4,h.hS⟩
theorem Jts (C:Codes tab)(P:SL tab){B sm tb mb b5 b4 i:Nat}{T S0 S R:Fw}{lv tv rv:V}{fc:Fc}{M:Bp}{row:List Int}{x:Nat×List (List Int)}{w0:AW}{f:Fr}{st:List SI}{Q:Fr→AW→Prop}(hx:Fcs T w lv l)(hfc:l[i]? = some fc)(hT:∀y,T y→y<w.next∧∀n,¬Sf n y)(ht:TabW tb mb tv S ts w)(hL:LaidS B sm tb mb b5 w0 w S0 S M MV Sf)(hg:K8 M fc.1=some x)(hr:Rel.RowV R w rv row)(hrl:row.length=x.1)(hxl:x.2.length≤1000000)(hb4:b4<w.next∧∀n,¬Sf n b4)(hw0:w0.next≤B)(hBw:B≤w.next)(hF:LdF f tb lv b5 i b4)(f7:f.get 7=some rv)(h:∀f' w' Sf',LdF f' tb lv b5 i b4→TabW tb mb tv S ts w'→LaidS B sm tb mb b5 w0 w' S0 S (Ob M fc.1 (x.1,BP x.2 row)) MV Sf'→Frm (fun y=>Sf fc.1 y) w w'→(∀n y,Sf' n y→Sf n y∨w.next≤y)→WS tab st f' w' Q): WS tab (.code Y9::st) f w Q:=by
 obtain⟨f0,f1,f4,f5,f6⟩:=hF;have hil:i<l.length:=(List.getElem?_eq_some_iff.1 hfc).1;obtain⟨b,o,c,xv,rfl,_,_,l2,l0,l1,hxa⟩:=Sw hx hfc;obtain⟨p,hp,hset⟩:=hL.lw.set fc.1 x hg;obtain⟨bp,rfl,hw4,hSn⟩:=SetOf.ptr hset;have look:=hL.lw.pm.look BB .nilptr fc.1;rw[hp]at look;have look:w.lookV (.scalar .str) .nilptr (.map sm) (.str fc.1)=some (.ptr bp 0,true):=look;have k0:w.load b5 0 1=some [.map sm]:=CB.ld hL.box 0 1 _ rfl;refine Fz (by simp only[go_sem,K5,Y9,f1,f5,f6,f7,k0,hil,l0,look];rfl) ?_;refine K9 Ff Fe ?_
 have same:∀n,K8 MV n=if n=fc.1 then some (.ptr bp 0)else K8 MV n:=fun n=>by
  by_cases he:n=fc.1
  ·rw[if_pos he,he,hp]
  ·rw[if_neg he]
 have hsm:=hL.lw.pm.lt;refine Rel.add_ok C P hset hr hxl Fh (fun hn=>?_) fun hw hn w2 So2 g1 g2 g3=>?_
 ·have e:BP x.2 row=x.2:=by
   unfold BP;rw[if_pos];exact Classical.byContradiction fun hc=>hn ⟨hrl,hc⟩
  rw[e]at h
  have hu:=hL.lw.upd (nm:=fc.1) (x:=(x.1,x.2)) (Frm.refl (S:=fun _=>False) w) hL.lw.pm same hset (fun _ _ _ _ h=>h) (fun y hy=>by
   have:=hL.lw.lo fc.1 y hy;exact⟨this.1,this.2.1,this.2.2,fun n hne hy'=>hne (hL.lw.dis n fc.1 y hy' hy)⟩)
  refine Lb 1 Fe ?_;refine h _ _ _ ⟨(Fg f0),(Fg f1),(Fg f4),(Fg f5),(Fg f6)⟩ ht ⟨hu,hL.box,fun n y hy=>?_,hL.ss,hL.ne,hL.f,hL.s⟩ (Frm.refl _) fun n y hy=>?_
  ·by_cases he:n=fc.1
   ·rw[if_pos he]at hy;exact hL.sd _ y hy
   ·rw[if_neg he]at hy;exact hL.sd _ y hy
  ·by_cases he:n=fc.1
   ·rw[if_pos he]at hy;rw[he];exact .inl hy
   ·rw[if_neg he]at hy;exact .inl hy
 ·have e:BP x.2 row=Rel.insR x.2 row:=by unfold BP;rw[if_neg hn]
  rw[e]at h;have hnS:∀y,Sf fc.1 y→y<w.next:=fun y hy=>(hL.lw.lo fc.1 y hy).2.1;have hpm:PM w2 sm MV:=hL.lw.pm.frm g2 fun hh=>(hL.lw.lo fc.1 sm hh).2.2 rfl
  have hu:=hL.lw.upd (nm:=fc.1) (x:=(x.1,Rel.insR x.2 row)) g2 hpm same g1 (fun n y hne hy hh=>hne (hL.lw.dis n fc.1 y hy hh)) (fun y hy=>by
   rcases (g3 y hy).2 with h1|h1
   ·have:=hL.lw.lo fc.1 y h1;exact⟨this.1,(g3 y hy).1,this.2.2,fun n hne hy'=>hne (hL.lw.dis n fc.1 y hy' h1)⟩
   ·exact⟨by omega,(g3 y hy).1,by omega,fun n _ hy'=>by have:=(hL.lw.lo n y hy').2.1;omega⟩)
  have t2:=ht.step g2 (fun hh=>(hL.sd _ _ hh).2.1 rfl) (fun hh=>(hL.sd _ _ hh).2.2.1 rfl) fun y hy hh=>(hL.sd _ y hh).1 hy;have hSS:=ht.s;have htb:=ht.a.lt;have hmb:=ht.m.lt;have hbx:=hL.box.lt;refine Lb 1 Fe ?_;refine h _ _ _ ⟨(Fg f0),(Fg f1),(Fg f4),(Fg f5),(Fg f6)⟩ t2 ⟨hu,hL.box.frm g2 fun hh=>(hL.sd _ _ hh).2.2.2 rfl,fun n y hy=>?_,hL.ss,hL.ne,?_,hL.s⟩ g2 fun n y hy=>?_
  ·by_cases he:n=fc.1
   ·rw[if_pos he]at hy;rcases (g3 y hy).2 with h1|h1
    ·exact hL.sd _ y h1
    ·exact⟨fun hs=>by have:=(hSS y hs).1;omega,by omega,by omega,by omega⟩
   ·rw[if_neg he]at hy;exact hL.sd _ y hy
  ·exact hL.f.trans g2 (fun _ _ h=>h) fun y hy hh=>by have:=(hL.lw.lo fc.1 y hh).1;omega
  ·by_cases he:n=fc.1
   ·rw[if_pos he]at hy;rcases (g3 y hy).2 with h1|h1
    ·rw[he];exact .inl h1
    ·exact .inr h1
   ·rw[if_neg he]at hy;exact .inl hy
end
section
open Go.AE Delphi Val
variable {tab:Tab}
theorem Jl2 (M:Bp)(f:Fc):K8 (Ty M f) f.1=some (BM M f):=by
 unfold BM Ty;cases hg:K8 M f.1 with
 | none=>simp only;rw[Bd];rfl
 | some x=>simp only;rw[hg];rfl
theorem Jlo (C:Codes tab)(P:SL tab){T S:Fw}{tb mb:Nat}{lv tv:V}{ts:List Tk}{aw:AW}{K:V→AW→Prop}(hx:Fcs T aw lv l)(hl:FcsL l)(hT:∀x,T x→x<aw.next∧¬S x∧x≠tb∧x≠mb)(ht:TabW tb mb tv S ts aw)(hts:ts.length≤20000)(h:∀w sm b5 tv' S' MV Sf,TabW tb mb tv' S' (LC ts l).1 w→LaidS (aw.next+1) sm tb mb b5 aw w S S' (LC ts l).2 MV Sf→aw.next≤sm→K (.agg [.map sm]) w):WF tab YD [.ptr tb 0,lv] aw K:=by
 refine Ld C.Xa rfl ?_;have hlv:=hx.lenV;have htb:=ht.a.lt;have hmb:=ht.m.lt;have hSl:∀x,S x→x<aw.next:=fun x hx=>(ht.s x hx).1;obtain⟨w1,e1,c1,r1,m1⟩:=Oe aw [V.nilmap];have cm:PM (w1.new (.map [] 0)) w1.next ([]:List (List Nat×V)):=MB.new w1;have fm:Frm (fun _=>False) w1 (w1.new (.map [] 0)):=CY w1;have nm1:(w1.new (.map [] 0)).next=w1.next+1:=rfl;generalize hw2:w1.new (.map [] 0)=w2 at cm fm nm1;obtain⟨w3,s3,c3,r3,n3⟩:=Oj w2 (zs:=[V.nilmap]) (vs:=[V.map w1.next]) rfl rfl;have f01:=r1.tr (fm.tr r3);have hov:over [V.nilmap] 0 [V.map w1.next]=some [V.map w1.next]:=rfl;have hll:=hl.len;refine Fz (by simp only[go_sem,K5,ZZ,HA,e1,hw2,Lg,Lj,Am,hov,FC,FD,s3];rfl) ?_;have n1:=r1.next
 refine LK (fun q f w=>∃i tv' S' MV Sf,LdF f tb lv w2.next i aw.next∧TabW tb mb tv' S' (LC ts (l.take i)).1 w∧LaidS (aw.next+1) w1.next tb mb w2.next aw w S S' (LC ts (l.take i)).2 MV Sf∧CB w aw.next [.nilmap]∧(∀n y,Sf n y→w2.next<y)∧(∀y,S' y→y≠aw.next)∧i≤l.length∧q=l.length-i)
  (fun f w=>∃tv' S' MV Sf,f.get 4=some (.ptr aw.next 0)∧f.get 5=some (.ptr w2.next 0)∧TabW tb mb tv' S' (LC ts l).1 w∧LaidS (aw.next+1) w1.next tb mb w2.next aw w S S' (LC ts l).2 MV Sf∧CB w aw.next [.nilmap]∧(∀n y,Sf n y→w2.next<y)∧(∀y,S' y→y≠aw.next)) ?_ ?_ l.length
  ⟨0,tv,S,[],fun _ _=>False,⟨Fb,Fb,Fb,Fb,Fb⟩,ht.step0 f01,⟨⟨cm.frm r3 fun h=>h,fun nm h=>rfl,fun nm x h=>by simp[LC,K8]at h,fun _ _ _ h=>h.elim,fun _ _ h=>h.elim⟩,c3,fun _ _ h=>h.elim,fun x hx=>by have:=hSl x hx;exact⟨by omega,by omega⟩,⟨by omega,by omega,by omega,by omega,by omega⟩,f01.no,fun x hx=> .inl hx⟩,(c1.frm (fm.tr r3) fun h=>h),fun _ _ h=>h.elim,fun y hy=>by have:=hSl y hy;omega,Nat.zero_le _,rfl⟩
 ·rintro q f w ⟨i,tv',S',MV,Sf,⟨f0,f1,f4,f5,f6⟩,htw,hLw,hbx,hSf,hSa,hi,rfl⟩ ih out;by_cases hil:i<l.length
  case neg =>
   obtain rfl:i=l.length:=Fh;rw[List.take_length]at htw hLw;refine Lb 1000 (by simp only[go_sem,ZY,f1,f6,hlv,hil];rfl) ?_;exact out _ _ _ ⟨tv',S',MV,Sf,(Fg f4),(Fg f5),htw,hLw,hbx,hSf,hSa⟩ rfl
  obtain⟨fc,hfc⟩:∃fc,l[i]? = some fc:=⟨_,FB hil⟩;have hfm:=FI hfc;obtain⟨ha4,hn16,hok⟩:=hl.ok fc hfm;have hpi:LaidP (l.take i) (LC ts (l.take i)).2∧(LC ts (l.take i)).1.length≤ts.length+4*(l.take i).length:=Ap ⟨by rw[FU];omega,fun f hf=>hl.ok f (List.mem_of_mem_take hf),fun f hf g hg=>hl.ar f (List.mem_of_mem_take hf) g (List.mem_of_mem_take hg)⟩;have hit:(l.take i).length=i:=by rw[FU];omega
  rw[hit]at hpi
  have hTR:∀x,T x→¬(S x∨x=tb∨x=mb):=fun x hx h=>by
   obtain⟨_,h1,h2,h3⟩:=hT x hx;rcases h with h|h|h
   ·exact h1 h
   ·exact h2 h
   ·exact h3 h
  have gn:=hLw.f.next
  have hTw:∀{w':AW} {S2:Fw},w.next≤w'.next→(∀x,S2 x→S x∨aw.next≤x)→∀x,T x→x<w'.next∧¬S2 x∧x≠tb∧x≠mb:=fun hn hs x hx=>by
   obtain⟨h0,h1,h2,h3⟩:=hT x hx;exact⟨by omega,fun hh=>by rcases hs x hh with h|h;exact h1 h;omega,h2,h3⟩
  have hxw:=hx.frm hLw.f hTR;obtain⟨b,o,c,xv,rfl,_,_,l2,l0,l1,hxa⟩:=Sw hxw hfc;have hxl:=hxa.lenV;have look:=hLw.lw.pm.look BB .nilptr fc.1;have k0:w.load w2.next 0 1=some [.map w1.next]:=CB.ld hLw.box 0 1 _ rfl;have hwr:KZ .i64 (Fq i+1)=Fq (i+1):=Lh Fh;have hb5:=hLw.box.lt;have esn:LC ts (l.take (i+1))=Dg (LC ts (l.take i)) fc:=by rw[O7 hfc,N9]
  have hx1:(BM (LC ts (l.take i)).2 fc).1=fc.2.length∧(BM (LC ts (l.take i)).2 fc).2.length≤i:=by
   unfold BM Ty;cases hg:K8 (LC ts (l.take i)).2 fc.1 with
   | none=>simp only;rw[Bd];exact⟨rfl,Nat.zero_le _⟩
   | some x =>
    simp only;rw[hg];obtain⟨g,hgm,hgn,hga⟩:=hpi.1.ar _ _ hg;refine⟨?_,by have:=hpi.1.len _ _ hg;rw[hit]at this;exact this⟩;show x.1=_;rw[hga];exact hl.ar g (List.mem_of_mem_take hgm) fc hfm hgn
  have rest:∀(fr:Fr) (w4:AW) (MV4:List (List Nat×V)) (Sf4:List Nat→Fw),LdF fr tb (.slice b o l.length c) w2.next i aw.next→fr.get 7=some .nilslice→fr.get 8=some (.int .i64 (Fq 0))→w.next≤w4.next→TabW tb mb tv' S' (LC ts (l.take i)).1 w4→LaidS (aw.next+1) w1.next tb mb w2.next aw w4 S S' (Ty (LC ts (l.take i)).2 fc) MV4 Sf4→CB w4 aw.next [.nilmap]→(∀n y,Sf4 n y→w2.next<y)→WS tab (.code (.loop ZX) :: .endB 2 :: .code Y9 :: .endB 1 :: .code (.region [⟨some 15,none,.mov (.tmp 6)⟩,⟨some 16,none,.bin .add (.tmp 15) (.const (.int .i64 1))⟩,⟨some 6,none,.mov (.tmp 16)⟩]) :: .code (.loop ZY) :: .endB 0::[.code (.seq (.region [⟨some 73,none,.load 1 true (.tmp 5)⟩,⟨none,none,.store 1 (.tmp 4) (.tmp 73)⟩]) .ret)]) fr w4 (fun fr' aw'=>∃vs,Ox fr' aw' ZZ.results=some vs∧K (Oy vs) aw'):=by
   intro fr w4 MV4 Sf4 hF4 h7 h8 hn4 ht4 hL4 hb4 hSf4;have hx4:=hx.frm hL4.f hTR;refine Jtt (i:=i) C hx4 hfc (hTw hn4 fun x hx=>hLw.s x hx) ht4 Fh Fh hok hF4 h7 h8 fun f5 w5 rv R tv5 S5 hF5 g7 hrv t5 g5 s5 hR5=>?_;have n5:=g5.next;have hn4':=hL4.f.next
   have d5:∀n x,Sf4 n x→¬(S' x∨x=tb∨x=mb):=fun n x hx h=>by
    obtain⟨h1,h2,h3,_⟩:=hL4.sd n x hx;rcases h with h|h|h
    ·exact h1 h
    ·exact h2 h
    ·exact h3 h
   have hL5:LaidS (aw.next+1) w1.next tb mb w2.next aw w5 S S5 (Ty (LC ts (l.take i)).2 fc) MV4 Sf4:=by
    refine⟨hL4.lw.frm g5 (fun h=>?_) d5,hL4.box.frm g5 (fun h=>?_),fun n x hx=>⟨fun hs=>?_,(hL4.sd n x hx).2⟩,fun x hx=>?_,hL4.ne,?_,fun x hx=>?_⟩
    ·rcases h with h|h|h
     ·exact (hL4.ss _ h).1 rfl
     ·exact hL4.ne.1 h
     ·exact hL4.ne.2.1 h
    ·rcases h with h|h|h
     ·exact (hL4.ss _ h).2 rfl
     ·exact hL4.ne.2.2.1 h
     ·exact hL4.ne.2.2.2.1 h
    ·rcases s5 x hs with h|h
     ·exact (hL4.sd n x hx).1 h
     ·have:=(hL4.lw.lo n x hx).2.1;omega
    ·rcases s5 x hx with h|h
     ·exact hL4.ss x h
     ·have:=hL4.box.lt;have:=hL4.lw.pm.lt;exact⟨by omega,by omega⟩
    ·refine hL4.f.trans g5 (fun _ _ h=>h) fun x hx h=>?_;rcases h with h|h|h
     ·rcases hLw.s x h with h|h
      ·exact .inl h
      ·omega
     ·exact .inr (.inl h)
     ·exact .inr (.inr h)
    ·rcases s5 x hx with h|h
     ·exact hLw.s x h
     ·right;omega
   have hb5':=hb4.frm g5 (fun h=>by
    rcases h with h|h|h
    ·exact hSa _ h rfl
    ·omega
    ·omega)
   have hrl:=(Ec (LC ts (l.take i)).1 fc.2).1;have hxw5:=hx.frm hL5.f hTR;refine Jts (x:=BM (LC ts (l.take i)).2 fc) C P hxw5 hfc (fun y hy=>⟨by have:=(hT y hy).1;omega,fun n hs=>by have:=(hL5.lw.lo n y hs).1;have:=(hT y hy).1;omega⟩) t5 hL5 (Jl2 _ _) hrv (by rw[hrl,hx1.1]) Fh ⟨hb5'.lt,fun n hs=>by have:=(hL5.lw.lo n _ hs).1;omega⟩ Fh Fh hF5 g7 fun f6 w6 Sf6 hF6 t6 hL6 g6 s6=>?_;obtain⟨p0,p1,p4,p5,p6⟩:=hF6;have n6:=g6.next;refine Fz (by simp only[go_sem,K5,p6,hwr];rfl) ?_;refine ih _ _ _ Fh ⟨i+1,tv5,S5,MV4,Sf6,⟨(by simp only[go_sem,K5,p0]<;>rfl),(by simp only[go_sem,K5,p1]<;>rfl),(by simp only[go_sem,K5,p4]<;>rfl),(by simp only[go_sem,K5,p5]<;>rfl),Fb⟩,?_,?_,hb5'.frm g6 (fun hs=>by have:=(hL5.lw.lo _ _ hs).1;omega),fun n y hy=>?_,fun y hy=>?_,by omega,rfl⟩
   ·rw[esn];exact t6
   ·rw[esn];exact hL6
   ·rcases s6 n y hy with h|h
    ·exact hSf4 n y h
    ·have:=hL4.box.lt;omega
   ·rcases s5 y hy with h|h
    ·exact hSa y h
    ·have:=hb4.lt;omega
  cases hg:K8 (LC ts (l.take i)).2 fc.1 with
  | some x =>
   have e0:Ty (LC ts (l.take i)).2 fc=(LC ts (l.take i)).2:=by unfold Ty;rw[hg]
   obtain⟨p,hp,hset⟩:=hLw.lw.set _ _ hg;obtain⟨bp,rfl,_⟩:=SetOf.ptr hset;rw[hp]at look;have look:w.lookV (.scalar .str) .nilptr (.map w1.next) (.str fc.1)=some (.ptr bp 0,true):=look;have hpn:eqV .ptr (.ptr bp 0) .nilptr=some false:=rfl;refine Fz (by simp only[go_sem,K5,ZY,V6,f1,f5,f6,hlv,hil,k0,l0,look,hpn];rfl) ?_;exact rest _ w MV Sf ⟨(Fg f0),(Fg f1),(Fg f4),(Fg f5),(Fg f6)⟩ Fb Fb (FH _) htw (by rw[e0];exact hLw) hbx hSf
  | none =>
   have e0:Ty (LC ts (l.take i)).2 fc=Ob (LC ts (l.take i)).2 fc.1 (fc.2.length,[]):=by unfold Ty;rw[hg]
   have hmn:=hLw.lw.key _ hg;rw[hmn]at look;have look:w.lookV (.scalar .str) .nilptr (.map w1.next) (.str fc.1)=some (.nilptr,false):=look;have hpn:eqV .ptr .nilptr .nilptr=some true:=rfl;refine Fz (by simp only[go_sem,K5,ZY,V6,f1,f5,f6,hlv,hil,k0,l0,look,hpn,Hy];rfl) ?_;refine Bo ?_;refine LU 100 (by simp only[go_sem,K5,f1,f5,f6,hil,k0,l0,l1,hxl];rfl) ?_;refine BJ Ff Fe ?_;refine Rel.new_ok C ha4 fun w4 hset g4 n4=>?_;have k0':w4.load w2.next 0 1=some [.map w1.next]:=CB.ld (hLw.box.frm g4 fun h=>h) 0 1 _ rfl
   have l0':w4.load b (o+i*2) 1=some [.str fc.1]:=by
    obtain⟨b',o',c',xv',e',_,_,_,q0,_,_⟩:=Sw (hxw.frm g4 fun _ _ h=>h) hfc;cases e';exact q0
   obtain⟨w5,u1,u2,u3,u4⟩:=(hLw.lw.pm.frm g4 fun h=>h).put BB fc.1 (.ptr w.next 0)
   have hMp:∀n,K8 (Ob MV fc.1 (V.ptr w.next 0)) n=if n=fc.1 then some (.ptr w.next 0)else K8 MV n:=fun n=>by
    by_cases he:n=fc.1
    ·rw[if_pos he,he,Bd]
    ·rw[if_neg he,Ti _ _ _ _ he]
   have hsml:=hLw.lw.pm.lt;have g45:Frm (fun y=>y=w1.next) w w5:=g4.no.tr u3
   have hup:=hLw.lw.upd (nm:=fc.1) (x:=(fc.2.length,[])) g45 u2 hMp (hset.frm u3 fun x hx e=>by omega) (fun n y _ hy e=>(hLw.lw.lo n y hy).2.2 e) (fun y hy=>by
    subst hy;exact⟨by omega,by omega,by omega,fun n _ hs=>by have:=(hLw.lw.lo n _ hs).2.1;omega⟩)
   refine LU 100 (by simp only[go_sem,K5,f1,f6,hil,u1];rfl) ?_;refine O1 ⟨(show LF _ _ [(1,13),(6,13)]from by simp only[go_sem,K5,LF,chk,List.reverse_cons,List.reverse_nil,O8,O6,O4,O5,List.getElem?_nil,false_or,or_true,or_false,exists_eq',FQ,Prod.mk.injEq,Bool.true_eq_false,FM,and_true,true_and,implies_true,k0,k0',l0,l0']),?_⟩;have hn5:=g45.next;have hn5':=u3.next;have hSS:=htw.s;refine K6 1000 Fe ?_;refine rest _ w5 _ _ ⟨(Fg f0),(Fg f1),(Fg f4),(Fg f5),(Fg f6)⟩ Fb Fb Fh (htw.step g45 (fun e=>by omega) (fun e=>by omega) fun x hx e=>(hLw.ss x hx).1 e) ⟨by rw[e0];exact hup,hLw.box.frm g45 (fun e=>by have:=hLw.ne;omega),fun n x hx=>?_,hLw.ss,hLw.ne,?_,hLw.s⟩ (hbx.frm g45 fun e=>by omega) fun n y hy=>?_
   ·by_cases he:n=fc.1
    ·rw[if_pos he]at hx;exact⟨fun hs=>by have:=(hSS x hs).1;omega,by omega,by omega,by omega⟩
    ·rw[if_neg he]at hx;exact hLw.sd n x hx
   ·exact hLw.f.trans g45 (fun _ _ h=>h) fun x hx e=>by omega
   ·by_cases he:n=fc.1
    ·rw[if_pos he]at hy;omega
    ·rw[if_neg he]at hy;exact hSf n y hy
 ·rintro f w ⟨tv',S',MV,Sf,f4,f5,htw,hLw,hbx,hSf,hSa⟩;have k0:w.load w2.next 0 1=some [.map w1.next]:=CB.ld hLw.box 0 1 _ rfl;have st:=hbx.setAll (vs:=[V.map w1.next]) rfl rfl;have c4:=Oc (l:=[V.map w1.next]) hbx.lt;have g4:Frm (fun x=>x=aw.next) w (w.put aw.next [V.map w1.next]):=LW;have k4:(w.put aw.next [V.map w1.next]).load aw.next 0 1=some [.map w1.next]:=CB.ld c4 0 1 _ rfl;have hcm:V.cells (.agg [.map w1.next])=[V.map w1.next]:=rfl;refine Fz (by simp only[go_sem,K5,f4,f5,k0,FC,FD,st,hcm];rfl) ?_;refine K7 ⟨_,by simp only[go_sem,K5,ZZ,f4,k4];rfl,?_⟩;have d4:∀n x,Sf n x→¬x=aw.next:=fun n x hx e=>by have:=(hLw.lw.lo n x hx).1;omega
  refine h _ w1.next w2.next tv' S' MV Sf (htw.step g4 Fh Fh fun x hx e=>hSa x hx e) ⟨hLw.lw.frm g4 Fh d4,hLw.box.frm g4 Fh,hLw.sd,hLw.ss,hLw.ne,?_,hLw.s⟩ Fh;exact hLw.f.trans g4 (fun _ _ h=>h) fun x hx e=>by omega
end
end Go.Proofs.YtegdcbdicpfbpaaGreatDoor
