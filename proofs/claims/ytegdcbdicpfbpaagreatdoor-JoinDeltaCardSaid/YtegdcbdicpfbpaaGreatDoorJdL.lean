/- A part of the proof. -/
import Derived.Test.YtegdcbdicpfbpaaGreatDoorJdK
import Derived.Test.YtegdcbdicpfbpaaGreatDoorJdI
import Derived.Test.YtegdcbdicpfbpaaGreatDoorJdH
open Int renaming ofNat → Fq
open Go.IntKind renaming wrap → KZ
set_option linter.unusedVariables false
set_option maxRecDepth 10000
set_option linter.unusedSimpArgs false
namespace Go.Proofs.YtegdcbdicpfbpaaGreatDoor
open Go.AE Delphi
variable {tab:Tab}
def RlC (T:Fw) (w:AW) (r:Rl) (xs:List V):Prop:=∃v u,xs=[.int .i64 (Fq r.head.kind),.str r.head.name,v,u]∧Rd T w v 3 r.head.args.length (L8 r.head.args)∧RdL (LtC T) T w u 3 r.body
variable {T:Fw} {w:AW} {r:Rl} {xs:List V}
theorem RlC.frm {S:Fw}{w':AW}(h:RlC T w r xs)(hf:Frm S w w')(hd:∀x,T x→¬S x):RlC T w' r xs:=by
 obtain⟨v,u,h1,h2,h3⟩:=h;exact⟨v,u,h1,h2.frm hf hd,h3.frm (fun _ _ h=>h.frm hf hd) hf hd⟩
theorem C8 {T':Fw}{u:V}{l:List Lt}(h:RdL (LtC T) T w u 3 l)(ht:∀x,T x→T' x):RdL (LtC T') T' w u 3 l:=by
 obtain⟨xss,h1,h2⟩:=h;exact⟨xss,h1.mono ht,h2.imp fun _ _ h=>h.mono ht⟩
theorem RlC.mono {T':Fw}(h:RlC T w r xs)(ht:∀x,T x→T' x):RlC T' w r xs:=by
 obtain⟨v,u,h1,h2,h3⟩:=h;exact⟨v,u,h1,h2.mono ht,C8 h3 ht⟩
theorem RlC.one (h:RlC T w r xs):xs.length=4∧Lv xs=true:=by
 obtain⟨v,u,rfl,h2,xss,h3,_⟩:=h;refine⟨rfl,?_⟩;rcases h2.inv with⟨rfl,_⟩|⟨_,_,_,rfl,_⟩<;>rcases h3.inv with⟨rfl,_⟩|⟨_,_,_,rfl,_⟩<;>rfl
theorem Jow (C:Codes tab){Tw:Fw}{a:AW}{bp k:Nat}{wv:V}{ws:List Wd}{v5 v7:V}{f:Fr}{s:List SI}{Q:Fr→AW→Prop}(hp:PSt a bp wv k 0)(hw:Wds Tw a bp wv ws)(hok:∀x∈ws,WOk x)(hT:∀x,Tw x→x<a.next)(hk:k≤ws.length)(f5:f.get 5=some v5)(f6:f.get 6=some (.ptr bp 0))(f7:f.get 7=some v7)(h:∀f' w T xs n8,BF f' bp n8 v5 v7→PSt w bp wv (OT ws k 0).2.1 (OT ws k 0).2.2→Frm (fun b=>b=bp) a w→CB w n8 xs→a.next≤n8→RlC T w (OT ws k 0).1 xs→(∀x,T x→a.next≤x∧x<w.next∧x≠n8)→WS tab (.code Zp::s) f' w Q):WS tab (.code Uh::s) f a Q:=by
 have hlt:=hp.lt;have hwl:=hw.len;refine K6 1000 (by simp only[go_sem,K5,Uh,f6];rfl) ?_;refine K9 (by simp only[go_sem,K5]) (by simp only[go_sem,K5];rfl) ?_;refine QU C hp hw hok hT hk fun w1 TH xs q1 q2 q3 q4=>?_;have hk1:=MX (e:=0) hk;generalize hrt:Lu ws k 0=rt at q1 q3 hk1;obtain⟨hd,k1,e1⟩:=rt;simp only at q1 q3 hk1;obtain⟨hv,rfl,hrd⟩:=q3;have hvone:Lv [V.int .i64 (Fq hd.kind),V.str hd.name,hv,.nilslice]=true:=by rcases hrd.inv with⟨rfl,_⟩|⟨_,_,_,rfl,_⟩<;>rfl
 obtain⟨w2,s2,c2,r2,n2⟩:=Oj w1 (zs:=[V.int .i64 0,V.str [],V.nilslice,V.nilslice]) (vs:=[V.int .i64 (Fq hd.kind),V.str hd.name,hv,.nilslice]) rfl hvone;have n1:=q2.next;have p2:=q1.frm r2 fun h=>h;have f02:Frm (fun b=>b=bp) a w2:=q2.tr r2.no;have hw2:=hw.frm f02 fun y hy he=>hw.no (he▸hy);have hn8:¬w1.next=bp:=Fh;have hrd2:=hrd.frm r2 fun _ _ h=>h;have l2:=p2.l2;have g5:f.get 5=some v5:=f5
 have fin:∀{fr:Fr} {w:AW} {body:List Lt} {k' e':Nat} {bv:V} {S T:Fw} {xss:List (List V)},BF fr bp w1.next v5 v7→fr.get 93=some (.ptr bp 0)→k'≤ws.length→BS a w bp w1.next wv hd hv body k' e' bv S T xss→OT ws k 0=(⟨hd,body⟩,(BQ ws [46] k' e').1,(BQ ws [46] k' e').2)→WS tab (.ops [⟨some 94,none,.call (.const (.func (.func YG) [] [])) [(.tmp 93),(.const (.str [46]))]⟩] :: .code Zp::s) fr w Q:=by
  rintro fr w body k' e' bv S T xss ⟨g5,g6,g7,g8⟩ g93 hk' hA hr;refine K9 (by simp only[EW]) (by simp only[go_sem,g93];rfl) ?_;have hww:=hw.frm hA.frm fun y hy he=>hw.no (he▸hy);refine Jpt C hA.p hww Fh fun w6 u1 u2 u3=>?_;refine Lb 1000 (by simp only[go_sem,K5];rfl) ?_;rw[hr]at h;have nS:∀x,S x→¬x=bp:=fun x hx he=>by have:=(hA.sepS x hx).1;omega
  have nT:∀x,T x→¬x=bp:=fun x hx he=>by have:=(hA.sepT x hx).1;omega
  have n6:=u2.next;refine h _ w6 (fun x=>S x∨T x) _ w1.next ⟨(by simp only[go_sem,K5,g5]<;>rfl),(by simp only[go_sem,K5,g6]<;>rfl),(by simp only[go_sem,K5,g7]<;>rfl),(by simp only[go_sem,K5,g8]<;>rfl)⟩ u1 (hA.frm.tr u2) (hA.rule.frm u2 hn8) n1 ⟨hv,bv,rfl,(hA.head.frm u2 nT).mono fun _ h=> .inr h,xss,(hA.buf.rd.frm u2 nS).mono fun _ h=> .inl h,hA.lits.imp fun l ys hl=>(hl.frm u2 nT).mono fun _ h=> .inr h⟩ ?_;rintro x (hx|hx)
  ·have:=hA.sepS x hx;exact⟨this.1,by omega,this.2.2.1⟩
  ·have:=hA.sepT x hx;exact⟨this.1,by omega,this.2.2⟩
 have hA0:BS a w2 bp w1.next wv hd hv [] k1 e1 .nilslice (fun _=>False) TH []:=⟨p2,f02,c2,hrd2,.nil,.nil,fun _ h=>h.elim,fun x hx=>by have:=q4 x hx;exact⟨this.1,by omega,by omega⟩⟩;have hov:over [V.int .i64 0,V.str [],V.nilslice,V.nilslice] 0 [V.int .i64 (Fq hd.kind),V.str hd.name,hv]=some [V.int .i64 (Fq hd.kind),V.str hd.name,hv,.nilslice]:=rfl;refine K6 1000 (by simp only[go_sem,K5,f6,Lg,Lj,hov,s2,HR,FC,FD];rfl) ?_;refine K9 (by simp only[go_sem,K5]) (by simp only[go_sem,K5];rfl) ?_;refine DI C p2 hw2 ?_;cases hs:OY ws k1 [58,45]with
 | false =>
  have hr:OT ws k 0=(⟨hd,[]⟩,(BQ ws [46] k1 e1).1,(BQ ws [46] k1 e1).2):=by
   unfold OT;rw[hrt];simp only[hs,FM,false_and,if_false]
  refine K6 1000 (by simp only[go_sem,K5,f6];rfl) ?_;exact fin ⟨(by simp only[go_sem,K5,f5]<;>rfl),(by simp only[go_sem,K5,f6]<;>rfl),(by simp only[go_sem,K5,f7]<;>rfl),(by simp only[go_sem,K5]<;>rfl)⟩ (by simp only[go_sem,K5]<;>rfl) hk1 hA0 hr
 | true =>
  by_cases he1:e1=0
  case neg =>
   have hr:OT ws k 0=(⟨hd,[]⟩,(BQ ws [46] k1 e1).1,(BQ ws [46] k1 e1).2):=by
    unfold OT;rw[hrt];simp only[hs,he1,and_false,if_false]
   refine K6 1000 (by simp only[go_sem,K5,f6,l2,he1];rfl) ?_;exact fin ⟨(by simp only[go_sem,K5,f5]<;>rfl),(by simp only[go_sem,K5,f6]<;>rfl),(by simp only[go_sem,K5,f7]<;>rfl),(by simp only[go_sem,K5]<;>rfl)⟩ (by simp only[go_sem,K5]<;>rfl) hk1 hA0 hr
  subst he1;have hks:=Iz hs;have hwr:KZ .i64 (Fq k1+1)=Fq (k1+1):=Lh Fh;have l1:=p2.l1;have st:=p2.cb.set (i:=1) (v:=.int .i64 (Fq (k1+1))) Fj rfl;have pf2:Frm (fun b=>b=bp) w2 (w2.put bp ([wv,.int .i64 (Fq k1),.int .i64 (Fq 0)].set 1 (.int .i64 (Fq (k1+1))))):=LW;refine K6 1000 (by simp only[go_sem,K5,f6,l1,l2,hwr,st,HP,FC,FD];rfl) ?_
  refine LK (Jsw a bp w1.next wv hd hv ws v5 v7 (OX ws (ws.length+1) [] (k1+1) 0)) (JvD a bp w1.next wv hd hv v5 v7 (OX ws (ws.length+1) [] (k1+1) 0)) (fun n f w hI ih out=>Jrb C hw hok hT hlt n1 hI ih out) ?_ (ws.length+1)
   ⟨[],k1+1,0,.nilslice,fun _=>False,TH,[],⟨(by simp only[go_sem,K5,f5]<;>rfl),(by simp only[go_sem,K5,f6]<;>rfl),(by simp only[go_sem,K5,f7]<;>rfl),(by simp only[go_sem,K5]<;>rfl)⟩,⟨⟨p2.lt,AE.T.get_put_same⟩,f02.tr pf2,c2.frm pf2 hn8,hrd2.frm pf2 fun x hx he=>by have:=(q4 x hx).1;omega,.nil,.nil,fun _ h=>h.elim,hA0.sepT⟩,by simp,hks,by omega,rfl,by simp⟩
  rintro f' w ⟨bv,S,T,xss,hBF,hA⟩;have hk5:=Q3 (ws:=ws) (ws.length+1) [] (k1+1) 0 hks
  have hr:OT ws k 0=(⟨hd,(OX ws (ws.length+1) [] (k1+1) 0).1⟩,(BQ ws [46] (OX ws (ws.length+1) [] (k1+1) 0).2.1 (OX ws (ws.length+1) [] (k1+1) 0).2.2).1,(BQ ws [46] (OX ws (ws.length+1) [] (k1+1) 0).2.1 (OX ws (ws.length+1) [] (k1+1) 0).2.2).2):=by
   unfold OT;rw[hrt];simp only[hs,and_self,if_true]
  generalize OX ws (ws.length+1) [] (k1+1) 0=rb at hA hk5 hr;obtain⟨body,k5,e5⟩:=rb;obtain⟨g5,g6,g7,g8⟩:=hBF;refine K6 1000 (by simp only[go_sem,K5,g6];rfl) ?_;exact fin ⟨(by simp only[go_sem,K5,g5]<;>rfl),(by simp only[go_sem,K5,g6]<;>rfl),(by simp only[go_sem,K5,g7]<;>rfl),(by simp only[go_sem,K5,g8]<;>rfl)⟩ (by simp only[go_sem,K5]<;>rfl) hk5 hA hr
section
open Go.AE Delphi
variable {tab:Tab}
structure RS (a0 w:AW) (bp:Nat) (wv:V) (rules:List Rl) (k e:Nat) (rv:V) (S T:Fw) (xss:List (List V)):Prop where
 p:PSt w bp wv k e
 frm:Frm (fun b=>b=bp) a0 w
 buf:Buf S w rv 4 rules.length xss.flatten
 rls:All2 (RlC T w) rules xss
 sepS:∀x,S x→a0.next≤x∧x<w.next∧¬T x
 sepT:∀x,T x→a0.next≤x∧x<w.next
structure RF (f:Fr) (bp:Nat) (v5 v7:V):Prop where
 f5:f.get 5=some v5
 f6:f.get 6=some (.ptr bp 0)
 f7:f.get 7=some v7
def Jsz (a0:AW) (bp:Nat) (wv:V) (ws:List Wd) (v5:V) (fin:List Rl×Nat×Nat) (q:Nat) (f:Fr) (w:AW):Prop :=
 ∃rules k e rv S T xss,RF f bp v5 rv∧RS a0 w bp wv rules k e rv S T xss∧rules.length≤31∧k≤ws.length∧(e=0→ws.length+1≤q+k)∧BZ ws q rules k e=fin∧(e=0→rules.length≤30)
def JvI (a0:AW) (bp:Nat) (wv:V) (v5:V) (fin:List Rl×Nat×Nat) (f:Fr) (w:AW):Prop :=
 ∃rv S T xss,RF f bp v5 rv∧RS a0 w bp wv fin.1 fin.2.1 fin.2.2 rv S T xss
variable {ws:List Wd}
theorem JjK {q:Nat}{l:List Rl}{k e:Nat}(h:¬(e=0∧k<ws.length)):BZ ws q l k e=(l,k,e):=by
 cases q with
 | zero=>rfl
 | succ q=>simp only[BZ,if_neg h]
theorem Jsd (C:Codes tab){Tw:Fw}{a0:AW}{bp:Nat}{wv:V}{v5:V}{fin:List Rl×Nat×Nat}{q:Nat}{f:Fr}{s:List SI}{Q:Fr→AW→Prop}(hw:Wds Tw a0 bp wv ws)(hok:∀x∈ws,WOk x)(hT:∀x,Tw x→x<a0.next)(hlt:bp<a0.next)(hI:Jsz a0 bp wv ws v5 fin q f w)(ih:∀n' f' w',n'<q→Jsz a0 bp wv ws v5 fin n' f' w'→WS tab (.code (.loop JL) :: .endB 0::s) f' w' Q)(out:∀s' f' w',JvI a0 bp wv v5 fin f' w'→TM 0 s'=some s→WS tab (.code (.exit 0)::s') f' w' Q):WS tab (.code JL :: .code (.loop JL) :: .endB 0::s) f w Q:=by
 obtain⟨rules,k,e,rv,S,T,xss,⟨f5,f6,f7⟩,hA,hl31,hk,hq,hfin,hl30⟩:=hI;have l0:=hA.p.l0;have l1:=hA.p.l1;have l2:=hA.p.l2;have hww:Wds Tw w bp wv ws:=hw.frm hA.frm fun x hx he=>hw.no (he▸hx);have hlv:=hww.rd.lenV;by_cases he:e=0
 case neg =>
  rw[JjK (fun h=>he h.1)]at hfin;refine Lb 1000 (by simp only[go_sem,JL,f6,l2,he];rfl) ?_;exact out _ _ _ ⟨rv,S,T,xss,⟨(by simp only[go_sem,K5,f5]<;>rfl),(by simp only[go_sem,K5,f6]<;>rfl),(by simp only[go_sem,K5,f7]<;>rfl)⟩,by rw[←hfin];exact hA⟩ rfl
 subst he;by_cases hkl:k<ws.length
 case neg =>
  rw[JjK (fun h=>hkl h.2)]at hfin;refine Lb 1000 (by simp only[go_sem,JL,f6,l0,l1,l2,hlv,hkl];rfl) ?_;exact out _ _ _ ⟨rv,S,T,xss,⟨(by simp only[go_sem,K5,f5]<;>rfl),(by simp only[go_sem,K5,f6]<;>rfl),(by simp only[go_sem,K5,f7]<;>rfl)⟩,by rw[←hfin];exact hA⟩ rfl
 have hl30:=hl30 rfl;have hq:=hq rfl;obtain⟨q,rfl⟩:∃q',q=q'+1:=⟨q-1,by omega⟩;simp only[BZ]at hfin;rw[if_pos ⟨trivial,hkl⟩]at hfin;refine Lb 1000 (by simp only[go_sem,K5,JL,f6,l0,l1,l2,hlv,hkl];rfl) ?_;refine Jow C (v5:=v5) (v7:=rv) hA.p hww hok (fun x hx=>FK (hT x hx) hA.frm.next) hk (by simp only[go_sem,K5,f5]<;>rfl) (by simp only[go_sem,K5,f6]<;>rfl) (by simp only[go_sem,K5,f7]<;>rfl) ?_;rintro f' w1 Tn xs n8 ⟨g5,g6,g7,g8⟩ q1 q2 c2 hn8 q3 q4;have hk1:=JqO (e:=0) hk;have hk1g:=JqM ws k 0;have hgt:=JqN (ws:=ws) (k:=k) (e:=0);generalize hrt:OT ws k 0=rt at hfin q1 hk1 hk1g q3 hgt;obtain⟨t,k1,e1⟩:=rt;simp only at hfin q1 hk1 hk1g q3 hgt;obtain⟨xl,xo⟩:=q3.one;have nx:=hA.frm.next;have nx1:=q2.next;have nS:∀x,S x→¬x=bp:=fun x hx he=>by have:=(hA.sepS x hx).1;omega
 have nT:∀x,T x→¬x=bp:=fun x hx he=>by have:=(hA.sepT x hx).1;omega
 have nTn:∀x,Tn x→¬x=bp:=fun x hx he=>by have:=(q4 x hx).1;omega
 have m2:=q1.l2;have buf1:=hA.buf.frm q2 nS;have hlr:=buf1.lenV;have la:=c2.all xl;obtain⟨e2,he2⟩:∃e2,e2=if e1=0∧rules.length=30 then 8 else e1:=⟨_,rfl⟩;rw[←he2]at hfin
 have cont:∀{fr:Fr} {w3:AW},BF fr bp n8 v5 rv→PSt w3 bp wv k1 e2→Frm (fun b=>b=bp) w1 w3→WS tab (.code Ug :: .endB 1 :: .code (.loop JL) :: .endB 0::s) fr w3 Q:=by
  rintro fr w3 ⟨f5,f6,f7,f8⟩ g1 g2;have n3:=g2.next;have buf3:=buf1.frm g2 nS;have hn8b:¬n8=bp:=Fh;have c3:=c2.frm g2 hn8b;have hS3:∀b,S b→b<w3.next:=fun b hb=>by have:=(hA.sepS b hb).2.1;omega
  obtain⟨v',w5,S5,a1,a2,a3,a4⟩:=buf3.push (news:=xs) (bytes:=72) hS3 Fh xl xo Fh Fh;have nbp:¬S bp:=fun h=>nS _ h rfl;have n5:=a3.next;have b2:=c3.all xl;have b4:=Tj (w:=w3) (c:=.known 1) (by omega:0<1) (by rw[xl]:xs.length=1*4);have nT2:∀x,(T x∨Tn x)→¬x=bp:=fun x hx=>hx.elim (nT x) (nTn x)
  have nT3:∀x,(T x∨Tn x)→¬S x:=by
   rintro x (hx|hx) h
   ·exact (hA.sepS x h).2.2 hx
   ·have:=(q4 x hx).1;have:=(hA.sepS x h).2.1;omega
  have hov:over [V.int .i64 0,V.str [],V.nilslice,V.nilslice] 0 xs=some xs:=by
   have:=CZ [] [V.int .i64 0,V.str [],V.nilslice,V.nilslice] [] xs (by rw[xl];rfl);simpa using this
  have sT5:∀x,T x∨Tn x→a0.next≤x∧x<w5.next:=by
   rintro x (hx|hx)
   ·have:=hA.sepT x hx;exact⟨this.1,by omega⟩
   ·have:=q4 x hx;exact⟨by omega,by omega⟩
  have hA5:RS a0 w5 bp wv (rules++[t]) k1 e2 v' S5 (fun x=>T x∨Tn x) (xss++[xs]):=by
   refine⟨g1.frm a3 nbp,((hA.frm.tr q2).tr g2).trans a3 (fun _ _ h=>h) (fun x hx h=>by have:=(hA.sepS x h).1;omega),?_,?_,fun x hx=>?_,sT5⟩
   ·rw[FE,Kb,List.flatten_append,List.flatten_cons,List.flatten_nil,Kc];exact a2
   ·refine All2.snoc (((q3.mono fun _ h=> .inr h).frm g2 nT2).frm a3 nT3) ?_;exact hA.rls.imp fun r ys hr=>(((hr.frm q2 nT).mono fun _ h=> .inl h).frm g2 nT2).frm a3 nT3
   ·obtain⟨m1,m2⟩:=a4 x hx;rcases m2 with m2|m2
    ·obtain⟨y1,y2,y3⟩:=hA.sepS x m2;refine⟨y1,m1,?_⟩;rintro (h|h)
     ·exact y3 h
     ·have:=(q4 x h).1;omega
    ·refine⟨by omega,m1,?_⟩;rintro (h|h)
     ·have:=(hA.sepT x h).2;omega
     ·have:=(q4 x h).2.1;omega
  refine K6 1000 (by simp only[go_sem,K5,Ug,f7,f8,b2,xl,Lg,Lj,hov,a1,b4,FC,FD];rfl) ?_
  have e10:e2=0→e1=0∧rules.length≠30:=by
   intro h0;rw[h0]at he2;split at he2
   ·omega
   ·rename_i hn;exact⟨he2.symm,fun h=>hn ⟨he2.symm,h⟩⟩
  exact ih q _ _ Fh ⟨rules++[t],k1,e2,v',S5,_,_,⟨(by simp only[go_sem,K5,f5]<;>rfl),(by simp only[go_sem,K5,f6]<;>rfl),(by simp only[go_sem,K5]<;>rfl)⟩,hA5,by rw[FE,Kb];omega,hk1,fun h0=>by have:=hgt (e10 h0).1;omega,hfin,fun h0=>by have:=(e10 h0).2;rw[FE,Kb];omega⟩
 by_cases h30:e1=0∧rules.length=30
 ·obtain⟨rfl,h30⟩:=h30;rw[h30]at hlr;rw[if_pos ⟨rfl,h30⟩]at he2;subst he2;refine K6 1000 (by simp only[go_sem,K5,Zp,HQ,g6,g7,m2,hlr];rfl) ?_;refine K9 (by simp only[go_sem,K5]) (by simp only[go_sem,K5];rfl) ?_;refine CE C (x:=8) q1 fun w3 u3 u4 u5=>?_;refine Lb 1000 (by simp only[go_sem,K5];rfl) ?_;exact cont ⟨(by simp only[go_sem,K5,g5]<;>rfl),(by simp only[go_sem,K5,g6]<;>rfl),(by simp only[go_sem,K5,g7]<;>rfl),(by simp only[go_sem,K5,g8]<;>rfl)⟩ u3 u4
 ·rw[if_neg h30]at he2;subst he2;by_cases h0:e2=0
  ·have h30':¬rules.length=30:=fun h=>h30 ⟨h0,h⟩;subst h0;refine Lb 1000 (by simp only[go_sem,K5,Zp,g6,g7,m2,hlr,h30'];rfl) ?_;exact cont ⟨(by simp only[go_sem,K5,g5]<;>rfl),(by simp only[go_sem,K5,g6]<;>rfl),(by simp only[go_sem,K5,g7]<;>rfl),(by simp only[go_sem,K5,g8]<;>rfl)⟩ q1 (Frm.refl _)
  ·refine Lb 1000 (by simp only[go_sem,K5,Zp,g6,g7,m2,h0];rfl) ?_;exact cont ⟨(by simp only[go_sem,K5,g5]<;>rfl),(by simp only[go_sem,K5,g6]<;>rfl),(by simp only[go_sem,K5,g7]<;>rfl),(by simp only[go_sem,K5,g8]<;>rfl)⟩ q1 (Frm.refl _)
theorem JoO (C:Codes tab){s:List Nat}{aw:AW}{K:V→AW→Prop}(hs:s.length≤1099511627776)(hb:∀x∈s,x<256)(h:∀w v T,RdL (RlC T) T w v 4 (IV s).1→Frm (fun _=>False) aw w→(∀x,T x→aw.next≤x∧x<w.next)→K (.tuple [v,.int .i64 (Fq (IV s).2)]) w):WF tab Gs [.str s] aw K:=by
 refine Ld C.Xm rfl ?_;refine K6 1000 (by simp only[go_sem,K5,Zq,HU];rfl) ?_;refine K9 (by simp only[go_sem,K5]) (by simp only[go_sem,K5];rfl) ?_;refine JtX C hs (fun hl=>?_) fun hl v aw' hown hext=>?_
 ·have hr:IV s=([],8):=by unfold IV;rw[if_pos hl]
  rw[hr]at h;refine K6 1000 (by simp only[go_sem,K5,Uj,HM];rfl) ?_;refine K7 ⟨_,by simp only[go_sem,K5,Zq];rfl,?_⟩;exact h aw .nilslice (fun _=>False) ⟨[],.nil,.nil⟩ (Frm.refl _) fun _ h=>h.elim
 obtain⟨e0,he0⟩:∃e0:Nat,e0=if (scan 0 s).2=true then 0 else 4:=⟨_,rfl⟩;have hk0:(if (scan 0 s).2=true then (0:Int)else 4)=Fq e0:=by rw[he0];split<;>rfl
 rw[hk0];have h8:¬e0=8:=by rw[he0];split<;>omega
 obtain⟨wl,wok⟩:=Jt0 hb
 have hr:IV s=if Bh (BZ (scan 0 s).1 ((scan 0 s).1.length+1) [] 0 0).2.2 e0=0 then ((BZ (scan 0 s).1 ((scan 0 s).1.length+1) [] 0 0).1,0)else ([],Bh (BZ (scan 0 s).1 ((scan 0 s).1.length+1) [] 0 0).2.2 e0):=by
  unfold IV;rw[if_neg Fh,he0]
 rw[hr]at h;clear hr he0 hk0;generalize (scan 0 s).1=ws at hown wl wok h;have hrd:=hown.rd;have nx:=hext.next;obtain⟨zs,hzs⟩:∃zs,zs=[v,V.int .i64 0,V.int .i64 0]:=⟨_,rfl⟩;have hov:over [V.nilslice,V.int .i64 0,V.int .i64 0] 0 [v]=some zs:=by rw[hzs];rfl
 have vc:v.cells=[v]:=by rcases hrd.inv with⟨rfl,_⟩|⟨_,_,_,rfl,_⟩<;>rfl
 have f0:Frm (fun _=>False) aw (aw'.fresh zs):=(hext.frm (S:=fun _=>False) fun x hx hn=>by omega).tr (LZ _ _);have hp:PSt (aw'.fresh zs) aw'.next v 0 0:=by rw[hzs];exact⟨FW _,AE.T.get_put_same⟩
 have hw:Wds (fun b=>aw.next≤b∧b<aw'.next) (aw'.fresh zs) aw'.next v ws:=⟨hrd.frm (LZ (S:=fun _=>False) _ _) fun _ _ h=>h,fun h=>by omega,by omega⟩;refine K6 1000 (by simp only[go_sem,K5,Uj,HT,h8,Lg,Lj,vc,hov,FC,FD];rfl) ?_
 refine LK (Jsz (aw'.fresh zs) aw'.next v ws (.int .i64 (Fq e0)) (BZ ws (ws.length+1) [] 0 0)) (JvI (aw'.fresh zs) aw'.next v (.int .i64 (Fq e0)) (BZ ws (ws.length+1) [] 0 0)) (fun n f w hI ih out=>Jsd C hw wok (fun x hx=>Nat.lt_succ_of_lt hx.2) (FW _) hI ih out) ?_ (ws.length+1)
  ⟨[],0,0,.nilslice,fun _=>False,fun _=>False,[],⟨(by simp only[go_sem,K5]<;>rfl),(by simp only[go_sem,K5]<;>rfl),(by simp only[go_sem,K5]<;>rfl)⟩,⟨hp,Frm.refl _,.nil,.nil,fun _ h=>h.elim,fun _ h=>h.elim⟩,by simp,by omega,fun _=>by omega,rfl,by simp⟩
 rintro f w ⟨rv,S,T,xss,⟨f5,f6,f7⟩,hA⟩;generalize BZ ws (ws.length+1) [] 0 0=rr at hA h;obtain⟨rules,k,e⟩:=rr;simp only at hA h;refine K6 1000 (by simp only[go_sem,K5,f5,f6];rfl) ?_;refine K9 (by simp only[go_sem,K5]) (by simp only[go_sem,K5];rfl) ?_;refine CE C (x:=e0) hA.p fun w3 u3 u4 u5=>?_;have l2:=u3.l2;have n4:=u4.next;have nn:(aw'.fresh zs).next=aw'.next+1:=rfl
 have fr3:Frm (fun _=>False) aw w3:=by
  refine f0.trans (hA.frm.tr u4) (fun _ _ h=>h) ?_;rintro x hx rfl;omega
 by_cases hz:Bh e e0=0
 ·rw[if_pos hz]at h;rw[hz]at l2;refine K6 1000 (by simp only[go_sem,K5,Ui,f6,f7,l2];rfl) ?_;refine K7 ⟨_,by simp only[go_sem,K5,Zq];rfl,?_⟩;have nS:∀x,S x→¬x=aw'.next:=fun x hx he=>by have:=(hA.sepS x hx).1;omega
  have nT:∀x,T x→¬x=aw'.next:=fun x hx he=>by have:=(hA.sepT x hx).1;omega
  refine h w3 rv (fun x=>S x∨T x) ⟨xss,(hA.buf.rd.frm u4 nS).mono fun _ h=> .inl h,hA.rls.imp fun r ys hr=>(hr.frm u4 nT).mono fun _ h=> .inr h⟩ fr3 ?_;rintro x (hx|hx)
  ·have:=hA.sepS x hx;exact⟨by omega,by omega⟩
  ·have:=hA.sepT x hx;exact⟨by omega,by omega⟩
 ·rw[if_neg hz]at h;refine K6 1000 (by simp only[go_sem,K5,Ui,HS,f6,f7,l2,hz];rfl) ?_;refine K7 ⟨_,by simp only[go_sem,K5,Zq];rfl,?_⟩;exact h w3 .nilslice (fun _=>False) ⟨[],.nil,.nil⟩ fr3 fun _ h=>h.elim
end
end Go.Proofs.YtegdcbdicpfbpaaGreatDoor
set_option linter.unusedSectionVars false
namespace Go.AE
variable [Globs]
theorem Am {b:Nat}:(V.map b).cells=[.map b]:=rfl
theorem Jm4:V.nilmap.cells=[.nilmap]:=rfl
theorem JpV {f:Fn}{a c:List V}:(V.func f a c).cells=[.func f a c]:=rfl
variable {v:V}
theorem Jot {t:Nat}:(V.iface t v).cells=[.iface t v]:=rfl
theorem Jlh:V.niliface.cells=[.niliface]:=rfl
attribute [go_sem] Am Jm4 JpV Jot Jlh
section
variable {α β:Type} [DecidableEq α]
def K8:List (α×β)→α→Option β
 | [],_=>none
 | (a,b)::l,k=>if k=a then some b else K8 l k
def Ob:List (α×β)→α→β→List (α×β)
 | [],k,v=>[(k,v)]
 | (a,b)::l,k,v=>if k=a then (a,v)::l else (a,b)::Ob l k v
theorem Bd:∀(l:List (α×β)) (k:α) (v:β),K8 (Ob l k v) k=some v
 | [],k,v=>by simp[Ob,K8]
 | (a,b)::l,k,v=>by
  by_cases h:k=a
  ·simp[Ob,K8,h]
  ·simp only[Ob,if_neg h,K8];exact Bd l k v
theorem Ti:∀(l:List (α×β)) (k k':α) (v:β),k'≠k→K8 (Ob l k v) k'=K8 l k'
 | [],k,k',v,h=>by simp[Ob,K8,h]
 | (a,b)::l,k,k',v,h=>by
  by_cases hk:k=a
  ·subst hk;simp[Ob,K8,h]
  ·simp only[Ob,if_neg hk,K8,Ti l k k' v h]
structure KeyE (t:KeyTy) (ke:α→V):Prop where
 eq:∀a b,CO t (ke a) (ke b)=some (decide (a=b))
 ok:∀a,IE t (ke a)=true
def EH (ke:α→V) (ve:β→V) (p:α×β) (e:V×V×Nat):Prop:=e.1=ke p.1∧e.2.1=ve p.2
structure MB (ke:α→V) (ve:β→V) (w:AW) (b:Nat) (M:List (α×β)):Prop where
 lt:b<w.next
 get:∃es ck,w.heap.get b=some (.map es ck)∧All2 (EH ke ve) M es
variable {ke:α→V} {ve:β→V} {t:KeyTy}
def Dm (ve:β→V) (zero:V):Option β→V×Bool
 | some v=>(ve v,true)
 | none=>(zero,false)
variable {w:AW} {b:Nat} {M:List (α×β)}
theorem MB.frm {S:Fw}{w':AW}(h:MB ke ve w b M)(hf:Frm S w w')(hn:¬S b):MB ke ve w' b M:=by
 obtain⟨es,ck,h1,h2⟩:=h.get;exact⟨FK h.lt hf.next,es,ck,(hf.heap b h.lt hn).trans h1,h2⟩
theorem RI (hk:KeyE t ke){k:α}:∀{M:List (α×β)} {es:List (V×V×Nat)} (i:Nat),All2 (EH ke ve) M es→ (K8 M k=none→BA t (ke k) es i=some none)∧∀v,K8 M k=some v→∃j n,BA t (ke k) es i=some (some (i+j,ve v,n))∧∀v',All2 (EH ke ve) (Ob M k v') (IL j (ke k) (ve v') es)
 | [],_,i,.nil=>⟨fun _=>rfl,fun v h=>by simp[K8]at h⟩
 | (a,b)::M,(x,y,n)::es,i,.cons h1 h2=>by
  obtain⟨q1,q2⟩:=h1;simp only at q1 q2;subst q1;subst q2;by_cases h:k=a
  ·subst h;refine⟨fun hn=>by simp[K8]at hn,fun v hv=>?_⟩;simp only[K8,if_true,FQ]at hv;subst hv;refine⟨0,n,by simp only[BA,hk.eq,decide_true,KF],fun v'=>?_⟩;simp only[Ob,if_true,IL,Kg,List.set_cons_zero];exact .cons ⟨rfl,rfl⟩ h2
  ·obtain⟨r1,r2⟩:=RI hk (k:=k) (i+1) h2;refine⟨fun hn=>?_,fun v hv=>?_⟩
   ·simp only[K8,if_neg h]at hn;simp only[BA,hk.eq,decide_eq_false h];exact r1 hn
   ·simp only[K8,if_neg h]at hv;obtain⟨j,m,s1,s2⟩:=r2 v hv;refine⟨j+1,m,?_,fun v'=>?_⟩
    ·simp only[BA,hk.eq,decide_eq_false h];rw[s1];congr 3;omega
    ·have:=s2 v';simp only[Ob,if_neg h]
     have e:IL (j+1) (ke k) (ve v') ((ke a,ve b,n)::es)=(ke a,ve b,n)::IL j (ke k) (ve v') es:=by
      simp only[IL,Kh];split<;>simp
     rw[e];exact .cons ⟨rfl,rfl⟩ this
theorem MB.look (hk:KeyE t ke)(h:MB ke ve w b M)(zero:V)(k:α):w.lookV t zero (.map b) (ke k)=some (Dm ve zero (K8 M k)):=by
 obtain⟨es,ck,h1,h2⟩:=h.get;obtain⟨r1,r2⟩:=RI hk (k:=k) 0 h2;simp only[AW.lookV,AW.entries,h1,hk.ok];cases hg:K8 M k with
 | none=>simp only[r1 hg,Dm]
 | some v=>obtain⟨j,n,s1,_⟩:=r2 v hg;simp only[s1,Dm]
theorem Md:∀{M:List (α×β)} {k:α},K8 M k=none→∀v,Ob M k v=M++[(k,v)]
 | [],k,_,v=>rfl
 | (a,b)::M,k,h,v=>by
  simp only[K8]at h;split at h
  ·cases h
  ·rename_i hn;simp only[Ob,if_neg hn,Md h v,List.cons_append]
theorem RV {es:List (V×V×Nat)}{ck:Nat}:Frm (fun x=>x=b) w (w.turn b (.map es ck)):=
 ⟨FH _,fun c hc hn=>T.get_put_ne hn,fun c hc hn=>rfl⟩
theorem MB.put (hk:KeyE t ke)(h:MB ke ve w b M)(k:α)(v:β):∃w',w.putV t (.map b) (ke k) (ve v)=some w'∧MB ke ve w' b (Ob M k v)∧Frm (fun x=>x=b) w w'∧w'.next=w.next:=by
 obtain⟨es,ck,h1,h2⟩:=h.get;obtain⟨r1,r2⟩:=RI hk (k:=k) 0 h2;simp only[AW.putV,AW.entries,h1,hk.ok];cases hg:K8 M k with
 | none =>
  refine⟨w.turn b (.map (es++[(ke k,ve v,ck)]) (ck+1)),by simp only[r1 hg],⟨h.lt,_,_,T.get_put_same,?_⟩,RV,rfl⟩;rw[Md hg];exact h2.snoc ⟨rfl,rfl⟩
 | some u =>
  obtain⟨j,n,s1,s2⟩:=r2 u hg;refine⟨w.turn b (.map (IL j (ke k) (ve v) es) ck),?_,⟨h.lt,_,_,T.get_put_same,s2 v⟩,RV,rfl⟩;simp only[s1,FV]
theorem MB.len (h:MB ke ve w b M):∃es ck,w.entries (.map b)=some (some b,es,ck)∧es.length=M.length:=by
 obtain⟨es,ck,h1,h2⟩:=h.get;exact⟨es,ck,by simp only[AW.entries,h1],h2.len.symm⟩
theorem MB.new (w:AW):MB ke ve (w.new (.map [] 0)) w.next ([]:List (α×β)):=⟨FW _,[],0,T.get_put_same,.nil⟩
end
variable {S:Fw}
theorem CY (w:AW):Frm S w (w.new (.map [] 0)):=Frm.new w _
theorem BB:KeyE (.scalar .str) V.str:=⟨fun a b=>by
 show some (eqL a b)=_
 congr 1
 by_cases h:a=b
 ·rw[decide_eq_true h];exact eqL_iff.2 h
 ·rw[decide_eq_false h];cases hc:eqL a b with
  | false=>rfl
  | true=>exact absurd (eqL_iff.1 hc) h,fun _=>rfl⟩
theorem JrK:KeyE (.scalar .int) (V.int .i64):=⟨fun a b=>by
 show (if (IntKind.i64:IntKind) = .i64 then some (a==b)else none)=_;rw[if_pos rfl]
 congr 1,fun _=>rfl⟩
inductive Bt (S:Nat→Prop) (w:AW):V→Nat→Nat→List V→Prop
 | nil {esz:Nat}:Bt S w .nilslice esz 0 []
 | blk {b n esz:Nat} {cs:List V} {sh:Share} (hS:S b) (hb:b<w.next) (hx:w.heap.get b=some (.cells cs sh)) (hl:cs.length=n*esz) (he:0<esz) (hn:0<n) (hs:Shr S w b sh):Bt S w (.slice b 0 n (.upTo esz)) esz n cs
variable {w:AW} {esz n:Nat} {cs:List V}
theorem Bt.buf (h:Bt S w v esz n cs):Buf S w v esz n cs:=by
 cases h with
 | nil=>exact .nil
 | blk hS hb hx hl he hn hs=>exact .blk (r:=0) (rest:=[]) hS hb (by rw[Kc];exact hx) hl Fj he Fh hs
theorem Bt.mono {S':Fw}(h:Bt S w v esz n cs)(hs:∀x,S x→S' x):Bt S' w v esz n cs:=by
 cases h with
 | nil=>exact .nil
 | blk hS hb hx hl he hn hsh=>exact .blk (hs _ hS) hb hx hl he hn (hsh.mono hs)
theorem Bt.frm {T:Fw}{w':AW}(h:Bt S w v esz n cs)(hf:Frm T w w')(hd:∀x,S x→¬T x):Bt S w' v esz n cs:=by
 cases h with
 | nil=>exact .nil
 | blk hS hb hx hl he hn hsh=>exact .blk hS (FK hb hf.next) ((hf.heap _ hb (hd _ hS)).trans hx) hl he hn (hsh.frm hf hd)
theorem Bt.len (h:Bt S w v esz n cs):cs.length=n*esz:=h.buf.len
theorem Bt.rd (h:Bt S w v esz n cs):Rd S w v esz n cs:=h.buf.rd
theorem Bt.lenV (h:Bt S w v esz n cs):lenV v=some n:=h.buf.lenV
theorem Bt.one (h:Bt S w v esz n cs):v.one=true∧v.cells=[v]:=by cases h<;>exact⟨rfl,rfl⟩
theorem Bt.inv (h:Bt S w v esz n cs):(v = .nilslice∧n=0∧cs=[])∨∃b,v = .slice b 0 n (.upTo esz)∧S b∧b<w.next:=h.buf.inv
variable {bytes:Nat} {news:List V}
theorem Bt.addN {k:Nat}(h:Bt S w v esz n cs)(he:0<esz)(hl:news.length=k*esz)(h1:Lv news=true)(hb:(n+k)*bytes≤70368744177664)(hb':n+k≤70368744177664): ∃v' w' S',w.appendV esz bytes v k news=some (v',w')∧Bt S' w' v' esz (n+k) (cs++news)∧Frm S w w'∧TV S S' w w':=by
 cases k with
 | zero =>
  have:news=[]:=List.length_eq_zero_iff.1 (by simpa using hl);subst this;refine⟨v,w,fun x=>S x∧x<w.next,?_,?_,Frm.refl _,fun b hb=>⟨hb.2,.inl hb.1⟩⟩
  ·cases h<;>rfl
  ·rw[Kc,KF];cases h with
   | nil=>exact .nil
   | blk hS hbw hx hlen he' hn hs =>
    refine .blk ⟨hS,hbw⟩ hbw hx hlen he' hn ?_;rcases hs with rfl|rfl|⟨f,F,rfl,q1,q2,q3⟩
    ·exact .inl rfl
    ·exact .inr (.inl rfl)
    ·exact .inr (.inr ⟨f,F,rfl,⟨q1,q2⟩,q2,q3⟩)
 | succ k =>
  cases h with
  | nil =>
   refine⟨.slice w.next 0 (k+1) (.upTo esz),w.fresh news,fun b=>b=w.next,?_,?_,Frm.new _ _,?_⟩
   ·simp only[AW.appendV];rw[if_pos ⟨by simpa using hb,by omega⟩]
   ·rw[FV];exact .blk rfl (FW _) T.get_put_same (by simpa using hl) he Fh (.inl rfl)
   ·rintro b rfl;exact⟨FW _,.inr (FH _)⟩
  | @blk b _ _ _ sh hS hbw hx hlen he' hn hs =>
   have happ:w.appendV esz bytes (.slice b 0 n (.upTo esz)) (k+1) news=w.appendUp esz b 0 n (k+1) news:=if_pos ⟨rfl,hb,hb',h1,he⟩;rw[happ];have hbeq:Nat.beq (0+n*esz) cs.length=true:=by rw[FV,hlen,Nat.beq_refl]
   have fam:∀(u:AW) (f:Nat) (F:Fam),w.next≤u.next→Frm S w u→u.heap.get b=some (.cells cs (.fam f))→(S f∨w.next≤f)→f<u.next→b<u.next→u.fams.get f=some F→F.last=b→F.floor≤u.next→u.alive b (.fam f)=true→∃v' w' S',u.appendFam esz b 0 n (k+1) news=some (v',w')∧Bt S' w' v' esz (n+(k+1)) (cs++news)∧Frm S w w'∧TV S S' w w':=by
    intro u f F hle hfu hx hSf hfl hbu hF hlast hflo hal;refine⟨.slice u.next 0 (n+(k+1)) (.upTo esz),u.grow b f F (cs.drop 0++news),fun x=>x=u.next∨x=f,?_,?_,?_,?_⟩
    ·simp only[AW.appendFam,hx,hal,hF,hbeq]
    ·have hg:(u.grow b f F (cs.drop 0++news)).fams.get f=some ⟨F.keep,F.floor,u.next⟩:=by
      simp only[AW.grow,T.get_putk,if_true,hlast,Nat.beq_refl]
     refine .blk (sh:=.fam f) (.inl rfl) (FW _) ?_ ?_ he Fh (.inr (.inr ⟨f,⟨F.keep,F.floor,u.next⟩,rfl,.inr rfl,Nat.lt_succ_of_lt hfl,hg,rfl,Nat.le_succ_of_le hflo,?_⟩))
     ·simp only[AW.grow,T.get_putk,if_true,FZ]
     ·rw[FE,hlen,hl,Nat.add_mul n]
     ·simp only[AW.alive,hg,Bool.or_eq_true];exact .inr (Nat.ble_eq_true_of_le hflo)
    ·refine hfu.trans (T:=fun x=>x=f∨u.next≤x) ⟨Nat.le_succ _,fun c hc hn=>T.get_put_ne Fh,fun c hc hn=>T.get_put_ne fun e=>hn (.inl e)⟩ (fun x hx h=>h) ?_;rintro x hx (rfl|h)
     ·rcases hSf with h|h
      ·exact h
      ·omega
     ·omega
    ·rintro x (rfl|rfl)
     ·exact⟨FW _,.inr hle⟩
     ·exact⟨Nat.lt_succ_of_lt hfl,hSf⟩
   have fnd:sh = .own∨sh = .lax→∃v' w' S',(w.found b cs).appendFam esz b 0 n (k+1) news=some (v',w')∧Bt S' w' v' esz (n+(k+1)) (cs++news)∧Frm S w w'∧TV S S' w w':=by
    intro _;refine fam (w.found b cs) w.next ⟨b,w.next+1,b⟩ (Nat.le_succ _) ⟨Nat.le_succ _,fun c hc hn=>T.get_put_ne fun e=>hn (e▸hS),fun c hc hn=>T.get_put_ne Fh⟩ T.get_put_same (.inr (FH _)) (FW _) (Nat.lt_succ_of_lt hbw) T.get_put_same rfl (FH _) ?_;simp only[AW.alive,AW.found,T.get_putk,if_true,Nat.beq_refl,Bool.true_or]
   simp only[AW.appendUp,hx,hbeq];rcases hs with rfl|rfl|⟨f,F,rfl,g1,g2,g3,g4,g6,g5⟩
   ·exact fnd (.inl rfl)
   ·exact fnd (.inr rfl)
   ·exact fam w f F (FH _) (Frm.refl _) hx (.inl g1) g2 hbw g3 g4 g6 g5
theorem Bt.push (h:Bt S w v esz n cs)(hS:∀b,S b→b<w.next)(he:0<esz)(hl:news.length=esz)(h1:Lv news=true)(hb:(n+1)*bytes≤70368744177664)(hb':n+1≤70368744177664): ∃v' w' S',(w.fresh news).appendV esz bytes v 1 news=some (v',w')∧Bt S' w' v' esz (n+1) (cs++news)∧Frm S w w'∧TV S S' w w':=by
 have hx:Frm (fun _=>False) w (w.fresh news):=Frm.new _ _;obtain⟨v',w',S',h2,h3,h4,h5⟩:=(h.frm hx fun _ _ h=>h).addN (news:=news) (k:=1) (bytes:=bytes) he Fh h1 hb hb';refine⟨v',w',S',h2,h3,hx.trans h4 (fun _ _ h=>h.elim) fun _ _ h=>h,fun b hb=>?_⟩;obtain⟨q1,q2⟩:=h5 b hb;exact⟨q1,q2.imp id fun h=>Kk hx.next h⟩
end Go.AE
namespace Delphi
def okc (i c:Nat):Bool:=(decide (97≤c)&&decide (c≤122))||(decide (i≠0)&&((decide (48≤c)&&decide (c≤57))||decide (c=95)))
def BN:Nat→List Nat→Bool
 | _,[]=>true
 | i,c::s=>okc i c&&BN (i+1) s
def BO (s:List Nat):Bool:=BN 0 s&&(decide (1≤s.length)&&decide (s.length≤16))
theorem Jk4:∀(s:List Nat) (i c:Nat),BN i (s++[c])=(BN i s&&okc (i+s.length) c)
 | [],i,c=>by simp[BN]
 | x::s,i,c=>by
  simp only[List.cons_append,BN,Jk4 s (i+1) c,FC,Bool.and_assoc]
  congr 3;omega
theorem RX:∀{s:List Nat} {i k c:Nat},s[k]? = some c→okc (i+k) c=false→BN i s=false
 | [],i,k,c,h,_=>by simp at h
 | x::s,i,0,c,h,hb=>by simp at h;subst h;simp only[BN];rw[show okc i x=false from hb];rfl
 | x::s,i,k+1,c,h,hb=>by
  simp only[BN];rw[RX (s:=s) (i:=i+1) (k:=k) (c:=c) (by simpa using h) (by rw[←hb];congr 1;omega),Bool.and_false]
structure Tk where
 k:Int
 s:List Nat
 n:Int
def Ll (t:Tk):Bool :=
 if t.k=3 then decide (t.s=[])&&(decide (-2147483648≤t.n)&&decide (t.n≤2147483648))
 else if t.k=2 then decide (t.n=0)&&BO t.s else false
end Delphi
namespace Go.Proofs.YtegdcbdicpfbpaaGreatDoor.Val
open Go.AE Delphi
variable {tab:Tab}
def WdI (s:List Nat) (fi:Nat) (aw:AW) (q:Nat) (f:Fr) (w:AW):Prop :=
 ∃i,f.get 0=some (.str s)∧f.get fi=some (.int .i64 (Fq i))∧i≤s.length∧q=s.length-i∧BN 0 (s.take i)=true∧w=aw
variable {s:List Nat}
theorem SY {i c:Nat}(h:s[i]? = some c)(ho:BN 0 (s.take i)=true)(hc:okc i c=true):BN 0 (s.take (i+1))=true:=by
 have hl:i<s.length:=(List.getElem?_eq_some_iff.1 h).1;have e:s.take (i+1)=s.take i++[c]:=by rw[List.take_add_one,h];rfl
 rw[e,Jk4,ho,FU,KD Fh,FV,hc];rfl
theorem Jvy (C:Codes tab){aw:AW}{K:V→AW→Prop}(hn:s.length≤9223372036854775807)(hb:∀c∈s,c<256)(h:K (.bool (BO s)) aw):WF tab GK [.str s] aw K:=by
 refine Ld C.Wf rfl ?_;refine K6 1000 (by simp only[go_sem,K5,Jq];rfl) ?_;refine LK (fun q f w=>WdI s 8 aw q f w∧f.get 7=some (.int .i64 (Fq s.length))) (fun f w=>f.get 0=some (.str s)∧BN 0 s=true∧w=aw) ?_ ?_ s.length ⟨⟨0,(by simp only[go_sem,K5]<;>rfl),(by simp only[go_sem,K5]<;>rfl),by omega,rfl,by simp[BN],rfl⟩,(by simp only[go_sem,K5]<;>rfl)⟩
 ·rintro q f w ⟨⟨i,f0,f8,hi,rfl,hok,rfl⟩,f7⟩ ih exit;by_cases hlt:i<s.length
  case neg =>
   rw[FX Fh]at hok;refine Lb 1000 (by simp only[go_sem,Jj,f7,f8,hlt];rfl) ?_;exact exit _ _ _ ⟨(by simp only[go_sem,K5,f0]<;>rfl),hok,rfl⟩ rfl
  obtain⟨c,hc⟩:∃c,s[i]? = some c:=⟨_,FB hlt⟩;have hwr:KZ .i64 (Fq i+1)=Fq (i+1):=Lh Fh
  have bad:okc i c=false→BO s=false:=fun hk=>by
   have:=RX (i:=0) hc (by rw[FV];exact hk);simp only[BO,this,Bool.false_and]
  by_cases a:97≤c
  ·by_cases b:c≤122
   ·refine K6 1000 (by simp only[go_sem,K5,Jj,Jn,f0,f7,f8,hlt,hc,hwr,a,b];rfl) ?_;exact ih (s.length-(i+1)) _ _ Fh ⟨⟨i+1,(by simp only[go_sem,K5,f0]<;>rfl),(by simp only[go_sem,K5]<;>rfl),by omega,rfl,SY hc hok (by simp[okc,a,b]),rfl⟩,(by simp only[go_sem,K5,f7]<;>rfl)⟩
   ·by_cases z:i=0
    ·subst z;refine K6 1000 (by simp only[go_sem,K5,Jj,Jn,f0,f7,f8,hlt,hc,hwr,a,b];rfl) ?_;rw[bad (by simp[okc,a,b])]at h;refine K7 ⟨_,by simp only[go_sem,K5,Jq];rfl,?_⟩;exact h
    ·by_cases d:c<48
     ·have d9:¬48≤c:=Fh;have n9:c≠95:=Fh;refine K6 1000 (by simp only[go_sem,K5,Jj,Jn,f0,f7,f8,hlt,hc,hwr,a,b,z,d,d9,n9];rfl) ?_;rw[bad (by simp[okc,a,b,z,d,d9,n9])]at h;refine K7 ⟨_,by simp only[go_sem,K5,Jq];rfl,?_⟩;exact h
     ·have d9:48≤c:=Fh;by_cases e:57<c
      ·have e9:¬c≤57:=Fh;by_cases n9:c=95
       ·refine K6 1000 (by simp only[go_sem,K5,Jj,Jn,f0,f7,f8,hlt,hc,hwr,a,b,z,d,d9,e,e9,n9];rfl) ?_;exact ih (s.length-(i+1)) _ _ Fh ⟨⟨i+1,(by simp only[go_sem,K5,f0]<;>rfl),(by simp only[go_sem,K5]<;>rfl),by omega,rfl,SY hc hok (by simp[okc,a,b,z,d,d9,e,e9,n9]),rfl⟩,(by simp only[go_sem,K5,f7]<;>rfl)⟩
       ·refine K6 1000 (by simp only[go_sem,K5,Jj,Jn,f0,f7,f8,hlt,hc,hwr,a,b,z,d,d9,e,e9,n9];rfl) ?_;rw[bad (by simp[okc,a,b,z,d,d9,e,e9,n9])]at h;refine K7 ⟨_,by simp only[go_sem,K5,Jq];rfl,?_⟩;exact h
      ·have e9:c≤57:=Fh;refine K6 1000 (by simp only[go_sem,K5,Jj,Jn,f0,f7,f8,hlt,hc,hwr,a,b,z,d,d9,e,e9];rfl) ?_;exact ih (s.length-(i+1)) _ _ Fh ⟨⟨i+1,(by simp only[go_sem,K5,f0]<;>rfl),(by simp only[go_sem,K5]<;>rfl),by omega,rfl,SY hc hok (by simp[okc,a,b,z,d,d9,e,e9]),rfl⟩,(by simp only[go_sem,K5,f7]<;>rfl)⟩
  ·by_cases z:i=0
   ·subst z;refine K6 1000 (by simp only[go_sem,K5,Jj,Jn,f0,f7,f8,hlt,hc,hwr,a];rfl) ?_;rw[bad (by simp[okc,a])]at h;refine K7 ⟨_,by simp only[go_sem,K5,Jq];rfl,?_⟩;exact h
   ·by_cases d:c<48
    ·have d9:¬48≤c:=Fh;have n9:c≠95:=Fh;refine K6 1000 (by simp only[go_sem,K5,Jj,Jn,f0,f7,f8,hlt,hc,hwr,a,z,d,d9,n9];rfl) ?_;rw[bad (by simp[okc,a,z,d,d9,n9])]at h;refine K7 ⟨_,by simp only[go_sem,K5,Jq];rfl,?_⟩;exact h
    ·have d9:48≤c:=Fh;by_cases e:57<c
     ·have e9:¬c≤57:=Fh;by_cases n9:c=95
      ·refine K6 1000 (by simp only[go_sem,K5,Jj,Jn,f0,f7,f8,hlt,hc,hwr,a,z,d,d9,e,e9,n9];rfl) ?_;exact ih (s.length-(i+1)) _ _ Fh ⟨⟨i+1,(by simp only[go_sem,K5,f0]<;>rfl),(by simp only[go_sem,K5]<;>rfl),by omega,rfl,SY hc hok (by simp[okc,a,z,d,d9,e,e9,n9]),rfl⟩,(by simp only[go_sem,K5,f7]<;>rfl)⟩
      ·refine K6 1000 (by simp only[go_sem,K5,Jj,Jn,f0,f7,f8,hlt,hc,hwr,a,z,d,d9,e,e9,n9];rfl) ?_;rw[bad (by simp[okc,a,z,d,d9,e,e9,n9])]at h;refine K7 ⟨_,by simp only[go_sem,K5,Jq];rfl,?_⟩;exact h
     ·have e9:c≤57:=Fh;refine K6 1000 (by simp only[go_sem,K5,Jj,Jn,f0,f7,f8,hlt,hc,hwr,a,z,d,d9,e,e9];rfl) ?_;exact ih (s.length-(i+1)) _ _ Fh ⟨⟨i+1,(by simp only[go_sem,K5,f0]<;>rfl),(by simp only[go_sem,K5]<;>rfl),by omega,rfl,SY hc hok (by simp[okc,a,z,d,d9,e,e9]),rfl⟩,(by simp only[go_sem,K5,f7]<;>rfl)⟩
 ·rintro f w ⟨f0,hok,rfl⟩;cases s with
  | nil =>
   refine K6 1000 (by simp only[go_sem,K5,f0];rfl) ?_;refine K7 ⟨_,by simp only[go_sem,K5,Jq];rfl,?_⟩;exact h
  | cons x t =>
   refine K6 1000 (by simp only[go_sem,K5,f0];rfl) ?_;refine K7 ⟨_,by simp only[go_sem,K5,Jq];rfl,?_⟩;rw[show BO (x::t)=decide ((x::t).length≤16)by simp[BO,hok]]at h;exact h
section
open Go.AE Delphi
variable {tab:Tab}
theorem Jpp (C:Codes tab){aw:AW}{K:V→AW→Prop}(hn:s.length≤9223372036854775807)(hb:∀c∈s,c<256)(h:K (.bool (BO s)) aw):WF tab VT [.str s] aw K:=by
 refine Ld C.XR rfl ?_;refine K6 1000 (by simp only[go_sem,K5,Jp];rfl) ?_;refine LK (fun q f w=>WdI s 3 aw q f w) (fun f w=>f.get 0=some (.str s)∧BN 0 s=true∧w=aw) ?_ ?_ s.length ⟨0,(by simp only[go_sem,K5]<;>rfl),(by simp only[go_sem,K5]<;>rfl),by omega,rfl,by simp[BN],rfl⟩
 ·rintro q f w ⟨i,f0,f3,hi,rfl,hok,rfl⟩ ih exit;by_cases hlt:i<s.length
  case neg =>
   rw[FX Fh]at hok;refine Lb 1000 (by simp only[go_sem,Jh,f0,f3,hlt];rfl) ?_;exact exit _ _ _ ⟨(by simp only[go_sem,K5,f0]<;>rfl),hok,rfl⟩ rfl
  obtain⟨c,hc⟩:∃c,s[i]? = some c:=⟨_,FB hlt⟩;have hwr:KZ .i64 (Fq i+1)=Fq (i+1):=Lh Fh
  have bad:okc i c=false→BO s=false:=fun hk=>by
   have:=RX (i:=0) hc (by rw[FV];exact hk);simp only[BO,this,Bool.false_and]
  by_cases a:97≤c
  ·by_cases b:c≤122
   ·refine K6 1000 (by simp only[go_sem,K5,Jh,Jk,f0,f3,hlt,hc,hwr,a,b];rfl) ?_;exact ih (s.length-(i+1)) _ _ Fh ⟨i+1,(by simp only[go_sem,K5,f0]<;>rfl),(by simp only[go_sem,K5]<;>rfl),by omega,rfl,SY hc hok (by simp[okc,a,b]),rfl⟩
   ·by_cases z:i=0
    ·subst z;refine K6 1000 (by simp only[go_sem,K5,Jh,Jk,f0,f3,hlt,hc,hwr,a,b];rfl) ?_;rw[bad (by simp[okc,a,b])]at h;refine K7 ⟨_,by simp only[go_sem,K5,Jp];rfl,?_⟩;exact h
    ·by_cases d:48≤c
     ·by_cases e9:c≤57
      ·refine K6 1000 (by simp only[go_sem,K5,Jh,Jk,f0,f3,hlt,hc,hwr,a,b,z,d,e9];rfl) ?_;exact ih (s.length-(i+1)) _ _ Fh ⟨i+1,(by simp only[go_sem,K5,f0]<;>rfl),(by simp only[go_sem,K5]<;>rfl),by omega,rfl,SY hc hok (by simp[okc,a,b,z,d,e9]),rfl⟩
      ·by_cases n9:c=95
       ·refine K6 1000 (by simp only[go_sem,K5,Jh,Jk,f0,f3,hlt,hc,hwr,a,b,z,d,e9,n9];rfl) ?_;exact ih (s.length-(i+1)) _ _ Fh ⟨i+1,(by simp only[go_sem,K5,f0]<;>rfl),(by simp only[go_sem,K5]<;>rfl),by omega,rfl,SY hc hok (by simp[okc,a,b,z,d,e9,n9]),rfl⟩
       ·refine K6 1000 (by simp only[go_sem,K5,Jh,Jk,f0,f3,hlt,hc,hwr,a,b,z,d,e9,n9];rfl) ?_;rw[bad (by simp[okc,a,b,z,d,e9,n9])]at h;refine K7 ⟨_,by simp only[go_sem,K5,Jp];rfl,?_⟩;exact h
     ·have n9:c≠95:=Fh;refine K6 1000 (by simp only[go_sem,K5,Jh,Jk,f0,f3,hlt,hc,hwr,a,b,z,d,n9];rfl) ?_;rw[bad (by simp[okc,a,b,z,d,n9])]at h;refine K7 ⟨_,by simp only[go_sem,K5,Jp];rfl,?_⟩;exact h
  ·by_cases z:i=0
   ·subst z;refine K6 1000 (by simp only[go_sem,K5,Jh,Jk,f0,f3,hlt,hc,hwr,a];rfl) ?_;rw[bad (by simp[okc,a])]at h;refine K7 ⟨_,by simp only[go_sem,K5,Jp];rfl,?_⟩;exact h
   ·by_cases d:48≤c
    ·by_cases e9:c≤57
     ·refine K6 1000 (by simp only[go_sem,K5,Jh,Jk,f0,f3,hlt,hc,hwr,a,z,d,e9];rfl) ?_;exact ih (s.length-(i+1)) _ _ Fh ⟨i+1,(by simp only[go_sem,K5,f0]<;>rfl),(by simp only[go_sem,K5]<;>rfl),by omega,rfl,SY hc hok (by simp[okc,a,z,d,e9]),rfl⟩
     ·by_cases n9:c=95
      ·refine K6 1000 (by simp only[go_sem,K5,Jh,Jk,f0,f3,hlt,hc,hwr,a,z,d,e9,n9];rfl) ?_;exact ih (s.length-(i+1)) _ _ Fh ⟨i+1,(by simp only[go_sem,K5,f0]<;>rfl),(by simp only[go_sem,K5]<;>rfl),by omega,rfl,SY hc hok (by simp[okc,a,z,d,e9,n9]),rfl⟩
      ·refine K6 1000 (by simp only[go_sem,K5,Jh,Jk,f0,f3,hlt,hc,hwr,a,z,d,e9,n9];rfl) ?_;rw[bad (by simp[okc,a,z,d,e9,n9])]at h;refine K7 ⟨_,by simp only[go_sem,K5,Jp];rfl,?_⟩;exact h
    ·have n9:c≠95:=Fh;refine K6 1000 (by simp only[go_sem,K5,Jh,Jk,f0,f3,hlt,hc,hwr,a,z,d,n9];rfl) ?_;rw[bad (by simp[okc,a,z,d,n9])]at h;refine K7 ⟨_,by simp only[go_sem,K5,Jp];rfl,?_⟩;exact h
 ·rintro f w ⟨f0,hok,rfl⟩;cases s with
  | nil =>
   refine K6 1000 (by simp only[go_sem,K5,f0];rfl) ?_;refine K7 ⟨_,by simp only[go_sem,K5,Jp];rfl,?_⟩;exact h
  | cons x t =>
   refine K6 1000 (by simp only[go_sem,K5,f0];rfl) ?_;refine K7 ⟨_,by simp only[go_sem,K5,Jp];rfl,?_⟩;rw[show BO (x::t)=decide ((x::t).length≤16)by simp[BO,hok]]at h;exact h
end
section
open Go.AE Delphi
variable {tab:Tab}
def tkC (t:Tk):List V:=[.int .i64 t.k,.str t.s,.int .i64 t.n]
structure TkOk (t:Tk):Prop where
 len:t.s.length≤9223372036854775807
 byt:∀c∈t.s,c<256
theorem Oe (aw:AW)(l:List V):∃w,aw.fresh l=w∧CB w aw.next l∧Frm (fun _=>False) aw w∧w.next=aw.next+1:=
 ⟨_,rfl,OQ aw l,LZ aw l,rfl⟩
theorem CB.ld {w:AW}{b:Nat}{l:List V}(c:CB w b l)(o n:Nat)(r:List V)(h:Lr n (l.drop o)=some r):w.load b o n=some r:=by rw[c.load];exact h
variable {K:V→AW→Prop}
theorem Jwf (C:Codes tab){t:Tk}{aw:AW}(ht:TkOk t)(h:∀w,Frm (fun _=>False) aw w→K (.bool (Ll t)) w):WF tab GA [.agg (tkC t)] aw K:=by
 refine Ld C.XP rfl ?_;obtain⟨k,s,n⟩:=t;obtain⟨w1,e1,c1,r1,m1⟩:=Oe aw [.int .i64 k,.str s,.int .i64 n];have l0:=CB.ld c1 0 1 _ rfl;have l1:=CB.ld c1 1 1 _ rfl;have l2:=CB.ld c1 2 1 _ rfl;have h:=h w1 r1;by_cases k3:k=3
 ·subst k3;cases s with
  | cons x z =>
   refine K6 1000 (by simp only[go_sem,K5,Jb,JP,Z6,tkC,e1,l0,l1,l2];rfl) ?_;refine K7 ⟨_,by simp only[go_sem,K5,Jb];rfl,?_⟩;exact h
  | nil =>
   have hs:Oi BinOp.eql [] []=some (.bool true):=rfl;by_cases a : -2147483648≤n
   ·by_cases b:n≤2147483648
    ·rw[show Ll ⟨3,[],n⟩=true by simp[Ll,a,b]]at h;refine K6 1000 (by simp only[go_sem,K5,Jb,JP,Z6,tkC,e1,l0,l1,l2,hs,a,b];rfl) ?_;refine K7 ⟨_,by simp only[go_sem,K5,Jb];rfl,?_⟩;exact h
    ·rw[show Ll ⟨3,[],n⟩=false by simp[Ll,a,b]]at h;refine K6 1000 (by simp only[go_sem,K5,Jb,JP,Z6,tkC,e1,l0,l1,l2,hs,a,b];rfl) ?_;refine K7 ⟨_,by simp only[go_sem,K5,Jb];rfl,?_⟩;exact h
   ·rw[show Ll ⟨3,[],n⟩=false by simp[Ll,a]]at h;refine K6 1000 (by simp only[go_sem,K5,Jb,JP,Z6,tkC,e1,l0,l1,l2,hs,a];rfl) ?_;refine K7 ⟨_,by simp only[go_sem,K5,Jb];rfl,?_⟩;exact h
 ·by_cases k2:k=2
  ·subst k2;by_cases z:n=0
   ·subst z;rw[show Ll ⟨2,s,0⟩=BO s by simp[Ll]]at h;refine K6 1000 (by simp only[go_sem,K5,Jb,JP,Uy,tkC,e1,l0,l1,l2];rfl) ?_;refine K9 (by simp only[go_sem,K5]) (by simp only[go_sem,K5];rfl) ?_;refine Jvy C ht.len ht.byt ?_;refine K6 1000 (by simp only[go_sem,K5];rfl) ?_;refine K7 ⟨_,by simp only[go_sem,K5,Jb];rfl,?_⟩;exact h
   ·rw[show Ll ⟨2,s,n⟩=false by simp[Ll,z]]at h;have z':(n==0)=false:=by simpa using z
    refine K6 1000 (by simp only[go_sem,K5,Jb,JP,Uy,tkC,e1,l0,l1,l2,z'];rfl) ?_;refine K7 ⟨_,by simp only[go_sem,K5,Jb];rfl,?_⟩;exact h
  ·rw[show Ll ⟨k,s,n⟩=false by simp[Ll,k3,k2]]at h;have k3':(k==3)=false:=by simpa using k3
   have k2':(k==2)=false:=by simpa using k2
   refine K6 1000 (by simp only[go_sem,K5,Jb,JP,tkC,e1,l0,l1,l2,k3',k2'];rfl) ?_;refine K7 ⟨_,by simp only[go_sem,K5,Jb];rfl,?_⟩;exact h
theorem JqB (C:Codes tab){t:Tk}{aw:AW}(ht:TkOk t)(h:∀w,Frm (fun _=>False) aw w→K (.bool (Ll t)) w):WF tab GB [.agg (tkC t)] aw K:=by
 refine Ld C.XQ rfl ?_;obtain⟨k,s,n⟩:=t;obtain⟨w1,e1,c1,r1,m1⟩:=Oe aw [.int .i64 k,.str s,.int .i64 n];have l0:=CB.ld c1 0 1 _ rfl;have l1:=CB.ld c1 1 1 _ rfl;have l2:=CB.ld c1 2 1 _ rfl;have h:=h w1 r1;by_cases k3:k=3
 ·subst k3;cases s with
  | cons x z =>
   refine K6 1000 (by simp only[go_sem,K5,Jc,JQ,Z7,tkC,e1,l0,l1,l2];rfl) ?_;refine K7 ⟨_,by simp only[go_sem,K5,Jc];rfl,?_⟩;exact h
  | nil =>
   have hs:Oi BinOp.eql [] []=some (.bool true):=rfl;by_cases a : -2147483648≤n
   ·by_cases b:n≤2147483648
    ·rw[show Ll ⟨3,[],n⟩=true by simp[Ll,a,b]]at h;refine K6 1000 (by simp only[go_sem,K5,Jc,JQ,Z7,tkC,e1,l0,l1,l2,hs,a,b];rfl) ?_;refine K7 ⟨_,by simp only[go_sem,K5,Jc];rfl,?_⟩;exact h
    ·rw[show Ll ⟨3,[],n⟩=false by simp[Ll,a,b]]at h;refine K6 1000 (by simp only[go_sem,K5,Jc,JQ,Z7,tkC,e1,l0,l1,l2,hs,a,b];rfl) ?_;refine K7 ⟨_,by simp only[go_sem,K5,Jc];rfl,?_⟩;exact h
   ·rw[show Ll ⟨3,[],n⟩=false by simp[Ll,a]]at h;refine K6 1000 (by simp only[go_sem,K5,Jc,JQ,Z7,tkC,e1,l0,l1,l2,hs,a];rfl) ?_;refine K7 ⟨_,by simp only[go_sem,K5,Jc];rfl,?_⟩;exact h
 ·by_cases k2:k=2
  ·subst k2;by_cases z:n=0
   ·subst z;rw[show Ll ⟨2,s,0⟩=BO s by simp[Ll]]at h;refine K6 1000 (by simp only[go_sem,K5,Jc,JQ,Uz,tkC,e1,l0,l1,l2];rfl) ?_;refine K9 (by simp only[go_sem,K5]) (by simp only[go_sem,K5];rfl) ?_;refine Jpp C ht.len ht.byt ?_;refine K6 1000 (by simp only[go_sem,K5];rfl) ?_;refine K7 ⟨_,by simp only[go_sem,K5,Jc];rfl,?_⟩;exact h
   ·rw[show Ll ⟨2,s,n⟩=false by simp[Ll,z]]at h;have z':(n==0)=false:=by simpa using z
    refine K6 1000 (by simp only[go_sem,K5,Jc,JQ,Uz,tkC,e1,l0,l1,l2,z'];rfl) ?_;refine K7 ⟨_,by simp only[go_sem,K5,Jc];rfl,?_⟩;exact h
  ·rw[show Ll ⟨k,s,n⟩=false by simp[Ll,k3,k2]]at h;have k3':(k==3)=false:=by simpa using k3
   have k2':(k==2)=false:=by simpa using k2
   refine K6 1000 (by simp only[go_sem,K5,Jc,JQ,tkC,e1,l0,l1,l2,k3',k2'];rfl) ?_;refine K7 ⟨_,by simp only[go_sem,K5,Jc];rfl,?_⟩;exact h
end
section
open Go.AE Delphi
variable {tab:Tab}
def Ou (a b:Tk):Bool :=
 if a.k=3 then (if b.k=3 then decide (a.n<b.n)else true)else if b.k=3 then false else Oq a.s b.s
def OO (a b:Tk):Bool:=(a.k==b.k)&&(eqL a.s b.s&&(a.n==b.n))
theorem EK (aw:AW)(l l':List V):∃w,(aw.fresh l).fresh l'=w∧CB w aw.next l∧CB w (aw.next+1) l'∧Frm (fun _=>False) aw w∧w.next=aw.next+2:=by
 have f1:=LZ (S:=fun _=>False) aw l;have f2:=LZ (S:=fun _=>False) (aw.fresh l) l';have n1:(aw.fresh l).next=aw.next+1:=rfl;refine⟨_,rfl,(OQ aw l).frm f2 (fun h=>h),?_,f1.tr f2,rfl⟩;have:=OQ (aw.fresh l) l'
 rwa [n1]at this
variable {a b:Tk} {aw:AW} {K:V→AW→Prop}
theorem Jpl (C:Codes tab)(h:∀w,Frm (fun _=>False) aw w→K (.bool (Ou a b)) w):WF tab V0 [.agg (tkC a),.agg (tkC b)] aw K:=by
 refine Ld C.Vk rfl ?_;obtain⟨k,s,n⟩:=a;obtain⟨k',s',n'⟩:=b;obtain⟨w1,e1,c1,c2,r1,m1⟩:=EK aw [.int .i64 k,.str s,.int .i64 n] [.int .i64 k',.str s',.int .i64 n'];have l0:=CB.ld c1 0 1 _ rfl;have l1:=CB.ld c1 1 1 _ rfl;have l2:=CB.ld c1 2 1 _ rfl;have q0:=CB.ld c2 0 1 _ rfl;have q1:=CB.ld c2 1 1 _ rfl;have q2:=CB.ld c2 2 1 _ rfl;have h:=h w1 r1;have nn:∀l,(aw.fresh l).next=aw.next+1:=fun _=>rfl;by_cases h1:k=3
 ·subst h1;by_cases h2:k'=3
  ·subst h2;refine K6 1000 (by simp only[go_sem,K5,JB,Yy,JaO,tkC,nn,e1,l0,l1,l2,q0,q1,q2];rfl) ?_;refine K7 ⟨_,by simp only[go_sem,K5,JB];rfl,?_⟩;exact h
  ·have h2':(k'==3)=false:=by simpa using h2
   rw[show Ou ⟨3,s,n⟩ ⟨k',s',n'⟩=true by simp[Ou,h2]]at h;refine K6 1000 (by simp only[go_sem,K5,JB,Yy,Vj,tkC,nn,e1,l0,l1,l2,q0,q1,q2,h2'];rfl) ?_;refine K7 ⟨_,by simp only[go_sem,K5,JB];rfl,?_⟩;exact h
 ·have h1':(k==3)=false:=by simpa using h1
  by_cases h2:k'=3
  ·subst h2;rw[show Ou ⟨k,s,n⟩ ⟨3,s',n'⟩=false by simp[Ou,h1]]at h;refine K6 1000 (by simp only[go_sem,K5,JB,Yy,Vj,tkC,nn,e1,l0,l1,l2,q0,q1,q2,h1'];rfl) ?_;refine K7 ⟨_,by simp only[go_sem,K5,JB];rfl,?_⟩;exact h
  ·have h2':(k'==3)=false:=by simpa using h2
   rw[show Ou ⟨k,s,n⟩ ⟨k',s',n'⟩=Oq s s' by simp[Ou,h1,h2]]at h;refine K6 1000 (by simp only[go_sem,K5,JB,Yy,Vj,tkC,nn,e1,l0,l1,l2,q0,q1,q2,h1',h2',Oi];rfl) ?_;refine K7 ⟨_,by simp only[go_sem,K5,JB];rfl,?_⟩;exact h
theorem Q4 (C:Codes tab)(h:∀w,Frm (fun _=>False) aw w→K (.bool (Ou a b)) w):WF tab YJ [.agg (tkC a),.agg (tkC b)] aw K:=by
 refine Ld C.Wg rfl ?_;obtain⟨k,s,n⟩:=a;obtain⟨k',s',n'⟩:=b;obtain⟨w1,e1,c1,c2,r1,m1⟩:=EK aw [.int .i64 k,.str s,.int .i64 n] [.int .i64 k',.str s',.int .i64 n'];have l0:=CB.ld c1 0 1 _ rfl;have l1:=CB.ld c1 1 1 _ rfl;have l2:=CB.ld c1 2 1 _ rfl;have q0:=CB.ld c2 0 1 _ rfl;have q1:=CB.ld c2 1 1 _ rfl;have q2:=CB.ld c2 2 1 _ rfl;have h:=h w1 r1;have nn:∀l,(aw.fresh l).next=aw.next+1:=fun _=>rfl;by_cases h1:k=3
 ·subst h1;by_cases h2:k'=3
  ·subst h2;refine K6 1000 (by simp only[go_sem,K5,Jy,Yl,tkC,nn,e1,l0,l1,l2,q0,q1,q2];rfl) ?_;refine K7 ⟨_,by simp only[go_sem,K5,Jy];rfl,?_⟩;exact h
  ·have h2':(k'==3)=false:=by simpa using h2
   rw[show Ou ⟨3,s,n⟩ ⟨k',s',n'⟩=true by simp[Ou,h2]]at h;refine K6 1000 (by simp only[go_sem,K5,Jy,Yl,tkC,nn,e1,l0,l1,l2,q0,q1,q2,h2',bne];rfl) ?_;refine K7 ⟨_,by simp only[go_sem,K5,Jy];rfl,?_⟩;exact h
 ·have h1':(k==3)=false:=by simpa using h1
  by_cases h2:k'=3
  ·subst h2;rw[show Ou ⟨k,s,n⟩ ⟨3,s',n'⟩=false by simp[Ou,h1]]at h;refine K6 1000 (by simp only[go_sem,K5,Jy,Yl,tkC,nn,e1,l0,l1,l2,q0,q1,q2,h1'];rfl) ?_;refine K7 ⟨_,by simp only[go_sem,K5,Jy];rfl,?_⟩;exact h
  ·have h2':(k'==3)=false:=by simpa using h2
   rw[show Ou ⟨k,s,n⟩ ⟨k',s',n'⟩=Oq s s' by simp[Ou,h1,h2]]at h;refine K6 1000 (by simp only[go_sem,K5,Jy,Yl,tkC,nn,e1,l0,l1,l2,q0,q1,q2,h1',h2',Oi];rfl) ?_;refine K7 ⟨_,by simp only[go_sem,K5,Jy];rfl,?_⟩;exact h
theorem Jud (C:Codes tab)(h:∀w,Frm (fun _=>False) aw w→K (.bool (OO a b)) w):WF tab VZ [.agg (tkC a),.agg (tkC b)] aw K:=by
 refine Ld C.Vi rfl ?_;obtain⟨k,s,n⟩:=a;obtain⟨k',s',n'⟩:=b;obtain⟨w1,e1,c1,c2,r1,m1⟩:=EK aw [.int .i64 k,.str s,.int .i64 n] [.int .i64 k',.str s',.int .i64 n'];have l0:=CB.ld c1 0 3 _ rfl;have q0:=CB.ld c2 0 3 _ rfl;have h:=h w1 r1;have nn:∀l,(aw.fresh l).next=aw.next+1:=fun _=>rfl
 have he:TR [.int,.str,.int] [.int .i64 k,.str s,.int .i64 n] [.int .i64 k',.str s',.int .i64 n']=some (OO ⟨k,s,n⟩ ⟨k',s',n'⟩):=by
  simp only[TR,Cg,OO,if_true];cases (k==k')<;>cases eqL s s'<;>cases (n==n')<;>rfl
 refine K6 1000 (by simp only[go_sem,K5,Vh,tkC,nn,e1,l0,q0,he];rfl) ?_;refine K7 ⟨_,by simp only[go_sem,K5,Vh];rfl,?_⟩;simpa[Oy]using h
theorem Nn (C:Codes tab)(h:∀w,Frm (fun _=>False) aw w→K (.bool (OO a b)) w):WF tab ZO [.agg (tkC a),.agg (tkC b)] aw K:=by
 refine Ld C.XU rfl ?_;obtain⟨k,s,n⟩:=a;obtain⟨k',s',n'⟩:=b;obtain⟨w1,e1,c1,c2,r1,m1⟩:=EK aw [.int .i64 k,.str s,.int .i64 n] [.int .i64 k',.str s',.int .i64 n'];have l0:=CB.ld c1 0 1 _ rfl;have l1:=CB.ld c1 1 1 _ rfl;have l2:=CB.ld c1 2 1 _ rfl;have q0:=CB.ld c2 0 1 _ rfl;have q1:=CB.ld c2 1 1 _ rfl;have q2:=CB.ld c2 2 1 _ rfl;have h:=h w1 r1;have nn:∀l,(aw.fresh l).next=aw.next+1:=fun _=>rfl;cases h1:(k==k')with
 | false =>
  rw[show OO ⟨k,s,n⟩ ⟨k',s',n'⟩=false by simp only[OO,h1,Bool.false_and]]at h;refine K6 1000 (by simp only[go_sem,K5,JR,tkC,nn,e1,l0,l1,l2,q0,q1,q2,h1];rfl) ?_;refine K7 ⟨_,by simp only[go_sem,K5,JR];rfl,?_⟩;exact h
 | true =>
  cases h2:eqL s s' with
  | false =>
   rw[show OO ⟨k,s,n⟩ ⟨k',s',n'⟩=false by simp only[OO,h1,h2,Bool.false_and,Bool.and_false]]at h;refine K6 1000 (by simp only[go_sem,K5,JR,tkC,nn,e1,l0,l1,l2,q0,q1,q2,h1,Oi,h2];rfl) ?_;refine K7 ⟨_,by simp only[go_sem,K5,JR];rfl,?_⟩;exact h
  | true =>
   rw[show OO ⟨k,s,n⟩ ⟨k',s',n'⟩=(n==n')by simp only[OO,h1,h2,Bool.true_and]]at h;refine K6 1000 (by simp only[go_sem,K5,JR,tkC,nn,e1,l0,l1,l2,q0,q1,q2,h1,Oi,h2];rfl) ?_;refine K7 ⟨_,by simp only[go_sem,K5,JR];rfl,?_⟩;exact h
def SG (t:Tk):Tk:=⟨t.k,t.s.take 20,t.n⟩
theorem JvY (C:Codes tab)(h:K (.str (s.take 20)) aw):WF tab ZM [.str s,.int .i64 20] aw K:=by
 refine Ld C.Z1 rfl ?_;by_cases hl:20<s.length
 ·have hl':20≤s.length:=Fh;refine K6 1000 (by simp only[go_sem,K5,Jt,hl,hl'];rfl) ?_;refine K7 ⟨_,by simp only[go_sem,K5,Jt];rfl,?_⟩;exact h
 ·rw[FX Fh]at h;refine K6 1000 (by simp only[go_sem,K5,Jt,hl];rfl) ?_;refine K7 ⟨_,by simp only[go_sem,K5,Jt];rfl,?_⟩;exact h
theorem JuL (C:Codes tab){t:Tk}(h:∀w,Frm (fun _=>False) aw w→K (.agg (tkC (SG t))) w):WF tab Gt [.agg (tkC t)] aw K:=by
 refine Ld C.Xp rfl ?_;obtain⟨k,s,n⟩:=t;obtain⟨w1,e1,c1,c2,r1,m1⟩:=EK aw [.int .i64 k,.str s,.int .i64 n] [.int .i64 0,.str [],.int .i64 0];have l1:=CB.ld c1 1 1 _ rfl;have nn:∀l,(aw.fresh l).next=aw.next+1:=fun _=>rfl;refine K6 1000 (by simp only[go_sem,K5,Xo,tkC,nn,e1,l1];rfl) ?_;refine K9 (by simp only[go_sem,K5]) (by simp only[go_sem,K5];rfl) ?_;refine JvY C ?_;have s2:=c1.set (i:=1) (v:=.str (s.take 20)) Fj rfl;have d1:CB _ aw.next _:=Oc (l:=[V.int .i64 k,.str (s.take 20),.int .i64 n]) c1.lt;have f2:=LW (w:=w1) (b:=aw.next) (l:=[V.int .i64 k,.str (s.take 20),.int .i64 n]);have d2:=c2.frm f2 Fh;have s2:w1.store aw.next 1 [.str (s.take 20)]=some (w1.put aw.next [V.int .i64 k,.str (s.take 20),.int .i64 n]):=s2;generalize w1.put aw.next [V.int .i64 k,.str (s.take 20),.int .i64 n]=w2 at *;have l3:=CB.ld d1 0 3 _ rfl;have s3:=d2.setAll (vs:=[V.int .i64 k,.str (s.take 20),.int .i64 n]) rfl rfl;have d3:CB _ (aw.next+1) _:=Oc (l:=[V.int .i64 k,.str (s.take 20),.int .i64 n]) d2.lt;have f3:=LW (w:=w2) (b:=aw.next+1) (l:=[V.int .i64 k,.str (s.take 20),.int .i64 n]);generalize w2.put (aw.next+1) [V.int .i64 k,.str (s.take 20),.int .i64 n]=w3 at *;have l4:=CB.ld d3 0 3 _ rfl;refine K6 1000 (by simp only[go_sem,K5,s2,l3,s3,FC,FD];rfl) ?_;refine K7 ⟨_,by simp only[go_sem,K5,Xo,l4];rfl,?_⟩;exact h w3 ((r1.trans f2 (fun _ _ h=>h) (by rintro x hx rfl;omega)).trans f3 (fun _ _ h=>h) (by rintro x hx rfl;omega))
end
section
open Go.AE Delphi
variable {tab:Tab}
end
end Go.Proofs.YtegdcbdicpfbpaaGreatDoor.Val
namespace Go.Proofs.YtegdcbdicpfbpaaGreatDoor
open Go.AE Delphi Val
variable {tab:Tab}
structure PgS (Tw:Fw) (w:AW) (bp:Nat) (ws:List Wd) (v:V) (k:Nat) (wh:Bool) (e:Nat):Prop where
 cb:CB w bp [v,.bool wh,.int .i64 (Fq e)]
 kle:k≤ws.length
 rd:(ws=[]∧v = .nilslice)∨∃b,v = .slice b (k*3) (ws.length-k) (.upTo 3)∧Rd Tw w (.slice b 0 ws.length (.upTo 3)) 3 ws.length (DJ ws)
 no:¬Tw bp
 len:ws.length≤4000
variable {Tw:Fw} {w:AW} {bp k e:Nat} {ws:List Wd} {v:V} {wh:Bool}
theorem PgS.frm {S:Fw}{w':AW}(h:PgS Tw w bp ws v k wh e)(hf:Frm S w w')(hn:¬S bp)(hd:∀x,Tw x→¬S x):PgS Tw w' bp ws v k wh e:=by
 refine⟨h.cb.frm hf hn,h.kle,?_,h.no,h.len⟩;rcases h.rd with h1|⟨b,h1,h2⟩
 ·exact .inl h1
 ·exact .inr ⟨b,h1,h2.frm hf hd⟩
theorem PgS.inv (h:PgS Tw w bp ws v k wh e):lenV v=some (ws.length-k)∧v.one=true∧v.cells=[v]∧((ws=[]∧v = .nilslice)∨∃b,v = .slice b (k*3) (ws.length-k) (.upTo 3)∧ ∀i x,ws[k+i]? = some x→w.load b (k*3+i*3) 3=some (Sj x)):=by
 rcases h.rd with⟨rfl,rfl⟩|⟨b,rfl,h2⟩
 ·exact⟨by simp[lenV],rfl,rfl,.inl ⟨rfl,rfl⟩⟩
 ·refine⟨rfl,rfl,rfl,.inr ⟨b,rfl,fun i x hx=>?_⟩⟩;have hw:Wds Tw w bp (.slice b 0 ws.length (.upTo 3)) ws:=⟨h2,h.no,h.len⟩;rcases hw.at with⟨h1,_⟩|⟨b',o,c,h1,_,_,hat⟩
  ·cases h1
  ·cases h1;have:=(hat (k+i) x hx).2.2;rw[FV,Nat.add_mul]at this;exact this
theorem PgS.l0 (h:PgS Tw w bp ws v k wh e):w.load bp 0 1=some [v]:=CB.ld h.cb 0 1 _ rfl
theorem PgS.l1 (h:PgS Tw w bp ws v k wh e):w.load bp 1 1=some [.bool wh]:=CB.ld h.cb 1 1 _ rfl
theorem PgS.l2 (h:PgS Tw w bp ws v k wh e):w.load bp 2 1=some [.int .i64 (Fq e)]:=CB.ld h.cb 2 1 _ rfl
theorem PgS.take (h:PgS Tw w bp ws v k wh e)(hk:k<ws.length):∃b v' w',v = .slice b (k*3) (ws.length-k) (.upTo 3)∧w.sliceW 3 b (k*3) (ws.length-k) (.upTo 3) (some 1) none none=some v'∧w.store bp 0 [v']=some w'∧PgS Tw w' bp ws v' (k+1) wh e∧Frm (fun x=>x=bp) w w'∧v'.cells=[v']:=by
 rcases h.rd with⟨rfl,_⟩|⟨b,h1,h2⟩
 ·simp at hk
 have hf:=LW (w:=w) (b:=bp) (l:=[V.slice b ((k+1)*3) (ws.length-(k+1)) (.upTo 3),V.bool wh,.int .i64 (Fq e)]);refine⟨b,.slice b ((k+1)*3) (ws.length-(k+1)) (.upTo 3),w.put bp [.slice b ((k+1)*3) (ws.length-(k+1)) (.upTo 3),.bool wh,.int .i64 (Fq e)],h1,?_,h.cb.set (i:=0) Fj rfl,⟨Oc h.cb.lt,hk,.inr ⟨b,rfl,h2.frm hf fun x hx he=>h.no (he▸hx)⟩,h.no,h.len⟩,hf,rfl⟩
 have e1:TS 3 b (k*3) (ws.length-k) (.upTo 3) (some 1) none none=some (.slice b ((k+1)*3) (ws.length-(k+1)) (.upTo 3)):=by
  simp only[TS,Option.getD_none,Option.getD_some];rw[if_pos ⟨FH _,by omega,trivial⟩]
  congr 2
  omega
 simp only[AW.sliceW,e1]
theorem JwZ (s g:List Nat):eqL s g=decide (s=g):=by
 by_cases hh:s=g
 ·rw[decide_eq_true hh];exact eqL_iff.2 hh
 ·rw[decide_eq_false hh];cases hc:eqL s g with
  | false=>rfl
  | true=>exact absurd (eqL_iff.1 hc) hh
section
open Go.AE Delphi Val
variable {tab:Tab}
end
section
open Go.AE Delphi Val
variable {tab:Tab}
end
section
open Go.AE Delphi Val
variable {tab:Tab}
end
section
open Go.AE Delphi Val
variable {tab:Tab}
end
section
open Go.AE Delphi Val
variable {tab:Tab}
structure SB (Tw:Fw) (a w:AW) (bp rb:Nat) (ws:List Wd) (wh:Bool) (hd:Lt) (hv:V) (body:List Lt) (k e:Nat) (v bv:V) (S T:Fw) (xss:List (List V)):Prop where
 p:PgS Tw w bp ws v k wh e
 frm:Frm (fun b=>b=bp) a w
 res:CB w a.next [.int .i64 0,.str [],.nilslice,.nilslice]
 rule:CB w rb [.int .i64 (Fq hd.kind),.str hd.name,hv,bv]
 head:Rd T w hv 3 hd.args.length (L8 hd.args)
 buf:Buf S w bv 3 body.length xss.flatten
 lits:All2 (LtC T w) body xss
 sepS:∀x,S x→a.next<x∧x<w.next∧x≠rb∧¬T x
 sepT:∀x,T x→a.next<x∧x<w.next∧x≠rb
 rbn:a.next<rb
theorem SB.step {a w':AW}{rb:Nat}{hd:Lt}{hv:V}{body:List Lt}{k' e':Nat}{v' bv:V}{S T:Fw}{xss:List (List V)}(h:SB Tw a w bp rb ws wh hd hv body k e v bv S T xss)(hb:bp<a.next)(hp:PgS Tw w' bp ws v' k' wh e')(g:Frm (fun b=>b=bp) w w'):SB Tw a w' bp rb ws wh hd hv body k' e' v' bv S T xss:=by
 have hr:=h.rbn;have n:=g.next;have nS:∀x,S x→¬x=bp:=fun x hx he=>by have:=(h.sepS x hx).1;omega
 have nT:∀x,T x→¬x=bp:=fun x hx he=>by have:=(h.sepT x hx).1;omega
 exact⟨hp,h.frm.tr g,h.res.frm g Fh,h.rule.frm g Fh,h.head.frm g nT,h.buf.frm g nS,h.lits.imp fun _ _ hl=>hl.frm g nT,fun x hx=>by obtain⟨a1,a2,a3⟩:=h.sepS x hx;exact⟨a1,by omega,a3⟩,fun x hx=>by obtain⟨a1,a2,a3⟩:=h.sepT x hx;exact⟨a1,by omega,a3⟩,hr⟩
end
section
open Go.AE Delphi Val
variable {tab:Tab}
structure SR (Tw:Fw) (a w:AW) (bp:Nat) (ws:List Wd) (wh:Bool) (rules:List Rl) (k e:Nat) (v rv:V) (S T:Fw) (xss:List (List V)):Prop where
 p:PgS Tw w bp ws v k wh e
 frm:Frm (fun b=>b=bp) a w
 buf:Buf S w rv 4 rules.length xss.flatten
 rls:All2 (RlC T w) rules xss
 sepS:∀x,S x→a.next≤x∧x<w.next∧¬T x
 sepT:∀x,T x→a.next≤x∧x<w.next
theorem SR.step {a w':AW}{rules:List Rl}{k' e':Nat}{v' rv:V}{S T:Fw}{xss:List (List V)}(h:SR Tw a w bp ws wh rules k e v rv S T xss)(hb:bp<a.next)(hp:PgS Tw w' bp ws v' k' wh e')(g:Frm (fun b=>b=bp) w w'):SR Tw a w' bp ws wh rules k' e' v' rv S T xss:=by
 have n:=g.next;have nS:∀x,S x→¬x=bp:=fun x hx he=>by have:=(h.sepS x hx).1;omega
 have nT:∀x,T x→¬x=bp:=fun x hx he=>by have:=(h.sepT x hx).1;omega
 exact⟨hp,h.frm.tr g,h.buf.frm g nS,h.rls.imp fun _ _ hl=>hl.frm g nT,fun x hx=>by obtain⟨a1,a2,a3⟩:=h.sepS x hx;exact⟨a1,by omega,a3⟩,fun x hx=>by obtain⟨a1,a2⟩:=h.sepT x hx;exact⟨a1,by omega⟩⟩
end
end Go.Proofs.YtegdcbdicpfbpaaGreatDoor
namespace Go.Proofs.YtegdcbdicpfbpaaGreatDoor.Val
open Go.AE Delphi
variable {tab:Tab}
structure St2 (aw:AW) (a b:Tk) (w:AW):Prop where
 a:CB w aw.next (tkC a)
 b:CB w (aw.next+1) (tkC b)
 frm:Frm (fun _=>False) aw w
variable {aw w:AW} {a b:Tk}
theorem St2.step {w':AW}(h:St2 aw a b w)(hf:Frm (fun _=>False) w w'):St2 aw a b w':=⟨h.a.frm hf fun h=>h,h.b.frm hf fun h=>h,h.frm.tr hf⟩
theorem St2.la (h:St2 aw a b w):w.load aw.next 0 3=some (tkC a):=CB.ld h.a 0 3 _ rfl
theorem St2.lb (h:St2 aw a b w):w.load (aw.next+1) 0 3=some (tkC b):=CB.ld h.b 0 3 _ rfl
theorem TE (t:Tk):(tkC t).length=3:=rfl
theorem St2.set {a' b':Tk}(h:St2 aw a b w):∃w1 w2,w.store aw.next 0 (tkC a')=some w1∧w1.store (aw.next+1) 0 (tkC b')=some w2∧St2 aw a' b' w2:=by
 have s1:=h.a.setAll (vs:=tkC a') rfl rfl;have d1:CB _ aw.next _:=Oc (l:=tkC a') h.a.lt;have f1:=LW (w:=w) (b:=aw.next) (l:=tkC a');have d2:=h.b.frm f1 Fh;have s2:=d2.setAll (vs:=tkC b') rfl rfl;have f2:=LW (w:=w.put aw.next (tkC a')) (b:=aw.next+1) (l:=tkC b');refine⟨_,_,s1,s2,d1.frm f2 Fh,Oc d2.lt,?_⟩;refine (h.frm.trans f1 (fun _ _ h=>h) ?_).trans f2 (fun _ _ h=>h) ?_
 ·rintro x hx rfl;omega
 ·rintro x hx rfl;omega
theorem Jnf:∀s:List Nat,eqL s s=true
 | []=>rfl
 | c::s=>by show (Nat.beq c c&&eqL s s)=true;rw[Jnf s,Nat.beq_refl];rfl
section
open Go.AE Delphi
variable {tab:Tab}
def prT (t:Tk):List Nat:=if t.k=3 then Ba t.n else t.s
structure TkPr (t:Tk):Prop where
 num:t.n.natAbs≤2147483648
 len:(prT t).length≤3000000000
def O0 (l:List Tk):List V:=l.flatMap tkC
theorem Di {T:Fw}{v:V}{l:List Tk}(h:Rd T w v 3 l.length (O0 l)){i:Nat}{t:Tk}(hi:l[i]? = some t):∃b o c,v = .slice b o l.length c∧T b∧b<w.next∧w.load b (o+i*3) 3=some (tkC t):=by
 have hlt:i<l.length:=(List.getElem?_eq_some_iff.1 hi).1;rcases h.inv with⟨_,q2,_⟩|⟨b,o,c,rfl,hB⟩
 ·omega
 ·refine⟨b,o,c,rfl,hB.own,hB.lt,?_⟩;rw[hB.load (i*3) 3 Fh];have h2:=Dt TE (i:=i) (j:=0) (k:=3) hi Fh;rw[FV]at h2;exact congrArg some h2
end
end Go.Proofs.YtegdcbdicpfbpaaGreatDoor.Val
namespace Delphi
end Delphi
namespace Go.Proofs.YtegdcbdicpfbpaaGreatDoor
open Go.AE Delphi Val
variable {tab:Tab}
end Go.Proofs.YtegdcbdicpfbpaaGreatDoor
namespace Delphi
def BU (out:Fx) (t:Tm):Fx:=if t.kind=1∧t.name∉out then out++[t.name]else out
def Ol (l:List Tm):Fx:=l.foldl BU []
theorem JpN (out:Fx)(t:Tm):(BU out t).length≤out.length+1:=by
 unfold BU;split<;>simp
theorem A7 (l:List Tm):(Ol l).length≤l.length:=by
 have:∀(l:List Tm) (out:Fx),(l.foldl BU out).length≤out.length+l.length:=by
  intro l;induction l with
  | nil=>intro out;simp
  | cons t l ih =>
   intro out;rw[Ku,FC];have:=ih (BU out t);have:=JpN out t;omega
 simpa[Ol]using this l []
end Delphi
namespace Go.Proofs.YtegdcbdicpfbpaaGreatDoor
open Go.AE Delphi
variable {tab:Tab}
variable {T:Fw} {w:AW} {v:V} {l:List Tm} {i:Nat}
theorem Ij (h:Rd T w v 3 l.length (L8 l)){t:Tm}(hi:l[i]? = some t):∃b o c,v = .slice b o l.length c∧T b∧b<w.next∧w.load b (o+i*3) 3=some (tmC t)∧w.load b (o+i*3) 1=some [.int .i64 (Fq t.kind)]∧w.load b (o+i*3+1) 1=some [.str t.name]:=by
 have hlt:i<l.length:=(List.getElem?_eq_some_iff.1 hi).1;rcases h.inv with⟨_,q2,_⟩|⟨b,o,c,rfl,hB⟩
 ·omega
 ·have part:∀j k,j+k≤3→w.load b (o+i*3+j) k=some (((tmC t).drop j).take k):=by
   intro j k hjk;rw[Kj,hB.load (i*3+j) k Fh];have h2:=Dt SA (i:=i) (j:=j) (k:=k) hi hjk;rw[FV]at h2;exact congrArg some h2
  exact⟨b,o,c,rfl,hB.own,hB.lt,part 0 3 Fh,part 0 1 Fh,part 1 1 Fh⟩
theorem Dy {l:List Lt}(h:RdL (LtC T) T w v 3 l){t:Lt}(hi:l[i]? = some t):∃b o c u,v = .slice b o l.length c∧T b∧b<w.next∧w.load b (o+i*3) 3=some [.int .i64 (Fq t.kind),.str t.name,u]∧w.load b (o+i*3) 1=some [.int .i64 (Fq t.kind)]∧w.load b (o+i*3+1) 1=some [.str t.name]∧w.load b (o+i*3+2) 1=some [u]∧Rd T w u 3 t.args.length (L8 t.args):=by
 have hlt:i<l.length:=(List.getElem?_eq_some_iff.1 hi).1;rcases h.inv (fun a xs hx=>(LtC.one hx).1)with⟨_,q2⟩|⟨b,o,c,rfl,hT,hb,_,hat⟩
 ·rw[q2]at hlt;simp at hlt
 ·obtain⟨xs,⟨u,rfl,hu⟩,hp⟩:=hat i t hi;exact⟨b,o,c,u,rfl,hT,hb,hp 0 3 Fh,hp 0 1 Fh,hp 1 1 Fh,hp 2 1 Fh,hu⟩
theorem Jwo {l:List Rl}(h:RdL (RlC T) T w v 4 l){r:Rl}(hi:l[i]? = some r):∃b o c xs,v = .slice b o l.length c∧T b∧b<w.next∧RlC T w r xs∧w.load b (o+i*4) 4=some xs∧∀j k,j+k≤4→w.load b (o+i*4+j) k=some ((xs.drop j).take k):=by
 have hlt:i<l.length:=(List.getElem?_eq_some_iff.1 hi).1;rcases h.inv (fun a xs hx=>(RlC.one hx).1)with⟨_,q2⟩|⟨b,o,c,rfl,hT,hb,_,hat⟩
 ·rw[q2]at hlt;simp at hlt
 ·obtain⟨xs,hx,hp⟩:=hat i r hi;have hl:=hx.one.1;have:=hp 0 4 Fh;rw[FZ,FX Fh]at this;exact⟨b,o,c,xs,rfl,hT,hb,hx,this,hp⟩
theorem Cx {α:Type}{r:AW→α→List V→Prop}{esz:Nat}{l:List α}(h:RdL r T w v esz l):lenV v=some l.length:=by
 obtain⟨xss,h1,_⟩:=h;exact h1.lenV
def LY (l:Fx):List V:=l.map V.str
theorem Jsk (l:Fx):(LY l).length=l.length:=by simp[LY]
abbrev SM:=MB (α:=List Nat) (β:=Int) V.str (V.int .i64)
def Seen (M:List (List Nat×Int)) (out:Fx) (i:Nat):Prop:=∀x,(K8 M x=none↔x∉out)∧∀c,K8 M x=some c→1≤c∧c≤i
def JwX (T:Fw) (aw:AW) (lv:V) (l:List Tm) (q:Nat) (f:Fr) (w:AW):Prop :=
 ∃i bm M out ov S,f.get 3=some ov∧f.get 4=some (.map bm)∧f.get 8=some lv∧f.get 9=some (.int .i64 (Fq l.length))∧f.get 10=some (.int .i64 (Fq i))∧i≤l.length∧q=l.length-i∧
  SM w bm M∧aw.next≤bm∧Seen M out i∧Ol l=(l.drop i).foldl BU out∧out.length≤i∧Bt S w ov 1 out.length (LY out)∧(∀x,S x→aw.next≤x∧x<w.next∧x≠bm)∧Frm (fun _=>False) aw w
def JwY (aw:AW) (l:List Tm) (f:Fr) (w:AW):Prop:=∃ov S,f.get 3=some ov∧Bt S w ov 1 (Ol l).length (LY (Ol l))∧(∀x,S x→aw.next≤x∧x<w.next)∧Frm (fun _=>False) aw w
theorem Ey (C:Codes tab){aw:AW}{lv:V}{K:V→AW→Prop}(hl:Rd T aw lv 3 l.length (L8 l))(hn:l.length≤100000)(h:∀v w S,Bt S w v 1 (Ol l).length (LY (Ol l))→Frm (fun _=>False) aw w→(∀x,S x→aw.next≤x∧x<w.next)→K v w):WF tab Zh [lv] aw K:=by
 refine Ld C.Wp rfl ?_;have hlv:=hl.lenV;refine K6 1000 (by simp only[go_sem,K5,Wo,Jam,hlv];rfl) ?_;refine LK (JwX T aw lv l) (JwY aw l) ?_ ?_ l.length ⟨0,aw.next,[],[],.nilslice,fun _=>False,(by simp only[go_sem,K5]<;>rfl),(by simp only[go_sem,K5]<;>rfl),(by simp only[go_sem,K5]<;>rfl),(by simp only[go_sem,K5]<;>rfl),(by simp only[go_sem,K5]<;>rfl),by omega,by omega,MB.new aw,FH _,fun x=>⟨by simp[K8],fun c hc=>by simp[K8]at hc⟩,rfl,by simp,.nil,fun _ h=>h.elim,CY aw⟩
 ·rintro q f w ⟨i,bm,M,out,ov,S,f3,f4,f8,f9,f10,hi,rfl,hM,hbm,hseen,hfold,hol,hb,hS,hf⟩ ih exit;by_cases hlt:i<l.length
  case neg =>
   rw[List.drop_eq_nil_of_le (by omega:l.length≤i)]at hfold;have hfold:Ol l=out:=hfold;refine Lb 1000 (by simp only[go_sem,Yp,f9,f10,hlt];rfl) ?_;exact exit _ _ _ ⟨ov,S,(by simp only[go_sem,K5,f3]<;>rfl),by rw[hfold];exact hb,fun x hx=>⟨(hS x hx).1,(hS x hx).2.1⟩,hf⟩ rfl
  obtain⟨t,ht⟩:∃t,l[i]? = some t:=⟨_,FB hlt⟩;obtain⟨b,o,c,rfl,hTb,hbl,a3,a1,a2⟩:=Ij (hl.frm hf fun _ _ h=>h) ht
  have hd:l.drop i=t::l.drop (i+1):=by
   rw[FL hlt];rw[FB hlt]at ht;rw[FY ht]
  rw[hd,Ku]at hfold;have hwr:KZ .i64 (Fq i+1)=Fq (i+1):=Lh Fh;obtain⟨w2,s2,c2,r2,n2⟩:=Oj w (zs:=[V.int .i64 0,V.str [],V.int .i64 0]) (vs:=tmC t) rfl rfl;have k0:w2.load w.next 0 1=some [.int .i64 (Fq t.kind)]:=by rw[c2.load];rfl
  have k1:w2.load w.next 1 1=some [.str t.name]:=by rw[c2.load];rfl
  have hM2:=hM.frm r2 fun h=>h;have hb2:=hb.frm r2 fun _ _ h=>h;have hf2:=hf.tr r2;have nw:=hf.next;by_cases hk:t.kind=1
  case neg =>
   have he:BU out t=out:=if_neg fun h=>hk h.1;rw[he]at hfold;refine K6 1000 (by simp only[go_sem,K5,Yp,Wn,f3,f4,f8,f9,f10,hlt,a3,s2,SA,k0,hk,hwr];rfl) ?_;exact ih _ _ _ Fh ⟨i+1,bm,M,out,ov,S,(by simp only[go_sem,K5,f3]<;>rfl),(by simp only[go_sem,K5,f4]<;>rfl),(by simp only[go_sem,K5,f8]<;>rfl),(by simp only[go_sem,K5,f9]<;>rfl),(by simp only[go_sem,K5]<;>rfl),by omega,rfl,hM2,hbm,fun x=>⟨(hseen x).1,fun c hc=>by have:=(hseen x).2 c hc;omega⟩,hfold,by omega,hb2,fun x hx=>by have:=hS x hx;exact⟨this.1,by omega,this.2.2⟩,hf2⟩
  obtain⟨n,hn0,hn1,hgn⟩:∃n:Nat,n≤i∧(n=0↔t.name∉out)∧Dm (V.int .i64) (V.int .i64 0) (K8 M t.name)=(V.int .i64 (Fq n),decide (n≠0)):=by
   cases hg:K8 M t.name with
   | none=>exact⟨0,by omega,by simp[(hseen t.name).1.1 hg],rfl⟩
   | some c =>
    have hc:=(hseen t.name).2 c hg;have hin:¬t.name∉out:=fun h=>by have:=(hseen t.name).1.2 h;rw[this]at hg;cases hg
    refine⟨c.toNat,by omega,⟨fun h=>by omega,fun h=>absurd h hin⟩,?_⟩;have e1:Fq c.toNat=c:=by simp;omega
    have e2:decide (c.toNat≠0)=true:=decide_eq_true Fh;show (V.int .i64 c,true)=_;rw[e1,e2]
  have look:=hM2.look BB (.int .i64 0) t.name;rw[hgn]at look;obtain⟨w3,p3,hM3,r3,n3⟩:=hM2.put BB t.name (Fq (n+1));have hw3:KZ .i64 (Fq n+1)=Fq (n+1):=Lh Fh;have k3:w3.load w.next 1 1=some [.str t.name]:=by rw[(c2.frm r3 (by have:=hM.lt;omega)).load];rfl
  have look3:=hM3.look BB (.int .i64 0) t.name;rw[Bd]at look3;simp only[Dm]at look3;have hb3:=hb2.frm r3 fun x hx he=>(hS x hx).2.2 he;have hf3:Frm (fun _=>False) aw w3:=hf2.trans r3 (fun _ _ h=>h) (by rintro x hx rfl;omega)
  have seen3:∀out',(∀x,x∈out'↔x∈out∨x=t.name)→Seen (Ob M t.name (Fq (n+1))) out' (i+1):=by
   intro out' ho x;by_cases hx:x=t.name
   ·subst hx;rw[Bd];refine⟨⟨fun h=>(by cases h),fun h=>absurd ((ho t.name).2 (.inr rfl)) h⟩,fun c hc=>?_⟩;cases hc;constructor
    ·show (1:Int)≤((n+1:Nat):Int);omega
    ·show ((n+1:Nat):Int)≤_;omega
   ·rw[Ti _ _ _ _ hx];refine⟨?_,fun c hc=>by have:=(hseen x).2 c hc;omega⟩;rw[(hseen x).1,ho x];simp[hx]
  by_cases hn:n=0
  ·have hno:=hn1.1 hn;have he:BU out t=out++[t.name]:=if_pos ⟨hk,hno⟩;rw[he]at hfold;subst hn;have hS3:∀b,S b→b<w3.next:=fun b hb=>by have:=(hS b hb).2;omega
   obtain⟨v',w5,S5,u1,u2,u3,u4⟩:=hb3.push (news:=[V.str t.name]) (bytes:=16) hS3 Fh rfl rfl Fh Fh;have b4:=Tj (w:=w3) (esz:=1) (n:=1) (cs:=[V.str t.name]) (c:=.known 1) Fh rfl;have hov:over [V.str []] 0 [V.str t.name]=some [V.str t.name]:=rfl;refine K6 1000 (by simp only[go_sem,K5,Yp,Wn,U0,UZ,Jal,f3,f4,f8,f9,f10,hlt,a3,s2,SA,k0,k1,k3,hk,hwr,look,hw3,p3,look3,Lg,Lj,hov,u1,b4,FC,FD];rfl) ?_;refine ih _ _ _ Fh ⟨i+1,bm,_,out++[t.name],v',S5,(by simp only[go_sem,K5]<;>rfl),(by simp only[go_sem,K5,f4]<;>rfl),(by simp only[go_sem,K5,f8]<;>rfl),(by simp only[go_sem,K5,f9]<;>rfl),(by simp only[go_sem,K5]<;>rfl),by omega,rfl,hM3.frm u3 fun h=>(hS _ h).2.2 rfl,hbm,seen3 _ Fj,hfold,by simp;omega,?_,fun x hx=>?_,hf3.trans u3 (fun _ _ h=>h) fun x hx h=>by have:=(hS x h).1;omega⟩
   ·rw[FE,Kb];have:LY (out++[t.name])=LY out++[V.str t.name]:=by simp[LY]
    rw[this];exact u2
   ·obtain⟨m1,m2⟩:=u4 x hx;have:=hM.lt;rcases m2 with m2|m2
    ·exact⟨(hS x m2).1,m1,(hS x m2).2.2⟩
    ·exact⟨by omega,m1,by omega⟩
  ·have hin:t.name∈out:=Classical.byContradiction fun h=>hn (hn1.2 h);have he:BU out t=out:=if_neg fun h=>h.2 hin;rw[he]at hfold;have hne:¬n+1=1:=Fh;refine K6 1000 (by simp only[go_sem,K5,Yp,Wn,U0,UZ,f3,f4,f8,f9,f10,hlt,a3,s2,SA,k0,k1,k3,hk,hwr,look,hw3,p3,look3,hne];rfl) ?_;exact ih _ _ _ Fh ⟨i+1,bm,_,out,ov,S,(by simp only[go_sem,K5,f3]<;>rfl),(by simp only[go_sem,K5,f4]<;>rfl),(by simp only[go_sem,K5,f8]<;>rfl),(by simp only[go_sem,K5,f9]<;>rfl),(by simp only[go_sem,K5]<;>rfl),by omega,rfl,hM3,hbm,seen3 _ (fun x=>⟨.inl,fun h=>h.elim id fun h=>h▸hin⟩),hfold,by omega,hb3,fun x hx=>by have:=hS x hx;exact⟨this.1,by omega,this.2.2⟩,hf3⟩
 ·rintro f w ⟨ov,S,f3,hb,hS,hf⟩;refine K6 1000 (by simp only[go_sem,K5,f3];rfl) ?_;refine K7 ⟨_,by simp only[go_sem,K5,Wo];rfl,?_⟩;exact h ov w S hb hf hS
section
open Go.AE Delphi Val
variable {tab:Tab}
def Lc (t:Tm):Tk:=⟨Fq t.kind,t.name,t.num⟩
theorem Jso (t:Tm):tmC t=tkC (Lc t):=rfl
theorem Jvv (l:List Tm):L8 l=O0 (l.map Lc):=by
 unfold L8 O0;rw[List.flatMap_map];rfl
def FtC (T:Fw) (w:AW) (f:List Nat×List Tm) (xs:List V):Prop:=∃v,xs=[.str f.1,v]∧Rd T w v 3 f.2.length (L8 f.2)
variable {f:List Nat×List Tm} {xs:List V}
theorem FtC.frm {S:Fw}{w':AW}(h:FtC T w f xs)(hf:Frm S w w')(hd:∀x,T x→¬S x):FtC T w' f xs:=by
 obtain⟨v,h1,h2⟩:=h;exact⟨v,h1,h2.frm hf hd⟩
theorem FtC.one (h:FtC T w f xs):xs.length=2∧Lv xs=true:=by
 obtain⟨v,rfl,h2⟩:=h;refine⟨rfl,?_⟩;rcases h2.inv with⟨rfl,_⟩|⟨_,_,_,rfl,_⟩<;>rfl
end
end Go.Proofs.YtegdcbdicpfbpaaGreatDoor
namespace Delphi
def Tx (r:Rl):Fx:=r.body.foldl (fun acc l=>if l.kind=1 then acc else acc++Ol l.args) (Ol r.head.args)
def BX (r:Rl):Fx:=r.body.foldl (fun acc l=>if l.kind=1 then acc++Ol l.args else acc) []
def BD (r:Rl):Bool:=(Tx r).all fun v=>decide (v∈BX r)
structure RBd (r:Rl):Prop where
 head:r.head.args.length≤1000
 body:r.body.length≤1000
 args:∀l∈r.body,l.args.length≤1000
end Delphi
namespace Go.Proofs.YtegdcbdicpfbpaaGreatDoor
open Go.AE Delphi
variable {tab:Tab}
variable {M:List (List Nat×Int)} {out:Fx} {i:Nat}
theorem MQ (h:Seen M out i)(k:List Nat):∃n:Nat,n≤i∧(n=0↔k∉out)∧Dm (V.int .i64) (V.int .i64 0) (K8 M k)=(V.int .i64 (Fq n),decide (n≠0)):=by
 cases hg:K8 M k with
 | none=>exact⟨0,by omega,by simp[(h k).1.1 hg],rfl⟩
 | some c =>
  have hc:=(h k).2 c hg;have hin:¬k∉out:=fun hh=>by have:=(h k).1.2 hh;rw[this]at hg;cases hg
  refine⟨c.toNat,by omega,⟨fun h=>by omega,fun h=>absurd h hin⟩,?_⟩;have e1:Fq c.toNat=c:=by simp;omega
  have e2:decide (c.toNat≠0)=true:=decide_eq_true Fh;show (V.int .i64 c,true)=_;rw[e1,e2]
theorem Q6 {out':Fx}{n:Nat}{k:List Nat}(h:Seen M out i)(hn:n≤i)(ho:∀x,x∈out'↔x∈out∨x=k):Seen (Ob M k (Fq (n+1))) out' (i+1):=by
 intro x;by_cases hx:x=k
 ·subst hx;rw[Bd];refine⟨⟨fun h=>(by cases h),fun h=>absurd ((ho x).2 (.inr rfl)) h⟩,fun c hc=>?_⟩;cases hc;constructor
  ·show (1:Int)≤((n+1:Nat):Int);omega
  ·show ((n+1:Nat):Int)≤_;omega
 ·rw[Ti _ _ _ _ hx];refine⟨?_,fun c hc=>by have:=(h x).2 c hc;omega⟩;rw[(h x).1,ho x];simp[hx]
theorem Seen.more {j:Nat}(h:Seen M out i)(hij:i≤j):Seen M out j:=fun x=>⟨(h x).1,fun c hc=>by have:=(h x).2 c hc;omega⟩
theorem JpH {T:Fw}{w:AW}{v:V}{l:Fx}(h:Rd T w v 1 l.length (LY l)){s:List Nat}(hi:l[i]? = some s):∃b o c,v = .slice b o l.length c∧T b∧b<w.next∧w.load b (o+i*1) 1=some [.str s]:=by
 have hlt:i<l.length:=(List.getElem?_eq_some_iff.1 hi).1;rcases h.inv with⟨_,q2,_⟩|⟨b,o,c,rfl,hB⟩
 ·omega
 ·refine⟨b,o,c,rfl,hB.own,hB.lt,hB.cell Fh ?_⟩;simp only[LY,F7,KC,hi,Option.map_some]
def Jsx (a:AW) (bm:Nat) (lv:V) (vs bnd:Fx) (N:Nat) (f0:Fr) (q:Nat) (f:Fr) (w:AW):Prop :=
 ∃j M bnd',f.get 3=some (.map bm)∧f.get 33=some lv∧f.get 34=some (.int .i64 (Fq vs.length))∧f.get 35=some (.int .i64 (Fq j))∧(∀y,y=1∨y=2∨y=4∨y=17∨y=18∨y=19→f.get y=f0.get y)∧j≤vs.length∧q=vs.length-j∧
  SM w bm M∧Seen M bnd' (N+j)∧(∀x,x∈bnd'↔x∈bnd∨x∈vs.take j)∧Frm (fun b=>b=bm) a w∧w.next=a.next
def JvE (a:AW) (bm:Nat) (vs bnd:Fx) (N:Nat) (f0:Fr) (f:Fr) (w:AW):Prop :=
 ∃M bnd',f.get 3=some (.map bm)∧(∀y,y=1∨y=2∨y=4∨y=17∨y=18∨y=19→f.get y=f0.get y)∧SM w bm M∧Seen M bnd' (N+vs.length)∧(∀x,x∈bnd'↔x∈bnd∨x∈vs)∧Frm (fun b=>b=bm) a w∧w.next=a.next
theorem JsT {T:Fw}{a w:AW}{bm:Nat}{lv:V}{vs bnd:Fx}{N:Nat}{f0 f:Fr}{q:Nat}{s:List SI}{Q:Fr→AW→Prop}(hl:Rd T a lv 1 vs.length (LY vs))(hT:∀x,T x→x≠bm)(hN:N+vs.length≤1000000000)(hI:Jsx a bm lv vs bnd N f0 q f w)(ih:∀n' f' w',n'<q→Jsx a bm lv vs bnd N f0 n' f' w'→WS tab (.code (.loop ZE) :: .endB 2::s) f' w' Q)(out:∀s' f' w',JvE a bm vs bnd N f0 f' w'→TM 2 s'=some s→WS tab (.code (.exit 2)::s') f' w' Q):WS tab (.code ZE :: .code (.loop ZE) :: .endB 2::s) f w Q:=by
 obtain⟨j,M,bnd',f3,f33,f34,f35,hold,hj,rfl,hM,hseen,hbnd,hf,hn⟩:=hI;by_cases hlt:j<vs.length
 case neg =>
  have:j=vs.length:=Fh;subst this;rw[List.take_length]at hbnd;refine Lb 1000 (by simp only[go_sem,ZE,f34,f35,hlt];rfl) ?_;refine out _ _ _ ⟨M,bnd',(by simp only[go_sem,K5,f3]<;>rfl),?_,hM,hseen,hbnd,hf,hn⟩ rfl;rintro y hy;rw[←hold y hy];rcases hy with rfl|rfl|rfl|rfl|rfl|rfl<;>exact (by simp only[go_sem,K5]<;>rfl)
 obtain⟨v,hv⟩:∃v,vs[j]? = some v:=⟨_,FB hlt⟩;obtain⟨b,o,c,rfl,hTb,hbl,a1⟩:=JpH (hl.frm hf fun x hx he=>hT x hx he) hv;obtain⟨n,hn0,hn1,hgn⟩:=MQ hseen v;have look:=hM.look BB (.int .i64 0) v;rw[hgn]at look;obtain⟨w3,p3,hM3,r3,n3⟩:=hM.put BB v (Fq (n+1));have hw3:KZ .i64 (Fq n+1)=Fq (n+1):=Lh Fh;have hwr:KZ .i64 (Fq j+1)=Fq (j+1):=Lh Fh;refine K6 1000 (by simp only[go_sem,K5,ZE,Jab,Jaa,f3,f33,f34,f35,hlt,a1,look,hw3,p3,hwr];rfl) ?_;refine ih _ _ _ Fh ⟨j+1,_,v::bnd',(by simp only[go_sem,K5,f3]<;>rfl),(by simp only[go_sem,K5,f33]<;>rfl),(by simp only[go_sem,K5,f34]<;>rfl),(by simp only[go_sem,K5]<;>rfl),?_,by omega,rfl,hM3,Q6 hseen hn0 (by intro x;simp[or_comm]),fun x=>?_,hf.tr r3,n3.trans hn⟩
 ·rintro y hy;rw[←hold y hy];rcases hy with rfl|rfl|rfl|rfl|rfl|rfl<;>exact (by simp only[go_sem,K5]<;>rfl)
 ·have ht:vs.take (j+1)=vs.take j++[v]:=by
   rw[List.take_add_one,hv];rfl
  rw[FJ,hbnd,ht,Ka,Ko];constructor
  ·rintro (h|h|h)
   ·exact .inr (.inr h)
   ·exact .inl h
   ·exact .inr (.inl h)
  ·rintro (h|h|h)
   ·exact .inr (.inl h)
   ·exact .inr (.inr h)
   ·exact .inl h
end Go.Proofs.YtegdcbdicpfbpaaGreatDoor
