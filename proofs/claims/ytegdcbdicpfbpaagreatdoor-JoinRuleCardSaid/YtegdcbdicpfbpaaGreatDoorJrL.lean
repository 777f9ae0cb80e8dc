/- A part of the proof. -/
import Derived.Test.YtegdcbdicpfbpaaGreatDoorJrK
import Derived.Test.YtegdcbdicpfbpaaGreatDoorJrI
import Derived.Test.YtegdcbdicpfbpaaGreatDoorJrH
set_option linter.unusedVariables false
set_option maxRecDepth 10000
set_option linter.unusedSimpArgs false
namespace Go.Proofs.YtegdcbdicpfbpaaGreatDoor
open Go.AE Delphi
variable {tab:Tab}
theorem Juj {S:Fw}{w:AW}{v:V}{esz n:Nat}{cs:List V}(h:Buf S w v esz n cs):v.one=true∧v.cells=[v]:=by
 rcases h.inv with⟨rfl,_⟩|⟨_,rfl,_⟩<;>exact⟨rfl,rfl⟩
structure BS (a w:AW) (bp n8:Nat) (wv:V) (hd:Lt) (hv:V) (body:List Lt) (k e:Nat) (bv:V) (S T:Fw) (xss:List (List V)):Prop where
 p:PSt w bp wv k e
 frm:Frm (fun b=>b=bp) a w
 rule:CB w n8 [.int .i64 (Int.ofNat hd.kind),.str hd.name,hv,bv]
 head:Rd T w hv 3 hd.args.length (JbY hd.args)
 buf:Buf S w bv 3 body.length xss.flatten
 lits:All2 (LtC T w) body xss
 sepS:∀x,S x→a.next≤x∧x<w.next∧x≠n8∧¬T x
 sepT:∀x,T x→a.next≤x∧x<w.next∧x≠n8
structure BF (f:Fr) (bp n8:Nat) (v5 v7:V):Prop where
 f5:f.get 5=some v5
 f6:f.get 6=some (.ptr bp 0)
 f7:f.get 7=some v7
 f8:f.get 8=some (.ptr n8 0)
def Jsa (a:AW) (bp n8:Nat) (wv:V) (hd:Lt) (hv:V) (ws:List Wd) (v5 v7:V) (fin:List Lt×Nat×Nat) (q:Nat) (f:Fr) (w:AW):Prop :=
 ∃body k e bv S T xss,BF f bp n8 v5 v7∧BS a w bp n8 wv hd hv body k e bv S T xss∧body.length≤7∧k≤ws.length∧ws.length+1≤q+k∧Jcf ws q body k e=fin∧(e=0→body.length≤6)
def Jvd (a:AW) (bp n8:Nat) (wv:V) (hd:Lt) (hv:V) (v5 v7:V) (fin:List Lt×Nat×Nat) (f:Fr) (w:AW):Prop :=
 ∃bv S T xss,BF f bp n8 v5 v7∧BS a w bp n8 wv hd hv fin.1 fin.2.1 fin.2.2 bv S T xss
variable {ws:List Wd}
theorem Jqm {q:Nat}{l:List Lt}{k e:Nat}(h:e≠0):Jcf ws q l k e=(l,k,e):=by
 cases q with
 | zero=>rfl
 | succ q=>simp only[Jcf,if_neg h]
theorem JqM (C:Codes tab){Tw:Fw}{a w:AW}{bp n8:Nat}{wv:V}{hd:Lt}{hv:V}{v5 v7:V}{fin:List Lt×Nat×Nat}{q:Nat}{f:Fr}{s:List SI}{Q:Fr→AW→Prop}(hw:Wds Tw a bp wv ws)(hok:∀x∈ws,WOk x)(hT:∀x,Tw x→x<a.next)(hlt:bp<a.next)(hn8:a.next≤n8)(hI:Jsa a bp n8 wv hd hv ws v5 v7 fin q f w)(ih:∀n' f' w',n'<q→Jsa a bp n8 wv hd hv ws v5 v7 fin n' f' w'→WS tab (.code (.loop J0) :: .endB 2::s) f' w' Q)(out:∀s' f' w',Jvd a bp n8 wv hd hv v5 v7 fin f' w'→JdS 2 s'=some s→WS tab (.code (.exit 2)::s') f' w' Q):WS tab (.code J0 :: .code (.loop J0) :: .endB 2::s) f w Q:=by
 obtain⟨body,k,e,bv,S,T,xss,⟨f5,f6,f7,f8⟩,hA,hl7,hk,hq,hfin,hl6⟩:=hI;have p2:=hA.p.l2;by_cases he:e=0
 case neg =>
  rw[Jqm he]at hfin;refine Ja2 1000 (by simp only[go_sem,simprocAttr,J0,f6,p2,he];rfl) ?_;exact out _ _ _ ⟨bv,S,T,xss,⟨(by simp only[go_sem,JaX,simprocAttr,f5]<;>rfl),(by simp only[go_sem,JaX,simprocAttr,f6]<;>rfl),(by simp only[go_sem,JaX,simprocAttr,f7]<;>rfl),(by simp only[go_sem,JaX,simprocAttr,f8]<;>rfl)⟩,by rw[←hfin];exact hA⟩ rfl
 subst he;have hl6:=hl6 rfl;obtain⟨q,rfl⟩:∃q',q=q'+1:=⟨q-1,by omega⟩;refine JaY 1000 (by simp only[go_sem,JaX,simprocAttr,J0,f6,p2];rfl) ?_;refine Ja0 (by simp only[go_sem,JaX,simprocAttr]) (by simp only[go_sem,JaX,simprocAttr];rfl) ?_;have hww:Wds Tw w bp wv ws:=hw.frm hA.frm fun x hx he=>hw.no (he▸hx);refine JuP C hA.p hww hok (fun x hx=>FK (hT x hx) hA.frm.next) hk fun w1 Tn xs q1 q2 q3 q4=>?_;simp only[Jcf,if_true]at hfin;have hk1:=Jpc (e:=0) hk;have hk1g:=Jpb ws k 0;generalize hrt:Jcn ws k 0=rt at hfin q1 hk1 hk1g q3;obtain⟨t,k1,e1⟩:=rt;simp only at hfin q1 hk1 hk1g q3;obtain⟨xl,xo⟩:=q3.one;obtain⟨w2,s2,c2,r2,n2⟩:=Jb1 w1 (zs:=[V.int .i64 0,V.str [],V.nilslice]) (vs:=xs) (by rw[xl];rfl) xo;have nx:=hA.frm.next;have nx1:=q2.next;have hnb:¬n8=bp:=Fh;have p2':=q1.frm r2 fun h=>h;have nS:∀x,S x→¬x=bp:=fun x hx he=>by have:=(hA.sepS x hx).1;omega
 have nT:∀x,T x→¬x=bp:=fun x hx he=>by have:=(hA.sepT x hx).1;omega
 have nTn:∀x,Tn x→¬x=bp:=fun x hx he=>by have:=(q4 x hx).1;omega
 have rule2:=(hA.rule.frm q2 hnb).frm r2 fun h=>h;have buf2:=(hA.buf.frm q2 nS).frm r2 fun _ _ h=>h;have l2:=p2'.l2;have la:w2.load n8 3 1=some [bv]:=by rw[rule2.load];rfl
 have lt:w2.load w1.next 0 3=some xs:=c2.all xl;have hlv:=buf2.lenV;have f02:Frm (fun b=>b=bp) a w2:=hA.frm.tr (q2.tr r2.no);have f12:Frm (fun b=>b=bp) w w2:=q2.tr r2.no
 have lits2:All2 (LtC (fun x=>T x∨Tn x) w2) (body++[t]) (xss++[xs]):=by
  refine All2.snoc ((q3.frm r2 fun _ _ h=>h).mono fun _ h=> .inr h) ?_;exact hA.lits.imp fun l ys hl=>(hl.frm f12 nT).mono fun _ h=> .inl h
 have head2:Rd (fun x=>T x∨Tn x) w2 hv 3 hd.args.length (JbY hd.args):=(hA.head.frm f12 nT).mono fun _ h=> .inl h
 have sepT2:∀x,T x∨Tn x→a.next≤x∧x<w2.next∧x≠n8:=by
  rintro x (hx|hx)
  ·have:=hA.sepT x hx;exact⟨this.1,by omega,this.2.2⟩
  ·have:=q4 x hx;have:=hA.rule.lt;exact⟨by omega,by omega,by omega⟩
 obtain⟨e2,he2⟩:∃e2,e2=if e1=0∧body.length=6 then 8 else e1:=⟨_,rfl⟩;rw[←he2]at hfin;have hl7':(body++[t]).length≤7:=by rw[FE,Kb];omega
 have hl64:e2=0→(body++[t]).length≤6:=by
  intro h0;rw[FE,Kb];split at he2
  ·omega
  ·rename_i hn;have:body.length≠6:=fun h=>hn ⟨by omega,h⟩;omega
 have hfin':(if Jcg ws k1 [44]=true then Jcf ws q (body++[t]) (k1+1) e2 else (body++[t],k1,e2))=fin:=hfin
 have cont:∀{fr:Fr} {w3:AW},BF fr bp n8 v5 v7→fr.get 9=some (.ptr w1.next 0)→PSt w3 bp wv k1 e2→Frm (fun b=>b=bp) w2 w3→WS tab (.code V6 :: .endB 3 :: .code (.loop J0) :: .endB 2::s) fr w3 Q:=by
  rintro fr w3 ⟨f5,f6,f7,f8⟩ f9 g1 g2;have n3:=g2.next;have buf3:=buf2.frm g2 nS;have rule3:=rule2.frm g2 hnb;have c3:=c2.frm g2 (by show ¬w1.next=bp;omega);have hS3:∀b,S b→b<w3.next:=fun b hb=>by have:=(hA.sepS b hb).2;omega
  obtain⟨v',w5,S5,a1,a2,a3,a4⟩:=buf3.push (news:=xs) (bytes:=48) hS3 Fh xl xo Fh Fh;have nrule:¬S n8:=fun h=>(hA.sepS _ h).2.2.1 rfl;have nbp:¬S bp:=fun h=>nS _ h rfl;obtain⟨vone,vc⟩:=Juj a2;have rule5:=rule3.frm a3 nrule;have pf:Frm (fun b=>b=n8) w5 (w5.put n8 [.int .i64 (Int.ofNat hd.kind),.str hd.name,hv,v']):=Jbj;have n5:=a3.next;have b1:w3.load n8 3 1=some [bv]:=by rw[rule3.load];rfl
  have b2:=c3.all xl;have b4:=JbH (w:=w3) (c:=.known 1) (by omega:0<1) (by rw[xl]:xs.length=1*3);have b5:=rule5.set (i:=3) (v:=v') Fj vone
  have sS5:∀x,S5 x→a.next≤x∧x<w5.next∧x≠n8∧¬(T x∨Tn x):=by
   intro x hx;obtain⟨m1,m2⟩:=a4 x hx;have hr:=hA.rule.lt;rcases m2 with m2|m2
   ·obtain⟨y1,y2,y3,y4⟩:=hA.sepS x m2;refine⟨y1,m1,y3,?_⟩;rintro (h|h)
    ·exact y4 h
    ·have:=(q4 x h).1;omega
   ·refine⟨by omega,m1,by omega,fun h=>?_⟩;have:=(sepT2 x h).2.1;omega
  have nT2:∀x,(T x∨Tn x)→¬x=bp:=fun x hx=>hx.elim (nT x) (nTn x)
  have nT3:∀x,(T x∨Tn x)→¬S x:=by
   rintro x (hx|hx) h
   ·exact (hA.sepS x h).2.2.2 hx
   ·have:=(q4 x hx).1;have:=(hA.sepS x h).2.1;omega
  have nT4:∀x,(T x∨Tn x)→¬x=n8:=fun x hx=>(sepT2 x hx).2.2
  have hA5:BS a (w5.put n8 [.int .i64 (Int.ofNat hd.kind),.str hd.name,hv,v']) bp n8 wv hd hv (body++[t]) k1 e2 v' S5 (fun x=>T x∨Tn x) (xss++[xs]):=by
   refine⟨(g1.frm a3 nbp).frm pf (fun h=>hnb h.symm),?_,Jbx rule5.lt,((head2.frm g2 nT2).frm a3 nT3).frm pf nT4,?_,lits2.imp fun l ys hl=>((hl.frm g2 nT2).frm a3 nT3).frm pf nT4,fun x hx=>sS5 x hx,fun x hx=>?_⟩
   ·refine ((f02.tr g2).trans a3 (fun _ _ h=>h) fun x hx h=>?_).out hn8 rfl;have:=(hA.sepS x h).1;omega
   ·rw[FE,Kb,List.flatten_append,List.flatten_cons,List.flatten_nil,Kc];exact a2.frm pf fun x hx he=>(sS5 x hx).2.2.1 he
   ·have:=sepT2 x hx;exact⟨this.1,by have:(w5.put n8 [.int .i64 (Int.ofNat hd.kind),.str hd.name,hv,v']).next=w5.next:=rfl;omega,this.2.2⟩
  have hov:over [V.int .i64 0,V.str [],V.nilslice] 0 xs=some xs:=by
   have:=Jew [] [V.int .i64 0,V.str [],V.nilslice] [] xs (by rw[xl];rfl);simpa using this
  refine JaY 1000 (by simp only[go_sem,JaX,simprocAttr,V6,f6,f8,f9,vc,b1,b2,xl,Ja4,Jbe,hov,a1,b4,b5,FC,FD,List.set_cons_succ,List.set_cons_zero];rfl) ?_;refine Ja0 (by simp only[go_sem,JaX,simprocAttr]) (by simp only[go_sem,JaX,simprocAttr];rfl) ?_;have hw5:=hw.frm hA5.frm fun x hx he=>hw.no (he▸hx);refine JeU C hA5.p hw5 ?_;cases hs:Jcg ws k1 [44]with
  | true =>
   rw[hs,if_pos rfl]at hfin';have hks:=Jdk hs;have hwr:IntKind.wrap .i64 (Int.ofNat k1+1)=Int.ofNat (k1+1):=Ja3 (by have:=hw.len;omega);have l1:=hA5.p.l1;have st:=hA5.p.cb.set (i:=1) (v:=.int .i64 (Int.ofNat (k1+1))) Fj rfl;have pf2:Frm (fun b=>b=bp) (w5.put n8 [.int .i64 (Int.ofNat hd.kind),.str hd.name,hv,v']) ((w5.put n8 [.int .i64 (Int.ofNat hd.kind),.str hd.name,hv,v']).put bp ([wv,.int .i64 (Int.ofNat k1),.int .i64 (Int.ofNat e2)].set 1 (.int .i64 (Int.ofNat (k1+1))))):=Jbj;refine JaY 1000 (by simp only[go_sem,JaX,simprocAttr,HB,f6,f8,l1,hwr,st,FC,FD];rfl) ?_;exact ih q _ _ Fh ⟨body++[t],k1+1,e2,v',S5,_,_,⟨(by simp only[go_sem,JaX,simprocAttr,f5]<;>rfl),(by simp only[go_sem,JaX,simprocAttr,f6]<;>rfl),(by simp only[go_sem,JaX,simprocAttr,f7]<;>rfl),(by simp only[go_sem,JaX,simprocAttr,f8]<;>rfl)⟩,⟨⟨hA5.p.lt,AE.T.get_put_same⟩,hA5.frm.tr pf2,hA5.rule.frm pf2 hnb,hA5.head.frm pf2 nT2,hA5.buf.frm pf2 fun x hx he=>by have:=(sS5 x hx).1;omega,hA5.lits.imp fun l ys hl=>hl.frm pf2 nT2,hA5.sepS,hA5.sepT⟩,hl7',hks,by omega,hfin',hl64⟩
  | false =>
   rw[hs,if_neg Fj]at hfin';refine Ja2 1000 (by simp only[go_sem,simprocAttr,f6];rfl) ?_;exact out _ _ _ ⟨v',S5,_,_,⟨(by simp only[go_sem,JaX,simprocAttr,f5]<;>rfl),(by simp only[go_sem,JaX,simprocAttr,f6]<;>rfl),(by simp only[go_sem,JaX,simprocAttr,f7]<;>rfl),(by simp only[go_sem,JaX,simprocAttr,f8]<;>rfl)⟩,by rw[←hfin'];exact hA5⟩ rfl
 by_cases h6:e1=0∧body.length=6
 ·obtain⟨rfl,h6⟩:=h6;rw[h6]at hlv;rw[if_pos ⟨rfl,h6⟩]at he2;subst he2;refine JaY 1000 (by simp only[go_sem,JaX,simprocAttr,Xc,HA,s2,xl,l2,la,hlv,f6,f8];rfl) ?_;refine Ja0 (by simp only[go_sem,JaX,simprocAttr]) (by simp only[go_sem,JaX,simprocAttr];rfl) ?_;refine Je6 C (x:=8) p2' fun w3 q3 q4 q5=>?_;refine Ja2 1000 (by simp only[go_sem,JaX,simprocAttr];rfl) ?_;exact cont ⟨(by simp only[go_sem,JaX,simprocAttr,f5]<;>rfl),(by simp only[go_sem,JaX,simprocAttr,f6]<;>rfl),(by simp only[go_sem,JaX,simprocAttr,f7]<;>rfl),(by simp only[go_sem,JaX,simprocAttr,f8]<;>rfl)⟩ (by simp only[go_sem,JaX,simprocAttr]<;>rfl) q3 q4
 ·rw[if_neg h6]at he2;subst he2;by_cases h0:e2=0
  ·have h6':¬body.length=6:=fun h=>h6 ⟨h0,h⟩;subst h0;refine Ja2 1000 (by simp only[go_sem,JaX,simprocAttr,Xc,s2,xl,l2,la,hlv,h6',f6,f8];rfl) ?_;exact cont ⟨(by simp only[go_sem,JaX,simprocAttr,f5]<;>rfl),(by simp only[go_sem,JaX,simprocAttr,f6]<;>rfl),(by simp only[go_sem,JaX,simprocAttr,f7]<;>rfl),(by simp only[go_sem,JaX,simprocAttr,f8]<;>rfl)⟩ (by simp only[go_sem,JaX,simprocAttr]<;>rfl) p2' (Frm.refl _)
  ·refine Ja2 1000 (by simp only[go_sem,JaX,simprocAttr,Xc,s2,xl,l2,la,h0,f6,f8];rfl) ?_;exact cont ⟨(by simp only[go_sem,JaX,simprocAttr,f5]<;>rfl),(by simp only[go_sem,JaX,simprocAttr,f6]<;>rfl),(by simp only[go_sem,JaX,simprocAttr,f7]<;>rfl),(by simp only[go_sem,JaX,simprocAttr,f8]<;>rfl)⟩ (by simp only[go_sem,JaX,simprocAttr]<;>rfl) p2' (Frm.refl _)
section
open Go.AE Delphi
variable {tab:Tab}
def RlC (T:Fw) (w:AW) (r:Rl) (xs:List V):Prop:=∃v u,xs=[.int .i64 (Int.ofNat r.head.kind),.str r.head.name,v,u]∧Rd T w v 3 r.head.args.length (JbY r.head.args)∧RdL (LtC T) T w u 3 r.body
variable {T:Fw} {w:AW} {r:Rl} {xs:List V}
theorem RlC.frm {S:Fw}{w':AW}(h:RlC T w r xs)(hf:Frm S w w')(hd:∀x,T x→¬S x):RlC T w' r xs:=by
 obtain⟨v,u,h1,h2,h3⟩:=h;exact⟨v,u,h1,h2.frm hf hd,h3.frm (fun _ _ h=>h.frm hf hd) hf hd⟩
theorem JeV {T':Fw}{u:V}{l:List Lt}(h:RdL (LtC T) T w u 3 l)(ht:∀x,T x→T' x):RdL (LtC T') T' w u 3 l:=by
 obtain⟨xss,h1,h2⟩:=h;exact⟨xss,h1.mono ht,h2.imp fun _ _ h=>h.mono ht⟩
theorem RlC.mono {T':Fw}(h:RlC T w r xs)(ht:∀x,T x→T' x):RlC T' w r xs:=by
 obtain⟨v,u,h1,h2,h3⟩:=h;exact⟨v,u,h1,h2.mono ht,JeV h3 ht⟩
theorem RlC.one (h:RlC T w r xs):xs.length=4∧Jbf xs=true:=by
 obtain⟨v,u,rfl,h2,xss,h3,_⟩:=h;refine⟨rfl,?_⟩;rcases h2.inv with⟨rfl,_⟩|⟨_,_,_,rfl,_⟩<;>rcases h3.inv with⟨rfl,_⟩|⟨_,_,_,rfl,_⟩<;>rfl
theorem Jn7 (C:Codes tab){Tw:Fw}{a:AW}{bp k:Nat}{wv:V}{v5 v7:V}{f:Fr}{s:List SI}{Q:Fr→AW→Prop}(hp:PSt a bp wv k 0)(hw:Wds Tw a bp wv ws)(hok:∀x∈ws,WOk x)(hT:∀x,Tw x→x<a.next)(hk:k≤ws.length)(f5:f.get 5=some v5)(f6:f.get 6=some (.ptr bp 0))(f7:f.get 7=some v7)(h:∀f' w T xs n8,BF f' bp n8 v5 v7→PSt w bp wv (JbI ws k 0).2.1 (JbI ws k 0).2.2→Frm (fun b=>b=bp) a w→CB w n8 xs→a.next≤n8→RlC T w (JbI ws k 0).1 xs→(∀x,T x→a.next≤x∧x<w.next∧x≠n8)→WS tab (.code Zl::s) f' w Q):WS tab (.code V8::s) f a Q:=by
 have hlt:=hp.lt;have hwl:=hw.len;refine JaY 1000 (by simp only[go_sem,JaX,simprocAttr,V8,f6];rfl) ?_;refine Ja0 (by simp only[go_sem,JaX,simprocAttr]) (by simp only[go_sem,JaX,simprocAttr];rfl) ?_;refine JjW C hp hw hok hT hk fun w1 TH xs q1 q2 q3 q4=>?_;have hk1:=JhP (e:=0) hk;generalize hrt:Jbm ws k 0=rt at q1 q3 hk1;obtain⟨hd,k1,e1⟩:=rt;simp only at q1 q3 hk1;obtain⟨hv,rfl,hrd⟩:=q3;have hvone:Jbf [V.int .i64 (Int.ofNat hd.kind),V.str hd.name,hv,.nilslice]=true:=by rcases hrd.inv with⟨rfl,_⟩|⟨_,_,_,rfl,_⟩<;>rfl
 obtain⟨w2,s2,c2,r2,n2⟩:=Jb1 w1 (zs:=[V.int .i64 0,V.str [],V.nilslice,V.nilslice]) (vs:=[V.int .i64 (Int.ofNat hd.kind),V.str hd.name,hv,.nilslice]) rfl hvone;have n1:=q2.next;have p2:=q1.frm r2 fun h=>h;have f02:Frm (fun b=>b=bp) a w2:=q2.tr r2.no;have hw2:=hw.frm f02 fun y hy he=>hw.no (he▸hy);have hn8:¬w1.next=bp:=Fh;have hrd2:=hrd.frm r2 fun _ _ h=>h;have l2:=p2.l2;have g5:f.get 5=some v5:=f5
 have fin:∀{fr:Fr} {w:AW} {body:List Lt} {k' e':Nat} {bv:V} {S T:Fw} {xss:List (List V)},BF fr bp w1.next v5 v7→fr.get 93=some (.ptr bp 0)→k'≤ws.length→BS a w bp w1.next wv hd hv body k' e' bv S T xss→JbI ws k 0=(⟨hd,body⟩,(JdZ ws [46] k' e').1,(JdZ ws [46] k' e').2)→WS tab (.ops [⟨some 94,none,.call (.const (.func (.func YB) [] [])) [(.tmp 93),(.const (.str [46]))]⟩] :: .code Zl::s) fr w Q:=by
  rintro fr w body k' e' bv S T xss ⟨g5,g6,g7,g8⟩ g93 hk' hA hr;refine Ja0 (by simp only[JfH]) (by simp only[go_sem,g93];rfl) ?_;have hww:=hw.frm hA.frm fun y hy he=>hw.no (he▸hy);refine Jo4 C hA.p hww Fh fun w6 u1 u2 u3=>?_;refine Ja2 1000 (by simp only[go_sem,JaX,simprocAttr];rfl) ?_;rw[hr]at h;have nS:∀x,S x→¬x=bp:=fun x hx he=>by have:=(hA.sepS x hx).1;omega
  have nT:∀x,T x→¬x=bp:=fun x hx he=>by have:=(hA.sepT x hx).1;omega
  have n6:=u2.next;refine h _ w6 (fun x=>S x∨T x) _ w1.next ⟨(by simp only[go_sem,JaX,simprocAttr,g5]<;>rfl),(by simp only[go_sem,JaX,simprocAttr,g6]<;>rfl),(by simp only[go_sem,JaX,simprocAttr,g7]<;>rfl),(by simp only[go_sem,JaX,simprocAttr,g8]<;>rfl)⟩ u1 (hA.frm.tr u2) (hA.rule.frm u2 hn8) n1 ⟨hv,bv,rfl,(hA.head.frm u2 nT).mono fun _ h=> .inr h,xss,(hA.buf.rd.frm u2 nS).mono fun _ h=> .inl h,hA.lits.imp fun l ys hl=>(hl.frm u2 nT).mono fun _ h=> .inr h⟩ ?_;rintro x (hx|hx)
  ·have:=hA.sepS x hx;exact⟨this.1,by omega,this.2.2.1⟩
  ·have:=hA.sepT x hx;exact⟨this.1,by omega,this.2.2⟩
 have hA0:BS a w2 bp w1.next wv hd hv [] k1 e1 .nilslice (fun _=>False) TH []:=⟨p2,f02,c2,hrd2,.nil,.nil,fun _ h=>h.elim,fun x hx=>by have:=q4 x hx;exact⟨this.1,by omega,by omega⟩⟩;have hov:over [V.int .i64 0,V.str [],V.nilslice,V.nilslice] 0 [V.int .i64 (Int.ofNat hd.kind),V.str hd.name,hv]=some [V.int .i64 (Int.ofNat hd.kind),V.str hd.name,hv,.nilslice]:=rfl;refine JaY 1000 (by simp only[go_sem,JaX,simprocAttr,f6,Ja4,Jbe,hov,s2,HE,FC,FD];rfl) ?_;refine Ja0 (by simp only[go_sem,JaX,simprocAttr]) (by simp only[go_sem,JaX,simprocAttr];rfl) ?_;refine JeU C p2 hw2 ?_;cases hs:Jcg ws k1 [58,45]with
 | false =>
  have hr:JbI ws k 0=(⟨hd,[]⟩,(JdZ ws [46] k1 e1).1,(JdZ ws [46] k1 e1).2):=by
   unfold JbI;rw[hrt];simp only[hs,FM,false_and,if_false]
  refine JaY 1000 (by simp only[go_sem,JaX,simprocAttr,f6];rfl) ?_;exact fin ⟨(by simp only[go_sem,JaX,simprocAttr,f5]<;>rfl),(by simp only[go_sem,JaX,simprocAttr,f6]<;>rfl),(by simp only[go_sem,JaX,simprocAttr,f7]<;>rfl),(by simp only[go_sem,JaX,simprocAttr]<;>rfl)⟩ (by simp only[go_sem,JaX,simprocAttr]<;>rfl) hk1 hA0 hr
 | true =>
  by_cases he1:e1=0
  case neg =>
   have hr:JbI ws k 0=(⟨hd,[]⟩,(JdZ ws [46] k1 e1).1,(JdZ ws [46] k1 e1).2):=by
    unfold JbI;rw[hrt];simp only[hs,he1,and_false,if_false]
   refine JaY 1000 (by simp only[go_sem,JaX,simprocAttr,f6,l2,he1];rfl) ?_;exact fin ⟨(by simp only[go_sem,JaX,simprocAttr,f5]<;>rfl),(by simp only[go_sem,JaX,simprocAttr,f6]<;>rfl),(by simp only[go_sem,JaX,simprocAttr,f7]<;>rfl),(by simp only[go_sem,JaX,simprocAttr]<;>rfl)⟩ (by simp only[go_sem,JaX,simprocAttr]<;>rfl) hk1 hA0 hr
  subst he1;have hks:=Jdk hs;have hwr:IntKind.wrap .i64 (Int.ofNat k1+1)=Int.ofNat (k1+1):=Ja3 Fh;have l1:=p2.l1;have st:=p2.cb.set (i:=1) (v:=.int .i64 (Int.ofNat (k1+1))) Fj rfl;have pf2:Frm (fun b=>b=bp) w2 (w2.put bp ([wv,.int .i64 (Int.ofNat k1),.int .i64 (Int.ofNat 0)].set 1 (.int .i64 (Int.ofNat (k1+1))))):=Jbj;refine JaY 1000 (by simp only[go_sem,JaX,simprocAttr,f6,l1,l2,hwr,st,HC,FC,FD];rfl) ?_
  refine Jba (Jsa a bp w1.next wv hd hv ws v5 v7 (Jcf ws (ws.length+1) [] (k1+1) 0)) (Jvd a bp w1.next wv hd hv v5 v7 (Jcf ws (ws.length+1) [] (k1+1) 0)) (fun n f w hI ih out=>JqM C hw hok hT hlt n1 hI ih out) ?_ (ws.length+1)
   ⟨[],k1+1,0,.nilslice,fun _=>False,TH,[],⟨(by simp only[go_sem,JaX,simprocAttr,f5]<;>rfl),(by simp only[go_sem,JaX,simprocAttr,f6]<;>rfl),(by simp only[go_sem,JaX,simprocAttr,f7]<;>rfl),(by simp only[go_sem,JaX,simprocAttr]<;>rfl)⟩,⟨⟨p2.lt,AE.T.get_put_same⟩,f02.tr pf2,c2.frm pf2 hn8,hrd2.frm pf2 fun x hx he=>by have:=(q4 x hx).1;omega,.nil,.nil,fun _ h=>h.elim,hA0.sepT⟩,by simp,hks,by omega,rfl,by simp⟩
  rintro f' w ⟨bv,S,T,xss,hBF,hA⟩;have hk5:=Jj3 (ws:=ws) (ws.length+1) [] (k1+1) 0 hks
  have hr:JbI ws k 0=(⟨hd,(Jcf ws (ws.length+1) [] (k1+1) 0).1⟩,(JdZ ws [46] (Jcf ws (ws.length+1) [] (k1+1) 0).2.1 (Jcf ws (ws.length+1) [] (k1+1) 0).2.2).1,(JdZ ws [46] (Jcf ws (ws.length+1) [] (k1+1) 0).2.1 (Jcf ws (ws.length+1) [] (k1+1) 0).2.2).2):=by
   unfold JbI;rw[hrt];simp only[hs,and_self,if_true]
  generalize Jcf ws (ws.length+1) [] (k1+1) 0=rb at hA hk5 hr;obtain⟨body,k5,e5⟩:=rb;obtain⟨g5,g6,g7,g8⟩:=hBF;refine JaY 1000 (by simp only[go_sem,JaX,simprocAttr,g6];rfl) ?_;exact fin ⟨(by simp only[go_sem,JaX,simprocAttr,g5]<;>rfl),(by simp only[go_sem,JaX,simprocAttr,g6]<;>rfl),(by simp only[go_sem,JaX,simprocAttr,g7]<;>rfl),(by simp only[go_sem,JaX,simprocAttr,g8]<;>rfl)⟩ (by simp only[go_sem,JaX,simprocAttr]<;>rfl) hk5 hA hr
end
section
open Go.AE Delphi
variable {tab:Tab}
structure RS (a0 w:AW) (bp:Nat) (wv:V) (rules:List Rl) (k e:Nat) (rv:V) (S T:Fw) (xss:List (List V)):Prop where
 p:PSt w bp wv k e
 frm:Frm (fun b=>b=bp) a0 w
 buf:Buf S w rv 4 rules.length xss.flatten
 rls:All2 (RlC T w) rules xss
 sepS:∀x,S x→a0.next≤x∧x<w.next∧¬T x
 sepT:∀x,T x→a0.next≤x∧x<w.next
structure RF (f:Fr) (bp:Nat) (v5 v7:V):Prop where
 f5:f.get 5=some v5
 f6:f.get 6=some (.ptr bp 0)
 f7:f.get 7=some v7
def Jsd (a0:AW) (bp:Nat) (wv:V) (ws:List Wd) (v5:V) (fin:List Rl×Nat×Nat) (q:Nat) (f:Fr) (w:AW):Prop :=
 ∃rules k e rv S T xss,RF f bp v5 rv∧RS a0 w bp wv rules k e rv S T xss∧rules.length≤31∧k≤ws.length∧(e=0→ws.length+1≤q+k)∧Jcz ws q rules k e=fin∧(e=0→rules.length≤30)
def Jvi (a0:AW) (bp:Nat) (wv:V) (v5:V) (fin:List Rl×Nat×Nat) (f:Fr) (w:AW):Prop :=
 ∃rv S T xss,RF f bp v5 rv∧RS a0 w bp wv fin.1 fin.2.1 fin.2.2 rv S T xss
theorem Jjq {q:Nat}{l:List Rl}{k e:Nat}(h:¬(e=0∧k<ws.length)):Jcz ws q l k e=(l,k,e):=by
 cases q with
 | zero=>rfl
 | succ q=>simp only[Jcz,if_neg h]
theorem JrQ (C:Codes tab){Tw:Fw}{a0 w:AW}{bp:Nat}{wv:V}{v5:V}{fin:List Rl×Nat×Nat}{q:Nat}{f:Fr}{s:List SI}{Q:Fr→AW→Prop}(hw:Wds Tw a0 bp wv ws)(hok:∀x∈ws,WOk x)(hT:∀x,Tw x→x<a0.next)(hlt:bp<a0.next)(hI:Jsd a0 bp wv ws v5 fin q f w)(ih:∀n' f' w',n'<q→Jsd a0 bp wv ws v5 fin n' f' w'→WS tab (.code (.loop JL) :: .endB 0::s) f' w' Q)(out:∀s' f' w',Jvi a0 bp wv v5 fin f' w'→JdS 0 s'=some s→WS tab (.code (.exit 0)::s') f' w' Q):WS tab (.code JL :: .code (.loop JL) :: .endB 0::s) f w Q:=by
 obtain⟨rules,k,e,rv,S,T,xss,⟨f5,f6,f7⟩,hA,hl31,hk,hq,hfin,hl30⟩:=hI;have l0:=hA.p.l0;have l1:=hA.p.l1;have l2:=hA.p.l2;have hww:Wds Tw w bp wv ws:=hw.frm hA.frm fun x hx he=>hw.no (he▸hx);have hlv:=hww.rd.lenV;by_cases he:e=0
 case neg =>
  rw[Jjq (fun h=>he h.1)]at hfin;refine Ja2 1000 (by simp only[go_sem,simprocAttr,JL,f6,l2,he];rfl) ?_;exact out _ _ _ ⟨rv,S,T,xss,⟨(by simp only[go_sem,JaX,simprocAttr,f5]<;>rfl),(by simp only[go_sem,JaX,simprocAttr,f6]<;>rfl),(by simp only[go_sem,JaX,simprocAttr,f7]<;>rfl)⟩,by rw[←hfin];exact hA⟩ rfl
 subst he;by_cases hkl:k<ws.length
 case neg =>
  rw[Jjq (fun h=>hkl h.2)]at hfin;refine Ja2 1000 (by simp only[go_sem,simprocAttr,JL,f6,l0,l1,l2,hlv,hkl];rfl) ?_;exact out _ _ _ ⟨rv,S,T,xss,⟨(by simp only[go_sem,JaX,simprocAttr,f5]<;>rfl),(by simp only[go_sem,JaX,simprocAttr,f6]<;>rfl),(by simp only[go_sem,JaX,simprocAttr,f7]<;>rfl)⟩,by rw[←hfin];exact hA⟩ rfl
 have hl30:=hl30 rfl;have hq:=hq rfl;obtain⟨q,rfl⟩:∃q',q=q'+1:=⟨q-1,by omega⟩;simp only[Jcz]at hfin;rw[if_pos ⟨trivial,hkl⟩]at hfin;refine Ja2 1000 (by simp only[go_sem,JaX,simprocAttr,JL,f6,l0,l1,l2,hlv,hkl];rfl) ?_;refine Jn7 C (v5:=v5) (v7:=rv) hA.p hww hok (fun x hx=>FK (hT x hx) hA.frm.next) hk (by simp only[go_sem,JaX,simprocAttr,f5]<;>rfl) (by simp only[go_sem,JaX,simprocAttr,f6]<;>rfl) (by simp only[go_sem,JaX,simprocAttr,f7]<;>rfl) ?_;rintro f' w1 Tn xs n8 ⟨g5,g6,g7,g8⟩ q1 q2 c2 hn8 q3 q4;have hk1:=Jqp (e:=0) hk;have hk1g:=Jqn ws k 0;have hgt:=Jqo (ws:=ws) (k:=k) (e:=0);generalize hrt:JbI ws k 0=rt at hfin q1 hk1 hk1g q3 hgt;obtain⟨t,k1,e1⟩:=rt;simp only at hfin q1 hk1 hk1g q3 hgt;obtain⟨xl,xo⟩:=q3.one;have nx:=hA.frm.next;have nx1:=q2.next;have nS:∀x,S x→¬x=bp:=fun x hx he=>by have:=(hA.sepS x hx).1;omega
 have nT:∀x,T x→¬x=bp:=fun x hx he=>by have:=(hA.sepT x hx).1;omega
 have nTn:∀x,Tn x→¬x=bp:=fun x hx he=>by have:=(q4 x hx).1;omega
 have m2:=q1.l2;have buf1:=hA.buf.frm q2 nS;have hlr:=buf1.lenV;have la:=c2.all xl;obtain⟨e2,he2⟩:∃e2,e2=if e1=0∧rules.length=30 then 8 else e1:=⟨_,rfl⟩;rw[←he2]at hfin
 have cont:∀{fr:Fr} {w3:AW},BF fr bp n8 v5 rv→PSt w3 bp wv k1 e2→Frm (fun b=>b=bp) w1 w3→WS tab (.code V7 :: .endB 1 :: .code (.loop JL) :: .endB 0::s) fr w3 Q:=by
  rintro fr w3 ⟨f5,f6,f7,f8⟩ g1 g2;have n3:=g2.next;have buf3:=buf1.frm g2 nS;have hn8b:¬n8=bp:=Fh;have c3:=c2.frm g2 hn8b;have hS3:∀b,S b→b<w3.next:=fun b hb=>by have:=(hA.sepS b hb).2.1;omega
  obtain⟨v',w5,S5,a1,a2,a3,a4⟩:=buf3.push (news:=xs) (bytes:=72) hS3 Fh xl xo Fh Fh;have nbp:¬S bp:=fun h=>nS _ h rfl;have n5:=a3.next;have b2:=c3.all xl;have b4:=JbH (w:=w3) (c:=.known 1) (by omega:0<1) (by rw[xl]:xs.length=1*4);have nT2:∀x,(T x∨Tn x)→¬x=bp:=fun x hx=>hx.elim (nT x) (nTn x)
  have nT3:∀x,(T x∨Tn x)→¬S x:=by
   rintro x (hx|hx) h
   ·exact (hA.sepS x h).2.2 hx
   ·have:=(q4 x hx).1;have:=(hA.sepS x h).2.1;omega
  have hov:over [V.int .i64 0,V.str [],V.nilslice,V.nilslice] 0 xs=some xs:=by
   have:=Jew [] [V.int .i64 0,V.str [],V.nilslice,V.nilslice] [] xs (by rw[xl];rfl);simpa using this
  have sT5:∀x,T x∨Tn x→a0.next≤x∧x<w5.next:=by
   rintro x (hx|hx)
   ·have:=hA.sepT x hx;exact⟨this.1,by omega⟩
   ·have:=q4 x hx;exact⟨by omega,by omega⟩
  have hA5:RS a0 w5 bp wv (rules++[t]) k1 e2 v' S5 (fun x=>T x∨Tn x) (xss++[xs]):=by
   refine⟨g1.frm a3 nbp,((hA.frm.tr q2).tr g2).trans a3 (fun _ _ h=>h) (fun x hx h=>by have:=(hA.sepS x h).1;omega),?_,?_,fun x hx=>?_,sT5⟩
   ·rw[FE,Kb,List.flatten_append,List.flatten_cons,List.flatten_nil,Kc];exact a2
   ·refine All2.snoc (((q3.mono fun _ h=> .inr h).frm g2 nT2).frm a3 nT3) ?_;exact hA.rls.imp fun r ys hr=>(((hr.frm q2 nT).mono fun _ h=> .inl h).frm g2 nT2).frm a3 nT3
   ·obtain⟨m1,m2⟩:=a4 x hx;rcases m2 with m2|m2
    ·obtain⟨y1,y2,y3⟩:=hA.sepS x m2;refine⟨y1,m1,?_⟩;rintro (h|h)
     ·exact y3 h
     ·have:=(q4 x h).1;omega
    ·refine⟨by omega,m1,?_⟩;rintro (h|h)
     ·have:=(hA.sepT x h).2;omega
     ·have:=(q4 x h).2.1;omega
  refine JaY 1000 (by simp only[go_sem,JaX,simprocAttr,V7,f7,f8,b2,xl,Ja4,Jbe,hov,a1,b4,FC,FD];rfl) ?_
  have e10:e2=0→e1=0∧rules.length≠30:=by
   intro h0;rw[h0]at he2;split at he2
   ·omega
   ·rename_i hn;exact⟨he2.symm,fun h=>hn ⟨he2.symm,h⟩⟩
  exact ih q _ _ Fh ⟨rules++[t],k1,e2,v',S5,_,_,⟨(by simp only[go_sem,JaX,simprocAttr,f5]<;>rfl),(by simp only[go_sem,JaX,simprocAttr,f6]<;>rfl),(by simp only[go_sem,JaX,simprocAttr]<;>rfl)⟩,hA5,by rw[FE,Kb];omega,hk1,fun h0=>by have:=hgt (e10 h0).1;omega,hfin,fun h0=>by have:=(e10 h0).2;rw[FE,Kb];omega⟩
 by_cases h30:e1=0∧rules.length=30
 ·obtain⟨rfl,h30⟩:=h30;rw[h30]at hlr;rw[if_pos ⟨rfl,h30⟩]at he2;subst he2;refine JaY 1000 (by simp only[go_sem,JaX,simprocAttr,Zl,HD,g6,g7,m2,hlr];rfl) ?_;refine Ja0 (by simp only[go_sem,JaX,simprocAttr]) (by simp only[go_sem,JaX,simprocAttr];rfl) ?_;refine Je6 C (x:=8) q1 fun w3 u3 u4 u5=>?_;refine Ja2 1000 (by simp only[go_sem,JaX,simprocAttr];rfl) ?_;exact cont ⟨(by simp only[go_sem,JaX,simprocAttr,g5]<;>rfl),(by simp only[go_sem,JaX,simprocAttr,g6]<;>rfl),(by simp only[go_sem,JaX,simprocAttr,g7]<;>rfl),(by simp only[go_sem,JaX,simprocAttr,g8]<;>rfl)⟩ u3 u4
 ·rw[if_neg h30]at he2;subst he2;by_cases h0:e2=0
  ·have h30':¬rules.length=30:=fun h=>h30 ⟨h0,h⟩;subst h0;refine Ja2 1000 (by simp only[go_sem,JaX,simprocAttr,Zl,g6,g7,m2,hlr,h30'];rfl) ?_;exact cont ⟨(by simp only[go_sem,JaX,simprocAttr,g5]<;>rfl),(by simp only[go_sem,JaX,simprocAttr,g6]<;>rfl),(by simp only[go_sem,JaX,simprocAttr,g7]<;>rfl),(by simp only[go_sem,JaX,simprocAttr,g8]<;>rfl)⟩ q1 (Frm.refl _)
  ·refine Ja2 1000 (by simp only[go_sem,JaX,simprocAttr,Zl,g6,g7,m2,h0];rfl) ?_;exact cont ⟨(by simp only[go_sem,JaX,simprocAttr,g5]<;>rfl),(by simp only[go_sem,JaX,simprocAttr,g6]<;>rfl),(by simp only[go_sem,JaX,simprocAttr,g7]<;>rfl),(by simp only[go_sem,JaX,simprocAttr,g8]<;>rfl)⟩ q1 (Frm.refl _)
theorem Jop (C:Codes tab){s:List Nat}{aw:AW}{K:V→AW→Prop}(hs:s.length≤1099511627776)(hb:∀x∈s,x<256)(h:∀w v T,RdL (RlC T) T w v 4 (JdD s).1→Frm (fun _=>False) aw w→(∀x,T x→aw.next≤x∧x<w.next)→K (.tuple [v,.int .i64 (Int.ofNat (JdD s).2)]) w):WF tab Gi [.str s] aw K:=by
 refine Ja7 C.Xd rfl ?_;refine JaY 1000 (by simp only[go_sem,JaX,simprocAttr,Zm,HH];rfl) ?_;refine Ja0 (by simp only[go_sem,JaX,simprocAttr]) (by simp only[go_sem,JaX,simprocAttr];rfl) ?_;refine JtA C hs (fun hl=>?_) fun hl v aw' hown hext=>?_
 ·have hr:JdD s=([],8):=by unfold JdD;rw[if_pos hl]
  rw[hr]at h;refine JaY 1000 (by simp only[go_sem,JaX,simprocAttr,Ua,Hz];rfl) ?_;refine JaZ ⟨_,by simp only[go_sem,JaX,simprocAttr,Zm];rfl,?_⟩;exact h aw .nilslice (fun _=>False) ⟨[],.nil,.nil⟩ (Frm.refl _) fun _ h=>h.elim
 obtain⟨e0,he0⟩:∃e0:Nat,e0=if (scan 0 s).2=true then 0 else 4:=⟨_,rfl⟩;have hk0:(if (scan 0 s).2=true then (0:Int)else 4)=Int.ofNat e0:=by rw[he0];split<;>rfl
 rw[hk0];have h8:¬e0=8:=by rw[he0];split<;>omega
 obtain⟨wl,wok⟩:=JtD hb
 have hr:JdD s=if Jdj (Jcz (scan 0 s).1 ((scan 0 s).1.length+1) [] 0 0).2.2 e0=0 then ((Jcz (scan 0 s).1 ((scan 0 s).1.length+1) [] 0 0).1,0)else ([],Jdj (Jcz (scan 0 s).1 ((scan 0 s).1.length+1) [] 0 0).2.2 e0):=by
  unfold JdD;rw[if_neg Fh,he0]
 rw[hr]at h;clear hr he0 hk0;generalize (scan 0 s).1=ws at hown wl wok h;have hrd:=hown.rd;have nx:=hext.next;obtain⟨zs,hzs⟩:∃zs,zs=[v,V.int .i64 0,V.int .i64 0]:=⟨_,rfl⟩;have hov:over [V.nilslice,V.int .i64 0,V.int .i64 0] 0 [v]=some zs:=by rw[hzs];rfl
 have vc:v.cells=[v]:=by rcases hrd.inv with⟨rfl,_⟩|⟨_,_,_,rfl,_⟩<;>rfl
 have f0:Frm (fun _=>False) aw (aw'.fresh zs):=(hext.frm (S:=fun _=>False) fun x hx hn=>by omega).tr (Jbc _ _);have hp:PSt (aw'.fresh zs) aw'.next v 0 0:=by rw[hzs];exact⟨FW _,AE.T.get_put_same⟩
 have hw:Wds (fun b=>aw.next≤b∧b<aw'.next) (aw'.fresh zs) aw'.next v ws:=⟨hrd.frm (Jbc (S:=fun _=>False) _ _) fun _ _ h=>h,fun h=>by omega,by omega⟩;refine JaY 1000 (by simp only[go_sem,JaX,simprocAttr,Ua,HG,h8,Ja4,Jbe,vc,hov,FC,FD];rfl) ?_
 refine Jba (Jsd (aw'.fresh zs) aw'.next v ws (.int .i64 (Int.ofNat e0)) (Jcz ws (ws.length+1) [] 0 0)) (Jvi (aw'.fresh zs) aw'.next v (.int .i64 (Int.ofNat e0)) (Jcz ws (ws.length+1) [] 0 0)) (fun n f w hI ih out=>JrQ C hw wok (fun x hx=>Nat.lt_succ_of_lt hx.2) (FW _) hI ih out) ?_ (ws.length+1)
  ⟨[],0,0,.nilslice,fun _=>False,fun _=>False,[],⟨(by simp only[go_sem,JaX,simprocAttr]<;>rfl),(by simp only[go_sem,JaX,simprocAttr]<;>rfl),(by simp only[go_sem,JaX,simprocAttr]<;>rfl)⟩,⟨hp,Frm.refl _,.nil,.nil,fun _ h=>h.elim,fun _ h=>h.elim⟩,by simp,by omega,fun _=>by omega,rfl,by simp⟩
 rintro f w ⟨rv,S,T,xss,⟨f5,f6,f7⟩,hA⟩;generalize Jcz ws (ws.length+1) [] 0 0=rr at hA h;obtain⟨rules,k,e⟩:=rr;simp only at hA h;refine JaY 1000 (by simp only[go_sem,JaX,simprocAttr,f5,f6];rfl) ?_;refine Ja0 (by simp only[go_sem,JaX,simprocAttr]) (by simp only[go_sem,JaX,simprocAttr];rfl) ?_;refine Je6 C (x:=e0) hA.p fun w3 u3 u4 u5=>?_;have l2:=u3.l2;have n4:=u4.next;have nn:(aw'.fresh zs).next=aw'.next+1:=rfl
 have fr3:Frm (fun _=>False) aw w3:=by
  refine f0.trans (hA.frm.tr u4) (fun _ _ h=>h) ?_;rintro x hx rfl;omega
 by_cases hz:Jdj e e0=0
 ·rw[if_pos hz]at h;rw[hz]at l2;refine JaY 1000 (by simp only[go_sem,JaX,simprocAttr,V9,f6,f7,l2];rfl) ?_;refine JaZ ⟨_,by simp only[go_sem,JaX,simprocAttr,Zm];rfl,?_⟩;have nS:∀x,S x→¬x=aw'.next:=fun x hx he=>by have:=(hA.sepS x hx).1;omega
  have nT:∀x,T x→¬x=aw'.next:=fun x hx he=>by have:=(hA.sepT x hx).1;omega
  refine h w3 rv (fun x=>S x∨T x) ⟨xss,(hA.buf.rd.frm u4 nS).mono fun _ h=> .inl h,hA.rls.imp fun r ys hr=>(hr.frm u4 nT).mono fun _ h=> .inr h⟩ fr3 ?_;rintro x (hx|hx)
  ·have:=hA.sepS x hx;exact⟨by omega,by omega⟩
  ·have:=hA.sepT x hx;exact⟨by omega,by omega⟩
 ·rw[if_neg hz]at h;refine JaY 1000 (by simp only[go_sem,JaX,simprocAttr,V9,HF,f6,f7,l2,hz];rfl) ?_;refine JaZ ⟨_,by simp only[go_sem,JaX,simprocAttr,Zm];rfl,?_⟩;exact h w3 .nilslice (fun _=>False) ⟨[],.nil,.nil⟩ fr3 fun _ h=>h.elim
end
end Go.Proofs.YtegdcbdicpfbpaaGreatDoor
set_option linter.unusedSectionVars false
namespace Go.AE
variable [Globs]
theorem JeZ {b:Nat}:(V.map b).cells=[.map b]:=rfl
theorem JmH:V.nilmap.cells=[.nilmap]:=rfl
theorem Jpv {f:Fn}{a c:List V}:(V.func f a c).cells=[.func f a c]:=rfl
variable {v:V}
theorem Jn4 {t:Nat}:(V.iface t v).cells=[.iface t v]:=rfl
theorem JkW:V.niliface.cells=[.niliface]:=rfl
attribute [go_sem] JeZ JmH Jpv Jn4 JkW
section
variable {α β:Type} [DecidableEq α]
def Ja1:List (α×β)→α→Option β
 | [],_=>none
 | (a,b)::l,k=>if k=a then some b else Ja1 l k
def Jb5:List (α×β)→α→β→List (α×β)
 | [],k,v=>[(k,v)]
 | (a,b)::l,k,v=>if k=a then (a,v)::l else (a,b)::Jb5 l k v
theorem Jbi:∀(l:List (α×β)) (k:α) (v:β),Ja1 (Jb5 l k v) k=some v
 | [],k,v=>by simp[Jb5,Ja1]
 | (a,b)::l,k,v=>by
  by_cases h:k=a
  ·simp[Jb5,Ja1,h]
  ·simp only[Jb5,if_neg h,Ja1];exact Jbi l k v
theorem JbD:∀(l:List (α×β)) (k k':α) (v:β),k'≠k→Ja1 (Jb5 l k v) k'=Ja1 l k'
 | [],k,k',v,h=>by simp[Jb5,Ja1,h]
 | (a,b)::l,k,k',v,h=>by
  by_cases hk:k=a
  ·subst hk;simp[Jb5,Ja1,h]
  ·simp only[Jb5,if_neg hk,Ja1,JbD l k k' v h]
structure KeyE (t:KeyTy) (ke:α→V):Prop where
 eq:∀a b,Jf6 t (ke a) (ke b)=some (decide (a=b))
 ok:∀a,JeM t (ke a)=true
def Jmo (ke:α→V) (ve:β→V) (p:α×β) (e:V×V×Nat):Prop:=e.1=ke p.1∧e.2.1=ve p.2
structure MB (ke:α→V) (ve:β→V) (w:AW) (b:Nat) (M:List (α×β)):Prop where
 lt:b<w.next
 get:∃es ck,w.heap.get b=some (.map es ck)∧All2 (Jmo ke ve) M es
variable {ke:α→V} {ve:β→V} {t:KeyTy}
def Jix (ve:β→V) (zero:V):Option β→V×Bool
 | some v=>(ve v,true)
 | none=>(zero,false)
variable {w:AW} {b:Nat} {M:List (α×β)}
theorem MB.frm {S:Fw}{w':AW}(h:MB ke ve w b M)(hf:Frm S w w')(hn:¬S b):MB ke ve w' b M:=by
 obtain⟨es,ck,h1,h2⟩:=h.get;exact⟨FK h.lt hf.next,es,ck,(hf.heap b h.lt hn).trans h1,h2⟩
theorem Jio (hk:KeyE t ke){k:α}:∀{M:List (α×β)} {es:List (V×V×Nat)} (i:Nat),All2 (Jmo ke ve) M es→ (Ja1 M k=none→JcJ t (ke k) es i=some none)∧∀v,Ja1 M k=some v→∃j n,JcJ t (ke k) es i=some (some (i+j,ve v,n))∧∀v',All2 (Jmo ke ve) (Jb5 M k v') (Jf1 j (ke k) (ve v') es)
 | [],_,i,.nil=>⟨fun _=>rfl,fun v h=>by simp[Ja1]at h⟩
 | (a,b)::M,(x,y,n)::es,i,.cons h1 h2=>by
  obtain⟨q1,q2⟩:=h1;simp only at q1 q2;subst q1;subst q2;by_cases h:k=a
  ·subst h;refine⟨fun hn=>by simp[Ja1]at hn,fun v hv=>?_⟩;simp only[Ja1,if_true,FQ]at hv;subst hv;refine⟨0,n,by simp only[JcJ,hk.eq,decide_true,KF],fun v'=>?_⟩;simp only[Jb5,if_true,Jf1,Kg,List.set_cons_zero];exact .cons ⟨rfl,rfl⟩ h2
  ·obtain⟨r1,r2⟩:=Jio hk (k:=k) (i+1) h2;refine⟨fun hn=>?_,fun v hv=>?_⟩
   ·simp only[Ja1,if_neg h]at hn;simp only[JcJ,hk.eq,decide_eq_false h];exact r1 hn
   ·simp only[Ja1,if_neg h]at hv;obtain⟨j,m,s1,s2⟩:=r2 v hv;refine⟨j+1,m,?_,fun v'=>?_⟩
    ·simp only[JcJ,hk.eq,decide_eq_false h];rw[s1];congr 3;omega
    ·have:=s2 v';simp only[Jb5,if_neg h]
     have e:Jf1 (j+1) (ke k) (ve v') ((ke a,ve b,n)::es)=(ke a,ve b,n)::Jf1 j (ke k) (ve v') es:=by
      simp only[Jf1,Kh];split<;>simp
     rw[e];exact .cons ⟨rfl,rfl⟩ this
theorem MB.look (hk:KeyE t ke)(h:MB ke ve w b M)(zero:V)(k:α):w.lookV t zero (.map b) (ke k)=some (Jix ve zero (Ja1 M k)):=by
 obtain⟨es,ck,h1,h2⟩:=h.get;obtain⟨r1,r2⟩:=Jio hk (k:=k) 0 h2;simp only[AW.lookV,AW.entries,h1,hk.ok];cases hg:Ja1 M k with
 | none=>simp only[r1 hg,Jix]
 | some v=>obtain⟨j,n,s1,_⟩:=r2 v hg;simp only[s1,Jix]
theorem JgC:∀{M:List (α×β)} {k:α},Ja1 M k=none→∀v,Jb5 M k v=M++[(k,v)]
 | [],k,_,v=>rfl
 | (a,b)::M,k,h,v=>by
  simp only[Ja1]at h;split at h
  ·cases h
  ·rename_i hn;simp only[Jb5,if_neg hn,JgC h v,List.cons_append]
theorem Jiy {es:List (V×V×Nat)}{ck:Nat}:Frm (fun x=>x=b) w (w.turn b (.map es ck)):=
 ⟨FH _,fun c hc hn=>T.get_put_ne hn,fun c hc hn=>rfl⟩
theorem MB.put (hk:KeyE t ke)(h:MB ke ve w b M)(k:α)(v:β):∃w',w.putV t (.map b) (ke k) (ve v)=some w'∧MB ke ve w' b (Jb5 M k v)∧Frm (fun x=>x=b) w w'∧w'.next=w.next:=by
 obtain⟨es,ck,h1,h2⟩:=h.get;obtain⟨r1,r2⟩:=Jio hk (k:=k) 0 h2;simp only[AW.putV,AW.entries,h1,hk.ok];cases hg:Ja1 M k with
 | none =>
  refine⟨w.turn b (.map (es++[(ke k,ve v,ck)]) (ck+1)),by simp only[r1 hg],⟨h.lt,_,_,T.get_put_same,?_⟩,Jiy,rfl⟩;rw[JgC hg];exact h2.snoc ⟨rfl,rfl⟩
 | some u =>
  obtain⟨j,n,s1,s2⟩:=r2 u hg;refine⟨w.turn b (.map (Jf1 j (ke k) (ve v) es) ck),?_,⟨h.lt,_,_,T.get_put_same,s2 v⟩,Jiy,rfl⟩;simp only[s1,FV]
theorem MB.len (h:MB ke ve w b M):∃es ck,w.entries (.map b)=some (some b,es,ck)∧es.length=M.length:=by
 obtain⟨es,ck,h1,h2⟩:=h.get;exact⟨es,ck,by simp only[AW.entries,h1],h2.len.symm⟩
theorem MB.new (w:AW):MB ke ve (w.new (.map [] 0)) w.next ([]:List (α×β)):=⟨FW _,[],0,T.get_put_same,.nil⟩
end
variable {S:Fw}
theorem Jev (w:AW):Frm S w (w.new (.map [] 0)):=Frm.new w _
theorem Jci:KeyE (.scalar .str) V.str:=⟨fun a b=>by
 show some (eqL a b)=_
 congr 1
 by_cases h:a=b
 ·rw[decide_eq_true h];exact eqL_iff.2 h
 ·rw[decide_eq_false h];cases hc:eqL a b with
  | false=>rfl
  | true=>exact absurd (eqL_iff.1 hc) h,fun _=>rfl⟩
theorem Jrm:KeyE (.scalar .int) (V.int .i64):=⟨fun a b=>by
 show (if (IntKind.i64:IntKind) = .i64 then some (a==b)else none)=_;rw[if_pos rfl]
 congr 1,fun _=>rfl⟩
inductive Bt (S:Nat→Prop) (w:AW):V→Nat→Nat→List V→Prop
 | nil {esz:Nat}:Bt S w .nilslice esz 0 []
 | blk {b n esz:Nat} {cs:List V} {sh:Share} (hS:S b) (hb:b<w.next) (hx:w.heap.get b=some (.cells cs sh)) (hl:cs.length=n*esz) (he:0<esz) (hn:0<n) (hs:Shr S w b sh):Bt S w (.slice b 0 n (.upTo esz)) esz n cs
variable {w:AW} {esz n:Nat} {cs:List V}
theorem Bt.buf (h:Bt S w v esz n cs):Buf S w v esz n cs:=by
 cases h with
 | nil=>exact .nil
 | blk hS hb hx hl he hn hs=>exact .blk (r:=0) (rest:=[]) hS hb (by rw[Kc];exact hx) hl Fj he Fh hs
theorem Bt.mono {S':Fw}(h:Bt S w v esz n cs)(hs:∀x,S x→S' x):Bt S' w v esz n cs:=by
 cases h with
 | nil=>exact .nil
 | blk hS hb hx hl he hn hsh=>exact .blk (hs _ hS) hb hx hl he hn (hsh.mono hs)
theorem Bt.frm {T:Fw}{w':AW}(h:Bt S w v esz n cs)(hf:Frm T w w')(hd:∀x,S x→¬T x):Bt S w' v esz n cs:=by
 cases h with
 | nil=>exact .nil
 | blk hS hb hx hl he hn hsh=>exact .blk hS (FK hb hf.next) ((hf.heap _ hb (hd _ hS)).trans hx) hl he hn (hsh.frm hf hd)
theorem Bt.len (h:Bt S w v esz n cs):cs.length=n*esz:=h.buf.len
theorem Bt.rd (h:Bt S w v esz n cs):Rd S w v esz n cs:=h.buf.rd
theorem Bt.lenV (h:Bt S w v esz n cs):lenV v=some n:=h.buf.lenV
theorem Bt.one (h:Bt S w v esz n cs):v.one=true∧v.cells=[v]:=by cases h<;>exact⟨rfl,rfl⟩
theorem Bt.inv (h:Bt S w v esz n cs):(v = .nilslice∧n=0∧cs=[])∨∃b,v = .slice b 0 n (.upTo esz)∧S b∧b<w.next:=h.buf.inv
variable {bytes:Nat} {news:List V}
theorem Bt.addN {k:Nat}(h:Bt S w v esz n cs)(he:0<esz)(hl:news.length=k*esz)(h1:Jbf news=true)(hb:(n+k)*bytes≤70368744177664)(hb':n+k≤70368744177664): ∃v' w' S',w.appendV esz bytes v k news=some (v',w')∧Bt S' w' v' esz (n+k) (cs++news)∧Frm S w w'∧Jd0 S S' w w':=by
 cases k with
 | zero =>
  have:news=[]:=List.length_eq_zero_iff.1 (by simpa using hl);subst this;refine⟨v,w,fun x=>S x∧x<w.next,?_,?_,Frm.refl _,fun b hb=>⟨hb.2,.inl hb.1⟩⟩
  ·cases h<;>rfl
  ·rw[Kc,KF];cases h with
   | nil=>exact .nil
   | blk hS hbw hx hlen he' hn hs =>
    refine .blk ⟨hS,hbw⟩ hbw hx hlen he' hn ?_;rcases hs with rfl|rfl|⟨f,F,rfl,q1,q2,q3⟩
    ·exact .inl rfl
    ·exact .inr (.inl rfl)
    ·exact .inr (.inr ⟨f,F,rfl,⟨q1,q2⟩,q2,q3⟩)
 | succ k =>
  cases h with
  | nil =>
   refine⟨.slice w.next 0 (k+1) (.upTo esz),w.fresh news,fun b=>b=w.next,?_,?_,Frm.new _ _,?_⟩
   ·simp only[AW.appendV];rw[if_pos ⟨by simpa using hb,by omega⟩]
   ·rw[FV];exact .blk rfl (FW _) T.get_put_same (by simpa using hl) he Fh (.inl rfl)
   ·rintro b rfl;exact⟨FW _,.inr (FH _)⟩
  | @blk b _ _ _ sh hS hbw hx hlen he' hn hs =>
   have happ:w.appendV esz bytes (.slice b 0 n (.upTo esz)) (k+1) news=w.appendUp esz b 0 n (k+1) news:=if_pos ⟨rfl,hb,hb',h1,he⟩;rw[happ];have hbeq:Nat.beq (0+n*esz) cs.length=true:=by rw[FV,hlen,Nat.beq_refl]
   have fam:∀(u:AW) (f:Nat) (F:Fam),w.next≤u.next→Frm S w u→u.heap.get b=some (.cells cs (.fam f))→(S f∨w.next≤f)→f<u.next→b<u.next→u.fams.get f=some F→F.last=b→F.floor≤u.next→u.alive b (.fam f)=true→∃v' w' S',u.appendFam esz b 0 n (k+1) news=some (v',w')∧Bt S' w' v' esz (n+(k+1)) (cs++news)∧Frm S w w'∧Jd0 S S' w w':=by
    intro u f F hle hfu hx hSf hfl hbu hF hlast hflo hal;refine⟨.slice u.next 0 (n+(k+1)) (.upTo esz),u.grow b f F (cs.drop 0++news),fun x=>x=u.next∨x=f,?_,?_,?_,?_⟩
    ·simp only[AW.appendFam,hx,hal,hF,hbeq]
    ·have hg:(u.grow b f F (cs.drop 0++news)).fams.get f=some ⟨F.keep,F.floor,u.next⟩:=by
      simp only[AW.grow,T.get_putk,if_true,hlast,Nat.beq_refl]
     refine .blk (sh:=.fam f) (.inl rfl) (FW _) ?_ ?_ he Fh (.inr (.inr ⟨f,⟨F.keep,F.floor,u.next⟩,rfl,.inr rfl,Nat.lt_succ_of_lt hfl,hg,rfl,Nat.le_succ_of_le hflo,?_⟩))
     ·simp only[AW.grow,T.get_putk,if_true,FZ]
     ·rw[FE,hlen,hl,Nat.add_mul n]
     ·simp only[AW.alive,hg,Bool.or_eq_true];exact .inr (Nat.ble_eq_true_of_le hflo)
    ·refine hfu.trans (T:=fun x=>x=f∨u.next≤x) ⟨Nat.le_succ _,fun c hc hn=>T.get_put_ne Fh,fun c hc hn=>T.get_put_ne fun e=>hn (.inl e)⟩ (fun x hx h=>h) ?_;rintro x hx (rfl|h)
     ·rcases hSf with h|h
      ·exact h
      ·omega
     ·omega
    ·rintro x (rfl|rfl)
     ·exact⟨FW _,.inr hle⟩
     ·exact⟨Nat.lt_succ_of_lt hfl,hSf⟩
   have fnd:sh = .own∨sh = .lax→∃v' w' S',(w.found b cs).appendFam esz b 0 n (k+1) news=some (v',w')∧Bt S' w' v' esz (n+(k+1)) (cs++news)∧Frm S w w'∧Jd0 S S' w w':=by
    intro _;refine fam (w.found b cs) w.next ⟨b,w.next+1,b⟩ (Nat.le_succ _) ⟨Nat.le_succ _,fun c hc hn=>T.get_put_ne fun e=>hn (e▸hS),fun c hc hn=>T.get_put_ne Fh⟩ T.get_put_same (.inr (FH _)) (FW _) (Nat.lt_succ_of_lt hbw) T.get_put_same rfl (FH _) ?_;simp only[AW.alive,AW.found,T.get_putk,if_true,Nat.beq_refl,Bool.true_or]
   simp only[AW.appendUp,hx,hbeq];rcases hs with rfl|rfl|⟨f,F,rfl,g1,g2,g3,g4,g6,g5⟩
   ·exact fnd (.inl rfl)
   ·exact fnd (.inr rfl)
   ·exact fam w f F (FH _) (Frm.refl _) hx (.inl g1) g2 hbw g3 g4 g6 g5
theorem Bt.push (h:Bt S w v esz n cs)(hS:∀b,S b→b<w.next)(he:0<esz)(hl:news.length=esz)(h1:Jbf news=true)(hb:(n+1)*bytes≤70368744177664)(hb':n+1≤70368744177664): ∃v' w' S',(w.fresh news).appendV esz bytes v 1 news=some (v',w')∧Bt S' w' v' esz (n+1) (cs++news)∧Frm S w w'∧Jd0 S S' w w':=by
 have hx:Frm (fun _=>False) w (w.fresh news):=Frm.new _ _;obtain⟨v',w',S',h2,h3,h4,h5⟩:=(h.frm hx fun _ _ h=>h).addN (news:=news) (k:=1) (bytes:=bytes) he Fh h1 hb hb';refine⟨v',w',S',h2,h3,hx.trans h4 (fun _ _ h=>h.elim) fun _ _ h=>h,fun b hb=>?_⟩;obtain⟨q1,q2⟩:=h5 b hb;exact⟨q1,q2.imp id fun h=>Kk hx.next h⟩
end Go.AE
namespace Delphi
def okc (i c:Nat):Bool:=(decide (97≤c)&&decide (c≤122))||(decide (i≠0)&&((decide (48≤c)&&decide (c≤57))||decide (c=95)))
def Jc4:Nat→List Nat→Bool
 | _,[]=>true
 | i,c::s=>okc i c&&Jc4 (i+1) s
def Jc5 (s:List Nat):Bool:=Jc4 0 s&&(decide (1≤s.length)&&decide (s.length≤16))
theorem JkJ:∀(s:List Nat) (i c:Nat),Jc4 i (s++[c])=(Jc4 i s&&okc (i+s.length) c)
 | [],i,c=>by simp[Jc4]
 | x::s,i,c=>by
  simp only[List.cons_append,Jc4,JkJ s (i+1) c,FC,Bool.and_assoc]
  congr 3;omega
theorem Jiz:∀{s:List Nat} {i k c:Nat},s[k]? = some c→okc (i+k) c=false→Jc4 i s=false
 | [],i,k,c,h,_=>by simp at h
 | x::s,i,0,c,h,hb=>by simp at h;subst h;simp only[Jc4];rw[show okc i x=false from hb];rfl
 | x::s,i,k+1,c,h,hb=>by
  simp only[Jc4];rw[Jiz (s:=s) (i:=i+1) (k:=k) (c:=c) (by simpa using h) (by rw[←hb];congr 1;omega),Bool.and_false]
structure Tk where
 k:Int
 s:List Nat
 n:Int
def Jbd (t:Tk):Bool :=
 if t.k=3 then decide (t.s=[])&&(decide (-2147483648≤t.n)&&decide (t.n≤2147483648))
 else if t.k=2 then decide (t.n=0)&&Jc5 t.s else false
end Delphi
namespace Go.Proofs.YtegdcbdicpfbpaaGreatDoor.Val
open Go.AE Delphi
variable {tab:Tab}
def WdI (s:List Nat) (fi:Nat) (aw:AW) (q:Nat) (f:Fr) (w:AW):Prop :=
 ∃i,f.get 0=some (.str s)∧f.get fi=some (.int .i64 (Int.ofNat i))∧i≤s.length∧q=s.length-i∧Jc4 0 (s.take i)=true∧w=aw
variable {s:List Nat}
theorem Jdy {i c:Nat}(h:s[i]? = some c)(ho:Jc4 0 (s.take i)=true)(hc:okc i c=true):Jc4 0 (s.take (i+1))=true:=by
 have hl:i<s.length:=(List.getElem?_eq_some_iff.1 h).1;have e:s.take (i+1)=s.take i++[c]:=by rw[List.take_add_one,h];rfl
 rw[e,JkJ,ho,FU,KD Fh,FV,hc];rfl
theorem Ju8 (C:Codes tab){aw:AW}{K:V→AW→Prop}(hn:s.length≤9223372036854775807)(hb:∀c∈s,c<256)(h:K (.bool (Jc5 s)) aw):WF tab GA [.str s] aw K:=by
 refine Ja7 C.X5 rfl ?_;refine JaY 1000 (by simp only[go_sem,JaX,simprocAttr,Jp];rfl) ?_;refine Jba (fun q f w=>WdI s 8 aw q f w∧f.get 7=some (.int .i64 (Int.ofNat s.length))) (fun f w=>f.get 0=some (.str s)∧Jc4 0 s=true∧w=aw) ?_ ?_ s.length ⟨⟨0,(by simp only[go_sem,JaX,simprocAttr]<;>rfl),(by simp only[go_sem,JaX,simprocAttr]<;>rfl),by omega,rfl,by simp[Jc4],rfl⟩,(by simp only[go_sem,JaX,simprocAttr]<;>rfl)⟩
 ·rintro q f w ⟨⟨i,f0,f8,hi,rfl,hok,rfl⟩,f7⟩ ih exit;by_cases hlt:i<s.length
  case neg =>
   rw[FX Fh]at hok;refine Ja2 1000 (by simp only[go_sem,simprocAttr,Ji,f7,f8,hlt];rfl) ?_;exact exit _ _ _ ⟨(by simp only[go_sem,JaX,simprocAttr,f0]<;>rfl),hok,rfl⟩ rfl
  obtain⟨c,hc⟩:∃c,s[i]? = some c:=⟨_,FB hlt⟩;have hwr:IntKind.wrap .i64 (Int.ofNat i+1)=Int.ofNat (i+1):=Ja3 Fh
  have bad:okc i c=false→Jc5 s=false:=fun hk=>by
   have:=Jiz (i:=0) hc (by rw[FV];exact hk);simp only[Jc5,this,Bool.false_and]
  by_cases a:97≤c
  ·by_cases b:c≤122
   ·refine JaY 1000 (by simp only[go_sem,JaX,simprocAttr,Ji,Jm,f0,f7,f8,hlt,hc,hwr,a,b];rfl) ?_;exact ih (s.length-(i+1)) _ _ Fh ⟨⟨i+1,(by simp only[go_sem,JaX,simprocAttr,f0]<;>rfl),(by simp only[go_sem,JaX,simprocAttr]<;>rfl),by omega,rfl,Jdy hc hok (by simp[okc,a,b]),rfl⟩,(by simp only[go_sem,JaX,simprocAttr,f7]<;>rfl)⟩
   ·by_cases z:i=0
    ·subst z;refine JaY 1000 (by simp only[go_sem,JaX,simprocAttr,Ji,Jm,f0,f7,f8,hlt,hc,hwr,a,b];rfl) ?_;rw[bad (by simp[okc,a,b])]at h;refine JaZ ⟨_,by simp only[go_sem,JaX,simprocAttr,Jp];rfl,?_⟩;exact h
    ·by_cases d:c<48
     ·have d9:¬48≤c:=Fh;have n9:c≠95:=Fh;refine JaY 1000 (by simp only[go_sem,JaX,simprocAttr,Ji,Jm,f0,f7,f8,hlt,hc,hwr,a,b,z,d,d9,n9];rfl) ?_;rw[bad (by simp[okc,a,b,z,d,d9,n9])]at h;refine JaZ ⟨_,by simp only[go_sem,JaX,simprocAttr,Jp];rfl,?_⟩;exact h
     ·have d9:48≤c:=Fh;by_cases e:57<c
      ·have e9:¬c≤57:=Fh;by_cases n9:c=95
       ·refine JaY 1000 (by simp only[go_sem,JaX,simprocAttr,Ji,Jm,f0,f7,f8,hlt,hc,hwr,a,b,z,d,d9,e,e9,n9];rfl) ?_;exact ih (s.length-(i+1)) _ _ Fh ⟨⟨i+1,(by simp only[go_sem,JaX,simprocAttr,f0]<;>rfl),(by simp only[go_sem,JaX,simprocAttr]<;>rfl),by omega,rfl,Jdy hc hok (by simp[okc,a,b,z,d,d9,e,e9,n9]),rfl⟩,(by simp only[go_sem,JaX,simprocAttr,f7]<;>rfl)⟩
       ·refine JaY 1000 (by simp only[go_sem,JaX,simprocAttr,Ji,Jm,f0,f7,f8,hlt,hc,hwr,a,b,z,d,d9,e,e9,n9];rfl) ?_;rw[bad (by simp[okc,a,b,z,d,d9,e,e9,n9])]at h;refine JaZ ⟨_,by simp only[go_sem,JaX,simprocAttr,Jp];rfl,?_⟩;exact h
      ·have e9:c≤57:=Fh;refine JaY 1000 (by simp only[go_sem,JaX,simprocAttr,Ji,Jm,f0,f7,f8,hlt,hc,hwr,a,b,z,d,d9,e,e9];rfl) ?_;exact ih (s.length-(i+1)) _ _ Fh ⟨⟨i+1,(by simp only[go_sem,JaX,simprocAttr,f0]<;>rfl),(by simp only[go_sem,JaX,simprocAttr]<;>rfl),by omega,rfl,Jdy hc hok (by simp[okc,a,b,z,d,d9,e,e9]),rfl⟩,(by simp only[go_sem,JaX,simprocAttr,f7]<;>rfl)⟩
  ·by_cases z:i=0
   ·subst z;refine JaY 1000 (by simp only[go_sem,JaX,simprocAttr,Ji,Jm,f0,f7,f8,hlt,hc,hwr,a];rfl) ?_;rw[bad (by simp[okc,a])]at h;refine JaZ ⟨_,by simp only[go_sem,JaX,simprocAttr,Jp];rfl,?_⟩;exact h
   ·by_cases d:c<48
    ·have d9:¬48≤c:=Fh;have n9:c≠95:=Fh;refine JaY 1000 (by simp only[go_sem,JaX,simprocAttr,Ji,Jm,f0,f7,f8,hlt,hc,hwr,a,z,d,d9,n9];rfl) ?_;rw[bad (by simp[okc,a,z,d,d9,n9])]at h;refine JaZ ⟨_,by simp only[go_sem,JaX,simprocAttr,Jp];rfl,?_⟩;exact h
    ·have d9:48≤c:=Fh;by_cases e:57<c
     ·have e9:¬c≤57:=Fh;by_cases n9:c=95
      ·refine JaY 1000 (by simp only[go_sem,JaX,simprocAttr,Ji,Jm,f0,f7,f8,hlt,hc,hwr,a,z,d,d9,e,e9,n9];rfl) ?_;exact ih (s.length-(i+1)) _ _ Fh ⟨⟨i+1,(by simp only[go_sem,JaX,simprocAttr,f0]<;>rfl),(by simp only[go_sem,JaX,simprocAttr]<;>rfl),by omega,rfl,Jdy hc hok (by simp[okc,a,z,d,d9,e,e9,n9]),rfl⟩,(by simp only[go_sem,JaX,simprocAttr,f7]<;>rfl)⟩
      ·refine JaY 1000 (by simp only[go_sem,JaX,simprocAttr,Ji,Jm,f0,f7,f8,hlt,hc,hwr,a,z,d,d9,e,e9,n9];rfl) ?_;rw[bad (by simp[okc,a,z,d,d9,e,e9,n9])]at h;refine JaZ ⟨_,by simp only[go_sem,JaX,simprocAttr,Jp];rfl,?_⟩;exact h
     ·have e9:c≤57:=Fh;refine JaY 1000 (by simp only[go_sem,JaX,simprocAttr,Ji,Jm,f0,f7,f8,hlt,hc,hwr,a,z,d,d9,e,e9];rfl) ?_;exact ih (s.length-(i+1)) _ _ Fh ⟨⟨i+1,(by simp only[go_sem,JaX,simprocAttr,f0]<;>rfl),(by simp only[go_sem,JaX,simprocAttr]<;>rfl),by omega,rfl,Jdy hc hok (by simp[okc,a,z,d,d9,e,e9]),rfl⟩,(by simp only[go_sem,JaX,simprocAttr,f7]<;>rfl)⟩
 ·rintro f w ⟨f0,hok,rfl⟩;cases s with
  | nil =>
   refine JaY 1000 (by simp only[go_sem,JaX,simprocAttr,f0];rfl) ?_;refine JaZ ⟨_,by simp only[go_sem,JaX,simprocAttr,Jp];rfl,?_⟩;exact h
  | cons x t =>
   refine JaY 1000 (by simp only[go_sem,JaX,simprocAttr,f0];rfl) ?_;refine JaZ ⟨_,by simp only[go_sem,JaX,simprocAttr,Jp];rfl,?_⟩;rw[show Jc5 (x::t)=decide ((x::t).length≤16)by simp[Jc5,hok]]at h;exact h
section
open Go.AE Delphi
variable {tab:Tab}
theorem Jo0 (C:Codes tab){aw:AW}{K:V→AW→Prop}(hn:s.length≤9223372036854775807)(hb:∀c∈s,c<256)(h:K (.bool (Jc5 s)) aw):WF tab VI [.str s] aw K:=by
 refine Ja7 C.XI rfl ?_;refine JaY 1000 (by simp only[go_sem,JaX,simprocAttr,Jo];rfl) ?_;refine Jba (fun q f w=>WdI s 3 aw q f w) (fun f w=>f.get 0=some (.str s)∧Jc4 0 s=true∧w=aw) ?_ ?_ s.length ⟨0,(by simp only[go_sem,JaX,simprocAttr]<;>rfl),(by simp only[go_sem,JaX,simprocAttr]<;>rfl),by omega,rfl,by simp[Jc4],rfl⟩
 ·rintro q f w ⟨i,f0,f3,hi,rfl,hok,rfl⟩ ih exit;by_cases hlt:i<s.length
  case neg =>
   rw[FX Fh]at hok;refine Ja2 1000 (by simp only[go_sem,simprocAttr,Jg,f0,f3,hlt];rfl) ?_;exact exit _ _ _ ⟨(by simp only[go_sem,JaX,simprocAttr,f0]<;>rfl),hok,rfl⟩ rfl
  obtain⟨c,hc⟩:∃c,s[i]? = some c:=⟨_,FB hlt⟩;have hwr:IntKind.wrap .i64 (Int.ofNat i+1)=Int.ofNat (i+1):=Ja3 Fh
  have bad:okc i c=false→Jc5 s=false:=fun hk=>by
   have:=Jiz (i:=0) hc (by rw[FV];exact hk);simp only[Jc5,this,Bool.false_and]
  by_cases a:97≤c
  ·by_cases b:c≤122
   ·refine JaY 1000 (by simp only[go_sem,JaX,simprocAttr,Jg,Jj,f0,f3,hlt,hc,hwr,a,b];rfl) ?_;exact ih (s.length-(i+1)) _ _ Fh ⟨i+1,(by simp only[go_sem,JaX,simprocAttr,f0]<;>rfl),(by simp only[go_sem,JaX,simprocAttr]<;>rfl),by omega,rfl,Jdy hc hok (by simp[okc,a,b]),rfl⟩
   ·by_cases z:i=0
    ·subst z;refine JaY 1000 (by simp only[go_sem,JaX,simprocAttr,Jg,Jj,f0,f3,hlt,hc,hwr,a,b];rfl) ?_;rw[bad (by simp[okc,a,b])]at h;refine JaZ ⟨_,by simp only[go_sem,JaX,simprocAttr,Jo];rfl,?_⟩;exact h
    ·by_cases d:48≤c
     ·by_cases e9:c≤57
      ·refine JaY 1000 (by simp only[go_sem,JaX,simprocAttr,Jg,Jj,f0,f3,hlt,hc,hwr,a,b,z,d,e9];rfl) ?_;exact ih (s.length-(i+1)) _ _ Fh ⟨i+1,(by simp only[go_sem,JaX,simprocAttr,f0]<;>rfl),(by simp only[go_sem,JaX,simprocAttr]<;>rfl),by omega,rfl,Jdy hc hok (by simp[okc,a,b,z,d,e9]),rfl⟩
      ·by_cases n9:c=95
       ·refine JaY 1000 (by simp only[go_sem,JaX,simprocAttr,Jg,Jj,f0,f3,hlt,hc,hwr,a,b,z,d,e9,n9];rfl) ?_;exact ih (s.length-(i+1)) _ _ Fh ⟨i+1,(by simp only[go_sem,JaX,simprocAttr,f0]<;>rfl),(by simp only[go_sem,JaX,simprocAttr]<;>rfl),by omega,rfl,Jdy hc hok (by simp[okc,a,b,z,d,e9,n9]),rfl⟩
       ·refine JaY 1000 (by simp only[go_sem,JaX,simprocAttr,Jg,Jj,f0,f3,hlt,hc,hwr,a,b,z,d,e9,n9];rfl) ?_;rw[bad (by simp[okc,a,b,z,d,e9,n9])]at h;refine JaZ ⟨_,by simp only[go_sem,JaX,simprocAttr,Jo];rfl,?_⟩;exact h
     ·have n9:c≠95:=Fh;refine JaY 1000 (by simp only[go_sem,JaX,simprocAttr,Jg,Jj,f0,f3,hlt,hc,hwr,a,b,z,d,n9];rfl) ?_;rw[bad (by simp[okc,a,b,z,d,n9])]at h;refine JaZ ⟨_,by simp only[go_sem,JaX,simprocAttr,Jo];rfl,?_⟩;exact h
  ·by_cases z:i=0
   ·subst z;refine JaY 1000 (by simp only[go_sem,JaX,simprocAttr,Jg,Jj,f0,f3,hlt,hc,hwr,a];rfl) ?_;rw[bad (by simp[okc,a])]at h;refine JaZ ⟨_,by simp only[go_sem,JaX,simprocAttr,Jo];rfl,?_⟩;exact h
   ·by_cases d:48≤c
    ·by_cases e9:c≤57
     ·refine JaY 1000 (by simp only[go_sem,JaX,simprocAttr,Jg,Jj,f0,f3,hlt,hc,hwr,a,z,d,e9];rfl) ?_;exact ih (s.length-(i+1)) _ _ Fh ⟨i+1,(by simp only[go_sem,JaX,simprocAttr,f0]<;>rfl),(by simp only[go_sem,JaX,simprocAttr]<;>rfl),by omega,rfl,Jdy hc hok (by simp[okc,a,z,d,e9]),rfl⟩
     ·by_cases n9:c=95
      ·refine JaY 1000 (by simp only[go_sem,JaX,simprocAttr,Jg,Jj,f0,f3,hlt,hc,hwr,a,z,d,e9,n9];rfl) ?_;exact ih (s.length-(i+1)) _ _ Fh ⟨i+1,(by simp only[go_sem,JaX,simprocAttr,f0]<;>rfl),(by simp only[go_sem,JaX,simprocAttr]<;>rfl),by omega,rfl,Jdy hc hok (by simp[okc,a,z,d,e9,n9]),rfl⟩
      ·refine JaY 1000 (by simp only[go_sem,JaX,simprocAttr,Jg,Jj,f0,f3,hlt,hc,hwr,a,z,d,e9,n9];rfl) ?_;rw[bad (by simp[okc,a,z,d,e9,n9])]at h;refine JaZ ⟨_,by simp only[go_sem,JaX,simprocAttr,Jo];rfl,?_⟩;exact h
    ·have n9:c≠95:=Fh;refine JaY 1000 (by simp only[go_sem,JaX,simprocAttr,Jg,Jj,f0,f3,hlt,hc,hwr,a,z,d,n9];rfl) ?_;rw[bad (by simp[okc,a,z,d,n9])]at h;refine JaZ ⟨_,by simp only[go_sem,JaX,simprocAttr,Jo];rfl,?_⟩;exact h
 ·rintro f w ⟨f0,hok,rfl⟩;cases s with
  | nil =>
   refine JaY 1000 (by simp only[go_sem,JaX,simprocAttr,f0];rfl) ?_;refine JaZ ⟨_,by simp only[go_sem,JaX,simprocAttr,Jo];rfl,?_⟩;exact h
  | cons x t =>
   refine JaY 1000 (by simp only[go_sem,JaX,simprocAttr,f0];rfl) ?_;refine JaZ ⟨_,by simp only[go_sem,JaX,simprocAttr,Jo];rfl,?_⟩;rw[show Jc5 (x::t)=decide ((x::t).length≤16)by simp[Jc5,hok]]at h;exact h
end
section
open Go.AE Delphi
variable {tab:Tab}
def tkC (t:Tk):List V:=[.int .i64 t.k,.str t.s,.int .i64 t.n]
structure TkOk (t:Tk):Prop where
 len:t.s.length≤9223372036854775807
 byt:∀c∈t.s,c<256
theorem Jb8 (aw:AW)(l:List V):∃w,aw.fresh l=w∧CB w aw.next l∧Frm (fun _=>False) aw w∧w.next=aw.next+1:=
 ⟨_,rfl,JbA aw l,Jbc aw l,rfl⟩
theorem CB.ld {w:AW}{b:Nat}{l:List V}(c:CB w b l)(o n:Nat)(r:List V)(h:Jbh n (l.drop o)=some r):w.load b o n=some r:=by rw[c.load];exact h
variable {K:V→AW→Prop}
theorem JvN (C:Codes tab){t:Tk}{aw:AW}(ht:TkOk t)(h:∀w,Frm (fun _=>False) aw w→K (.bool (Jbd t)) w):WF tab Gs [.agg (tkC t)] aw K:=by
 refine Ja7 C.XG rfl ?_;obtain⟨k,s,n⟩:=t;obtain⟨w1,e1,c1,r1,m1⟩:=Jb8 aw [.int .i64 k,.str s,.int .i64 n];have l0:=CB.ld c1 0 1 _ rfl;have l1:=CB.ld c1 1 1 _ rfl;have l2:=CB.ld c1 2 1 _ rfl;have h:=h w1 r1;by_cases k3:k=3
 ·subst k3;cases s with
  | cons x z =>
   refine JaY 1000 (by simp only[go_sem,JaX,simprocAttr,Jb,JP,Z2,tkC,e1,l0,l1,l2];rfl) ?_;refine JaZ ⟨_,by simp only[go_sem,JaX,simprocAttr,Jb];rfl,?_⟩;exact h
  | nil =>
   have hs:Jck BinOp.eql [] []=some (.bool true):=rfl;by_cases a : -2147483648≤n
   ·by_cases b:n≤2147483648
    ·rw[show Jbd ⟨3,[],n⟩=true by simp[Jbd,a,b]]at h;refine JaY 1000 (by simp only[go_sem,JaX,simprocAttr,Jb,JP,Z2,tkC,e1,l0,l1,l2,hs,a,b];rfl) ?_;refine JaZ ⟨_,by simp only[go_sem,JaX,simprocAttr,Jb];rfl,?_⟩;exact h
    ·rw[show Jbd ⟨3,[],n⟩=false by simp[Jbd,a,b]]at h;refine JaY 1000 (by simp only[go_sem,JaX,simprocAttr,Jb,JP,Z2,tkC,e1,l0,l1,l2,hs,a,b];rfl) ?_;refine JaZ ⟨_,by simp only[go_sem,JaX,simprocAttr,Jb];rfl,?_⟩;exact h
   ·rw[show Jbd ⟨3,[],n⟩=false by simp[Jbd,a]]at h;refine JaY 1000 (by simp only[go_sem,JaX,simprocAttr,Jb,JP,Z2,tkC,e1,l0,l1,l2,hs,a];rfl) ?_;refine JaZ ⟨_,by simp only[go_sem,JaX,simprocAttr,Jb];rfl,?_⟩;exact h
 ·by_cases k2:k=2
  ·subst k2;by_cases z:n=0
   ·subst z;rw[show Jbd ⟨2,s,0⟩=Jc5 s by simp[Jbd]]at h;refine JaY 1000 (by simp only[go_sem,JaX,simprocAttr,Jb,JP,Up,tkC,e1,l0,l1,l2];rfl) ?_;refine Ja0 (by simp only[go_sem,JaX,simprocAttr]) (by simp only[go_sem,JaX,simprocAttr];rfl) ?_;refine Ju8 C ht.len ht.byt ?_;refine JaY 1000 (by simp only[go_sem,JaX,simprocAttr];rfl) ?_;refine JaZ ⟨_,by simp only[go_sem,JaX,simprocAttr,Jb];rfl,?_⟩;exact h
   ·rw[show Jbd ⟨2,s,n⟩=false by simp[Jbd,z]]at h;have z':(n==0)=false:=by simpa using z
    refine JaY 1000 (by simp only[go_sem,JaX,simprocAttr,Jb,JP,Up,tkC,e1,l0,l1,l2,z'];rfl) ?_;refine JaZ ⟨_,by simp only[go_sem,JaX,simprocAttr,Jb];rfl,?_⟩;exact h
  ·rw[show Jbd ⟨k,s,n⟩=false by simp[Jbd,k3,k2]]at h;have k3':(k==3)=false:=by simpa using k3
   have k2':(k==2)=false:=by simpa using k2
   refine JaY 1000 (by simp only[go_sem,JaX,simprocAttr,Jb,JP,tkC,e1,l0,l1,l2,k3',k2'];rfl) ?_;refine JaZ ⟨_,by simp only[go_sem,JaX,simprocAttr,Jb];rfl,?_⟩;exact h
theorem Jqc (C:Codes tab){t:Tk}{aw:AW}(ht:TkOk t)(h:∀w,Frm (fun _=>False) aw w→K (.bool (Jbd t)) w):WF tab Gt [.agg (tkC t)] aw K:=by
 refine Ja7 C.XH rfl ?_;obtain⟨k,s,n⟩:=t;obtain⟨w1,e1,c1,r1,m1⟩:=Jb8 aw [.int .i64 k,.str s,.int .i64 n];have l0:=CB.ld c1 0 1 _ rfl;have l1:=CB.ld c1 1 1 _ rfl;have l2:=CB.ld c1 2 1 _ rfl;have h:=h w1 r1;by_cases k3:k=3
 ·subst k3;cases s with
  | cons x z =>
   refine JaY 1000 (by simp only[go_sem,JaX,simprocAttr,Jc,JQ,Z3,tkC,e1,l0,l1,l2];rfl) ?_;refine JaZ ⟨_,by simp only[go_sem,JaX,simprocAttr,Jc];rfl,?_⟩;exact h
  | nil =>
   have hs:Jck BinOp.eql [] []=some (.bool true):=rfl;by_cases a : -2147483648≤n
   ·by_cases b:n≤2147483648
    ·rw[show Jbd ⟨3,[],n⟩=true by simp[Jbd,a,b]]at h;refine JaY 1000 (by simp only[go_sem,JaX,simprocAttr,Jc,JQ,Z3,tkC,e1,l0,l1,l2,hs,a,b];rfl) ?_;refine JaZ ⟨_,by simp only[go_sem,JaX,simprocAttr,Jc];rfl,?_⟩;exact h
    ·rw[show Jbd ⟨3,[],n⟩=false by simp[Jbd,a,b]]at h;refine JaY 1000 (by simp only[go_sem,JaX,simprocAttr,Jc,JQ,Z3,tkC,e1,l0,l1,l2,hs,a,b];rfl) ?_;refine JaZ ⟨_,by simp only[go_sem,JaX,simprocAttr,Jc];rfl,?_⟩;exact h
   ·rw[show Jbd ⟨3,[],n⟩=false by simp[Jbd,a]]at h;refine JaY 1000 (by simp only[go_sem,JaX,simprocAttr,Jc,JQ,Z3,tkC,e1,l0,l1,l2,hs,a];rfl) ?_;refine JaZ ⟨_,by simp only[go_sem,JaX,simprocAttr,Jc];rfl,?_⟩;exact h
 ·by_cases k2:k=2
  ·subst k2;by_cases z:n=0
   ·subst z;rw[show Jbd ⟨2,s,0⟩=Jc5 s by simp[Jbd]]at h;refine JaY 1000 (by simp only[go_sem,JaX,simprocAttr,Jc,JQ,Uq,tkC,e1,l0,l1,l2];rfl) ?_;refine Ja0 (by simp only[go_sem,JaX,simprocAttr]) (by simp only[go_sem,JaX,simprocAttr];rfl) ?_;refine Jo0 C ht.len ht.byt ?_;refine JaY 1000 (by simp only[go_sem,JaX,simprocAttr];rfl) ?_;refine JaZ ⟨_,by simp only[go_sem,JaX,simprocAttr,Jc];rfl,?_⟩;exact h
   ·rw[show Jbd ⟨2,s,n⟩=false by simp[Jbd,z]]at h;have z':(n==0)=false:=by simpa using z
    refine JaY 1000 (by simp only[go_sem,JaX,simprocAttr,Jc,JQ,Uq,tkC,e1,l0,l1,l2,z'];rfl) ?_;refine JaZ ⟨_,by simp only[go_sem,JaX,simprocAttr,Jc];rfl,?_⟩;exact h
  ·rw[show Jbd ⟨k,s,n⟩=false by simp[Jbd,k3,k2]]at h;have k3':(k==3)=false:=by simpa using k3
   have k2':(k==2)=false:=by simpa using k2
   refine JaY 1000 (by simp only[go_sem,JaX,simprocAttr,Jc,JQ,tkC,e1,l0,l1,l2,k3',k2'];rfl) ?_;refine JaZ ⟨_,by simp only[go_sem,JaX,simprocAttr,Jc];rfl,?_⟩;exact h
end
section
open Go.AE Delphi
variable {tab:Tab}
def JbL (a b:Tk):Bool :=
 if a.k=3 then (if b.k=3 then decide (a.n<b.n)else true)else if b.k=3 then false else Jb2 a.s b.s
def JbW (a b:Tk):Bool:=(a.k==b.k)&&(eqL a.s b.s&&(a.n==b.n))
theorem JmB (aw:AW)(l l':List V):∃w,(aw.fresh l).fresh l'=w∧CB w aw.next l∧CB w (aw.next+1) l'∧Frm (fun _=>False) aw w∧w.next=aw.next+2:=by
 have f1:=Jbc (S:=fun _=>False) aw l;have f2:=Jbc (S:=fun _=>False) (aw.fresh l) l';have n1:(aw.fresh l).next=aw.next+1:=rfl;refine⟨_,rfl,(JbA aw l).frm f2 (fun h=>h),?_,f1.tr f2,rfl⟩;have:=JbA (aw.fresh l) l'
 rwa [n1]at this
variable {a b:Tk} {aw:AW} {K:V→AW→Prop}
theorem JoW (C:Codes tab)(h:∀w,Frm (fun _=>False) aw w→K (.bool (JbL a b)) w):WF tab VQ [.agg (tkC a),.agg (tkC b)] aw K:=by
 refine Ja7 C.Vb rfl ?_;obtain⟨k,s,n⟩:=a;obtain⟨k',s',n'⟩:=b;obtain⟨w1,e1,c1,c2,r1,m1⟩:=JmB aw [.int .i64 k,.str s,.int .i64 n] [.int .i64 k',.str s',.int .i64 n'];have l0:=CB.ld c1 0 1 _ rfl;have l1:=CB.ld c1 1 1 _ rfl;have l2:=CB.ld c1 2 1 _ rfl;have q0:=CB.ld c2 0 1 _ rfl;have q1:=CB.ld c2 1 1 _ rfl;have q2:=CB.ld c2 2 1 _ rfl;have h:=h w1 r1;have nn:∀l,(aw.fresh l).next=aw.next+1:=fun _=>rfl;by_cases h1:k=3
 ·subst h1;by_cases h2:k'=3
  ·subst h2;refine JaY 1000 (by simp only[go_sem,JaX,simprocAttr,JB,Yu,JaB,tkC,nn,e1,l0,l1,l2,q0,q1,q2];rfl) ?_;refine JaZ ⟨_,by simp only[go_sem,JaX,simprocAttr,JB];rfl,?_⟩;exact h
  ·have h2':(k'==3)=false:=by simpa using h2
   rw[show JbL ⟨3,s,n⟩ ⟨k',s',n'⟩=true by simp[JbL,h2]]at h;refine JaY 1000 (by simp only[go_sem,JaX,simprocAttr,JB,Yu,Va,tkC,nn,e1,l0,l1,l2,q0,q1,q2,h2'];rfl) ?_;refine JaZ ⟨_,by simp only[go_sem,JaX,simprocAttr,JB];rfl,?_⟩;exact h
 ·have h1':(k==3)=false:=by simpa using h1
  by_cases h2:k'=3
  ·subst h2;rw[show JbL ⟨k,s,n⟩ ⟨3,s',n'⟩=false by simp[JbL,h1]]at h;refine JaY 1000 (by simp only[go_sem,JaX,simprocAttr,JB,Yu,Va,tkC,nn,e1,l0,l1,l2,q0,q1,q2,h1'];rfl) ?_;refine JaZ ⟨_,by simp only[go_sem,JaX,simprocAttr,JB];rfl,?_⟩;exact h
  ·have h2':(k'==3)=false:=by simpa using h2
   rw[show JbL ⟨k,s,n⟩ ⟨k',s',n'⟩=Jb2 s s' by simp[JbL,h1,h2]]at h;refine JaY 1000 (by simp only[go_sem,JaX,simprocAttr,JB,Yu,Va,tkC,nn,e1,l0,l1,l2,q0,q1,q2,h1',h2',Jck];rfl) ?_;refine JaZ ⟨_,by simp only[go_sem,JaX,simprocAttr,JB];rfl,?_⟩;exact h
theorem Jj4 (C:Codes tab)(h:∀w,Frm (fun _=>False) aw w→K (.bool (JbL a b)) w):WF tab YE [.agg (tkC a),.agg (tkC b)] aw K:=by
 refine Ja7 C.X6 rfl ?_;obtain⟨k,s,n⟩:=a;obtain⟨k',s',n'⟩:=b;obtain⟨w1,e1,c1,c2,r1,m1⟩:=JmB aw [.int .i64 k,.str s,.int .i64 n] [.int .i64 k',.str s',.int .i64 n'];have l0:=CB.ld c1 0 1 _ rfl;have l1:=CB.ld c1 1 1 _ rfl;have l2:=CB.ld c1 2 1 _ rfl;have q0:=CB.ld c2 0 1 _ rfl;have q1:=CB.ld c2 1 1 _ rfl;have q2:=CB.ld c2 2 1 _ rfl;have h:=h w1 r1;have nn:∀l,(aw.fresh l).next=aw.next+1:=fun _=>rfl;by_cases h1:k=3
 ·subst h1;by_cases h2:k'=3
  ·subst h2;refine JaY 1000 (by simp only[go_sem,JaX,simprocAttr,Jy,Yh,tkC,nn,e1,l0,l1,l2,q0,q1,q2];rfl) ?_;refine JaZ ⟨_,by simp only[go_sem,JaX,simprocAttr,Jy];rfl,?_⟩;exact h
  ·have h2':(k'==3)=false:=by simpa using h2
   rw[show JbL ⟨3,s,n⟩ ⟨k',s',n'⟩=true by simp[JbL,h2]]at h;refine JaY 1000 (by simp only[go_sem,JaX,simprocAttr,Jy,Yh,tkC,nn,e1,l0,l1,l2,q0,q1,q2,h2',bne];rfl) ?_;refine JaZ ⟨_,by simp only[go_sem,JaX,simprocAttr,Jy];rfl,?_⟩;exact h
 ·have h1':(k==3)=false:=by simpa using h1
  by_cases h2:k'=3
  ·subst h2;rw[show JbL ⟨k,s,n⟩ ⟨3,s',n'⟩=false by simp[JbL,h1]]at h;refine JaY 1000 (by simp only[go_sem,JaX,simprocAttr,Jy,Yh,tkC,nn,e1,l0,l1,l2,q0,q1,q2,h1'];rfl) ?_;refine JaZ ⟨_,by simp only[go_sem,JaX,simprocAttr,Jy];rfl,?_⟩;exact h
  ·have h2':(k'==3)=false:=by simpa using h2
   rw[show JbL ⟨k,s,n⟩ ⟨k',s',n'⟩=Jb2 s s' by simp[JbL,h1,h2]]at h;refine JaY 1000 (by simp only[go_sem,JaX,simprocAttr,Jy,Yh,tkC,nn,e1,l0,l1,l2,q0,q1,q2,h1',h2',Jck];rfl) ?_;refine JaZ ⟨_,by simp only[go_sem,JaX,simprocAttr,Jy];rfl,?_⟩;exact h
theorem JtQ (C:Codes tab)(h:∀w,Frm (fun _=>False) aw w→K (.bool (JbW a b)) w):WF tab VP [.agg (tkC a),.agg (tkC b)] aw K:=by
 refine Ja7 C.W9 rfl ?_;obtain⟨k,s,n⟩:=a;obtain⟨k',s',n'⟩:=b;obtain⟨w1,e1,c1,c2,r1,m1⟩:=JmB aw [.int .i64 k,.str s,.int .i64 n] [.int .i64 k',.str s',.int .i64 n'];have l0:=CB.ld c1 0 3 _ rfl;have q0:=CB.ld c2 0 3 _ rfl;have h:=h w1 r1;have nn:∀l,(aw.fresh l).next=aw.next+1:=fun _=>rfl
 have he:JcR [.int,.str,.int] [.int .i64 k,.str s,.int .i64 n] [.int .i64 k',.str s',.int .i64 n']=some (JbW ⟨k,s,n⟩ ⟨k',s',n'⟩):=by
  simp only[JcR,JdY,JbW,if_true];cases (k==k')<;>cases eqL s s'<;>cases (n==n')<;>rfl
 refine JaY 1000 (by simp only[go_sem,JaX,simprocAttr,W0,tkC,nn,e1,l0,q0,he];rfl) ?_;refine JaZ ⟨_,by simp only[go_sem,JaX,simprocAttr,W0];rfl,?_⟩;simpa[JbT]using h
theorem JkM (C:Codes tab)(h:∀w,Frm (fun _=>False) aw w→K (.bool (JbW a b)) w):WF tab ZJ [.agg (tkC a),.agg (tkC b)] aw K:=by
 refine Ja7 C.XL rfl ?_;obtain⟨k,s,n⟩:=a;obtain⟨k',s',n'⟩:=b;obtain⟨w1,e1,c1,c2,r1,m1⟩:=JmB aw [.int .i64 k,.str s,.int .i64 n] [.int .i64 k',.str s',.int .i64 n'];have l0:=CB.ld c1 0 1 _ rfl;have l1:=CB.ld c1 1 1 _ rfl;have l2:=CB.ld c1 2 1 _ rfl;have q0:=CB.ld c2 0 1 _ rfl;have q1:=CB.ld c2 1 1 _ rfl;have q2:=CB.ld c2 2 1 _ rfl;have h:=h w1 r1;have nn:∀l,(aw.fresh l).next=aw.next+1:=fun _=>rfl;cases h1:(k==k')with
 | false =>
  rw[show JbW ⟨k,s,n⟩ ⟨k',s',n'⟩=false by simp only[JbW,h1,Bool.false_and]]at h;refine JaY 1000 (by simp only[go_sem,JaX,simprocAttr,JR,tkC,nn,e1,l0,l1,l2,q0,q1,q2,h1];rfl) ?_;refine JaZ ⟨_,by simp only[go_sem,JaX,simprocAttr,JR];rfl,?_⟩;exact h
 | true =>
  cases h2:eqL s s' with
  | false =>
   rw[show JbW ⟨k,s,n⟩ ⟨k',s',n'⟩=false by simp only[JbW,h1,h2,Bool.false_and,Bool.and_false]]at h;refine JaY 1000 (by simp only[go_sem,JaX,simprocAttr,JR,tkC,nn,e1,l0,l1,l2,q0,q1,q2,h1,Jck,h2];rfl) ?_;refine JaZ ⟨_,by simp only[go_sem,JaX,simprocAttr,JR];rfl,?_⟩;exact h
  | true =>
   rw[show JbW ⟨k,s,n⟩ ⟨k',s',n'⟩=(n==n')by simp only[JbW,h1,h2,Bool.true_and]]at h;refine JaY 1000 (by simp only[go_sem,JaX,simprocAttr,JR,tkC,nn,e1,l0,l1,l2,q0,q1,q2,h1,Jck,h2];rfl) ?_;refine JaZ ⟨_,by simp only[go_sem,JaX,simprocAttr,JR];rfl,?_⟩;exact h
def Jem (t:Tk):Tk:=⟨t.k,t.s.take 20,t.n⟩
theorem Jvy (C:Codes tab)(h:K (.str (s.take 20)) aw):WF tab ZH [.str s,.int .i64 20] aw K:=by
 refine Ja7 C.ZX rfl ?_;by_cases hl:20<s.length
 ·have hl':20≤s.length:=Fh;refine JaY 1000 (by simp only[go_sem,JaX,simprocAttr,Jt,hl,hl'];rfl) ?_;refine JaZ ⟨_,by simp only[go_sem,JaX,simprocAttr,Jt];rfl,?_⟩;exact h
 ·rw[FX Fh]at h;refine JaY 1000 (by simp only[go_sem,JaX,simprocAttr,Jt,hl];rfl) ?_;refine JaZ ⟨_,by simp only[go_sem,JaX,simprocAttr,Jt];rfl,?_⟩;exact h
theorem Juo (C:Codes tab){t:Tk}(h:∀w,Frm (fun _=>False) aw w→K (.agg (tkC (Jem t))) w):WF tab Gj [.agg (tkC t)] aw K:=by
 refine Ja7 C.Xg rfl ?_;obtain⟨k,s,n⟩:=t;obtain⟨w1,e1,c1,c2,r1,m1⟩:=JmB aw [.int .i64 k,.str s,.int .i64 n] [.int .i64 0,.str [],.int .i64 0];have l1:=CB.ld c1 1 1 _ rfl;have nn:∀l,(aw.fresh l).next=aw.next+1:=fun _=>rfl;refine JaY 1000 (by simp only[go_sem,JaX,simprocAttr,Xf,tkC,nn,e1,l1];rfl) ?_;refine Ja0 (by simp only[go_sem,JaX,simprocAttr]) (by simp only[go_sem,JaX,simprocAttr];rfl) ?_;refine Jvy C ?_;have s2:=c1.set (i:=1) (v:=.str (s.take 20)) Fj rfl;have d1:CB _ aw.next _:=Jbx (l:=[V.int .i64 k,.str (s.take 20),.int .i64 n]) c1.lt;have f2:=Jbj (w:=w1) (b:=aw.next) (l:=[V.int .i64 k,.str (s.take 20),.int .i64 n]);have d2:=c2.frm f2 Fh;have s2:w1.store aw.next 1 [.str (s.take 20)]=some (w1.put aw.next [V.int .i64 k,.str (s.take 20),.int .i64 n]):=s2;generalize w1.put aw.next [V.int .i64 k,.str (s.take 20),.int .i64 n]=w2 at *;have l3:=CB.ld d1 0 3 _ rfl;have s3:=d2.setAll (vs:=[V.int .i64 k,.str (s.take 20),.int .i64 n]) rfl rfl;have d3:CB _ (aw.next+1) _:=Jbx (l:=[V.int .i64 k,.str (s.take 20),.int .i64 n]) d2.lt;have f3:=Jbj (w:=w2) (b:=aw.next+1) (l:=[V.int .i64 k,.str (s.take 20),.int .i64 n]);generalize w2.put (aw.next+1) [V.int .i64 k,.str (s.take 20),.int .i64 n]=w3 at *;have l4:=CB.ld d3 0 3 _ rfl;refine JaY 1000 (by simp only[go_sem,JaX,simprocAttr,s2,l3,s3,FC,FD];rfl) ?_;refine JaZ ⟨_,by simp only[go_sem,JaX,simprocAttr,Xf,l4];rfl,?_⟩;exact h w3 ((r1.trans f2 (fun _ _ h=>h) (by rintro x hx rfl;omega)).trans f3 (fun _ _ h=>h) (by rintro x hx rfl;omega))
end
section
open Go.AE Delphi
variable {tab:Tab}
end
end Go.Proofs.YtegdcbdicpfbpaaGreatDoor.Val
namespace Go.Proofs.YtegdcbdicpfbpaaGreatDoor
open Go.AE Delphi Val
variable {tab:Tab}
structure PgS (Tw:Fw) (w:AW) (bp:Nat) (ws:List Wd) (v:V) (k:Nat) (wh:Bool) (e:Nat):Prop where
 cb:CB w bp [v,.bool wh,.int .i64 (Int.ofNat e)]
 kle:k≤ws.length
 rd:(ws=[]∧v = .nilslice)∨∃b,v = .slice b (k*3) (ws.length-k) (.upTo 3)∧Rd Tw w (.slice b 0 ws.length (.upTo 3)) 3 ws.length (JeX ws)
 no:¬Tw bp
 len:ws.length≤4000
variable {Tw:Fw} {w:AW} {bp k e:Nat} {ws:List Wd} {v:V} {wh:Bool}
theorem PgS.frm {S:Fw}{w':AW}(h:PgS Tw w bp ws v k wh e)(hf:Frm S w w')(hn:¬S bp)(hd:∀x,Tw x→¬S x):PgS Tw w' bp ws v k wh e:=by
 refine⟨h.cb.frm hf hn,h.kle,?_,h.no,h.len⟩;rcases h.rd with h1|⟨b,h1,h2⟩
 ·exact .inl h1
 ·exact .inr ⟨b,h1,h2.frm hf hd⟩
theorem PgS.inv (h:PgS Tw w bp ws v k wh e):lenV v=some (ws.length-k)∧v.one=true∧v.cells=[v]∧((ws=[]∧v = .nilslice)∨∃b,v = .slice b (k*3) (ws.length-k) (.upTo 3)∧ ∀i x,ws[k+i]? = some x→w.load b (k*3+i*3) 3=some (JcZ x)):=by
 rcases h.rd with⟨rfl,rfl⟩|⟨b,rfl,h2⟩
 ·exact⟨by simp[lenV],rfl,rfl,.inl ⟨rfl,rfl⟩⟩
 ·refine⟨rfl,rfl,rfl,.inr ⟨b,rfl,fun i x hx=>?_⟩⟩;have hw:Wds Tw w bp (.slice b 0 ws.length (.upTo 3)) ws:=⟨h2,h.no,h.len⟩;rcases hw.at with⟨h1,_⟩|⟨b',o,c,h1,_,_,hat⟩
  ·cases h1
  ·cases h1;have:=(hat (k+i) x hx).2.2;rw[FV,Nat.add_mul]at this;exact this
theorem PgS.l0 (h:PgS Tw w bp ws v k wh e):w.load bp 0 1=some [v]:=CB.ld h.cb 0 1 _ rfl
theorem PgS.l1 (h:PgS Tw w bp ws v k wh e):w.load bp 1 1=some [.bool wh]:=CB.ld h.cb 1 1 _ rfl
theorem PgS.l2 (h:PgS Tw w bp ws v k wh e):w.load bp 2 1=some [.int .i64 (Int.ofNat e)]:=CB.ld h.cb 2 1 _ rfl
theorem PgS.take (h:PgS Tw w bp ws v k wh e)(hk:k<ws.length):∃b v' w',v = .slice b (k*3) (ws.length-k) (.upTo 3)∧w.sliceW 3 b (k*3) (ws.length-k) (.upTo 3) (some 1) none none=some v'∧w.store bp 0 [v']=some w'∧PgS Tw w' bp ws v' (k+1) wh e∧Frm (fun x=>x=bp) w w'∧v'.cells=[v']:=by
 rcases h.rd with⟨rfl,_⟩|⟨b,h1,h2⟩
 ·simp at hk
 have hf:=Jbj (w:=w) (b:=bp) (l:=[V.slice b ((k+1)*3) (ws.length-(k+1)) (.upTo 3),V.bool wh,.int .i64 (Int.ofNat e)]);refine⟨b,.slice b ((k+1)*3) (ws.length-(k+1)) (.upTo 3),w.put bp [.slice b ((k+1)*3) (ws.length-(k+1)) (.upTo 3),.bool wh,.int .i64 (Int.ofNat e)],h1,?_,h.cb.set (i:=0) Fj rfl,⟨Jbx h.cb.lt,hk,.inr ⟨b,rfl,h2.frm hf fun x hx he=>h.no (he▸hx)⟩,h.no,h.len⟩,hf,rfl⟩
 have e1:Jdn 3 b (k*3) (ws.length-k) (.upTo 3) (some 1) none none=some (.slice b ((k+1)*3) (ws.length-(k+1)) (.upTo 3)):=by
  simp only[Jdn,Option.getD_none,Option.getD_some];rw[if_pos ⟨FH _,by omega,trivial⟩]
  congr 2
  omega
 simp only[AW.sliceW,e1]
theorem Jwx (s g:List Nat):eqL s g=decide (s=g):=by
 by_cases hh:s=g
 ·rw[decide_eq_true hh];exact eqL_iff.2 hh
 ·rw[decide_eq_false hh];cases hc:eqL s g with
  | false=>rfl
  | true=>exact absurd (eqL_iff.1 hc) hh
section
open Go.AE Delphi Val
variable {tab:Tab}
end
section
open Go.AE Delphi Val
variable {tab:Tab}
end
section
open Go.AE Delphi Val
variable {tab:Tab}
end
section
open Go.AE Delphi Val
variable {tab:Tab}
end
section
open Go.AE Delphi Val
variable {tab:Tab}
structure SB (Tw:Fw) (a w:AW) (bp rb:Nat) (ws:List Wd) (wh:Bool) (hd:Lt) (hv:V) (body:List Lt) (k e:Nat) (v bv:V) (S T:Fw) (xss:List (List V)):Prop where
 p:PgS Tw w bp ws v k wh e
 frm:Frm (fun b=>b=bp) a w
 res:CB w a.next [.int .i64 0,.str [],.nilslice,.nilslice]
 rule:CB w rb [.int .i64 (Int.ofNat hd.kind),.str hd.name,hv,bv]
 head:Rd T w hv 3 hd.args.length (JbY hd.args)
 buf:Buf S w bv 3 body.length xss.flatten
 lits:All2 (LtC T w) body xss
 sepS:∀x,S x→a.next<x∧x<w.next∧x≠rb∧¬T x
 sepT:∀x,T x→a.next<x∧x<w.next∧x≠rb
 rbn:a.next<rb
theorem SB.step {a w':AW}{rb:Nat}{hd:Lt}{hv:V}{body:List Lt}{k' e':Nat}{v' bv:V}{S T:Fw}{xss:List (List V)}(h:SB Tw a w bp rb ws wh hd hv body k e v bv S T xss)(hb:bp<a.next)(hp:PgS Tw w' bp ws v' k' wh e')(g:Frm (fun b=>b=bp) w w'):SB Tw a w' bp rb ws wh hd hv body k' e' v' bv S T xss:=by
 have hr:=h.rbn;have n:=g.next;have nS:∀x,S x→¬x=bp:=fun x hx he=>by have:=(h.sepS x hx).1;omega
 have nT:∀x,T x→¬x=bp:=fun x hx he=>by have:=(h.sepT x hx).1;omega
 exact⟨hp,h.frm.tr g,h.res.frm g Fh,h.rule.frm g Fh,h.head.frm g nT,h.buf.frm g nS,h.lits.imp fun _ _ hl=>hl.frm g nT,fun x hx=>by obtain⟨a1,a2,a3⟩:=h.sepS x hx;exact⟨a1,by omega,a3⟩,fun x hx=>by obtain⟨a1,a2,a3⟩:=h.sepT x hx;exact⟨a1,by omega,a3⟩,hr⟩
end
section
open Go.AE Delphi Val
variable {tab:Tab}
structure SR (Tw:Fw) (a w:AW) (bp:Nat) (ws:List Wd) (wh:Bool) (rules:List Rl) (k e:Nat) (v rv:V) (S T:Fw) (xss:List (List V)):Prop where
 p:PgS Tw w bp ws v k wh e
 frm:Frm (fun b=>b=bp) a w
 buf:Buf S w rv 4 rules.length xss.flatten
 rls:All2 (RlC T w) rules xss
 sepS:∀x,S x→a.next≤x∧x<w.next∧¬T x
 sepT:∀x,T x→a.next≤x∧x<w.next
theorem SR.step {a w':AW}{rules:List Rl}{k' e':Nat}{v' rv:V}{S T:Fw}{xss:List (List V)}(h:SR Tw a w bp ws wh rules k e v rv S T xss)(hb:bp<a.next)(hp:PgS Tw w' bp ws v' k' wh e')(g:Frm (fun b=>b=bp) w w'):SR Tw a w' bp ws wh rules k' e' v' rv S T xss:=by
 have n:=g.next;have nS:∀x,S x→¬x=bp:=fun x hx he=>by have:=(h.sepS x hx).1;omega
 have nT:∀x,T x→¬x=bp:=fun x hx he=>by have:=(h.sepT x hx).1;omega
 exact⟨hp,h.frm.tr g,h.buf.frm g nS,h.rls.imp fun _ _ hl=>hl.frm g nT,fun x hx=>by obtain⟨a1,a2,a3⟩:=h.sepS x hx;exact⟨a1,by omega,a3⟩,fun x hx=>by obtain⟨a1,a2⟩:=h.sepT x hx;exact⟨a1,by omega⟩⟩
end
end Go.Proofs.YtegdcbdicpfbpaaGreatDoor
namespace Go.Proofs.YtegdcbdicpfbpaaGreatDoor.Val
open Go.AE Delphi
variable {tab:Tab}
structure St2 (aw:AW) (a b:Tk) (w:AW):Prop where
 a:CB w aw.next (tkC a)
 b:CB w (aw.next+1) (tkC b)
 frm:Frm (fun _=>False) aw w
variable {aw w:AW} {a b:Tk}
theorem St2.step {w':AW}(h:St2 aw a b w)(hf:Frm (fun _=>False) w w'):St2 aw a b w':=⟨h.a.frm hf fun h=>h,h.b.frm hf fun h=>h,h.frm.tr hf⟩
theorem St2.la (h:St2 aw a b w):w.load aw.next 0 3=some (tkC a):=CB.ld h.a 0 3 _ rfl
theorem St2.lb (h:St2 aw a b w):w.load (aw.next+1) 0 3=some (tkC b):=CB.ld h.b 0 3 _ rfl
theorem JcA (t:Tk):(tkC t).length=3:=rfl
theorem St2.set {a' b':Tk}(h:St2 aw a b w):∃w1 w2,w.store aw.next 0 (tkC a')=some w1∧w1.store (aw.next+1) 0 (tkC b')=some w2∧St2 aw a' b' w2:=by
 have s1:=h.a.setAll (vs:=tkC a') rfl rfl;have d1:CB _ aw.next _:=Jbx (l:=tkC a') h.a.lt;have f1:=Jbj (w:=w) (b:=aw.next) (l:=tkC a');have d2:=h.b.frm f1 Fh;have s2:=d2.setAll (vs:=tkC b') rfl rfl;have f2:=Jbj (w:=w.put aw.next (tkC a')) (b:=aw.next+1) (l:=tkC b');refine⟨_,_,s1,s2,d1.frm f2 Fh,Jbx d2.lt,?_⟩;refine (h.frm.trans f1 (fun _ _ h=>h) ?_).trans f2 (fun _ _ h=>h) ?_
 ·rintro x hx rfl;omega
 ·rintro x hx rfl;omega
theorem JmR:∀s:List Nat,eqL s s=true
 | []=>rfl
 | c::s=>by show (Nat.beq c c&&eqL s s)=true;rw[JmR s,Nat.beq_refl];rfl
section
open Go.AE Delphi
variable {tab:Tab}
def prT (t:Tk):List Nat:=if t.k=3 then Jc6 t.n else t.s
structure TkPr (t:Tk):Prop where
 num:t.n.natAbs≤2147483648
 len:(prT t).length≤3000000000
def JcY (l:List Tk):List V:=l.flatMap tkC
theorem JfU {T:Fw}{v:V}{l:List Tk}(h:Rd T w v 3 l.length (JcY l)){i:Nat}{t:Tk}(hi:l[i]? = some t):∃b o c,v = .slice b o l.length c∧T b∧b<w.next∧w.load b (o+i*3) 3=some (tkC t):=by
 have hlt:i<l.length:=(List.getElem?_eq_some_iff.1 hi).1;rcases h.inv with⟨_,q2,_⟩|⟨b,o,c,rfl,hB⟩
 ·omega
 ·refine⟨b,o,c,rfl,hB.own,hB.lt,?_⟩;rw[hB.load (i*3) 3 Fh];have h2:=Jer JcA (i:=i) (j:=0) (k:=3) hi Fh;rw[FV]at h2;exact congrArg some h2
end
end Go.Proofs.YtegdcbdicpfbpaaGreatDoor.Val
namespace Delphi
end Delphi
namespace Go.Proofs.YtegdcbdicpfbpaaGreatDoor
open Go.AE Delphi Val
variable {tab:Tab}
end Go.Proofs.YtegdcbdicpfbpaaGreatDoor
