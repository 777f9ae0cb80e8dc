/- A part of the proof. -/
import Derived.Test.YtegdcbdicpfbpaaGreatDoorJrR
set_option linter.unusedVariables false
set_option maxRecDepth 10000
set_option linter.unusedSimpArgs false
namespace Go.Proofs.YtegdcbdicpfbpaaGreatDoor
open Go.AE Delphi
variable {tab:Tab}
variable {M:Ps} {bd:Fx} {k:Nat}
theorem Seen.mono {k':Nat}(h:Seen M bd k)(hk:k≤k'):Seen M bd k':=fun x=>⟨(h x).1,fun c hc=>by have:=(h x).2 c hc;omega⟩
variable {a w:AW} {T So Sb:Fw} {body:List Lt} {u ov bv:V} {bw mb md:Nat} {l:List Nat} {D:List (Int×Int)}
theorem WkM.up {k':Nat}(h:WkM a w T body u bw mb md l bd ov bv So Sb M D k)(hk:k≤k'):WkM a w T body u bw mb md l bd ov bv So Sb M D k':=⟨h.frm,h.lits,h.cell,h.mB,Seen.mono h.seen hk,h.mD,h.dn,h.ord,h.bnd,h.ge,h.sepO,h.sepB⟩
theorem WkM.cnt {n:Nat}{v:List Nat}(h:WkM a w T body u bw mb md l bd ov bv So Sb M D k)(hn:n≤k): ∃w2,w.putV (.scalar .str) (.map mb) (.str v) (.int .i64 (Int.ofNat (n+1)))=some w2∧Frm (fun x=>x=mb) w w2∧w2.next=w.next∧SM w2 mb (Jb5 M v (Int.ofNat (n+1)))∧ (v∈bd→WkM a w2 T body u bw mb md l bd ov bv So Sb (Jb5 M v (Int.ofNat (n+1))) D (k+1))∧ (v∉bd→bd.length≤1000→CB w2 bw [u,.map mb,.map md,ov,bv]∧∃bv' w5 S5,(w2.fresh [.str v]).appendV 1 16 bv 1 [.str v]=some (bv',w5)∧w5.store bw 4 [bv']=some (w5.put bw [u,.map mb,.map md,ov,bv'])∧bv'.cells=[bv']∧WkM a (w5.put bw [u,.map mb,.map md,ov,bv']) T body u bw mb md l (bd++[v]) ov bv' So S5 (Jb5 M v (Int.ofNat (n+1))) D (k+1)∧ Frm (fun x=>x=mb∨x=bw∨Sb x) w (w5.put bw [u,.map mb,.map md,ov,bv'])∧∀x,S5 x→Sb x∨w.next≤x):=by
 obtain⟨g1,g2,g3,g4,g5,g6⟩:=h.ge;obtain⟨w2,p1,p2,p3,p4⟩:=h.mB.put Jci v (Int.ofNat (n+1));have hc2:=h.cell.frm p3 (by show ¬bw=mb;exact g4);have hd2:=h.mD.frm p3 (by show ¬md=mb;exact fun e=>g6 e.symm);have ho2:=h.ord.frm p3 fun x hx he=>(h.sepO x hx).2.2.2.1 he;have hbn2:=h.bnd.frm p3 fun x hx he=>(h.sepB x hx).2.2.2.1 he;have hfa:=h.frm.next;have lw:=h.cell.lt;have lmb:=h.mB.lt;have lmd:=h.mD.lt;have f02:Frm (fun _=>False) a w2:=h.frm.trans p3 (fun _ _ h=>h) (by rintro x hx rfl;omega);refine⟨w2,p1,p3,p4,p2,fun hv=>?_,fun hv hl=>?_⟩
 ·have hs:=Jj6 (out':=bd) h.seen hn (k:=v) fun x=>⟨.inl,fun h=>h.elim id fun h=>h▸hv⟩;exact⟨f02,h.lits,hc2,p2,hs,hd2,h.dn,ho2,hbn2,h.ge,fun x hx=>by have h1:=h.sepO x hx;exact⟨h1.1,by omega,h1.2.2⟩,fun x hx=>by have h1:=h.sepB x hx;exact⟨h1.1,by omega,h1.2.2⟩⟩
 ·have hs:=Jj6 (out':=bd++[v]) h.seen hn (k:=v) fun x=>by simp
  have hSb:∀b,Sb b→b<w2.next:=fun b hb=>by rw[p4];exact (h.sepB b hb).2.1
  obtain⟨bv',w5,S5,u1,u2,u3,u4⟩:=hbn2.push (news:=[V.str v]) (bytes:=16) hSb Fh rfl rfl Fh Fh;have nw:¬Sb bw:=fun hx=>(h.sepB _ hx).2.2.1 rfl;have nb:¬Sb mb:=fun hx=>(h.sepB _ hx).2.2.2.1 rfl;have nd:¬Sb md:=fun hx=>(h.sepB _ hx).2.2.2.2 rfl;have hc5:=hc2.frm u3 nw;have st:=hc5.set (i:=4) (v:=bv') Fj u2.one.1;have pf:Frm (fun x=>x=bw) w5 (w5.put bw [u,.map mb,.map md,ov,bv']):=Jbj;have nx:=u3.next
  have sS5:∀x,S5 x→a.next≤x∧x<w5.next∧x≠bw∧x≠mb∧x≠md:=by
   intro x hx;obtain⟨m1,m2⟩:=u4 x hx;rcases m2 with m2|m2
   ·have h1:=h.sepB x m2;exact⟨h1.1,m1,h1.2.2⟩
   ·exact⟨by omega,m1,by omega,by omega,by omega⟩
  refine⟨hc2,bv',w5,S5,u1,st,u2.one.2,⟨(f02.trans u3 (fun _ _ h=>h) fun x hx hs=>by have:=(h.sepB x hs).1;omega).out Fh rfl,h.lits,Jbx hc5.lt,(p2.frm u3 nb).frm pf (fun e=>g4 e.symm),hs,(hd2.frm u3 nd).frm pf (fun e=>g5 e.symm),h.dn,(ho2.frm u3 fun x hx hs=>(h.sepO x hx).2.2.2.2.2 hs).frm pf fun x hx=>(h.sepO x hx).2.2.1,?_,h.ge,fun x hx=>?_,fun x hx=>sS5 x hx⟩,?_,fun x hx=>(u4 x hx).2.imp id fun h=>by omega⟩
  ·have e:JbC (bd++[v])=JbC bd++[V.str v]:=by simp[JbC]
   rw[e,FE,Kb];exact u2.frm pf fun x hx=>(sS5 x hx).2.2.1
  ·have h1:=h.sepO x hx;refine⟨h1.1,by have:(w5.put bw [u,.map mb,.map md,ov,bv']).next=w5.next:=rfl;omega,h1.2.2.1,h1.2.2.2.1,h1.2.2.2.2.1,fun h5=>?_⟩;rcases (u4 x h5).2 with m2|m2
   ·exact h1.2.2.2.2.2 m2
   ·omega
  ·exact (p3.trans u3 (fun _ _ h=> .inl h) fun _ _ h=> .inr (.inr h)).trans pf (fun _ _ h=>h) fun _ _ h=> .inr (.inl h)
def TkI (a:AW) (T:Fw) (body:List Lt) (u:V) (bw mb md k:Nat) (l:List Nat) (bd vs:Fx) (ov vv:V) (So Sv:Fw) (D:List (Int×Int)) (q:Nat) (f:Fr) (w:AW):Prop :=
 ∃j bv Sb M,f.get 0=some (.ptr bw 0)∧f.get 40=some vv∧f.get 41=some (.int .i64 (Int.ofNat vs.length))∧f.get 42=some (.int .i64 (Int.ofNat j))∧j≤vs.length∧q=vs.length-j∧
  WkM a w T body u bw mb md l (JeH bd vs j) ov bv So Sb M D (k+j)∧Bt Sv w vv 1 vs.length (JbC vs)∧∀y,Sv y→y<w.next∧y≠bw∧y≠mb∧¬Sb y
theorem Jsq (bd vs:Fx)(j:Nat):(JeH bd vs j).length≤bd.length+j:=by
 have h1:=Km (fun v=>decide (v∉bd)) (vs.take j);have h2:(vs.take j).length≤j:=by rw[FU];omega
 simp only[JeH,FE];omega
theorem Jdy (C:Codes tab){i:Nat}{s:JbX}{K:V→AW→Prop}(hA:WkS a w T body u bw mb md s ov bv So Sb M D k)(hi:i<body.length)(hargs:∀x∈body,x.args.length≤5)(hl:s.1.length≤100)(hk:k≤1000)(hc:(Ja8 body i).kind=1∨Jfp s.2 (Ja8 body i)=(Ja8 body i).args.length)(h:∀w' ov' bv' So' Sb' M' D',WkS a w' T body u bw mb md (JcE body s i) ov' bv' So' Sb' M' D' (k+5)→K (.tuple []) w'):WF tab VM [.ptr bw 0,.int .i64 (Int.ofNat i)] w K:=by
 refine Ja7 C.Wa rfl ?_;obtain⟨t,ht⟩:∃t,body[i]? = some t:=⟨_,FB hi⟩;have hla:Ja8 body i=t:=JbN ht;have ha5:=hargs t (FI ht);rw[hla]at hc;have hinv:=hA.inv.take hi hargs;have sl:=hA.inv.len;obtain⟨w2,ov',w5,S5,D',u1,u2,u3,u4,u5,u6,hM⟩:=hA.m.take1 (i:=i) hl;have lmd:w.load bw 2 1=some [.map md]:=by rw[hA.cell.load];rfl
 have l3:(w2.fresh [.int .i64 (Int.ofNat i)]).load bw 3 1=some [ov]:=by rw[u5.load];rfl
 have l3':w2.load bw 3 1=some [ov]:=by rw[u4.load];rfl
 have el:=JbH (w:=w2) (esz:=1) (n:=1) (cs:=[V.int .i64 (Int.ofNat i)]) (c:=.known 1) Fh rfl;have hov:over [V.int .i64 0] 0 [V.int .i64 (Int.ofNat i)]=some [V.int .i64 (Int.ofNat i)]:=rfl;obtain⟨w6,hw6⟩:∃w6,w6=w5.put bw [u,.map mb,.map md,ov',bv]:=⟨_,rfl⟩;rw[←hw6]at u3 hM;have l0:w6.load bw 0 1=some [u]:=by rw[hM.cell.load];rfl
 obtain⟨b,o,c,v,rfl,_,a1,a2,hrv⟩:∃b o c v,u = .slice b o body.length c∧w6.load b (o+i*3) 3=some [.int .i64 (Int.ofNat t.kind),.str t.name,v]∧w6.load b (o+i*3) 1=some [.int .i64 (Int.ofNat t.kind)]∧w6.load b (o+i*3+2) 1=some [v]∧Rd T w6 v 3 t.args.length (JbY t.args):=by
  obtain⟨b,o,c,v,h1,_,_,h2,h4,_,h5,h3⟩:=Jfs (hM.lits.frm (fun _ _ hl=>hl.frm hM.frm fun _ _ h=>h) hM.frm fun _ _ h=>h) ht;exact⟨b,o,c,v,h1,h2,h4,h5,h3⟩
 by_cases hk1:t.kind=1
 case neg =>
  have hnil:Jgu s.2 t=[]:=Jtl (hc.resolve_left hk1);have e:JcE body s i=(s.1++[i],s.2):=by simp[JcE,hla,hnil]
  refine Fz (by simp only[go_sem,JaX,simprocAttr,ZB,UN,UM,lmd,u1,l3,l3',Ja4,Jbe,hov,el,u2,u3,u6,l0,hi,a1,hk1,FC,FD];rfl) ?_;refine JaZ ⟨_,by simp only[go_sem,JaX,simprocAttr,ZB];rfl,?_⟩;exact h w6 ov' bv S5 Sb M D' (WkM.s (by rw[e];exact hM.up Fh) hinv)
 have a1':w6.load b (o+i*3) 1=some [.int .i64 1]:=by rw[a1,hk1];rfl
 refine Fz (by simp only[go_sem,JaX,simprocAttr,ZB,UN,UM,P4,lmd,u1,l3,l3',Ja4,Jbe,hov,el,u2,u3,u6,l0,hi,a1',a2,FC,FD];rfl) ?_;refine Ja0 Ff Fe ?_;refine Jha C hrv Fh fun vv w7 Sv q1 q2 q3=>?_;have hM7:=hM.ext q2;have hvl:=JfK t.args;have hnd:=Jn3 t.args;have hnew:Jgu s.2 t=(JbZ t.args).filter fun v=>decide (v∉s.2):=Jon s.2 t;generalize JbZ t.args=vs at q1 hvl hnd hnew;have hvv:=q1.lenV;have e0:JeH s.2 vs 0=s.2:=by simp[JeH]
 refine Fz (by simp only[go_sem,JaX,simprocAttr,hvv];rfl) ?_
 refine Jba (TkI a T body (.slice b o body.length c) bw mb md k (s.1++[i]) s.2 vs ov' vv S5 Sv D') (fun f w=>∃bv Sb M,WkM a w T body (.slice b o body.length c) bw mb md (s.1++[i]) (JeH s.2 vs vs.length) ov' bv S5 Sb M D' (k+vs.length)) ?_ ?_ vs.length
  ⟨0,bv,Sb,M,Fb,Fb,Fb,Fb,by omega,rfl,by rw[e0];exact hM7,q1,fun y hy=>⟨(q3 y hy).2,fun e=>?_,fun e=>?_,fun hb=>?_⟩⟩
 ·rintro q f w ⟨j,bv,Sb,M,f0,f40,f41,f42,hj,rfl,hW,hB,hS⟩ ih exit;by_cases hlt:j<vs.length
  case neg =>
   have e:j=vs.length:=Fh;refine Ja2 1000 (by simp only[go_sem,simprocAttr,X9,f41,f42,hlt];rfl) ?_;subst e;exact exit _ _ _ ⟨bv,Sb,M,hW⟩ rfl
  obtain⟨x,hx⟩:∃x,vs[j]? = some x:=⟨_,FB hlt⟩;have hwr:IntKind.wrap .i64 (Int.ofNat j+1)=Int.ofNat (j+1):=Ja3 Fh;rcases hB.rd.inv with⟨_,q2,_⟩|⟨bx,ox,cx,rfl,hBx⟩
  ·omega
  have lx:w.load bx (ox+j) 1=some [.str x]:=hBx.cell Fh (by rw[JbC,F7,hx];rfl);have l1:w.load bw 1 1=some [.map mb]:=by rw[hW.cell.load];rfl
  obtain⟨n,hn1,hn2,hn3⟩:=JgN hW.seen x;have look:=hW.mB.look Jci (.int .i64 0) x;rw[hn3]at look;have hw1:IntKind.wrap .i64 (Int.ofNat n+1)=Int.ofNat (n+1):=Ja3 Fh;obtain⟨w8,p1,p2,p3,p4,p5,p6⟩:=hW.cnt (v:=x) hn1;have look2:=p4.look Jci (.int .i64 0) x;rw[Jbi]at look2;simp only[Jix]at look2;have hc8:=hW.cell.frm p2 (by show ¬bw=mb;exact hW.ge.2.2.2.1);have l8:w8.load bw 1 1=some [.map mb]:=by rw[hc8.load];rfl
  have bl:=Jsq s.2 vs j;have esucc:=JqJ (bd:=s.2) hx;have hmem:=Jsr (bd:=s.2) hnd hx;by_cases hin:x∈JeH s.2 vs j
  ·have hn0:¬n=0:=fun h=>hn2.1 h hin;have hne:¬n+1=1:=Fh;rw[if_pos (hmem.1 hin)]at esucc;refine Fz (by simp only[go_sem,JaX,simprocAttr,X9,UL,UK,UJ,f0,f40,f41,f42,hlt,lx,l1,look,hw1,p1,l8,look2,hne,KC,hwr];rfl) ?_;exact ih _ _ _ Fh ⟨j+1,bv,Sb,_,(by simp only[go_sem,JaX,simprocAttr,-Int.reduceOfNat,f0]<;>rfl),(by simp only[go_sem,JaX,simprocAttr,-Int.reduceOfNat,f40]<;>rfl),(by simp only[go_sem,JaX,simprocAttr,-Int.reduceOfNat,f41]<;>rfl),(by simp only[go_sem,JaX,simprocAttr,-Int.reduceOfNat]<;>rfl),by omega,rfl,by rw[esucc];exact p5 hin,hB.frm p2 fun y hy=>(hS y hy).2.2.1,fun y hy=>by have:=hS y hy;exact⟨by omega,this.2⟩⟩
  ·have hn0:n=0:=hn2.2 hin;subst hn0;rw[if_neg fun h=>hin (hmem.2 h)]at esucc;obtain⟨hc8',bv',w9,S9,r1,r2,r3,r4,r5,r6⟩:=p6 hin Fh;have l84:w8.load bw 4 1=some [bv]:=by rw[hc8.load];rfl
   have el2:=JbH (w:=w8) (esz:=1) (n:=1) (cs:=[V.str x]) (c:=.known 1) Fh rfl;have hov2:over [V.str []] 0 [V.str x]=some [V.str x]:=rfl;refine Fz (by simp only[go_sem,JaX,simprocAttr,-Int.reduceOfNat,X9,UL,UK,UJ,P3,f0,f40,f41,f42,hlt,lx,l1,look,hw1,p1,l8,look2,l84,Ja4,Jbe,hov2,el2,r1,r2,r3,KC,hwr,FC,FD];rfl) ?_;have nx:=r5.next;refine ih _ _ _ Fh ⟨j+1,bv',S9,_,(by simp only[go_sem,JaX,simprocAttr,-Int.reduceOfNat,f0]<;>rfl),(by simp only[go_sem,JaX,simprocAttr,-Int.reduceOfNat,f40]<;>rfl),(by simp only[go_sem,JaX,simprocAttr,-Int.reduceOfNat,f41]<;>rfl),(by simp only[go_sem,JaX,simprocAttr,-Int.reduceOfNat]<;>rfl),by omega,rfl,by rw[esucc];exact r4,hB.frm r5 fun y hy h=>?_,fun y hy=>?_⟩
   ·have:=hS y hy;rcases h with h|h|h
    ·exact this.2.2.1 h
    ·exact this.2.1 h
    ·exact this.2.2.2 h
   ·have h1:=hS y hy;refine⟨by omega,h1.2.1,h1.2.2.1,fun h=>?_⟩;rcases r6 y h with h|h
    ·exact h1.2.2.2 h
    ·omega
 ·rintro f w ⟨bv2,Sb2,M2,hW⟩;refine JdO ⟨_,by simp only[go_sem,JaX,simprocAttr,ZB];rfl,?_⟩;have e1:JeH s.2 vs vs.length=s.2++Jgu s.2 t:=by rw[hnew,JeH,List.take_length]
  have e:JcE body s i=(s.1++[i],JeH s.2 vs vs.length):=by simp[JcE,hla,e1]
  exact h w ov' bv2 S5 Sb2 M2 D' (WkM.s (by rw[e];exact hW.up Fh) hinv)
 ·have:=hM.cell.lt;have:=(q3 y hy).1;omega
 ·have:=hM.mB.lt;have:=(q3 y hy).1;omega
 ·have:=(hM.sepB y hb).2.1;have:=(q3 y hy).1;omega
section
open Go.AE Delphi
variable {tab:Tab}
structure MkF (f:Fr) (n2 n4 bw:Nat):Prop where
 f2:f.get 2=some (.ptr n2 0)
 f4:f.get 4=some (.ptr n4 0)
 f6:f.get 6=some (.ptr bw 0)
def MkI (a:AW) (T:Fw) (r:Rl) (u:V) (n2 n4 bw mb md:Nat) (fin:JbX) (q:Nat) (f:Fr) (w:AW):Prop :=
 ∃s ov bv So Sb M D k,MkF f n2 n4 bw∧WkS a w T r.body u bw mb md s ov bv So Sb M D k∧s.1.length≤r.body.length∧q=r.body.length-s.1.length∧JdL r.body q s=fin∧k≤5*s.1.length
def MkJ (a:AW) (T:Fw) (r:Rl) (u:V) (n2 n4 bw mb md:Nat) (fin:JbX) (f:Fr) (w:AW):Prop :=
 ∃ov bv So Sb M D k,MkF f n2 n4 bw∧WkS a w T r.body u bw mb md fin ov bv So Sb M D k
theorem JuI (C:Codes tab){r:Rl}{hv:V}{n2 n4:Nat}{fin:JbX}{q:Nat}{f:Fr}{st:List SI}{Q:Fr→AW→Prop}(hbd:RBr r)(hs:Jc0 r=true)(hn2:CB a n2 [.int .i64 (Int.ofNat r.head.kind),.str r.head.name,hv,u])(hI:MkI a T r u n2 n4 bw mb md fin q f w)(ih:∀n' f' w',n'<q→MkI a T r u n2 n4 bw mb md fin n' f' w'→WS tab (.code (.loop J8) :: .endB 0::st) f' w' Q)(out:∀s' f' w',MkJ a T r u n2 n4 bw mb md fin f' w'→JdS 0 s'=some st→WS tab (.code (.exit 0)::s') f' w' Q):WS tab (.code J8 :: .code (.loop J8) :: .endB 0::st) f w Q:=by
 obtain⟨s,ov,bv,So,Sb,M,D,k,⟨f2,f4,f6⟩,hA,hsl,rfl,hfin,hk⟩:=hI;have hlv:=Jey hA.lits;have hlo:=hA.ord.lenV;have ld3:w.load n2 3 1=some [u]:=by rw[(hn2.frm hA.frm fun h=>h).load];rfl
 have lo:w.load bw 3 1=some [ov]:=by rw[hA.cell.load];rfl
 have hbl:=hbd.body;by_cases hlt:s.1.length<r.body.length
 case neg =>
  have e:r.body.length-s.1.length=0:=Fh;rw[e]at hfin;have hfin:s=fin:=hfin;subst hfin;refine Ja2 1000 (by simp only[go_sem,simprocAttr,J8,f2,f6,ld3,lo,hlv,hlo,hlt];rfl) ?_;exact out _ _ _ ⟨ov,bv,So,Sb,M,D,k,⟨(Fg f2),(Fg f4),(Fg f6)⟩,hA⟩ rfl
 obtain⟨q,hq⟩:∃q,r.body.length-s.1.length=q+1:=⟨r.body.length-s.1.length-1,by omega⟩;rw[hq]at hfin;refine Fz (by simp only[go_sem,JaX,simprocAttr,J8,f2,f6,ld3,lo,hlv,hlo,hlt];rfl) ?_;refine Ja0 Ff Fe ?_;refine Jud C hA hbl hbd.args (Jja hs hA.inv hlt) fun i w2 hb g2=>?_;have hbf:=Jll hb;simp only[JdL,if_pos hlt,hbf]at hfin;have hcand:=of_decide_eq_true hb.1;refine Fz (by simp only[go_sem,JaX,simprocAttr,f6];rfl) ?_;refine Ja0 Ff Fe ?_;refine Jdy C (hA.ext g2) hcand.1 hbd.args Fh Fh hcand.2.2 fun w3 ov3 bv3 So3 Sb3 M3 D3 hA3=>?_;have el:(JcE r.body s i).1.length=s.1.length+1:=by simp[JcE]
 have hq2:q=r.body.length-(JcE r.body s i).1.length:=by rw[el];omega
 have hq3:(JcE r.body s i).1.length≤r.body.length:=by rw[el];omega
 refine JaY 1000 Fe ?_;exact ih q _ _ Fh ⟨JcE r.body s i,ov3,bv3,So3,Sb3,M3,D3,k+5,⟨(Fg f2),(Fg f4),(Fg f6)⟩,hA3,hq3,hq2,hfin,by omega⟩
theorem JuG (C:Codes tab){xs:List V}{r:Rl}{first:Int}{K:V→AW→Prop}(hr:RlC T a r xs)(hbd:RBr r)(h1:∀w,¬Jdq r first→Frm (fun _=>False) a w→K (.tuple [.agg [.nilslice,.nilslice],.bool false]) w)(h2:∀w ov bv So Sb,Jdq r first→Bt So w ov 1 (Jby r first).1.length (JcM (Jby r first).1)→Bt Sb w bv 1 (Jby r first).2.length (JbC (Jby r first).2)→Frm (fun _=>False) a w→(∀x,So x∨Sb x→a.next≤x∧x<w.next)→K (.tuple [.agg [ov,bv],.bool true]) w): WF tab Gw [.agg xs,.int .i64 first] a K:=by
 refine Ja7 C.XR rfl ?_;have hone:=hr.one;have hr0:=hr;obtain⟨hv,u,rfl,hh,hu⟩:=hr;have cb:=JbA a [V.int .i64 (Int.ofNat r.head.kind),.str r.head.name,hv,u];have ff:=Jbc (S:=fun _=>False) a [V.int .i64 (Int.ofNat r.head.kind),.str r.head.name,hv,u];have m1:(a.fresh [V.int .i64 (Int.ofNat r.head.kind),.str r.head.name,hv,u]).next=a.next+1:=rfl;generalize hw1:a.fresh [V.int .i64 (Int.ofNat r.head.kind),.str r.head.name,hv,u]=w1 at cb ff m1;have cb4:=JbA w1 [V.nilslice,V.nilslice];have ff4:=Jbc (S:=fun _=>False) w1 [V.nilslice,V.nilslice];have m4:(w1.fresh [V.nilslice,V.nilslice]).next=w1.next+1:=rfl;have cb1:=cb.frm ff4 fun h=>h;generalize hw4:w1.fresh [V.nilslice,V.nilslice]=w4 at cb4 ff4 m4 cb1;have ld0:w4.load a.next 0 4=some [V.int .i64 (Int.ofNat r.head.kind),.str r.head.name,hv,u]:=cb1.all rfl;have hlv:=Jey hu;have hbl:=hbd.body;refine Fz (by simp only[go_sem,JaX,simprocAttr,JD,Pw,hw1,hw4,ld0];rfl) ?_;refine Ja0 Ff Fe ?_;refine JuY C (hr0.frm (ff.tr ff4) fun _ _ h=>h) hbd.big fun w2 g2=>?_;have hf2:=(ff.tr ff4).tr g2;have cb2:=cb1.frm g2 fun h=>h;have cb42:=cb4.frm g2 fun h=>h;have ld3:w2.load a.next 3 1=some [u]:=by rw[cb2.load];rfl
 have m2:=g2.next;have hu2:RdL (LtC T) T w2 u 3 r.body:=hu.frm (fun _ _ hl=>hl.frm hf2 fun _ _ h=>h) hf2 fun _ _ h=>h;have st0:=cb42.setAll (vs:=[V.nilslice,V.nilslice]) rfl rfl;have lf:(w2.put w1.next [V.nilslice,V.nilslice]).load w1.next 0 2=some [V.nilslice,V.nilslice]:=(Jbx cb42.lt).all rfl;have ffail:Frm (fun _=>False) a (w2.put w1.next [V.nilslice,V.nilslice]):=hf2.out Fh rfl;have g5:=Jev (S:=fun _=>False) w2;have B5:SM (w2.new (.map [] 0)) w2.next ([]:Ps):=MB.new w2;have m5:(w2.new (.map [] 0)).next=w2.next+1:=rfl;generalize hw5:w2.new (.map [] 0)=w5 at g5 B5 m5;have g6:=Jev (S:=fun _=>False) w5;have B6:IM (w5.new (.map [] 0)) w5.next ([]:List (Int×Int)):=MB.new w5;have m6:(w5.new (.map [] 0)).next=w5.next+1:=rfl;generalize hw6:w5.new (.map [] 0)=w6 at g6 B6 m6;have g7:=Jbc (S:=fun _=>False) w6 [u,V.map w2.next,V.map w5.next,V.nilslice,V.nilslice];have c7:=JbA w6 [u,V.map w2.next,V.map w5.next,V.nilslice,V.nilslice];have m7:(w6.fresh [u,V.map w2.next,V.map w5.next,V.nilslice,V.nilslice]).next=w6.next+1:=rfl;generalize hw7:w6.fresh [u,V.map w2.next,V.map w5.next,V.nilslice,V.nilslice]=w7 at g7 c7 m7
 have hA0:WkS w2 w7 T r.body u w6.next w2.next w5.next ([],[]) .nilslice .nilslice (fun _=>False) (fun _=>False) [] [] 0 :=
  ⟨(g5.tr g6).tr g7,hu2,c7,(B5.frm g6 fun h=>h).frm g7 fun h=>h,fun x=>⟨by simp[Ja1],fun c hc=>by simp[Ja1]at hc⟩,B6.frm g7 fun h=>h,fun j=>by simp[Ja1],.nil,.nil,by omega,fun _ h=>h.elim,fun _ h=>h.elim,PlInv.nil _⟩
 have uc:u.cells=[u]:=by
  obtain⟨xss,hrd,_⟩:=hu;rcases hrd.inv with⟨rfl,_⟩|⟨_,_,_,rfl,_⟩<;>rfl
 have ov1:over [V.nilslice,V.nilmap,V.nilmap,V.nilslice,V.nilslice] 0 [u]=some [u,V.nilmap,V.nilmap,V.nilslice,V.nilslice]:=rfl;have ov2:over [u,V.nilmap,V.nilmap,V.nilslice,V.nilslice] 1 [V.map w2.next]=some [u,V.map w2.next,V.nilmap,V.nilslice,V.nilslice]:=rfl;have ov3:over [u,V.map w2.next,V.nilmap,V.nilslice,V.nilslice] 2 [V.map w5.next]=some [u,V.map w2.next,V.map w5.next,V.nilslice,V.nilslice]:=rfl
 have loop:∀{fr:Fr} {w:AW} {ov bv:V} {So Sb:Fw} {M:Ps} {D:List (Int×Int)} {k:Nat},Jdq r first→MkF fr a.next w1.next w6.next→WkS w2 w T r.body u w6.next w2.next w5.next (JcU r.body first) ov bv So Sb M D k→k≤5*(JcU r.body first).1.length→WS tab (.code (.loop J8) :: .endB 0::[.code Uv]) fr w fun fr' a=>∃vs,Jcv fr' a JD.results=some vs∧K (JbT vs) a:=by
  intro fr w ov bv So Sb M D k hok hF hA hk;have hsl:=JhW r.body first
  refine Jba (MkI w2 T r u a.next w1.next w6.next w2.next w5.next (Jby r first)) (MkJ w2 T r u a.next w1.next w6.next w2.next w5.next (Jby r first)) (fun q f w hI ih out=>JuI C hbd hok.1 cb2 hI ih out) ?_ (r.body.length-(JcU r.body first).1.length)
   ⟨_,ov,bv,So,Sb,M,D,k,hF,hA,?_,rfl,rfl,hk⟩
  ·rintro f w ⟨ov,bv,So,Sb,M,D,k,⟨f2,f4,f6⟩,hA⟩;have l3:w.load w6.next 3 2=some [ov,bv]:=by rw[hA.cell.load];rfl
   have c4:=cb42.frm hA.frm fun h=>h
   have hone:Jbf [ov,bv]=true:=by
    rw[JeB];intro x hx;simp at hx;rcases hx with rfl|rfl
    ·exact hA.ord.one.1
    ·exact hA.bnd.one.1
   have st:=c4.setAll (vs:=[ov,bv]) rfl hone;have ld:(w.put w1.next [ov,bv]).load w1.next 0 2=some [ov,bv]:=(Jbx c4.lt).all rfl;have pf:Frm (fun x=>x=w1.next) w (w.put w1.next [ov,bv]):=Jbj;refine Fz (by simp only[go_sem,JaX,simprocAttr,Uv,f4,f6,l3,st,FC,FD];rfl) ?_;refine JaZ ⟨_,by simp only[go_sem,JaX,simprocAttr,JD,f4,ld];rfl,?_⟩;have h1:=hf2.next;have h3:=hA.frm.next;refine h2 _ ov bv So Sb hok (hA.ord.frm pf fun x hx e=>by have:=(hA.sepO x hx).1;omega) (hA.bnd.frm pf fun x hx e=>by have:=(hA.sepB x hx).1;omega) ((hf2.tr hA.frm).out Fh rfl) ?_;have hnx:(w.put w1.next [ov,bv]).next=w.next:=rfl;rintro x (hx|hx)
   ·have:=hA.sepO x hx;exact⟨by omega,by omega⟩
   ·have:=hA.sepB x hx;exact⟨by omega,by omega⟩
  ·by_cases h0:0≤first
   ·have:=hok.2.2.1;omega
   ·simp[JcU,h0]
 cases hs:Jc0 r with
 | false =>
  have hno:¬Jdq r first:=fun h=>by have h:=h.1;rw[hs]at h;cases h
  refine Fz (by simp only[go_sem,JaX,simprocAttr,Z5,Ja4,Jbe,st0,FC,FD];rfl) ?_;refine JaZ ⟨_,by simp only[go_sem,JaX,simprocAttr,JD,lf];rfl,?_⟩;exact h1 _ hno ffail
 | true =>
  by_cases hl:first < -1
  ·have hno:¬Jdq r first:=fun h=>by have:=h.2.1;omega
   have d1:decide (first<(-1:Int))=true:=decide_eq_true hl;refine Fz (by simp only[go_sem,JaX,simprocAttr,Z5,d1,Ja4,Jbe,st0,FC,FD];rfl) ?_;refine JaZ ⟨_,by simp only[go_sem,JaX,simprocAttr,JD,lf];rfl,?_⟩;exact h1 _ hno ffail
  have d1:decide (first<(-1:Int))=false:=decide_eq_false hl;by_cases hg:first<0
  ·have e:first = -1:=Fh;subst e;have d2:decide ((-1:Int)≥Int.ofNat r.body.length)=false:=decide_eq_false (by have:Int.ofNat r.body.length=(r.body.length:Int):=rfl;omega);have hok:Jdq r (-1):=⟨hs,by omega,by omega,fun h=>by omega⟩;have e0:JcU r.body (-1)=([],[]):=rfl;refine Fz (by simp only[go_sem,JaX,simprocAttr,Uw,ld3,hlv,d2,Ja4,Jbe,uc,JeZ,ov1,ov2,ov3,hw5,hw6,hw7,FC,FD];rfl) ?_;exact loop hok ⟨Fb,Fb,Fb⟩ (e0▸hA0) Fh
  ·obtain⟨i,rfl⟩:∃i:Nat,first=Int.ofNat i:=⟨first.toNat,by have:Int.ofNat first.toNat=(first.toNat:Int):=rfl;omega⟩;have hi0:(Int.ofNat i).toNat=i:=rfl;have ei:Int.ofNat i=(i:Int):=rfl;by_cases hge:r.body.length≤i
   ·have hno:¬Jdq r (Int.ofNat i):=fun h=>by have:=h.2.2.1;omega
    refine Fz (by simp only[go_sem,JaX,simprocAttr,Z5,d1,ld3,hlv,hge,Ja4,Jbe,st0,FC,FD];rfl) ?_;refine JaZ ⟨_,by simp only[go_sem,JaX,simprocAttr,JD,lf];rfl,?_⟩;exact h1 _ hno ffail
   have hlt:i<r.body.length:=Fh;obtain⟨t,ht⟩:∃t,r.body[i]? = some t:=⟨_,FB hlt⟩;have hla:Ja8 r.body i=t:=JbN ht;obtain⟨b,o,c,v,rfl,_,_,_,a1,_,_,hrv⟩:=Jfs hu2 ht;by_cases hk:t.kind=1
   case neg =>
    have hno:¬Jdq r (Int.ofNat i):=fun h=>hk (by have:=h.2.2.2 Fh;rw[hi0,hla]at this;exact this);refine Fz (by simp only[go_sem,JaX,simprocAttr,Z5,d1,ld3,hlv,hge,hlt,a1,hk,Nat.zero_le,Ja4,Jbe,st0,FC,FD];rfl) ?_;refine JaZ ⟨_,by simp only[go_sem,JaX,simprocAttr,JD,lf];rfl,?_⟩;exact h1 _ hno ffail
   have hok:Jdq r (Int.ofNat i):=⟨hs,by omega,by omega,fun _=>by rw[hi0,hla];exact hk⟩;have e0:JcU r.body (Int.ofNat i)=JcE r.body ([],[]) i:=by rw[JcU,if_pos Fh,hi0]
   rw[hk]at a1;refine Fz (by simp only[go_sem,JaX,simprocAttr,Uw,Pv,d1,ld3,hlv,hge,hlt,a1,Nat.zero_le,Ja4,Jbe,uc,JeZ,ov1,ov2,ov3,hw5,hw6,hw7,FC,FD];rfl) ?_;refine Ja0 Ff Fe ?_;refine Jdy C hA0 hlt hbd.args Fj Fh (.inl (by rw[hla];exact hk)) fun w8 ov8 bv8 So8 Sb8 M8 D8 hA8=>?_;refine JaY 1000 Fe ?_;exact loop hok ⟨Fb,Fb,Fb⟩ (e0▸hA8) (by rw[e0];simp[JcE])
end
section
open Go.AE Delphi Val
variable {tab:Tab}
def Jej (ts:List Tk) (t:Tm):List Tk:=if t.kind=1 then ts else (idT ts (Jbb t)).2
def JcK (ts:List Tk) (l:List Tm):List Tk:=l.foldl Jej ts
def Jdh (ts:List Tk) (b:List Lt):List Tk:=b.foldl (fun ts l=>JcK ts l.args) ts
theorem JlC (ts:List Tk)(l:List Tm)(t:Tm):JcK ts (l++[t])=Jej (JcK ts l) t:=by unfold JcK;rw[List.foldl_append];rfl
theorem Jrj (ts:List Tk)(b:List Lt)(l:Lt):Jdh ts (b++[l])=JcK (Jdh ts b) l.args:=by unfold Jdh;rw[List.foldl_append];rfl
theorem Jm5 (ts:List Tk):∀(l:List Tm),(JcK ts l).length≤ts.length+l.length:=by
 intro l;induction l generalizing ts with
 | nil=>exact FH _
 | cons t l ih =>
  have h1:=ih (Jej ts t)
  have h2:(Jej ts t).length≤ts.length+1:=by
   unfold Jej;split
   ·omega
   ·exact Jk2 _ _
  have e:JcK ts (t::l)=JcK (Jej ts t) l:=rfl;rw[e,FC];omega
variable {ts:List Tk}
theorem JhA {n:Nat}:∀{b:List Lt},(∀l∈b,l.args.length≤n)→(Jdh ts b).length≤ts.length+n*b.length:=by
 intro b;induction b generalizing ts with
 | nil=>intro _;simp[Jdh]
 | cons l b ih =>
  intro h;have h1:=ih (ts:=JcK ts l.args) fun x hx=>h x (FO _ hx);have h2:=Jm5 ts l.args;have h3:=h l Fj;have e:Jdh ts (l::b)=Jdh (JcK ts l.args) b:=rfl;rw[e,FC,Nat.mul_add];omega
theorem Jk3:∀{l:List Tk} {k:Nat} {c:Tk} {v:Nat},Ja1 (Jdi k l) c=some v→k≤v
 | [],k,c,v,h=>by simp[Jdi,Ja1]at h
 | x::l,k,c,v,h=>by
  simp only[Jdi,Ja1]at h;split at h
  ·cases h;exact FH _
  ·have:=Jk3 h;omega
theorem JgI {l:List Tk}{c:Tk}(h:c∈l):1≤Jcr l c:=Jk3 (JhN h)
theorem JoS {c:Tk}(h:Jbd c=true):1≤(idT ts c).1:=by
 unfold idT;rw[if_pos h];split
 ·rename_i hm;exact JgI hm
 ·simp
structure SmF (f:Fr) (b6 tb jb:Nat):Prop where
 f1:f.get 1=some (.ptr tb 0)
 f6:f.get 6=some (.ptr b6 0)
 f15:f.get 15=some (.ptr jb 0)
abbrev SmK (K:V→AW→Prop):Fr→AW→Prop:=fun fr' aw'=>∃vs,Jcv fr' aw' Zp.results=some vs∧K (JbT vs) aw'
variable {st:List SI} {K:V→AW→Prop}
theorem Jqz (C:Codes tab){b6 tb jb i N:Nat}{O S:Fw}{tv xv:V}{args:List Tm}{f:Fr}(hT:TabW tb mb tv S ts w)(hx:Rd O w xv 3 args.length (JbY args))(hO:∀x,O x→x<w.next∧¬S x∧x≠tb∧x≠mb)(hal:args.length≤10)(hts:ts.length≤80000)(hmay:∀t∈args,t.kind≠1→TkOk (Jbb t)∧Jbd (Jbb t)=true)(hF:SmF f b6 tb jb)(f53:f.get 53=some bv)(f54:f.get 54=some (.int .i64 (Int.ofNat N)))(f55:f.get 55=some (.int .i64 (Int.ofNat i)))(f60:f.get 60=some xv)(f61:f.get 61=some (.int .i64 (Int.ofNat args.length)))(f62:f.get 62=some (.int .i64 (Int.ofNat 0)))(h:∀f' w' tv' S',SmF f' b6 tb jb→f'.get 53=some bv→f'.get 54=some (.int .i64 (Int.ofNat N))→f'.get 55=some (.int .i64 (Int.ofNat i))→TabW tb mb tv' S' (JcK ts args) w'→Frm (fun x=>S x∨x=tb∨x=mb) w w'→(∀x,S' x→S x∨w.next≤x)→WS tab st f' w' (SmK K)): WS tab (.code (.loop ZZ) :: .endB 2::st) f w (SmK K):=by
 refine Jba (fun n f w1=>∃m tv1 S1,SmF f b6 tb jb∧f.get 53=some bv∧f.get 54=some (.int .i64 (Int.ofNat N))∧f.get 55=some (.int .i64 (Int.ofNat i))∧f.get 60=some xv∧f.get 61=some (.int .i64 (Int.ofNat args.length))∧f.get 62=some (.int .i64 (Int.ofNat m))∧TabW tb mb tv1 S1 (JcK ts (args.take m)) w1∧Frm (fun x=>S x∨x=tb∨x=mb) w w1∧(∀x,S1 x→S x∨w.next≤x)∧m≤args.length∧n=args.length-m)
  (fun f w1=>∃tv1 S1,SmF f b6 tb jb∧f.get 53=some bv∧f.get 54=some (.int .i64 (Int.ofNat N))∧f.get 55=some (.int .i64 (Int.ofNat i))∧TabW tb mb tv1 S1 (JcK ts args) w1∧Frm (fun x=>S x∨x=tb∨x=mb) w w1∧(∀x,S1 x→S x∨w.next≤x)) ?_ ?_ args.length
  ⟨0,tv,S,hF,f53,f54,f55,f60,f61,f62,hT,Frm.refl _,fun x hx=> .inl hx,Nat.zero_le _,rfl⟩
 ·rintro n f w1 ⟨m,tv1,S1,⟨f1,f6,f15⟩,f53,f54,f55,f60,f61,f62,hT1,g,hS1,hm,rfl⟩ ih out;by_cases hlt:m<args.length
  case neg =>
   obtain rfl:m=args.length:=Fh;rw[List.take_length]at hT1;refine Ja2 1000 (by simp only[go_sem,simprocAttr,ZZ,f61,f62,hlt];rfl) ?_;exact out _ _ _ ⟨tv1,S1,⟨(Fg f1),(Fg f6),(Fg f15)⟩,(Fg f53),(Fg f54),(Fg f55),hT1,g,hS1⟩ rfl
  obtain⟨t,ht⟩:∃t,args[m]? = some t:=⟨_,FB hlt⟩
  have hOR:∀x,O x→¬(S x∨x=tb∨x=mb):=fun x hx h=>by
   obtain⟨_,h1,h2,h3⟩:=hO x hx;rcases h with h|h|h
   ·exact h1 h
   ·exact h2 h
   ·exact h3 h
  obtain⟨b,o,c,rfl,_,_,la,_⟩:=Jd5 (hx.frm g hOR) ht;obtain⟨w2,s2,c2,r2,n2⟩:=Jb1 w1 (zs:=[V.int .i64 0,V.str [],V.int .i64 0]) (vs:=tmC t) rfl rfl;have htl:(tmC t).length=3:=rfl;have k0:w2.load w1.next 0 1=some [.int .i64 (Int.ofNat t.kind)]:=CB.ld c2 0 1 _ rfl;have k3:w2.load w1.next 0 3=some (tmC t):=c2.all rfl;have hwr:IntKind.wrap .i64 (Int.ofNat m+1)=Int.ofNat (m+1):=Ja3 Fh;have hT2:=hT1.step0 r2;by_cases hk:t.kind=1
  ·rw[hk]at k0;refine Fz (by simp only[go_sem,JaX,simprocAttr,ZZ,Uj,Ui,f60,f61,f62,hlt,la,htl,s2,k0,hwr];rfl) ?_;refine ih _ _ _ Fh ⟨m+1,tv1,S1,⟨(Fg f1),(Fg f6),(Fg f15)⟩,(Fg f53),(Fg f54),(Fg f55),(Fg f60),(Fg f61),Fb,?_,g.tr r2.no,hS1,by omega,rfl⟩;rw[Jbz ht,JlC,Jej,if_pos hk];exact hT2
  ·obtain⟨hok,hmy⟩:=hmay t (FI ht) hk;have hlen:=Jm5 ts (args.take m);rw[FU]at hlen;refine Fz (by simp only[go_sem,JaX,simprocAttr,ZZ,Uj,Ui,f1,f60,f61,f62,hlt,la,htl,s2,k0,hk,k3];rfl) ?_;refine Ja0 Ff Fe ?_;rw[Jr2];refine Jky C hT2 Fh hok fun w3 tv3 S3 q1 q2 q3=>?_
   have hne:((Int.ofNat (idT (JcK ts (args.take m)) (Jbb t)).1)==0)=false:=by
    have:=JoS (ts:=JcK ts (args.take m)) hmy;cases hn:(idT (JcK ts (args.take m)) (Jbb t)).1 with
    | zero=>omega
    | succ n=>rfl
   have hne':¬(idT (JcK ts (args.take m)) (Jbb t)).1=0:=by
    have:=JoS (ts:=JcK ts (args.take m)) hmy;omega
   have n3:=g.next;refine Fz (by simp only[go_sem,JaX,simprocAttr,f62,hne,hne',hwr];rfl) ?_;refine ih _ _ _ Fh ⟨m+1,tv3,S3,⟨(Fg f1),(Fg f6),(Fg f15)⟩,(Fg f53),(Fg f54),(Fg f55),(Fg f60),(Fg f61),Fb,?_,?_,fun x hx=>?_,by omega,rfl⟩
   ·rw[Jbz ht,JlC,Jej,if_neg hk];exact q1
   ·refine (g.tr r2.no).trans q2 (fun _ _ h=>h) fun x hx h=>?_;rcases h with h|h|h
    ·rcases hS1 x h with h|h
     ·exact .inl h
     ·omega
    ·exact .inr (.inl h)
    ·exact .inr (.inr h)
   ·rcases q3 x hx with h|h
    ·exact hS1 x h
    ·right;omega
 ·rintro f w1 ⟨tv1,S1,hF,h53,h54,h55,hT1,g,hS1⟩;exact h f w1 tv1 S1 hF h53 h54 h55 hT1 g hS1
theorem JtG (C:Codes tab){b6 tb jb:Nat}{O S:Fw}{tv:V}{f:Fr}(hT:TabW tb mb tv S ts w)(hx:RdL (LtC O) O w bv 3 body)(hO:∀x,O x→x<w.next∧¬S x∧x≠tb∧x≠mb)(hbl:body.length≤100)(hal:∀l∈body,l.args.length≤10)(hts:ts.length≤70000)(hmay:∀l∈body,∀t∈l.args,t.kind≠1→TkOk (Jbb t)∧Jbd (Jbb t)=true)(hF:SmF f b6 tb jb)(f53:f.get 53=some bv)(f54:f.get 54=some (.int .i64 (Int.ofNat body.length)))(f55:f.get 55=some (.int .i64 (Int.ofNat 0)))(h:∀f' w' tv' S',SmF f' b6 tb jb→TabW tb mb tv' S' (Jdh ts body) w'→Frm (fun x=>S x∨x=tb∨x=mb) w w'→(∀x,S' x→S x∨w.next≤x)→WS tab st f' w' (SmK K)): WS tab (.code (.loop Xr) :: .endB 0::st) f w (SmK K):=by
 refine Jba (fun n f w1=>∃m tv1 S1,SmF f b6 tb jb∧f.get 53=some bv∧f.get 54=some (.int .i64 (Int.ofNat body.length))∧f.get 55=some (.int .i64 (Int.ofNat m))∧TabW tb mb tv1 S1 (Jdh ts (body.take m)) w1∧Frm (fun x=>S x∨x=tb∨x=mb) w w1∧(∀x,S1 x→S x∨w.next≤x)∧m≤body.length∧n=body.length-m)
  (fun f w1=>∃tv1 S1,SmF f b6 tb jb∧TabW tb mb tv1 S1 (Jdh ts body) w1∧Frm (fun x=>S x∨x=tb∨x=mb) w w1∧(∀x,S1 x→S x∨w.next≤x)) ?_ ?_ body.length
  ⟨0,tv,S,hF,f53,f54,f55,hT,Frm.refl _,fun x hx=> .inl hx,Nat.zero_le _,rfl⟩
 ·rintro n f w1 ⟨m,tv1,S1,⟨f1,f6,f15⟩,f53,f54,f55,hT1,g,hS1,hm,rfl⟩ ih out;by_cases hlt:m<body.length
  case neg =>
   obtain rfl:m=body.length:=Fh;rw[List.take_length]at hT1;refine Ja2 1000 (by simp only[go_sem,simprocAttr,Xr,f54,f55,hlt];rfl) ?_;exact out _ _ _ ⟨tv1,S1,⟨(Fg f1),(Fg f6),(Fg f15)⟩,hT1,g,hS1⟩ rfl
  obtain⟨l,hl⟩:∃l,body[m]? = some l:=⟨_,FB hlt⟩;have hlm:=FI hl
  have hOR:∀x,O x→¬(S x∨x=tb∨x=mb):=fun x hx h=>by
   obtain⟨_,h1,h2,h3⟩:=hO x hx;rcases h with h|h|h
   ·exact h1 h
   ·exact h2 h
   ·exact h3 h
  obtain⟨b,o,c,xs,rfl,lb,hxs⟩:=JfN (hx.frm (fun _ _ h=>h.frm g hOR) g hOR) hl;have hxl:=hxs.one;obtain⟨w2,s2,c2,r2,n2⟩:=Jb1 w1 (zs:=[V.int .i64 0,V.str [],V.nilslice]) (vs:=xs) hxl.1.symm hxl.2;obtain⟨xv,rfl,hxv⟩:=hxs;have k2:w2.load w1.next 2 1=some [xv]:=CB.ld c2 2 1 _ rfl;have hlv:=hxv.lenV;have hwr:IntKind.wrap .i64 (Int.ofNat m+1)=Int.ofNat (m+1):=Ja3 Fh
  have hlen:(Jdh ts (body.take m)).length≤ts.length+10*m:=by
   have:=JhA (ts:=ts) (n:=10) (b:=body.take m) fun l hl=>hal l (List.mem_of_mem_take hl);rw[FU,KD hm]at this;exact this
  have hxl3:[V.int .i64 (Int.ofNat l.kind),V.str l.name,xv].length=3:=rfl;have n3:=g.next
  have hO2:∀x,O x→x<w2.next∧¬S1 x∧x≠tb∧x≠mb:=fun x hx=>by
   obtain⟨h0,h1,h2,h3⟩:=hO x hx;exact⟨by omega,fun hh=>by rcases hS1 x hh with h|h;exact h1 h;omega,h2,h3⟩
  refine Fz (by simp only[go_sem,JaX,simprocAttr,Xr,H2,f53,f54,f55,hlt,lb,hxl3,s2,k2,hlv];rfl) ?_;refine Jqz C (hT1.step0 r2) (hxv.frm r2 fun _ _ h=>h) hO2 (hal l hlm) Fh (hmay l hlm) ⟨(Fg f1),(Fg f6),(Fg f15)⟩ (Fg f53) (Fg f54) (Fg f55) Fb Fb Fb fun f3 w3 tv3 S3 hF3 k53 k54 k55 q1 q2 q3=>?_;obtain⟨k1,k6,k15⟩:=hF3;refine Ja2 5 (by simp only[go_sem,JaX,simprocAttr,k55,hwr];rfl) ?_;refine ih _ _ _ Fh ⟨m+1,tv3,S3,⟨(by simp only[go_sem,JaX,simprocAttr,k1]<;>rfl),(by simp only[go_sem,JaX,simprocAttr,k6]<;>rfl),(by simp only[go_sem,JaX,simprocAttr,k15]<;>rfl)⟩,(by simp only[go_sem,JaX,simprocAttr,k53]<;>rfl),(by simp only[go_sem,JaX,simprocAttr,k54]<;>rfl),Fb,?_,?_,fun x hx=>?_,by omega,rfl⟩
  ·rw[Jbz hl,Jrj];exact q1
  ·refine (g.tr r2.no).trans q2 (fun _ _ h=>h) fun x hx h=>?_;rcases h with h|h|h
   ·rcases hS1 x h with h|h
    ·exact .inl h
    ·omega
   ·exact .inr (.inl h)
   ·exact .inr (.inr h)
  ·rcases q3 x hx with h|h
   ·exact hS1 x h
   ·right;omega
 ·rintro f w1 ⟨tv1,S1,hF,hT1,g,hS1⟩;exact h f w1 tv1 S1 hF hT1 g hS1
end
section
open Go.AE Delphi Val
variable {tab:Tab}
def Jc7 (r:Rl) (first:Int) (dq:Option (Nat×List (List Int))) (sets:List Nat→Option (Nat×List (List Int))) (most:Int):JE :=
 ⟨r.head,r.body,(Jby r first).1,(List.range ((Jby r first).1.length+1)).map (JcD r.head r.body (Jby r first).1),fun i=>if Int.ofNat i=first then dq else sets (Ja8 r.body i).name,most⟩
def JbV (r:Rl) (first:Int) (dq:Option (Nat×List (List Int))) (sets:List Nat→Option (Nat×List (List Int))) (most:Int) (ts:List Tk):JS :=
 Jce (Jc7 r first dq sets most) (Jby r first).1.length 0 [] ⟨Jdh ts r.body,[],[]⟩
structure SomeB (r:Rl) (dq:Option (Nat×List (List Int))) (sets:List Nat→Option (Nat×List (List Int))):Prop where
 bd:RBr r
 h4:r.head.args.length≤4
 bk:∀l∈r.body,l.kind≠1→l.kind≠2→3≤l.kind∧l.kind≤6∧l.args.length=2
 hc:∀t∈r.head.args,t.kind≠1→TkOk (Jbb t)
 bc:∀l∈r.body,∀t∈l.args,t.kind≠1→TkOk (Jbb t)∧Jbd (Jbb t)=true
 w4:∀nm x,sets nm=some x→x.1≤4
 rl:∀nm x,(dq=some x∨sets nm=some x)→x.2.length≤1000000∧∀r∈x.2,r.length=x.1∧∀n∈r,n.natAbs≤100000
def JpA (r:Rl):List Tk:=(r.head.args++r.body.flatMap Lt.args).map Jbb
variable {r:Rl}
theorem JmL (h:RBr r):(JpA r).length≤40:=by
 unfold JpA;rw[F9,FE];have h1:=h.head;have h2:=h.body
 have:∀(b:List Lt),(∀l∈b,l.args.length≤5)→(b.flatMap Lt.args).length≤5*b.length:=by
  intro b;induction b with
  | nil=>intro _;simp
  | cons l b ih =>
   intro hb;rw[Kz,FE,FC];have:=ih fun x hx=>hb x (FO _ hx);have:=hb l Fj;omega
 have:=this r.body h.args;omega
variable {first:Int}
theorem Jto (hbd:RBr r)(h:Jdq r first):(∀i∈(Jby r first).1,i<r.body.length)∧(Jby r first).1.length≤r.body.length:=by
 have hinv:=Jjo (body:=r.body) hbd.args (r.body.length-(JcU r.body first).1.length) _ (JkR hbd h);refine⟨hinv.lt,?_⟩;refine Jjp _ _ ?_;have:=JhW r.body first;by_cases h0:0≤first
 ·have:=h.2.2.1;omega
 ·simp[JcU,h0]
theorem Ju0 (C:Codes tab)(I:JgB tab)(P:Jhe tab){most:Int}{xs:List V}{dq:Option (Nat×List (List Int))}{sets:List Nat→Option (Nat×List (List Int))}{sty sfn tb:Nat}{sv dp tv:V}{O S:Fw}{ts:List Tk}{K:V→AW→Prop}(hb:SomeB r dq sets)(hsl:JbF [(41,Js,none)] sty=some (sfn,none))(hdv:dp.cells=[dp])(hr:RlC O w r xs)(hT:TabW tb mb tv S ts w)(hst:JiS tab O w sfn sv sets)(hd:SetQ O w dp dq)(hO:∀x,O x→x<w.next∧¬S x∧x≠tb∧x≠mb)(hts:ts.length≤60000)(hrl:Jdq r first→(JbV r first dq sets most ts).rows.length≤1000000)(h1:¬Jdq r first→∀w',Frm (fun _=>False) w w'→K .nilslice w')(h2:Jdq r first→∀v w' tv' S' cs S1 T1,TabW tb mb tv' S' (JbV r first dq sets most ts).ts w'→Frm (fun x=>S x∨x=tb∨x=mb) w w'→(∀x,S' x→S x∨w.next≤x)→Rel.ListOf w.next w' v (JbV r first dq sets most ts).rows cs S1 T1→(∀x,S1 x∨T1 x→¬S' x)→Rel.Rise (JbV r first dq sets most ts).rows∧(∀x∈(JbV r first dq sets most ts).rows,x.length=r.head.args.length)→K v w'): WF tab Gn [.agg xs,.ptr tb 0,.iface sty sv,.int .i64 first,dp,.int .i64 most] w K:=by
 refine Ja7 C.Xs rfl ?_;have hxl:=hr.one;obtain⟨w1,e1,c1,r1,m1⟩:=Jb8 w xs;have k4:w1.load w.next 0 4=some xs:=c1.all hxl.1;have hcx:V.cells (.agg xs)=xs:=rfl;refine Fz (by simp only[go_sem,JaX,simprocAttr,Zp,H8,hcx,e1,k4];rfl) ?_;refine Ja0 Ff Fe ?_;refine JuG C (hr.frm r1 fun _ _ h=>h) hb.bd (fun w2 hno g2=>?_) (fun w2 ov bv So Sb hok q1 q2 g2 q3=>?_)
 ·obtain⟨w3,s3,c3,r3,n3⟩:=Jb1 w2 (zs:=[V.nilslice,V.nilslice]) (vs:=[V.nilslice,V.nilslice]) rfl rfl;refine Fz (by simp only[go_sem,JaX,simprocAttr,s3,FC,FD,Uk,H1];rfl) ?_;refine JaZ ⟨_,by simp only[go_sem,JaX,simprocAttr,Zp];rfl,?_⟩;exact h1 hno w3 ((r1.tr g2).tr r3)
 have hone:Jbf [ov,bv]=true:=by
  rw[JeB];intro x hx;simp at hx;rcases hx with rfl|rfl
  ·exact q1.one.1
  ·exact q2.one.1
 obtain⟨w3,s3,c3,r3,n3⟩:=Jb1 w2 (zs:=[V.nilslice,V.nilslice]) (vs:=[ov,bv]) rfl hone;have g13:=g2.tr r3;have c13:=c1.frm g13 fun h=>h;have k4':w3.load w.next 0 4=some xs:=c13.all hxl.1;have l2:w3.load w2.next 0 2=some [ov,bv]:=c3.all rfl;obtain⟨hv,xb,rfl,hh,hu⟩:=hr;have k2:w3.load w.next 2 1=some [hv]:=CB.ld c13 2 1 _ rfl;have hhl:=hh.lenV;have hp1:eqV .ptr (.ptr tb 0) .nilptr=some false:=rfl;have hp2:eqV .iface (.iface sty sv) .niliface=some false:=rfl;refine Fz (by simp only[go_sem,JaX,simprocAttr,s3,FC,FD,Uk,hp1,hp2,H7];rfl) ?_;refine JbM ?_;have cm1:SM (w3.new (.map [] 0)) w3.next ([]:Vm):=MB.new w3;have fm1:Frm (fun _=>False) w3 (w3.new (.map [] 0)):=Jev w3;have nm1:(w3.new (.map [] 0)).next=w3.next+1:=rfl;generalize hw4:w3.new (.map [] 0)=w4 at cm1 fm1 nm1;have cm2:SM (w4.new (.map [] 0)) w4.next ([]:Vm):=MB.new w4;have fm2:Frm (fun _=>False) w4 (w4.new (.map [] 0)):=Jev w4;have nm2:(w4.new (.map [] 0)).next=w4.next+1:=rfl;generalize hw5:w4.new (.map [] 0)=w5 at cm2 fm2 nm2;have cm1:=cm1.frm fm2 fun h=>h;have g35:=fm1.tr fm2;have k2':w5.load w.next 2 1=some [hv]:=CB.ld (c13.frm g35 fun h=>h) 2 1 _ rfl;have hl5:([.int .i64 (Int.ofNat r.head.kind),.str r.head.name,hv,xb]:List V).length=4:=rfl;refine Jbn 100 (by simp only[go_sem,JaX,simprocAttr,k4',l2,hw4,hw5,k2',hhl];rfl) ?_;refine Jb4 Ff Fe ?_;refine Rel.new_ok C hb.h4 fun w6 hset g6 n6=>?_;have g36:=g35.tr g6;obtain⟨w7,e7,c7,r7,m7⟩:=Jb8 w6 [V.int .i64 (Int.ofNat r.head.kind),.str r.head.name,hv,xb,.ptr tb 0,.iface sty sv,ov,bv,.int .i64 first,dp,.nilslice,.map w3.next,.map w4.next,.ptr w5.next 0,.int .i64 most];have hcc1:V.cells (.agg [V.int .i64 (Int.ofNat r.head.kind),.str r.head.name,hv,xb])=[V.int .i64 (Int.ofNat r.head.kind),.str r.head.name,hv,xb]:=rfl;have hcc2:V.cells (.agg [ov,bv])=[ov,bv]:=rfl;have hcc3:V.cells (.iface sty sv)=[.iface sty sv]:=rfl;have n35:=g35.next;have k4'':w6.load w.next 0 4=some [V.int .i64 (Int.ofNat r.head.kind),.str r.head.name,hv,xb]:=(c13.frm g36 fun h=>h).all rfl;refine Jbn 100 (by simp only[go_sem,JaX,simprocAttr,Ja4,Jbe,over,hcc1,hcc2,hcc3,hdv,JeZ,FC,FD,Jbh,e7];rfl) ?_;have k4a:w4.load w.next 0 4=some [V.int .i64 (Int.ofNat r.head.kind),.str r.head.name,hv,xb]:=(c13.frm fm1 fun h=>h).all rfl;have k4b:w5.load w.next 0 4=some [V.int .i64 (Int.ofNat r.head.kind),.str r.head.name,hv,xb]:=(c13.frm g35 fun h=>h).all rfl;have l2a:w4.load w2.next 0 2=some [ov,bv]:=(c3.frm fm1 fun h=>h).all rfl;have l2b:w5.load w2.next 0 2=some [ov,bv]:=(c3.frm g35 fun h=>h).all rfl;have l2c:w6.load w2.next 0 2=some [ov,bv]:=(c3.frm g36 fun h=>h).all rfl;have k2a:w4.load w.next 2 1=some [hv]:=CB.ld (c13.frm fm1 fun h=>h) 2 1 _ rfl;refine JbO ⟨(show Jbg _ _ [(0,6),(0,7),(0,12),(3,6),(3,7),(3,12),(10,6),(10,7)]from by simp only[go_sem,JaX,simprocAttr,Jbg,chk,List.reverse_cons,List.reverse_nil,JbE,JbR,JbP,JbQ,List.getElem?_nil,false_or,or_true,or_false,exists_eq',FQ,Prod.mk.injEq,Bool.true_eq_false,FM,and_true,true_and,implies_true,k4',k4a,k4b,k4'',l2,l2a,l2b,l2c,k2,k2a,k2']),?_⟩;have g37:=g36.tr r7;have g07:Frm (fun _=>False) w w7:=((r1.tr g13).tr g37);have nn1:=r1.next;have nn13:=g13.next;have nn36:=g36.next;have n67:=r7.next;have j3:w7.load w.next 3 1=some [xb]:=CB.ld (c13.frm g37 fun h=>h) 3 1 _ rfl;have hul:=Jey hu;have hT7:=hT.step0 g07;have hO7:∀x,O x→x<w7.next∧¬S x∧x≠tb∧x≠mb:=fun x hx=>⟨FK (hO x hx).1 g07.next,(hO x hx).2⟩;have hOw:∀x,O x→x<w.next:=fun x hx=>(hO x hx).1;have hu7:RdL (LtC O) O w7 xb 3 r.body:=hu.frm (fun _ _ h=>h.frm g07 fun _ _ h=>h) g07 fun _ _ h=>h;have hh7:=hh.frm g07 fun _ _ h=>h;have hb7:=hb.bd.body;have ha5:=hb.bd.args;have hpl:=Jto hb.bd hok;have hal:∀l∈r.body,l.args.length≤10:=fun l hl=>by have:=ha5 l hl;omega
 have hSl:∀x,S x→x<w.next:=fun x hx=>(hT.s x hx).1;have htbl:=hT.a.lt;have hmbl:=hT.m.lt;refine Fz (by simp only[go_sem,JaX,simprocAttr,H6,j3,hul];rfl) ?_;refine JtG (jb:=w6.next) (b6:=w.next) (O:=O) C hT7 hu7 hO7 Fh hal Fh hb.bc ⟨Fb,Fb,Fb⟩ Fb Fb Fb fun f8 w8 tv8 S8 hF8 t8 g8 s8=>?_;obtain⟨f1,f6,f15⟩:=hF8;have n78:=g8.next
 have hR8:∀x,w.next≤x→¬(S x∨x=tb∨x=mb):=fun x hx h=>by
  rcases h with h|h|h
  ·have:=hSl x h;omega
  ·omega
  ·omega
 have hRO:∀x,O x→¬(S x∨x=tb∨x=mb):=fun x hx h=>by
  obtain⟨_,h1,h2,h3⟩:=hO x hx;rcases h with h|h|h
  ·exact h1 h
  ·exact h2 h
  ·exact h3 h
 obtain⟨cells,hcells⟩:∃c,c=[V.int .i64 (Int.ofNat r.head.kind),.str r.head.name,hv,xb,.ptr tb 0,.iface sty sv,ov,bv,.int .i64 first,dp,.nilslice,.map w3.next,.map w4.next,.ptr w5.next 0,.int .i64 most]:=⟨_,rfl⟩;rw[←hcells]at c7;have c8:=c7.frm g8 (hR8 _ Fh);have hSoN:∀x,So x→w.next≤x∧x<w3.next:=fun x hx=>by have:=q3 x (.inl hx);have:=r3.next;omega
 have q1':Bt So w8 ov 1 (Jby r first).1.length (JcM (Jby r first).1):=((q1.frm r3 fun _ _ h=>h).frm g37 fun _ _ h=>h).frm g8 fun x hx=>hR8 x (hSoN x hx).1;have hu8:RdL (LtC O) O w8 xb 3 r.body:=hu7.frm (fun _ _ h=>h.frm g8 hRO) g8 hRO;have hh8:=hh7.frm g8 hRO
 have hO1:∀x,(O x∨So x)→x<w8.next∧x≠w6.next:=fun x hx=>by
  rcases hx with hx|hx
  ·have:=hOw x hx;omega
  ·have:=hSoN x hx;omega
 refine Fz (by simp only[go_sem,JaX,simprocAttr,f15];rfl) ?_;refine Ja0 Ff Fe ?_;refine Jtj (O:=fun x=>O x∨So x) (head:=r.head) (body:=r.body) (order:=(Jby r first).1) C c8 (by rw[hcells];rfl) (by rw[hcells];rfl) (by rw[hcells];rfl) (by rw[hcells];rfl) (hh8.mono fun _ h=> .inl h) (JeV hu8 fun _ h=> .inl h) (q1'.mono fun _ h=> .inr h) hO1 hpl.1 hal (by have:=hb.bd.head;omega) Fh Fh fun w9 nv ncs R9 c9 nv1 hnv hns g9 hR9=>?_;have n89:=g9.next;have e9:cells.set 10 nv=[V.int .i64 (Int.ofNat r.head.kind),.str r.head.name,hv,xb,.ptr tb 0,.iface sty sv,ov,bv,.int .i64 first,dp,nv,.map w3.next,.map w4.next,.ptr w5.next 0,.int .i64 most]:=by rw[hcells];rfl
 have j13:w9.load w6.next 13 1=some [.ptr w5.next 0]:=CB.ld c9 13 1 _ (by rw[e9];rfl);have hp3:eqV .ptr (.ptr w5.next 0) .nilptr=some false:=rfl;have nj:∀x,x<w.next→¬x=w6.next:=fun x hx=>by omega
 have hE:JPure (Jc7 r first dq sets most) first dq sets (Jdh ts r.body) (JpA r):=by
  have hcl:=JmL hb.bd;have hil:=JhA (ts:=ts) (n:=10) hal;refine⟨fun i hi=>rfl,hb.w4,fun i x hx=>?_,hpl.1,by show (Jby r first).1.length≤100;omega,by simp[Jc7],fun l hl=>?_,by have:=hb.bd.head;show r.head.args.length≤10;omega,hal,hb.bk,by show r.body.length≤100;omega,fun t ht hk=>⟨hb.hc t ht hk,?_⟩,fun l hl t ht hk=>⟨(hb.bc l hl t ht hk).1,?_⟩,by omega⟩
  ·have hx:(if Int.ofNat i=first then dq else sets (Ja8 r.body i).name)=some x:=hx;split at hx
   ·exact hb.rl [] x (.inl hx)
   ·exact hb.rl _ x (.inr hx)
  ·simp only[Jc7,Ke,List.mem_range]at hl;obtain⟨k,_,rfl⟩:=hl;exact Kk (JmD (k:=k) hal (by have:=hb.bd.head;omega) Fh).2 Fh
  ·exact List.mem_map.2 ⟨t,List.mem_append_left _ ht,rfl⟩
  ·exact List.mem_map.2 ⟨t,List.mem_append_right _ (List.mem_flatMap.2 ⟨l,hl,ht⟩),rfl⟩
 have g79:Frm (fun x=>(S x∨x=tb∨x=mb)∨x=w6.next) w7 w9:=g8.trans g9 (fun _ _ h=> .inl h) fun _ _ h=> .inr h;have g09:Frm (fun x=>(S x∨x=tb∨x=mb)∨x=w6.next) w w9:=g07.trans g79 (fun _ _ h=>h.elim) fun _ _ h=>h;have hO9:∀x,O x→¬((S x∨x=tb∨x=mb)∨x=w6.next):=fun x hx h=>h.elim (hRO x hx) (nj x (hOw x hx));have hj9:∀x,So x→¬x=w6.next:=fun x hx=>by have:=hSoN x hx;omega
 have hlt9:∀x,(O x∨So x∨x=w6.next∨R9 x)→x<w9.next:=fun x hx=>by
  rcases hx with hx|hx|hx|hx
  ·have:=hOw x hx;omega
  ·have:=hSoN x hx;omega
  ·omega
  ·exact (hR9 x hx).2
 have hS:JStat tab (fun x=>O x∨So x∨x=w6.next∨R9 x) w9 w6.next tb w3.next w4.next (Jc7 r first dq sets most) (cells.set 10 nv) (.ptr w5.next 0) sv first dq sets sty sfn:=by
  rw[e9]at c9 ⊢;refine⟨c9,.inr (.inr (.inl rfl)),⟨_,rfl,⟨hv,rfl,(hh.frm g09 hO9).mono fun _ h=> .inl h⟩⟩,⟨xb,rfl,JeV (hu.frm (fun _ _ h=>h.frm g09 hO9) g09 hO9) fun _ h=> .inl h⟩,rfl,rfl,⟨ov,rfl,((q1'.frm g9 hj9).rd).mono fun _ h=> .inr (.inl h)⟩,rfl,⟨dp,rfl,(hd.frm g09 hO9).mono (fun _ h=> .inl h) hlt9⟩,⟨nv,ncs,rfl,?_,fun k l hl=>?_⟩,rfl,rfl,rfl,rfl,?_⟩
  ·have e:(Jc7 r first dq sets most).need.length=(Jby r first).1.length+1:=by simp[Jc7]
   rw[e];exact hnv.mono fun _ h=> .inr (.inr (.inr h))
  ·simp only[Jc7,F7]at hl;by_cases hk:k<(Jby r first).1.length+1
   ·rw[List.getElem?_range hk]at hl;have hl:=FY hl;obtain⟨sv',h4,h5⟩:=hns k Fh;rw[hl]at h5;exact⟨sv',h4,h5.mono fun _ h=> .inr (.inr (.inr h))⟩
   ·rw[List.getElem?_eq_none (by rw[List.length_range];omega)]at hl;cases hl
  ·intro R w' g' hd' nm K' hK;refine hst (fun x=>((S x∨x=tb∨x=mb)∨x=w6.next)∨R x) w' (g09.trans g' (fun _ _ h=> .inl h) fun _ _ h=> .inr h) (fun x hx h=>h.elim (hO9 x hx) (hd' x (.inl hx))) nm K' fun w2 p g2 hq=>hK w2 p g2 (hq.mono (fun _ h=> .inl h) fun x hx=>FK (hlt9 x hx) (Kk g'.next g2.next))
 have hD:Dyn (fun x=>O x∨So x∨x=w6.next∨R9 x) tb mb w4.next w3.next (.ptr w5.next 0) (Jc7 r first dq sets most).head.args.length w9 tv8 S8 (fun b=>b=w5.next) [] ⟨Jdh ts r.body,[],[]⟩:=by
  have hnew:∀x,w.next≤x→x<w7.next→¬S8 x:=fun x h1 h2 h=>by
   rcases s8 x h with h|h
   ·have:=hSl x h;omega
   ·omega
  have hn79:∀x,w.next≤x→x≠w6.next→¬((S x∨x=tb∨x=mb)∨x=w6.next):=fun x hx hn h=>h.elim (hR8 x hx) hn;have c1m:=(((cm1.frm g6 fun h=>h).frm r7 fun h=>h).frm g79 (hn79 _ Fh Fh));have c2m:=(((cm2.frm g6 fun h=>h).frm r7 fun h=>h).frm g79 (hn79 _ Fh Fh));have s6:Rel.SetOf (fun b=>b=w5.next) w9 (.ptr w5.next 0) r.head.args.length []:=(hset.frm r7 fun _ _ h=>h).frm g79 fun x hx=>by subst hx;exact hn79 _ Fh Fh
  refine⟨t8.step g9 (fun e=>by omega) (fun e=>by omega) fun x hx e=>hnew x Fh Fh hx,c2m,c1m,s6,fun x hx=>⟨fun e=>hnew x Fh Fh hx,fun e=>hnew x Fh Fh hx,fun e=>hnew x Fh Fh hx,fun ho=>?_⟩,fun x hx=>⟨by omega,by omega,by omega,by omega,fun ho=>?_,by omega⟩,⟨fun ho=>?_,fun ho=>?_,fun ho=>?_,fun ho=>?_⟩,⟨by omega,by omega,by omega,by omega,by omega⟩,hlt9⟩
  ·rcases ho with ho|ho|ho|ho
   ·rcases s8 x hx with h|h
    ·exact (hO x ho).2.1 h
    ·have:=hOw x ho;omega
   ·have:=hSoN x ho;exact hnew x Fh Fh hx
   ·exact hnew x Fh Fh hx
   ·have:=(hR9 x ho).1;have:=(t8.s x hx).1;omega
  ·rcases ho with ho|ho|ho|ho
   ·have:=hOw x ho;omega
   ·have:=hSoN x ho;omega
   ·omega
   ·have:=(hR9 x ho).1;omega
  ·rcases ho with ho|ho|ho|ho
   ·exact (hO _ ho).2.2.1 rfl
   ·have:=hSoN _ ho;omega
   ·omega
   ·have:=(hR9 _ ho).1;omega
  ·rcases ho with ho|ho|ho|ho
   ·exact (hO _ ho).2.2.2 rfl
   ·have:=hSoN _ ho;omega
   ·omega
   ·have:=(hR9 _ ho).1;omega
  ·rcases ho with ho|ho|ho|ho
   ·have:=hOw _ ho;omega
   ·have:=hSoN _ ho;omega
   ·omega
   ·have:=(hR9 _ ho).1;omega
  ·rcases ho with ho|ho|ho|ho
   ·have:=hOw _ ho;omega
   ·have:=hSoN _ ho;omega
   ·omega
   ·have:=(hR9 _ ho).1;omega
 refine Fz (by simp only[go_sem,JaX,simprocAttr,H5,f15,j13,hp3,H3];rfl) ?_;refine Ja0 Ff Fe ?_;have hM0:MOk []:=fun v=>by simp[Jbt,Ja1]
 refine JoO C I P hE hsl (Jby r first).1.length 0 (FV _) hS hD hM0 (TsIn.refl _ _) (hrl hok) fun w10 tv10 S10 So10 d10 m10=>?_;have j13':w10.load w6.next 13 1=some [.ptr w5.next 0]:=CB.ld (c9.frm m10.f (hD.dis _ (.inr (.inr (.inl rfl))))) 13 1 _ (by rw[e9];rfl);refine Fz (by simp only[go_sem,JaX,simprocAttr,H4,f15,j13'];rfl) ?_;refine Ja0 Ff Fe ?_;refine Rel.all_ok C d10.o (hrl hok) fun v w11 cs S1 T1 hL g11=>?_;refine JaY 1000 Fe ?_;refine JaZ ⟨_,by simp only[go_sem,JaX,simprocAttr,Zp];rfl,?_⟩;have n10:=m10.f.next;have n11:=g11.next;refine h2 hok v w11 tv10 S10 cs S1 T1 (d10.t.step0 g11) ?_ (fun x hx=>?_) (hL.weaken Fh) (fun x hx hs=>?_) (by obtain⟨_,_,_,_,_,_,hz⟩:=d10.o;exact⟨hz.rise,hz.wid⟩)
 ·refine ((g09.trans m10.f (fun x hx h=>?_) fun x hx h=>?_).trans g11 (fun _ _ h=>h) fun _ _ h=>h.elim)
  ·exact h.elim id fun e=>absurd e (nj x hx)
  ·rcases h with h|h|h|h|h|h
   ·rcases s8 x h with h|h
    ·exact .inl h
    ·omega
   ·omega
   ·exact .inr (.inl h)
   ·exact .inr (.inr h)
   ·omega
   ·omega
 ·rcases m10.s x hx with h|h
  ·rcases s8 x h with h|h
   ·exact .inl h
   ·right;omega
  ·right;omega
 ·have:=(d10.t.s x hs).1;rcases hx with hx|hx
  ·have:=(hL.2.2.1 x hx).1;omega
  ·have:=(hL.2.2.2 x hx).1;omega
end
section
open Go.AE Delphi Val
abbrev Nv:=List Nat→Int
def Jd4 (ts0:List Tk) (ν:Nv) (t:Tm):Int:=if t.kind=1 then ν t.name else Int.ofNat (Jcr ts0 (Jbb t))
def Jc9 (ts0:List Tk) (ν:Nv) (t:Tm):Tk:=if t.kind=1 then Jbq ts0 (ν t.name)else Jbb t
def inN (q:Option (Nat×List (List Int))) (l:List Int):Prop:=∃x,q=some x∧l∈x.2
def Jhq (ts0:List Tk) (ν:Nv) (l:Lt):Bool:=match l.args with
 | [a,b]=>JcT l.kind (Jc9 ts0 ν a) (Jc9 ts0 ν b)
 | _=>false
def Jgy (ts0:List Tk) (q:Option (Nat×List (List Int))) (l:Lt) (ν:Nv):Prop :=
 if l.kind=1 then inN q (l.args.map (Jd4 ts0 ν))else if l.kind=2 then ¬inN q (l.args.map (Jd4 ts0 ν))else Jhq ts0 ν l=true
def agr (M:Vm) (ν:Nv):Prop:=∀v n,Ja1 M v=some n→ν v=n
def Jfi (E:JE) (ts0:List Tk) (k:Nat) (M:Vm) (h:List Tk):Prop:=∃ν,agr M ν∧(∀j,k≤j→j<E.order.length→Jgy ts0 (E.sets (JcN E j)) (Jbv E j) ν)∧h=E.head.args.map (Jc9 ts0 ν)
def bvK (E:JE) (k:Nat) (v:List Nat):Prop:=∃j,j<k∧(Jbv E j).kind=1∧∃t∈(Jbv E j).args,t.kind=1∧t.name=v
structure VldM (E:JE) (ts0:List Tk) (k:Nat) (M:Vm):Prop where
 dom:∀v,(∃n,Ja1 M v=some n)↔bvK E k v
 rng:∀v n,Ja1 M v=some n→1≤n∧n≤(ts0.length:Int)
variable {v:List Nat}
theorem JfV {M:Vm}{n:Int}(h:Ja1 M v=some n):Jbt M v=n:=by unfold Jbt;rw[h];rfl
theorem JtK {M:Vm}(h:0<Jbt M v):Ja1 M v=some (Jbt M v):=by
 unfold Jbt at h ⊢;cases hg:Ja1 M v with
 | none=>rw[hg]at h;exact absurd h (by decide)
 | some n=>rfl
def mt (ν:Nv):List Tm→List Int→Prop
 | t::ts,n::ns=>(t.kind=1→ν t.name=n)∧mt ν ts ns
 | _,_=>True
theorem Jua {M:Vm}{n:Int}{ν:Nv}(hM:Ja1 M v=none):agr (Jb5 M v n) ν↔agr M ν∧ν v=n:=by
 constructor
 ·intro h;refine⟨fun u m hu=>?_,h v n (Jbi _ _ _)⟩;have hne:u≠v:=by rintro rfl;rw[hM]at hu;cases hu
  exact h u m (by rw[JbD _ _ _ _ hne];exact hu)
 ·rintro⟨h1,h2⟩ u m hu;by_cases he:u=v
  ·subst he;rw[Jbi]at hu;rw[h2];exact FY hu
  ·rw[JbD _ _ _ _ he]at hu;exact h1 u m hu
theorem Jgl (ν:Nv):∀(ts:List Tm) (ns:List Int) (M:Vm) (l2:Fx),ts.length=ns.length→ ((agr M ν∧mt ν ts ns)↔((Jbr ts ns M l2).2=true∧agr (Jbr ts ns M l2).1.1 ν))
 | [],ns,M,l2,hl=>by simp[Jbr,mt]
 | t::ts,[],M,l2,hl=>by simp at hl
 | t::ts,n::ns,M,l2,hl=>by
  have hl':ts.length=ns.length:=by simpa using hl
  unfold Jbr;simp only[mt];by_cases hk:t.kind=1
  ·rw[if_neg (by simp[hk])];cases hg:Ja1 M t.name with
   | some k =>
    simp only;by_cases hkn:k=n
    ·rw[if_pos hkn,←Jgl ν ts ns M l2 hl'];constructor
     ·rintro⟨h1,h2,h3⟩;exact⟨h1,h3⟩
     ·rintro⟨h1,h3⟩;exact⟨h1,fun _=>by rw[h1 _ _ hg,hkn],h3⟩
    ·rw[if_neg hkn];constructor
     ·rintro⟨h1,h2,_⟩;exact absurd ((h1 _ _ hg).symm.trans (h2 hk)) hkn
     ·rintro⟨h,_⟩;cases h
   | none =>
    simp only;rw[←Jgl ν ts ns _ _ hl',Jua hg];constructor
    ·rintro⟨h1,h2,h3⟩;exact⟨⟨h1,h2 hk⟩,h3⟩
    ·rintro⟨⟨h1,h2⟩,h3⟩;exact⟨h1,fun _=>h2,h3⟩
  ·rw[if_pos hk,←Jgl ν ts ns M l2 hl'];constructor
   ·rintro⟨h1,_,h3⟩;exact⟨h1,h3⟩
   ·rintro⟨h1,h3⟩;exact⟨h1,fun h=>absurd h hk,h3⟩
theorem Jhn:∀(ts:List Tm) (ns:List Int) (M:Vm) (l2:Fx),ts.length=ns.length→(Jbr ts ns M l2).2=true→ (∀v,(∃n,Ja1 (Jbr ts ns M l2).1.1 v=some n)↔((∃n,Ja1 M v=some n)∨∃t∈ts,t.kind=1∧t.name=v))∧ (∀(P:Int→Prop),(∀v n,Ja1 M v=some n→P n)→(∀n∈ns,P n)→∀v n,Ja1 (Jbr ts ns M l2).1.1 v=some n→P n)
 | [],ns,M,l2,hl,_=>⟨fun v=>by simp[Jbr],fun P h1 _ v n h=>h1 v n (by simpa[Jbr]using h)⟩
 | t::ts,[],M,l2,hl,_=>by simp at hl
 | t::ts,n::ns,M,l2,hl,hok=>by
  have hl':ts.length=ns.length:=by simpa using hl
  unfold Jbr at hok ⊢;by_cases hk:t.kind=1
  ·rw[if_neg (by simp[hk])]at hok ⊢;cases hg:Ja1 M t.name with
   | some k =>
    rw[hg]at hok;simp only at hok ⊢;by_cases hkn:k=n
    ·rw[if_pos hkn]at hok ⊢;obtain⟨h1,h2⟩:=Jhn ts ns M l2 hl' hok;refine⟨fun v=>?_,fun P p1 p2=>h2 P p1 fun m hm=>p2 m (FO _ hm)⟩;rw[h1 v];constructor
     ·rintro (h|⟨u,hu,h⟩)
      ·exact .inl h
      ·exact .inr ⟨u,FO _ hu,h⟩
     ·rintro (h|⟨u,hu,h⟩)
      ·exact .inl h
      ·rcases List.mem_cons.1 hu with rfl|hu
       ·rw[←h.2];exact .inl ⟨k,hg⟩
       ·exact .inr ⟨u,hu,h⟩
    ·rw[if_neg hkn]at hok;cases hok
   | none =>
    rw[hg]at hok;simp only at hok ⊢;obtain⟨h1,h2⟩:=Jhn ts ns (Jb5 M t.name n) _ hl' hok;refine⟨fun v=>?_,fun P p1 p2=>h2 P (fun v m hv=>?_) fun m hm=>p2 m (FO _ hm)⟩
    ·rw[h1 v];constructor
     ·rintro (⟨m,h⟩|⟨u,hu,h⟩)
      ·by_cases he:v=t.name
       ·exact .inr ⟨t,by simp,hk,he.symm⟩
       ·rw[JbD _ _ _ _ he]at h;exact .inl ⟨m,h⟩
      ·exact .inr ⟨u,FO _ hu,h⟩
     ·rintro (⟨m,h⟩|⟨u,hu,h⟩)
      ·by_cases he:v=t.name
       ·exact .inl ⟨n,by rw[he,Jbi]⟩
       ·exact .inl ⟨m,by rw[JbD _ _ _ _ he];exact h⟩
      ·rcases List.mem_cons.1 hu with rfl|hu
       ·exact .inl ⟨n,by rw[←h.2,Jbi]⟩
       ·exact .inr ⟨u,hu,h⟩
    ·by_cases he:v=t.name
     ·subst he;rw[Jbi]at hv;cases hv;exact p2 n Fj
     ·rw[JbD _ _ _ _ he]at hv;exact p1 v m hv
  ·rw[if_pos hk]at hok ⊢;obtain⟨h1,h2⟩:=Jhn ts ns M l2 hl' hok;refine⟨fun v=>?_,fun P p1 p2=>h2 P p1 fun m hm=>p2 m (FO _ hm)⟩;rw[h1 v];constructor
   ·rintro (h|⟨u,hu,h⟩)
    ·exact .inl h
    ·exact .inr ⟨u,FO _ hu,h⟩
   ·rintro (h|⟨u,hu,h⟩)
    ·exact .inl h
    ·rcases List.mem_cons.1 hu with rfl|hu
     ·exact absurd h.1 hk
     ·exact .inr ⟨u,hu,h⟩
def Jfg (ts0:List Tk) (M:Vm) (t:Tm):Int:=if t.kind=1 then Jbt M t.name else Int.ofNat (Jcr ts0 (Jbb t))
variable {ts0 x:List Tk}
theorem JrD {c:Tk}(h:c∈ts0):Jcr (ts0++x) c=Jcr ts0 c:=by
 have e:∀(l m:List Tk) (k:Nat),Jdi k (l++m)=Jdi k l++Jdi (k+l.length) m:=by
  intro l;induction l with
  | nil=>intro m k;simp[Jdi]
  | cons a l ih=>intro m k;simp only[List.cons_append,Jdi,ih,FC];congr 3;omega
 unfold Jcr;rw[e,Val.aget_app,JhN h]
theorem JvH {ts:List Tk}{c:Tk}(h:c∈ts)(hm:Jbd c=true):idT ts c=(Jcr ts c,ts):=by unfold idT;rw[if_pos hm,if_pos h]
theorem Jpf {ts0 x:List Tk}(M:Vm):∀(l:List Tm) (acc:List Int),(∀t∈l,t.kind≠1→Jbb t∈ts0∧Jbd (Jbb t)=true)→l.foldl (JcO M) (acc,ts0++x)=(acc++l.map (Jfg ts0 M),ts0++x)
 | [],acc,_=>by simp
 | t::l,acc,h=>by
  have ht:=h t Fj
  have e:JcO M (acc,ts0++x) t=(acc++[Jfg ts0 M t],ts0++x):=by
   unfold JcO Jfg;by_cases hk:t.kind=1
   ·rw[if_pos hk,if_pos hk]
   ·obtain⟨h1,h2⟩:=ht hk;rw[if_neg hk,if_neg hk];simp only;rw[JvH (List.mem_append_left _ h1) h2,JrD h1]
  rw[Ku,e,Jpf M l _ fun u hu=>h u (FO _ hu)];simp
theorem Jtx (M:Vm)(l:List Tm)(h:∀t∈l,t.kind≠1→Jbb t∈ts0∧Jbd (Jbb t)=true):Jbk M (ts0++x) l=(l.map (Jfg ts0 M),ts0++x):=by
 unfold Jbk;rw[Jpf M l [] h];simp
theorem JjI {ts0:List Tk}{M:Vm}{ν:Nv}(hM:agr M ν):∀(l:List Tm) (row:List Int),row.length=l.length→(∀t∈l,t.kind≠1→Jbb t∈ts0)→(row=l.map (Jd4 ts0 ν)↔(Rel.fitsR row (l.map (Jfg ts0 M))=true∧mt ν l row))
 | [],row,hl,_=>by
  have:row=[]:=List.length_eq_zero_iff.1 hl;subst this;simp[Rel.fitsR,mt]
 | t::l,[],hl,_=>by simp at hl
 | t::l,n::row,hl,hc=>by
  have hl':row.length=l.length:=by simpa using hl
  have ih:=JjI (ts0:=ts0) hM l row hl' fun u hu=>hc u (FO _ hu);simp only[Kv,List.cons.injEq,Rel.fitsR,mt,FT,Bool.not_eq_true',Bool.and_eq_false_iff,decide_eq_false_iff_not];rw[ih];by_cases hk:t.kind=1
  ·have e1:Jd4 ts0 ν t=ν t.name:=if_pos hk;have e2:Jfg ts0 M t=Jbt M t.name:=if_pos hk;rw[e1,e2];constructor
   ·rintro⟨rfl,h2,h3⟩;refine⟨⟨?_,h2⟩,fun _=>rfl,h3⟩;by_cases hp:0<Jbt M t.name
    ·right;have:=hM _ _ (JtK hp);rw[this];simp
    ·exact .inl hp
   ·rintro⟨⟨_,h2⟩,h3,h4⟩;exact⟨(h3 hk).symm,h2,h4⟩
  ·have e1:Jd4 ts0 ν t=Int.ofNat (Jcr ts0 (Jbb t)):=if_neg hk;have e2:Jfg ts0 M t=Int.ofNat (Jcr ts0 (Jbb t)):=if_neg hk;rw[e1,e2];have hp:=JgI (hc t Fj hk);constructor
   ·rintro⟨rfl,h2,h3⟩;exact⟨⟨.inr Fj,h2⟩,fun h=>absurd h hk,h3⟩
   ·rintro⟨⟨h1,h2⟩,_,h4⟩;refine⟨?_,h2,h4⟩;rcases h1 with h1|h1
    ·exact absurd (show (0:Int)<Int.ofNat (Jcr ts0 (Jbb t))by show (0:Int)<((Jcr ts0 (Jbb t):Nat):Int);omega) h1
    ·simpa using h1
end
section
open Go.AE Delphi Val
theorem Jhx (n:Int):32∉Jc6 n:=by
 intro h;cases n with
 | ofNat m =>
  have:=(JeS m m (FH _)).1 32 h;revert this;decide
 | negSucc m =>
  rcases List.mem_cons.1 (show (32:Nat)∈45::Jd1 (m+1)from h)with h|h
  ·cases h
  ·have:=(JeS (m+1) (m+1) (FH _)).1 32 h;revert this;decide
theorem JoN {a b:Int}(ha:a.natAbs≤2147483648)(hb:b.natAbs≤2147483648)(h:Jc6 a=Jc6 b):a=b:=by
 obtain⟨h1,h2⟩:=Jrd a ha;obtain⟨h3,h4⟩:=Jrd b hb;rw[h]at h1 h2;have e:a.natAbs=b.natAbs:=by rw[←h1,←h3]
 have s:a<0↔b<0:=by rw[←h2,←h4]
 omega
def JsV (x:List Nat):Prop:=x=[]∨∃y,x=32::y
theorem Jis:∀{a b x y:List Nat},32∉a→32∉b→JsV x→JsV y→a++x=b++y→a=b∧x=y
 | [],[],x,y,_,_,_,_,h=>⟨rfl,h⟩
 | [],c::b,x,y,_,hb,hx,_,h=>by
  rcases hx with rfl|⟨x',rfl⟩
  ·simp at h
  ·have h:32::x'=c::(b++y):=h;injection h with h1 _
   exact absurd (by rw[←h1];simp) hb
 | c::a,[],x,y,ha,_,_,hy,h=>by
  rcases hy with rfl|⟨y',rfl⟩
  ·simp at h
  ·have h:c::(a++x)=32::y':=h;injection h with h1 _
   exact absurd (by rw[h1];simp) ha
 | c::a,d::b,x,y,ha,hb,hx,hy,h=>by
  have h:c::(a++x)=d::(b++y):=h;injection h with h1 h2
  obtain⟨h3,h4⟩:=Jis (fun hh=>ha (FO _ hh)) (fun hh=>hb (FO _ hh)) hx hy h2;exact⟨by rw[h1,h3],h4⟩
theorem Jga (M:Vm)(l:Fx):JsV (JcX M l):=by
 cases l with
 | nil=>exact .inl rfl
 | cons v l=>exact .inr ⟨_,rfl⟩
theorem Jjg {M M':Vm}(h1:∀v,(Jbt M v).natAbs≤100000)(h2:∀v,(Jbt M' v).natAbs≤100000):∀{l l':Fx},l=l'→JcX M l=JcX M' l'→∀v∈l,Jbt M v=Jbt M' v
 | [],_,rfl,_=>by simp
 | v::l,_,rfl,h=>by
  have h:32::(Jc6 (Jbt M v)++JcX M l)=32::(Jc6 (Jbt M' v)++JcX M' l):=h;injection h with _ h
  obtain⟨h3,h4⟩:=Jis (Jhx _) (Jhx _) (Jga M l) (Jga M' l) h;intro u hu;rcases List.mem_cons.1 hu with rfl|hu
  ·exact JoN (by have:=h1 u;omega) (by have:=h2 u;omega) h3
  ·exact Jjg h1 h2 rfl h4 u hu
variable {E:JE}
theorem JjR {k':Nat}{M M':Vm}(hk:k≤1000)(hk':k'≤1000)(h1:∀v,(Jbt M v).natAbs≤100000)(h2:∀v,(Jbt M' v).natAbs≤100000)(h:Jfc E k M=Jfc E k' M'):k=k'∧∀v∈Jff E k,Jbt M v=Jbt M' v:=by
 unfold Jfc Jfd at h;obtain⟨h3,h4⟩:=Jis (Jhx _) (Jhx _) (Jga _ _) (Jga _ _) h
 have e:k=k':=by
  have:=JoN (a:=Int.ofNat k) (b:=Int.ofNat k') (by show k≤_;omega) (by show k'≤_;omega) h3;exact Int.ofNat.inj this
 subst e;exact⟨rfl,Jjg h1 h2 rfl h4⟩
structure PlanOk (E:JE) (ts0:List Tk):Prop where
 lb:∀k,k<E.order.length→∀t∈(Jbv E k).args,t.kind≠1→Jbb t∈ts0∧Jbd (Jbb t)=true
 bound:∀k,k<E.order.length→(Jbv E k).kind≠1→∀t∈(Jbv E k).args,t.kind=1→bvK E k t.name
 hb:∀t∈E.head.args,t.kind=1→bvK E E.order.length t.name
 hm:∀t∈E.head.args,t.kind≠1→Jbd (Jbb t)=true
 rl:∀k,k<E.order.length→∀x,E.sets (JcN E k)=some x→∀r∈x.2,r.length=x.1∧∀n∈r,1≤n∧n≤(ts0.length:Int)
 nd:∀k,k≤E.order.length→∀v,v∈Jff E k↔((∃t∈E.head.args,t.kind=1∧t.name=v)∨∃j,k≤j∧j<E.order.length∧∃t∈(Jbv E j).args,t.kind=1∧t.name=v)
 l2:∀k,k<E.order.length→(Jbv E k).kind≠1→(Jbv E k).kind≠2→(Jbv E k).args.length=2
 ol:E.order.length≤100
 tl:ts0.length≤90000
def Jef (s:JS):List (List Tk):=s.rows.map fun r=>r.map (Jbq s.ts)
structure JInv (ts0:List Tk) (s:JS):Prop where
 ts:∃x,s.ts=ts0++x
 rng:∀r∈s.rows,∀n∈r,1≤n∧n≤(s.ts.length:Int)
def dnJ (E:JE) (s:JS):Bool:=Jek E.most s.rows.length
def Jfy (E:JE) (ts0:List Tk) (K:Nat) (s:JS):Prop:=∀k M,K≤k→k≤E.order.length→VldM E ts0 k M→0<Jbt s.seen (Jfc E k M)→∀h,Jfi E ts0 k M h→h∈Jef s
structure PostJ (E:JE) (ts0:List Tk) (K:Nat) (R:List Tk→Prop) (s s':JS):Prop where
 inv:JInv ts0 s'
 mono:∀h∈Jef s,h∈Jef s'
 snd:∀h∈Jef s',h∈Jef s∨R h
 cmp:dnJ E s'=false→∀h,R h→h∈Jef s'
 comp:dnJ E s'=false→Jfy E ts0 K s'
 seen:∀key,0<Jbt s'.seen key→0<Jbt s.seen key∨∃k M,K≤k∧k≤E.order.length∧VldM E ts0 k M∧key=Jfc E k M
 smono:∀key,0<Jbt s.seen key→0<Jbt s'.seen key
 dmono:dnJ E s=true→dnJ E s'=true
variable {ts0:List Tk} {K:Nat} {R:List Tk→Prop} {s:JS}
theorem PostJ.dfalse {s':JS}(h:PostJ E ts0 K R s s')(hd:dnJ E s'=false):dnJ E s=false:=by
 cases hs:dnJ E s with
 | false=>rfl
 | true=>rw[h.dmono hs]at hd;cases hd
theorem PostJ.refl (hi:JInv ts0 s)(hc:dnJ E s=false→Jfy E ts0 K s):PostJ E ts0 K (fun _=>False) s s:=
 ⟨hi,fun _ h=>h,fun _ h=> .inl h,fun _ _ h=>h.elim,hc,fun _ h=> .inl h,fun _ h=>h,fun h=>h⟩
variable {R':List Tk→Prop}
theorem PostJ.trans {s1 s2:JS}(h:PostJ E ts0 K R s s1)(h':PostJ E ts0 K R' s1 s2):PostJ E ts0 K (fun x=>R x∨R' x) s s2 where
 inv:=h'.inv
 mono x hx:=h'.mono x (h.mono x hx)
 snd x hx:=by
  rcases h'.snd x hx with h1|h1
  ·rcases h.snd x h1 with h2|h2
   ·exact .inl h2
   ·exact .inr (.inl h2)
  ·exact .inr (.inr h1)
 cmp hd x hx:=by
  rcases hx with hx|hx
  ·exact h'.mono x (h.cmp (h'.dfalse hd) x hx)
  ·exact h'.cmp hd x hx
 comp:=h'.comp
 seen key hk:=by
  rcases h'.seen key hk with h1|h1
  ·exact h.seen key h1
  ·exact .inr h1
 smono key hk:=h'.smono key (h.smono key hk)
 dmono hd:=h'.dmono (h.dmono hd)
theorem PostJ.iff {s':JS}(h:PostJ E ts0 K R s s')(hr:∀x,R x↔R' x):PostJ E ts0 K R' s s':=
 ⟨h.inv,h.mono,fun x hx=>(h.snd x hx).imp id (hr x).1,fun hd x hx=>h.cmp hd x ((hr x).2 hx),h.comp,h.seen,h.smono,h.dmono⟩
theorem Jhb {M:Vm}(h:VldM E ts0 k M)(ht:ts0.length≤90000):∀v,(Jbt M v).natAbs≤100000:=by
 intro v;unfold Jbt;cases hg:Ja1 M v with
 | none=>simp
 | some n =>
  have:=h.rng v n hg;show n.natAbs≤100000;omega
theorem Jtu (hE:PlanOk E ts0){M M':Vm}(hk:k≤E.order.length)(h1:VldM E ts0 k M)(h2:VldM E ts0 k M')(hs:∀v∈Jff E k,Jbt M v=Jbt M' v){h:List Tk}(hr:Jfi E ts0 k M h):Jfi E ts0 k M' h:=by
 obtain⟨ν,ha,hsat,rfl⟩:=hr
 let ν':Nv:=fun v=>match Ja1 M' v with
  | some n=>n
  | none=>ν v
 have hn:∀v∈Jff E k,ν' v=ν v:=by
  intro v hv;show (match Ja1 M' v with|some n=>n|none=>ν v)=ν v;cases hg:Ja1 M' v with
  | none=>rfl
  | some n =>
   obtain⟨m,hm⟩:=(h1.dom v).2 ((h2.dom v).1 ⟨n,hg⟩);have:=hs v hv;rw[JfV hm,JfV hg]at this;rw[ha v m hm,this]
 have hnum:∀t:Tm,(t.kind=1→t.name∈Jff E k)→Jd4 ts0 ν' t=Jd4 ts0 ν t∧Jc9 ts0 ν' t=Jc9 ts0 ν t:=by
  intro t ht;unfold Jd4 Jc9;by_cases hk1:t.kind=1
  ·rw[if_pos hk1,if_pos hk1,if_pos hk1,if_pos hk1,hn _ (ht hk1)];exact⟨rfl,rfl⟩
  ·rw[if_neg hk1,if_neg hk1,if_neg hk1,if_neg hk1];exact⟨rfl,rfl⟩
 refine⟨ν',fun v n hv=>?_,fun j hj hjl=>?_,?_⟩
 ·show (match Ja1 M' v with|some n=>n|none=>ν v)=n;rw[hv]
 ·have hl:∀t∈(Jbv E j).args,Jd4 ts0 ν' t=Jd4 ts0 ν t∧Jc9 ts0 ν' t=Jc9 ts0 ν t:=fun t ht=>hnum t fun hk1=>(hE.nd k hk t.name).2 (.inr ⟨j,hj,hjl,t,ht,hk1,rfl⟩);have e1:(Jbv E j).args.map (Jd4 ts0 ν')=(Jbv E j).args.map (Jd4 ts0 ν):=List.map_congr_left fun t ht=>(hl t ht).1
  have e2:Jhq ts0 ν' (Jbv E j)=Jhq ts0 ν (Jbv E j):=by
   unfold Jhq;cases ha:(Jbv E j).args with
   | nil=>rfl
   | cons a l =>
    cases l with
    | nil=>rfl
    | cons b l =>
     cases l with
     | nil =>
      simp only;rw[(hl a (by rw[ha];simp)).2,(hl b (by rw[ha];simp)).2]
     | cons c l=>rfl
  have:=hsat j hj hjl;unfold Jgy at this ⊢;rw[e1,e2];exact this
 ·exact (List.map_congr_left fun t ht=>(hnum t fun hk1=>(hE.nd k hk t.name).2 (.inl ⟨t,ht,hk1,rfl⟩)).2).symm
variable {ts:List Tk}
theorem JdV {x:List Tk}{n:Int}(h1:1≤n)(h2:n≤(ts.length:Int)):Jbq (ts++x) n=Jbq ts n:=by
 unfold Jbq;rw[if_neg Fh,if_neg Fh,List.getD_eq_getElem?_getD,List.getD_eq_getElem?_getD,F5 Fh]
theorem JiN:∀{ts:List Tk} {c:Tk},c∈ts→Jbq ts (Int.ofNat (Jcr ts c))=c∧Jcr ts c≤ts.length:=by
 have go:∀(ts:List Tk) (k:Nat) (c:Tk) (v:Nat),Ja1 (Jdi k ts) c=some v→ts[v-k]? = some c∧v<k+ts.length:=by
  intro ts;induction ts with
  | nil=>intro k c v h;simp[Jdi,Ja1]at h
  | cons a ts ih =>
   intro k c v h;simp only[Jdi,Ja1]at h;split at h
   ·rename_i he;cases h;rw[Nat.sub_self];exact⟨by rw[he];rfl,by simp⟩
   ·obtain⟨h1,h2⟩:=ih (k+1) c v h;have hg:=Jk3 h;refine⟨?_,by simp only[FC];omega⟩;have:v-k=(v-(k+1))+1:=Fh;rw[this,Kh];exact h1
 intro ts c h;obtain⟨h1,h2⟩:=go ts 1 c _ (JhN h);have h3:=JgI h;refine⟨?_,by omega⟩;unfold Jbq;have e:¬(Int.ofNat (Jcr ts c)<1):=by show ¬(((Jcr ts c:Nat):Int)<1);omega
 rw[if_neg e,List.getD_eq_getElem?_getD];have:(Int.ofNat (Jcr ts c)).toNat=Jcr ts c:=rfl;rw[this,h1];rfl
theorem Jm4 {c:Tk}(h:Jbd c=true):∃y,(idT ts c).2=ts++y∧1≤(idT ts c).1∧(idT ts c).1≤(idT ts c).2.length∧Jbq (idT ts c).2 (Int.ofNat (idT ts c).1)=c:=by
 by_cases hm:c∈ts
 ·have e:idT ts c=(Jcr ts c,ts):=by unfold idT;rw[if_pos h,if_pos hm]
  rw[e];obtain⟨h1,h2⟩:=JiN hm;exact⟨[],by simp,JgI hm,h2,h1⟩
 ·have e:idT ts c=(ts.length+1,ts++[c]):=by unfold idT;rw[if_pos h,if_neg hm]
  rw[e];refine⟨[c],rfl,by simp,by simp,?_⟩;unfold Jbq;have e1:¬(Int.ofNat (ts.length+1)<1):=by show ¬(((ts.length+1:Nat):Int)<1);omega
  simp only;rw[if_neg e1,List.getD_eq_getElem?_getD];have:(Int.ofNat (ts.length+1)).toNat-1=ts.length:=by show ts.length+1-1=_;omega
  rw[this,F4 (FH _),Nat.sub_self];rfl
theorem JjO {ts0:List Tk}{M:Vm}{ν:Nv}(hM:agr M ν)(hr:∀v n,Ja1 M v=some n→1≤n∧n≤(ts0.length:Int)):∀(l:List Tm) (acc:List Int) (x:List Tk),(∀t∈l,t.kind=1→∃n,Ja1 M t.name=some n)→(∀t∈l,t.kind≠1→Jbd (Jbb t)=true)→(∀n∈acc,1≤n∧n≤((ts0++x).length:Int))→ ∃y,(l.foldl (JcO M) (acc,ts0++x)).2=ts0++(x++y)∧(∀n∈(l.foldl (JcO M) (acc,ts0++x)).1,1≤n∧n≤((ts0++(x++y)).length:Int))∧(l.foldl (JcO M) (acc,ts0++x)).1.map (Jbq (ts0++(x++y)))=acc.map (Jbq (ts0++x))++l.map (Jc9 ts0 ν)
 | [],acc,x,_,_,ha=>⟨[],by simp,by simpa using ha,by simp⟩
 | t::l,acc,x,hv,hc,ha=>by
  rw[Ku];have hv':∀u∈l,u.kind=1→∃n,Ja1 M u.name=some n:=fun u hu=>hv u (FO _ hu);have hc':∀u∈l,u.kind≠1→Jbd (Jbb u)=true:=fun u hu=>hc u (FO _ hu);by_cases hk:t.kind=1
  ·obtain⟨n,hn⟩:=hv t Fj hk;obtain⟨n1,n2⟩:=hr _ _ hn;have e:JcO M (acc,ts0++x) t=(acc++[n],ts0++x):=by unfold JcO;rw[if_pos hk,JfV hn]
   rw[e];have hln:((ts0++x).length:Int)=(ts0.length:Int)+(x.length:Int):=by rw[FE];omega
   obtain⟨y,h1,h2,h3⟩:=JjO hM hr l (acc++[n]) x hv' hc' (fun m hm=>by
    rcases List.mem_append.1 hm with hm|hm
    ·exact ha m hm
    ·simp at hm;subst hm;exact⟨n1,by rw[hln];omega⟩)
   refine⟨y,h1,h2,?_⟩;rw[h3,List.map_append,Kv,Kw,Kv,JdV n1 n2];have e2:Jc9 ts0 ν t=Jbq ts0 n:=by unfold Jc9;rw[if_pos hk,hM _ _ hn]
   rw[e2];simp
  ·obtain⟨z,i1,i2,i3,i4⟩:=Jm4 (ts:=ts0++x) (hc t Fj hk);have e:JcO M (acc,ts0++x) t=(acc++[Int.ofNat (idT (ts0++x) (Jbb t)).1],ts0++(x++z)):=by unfold JcO;rw[if_neg hk,i1,F6]
   rw[e];have hz:(idT (ts0++x) (Jbb t)).2=ts0++(x++z):=by rw[i1,F6]
   rw[hz]at i3 i4;have hle:((ts0++x).length:Int)≤((ts0++(x++z)).length:Int):=by simp only[FE];omega
   obtain⟨y,h1,h2,h3⟩:=JjO hM hr l (acc++[Int.ofNat (idT (ts0++x) (Jbb t)).1]) (x++z) hv' hc' (fun m hm=>by
    rcases List.mem_append.1 hm with hm|hm
    ·have:=ha m hm;exact⟨this.1,by omega⟩
    ·simp only[FJ,F3,or_false]at hm;subst hm;exact⟨by show (1:Int)≤((_:Nat):Int);omega,by show ((_:Nat):Int)≤_;omega⟩)
   refine⟨z++y,by rw[h1];simp,by simpa using h2,?_⟩;have e3:x++(z++y)=(x++z)++y:=Fj;rw[e3,h3,List.map_append,Kv,Kw,i4,Kv];have e2:Jc9 ts0 ν t=Jbb t:=if_neg hk
   have e4:acc.map (Jbq (ts0++(x++z)))=acc.map (Jbq (ts0++x)):=List.map_congr_left fun m hm=>by
    have:=ha m hm;rw[←F6];exact JdV this.1 this.2
   rw[e2,e4];simp
end
end Go.Proofs.YtegdcbdicpfbpaaGreatDoor
