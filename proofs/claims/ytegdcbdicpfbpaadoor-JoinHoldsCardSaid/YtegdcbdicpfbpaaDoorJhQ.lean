/- A part of the proof. -/
import Derived.Test.YtegdcbdicpfbpaaDoorJhP
import Derived.Test.YtegdcbdicpfbpaaDoorJhI
import Derived.Test.YtegdcbdicpfbpaaDoorJhL
import Derived.Sort.KeysCollected
import Derived.Test.YtegdcbdicpfbpaaDoorJhM
set_option linter.unusedVariables false
set_option maxRecDepth 10000
set_option linter.unusedSimpArgs false
namespace Go.Proofs.YtegdcbdicpfbpaaDoor
open Go.AE Delphi
variable {tab:Tab}
variable {M:Ps} {bd:Fx} {k:Nat}
theorem Seen.mono {k':Nat}(h:Seen M bd k)(hk:k≤k'):Seen M bd k':=fun x=>⟨(h x).1,fun c hc=>by have:=(h x).2 c hc;omega⟩
variable {a w:AW} {T So Sb:Fw} {body:List Lt} {u ov bv:V} {bw mb md:Nat} {l:List Nat} {D:List (Int×Int)}
theorem WkM.up {k':Nat}(h:WkM a w T body u bw mb md l bd ov bv So Sb M D k)(hk:k≤k'):WkM a w T body u bw mb md l bd ov bv So Sb M D k':=⟨h.frm,h.lits,h.cell,h.mB,Seen.mono h.seen hk,h.mD,h.dn,h.ord,h.bnd,h.ge,h.sepO,h.sepB⟩
theorem WkM.cnt {n:Nat}{v:List Nat}(h:WkM a w T body u bw mb md l bd ov bv So Sb M D k)(hn:n≤k): ∃w2,w.putV (.scalar .str) (.map mb) (.str v) (.int .i64 (Int.ofNat (n+1)))=some w2∧Frm (fun x=>x=mb) w w2∧w2.next=w.next∧SM w2 mb (Pj M v (Int.ofNat (n+1)))∧ (v∈bd→WkM a w2 T body u bw mb md l bd ov bv So Sb (Pj M v (Int.ofNat (n+1))) D (k+1))∧ (v∉bd→bd.length≤1000→CB w2 bw [u,.map mb,.map md,ov,bv]∧∃bv' w5 S5,(w2.fresh [.str v]).appendV 1 16 bv 1 [.str v]=some (bv',w5)∧w5.store bw 4 [bv']=some (w5.put bw [u,.map mb,.map md,ov,bv'])∧bv'.cells=[bv']∧WkM a (w5.put bw [u,.map mb,.map md,ov,bv']) T body u bw mb md l (bd++[v]) ov bv' So S5 (Pj M v (Int.ofNat (n+1))) D (k+1)∧ Frm (fun x=>x=mb∨x=bw∨Sb x) w (w5.put bw [u,.map mb,.map md,ov,bv'])∧∀x,S5 x→Sb x∨w.next≤x):=by
 obtain⟨g1,g2,g3,g4,g5,g6⟩:=h.ge;obtain⟨w2,p1,p2,p3,p4⟩:=h.mB.put Px v (Int.ofNat (n+1));have hc2:=h.cell.frm p3 (by show ¬bw=mb;exact g4);have hd2:=h.mD.frm p3 (by show ¬md=mb;exact fun e=>g6 e.symm);have ho2:=h.ord.frm p3 fun x hx he=>(h.sepO x hx).2.2.2.1 he;have hbn2:=h.bnd.frm p3 fun x hx he=>(h.sepB x hx).2.2.2.1 he;have hfa:=h.frm.next;have lw:=h.cell.lt;have lmb:=h.mB.lt;have lmd:=h.mD.lt;have f02:Frm (fun _=>False) a w2:=h.frm.trans p3 (fun _ _ h=>h) (by rintro x hx rfl;omega);refine⟨w2,p1,p3,p4,p2,fun hv=>?_,fun hv hl=>?_⟩
 ·have hs:=JfR (out':=bd) h.seen hn (k:=v) fun x=>⟨.inl,fun h=>h.elim id fun h=>h▸hv⟩;exact⟨f02,h.lits,hc2,p2,hs,hd2,h.dn,ho2,hbn2,h.ge,fun x hx=>by have h1:=h.sepO x hx;exact⟨h1.1,by omega,h1.2.2⟩,fun x hx=>by have h1:=h.sepB x hx;exact⟨h1.1,by omega,h1.2.2⟩⟩
 ·have hs:=JfR (out':=bd++[v]) h.seen hn (k:=v) fun x=>by simp
  have hSb:∀b,Sb b→b<w2.next:=fun b hb=>by rw[p4];exact (h.sepB b hb).2.1
  obtain⟨bv',w5,S5,u1,u2,u3,u4⟩:=hbn2.push (news:=[V.str v]) (bytes:=16) hSb Fh rfl rfl Fh Fh;have nw:¬Sb bw:=fun hx=>(h.sepB _ hx).2.2.1 rfl;have nb:¬Sb mb:=fun hx=>(h.sepB _ hx).2.2.2.1 rfl;have nd:¬Sb md:=fun hx=>(h.sepB _ hx).2.2.2.2 rfl;have hc5:=hc2.frm u3 nw;have st:=hc5.set (i:=4) (v:=bv') Fj u2.one.1;have pf:Frm (fun x=>x=bw) w5 (w5.put bw [u,.map mb,.map md,ov,bv']):=HO;have nx:=u3.next
  have sS5:∀x,S5 x→a.next≤x∧x<w5.next∧x≠bw∧x≠mb∧x≠md:=by
   intro x hx;obtain⟨m1,m2⟩:=u4 x hx;rcases m2 with m2|m2
   ·have h1:=h.sepB x m2;exact⟨h1.1,m1,h1.2.2⟩
   ·exact⟨by omega,m1,by omega,by omega,by omega⟩
  refine⟨hc2,bv',w5,S5,u1,st,u2.one.2,⟨(f02.trans u3 (fun _ _ h=>h) fun x hx hs=>by have:=(h.sepB x hs).1;omega).out Fh rfl,h.lits,H3 hc5.lt,(p2.frm u3 nb).frm pf (fun e=>g4 e.symm),hs,(hd2.frm u3 nd).frm pf (fun e=>g5 e.symm),h.dn,(ho2.frm u3 fun x hx hs=>(h.sepO x hx).2.2.2.2.2 hs).frm pf fun x hx=>(h.sepO x hx).2.2.1,?_,h.ge,fun x hx=>?_,fun x hx=>sS5 x hx⟩,?_,fun x hx=>(u4 x hx).2.imp id fun h=>by omega⟩
  ·have e:H5 (bd++[v])=H5 bd++[V.str v]:=by simp[H5]
   rw[e,FE,Ka];exact u2.frm pf fun x hx=>(sS5 x hx).2.2.1
  ·have h1:=h.sepO x hx;refine⟨h1.1,by have:(w5.put bw [u,.map mb,.map md,ov,bv']).next=w5.next:=rfl;omega,h1.2.2.1,h1.2.2.2.1,h1.2.2.2.2.1,fun h5=>?_⟩;rcases (u4 x h5).2 with m2|m2
   ·exact h1.2.2.2.2.2 m2
   ·omega
  ·exact (p3.trans u3 (fun _ _ h=> .inl h) fun _ _ h=> .inr (.inr h)).trans pf (fun _ _ h=>h) fun _ _ h=> .inr (.inl h)
def TkI (a:AW) (T:Fw) (body:List Lt) (u:V) (bw mb md k:Nat) (l:List Nat) (bd vs:Fx) (ov vv:V) (So Sv:Fw) (D:List (Int×Int)) (q:Nat) (f:Fr) (w:AW):Prop :=
 ∃j bv Sb M,f.get 0=some (.ptr bw 0)∧f.get 40=some vv∧f.get 41=some (.int .i64 (Int.ofNat vs.length))∧f.get 42=some (.int .i64 (Int.ofNat j))∧j≤vs.length∧q=vs.length-j∧
  WkM a w T body u bw mb md l (JbA bd vs j) ov bv So Sb M D (k+j)∧Bt Sv w vv 1 vs.length (H5 vs)∧∀y,Sv y→y<w.next∧y≠bw∧y≠mb∧¬Sb y
theorem JmT (bd vs:Fx)(j:Nat):(JbA bd vs j).length≤bd.length+j:=by
 have h1:=Kl (fun v=>decide (v∉bd)) (vs.take j);have h2:(vs.take j).length≤j:=by rw[FT];omega
 simp only[JbA,FE];omega
theorem Jax (C:Codes tab){i:Nat}{s:Po}{K:V→AW→Prop}(hA:WkS a w T body u bw mb md s ov bv So Sb M D k)(hi:i<body.length)(hargs:∀x∈body,x.args.length≤5)(hl:s.1.length≤100)(hk:k≤1000)(hc:(H4 body i).kind=1∨Jb8 s.2 (H4 body i)=(H4 body i).args.length)(h:∀w' ov' bv' So' Sb' M' D',WkS a w' T body u bw mb md (Jab body s i) ov' bv' So' Sb' M' D' (k+5)→K (.tuple []) w'):WF tab WA [.ptr bw 0,.int .i64 (Int.ofNat i)] w K:=by
 refine HL C.Xo rfl ?_;obtain⟨t,ht⟩:∃t,body[i]? = some t:=⟨_,FB hi⟩;have hla:H4 body i=t:=PJ ht;have ha5:=hargs t (FI ht);rw[hla]at hc;have hinv:=hA.inv.take hi hargs;have sl:=hA.inv.len;obtain⟨w2,ov',w5,S5,D',u1,u2,u3,u4,u5,u6,hM⟩:=hA.m.take1 (i:=i) hl;have lmd:w.load bw 2 1=some [.map md]:=by rw[hA.cell.load];rfl
 have l3:(w2.fresh [.int .i64 (Int.ofNat i)]).load bw 3 1=some [ov]:=by rw[u5.load];rfl
 have l3':w2.load bw 3 1=some [ov]:=by rw[u4.load];rfl
 have el:=PG (w:=w2) (esz:=1) (n:=1) (cs:=[V.int .i64 (Int.ofNat i)]) (c:=.known 1) Fh rfl;have hov:over [V.int .i64 0] 0 [V.int .i64 (Int.ofNat i)]=some [V.int .i64 (Int.ofNat i)]:=rfl;obtain⟨w6,hw6⟩:∃w6,w6=w5.put bw [u,.map mb,.map md,ov',bv]:=⟨_,rfl⟩;rw[←hw6]at u3 hM;have l0:w6.load bw 0 1=some [u]:=by rw[hM.cell.load];rfl
 obtain⟨b,o,c,v,rfl,_,a1,a2,hrv⟩:∃b o c v,u = .slice b o body.length c∧w6.load b (o+i*3) 3=some [.int .i64 (Int.ofNat t.kind),.str t.name,v]∧w6.load b (o+i*3) 1=some [.int .i64 (Int.ofNat t.kind)]∧w6.load b (o+i*3+2) 1=some [v]∧Rd T w6 v 3 t.args.length (Pl t.args):=by
  obtain⟨b,o,c,v,h1,_,_,h2,h4,_,h5,h3⟩:=JcT (hM.lits.frm (fun _ _ hl=>hl.frm hM.frm fun _ _ h=>h) hM.frm fun _ _ h=>h) ht;exact⟨b,o,c,v,h1,h2,h4,h5,h3⟩
 by_cases hk1:t.kind=1
 case neg =>
  have hnil:Jc3 s.2 t=[]:=JnE (hc.resolve_left hk1);have e:Jab body s i=(s.1++[i],s.2):=by simp[Jab,hla,hnil]
  refine Fz (by simp only[go_sem,HA,simprocAttr,Zr,Vw,Vv,lmd,u1,l3,l3',HI,HQ,hov,el,u2,u3,u6,l0,hi,a1,hk1,FC,FD];rfl) ?_;refine HC ⟨_,by simp only[go_sem,HA,simprocAttr,Zr];rfl,?_⟩;exact h w6 ov' bv S5 Sb M D' (WkM.s (by rw[e];exact hM.up Fh) hinv)
 have a1':w6.load b (o+i*3) 1=some [.int .i64 1]:=by rw[a1,hk1];rfl
 refine Fz (by simp only[go_sem,HA,simprocAttr,Zr,Vw,Vv,GU,lmd,u1,l3,l3',HI,HQ,hov,el,u2,u3,u6,l0,hi,a1',a2,FC,FD];rfl) ?_;refine HD Ff Fe ?_;refine JdI C hrv Fh fun vv w7 Sv q1 q2 q3=>?_;have hM7:=hM.ext q2;have hvl:=Jcr t.args;have hnd:=JiY t.args;have hnew:Jc3 s.2 t=(Pm t.args).filter fun v=>decide (v∉s.2):=Jjj s.2 t;generalize Pm t.args=vs at q1 hvl hnd hnew;have hvv:=q1.lenV;have e0:JbA s.2 vs 0=s.2:=by simp[JbA]
 refine Fz (by simp only[go_sem,HA,simprocAttr,hvv];rfl) ?_
 refine H7 (TkI a T body (.slice b o body.length c) bw mb md k (s.1++[i]) s.2 vs ov' vv S5 Sv D') (fun f w=>∃bv Sb M,WkM a w T body (.slice b o body.length c) bw mb md (s.1++[i]) (JbA s.2 vs vs.length) ov' bv S5 Sb M D' (k+vs.length)) ?_ ?_ vs.length
  ⟨0,bv,Sb,M,Fb,Fb,Fb,Fb,by omega,rfl,by rw[e0];exact hM7,q1,fun y hy=>⟨(q3 y hy).2,fun e=>?_,fun e=>?_,fun hb=>?_⟩⟩
 ·rintro q f w ⟨j,bv,Sb,M,f0,f40,f41,f42,hj,rfl,hW,hB,hS⟩ ih exit;by_cases hlt:j<vs.length
  case neg =>
   have e:j=vs.length:=Fh;refine HF 1000 (by simp only[go_sem,simprocAttr,Xn,f41,f42,hlt];rfl) ?_;subst e;exact exit _ _ _ ⟨bv,Sb,M,hW⟩ rfl
  obtain⟨x,hx⟩:∃x,vs[j]? = some x:=⟨_,FB hlt⟩;have hwr:IntKind.wrap .i64 (Int.ofNat j+1)=Int.ofNat (j+1):=HJ Fh;rcases hB.rd.inv with⟨_,q2,_⟩|⟨bx,ox,cx,rfl,hBx⟩
  ·omega
  have lx:w.load bx (ox+j) 1=some [.str x]:=hBx.cell Fh (by rw[H5,F6,hx];rfl);have l1:w.load bw 1 1=some [.map mb]:=by rw[hW.cell.load];rfl
  obtain⟨n,hn1,hn2,hn3⟩:=Jdj hW.seen x;have look:=hW.mB.look Px (.int .i64 0) x;rw[hn3]at look;have hw1:IntKind.wrap .i64 (Int.ofNat n+1)=Int.ofNat (n+1):=HJ Fh;obtain⟨w8,p1,p2,p3,p4,p5,p6⟩:=hW.cnt (v:=x) hn1;have look2:=p4.look Px (.int .i64 0) x;rw[HT]at look2;simp only[JeK]at look2;have hc8:=hW.cell.frm p2 (by show ¬bw=mb;exact hW.ge.2.2.2.1);have l8:w8.load bw 1 1=some [.map mb]:=by rw[hc8.load];rfl
  have bl:=JmT s.2 vs j;have esucc:=Jll (bd:=s.2) hx;have hmem:=JmU (bd:=s.2) hnd hx;by_cases hin:x∈JbA s.2 vs j
  ·have hn0:¬n=0:=fun h=>hn2.1 h hin;have hne:¬n+1=1:=Fh;rw[if_pos (hmem.1 hin)]at esucc;refine Fz (by simp only[go_sem,HA,simprocAttr,Xn,Vu,Vt,Vs,f0,f40,f41,f42,hlt,lx,l1,look,hw1,p1,l8,look2,hne,Kz,hwr];rfl) ?_;exact ih _ _ _ Fh ⟨j+1,bv,Sb,_,(by simp only[go_sem,HA,simprocAttr,-Int.reduceOfNat,f0]<;>rfl),(by simp only[go_sem,HA,simprocAttr,-Int.reduceOfNat,f40]<;>rfl),(by simp only[go_sem,HA,simprocAttr,-Int.reduceOfNat,f41]<;>rfl),(by simp only[go_sem,HA,simprocAttr,-Int.reduceOfNat]<;>rfl),by omega,rfl,by rw[esucc];exact p5 hin,hB.frm p2 fun y hy=>(hS y hy).2.2.1,fun y hy=>by have:=hS y hy;exact⟨by omega,this.2⟩⟩
  ·have hn0:n=0:=hn2.2 hin;subst hn0;rw[if_neg fun h=>hin (hmem.2 h)]at esucc;obtain⟨hc8',bv',w9,S9,r1,r2,r3,r4,r5,r6⟩:=p6 hin Fh;have l84:w8.load bw 4 1=some [bv]:=by rw[hc8.load];rfl
   have el2:=PG (w:=w8) (esz:=1) (n:=1) (cs:=[V.str x]) (c:=.known 1) Fh rfl;have hov2:over [V.str []] 0 [V.str x]=some [V.str x]:=rfl;refine Fz (by simp only[go_sem,HA,simprocAttr,-Int.reduceOfNat,Xn,Vu,Vt,Vs,GS,f0,f40,f41,f42,hlt,lx,l1,look,hw1,p1,l8,look2,l84,HI,HQ,hov2,el2,r1,r2,r3,Kz,hwr,FC,FD];rfl) ?_;have nx:=r5.next;refine ih _ _ _ Fh ⟨j+1,bv',S9,_,(by simp only[go_sem,HA,simprocAttr,-Int.reduceOfNat,f0]<;>rfl),(by simp only[go_sem,HA,simprocAttr,-Int.reduceOfNat,f40]<;>rfl),(by simp only[go_sem,HA,simprocAttr,-Int.reduceOfNat,f41]<;>rfl),(by simp only[go_sem,HA,simprocAttr,-Int.reduceOfNat]<;>rfl),by omega,rfl,by rw[esucc];exact r4,hB.frm r5 fun y hy h=>?_,fun y hy=>?_⟩
   ·have:=hS y hy;rcases h with h|h|h
    ·exact this.2.2.1 h
    ·exact this.2.1 h
    ·exact this.2.2.2 h
   ·have h1:=hS y hy;refine⟨by omega,h1.2.1,h1.2.2.1,fun h=>?_⟩;rcases r6 y h with h|h
    ·exact h1.2.2.2 h
    ·omega
 ·rintro f w ⟨bv2,Sb2,M2,hW⟩;refine JaK ⟨_,by simp only[go_sem,HA,simprocAttr,Zr];rfl,?_⟩;have e1:JbA s.2 vs vs.length=s.2++Jc3 s.2 t:=by rw[hnew,JbA,List.take_length]
  have e:Jab body s i=(s.1++[i],JbA s.2 vs vs.length):=by simp[Jab,hla,e1]
  exact h w ov' bv2 S5 Sb2 M2 D' (WkM.s (by rw[e];exact hW.up Fh) hinv)
 ·have:=hM.cell.lt;have:=(q3 y hy).1;omega
 ·have:=hM.mB.lt;have:=(q3 y hy).1;omega
 ·have:=(hM.sepB y hb).2.1;have:=(q3 y hy).1;omega
section
open Go.AE Delphi
variable {tab:Tab}
structure MkF (f:Fr) (n2 n4 bw:Nat):Prop where
 f2:f.get 2=some (.ptr n2 0)
 f4:f.get 4=some (.ptr n4 0)
 f6:f.get 6=some (.ptr bw 0)
def MkI (a:AW) (T:Fw) (r:Rl) (u:V) (n2 n4 bw mb md:Nat) (fin:Po) (q:Nat) (f:Fr) (w:AW):Prop :=
 ∃s ov bv So Sb M D k,MkF f n2 n4 bw∧WkS a w T r.body u bw mb md s ov bv So Sb M D k∧s.1.length≤r.body.length∧q=r.body.length-s.1.length∧JbT r.body q s=fin∧k≤5*s.1.length
def MkJ (a:AW) (T:Fw) (r:Rl) (u:V) (n2 n4 bw mb md:Nat) (fin:Po) (f:Fr) (w:AW):Prop :=
 ∃ov bv So Sb M D k,MkF f n2 n4 bw∧WkS a w T r.body u bw mb md fin ov bv So Sb M D k
theorem JoH (C:Codes tab){r:Rl}{hv:V}{n2 n4:Nat}{fin:Po}{q:Nat}{f:Fr}{st:List SI}{Q:Fr→AW→Prop}(hbd:RBr r)(hs:JbZ r=true)(hn2:CB a n2 [.int .i64 (Int.ofNat r.head.kind),.str r.head.name,hv,u])(hI:MkI a T r u n2 n4 bw mb md fin q f w)(ih:∀n' f' w',n'<q→MkI a T r u n2 n4 bw mb md fin n' f' w'→WS tab (.code (.loop J3) :: .endB 0::st) f' w' Q)(out:∀s' f' w',MkJ a T r u n2 n4 bw mb md fin f' w'→JaO 0 s'=some st→WS tab (.code (.exit 0)::s') f' w' Q):WS tab (.code J3 :: .code (.loop J3) :: .endB 0::st) f w Q:=by
 obtain⟨s,ov,bv,So,Sb,M,D,k,⟨f2,f4,f6⟩,hA,hsl,rfl,hfin,hk⟩:=hI;have hlv:=Jc6 hA.lits;have hlo:=hA.ord.lenV;have ld3:w.load n2 3 1=some [u]:=by rw[(hn2.frm hA.frm fun h=>h).load];rfl
 have lo:w.load bw 3 1=some [ov]:=by rw[hA.cell.load];rfl
 have hbl:=hbd.body;by_cases hlt:s.1.length<r.body.length
 case neg =>
  have e:r.body.length-s.1.length=0:=Fh;rw[e]at hfin;have hfin:s=fin:=hfin;subst hfin;refine HF 1000 (by simp only[go_sem,simprocAttr,J3,f2,f6,ld3,lo,hlv,hlo,hlt];rfl) ?_;exact out _ _ _ ⟨ov,bv,So,Sb,M,D,k,⟨(Fg f2),(Fg f4),(Fg f6)⟩,hA⟩ rfl
 obtain⟨q,hq⟩:∃q,r.body.length-s.1.length=q+1:=⟨r.body.length-s.1.length-1,by omega⟩;rw[hq]at hfin;refine Fz (by simp only[go_sem,HA,simprocAttr,J3,f2,f6,ld3,lo,hlv,hlo,hlt];rfl) ?_;refine HD Ff Fe ?_;refine Jof C hA hbl hbd.args (Ji6 hs hA.inv hlt) fun i w2 hb g2=>?_;have hbf:=Jlm hb;simp only[JbT,if_pos hlt,hbf]at hfin;have hcand:=of_decide_eq_true hb.1;refine Fz (by simp only[go_sem,HA,simprocAttr,f6];rfl) ?_;refine HD Ff Fe ?_;refine Jax C (hA.ext g2) hcand.1 hbd.args Fh Fh hcand.2.2 fun w3 ov3 bv3 So3 Sb3 M3 D3 hA3=>?_;have el:(Jab r.body s i).1.length=s.1.length+1:=by simp[Jab]
 have hq2:q=r.body.length-(Jab r.body s i).1.length:=by rw[el];omega
 have hq3:(Jab r.body s i).1.length≤r.body.length:=by rw[el];omega
 refine HB 1000 Fe ?_;exact ih q _ _ Fh ⟨Jab r.body s i,ov3,bv3,So3,Sb3,M3,D3,k+5,⟨(Fg f2),(Fg f4),(Fg f6)⟩,hA3,hq3,hq2,hfin,by omega⟩
theorem JoF (C:Codes tab){xs:List V}{r:Rl}{first:Int}{K:V→AW→Prop}(hr:RlC T a r xs)(hbd:RBr r)(h1:∀w,¬Jbl r first→Frm (fun _=>False) a w→K (.tuple [.agg [.nilslice,.nilslice],.bool false]) w)(h2:∀w ov bv So Sb,Jbl r first→Bt So w ov 1 (Jaq r first).1.length (PZ (Jaq r first).1)→Bt Sb w bv 1 (Jaq r first).2.length (H5 (Jaq r first).2)→Frm (fun _=>False) a w→(∀x,So x∨Sb x→a.next≤x∧x<w.next)→K (.tuple [.agg [ov,bv],.bool true]) w): WF tab V7 [.agg xs,.int .i64 first] a K:=by
 refine HL C.Y6 rfl ?_;have hone:=hr.one;have hr0:=hr;obtain⟨hv,u,rfl,hh,hu⟩:=hr;have cb:=Pw a [V.int .i64 (Int.ofNat r.head.kind),.str r.head.name,hv,u];have ff:=HU (S:=fun _=>False) a [V.int .i64 (Int.ofNat r.head.kind),.str r.head.name,hv,u];have m1:(a.fresh [V.int .i64 (Int.ofNat r.head.kind),.str r.head.name,hv,u]).next=a.next+1:=rfl;generalize hw1:a.fresh [V.int .i64 (Int.ofNat r.head.kind),.str r.head.name,hv,u]=w1 at cb ff m1;have cb4:=Pw w1 [V.nilslice,V.nilslice];have ff4:=HU (S:=fun _=>False) w1 [V.nilslice,V.nilslice];have m4:(w1.fresh [V.nilslice,V.nilslice]).next=w1.next+1:=rfl;have cb1:=cb.frm ff4 fun h=>h;generalize hw4:w1.fresh [V.nilslice,V.nilslice]=w4 at cb4 ff4 m4 cb1;have ld0:w4.load a.next 0 4=some [V.int .i64 (Int.ofNat r.head.kind),.str r.head.name,hv,u]:=cb1.all rfl;have hlv:=Jc6 hu;have hbl:=hbd.body;refine Fz (by simp only[go_sem,HA,simprocAttr,JC,Gj,hw1,hw4,ld0];rfl) ?_;refine HD Ff Fe ?_;refine JoT C (hr0.frm (ff.tr ff4) fun _ _ h=>h) hbd.big fun w2 g2=>?_;have hf2:=(ff.tr ff4).tr g2;have cb2:=cb1.frm g2 fun h=>h;have cb42:=cb4.frm g2 fun h=>h;have ld3:w2.load a.next 3 1=some [u]:=by rw[cb2.load];rfl
 have m2:=g2.next;have hu2:RdL (LtC T) T w2 u 3 r.body:=hu.frm (fun _ _ hl=>hl.frm hf2 fun _ _ h=>h) hf2 fun _ _ h=>h;have st0:=cb42.setAll (vs:=[V.nilslice,V.nilslice]) rfl rfl;have lf:(w2.put w1.next [V.nilslice,V.nilslice]).load w1.next 0 2=some [V.nilslice,V.nilslice]:=(H3 cb42.lt).all rfl;have ffail:Frm (fun _=>False) a (w2.put w1.next [V.nilslice,V.nilslice]):=hf2.out Fh rfl;have g5:=Ja4 (S:=fun _=>False) w2;have B5:SM (w2.new (.map [] 0)) w2.next ([]:Ps):=MB.new w2;have m5:(w2.new (.map [] 0)).next=w2.next+1:=rfl;generalize hw5:w2.new (.map [] 0)=w5 at g5 B5 m5;have g6:=Ja4 (S:=fun _=>False) w5;have B6:IM (w5.new (.map [] 0)) w5.next ([]:List (Int×Int)):=MB.new w5;have m6:(w5.new (.map [] 0)).next=w5.next+1:=rfl;generalize hw6:w5.new (.map [] 0)=w6 at g6 B6 m6;have g7:=HU (S:=fun _=>False) w6 [u,V.map w2.next,V.map w5.next,V.nilslice,V.nilslice];have c7:=Pw w6 [u,V.map w2.next,V.map w5.next,V.nilslice,V.nilslice];have m7:(w6.fresh [u,V.map w2.next,V.map w5.next,V.nilslice,V.nilslice]).next=w6.next+1:=rfl;generalize hw7:w6.fresh [u,V.map w2.next,V.map w5.next,V.nilslice,V.nilslice]=w7 at g7 c7 m7
 have hA0:WkS w2 w7 T r.body u w6.next w2.next w5.next ([],[]) .nilslice .nilslice (fun _=>False) (fun _=>False) [] [] 0 :=
  ⟨(g5.tr g6).tr g7,hu2,c7,(B5.frm g6 fun h=>h).frm g7 fun h=>h,fun x=>⟨by simp[HE],fun c hc=>by simp[HE]at hc⟩,B6.frm g7 fun h=>h,fun j=>by simp[HE],.nil,.nil,by omega,fun _ h=>h.elim,fun _ h=>h.elim,PlInv.nil _⟩
 have uc:u.cells=[u]:=by
  obtain⟨xss,hrd,_⟩:=hu;rcases hrd.inv with⟨rfl,_⟩|⟨_,_,_,rfl,_⟩<;>rfl
 have ov1:over [V.nilslice,V.nilmap,V.nilmap,V.nilslice,V.nilslice] 0 [u]=some [u,V.nilmap,V.nilmap,V.nilslice,V.nilslice]:=rfl;have ov2:over [u,V.nilmap,V.nilmap,V.nilslice,V.nilslice] 1 [V.map w2.next]=some [u,V.map w2.next,V.nilmap,V.nilslice,V.nilslice]:=rfl;have ov3:over [u,V.map w2.next,V.nilmap,V.nilslice,V.nilslice] 2 [V.map w5.next]=some [u,V.map w2.next,V.map w5.next,V.nilslice,V.nilslice]:=rfl
 have loop:∀{fr:Fr} {w:AW} {ov bv:V} {So Sb:Fw} {M:Ps} {D:List (Int×Int)} {k:Nat},Jbl r first→MkF fr a.next w1.next w6.next→WkS w2 w T r.body u w6.next w2.next w5.next (JaD r.body first) ov bv So Sb M D k→k≤5*(JaD r.body first).1.length→WS tab (.code (.loop J3) :: .endB 0::[.code Vd]) fr w fun fr' a=>∃vs,PV fr' a JC.results=some vs∧K (Ph vs) a:=by
  intro fr w ov bv So Sb M D k hok hF hA hk;have hsl:=Jgi r.body first
  refine H7 (MkI w2 T r u a.next w1.next w6.next w2.next w5.next (Jaq r first)) (MkJ w2 T r u a.next w1.next w6.next w2.next w5.next (Jaq r first)) (fun q f w hI ih out=>JoH C hbd hok.1 cb2 hI ih out) ?_ (r.body.length-(JaD r.body first).1.length)
   ⟨_,ov,bv,So,Sb,M,D,k,hF,hA,?_,rfl,rfl,hk⟩
  ·rintro f w ⟨ov,bv,So,Sb,M,D,k,⟨f2,f4,f6⟩,hA⟩;have l3:w.load w6.next 3 2=some [ov,bv]:=by rw[hA.cell.load];rfl
   have c4:=cb42.frm hA.frm fun h=>h
   have hone:HM [ov,bv]=true:=by
    rw[Jbv];intro x hx;simp at hx;rcases hx with rfl|rfl
    ·exact hA.ord.one.1
    ·exact hA.bnd.one.1
   have st:=c4.setAll (vs:=[ov,bv]) rfl hone;have ld:(w.put w1.next [ov,bv]).load w1.next 0 2=some [ov,bv]:=(H3 c4.lt).all rfl;have pf:Frm (fun x=>x=w1.next) w (w.put w1.next [ov,bv]):=HO;refine Fz (by simp only[go_sem,HA,simprocAttr,Vd,f4,f6,l3,st,FC,FD];rfl) ?_;refine HC ⟨_,by simp only[go_sem,HA,simprocAttr,JC,f4,ld];rfl,?_⟩;have h1:=hf2.next;have h3:=hA.frm.next;refine h2 _ ov bv So Sb hok (hA.ord.frm pf fun x hx e=>by have:=(hA.sepO x hx).1;omega) (hA.bnd.frm pf fun x hx e=>by have:=(hA.sepB x hx).1;omega) ((hf2.tr hA.frm).out Fh rfl) ?_;have hnx:(w.put w1.next [ov,bv]).next=w.next:=rfl;rintro x (hx|hx)
   ·have:=hA.sepO x hx;exact⟨by omega,by omega⟩
   ·have:=hA.sepB x hx;exact⟨by omega,by omega⟩
  ·by_cases h0:0≤first
   ·have:=hok.2.2.1;omega
   ·simp[JaD,h0]
 cases hs:JbZ r with
 | false =>
  have hno:¬Jbl r first:=fun h=>by have h:=h.1;rw[hs]at h;cases h
  refine Fz (by simp only[go_sem,HA,simprocAttr,ZM,HI,HQ,st0,FC,FD];rfl) ?_;refine HC ⟨_,by simp only[go_sem,HA,simprocAttr,JC,lf];rfl,?_⟩;exact h1 _ hno ffail
 | true =>
  by_cases hl:first < -1
  ·have hno:¬Jbl r first:=fun h=>by have:=h.2.1;omega
   have d1:decide (first<(-1:Int))=true:=decide_eq_true hl;refine Fz (by simp only[go_sem,HA,simprocAttr,ZM,d1,HI,HQ,st0,FC,FD];rfl) ?_;refine HC ⟨_,by simp only[go_sem,HA,simprocAttr,JC,lf];rfl,?_⟩;exact h1 _ hno ffail
  have d1:decide (first<(-1:Int))=false:=decide_eq_false hl;by_cases hg:first<0
  ·have e:first = -1:=Fh;subst e;have d2:decide ((-1:Int)≥Int.ofNat r.body.length)=false:=decide_eq_false (by have:Int.ofNat r.body.length=(r.body.length:Int):=rfl;omega);have hok:Jbl r (-1):=⟨hs,by omega,by omega,fun h=>by omega⟩;have e0:JaD r.body (-1)=([],[]):=rfl;refine Fz (by simp only[go_sem,HA,simprocAttr,Ve,ld3,hlv,d2,HI,HQ,uc,JbQ,ov1,ov2,ov3,hw5,hw6,hw7,FC,FD];rfl) ?_;exact loop hok ⟨Fb,Fb,Fb⟩ (e0▸hA0) Fh
  ·obtain⟨i,rfl⟩:∃i:Nat,first=Int.ofNat i:=⟨first.toNat,by have:Int.ofNat first.toNat=(first.toNat:Int):=rfl;omega⟩;have hi0:(Int.ofNat i).toNat=i:=rfl;have ei:Int.ofNat i=(i:Int):=rfl;by_cases hge:r.body.length≤i
   ·have hno:¬Jbl r (Int.ofNat i):=fun h=>by have:=h.2.2.1;omega
    refine Fz (by simp only[go_sem,HA,simprocAttr,ZM,d1,ld3,hlv,hge,HI,HQ,st0,FC,FD];rfl) ?_;refine HC ⟨_,by simp only[go_sem,HA,simprocAttr,JC,lf];rfl,?_⟩;exact h1 _ hno ffail
   have hlt:i<r.body.length:=Fh;obtain⟨t,ht⟩:∃t,r.body[i]? = some t:=⟨_,FB hlt⟩;have hla:H4 r.body i=t:=PJ ht;obtain⟨b,o,c,v,rfl,_,_,_,a1,_,_,hrv⟩:=JcT hu2 ht;by_cases hk:t.kind=1
   case neg =>
    have hno:¬Jbl r (Int.ofNat i):=fun h=>hk (by have:=h.2.2.2 Fh;rw[hi0,hla]at this;exact this);refine Fz (by simp only[go_sem,HA,simprocAttr,ZM,d1,ld3,hlv,hge,hlt,a1,hk,Nat.zero_le,HI,HQ,st0,FC,FD];rfl) ?_;refine HC ⟨_,by simp only[go_sem,HA,simprocAttr,JC,lf];rfl,?_⟩;exact h1 _ hno ffail
   have hok:Jbl r (Int.ofNat i):=⟨hs,by omega,by omega,fun _=>by rw[hi0,hla];exact hk⟩;have e0:JaD r.body (Int.ofNat i)=Jab r.body ([],[]) i:=by rw[JaD,if_pos Fh,hi0]
   rw[hk]at a1;refine Fz (by simp only[go_sem,HA,simprocAttr,Ve,Gi,d1,ld3,hlv,hge,hlt,a1,Nat.zero_le,HI,HQ,uc,JbQ,ov1,ov2,ov3,hw5,hw6,hw7,FC,FD];rfl) ?_;refine HD Ff Fe ?_;refine Jax C hA0 hlt hbd.args Fj Fh (.inl (by rw[hla];exact hk)) fun w8 ov8 bv8 So8 Sb8 M8 D8 hA8=>?_;refine HB 1000 Fe ?_;exact loop hok ⟨Fb,Fb,Fb⟩ (e0▸hA8) (by rw[e0];simp[Jab])
end
section
open Go.AE Delphi Val
variable {tab:Tab}
def JeG (ts:List Tk) (t:Tm):List Tk:=if t.kind=1 then ts else (idT ts (H2 t)).2
def Jbk (ts:List Tk) (l:List Tm):List Tk:=l.foldl JeG ts
def Jb1 (ts:List Tk) (b:List Lt):List Tk:=b.foldl (fun ts l=>Jbk ts l.args) ts
theorem JgV (ts:List Tk)(l:List Tm)(t:Tm):Jbk ts (l++[t])=JeG (Jbk ts l) t:=by unfold Jbk;rw[List.foldl_append];rfl
theorem JlP (ts:List Tk)(b:List Lt)(l:Lt):Jb1 ts (b++[l])=Jbk (Jb1 ts b) l.args:=by unfold Jb1;rw[List.foldl_append];rfl
theorem Jia (ts:List Tk):∀(l:List Tm),(Jbk ts l).length≤ts.length+l.length:=by
 intro l;induction l generalizing ts with
 | nil=>exact FH _
 | cons t l ih =>
  have h1:=ih (JeG ts t)
  have h2:(JeG ts t).length≤ts.length+1:=by
   unfold JeG;split
   ·omega
   ·exact Je4 _ _
  have e:Jbk ts (t::l)=Jbk (JeG ts t) l:=rfl;rw[e,FC];omega
variable {ts:List Tk}
theorem Jh9 {n:Nat}:∀{b:List Lt},(∀l∈b,l.args.length≤n)→(Jb1 ts b).length≤ts.length+n*b.length:=by
 intro b;induction b generalizing ts with
 | nil=>intro _;simp[Jb1]
 | cons l b ih =>
  intro h;have h1:=ih (ts:=Jbk ts l.args) fun x hx=>h x (FO _ hx);have h2:=Jia ts l.args;have h3:=h l Fj;have e:Jb1 ts (l::b)=Jb1 (Jbk ts l.args) b:=rfl;rw[e,FC,Nat.mul_add];omega
theorem Jgt:∀{l:List Tk} {k:Nat} {c:Tk} {v:Nat},HE (JaW k l) c=some v→k≤v
 | [],k,c,v,h=>by simp[JaW,HE]at h
 | x::l,k,c,v,h=>by
  simp only[JaW,HE]at h;split at h
  ·cases h;exact FH _
  ·have:=Jgt h;omega
theorem JeO {l:List Tk}{c:Tk}(h:c∈l):1≤Ja5 l c:=Jgt (JfH h)
theorem JjJ {c:Tk}(h:HY c=true):1≤(idT ts c).1:=by
 unfold idT;rw[if_pos h];split
 ·rename_i hm;exact JeO hm
 ·simp
structure SmF (f:Fr) (b6 tb jb:Nat):Prop where
 f1:f.get 1=some (.ptr tb 0)
 f6:f.get 6=some (.ptr b6 0)
 f15:f.get 15=some (.ptr jb 0)
abbrev SmK (K:V→AW→Prop):Fr→AW→Prop:=fun fr' aw'=>∃vs,PV fr' aw' Zg.results=some vs∧K (Ph vs) aw'
variable {st:List SI} {K:V→AW→Prop}
theorem Jlb (C:Codes tab){b6 tb jb i N:Nat}{O S:Fw}{tv xv:V}{args:List Tm}{f:Fr}(hT:TabW tb mb tv S ts w)(hx:Rd O w xv 3 args.length (Pl args))(hO:∀x,O x→x<w.next∧¬S x∧x≠tb∧x≠mb)(hal:args.length≤10)(hts:ts.length≤80000)(hmay:∀t∈args,t.kind≠1→TkOk (H2 t)∧HY (H2 t)=true)(hF:SmF f b6 tb jb)(f53:f.get 53=some bv)(f54:f.get 54=some (.int .i64 (Int.ofNat N)))(f55:f.get 55=some (.int .i64 (Int.ofNat i)))(f60:f.get 60=some xv)(f61:f.get 61=some (.int .i64 (Int.ofNat args.length)))(f62:f.get 62=some (.int .i64 (Int.ofNat 0)))(h:∀f' w' tv' S',SmF f' b6 tb jb→f'.get 53=some bv→f'.get 54=some (.int .i64 (Int.ofNat N))→f'.get 55=some (.int .i64 (Int.ofNat i))→TabW tb mb tv' S' (Jbk ts args) w'→Frm (fun x=>S x∨x=tb∨x=mb) w w'→(∀x,S' x→S x∨w.next≤x)→WS tab st f' w' (SmK K)): WS tab (.code (.loop ZI) :: .endB 2::st) f w (SmK K):=by
 refine H7 (fun n f w1=>∃m tv1 S1,SmF f b6 tb jb∧f.get 53=some bv∧f.get 54=some (.int .i64 (Int.ofNat N))∧f.get 55=some (.int .i64 (Int.ofNat i))∧f.get 60=some xv∧f.get 61=some (.int .i64 (Int.ofNat args.length))∧f.get 62=some (.int .i64 (Int.ofNat m))∧TabW tb mb tv1 S1 (Jbk ts (args.take m)) w1∧Frm (fun x=>S x∨x=tb∨x=mb) w w1∧(∀x,S1 x→S x∨w.next≤x)∧m≤args.length∧n=args.length-m)
  (fun f w1=>∃tv1 S1,SmF f b6 tb jb∧f.get 53=some bv∧f.get 54=some (.int .i64 (Int.ofNat N))∧f.get 55=some (.int .i64 (Int.ofNat i))∧TabW tb mb tv1 S1 (Jbk ts args) w1∧Frm (fun x=>S x∨x=tb∨x=mb) w w1∧(∀x,S1 x→S x∨w.next≤x)) ?_ ?_ args.length
  ⟨0,tv,S,hF,f53,f54,f55,f60,f61,f62,hT,Frm.refl _,fun x hx=> .inl hx,Nat.zero_le _,rfl⟩
 ·rintro n f w1 ⟨m,tv1,S1,⟨f1,f6,f15⟩,f53,f54,f55,f60,f61,f62,hT1,g,hS1,hm,rfl⟩ ih out;by_cases hlt:m<args.length
  case neg =>
   obtain rfl:m=args.length:=Fh;rw[List.take_length]at hT1;refine HF 1000 (by simp only[go_sem,simprocAttr,ZI,f61,f62,hlt];rfl) ?_;exact out _ _ _ ⟨tv1,S1,⟨(Fg f1),(Fg f6),(Fg f15)⟩,(Fg f53),(Fg f54),(Fg f55),hT1,g,hS1⟩ rfl
  obtain⟨t,ht⟩:∃t,args[m]? = some t:=⟨_,FB hlt⟩
  have hOR:∀x,O x→¬(S x∨x=tb∨x=mb):=fun x hx h=>by
   obtain⟨_,h1,h2,h3⟩:=hO x hx;rcases h with h|h|h
   ·exact h1 h
   ·exact h2 h
   ·exact h3 h
  obtain⟨b,o,c,rfl,_,_,la,_⟩:=JdG (hx.frm g hOR) ht;obtain⟨w2,s2,c2,r2,n2⟩:=PE w1 (zs:=[V.int .i64 0,V.str [],V.int .i64 0]) (vs:=tmC t) rfl rfl;have htl:(tmC t).length=3:=rfl;have k0:w2.load w1.next 0 1=some [.int .i64 (Int.ofNat t.kind)]:=CB.ld c2 0 1 _ rfl;have k3:w2.load w1.next 0 3=some (tmC t):=c2.all rfl;have hwr:IntKind.wrap .i64 (Int.ofNat m+1)=Int.ofNat (m+1):=HJ Fh;have hT2:=hT1.step0 r2;by_cases hk:t.kind=1
  ·rw[hk]at k0;refine Fz (by simp only[go_sem,HA,simprocAttr,ZI,WZ,WY,f60,f61,f62,hlt,la,htl,s2,k0,hwr];rfl) ?_;refine ih _ _ _ Fh ⟨m+1,tv1,S1,⟨(Fg f1),(Fg f6),(Fg f15)⟩,(Fg f53),(Fg f54),(Fg f55),(Fg f60),(Fg f61),Fb,?_,g.tr r2.no,hS1,by omega,rfl⟩;rw[PK ht,JgV,JeG,if_pos hk];exact hT2
  ·obtain⟨hok,hmy⟩:=hmay t (FI ht) hk;have hlen:=Jia ts (args.take m);rw[FT]at hlen;refine Fz (by simp only[go_sem,HA,simprocAttr,ZI,WZ,WY,f1,f60,f61,f62,hlt,la,htl,s2,k0,hk,k3];rfl) ?_;refine HD Ff Fe ?_;rw[Jmx];refine Jdy C hT2 Fh hok fun w3 tv3 S3 q1 q2 q3=>?_
   have hne:((Int.ofNat (idT (Jbk ts (args.take m)) (H2 t)).1)==0)=false:=by
    have:=JjJ (ts:=Jbk ts (args.take m)) hmy;cases hn:(idT (Jbk ts (args.take m)) (H2 t)).1 with
    | zero=>omega
    | succ n=>rfl
   have hne':¬(idT (Jbk ts (args.take m)) (H2 t)).1=0:=by
    have:=JjJ (ts:=Jbk ts (args.take m)) hmy;omega
   have n3:=g.next;refine Fz (by simp only[go_sem,HA,simprocAttr,f62,hne,hne',hwr];rfl) ?_;refine ih _ _ _ Fh ⟨m+1,tv3,S3,⟨(Fg f1),(Fg f6),(Fg f15)⟩,(Fg f53),(Fg f54),(Fg f55),(Fg f60),(Fg f61),Fb,?_,?_,fun x hx=>?_,by omega,rfl⟩
   ·rw[PK ht,JgV,JeG,if_neg hk];exact q1
   ·refine (g.tr r2.no).trans q2 (fun _ _ h=>h) fun x hx h=>?_;rcases h with h|h|h
    ·rcases hS1 x h with h|h
     ·exact .inl h
     ·omega
    ·exact .inr (.inl h)
    ·exact .inr (.inr h)
   ·rcases q3 x hx with h|h
    ·exact hS1 x h
    ·right;omega
 ·rintro f w1 ⟨tv1,S1,hF,h53,h54,h55,hT1,g,hS1⟩;exact h f w1 tv1 S1 hF h53 h54 h55 hT1 g hS1
theorem JnS (C:Codes tab){b6 tb jb:Nat}{O S:Fw}{tv:V}{f:Fr}(hT:TabW tb mb tv S ts w)(hx:RdL (LtC O) O w bv 3 body)(hO:∀x,O x→x<w.next∧¬S x∧x≠tb∧x≠mb)(hbl:body.length≤100)(hal:∀l∈body,l.args.length≤10)(hts:ts.length≤70000)(hmay:∀l∈body,∀t∈l.args,t.kind≠1→TkOk (H2 t)∧HY (H2 t)=true)(hF:SmF f b6 tb jb)(f53:f.get 53=some bv)(f54:f.get 54=some (.int .i64 (Int.ofNat body.length)))(f55:f.get 55=some (.int .i64 (Int.ofNat 0)))(h:∀f' w' tv' S',SmF f' b6 tb jb→TabW tb mb tv' S' (Jb1 ts body) w'→Frm (fun x=>S x∨x=tb∨x=mb) w w'→(∀x,S' x→S x∨w.next≤x)→WS tab st f' w' (SmK K)): WS tab (.code (.loop YK) :: .endB 0::st) f w (SmK K):=by
 refine H7 (fun n f w1=>∃m tv1 S1,SmF f b6 tb jb∧f.get 53=some bv∧f.get 54=some (.int .i64 (Int.ofNat body.length))∧f.get 55=some (.int .i64 (Int.ofNat m))∧TabW tb mb tv1 S1 (Jb1 ts (body.take m)) w1∧Frm (fun x=>S x∨x=tb∨x=mb) w w1∧(∀x,S1 x→S x∨w.next≤x)∧m≤body.length∧n=body.length-m)
  (fun f w1=>∃tv1 S1,SmF f b6 tb jb∧TabW tb mb tv1 S1 (Jb1 ts body) w1∧Frm (fun x=>S x∨x=tb∨x=mb) w w1∧(∀x,S1 x→S x∨w.next≤x)) ?_ ?_ body.length
  ⟨0,tv,S,hF,f53,f54,f55,hT,Frm.refl _,fun x hx=> .inl hx,Nat.zero_le _,rfl⟩
 ·rintro n f w1 ⟨m,tv1,S1,⟨f1,f6,f15⟩,f53,f54,f55,hT1,g,hS1,hm,rfl⟩ ih out;by_cases hlt:m<body.length
  case neg =>
   obtain rfl:m=body.length:=Fh;rw[List.take_length]at hT1;refine HF 1000 (by simp only[go_sem,simprocAttr,YK,f54,f55,hlt];rfl) ?_;exact out _ _ _ ⟨tv1,S1,⟨(Fg f1),(Fg f6),(Fg f15)⟩,hT1,g,hS1⟩ rfl
  obtain⟨l,hl⟩:∃l,body[m]? = some l:=⟨_,FB hlt⟩;have hlm:=FI hl
  have hOR:∀x,O x→¬(S x∨x=tb∨x=mb):=fun x hx h=>by
   obtain⟨_,h1,h2,h3⟩:=hO x hx;rcases h with h|h|h
   ·exact h1 h
   ·exact h2 h
   ·exact h3 h
  obtain⟨b,o,c,xs,rfl,lb,hxs⟩:=Jga (hx.frm (fun _ _ h=>h.frm g hOR) g hOR) hl;have hxl:=hxs.one;obtain⟨w2,s2,c2,r2,n2⟩:=PE w1 (zs:=[V.int .i64 0,V.str [],V.nilslice]) (vs:=xs) hxl.1.symm hxl.2;obtain⟨xv,rfl,hxv⟩:=hxs;have k2:w2.load w1.next 2 1=some [xv]:=CB.ld c2 2 1 _ rfl;have hlv:=hxv.lenV;have hwr:IntKind.wrap .i64 (Int.ofNat m+1)=Int.ofNat (m+1):=HJ Fh
  have hlen:(Jb1 ts (body.take m)).length≤ts.length+10*m:=by
   have:=Jh9 (ts:=ts) (n:=10) (b:=body.take m) fun l hl=>hal l (List.mem_of_mem_take hl);rw[FT,KA hm]at this;exact this
  have hxl3:[V.int .i64 (Int.ofNat l.kind),V.str l.name,xv].length=3:=rfl;have n3:=g.next
  have hO2:∀x,O x→x<w2.next∧¬S1 x∧x≠tb∧x≠mb:=fun x hx=>by
   obtain⟨h0,h1,h2,h3⟩:=hO x hx;exact⟨by omega,fun hh=>by rcases hS1 x hh with h|h;exact h1 h;omega,h2,h3⟩
  refine Fz (by simp only[go_sem,HA,simprocAttr,YK,U4,f53,f54,f55,hlt,lb,hxl3,s2,k2,hlv];rfl) ?_;refine Jlb C (hT1.step0 r2) (hxv.frm r2 fun _ _ h=>h) hO2 (hal l hlm) Fh (hmay l hlm) ⟨(Fg f1),(Fg f6),(Fg f15)⟩ (Fg f53) (Fg f54) (Fg f55) Fb Fb Fb fun f3 w3 tv3 S3 hF3 k53 k54 k55 q1 q2 q3=>?_;obtain⟨k1,k6,k15⟩:=hF3;refine HF 5 (by simp only[go_sem,HA,simprocAttr,k55,hwr];rfl) ?_;refine ih _ _ _ Fh ⟨m+1,tv3,S3,⟨(by simp only[go_sem,HA,simprocAttr,k1]<;>rfl),(by simp only[go_sem,HA,simprocAttr,k6]<;>rfl),(by simp only[go_sem,HA,simprocAttr,k15]<;>rfl)⟩,(by simp only[go_sem,HA,simprocAttr,k53]<;>rfl),(by simp only[go_sem,HA,simprocAttr,k54]<;>rfl),Fb,?_,?_,fun x hx=>?_,by omega,rfl⟩
  ·rw[PK hl,JlP];exact q1
  ·refine (g.tr r2.no).trans q2 (fun _ _ h=>h) fun x hx h=>?_;rcases h with h|h|h
   ·rcases hS1 x h with h|h
    ·exact .inl h
    ·omega
   ·exact .inr (.inl h)
   ·exact .inr (.inr h)
  ·rcases q3 x hx with h|h
   ·exact hS1 x h
   ·right;omega
 ·rintro f w1 ⟨tv1,S1,hF,hT1,g,hS1⟩;exact h f w1 tv1 S1 hF hT1 g hS1
end
section
open Go.AE Delphi Val
variable {tab:Tab}
def Jd0 (r:Rl) (first:Int) (dq:Option (Nat×List (List Int))) (sets:List Nat→Option (Nat×List (List Int))) (most:Int):JE :=
 ⟨r.head,r.body,(Jaq r first).1,(List.range ((Jaq r first).1.length+1)).map (P9 r.head r.body (Jaq r first).1),fun i=>if Int.ofNat i=first then dq else sets (H4 r.body i).name,most⟩
def JbG (r:Rl) (first:Int) (dq:Option (Nat×List (List Int))) (sets:List Nat→Option (Nat×List (List Int))) (most:Int) (ts:List Tk):JS :=
 JaM (Jd0 r first dq sets most) (Jaq r first).1.length 0 [] ⟨Jb1 ts r.body,[],[]⟩
structure SomeB (r:Rl) (dq:Option (Nat×List (List Int))) (sets:List Nat→Option (Nat×List (List Int))):Prop where
 bd:RBr r
 h4:r.head.args.length≤4
 bk:∀l∈r.body,l.kind≠1→l.kind≠2→3≤l.kind∧l.kind≤6∧l.args.length=2
 hc:∀t∈r.head.args,t.kind≠1→TkOk (H2 t)
 bc:∀l∈r.body,∀t∈l.args,t.kind≠1→TkOk (H2 t)∧HY (H2 t)=true
 w4:∀nm x,sets nm=some x→x.1≤4
 rl:∀nm x,(dq=some x∨sets nm=some x)→x.2.length≤1000000∧∀r∈x.2,r.length=x.1∧∀n∈r,n.natAbs≤100000
def Jm3 (r:Rl):List Tk:=(r.head.args++r.body.flatMap Lt.args).map H2
variable {r:Rl}
theorem Jm4 (h:RBr r):(Jm3 r).length≤40:=by
 unfold Jm3;rw[F7,FE];have h1:=h.head;have h2:=h.body
 have:∀(b:List Lt),(∀l∈b,l.args.length≤5)→(b.flatMap Lt.args).length≤5*b.length:=by
  intro b;induction b with
  | nil=>intro _;simp
  | cons l b ih =>
   intro hb;rw[Kv,FE,FC];have:=ih fun x hx=>hb x (FO _ hx);have:=hb l Fj;omega
 have:=this r.body h.args;omega
variable {first:Int}
theorem JnG (hbd:RBr r)(h:Jbl r first):(∀i∈(Jaq r first).1,i<r.body.length)∧(Jaq r first).1.length≤r.body.length:=by
 have hinv:=Jfj (body:=r.body) hbd.args (r.body.length-(JaD r.body first).1.length) _ (Jlc hbd h);refine⟨hinv.lt,?_⟩;refine Jfk _ _ ?_;have:=Jgi r.body first;by_cases h0:0≤first
 ·have:=h.2.2.1;omega
 ·simp[JaD,h0]
theorem JoV (C:Codes tab)(I:Jda tab)(P:JdJ tab){most:Int}{xs:List V}{dq:Option (Nat×List (List Int))}{sets:List Nat→Option (Nat×List (List Int))}{sty sfn tb:Nat}{sv dp tv:V}{O S:Fw}{ts:List Tk}{K:V→AW→Prop}(hb:SomeB r dq sets)(hsl:H8 [(44,Jt,none)] sty=some (sfn,none))(hdv:dp.cells=[dp])(hr:RlC O w r xs)(hT:TabW tb mb tv S ts w)(hst:JeY tab O w sfn sv sets)(hd:SetQ O w dp dq)(hO:∀x,O x→x<w.next∧¬S x∧x≠tb∧x≠mb)(hts:ts.length≤60000)(hrl:Jbl r first→(JbG r first dq sets most ts).rows.length≤1000000)(h1:¬Jbl r first→∀w',Frm (fun _=>False) w w'→K .nilslice w')(h2:Jbl r first→∀v w' tv' S' cs S1 T1,TabW tb mb tv' S' (JbG r first dq sets most ts).ts w'→Frm (fun x=>S x∨x=tb∨x=mb) w w'→(∀x,S' x→S x∨w.next≤x)→Rel.ListOf w.next w' v (JbG r first dq sets most ts).rows cs S1 T1→(∀x,S1 x∨T1 x→¬S' x)→Rel.Rise (JbG r first dq sets most ts).rows∧(∀x∈(JbG r first dq sets most ts).rows,x.length=r.head.args.length)→K v w'): WF tab V1 [.agg xs,.ptr tb 0,.iface sty sv,.int .i64 first,dp,.int .i64 most] w K:=by
 refine HL C.YL rfl ?_;have hxl:=hr.one;obtain⟨w1,e1,c1,r1,m1⟩:=PU w xs;have k4:w1.load w.next 0 4=some xs:=c1.all hxl.1;have hcx:V.cells (.agg xs)=xs:=rfl;refine Fz (by simp only[go_sem,HA,simprocAttr,Zg,Ga,hcx,e1,k4];rfl) ?_;refine HD Ff Fe ?_;refine JoF C (hr.frm r1 fun _ _ h=>h) hb.bd (fun w2 hno g2=>?_) (fun w2 ov bv So Sb hok q1 q2 g2 q3=>?_)
 ·obtain⟨w3,s3,c3,r3,n3⟩:=PE w2 (zs:=[V.nilslice,V.nilslice]) (vs:=[V.nilslice,V.nilslice]) rfl rfl;refine Fz (by simp only[go_sem,HA,simprocAttr,s3,FC,FD,W0,U3];rfl) ?_;refine HC ⟨_,by simp only[go_sem,HA,simprocAttr,Zg];rfl,?_⟩;exact h1 hno w3 ((r1.tr g2).tr r3)
 have hone:HM [ov,bv]=true:=by
  rw[Jbv];intro x hx;simp at hx;rcases hx with rfl|rfl
  ·exact q1.one.1
  ·exact q2.one.1
 obtain⟨w3,s3,c3,r3,n3⟩:=PE w2 (zs:=[V.nilslice,V.nilslice]) (vs:=[ov,bv]) rfl hone;have g13:=g2.tr r3;have c13:=c1.frm g13 fun h=>h;have k4':w3.load w.next 0 4=some xs:=c13.all hxl.1;have l2:w3.load w2.next 0 2=some [ov,bv]:=c3.all rfl;obtain⟨hv,xb,rfl,hh,hu⟩:=hr;have k2:w3.load w.next 2 1=some [hv]:=CB.ld c13 2 1 _ rfl;have hhl:=hh.lenV;have hp1:eqV .ptr (.ptr tb 0) .nilptr=some false:=rfl;have hp2:eqV .iface (.iface sty sv) .niliface=some false:=rfl;refine Fz (by simp only[go_sem,HA,simprocAttr,s3,FC,FD,W0,hp1,hp2,U9];rfl) ?_;refine Pp ?_;have cm1:SM (w3.new (.map [] 0)) w3.next ([]:Vm):=MB.new w3;have fm1:Frm (fun _=>False) w3 (w3.new (.map [] 0)):=Ja4 w3;have nm1:(w3.new (.map [] 0)).next=w3.next+1:=rfl;generalize hw4:w3.new (.map [] 0)=w4 at cm1 fm1 nm1;have cm2:SM (w4.new (.map [] 0)) w4.next ([]:Vm):=MB.new w4;have fm2:Frm (fun _=>False) w4 (w4.new (.map [] 0)):=Ja4 w4;have nm2:(w4.new (.map [] 0)).next=w4.next+1:=rfl;generalize hw5:w4.new (.map [] 0)=w5 at cm2 fm2 nm2;have cm1:=cm1.frm fm2 fun h=>h;have g35:=fm1.tr fm2;have k2':w5.load w.next 2 1=some [hv]:=CB.ld (c13.frm g35 fun h=>h) 2 1 _ rfl;have hl5:([.int .i64 (Int.ofNat r.head.kind),.str r.head.name,hv,xb]:List V).length=4:=rfl;refine H0 100 (by simp only[go_sem,HA,simprocAttr,k4',l2,hw4,hw5,k2',hhl];rfl) ?_;refine PD Ff Fe ?_;refine Rel.new_ok C hb.h4 fun w6 hset g6 n6=>?_;have g36:=g35.tr g6;obtain⟨w7,e7,c7,r7,m7⟩:=PU w6 [V.int .i64 (Int.ofNat r.head.kind),.str r.head.name,hv,xb,.ptr tb 0,.iface sty sv,ov,bv,.int .i64 first,dp,.nilslice,.map w3.next,.map w4.next,.ptr w5.next 0,.int .i64 most];have hcc1:V.cells (.agg [V.int .i64 (Int.ofNat r.head.kind),.str r.head.name,hv,xb])=[V.int .i64 (Int.ofNat r.head.kind),.str r.head.name,hv,xb]:=rfl;have hcc2:V.cells (.agg [ov,bv])=[ov,bv]:=rfl;have hcc3:V.cells (.iface sty sv)=[.iface sty sv]:=rfl;have n35:=g35.next;have k4'':w6.load w.next 0 4=some [V.int .i64 (Int.ofNat r.head.kind),.str r.head.name,hv,xb]:=(c13.frm g36 fun h=>h).all rfl;refine H0 100 (by simp only[go_sem,HA,simprocAttr,HI,HQ,over,hcc1,hcc2,hcc3,hdv,JbQ,FC,FD,HN,e7];rfl) ?_;have k4a:w4.load w.next 0 4=some [V.int .i64 (Int.ofNat r.head.kind),.str r.head.name,hv,xb]:=(c13.frm fm1 fun h=>h).all rfl;have k4b:w5.load w.next 0 4=some [V.int .i64 (Int.ofNat r.head.kind),.str r.head.name,hv,xb]:=(c13.frm g35 fun h=>h).all rfl;have l2a:w4.load w2.next 0 2=some [ov,bv]:=(c3.frm fm1 fun h=>h).all rfl;have l2b:w5.load w2.next 0 2=some [ov,bv]:=(c3.frm g35 fun h=>h).all rfl;have l2c:w6.load w2.next 0 2=some [ov,bv]:=(c3.frm g36 fun h=>h).all rfl;have k2a:w4.load w.next 2 1=some [hv]:=CB.ld (c13.frm fm1 fun h=>h) 2 1 _ rfl;refine Pr ⟨(show HW _ _ [(0,6),(0,7),(0,12),(3,6),(3,7),(3,12),(10,6),(10,7)]from by simp only[go_sem,HA,simprocAttr,HW,chk,List.reverse_cons,List.reverse_nil,Pk,Pv,Pt,Pu,List.getElem?_nil,false_or,or_true,or_false,exists_eq',FP,Prod.mk.injEq,Bool.true_eq_false,FM,and_true,true_and,implies_true,k4',k4a,k4b,k4'',l2,l2a,l2b,l2c,k2,k2a,k2']),?_⟩;have g37:=g36.tr r7;have g07:Frm (fun _=>False) w w7:=((r1.tr g13).tr g37);have nn1:=r1.next;have nn13:=g13.next;have nn36:=g36.next;have n67:=r7.next;have j3:w7.load w.next 3 1=some [xb]:=CB.ld (c13.frm g37 fun h=>h) 3 1 _ rfl;have hul:=Jc6 hu;have hT7:=hT.step0 g07;have hO7:∀x,O x→x<w7.next∧¬S x∧x≠tb∧x≠mb:=fun x hx=>⟨FK (hO x hx).1 g07.next,(hO x hx).2⟩;have hOw:∀x,O x→x<w.next:=fun x hx=>(hO x hx).1;have hu7:RdL (LtC O) O w7 xb 3 r.body:=hu.frm (fun _ _ h=>h.frm g07 fun _ _ h=>h) g07 fun _ _ h=>h;have hh7:=hh.frm g07 fun _ _ h=>h;have hb7:=hb.bd.body;have ha5:=hb.bd.args;have hpl:=JnG hb.bd hok;have hal:∀l∈r.body,l.args.length≤10:=fun l hl=>by have:=ha5 l hl;omega
 have hSl:∀x,S x→x<w.next:=fun x hx=>(hT.s x hx).1;have htbl:=hT.a.lt;have hmbl:=hT.m.lt;refine Fz (by simp only[go_sem,HA,simprocAttr,U8,j3,hul];rfl) ?_;refine JnS (jb:=w6.next) (b6:=w.next) (O:=O) C hT7 hu7 hO7 Fh hal Fh hb.bc ⟨Fb,Fb,Fb⟩ Fb Fb Fb fun f8 w8 tv8 S8 hF8 t8 g8 s8=>?_;obtain⟨f1,f6,f15⟩:=hF8;have n78:=g8.next
 have hR8:∀x,w.next≤x→¬(S x∨x=tb∨x=mb):=fun x hx h=>by
  rcases h with h|h|h
  ·have:=hSl x h;omega
  ·omega
  ·omega
 have hRO:∀x,O x→¬(S x∨x=tb∨x=mb):=fun x hx h=>by
  obtain⟨_,h1,h2,h3⟩:=hO x hx;rcases h with h|h|h
  ·exact h1 h
  ·exact h2 h
  ·exact h3 h
 obtain⟨cells,hcells⟩:∃c,c=[V.int .i64 (Int.ofNat r.head.kind),.str r.head.name,hv,xb,.ptr tb 0,.iface sty sv,ov,bv,.int .i64 first,dp,.nilslice,.map w3.next,.map w4.next,.ptr w5.next 0,.int .i64 most]:=⟨_,rfl⟩;rw[←hcells]at c7;have c8:=c7.frm g8 (hR8 _ Fh);have hSoN:∀x,So x→w.next≤x∧x<w3.next:=fun x hx=>by have:=q3 x (.inl hx);have:=r3.next;omega
 have q1':Bt So w8 ov 1 (Jaq r first).1.length (PZ (Jaq r first).1):=((q1.frm r3 fun _ _ h=>h).frm g37 fun _ _ h=>h).frm g8 fun x hx=>hR8 x (hSoN x hx).1;have hu8:RdL (LtC O) O w8 xb 3 r.body:=hu7.frm (fun _ _ h=>h.frm g8 hRO) g8 hRO;have hh8:=hh7.frm g8 hRO
 have hO1:∀x,(O x∨So x)→x<w8.next∧x≠w6.next:=fun x hx=>by
  rcases hx with hx|hx
  ·have:=hOw x hx;omega
  ·have:=hSoN x hx;omega
 refine Fz (by simp only[go_sem,HA,simprocAttr,f15];rfl) ?_;refine HD Ff Fe ?_;refine JnC (O:=fun x=>O x∨So x) (head:=r.head) (body:=r.body) (order:=(Jaq r first).1) C c8 (by rw[hcells];rfl) (by rw[hcells];rfl) (by rw[hcells];rfl) (by rw[hcells];rfl) (hh8.mono fun _ h=> .inl h) (Jcd hu8 fun _ h=> .inl h) (q1'.mono fun _ h=> .inr h) hO1 hpl.1 hal (by have:=hb.bd.head;omega) Fh Fh fun w9 nv ncs R9 c9 nv1 hnv hns g9 hR9=>?_;have n89:=g9.next;have e9:cells.set 10 nv=[V.int .i64 (Int.ofNat r.head.kind),.str r.head.name,hv,xb,.ptr tb 0,.iface sty sv,ov,bv,.int .i64 first,dp,nv,.map w3.next,.map w4.next,.ptr w5.next 0,.int .i64 most]:=by rw[hcells];rfl
 have j13:w9.load w6.next 13 1=some [.ptr w5.next 0]:=CB.ld c9 13 1 _ (by rw[e9];rfl);have hp3:eqV .ptr (.ptr w5.next 0) .nilptr=some false:=rfl;have nj:∀x,x<w.next→¬x=w6.next:=fun x hx=>by omega
 have hE:JPure (Jd0 r first dq sets most) first dq sets (Jb1 ts r.body) (Jm3 r):=by
  have hcl:=Jm4 hb.bd;have hil:=Jh9 (ts:=ts) (n:=10) hal;refine⟨fun i hi=>rfl,hb.w4,fun i x hx=>?_,hpl.1,by show (Jaq r first).1.length≤100;omega,by simp[Jd0],fun l hl=>?_,by have:=hb.bd.head;show r.head.args.length≤10;omega,hal,hb.bk,by show r.body.length≤100;omega,fun t ht hk=>⟨hb.hc t ht hk,?_⟩,fun l hl t ht hk=>⟨(hb.bc l hl t ht hk).1,?_⟩,by omega⟩
  ·have hx:(if Int.ofNat i=first then dq else sets (H4 r.body i).name)=some x:=hx;split at hx
   ·exact hb.rl [] x (.inl hx)
   ·exact hb.rl _ x (.inr hx)
  ·simp only[Jd0,Kc,List.mem_range]at hl;obtain⟨k,_,rfl⟩:=hl;exact Kj (JhI (k:=k) hal (by have:=hb.bd.head;omega) Fh).2 Fh
  ·exact List.mem_map.2 ⟨t,List.mem_append_left _ ht,rfl⟩
  ·exact List.mem_map.2 ⟨t,List.mem_append_right _ (List.mem_flatMap.2 ⟨l,hl,ht⟩),rfl⟩
 have g79:Frm (fun x=>(S x∨x=tb∨x=mb)∨x=w6.next) w7 w9:=g8.trans g9 (fun _ _ h=> .inl h) fun _ _ h=> .inr h;have g09:Frm (fun x=>(S x∨x=tb∨x=mb)∨x=w6.next) w w9:=g07.trans g79 (fun _ _ h=>h.elim) fun _ _ h=>h;have hO9:∀x,O x→¬((S x∨x=tb∨x=mb)∨x=w6.next):=fun x hx h=>h.elim (hRO x hx) (nj x (hOw x hx));have hj9:∀x,So x→¬x=w6.next:=fun x hx=>by have:=hSoN x hx;omega
 have hlt9:∀x,(O x∨So x∨x=w6.next∨R9 x)→x<w9.next:=fun x hx=>by
  rcases hx with hx|hx|hx|hx
  ·have:=hOw x hx;omega
  ·have:=hSoN x hx;omega
  ·omega
  ·exact (hR9 x hx).2
 have hS:JStat tab (fun x=>O x∨So x∨x=w6.next∨R9 x) w9 w6.next tb w3.next w4.next (Jd0 r first dq sets most) (cells.set 10 nv) (.ptr w5.next 0) sv first dq sets sty sfn:=by
  rw[e9]at c9 ⊢;refine⟨c9,.inr (.inr (.inl rfl)),⟨_,rfl,⟨hv,rfl,(hh.frm g09 hO9).mono fun _ h=> .inl h⟩⟩,⟨xb,rfl,Jcd (hu.frm (fun _ _ h=>h.frm g09 hO9) g09 hO9) fun _ h=> .inl h⟩,rfl,rfl,⟨ov,rfl,((q1'.frm g9 hj9).rd).mono fun _ h=> .inr (.inl h)⟩,rfl,⟨dp,rfl,(hd.frm g09 hO9).mono (fun _ h=> .inl h) hlt9⟩,⟨nv,ncs,rfl,?_,fun k l hl=>?_⟩,rfl,rfl,rfl,rfl,?_⟩
  ·have e:(Jd0 r first dq sets most).need.length=(Jaq r first).1.length+1:=by simp[Jd0]
   rw[e];exact hnv.mono fun _ h=> .inr (.inr (.inr h))
  ·simp only[Jd0,F6]at hl;by_cases hk:k<(Jaq r first).1.length+1
   ·rw[List.getElem?_range hk]at hl;have hl:=FX hl;obtain⟨sv',h4,h5⟩:=hns k Fh;rw[hl]at h5;exact⟨sv',h4,h5.mono fun _ h=> .inr (.inr (.inr h))⟩
   ·rw[List.getElem?_eq_none (by rw[List.length_range];omega)]at hl;cases hl
  ·intro R w' g' hd' nm K' hK;refine hst (fun x=>((S x∨x=tb∨x=mb)∨x=w6.next)∨R x) w' (g09.trans g' (fun _ _ h=> .inl h) fun _ _ h=> .inr h) (fun x hx h=>h.elim (hO9 x hx) (hd' x (.inl hx))) nm K' fun w2 p g2 hq=>hK w2 p g2 (hq.mono (fun _ h=> .inl h) fun x hx=>FK (hlt9 x hx) (Kj g'.next g2.next))
 have hD:Dyn (fun x=>O x∨So x∨x=w6.next∨R9 x) tb mb w4.next w3.next (.ptr w5.next 0) (Jd0 r first dq sets most).head.args.length w9 tv8 S8 (fun b=>b=w5.next) [] ⟨Jb1 ts r.body,[],[]⟩:=by
  have hnew:∀x,w.next≤x→x<w7.next→¬S8 x:=fun x h1 h2 h=>by
   rcases s8 x h with h|h
   ·have:=hSl x h;omega
   ·omega
  have hn79:∀x,w.next≤x→x≠w6.next→¬((S x∨x=tb∨x=mb)∨x=w6.next):=fun x hx hn h=>h.elim (hR8 x hx) hn;have c1m:=(((cm1.frm g6 fun h=>h).frm r7 fun h=>h).frm g79 (hn79 _ Fh Fh));have c2m:=(((cm2.frm g6 fun h=>h).frm r7 fun h=>h).frm g79 (hn79 _ Fh Fh));have s6:Rel.SetOf (fun b=>b=w5.next) w9 (.ptr w5.next 0) r.head.args.length []:=(hset.frm r7 fun _ _ h=>h).frm g79 fun x hx=>by subst hx;exact hn79 _ Fh Fh
  refine⟨t8.step g9 (fun e=>by omega) (fun e=>by omega) fun x hx e=>hnew x Fh Fh hx,c2m,c1m,s6,fun x hx=>⟨fun e=>hnew x Fh Fh hx,fun e=>hnew x Fh Fh hx,fun e=>hnew x Fh Fh hx,fun ho=>?_⟩,fun x hx=>⟨by omega,by omega,by omega,by omega,fun ho=>?_,by omega⟩,⟨fun ho=>?_,fun ho=>?_,fun ho=>?_,fun ho=>?_⟩,⟨by omega,by omega,by omega,by omega,by omega⟩,hlt9⟩
  ·rcases ho with ho|ho|ho|ho
   ·rcases s8 x hx with h|h
    ·exact (hO x ho).2.1 h
    ·have:=hOw x ho;omega
   ·have:=hSoN x ho;exact hnew x Fh Fh hx
   ·exact hnew x Fh Fh hx
   ·have:=(hR9 x ho).1;have:=(t8.s x hx).1;omega
  ·rcases ho with ho|ho|ho|ho
   ·have:=hOw x ho;omega
   ·have:=hSoN x ho;omega
   ·omega
   ·have:=(hR9 x ho).1;omega
  ·rcases ho with ho|ho|ho|ho
   ·exact (hO _ ho).2.2.1 rfl
   ·have:=hSoN _ ho;omega
   ·omega
   ·have:=(hR9 _ ho).1;omega
  ·rcases ho with ho|ho|ho|ho
   ·exact (hO _ ho).2.2.2 rfl
   ·have:=hSoN _ ho;omega
   ·omega
   ·have:=(hR9 _ ho).1;omega
  ·rcases ho with ho|ho|ho|ho
   ·have:=hOw _ ho;omega
   ·have:=hSoN _ ho;omega
   ·omega
   ·have:=(hR9 _ ho).1;omega
  ·rcases ho with ho|ho|ho|ho
   ·have:=hOw _ ho;omega
   ·have:=hSoN _ ho;omega
   ·omega
   ·have:=(hR9 _ ho).1;omega
 refine Fz (by simp only[go_sem,HA,simprocAttr,U7,f15,j13,hp3,U5];rfl) ?_;refine HD Ff Fe ?_;have hM0:MOk []:=fun v=>by simp[Pb,HE]
 refine JjF C I P hE hsl (Jaq r first).1.length 0 (FU _) hS hD hM0 (TsIn.refl _ _) (hrl hok) fun w10 tv10 S10 So10 d10 m10=>?_;have j13':w10.load w6.next 13 1=some [.ptr w5.next 0]:=CB.ld (c9.frm m10.f (hD.dis _ (.inr (.inr (.inl rfl))))) 13 1 _ (by rw[e9];rfl);refine Fz (by simp only[go_sem,HA,simprocAttr,U6,f15,j13'];rfl) ?_;refine HD Ff Fe ?_;refine Rel.all_ok C d10.o (hrl hok) fun v w11 cs S1 T1 hL g11=>?_;refine HB 1000 Fe ?_;refine HC ⟨_,by simp only[go_sem,HA,simprocAttr,Zg];rfl,?_⟩;have n10:=m10.f.next;have n11:=g11.next;refine h2 hok v w11 tv10 S10 cs S1 T1 (d10.t.step0 g11) ?_ (fun x hx=>?_) (hL.weaken Fh) (fun x hx hs=>?_) (by obtain⟨_,_,_,_,_,_,hz⟩:=d10.o;exact⟨hz.rise,hz.wid⟩)
 ·refine ((g09.trans m10.f (fun x hx h=>?_) fun x hx h=>?_).trans g11 (fun _ _ h=>h) fun _ _ h=>h.elim)
  ·exact h.elim id fun e=>absurd e (nj x hx)
  ·rcases h with h|h|h|h|h|h
   ·rcases s8 x h with h|h
    ·exact .inl h
    ·omega
   ·omega
   ·exact .inr (.inl h)
   ·exact .inr (.inr h)
   ·omega
   ·omega
 ·rcases m10.s x hx with h|h
  ·rcases s8 x h with h|h
   ·exact .inl h
   ·right;omega
  ·right;omega
 ·have:=(d10.t.s x hs).1;rcases hx with hx|hx
  ·have:=(hL.2.2.1 x hx).1;omega
  ·have:=(hL.2.2.2 x hx).1;omega
end
section
open Go.AE Delphi Val
abbrev Nv:=List Nat→Int
def JpD (ts0:List Tk) (ν:Nv) (t:Tm):Int:=if t.kind=1 then ν t.name else Int.ofNat (Ja5 ts0 (H2 t))
def JnW (ts0:List Tk) (ν:Nv) (t:Tm):Tk:=if t.kind=1 then Jag ts0 (ν t.name)else H2 t
def inN (q:Option (Nat×List (List Int))) (l:List Int):Prop:=∃x,q=some x∧l∈x.2
def JmZ (ts0:List Tk) (ν:Nv) (l:Lt):Bool:=match l.args with
 | [a,b]=>P4 l.kind (JnW ts0 ν a) (JnW ts0 ν b)
 | _=>false
def Jql (ts0:List Tk) (q:Option (Nat×List (List Int))) (l:Lt) (ν:Nv):Prop :=
 if l.kind=1 then inN q (l.args.map (JpD ts0 ν))else if l.kind=2 then ¬inN q (l.args.map (JpD ts0 ν))else JmZ ts0 ν l=true
def agr (M:Vm) (ν:Nv):Prop:=∀v n,HE M v=some n→ν v=n
def Jqk (E:JE) (ts0:List Tk) (k:Nat) (M:Vm) (h:List Tk):Prop:=∃ν,agr M ν∧(∀j,k≤j→j<E.order.length→Jql ts0 (E.sets (JdA E j)) (JaS E j) ν)∧h=E.head.args.map (JnW ts0 ν)
def bvK (E:JE) (k:Nat) (v:List Nat):Prop:=∃j,j<k∧(JaS E j).kind=1∧∃t∈(JaS E j).args,t.kind=1∧t.name=v
structure VldM (E:JE) (ts0:List Tk) (k:Nat) (M:Vm):Prop where
 dom:∀v,(∃n,HE M v=some n)↔bvK E k v
 rng:∀v n,HE M v=some n→1≤n∧n≤(ts0.length:Int)
end
section
open Go.AE Delphi Val
def Jdx (s:JS):List (List Tk):=s.rows.map fun r=>r.map (Jag s.ts)
structure JInv (ts0:List Tk) (s:JS):Prop where
 ts:∃x,s.ts=ts0++x
 rng:∀r∈s.rows,∀n∈r,1≤n∧n≤(s.ts.length:Int)
def dnJ (E:JE) (s:JS):Bool:=JcH E.most s.rows.length
def JnZ (E:JE) (ts0:List Tk) (K:Nat) (s:JS):Prop:=∀k M,K≤k→k≤E.order.length→VldM E ts0 k M→0<Pb s.seen (Jgs E k M)→∀h,Jqk E ts0 k M h→h∈Jdx s
structure PostJ (E:JE) (ts0:List Tk) (K:Nat) (R:List Tk→Prop) (s s':JS):Prop where
 inv:JInv ts0 s'
 mono:∀h∈Jdx s,h∈Jdx s'
 snd:∀h∈Jdx s',h∈Jdx s∨R h
 cmp:dnJ E s'=false→∀h,R h→h∈Jdx s'
 comp:dnJ E s'=false→JnZ E ts0 K s'
 seen:∀key,0<Pb s'.seen key→0<Pb s.seen key∨∃k M,K≤k∧k≤E.order.length∧VldM E ts0 k M∧key=Jgs E k M
 smono:∀key,0<Pb s.seen key→0<Pb s'.seen key
 dmono:dnJ E s=true→dnJ E s'=true
variable {E:JE} {ts0:List Tk} {K:Nat} {R:List Tk→Prop} {s:JS}
theorem PostJ.dfalse {s':JS}(h:PostJ E ts0 K R s s')(hd:dnJ E s'=false):dnJ E s=false:=by
 cases hs:dnJ E s with
 | false=>rfl
 | true=>rw[h.dmono hs]at hd;cases hd
theorem PostJ.refl (hi:JInv ts0 s)(hc:dnJ E s=false→JnZ E ts0 K s):PostJ E ts0 K (fun _=>False) s s:=
 ⟨hi,fun _ h=>h,fun _ h=> .inl h,fun _ _ h=>h.elim,hc,fun _ h=> .inl h,fun _ h=>h,fun h=>h⟩
theorem PostJ.trans {R':List Tk→Prop}{s1 s2:JS}(h:PostJ E ts0 K R s s1)(h':PostJ E ts0 K R' s1 s2):PostJ E ts0 K (fun x=>R x∨R' x) s s2 where
 inv:=h'.inv
 mono x hx:=h'.mono x (h.mono x hx)
 snd x hx:=by
  rcases h'.snd x hx with h1|h1
  ·rcases h.snd x h1 with h2|h2
   ·exact .inl h2
   ·exact .inr (.inl h2)
  ·exact .inr (.inr h1)
 cmp hd x hx:=by
  rcases hx with hx|hx
  ·exact h'.mono x (h.cmp (h'.dfalse hd) x hx)
  ·exact h'.cmp hd x hx
 comp:=h'.comp
 seen key hk:=by
  rcases h'.seen key hk with h1|h1
  ·exact h.seen key h1
  ·exact .inr h1
 smono key hk:=h'.smono key (h.smono key hk)
 dmono hd:=h'.dmono (h.dmono hd)
variable {ts:List Tk}
theorem Jcz {x:List Tk}{n:Int}(h1:1≤n)(h2:n≤(ts.length:Int)):Jag (ts++x) n=Jag ts n:=by
 unfold Jag;rw[if_neg Fh,if_neg Fh,List.getD_eq_getElem?_getD,List.getD_eq_getElem?_getD,F4 Fh]
theorem Jmu:∀{ts:List Tk} {c:Tk},c∈ts→Jag ts (Int.ofNat (Ja5 ts c))=c∧Ja5 ts c≤ts.length:=by
 have go:∀(ts:List Tk) (k:Nat) (c:Tk) (v:Nat),HE (JaW k ts) c=some v→ts[v-k]? = some c∧v<k+ts.length:=by
  intro ts;induction ts with
  | nil=>intro k c v h;simp[JaW,HE]at h
  | cons a ts ih =>
   intro k c v h;simp only[JaW,HE]at h;split at h
   ·rename_i he;cases h;rw[Nat.sub_self];exact⟨by rw[he];rfl,by simp⟩
   ·obtain⟨h1,h2⟩:=ih (k+1) c v h;have hg:=Jgt h;refine⟨?_,by simp only[FC];omega⟩;have:v-k=(v-(k+1))+1:=Fh;rw[this,Kg];exact h1
 intro ts c h;obtain⟨h1,h2⟩:=go ts 1 c _ (JfH h);have h3:=JeO h;refine⟨?_,by omega⟩;unfold Jag;have e:¬(Int.ofNat (Ja5 ts c)<1):=by show ¬(((Ja5 ts c:Nat):Int)<1);omega
 rw[if_neg e,List.getD_eq_getElem?_getD];have:(Int.ofNat (Ja5 ts c)).toNat=Ja5 ts c:=rfl;rw[this,h1];rfl
theorem Jh8 {c:Tk}(h:HY c=true):∃y,(idT ts c).2=ts++y∧1≤(idT ts c).1∧(idT ts c).1≤(idT ts c).2.length∧Jag (idT ts c).2 (Int.ofNat (idT ts c).1)=c:=by
 by_cases hm:c∈ts
 ·have e:idT ts c=(Ja5 ts c,ts):=by unfold idT;rw[if_pos h,if_pos hm]
  rw[e];obtain⟨h1,h2⟩:=Jmu hm;exact⟨[],by simp,JeO hm,h2,h1⟩
 ·have e:idT ts c=(ts.length+1,ts++[c]):=by unfold idT;rw[if_pos h,if_neg hm]
  rw[e];refine⟨[c],rfl,by simp,by simp,?_⟩;unfold Jag;have e1:¬(Int.ofNat (ts.length+1)<1):=by show ¬(((ts.length+1:Nat):Int)<1);omega
  simp only;rw[if_neg e1,List.getD_eq_getElem?_getD];have:(Int.ofNat (ts.length+1)).toNat-1=ts.length:=by show ts.length+1-1=_;omega
  rw[this,F3 (FH _),Nat.sub_self];rfl
end
section
open Go.AE Delphi Val
variable {r x:List Int}
theorem Jnz {rows:Fy}:x∈Rel.insR rows r↔x∈rows∨x=r:=by
 unfold Rel.insR
 have e:x∈rows↔x∈rows.take (Rel.posn rows r)∨x∈rows.drop (Rel.posn rows r):=by
  rw[←F9,List.take_append_drop]
 rw[e];simp only[F9,Kn];constructor
 ·rintro ((h|h)|h)
  ·exact .inl (.inl h)
  ·exact .inr h
  ·exact .inl (.inr h)
 ·rintro ((h|h)|h)
  ·exact .inl (.inl h)
  ·exact .inr h
  ·exact .inl (.inr h)
theorem mem_addR {rows:Fy}:x∈Jbi rows r↔x∈rows∨x=r:=by
 unfold Jbi;split
 ·rename_i h;constructor
  ·exact .inl
  ·rintro (h1|rfl)
   ·exact h1
   ·exact h
 ·exact Jnz
theorem JeV (M:Vm)(k k':List Nat)(n:Int):Pb (Pj M k n) k'=if k'=k then n else Pb M k':=by
 unfold Pb;by_cases h:k'=k
 ·subst h;rw[if_pos rfl,HT];rfl
 ·rw[if_neg h,Pi _ _ _ _ h]
end
section
open Go.AE Delphi Val
def bvL (body:List Lt) (l:List Nat) (v:List Nat):Prop:=∃j∈l,(H4 body j).kind=1∧∃t∈(H4 body j).args,t.kind=1∧t.name=v
structure PlGood (body:List Lt) (s:Po):Prop where
 nd:s.1.Nodup
 lt:∀i∈s.1,i<body.length
 bnd:∀k i,s.1[k]? = some i→(H4 body i).kind≠1→∀t∈(H4 body i).args,t.kind=1→bvL body (s.1.take k) t.name
 vs:∀v∈s.2,bvL body s.1 v
theorem JmV {l':List Nat}{v:List Nat}(h:∀x∈l,x∈l')(hb:bvL body l v):bvL body l' v:=by
 obtain⟨j,hj,h2⟩:=hb;exact⟨j,h j hj,h2⟩
theorem PlGood.take {s:Po}{i:Nat}(h:PlGood body s)(hc:Jao body s i=true):PlGood body (Jab body s i):=by
 obtain⟨h1,h2,h3⟩:=of_decide_eq_true hc;refine⟨?_,fun j hj=>?_,fun k j hk hn t ht hk1=>?_,fun v hv=>?_⟩
 ·show (s.1++[i]).Nodup;rw[List.nodup_append];refine⟨h.nd,by simp,?_⟩;rintro a ha b hb rfl;simp at hb;subst hb;exact h2 ha
 ·rcases List.mem_append.1 (show j∈s.1++[i]from hj)with hj|hj
  ·exact h.lt j hj
  ·simp at hj;subst hj;exact h1
 ·have hk:(s.1++[i])[k]? = some j:=hk;show bvL body ((s.1++[i]).take k) t.name;by_cases hkl:k<s.1.length
  ·rw[F4 hkl]at hk;rw[List.take_append_of_le_length Fh];exact h.bnd k j hk hn t ht hk1
  ·rw[F3 Fh]at hk
   have hk0:k-s.1.length=0:=by
    by_cases h0:k-s.1.length=0
    ·exact h0
    ·rw[List.getElem?_eq_none (by simp;omega)]at hk;cases hk
   rw[hk0]at hk;have hk:=FX hk;subst hk;have hke:k=s.1.length:=Fh;rw[hke,List.take_append_of_le_length (FH _),List.take_length];rcases h3 with h3|h3
   ·exact absurd h3 hn
   ·exact h.vs _ (bndN_full.1 h3 t ht hk1)
 ·rcases List.mem_append.1 (show v∈s.2++Jc3 s.2 (H4 body i)from hv)with hv|hv
  ·exact JmV (fun x hx=>List.mem_append_left _ hx) (h.vs v hv)
  ·obtain⟨hn,t,ht,hk1,hnm⟩:=mem_newV.1 hv;rcases h3 with h3|h3
   ·exact⟨i,by show i∈s.1++[i];simp,h3,t,ht,hk1,hnm⟩
   ·exact absurd (by rw[←hnm];exact bndN_full.1 h3 t ht hk1) hn
structure TsGood (ts:List Tk):Prop where
 nd:ts.Nodup
 may:∀c∈ts,HY c=true
theorem TsGood.id {ts:List Tk}(h:TsGood ts)(c:Tk):TsGood (idT ts c).2:=by
 unfold idT;split
 ·rename_i hm;split
  ·exact h
  ·rename_i hn;refine⟨?_,fun d hd=>?_⟩
   ·show (ts++[c]).Nodup;rw[List.nodup_append];refine⟨h.nd,by simp,?_⟩;rintro a ha b hb rfl;simp at hb;subst hb;exact hn ha
   ·rcases List.mem_append.1 hd with hd|hd
    ·exact h.may d hd
    ·simp at hd;subst hd;exact hm
 ·exact h
end
section
open Go.AE Delphi Val
def fsT (ts:List Tk) (q:Option (Nat×List (List Int))) (args:List Tk):Prop:=∃x r,q=some x∧r∈x.2∧args=r.map (Jag ts)
end
end Go.Proofs.YtegdcbdicpfbpaaDoor
set_option linter.unusedSectionVars false
open Go.RowKit
namespace Go.AE
variable [Globs]
section
end
end Go.AE
namespace Go.Proofs.YtegdcbdicpfbpaaDoor
open Go.AE Delphi Val
def JpR (f:Fc):Prop:=∀t∈f.2,HY t=true
section
open Go.AE Delphi Val
def Jqb (l:List Fc):Prop:=∀f∈l,JpR f
end
section
open Go.AE Delphi Val
variable {tab:Tab}
variable {T:Fw} {w:AW} {v:V}
theorem Jou {f:Fc}(h:Rd T w v 3 f.2.length (Jb5 f.2)){i:Nat}{t:Tk}(hi:f.2[i]? = some t):∃b o c,v = .slice b o f.2.length c∧w.load b (o+i*3) 3=some (tkC t):=by
 obtain⟨b,o,c,rfl,_,_,a3⟩:=Jmw h hi;exact⟨b,o,c,rfl,a3⟩
def FcsB (S T:Fw) (w:AW) (v:V) (l:List Fc):Prop:=∃xss,Bt S w v 2 l.length xss.flatten∧All2 (FcC T w) l xss
variable {S:Fw} {l:List Fc}
theorem FcsB.rd (h:FcsB S T w v l){U:Fw}(h1:∀x,S x→U x)(h2:∀x,T x→U x):Fcs U w v l:=by
 obtain⟨xss,h3,h4⟩:=h;exact⟨xss,h3.rd.mono h1,JdO h4 fun f xs ⟨v,q1,q2⟩=>⟨v,q1,q2.mono h2⟩⟩
theorem FcsB.frm {R:Fw}{w':AW}(h:FcsB S T w v l)(g:Frm R w w')(h1:∀x,S x→¬R x)(h2:∀x,T x→¬R x):FcsB S T w' v l:=by
 obtain⟨xss,h3,h4⟩:=h;exact⟨xss,h3.frm g h1,JdO h4 fun f xs q=>q.frm g h2⟩
theorem FcsB.nil:FcsB S T w .nilslice []:=⟨[],.nil,.nil⟩
theorem FcsB.push {U:Fw}{f:Fc}{xs:List V}(h:FcsB S T w v l)(hf:FcC U w f xs)(hS:∀x,S x→x<w.next)(hT:∀x,T x→¬S x∧x<w.next)(hU:∀x,U x→¬S x∧x<w.next)(hl:l.length≤1000000): ∃v' w' S',(w.fresh xs).appendV 2 40 v 1 xs=some (v',w')∧FcsB S' (fun x=>T x∨U x) w' v' (l++[f])∧Frm S w w'∧JaU S S' w w':=by
 obtain⟨xss,h3,h4⟩:=h;have hone:=hf.one;obtain⟨v',w',S',q1,q2,q3,q4⟩:=h3.push (news:=xs) (bytes:=40) hS Fh hone.1 hone.2 Fh Fh;refine⟨v',w',S',q1,⟨xss++[xs],by rw[FE,List.flatten_append];simpa using q2,?_⟩,q3,q4⟩
 have h5:All2 (FcC (fun x=>T x∨U x) w') l xss:=JdO h4 fun g ys q=>by
  obtain⟨u,q5,q6⟩:=q.frm q3 fun x hx=>(hT x hx).1;exact⟨u,q5,q6.mono fun _ h=> .inl h⟩
 refine h5.snoc ?_;obtain⟨u,q5,q6⟩:=hf.frm q3 fun x hx=>(hU x hx).1;exact⟨u,q5,q6.mono fun _ h=> .inr h⟩
end
section
open Go.AE Delphi Val
variable {tab:Tab}
end
section
open Go.AE Delphi Val
variable {tab:Tab}
variable {w:AW}
theorem Jpl {S:Fw}{v:V}{l:List Int}(h:Bt S w v 1 l.length (Rel.rowC l)):Rel.RowV S w v l:=by
 generalize hn:l.length=n at h;generalize hc:Rel.rowC l=cs at h;cases h with
 | nil =>
  have:l=[]:=List.length_eq_zero_iff.1 hn;subst this;exact .nil
 | blk hS hb hx hl he hp hs =>
  subst hc;refine .blk hS hb hx ?_ hn;rcases hs with rfl|rfl|⟨f,F,h1,h2,h3,h4,_,_,h7⟩
  ·exact .inl rfl
  ·exact .inr (.inl rfl)
  ·exact .inr (.inr (.inr ⟨f,F,h1,h2,h3,h4,h7⟩))
def JcK (s:List Int×List Tk) (c:Tk):List Int×List Tk:=(s.1++[Int.ofNat (idT s.2 c).1],(idT s.2 c).2)
def HS (ts:List Tk) (args:List Tk):List Int×List Tk:=args.foldl JcK ([],ts)
theorem Jfc (ts:List Tk)(args:List Tk)(c:Tk):HS ts (args++[c])=JcK (HS ts args) c:=by unfold HS;rw[List.foldl_append];rfl
theorem Jb2 (ts:List Tk)(args:List Tk):(HS ts args).1.length=args.length∧(HS ts args).2.length≤ts.length+args.length:=by
 have:∀(args:List Tk) (s:List Int×List Tk),(args.foldl JcK s).1.length=s.1.length+args.length∧(args.foldl JcK s).2.length≤s.2.length+args.length:=by
  intro args;induction args with
  | nil=>intro s;exact⟨rfl,FH _⟩
  | cons c args ih =>
   intro s;obtain⟨h1,h2⟩:=ih (JcK s c);have h3:=Je4 s.2 c;have h4:(JcK s c).1.length=s.1.length+1:=by unfold JcK;simp
   have h5:(JcK s c).2.length≤s.2.length+1:=h3;rw[Kr,h1,h4,FC];exact⟨by omega,by omega⟩
 simpa[HS]using this args ([],ts)
abbrev Jbh:=List (List Nat×(Nat×List (List Int)))
def JaE (M:Jbh) (f:Fc):Jbh:=match HE M f.1 with
 | none=>Pj M f.1 (f.2.length,[])
 | some _=>M
def P8 (M:Jbh) (f:Fc):Nat×List (List Int):=(HE (JaE M f) f.1).getD (0,[])
def Jct (s:List Tk×Jbh) (f:Fc):List Tk×Jbh:=((HS s.1 f.2).2,Pj (JaE s.2 f) f.1 ((P8 s.2 f).1,Jbi (P8 s.2 f).2 (HS s.1 f.2).1))
def HX (ts:List Tk) (l:List Fc):List Tk×Jbh:=l.foldl Jct (ts,[])
theorem Jd2 (ts:List Tk)(l:List Fc)(f:Fc):HX ts (l++[f])=Jct (HX ts l) f:=by unfold HX;rw[List.foldl_append];rfl
structure LaidW (B sm:Nat) (w:AW) (M:Jbh) (MV:List (List Nat×V)) (Sf:List Nat→Fw):Prop where
 pm:PM w sm MV
 key:∀nm,HE M nm=none→HE MV nm=none
 set:∀nm x,HE M nm=some x→∃p,HE MV nm=some p∧Rel.SetOf (Sf nm) w p x.1 x.2
 dis:∀nm nm' x,Sf nm x→Sf nm' x→nm=nm'
 lo:∀nm x,Sf nm x→B≤x∧x<w.next∧x≠sm
theorem LaidW.frm {B sm:Nat}{w':AW}{M:Jbh}{MV:List (List Nat×V)}{Sf:List Nat→Fw}{R:Fw}(h:LaidW B sm w M MV Sf)(g:Frm R w w')(hs:¬R sm)(hf:∀nm x,Sf nm x→¬R x):LaidW B sm w' M MV Sf:=
 ⟨h.pm.frm g hs,h.key,fun nm x hx=>by obtain⟨p,h1,h2⟩:=h.set nm x hx;exact⟨p,h1,h2.frm g (hf nm)⟩,h.dis,fun nm x hx=>by
  obtain⟨h1,h2,h3⟩:=h.lo nm x hx;have:=g.next;exact⟨h1,by omega,h3⟩⟩
structure LdF (f:Fr) (tb:Nat) (lv:V) (b5 i b4:Nat):Prop where
 f0:f.get 0=some (.ptr tb 0)
 f1:f.get 1=some lv
 f4:f.get 4=some (.ptr b4 0)
 f5:f.get 5=some (.ptr b5 0)
 f6:f.get 6=some (.int .i64 (Int.ofNat i))
theorem Jnr (C:Codes tab){T S:Fw}{tb mb b5 b4 i:Nat}{lv tv:V}{ts:List Tk}{l:List Fc}{fc:Fc}{f:Fr}{st:List SI}{Q:Fr→AW→Prop}(hx:Fcs T w lv l)(hfc:l[i]? = some fc)(hT:∀x,T x→x<w.next∧¬S x∧x≠tb∧x≠mb)(ht:TabW tb mb tv S ts w)(hts:ts.length≤50000)(hal:fc.2.length≤1000)(hok:∀t∈fc.2,TkOk t)(hF:LdF f tb lv b5 i b4)(f7:f.get 7=some .nilslice)(f8:f.get 8=some (.int .i64 (Int.ofNat 0)))(h:∀f' w' rv R tv' S',LdF f' tb lv b5 i b4→f'.get 7=some rv→Rel.RowV R w' rv (HS ts fc.2).1→TabW tb mb tv' S' (HS ts fc.2).2 w'→Frm (fun x=>S x∨x=tb∨x=mb) w w'→(∀x,S' x→S x∨w.next≤x)→(∀x,R x→w.next≤x∧x<w'.next)→WS tab st f' w' Q): WS tab (.code (.loop ZD) :: .endB 2::st) f w Q:=by
 have hil:i<l.length:=(List.getElem?_eq_some_iff.1 hfc).1;have htS:=ht.s
 refine H7 (fun q f w1=>∃m rv R tv1 S1,LdF f tb lv b5 i b4∧f.get 7=some rv∧f.get 8=some (.int .i64 (Int.ofNat m))∧Bt R w1 rv 1 m (Rel.rowC (HS ts (fc.2.take m)).1)∧TabW tb mb tv1 S1 (HS ts (fc.2.take m)).2 w1∧Frm (fun x=>S x∨x=tb∨x=mb) w w1∧(∀x,S1 x→S x∨w.next≤x)∧(∀x,R x→w.next≤x∧x<w1.next∧¬S1 x)∧m≤fc.2.length∧q=fc.2.length-m)
  (fun f w1=>∃rv R tv1 S1,LdF f tb lv b5 i b4∧f.get 7=some rv∧Bt R w1 rv 1 fc.2.length (Rel.rowC (HS ts fc.2).1)∧TabW tb mb tv1 S1 (HS ts fc.2).2 w1∧Frm (fun x=>S x∨x=tb∨x=mb) w w1∧(∀x,S1 x→S x∨w.next≤x)∧(∀x,R x→w.next≤x∧x<w1.next)) ?_ ?_ fc.2.length
  ⟨0,.nilslice,fun _=>False,tv,S,hF,f7,f8,.nil,ht,Frm.refl _,fun x hx=> .inl hx,fun _ h=>h.elim,Nat.zero_le _,rfl⟩
 ·rintro q f w1 ⟨m,rv,R,tv1,S1,⟨f0,f1,f4,f5,f6⟩,f7,f8,hB,hT1,g,hS1,hR,hm,rfl⟩ ih out
  have hTR:∀x,T x→¬(S x∨x=tb∨x=mb):=fun x hx h=>by
   obtain⟨_,h1,h2,h3⟩:=hT x hx;rcases h with h|h|h
   ·exact h1 h
   ·exact h2 h
   ·exact h3 h
  obtain⟨b,o,c,xv,rfl,_,_,l2,l0,l1,hxa⟩:=Jf0 (hx.frm g hTR) hfc;have hxl:=hxa.lenV;by_cases hlt:m<fc.2.length
  case neg =>
   obtain rfl:m=fc.2.length:=Fh;rw[List.take_length]at hB hT1;refine HF 1000 (by simp only[go_sem,simprocAttr,ZD,f1,f6,f8,hil,l1,hxl,hlt];rfl) ?_;exact out _ _ _ ⟨rv,R,tv1,S1,⟨(Fg f0),(Fg f1),(Fg f4),(Fg f5),(Fg f6)⟩,(Fg f7),hB,hT1,g,hS1,fun x hx=>⟨(hR x hx).1,(hR x hx).2.1⟩⟩ rfl
  obtain⟨t,ht'⟩:∃t,fc.2[m]? = some t:=⟨_,FB hlt⟩;obtain⟨ab,ao,ac,rfl,a3⟩:=Jou hxa ht';have hln:=(Jb2 ts (fc.2.take m)).2;rw[FT]at hln;refine Fz (by simp only[go_sem,HA,simprocAttr,ZD,UE,f0,f1,f6,f7,f8,hil,l1,hxl,hlt,a3,Jbg];rfl) ?_;refine HD Ff Fe ?_;refine Jdy C hT1 Fh (hok t (FI ht')) fun w2 tv2 S2 t2 g2 s2=>?_;have n1:=g.next;have n2:=g2.next
  have hRn:∀x,R x→¬(S1 x∨x=tb∨x=mb):=fun x hx h=>by
   have:=hR x hx;rcases h with h|h|h
   ·exact this.2.2 h
   ·have:=ht.a.lt;omega
   ·have:=ht.m.lt;omega
  have hB2:=hB.frm g2 hRn;obtain⟨v',w3,R3,u1,u2,u3,u4⟩:=hB2.push (news:=[.int .i64 (Int.ofNat (idT (HS ts (fc.2.take m)).2 t).1)]) (bytes:=8) (fun x hx=>by have:=hR x hx;omega) Fh rfl rfl Fh Fh;have hel:(w2.fresh [.int .i64 (Int.ofNat (idT (HS ts (fc.2.take m)).2 t).1)]).elems 1 (.slice w2.next 0 1 (.known 1))=some (1,[.int .i64 (Int.ofNat (idT (HS ts (fc.2.take m)).2 t).1)]):=PG Fh rfl;have hov:over [V.int .i64 0] 0 [.int .i64 (Int.ofNat (idT (HS ts (fc.2.take m)).2 t).1)]=some [.int .i64 (Int.ofNat (idT (HS ts (fc.2.take m)).2 t).1)]:=rfl;have hwr:IntKind.wrap .i64 (Int.ofNat m+1)=Int.ofNat (m+1):=HJ Fh;refine Fz (by simp only[go_sem,HA,simprocAttr,f7,HI,HQ,hov,FC,FD,hel,u1,f8,hwr];rfl) ?_;have hRt:∀x,R x→x≠tb∧x≠mb:=fun x hx=>⟨fun e=>hRn x hx (.inr (.inl e)),fun e=>hRn x hx (.inr (.inr e))⟩
  have t3:TabW tb mb tv2 S2 (idT (HS ts (fc.2.take m)).2 t).2 w3:=t2.step u3 (fun e=>(hRt _ e).1 rfl) (fun e=>(hRt _ e).2 rfl) fun x hx e=>by
   rcases s2 x hx with h|h
   ·exact (hR x e).2.2 h
   ·have:=(hR x e).2.1;omega
  have esn:HS ts (fc.2.take (m+1))=((HS ts (fc.2.take m)).1++[Int.ofNat (idT (HS ts (fc.2.take m)).2 t).1],(idT (HS ts (fc.2.take m)).2 t).2):=by rw[PK ht',Jfc];rfl
  have n3:=u3.next;refine ih _ _ _ Fh ⟨m+1,v',R3,tv2,S2,⟨(Fg f0),(Fg f1),(Fg f4),(Fg f5),(Fg f6)⟩,Fb,Fb,?_,by rw[esn];exact t3,?_,fun x hx=>?_,fun x hx=>?_,by omega,rfl⟩
  ·rw[esn];have e:Rel.rowC ((HS ts (fc.2.take m)).1++[Int.ofNat (idT (HS ts (fc.2.take m)).2 t).1])=Rel.rowC (HS ts (fc.2.take m)).1++[.int .i64 (Int.ofNat (idT (HS ts (fc.2.take m)).2 t).1)]:=by unfold Rel.rowC;rw[List.map_append];rfl
   rw[e];exact u2
  ·refine (g.trans g2 (fun _ _ h=>h) fun x hx h=>?_).trans u3 (fun _ _ h=>h) fun x hx h=>by have:=(hR x h).1;omega
   rcases h with h|h|h
   ·rcases hS1 x h with h|h
    ·exact .inl h
    ·omega
   ·exact .inr (.inl h)
   ·exact .inr (.inr h)
  ·rcases s2 x hx with h|h
   ·exact hS1 x h
   ·right;omega
  ·refine⟨?_,(u4 x hx).1,fun hs=>?_⟩
   ·rcases (u4 x hx).2 with h|h
    ·exact (hR x h).1
    ·omega
   ·rcases (u4 x hx).2 with h|h
    ·rcases s2 x hs with h2|h2
     ·exact (hR x h).2.2 h2
     ·have:=(hR x h).2.1;omega
    ·have:=(t2.s x hs).1;omega
 ·rintro f w1 ⟨rv,R,tv1,S1,hF,h7,hB,hT1,g,hS1,hR⟩;have hl:=(Jb2 ts fc.2).1;exact h f w1 rv R tv1 S1 hF h7 (Jpl (by rw[hl];exact hB)) hT1 g hS1 hR
end
section
open Go.AE Delphi Val
variable {tab:Tab}
variable {w:AW} {MV:List (List Nat×V)} {Sf:List Nat→Fw} {x:Nat×List (List Int)}
theorem LaidW.upd {B sm:Nat}{w':AW}{M:Jbh}{MV':List (List Nat×V)}{R S':Fw}{nm:List Nat}{p:V}(h:LaidW B sm w M MV Sf)(g:Frm R w w')(hpm:PM w' sm MV')(hmv:∀n,HE MV' n=if n=nm then some p else HE MV n)(hset:Rel.SetOf S' w' p x.1 x.2)(hR:∀n y,n≠nm→Sf n y→¬R y)(hS':∀y,S' y→B≤y∧y<w'.next∧y≠sm∧∀n,n≠nm→¬Sf n y):LaidW B sm w' (Pj M nm x) MV' (fun n y=>if n=nm then S' y else Sf n y):=by
 refine⟨hpm,fun n hn=>?_,fun n y hn=>?_,fun n n' y h1 h2=>?_,fun n y hy=>?_⟩
 ·rw[hmv];by_cases he:n=nm
  ·subst he;rw[HT]at hn;cases hn
  ·rw[if_neg he];rw[Pi _ _ _ _ he]at hn;exact h.key n hn
 ·by_cases he:n=nm
  ·subst he;rw[HT]at hn;cases hn;refine⟨p,by rw[hmv,if_pos rfl],?_⟩;simp only[if_true];exact hset
  ·rw[Pi _ _ _ _ he]at hn;obtain⟨q,h1,h2⟩:=h.set n y hn;refine⟨q,by rw[hmv,if_neg he];exact h1,?_⟩;simp only[if_neg he];exact h2.frm g fun z hz=>hR n z he hz
 ·by_cases he:n=nm<;>by_cases he':n'=nm
  ·rw[he,he']
  ·simp only[if_pos he]at h1;simp only[if_neg he']at h2;exact absurd h2 ((hS' y h1).2.2.2 n' he')
  ·simp only[if_neg he]at h1;simp only[if_pos he']at h2;exact absurd h1 ((hS' y h2).2.2.2 n he)
  ·simp only[if_neg he]at h1;simp only[if_neg he']at h2;exact h.dis n n' y h1 h2
 ·by_cases he:n=nm
  ·simp only[if_pos he]at hy;have:=hS' y hy;exact⟨this.1,this.2.1,this.2.2.1⟩
  ·simp only[if_neg he]at hy;obtain⟨h1,h2,h3⟩:=h.lo n y hy;have:=g.next;exact⟨h1,by omega,h3⟩
structure FcsL (l:List Fc):Prop where
 len:l.length≤1000
 ok:∀f∈l,f.2.length≤4∧f.1.length≤16∧∀t∈f.2,TkOk t
 ar:∀f∈l,∀g∈l,f.1=g.1→f.2.length=g.2.length
structure LaidS (B sm tb mb b5:Nat) (w0 w:AW) (S0 S:Fw) (M:Jbh) (MV:List (List Nat×V)) (Sf:List Nat→Fw):Prop where
 lw:LaidW B sm w M MV Sf
 box:CB w b5 [.map sm]
 sd:∀n x,Sf n x→¬S x∧x≠tb∧x≠mb∧x≠b5
 ss:∀x,S x→x≠sm∧x≠b5
 ne:sm≠tb∧sm≠mb∧b5≠tb∧b5≠mb∧sm≠b5
 f:Frm (fun x=>S0 x∨x=tb∨x=mb) w0 w
 s:∀x,S x→S0 x∨w0.next≤x
structure LaidP (l:List Fc) (M:Jbh):Prop where
 ar:∀nm x,HE M nm=some x→∃g∈l,g.1=nm∧x.1=g.2.length
 len:∀nm x,HE M nm=some x→x.2.length≤l.length
variable {ts:List Tk} {l:List Fc}
theorem JgZ (hl:FcsL l):LaidP l (HX ts l).2∧(HX ts l).1.length≤ts.length+4*l.length:=by
 suffices h:∀i,i≤l.length→LaidP (l.take i) (HX ts (l.take i)).2∧(HX ts (l.take i)).1.length≤ts.length+4*i by
  have:=h l.length (FH _)
  rwa [List.take_length]at this
 intro i;induction i with
 | zero=>intro _;exact⟨⟨fun nm x h=>by simp[HX,HE]at h,fun nm x h=>by simp[HX,HE]at h⟩,by simp[HX]⟩
 | succ i ih =>
  intro hi;obtain⟨h1,h2⟩:=ih Fh;obtain⟨fc,hfc⟩:∃fc,l[i]? = some fc:=⟨_,FB Fh⟩;have hfm:=FI hfc;rw[PK hfc,Jd2];have hil:(l.take i).length=i:=by rw[FT];omega
  have hx:(P8 (HX ts (l.take i)).2 fc).1=fc.2.length∧(P8 (HX ts (l.take i)).2 fc).2.length≤i:=by
   unfold P8 JaE;cases hg:HE (HX ts (l.take i)).2 fc.1 with
   | none =>
    simp only;rw[HT];exact⟨rfl,Nat.zero_le _⟩
   | some x =>
    simp only;rw[hg];obtain⟨g,hgm,hgn,hga⟩:=h1.ar _ _ hg;refine⟨?_,by have:=h1.len _ _ hg;rw[hil]at this;exact this⟩;show x.1=_;rw[hga];exact hl.ar g (List.mem_of_mem_take hgm) fc hfm hgn
  have h0:∀nm x,nm≠fc.1→HE (JaE (HX ts (l.take i)).2 fc) nm=some x→HE (HX ts (l.take i)).2 nm=some x:=by
   intro nm x hne h;unfold JaE at h;cases hg:HE (HX ts (l.take i)).2 fc.1 with
   | none=>rw[hg]at h;simp only at h;rwa [Pi _ _ _ _ hne]at h
   | some y=>rw[hg]at h;exact h
  refine⟨⟨fun nm x h=>?_,fun nm x h=>?_⟩,?_⟩
  ·by_cases he:nm=fc.1
   ·subst he;unfold Jct at h;simp only at h;rw[HT]at h;cases h;exact⟨fc,by simp,rfl,hx.1⟩
   ·unfold Jct at h;simp only at h;rw[Pi _ _ _ _ he]at h;obtain⟨g,h3,h4,h5⟩:=h1.ar _ _ (h0 nm x he h);exact⟨g,List.mem_append_left _ h3,h4,h5⟩
  ·rw[FE,hil,Ka];by_cases he:nm=fc.1
   ·subst he;unfold Jct at h;simp only at h;rw[HT]at h;cases h;show (Jbi _ _).length≤_;have h6:=hx.2;unfold Jbi;split
    ·omega
    ·rw[Jic];omega
   ·unfold Jct at h;simp only at h;rw[Pi _ _ _ _ he]at h;have:=h1.len _ _ (h0 nm x he h);rw[hil]at this;omega
  ·have:=(Jb2 (HX ts (l.take i)).1 fc.2).2;have h7:=(hl.ok fc hfm).1;show (HS (HX ts (l.take i)).1 fc.2).2.length≤_;omega
theorem SetOf.ptr {S:Fw}{p:V}{n:Nat}{rows:Fy}(h:Rel.SetOf S w p n rows):∃b,p = .ptr b 0∧n≤4∧∀x,S x→x<w.next:=by
 obtain⟨bp,lv,cs,S0,T,rfl,h⟩:=h;exact⟨bp,rfl,h.w4,h.hS⟩
theorem Jnq (C:Codes tab)(P:JdJ tab){B sm tb mb b5 b4 i:Nat}{T S0 S R:Fw}{lv tv rv:V}{fc:Fc}{M:Jbh}{row:List Int}{w0:AW}{f:Fr}{st:List SI}{Q:Fr→AW→Prop}(hx:Fcs T w lv l)(hfc:l[i]? = some fc)(hT:∀y,T y→y<w.next∧∀n,¬Sf n y)(ht:TabW tb mb tv S ts w)(hL:LaidS B sm tb mb b5 w0 w S0 S M MV Sf)(hg:HE M fc.1=some x)(hr:Rel.RowV R w rv row)(hrl:row.length=x.1)(hxl:x.2.length≤1000000)(hb4:b4<w.next∧∀n,¬Sf n b4)(hw0:w0.next≤B)(hBw:B≤w.next)(hF:LdF f tb lv b5 i b4)(f7:f.get 7=some rv)(h:∀f' w' Sf',LdF f' tb lv b5 i b4→TabW tb mb tv S ts w'→LaidS B sm tb mb b5 w0 w' S0 S (Pj M fc.1 (x.1,Jbi x.2 row)) MV Sf'→Frm (fun y=>Sf fc.1 y) w w'→(∀n y,Sf' n y→Sf n y∨w.next≤y)→WS tab st f' w' Q): WS tab (.code Yx::st) f w Q:=by
 obtain⟨f0,f1,f4,f5,f6⟩:=hF;have hil:i<l.length:=(List.getElem?_eq_some_iff.1 hfc).1;obtain⟨b,o,c,xv,rfl,_,_,l2,l0,l1,hxa⟩:=Jf0 hx hfc;obtain⟨p,hp,hset⟩:=hL.lw.set fc.1 x hg;obtain⟨bp,rfl,hw4,hSn⟩:=SetOf.ptr hset;have look:=hL.lw.pm.look Px .nilptr fc.1;rw[hp]at look;have look:w.lookV (.scalar .str) .nilptr (.map sm) (.str fc.1)=some (.ptr bp 0,true):=look;have k0:w.load b5 0 1=some [.map sm]:=CB.ld hL.box 0 1 _ rfl;refine Fz (by simp only[go_sem,HA,simprocAttr,Yx,f1,f5,f6,f7,k0,hil,l0,look];rfl) ?_;refine HD Ff Fe ?_
 have same:∀n,HE MV n=if n=fc.1 then some (.ptr bp 0)else HE MV n:=fun n=>by
  by_cases he:n=fc.1
  ·rw[if_pos he,he,hp]
  ·rw[if_neg he]
 have hsm:=hL.lw.pm.lt;refine Rel.add_ok C P hset hr hxl Fh (fun hn=>?_) fun hw hn w2 So2 g1 g2 g3=>?_
 ·have e:Jbi x.2 row=x.2:=by
   unfold Jbi;rw[if_pos];exact Classical.byContradiction fun hc=>hn ⟨hrl,hc⟩
  rw[e]at h
  have hu:=hL.lw.upd (nm:=fc.1) (x:=(x.1,x.2)) (Frm.refl (S:=fun _=>False) w) hL.lw.pm same hset (fun _ _ _ _ h=>h) (fun y hy=>by
   have:=hL.lw.lo fc.1 y hy;exact⟨this.1,this.2.1,this.2.2,fun n hne hy'=>hne (hL.lw.dis n fc.1 y hy' hy)⟩)
  refine HF 1 Fe ?_;refine h _ _ _ ⟨(Fg f0),(Fg f1),(Fg f4),(Fg f5),(Fg f6)⟩ ht ⟨hu,hL.box,fun n y hy=>?_,hL.ss,hL.ne,hL.f,hL.s⟩ (Frm.refl _) fun n y hy=>?_
  ·by_cases he:n=fc.1
   ·rw[if_pos he]at hy;exact hL.sd _ y hy
   ·rw[if_neg he]at hy;exact hL.sd _ y hy
  ·by_cases he:n=fc.1
   ·rw[if_pos he]at hy;rw[he];exact .inl hy
   ·rw[if_neg he]at hy;exact .inl hy
 ·have e:Jbi x.2 row=Rel.insR x.2 row:=by unfold Jbi;rw[if_neg hn]
  rw[e]at h;have hnS:∀y,Sf fc.1 y→y<w.next:=fun y hy=>(hL.lw.lo fc.1 y hy).2.1;have hpm:PM w2 sm MV:=hL.lw.pm.frm g2 fun hh=>(hL.lw.lo fc.1 sm hh).2.2 rfl
  have hu:=hL.lw.upd (nm:=fc.1) (x:=(x.1,Rel.insR x.2 row)) g2 hpm same g1 (fun n y hne hy hh=>hne (hL.lw.dis n fc.1 y hy hh)) (fun y hy=>by
   rcases (g3 y hy).2 with h1|h1
   ·have:=hL.lw.lo fc.1 y h1;exact⟨this.1,(g3 y hy).1,this.2.2,fun n hne hy'=>hne (hL.lw.dis n fc.1 y hy' h1)⟩
   ·exact⟨by omega,(g3 y hy).1,by omega,fun n _ hy'=>by have:=(hL.lw.lo n y hy').2.1;omega⟩)
  have t2:=ht.step g2 (fun hh=>(hL.sd _ _ hh).2.1 rfl) (fun hh=>(hL.sd _ _ hh).2.2.1 rfl) fun y hy hh=>(hL.sd _ y hh).1 hy;have hSS:=ht.s;have htb:=ht.a.lt;have hmb:=ht.m.lt;have hbx:=hL.box.lt;refine HF 1 Fe ?_;refine h _ _ _ ⟨(Fg f0),(Fg f1),(Fg f4),(Fg f5),(Fg f6)⟩ t2 ⟨hu,hL.box.frm g2 fun hh=>(hL.sd _ _ hh).2.2.2 rfl,fun n y hy=>?_,hL.ss,hL.ne,?_,hL.s⟩ g2 fun n y hy=>?_
  ·by_cases he:n=fc.1
   ·rw[if_pos he]at hy;rcases (g3 y hy).2 with h1|h1
    ·exact hL.sd _ y h1
    ·exact⟨fun hs=>by have:=(hSS y hs).1;omega,by omega,by omega,by omega⟩
   ·rw[if_neg he]at hy;exact hL.sd _ y hy
  ·exact hL.f.trans g2 (fun _ _ h=>h) fun y hy hh=>by have:=(hL.lw.lo fc.1 y hh).1;omega
  ·by_cases he:n=fc.1
   ·rw[if_pos he]at hy;rcases (g3 y hy).2 with h1|h1
    ·rw[he];exact .inl h1
    ·exact .inr h1
   ·rw[if_neg he]at hy;exact .inl hy
end
end Go.Proofs.YtegdcbdicpfbpaaDoor
