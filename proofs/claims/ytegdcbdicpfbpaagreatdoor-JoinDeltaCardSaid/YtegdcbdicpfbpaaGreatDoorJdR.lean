/- A part of the proof. -/
import Derived.Test.YtegdcbdicpfbpaaGreatDoorJdQ
open Int renaming ofNat → Fq
open Go.IntKind renaming wrap → KZ
set_option linter.unusedVariables false
set_option maxRecDepth 10000
set_option linter.unusedSimpArgs false
namespace Go.Proofs.YtegdcbdicpfbpaaGreatDoor
open Go.AE Delphi
variable {tab:Tab}
variable {v:V} {K:V→AW→Prop}
theorem Jpx (C:Codes tab){w:AW}{n:Nat}(h:lenV v=some n)(hK:K (.int .i64 (Fq n)) w):WF tab ZR [v] w K:=by
 refine Ld C.VA rfl ?_;refine Fz (by simp only[go_sem,K5,Vz,h];rfl) ?_;refine K7 ⟨_,by simp only[go_sem,K5,Vz];rfl,?_⟩;exact hK
variable {ks:List Ky}
theorem Jtj (C:Codes tab){S:Fw}{w:AW}{x:Ky}{bq:Nat}(hq:CB w bq [v])(h:QQ S w v ks)(hn:ks.length≤100)(hS:∀y,S y→y<w.next∧y≠bq)(hm:ks=[]∨Dk ks)(hx:∀k∈ks,k.2.2≠x.2.2)(hK:∀w' v' S' ks',CB w' bq [v']→QB S' w' v' ks'→Frm (fun y=>S y∨y=bq) w w'→(∀y,S' y→y<w'.next∧y≠bq∧(S y∨w.next≤y))→ks'.length=ks.length+1→(∀k,k∈ks'↔k∈ks∨k=x)→Dk ks'→K (.tuple []) w'): WF tab GV [.iface 178 (.ptr bq 0),.iface 184 (.agg (kyC x))] w K:=by
 refine Ld C.W9 rfl ?_;refine Fz (by simp only[go_sem,K5,W0,L9];rfl) ?_;refine K9 (by simp only[go_sem,K5,L9]) (by simp only[go_sem,K5,L9];rfl) ?_;refine JtN C hq h hn hS fun w1 v1 S1 c1 b1 f1 s1=>?_;have lq:w1.load bq 0 1=some [v1]:=c1.load 0 1;have hlv:=b1.lenV;rw[FE,Kb]at hlv;refine Fz (by simp only[go_sem,K5,JaK,L9,lq];rfl) ?_;refine K9 (by simp only[go_sem,K5,L9,lq]) (by simp only[go_sem,K5,L9,lq];rfl) ?_;refine Jpx C hlv ?_
 have hsub:KZ .i64 (Fq (ks.length+1)-1)=Fq ks.length:=by
  have a1:Fq (ks.length+1)=((ks.length+1:Nat):Int):=rfl;have a2:Fq ks.length=(ks.length:Int):=rfl;rw[Iw]<;>omega
 refine Fz (by simp only[go_sem,K5,hsub];rfl) ?_;refine K9 Ff Fe ?_;refine JwO C c1 b1 hn hm hx (fun h=>(s1 _ h).2.1 rfl) fun w2 ks' q1 q2 q3 q4 q5 q6=>?_;refine K6 1000 Fe ?_;refine Su ⟨_,by simp only[go_sem,K5,W0];rfl,?_⟩;have nx:=q3.next;exact hK w2 v1 S1 ks' q2 q1 (f1.trans q3 (fun _ _ h=>h) fun y hy h=>(s1 y h).2.2.elim .inl fun h=>by omega) (fun y hy=>⟨by have:=(s1 y hy).1;omega,(s1 y hy).2⟩) q4 q5 q6
def DnI (S:Fw) (bq n:Nat) (v:V) (lst:Ky) (aw:AW) (q:Nat) (f:Fr) (w:AW):Prop :=
 ∃i ks,f.get 0=some (.iface 178 (.ptr bq 0))∧f.get 1=some (.int .i64 (Fq 0))∧f.get 2=some (.int .i64 (Fq n))∧f.get 7=some (.int .i64 (Fq i))∧q=n-i∧i≤n∧QB S w v ks∧CB w bq [v]∧Frm S aw w∧ks.length=n+1∧ks[n]? = some lst
theorem JuO (C:Codes tab){S:Fw}{aw:AW}{bq n:Nat}{lst:Ky}(hq:CB aw bq [v])(h:QB S aw v ks)(hl:ks.length=n+1)(hn:n≤100)(hlast:ks[n]? = some lst)(hSq:¬S bq)(hK:∀w' ks' b,QB S w' v ks'→CB w' bq [v]→Frm S aw w'→ks'.length=n+1→ks'[n]? = some lst→K (.bool b) w'):WF tab G1 [.iface 178 (.ptr bq 0),.int .i64 (Fq 0),.int .i64 (Fq n)] aw K:=by
 refine Ld C.Vq rfl ?_;refine Fz (by simp only[go_sem,K5,YA,JaS];rfl) ?_
 refine LK (DnI S bq n v lst aw) (fun f w=>∃i ks',f.get 1=some (.int .i64 (Fq 0))∧f.get 7=some (.int .i64 (Fq i))∧QB S w v ks'∧CB w bq [v]∧Frm S aw w∧ks'.length=n+1∧ks'[n]? = some lst) ?_ ?_ n
  ⟨0,ks,Fb,Fb,Fb,Fb,rfl,by omega,h,hq,Frm.refl _,hl,hlast⟩
 ·rintro q f w ⟨i,ks,f0,f1,f2,f7,rfl,hi,hB,hc,hf,hl,hlast⟩ ih exit
  have e1:KZ .i64 (2*Fq i)=Fq (2*i):=by
   have a1:Fq i=(i:Int):=rfl;have a2:Fq (2*i)=((2*i:Nat):Int):=rfl;rw[Iw]<;>omega
  have e2:KZ .i64 (Fq (2*i)+1)=Fq (2*i+1):=Lh Fh;have hij:i<2*i+1:=Fh;have hj1:2*i+1≤201:=Fh;generalize 2*i+1=j1 at e2 hij hj1;have e3:KZ .i64 (Fq j1+1)=Fq (j1+1):=Lh Fh;by_cases hg:n≤j1
  ·refine Lb 1000 (by simp only[go_sem,Yz,Vp,f2,f7,e1,e2,hg];rfl) ?_;exact exit _ _ _ ⟨i,ks,(Fg f1),(Fg f7),hB,hc,hf,hl,hlast⟩ rfl
  have lq:w.load bq 0 1=some [v]:=hc.load 0 1;obtain⟨a,ha⟩:∃a,ks[i]? = some a:=⟨_,FB Fh⟩;obtain⟨b,hb⟩:∃a,ks[j1]? = some a:=⟨_,FB Fh⟩
  have child:∀{fr:Fr} {w:AW} {j:Nat},fr.get 0=some (.iface 178 (.ptr bq 0))→fr.get 1=some (.int .i64 (Fq 0))→fr.get 2=some (.int .i64 (Fq n))→fr.get 7=some (.int .i64 (Fq i))→fr.get 9=some (.int .i64 (Fq j))→i<j→j<n→QB S w v ks→CB w bq [v]→Frm S aw w→WS tab (.code Gg :: .endB 1 :: .code (.loop Yz) :: .endB 0::[.code (.seq (.region [⟨some 45,none,.mov (.tmp 7)⟩,⟨some 46,none,.mov (.tmp 1)⟩,⟨some 47,none,.bin .gtr (.tmp 45) (.tmp 46)⟩,⟨some 6,none,.mov (.tmp 47)⟩]) .ret)]) fr w fun fr' a=>∃vs,Ox fr' a YA.results=some vs∧K (Oy vs) a:=by
   intro fr w j f0 f1 f2 f7 f9 hij hjn hB hc hf;have lq:w.load bq 0 1=some [v]:=hc.load 0 1;obtain⟨b,hb⟩:∃a,ks[j]? = some a:=⟨_,FB Fh⟩;refine Fz (by simp only[go_sem,K5,Gg,f0,f7,f9,L9,lq];rfl) ?_;refine K9 (by simp only[go_sem,K5,L9,lq]) (by simp only[go_sem,K5,L9,lq];rfl) ?_;refine QW C hB hb ha fun w2 g2=>?_;have hB2:=hB.frm g2 fun _ _ h=>h;have hc2:=hc.frm g2 fun h=>h;have lq2:w2.load bq 0 1=some [v]:=hc2.load 0 1;have hf2:Frm S aw w2:=hf.tr g2.no;cases Bf b a with
   | false =>
    refine Lb 1000 (by simp only[go_sem,f0];rfl) ?_;exact exit _ _ _ ⟨i,ks,(Fg f1),(Fg f7),hB2,hc2,hf2,hl,hlast⟩ rfl
   | true =>
    refine Fz (by simp only[go_sem,K5,JaR,f0,f7,f9,L9,lq2];rfl) ?_;refine K9 (by simp only[go_sem,K5,L9,lq2]) (by simp only[go_sem,K5,L9,lq2];rfl) ?_;refine QX C hB2 ha hb fun w3 q1 q2 q3=>?_;have hc3:=hc2.frm q2 hSq;refine Fz (by simp only[go_sem,K5,f9];rfl) ?_;refine ih (n-j) _ _ Fh ⟨j,Cn ks i j a b,(Fg f0),(Fg f1),(Fg f2),Fb,rfl,by omega,q1,hc3,hf2.tr q2,by rw[Ry];exact hl,?_⟩;rw[Cy Fh Fh,if_neg Fh,if_neg Fh];exact hlast
  by_cases hg2:j1+1<n
  ·obtain⟨c,hcc⟩:∃a,ks[j1+1]? = some a:=⟨_,FB Fh⟩;refine Fz (by simp only[go_sem,K5,Yz,Vp,Gh,Gf,f0,f2,f7,e1,e2,e3,hg,hg2,L9,lq];rfl) ?_;refine K9 (by simp only[go_sem,K5,L9,lq]) (by simp only[go_sem,K5,L9,lq];rfl) ?_;refine QW C hB hcc hb fun w2 g2=>?_;have hB2:=hB.frm g2 fun _ _ h=>h;have hc2:=hc.frm g2 fun h=>h;have hf2:Frm S aw w2:=hf.tr g2.no;cases Bf c b with
   | false =>
    refine Lb 1000 (by simp only[go_sem,K5,f0];rfl) ?_;exact child (Fg f0) (Fg f1) (Fg f2) (Fg f7) Fb hij Fh hB2 hc2 hf2
   | true =>
    refine Lb 1000 (by simp only[go_sem,K5,JaQ,f0];rfl) ?_;exact child (Fg f0) (Fg f1) (Fg f2) (Fg f7) Fb Fh hg2 hB2 hc2 hf2
  ·refine Lb 1000 (by simp only[go_sem,K5,Yz,Vp,Gh,Gf,f0,f2,f7,e1,e2,e3,hg,hg2,L9,lq];rfl) ?_;exact child (Fg f0) (Fg f1) (Fg f2) (Fg f7) Fb hij Fh hB hc hf
 ·rintro f w ⟨i,ks',f1,f7,h1,h2,h3,h4,h5⟩;refine Fz (by simp only[go_sem,K5,f1,f7];rfl) ?_;refine K7 ⟨_,by simp only[go_sem,K5,YA];rfl,?_⟩;exact hK w ks' _ h1 h2 h3 h4 h5
section
open Go.AE Delphi
variable {tab:Tab}
theorem Jvk (C:Codes tab){S:Fw}{w:AW}{n bq:Nat}{x:Ky}(hq:CB w bq [v])(h:QB S w v ks)(hl:ks.length=n+1)(hn:n≤100)(hx:ks[n]? = some x)(hK:∀w',Frm (fun y=>y=bq) w w'→K (.iface 184 (.agg (kyC x))) w'):WF tab G4 [.ptr bq 0] w K:=by
 refine Ld C.VD rfl ?_;obtain⟨b,rfl,hS,hb,l1⟩:=IZ h hx;have hlv:=h.lenV;have lq:w.load bq 0 1=some [.slice b 0 ks.length (.upTo 3)]:=hq.load 0 1;have g1:=LZ (S:=fun _=>False) w [V.int .i64 0,V.bool false,V.int .i64 0];have c1:=OQ w [V.int .i64 0,V.bool false,V.int .i64 0];have lq1:(w.fresh [V.int .i64 0,V.bool false,V.int .i64 0]).load bq 0 1=some [.slice b 0 ks.length (.upTo 3)]:=(hq.frm g1 fun h=>h).load 0 1;obtain⟨b',e,_,_,l2⟩:=IZ (h.frm g1 fun _ _ h=>h) hx;cases e
 have hsub:KZ .i64 (Fq ks.length-1)=Fq n:=by
  have a1:Fq ks.length=(ks.length:Int):=rfl;have a2:Fq n=(n:Int):=rfl;rw[Iw]<;>omega
 have hlt:n<ks.length:=Fh;have hlqb:=hq.lt;obtain⟨w2,s2,c2,r2,m2⟩:=Oj w (zs:=[V.int .i64 0,V.bool false,V.int .i64 0]) (vs:=kyC x) rfl rfl;have hq2:=hq.frm r2 fun h=>h;have lq2:w2.load bq 0 1=some [.slice b 0 ks.length (.upTo 3)]:=hq2.load 0 1
 have hsl:∀a:AW,a.sliceW 3 b 0 ks.length (.upTo 3) none (some n) none=some (.slice b 0 n (.upTo 3)):=by
  intro a;have e1:n≤ks.length∧0≤n∧3=3:=⟨by omega,by omega,rfl⟩;have e2:TS 3 b 0 ks.length (.upTo 3) none (some n) none=some (.slice b 0 n (.upTo 3)):=if_pos e1;simp only[AW.sliceW,e2]
 have st:=hq2.set (i:=0) (v:=.slice b 0 n (.upTo 3)) Fj rfl;have pf:Frm (fun y=>y=bq) w2 (w2.put bq ([V.slice b 0 ks.length (.upTo 3)].set 0 (.slice b 0 n (.upTo 3)))):=LW;have c3:=c2.frm pf (by show ¬w.next=bq;omega);have k3:(w2.put bq ([V.slice b 0 ks.length (.upTo 3)].set 0 (.slice b 0 n (.upTo 3)))).load w.next 0 3=some (kyC x):=c3.all rfl;have ka:(kyC x).length=3:=rfl;have fin:=hK (w2.put bq ([V.slice b 0 ks.length (.upTo 3)].set 0 (.slice b 0 n (.upTo 3)))) (r2.no.tr pf);refine Fz (by simp only[go_sem,K5,VC,JaV];rfl) ?_;refine Bo ?_;refine LU 100 (by simp only[go_sem,K5,lq,hsub,hlt,l1,s2,ka,FV];rfl) ?_;refine O1 ⟨(show LF _ _ [(2,10),(5,10),(9,10)]from by simp only[go_sem,K5,LF,chk,List.reverse_cons,List.reverse_nil,O8,O6,O4,O5,List.getElem?_nil,false_or,or_true,or_false,exists_eq',FQ,Prod.mk.injEq,Bool.true_eq_false,FM,and_true,true_and,implies_true,lq,lq1,l1,l2,FV]),?_⟩;refine Fz (by simp only[go_sem,K5,JaU,lq2,hsub,hsl,st,k3,FC,FD];rfl) ?_;refine K7 ⟨_,by simp only[go_sem,K5,VC];rfl,?_⟩;exact fin
theorem JuY (C:Codes tab){S:Fw}{w:AW}{n bq:Nat}{m:Ky}(hq:CB w bq [v])(h:QB S w v ks)(hl:ks.length=n+1)(hn:n≤100)(hm:ks[0]? = some m)(hSq:¬S bq)(hK:∀w',Frm (fun y=>S y∨y=bq) w w'→K (.iface 184 (.agg (kyC m))) w'):WF tab GW [.iface 178 (.ptr bq 0)] w K:=by
 refine Ld C.Vb rfl ?_;have lq:w.load bq 0 1=some [v]:=hq.load 0 1;have hlv:=h.lenV;obtain⟨x,hx⟩:∃x,ks[n]? = some x:=⟨_,FB Fh⟩
 have hsub:KZ .i64 (Fq ks.length-1)=Fq n:=by
  have a1:Fq ks.length=(ks.length:Int):=rfl;have a2:Fq n=(n:Int):=rfl;rw[Iw]<;>omega
 refine Fz (by simp only[go_sem,K5,Va,JaM,L9,lq];rfl) ?_;refine K9 (by simp only[go_sem,K5,L9,lq]) (by simp only[go_sem,K5,L9,lq];rfl) ?_;refine Jpx C hlv ?_;refine Fz (by simp only[go_sem,K5,hsub,L9,lq];rfl) ?_;refine K9 (by simp only[go_sem,K5,L9,lq]) (by simp only[go_sem,K5,L9,lq];rfl) ?_;refine QX C (i:=0) h hm hx fun w2 q1 q2 q3=>?_;have hc2:=hq.frm q2 hSq;have hl2:(Cn ks 0 n m x).length=n+1:=by rw[Ry];exact hl
 have hlast:(Cn ks 0 n m x)[n]? = some m:=by rw[Cy Fh Fh,if_pos rfl]
 refine Fz (by simp only[go_sem,K5,JaL];rfl) ?_;refine K9 Ff Fe ?_;refine JuO C hc2 q1 hl2 hn hlast hSq fun w3 ks3 b p1 p2 p3 p4 p5=>?_;refine Fz (by simp only[go_sem,K5,L9];rfl) ?_;refine K9 (by simp only[go_sem,K5,L9]) (by simp only[go_sem,K5,L9];rfl) ?_;refine Jvk C p2 p1 p4 hn p5 fun w4 f4=>?_;refine K6 1000 Fe ?_;refine K7 ⟨_,by simp only[go_sem,K5,Va];rfl,?_⟩;exact hK w4 ((q2.tr p3).trans f4 (fun _ _ h=> .inl h) fun _ _ h=> .inr h)
end
section
open Go.AE Delphi
variable {tab:Tab}
def JwR (a:AW) (bw:Nat) (u5:V) (bd:Fx) (x:Lt) (q:Nat) (f:Fr) (w:AW):Prop :=
 ∃i,f.get 0=some (.ptr bw 0)∧f.get 5=some (.int .i64 (Fq ((x.args.take i).countP (Il bd))))∧f.get 9=some u5∧f.get 10=some (.int .i64 (Fq x.args.length))∧f.get 11=some (.int .i64 (Fq i))∧i≤x.args.length∧q=x.args.length-i∧Frm (fun _=>False) a w
theorem JsV (C:Codes tab){T:Fw}{aw:AW}{xs:List V}{x:Lt}{bw mb md k:Nat}{u ov bv:V}{M:Ps}{bd:Fx}(hc:CB aw bw [u,.map mb,.map md,ov,bv])(hM:SM aw mb M)(hs:Seen M bd k)(hx:LtC T aw x xs)(ha:x.args.length≤1000)(h:∀w,Frm (fun _=>False) aw w→K (.int .i64 (Fq (Im bd x))) w):WF tab GU [.ptr bw 0,.agg xs] aw K:=by
 refine Ld C.WZ rfl ?_;obtain⟨v,rfl,hu⟩:=hx;have cb:=OQ aw [V.int .i64 (Fq x.kind),.str x.name,v];have ff:=LZ (S:=fun _=>False) aw [V.int .i64 (Fq x.kind),.str x.name,v];generalize hw1:aw.fresh [V.int .i64 (Fq x.kind),.str x.name,v]=w1 at cb ff;have l2:w1.load aw.next 2 1=some [v]:=by rw[cb.load];rfl
 have hlv:=hu.lenV;refine Fz (by simp only[go_sem,K5,WY,JaJ,hw1,l2,hlv];rfl) ?_;refine LK (JwR aw bw v bd x) (fun f w=>f.get 5=some (.int .i64 (Fq (Im bd x)))∧Frm (fun _=>False) aw w) ?_ ?_ x.args.length ⟨0,Fb,Fb,Fb,Fb,Fb,by omega,rfl,ff⟩
 ·rintro q f w ⟨i,f0,f5,f9,f10,f11,hi,rfl,hf⟩ ih exit;by_cases hlt:i<x.args.length
  case neg =>
   rw[FX Fh]at f5;refine Lb 1000 (by simp only[go_sem,Yw,f10,f11,hlt];rfl) ?_;exact exit _ _ _ ⟨(by simp only[go_sem,K5,f5,Im]<;>rfl),hf⟩ rfl
  obtain⟨t,ht⟩:∃t,x.args[i]? = some t:=⟨_,FB hlt⟩;have hwr:KZ .i64 (Fq i+1)=Fq (i+1):=Lh Fh;obtain⟨b,o,c,rfl,_,_,t3,_,_⟩:=Ij (hu.frm hf fun _ _ h=>h) ht;obtain⟨w2,s2,c2,r2,n2⟩:=Oj w (zs:=[V.int .i64 0,V.str [],V.int .i64 0]) (vs:=tmC t) rfl rfl;have hf2:=hf.tr r2;have k0:w2.load w.next 0 1=some [.int .i64 (Fq t.kind)]:=by rw[c2.load];rfl
  have k1:w2.load w.next 1 1=some [.str t.name]:=by rw[c2.load];rfl
  have lm:w2.load bw 1 1=some [.map mb]:=by rw[(hc.frm hf2 fun h=>h).load];rfl
  have hcl:(x.args.take i).countP (Il bd)≤i:=by have:=List.countP_le_length (p:=Il bd) (l:=x.args.take i);rw[FU]at this;omega
  have hwc:KZ .i64 (Fq ((x.args.take i).countP (Il bd))+1)=Fq ((x.args.take i).countP (Il bd)+1):=Lh Fh
  have e:(x.args.take (i+1)).countP (Il bd)=(x.args.take i).countP (Il bd)+(if Il bd t=true then 1 else 0):=by
   rw[EY ht,List.countP_append];simp[List.countP_cons]
  by_cases hk:t.kind=1
  case neg =>
   have hb:Il bd t=true:=decide_eq_true (.inl hk);rw[if_pos hb]at e;refine Fz (by simp only[go_sem,K5,Yw,WW,WV,Gb,f5,f9,f10,f11,hlt,t3,s2,SA,k0,hk,hwr,hwc];rfl) ?_;exact ih _ _ _ Fh ⟨i+1,(Fg f0),by rw[e];exact Fb,(Fg f9),(Fg f10),Fb,by omega,rfl,hf2⟩
  have k0':w2.load w.next 0 1=some [.int .i64 1]:=by rw[k0,hk];rfl
  obtain⟨n,hn1,hn2,hn3⟩:=MQ hs t.name;have look:=(hM.frm hf2 fun h=>h).look BB (.int .i64 0) t.name;rw[hn3]at look;by_cases hm:n=0
  ·have hb:¬Il bd t=true:=by simp[Il,hk,hn2.1 hm]
   rw[if_neg hb]at e;subst hm;refine Fz (by simp only[go_sem,K5,Yw,WW,WV,f0,f9,f10,f11,hlt,t3,s2,SA,k0',k1,lm,look,hwr,Kl];rfl) ?_;exact ih _ _ _ Fh ⟨i+1,(Fg f0),by rw[e];exact (Fg f5),(Fg f9),(Fg f10),Fb,by omega,rfl,hf2⟩
  ·have hin:t.name∈bd:=Classical.byContradiction fun hc=>hm (hn2.2 hc);have hb:Il bd t=true:=decide_eq_true (.inr hin);rw[if_pos hb]at e;have h0:0<n:=Fh;refine Fz (by simp only[go_sem,K5,Yw,WW,WV,Gb,f0,f5,f9,f10,f11,hlt,t3,s2,SA,k0',k1,lm,look,h0,hwr,hwc];rfl) ?_;exact ih _ _ _ Fh ⟨i+1,(Fg f0),by rw[e];exact Fb,(Fg f9),(Fg f10),Fb,by omega,rfl,hf2⟩
 ·rintro f w ⟨f5,hf⟩;refine Fz (by simp only[go_sem,K5,f5];rfl) ?_;refine K7 ⟨_,by simp only[go_sem,K5,WY];rfl,?_⟩;exact h w hf
end
section
open Go.AE Delphi
variable {tab:Tab}
abbrev IM:=MB (α:=Int) (β:=Int) (V.int .i64) (V.int .i64)
structure WkS (a w:AW) (T:Fw) (body:List Lt) (u:V) (bw mb md:Nat) (s:Oo) (ov bv:V) (So Sb:Fw) (M:Ps) (D:List (Int×Int)) (k:Nat):Prop where
 frm:Frm (fun _=>False) a w
 lits:RdL (LtC T) T a u 3 body
 cell:CB w bw [u,.map mb,.map md,ov,bv]
 mB:SM w mb M
 seen:Seen M s.2 k
 mD:IM w md D
 dn:∀j:Nat,K8 D (Fq j)=if j∈s.1 then some 1 else none
 ord:Bt So w ov 1 s.1.length (Bw s.1)
 bnd:Bt Sb w bv 1 s.2.length (LY s.2)
 ge:a.next≤bw∧a.next≤mb∧a.next≤md∧bw≠mb∧bw≠md∧mb≠md
 sepO:∀x,So x→a.next≤x∧x<w.next∧x≠bw∧x≠mb∧x≠md∧¬Sb x
 sepB:∀x,Sb x→a.next≤x∧x<w.next∧x≠bw∧x≠mb∧x≠md
 inv:PlInv body s
variable {a w:AW} {T So Sb:Fw} {body:List Lt} {u ov bv:V} {bw mb md k:Nat} {s:Oo} {M:Ps} {D:List (Int×Int)}
theorem WkS.ext {w2:AW}(h:WkS a w T body u bw mb md s ov bv So Sb M D k)(hf:Frm (fun _=>False) w w2):WkS a w2 T body u bw mb md s ov bv So Sb M D k:=
 have nx:=hf.next
 ⟨h.frm.tr hf,h.lits,h.cell.frm hf fun h=>h,h.mB.frm hf fun h=>h,h.seen,h.mD.frm hf fun h=>h,h.dn,h.ord.frm hf fun _ _ h=>h,h.bnd.frm hf fun _ _ h=>h,h.ge,fun x hx=>by have h1:=h.sepO x hx;exact⟨h1.1,by omega,h1.2.2⟩,fun x hx=>by have h1:=h.sepB x hx;exact⟨h1.1,by omega,h1.2.2⟩,h.inv⟩
theorem WkS.lit (h:WkS a w T body u bw mb md s ov bv So Sb M D k){i:Nat}{t:Lt}(hi:body[i]? = some t): ∃b o c v,u = .slice b o body.length c∧w.load b (o+i*3) 3=some [.int .i64 (Fq t.kind),.str t.name,v]∧w.load b (o+i*3) 1=some [.int .i64 (Fq t.kind)]∧w.load b (o+i*3+2) 1=some [v]∧Rd T w v 3 t.args.length (L8 t.args):=by
 obtain⟨b,o,c,v,h1,_,_,h2,h4,_,h5,h3⟩:=Dy (h.lits.frm (fun _ _ hl=>hl.frm h.frm fun _ _ h=>h) h.frm fun _ _ h=>h) hi;exact⟨b,o,c,v,h1,h2,h4,h5,h3⟩
theorem WkS.done (h:WkS a w T body u bw mb md s ov bv So Sb M D k)(i:Nat): w.lookV (.scalar .int) (.int .i64 0) (.map md) (.int .i64 (Fq i))=some (if i∈s.1 then (V.int .i64 1,true)else (V.int .i64 0,false)):=by
 rw[h.mD.look JrK (.int .i64 0) (Fq i),h.dn i];by_cases hm:i∈s.1
 ·rw[if_pos hm,if_pos hm];rfl
 ·rw[if_neg hm,if_neg hm];rfl
def BsI (a:AW) (T:Fw) (body:List Lt) (u:V) (bw mb md bq:Nat) (s:Oo) (ov bv:V) (So Sb:Fw) (M:Ps) (D:List (Int×Int)) (k:Nat) (w0:AW) (q:Nat) (f:Fr) (w:AW):Prop :=
 ∃i ks qv S,f.get 0=some (.ptr bw 0)∧f.get 3=some (.ptr bq 0)∧f.get 15=some u∧f.get 16=some (.int .i64 (Fq body.length))∧f.get 17=some (.int .i64 (Fq i))∧i≤body.length∧q=body.length-i∧
  CB w bq [qv]∧QQ S w qv ks∧(ks=[]∨Dk ks)∧(∀y,y∈ks↔∃j,j<i∧Bq body s j=true∧y=TJ body s j)∧ks.length≤i∧(∀y,S y→w0.next≤y∧y<w.next∧y≠bq)∧Frm (fun _=>False) w0 w∧WkS a w T body u bw mb md s ov bv So Sb M D k
theorem JuA (C:Codes tab){w0:AW}(hA:WkS a w0 T body u bw mb md s ov bv So Sb M D k)(hb7:body.length≤7)(hargs:∀x∈body,x.args.length≤5)(hex:∃i,Bq body s i=true)(h:∀i w,DK body s i→Frm (fun _=>False) w0 w→K (.int .i64 (Fq i)) w):WF tab GM [.ptr bw 0] w0 K:=by
 refine Ld C.Wm rfl ?_;have g1:=LZ (S:=fun _=>False) w0 [];have m1:(w0.fresh []).next=w0.next+1:=rfl;generalize hw1:w0.fresh []=w1 at g1 m1;have g2:=LZ (S:=fun _=>False) w1 [V.slice w0.next 0 0 (.known 0)];have m2:(w1.fresh [V.slice w0.next 0 0 (.known 0)]).next=w1.next+1:=rfl;have c2:=OQ w1 [V.slice w0.next 0 0 (.known 0)];generalize hw2:w1.fresh [V.slice w0.next 0 0 (.known 0)]=w2 at g2 m2 c2;have hA2:=(hA.ext g1).ext g2;have ld0:w2.load bw 0 1=some [u]:=by rw[hA2.cell.load];rfl
 have hlv:=Cx hA.lits;have hl0:([]:List V).length=0:=rfl;have hA0:=hA;refine Fz (by simp only[go_sem,K5,Yo,Jak,Lg,Lj,hw1,hw2,ld0,hlv,FD];rfl) ?_
 refine LK (BsI a T body u bw mb md w1.next s ov bv So Sb M D k w0) (fun f w=>∃ks qv S,f.get 3=some (.ptr w1.next 0)∧CB w w1.next [qv]∧QQ S w qv ks∧(ks=[]∨Dk ks)∧(∀y,y∈ks↔∃j,Bq body s j=true∧y=TJ body s j)∧ks.length≤7∧(∀y,S y→w0.next≤y∧y<w.next∧y≠w1.next)∧Frm (fun _=>False) w0 w) ?_ ?_ body.length
  ⟨0,[],_,fun _=>False,Fb,Fb,Fb,Fb,Fb,by omega,rfl,c2,.inl ⟨rfl,_,rfl⟩,.inl rfl,fun y=>⟨fun h=>(by simp at h),fun⟨j,hj,_⟩=>by omega⟩,by simp,fun _ h=>h.elim,g1.tr g2,hA2⟩
 ·rintro q f w ⟨i,ks,qv,S,f0,f3,f15,f16,f17,hi,rfl,hc,hQ,hm,hmem,hl,hS,hf,hA⟩ ih exit;by_cases hlt:i<body.length
  case neg =>
   refine Lb 1000 (by simp only[go_sem,Wl,f16,f17,hlt];rfl) ?_;refine exit _ _ _ ⟨ks,qv,S,(Fg f3),hc,hQ,hm,fun y=>?_,by omega,hS,hf⟩ rfl;rw[hmem];exact⟨fun⟨j,_,h⟩=>⟨j,h⟩,fun⟨j,h1,h2⟩=>⟨j,by have:=Eg h1;omega,h1,h2⟩⟩
  obtain⟨t,ht⟩:∃t,body[i]? = some t:=⟨_,FB hlt⟩;have hla:Le body i=t:=Tu ht;have ha5:=hargs t (FI ht);have hwr:KZ .i64 (Fq i+1)=Fq (i+1):=Lh Fh;obtain⟨b,o,c,v,rfl,a3,_,_,hrv⟩:=hA.lit ht;have hone:Lv [V.int .i64 (Fq t.kind),.str t.name,v]=true:=by rcases hrv.inv with⟨rfl,_⟩|⟨_,_,_,rfl,_⟩<;>rfl
  obtain⟨w3,s3,c3,r3,n3⟩:=Oj w (zs:=[V.int .i64 0,V.str [],V.nilslice]) (vs:=[V.int .i64 (Fq t.kind),.str t.name,v]) rfl hone;have hA3:=hA.ext r3;have k3:w3.load w.next 0 3=some [.int .i64 (Fq t.kind),.str t.name,v]:=c3.all rfl;refine Fz (by simp only[go_sem,K5,Wl,Jaj,Jai,f0,f15,f16,f17,hlt,a3,s3,k3,FC,FD];rfl) ?_;refine K9 Ff Fe ?_;refine JsV C hA3.cell hA3.mB hA3.seen (x:=t) ⟨v,rfl,hrv.frm r3 fun _ _ h=>h⟩ Fh fun w4 g4=>?_;have hA4:=hA3.ext g4;have c4:=c3.frm g4 fun h=>h;have k0:w4.load w.next 0 1=some [.int .i64 (Fq t.kind)]:=by rw[c4.load];rfl
  have k2:w4.load w.next 2 1=some [v]:=by rw[c4.load];rfl
  have lmd:w4.load bw 2 1=some [.map md]:=by rw[hA4.cell.load];rfl
  have hvl:=hrv.lenV;have f34:Frm (fun _=>False) w w4:=r3.tr g4;have hc4:=hc.frm f34 fun h=>h;have nx4:=f34.next;have hQ4:QQ S w4 qv ks:=hQ.imp (fun h=>h) fun⟨h1,h2⟩=>⟨h1,h2.frm f34 fun _ _ h=>h⟩;have hS4:∀y,S y→w0.next≤y∧y<w4.next∧y≠w1.next:=fun y hy=>by have:=hS y hy;exact⟨this.1,by omega,this.2.2⟩
  have hf4:=hf.tr f34;have hdn:=hA4.done i
  have skip:Bq body s i=false→∀y,y∈ks↔∃j,j<i+1∧Bq body s j=true∧y=TJ body s j:=by
   intro hnc y;rw[hmem];constructor
   ·rintro⟨j,h1,h2⟩;exact⟨j,by omega,h2⟩
   ·rintro⟨j,h1,h2,h3⟩;refine⟨j,?_,h2,h3⟩;by_cases e:j=i
    ·subst e;rw[hnc]at h2;cases h2
    ·omega
  by_cases hd:i∈s.1
  ·have hnc:Bq body s i=false:=JnR fun h=>h.2.1 hd;rw[if_pos hd]at hdn;refine Fz (by simp only[go_sem,K5,Yn,f0,k0,lmd,hdn,f17,hwr];rfl) ?_;exact ih _ _ _ Fh ⟨i+1,ks,qv,S,(Fg f0),(Fg f3),(Fg f15),(Fg f16),Fb,by omega,rfl,hc4,hQ4,hm,skip hnc,by omega,hS4,hf4,hA4⟩
  rw[if_neg hd]at hdn
  have hxd:∀n a,∀y∈ks,y.2.2≠((a,n,i):Ky).2.2:=by
   intro n a y hy;obtain⟨j,hj,_,rfl⟩:=(hmem y).1 hy;show j≠i;omega
  have push:∀{fr:Fr} {n:Nat} {at':Bool},Bq body s i=true→TJ body s i=(at',n,i)→fr.get 0=some (.ptr bw 0)→fr.get 3=some (.ptr w1.next 0)→fr.get 4=some (.int .i64 (Fq i))→fr.get 6=some (.int .i64 (Fq n))→fr.get 7=some (.bool at')→fr.get 15=some (.slice b o body.length c)→fr.get 16=some (.int .i64 (Fq body.length))→fr.get 17=some (.int .i64 (Fq i))→WS tab (.code UX :: .endB 1 :: .code (.region [⟨some 56,none,.bin .add (.tmp 17) (.const (.int .i64 1))⟩,⟨some 17,none,.mov (.tmp 56)⟩]) :: .code (.loop Wl) :: .endB 0::[.code UY]) fr w4 fun fr' a=>∃vs,Ox fr' a Yo.results=some vs∧K (Oy vs) a:=by
   intro fr n at' hcand hkey f0 f3 f4 f6 f7 f15 f16 f17;have ov1:over [V.int .i64 0,V.bool false,V.int .i64 0] 0 [V.int .i64 (Fq i)]=some [V.int .i64 (Fq i),V.bool false,V.int .i64 0]:=rfl;have ov2:over [V.int .i64 (Fq i),V.bool false,V.int .i64 0] 1 [V.bool at']=some [V.int .i64 (Fq i),V.bool at',V.int .i64 0]:=rfl;have ov3:over [V.int .i64 (Fq i),V.bool at',V.int .i64 0] 2 [V.int .i64 (Fq n)]=some (kyC (at',n,i)):=rfl;refine Fz (by simp only[go_sem,K5,UX,f3,f4,f6,f7,Lg,Lj,ov1,ov2,ov3,FC,FD];rfl) ?_;refine K9 Ff Fe ?_;refine Jtj C hc4 hQ4 Fh (fun y hy=>(hS4 y hy).2) hm (hxd n at') fun w5 v5 S5 ks5 q1 q2 q3 q4 q5 q6 q7=>?_
   have f5:Frm (fun _=>False) w0 w5:=hf4.trans q3 (fun _ _ h=>h) fun y hy h=>by
    rcases h with h|rfl
    ·have:=(hS4 y h).1;omega
    ·have:=hc4.lt;omega
   have hA5:=hA0.ext f5;have n5:=q3.next;refine Fz (by simp only[go_sem,K5,f17,hwr];rfl) ?_;refine ih _ _ _ Fh ⟨i+1,ks5,v5,S5,(Fg f0),(Fg f3),(Fg f15),(Fg f16),Fb,by omega,rfl,q1,.inr ⟨fun h=>by rw[h]at q5;simp at q5,q2⟩,.inr q7,fun y=>?_,by omega,fun y hy=>?_,f5,hA5⟩
   ·rw[q6,hmem];constructor
    ·rintro (⟨j,h1,h2⟩|rfl)
     ·exact⟨j,by omega,h2⟩
     ·exact⟨i,by omega,hcand,hkey.symm⟩
    ·rintro⟨j,h1,h2,rfl⟩;by_cases e:j=i
     ·subst e;exact .inr hkey
     ·exact .inl ⟨j,by omega,h2,rfl⟩
   ·obtain⟨p1,p2,p3⟩:=q4 y hy;have:=hf4.next;rcases p3 with p3|p3
    ·exact⟨(hS4 y p3).1,p1,p2⟩
    ·exact⟨by omega,p1,p2⟩
  by_cases hk:t.kind=1
  ·have hcand:Bq body s i=true:=decide_eq_true ⟨hlt,hd,.inl (by rw[hla];exact hk)⟩;have k0':w4.load w.next 0 1=some [.int .i64 1]:=by rw[k0,hk];rfl
   refine Lb 1000 (by simp only[go_sem,K5,Yn,f0,k0',lmd,hdn,Kl];rfl) ?_;exact push (n:=Im s.2 t) (at':=true) hcand (by simp[TJ,hla,hk]) (Fg f0) (Fg f3) Fb Fb Fb (Fg f15) (Fg f16) (Fg f17)
  ·by_cases hlt2:Im s.2 t<t.args.length
   ·have hnc:Bq body s i=false:=JnR fun h=>by rw[hla]at h;exact h.2.2.elim hk fun h=>by omega
    refine Fz (by simp only[go_sem,K5,Yn,f0,k0,hk,lmd,hdn,k2,hvl,hlt2,f17,hwr,Kl];rfl) ?_;exact ih _ _ _ Fh ⟨i+1,ks,qv,S,(Fg f0),(Fg f3),(Fg f15),(Fg f16),Fb,by omega,rfl,hc4,hQ4,hm,skip hnc,by omega,hS4,hf4,hA4⟩
   ·have hle:=JuD (bd:=s.2) (x:=t);have hcand:Bq body s i=true:=decide_eq_true ⟨hlt,hd,.inr (by rw[hla];omega)⟩;refine Lb 1000 (by simp only[go_sem,K5,Yn,f0,k0,hk,lmd,hdn,k2,hvl,hlt2,Kl];rfl) ?_;exact push (n:=0) (at':=false) hcand (by simp[TJ,hla,hk]) (Fg f0) (Fg f3) Fb Fb Fb (Fg f15) (Fg f16) (Fg f17)
 ·rintro f w ⟨ks,qv,S,f3,hc,hQ,hm,hmem,hl,hS,hf⟩;rcases hQ with⟨rfl,_⟩|⟨hne,hB⟩
  ·obtain⟨i,hi⟩:=hex;have:=(hmem (TJ body s i)).2 ⟨i,hi,rfl⟩;simp at this
  rcases hm with rfl|⟨m,hm0,hmin⟩
  ·exact absurd rfl hne
  obtain⟨n,hn⟩:∃n,ks.length=n+1:=⟨ks.length-1,by have:=List.length_pos_iff.2 hne;omega⟩;obtain⟨j,hj,rfl⟩:=(hmem m).1 (FI hm0)
  have hbest:DK body s j:=by
   refine⟨hj,fun j' hj' hn=>?_⟩;rcases hmin _ ((hmem _).2 ⟨j',hj',rfl⟩)with h|h
   ·exact absurd (congrArg (fun k:Ky=>k.2.2) h) hn
   ·exact h
  refine Fz (by simp only[go_sem,K5,UY,f3];rfl) ?_;refine K9 Ff Fe ?_;refine JuY C hc hB hn Fh hm0 (fun h=>(hS _ h).2.2 rfl) fun w3 f3=>?_;obtain⟨w4,s4,c4,r4,n4⟩:=Oj w3 (zs:=[V.int .i64 0,V.bool false,V.int .i64 0]) (vs:=kyC (TJ body s j)) rfl rfl;have l4:w4.load w3.next 0 1=some [.int .i64 (Fq j)]:=by rw[c4.load];rfl
  have kl:(kyC (TJ body s j)).length=3:=rfl;refine Fz (by simp only[go_sem,K5,s4,l4,kl,FC,FD];rfl) ?_;refine K7 ⟨_,by simp only[go_sem,K5,Yo];rfl,?_⟩;refine h j w4 hbest ?_;refine (hf.trans f3 (fun _ _ h=>h) ?_).tr r4;rintro y hy (h|rfl)
  ·have:=(hS y h).1;omega
  ·omega
end
end Go.Proofs.YtegdcbdicpfbpaaGreatDoor
namespace Delphi
theorem JmT {out:Fx}{t:Tm}(h:out.Nodup):(BU out t).Nodup:=by
 unfold BU;split
 ·rename_i hc;rw[List.nodup_append];refine⟨h,by simp,?_⟩;intro a ha b hb;rw[Ko]at hb;rintro rfl;exact hc.2 (hb▸ha)
 ·exact h
theorem Jos (l:List Tm):(Ol l).Nodup:=by
 have:∀(l:List Tm) (out:Fx),out.Nodup→(l.foldl BU out).Nodup:=by
  intro l;induction l with
  | nil=>intro out h;exact h
  | cons t l ih=>intro out h;exact ih _ (JmT h)
 exact this l [] List.nodup_nil
theorem JoM (bd:Fx)(x:Lt):I7 bd x=(Ol x.args).filter fun v=>decide (v∉bd):=by
 have:∀(l:List Tm) (out out':Fx),out=out'.filter (fun v=>decide (v∉bd))→l.foldl (SX bd) out=(l.foldl BU out').filter fun v=>decide (v∉bd):=by
  intro l;induction l with
  | nil=>intro out out' h;exact h
  | cons t l ih =>
   intro out out' h;refine ih _ _ ?_;by_cases hk:t.kind=1
   ·by_cases hb:t.name∈bd
    ·have e1:SX bd out t=out:=if_neg fun h=>h.2.1 hb;rw[e1,h];unfold BU;split
     ·rw[List.filter_append];simp[hb]
     ·rfl
    ·have hm:t.name∈out↔t.name∈out':=by rw[h,KI];simp[hb]
     by_cases ho:t.name∈out'
     ·have e1:SX bd out t=out:=if_neg fun h=>h.2.2 (hm.2 ho);have e2:BU out' t=out':=if_neg fun h=>h.2 ho;rw[e1,e2,h]
     ·have e1:SX bd out t=out++[t.name]:=if_pos ⟨hk,hb,fun h=>ho (hm.1 h)⟩;have e2:BU out' t=out'++[t.name]:=if_pos ⟨hk,ho⟩;rw[e1,e2,List.filter_append,h];simp[hb]
   ·have e1:SX bd out t=out:=if_neg fun h=>hk h.1;have e2:BU out' t=out':=if_neg fun h=>hk h.1;rw[e1,e2,h]
 exact this x.args [] [] rfl
variable {bd:Fx}
theorem JtH {x:Lt}(h:Im bd x=x.args.length):I7 bd x=[]:=by
 rw[List.eq_nil_iff_forall_not_mem];intro v hv;obtain⟨h1,t,ht,hk,rfl⟩:=mem_newV.1 hv;exact h1 (bndN_full.1 h t ht hk)
def TU (bd vs:Fx) (j:Nat):Fx:=bd++(vs.take j).filter fun v=>decide (v∉bd)
variable {v:List Nat}
theorem JsN {vs:Fx}(hn:vs.Nodup){j:Nat}(hj:vs[j]? = some v):v∈TU bd vs j↔v∈bd:=by
 simp only[TU,Ka,KI,decide_eq_true_eq];constructor
 ·rintro (h|⟨h,h2⟩)
  ·exact h
  ·exfalso;obtain⟨p,hp⟩:=List.getElem?_of_mem h
   have hpj:p<j:=by
    have:p<(vs.take j).length:=(List.getElem?_eq_some_iff.1 hp).1;rw[FU]at this;omega
   rw[Kt hpj]at hp;have hjl:j<vs.length:=(List.getElem?_eq_some_iff.1 hj).1;have hpl:p<vs.length:=Fh;have:=List.pairwise_iff_getElem.1 hn p j hpl hjl hpj;rw[FB hpl]at hp;rw[FB hjl]at hj;exact this ((FY hp).trans (FY hj).symm)
 ·exact .inl
theorem Jq8 {vs:Fx}{j:Nat}(hj:vs[j]? = some v):TU bd vs (j+1)=if v∈bd then TU bd vs j else TU bd vs j++[v]:=by
 have:vs.take (j+1)=vs.take j++[v]:=by rw[List.take_add_one,hj];rfl
 simp only[TU,this,List.filter_append];by_cases h:v∈bd
 ·simp[h]
 ·simp[h]
end Delphi
namespace Go.Proofs.YtegdcbdicpfbpaaGreatDoor
open Go.AE Delphi
variable {tab:Tab}
structure WkM (a w:AW) (T:Fw) (body:List Lt) (u:V) (bw mb md:Nat) (l:List Nat) (bd:Fx) (ov bv:V) (So Sb:Fw) (M:Ps) (D:List (Int×Int)) (k:Nat):Prop where
 frm:Frm (fun _=>False) a w
 lits:RdL (LtC T) T a u 3 body
 cell:CB w bw [u,.map mb,.map md,ov,bv]
 mB:SM w mb M
 seen:Seen M bd k
 mD:IM w md D
 dn:∀j:Nat,K8 D (Fq j)=if j∈l then some 1 else none
 ord:Bt So w ov 1 l.length (Bw l)
 bnd:Bt Sb w bv 1 bd.length (LY bd)
 ge:a.next≤bw∧a.next≤mb∧a.next≤md∧bw≠mb∧bw≠md∧mb≠md
 sepO:∀x,So x→a.next≤x∧x<w.next∧x≠bw∧x≠mb∧x≠md∧¬Sb x
 sepB:∀x,Sb x→a.next≤x∧x<w.next∧x≠bw∧x≠mb∧x≠md
variable {a w:AW} {T So Sb:Fw} {body:List Lt} {u ov bv:V} {bw mb md k:Nat} {M:Ps} {D:List (Int×Int)}
theorem WkS.m {s:Oo}(h:WkS a w T body u bw mb md s ov bv So Sb M D k):WkM a w T body u bw mb md s.1 s.2 ov bv So Sb M D k:=⟨h.frm,h.lits,h.cell,h.mB,h.seen,h.mD,h.dn,h.ord,h.bnd,h.ge,h.sepO,h.sepB⟩
theorem WkM.s {s:Oo}(h:WkM a w T body u bw mb md s.1 s.2 ov bv So Sb M D k)(hi:PlInv body s):WkS a w T body u bw mb md s ov bv So Sb M D k:=⟨h.frm,h.lits,h.cell,h.mB,h.seen,h.mD,h.dn,h.ord,h.bnd,h.ge,h.sepO,h.sepB,hi⟩
variable {l:List Nat}
theorem WkM.ext {w2:AW}{bd:Fx}(h:WkM a w T body u bw mb md l bd ov bv So Sb M D k)(hf:Frm (fun _=>False) w w2):WkM a w2 T body u bw mb md l bd ov bv So Sb M D k:=
 have nx:=hf.next
 ⟨h.frm.tr hf,h.lits,h.cell.frm hf fun h=>h,h.mB.frm hf fun h=>h,h.seen,h.mD.frm hf fun h=>h,h.dn,h.ord.frm hf fun _ _ h=>h,h.bnd.frm hf fun _ _ h=>h,h.ge,fun x hx=>by have h1:=h.sepO x hx;exact⟨h1.1,by omega,h1.2.2⟩,fun x hx=>by have h1:=h.sepB x hx;exact⟨h1.1,by omega,h1.2.2⟩⟩
theorem WkM.take1 {i:Nat}{bd:Fx}(h:WkM a w T body u bw mb md l bd ov bv So Sb M D k)(hl:l.length≤100): ∃w2 ov' w5 S5 D',w.putV (.scalar .int) (.map md) (.int .i64 (Fq i)) (.int .i64 1)=some w2∧(w2.fresh [.int .i64 (Fq i)]).appendV 1 8 ov 1 [.int .i64 (Fq i)]=some (ov',w5)∧w5.store bw 3 [ov']=some (w5.put bw [u,.map mb,.map md,ov',bv])∧CB w2 bw [u,.map mb,.map md,ov,bv]∧CB (w2.fresh [.int .i64 (Fq i)]) bw [u,.map mb,.map md,ov,bv]∧ov'.cells=[ov']∧WkM a (w5.put bw [u,.map mb,.map md,ov',bv]) T body u bw mb md (l++[i]) bd ov' bv S5 Sb M D' k:=by
 obtain⟨g1,g2,g3,g4,g5,g6⟩:=h.ge;obtain⟨w2,p1,p2,p3,p4⟩:=h.mD.put JrK (Fq i) 1;have hc2:=h.cell.frm p3 (by show ¬bw=md;exact g5);have hb2:=h.mB.frm p3 (by show ¬mb=md;exact g6);have ho2:=h.ord.frm p3 fun x hx he=>(h.sepO x hx).2.2.2.2.1 he;have hbn2:=h.bnd.frm p3 fun x hx he=>(h.sepB x hx).2.2.2.2 he;have hSo:∀b,So b→b<w2.next:=fun b hb=>by rw[p4];exact (h.sepO b hb).2.1
 obtain⟨ov',w5,S5,u1,u2,u3,u4⟩:=ho2.push (news:=[V.int .i64 (Fq i)]) (bytes:=8) hSo Fh rfl rfl Fh Fh;have nw:¬So bw:=fun hx=>(h.sepO _ hx).2.2.1 rfl;have nb:¬So mb:=fun hx=>(h.sepO _ hx).2.2.2.1 rfl;have nd:¬So md:=fun hx=>(h.sepO _ hx).2.2.2.2.1 rfl;have hc5:=hc2.frm u3 nw;have st:=hc5.set (i:=3) (v:=ov') Fj u2.one.1;have pf:Frm (fun x=>x=bw) w5 (w5.put bw [u,.map mb,.map md,ov',bv]):=LW;have nx:=u3.next;have hfa:=h.frm.next;have lw:=h.cell.lt;have lmb:=h.mB.lt;have lmd:=h.mD.lt
 have sS5:∀x,S5 x→a.next≤x∧x<w5.next∧x≠bw∧x≠mb∧x≠md∧¬Sb x:=by
  intro x hx;obtain⟨m1,m2⟩:=u4 x hx;rcases m2 with m2|m2
  ·have h1:=h.sepO x m2;exact⟨h1.1,m1,h1.2.2⟩
  ·exact⟨by omega,m1,by omega,by omega,by omega,fun hb=>by have:=(h.sepB x hb).2.1;omega⟩
 refine⟨w2,ov',w5,S5,_,p1,u1,st,hc2,hc2.frm (LZ (S:=fun _=>False) _ _) fun h=>h,u2.one.2,⟨?_,h.lits,Oc hc5.lt,(hb2.frm u3 nb).frm pf (fun e=>g4 e.symm),h.seen,(p2.frm u3 nd).frm pf (fun e=>g5 e.symm),?_,?_,(hbn2.frm u3 fun x hx hs=>(h.sepO x hs).2.2.2.2.2 hx).frm pf fun x hx=>(h.sepB x hx).2.2.1,h.ge,fun x hx=>sS5 x hx,fun x hx=>?_⟩⟩
 ·refine ((h.frm.trans p3 (fun _ _ h=>h) ?_).trans u3 (fun _ _ h=>h) fun x hx hs=>by have:=(h.sepO x hs).1;omega).out Fh rfl;rintro x hx rfl;omega
 ·intro j;by_cases e:j=i
  ·subst e;rw[Bd,if_pos Fj]
  ·have e2:Fq j≠Fq i:=fun h=>e (Int.ofNat.inj h);rw[Ti _ _ _ _ e2,h.dn j];by_cases hm:j∈l
   ·rw[if_pos hm,if_pos (by simp[hm])]
   ·rw[if_neg hm,if_neg (by simp[hm,e])]
 ·have e:Bw (l++[i])=Bw l++[V.int .i64 (Fq i)]:=by simp[Bw]
  rw[e,FE,Kb];exact u2.frm pf fun x hx=>(sS5 x hx).2.2.1
 ·have h1:=h.sepB x hx;exact⟨h1.1,by have:(w5.put bw [u,.map mb,.map md,ov',bv]).next=w5.next:=rfl;omega,h1.2.2⟩
section
open Go.AE Delphi
variable {tab:Tab}
variable {bd:Fx}
theorem Seen.mono {k':Nat}(h:Seen M bd k)(hk:k≤k'):Seen M bd k':=fun x=>⟨(h x).1,fun c hc=>by have:=(h x).2 c hc;omega⟩
theorem WkM.up {k':Nat}(h:WkM a w T body u bw mb md l bd ov bv So Sb M D k)(hk:k≤k'):WkM a w T body u bw mb md l bd ov bv So Sb M D k':=⟨h.frm,h.lits,h.cell,h.mB,Seen.mono h.seen hk,h.mD,h.dn,h.ord,h.bnd,h.ge,h.sepO,h.sepB⟩
theorem WkM.cnt {n:Nat}{v:List Nat}(h:WkM a w T body u bw mb md l bd ov bv So Sb M D k)(hn:n≤k): ∃w2,w.putV (.scalar .str) (.map mb) (.str v) (.int .i64 (Fq (n+1)))=some w2∧Frm (fun x=>x=mb) w w2∧w2.next=w.next∧SM w2 mb (Ob M v (Fq (n+1)))∧ (v∈bd→WkM a w2 T body u bw mb md l bd ov bv So Sb (Ob M v (Fq (n+1))) D (k+1))∧ (v∉bd→bd.length≤1000→CB w2 bw [u,.map mb,.map md,ov,bv]∧∃bv' w5 S5,(w2.fresh [.str v]).appendV 1 16 bv 1 [.str v]=some (bv',w5)∧w5.store bw 4 [bv']=some (w5.put bw [u,.map mb,.map md,ov,bv'])∧bv'.cells=[bv']∧WkM a (w5.put bw [u,.map mb,.map md,ov,bv']) T body u bw mb md l (bd++[v]) ov bv' So S5 (Ob M v (Fq (n+1))) D (k+1)∧ Frm (fun x=>x=mb∨x=bw∨Sb x) w (w5.put bw [u,.map mb,.map md,ov,bv'])∧∀x,S5 x→Sb x∨w.next≤x):=by
 obtain⟨g1,g2,g3,g4,g5,g6⟩:=h.ge;obtain⟨w2,p1,p2,p3,p4⟩:=h.mB.put BB v (Fq (n+1));have hc2:=h.cell.frm p3 (by show ¬bw=mb;exact g4);have hd2:=h.mD.frm p3 (by show ¬md=mb;exact fun e=>g6 e.symm);have ho2:=h.ord.frm p3 fun x hx he=>(h.sepO x hx).2.2.2.1 he;have hbn2:=h.bnd.frm p3 fun x hx he=>(h.sepB x hx).2.2.2.1 he;have hfa:=h.frm.next;have lw:=h.cell.lt;have lmb:=h.mB.lt;have lmd:=h.mD.lt;have f02:Frm (fun _=>False) a w2:=h.frm.trans p3 (fun _ _ h=>h) (by rintro x hx rfl;omega);refine⟨w2,p1,p3,p4,p2,fun hv=>?_,fun hv hl=>?_⟩
 ·have hs:=Q6 (out':=bd) h.seen hn (k:=v) fun x=>⟨.inl,fun h=>h.elim id fun h=>h▸hv⟩;exact⟨f02,h.lits,hc2,p2,hs,hd2,h.dn,ho2,hbn2,h.ge,fun x hx=>by have h1:=h.sepO x hx;exact⟨h1.1,by omega,h1.2.2⟩,fun x hx=>by have h1:=h.sepB x hx;exact⟨h1.1,by omega,h1.2.2⟩⟩
 ·have hs:=Q6 (out':=bd++[v]) h.seen hn (k:=v) fun x=>by simp
  have hSb:∀b,Sb b→b<w2.next:=fun b hb=>by rw[p4];exact (h.sepB b hb).2.1
  obtain⟨bv',w5,S5,u1,u2,u3,u4⟩:=hbn2.push (news:=[V.str v]) (bytes:=16) hSb Fh rfl rfl Fh Fh;have nw:¬Sb bw:=fun hx=>(h.sepB _ hx).2.2.1 rfl;have nb:¬Sb mb:=fun hx=>(h.sepB _ hx).2.2.2.1 rfl;have nd:¬Sb md:=fun hx=>(h.sepB _ hx).2.2.2.2 rfl;have hc5:=hc2.frm u3 nw;have st:=hc5.set (i:=4) (v:=bv') Fj u2.one.1;have pf:Frm (fun x=>x=bw) w5 (w5.put bw [u,.map mb,.map md,ov,bv']):=LW;have nx:=u3.next
  have sS5:∀x,S5 x→a.next≤x∧x<w5.next∧x≠bw∧x≠mb∧x≠md:=by
   intro x hx;obtain⟨m1,m2⟩:=u4 x hx;rcases m2 with m2|m2
   ·have h1:=h.sepB x m2;exact⟨h1.1,m1,h1.2.2⟩
   ·exact⟨by omega,m1,by omega,by omega,by omega⟩
  refine⟨hc2,bv',w5,S5,u1,st,u2.one.2,⟨(f02.trans u3 (fun _ _ h=>h) fun x hx hs=>by have:=(h.sepB x hs).1;omega).out Fh rfl,h.lits,Oc hc5.lt,(p2.frm u3 nb).frm pf (fun e=>g4 e.symm),hs,(hd2.frm u3 nd).frm pf (fun e=>g5 e.symm),h.dn,(ho2.frm u3 fun x hx hs=>(h.sepO x hx).2.2.2.2.2 hs).frm pf fun x hx=>(h.sepO x hx).2.2.1,?_,h.ge,fun x hx=>?_,fun x hx=>sS5 x hx⟩,?_,fun x hx=>(u4 x hx).2.imp id fun h=>by omega⟩
  ·have e:LY (bd++[v])=LY bd++[V.str v]:=by simp[LY]
   rw[e,FE,Kb];exact u2.frm pf fun x hx=>(sS5 x hx).2.2.1
  ·have h1:=h.sepO x hx;refine⟨h1.1,by have:(w5.put bw [u,.map mb,.map md,ov,bv']).next=w5.next:=rfl;omega,h1.2.2.1,h1.2.2.2.1,h1.2.2.2.2.1,fun h5=>?_⟩;rcases (u4 x h5).2 with m2|m2
   ·exact h1.2.2.2.2.2 m2
   ·omega
  ·exact (p3.trans u3 (fun _ _ h=> .inl h) fun _ _ h=> .inr (.inr h)).trans pf (fun _ _ h=>h) fun _ _ h=> .inr (.inl h)
def TkI (a:AW) (T:Fw) (body:List Lt) (u:V) (bw mb md k:Nat) (l:List Nat) (bd vs:Fx) (ov vv:V) (So Sv:Fw) (D:List (Int×Int)) (q:Nat) (f:Fr) (w:AW):Prop :=
 ∃j bv Sb M,f.get 0=some (.ptr bw 0)∧f.get 40=some vv∧f.get 41=some (.int .i64 (Fq vs.length))∧f.get 42=some (.int .i64 (Fq j))∧j≤vs.length∧q=vs.length-j∧
  WkM a w T body u bw mb md l (TU bd vs j) ov bv So Sb M D (k+j)∧Bt Sv w vv 1 vs.length (LY vs)∧∀y,Sv y→y<w.next∧y≠bw∧y≠mb∧¬Sb y
theorem JsM (bd vs:Fx)(j:Nat):(TU bd vs j).length≤bd.length+j:=by
 have h1:=Km (fun v=>decide (v∉bd)) (vs.take j);have h2:(vs.take j).length≤j:=by rw[FU];omega
 simp only[TU,FE];omega
theorem SY (C:Codes tab){i:Nat}{s:Oo}{K:V→AW→Prop}(hA:WkS a w T body u bw mb md s ov bv So Sb M D k)(hi:i<body.length)(hargs:∀x∈body,x.args.length≤5)(hl:s.1.length≤100)(hk:k≤1000)(hc:(Le body i).kind=1∨Im s.2 (Le body i)=(Le body i).args.length)(h:∀w' ov' bv' So' Sb' M' D',WkS a w' T body u bw mb md (Bu body s i) ov' bv' So' Sb' M' D' (k+5)→K (.tuple []) w'):WF tab VW [.ptr bw 0,.int .i64 (Fq i)] w K:=by
 refine Ld C.Wk rfl ?_;obtain⟨t,ht⟩:∃t,body[i]? = some t:=⟨_,FB hi⟩;have hla:Le body i=t:=Tu ht;have ha5:=hargs t (FI ht);rw[hla]at hc;have hinv:=hA.inv.take hi hargs;have sl:=hA.inv.len;obtain⟨w2,ov',w5,S5,D',u1,u2,u3,u4,u5,u6,hM⟩:=hA.m.take1 (i:=i) hl;have lmd:w.load bw 2 1=some [.map md]:=by rw[hA.cell.load];rfl
 have l3:(w2.fresh [.int .i64 (Fq i)]).load bw 3 1=some [ov]:=by rw[u5.load];rfl
 have l3':w2.load bw 3 1=some [ov]:=by rw[u4.load];rfl
 have el:=Tj (w:=w2) (esz:=1) (n:=1) (cs:=[V.int .i64 (Fq i)]) (c:=.known 1) Fh rfl;have hov:over [V.int .i64 0] 0 [V.int .i64 (Fq i)]=some [V.int .i64 (Fq i)]:=rfl;obtain⟨w6,hw6⟩:∃w6,w6=w5.put bw [u,.map mb,.map md,ov',bv]:=⟨_,rfl⟩;rw[←hw6]at u3 hM;have l0:w6.load bw 0 1=some [u]:=by rw[hM.cell.load];rfl
 obtain⟨b,o,c,v,rfl,_,a1,a2,hrv⟩:∃b o c v,u = .slice b o body.length c∧w6.load b (o+i*3) 3=some [.int .i64 (Fq t.kind),.str t.name,v]∧w6.load b (o+i*3) 1=some [.int .i64 (Fq t.kind)]∧w6.load b (o+i*3+2) 1=some [v]∧Rd T w6 v 3 t.args.length (L8 t.args):=by
  obtain⟨b,o,c,v,h1,_,_,h2,h4,_,h5,h3⟩:=Dy (hM.lits.frm (fun _ _ hl=>hl.frm hM.frm fun _ _ h=>h) hM.frm fun _ _ h=>h) ht;exact⟨b,o,c,v,h1,h2,h4,h5,h3⟩
 by_cases hk1:t.kind=1
 case neg =>
  have hnil:I7 s.2 t=[]:=JtH (hc.resolve_left hk1);have e:Bu body s i=(s.1++[i],s.2):=by simp[Bu,hla,hnil]
  refine Fz (by simp only[go_sem,K5,ZF,UW,UV,lmd,u1,l3,l3',Lg,Lj,hov,el,u2,u3,u6,l0,hi,a1,hk1,FC,FD];rfl) ?_;refine K7 ⟨_,by simp only[go_sem,K5,ZF];rfl,?_⟩;exact h w6 ov' bv S5 Sb M D' (WkM.s (by rw[e];exact hM.up Fh) hinv)
 have a1':w6.load b (o+i*3) 1=some [.int .i64 1]:=by rw[a1,hk1];rfl
 refine Fz (by simp only[go_sem,K5,ZF,UW,UV,Jah,lmd,u1,l3,l3',Lg,Lj,hov,el,u2,u3,u6,l0,hi,a1',a2,FC,FD];rfl) ?_;refine K9 Ff Fe ?_;refine Ey C hrv Fh fun vv w7 Sv q1 q2 q3=>?_;have hM7:=hM.ext q2;have hvl:=A7 t.args;have hnd:=Jos t.args;have hnew:I7 s.2 t=(Ol t.args).filter fun v=>decide (v∉s.2):=JoM s.2 t;generalize Ol t.args=vs at q1 hvl hnd hnew;have hvv:=q1.lenV;have e0:TU s.2 vs 0=s.2:=by simp[TU]
 refine Fz (by simp only[go_sem,K5,hvv];rfl) ?_
 refine LK (TkI a T body (.slice b o body.length c) bw mb md k (s.1++[i]) s.2 vs ov' vv S5 Sv D') (fun f w=>∃bv Sb M,WkM a w T body (.slice b o body.length c) bw mb md (s.1++[i]) (TU s.2 vs vs.length) ov' bv S5 Sb M D' (k+vs.length)) ?_ ?_ vs.length
  ⟨0,bv,Sb,M,Fb,Fb,Fb,Fb,by omega,rfl,by rw[e0];exact hM7,q1,fun y hy=>⟨(q3 y hy).2,fun e=>?_,fun e=>?_,fun hb=>?_⟩⟩
 ·rintro q f w ⟨j,bv,Sb,M,f0,f40,f41,f42,hj,rfl,hW,hB,hS⟩ ih exit;by_cases hlt:j<vs.length
  case neg =>
   have e:j=vs.length:=Fh;refine Lb 1000 (by simp only[go_sem,Wj,f41,f42,hlt];rfl) ?_;subst e;exact exit _ _ _ ⟨bv,Sb,M,hW⟩ rfl
  obtain⟨x,hx⟩:∃x,vs[j]? = some x:=⟨_,FB hlt⟩;have hwr:KZ .i64 (Fq j+1)=Fq (j+1):=Lh Fh;rcases hB.rd.inv with⟨_,q2,_⟩|⟨bx,ox,cx,rfl,hBx⟩
  ·omega
  have lx:w.load bx (ox+j) 1=some [.str x]:=hBx.cell Fh (by rw[LY,F7,hx];rfl);have l1:w.load bw 1 1=some [.map mb]:=by rw[hW.cell.load];rfl
  obtain⟨n,hn1,hn2,hn3⟩:=MQ hW.seen x;have look:=hW.mB.look BB (.int .i64 0) x;rw[hn3]at look;have hw1:KZ .i64 (Fq n+1)=Fq (n+1):=Lh Fh;obtain⟨w8,p1,p2,p3,p4,p5,p6⟩:=hW.cnt (v:=x) hn1;have look2:=p4.look BB (.int .i64 0) x;rw[Bd]at look2;simp only[Dm]at look2;have hc8:=hW.cell.frm p2 (by show ¬bw=mb;exact hW.ge.2.2.2.1);have l8:w8.load bw 1 1=some [.map mb]:=by rw[hc8.load];rfl
  have bl:=JsM s.2 vs j;have esucc:=Jq8 (bd:=s.2) hx;have hmem:=JsN (bd:=s.2) hnd hx;by_cases hin:x∈TU s.2 vs j
  ·have hn0:¬n=0:=fun h=>hn2.1 h hin;have hne:¬n+1=1:=Fh;rw[if_pos (hmem.1 hin)]at esucc;refine Fz (by simp only[go_sem,K5,Wj,UU,UT,US,f0,f40,f41,f42,hlt,lx,l1,look,hw1,p1,l8,look2,hne,KC,hwr];rfl) ?_;exact ih _ _ _ Fh ⟨j+1,bv,Sb,_,(Fg f0),(Fg f40),(Fg f41),Fb,by omega,rfl,by rw[esucc];exact p5 hin,hB.frm p2 fun y hy=>(hS y hy).2.2.1,fun y hy=>by have:=hS y hy;exact⟨by omega,this.2⟩⟩
  ·have hn0:n=0:=hn2.2 hin;subst hn0;rw[if_neg fun h=>hin (hmem.2 h)]at esucc;obtain⟨hc8',bv',w9,S9,r1,r2,r3,r4,r5,r6⟩:=p6 hin Fh;have l84:w8.load bw 4 1=some [bv]:=by rw[hc8.load];rfl
   have el2:=Tj (w:=w8) (esz:=1) (n:=1) (cs:=[V.str x]) (c:=.known 1) Fh rfl;have hov2:over [V.str []] 0 [V.str x]=some [V.str x]:=rfl;refine Fz (by simp only[go_sem,K5,Wj,UU,UT,US,Jag,f0,f40,f41,f42,hlt,lx,l1,look,hw1,p1,l8,look2,l84,Lg,Lj,hov2,el2,r1,r2,r3,KC,hwr,FC,FD];rfl) ?_;have nx:=r5.next;refine ih _ _ _ Fh ⟨j+1,bv',S9,_,(Fg f0),(Fg f40),(Fg f41),Fb,by omega,rfl,by rw[esucc];exact r4,hB.frm r5 fun y hy h=>?_,fun y hy=>?_⟩
   ·have:=hS y hy;rcases h with h|h|h
    ·exact this.2.2.1 h
    ·exact this.2.1 h
    ·exact this.2.2.2 h
   ·have h1:=hS y hy;refine⟨by omega,h1.2.1,h1.2.2.1,fun h=>?_⟩;rcases r6 y h with h|h
    ·exact h1.2.2.2 h
    ·omega
 ·rintro f w ⟨bv2,Sb2,M2,hW⟩;refine Su ⟨_,by simp only[go_sem,K5,ZF];rfl,?_⟩;have e1:TU s.2 vs vs.length=s.2++I7 s.2 t:=by rw[hnew,TU,List.take_length]
  have e:Bu body s i=(s.1++[i],TU s.2 vs vs.length):=by simp[Bu,hla,e1]
  exact h w ov' bv2 S5 Sb2 M2 D' (WkM.s (by rw[e];exact hW.up Fh) hinv)
 ·have:=hM.cell.lt;have:=(q3 y hy).1;omega
 ·have:=hM.mB.lt;have:=(q3 y hy).1;omega
 ·have:=(hM.sepB y hb).2.1;have:=(q3 y hy).1;omega
end
section
open Go.AE Delphi
variable {tab:Tab}
structure MkF (f:Fr) (n2 n4 bw:Nat):Prop where
 f2:f.get 2=some (.ptr n2 0)
 f4:f.get 4=some (.ptr n4 0)
 f6:f.get 6=some (.ptr bw 0)
def MkI (a:AW) (T:Fw) (r:Rl) (u:V) (n2 n4 bw mb md:Nat) (fin:Oo) (q:Nat) (f:Fr) (w:AW):Prop :=
 ∃s ov bv So Sb M D k,MkF f n2 n4 bw∧WkS a w T r.body u bw mb md s ov bv So Sb M D k∧s.1.length≤r.body.length∧q=r.body.length-s.1.length∧Iu r.body q s=fin∧k≤5*s.1.length
def MkJ (a:AW) (T:Fw) (r:Rl) (u:V) (n2 n4 bw mb md:Nat) (fin:Oo) (f:Fr) (w:AW):Prop :=
 ∃ov bv So Sb M D k,MkF f n2 n4 bw∧WkS a w T r.body u bw mb md fin ov bv So Sb M D k
theorem Ju7 (C:Codes tab){r:Rl}{hv:V}{n2 n4:Nat}{fin:Oo}{q:Nat}{f:Fr}{st:List SI}{Q:Fr→AW→Prop}(hbd:RBr r)(hs:BD r=true)(hn2:CB a n2 [.int .i64 (Fq r.head.kind),.str r.head.name,hv,u])(hI:MkI a T r u n2 n4 bw mb md fin q f w)(ih:∀n' f' w',n'<q→MkI a T r u n2 n4 bw mb md fin n' f' w'→WS tab (.code (.loop J9) :: .endB 0::st) f' w' Q)(out:∀s' f' w',MkJ a T r u n2 n4 bw mb md fin f' w'→TM 0 s'=some st→WS tab (.code (.exit 0)::s') f' w' Q):WS tab (.code J9 :: .code (.loop J9) :: .endB 0::st) f w Q:=by
 obtain⟨s,ov,bv,So,Sb,M,D,k,⟨f2,f4,f6⟩,hA,hsl,rfl,hfin,hk⟩:=hI;have hlv:=Cx hA.lits;have hlo:=hA.ord.lenV;have ld3:w.load n2 3 1=some [u]:=by rw[(hn2.frm hA.frm fun h=>h).load];rfl
 have lo:w.load bw 3 1=some [ov]:=by rw[hA.cell.load];rfl
 have hbl:=hbd.body;by_cases hlt:s.1.length<r.body.length
 case neg =>
  have e:r.body.length-s.1.length=0:=Fh;rw[e]at hfin;have hfin:s=fin:=hfin;subst hfin;refine Lb 1000 (by simp only[go_sem,J9,f2,f6,ld3,lo,hlv,hlo,hlt];rfl) ?_;exact out _ _ _ ⟨ov,bv,So,Sb,M,D,k,⟨(Fg f2),(Fg f4),(Fg f6)⟩,hA⟩ rfl
 obtain⟨q,hq⟩:∃q,r.body.length-s.1.length=q+1:=⟨r.body.length-s.1.length-1,by omega⟩;rw[hq]at hfin;refine Fz (by simp only[go_sem,K5,J9,f2,f6,ld3,lo,hlv,hlo,hlt];rfl) ?_;refine K9 Ff Fe ?_;refine JuA C hA hbl hbd.args (Jjv hs hA.inv hlt) fun i w2 hb g2=>?_;have hbf:=JlH hb;simp only[Iu,if_pos hlt,hbf]at hfin;have hcand:=of_decide_eq_true hb.1;refine Fz (by simp only[go_sem,K5,f6];rfl) ?_;refine K9 Ff Fe ?_;refine SY C (hA.ext g2) hcand.1 hbd.args Fh Fh hcand.2.2 fun w3 ov3 bv3 So3 Sb3 M3 D3 hA3=>?_;have el:(Bu r.body s i).1.length=s.1.length+1:=by simp[Bu]
 have hq2:q=r.body.length-(Bu r.body s i).1.length:=by rw[el];omega
 have hq3:(Bu r.body s i).1.length≤r.body.length:=by rw[el];omega
 refine K6 1000 Fe ?_;exact ih q _ _ Fh ⟨Bu r.body s i,ov3,bv3,So3,Sb3,M3,D3,k+5,⟨(Fg f2),(Fg f4),(Fg f6)⟩,hA3,hq3,hq2,hfin,by omega⟩
theorem Ju5 (C:Codes tab){xs:List V}{r:Rl}{first:Int}{K:V→AW→Prop}(hr:RlC T a r xs)(hbd:RBr r)(h1:∀w,¬OL r first→Frm (fun _=>False) a w→K (.tuple [.agg [.nilslice,.nilslice],.bool false]) w)(h2:∀w ov bv So Sb,OL r first→Bt So w ov 1 (LQ r first).1.length (Bw (LQ r first).1)→Bt Sb w bv 1 (LQ r first).2.length (LY (LQ r first).2)→Frm (fun _=>False) a w→(∀x,So x∨Sb x→a.next≤x∧x<w.next)→K (.tuple [.agg [ov,bv],.bool true]) w): WF tab GE [.agg xs,.int .i64 first] a K:=by
 refine Ld C.X0 rfl ?_;have hone:=hr.one;have hr0:=hr;obtain⟨hv,u,rfl,hh,hu⟩:=hr;have cb:=OQ a [V.int .i64 (Fq r.head.kind),.str r.head.name,hv,u];have ff:=LZ (S:=fun _=>False) a [V.int .i64 (Fq r.head.kind),.str r.head.name,hv,u];have m1:(a.fresh [V.int .i64 (Fq r.head.kind),.str r.head.name,hv,u]).next=a.next+1:=rfl;generalize hw1:a.fresh [V.int .i64 (Fq r.head.kind),.str r.head.name,hv,u]=w1 at cb ff m1;have cb4:=OQ w1 [V.nilslice,V.nilslice];have ff4:=LZ (S:=fun _=>False) w1 [V.nilslice,V.nilslice];have m4:(w1.fresh [V.nilslice,V.nilslice]).next=w1.next+1:=rfl;have cb1:=cb.frm ff4 fun h=>h;generalize hw4:w1.fresh [V.nilslice,V.nilslice]=w4 at cb4 ff4 m4 cb1;have ld0:w4.load a.next 0 4=some [V.int .i64 (Fq r.head.kind),.str r.head.name,hv,u]:=cb1.all rfl;have hlv:=Cx hu;have hbl:=hbd.body;refine Fz (by simp only[go_sem,K5,JD,PJ,hw1,hw4,ld0];rfl) ?_;refine K9 Ff Fe ?_;refine Jvp C (hr0.frm (ff.tr ff4) fun _ _ h=>h) hbd.big fun w2 g2=>?_;have hf2:=(ff.tr ff4).tr g2;have cb2:=cb1.frm g2 fun h=>h;have cb42:=cb4.frm g2 fun h=>h;have ld3:w2.load a.next 3 1=some [u]:=by rw[cb2.load];rfl
 have m2:=g2.next;have hu2:RdL (LtC T) T w2 u 3 r.body:=hu.frm (fun _ _ hl=>hl.frm hf2 fun _ _ h=>h) hf2 fun _ _ h=>h;have st0:=cb42.setAll (vs:=[V.nilslice,V.nilslice]) rfl rfl;have lf:(w2.put w1.next [V.nilslice,V.nilslice]).load w1.next 0 2=some [V.nilslice,V.nilslice]:=(Oc cb42.lt).all rfl;have ffail:Frm (fun _=>False) a (w2.put w1.next [V.nilslice,V.nilslice]):=hf2.out Fh rfl;have g5:=CY (S:=fun _=>False) w2;have B5:SM (w2.new (.map [] 0)) w2.next ([]:Ps):=MB.new w2;have m5:(w2.new (.map [] 0)).next=w2.next+1:=rfl;generalize hw5:w2.new (.map [] 0)=w5 at g5 B5 m5;have g6:=CY (S:=fun _=>False) w5;have B6:IM (w5.new (.map [] 0)) w5.next ([]:List (Int×Int)):=MB.new w5;have m6:(w5.new (.map [] 0)).next=w5.next+1:=rfl;generalize hw6:w5.new (.map [] 0)=w6 at g6 B6 m6;have g7:=LZ (S:=fun _=>False) w6 [u,V.map w2.next,V.map w5.next,V.nilslice,V.nilslice];have c7:=OQ w6 [u,V.map w2.next,V.map w5.next,V.nilslice,V.nilslice];have m7:(w6.fresh [u,V.map w2.next,V.map w5.next,V.nilslice,V.nilslice]).next=w6.next+1:=rfl;generalize hw7:w6.fresh [u,V.map w2.next,V.map w5.next,V.nilslice,V.nilslice]=w7 at g7 c7 m7
 have hA0:WkS w2 w7 T r.body u w6.next w2.next w5.next ([],[]) .nilslice .nilslice (fun _=>False) (fun _=>False) [] [] 0 :=
  ⟨(g5.tr g6).tr g7,hu2,c7,(B5.frm g6 fun h=>h).frm g7 fun h=>h,fun x=>⟨by simp[K8],fun c hc=>by simp[K8]at hc⟩,B6.frm g7 fun h=>h,fun j=>by simp[K8],.nil,.nil,by omega,fun _ h=>h.elim,fun _ h=>h.elim,PlInv.nil _⟩
 have uc:u.cells=[u]:=by
  obtain⟨xss,hrd,_⟩:=hu;rcases hrd.inv with⟨rfl,_⟩|⟨_,_,_,rfl,_⟩<;>rfl
 have ov1:over [V.nilslice,V.nilmap,V.nilmap,V.nilslice,V.nilslice] 0 [u]=some [u,V.nilmap,V.nilmap,V.nilslice,V.nilslice]:=rfl;have ov2:over [u,V.nilmap,V.nilmap,V.nilslice,V.nilslice] 1 [V.map w2.next]=some [u,V.map w2.next,V.nilmap,V.nilslice,V.nilslice]:=rfl;have ov3:over [u,V.map w2.next,V.nilmap,V.nilslice,V.nilslice] 2 [V.map w5.next]=some [u,V.map w2.next,V.map w5.next,V.nilslice,V.nilslice]:=rfl
 have loop:∀{fr:Fr} {w:AW} {ov bv:V} {So Sb:Fw} {M:Ps} {D:List (Int×Int)} {k:Nat},OL r first→MkF fr a.next w1.next w6.next→WkS w2 w T r.body u w6.next w2.next w5.next (TB r.body first) ov bv So Sb M D k→k≤5*(TB r.body first).1.length→WS tab (.code (.loop J9) :: .endB 0::[.code UE]) fr w fun fr' a=>∃vs,Ox fr' a JD.results=some vs∧K (Oy vs) a:=by
  intro fr w ov bv So Sb M D k hok hF hA hk;have hsl:=Qg r.body first
  refine LK (MkI w2 T r u a.next w1.next w6.next w2.next w5.next (LQ r first)) (MkJ w2 T r u a.next w1.next w6.next w2.next w5.next (LQ r first)) (fun q f w hI ih out=>Ju7 C hbd hok.1 cb2 hI ih out) ?_ (r.body.length-(TB r.body first).1.length)
   ⟨_,ov,bv,So,Sb,M,D,k,hF,hA,?_,rfl,rfl,hk⟩
  ·rintro f w ⟨ov,bv,So,Sb,M,D,k,⟨f2,f4,f6⟩,hA⟩;have l3:w.load w6.next 3 2=some [ov,bv]:=by rw[hA.cell.load];rfl
   have c4:=cb42.frm hA.frm fun h=>h
   have hone:Lv [ov,bv]=true:=by
    rw[Ah];intro x hx;simp at hx;rcases hx with rfl|rfl
    ·exact hA.ord.one.1
    ·exact hA.bnd.one.1
   have st:=c4.setAll (vs:=[ov,bv]) rfl hone;have ld:(w.put w1.next [ov,bv]).load w1.next 0 2=some [ov,bv]:=(Oc c4.lt).all rfl;have pf:Frm (fun x=>x=w1.next) w (w.put w1.next [ov,bv]):=LW;refine Fz (by simp only[go_sem,K5,UE,f4,f6,l3,st,FC,FD];rfl) ?_;refine K7 ⟨_,by simp only[go_sem,K5,JD,f4,ld];rfl,?_⟩;have h1:=hf2.next;have h3:=hA.frm.next;refine h2 _ ov bv So Sb hok (hA.ord.frm pf fun x hx e=>by have:=(hA.sepO x hx).1;omega) (hA.bnd.frm pf fun x hx e=>by have:=(hA.sepB x hx).1;omega) ((hf2.tr hA.frm).out Fh rfl) ?_;have hnx:(w.put w1.next [ov,bv]).next=w.next:=rfl;rintro x (hx|hx)
   ·have:=hA.sepO x hx;exact⟨by omega,by omega⟩
   ·have:=hA.sepB x hx;exact⟨by omega,by omega⟩
  ·by_cases h0:0≤first
   ·have:=hok.2.2.1;omega
   ·simp[TB,h0]
 cases hs:BD r with
 | false =>
  have hno:¬OL r first:=fun h=>by have h:=h.1;rw[hs]at h;cases h
  refine Fz (by simp only[go_sem,K5,Z9,Lg,Lj,st0,FC,FD];rfl) ?_;refine K7 ⟨_,by simp only[go_sem,K5,JD,lf];rfl,?_⟩;exact h1 _ hno ffail
 | true =>
  by_cases hl:first < -1
  ·have hno:¬OL r first:=fun h=>by have:=h.2.1;omega
   have d1:decide (first<(-1:Int))=true:=decide_eq_true hl;refine Fz (by simp only[go_sem,K5,Z9,d1,Lg,Lj,st0,FC,FD];rfl) ?_;refine K7 ⟨_,by simp only[go_sem,K5,JD,lf];rfl,?_⟩;exact h1 _ hno ffail
  have d1:decide (first<(-1:Int))=false:=decide_eq_false hl;by_cases hg:first<0
  ·have e:first = -1:=Fh;subst e;have d2:decide ((-1:Int)≥Fq r.body.length)=false:=decide_eq_false (by have:Fq r.body.length=(r.body.length:Int):=rfl;omega);have hok:OL r (-1):=⟨hs,by omega,by omega,fun h=>by omega⟩;have e0:TB r.body (-1)=([],[]):=rfl;refine Fz (by simp only[go_sem,K5,UF,ld3,hlv,d2,Lg,Lj,uc,Am,ov1,ov2,ov3,hw5,hw6,hw7,FC,FD];rfl) ?_;exact loop hok ⟨Fb,Fb,Fb⟩ (e0▸hA0) Fh
  ·obtain⟨i,rfl⟩:∃i:Nat,first=Fq i:=⟨first.toNat,by have:Fq first.toNat=(first.toNat:Int):=rfl;omega⟩;have hi0:(Fq i).toNat=i:=rfl;have ei:Fq i=(i:Int):=rfl;by_cases hge:r.body.length≤i
   ·have hno:¬OL r (Fq i):=fun h=>by have:=h.2.2.1;omega
    refine Fz (by simp only[go_sem,K5,Z9,d1,ld3,hlv,hge,Lg,Lj,st0,FC,FD];rfl) ?_;refine K7 ⟨_,by simp only[go_sem,K5,JD,lf];rfl,?_⟩;exact h1 _ hno ffail
   have hlt:i<r.body.length:=Fh;obtain⟨t,ht⟩:∃t,r.body[i]? = some t:=⟨_,FB hlt⟩;have hla:Le r.body i=t:=Tu ht;obtain⟨b,o,c,v,rfl,_,_,_,a1,_,_,hrv⟩:=Dy hu2 ht;by_cases hk:t.kind=1
   case neg =>
    have hno:¬OL r (Fq i):=fun h=>hk (by have:=h.2.2.2 Fh;rw[hi0,hla]at this;exact this);refine Fz (by simp only[go_sem,K5,Z9,d1,ld3,hlv,hge,hlt,a1,hk,Nat.zero_le,Lg,Lj,st0,FC,FD];rfl) ?_;refine K7 ⟨_,by simp only[go_sem,K5,JD,lf];rfl,?_⟩;exact h1 _ hno ffail
   have hok:OL r (Fq i):=⟨hs,by omega,by omega,fun _=>by rw[hi0,hla];exact hk⟩;have e0:TB r.body (Fq i)=Bu r.body ([],[]) i:=by rw[TB,if_pos Fh,hi0]
   rw[hk]at a1;refine Fz (by simp only[go_sem,K5,UF,PI,d1,ld3,hlv,hge,hlt,a1,Nat.zero_le,Lg,Lj,uc,Am,ov1,ov2,ov3,hw5,hw6,hw7,FC,FD];rfl) ?_;refine K9 Ff Fe ?_;refine SY C hA0 hlt hbd.args Fj Fh (.inl (by rw[hla];exact hk)) fun w8 ov8 bv8 So8 Sb8 M8 D8 hA8=>?_;refine K6 1000 Fe ?_;exact loop hok ⟨Fb,Fb,Fb⟩ (e0▸hA8) (by rw[e0];simp[Bu])
end
section
open Go.AE Delphi Val
variable {tab:Tab}
def TC (ts:List Tk) (t:Tm):List Tk:=if t.kind=1 then ts else (idT ts (Lc t)).2
def OI (ts:List Tk) (l:List Tm):List Tk:=l.foldl TC ts
def Bj (ts:List Tk) (b:List Lt):List Tk:=b.foldl (fun ts l=>OI ts l.args) ts
theorem JlY (ts:List Tk)(l:List Tm)(t:Tm):OI ts (l++[t])=TC (OI ts l) t:=by unfold OI;rw[List.foldl_append];rfl
theorem JrH (ts:List Tk)(b:List Lt)(l:Lt):Bj ts (b++[l])=OI (Bj ts b) l.args:=by unfold Bj;rw[List.foldl_append];rfl
theorem Jnu (ts:List Tk):∀(l:List Tm),(OI ts l).length≤ts.length+l.length:=by
 intro l;induction l generalizing ts with
 | nil=>exact FH _
 | cons t l ih =>
  have h1:=ih (TC ts t)
  have h2:(TC ts t).length≤ts.length+1:=by
   unfold TC;split
   ·omega
   ·exact Jln _ _
  have e:OI ts (t::l)=OI (TC ts t) l:=rfl;rw[e,FC];omega
variable {ts:List Tk}
theorem MN {n:Nat}:∀{b:List Lt},(∀l∈b,l.args.length≤n)→(Bj ts b).length≤ts.length+n*b.length:=by
 intro b;induction b generalizing ts with
 | nil=>intro _;simp[Bj]
 | cons l b ih =>
  intro h;have h1:=ih (ts:=OI ts l.args) fun x hx=>h x (FO _ hx);have h2:=Jnu ts l.args;have h3:=h l Fj;have e:Bj ts (l::b)=Bj (OI ts l.args) b:=rfl;rw[e,FC,Nat.mul_add];omega
theorem Jlp:∀{l:List Tk} {k:Nat} {c:Tk} {v:Nat},K8 (Bl k l) c=some v→k≤v
 | [],k,c,v,h=>by simp[Bl,K8]at h
 | x::l,k,c,v,h=>by
  simp only[Bl,K8]at h;split at h
  ·cases h;exact FH _
  ·have:=Jlp h;omega
theorem Ml {l:List Tk}{c:Tk}(h:c∈l):1≤Bg l c:=Jlp (MU h)
theorem Jpi {c:Tk}(h:Ll c=true):1≤(idT ts c).1:=by
 unfold idT;rw[if_pos h];split
 ·rename_i hm;exact Ml hm
 ·simp
structure SmF (f:Fr) (b6 tb jb:Nat):Prop where
 f1:f.get 1=some (.ptr tb 0)
 f6:f.get 6=some (.ptr b6 0)
 f15:f.get 15=some (.ptr jb 0)
abbrev SmK (K:V→AW→Prop):Fr→AW→Prop:=fun fr' aw'=>∃vs,Ox fr' aw' Zt.results=some vs∧K (Oy vs) aw'
variable {st:List SI} {K:V→AW→Prop}
theorem JqY (C:Codes tab){b6 tb jb i N:Nat}{O S:Fw}{tv xv:V}{args:List Tm}{f:Fr}(hT:TabW tb mb tv S ts w)(hx:Rd O w xv 3 args.length (L8 args))(hO:∀x,O x→x<w.next∧¬S x∧x≠tb∧x≠mb)(hal:args.length≤10)(hts:ts.length≤80000)(hmay:∀t∈args,t.kind≠1→TkOk (Lc t)∧Ll (Lc t)=true)(hF:SmF f b6 tb jb)(f53:f.get 53=some bv)(f54:f.get 54=some (.int .i64 (Fq N)))(f55:f.get 55=some (.int .i64 (Fq i)))(f60:f.get 60=some xv)(f61:f.get 61=some (.int .i64 (Fq args.length)))(f62:f.get 62=some (.int .i64 (Fq 0)))(h:∀f' w' tv' S',SmF f' b6 tb jb→f'.get 53=some bv→f'.get 54=some (.int .i64 (Fq N))→f'.get 55=some (.int .i64 (Fq i))→TabW tb mb tv' S' (OI ts args) w'→Frm (fun x=>S x∨x=tb∨x=mb) w w'→(∀x,S' x→S x∨w.next≤x)→WS tab st f' w' (SmK K)): WS tab (.code (.loop Z3) :: .endB 2::st) f w (SmK K):=by
 refine LK (fun n f w1=>∃m tv1 S1,SmF f b6 tb jb∧f.get 53=some bv∧f.get 54=some (.int .i64 (Fq N))∧f.get 55=some (.int .i64 (Fq i))∧f.get 60=some xv∧f.get 61=some (.int .i64 (Fq args.length))∧f.get 62=some (.int .i64 (Fq m))∧TabW tb mb tv1 S1 (OI ts (args.take m)) w1∧Frm (fun x=>S x∨x=tb∨x=mb) w w1∧(∀x,S1 x→S x∨w.next≤x)∧m≤args.length∧n=args.length-m)
  (fun f w1=>∃tv1 S1,SmF f b6 tb jb∧f.get 53=some bv∧f.get 54=some (.int .i64 (Fq N))∧f.get 55=some (.int .i64 (Fq i))∧TabW tb mb tv1 S1 (OI ts args) w1∧Frm (fun x=>S x∨x=tb∨x=mb) w w1∧(∀x,S1 x→S x∨w.next≤x)) ?_ ?_ args.length
  ⟨0,tv,S,hF,f53,f54,f55,f60,f61,f62,hT,Frm.refl _,fun x hx=> .inl hx,Nat.zero_le _,rfl⟩
 ·rintro n f w1 ⟨m,tv1,S1,⟨f1,f6,f15⟩,f53,f54,f55,f60,f61,f62,hT1,g,hS1,hm,rfl⟩ ih out;by_cases hlt:m<args.length
  case neg =>
   obtain rfl:m=args.length:=Fh;rw[List.take_length]at hT1;refine Lb 1000 (by simp only[go_sem,Z3,f61,f62,hlt];rfl) ?_;exact out _ _ _ ⟨tv1,S1,⟨(Fg f1),(Fg f6),(Fg f15)⟩,(Fg f53),(Fg f54),(Fg f55),hT1,g,hS1⟩ rfl
  obtain⟨t,ht⟩:∃t,args[m]? = some t:=⟨_,FB hlt⟩
  have hOR:∀x,O x→¬(S x∨x=tb∨x=mb):=fun x hx h=>by
   obtain⟨_,h1,h2,h3⟩:=hO x hx;rcases h with h|h|h
   ·exact h1 h
   ·exact h2 h
   ·exact h3 h
  obtain⟨b,o,c,rfl,_,_,la,_⟩:=Ij (hx.frm g hOR) ht;obtain⟨w2,s2,c2,r2,n2⟩:=Oj w1 (zs:=[V.int .i64 0,V.str [],V.int .i64 0]) (vs:=tmC t) rfl rfl;have htl:(tmC t).length=3:=rfl;have k0:w2.load w1.next 0 1=some [.int .i64 (Fq t.kind)]:=CB.ld c2 0 1 _ rfl;have k3:w2.load w1.next 0 3=some (tmC t):=c2.all rfl;have hwr:KZ .i64 (Fq m+1)=Fq (m+1):=Lh Fh;have hT2:=hT1.step0 r2;by_cases hk:t.kind=1
  ·rw[hk]at k0;refine Fz (by simp only[go_sem,K5,Z3,Us,Ur,f60,f61,f62,hlt,la,htl,s2,k0,hwr];rfl) ?_;refine ih _ _ _ Fh ⟨m+1,tv1,S1,⟨(Fg f1),(Fg f6),(Fg f15)⟩,(Fg f53),(Fg f54),(Fg f55),(Fg f60),(Fg f61),Fb,?_,g.tr r2.no,hS1,by omega,rfl⟩;rw[O7 ht,JlY,TC,if_pos hk];exact hT2
  ·obtain⟨hok,hmy⟩:=hmay t (FI ht) hk;have hlen:=Jnu ts (args.take m);rw[FU]at hlen;refine Fz (by simp only[go_sem,K5,Z3,Us,Ur,f1,f60,f61,f62,hlt,la,htl,s2,k0,hk,k3];rfl) ?_;refine K9 Ff Fe ?_;rw[Jso];refine Nu C hT2 Fh hok fun w3 tv3 S3 q1 q2 q3=>?_
   have hne:((Fq (idT (OI ts (args.take m)) (Lc t)).1)==0)=false:=by
    have:=Jpi (ts:=OI ts (args.take m)) hmy;cases hn:(idT (OI ts (args.take m)) (Lc t)).1 with
    | zero=>omega
    | succ n=>rfl
   have hne':¬(idT (OI ts (args.take m)) (Lc t)).1=0:=by
    have:=Jpi (ts:=OI ts (args.take m)) hmy;omega
   have n3:=g.next;refine Fz (by simp only[go_sem,K5,f62,hne,hne',hwr];rfl) ?_;refine ih _ _ _ Fh ⟨m+1,tv3,S3,⟨(Fg f1),(Fg f6),(Fg f15)⟩,(Fg f53),(Fg f54),(Fg f55),(Fg f60),(Fg f61),Fb,?_,?_,fun x hx=>?_,by omega,rfl⟩
   ·rw[O7 ht,JlY,TC,if_neg hk];exact q1
   ·refine (g.tr r2.no).trans q2 (fun _ _ h=>h) fun x hx h=>?_;rcases h with h|h|h
    ·rcases hS1 x h with h|h
     ·exact .inl h
     ·omega
    ·exact .inr (.inl h)
    ·exact .inr (.inr h)
   ·rcases q3 x hx with h|h
    ·exact hS1 x h
    ·right;omega
 ·rintro f w1 ⟨tv1,S1,hF,h53,h54,h55,hT1,g,hS1⟩;exact h f w1 tv1 S1 hF h53 h54 h55 hT1 g hS1
theorem Jt3 (C:Codes tab){b6 tb jb:Nat}{O S:Fw}{tv:V}{f:Fr}(hT:TabW tb mb tv S ts w)(hx:RdL (LtC O) O w bv 3 body)(hO:∀x,O x→x<w.next∧¬S x∧x≠tb∧x≠mb)(hbl:body.length≤100)(hal:∀l∈body,l.args.length≤10)(hts:ts.length≤70000)(hmay:∀l∈body,∀t∈l.args,t.kind≠1→TkOk (Lc t)∧Ll (Lc t)=true)(hF:SmF f b6 tb jb)(f53:f.get 53=some bv)(f54:f.get 54=some (.int .i64 (Fq body.length)))(f55:f.get 55=some (.int .i64 (Fq 0)))(h:∀f' w' tv' S',SmF f' b6 tb jb→TabW tb mb tv' S' (Bj ts body) w'→Frm (fun x=>S x∨x=tb∨x=mb) w w'→(∀x,S' x→S x∨w.next≤x)→WS tab st f' w' (SmK K)): WS tab (.code (.loop XA) :: .endB 0::st) f w (SmK K):=by
 refine LK (fun n f w1=>∃m tv1 S1,SmF f b6 tb jb∧f.get 53=some bv∧f.get 54=some (.int .i64 (Fq body.length))∧f.get 55=some (.int .i64 (Fq m))∧TabW tb mb tv1 S1 (Bj ts (body.take m)) w1∧Frm (fun x=>S x∨x=tb∨x=mb) w w1∧(∀x,S1 x→S x∨w.next≤x)∧m≤body.length∧n=body.length-m)
  (fun f w1=>∃tv1 S1,SmF f b6 tb jb∧TabW tb mb tv1 S1 (Bj ts body) w1∧Frm (fun x=>S x∨x=tb∨x=mb) w w1∧(∀x,S1 x→S x∨w.next≤x)) ?_ ?_ body.length
  ⟨0,tv,S,hF,f53,f54,f55,hT,Frm.refl _,fun x hx=> .inl hx,Nat.zero_le _,rfl⟩
 ·rintro n f w1 ⟨m,tv1,S1,⟨f1,f6,f15⟩,f53,f54,f55,hT1,g,hS1,hm,rfl⟩ ih out;by_cases hlt:m<body.length
  case neg =>
   obtain rfl:m=body.length:=Fh;rw[List.take_length]at hT1;refine Lb 1000 (by simp only[go_sem,XA,f54,f55,hlt];rfl) ?_;exact out _ _ _ ⟨tv1,S1,⟨(Fg f1),(Fg f6),(Fg f15)⟩,hT1,g,hS1⟩ rfl
  obtain⟨l,hl⟩:∃l,body[m]? = some l:=⟨_,FB hlt⟩;have hlm:=FI hl
  have hOR:∀x,O x→¬(S x∨x=tb∨x=mb):=fun x hx h=>by
   obtain⟨_,h1,h2,h3⟩:=hO x hx;rcases h with h|h|h
   ·exact h1 h
   ·exact h2 h
   ·exact h3 h
  obtain⟨b,o,c,xs,rfl,lb,hxs⟩:=CJ (hx.frm (fun _ _ h=>h.frm g hOR) g hOR) hl;have hxl:=hxs.one;obtain⟨w2,s2,c2,r2,n2⟩:=Oj w1 (zs:=[V.int .i64 0,V.str [],V.nilslice]) (vs:=xs) hxl.1.symm hxl.2;obtain⟨xv,rfl,hxv⟩:=hxs;have k2:w2.load w1.next 2 1=some [xv]:=CB.ld c2 2 1 _ rfl;have hlv:=hxv.lenV;have hwr:KZ .i64 (Fq m+1)=Fq (m+1):=Lh Fh
  have hlen:(Bj ts (body.take m)).length≤ts.length+10*m:=by
   have:=MN (ts:=ts) (n:=10) (b:=body.take m) fun l hl=>hal l (List.mem_of_mem_take hl);rw[FU,KD hm]at this;exact this
  have hxl3:[V.int .i64 (Fq l.kind),V.str l.name,xv].length=3:=rfl;have n3:=g.next
  have hO2:∀x,O x→x<w2.next∧¬S1 x∧x≠tb∧x≠mb:=fun x hx=>by
   obtain⟨h0,h1,h2,h3⟩:=hO x hx;exact⟨by omega,fun hh=>by rcases hS1 x hh with h|h;exact h1 h;omega,h2,h3⟩
  refine Fz (by simp only[go_sem,K5,XA,Pf,f53,f54,f55,hlt,lb,hxl3,s2,k2,hlv];rfl) ?_;refine JqY C (hT1.step0 r2) (hxv.frm r2 fun _ _ h=>h) hO2 (hal l hlm) Fh (hmay l hlm) ⟨(Fg f1),(Fg f6),(Fg f15)⟩ (Fg f53) (Fg f54) (Fg f55) Fb Fb Fb fun f3 w3 tv3 S3 hF3 k53 k54 k55 q1 q2 q3=>?_;obtain⟨k1,k6,k15⟩:=hF3;refine Lb 5 (by simp only[go_sem,K5,k55,hwr];rfl) ?_;refine ih _ _ _ Fh ⟨m+1,tv3,S3,⟨(by simp only[go_sem,K5,k1]<;>rfl),(by simp only[go_sem,K5,k6]<;>rfl),(by simp only[go_sem,K5,k15]<;>rfl)⟩,(by simp only[go_sem,K5,k53]<;>rfl),(by simp only[go_sem,K5,k54]<;>rfl),Fb,?_,?_,fun x hx=>?_,by omega,rfl⟩
  ·rw[O7 hl,JrH];exact q1
  ·refine (g.tr r2.no).trans q2 (fun _ _ h=>h) fun x hx h=>?_;rcases h with h|h|h
   ·rcases hS1 x h with h|h
    ·exact .inl h
    ·omega
   ·exact .inr (.inl h)
   ·exact .inr (.inr h)
  ·rcases q3 x hx with h|h
   ·exact hS1 x h
   ·right;omega
 ·rintro f w1 ⟨tv1,S1,hF,hT1,g,hS1⟩;exact h f w1 tv1 S1 hF hT1 g hS1
end
end Go.Proofs.YtegdcbdicpfbpaaGreatDoor
