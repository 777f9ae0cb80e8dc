/- A part of the proof. -/
import Derived.Test.YtegdcbdicpfbpaaDoorJxO
open Int renaming ofNat → Fq
open Go.IntKind renaming wrap → KX
set_option linter.unusedVariables false
set_option maxRecDepth 10000
set_option linter.unusedSimpArgs false
namespace Delphi
def Bl (ks:List Ky) (i j:Nat) (a b:Ky):List Ky:=(ks.set i b).set j a
variable {ks:List Ky} {i j:Nat} {a b:Ky}
theorem Eg:(Bl ks i j a b).length=ks.length:=by simp[Bl]
theorem BC {p:Nat}(hi:i<ks.length)(hj:j<ks.length):(Bl ks i j a b)[p]? = if j=p then some a else if i=p then some b else ks[p]?:=by
 unfold Bl;rw[Ko,Ko];by_cases e1:j=p
 ·subst e1;simp[hj]
 ·by_cases e2:i=p
  ·subst e2;simp[e1,hi]
  ·simp[e1,e2]
theorem Jnp (ha:ks[i]? = some a)(hb:ks[j]? = some b)(k:Ky):k∈Bl ks i j a b↔k∈ks:=by
 have hi:i<ks.length:=(List.getElem?_eq_some_iff.1 ha).1;have hj:j<ks.length:=(List.getElem?_eq_some_iff.1 hb).1;rw[List.mem_iff_getElem?,List.mem_iff_getElem?];constructor
 ·rintro⟨p,hp⟩;rw[BC hi hj]at hp;split at hp
  ·exact⟨i,by rw[ha];exact hp⟩
  ·split at hp
   ·exact⟨j,by rw[hb];exact hp⟩
   ·exact⟨p,hp⟩
 ·rintro⟨p,hp⟩;by_cases e1:p=i
  ·subst e1;exact⟨j,by rw[BC hi hj,if_pos rfl,←hp,ha]⟩
  ·by_cases e2:p=j
   ·subst e2;refine⟨i,?_⟩;rw[BC hi hj];by_cases e3:p=i
    ·exact absurd e3 e1
    ·rw[if_neg e3,if_pos rfl,←hp,hb]
   ·exact⟨p,by rw[BC hi hj,if_neg fun h=>e2 h.symm,if_neg fun h=>e1 h.symm];exact hp⟩
def Tj (ks:List Ky):Prop:=∃m,ks[0]? = some m∧∀k∈ks,k=m∨PD m k=true
end Delphi
namespace Go.Proofs.YtegdcbdicpfbpaaDoor
open Go.AE Delphi
variable {tab:Tab}
variable {S:Fw} {v:V} {ks:List Ky} {K:V→AW→Prop}
theorem Ey (C:Codes tab){w:AW}{i j:Nat}{a b:Ky}(h:QB S w v ks)(hi:ks[i]? = some a)(hj:ks[j]? = some b)(hK:∀w',QB S w' v (Bl ks i j a b)→Frm S w w'→w'.next=w.next→K (.tuple []) w'):WF tab JN [v,.int .i64 (Fq i),.int .i64 (Fq j)] w K:=by
 refine Hy C.Wc rfl ?_;have hil:i<ks.length:=(List.getElem?_eq_some_iff.1 hi).1;have hjl:j<ks.length:=(List.getElem?_eq_some_iff.1 hj).1;obtain⟨bl,rfl,hS,hb,l1⟩:=O1 h hi;obtain⟨bl',e,_,_,l2⟩:=O1 h hj;cases e;obtain⟨bl',w1,e,s1,h1,f1,n1⟩:=Jm7 h hil b;cases e;obtain⟨bl',w2,e,s2,h2,f2,n2⟩:=Jm7 h1 (by rw[Km];exact hjl) a;rw[Km]at e;cases e;have ka:(kyC a).length=3:=rfl;have kb:(kyC b).length=3:=rfl;refine Fz (by simp only[go_sem,Hn,Wb,hil,hjl,l1,l2,s1,s2,ka,kb,FU];rfl) ?_;refine LY ⟨_,by simp only[go_sem,Hn,Wb];rfl,?_⟩;exact hK w2 h2 (f1.tr f2) (n2.trans n1)
def QQ (S:Fw) (w:AW) (v:V) (ks:List Ky):Prop:=(ks=[]∧∃b,v = .slice b 0 0 (.known 0))∨(ks≠[]∧QB S w v ks)
theorem JoN (C:Codes tab){w:AW}{x:Ky}{bq:Nat}(hq:CB w bq [v])(h:QQ S w v ks)(hn:ks.length≤100)(hS:∀y,S y→y<w.next∧y≠bq)(hK:∀w' v' S',CB w' bq [v']→QB S' w' v' (ks++[x])→Frm (fun y=>S y∨y=bq) w w'→(∀y,S' y→y<w'.next∧y≠bq∧(S y∨w.next≤y))→K (.tuple []) w'):WF tab Uc [.ptr bq 0,.iface 126 (.agg (kyC x))] w K:=by
 refine Hy C.Wa rfl ?_;obtain⟨w1,s1,c1,r1,m1⟩:=PA w (zs:=[V.int .i64 0,V.bool false,V.int .i64 0]) (vs:=kyC x) rfl rfl;have hq1:=hq.frm r1 fun h=>h;have g2:=HJ (S:=fun _=>False) w1 (kyC x);have m2:(w1.fresh (kyC x)).next=w1.next+1:=rfl;have c2:=Ph w1 (kyC x);have el:=Pl (w:=w1) (esz:=3) (n:=1) (cs:=kyC x) (c:=.known 1) Fh rfl;have hq2:=hq1.frm g2 fun h=>h;have k3:w1.load w.next 0 3=some (kyC x):=c1.all rfl;have lq:w1.load bq 0 1=some [v]:=hq1.load 0 1;have lq2:(w1.fresh (kyC x)).load bq 0 1=some [v]:=hq2.load 0 1;have hlq:=hq.lt
 have ap:∃v' w3 S3,(w1.fresh (kyC x)).appendV 3 24 v 1 (kyC x)=some (v',w3)∧QB S3 w3 v' (ks++[x])∧Frm S (w1.fresh (kyC x)) w3∧∀y,S3 y→y<w3.next∧(S y∨(w1.fresh (kyC x)).next≤y):=by
  rcases h with⟨rfl,b,rfl⟩|⟨hne,hB⟩
  ·refine⟨.slice (w1.fresh (kyC x)).next 0 1 (.upTo 3),(w1.fresh (kyC x)).fresh (kyC x),fun y=>y=(w1.fresh (kyC x)).next,rfl,?_,HJ _ _,?_⟩
   ·exact .blk rfl (FV _) AE.T.get_put_same rfl Fh (by show 0<1;omega) (.inl rfl)
   ·rintro y rfl;exact⟨FV _,.inr (FH _)⟩
  ·obtain⟨v',w3,S3,u1,u2,u3,u4⟩:=((hB.frm r1 fun _ _ h=>h).frm g2 fun _ _ h=>h).addN (news:=kyC x) (k:=1) (bytes:=24) Fh rfl rfl Fh Fh;refine⟨v',w3,S3,u1,?_,u3,u4⟩;show Bt S3 w3 v' 3 (ks++[x]).length (K9 (ks++[x]));rw[CY,FE];exact u2
 obtain⟨v',w3,S3,u1,u2,u3,u4⟩:=ap;have hq3:=hq2.frm u3 fun h=>(hS _ h).2 rfl;have st:=hq3.set (i:=0) (v:=v') Fj u2.one.1;have vc:=u2.one.2;have ka:(kyC x).length=3:=rfl;have hov:over [V.int .i64 0,V.bool false,V.int .i64 0] 0 (kyC x)=some (kyC x):=rfl;have pf:Frm (fun y=>y=bq) w3 (w3.put bq ([v].set 0 v')):=HN;have c3:CB (w3.put bq ([v].set 0 v')) bq [v']:=H1 hq3.lt;have nx:=u3.next
 have sep:∀y,S3 y→y<w3.next∧y≠bq∧(S y∨w.next≤y):=by
  intro y hy;obtain⟨q1,q2⟩:=u4 y hy;rcases q2 with q2|q2
  ·exact⟨q1,(hS y q2).2,.inl q2⟩
  ·exact⟨q1,by omega,.inr Fh⟩
 have fin:=hK (w3.put bq ([v].set 0 v')) v' S3 c3 (u2.frm pf fun y hy=>(sep y hy).2.1) (((r1.tr g2).trans (U:=S) u3 (fun _ _ h=>h.elim) fun _ _ h=>h).trans pf (fun _ _ h=> .inl h) fun _ _ h=> .inr h) sep;refine Fz (by simp only[go_sem,Hn,X9,Ha,s1,ka,FC,FD];rfl) ?_;refine Pg ?_;refine HQ 100 (by simp only[go_sem,Hn,lq,k3,Hw,HF,hov,ka,el,u1,vc,st,FC,FD];rfl) ?_;refine Pk ⟨(show HP _ _ [(3,5)]from by simp only[go_sem,Hn,HP,chk,List.reverse_cons,List.reverse_nil,H9,Po,Pm,Pn,List.getElem?_nil,false_or,or_true,or_false,exists_eq',FP,Prod.mk.injEq,Bool.true_eq_false,FM,and_true,true_and,implies_true,lq,lq2]),?_⟩;refine LY ⟨_,by simp only[go_sem,Hn,X9];rfl,?_⟩;exact fin
def UpI (S:Fw) (bq:Nat) (v:V) (x:Ky) (m:Option Ky) (ks0:List Ky) (aw:AW) (j:Nat) (f:Fr) (w:AW):Prop :=
 ∃ks,f.get 0=some (.iface 120 (.ptr bq 0))∧f.get 1=some (.int .i64 (Fq j))∧QB S w v ks∧CB w bq [v]∧Frm S aw w∧ks.length=ks0.length∧(∀k,k∈ks↔k∈ks0)∧ks[j]? = some x∧(∀p,ks[p]? = some x→p=j)∧(0<j→ks[0]? = m)∧(j=0→∀k,m=some k→PD x k=true)
theorem Jrq (C:Codes tab){aw:AW}{bq:Nat}{x:Ky}(hq:CB aw bq [v])(h:QB S aw v (ks++[x]))(hn:ks.length≤100)(hm:ks=[]∨Tj ks)(hx:∀k∈ks,k.2.2≠x.2.2)(hSq:¬S bq)(hK:∀w' ks',QB S w' v ks'→CB w' bq [v]→Frm S aw w'→ks'.length=ks.length+1→(∀k,k∈ks'↔k∈ks∨k=x)→Tj ks'→K (.tuple []) w'):WF tab V7 [.iface 120 (.ptr bq 0),.int .i64 (Fq ks.length)] aw K:=by
 refine Hy C.XT rfl ?_
 have huq:∀p,(ks++[x])[p]? = some x→p=ks.length:=by
  intro p hp;by_cases hl:p<ks.length
  ·rw[F4 hl]at hp;exact absurd rfl (hx x (FI hp))
  ·have:p<(ks++[x]).length:=(List.getElem?_eq_some_iff.1 hp).1;rw[FE,Ka]at this;omega
 refine Fz (by simp only[go_sem,Hn,XS];rfl) ?_
 refine HT (UpI S bq v x ks[0]? (ks++[x]) aw) (fun f w=>∃ks',QB S w v ks'∧CB w bq [v]∧Frm S aw w∧ks'.length=ks.length+1∧(∀k,k∈ks'↔k∈ks∨k=x)∧Tj ks') ?_ ?_ ks.length
  ⟨ks++[x],Fb,Fb,h,hq,Frm.refl _,rfl,fun _=>Iff.rfl,by simp,huq,fun h0=>by rw[F4 h0],fun h0 k hk=>by rw[List.length_eq_zero_iff.1 h0]at hk;simp at hk⟩
 ·rintro j f w ⟨ks',f0,f1,hB,hc,hf,hl,hmem,hj,huniq,hroot,hless⟩ ih exit;have hmem':∀k,k∈ks'↔k∈ks∨k=x:=fun k=>by rw[hmem];simp
  have hll:ks'.length=ks.length+1:=by rw[hl];simp
  have hjl:j<ks'.length:=(List.getElem?_eq_some_iff.1 hj).1
  have done0:j=0→Tj ks':=by
   rintro rfl;refine⟨x,hj,fun k hk=>?_⟩;rcases (hmem' k).1 hk with hk|rfl
   ·right;rcases hm with rfl|⟨m,hm0,hmin⟩
    ·simp at hk
    ·have h1:=hless rfl m hm0;rcases hmin k hk with rfl|h2
     ·exact h1
     ·exact Aa h1 h2
   ·exact .inl rfl
  by_cases hz:j=0
  ·have e0:Fq j=0:=by rw[hz];rfl
   have e1:KX .i64 (Fq j-1) = -1:=by rw[e0];rfl
   have e2:KX .i64 (Int.tdiv (-1) 2)=0:=rfl;have e3:((0:Int)==Fq j)=true:=by rw[e0];rfl
   refine Hs 1000 (by simp only[go_sem,Vz,Vy,f0,f1,e1,e2,e3];rfl) ?_;exact exit _ _ _ ⟨ks',hB,hc,hf,hll,hmem',done0 hz⟩ rfl
  have e1:KX .i64 (Fq j-1)=Fq (j-1):=by
   have a1:Fq j=(j:Int):=rfl;have a2:Fq (j-1)=((j-1:Nat):Int):=rfl;rw[Oq]<;>omega
  have e2:KX .i64 (Int.tdiv (Fq (j-1)) 2)=Fq ((j-1) / 2):=by
   have a3:Int.tdiv (Fq (j-1)) 2=Fq ((j-1) / 2):=rfl;have a4:Fq ((j-1) / 2)=(((j-1) / 2:Nat):Int):=rfl;rw[a3,Oq]<;>omega
  have hij:(j-1) / 2<j:=Fh;generalize (j-1) / 2=i at e2 hij;have hne:¬i=j:=Fh;obtain⟨a,ha⟩:∃a,ks'[i]? = some a:=⟨_,FB Fh⟩;have lq:w.load bq 0 1=some [v]:=hc.load 0 1;have hroot:=hroot Fh;refine Fz (by simp only[go_sem,Hn,Vz,Vy,f0,f1,e1,e2,hne,HY,lq];rfl) ?_;refine Hq (by simp only[go_sem,Hn,HY,lq]) (by simp only[go_sem,Hn,HY,lq];rfl) ?_;refine Ex C hB hj ha fun w2 g2=>?_;have hB2:=hB.frm g2 fun _ _ h=>h;have hc2:=hc.frm g2 fun h=>h;have lq2:w2.load bq 0 1=some [v]:=hc2.load 0 1;have hf2:Frm S aw w2:=hf.tr g2.no;cases hlk:PD x a with
  | false =>
   refine Hs 1000 (by simp only[go_sem,f0,f1];rfl) ?_;refine exit _ _ _ ⟨ks',hB2,hc2,hf2,hll,hmem',?_⟩ rfl;rcases hm with rfl|⟨m,hm0,hmin⟩
   ·simp at hll;omega
   ·rw[hm0]at hroot
    have hma:a=m∨PD m a=true:=by
     rcases (hmem' a).1 (FI ha)with h|h
     ·exact hmin a h
     ·exact absurd (huniq i (by rw[ha,h])) hne
    have hmx:PD m x=true:=by
     have hxm:PD x m=false:=by
      cases hc:PD x m with
      | false=>rfl
      | true =>
       rcases hma with rfl|h
       ·rw[hc]at hlk;cases hlk
       ·rw[Aa hc h]at hlk;cases hlk
     rcases NC (hx m (FI hm0))with h|h
     ·exact h
     ·rw[h]at hxm;cases hxm
    refine⟨m,hroot,fun k hk=>?_⟩;rcases (hmem' k).1 hk with hk|rfl
    ·exact hmin k hk
    ·exact .inr hmx
  | true =>
   refine Fz (by simp only[go_sem,Hn,G3,f0,f1,HY,lq2];rfl) ?_;refine Hq (by simp only[go_sem,Hn,HY,lq2]) (by simp only[go_sem,Hn,HY,lq2];rfl) ?_;refine Ey C hB2 ha hj fun w3 q1 q2 q3=>?_;have hc3:=hc2.frm q2 hSq;refine Ho 1000 Fe ?_;refine ih i _ _ hij ⟨Bl ks' i j a x,(Fg f0),Fb,q1,hc3,hf2.tr q2,by rw[Eg];exact hl,fun k=>by rw[Jnp ha hj];exact hmem k,?_,fun p hp=>?_,fun h0=>?_,fun h0 k hk=>?_⟩
   ·rw[BC Fh hjl,if_neg fun h=>hne h.symm,if_pos rfl]
   ·rw[BC Fh hjl]at hp;split at hp
    ·cases hp;exact absurd (huniq i ha) hne
    ·split at hp
     ·omega
     ·rename_i h1 h2;exact absurd (huniq p hp).symm h1
   ·rw[BC Fh hjl,if_neg Fh,if_neg Fh];exact hroot
   ·subst h0;rw[ha]at hroot;rw[←hroot]at hk;cases hk;exact hlk
 ·rintro f w ⟨ks',h1,h2,h3,h4,h5,h6⟩;refine LY ⟨_,by simp only[go_sem,Hn,XS];rfl,?_⟩;exact hK w ks' h1 h2 h3 h4 h5 h6
section
open Go.AE Delphi
variable {tab:Tab}
theorem JkQ (C:Codes tab){w:AW}{n:Nat}(h:lenV v=some n)(hK:K (.int .i64 (Fq n)) w):WF tab Zr [v] w K:=by
 refine Hy C.X5 rfl ?_;refine Fz (by simp only[go_sem,Hn,X4,h];rfl) ?_;refine Hp ⟨_,by simp only[go_sem,Hn,X4];rfl,?_⟩;exact hK
theorem Jom (C:Codes tab){w:AW}{x:Ky}{bq:Nat}(hq:CB w bq [v])(h:QQ S w v ks)(hn:ks.length≤100)(hS:∀y,S y→y<w.next∧y≠bq)(hm:ks=[]∨Tj ks)(hx:∀k∈ks,k.2.2≠x.2.2)(hK:∀w' v' S' ks',CB w' bq [v']→QB S' w' v' ks'→Frm (fun y=>S y∨y=bq) w w'→(∀y,S' y→y<w'.next∧y≠bq∧(S y∨w.next≤y))→ks'.length=ks.length+1→(∀k,k∈ks'↔k∈ks∨k=x)→Tj ks'→K (.tuple []) w'): WF tab V3 [.iface 120 (.ptr bq 0),.iface 126 (.agg (kyC x))] w K:=by
 refine Hy C.XJ rfl ?_;refine Fz (by simp only[go_sem,Hn,XI,HY];rfl) ?_;refine Hq (by simp only[go_sem,Hn,HY]) (by simp only[go_sem,Hn,HY];rfl) ?_;refine JoN C hq h hn hS fun w1 v1 S1 c1 b1 f1 s1=>?_;have lq:w1.load bq 0 1=some [v1]:=c1.load 0 1;have hlv:=b1.lenV;rw[FE,Ka]at hlv;refine Fz (by simp only[go_sem,Hn,GZ,HY,lq];rfl) ?_;refine Hq (by simp only[go_sem,Hn,HY,lq]) (by simp only[go_sem,Hn,HY,lq];rfl) ?_;refine JkQ C hlv ?_
 have hsub:KX .i64 (Fq (ks.length+1)-1)=Fq ks.length:=by
  have a1:Fq (ks.length+1)=((ks.length+1:Nat):Int):=rfl;have a2:Fq ks.length=(ks.length:Int):=rfl;rw[Oq]<;>omega
 refine Fz (by simp only[go_sem,Hn,hsub];rfl) ?_;refine Hq Ff Fe ?_;refine Jrq C c1 b1 hn hm hx (fun h=>(s1 _ h).2.1 rfl) fun w2 ks' q1 q2 q3 q4 q5 q6=>?_;refine Ho 1000 Fe ?_;refine LY ⟨_,by simp only[go_sem,Hn,XI];rfl,?_⟩;have nx:=q3.next;exact hK w2 v1 S1 ks' q2 q1 (f1.trans q3 (fun _ _ h=>h) fun y hy h=>(s1 y h).2.2.elim .inl fun h=>by omega) (fun y hy=>⟨by have:=(s1 y hy).1;omega,(s1 y hy).2⟩) q4 q5 q6
def DnI (S:Fw) (bq n:Nat) (v:V) (lst:Ky) (aw:AW) (q:Nat) (f:Fr) (w:AW):Prop :=
 ∃i ks,f.get 0=some (.iface 120 (.ptr bq 0))∧f.get 1=some (.int .i64 (Fq 0))∧f.get 2=some (.int .i64 (Fq n))∧f.get 7=some (.int .i64 (Fq i))∧q=n-i∧i≤n∧QB S w v ks∧CB w bq [v]∧Frm S aw w∧ks.length=n+1∧ks[n]? = some lst
theorem JpD (C:Codes tab){aw:AW}{bq n:Nat}{lst:Ky}(hq:CB aw bq [v])(h:QB S aw v ks)(hl:ks.length=n+1)(hn:n≤100)(hlast:ks[n]? = some lst)(hSq:¬S bq)(hK:∀w' ks' b,QB S w' v ks'→CB w' bq [v]→Frm S aw w'→ks'.length=n+1→ks'[n]? = some lst→K (.bool b) w'):WF tab V8 [.iface 120 (.ptr bq 0),.int .i64 (Fq 0),.int .i64 (Fq n)] aw K:=by
 refine Hy C.XV rfl ?_;refine Fz (by simp only[go_sem,Hn,Z0,G6];rfl) ?_
 refine HT (DnI S bq n v lst aw) (fun f w=>∃i ks',f.get 1=some (.int .i64 (Fq 0))∧f.get 7=some (.int .i64 (Fq i))∧QB S w v ks'∧CB w bq [v]∧Frm S aw w∧ks'.length=n+1∧ks'[n]? = some lst) ?_ ?_ n
  ⟨0,ks,Fb,Fb,Fb,Fb,rfl,by omega,h,hq,Frm.refl _,hl,hlast⟩
 ·rintro q f w ⟨i,ks,f0,f1,f2,f7,rfl,hi,hB,hc,hf,hl,hlast⟩ ih exit
  have e1:KX .i64 (2*Fq i)=Fq (2*i):=by
   have a1:Fq i=(i:Int):=rfl;have a2:Fq (2*i)=((2*i:Nat):Int):=rfl;rw[Oq]<;>omega
  have e2:KX .i64 (Fq (2*i)+1)=Fq (2*i+1):=Hv Fh;have hij:i<2*i+1:=Fh;have hj1:2*i+1≤201:=Fh;generalize 2*i+1=j1 at e2 hij hj1;have e3:KX .i64 (Fq j1+1)=Fq (j1+1):=Hv Fh;by_cases hg:n≤j1
  ·refine Hs 1000 (by simp only[go_sem,ZZ,XU,f2,f7,e1,e2,hg];rfl) ?_;exact exit _ _ _ ⟨i,ks,(Fg f1),(Fg f7),hB,hc,hf,hl,hlast⟩ rfl
  have lq:w.load bq 0 1=some [v]:=hc.load 0 1;obtain⟨a,ha⟩:∃a,ks[i]? = some a:=⟨_,FB Fh⟩;obtain⟨b,hb⟩:∃a,ks[j1]? = some a:=⟨_,FB Fh⟩
  have child:∀{fr:Fr} {w:AW} {j:Nat},fr.get 0=some (.iface 120 (.ptr bq 0))→fr.get 1=some (.int .i64 (Fq 0))→fr.get 2=some (.int .i64 (Fq n))→fr.get 7=some (.int .i64 (Fq i))→fr.get 9=some (.int .i64 (Fq j))→i<j→j<n→QB S w v ks→CB w bq [v]→Frm S aw w→WS tab (.code VB :: .endB 1 :: .code (.loop ZZ) :: .endB 0::[.code (.seq (.region [⟨some 45,none,.mov (.tmp 7)⟩,⟨some 46,none,.mov (.tmp 1)⟩,⟨some 47,none,.bin .gtr (.tmp 45) (.tmp 46)⟩,⟨some 6,none,.mov (.tmp 47)⟩]) .ret)]) fr w fun fr' a=>∃vs,PQ fr' a Z0.results=some vs∧K (H7 vs) a:=by
   intro fr w j f0 f1 f2 f7 f9 hij hjn hB hc hf;have lq:w.load bq 0 1=some [v]:=hc.load 0 1;obtain⟨b,hb⟩:∃a,ks[j]? = some a:=⟨_,FB Fh⟩;refine Fz (by simp only[go_sem,Hn,VB,f0,f7,f9,HY,lq];rfl) ?_;refine Hq (by simp only[go_sem,Hn,HY,lq]) (by simp only[go_sem,Hn,HY,lq];rfl) ?_;refine Ex C hB hb ha fun w2 g2=>?_;have hB2:=hB.frm g2 fun _ _ h=>h;have hc2:=hc.frm g2 fun h=>h;have lq2:w2.load bq 0 1=some [v]:=hc2.load 0 1;have hf2:Frm S aw w2:=hf.tr g2.no;cases PD b a with
   | false =>
    refine Hs 1000 (by simp only[go_sem,f0];rfl) ?_;exact exit _ _ _ ⟨i,ks,(Fg f1),(Fg f7),hB2,hc2,hf2,hl,hlast⟩ rfl
   | true =>
    refine Fz (by simp only[go_sem,Hn,G5,f0,f7,f9,HY,lq2];rfl) ?_;refine Hq (by simp only[go_sem,Hn,HY,lq2]) (by simp only[go_sem,Hn,HY,lq2];rfl) ?_;refine Ey C hB2 ha hb fun w3 q1 q2 q3=>?_;have hc3:=hc2.frm q2 hSq;refine Fz (by simp only[go_sem,Hn,f9];rfl) ?_;refine ih (n-j) _ _ Fh ⟨j,Bl ks i j a b,(Fg f0),(Fg f1),(Fg f2),Fb,rfl,by omega,q1,hc3,hf2.tr q2,by rw[Eg];exact hl,?_⟩;rw[BC Fh Fh,if_neg Fh,if_neg Fh];exact hlast
  by_cases hg2:j1+1<n
  ·obtain⟨c,hcc⟩:∃a,ks[j1+1]? = some a:=⟨_,FB Fh⟩;refine Fz (by simp only[go_sem,Hn,ZZ,XU,VC,VA,f0,f2,f7,e1,e2,e3,hg,hg2,HY,lq];rfl) ?_;refine Hq (by simp only[go_sem,Hn,HY,lq]) (by simp only[go_sem,Hn,HY,lq];rfl) ?_;refine Ex C hB hcc hb fun w2 g2=>?_;have hB2:=hB.frm g2 fun _ _ h=>h;have hc2:=hc.frm g2 fun h=>h;have hf2:Frm S aw w2:=hf.tr g2.no;cases PD c b with
   | false =>
    refine Hs 1000 (by simp only[go_sem,Hn,f0];rfl) ?_;exact child (Fg f0) (Fg f1) (Fg f2) (Fg f7) Fb hij Fh hB2 hc2 hf2
   | true =>
    refine Hs 1000 (by simp only[go_sem,Hn,G4,f0];rfl) ?_;exact child (Fg f0) (Fg f1) (Fg f2) (Fg f7) Fb Fh hg2 hB2 hc2 hf2
  ·refine Hs 1000 (by simp only[go_sem,Hn,ZZ,XU,VC,VA,f0,f2,f7,e1,e2,e3,hg,hg2,HY,lq];rfl) ?_;exact child (Fg f0) (Fg f1) (Fg f2) (Fg f7) Fb hij Fh hB hc hf
 ·rintro f w ⟨i,ks',f1,f7,h1,h2,h3,h4,h5⟩;refine Fz (by simp only[go_sem,Hn,f1,f7];rfl) ?_;refine Hp ⟨_,by simp only[go_sem,Hn,Z0];rfl,?_⟩;exact hK w ks' _ h1 h2 h3 h4 h5
end
section
open Go.AE Delphi
variable {tab:Tab}
theorem Jp3 (C:Codes tab){w:AW}{n bq:Nat}{x:Ky}(hq:CB w bq [v])(h:QB S w v ks)(hl:ks.length=n+1)(hn:n≤100)(hx:ks[n]? = some x)(hK:∀w',Frm (fun y=>y=bq) w w'→K (.iface 126 (.agg (kyC x))) w'):WF tab Ub [.ptr bq 0] w K:=by
 refine Hy C.X8 rfl ?_;obtain⟨b,rfl,hS,hb,l1⟩:=O1 h hx;have hlv:=h.lenV;have lq:w.load bq 0 1=some [.slice b 0 ks.length (.upTo 3)]:=hq.load 0 1;have g1:=HJ (S:=fun _=>False) w [V.int .i64 0,V.bool false,V.int .i64 0];have c1:=Ph w [V.int .i64 0,V.bool false,V.int .i64 0];have lq1:(w.fresh [V.int .i64 0,V.bool false,V.int .i64 0]).load bq 0 1=some [.slice b 0 ks.length (.upTo 3)]:=(hq.frm g1 fun h=>h).load 0 1;obtain⟨b',e,_,_,l2⟩:=O1 (h.frm g1 fun _ _ h=>h) hx;cases e
 have hsub:KX .i64 (Fq ks.length-1)=Fq n:=by
  have a1:Fq ks.length=(ks.length:Int):=rfl;have a2:Fq n=(n:Int):=rfl;rw[Oq]<;>omega
 have hlt:n<ks.length:=Fh;have hlqb:=hq.lt;obtain⟨w2,s2,c2,r2,m2⟩:=PA w (zs:=[V.int .i64 0,V.bool false,V.int .i64 0]) (vs:=kyC x) rfl rfl;have hq2:=hq.frm r2 fun h=>h;have lq2:w2.load bq 0 1=some [.slice b 0 ks.length (.upTo 3)]:=hq2.load 0 1
 have hsl:∀a:AW,a.sliceW 3 b 0 ks.length (.upTo 3) none (some n) none=some (.slice b 0 n (.upTo 3)):=by
  intro a;have e1:n≤ks.length∧0≤n∧3=3:=⟨by omega,by omega,rfl⟩;have e2:OO 3 b 0 ks.length (.upTo 3) none (some n) none=some (.slice b 0 n (.upTo 3)):=if_pos e1;simp only[AW.sliceW,e2]
 have st:=hq2.set (i:=0) (v:=.slice b 0 n (.upTo 3)) Fj rfl;have pf:Frm (fun y=>y=bq) w2 (w2.put bq ([V.slice b 0 ks.length (.upTo 3)].set 0 (.slice b 0 n (.upTo 3)))):=HN;have c3:=c2.frm pf (by show ¬w.next=bq;omega);have k3:(w2.put bq ([V.slice b 0 ks.length (.upTo 3)].set 0 (.slice b 0 n (.upTo 3)))).load w.next 0 3=some (kyC x):=c3.all rfl;have ka:(kyC x).length=3:=rfl;have fin:=hK (w2.put bq ([V.slice b 0 ks.length (.upTo 3)].set 0 (.slice b 0 n (.upTo 3)))) (r2.no.tr pf);refine Fz (by simp only[go_sem,Hn,X7,G9];rfl) ?_;refine Pg ?_;refine HQ 100 (by simp only[go_sem,Hn,lq,hsub,hlt,l1,s2,ka,FU];rfl) ?_;refine Pk ⟨(show HP _ _ [(2,10),(5,10),(9,10)]from by simp only[go_sem,Hn,HP,chk,List.reverse_cons,List.reverse_nil,H9,Po,Pm,Pn,List.getElem?_nil,false_or,or_true,or_false,exists_eq',FP,Prod.mk.injEq,Bool.true_eq_false,FM,and_true,true_and,implies_true,lq,lq1,l1,l2,FU]),?_⟩;refine Fz (by simp only[go_sem,Hn,G8,lq2,hsub,hsl,st,k3,FC,FD];rfl) ?_;refine Hp ⟨_,by simp only[go_sem,Hn,X7];rfl,?_⟩;exact fin
theorem JpN (C:Codes tab){w:AW}{n bq:Nat}{m:Ky}(hq:CB w bq [v])(h:QB S w v ks)(hl:ks.length=n+1)(hn:n≤100)(hm:ks[0]? = some m)(hSq:¬S bq)(hK:∀w',Frm (fun y=>S y∨y=bq) w w'→K (.iface 126 (.agg (kyC m))) w'):WF tab V4 [.iface 120 (.ptr bq 0)] w K:=by
 refine Hy C.XL rfl ?_;have lq:w.load bq 0 1=some [v]:=hq.load 0 1;have hlv:=h.lenV;obtain⟨x,hx⟩:∃x,ks[n]? = some x:=⟨_,FB Fh⟩
 have hsub:KX .i64 (Fq ks.length-1)=Fq n:=by
  have a1:Fq ks.length=(ks.length:Int):=rfl;have a2:Fq n=(n:Int):=rfl;rw[Oq]<;>omega
 refine Fz (by simp only[go_sem,Hn,XK,G1,HY,lq];rfl) ?_;refine Hq (by simp only[go_sem,Hn,HY,lq]) (by simp only[go_sem,Hn,HY,lq];rfl) ?_;refine JkQ C hlv ?_;refine Fz (by simp only[go_sem,Hn,hsub,HY,lq];rfl) ?_;refine Hq (by simp only[go_sem,Hn,HY,lq]) (by simp only[go_sem,Hn,HY,lq];rfl) ?_;refine Ey C (i:=0) h hm hx fun w2 q1 q2 q3=>?_;have hc2:=hq.frm q2 hSq;have hl2:(Bl ks 0 n m x).length=n+1:=by rw[Eg];exact hl
 have hlast:(Bl ks 0 n m x)[n]? = some m:=by rw[BC Fh Fh,if_pos rfl]
 refine Fz (by simp only[go_sem,Hn,G0];rfl) ?_;refine Hq Ff Fe ?_;refine JpD C hc2 q1 hl2 hn hlast hSq fun w3 ks3 b p1 p2 p3 p4 p5=>?_;refine Fz (by simp only[go_sem,Hn,HY];rfl) ?_;refine Hq (by simp only[go_sem,Hn,HY]) (by simp only[go_sem,Hn,HY];rfl) ?_;refine Jp3 C p2 p1 p4 hn p5 fun w4 f4=>?_;refine Ho 1000 Fe ?_;refine Hp ⟨_,by simp only[go_sem,Hn,XK];rfl,?_⟩;exact hK w4 ((q2.tr p3).trans f4 (fun _ _ h=> .inl h) fun _ _ h=> .inr h)
end
section
open Go.AE Delphi
variable {tab:Tab}
def Jrt (a:AW) (bw:Nat) (u5:V) (bd:Fx) (x:Lt) (q:Nat) (f:Fr) (w:AW):Prop :=
 ∃i,f.get 0=some (.ptr bw 0)∧f.get 5=some (.int .i64 (Fq ((x.args.take i).countP (Ox bd))))∧f.get 9=some u5∧f.get 10=some (.int .i64 (Fq x.args.length))∧f.get 11=some (.int .i64 (Fq i))∧i≤x.args.length∧q=x.args.length-i∧Frm (fun _=>False) a w
theorem JnW (C:Codes tab){T:Fw}{aw:AW}{xs:List V}{x:Lt}{bw mb md k:Nat}{u ov bv:V}{M:Ps}{bd:Fx}(hc:CB aw bw [u,.map mb,.map md,ov,bv])(hM:SM aw mb M)(hs:Seen M bd k)(hx:LtC T aw x xs)(ha:x.args.length≤1000)(h:∀w,Frm (fun _=>False) aw w→K (.int .i64 (Fq (Oy bd x))) w):WF tab V2 [.ptr bw 0,.agg xs] aw K:=by
 refine Hy C.XH rfl ?_;obtain⟨v,rfl,hu⟩:=hx;have cb:=Ph aw [V.int .i64 (Fq x.kind),.str x.name,v];have ff:=HJ (S:=fun _=>False) aw [V.int .i64 (Fq x.kind),.str x.name,v];generalize hw1:aw.fresh [V.int .i64 (Fq x.kind),.str x.name,v]=w1 at cb ff;have l2:w1.load aw.next 2 1=some [v]:=by rw[cb.load];rfl
 have hlv:=hu.lenV;refine Fz (by simp only[go_sem,Hn,XG,GY,hw1,l2,hlv];rfl) ?_;refine HT (Jrt aw bw v bd x) (fun f w=>f.get 5=some (.int .i64 (Fq (Oy bd x)))∧Frm (fun _=>False) aw w) ?_ ?_ x.args.length ⟨0,Fb,Fb,Fb,Fb,Fb,by omega,rfl,ff⟩
 ·rintro q f w ⟨i,f0,f5,f9,f10,f11,hi,rfl,hf⟩ ih exit;by_cases hlt:i<x.args.length
  case neg =>
   rw[FW Fh]at f5;refine Hs 1000 (by simp only[go_sem,ZX,f10,f11,hlt];rfl) ?_;exact exit _ _ _ ⟨(by simp only[go_sem,Hn,f5,Oy]<;>rfl),hf⟩ rfl
  obtain⟨t,ht⟩:∃t,x.args[i]? = some t:=⟨_,FB hlt⟩;have hwr:KX .i64 (Fq i+1)=Fq (i+1):=Hv Fh;obtain⟨b,o,c,rfl,_,_,t3,_,_⟩:=SQ (hu.frm hf fun _ _ h=>h) ht;obtain⟨w2,s2,c2,r2,n2⟩:=PA w (zs:=[V.int .i64 0,V.str [],V.int .i64 0]) (vs:=tmC t) rfl rfl;have hf2:=hf.tr r2;have k0:w2.load w.next 0 1=some [.int .i64 (Fq t.kind)]:=by rw[c2.load];rfl
  have k1:w2.load w.next 1 1=some [.str t.name]:=by rw[c2.load];rfl
  have lm:w2.load bw 1 1=some [.map mb]:=by rw[(hc.frm hf2 fun h=>h).load];rfl
  have hcl:(x.args.take i).countP (Ox bd)≤i:=by have:=List.countP_le_length (p:=Ox bd) (l:=x.args.take i);rw[FT]at this;omega
  have hwc:KX .i64 (Fq ((x.args.take i).countP (Ox bd))+1)=Fq ((x.args.take i).countP (Ox bd)+1):=Hv Fh
  have e:(x.args.take (i+1)).countP (Ox bd)=(x.args.take i).countP (Ox bd)+(if Ox bd t=true then 1 else 0):=by
   rw[JjH ht,List.countP_append];simp[List.countP_cons]
  by_cases hk:t.kind=1
  case neg =>
   have hb:Ox bd t=true:=decide_eq_true (.inl hk);rw[if_pos hb]at e;refine Fz (by simp only[go_sem,Hn,ZX,XF,XE,Vw,f5,f9,f10,f11,hlt,t3,s2,L9,k0,hk,hwr,hwc];rfl) ?_;exact ih _ _ _ Fh ⟨i+1,(Fg f0),by rw[e];exact Fb,(Fg f9),(Fg f10),Fb,by omega,rfl,hf2⟩
  have k0':w2.load w.next 0 1=some [.int .i64 1]:=by rw[k0,hk];rfl
  obtain⟨n,hn1,hn2,hn3⟩:=Cu hs t.name;have look:=(hM.frm hf2 fun h=>h).look Px (.int .i64 0) t.name;rw[hn3]at look;by_cases hm:n=0
  ·have hb:¬Ox bd t=true:=by simp[Ox,hk,hn2.1 hm]
   rw[if_neg hb]at e;subst hm;refine Fz (by simp only[go_sem,Hn,ZX,XF,XE,f0,f9,f10,f11,hlt,t3,s2,L9,k0',k1,lm,look,hwr,Kk];rfl) ?_;exact ih _ _ _ Fh ⟨i+1,(Fg f0),by rw[e];exact (Fg f5),(Fg f9),(Fg f10),Fb,by omega,rfl,hf2⟩
  ·have hin:t.name∈bd:=Classical.byContradiction fun hc=>hm (hn2.2 hc);have hb:Ox bd t=true:=decide_eq_true (.inr hin);rw[if_pos hb]at e;have h0:0<n:=Fh;refine Fz (by simp only[go_sem,Hn,ZX,XF,XE,Vw,f0,f5,f9,f10,f11,hlt,t3,s2,L9,k0',k1,lm,look,h0,hwr,hwc];rfl) ?_;exact ih _ _ _ Fh ⟨i+1,(Fg f0),by rw[e];exact Fb,(Fg f9),(Fg f10),Fb,by omega,rfl,hf2⟩
 ·rintro f w ⟨f5,hf⟩;refine Fz (by simp only[go_sem,Hn,f5];rfl) ?_;refine Hp ⟨_,by simp only[go_sem,Hn,XG];rfl,?_⟩;exact h w hf
end
section
open Go.AE Delphi
variable {tab:Tab}
abbrev IM:=MB (α:=Int) (β:=Int) (V.int .i64) (V.int .i64)
structure WkS (a w:AW) (T:Fw) (body:List Lt) (u:V) (bw mb md:Nat) (s:H8) (ov bv:V) (So Sb:Fw) (M:Ps) (D:List (Int×Int)) (k:Nat):Prop where
 frm:Frm (fun _=>False) a w
 lits:RdL (LtC T) T a u 3 body
 cell:CB w bw [u,.map mb,.map md,ov,bv]
 mB:SM w mb M
 seen:Seen M s.2 k
 mD:IM w md D
 dn:∀j:Nat,Hr D (Fq j)=if j∈s.1 then some 1 else none
 ord:Bt So w ov 1 s.1.length (PV s.1)
 bnd:Bt Sb w bv 1 s.2.length (HW s.2)
 ge:a.next≤bw∧a.next≤mb∧a.next≤md∧bw≠mb∧bw≠md∧mb≠md
 sepO:∀x,So x→a.next≤x∧x<w.next∧x≠bw∧x≠mb∧x≠md∧¬Sb x
 sepB:∀x,Sb x→a.next≤x∧x<w.next∧x≠bw∧x≠mb∧x≠md
 inv:PlInv body s
variable {a w:AW} {T So Sb:Fw} {body:List Lt} {u ov bv:V} {bw mb md k:Nat} {s:H8} {M:Ps} {D:List (Int×Int)}
theorem WkS.ext {w2:AW}(h:WkS a w T body u bw mb md s ov bv So Sb M D k)(hf:Frm (fun _=>False) w w2):WkS a w2 T body u bw mb md s ov bv So Sb M D k:=
 have nx:=hf.next
 ⟨h.frm.tr hf,h.lits,h.cell.frm hf fun h=>h,h.mB.frm hf fun h=>h,h.seen,h.mD.frm hf fun h=>h,h.dn,h.ord.frm hf fun _ _ h=>h,h.bnd.frm hf fun _ _ h=>h,h.ge,fun x hx=>by have h1:=h.sepO x hx;exact⟨h1.1,by omega,h1.2.2⟩,fun x hx=>by have h1:=h.sepB x hx;exact⟨h1.1,by omega,h1.2.2⟩,h.inv⟩
theorem WkS.lit (h:WkS a w T body u bw mb md s ov bv So Sb M D k){i:Nat}{t:Lt}(hi:body[i]? = some t): ∃b o c v,u = .slice b o body.length c∧w.load b (o+i*3) 3=some [.int .i64 (Fq t.kind),.str t.name,v]∧w.load b (o+i*3) 1=some [.int .i64 (Fq t.kind)]∧w.load b (o+i*3+2) 1=some [v]∧Rd T w v 3 t.args.length (Pc t.args):=by
 obtain⟨b,o,c,v,h1,_,_,h2,h4,_,h5,h3⟩:=Sw (h.lits.frm (fun _ _ hl=>hl.frm h.frm fun _ _ h=>h) h.frm fun _ _ h=>h) hi;exact⟨b,o,c,v,h1,h2,h4,h5,h3⟩
theorem WkS.done (h:WkS a w T body u bw mb md s ov bv So Sb M D k)(i:Nat): w.lookV (.scalar .int) (.int .i64 0) (.map md) (.int .i64 (Fq i))=some (if i∈s.1 then (V.int .i64 1,true)else (V.int .i64 0,false)):=by
 rw[h.mD.look JmP (.int .i64 0) (Fq i),h.dn i];by_cases hm:i∈s.1
 ·rw[if_pos hm,if_pos hm];rfl
 ·rw[if_neg hm,if_neg hm];rfl
def BsI (a:AW) (T:Fw) (body:List Lt) (u:V) (bw mb md bq:Nat) (s:H8) (ov bv:V) (So Sb:Fw) (M:Ps) (D:List (Int×Int)) (k:Nat) (w0:AW) (q:Nat) (f:Fr) (w:AW):Prop :=
 ∃i ks qv S,f.get 0=some (.ptr bw 0)∧f.get 3=some (.ptr bq 0)∧f.get 15=some u∧f.get 16=some (.int .i64 (Fq body.length))∧f.get 17=some (.int .i64 (Fq i))∧i≤body.length∧q=body.length-i∧
  CB w bq [qv]∧QQ S w qv ks∧(ks=[]∨Tj ks)∧(∀y,y∈ks↔∃j,j<i∧PN body s j=true∧y=LB body s j)∧ks.length≤i∧(∀y,S y→w0.next≤y∧y<w.next∧y≠bq)∧Frm (fun _=>False) w0 w∧WkS a w T body u bw mb md s ov bv So Sb M D k
theorem Jpp (C:Codes tab){w0:AW}(hA:WkS a w0 T body u bw mb md s ov bv So Sb M D k)(hb7:body.length≤7)(hargs:∀x∈body,x.args.length≤5)(hex:∃i,PN body s i=true)(h:∀i w,TJ body s i→Frm (fun _=>False) w0 w→K (.int .i64 (Fq i)) w):WF tab VW [.ptr bw 0] w0 K:=by
 refine Hy C.Xe rfl ?_;have g1:=HJ (S:=fun _=>False) w0 [];have m1:(w0.fresh []).next=w0.next+1:=rfl;generalize hw1:w0.fresh []=w1 at g1 m1;have g2:=HJ (S:=fun _=>False) w1 [V.slice w0.next 0 0 (.known 0)];have m2:(w1.fresh [V.slice w0.next 0 0 (.known 0)]).next=w1.next+1:=rfl;have c2:=Ph w1 [V.slice w0.next 0 0 (.known 0)];generalize hw2:w1.fresh [V.slice w0.next 0 0 (.known 0)]=w2 at g2 m2 c2;have hA2:=(hA.ext g1).ext g2;have ld0:w2.load bw 0 1=some [u]:=by rw[hA2.cell.load];rfl
 have hlv:=TC hA.lits;have hl0:([]:List V).length=0:=rfl;have hA0:=hA;refine Fz (by simp only[go_sem,Hn,ZQ,GF,Hw,HF,hw1,hw2,ld0,hlv,FD];rfl) ?_
 refine HT (BsI a T body u bw mb md w1.next s ov bv So Sb M D k w0) (fun f w=>∃ks qv S,f.get 3=some (.ptr w1.next 0)∧CB w w1.next [qv]∧QQ S w qv ks∧(ks=[]∨Tj ks)∧(∀y,y∈ks↔∃j,PN body s j=true∧y=LB body s j)∧ks.length≤7∧(∀y,S y→w0.next≤y∧y<w.next∧y≠w1.next)∧Frm (fun _=>False) w0 w) ?_ ?_ body.length
  ⟨0,[],_,fun _=>False,Fb,Fb,Fb,Fb,Fb,by omega,rfl,c2,.inl ⟨rfl,_,rfl⟩,.inl rfl,fun y=>⟨fun h=>(by simp at h),fun⟨j,hj,_⟩=>by omega⟩,by simp,fun _ h=>h.elim,g1.tr g2,hA2⟩
 ·rintro q f w ⟨i,ks,qv,S,f0,f3,f15,f16,f17,hi,rfl,hc,hQ,hm,hmem,hl,hS,hf,hA⟩ ih exit;by_cases hlt:i<body.length
  case neg =>
   refine Hs 1000 (by simp only[go_sem,Xd,f16,f17,hlt];rfl) ?_;refine exit _ _ _ ⟨ks,qv,S,(Fg f3),hc,hQ,hm,fun y=>?_,by omega,hS,hf⟩ rfl;rw[hmem];exact⟨fun⟨j,_,h⟩=>⟨j,h⟩,fun⟨j,h1,h2⟩=>⟨j,by have:=IP h1;omega,h1,h2⟩⟩
  obtain⟨t,ht⟩:∃t,body[i]? = some t:=⟨_,FB hlt⟩;have hla:HA body i=t:=Pi ht;have ha5:=hargs t (FI ht);have hwr:KX .i64 (Fq i+1)=Fq (i+1):=Hv Fh;obtain⟨b,o,c,v,rfl,a3,_,_,hrv⟩:=hA.lit ht;have hone:HB [V.int .i64 (Fq t.kind),.str t.name,v]=true:=by rcases hrv.inv with⟨rfl,_⟩|⟨_,_,_,rfl,_⟩<;>rfl
  obtain⟨w3,s3,c3,r3,n3⟩:=PA w (zs:=[V.int .i64 0,V.str [],V.nilslice]) (vs:=[V.int .i64 (Fq t.kind),.str t.name,v]) rfl hone;have hA3:=hA.ext r3;have k3:w3.load w.next 0 3=some [.int .i64 (Fq t.kind),.str t.name,v]:=c3.all rfl;refine Fz (by simp only[go_sem,Hn,Xd,GE,GD,f0,f15,f16,f17,hlt,a3,s3,k3,FC,FD];rfl) ?_;refine Hq Ff Fe ?_;refine JnW C hA3.cell hA3.mB hA3.seen (x:=t) ⟨v,rfl,hrv.frm r3 fun _ _ h=>h⟩ Fh fun w4 g4=>?_;have hA4:=hA3.ext g4;have c4:=c3.frm g4 fun h=>h;have k0:w4.load w.next 0 1=some [.int .i64 (Fq t.kind)]:=by rw[c4.load];rfl
  have k2:w4.load w.next 2 1=some [v]:=by rw[c4.load];rfl
  have lmd:w4.load bw 2 1=some [.map md]:=by rw[hA4.cell.load];rfl
  have hvl:=hrv.lenV;have f34:Frm (fun _=>False) w w4:=r3.tr g4;have hc4:=hc.frm f34 fun h=>h;have nx4:=f34.next;have hQ4:QQ S w4 qv ks:=hQ.imp (fun h=>h) fun⟨h1,h2⟩=>⟨h1,h2.frm f34 fun _ _ h=>h⟩;have hS4:∀y,S y→w0.next≤y∧y<w4.next∧y≠w1.next:=fun y hy=>by have:=hS y hy;exact⟨this.1,by omega,this.2.2⟩
  have hf4:=hf.tr f34;have hdn:=hA4.done i
  have skip:PN body s i=false→∀y,y∈ks↔∃j,j<i+1∧PN body s j=true∧y=LB body s j:=by
   intro hnc y;rw[hmem];constructor
   ·rintro⟨j,h1,h2⟩;exact⟨j,by omega,h2⟩
   ·rintro⟨j,h1,h2,h3⟩;refine⟨j,?_,h2,h3⟩;by_cases e:j=i
    ·subst e;rw[hnc]at h2;cases h2
    ·omega
  by_cases hd:i∈s.1
  ·have hnc:PN body s i=false:=Jjn fun h=>h.2.1 hd;rw[if_pos hd]at hdn;refine Fz (by simp only[go_sem,Hn,ZP,f0,k0,lmd,hdn,f17,hwr];rfl) ?_;exact ih _ _ _ Fh ⟨i+1,ks,qv,S,(Fg f0),(Fg f3),(Fg f15),(Fg f16),Fb,by omega,rfl,hc4,hQ4,hm,skip hnc,by omega,hS4,hf4,hA4⟩
  rw[if_neg hd]at hdn
  have hxd:∀n a,∀y∈ks,y.2.2≠((a,n,i):Ky).2.2:=by
   intro n a y hy;obtain⟨j,hj,_,rfl⟩:=(hmem y).1 hy;show j≠i;omega
  have push:∀{fr:Fr} {n:Nat} {at':Bool},PN body s i=true→LB body s i=(at',n,i)→fr.get 0=some (.ptr bw 0)→fr.get 3=some (.ptr w1.next 0)→fr.get 4=some (.int .i64 (Fq i))→fr.get 6=some (.int .i64 (Fq n))→fr.get 7=some (.bool at')→fr.get 15=some (.slice b o body.length c)→fr.get 16=some (.int .i64 (Fq body.length))→fr.get 17=some (.int .i64 (Fq i))→WS tab (.code Vj :: .endB 1 :: .code (.region [⟨some 56,none,.bin .add (.tmp 17) (.const (.int .i64 1))⟩,⟨some 17,none,.mov (.tmp 56)⟩]) :: .code (.loop Xd) :: .endB 0::[.code Vk]) fr w4 fun fr' a=>∃vs,PQ fr' a ZQ.results=some vs∧K (H7 vs) a:=by
   intro fr n at' hcand hkey f0 f3 f4 f6 f7 f15 f16 f17;have ov1:over [V.int .i64 0,V.bool false,V.int .i64 0] 0 [V.int .i64 (Fq i)]=some [V.int .i64 (Fq i),V.bool false,V.int .i64 0]:=rfl;have ov2:over [V.int .i64 (Fq i),V.bool false,V.int .i64 0] 1 [V.bool at']=some [V.int .i64 (Fq i),V.bool at',V.int .i64 0]:=rfl;have ov3:over [V.int .i64 (Fq i),V.bool at',V.int .i64 0] 2 [V.int .i64 (Fq n)]=some (kyC (at',n,i)):=rfl;refine Fz (by simp only[go_sem,Hn,Vj,f3,f4,f6,f7,Hw,HF,ov1,ov2,ov3,FC,FD];rfl) ?_;refine Hq Ff Fe ?_;refine Jom C hc4 hQ4 Fh (fun y hy=>(hS4 y hy).2) hm (hxd n at') fun w5 v5 S5 ks5 q1 q2 q3 q4 q5 q6 q7=>?_
   have f5:Frm (fun _=>False) w0 w5:=hf4.trans q3 (fun _ _ h=>h) fun y hy h=>by
    rcases h with h|rfl
    ·have:=(hS4 y h).1;omega
    ·have:=hc4.lt;omega
   have hA5:=hA0.ext f5;have n5:=q3.next;refine Fz (by simp only[go_sem,Hn,f17,hwr];rfl) ?_;refine ih _ _ _ Fh ⟨i+1,ks5,v5,S5,(Fg f0),(Fg f3),(Fg f15),(Fg f16),Fb,by omega,rfl,q1,.inr ⟨fun h=>by rw[h]at q5;simp at q5,q2⟩,.inr q7,fun y=>?_,by omega,fun y hy=>?_,f5,hA5⟩
   ·rw[q6,hmem];constructor
    ·rintro (⟨j,h1,h2⟩|rfl)
     ·exact⟨j,by omega,h2⟩
     ·exact⟨i,by omega,hcand,hkey.symm⟩
    ·rintro⟨j,h1,h2,rfl⟩;by_cases e:j=i
     ·subst e;exact .inr hkey
     ·exact .inl ⟨j,by omega,h2,rfl⟩
   ·obtain⟨p1,p2,p3⟩:=q4 y hy;have:=hf4.next;rcases p3 with p3|p3
    ·exact⟨(hS4 y p3).1,p1,p2⟩
    ·exact⟨by omega,p1,p2⟩
  by_cases hk:t.kind=1
  ·have hcand:PN body s i=true:=decide_eq_true ⟨hlt,hd,.inl (by rw[hla];exact hk)⟩;have k0':w4.load w.next 0 1=some [.int .i64 1]:=by rw[k0,hk];rfl
   refine Hs 1000 (by simp only[go_sem,Hn,ZP,f0,k0',lmd,hdn,Kk];rfl) ?_;exact push (n:=Oy s.2 t) (at':=true) hcand (by simp[LB,hla,hk]) (Fg f0) (Fg f3) Fb Fb Fb (Fg f15) (Fg f16) (Fg f17)
  ·by_cases hlt2:Oy s.2 t<t.args.length
   ·have hnc:PN body s i=false:=Jjn fun h=>by rw[hla]at h;exact h.2.2.elim hk fun h=>by omega
    refine Fz (by simp only[go_sem,Hn,ZP,f0,k0,hk,lmd,hdn,k2,hvl,hlt2,f17,hwr,Kk];rfl) ?_;exact ih _ _ _ Fh ⟨i+1,ks,qv,S,(Fg f0),(Fg f3),(Fg f15),(Fg f16),Fb,by omega,rfl,hc4,hQ4,hm,skip hnc,by omega,hS4,hf4,hA4⟩
   ·have hle:=Jps (bd:=s.2) (x:=t);have hcand:PN body s i=true:=decide_eq_true ⟨hlt,hd,.inr (by rw[hla];omega)⟩;refine Hs 1000 (by simp only[go_sem,Hn,ZP,f0,k0,hk,lmd,hdn,k2,hvl,hlt2,Kk];rfl) ?_;exact push (n:=0) (at':=false) hcand (by simp[LB,hla,hk]) (Fg f0) (Fg f3) Fb Fb Fb (Fg f15) (Fg f16) (Fg f17)
 ·rintro f w ⟨ks,qv,S,f3,hc,hQ,hm,hmem,hl,hS,hf⟩;rcases hQ with⟨rfl,_⟩|⟨hne,hB⟩
  ·obtain⟨i,hi⟩:=hex;have:=(hmem (LB body s i)).2 ⟨i,hi,rfl⟩;simp at this
  rcases hm with rfl|⟨m,hm0,hmin⟩
  ·exact absurd rfl hne
  obtain⟨n,hn⟩:∃n,ks.length=n+1:=⟨ks.length-1,by have:=List.length_pos_iff.2 hne;omega⟩;obtain⟨j,hj,rfl⟩:=(hmem m).1 (FI hm0)
  have hbest:TJ body s j:=by
   refine⟨hj,fun j' hj' hn=>?_⟩;rcases hmin _ ((hmem _).2 ⟨j',hj',rfl⟩)with h|h
   ·exact absurd (congrArg (fun k:Ky=>k.2.2) h) hn
   ·exact h
  refine Fz (by simp only[go_sem,Hn,Vk,f3];rfl) ?_;refine Hq Ff Fe ?_;refine JpN C hc hB hn Fh hm0 (fun h=>(hS _ h).2.2 rfl) fun w3 f3=>?_;obtain⟨w4,s4,c4,r4,n4⟩:=PA w3 (zs:=[V.int .i64 0,V.bool false,V.int .i64 0]) (vs:=kyC (LB body s j)) rfl rfl;have l4:w4.load w3.next 0 1=some [.int .i64 (Fq j)]:=by rw[c4.load];rfl
  have kl:(kyC (LB body s j)).length=3:=rfl;refine Fz (by simp only[go_sem,Hn,s4,l4,kl,FC,FD];rfl) ?_;refine Hp ⟨_,by simp only[go_sem,Hn,ZQ];rfl,?_⟩;refine h j w4 hbest ?_;refine (hf.trans f3 (fun _ _ h=>h) ?_).tr r4;rintro y hy (h|rfl)
  ·have:=(hS y h).1;omega
  ·omega
end
end Go.Proofs.YtegdcbdicpfbpaaDoor
namespace Delphi
theorem Jix {out:Fx}{t:Tm}(h:out.Nodup):(PI out t).Nodup:=by
 unfold PI;split
 ·rename_i hc;rw[List.nodup_append];refine⟨h,by simp,?_⟩;intro a ha b hb;rw[Kn]at hb;rintro rfl;exact hc.2 (hb▸ha)
 ·exact h
theorem JjT (l:List Tm):(Pa l).Nodup:=by
 have:∀(l:List Tm) (out:Fx),out.Nodup→(l.foldl PI out).Nodup:=by
  intro l;induction l with
  | nil=>intro out h;exact h
  | cons t l ih=>intro out h;exact ih _ (Jix h)
 exact this l [] List.nodup_nil
theorem Jkc (bd:Fx)(x:Lt):O6 bd x=(Pa x.args).filter fun v=>decide (v∉bd):=by
 have:∀(l:List Tm) (out out':Fx),out=out'.filter (fun v=>decide (v∉bd))→l.foldl (Oo bd) out=(l.foldl PI out').filter fun v=>decide (v∉bd):=by
  intro l;induction l with
  | nil=>intro out out' h;exact h
  | cons t l ih =>
   intro out out' h;refine ih _ _ ?_;by_cases hk:t.kind=1
   ·by_cases hb:t.name∈bd
    ·have e1:Oo bd out t=out:=if_neg fun h=>h.2.1 hb;rw[e1,h];unfold PI;split
     ·rw[List.filter_append];simp[hb]
     ·rfl
    ·have hm:t.name∈out↔t.name∈out':=by rw[h,KG];simp[hb]
     by_cases ho:t.name∈out'
     ·have e1:Oo bd out t=out:=if_neg fun h=>h.2.2 (hm.2 ho);have e2:PI out' t=out':=if_neg fun h=>h.2 ho;rw[e1,e2,h]
     ·have e1:Oo bd out t=out++[t.name]:=if_pos ⟨hk,hb,fun h=>ho (hm.1 h)⟩;have e2:PI out' t=out'++[t.name]:=if_pos ⟨hk,ho⟩;rw[e1,e2,List.filter_append,h];simp[hb]
   ·have e1:Oo bd out t=out:=if_neg fun h=>hk h.1;have e2:PI out' t=out':=if_neg fun h=>hk h.1;rw[e1,e2,h]
 exact this x.args [] [] rfl
variable {bd:Fx}
theorem JoI {x:Lt}(h:Oy bd x=x.args.length):O6 bd x=[]:=by
 rw[List.eq_nil_iff_forall_not_mem];intro v hv;obtain⟨h1,t,ht,hk,rfl⟩:=mem_newV.1 hv;exact h1 (bndN_full.1 h t ht hk)
def LJ (bd vs:Fx) (j:Nat):Fx:=bd++(vs.take j).filter fun v=>decide (v∉bd)
variable {v:List Nat}
theorem JnO {vs:Fx}(hn:vs.Nodup){j:Nat}(hj:vs[j]? = some v):v∈LJ bd vs j↔v∈bd:=by
 simp only[LJ,F9,KG,decide_eq_true_eq];constructor
 ·rintro (h|⟨h,h2⟩)
  ·exact h
  ·exfalso;obtain⟨p,hp⟩:=List.getElem?_of_mem h
   have hpj:p<j:=by
    have:p<(vs.take j).length:=(List.getElem?_eq_some_iff.1 hp).1;rw[FT]at this;omega
   rw[Kr hpj]at hp;have hjl:j<vs.length:=(List.getElem?_eq_some_iff.1 hj).1;have hpl:p<vs.length:=Fh;have:=List.pairwise_iff_getElem.1 hn p j hpl hjl hpj;rw[FB hpl]at hp;rw[FB hjl]at hj;exact this ((FX hp).trans (FX hj).symm)
 ·exact .inl
theorem Jmf {vs:Fx}{j:Nat}(hj:vs[j]? = some v):LJ bd vs (j+1)=if v∈bd then LJ bd vs j else LJ bd vs j++[v]:=by
 have:vs.take (j+1)=vs.take j++[v]:=by rw[List.take_add_one,hj];rfl
 simp only[LJ,this,List.filter_append];by_cases h:v∈bd
 ·simp[h]
 ·simp[h]
end Delphi
namespace Go.Proofs.YtegdcbdicpfbpaaDoor
open Go.AE Delphi
variable {tab:Tab}
structure WkM (a w:AW) (T:Fw) (body:List Lt) (u:V) (bw mb md:Nat) (l:List Nat) (bd:Fx) (ov bv:V) (So Sb:Fw) (M:Ps) (D:List (Int×Int)) (k:Nat):Prop where
 frm:Frm (fun _=>False) a w
 lits:RdL (LtC T) T a u 3 body
 cell:CB w bw [u,.map mb,.map md,ov,bv]
 mB:SM w mb M
 seen:Seen M bd k
 mD:IM w md D
 dn:∀j:Nat,Hr D (Fq j)=if j∈l then some 1 else none
 ord:Bt So w ov 1 l.length (PV l)
 bnd:Bt Sb w bv 1 bd.length (HW bd)
 ge:a.next≤bw∧a.next≤mb∧a.next≤md∧bw≠mb∧bw≠md∧mb≠md
 sepO:∀x,So x→a.next≤x∧x<w.next∧x≠bw∧x≠mb∧x≠md∧¬Sb x
 sepB:∀x,Sb x→a.next≤x∧x<w.next∧x≠bw∧x≠mb∧x≠md
variable {a w:AW} {T So Sb:Fw} {body:List Lt} {u ov bv:V} {bw mb md k:Nat} {M:Ps} {D:List (Int×Int)}
theorem WkS.m {s:H8}(h:WkS a w T body u bw mb md s ov bv So Sb M D k):WkM a w T body u bw mb md s.1 s.2 ov bv So Sb M D k:=⟨h.frm,h.lits,h.cell,h.mB,h.seen,h.mD,h.dn,h.ord,h.bnd,h.ge,h.sepO,h.sepB⟩
theorem WkM.s {s:H8}(h:WkM a w T body u bw mb md s.1 s.2 ov bv So Sb M D k)(hi:PlInv body s):WkS a w T body u bw mb md s ov bv So Sb M D k:=⟨h.frm,h.lits,h.cell,h.mB,h.seen,h.mD,h.dn,h.ord,h.bnd,h.ge,h.sepO,h.sepB,hi⟩
variable {l:List Nat}
theorem WkM.ext {w2:AW}{bd:Fx}(h:WkM a w T body u bw mb md l bd ov bv So Sb M D k)(hf:Frm (fun _=>False) w w2):WkM a w2 T body u bw mb md l bd ov bv So Sb M D k:=
 have nx:=hf.next
 ⟨h.frm.tr hf,h.lits,h.cell.frm hf fun h=>h,h.mB.frm hf fun h=>h,h.seen,h.mD.frm hf fun h=>h,h.dn,h.ord.frm hf fun _ _ h=>h,h.bnd.frm hf fun _ _ h=>h,h.ge,fun x hx=>by have h1:=h.sepO x hx;exact⟨h1.1,by omega,h1.2.2⟩,fun x hx=>by have h1:=h.sepB x hx;exact⟨h1.1,by omega,h1.2.2⟩⟩
theorem WkM.take1 {i:Nat}{bd:Fx}(h:WkM a w T body u bw mb md l bd ov bv So Sb M D k)(hl:l.length≤100): ∃w2 ov' w5 S5 D',w.putV (.scalar .int) (.map md) (.int .i64 (Fq i)) (.int .i64 1)=some w2∧(w2.fresh [.int .i64 (Fq i)]).appendV 1 8 ov 1 [.int .i64 (Fq i)]=some (ov',w5)∧w5.store bw 3 [ov']=some (w5.put bw [u,.map mb,.map md,ov',bv])∧CB w2 bw [u,.map mb,.map md,ov,bv]∧CB (w2.fresh [.int .i64 (Fq i)]) bw [u,.map mb,.map md,ov,bv]∧ov'.cells=[ov']∧WkM a (w5.put bw [u,.map mb,.map md,ov',bv]) T body u bw mb md (l++[i]) bd ov' bv S5 Sb M D' k:=by
 obtain⟨g1,g2,g3,g4,g5,g6⟩:=h.ge;obtain⟨w2,p1,p2,p3,p4⟩:=h.mD.put JmP (Fq i) 1;have hc2:=h.cell.frm p3 (by show ¬bw=md;exact g5);have hb2:=h.mB.frm p3 (by show ¬mb=md;exact g6);have ho2:=h.ord.frm p3 fun x hx he=>(h.sepO x hx).2.2.2.2.1 he;have hbn2:=h.bnd.frm p3 fun x hx he=>(h.sepB x hx).2.2.2.2 he;have hSo:∀b,So b→b<w2.next:=fun b hb=>by rw[p4];exact (h.sepO b hb).2.1
 obtain⟨ov',w5,S5,u1,u2,u3,u4⟩:=ho2.push (news:=[V.int .i64 (Fq i)]) (bytes:=8) hSo Fh rfl rfl Fh Fh;have nw:¬So bw:=fun hx=>(h.sepO _ hx).2.2.1 rfl;have nb:¬So mb:=fun hx=>(h.sepO _ hx).2.2.2.1 rfl;have nd:¬So md:=fun hx=>(h.sepO _ hx).2.2.2.2.1 rfl;have hc5:=hc2.frm u3 nw;have st:=hc5.set (i:=3) (v:=ov') Fj u2.one.1;have pf:Frm (fun x=>x=bw) w5 (w5.put bw [u,.map mb,.map md,ov',bv]):=HN;have nx:=u3.next;have hfa:=h.frm.next;have lw:=h.cell.lt;have lmb:=h.mB.lt;have lmd:=h.mD.lt
 have sS5:∀x,S5 x→a.next≤x∧x<w5.next∧x≠bw∧x≠mb∧x≠md∧¬Sb x:=by
  intro x hx;obtain⟨m1,m2⟩:=u4 x hx;rcases m2 with m2|m2
  ·have h1:=h.sepO x m2;exact⟨h1.1,m1,h1.2.2⟩
  ·exact⟨by omega,m1,by omega,by omega,by omega,fun hb=>by have:=(h.sepB x hb).2.1;omega⟩
 refine⟨w2,ov',w5,S5,_,p1,u1,st,hc2,hc2.frm (HJ (S:=fun _=>False) _ _) fun h=>h,u2.one.2,⟨?_,h.lits,H1 hc5.lt,(hb2.frm u3 nb).frm pf (fun e=>g4 e.symm),h.seen,(p2.frm u3 nd).frm pf (fun e=>g5 e.symm),?_,?_,(hbn2.frm u3 fun x hx hs=>(h.sepO x hs).2.2.2.2.2 hx).frm pf fun x hx=>(h.sepB x hx).2.2.1,h.ge,fun x hx=>sS5 x hx,fun x hx=>?_⟩⟩
 ·refine ((h.frm.trans p3 (fun _ _ h=>h) ?_).trans u3 (fun _ _ h=>h) fun x hx hs=>by have:=(h.sepO x hs).1;omega).out Fh rfl;rintro x hx rfl;omega
 ·intro j;by_cases e:j=i
  ·subst e;rw[HD,if_pos Fj]
  ·have e2:Fq j≠Fq i:=fun h=>e (Int.ofNat.inj h);rw[HX _ _ _ _ e2,h.dn j];by_cases hm:j∈l
   ·rw[if_pos hm,if_pos (by simp[hm])]
   ·rw[if_neg hm,if_neg (by simp[hm,e])]
 ·have e:PV (l++[i])=PV l++[V.int .i64 (Fq i)]:=by simp[PV]
  rw[e,FE,Ka];exact u2.frm pf fun x hx=>(sS5 x hx).2.2.1
 ·have h1:=h.sepB x hx;exact⟨h1.1,by have:(w5.put bw [u,.map mb,.map md,ov',bv]).next=w5.next:=rfl;omega,h1.2.2⟩
section
open Go.AE Delphi
variable {tab:Tab}
variable {bd:Fx}
theorem Seen.mono {k':Nat}(h:Seen M bd k)(hk:k≤k'):Seen M bd k':=fun x=>⟨(h x).1,fun c hc=>by have:=(h x).2 c hc;omega⟩
theorem WkM.up {k':Nat}(h:WkM a w T body u bw mb md l bd ov bv So Sb M D k)(hk:k≤k'):WkM a w T body u bw mb md l bd ov bv So Sb M D k':=⟨h.frm,h.lits,h.cell,h.mB,Seen.mono h.seen hk,h.mD,h.dn,h.ord,h.bnd,h.ge,h.sepO,h.sepB⟩
theorem WkM.cnt {n:Nat}{v:List Nat}(h:WkM a w T body u bw mb md l bd ov bv So Sb M D k)(hn:n≤k): ∃w2,w.putV (.scalar .str) (.map mb) (.str v) (.int .i64 (Fq (n+1)))=some w2∧Frm (fun x=>x=mb) w w2∧w2.next=w.next∧SM w2 mb (Pe M v (Fq (n+1)))∧ (v∈bd→WkM a w2 T body u bw mb md l bd ov bv So Sb (Pe M v (Fq (n+1))) D (k+1))∧ (v∉bd→bd.length≤1000→CB w2 bw [u,.map mb,.map md,ov,bv]∧∃bv' w5 S5,(w2.fresh [.str v]).appendV 1 16 bv 1 [.str v]=some (bv',w5)∧w5.store bw 4 [bv']=some (w5.put bw [u,.map mb,.map md,ov,bv'])∧bv'.cells=[bv']∧WkM a (w5.put bw [u,.map mb,.map md,ov,bv']) T body u bw mb md l (bd++[v]) ov bv' So S5 (Pe M v (Fq (n+1))) D (k+1)∧ Frm (fun x=>x=mb∨x=bw∨Sb x) w (w5.put bw [u,.map mb,.map md,ov,bv'])∧∀x,S5 x→Sb x∨w.next≤x):=by
 obtain⟨g1,g2,g3,g4,g5,g6⟩:=h.ge;obtain⟨w2,p1,p2,p3,p4⟩:=h.mB.put Px v (Fq (n+1));have hc2:=h.cell.frm p3 (by show ¬bw=mb;exact g4);have hd2:=h.mD.frm p3 (by show ¬md=mb;exact fun e=>g6 e.symm);have ho2:=h.ord.frm p3 fun x hx he=>(h.sepO x hx).2.2.2.1 he;have hbn2:=h.bnd.frm p3 fun x hx he=>(h.sepB x hx).2.2.2.1 he;have hfa:=h.frm.next;have lw:=h.cell.lt;have lmb:=h.mB.lt;have lmd:=h.mD.lt;have f02:Frm (fun _=>False) a w2:=h.frm.trans p3 (fun _ _ h=>h) (by rintro x hx rfl;omega);refine⟨w2,p1,p3,p4,p2,fun hv=>?_,fun hv hl=>?_⟩
 ·have hs:=EE (out':=bd) h.seen hn (k:=v) fun x=>⟨.inl,fun h=>h.elim id fun h=>h▸hv⟩;exact⟨f02,h.lits,hc2,p2,hs,hd2,h.dn,ho2,hbn2,h.ge,fun x hx=>by have h1:=h.sepO x hx;exact⟨h1.1,by omega,h1.2.2⟩,fun x hx=>by have h1:=h.sepB x hx;exact⟨h1.1,by omega,h1.2.2⟩⟩
 ·have hs:=EE (out':=bd++[v]) h.seen hn (k:=v) fun x=>by simp
  have hSb:∀b,Sb b→b<w2.next:=fun b hb=>by rw[p4];exact (h.sepB b hb).2.1
  obtain⟨bv',w5,S5,u1,u2,u3,u4⟩:=hbn2.push (news:=[V.str v]) (bytes:=16) hSb Fh rfl rfl Fh Fh;have nw:¬Sb bw:=fun hx=>(h.sepB _ hx).2.2.1 rfl;have nb:¬Sb mb:=fun hx=>(h.sepB _ hx).2.2.2.1 rfl;have nd:¬Sb md:=fun hx=>(h.sepB _ hx).2.2.2.2 rfl;have hc5:=hc2.frm u3 nw;have st:=hc5.set (i:=4) (v:=bv') Fj u2.one.1;have pf:Frm (fun x=>x=bw) w5 (w5.put bw [u,.map mb,.map md,ov,bv']):=HN;have nx:=u3.next
  have sS5:∀x,S5 x→a.next≤x∧x<w5.next∧x≠bw∧x≠mb∧x≠md:=by
   intro x hx;obtain⟨m1,m2⟩:=u4 x hx;rcases m2 with m2|m2
   ·have h1:=h.sepB x m2;exact⟨h1.1,m1,h1.2.2⟩
   ·exact⟨by omega,m1,by omega,by omega,by omega⟩
  refine⟨hc2,bv',w5,S5,u1,st,u2.one.2,⟨(f02.trans u3 (fun _ _ h=>h) fun x hx hs=>by have:=(h.sepB x hs).1;omega).out Fh rfl,h.lits,H1 hc5.lt,(p2.frm u3 nb).frm pf (fun e=>g4 e.symm),hs,(hd2.frm u3 nd).frm pf (fun e=>g5 e.symm),h.dn,(ho2.frm u3 fun x hx hs=>(h.sepO x hx).2.2.2.2.2 hs).frm pf fun x hx=>(h.sepO x hx).2.2.1,?_,h.ge,fun x hx=>?_,fun x hx=>sS5 x hx⟩,?_,fun x hx=>(u4 x hx).2.imp id fun h=>by omega⟩
  ·have e:HW (bd++[v])=HW bd++[V.str v]:=by simp[HW]
   rw[e,FE,Ka];exact u2.frm pf fun x hx=>(sS5 x hx).2.2.1
  ·have h1:=h.sepO x hx;refine⟨h1.1,by have:(w5.put bw [u,.map mb,.map md,ov,bv']).next=w5.next:=rfl;omega,h1.2.2.1,h1.2.2.2.1,h1.2.2.2.2.1,fun h5=>?_⟩;rcases (u4 x h5).2 with m2|m2
   ·exact h1.2.2.2.2.2 m2
   ·omega
  ·exact (p3.trans u3 (fun _ _ h=> .inl h) fun _ _ h=> .inr (.inr h)).trans pf (fun _ _ h=>h) fun _ _ h=> .inr (.inl h)
def TkI (a:AW) (T:Fw) (body:List Lt) (u:V) (bw mb md k:Nat) (l:List Nat) (bd vs:Fx) (ov vv:V) (So Sv:Fw) (D:List (Int×Int)) (q:Nat) (f:Fr) (w:AW):Prop :=
 ∃j bv Sb M,f.get 0=some (.ptr bw 0)∧f.get 40=some vv∧f.get 41=some (.int .i64 (Fq vs.length))∧f.get 42=some (.int .i64 (Fq j))∧j≤vs.length∧q=vs.length-j∧
  WkM a w T body u bw mb md l (LJ bd vs j) ov bv So Sb M D (k+j)∧Bt Sv w vv 1 vs.length (HW vs)∧∀y,Sv y→y<w.next∧y≠bw∧y≠mb∧¬Sb y
theorem JnN (bd vs:Fx)(j:Nat):(LJ bd vs j).length≤bd.length+j:=by
 have h1:=Kl (fun v=>decide (v∉bd)) (vs.take j);have h2:(vs.take j).length≤j:=by rw[FT];omega
 simp only[LJ,FE];omega
theorem Ta (C:Codes tab){i:Nat}{s:H8}{K:V→AW→Prop}(hA:WkS a w T body u bw mb md s ov bv So Sb M D k)(hi:i<body.length)(hargs:∀x∈body,x.args.length≤5)(hl:s.1.length≤100)(hk:k≤1000)(hc:(HA body i).kind=1∨Oy s.2 (HA body i)=(HA body i).args.length)(h:∀w' ov' bv' So' Sb' M' D',WkS a w' T body u bw mb md (PP body s i) ov' bv' So' Sb' M' D' (k+5)→K (.tuple []) w'):WF tab Wp [.ptr bw 0,.int .i64 (Fq i)] w K:=by
 refine Hy C.Xc rfl ?_;obtain⟨t,ht⟩:∃t,body[i]? = some t:=⟨_,FB hi⟩;have hla:HA body i=t:=Pi ht;have ha5:=hargs t (FI ht);rw[hla]at hc;have hinv:=hA.inv.take hi hargs;have sl:=hA.inv.len;obtain⟨w2,ov',w5,S5,D',u1,u2,u3,u4,u5,u6,hM⟩:=hA.m.take1 (i:=i) hl;have lmd:w.load bw 2 1=some [.map md]:=by rw[hA.cell.load];rfl
 have l3:(w2.fresh [.int .i64 (Fq i)]).load bw 3 1=some [ov]:=by rw[u5.load];rfl
 have l3':w2.load bw 3 1=some [ov]:=by rw[u4.load];rfl
 have el:=Pl (w:=w2) (esz:=1) (n:=1) (cs:=[V.int .i64 (Fq i)]) (c:=.known 1) Fh rfl;have hov:over [V.int .i64 0] 0 [V.int .i64 (Fq i)]=some [V.int .i64 (Fq i)]:=rfl;obtain⟨w6,hw6⟩:∃w6,w6=w5.put bw [u,.map mb,.map md,ov',bv]:=⟨_,rfl⟩;rw[←hw6]at u3 hM;have l0:w6.load bw 0 1=some [u]:=by rw[hM.cell.load];rfl
 obtain⟨b,o,c,v,rfl,_,a1,a2,hrv⟩:∃b o c v,u = .slice b o body.length c∧w6.load b (o+i*3) 3=some [.int .i64 (Fq t.kind),.str t.name,v]∧w6.load b (o+i*3) 1=some [.int .i64 (Fq t.kind)]∧w6.load b (o+i*3+2) 1=some [v]∧Rd T w6 v 3 t.args.length (Pc t.args):=by
  obtain⟨b,o,c,v,h1,_,_,h2,h4,_,h5,h3⟩:=Sw (hM.lits.frm (fun _ _ hl=>hl.frm hM.frm fun _ _ h=>h) hM.frm fun _ _ h=>h) ht;exact⟨b,o,c,v,h1,h2,h4,h5,h3⟩
 by_cases hk1:t.kind=1
 case neg =>
  have hnil:O6 s.2 t=[]:=JoI (hc.resolve_left hk1);have e:PP body s i=(s.1++[i],s.2):=by simp[PP,hla,hnil]
  refine Fz (by simp only[go_sem,Hn,Zj,Vi,Vh,lmd,u1,l3,l3',Hw,HF,hov,el,u2,u3,u6,l0,hi,a1,hk1,FC,FD];rfl) ?_;refine Hp ⟨_,by simp only[go_sem,Hn,Zj];rfl,?_⟩;exact h w6 ov' bv S5 Sb M D' (WkM.s (by rw[e];exact hM.up Fh) hinv)
 have a1':w6.load b (o+i*3) 1=some [.int .i64 1]:=by rw[a1,hk1];rfl
 refine Fz (by simp only[go_sem,Hn,Zj,Vi,Vh,GC,lmd,u1,l3,l3',Hw,HF,hov,el,u2,u3,u6,l0,hi,a1',a2,FC,FD];rfl) ?_;refine Hq Ff Fe ?_;refine Iw C hrv Fh fun vv w7 Sv q1 q2 q3=>?_;have hM7:=hM.ext q2;have hvl:=Il t.args;have hnd:=JjT t.args;have hnew:O6 s.2 t=(Pa t.args).filter fun v=>decide (v∉s.2):=Jkc s.2 t;generalize Pa t.args=vs at q1 hvl hnd hnew;have hvv:=q1.lenV;have e0:LJ s.2 vs 0=s.2:=by simp[LJ]
 refine Fz (by simp only[go_sem,Hn,hvv];rfl) ?_
 refine HT (TkI a T body (.slice b o body.length c) bw mb md k (s.1++[i]) s.2 vs ov' vv S5 Sv D') (fun f w=>∃bv Sb M,WkM a w T body (.slice b o body.length c) bw mb md (s.1++[i]) (LJ s.2 vs vs.length) ov' bv S5 Sb M D' (k+vs.length)) ?_ ?_ vs.length
  ⟨0,bv,Sb,M,Fb,Fb,Fb,Fb,by omega,rfl,by rw[e0];exact hM7,q1,fun y hy=>⟨(q3 y hy).2,fun e=>?_,fun e=>?_,fun hb=>?_⟩⟩
 ·rintro q f w ⟨j,bv,Sb,M,f0,f40,f41,f42,hj,rfl,hW,hB,hS⟩ ih exit;by_cases hlt:j<vs.length
  case neg =>
   have e:j=vs.length:=Fh;refine Hs 1000 (by simp only[go_sem,Xb,f41,f42,hlt];rfl) ?_;subst e;exact exit _ _ _ ⟨bv,Sb,M,hW⟩ rfl
  obtain⟨x,hx⟩:∃x,vs[j]? = some x:=⟨_,FB hlt⟩;have hwr:KX .i64 (Fq j+1)=Fq (j+1):=Hv Fh;rcases hB.rd.inv with⟨_,q2,_⟩|⟨bx,ox,cx,rfl,hBx⟩
  ·omega
  have lx:w.load bx (ox+j) 1=some [.str x]:=hBx.cell Fh (by rw[HW,F6,hx];rfl);have l1:w.load bw 1 1=some [.map mb]:=by rw[hW.cell.load];rfl
  obtain⟨n,hn1,hn2,hn3⟩:=Cu hW.seen x;have look:=hW.mB.look Px (.int .i64 0) x;rw[hn3]at look;have hw1:KX .i64 (Fq n+1)=Fq (n+1):=Hv Fh;obtain⟨w8,p1,p2,p3,p4,p5,p6⟩:=hW.cnt (v:=x) hn1;have look2:=p4.look Px (.int .i64 0) x;rw[HD]at look2;simp only[Tq]at look2;have hc8:=hW.cell.frm p2 (by show ¬bw=mb;exact hW.ge.2.2.2.1);have l8:w8.load bw 1 1=some [.map mb]:=by rw[hc8.load];rfl
  have bl:=JnN s.2 vs j;have esucc:=Jmf (bd:=s.2) hx;have hmem:=JnO (bd:=s.2) hnd hx;by_cases hin:x∈LJ s.2 vs j
  ·have hn0:¬n=0:=fun h=>hn2.1 h hin;have hne:¬n+1=1:=Fh;rw[if_pos (hmem.1 hin)]at esucc;refine Fz (by simp only[go_sem,Hn,Xb,Vg,Vf,Ve,f0,f40,f41,f42,hlt,lx,l1,look,hw1,p1,l8,look2,hne,KA,hwr];rfl) ?_;exact ih _ _ _ Fh ⟨j+1,bv,Sb,_,(Fg f0),(Fg f40),(Fg f41),Fb,by omega,rfl,by rw[esucc];exact p5 hin,hB.frm p2 fun y hy=>(hS y hy).2.2.1,fun y hy=>by have:=hS y hy;exact⟨by omega,this.2⟩⟩
  ·have hn0:n=0:=hn2.2 hin;subst hn0;rw[if_neg fun h=>hin (hmem.2 h)]at esucc;obtain⟨hc8',bv',w9,S9,r1,r2,r3,r4,r5,r6⟩:=p6 hin Fh;have l84:w8.load bw 4 1=some [bv]:=by rw[hc8.load];rfl
   have el2:=Pl (w:=w8) (esz:=1) (n:=1) (cs:=[V.str x]) (c:=.known 1) Fh rfl;have hov2:over [V.str []] 0 [V.str x]=some [V.str x]:=rfl;refine Fz (by simp only[go_sem,Hn,Xb,Vg,Vf,Ve,GB,f0,f40,f41,f42,hlt,lx,l1,look,hw1,p1,l8,look2,l84,Hw,HF,hov2,el2,r1,r2,r3,KA,hwr,FC,FD];rfl) ?_;have nx:=r5.next;refine ih _ _ _ Fh ⟨j+1,bv',S9,_,(Fg f0),(Fg f40),(Fg f41),Fb,by omega,rfl,by rw[esucc];exact r4,hB.frm r5 fun y hy h=>?_,fun y hy=>?_⟩
   ·have:=hS y hy;rcases h with h|h|h
    ·exact this.2.2.1 h
    ·exact this.2.1 h
    ·exact this.2.2.2 h
   ·have h1:=hS y hy;refine⟨by omega,h1.2.1,h1.2.2.1,fun h=>?_⟩;rcases r6 y h with h|h
    ·exact h1.2.2.2 h
    ·omega
 ·rintro f w ⟨bv2,Sb2,M2,hW⟩;refine LY ⟨_,by simp only[go_sem,Hn,Zj];rfl,?_⟩;have e1:LJ s.2 vs vs.length=s.2++O6 s.2 t:=by rw[hnew,LJ,List.take_length]
  have e:PP body s i=(s.1++[i],LJ s.2 vs vs.length):=by simp[PP,hla,e1]
  exact h w ov' bv2 S5 Sb2 M2 D' (WkM.s (by rw[e];exact hW.up Fh) hinv)
 ·have:=hM.cell.lt;have:=(q3 y hy).1;omega
 ·have:=hM.mB.lt;have:=(q3 y hy).1;omega
 ·have:=(hM.sepB y hb).2.1;have:=(q3 y hy).1;omega
end
section
open Go.AE Delphi
variable {tab:Tab}
structure MkF (f:Fr) (n2 n4 bw:Nat):Prop where
 f2:f.get 2=some (.ptr n2 0)
 f4:f.get 4=some (.ptr n4 0)
 f6:f.get 6=some (.ptr bw 0)
def MkI (a:AW) (T:Fw) (r:Rl) (u:V) (n2 n4 bw mb md:Nat) (fin:H8) (q:Nat) (f:Fr) (w:AW):Prop :=
 ∃s ov bv So Sb M D k,MkF f n2 n4 bw∧WkS a w T r.body u bw mb md s ov bv So Sb M D k∧s.1.length≤r.body.length∧q=r.body.length-s.1.length∧OC r.body q s=fin∧k≤5*s.1.length
def MkJ (a:AW) (T:Fw) (r:Rl) (u:V) (n2 n4 bw mb md:Nat) (fin:H8) (f:Fr) (w:AW):Prop :=
 ∃ov bv So Sb M D k,MkF f n2 n4 bw∧WkS a w T r.body u bw mb md fin ov bv So Sb M D k
theorem JpT (C:Codes tab){r:Rl}{hv:V}{n2 n4:Nat}{fin:H8}{q:Nat}{f:Fr}{st:List SI}{Q:Fr→AW→Prop}(hbd:RBr r)(hs:LF r=true)(hn2:CB a n2 [.int .i64 (Fq r.head.kind),.str r.head.name,hv,u])(hI:MkI a T r u n2 n4 bw mb md fin q f w)(ih:∀n' f' w',n'<q→MkI a T r u n2 n4 bw mb md fin n' f' w'→WS tab (.code (.loop JT) :: .endB 0::st) f' w' Q)(out:∀s' f' w',MkJ a T r u n2 n4 bw mb md fin f' w'→Lu 0 s'=some st→WS tab (.code (.exit 0)::s') f' w' Q):WS tab (.code JT :: .code (.loop JT) :: .endB 0::st) f w Q:=by
 obtain⟨s,ov,bv,So,Sb,M,D,k,⟨f2,f4,f6⟩,hA,hsl,rfl,hfin,hk⟩:=hI;have hlv:=TC hA.lits;have hlo:=hA.ord.lenV;have ld3:w.load n2 3 1=some [u]:=by rw[(hn2.frm hA.frm fun h=>h).load];rfl
 have lo:w.load bw 3 1=some [ov]:=by rw[hA.cell.load];rfl
 have hbl:=hbd.body;by_cases hlt:s.1.length<r.body.length
 case neg =>
  have e:r.body.length-s.1.length=0:=Fh;rw[e]at hfin;have hfin:s=fin:=hfin;subst hfin;refine Hs 1000 (by simp only[go_sem,JT,f2,f6,ld3,lo,hlv,hlo,hlt];rfl) ?_;exact out _ _ _ ⟨ov,bv,So,Sb,M,D,k,⟨(Fg f2),(Fg f4),(Fg f6)⟩,hA⟩ rfl
 obtain⟨q,hq⟩:∃q,r.body.length-s.1.length=q+1:=⟨r.body.length-s.1.length-1,by omega⟩;rw[hq]at hfin;refine Fz (by simp only[go_sem,Hn,JT,f2,f6,ld3,lo,hlv,hlo,hlt];rfl) ?_;refine Hq Ff Fe ?_;refine Jpp C hA hbl hbd.args (Nt hs hA.inv hlt) fun i w2 hb g2=>?_;have hbf:=QF hb;simp only[OC,if_pos hlt,hbf]at hfin;have hcand:=of_decide_eq_true hb.1;refine Fz (by simp only[go_sem,Hn,f6];rfl) ?_;refine Hq Ff Fe ?_;refine Ta C (hA.ext g2) hcand.1 hbd.args Fh Fh hcand.2.2 fun w3 ov3 bv3 So3 Sb3 M3 D3 hA3=>?_;have el:(PP r.body s i).1.length=s.1.length+1:=by simp[PP]
 have hq2:q=r.body.length-(PP r.body s i).1.length:=by rw[el];omega
 have hq3:(PP r.body s i).1.length≤r.body.length:=by rw[el];omega
 refine Ho 1000 Fe ?_;exact ih q _ _ Fh ⟨PP r.body s i,ov3,bv3,So3,Sb3,M3,D3,k+5,⟨(Fg f2),(Fg f4),(Fg f6)⟩,hA3,hq3,hq2,hfin,by omega⟩
theorem JpR (C:Codes tab){xs:List V}{r:Rl}{first:Int}{K:V→AW→Prop}(hr:RlC T a r xs)(hbd:RBr r)(h1:∀w,¬La r first→Frm (fun _=>False) a w→K (.tuple [.agg [.nilslice,.nilslice],.bool false]) w)(h2:∀w ov bv So Sb,La r first→Bt So w ov 1 (HU r first).1.length (PV (HU r first).1)→Bt Sb w bv 1 (HU r first).2.length (HW (HU r first).2)→Frm (fun _=>False) a w→(∀x,So x∨Sb x→a.next≤x∧x<w.next)→K (.tuple [.agg [ov,bv],.bool true]) w): WF tab VP [.agg xs,.int .i64 first] a K:=by
 refine Hy C.YU rfl ?_;have hone:=hr.one;have hr0:=hr;obtain⟨hv,u,rfl,hh,hu⟩:=hr;have cb:=Ph a [V.int .i64 (Fq r.head.kind),.str r.head.name,hv,u];have ff:=HJ (S:=fun _=>False) a [V.int .i64 (Fq r.head.kind),.str r.head.name,hv,u];have m1:(a.fresh [V.int .i64 (Fq r.head.kind),.str r.head.name,hv,u]).next=a.next+1:=rfl;generalize hw1:a.fresh [V.int .i64 (Fq r.head.kind),.str r.head.name,hv,u]=w1 at cb ff m1;have cb4:=Ph w1 [V.nilslice,V.nilslice];have ff4:=HJ (S:=fun _=>False) w1 [V.nilslice,V.nilslice];have m4:(w1.fresh [V.nilslice,V.nilslice]).next=w1.next+1:=rfl;have cb1:=cb.frm ff4 fun h=>h;generalize hw4:w1.fresh [V.nilslice,V.nilslice]=w4 at cb4 ff4 m4 cb1;have ld0:w4.load a.next 0 4=some [V.int .i64 (Fq r.head.kind),.str r.head.name,hv,u]:=cb1.all rfl;have hlv:=TC hu;have hbl:=hbd.body;refine Fz (by simp only[go_sem,Hn,Jw,U4,hw1,hw4,ld0];rfl) ?_;refine Hq Ff Fe ?_;refine Jp5 C (hr0.frm (ff.tr ff4) fun _ _ h=>h) hbd.big fun w2 g2=>?_;have hf2:=(ff.tr ff4).tr g2;have cb2:=cb1.frm g2 fun h=>h;have cb42:=cb4.frm g2 fun h=>h;have ld3:w2.load a.next 3 1=some [u]:=by rw[cb2.load];rfl
 have m2:=g2.next;have hu2:RdL (LtC T) T w2 u 3 r.body:=hu.frm (fun _ _ hl=>hl.frm hf2 fun _ _ h=>h) hf2 fun _ _ h=>h;have st0:=cb42.setAll (vs:=[V.nilslice,V.nilslice]) rfl rfl;have lf:(w2.put w1.next [V.nilslice,V.nilslice]).load w1.next 0 2=some [V.nilslice,V.nilslice]:=(H1 cb42.lt).all rfl;have ffail:Frm (fun _=>False) a (w2.put w1.next [V.nilslice,V.nilslice]):=hf2.out Fh rfl;have g5:=Te (S:=fun _=>False) w2;have B5:SM (w2.new (.map [] 0)) w2.next ([]:Ps):=MB.new w2;have m5:(w2.new (.map [] 0)).next=w2.next+1:=rfl;generalize hw5:w2.new (.map [] 0)=w5 at g5 B5 m5;have g6:=Te (S:=fun _=>False) w5;have B6:IM (w5.new (.map [] 0)) w5.next ([]:List (Int×Int)):=MB.new w5;have m6:(w5.new (.map [] 0)).next=w5.next+1:=rfl;generalize hw6:w5.new (.map [] 0)=w6 at g6 B6 m6;have g7:=HJ (S:=fun _=>False) w6 [u,V.map w2.next,V.map w5.next,V.nilslice,V.nilslice];have c7:=Ph w6 [u,V.map w2.next,V.map w5.next,V.nilslice,V.nilslice];have m7:(w6.fresh [u,V.map w2.next,V.map w5.next,V.nilslice,V.nilslice]).next=w6.next+1:=rfl;generalize hw7:w6.fresh [u,V.map w2.next,V.map w5.next,V.nilslice,V.nilslice]=w7 at g7 c7 m7
 have hA0:WkS w2 w7 T r.body u w6.next w2.next w5.next ([],[]) .nilslice .nilslice (fun _=>False) (fun _=>False) [] [] 0 :=
  ⟨(g5.tr g6).tr g7,hu2,c7,(B5.frm g6 fun h=>h).frm g7 fun h=>h,fun x=>⟨by simp[Hr],fun c hc=>by simp[Hr]at hc⟩,B6.frm g7 fun h=>h,fun j=>by simp[Hr],.nil,.nil,by omega,fun _ h=>h.elim,fun _ h=>h.elim,PlInv.nil _⟩
 have uc:u.cells=[u]:=by
  obtain⟨xss,hrd,_⟩:=hu;rcases hrd.inv with⟨rfl,_⟩|⟨_,_,_,rfl,_⟩<;>rfl
 have ov1:over [V.nilslice,V.nilmap,V.nilmap,V.nilslice,V.nilslice] 0 [u]=some [u,V.nilmap,V.nilmap,V.nilslice,V.nilslice]:=rfl;have ov2:over [u,V.nilmap,V.nilmap,V.nilslice,V.nilslice] 1 [V.map w2.next]=some [u,V.map w2.next,V.nilmap,V.nilslice,V.nilslice]:=rfl;have ov3:over [u,V.map w2.next,V.nilmap,V.nilslice,V.nilslice] 2 [V.map w5.next]=some [u,V.map w2.next,V.map w5.next,V.nilslice,V.nilslice]:=rfl
 have loop:∀{fr:Fr} {w:AW} {ov bv:V} {So Sb:Fw} {M:Ps} {D:List (Int×Int)} {k:Nat},La r first→MkF fr a.next w1.next w6.next→WkS w2 w T r.body u w6.next w2.next w5.next (P1 r.body first) ov bv So Sb M D k→k≤5*(P1 r.body first).1.length→WS tab (.code (.loop JT) :: .endB 0::[.code WQ]) fr w fun fr' a=>∃vs,PQ fr' a Jw.results=some vs∧K (H7 vs) a:=by
  intro fr w ov bv So Sb M D k hok hF hA hk;have hsl:=Au r.body first
  refine HT (MkI w2 T r u a.next w1.next w6.next w2.next w5.next (HU r first)) (MkJ w2 T r u a.next w1.next w6.next w2.next w5.next (HU r first)) (fun q f w hI ih out=>JpT C hbd hok.1 cb2 hI ih out) ?_ (r.body.length-(P1 r.body first).1.length)
   ⟨_,ov,bv,So,Sb,M,D,k,hF,hA,?_,rfl,rfl,hk⟩
  ·rintro f w ⟨ov,bv,So,Sb,M,D,k,⟨f2,f4,f6⟩,hA⟩;have l3:w.load w6.next 3 2=some [ov,bv]:=by rw[hA.cell.load];rfl
   have c4:=cb42.frm hA.frm fun h=>h
   have hone:HB [ov,bv]=true:=by
    rw[Sl];intro x hx;simp at hx;rcases hx with rfl|rfl
    ·exact hA.ord.one.1
    ·exact hA.bnd.one.1
   have st:=c4.setAll (vs:=[ov,bv]) rfl hone;have ld:(w.put w1.next [ov,bv]).load w1.next 0 2=some [ov,bv]:=(H1 c4.lt).all rfl;have pf:Frm (fun x=>x=w1.next) w (w.put w1.next [ov,bv]):=HN;refine Fz (by simp only[go_sem,Hn,WQ,f4,f6,l3,st,FC,FD];rfl) ?_;refine Hp ⟨_,by simp only[go_sem,Hn,Jw,f4,ld];rfl,?_⟩;have h1:=hf2.next;have h3:=hA.frm.next;refine h2 _ ov bv So Sb hok (hA.ord.frm pf fun x hx e=>by have:=(hA.sepO x hx).1;omega) (hA.bnd.frm pf fun x hx e=>by have:=(hA.sepB x hx).1;omega) ((hf2.tr hA.frm).out Fh rfl) ?_;have hnx:(w.put w1.next [ov,bv]).next=w.next:=rfl;rintro x (hx|hx)
   ·have:=hA.sepO x hx;exact⟨by omega,by omega⟩
   ·have:=hA.sepB x hx;exact⟨by omega,by omega⟩
  ·by_cases h0:0≤first
   ·have:=hok.2.2.1;omega
   ·simp[P1,h0]
 cases hs:LF r with
 | false =>
  have hno:¬La r first:=fun h=>by have h:=h.1;rw[hs]at h;cases h
  refine Fz (by simp only[go_sem,Hn,ZC,Hw,HF,st0,FC,FD];rfl) ?_;refine Hp ⟨_,by simp only[go_sem,Hn,Jw,lf];rfl,?_⟩;exact h1 _ hno ffail
 | true =>
  by_cases hl:first < -1
  ·have hno:¬La r first:=fun h=>by have:=h.2.1;omega
   have d1:decide (first<(-1:Int))=true:=decide_eq_true hl;refine Fz (by simp only[go_sem,Hn,ZC,d1,Hw,HF,st0,FC,FD];rfl) ?_;refine Hp ⟨_,by simp only[go_sem,Hn,Jw,lf];rfl,?_⟩;exact h1 _ hno ffail
  have d1:decide (first<(-1:Int))=false:=decide_eq_false hl;by_cases hg:first<0
  ·have e:first = -1:=Fh;subst e;have d2:decide ((-1:Int)≥Fq r.body.length)=false:=decide_eq_false (by have:Fq r.body.length=(r.body.length:Int):=rfl;omega);have hok:La r (-1):=⟨hs,by omega,by omega,fun h=>by omega⟩;have e0:P1 r.body (-1)=([],[]):=rfl;refine Fz (by simp only[go_sem,Hn,WR,ld3,hlv,d2,Hw,HF,uc,Sq,ov1,ov2,ov3,hw5,hw6,hw7,FC,FD];rfl) ?_;exact loop hok ⟨Fb,Fb,Fb⟩ (e0▸hA0) Fh
  ·obtain⟨i,rfl⟩:∃i:Nat,first=Fq i:=⟨first.toNat,by have:Fq first.toNat=(first.toNat:Int):=rfl;omega⟩;have hi0:(Fq i).toNat=i:=rfl;have ei:Fq i=(i:Int):=rfl;by_cases hge:r.body.length≤i
   ·have hno:¬La r (Fq i):=fun h=>by have:=h.2.2.1;omega
    refine Fz (by simp only[go_sem,Hn,ZC,d1,ld3,hlv,hge,Hw,HF,st0,FC,FD];rfl) ?_;refine Hp ⟨_,by simp only[go_sem,Hn,Jw,lf];rfl,?_⟩;exact h1 _ hno ffail
   have hlt:i<r.body.length:=Fh;obtain⟨t,ht⟩:∃t,r.body[i]? = some t:=⟨_,FB hlt⟩;have hla:HA r.body i=t:=Pi ht;obtain⟨b,o,c,v,rfl,_,_,_,a1,_,_,hrv⟩:=Sw hu2 ht;by_cases hk:t.kind=1
   case neg =>
    have hno:¬La r (Fq i):=fun h=>hk (by have:=h.2.2.2 Fh;rw[hi0,hla]at this;exact this);refine Fz (by simp only[go_sem,Hn,ZC,d1,ld3,hlv,hge,hlt,a1,hk,Nat.zero_le,Hw,HF,st0,FC,FD];rfl) ?_;refine Hp ⟨_,by simp only[go_sem,Hn,Jw,lf];rfl,?_⟩;exact h1 _ hno ffail
   have hok:La r (Fq i):=⟨hs,by omega,by omega,fun _=>by rw[hi0,hla];exact hk⟩;have e0:P1 r.body (Fq i)=PP r.body ([],[]) i:=by rw[P1,if_pos Fh,hi0]
   rw[hk]at a1;refine Fz (by simp only[go_sem,Hn,WR,U3,d1,ld3,hlv,hge,hlt,a1,Nat.zero_le,Hw,HF,uc,Sq,ov1,ov2,ov3,hw5,hw6,hw7,FC,FD];rfl) ?_;refine Hq Ff Fe ?_;refine Ta C hA0 hlt hbd.args Fj Fh (.inl (by rw[hla];exact hk)) fun w8 ov8 bv8 So8 Sb8 M8 D8 hA8=>?_;refine Ho 1000 Fe ?_;exact loop hok ⟨Fb,Fb,Fb⟩ (e0▸hA8) (by rw[e0];simp[PP])
end
section
open Go.AE Delphi Val
variable {tab:Tab}
def Lr (ts:List Tk) (t:Tm):List Tk:=if t.kind=1 then ts else (idT ts (Hz t)).2
def PT (ts:List Tk) (l:List Tm):List Tk:=l.foldl Lr ts
def K8 (ts:List Tk) (b:List Lt):List Tk:=b.foldl (fun ts l=>PT ts l.args) ts
theorem RP (ts:List Tk)(l:List Tm)(t:Tm):PT ts (l++[t])=Lr (PT ts l) t:=by unfold PT;rw[List.foldl_append];rfl
theorem JmM (ts:List Tk)(b:List Lt)(l:Lt):K8 ts (b++[l])=PT (K8 ts b) l.args:=by unfold K8;rw[List.foldl_append];rfl
theorem QN (ts:List Tk):∀(l:List Tm),(PT ts l).length≤ts.length+l.length:=by
 intro l;induction l generalizing ts with
 | nil=>exact FH _
 | cons t l ih =>
  have h1:=ih (Lr ts t)
  have h2:(Lr ts t).length≤ts.length+1:=by
   unfold Lr;split
   ·omega
   ·exact EJ _ _
  have e:PT ts (t::l)=PT (Lr ts t) l:=rfl;rw[e,FC];omega
variable {ts:List Tk}
theorem Em {n:Nat}:∀{b:List Lt},(∀l∈b,l.args.length≤n)→(K8 ts b).length≤ts.length+n*b.length:=by
 intro b;induction b generalizing ts with
 | nil=>intro _;simp[K8]
 | cons l b ih =>
  intro h;have h1:=ih (ts:=PT ts l.args) fun x hx=>h x (FO _ hx);have h2:=QN ts l.args;have h3:=h l Fj;have e:K8 ts (l::b)=K8 (PT ts l.args) b:=rfl;rw[e,FC,Nat.mul_add];omega
theorem EL:∀{l:List Tk} {k:Nat} {c:Tk} {v:Nat},Hr (KY k l) c=some v→k≤v
 | [],k,c,v,h=>by simp[KY,Hr]at h
 | x::l,k,c,v,h=>by
  simp only[KY,Hr]at h;split at h
  ·cases h;exact FH _
  ·have:=EL h;omega
theorem CG {l:List Tk}{c:Tk}(h:c∈l):1≤PE l c:=EL (Da h)
theorem JkE {c:Tk}(h:HV c=true):1≤(idT ts c).1:=by
 unfold idT;rw[if_pos h];split
 ·rename_i hm;exact CG hm
 ·simp
structure SmF (f:Fr) (b6 tb jb:Nat):Prop where
 f1:f.get 1=some (.ptr tb 0)
 f6:f.get 6=some (.ptr b6 0)
 f15:f.get 15=some (.ptr jb 0)
abbrev SmK (K:V→AW→Prop):Fr→AW→Prop:=fun fr' aw'=>∃vs,PQ fr' aw' J8.results=some vs∧K (H7 vs) aw'
variable {st:List SI} {K:V→AW→Prop}
theorem Jl6 (C:Codes tab){b6 tb jb i N:Nat}{O S:Fw}{tv xv:V}{args:List Tm}{f:Fr}(hT:TabW tb mb tv S ts w)(hx:Rd O w xv 3 args.length (Pc args))(hO:∀x,O x→x<w.next∧¬S x∧x≠tb∧x≠mb)(hal:args.length≤10)(hts:ts.length≤80000)(hmay:∀t∈args,t.kind≠1→TkOk (Hz t)∧HV (Hz t)=true)(hF:SmF f b6 tb jb)(f53:f.get 53=some bv)(f54:f.get 54=some (.int .i64 (Fq N)))(f55:f.get 55=some (.int .i64 (Fq i)))(f60:f.get 60=some xv)(f61:f.get 61=some (.int .i64 (Fq args.length)))(f62:f.get 62=some (.int .i64 (Fq 0)))(h:∀f' w' tv' S',SmF f' b6 tb jb→f'.get 53=some bv→f'.get 54=some (.int .i64 (Fq N))→f'.get 55=some (.int .i64 (Fq i))→TabW tb mb tv' S' (PT ts args) w'→Frm (fun x=>S x∨x=tb∨x=mb) w w'→(∀x,S' x→S x∨w.next≤x)→WS tab st f' w' (SmK K)): WS tab (.code (.loop Zz) :: .endB 2::st) f w (SmK K):=by
 refine HT (fun n f w1=>∃m tv1 S1,SmF f b6 tb jb∧f.get 53=some bv∧f.get 54=some (.int .i64 (Fq N))∧f.get 55=some (.int .i64 (Fq i))∧f.get 60=some xv∧f.get 61=some (.int .i64 (Fq args.length))∧f.get 62=some (.int .i64 (Fq m))∧TabW tb mb tv1 S1 (PT ts (args.take m)) w1∧Frm (fun x=>S x∨x=tb∨x=mb) w w1∧(∀x,S1 x→S x∨w.next≤x)∧m≤args.length∧n=args.length-m)
  (fun f w1=>∃tv1 S1,SmF f b6 tb jb∧f.get 53=some bv∧f.get 54=some (.int .i64 (Fq N))∧f.get 55=some (.int .i64 (Fq i))∧TabW tb mb tv1 S1 (PT ts args) w1∧Frm (fun x=>S x∨x=tb∨x=mb) w w1∧(∀x,S1 x→S x∨w.next≤x)) ?_ ?_ args.length
  ⟨0,tv,S,hF,f53,f54,f55,f60,f61,f62,hT,Frm.refl _,fun x hx=> .inl hx,Nat.zero_le _,rfl⟩
 ·rintro n f w1 ⟨m,tv1,S1,⟨f1,f6,f15⟩,f53,f54,f55,f60,f61,f62,hT1,g,hS1,hm,rfl⟩ ih out;by_cases hlt:m<args.length
  case neg =>
   obtain rfl:m=args.length:=Fh;rw[List.take_length]at hT1;refine Hs 1000 (by simp only[go_sem,Zz,f61,f62,hlt];rfl) ?_;exact out _ _ _ ⟨tv1,S1,⟨(Fg f1),(Fg f6),(Fg f15)⟩,(Fg f53),(Fg f54),(Fg f55),hT1,g,hS1⟩ rfl
  obtain⟨t,ht⟩:∃t,args[m]? = some t:=⟨_,FB hlt⟩
  have hOR:∀x,O x→¬(S x∨x=tb∨x=mb):=fun x hx h=>by
   obtain⟨_,h1,h2,h3⟩:=hO x hx;rcases h with h|h|h
   ·exact h1 h
   ·exact h2 h
   ·exact h3 h
  obtain⟨b,o,c,rfl,_,_,la,_⟩:=SQ (hx.frm g hOR) ht;obtain⟨w2,s2,c2,r2,n2⟩:=PA w1 (zs:=[V.int .i64 0,V.str [],V.int .i64 0]) (vs:=tmC t) rfl rfl;have htl:(tmC t).length=3:=rfl;have k0:w2.load w1.next 0 1=some [.int .i64 (Fq t.kind)]:=CB.ld c2 0 1 _ rfl;have k3:w2.load w1.next 0 3=some (tmC t):=c2.all rfl;have hwr:KX .i64 (Fq m+1)=Fq (m+1):=Hv Fh;have hT2:=hT1.step0 r2;by_cases hk:t.kind=1
  ·rw[hk]at k0;refine Fz (by simp only[go_sem,Hn,Zz,WJ,WI,f60,f61,f62,hlt,la,htl,s2,k0,hwr];rfl) ?_;refine ih _ _ _ Fh ⟨m+1,tv1,S1,⟨(Fg f1),(Fg f6),(Fg f15)⟩,(Fg f53),(Fg f54),(Fg f55),(Fg f60),(Fg f61),Fb,?_,g.tr r2.no,hS1,by omega,rfl⟩;rw[PF ht,RP,Lr,if_pos hk];exact hT2
  ·obtain⟨hok,hmy⟩:=hmay t (FI ht) hk;have hlen:=QN ts (args.take m);rw[FT]at hlen;refine Fz (by simp only[go_sem,Hn,Zz,WJ,WI,f1,f60,f61,f62,hlt,la,htl,s2,k0,hk,k3];rfl) ?_;refine Hq Ff Fe ?_;rw[Jns];refine Dq C hT2 Fh hok fun w3 tv3 S3 q1 q2 q3=>?_
   have hne:((Fq (idT (PT ts (args.take m)) (Hz t)).1)==0)=false:=by
    have:=JkE (ts:=PT ts (args.take m)) hmy;cases hn:(idT (PT ts (args.take m)) (Hz t)).1 with
    | zero=>omega
    | succ n=>rfl
   have hne':¬(idT (PT ts (args.take m)) (Hz t)).1=0:=by
    have:=JkE (ts:=PT ts (args.take m)) hmy;omega
   have n3:=g.next;refine Fz (by simp only[go_sem,Hn,f62,hne,hne',hwr];rfl) ?_;refine ih _ _ _ Fh ⟨m+1,tv3,S3,⟨(Fg f1),(Fg f6),(Fg f15)⟩,(Fg f53),(Fg f54),(Fg f55),(Fg f60),(Fg f61),Fb,?_,?_,fun x hx=>?_,by omega,rfl⟩
   ·rw[PF ht,RP,Lr,if_neg hk];exact q1
   ·refine (g.tr r2.no).trans q2 (fun _ _ h=>h) fun x hx h=>?_;rcases h with h|h|h
    ·rcases hS1 x h with h|h
     ·exact .inl h
     ·omega
    ·exact .inr (.inl h)
    ·exact .inr (.inr h)
   ·rcases q3 x hx with h|h
    ·exact hS1 x h
    ·right;omega
 ·rintro f w1 ⟨tv1,S1,hF,h53,h54,h55,hT1,g,hS1⟩;exact h f w1 tv1 S1 hF h53 h54 h55 hT1 g hS1
theorem JoY (C:Codes tab){b6 tb jb:Nat}{O S:Fw}{tv:V}{f:Fr}(hT:TabW tb mb tv S ts w)(hx:RdL (LtC O) O w bv 3 body)(hO:∀x,O x→x<w.next∧¬S x∧x≠tb∧x≠mb)(hbl:body.length≤100)(hal:∀l∈body,l.args.length≤10)(hts:ts.length≤70000)(hmay:∀l∈body,∀t∈l.args,t.kind≠1→TkOk (Hz t)∧HV (Hz t)=true)(hF:SmF f b6 tb jb)(f53:f.get 53=some bv)(f54:f.get 54=some (.int .i64 (Fq body.length)))(f55:f.get 55=some (.int .i64 (Fq 0)))(h:∀f' w' tv' S',SmF f' b6 tb jb→TabW tb mb tv' S' (K8 ts body) w'→Frm (fun x=>S x∨x=tb∨x=mb) w w'→(∀x,S' x→S x∨w.next≤x)→WS tab st f' w' (SmK K)): WS tab (.code (.loop YB) :: .endB 0::st) f w (SmK K):=by
 refine HT (fun n f w1=>∃m tv1 S1,SmF f b6 tb jb∧f.get 53=some bv∧f.get 54=some (.int .i64 (Fq body.length))∧f.get 55=some (.int .i64 (Fq m))∧TabW tb mb tv1 S1 (K8 ts (body.take m)) w1∧Frm (fun x=>S x∨x=tb∨x=mb) w w1∧(∀x,S1 x→S x∨w.next≤x)∧m≤body.length∧n=body.length-m)
  (fun f w1=>∃tv1 S1,SmF f b6 tb jb∧TabW tb mb tv1 S1 (K8 ts body) w1∧Frm (fun x=>S x∨x=tb∨x=mb) w w1∧(∀x,S1 x→S x∨w.next≤x)) ?_ ?_ body.length
  ⟨0,tv,S,hF,f53,f54,f55,hT,Frm.refl _,fun x hx=> .inl hx,Nat.zero_le _,rfl⟩
 ·rintro n f w1 ⟨m,tv1,S1,⟨f1,f6,f15⟩,f53,f54,f55,hT1,g,hS1,hm,rfl⟩ ih out;by_cases hlt:m<body.length
  case neg =>
   obtain rfl:m=body.length:=Fh;rw[List.take_length]at hT1;refine Hs 1000 (by simp only[go_sem,YB,f54,f55,hlt];rfl) ?_;exact out _ _ _ ⟨tv1,S1,⟨(Fg f1),(Fg f6),(Fg f15)⟩,hT1,g,hS1⟩ rfl
  obtain⟨l,hl⟩:∃l,body[m]? = some l:=⟨_,FB hlt⟩;have hlm:=FI hl
  have hOR:∀x,O x→¬(S x∨x=tb∨x=mb):=fun x hx h=>by
   obtain⟨_,h1,h2,h3⟩:=hO x hx;rcases h with h|h|h
   ·exact h1 h
   ·exact h2 h
   ·exact h3 h
  obtain⟨b,o,c,xs,rfl,lb,hxs⟩:=Dr (hx.frm (fun _ _ h=>h.frm g hOR) g hOR) hl;have hxl:=hxs.one;obtain⟨w2,s2,c2,r2,n2⟩:=PA w1 (zs:=[V.int .i64 0,V.str [],V.nilslice]) (vs:=xs) hxl.1.symm hxl.2;obtain⟨xv,rfl,hxv⟩:=hxs;have k2:w2.load w1.next 2 1=some [xv]:=CB.ld c2 2 1 _ rfl;have hlv:=hxv.lenV;have hwr:KX .i64 (Fq m+1)=Fq (m+1):=Hv Fh
  have hlen:(K8 ts (body.take m)).length≤ts.length+10*m:=by
   have:=Em (ts:=ts) (n:=10) (b:=body.take m) fun l hl=>hal l (List.mem_of_mem_take hl);rw[FT,KC hm]at this;exact this
  have hxl3:[V.int .i64 (Fq l.kind),V.str l.name,xv].length=3:=rfl;have n3:=g.next
  have hO2:∀x,O x→x<w2.next∧¬S1 x∧x≠tb∧x≠mb:=fun x hx=>by
   obtain⟨h0,h1,h2,h3⟩:=hO x hx;exact⟨by omega,fun hh=>by rcases hS1 x hh with h|h;exact h1 h;omega,h2,h3⟩
  refine Fz (by simp only[go_sem,Hn,YB,UP,f53,f54,f55,hlt,lb,hxl3,s2,k2,hlv];rfl) ?_;refine Jl6 C (hT1.step0 r2) (hxv.frm r2 fun _ _ h=>h) hO2 (hal l hlm) Fh (hmay l hlm) ⟨(Fg f1),(Fg f6),(Fg f15)⟩ (Fg f53) (Fg f54) (Fg f55) Fb Fb Fb fun f3 w3 tv3 S3 hF3 k53 k54 k55 q1 q2 q3=>?_;obtain⟨k1,k6,k15⟩:=hF3;refine Hs 5 (by simp only[go_sem,Hn,k55,hwr];rfl) ?_;refine ih _ _ _ Fh ⟨m+1,tv3,S3,⟨(by simp only[go_sem,Hn,k1]<;>rfl),(by simp only[go_sem,Hn,k6]<;>rfl),(by simp only[go_sem,Hn,k15]<;>rfl)⟩,(by simp only[go_sem,Hn,k53]<;>rfl),(by simp only[go_sem,Hn,k54]<;>rfl),Fb,?_,?_,fun x hx=>?_,by omega,rfl⟩
  ·rw[PF hl,JmM];exact q1
  ·refine (g.tr r2.no).trans q2 (fun _ _ h=>h) fun x hx h=>?_;rcases h with h|h|h
   ·rcases hS1 x h with h|h
    ·exact .inl h
    ·omega
   ·exact .inr (.inl h)
   ·exact .inr (.inr h)
  ·rcases q3 x hx with h|h
   ·exact hS1 x h
   ·right;omega
 ·rintro f w1 ⟨tv1,S1,hF,hT1,g,hS1⟩;exact h f w1 tv1 S1 hF hT1 g hS1
end
end Go.Proofs.YtegdcbdicpfbpaaDoor
