/- A part of the proof. -/
import Derived.Test.YtegdcbdicpfbpaaGreatDoorJdL
open Int renaming ofNat → Fq
open Go.IntKind renaming wrap → KZ
set_option linter.unusedVariables false
set_option maxRecDepth 10000
set_option linter.unusedSimpArgs false
namespace Go.AE
theorem Fb {p:Prop} (h:p:=by simp only [go_sem,K5]<;>rfl):p:=h
theorem Fe {p:Prop} (h:p:=by simp only [go_sem,K5];rfl):p:=h
theorem Ff {p:Prop} (h:p:=by simp only [go_sem,K5]):p:=h
theorem Fg {α:Type} {a b c:α} (f:b=c) (h:a=b:=by first|(simp only [go_sem,K5];done)|rfl):a=c:=h.trans f
end Go.AE
namespace Delphi
def Br (acc:Fx) (l:Lt):Fx:=if l.kind=1 then acc else acc++Ol l.args
def Aa (acc:Fx) (l:Lt):Fx:=if l.kind=1 then acc++Ol l.args else acc
theorem Jn1 (r:Rl):Tx r=r.body.foldl Br (Ol r.head.args):=rfl
theorem Jr5 (r:Rl):BX r=r.body.foldl Aa []:=rfl
end Delphi
namespace Go.Proofs.YtegdcbdicpfbpaaGreatDoor
open Go.AE Delphi
variable {tab:Tab}
structure SF (f:Fr) (n1 bm:Nat) (nv uv:V) (n i:Nat):Prop where
 f1:f.get 1=some (.ptr n1 0)
 f3:f.get 3=some (.map bm)
 f4:f.get 4=some nv
 f17:f.get 17=some uv
 f18:f.get 18=some (.int .i64 (Fq n))
 f19:f.get 19=some (.int .i64 (Fq i))
structure SW (aw w:AW) (bm:Nat) (M:List (List Nat×Int)) (bnd bl:Fx) (N:Nat) (nv:V) (nd:Fx) (S:Fw):Prop where
 mp:SM w bm M
 seen:Seen M bnd N
 same:∀x,x∈bnd↔x∈bl
 need:Bt S w nv 1 nd.length (LY nd)
 frm:Frm (fun _=>False) aw w
 hbm:aw.next≤bm
 sep:∀x,S x→aw.next≤x∧x<w.next∧x≠bm
def JsA (aw:AW) (n1 bm:Nat) (uv:V) (r:Rl) (q:Nat) (f:Fr) (w:AW):Prop :=
 ∃i M bnd bl N nv nd S,SF f n1 bm nv uv r.body.length i∧SW aw w bm M bnd bl N nv nd S∧i≤r.body.length∧q=r.body.length-i∧Tx r=(r.body.drop i).foldl Br nd∧BX r=(r.body.drop i).foldl Aa bl∧N≤1000*i∧nd.length≤1000*(i+1)
def JvJ (aw:AW) (bm:Nat) (r:Rl) (f:Fr) (w:AW):Prop :=
 ∃M bnd N nv S,f.get 3=some (.map bm)∧f.get 4=some nv∧SW aw w bm M bnd (BX r) N nv (Tx r) S∧N≤1000000
theorem Jsj (a b:Fx):LY (a++b)=LY a++LY b:=by simp[LY]
theorem Jsl (a:Fx):Lv (LY a)=true:=by rw[Ah];intro v hv;simp only[LY,Ke]at hv;obtain⟨x,_,rfl⟩:=hv;rfl
theorem Jsf (C:Codes tab){T:Fw}{aw w:AW}{n1 bm:Nat}{uv:V}{r:Rl}{q:Nat}{f:Fr}{s:List SI}{Q:Fr→AW→Prop}(hu:RdL (LtC T) T aw uv 3 r.body)(hbd:RBd r)(hI:JsA aw n1 bm uv r q f w)(ih:∀n' f' w',n'<q→JsA aw n1 bm uv r n' f' w'→WS tab (.code (.loop Za) :: .endB 0::s) f' w' Q)(out:∀s' f' w',JvJ aw bm r f' w'→TM 0 s'=some s→WS tab (.code (.exit 0)::s') f' w' Q):WS tab (.code Za :: .code (.loop Za) :: .endB 0::s) f w Q:=by
 obtain⟨i,M,bnd,bl,N,nv,nd,S,⟨f1,f3,f4,f17,f18,f19⟩,hA,hi,rfl,hnd,hbl,hN,hndl⟩:=hI;by_cases hlt:i<r.body.length
 case neg =>
  rw[List.drop_eq_nil_of_le (by omega:r.body.length≤i)]at hnd hbl;have hnd:Tx r=nd:=hnd;have hbl:BX r=bl:=hbl;refine Lb 1000 (by simp only[go_sem,Za,f18,f19,hlt];rfl) ?_;exact out _ _ _ ⟨M,bnd,N,nv,S,(Fg f3),(Fg f4),by rw[hnd,hbl];exact hA,by have:=hbd.body;have:N≤1000*1000:=Kk hN (Nat.mul_le_mul_left _ Fh);omega⟩ rfl
 obtain⟨t,ht⟩:∃t,r.body[i]? = some t:=⟨_,FB hlt⟩
 have hd:r.body.drop i=t::r.body.drop (i+1):=by
  rw[FL hlt];rw[FB hlt]at ht;rw[FY ht]
 have hargs:=hbd.args t (FI ht);rw[hd,Ku]at hnd hbl;have hwr:KZ .i64 (Fq i+1)=Fq (i+1):=Lh (by have:=hbd.body;omega);obtain⟨b,o,c,u,rfl,hTb,hbb,a3,a0,_,_,hru⟩:=Dy (hu.frm (fun _ _ h=>h.frm hA.frm fun _ _ h=>h) hA.frm fun _ _ h=>h) ht;have hone:Lv [V.int .i64 (Fq t.kind),.str t.name,u]=true:=by rcases hru.inv with⟨rfl,_⟩|⟨_,_,_,rfl,_⟩<;>rfl
 obtain⟨w2,s2,c2,r2,n2⟩:=Oj w (zs:=[V.int .i64 0,V.str [],V.nilslice]) (vs:=[V.int .i64 (Fq t.kind),.str t.name,u]) rfl hone;have k0:w2.load w.next 0 1=some [.int .i64 (Fq t.kind)]:=by rw[c2.load];rfl
 have k2:w2.load w.next 2 1=some [u]:=by rw[c2.load];rfl
 have nw:=hA.frm.next;have hvl:=A7 t.args;by_cases hk:t.kind=1
 case neg =>
  have e1:Br nd t=nd++Ol t.args:=if_neg hk;have e2:Aa bl t=bl:=if_neg hk;rw[e1]at hnd;rw[e2]at hbl;refine Fz (by simp only[go_sem,K5,Za,UP,P9,f4,f17,f18,f19,hlt,a3,s2,k0,k2,hk,FC,FD];rfl) ?_;refine K9 Ff Fe ?_;refine Ey C (hru.frm r2 fun _ _ h=>h) Fh fun v w3 S3 q1 q2 q3=>?_;have r3:=r2.tr q2;have need3:=hA.need.frm r3 fun _ _ h=>h;have hel:=q1.rd.elems;obtain⟨v',w4,S4,u1,u2,u3,u4⟩:=need3.addN (news:=LY (Ol t.args)) (k:=(Ol t.args).length) (bytes:=16) Fh (by rw[Jsk];omega) (Jsl _) (by have:=hbd.body;omega) (by have:=hbd.body;omega);have hM3:=(hA.mp.frm r3 fun h=>h).frm u3 fun h=>(hA.sep _ h).2.2 rfl;have n3:=r3.next;refine Fz (by simp only[go_sem,K5,f1,f3,f4,f17,f18,f19,hel,u1,hwr];rfl) ?_;refine ih _ _ _ Fh ⟨i+1,M,bnd,bl,N,v',nd++Ol t.args,S4,⟨(Fg f1),(Fg f3),Fb,(Fg f17),(Fg f18),Fb⟩,⟨hM3,hA.seen,hA.same,by rw[FE,Jsj];exact u2,(hA.frm.tr r3).trans u3 (fun _ _ h=>h) (fun x hx h=>by have:=(hA.sep x h).1;omega),hA.hbm,fun x hx=>?_⟩,by omega,rfl,hnd,hbl,by omega,by rw[FE];omega⟩;obtain⟨m1,m2⟩:=u4 x hx;have:=hA.mp.lt;rcases m2 with m2|m2
  ·exact⟨(hA.sep x m2).1,m1,(hA.sep x m2).2.2⟩
  ·exact⟨by omega,m1,by omega⟩
 ·have e1:Br nd t=nd:=if_pos hk;have e2:Aa bl t=bl++Ol t.args:=if_pos hk;rw[e1]at hnd;rw[e2]at hbl;rw[hk]at a3 s2 k0;refine Fz (by simp only[go_sem,K5,Za,UP,Jac,f17,f18,f19,hlt,a3,s2,k0,k2,FC,FD];rfl) ?_;refine K9 Ff Fe ?_;refine Ey C (hru.frm r2 fun _ _ h=>h) Fh fun v w3 S3 q1 q2 q3=>?_;have r3:=r2.tr q2;have n3:=r3.next;have hlv:=q1.lenV;have hM3:=hA.mp.frm r3 fun h=>h;have hbmw:=hA.mp.lt;refine Fz (by simp only[go_sem,K5,hlv];rfl) ?_
  refine LK (Jsx w3 bm v (Ol t.args) bnd N f) (JvE w3 bm (Ol t.args) bnd N f) (fun n f w hI ih out=>JsT q1.rd (fun x hx he=>by have:=(q3 x hx).1;omega) (by have:=hbd.body;omega) hI ih out) ?_ (Ol t.args).length
   ⟨0,M,bnd,(Fg f3),Fb,Fb,Fb,?_,by omega,rfl,hM3,hA.seen,by simp,Frm.refl _,rfl⟩
  ·rintro f' w4 ⟨M',bnd',g3,hold,hM4,hs4,hb4,hf4,hn4⟩;have g1:=(hold 1 Fj).trans f1;have g4:=(hold 4 Fj).trans f4;have g17:=(hold 17 Fj).trans f17;have g18:=(hold 18 Fj).trans f18;have g19:=(hold 19 Fj).trans f19;refine Fz (by simp only[go_sem,K5,g19,hwr];rfl) ?_;exact ih _ _ _ Fh ⟨i+1,M',bnd',bl++Ol t.args,N+(Ol t.args).length,nv,nd,S,⟨(Fg g1),(Fg g3),(Fg g4),(Fg g17),(Fg g18),Fb⟩,⟨hM4,hs4,fun x=>by rw[hb4,hA.same,Ka],(hA.need.frm r3 fun _ _ h=>h).frm hf4 fun x hx he=>(hA.sep x hx).2.2 he,(hA.frm.tr r3).trans hf4 (fun _ _ h=>h) (by rintro x hx rfl;have:=hA.hbm;omega),hA.hbm,fun x hx=>by have:=hA.sep x hx;exact⟨this.1,by omega,this.2.2⟩⟩,by omega,rfl,hnd,hbl,by omega,by omega⟩
  ·rintro y hy;rcases hy with rfl|rfl|rfl|rfl|rfl|rfl<;>exact Fb
def NdI (aw:AW) (bm:Nat) (nv:V) (nd bl:Fx) (w0:AW) (q:Nat) (f:Fr) (w:AW):Prop :=
 ∃j,f.get 3=some (.map bm)∧f.get 45=some nv∧f.get 46=some (.int .i64 (Fq nd.length))∧f.get 47=some (.int .i64 (Fq j))∧j≤nd.length∧q=nd.length-j∧(∀x∈nd.take j,x∈bl)∧w=w0
theorem Jvp (C:Codes tab){T:Fw}{aw:AW}{xs:List V}{r:Rl}{K:V→AW→Prop}(hr:RlC T aw r xs)(hbd:RBd r)(h:∀w,Frm (fun _=>False) aw w→K (.bool (BD r)) w):WF tab GL [.agg xs] aw K:=by
 refine Ld C.Wi rfl ?_;have hone:=hr.one;obtain⟨v,u,rfl,hv,hu⟩:=hr;have cb:=OQ aw [V.int .i64 (Fq r.head.kind),.str r.head.name,v,u];have ff:=LZ (S:=fun _=>False) aw [V.int .i64 (Fq r.head.kind),.str r.head.name,v,u];generalize hw1:aw.fresh [V.int .i64 (Fq r.head.kind),.str r.head.name,v,u]=w1 at cb ff;have n1:w1.next=aw.next+1:=by rw[←hw1];rfl
 have fm:=CY (S:=fun _=>False) w1;have cb2:=cb.frm fm fun h=>h;have l2:(w1.new (.map [] 0)).load aw.next 2 1=some [v]:=by rw[cb2.load];rfl
 have f02:=ff.tr fm;refine Fz (by simp only[go_sem,K5,Ym,Jaf,hw1,l2];rfl) ?_;refine K9 Ff Fe ?_;refine Ey C (hv.frm f02 fun _ _ h=>h) (by have:=hbd.head;omega) fun nv w3 S3 q1 q2 q3=>?_;have cb3:=cb2.frm q2 fun h=>h;have l3:w3.load aw.next 3 1=some [u]:=by rw[cb3.load];rfl
 have f03:=f02.tr q2;have hlv:=Cx hu;have nn:(w1.new (.map [] 0)).next=w1.next+1:=rfl;have hvl:=A7 r.head.args;have hM:SM w3 w1.next ([]:List (List Nat×Int)):=(MB.new w1).frm q2 fun h=>h;refine Fz (by simp only[go_sem,K5,Jae,l3,hlv];rfl) ?_
 refine LK (JsA aw aw.next w1.next u r) (JvJ aw w1.next r) (fun n f w hI ih out=>Jsf C hu hbd hI ih out) ?_ r.body.length
  ⟨0,[],[],[],0,nv,Ol r.head.args,S3,⟨Fb,Fb,Fb,Fb,Fb,Fb⟩,⟨hM,fun x=>⟨by simp[K8],fun c hc=>by simp[K8]at hc⟩,fun x=>Iff.rfl,q1,f03,by omega,fun x hx=>by have:=q3 x hx;exact⟨by omega,by omega,by omega⟩⟩,by omega,rfl,rfl,rfl,by omega,by have:=hbd.head;omega⟩
 rintro f w ⟨M,bnd,N,nv',S,f3,f4,hA,hN⟩;have hln:=hA.need.lenV;refine Fz (by simp only[go_sem,K5,f4,hln];rfl) ?_;refine LK (NdI aw w1.next nv' (Tx r) (BX r) w) (fun f' w'=>w'=w∧∀x∈Tx r,x∈BX r) ?_ ?_ (Tx r).length ⟨0,(Fg f3),Fb,Fb,Fb,by omega,rfl,by simp,rfl⟩
 ·rintro q f w' ⟨j,f3,f45,f46,f47,hj,rfl,hall,rfl⟩ ih exit;by_cases hlt:j<(Tx r).length
  case neg =>
   rw[FX Fh]at hall;refine Lb 1000 (by simp only[go_sem,Wh,f46,f47,hlt];rfl) ?_;exact exit _ _ _ ⟨rfl,hall⟩ rfl
  obtain⟨x,hx⟩:∃v,(Tx r)[j]? = some v:=⟨_,FB hlt⟩;obtain⟨b,o,c,rfl,_,hbl,a1⟩:=JpH hA.need.rd hx;obtain⟨n,hn0,hn1,hgn⟩:=MQ hA.seen x;have look:=hA.mp.look BB (.int .i64 0) x;rw[hgn]at look
  have hwr:KZ .i64 (Fq j+1)=Fq (j+1):=by
   have:(Tx r).length<9223372036854775807:=by
    have:=hA.need.rd;rcases hA.need.rd.inv with⟨h1,_⟩|⟨b',o',c',h1,hB⟩
    ·cases h1
    ·have h3:∀(l:List Lt) (acc:Fx),(∀l'∈l,l'.args.length≤1000)→(l.foldl Br acc).length≤acc.length+1000*l.length:=by
      intro l;induction l with
      | nil=>intro acc _;simp
      | cons t l ih =>
       intro acc hl;have h4:=ih (Br acc t) fun l' hl'=>hl l' (by simp[hl'])
       have h5:(Br acc t).length≤acc.length+1000:=by
        unfold Br;split
        ·omega
        ·have:=A7 t.args;have:=hl t Fj;rw[FE];omega
       rw[Ku,FC];omega
     have h4:=h3 r.body (Ol r.head.args) hbd.args;rw[←Jn1]at h4;have:=hbd.head;have:=hbd.body;omega
   exact Lh Fh
  by_cases hz:n=0
  ·have hno:x∉BX r:=fun h=>hn1.1 hz ((hA.same x).2 h)
   have hs:BD r=false:=by
    unfold BD;rw[List.all_eq_false];exact⟨x,FI hx,by simpa using hno⟩
   subst hz;refine Fz (by simp only[go_sem,K5,Wh,UR,UQ,Jad,f3,f45,f46,f47,hlt,a1,look];rfl) ?_;refine K7 ⟨_,by simp only[go_sem,K5,Ym];rfl,?_⟩;have:=h w' hA.frm;rw[hs]at this;exact this
  ·refine Fz (by simp only[go_sem,K5,Wh,UR,UQ,f3,f45,f46,f47,hlt,a1,look,hz,hwr];rfl) ?_;refine ih _ _ _ Fh ⟨j+1,(Fg f3),(Fg f45),(Fg f46),Fb,by omega,rfl,fun y hy=>?_,rfl⟩;have ht:(Tx r).take (j+1)=(Tx r).take j++[x]:=by rw[List.take_add_one,hx];rfl
   rw[ht,Ka,Ko]at hy;rcases hy with hy|rfl
   ·exact hall y hy
   ·exact (hA.same y).1 (Classical.byContradiction fun hc=>hz (hn1.2 hc))
 ·rintro f w' ⟨rfl,hall⟩
  have hs:BD r=true:=by
   unfold BD;rw[List.all_eq_true];intro x hx;simpa using hall x hx
  refine K6 1000 Fe ?_;refine K7 ⟨_,by simp only[go_sem,K5,Ym];rfl,?_⟩;have:=h w' hA.frm;rw[hs]at this;exact this
end Go.Proofs.YtegdcbdicpfbpaaGreatDoor
namespace Delphi
variable {v:List Nat}
theorem Mh {l:List Tm}:v∈Ol l↔∃t∈l,t.kind=1∧t.name=v:=by
 have:∀(l:List Tm) (out:Fx),v∈l.foldl BU out↔v∈out∨∃t∈l,t.kind=1∧t.name=v:=by
  intro l;induction l with
  | nil=>intro out;simp
  | cons t l ih =>
   intro out;rw[Ku,ih]
   have h:v∈BU out t↔v∈out∨(t.kind=1∧t.name=v):=by
    unfold BU;split
    ·rename_i hc;rw[Ka,Ko];exact⟨fun h=>h.imp (fun h=>h) fun h=>⟨hc.1,h.symm⟩,fun h=>h.imp (fun h=>h) fun h=>h.2.symm⟩
    ·rename_i hc;refine⟨.inl,fun h=>h.elim (fun h=>h) ?_⟩;rintro⟨h1,rfl⟩;exact Classical.byContradiction fun hn=>hc ⟨h1,hn⟩
   rw[h];simp only[FJ,exists_eq_or_imp,or_assoc]
 simpa[Ol]using this l []
theorem JnK {v:List Nat}:∀(l:List Lt) (acc:Fx),v∈l.foldl Aa acc↔v∈acc∨∃x∈l,x.kind=1∧∃t∈x.args,t.kind=1∧t.name=v
 | [],acc=>by simp
 | x::l,acc=>by
  rw[Ku,JnK l]
  have h:v∈Aa acc x↔v∈acc∨(x.kind=1∧∃t∈x.args,t.kind=1∧t.name=v):=by
   unfold Aa;split
   ·rename_i hc;rw[Ka,Mh];exact⟨fun h=>h.imp (fun h=>h) fun h=>⟨hc,h⟩,fun h=>h.imp (fun h=>h) fun h=>h.2⟩
   ·rename_i hc;exact⟨.inl,fun h=>h.elim (fun h=>h) fun h=>absurd h.1 hc⟩
  rw[h];simp only[FJ,exists_eq_or_imp,or_assoc]
theorem Jl7 {v:List Nat}:∀(l:List Lt) (acc:Fx),v∈l.foldl Br acc↔v∈acc∨∃x∈l,x.kind≠1∧∃t∈x.args,t.kind=1∧t.name=v
 | [],acc=>by simp
 | x::l,acc=>by
  rw[Ku,Jl7 l]
  have h:v∈Br acc x↔v∈acc∨(x.kind≠1∧∃t∈x.args,t.kind=1∧t.name=v):=by
   unfold Br;split
   ·rename_i hc;exact⟨.inl,fun h=>h.elim (fun h=>h) fun h=>absurd hc h.1⟩
   ·rename_i hc;rw[Ka,Mh];exact⟨fun h=>h.imp (fun h=>h) fun h=>⟨hc,h⟩,fun h=>h.imp (fun h=>h) fun h=>h.2⟩
  rw[h];simp only[FJ,exists_eq_or_imp,or_assoc]
theorem mem_rBound {r:Rl}:v∈BX r↔∃x∈r.body,x.kind=1∧∃t∈x.args,t.kind=1∧t.name=v:=by
 rw[Jr5,JnK];simp
theorem mem_rNeed {r:Rl}:v∈Tx r↔(∃t∈r.head.args,t.kind=1∧t.name=v)∨∃x∈r.body,x.kind≠1∧∃t∈x.args,t.kind=1∧t.name=v:=by
 rw[Jn1,Jl7,Mh]
end Delphi
namespace Go.Proofs.YtegdcbdicpfbpaaGreatDoor
open Go.AE Delphi
variable {tab:Tab}
theorem EY {α:Type}{l:List α}{i:Nat}{x:α}(h:l[i]? = some x):l.take (i+1)=l.take i++[x]:=by rw[List.take_add_one,h];rfl
def BnI (n2:Nat) (v:List Nat) (r:Rl) (w0:AW) (q:Nat) (f:Fr) (w:AW):Prop :=
 ∃i,f.get 1=some (.str v)∧f.get 2=some (.ptr n2 0)∧f.get 5=some (.int .i64 (Fq i))∧i≤r.body.length∧q=r.body.length-i∧(∀x∈r.body.take i,x.kind=1→∀t∈x.args,¬(t.kind=1∧t.name=v))∧w=w0
def BkI (n2 i:Nat) (v:List Nat) (r:Rl) (x:Lt) (w0:AW) (q:Nat) (f:Fr) (w:AW):Prop :=
 ∃k,f.get 1=some (.str v)∧f.get 2=some (.ptr n2 0)∧f.get 5=some (.int .i64 (Fq i))∧f.get 6=some (.int .i64 (Fq k))∧k≤x.args.length∧q=x.args.length-k∧(∀t∈x.args.take k,¬(t.kind=1∧t.name=v))∧w=w0
theorem JmX (C:Codes tab){T:Fw}{aw:AW}{xs:List V}{r:Rl}{v:List Nat}{K:V→AW→Prop}(hr:RlC T aw r xs)(hbd:RBd r)(h:∀w,Frm (fun _=>False) aw w→K (.bool (decide (v∈BX r))) w):WF tab Gx [.agg xs,.str v] aw K:=by
 refine Ld C.XE rfl ?_;obtain⟨hv,u,rfl,_,hu⟩:=hr;have cb:=OQ aw [V.int .i64 (Fq r.head.kind),.str r.head.name,hv,u];have ff:=LZ (S:=fun _=>False) aw [V.int .i64 (Fq r.head.kind),.str r.head.name,hv,u];have hu1:RdL (LtC T) T (aw.fresh [V.int .i64 (Fq r.head.kind),.str r.head.name,hv,u]) u 3 r.body:=hu.frm (fun _ _ h=>h.frm ff fun _ _ h=>h) ff fun _ _ h=>h;generalize hw1:aw.fresh [V.int .i64 (Fq r.head.kind),.str r.head.name,hv,u]=w1 at cb ff hu1;have l3:w1.load aw.next 3 1=some [u]:=by rw[cb.load];rfl
 have hlv:=Cx hu;refine Fz (by simp only[go_sem,K5,Z4,hw1];rfl) ?_;refine LK (BnI aw.next v r w1) (fun f w=>w=w1∧v∉BX r) ?_ ?_ r.body.length ⟨0,Fb,Fb,Fb,by omega,rfl,by simp,rfl⟩
 ·rintro q f w ⟨i,f1,f2,f5,hi,rfl,hno,rfl⟩ ih exit;by_cases hlt:i<r.body.length
  case neg =>
   rw[FX Fh]at hno;refine Lb 1000 (by simp only[go_sem,Uu,f2,f5,l3,hlv,hlt];rfl) ?_;refine exit _ _ _ ⟨rfl,fun hm=>?_⟩ rfl;obtain⟨x,hx,h1,t,ht,h2⟩:=mem_rBound.1 hm;exact hno x hx h1 t ht h2
  obtain⟨x,hx⟩:∃t,r.body[i]? = some t:=⟨_,FB hlt⟩;have hargs:=hbd.args x (FI hx);obtain⟨b,o,c,xu,rfl,_,_,_,a0,_,a2,hru⟩:=Dy hu1 hx;have hwr:KZ .i64 (Fq i+1)=Fq (i+1):=Lh (by have:=hbd.body;omega);have hxl:=hru.lenV;refine Fz (by simp only[go_sem,K5,Uu,f2,f5,l3,hlv,hlt];rfl) ?_;refine LK (BkI aw.next i v r x w) (fun f' w'=>f'.get 1=some (.str v)∧f'.get 2=some (.ptr aw.next 0)∧f'.get 5=some (.int .i64 (Fq i))∧w'=w∧(x.kind=1→∀t∈x.args,¬(t.kind=1∧t.name=v))) ?_ ?_ x.args.length ⟨0,(Fg f1),(Fg f2),(Fg f5),Fb,by omega,rfl,by simp,rfl⟩
  ·rintro q f w' ⟨k,f1,f2,f5,f6,hk,rfl,hnk,rfl⟩ ih2 exit2;by_cases hk1:x.kind=1
   case neg =>
    refine Lb 1000 (by simp only[go_sem,Zv,f2,f5,l3,hlt,a0,hk1];rfl) ?_;exact exit2 _ _ _ ⟨(Fg f1),(Fg f2),(Fg f5),rfl,fun h=>absurd h hk1⟩ rfl
   rw[hk1]at a0;by_cases hkl:k<x.args.length
   case neg =>
    rw[FX Fh]at hnk;refine Lb 1000 (by simp only[go_sem,Zv,f2,f5,f6,l3,hlt,a0,a2,hxl,hkl];rfl) ?_;exact exit2 _ _ _ ⟨(Fg f1),(Fg f2),(Fg f5),rfl,fun _=>hnk⟩ rfl
   obtain⟨t,ht⟩:∃t,x.args[k]? = some t:=⟨_,FB hkl⟩;obtain⟨b2,o2,c2,rfl,_,_,_,t0,t1⟩:=Ij hru ht;have hwk:KZ .i64 (Fq k+1)=Fq (k+1):=Lh Fh
   have next:¬(t.kind=1∧t.name=v)→∀y∈x.args.take (k+1),¬(y.kind=1∧y.name=v):=by
    intro hn y hy;rw[EY ht,Ka,Ko]at hy;rcases hy with hy|rfl
    ·exact hnk y hy
    ·exact hn
   by_cases ht1:t.kind=1
   case neg =>
    refine Fz (by simp only[go_sem,K5,Zv,XD,f1,f2,f5,f6,l3,hlt,a0,a2,hxl,hkl,t0,ht1,hwk];rfl) ?_;exact ih2 _ _ _ Fh ⟨k+1,(Fg f1),(Fg f2),(Fg f5),Fb,by omega,rfl,next fun h=>ht1 h.1,rfl⟩
   rw[ht1]at t0;by_cases htv:t.name=v
   ·have e:eqL t.name v=true:=eqL_iff.2 htv;have hm:v∈BX r:=mem_rBound.2 ⟨x,FI hx,hk1,t,FI ht,ht1,htv⟩;refine Fz (by simp only[go_sem,K5,Zv,XD,Pm,f1,f2,f5,f6,l3,hlt,a0,a2,hxl,hkl,t0,t1,Oi,e];rfl) ?_;refine K7 ⟨_,by simp only[go_sem,K5,Z4];rfl,?_⟩;have:=h w' ff;rw[decide_eq_true hm]at this;exact this
   ·have e:eqL t.name v=false:=by
     cases hc:eqL t.name v with
     | false=>rfl
     | true=>exact absurd (eqL_iff.1 hc) htv
    refine Fz (by simp only[go_sem,K5,Zv,XD,f1,f2,f5,f6,l3,hlt,a0,a2,hxl,hkl,t0,t1,Oi,e,hwk];rfl) ?_;exact ih2 _ _ _ Fh ⟨k+1,(Fg f1),(Fg f2),(Fg f5),Fb,by omega,rfl,next fun h=>htv h.2,rfl⟩
  ·rintro f w' ⟨f1,f2,f5,rfl,hnx⟩;refine Fz (by simp only[go_sem,K5,f5,hwr];rfl) ?_;refine ih _ _ _ Fh ⟨i+1,(Fg f1),(Fg f2),Fb,by omega,rfl,fun y hy=>?_,rfl⟩;rw[EY hx,Ka,Ko]at hy;rcases hy with hy|rfl
   ·exact hno y hy
   ·exact hnx
 ·rintro f w ⟨rfl,hno⟩;refine K6 1000 Fe ?_;refine K7 ⟨_,by simp only[go_sem,K5,Z4];rfl,?_⟩;have:=h w ff;rw[decide_eq_false hno]at this;exact this
section
open Go.AE Delphi
variable {tab:Tab}
theorem JiQ {w:AW}{b n k esz bytes:Nat}{cs news:List V}(h:CB w b cs)(hl:cs.length=n*esz)(hn:0<n)(hk:news.length=k*esz)(hb:(n+k)*bytes≤70368744177664)(hb':n+k≤70368744177664): ∃v' w',w.appendV esz bytes (.slice b 0 n (.known n)) k news=some (v',w')∧Rd (fun x=>x=b∨(w.next≤x∧x<w'.next)) w' v' esz (n+k) (cs++news)∧Frm (fun _=>False) w w':=by
 have rd0:Rd (fun x=>x=b) w (.slice b 0 n (.known n)) esz n cs:=.blk rfl h.lt h.get (.inl rfl) Fh (by rw[FZ,FX Fh]) (FH _);cases k with
 | zero =>
  have:news=[]:=List.length_eq_zero_iff.1 (by simpa using hk);subst this;refine⟨.slice b 0 n (.known n),w,if_pos (FH _),?_,Frm.refl _⟩;rw[Kc,KF];exact rd0.mono fun x hx=> .inl hx
 | succ k =>
  have hel:=rd0.elems;refine⟨.slice w.next 0 (n+(k+1)) (.upTo esz),w.fresh (cs++news),?_,?_,LZ _ _⟩
  ·show (if (n+(k+1))*bytes≤70368744177664∧n+(k+1)≤70368744177664∧n≤n then _ else none)=_;rw[if_pos ⟨hb,hb',FH _⟩,if_neg Fh,hel]
  ·have c:=OQ w (cs++news);have hlen:(cs++news).length=(n+(k+1))*esz:=by rw[FE,hl,hk,←Nat.add_mul]
   exact .blk (.inr ⟨FH _,c.lt⟩) c.lt c.get (.inl rfl) Fh (by rw[FZ,FX Fh]) (.inl rfl)
def Og (r:Rl):List Lt:=r.head::r.body
def DT (r:Rl) (i:Nat) (x:Lt) (t:Tm):Prop:=t.kind=1∧(i=0∨x.kind≠1)∧t.name∉BX r
def SaI (n1:Nat) (lv:V) (r:Rl) (a0:AW) (q:Nat) (f:Fr) (w:AW):Prop :=
 ∃i,f.get 1=some (.ptr n1 0)∧f.get 3=some lv∧f.get 4=some (.int .i64 (Fq i))∧i≤(Og r).length∧q=(Og r).length-i∧(∀j x,j<i→(Og r)[j]? = some x→∀t∈x.args,¬DT r j x t)∧Frm (fun _=>False) a0 w
def SkI (n1:Nat) (lv:V) (r:Rl) (i:Nat) (x:Lt) (a0:AW) (q:Nat) (f:Fr) (w:AW):Prop :=
 ∃k,f.get 1=some (.ptr n1 0)∧f.get 3=some lv∧f.get 4=some (.int .i64 (Fq i))∧f.get 5=some (.int .i64 (Fq k))∧k≤x.args.length∧q=x.args.length-k∧(∀t∈x.args.take k,¬DT r i x t)∧Frm (fun _=>False) a0 w
variable {r:Rl}
theorem Jn7 {i:Nat}{x:Lt}{t:Tm}(hx:(Og r)[i]? = some x)(ht:t∈x.args)(hb:DT r i x t):BD r=false:=by
 unfold BD;rw[List.all_eq_false];refine⟨t.name,mem_rNeed.2 ?_,by simpa using hb.2.2⟩;cases i with
 | zero=>simp[Og]at hx;subst hx;exact .inl ⟨t,ht,hb.1,rfl⟩
 | succ i =>
  have hx':r.body[i]? = some x:=by simpa[Og]using hx
  exact .inr ⟨x,FI hx',hb.2.1.resolve_left Fh,t,ht,hb.1,rfl⟩
theorem Jse (h:∀j x,j<(Og r).length→(Og r)[j]? = some x→∀t∈x.args,¬DT r j x t):BD r=true:=by
 unfold BD;rw[List.all_eq_true];intro v hv;rw[decide_eq_true_iff];refine Classical.byContradiction fun hn=>?_;rcases mem_rNeed.1 hv with⟨t,ht,h1,rfl⟩|⟨x,hx,hk,t,ht,h1,rfl⟩
 ·exact h 0 r.head (by simp[Og]) rfl t ht ⟨h1,.inl rfl,hn⟩
 ·obtain⟨i,hi⟩:=List.mem_iff_getElem?.1 hx;have hlt:=(List.getElem?_eq_some_iff.1 hi).1;exact h (i+1) x (by simp[Og];omega) (by simpa[Og]using hi) t ht ⟨h1,.inr hk,hn⟩
theorem JtW (C:Codes tab){T:Fw}{aw:AW}{xs:List V}{K:V→AW→Prop}(hr:RlC T aw r xs)(hbd:RBd r)(h:∀w,Frm (fun _=>False) aw w→K (.bool (BD r)) w):WF tab Gn [.agg xs] aw K:=by
 refine Ld C.Xb rfl ?_;have hr0:=hr;obtain⟨hv,u,rfl,hh,hu⟩:=hr;have cb:=OQ aw [V.int .i64 (Fq r.head.kind),.str r.head.name,hv,u];have ff:=LZ (S:=fun _=>False) aw [V.int .i64 (Fq r.head.kind),.str r.head.name,hv,u];generalize hw1:aw.fresh [V.int .i64 (Fq r.head.kind),.str r.head.name,hv,u]=w1 at cb ff;have l0:w1.load aw.next 0 3=some [V.int .i64 (Fq r.head.kind),.str r.head.name,hv]:=by rw[cb.load];rfl
 have hone:=hr0.one;have hov:over [V.int .i64 0,V.str [],V.nilslice] 0 [V.int .i64 (Fq r.head.kind),.str r.head.name,hv]=some [V.int .i64 (Fq r.head.kind),.str r.head.name,hv]:=rfl;have cb1:=OQ w1 [V.int .i64 (Fq r.head.kind),.str r.head.name,hv];have ff1:=LZ (S:=fun _=>False) w1 [V.int .i64 (Fq r.head.kind),.str r.head.name,hv];have cb01:=cb.frm ff1 fun h=>h;generalize hw2:w1.fresh [V.int .i64 (Fq r.head.kind),.str r.head.name,hv]=w2 at cb1 ff1 cb01;have l3:w2.load aw.next 3 1=some [u]:=by rw[cb01.load];rfl
 have f02:=ff.tr ff1;obtain⟨xss,hrd,hall⟩:=hu.frm (fun _ _ h=>h.frm f02 fun _ _ h=>h) f02 fun _ _ h=>h;have hel:=hrd.elems;obtain⟨lv,w3,u1,u2,u3⟩:=JiQ (bytes:=48) cb1 (n:=1) (esz:=3) rfl Fh hrd.len (by have:=hbd.body;omega) (by have:=hbd.body;omega);have f03:=f02.tr u3;have cb3:=cb01.frm u3 fun h=>h
 have hL:RdL (LtC T) (fun x=>x=w1.next∨(w2.next≤x∧x<w3.next)) w3 lv 3 (Og r):=by
  refine⟨[V.int .i64 (Fq r.head.kind),.str r.head.name,hv]::xss,?_,.cons ⟨hv,rfl,hh.frm f03 fun _ _ h=>h⟩ (hall.imp fun _ _ h=>h.frm u3 fun _ _ h=>h)⟩;have e:1+r.body.length=(Og r).length:=by simp[Og];omega
  rw[e]at u2;exact u2
 have hlv:=Cx hL;have hRl:RlC T w3 r [V.int .i64 (Fq r.head.kind),.str r.head.name,hv,u]:=hr0.frm f03 fun _ _ h=>h;have hal:(Og r).length≤1001:=by have:=hbd.body;simp[Og];omega
 have lit:∀{w:AW} {i:Nat} {x:Lt},Frm (fun _=>False) w3 w→(Og r)[i]? = some x→∃b o c xu,lv = .slice b o (Og r).length c∧w.load b (o+i*3) 1=some [.int .i64 (Fq x.kind)]∧w.load b (o+i*3+2) 1=some [xu]∧Rd T w xu 3 x.args.length (L8 x.args):=by
  intro w i x hf hx;have hL':RdL (LtC T) (fun x=>x=w1.next∨(w2.next≤x∧x<w3.next)) w lv 3 (Og r):=hL.frm (fun _ _ h=>h.frm hf fun _ _ h=>h) hf fun _ _ h=>h;have hlt:i<(Og r).length:=(List.getElem?_eq_some_iff.1 hx).1;rcases hL'.inv (fun a xs hx=>(LtC.one hx).1)with⟨_,q2⟩|⟨b,o,c,rfl,_,_,_,hat⟩
  ·rw[q2]at hlt;simp at hlt
  ·obtain⟨xs,⟨xu,rfl,hxu⟩,hp⟩:=hat i x hx;exact⟨b,o,c,xu,rfl,hp 0 1 Fh,hp 2 1 Fh,hxu⟩
 have argl:∀{i:Nat} {x:Lt},(Og r)[i]? = some x→x.args.length≤1000:=by
  intro i x hx;cases i with
  | zero=>simp[Og]at hx;subst hx;exact hbd.head
  | succ i=>exact hbd.args x (FI (by simpa[Og]using hx))
 refine Fz (by simp only[go_sem,K5,Zo,HB,hw1,hw2,l0,l3,Lg,Lj,hov,hel,u1,FC,FD];rfl) ?_;refine LK (SaI aw.next lv r w3) (fun f w=>Frm (fun _=>False) w3 w∧BD r=true) ?_ ?_ (Og r).length ⟨0,Fb,Fb,Fb,by omega,rfl,fun j x hj=>by omega,Frm.refl _⟩
 ·rintro q f w ⟨i,f1,f3,f4,hi,rfl,hno,hf⟩ ih exit;by_cases hlt:i<(Og r).length
  case neg =>
   have:i=(Og r).length:=Fh;subst this;refine Lb 1000 (by simp only[go_sem,V8,f3,f4,hlv,hlt];rfl) ?_;exact exit _ _ _ ⟨hf,Jse hno⟩ rfl
  obtain⟨x,hx⟩:∃t,(Og r)[i]? = some t:=⟨_,FB hlt⟩;have hargs:=argl hx;have hwr:KZ .i64 (Fq i+1)=Fq (i+1):=Lh Fh;refine Fz (by simp only[go_sem,K5,V8,f3,f4,hlv,hlt];rfl) ?_;refine LK (SkI aw.next lv r i x w3) (fun f' w'=>f'.get 1=some (.ptr aw.next 0)∧f'.get 3=some lv∧f'.get 4=some (.int .i64 (Fq i))∧Frm (fun _=>False) w3 w'∧∀t∈x.args,¬DT r i x t) ?_ ?_ x.args.length ⟨0,(Fg f1),(Fg f3),(Fg f4),Fb,by omega,rfl,by simp,hf⟩
  ·rintro q f w' ⟨k,f1,f3,f4,f5,hk,rfl,hnk,hf'⟩ ih2 exit2;obtain⟨b,o,c,xu,rfl,a0,a2,hru⟩:=lit hf' hx;have hxl:=hru.lenV;by_cases hkl:k<x.args.length
   case neg =>
    rw[FX Fh]at hnk;refine Lb 1000 (by simp only[go_sem,Zn,f3,f4,f5,hlt,a2,hxl,hkl];rfl) ?_;exact exit2 _ _ _ ⟨(Fg f1),(Fg f3),(Fg f4),hf',hnk⟩ rfl
   obtain⟨t,ht⟩:∃t,x.args[k]? = some t:=⟨_,FB hkl⟩;obtain⟨b2,o2,c2,rfl,_,_,_,t0,t1⟩:=Ij hru ht;have hwk:KZ .i64 (Fq k+1)=Fq (k+1):=Lh Fh
   have next:¬DT r i x t→∀y∈x.args.take (k+1),¬DT r i x y:=by
    intro hn y hy;rw[EY ht,Ka,Ko]at hy;rcases hy with hy|rfl
    ·exact hnk y hy
    ·exact hn
   by_cases ht1:t.kind=1
   case neg =>
    refine Fz (by simp only[go_sem,K5,Zn,Z0,f1,f3,f4,f5,hlt,a2,hxl,hkl,t0,ht1,hwk];rfl) ?_;exact ih2 _ _ _ Fh ⟨k+1,(Fg f1),(Fg f3),(Fg f4),Fb,by omega,rfl,next fun h=>ht1 h.1,hf'⟩
   rw[ht1]at t0;have la:=(cb3.frm hf' fun h=>h).all (n:=4) rfl;have called:∀{w5:AW},Frm (fun _=>False) w' w5→Frm (fun _=>False) w3 w5:=fun h=>hf'.tr h;by_cases hi0:i=0
   ·subst hi0;refine Fz (by simp only[go_sem,K5,Zn,Z0,f1,f3,f4,f5,hlt,a2,hxl,hkl,t0,t1,la];rfl) ?_;refine K9 Ff Fe ?_;refine JmX C (hRl.frm hf' fun _ _ h=>h) hbd fun w5 v1=>?_;by_cases hm:t.name∈BX r
    ·rw[decide_eq_true hm];refine Fz (by simp only[go_sem,K5,f5,hwk];rfl) ?_;exact ih2 _ _ _ Fh ⟨k+1,(Fg f1),(Fg f3),(Fg f4),Fb,by omega,rfl,next fun h=>h.2.2 hm,called v1⟩
    ·rw[decide_eq_false hm];refine Fz (by simp only[go_sem,K5,V7];rfl) ?_;refine K7 ⟨_,by simp only[go_sem,K5,Zo];rfl,?_⟩;have:=h w5 (f03.tr (called v1));rw[Jn7 hx (FI ht) ⟨ht1,.inl rfl,hm⟩]at this;exact this
   ·by_cases hk1:x.kind=1
    ·rw[hk1]at a0;refine Fz (by simp only[go_sem,K5,Zn,Z0,f1,f3,f4,f5,hlt,a0,a2,hxl,hkl,t0,hi0,hwk];rfl) ?_;exact ih2 _ _ _ Fh ⟨k+1,(Fg f1),(Fg f3),(Fg f4),Fb,by omega,rfl,next fun h=>h.2.1.elim hi0 fun h=>h hk1,hf'⟩
    ·refine Fz (by simp only[go_sem,K5,Zn,Z0,f1,f3,f4,f5,hlt,a0,a2,hxl,hkl,t0,t1,hi0,hk1,la];rfl) ?_;refine K9 Ff Fe ?_;refine JmX C (hRl.frm hf' fun _ _ h=>h) hbd fun w5 v1=>?_;by_cases hm:t.name∈BX r
     ·rw[decide_eq_true hm];refine Fz (by simp only[go_sem,K5,f5,hwk];rfl) ?_;exact ih2 _ _ _ Fh ⟨k+1,(Fg f1),(Fg f3),(Fg f4),Fb,by omega,rfl,next fun h=>h.2.2 hm,called v1⟩
     ·rw[decide_eq_false hm];refine Fz (by simp only[go_sem,K5,V7];rfl) ?_;refine K7 ⟨_,by simp only[go_sem,K5,Zo];rfl,?_⟩;have:=h w5 (f03.tr (called v1));rw[Jn7 hx (FI ht) ⟨ht1,.inr hk1,hm⟩]at this;exact this
  ·rintro f w' ⟨f1,f3,f4,hf',hnx⟩;refine Fz (by simp only[go_sem,K5,f4,hwr];rfl) ?_;refine ih _ _ _ Fh ⟨i+1,(Fg f1),(Fg f3),Fb,by omega,rfl,fun j y hj hy=>?_,hf'⟩;by_cases hji:j=i
   ·subst hji;rw[hx]at hy;cases hy;exact hnx
   ·exact hno j y Fh hy
 ·rintro f w ⟨hf,hs⟩;refine K6 1000 Fe ?_;refine K7 ⟨_,by simp only[go_sem,K5,Zo];rfl,?_⟩;have:=h w (f03.tr hf);rw[hs]at this;exact this
end
end Go.Proofs.YtegdcbdicpfbpaaGreatDoor
namespace Delphi
open Go.AE
structure Fa where
 name:List Nat
 args:List (Int×List Nat×Int×Unit)
abbrev Ps:=List (List Nat×Int)
end Delphi
namespace Go.Proofs.YtegdcbdicpfbpaaGreatDoor
open Go.AE Delphi
variable {tab:Tab}
def FaC (T:Fw) (w:AW) (f:Fa) (xs:List V):Prop:=∃v,xs=[.str f.name,v]∧∃cs,Rd T w v 3 f.args.length cs
variable {xs:List V}
theorem FaC.frm {T S:Fw}{w w':AW}{l:Fa}(h:FaC T w l xs)(hf:Frm S w w')(hd:∀x,T x→¬S x):FaC T w' l xs:=by
 obtain⟨v,h1,cs,h2⟩:=h;exact⟨v,h1,cs,h2.frm hf hd⟩
theorem FaC.one {T:Fw}{w:AW}{l:Fa}(h:FaC T w l xs):xs.length=2∧Lv xs=true:=by
 obtain⟨v,rfl,cs,h2⟩:=h;refine⟨rfl,?_⟩;rcases h2.inv with⟨rfl,_⟩|⟨_,_,_,rfl,_⟩<;>rfl
end Go.Proofs.YtegdcbdicpfbpaaGreatDoor
namespace Delphi
def st0:Ps×Bool:=([],true)
end Delphi
namespace Go.Proofs.YtegdcbdicpfbpaaGreatDoor
open Go.AE Delphi
variable {tab:Tab}
theorem Al.cut {T:Fw}{w:AW}{b:Nat}{sh:Share}(h:Al T w b sh):Al (fun x=>T x∧x<w.next) w b sh:=by
 rcases h with rfl|rfl|rfl|⟨f,F,rfl,h1,h2,h3⟩
 ·exact .inl rfl
 ·exact .inr (.inl rfl)
 ·exact .inr (.inr (.inl rfl))
 ·exact .inr (.inr (.inr ⟨f,F,rfl,⟨h1,h2⟩,h2,h3⟩))
theorem Rd.cut {T:Fw}{w:AW}{v:V}{esz n:Nat}{cs:List V}(h:Rd T w v esz n cs):Rd (fun x=>T x∧x<w.next) w v esz n cs:=by
 cases h with
 | nil=>exact .nil
 | blk hT hb hx ha hl hcs hc=>exact .blk ⟨hT,hb⟩ hb hx (Al.cut ha) hl hcs hc
end Go.Proofs.YtegdcbdicpfbpaaGreatDoor
namespace Delphi
open Go.AE
theorem aget_app:∀(L:Ps) (k:List Nat) (M:Ps),K8 (L++M) k=(match K8 L k with|some v=>some v|none=>K8 M k)
 | [],k,M=>rfl
 | (a,b)::L,k,M=>by
  by_cases hk:k=a
  ·simp[K8,hk]
  ·simp only[List.cons_append,K8,if_neg hk,aget_app L k M]
end Delphi
namespace Go.Proofs.YtegdcbdicpfbpaaGreatDoor
open Go.AE Delphi
variable {tab:Tab}
def Jw2 (L:Ps):List V:=L.map fun p=>V.str p.1
def Jw5 (L:Ps):List V:=L.map fun p=>V.int .i64 p.2
structure NW (aw w:AW) (nv wv:V) (L:Ps) (S1 S2:Fw):Prop where
 a:Bt S1 w nv 1 L.length (Jw2 L)
 b:Bt S2 w wv 1 L.length (Jw5 L)
 s1:∀x,S1 x→aw.next≤x∧x<w.next∧¬S2 x
 s2:∀x,S2 x→aw.next≤x∧x<w.next
 frm:Frm (fun _=>False) aw w
theorem NW.ext {aw w w2:AW}{nv wv:V}{L:Ps}{S1 S2:Fw}(h:NW aw w nv wv L S1 S2)(hf:Frm (fun _=>False) w w2):NW aw w2 nv wv L S1 S2:=
 ⟨h.a.frm hf fun _ _ h=>h,h.b.frm hf fun _ _ h=>h,fun x hx=>by have h1:=h.s1 x hx;have:=hf.next;exact⟨by omega,by omega,h1.2.2⟩,fun x hx=>by have h1:=h.s2 x hx;have:=hf.next;exact⟨by omega,by omega⟩,h.frm.tr hf⟩
section
open Go.AE Delphi
variable {tab:Tab}
structure LV (T:Fw) (aw w:AW) (lv:V) (r:Rl) (S1 S2 Tl:Fw):Prop where
 rd:∃xss,Rd Tl w lv 3 (Og r).length xss.flatten∧All2 (LtC T aw) (Og r) xss
 sep:∀x,Tl x→x<w.next∧¬S1 x∧¬S2 x
theorem LV.at {T:Fw}{aw w:AW}{lv:V}{r:Rl}{S1 S2 Tl:Fw}(h:LV T aw w lv r S1 S2 Tl){i:Nat}{x:Lt}(hx:(Og r)[i]? = some x):∃b o c u,lv = .slice b o (Og r).length c∧w.load b (o+i*3) 1=some [.int .i64 (Fq x.kind)]∧w.load b (o+i*3+1) 1=some [.str x.name]∧w.load b (o+i*3+2) 1=some [u]∧lenV u=some x.args.length:=by
 obtain⟨xss,h1,h2⟩:=h.rd;have hlt:i<(Og r).length:=(List.getElem?_eq_some_iff.1 hx).1;have h3:RdL (fun _=>LtC T aw) Tl w lv 3 (Og r):=⟨xss,h1,h2⟩;rcases h3.inv (fun a xs hx=>(LtC.one hx).1)with⟨_,q2⟩|⟨b,o,c,rfl,_,_,_,hat⟩
 ·rw[q2]at hlt;simp at hlt
 ·obtain⟨xs,⟨u,rfl,hu⟩,hp⟩:=hat i x hx;exact⟨b,o,c,u,rfl,hp 0 1 Fh,hp 1 1 Fh,hp 2 1 Fh,hu.lenV⟩
end
section
open Go.AE Delphi
variable {tab:Tab}
end
end Go.Proofs.YtegdcbdicpfbpaaGreatDoor
namespace Delphi
def JsQ (rules:List Rl) (nm:List Nat):Prop:=∃r∈rules,r.head.name=nm
instance (rules:List Rl) (nm:List Nat):Decidable (JsQ rules nm):=List.decidableBEx _ rules
end Delphi
namespace Go.Proofs.YtegdcbdicpfbpaaGreatDoor
open Go.AE Delphi
variable {tab:Tab}
end Go.Proofs.YtegdcbdicpfbpaaGreatDoor
namespace Delphi
structure RBr (r:Rl):Prop where
 head:r.head.args.length≤5
 body:r.body.length≤7
 args:∀l∈r.body,l.args.length≤5
theorem RBr.big {r:Rl}(h:RBr r):RBd r:=⟨by have:=h.head;omega,by have:=h.body;omega,fun l hl=>by have:=h.args l hl;omega⟩
end Delphi
namespace Go.Proofs.YtegdcbdicpfbpaaGreatDoor
open Go.AE Delphi
variable {tab:Tab}
variable {s:List Nat} {K:V→AW→Prop}
theorem Jpk (C:Codes tab){n:Nat}{aw:AW}(h:K (.str (s.take n)) aw):WF tab ZM [.str s,.int .i64 (Fq n)] aw K:=by
 refine Ld C.Z1 rfl ?_;by_cases hl:n<s.length
 ·have h1:n≤s.length:=Fh;refine Fz (by simp only[go_sem,K5,Jt,hl,h1,Nat.zero_le,FZ,Nat.sub_zero];rfl) ?_;refine K7 ⟨_,by simp only[go_sem,K5,Jt];rfl,?_⟩;exact h
 ·refine Fz (by simp only[go_sem,K5,Jt,hl];rfl) ?_;refine K7 ⟨_,by simp only[go_sem,K5,Jt];rfl,?_⟩;rw[FX Fh]at h;exact h
theorem Jl5 (C:Codes tab){aw:AW}(hb:∀x∈s,x<256)(h:∀w v T rs,rs=(IV (s.take 1200)).1→RdL (RlC T) T w v 4 rs→Frm (fun _=>False) aw w→(∀x,T x→aw.next≤x∧x<w.next)→K v w):WF tab VI [.str s] aw K:=by
 refine Ld C.YZ rfl ?_;refine Fz (by simp only[go_sem,K5,YY,Hk];rfl) ?_;refine K9 Ff Fe ?_;refine Jpk C (n:=1200) ?_;refine K6 1000 Fe ?_;refine K9 Ff Fe ?_;refine JoO C (by rw[FU];omega) (fun x hx=>hb x (List.mem_of_mem_take hx)) fun w v T h1 h2 h3=>?_;refine K6 1000 Fe ?_;refine K7 ⟨_,by simp only[go_sem,K5,YY];rfl,?_⟩;exact h w v T _ rfl h1 h2 h3
section
open Go.AE Delphi Val
variable {tab:Tab}
theorem JjN (t:Tk):OO t t=true:=by simp[OO,JwZ]
theorem CJ {T:Fw}{w:AW}{v:V}{l:List Lt}(h:RdL (LtC T) T w v 3 l){i:Nat}{t:Lt}(hi:l[i]? = some t):∃b o c xs,v = .slice b o l.length c∧w.load b (o+i*3) 3=some xs∧LtC T w t xs:=by
 have hlt:i<l.length:=(List.getElem?_eq_some_iff.1 hi).1;obtain⟨xss,h1,h2⟩:=h;obtain⟨xs,h3,h4⟩:=Nj (sz:=3) (fun a xs h=>h.one.1) h2 hi;rcases h1.inv with⟨_,q2,_⟩|⟨b,o,c,rfl,hB⟩
 ·omega
 ·refine⟨b,o,c,xs,rfl,?_,h3⟩;rw[hB.load (i*3) 3 Fh];exact congrArg some h4
end
section
open Go.AE Delphi Val
variable {tab:Tab}
end
section
open Go.AE Delphi Val
variable {tab:Tab}
abbrev Fc:=List Nat×List Tk
def Oz:List Tk→List Tk→Bool
 | a::aas,b::bs=>if OO a b then Oz aas bs else Ou a b
 | aas,bs=>decide (aas.length<bs.length)
def Ov (a b:Fc):Bool:=if eqL a.1 b.1 then Oz a.2 b.2 else Oq a.1 b.1
def BK (a b:Fc):Bool:=!Ov a b && !Ov b a
def FcC (T:Fw) (w:AW) (f:Fc) (xs:List V):Prop:=∃v,xs=[.str f.1,v]∧Rd T w v 3 f.2.length (O0 f.2)
variable {T:Fw} {w:AW} {xs:List V}
theorem FcC.frm {S:Fw}{w':AW}{f:Fc}(h:FcC T w f xs)(hf:Frm S w w')(hd:∀x,T x→¬S x):FcC T w' f xs:=by
 obtain⟨v,h1,h2⟩:=h;exact⟨v,h1,h2.frm hf hd⟩
theorem FcC.one {f:Fc}(h:FcC T w f xs):xs.length=2∧Lv xs=true:=by
 obtain⟨v,rfl,h2⟩:=h;refine⟨rfl,?_⟩;rcases h2.inv with⟨rfl,_⟩|⟨_,_,_,rfl,_⟩<;>rfl
abbrev Fcs (T:Fw) (w:AW) (v:V) (l:List Fc):Prop:=RdL (FcC T) T w v 2 l
variable {v:V} {l:List Fc}
theorem Fcs.frm {S:Fw}{w':AW}(h:Fcs T w v l)(hf:Frm S w w')(hd:∀x,T x→¬S x):Fcs T w' v l:=RdL.frm h (fun _ _ h=>h.frm hf hd) hf hd
theorem Fcs.lenV (h:Fcs T w v l):lenV v=some l.length:=by obtain⟨_,h,_⟩:=h;exact h.lenV
theorem Sw (h:Fcs T w v l){i:Nat}{t:Fc}(hi:l[i]? = some t):∃b o c xv,v = .slice b o l.length c∧T b∧b<w.next∧w.load b (o+i*2) 2=some [.str t.1,xv]∧w.load b (o+i*2) 1=some [.str t.1]∧w.load b (o+i*2+1) 1=some [xv]∧Rd T w xv 3 t.2.length (O0 t.2):=by
 have hlt:i<l.length:=(List.getElem?_eq_some_iff.1 hi).1;rcases RdL.inv h (fun a xs h=>h.one.1)with⟨_,rfl⟩|⟨b,o,c,rfl,h1,h2,_,hat⟩
 ·simp at hlt
 ·obtain⟨xs,hx,hl⟩:=hat i t hi;obtain⟨xv,rfl,hx⟩:=hx;exact⟨b,o,c,xv,rfl,h1,h2,hl 0 2 Fh,hl 0 1 Fh,hl 1 1 Fh,hx⟩
variable {T':Fw} {y:Fc} {ys:List V} {aw:AW}
theorem Ru (C:Codes tab){x:Fc}(hx:FcC T aw x xs)(hy:FcC T' aw y ys)(hlx:x.2.length≤1000)(h:∀w,Frm (fun _=>False) aw w→K (.bool (Ov x y)) w):WF tab YH [.agg xs,.agg ys] aw K:=by
 refine Ld C.XZ rfl ?_;obtain⟨nm,aas⟩:=x;obtain⟨nm',bs⟩:=y;obtain⟨xv,rfl,hx⟩:=hx;obtain⟨yv,rfl,hy⟩:=hy;obtain⟨w1,e1,c1,r1,m1⟩:=Oe aw [.str nm,xv];obtain⟨w2,e2,c2,r2,m2⟩:=Oe w1 [.str nm',yv];have c1:=c1.frm r2 fun h=>h;have f02:=r1.tr r2;have a0:=CB.ld c1 0 1 _ rfl;have b0:=CB.ld c2 0 1 _ rfl;have hxv:=hx.lenV;have hyv:=hy.lenV;simp only at hxv hyv hx hy hlx;have hsn:Oi BinOp.neq nm nm'=some (.bool (!eqL nm nm')):=rfl;by_cases hnm:eqL nm nm'=true
 case neg =>
  have hf:eqL nm nm'=false:=by simpa using hnm
  have hls:Oi BinOp.lss nm nm'=some (.bool (Oq nm nm')):=rfl;rw[hf]at hsn;have hsn:Oi BinOp.neq nm nm'=some (.bool true):=hsn;have hfl:Ov (nm,aas) (nm',bs)=Oq nm nm':=if_neg (by simp only;rw[hf];simp);rw[hfl]at h;refine Fz (by simp only[go_sem,K5,J8,UD,PE,e1,e2,a0,b0,hsn,hls];rfl) ?_;refine K7 ⟨_,by simp only[go_sem,K5,J8];rfl,?_⟩;exact h w2 f02
 rw[hnm]at hsn;have hsn:Oi BinOp.neq nm nm'=some (.bool false):=hsn;have hfl:Ov (nm,aas) (nm',bs)=Oz aas bs:=if_pos hnm;rw[hfl]at h;refine Fz (by simp only[go_sem,K5,J8,UD,e1,e2,a0,b0,hsn];rfl) ?_;refine LK (fun n f w=>∃i,f.get 2=some (.ptr aw.next 0)∧f.get 3=some (.ptr w1.next 0)∧f.get 5=some (.int .i64 (Fq i))∧Frm (fun _=>False) w2 w∧Oz aas bs=Oz (aas.drop i) (bs.drop i)∧i≤aas.length∧i≤bs.length∧n=aas.length-i) (fun f w=>f.get 2=some (.ptr aw.next 0)∧f.get 3=some (.ptr w1.next 0)∧Frm (fun _=>False) w2 w∧Oz aas bs=decide (aas.length<bs.length)) ?_ ?_ aas.length ⟨0,Fb,Fb,Fb,Frm.refl _,rfl,Nat.zero_le _,Nat.zero_le _,rfl⟩
 ·rintro n f w ⟨i,f2,f3,f5,g,hL,hi,hi',rfl⟩ ih out;have a1:=CB.ld (c1.frm g fun h=>h) 1 1 _ rfl;have b1:=CB.ld (c2.frm g fun h=>h) 1 1 _ rfl;by_cases hlt:i<aas.length
  case neg =>
   obtain rfl:i=aas.length:=Fh;rw[List.drop_length]at hL
   have hL:Oz aas bs=decide (aas.length<bs.length):=by
    rw[hL];show decide (([]:List Tk).length<_)=_;rw[Ki,FD];exact decide_eq_decide.2 Fh
   refine Lb 1000 (by simp only[go_sem,XY,f2,f3,f5,a1,b1,hxv,hyv,hlt];rfl) ?_;exact out _ _ _ ⟨(Fg f2),(Fg f3),g,hL⟩ rfl
  by_cases hlt2:i<bs.length
  case neg =>
   obtain rfl:i=bs.length:=Fh;rw[List.drop_length]at hL
   have hL:Oz aas bs=decide (aas.length<bs.length):=by
    rw[hL];cases hd:aas.drop bs.length with
    | nil=>simp[Oz];omega
    | cons a l=>simp[Oz];omega
   refine Lb 1000 (by simp only[go_sem,XY,f2,f3,f5,a1,b1,hxv,hyv,hlt,hlt2];rfl) ?_;exact out _ _ _ ⟨(Fg f2),(Fg f3),g,hL⟩ rfl
  obtain⟨t,ht⟩:∃t,aas[i]? = some t:=⟨_,FB hlt⟩;obtain⟨u,hu⟩:∃t,bs[i]? = some t:=⟨_,FB hlt2⟩;have hda:aas.drop i=t::aas.drop (i+1):=by rw[FL hlt];rw[FB hlt]at ht;cases ht;rfl
  have hdb:bs.drop i=u::bs.drop (i+1):=by rw[FL hlt2];rw[FB hlt2]at hu;cases hu;rfl
  have hL2:Oz aas bs=if OO t u then Oz (aas.drop (i+1)) (bs.drop (i+1))else Ou t u:=by rw[hL,hda,hdb];rfl
  have f0w:=f02.tr g;have hxw:=hx.frm f0w fun _ _ h=>h;have hyw:=hy.frm f0w fun _ _ h=>h;obtain⟨b,o,c,rfl,_,_,a3⟩:=Di hxw ht;obtain⟨b',o',c',rfl,_,_,b3⟩:=Di hyw hu;have hwr:KZ .i64 (Fq i+1)=Fq (i+1):=Lh Fh;refine Fz (by simp only[go_sem,K5,XY,PG,f2,f3,f5,a1,b1,hxv,hyv,hlt,hlt2,a3,b3];rfl) ?_;refine K9 Ff Fe ?_;refine Nn C (a:=t) (b:=u) fun w' g'=>?_;cases hs:OO t u with
  | true =>
   rw[hs,if_pos rfl]at hL2;refine Fz (by simp only[go_sem,K5,f5,hwr];rfl) ?_;exact ih _ _ _ Fh ⟨i+1,(Fg f2),(Fg f3),Fb,g.tr g',hL2,by omega,by omega,rfl⟩
  | false =>
   rw[hs,if_neg Fj]at hL2;have a1:=CB.ld (c1.frm (g.tr g') fun h=>h) 1 1 _ rfl;have b1:=CB.ld (c2.frm (g.tr g') fun h=>h) 1 1 _ rfl;obtain⟨_,_,_,he,_,_,a3⟩:=Di (hxw.frm g' fun _ _ h=>h) ht;cases he;obtain⟨_,_,_,he,_,_,b3⟩:=Di (hyw.frm g' fun _ _ h=>h) hu;cases he;refine Fz (by simp only[go_sem,K5,PF,f2,f3,f5,a1,b1,hlt,hlt2,a3,b3];rfl) ?_;refine K9 Ff Fe ?_;refine Q4 C (a:=t) (b:=u) fun w3 g3=>?_;refine K6 1000 Fe ?_;refine K7 ⟨_,by simp only[go_sem,K5,J8];rfl,?_⟩;rw[hL2]at h;exact h w3 ((f0w.tr g').tr g3)
 ·rintro f w ⟨f2,f3,g,hL⟩;have a1:=CB.ld (c1.frm g fun h=>h) 1 1 _ rfl;have b1:=CB.ld (c2.frm g fun h=>h) 1 1 _ rfl;rw[hL]at h;have h:=h w (f02.tr g);refine Fz (by simp only[go_sem,K5,PH,f2,f3,a1,b1,hxv,hyv];rfl) ?_;refine K7 ⟨_,by simp only[go_sem,K5,J8];rfl,?_⟩;exact h
theorem Jly (C:Codes tab){x:Fc}(hx:FcC T aw x xs)(hy:FcC T' aw y ys)(hlx:x.2.length≤1000)(hly:y.2.length≤1000)(h:∀w,Frm (fun _=>False) aw w→K (.bool (BK x y)) w):WF tab YE [.agg xs,.agg ys] aw K:=by
 refine Ld C.XF rfl ?_;obtain⟨xl,xo⟩:=hx.one;obtain⟨yl,yo⟩:=hy.one;obtain⟨w1,e1,c1,r1,m1⟩:=Oe aw xs;obtain⟨w2,e2,c2,r2,m2⟩:=Oe w1 ys;have c1:=c1.frm r2 fun h=>h;have f02:=r1.tr r2;have a0:=c1.all xl;have b0:=c2.all yl;have hc1:V.cells (.agg xs)=xs:=rfl;have hc2:V.cells (.agg ys)=ys:=rfl;refine Fz (by simp only[go_sem,K5,Z5,Pn,hc1,hc2,e1,e2,a0,b0];rfl) ?_;refine K9 Ff Fe ?_;refine Ru C (hx.frm f02 fun _ _ h=>h) (hy.frm f02 fun _ _ h=>h) hlx fun w3 g3=>?_;cases hl:Ov x y with
 | true =>
  have e:BK x y=false:=by unfold BK;rw[hl];rfl
  rw[e]at h;refine K6 1000 Fe ?_;refine K7 ⟨_,by simp only[go_sem,K5,Z5];rfl,?_⟩;exact h w3 (f02.tr g3)
 | false =>
  have e:BK x y = !Ov y x:=by unfold BK;rw[hl];rfl
  rw[e]at h;have a0:=(c1.frm g3 fun h=>h).all xl;have b0:=(c2.frm g3 fun h=>h).all yl;have f03:=f02.tr g3;refine Fz (by simp only[go_sem,K5,a0,b0];rfl) ?_;refine K9 Ff Fe ?_;refine Ru C (hy.frm f03 fun _ _ h=>h) (hx.frm f03 fun _ _ h=>h) hly fun w4 g4=>?_;have h:=h w4 (f03.tr g4);refine K6 1000 Fe ?_;refine K7 ⟨_,by simp only[go_sem,K5,Z5];rfl,?_⟩;exact h
theorem Jvn (C:Codes tab){lv:V}(hx:Fcs T aw lv l)(hy:FcC T' aw y ys)(hl:l.length≤1000000)(hlx:∀x∈l,x.2.length≤1000)(hly:y.2.length≤1000)(h:∀w,Frm (fun _=>False) aw w→K (.bool (l.any fun x=>BK x y)) w):WF tab GC [lv,.agg ys] aw K:=by
 refine Ld C.XV rfl ?_;obtain⟨yl,yo⟩:=hy.one;obtain⟨w1,e1,c1,r1,m1⟩:=Oe aw ys;have hc1:V.cells (.agg ys)=ys:=rfl;have hlv:=hx.lenV;refine Fz (by simp only[go_sem,K5,Z8,hc1,e1];rfl) ?_;refine LK (fun n f w=>∃i,f.get 0=some lv∧f.get 3=some (.ptr aw.next 0)∧f.get 5=some (.int .i64 (Fq i))∧Frm (fun _=>False) w1 w∧((l.any fun x=>BK x y)=(l.drop i).any fun x=>BK x y)∧i≤l.length∧n=l.length-i) (fun f w=>Frm (fun _=>False) w1 w∧(l.any fun x=>BK x y)=false) ?_ ?_ l.length ⟨0,Fb,Fb,Fb,Frm.refl _,rfl,Nat.zero_le _,rfl⟩
 ·rintro n f w ⟨i,f0,f3,f5,g,hL,hi,rfl⟩ ih out;by_cases hlt:i<l.length
  case neg =>
   obtain rfl:i=l.length:=Fh;rw[List.drop_length]at hL;refine Lb 1000 (by simp only[go_sem,UB,f0,f5,hlv,hlt];rfl) ?_;exact out _ _ _ ⟨g,hL⟩ rfl
  obtain⟨t,ht⟩:∃t,l[i]? = some t:=⟨_,FB hlt⟩;have hd:l.drop i=t::l.drop (i+1):=by rw[FL hlt];rw[FB hlt]at ht;cases ht;rfl
  rw[hd,List.any_cons]at hL;have f0w:=r1.tr g;have a0:=(c1.frm g fun h=>h).all yl;obtain⟨b,o,c,xv,rfl,_,_,la,_,_,hxv⟩:=Sw (hx.frm f0w fun _ _ h=>h) ht;have hwr:KZ .i64 (Fq i+1)=Fq (i+1):=Lh Fh;refine Fz (by simp only[go_sem,K5,UB,Pz,f0,f3,f5,hlv,hlt,la,a0];rfl) ?_;refine K9 Ff Fe ?_;refine Jly C (x:=t) (y:=y) (T:=T) ⟨xv,rfl,hxv⟩ (hy.frm f0w fun _ _ h=>h) (hlx t (FI ht)) hly fun w2 g2=>?_;cases hs:BK t y with
  | true =>
   rw[hs,Bool.true_or]at hL;rw[hL]at h;refine Fz (by simp only[go_sem,K5,Py];rfl) ?_;refine K7 ⟨_,by simp only[go_sem,K5,Z8];rfl,?_⟩;exact h w2 (f0w.tr g2)
  | false =>
   rw[hs,Bool.false_or]at hL;refine Fz (by simp only[go_sem,K5,f5,hwr];rfl) ?_;exact ih _ _ _ Fh ⟨i+1,(Fg f0),(Fg f3),Fb,g.tr g2,hL,by omega,rfl⟩
 ·rintro f w ⟨g,hL⟩;rw[hL]at h;refine K6 1000 Fe ?_;refine K7 ⟨_,by simp only[go_sem,K5,Z8];rfl,?_⟩;exact h w (r1.tr g)
def T9:List Fc→List Fc→Bool
 | a::aas,b::bs=>BK a b&&T9 aas bs
 | [],[]=>true
 | _,_=>false
theorem Jjw:∀{a b:List Fc},T9 a b=true→a.length=b.length
 | [],[],_=>rfl
 | [],_::_,h=>by simp[T9]at h
 | _::_,[],h=>by simp[T9]at h
 | a::aas,b::bs,h=>by
  simp only[T9,FT]at h;rw[FC,FC,Jjw h.2]
theorem JtP (C:Codes tab){m:List Fc}{lv mv:V}(hx:Fcs T aw lv l)(hy:Fcs T' aw mv m)(hl:l.length≤1000000)(hlx:∀x∈l,x.2.length≤1000)(hly:∀x∈m,x.2.length≤1000)(h:∀w,Frm (fun _=>False) aw w→K (.bool (T9 l m)) w):WF tab Gq [lv,mv] aw K:=by
 refine Ld C.Xe rfl ?_;have hlv:=hx.lenV;have hmv:=hy.lenV;by_cases hz:l.length=m.length
 case neg =>
  have e:T9 l m=false:=by
   cases hc:T9 l m with
   | false=>rfl
   | true=>exact absurd (Jjw hc) hz
  rw[e]at h;refine Fz (by simp only[go_sem,K5,JZ,Ud,HE,hlv,hmv,hz];rfl) ?_;refine K7 ⟨_,by simp only[go_sem,K5,JZ];rfl,?_⟩;exact h aw (Frm.refl _)
 have hmv:lenV mv=some l.length:=by rw[hz];exact hmv
 refine Fz (by simp only[go_sem,K5,JZ,Ud,hlv,hmv];rfl) ?_;refine LK (fun n f w=>∃i,f.get 0=some lv∧f.get 1=some mv∧f.get 5=some (.int .i64 (Fq i))∧Frm (fun _=>False) aw w∧T9 l m=T9 (l.drop i) (m.drop i)∧i≤l.length∧n=l.length-i) (fun f w=>Frm (fun _=>False) aw w∧T9 l m=true) ?_ ?_ l.length ⟨0,Fb,Fb,Fb,Frm.refl _,rfl,Nat.zero_le _,rfl⟩
 ·rintro n f w ⟨i,f0,f1,f5,g,hL,hi,rfl⟩ ih out;by_cases hlt:i<l.length
  case neg =>
   obtain rfl:i=l.length:=Fh;rw[List.drop_length,hz,List.drop_length]at hL;refine Lb 1000 (by simp only[go_sem,Uc,f0,f5,hlv,hlt];rfl) ?_;exact out _ _ _ ⟨g,hL⟩ rfl
  have hlt2:i<m.length:=Fh;obtain⟨t,ht⟩:∃t,l[i]? = some t:=⟨_,FB hlt⟩;obtain⟨u,hu⟩:∃t,m[i]? = some t:=⟨_,FB hlt2⟩;have hda:l.drop i=t::l.drop (i+1):=by rw[FL hlt];rw[FB hlt]at ht;cases ht;rfl
  have hdb:m.drop i=u::m.drop (i+1):=by rw[FL hlt2];rw[FB hlt2]at hu;cases hu;rfl
  rw[hda,hdb]at hL;have hL:T9 l m=(BK t u&&T9 (l.drop (i+1)) (m.drop (i+1))):=hL;obtain⟨b,o,c,xv,rfl,_,_,la,_,_,hxv⟩:=Sw (hx.frm g fun _ _ h=>h) ht;obtain⟨b',o',c',yv,rfl,_,_,lb,_,_,hyv⟩:=Sw (hy.frm g fun _ _ h=>h) hu;have hwr:KZ .i64 (Fq i+1)=Fq (i+1):=Lh Fh;refine Fz (by simp only[go_sem,K5,Uc,HG,f0,f1,f5,hlv,hlt,hlt2,la,lb];rfl) ?_;refine K9 Ff Fe ?_;refine Jly C (x:=t) (y:=u) (T:=T) (T':=T') ⟨xv,rfl,hxv⟩ ⟨yv,rfl,hyv⟩ (hlx t (FI ht)) (hly u (FI hu)) fun w2 g2=>?_;cases hs:BK t u with
  | false =>
   rw[hs,Bool.false_and]at hL;rw[hL]at h;refine Fz (by simp only[go_sem,K5,HF];rfl) ?_;refine K7 ⟨_,by simp only[go_sem,K5,JZ];rfl,?_⟩;exact h w2 (g.tr g2)
  | true =>
   rw[hs,Bool.true_and]at hL;refine Fz (by simp only[go_sem,K5,f5,hwr];rfl) ?_;exact ih _ _ _ Fh ⟨i+1,(Fg f0),(Fg f1),Fb,g.tr g2,hL,by omega,rfl⟩
 ·rintro f w ⟨g,hL⟩;rw[hL]at h;refine K6 1000 Fe ?_;refine K7 ⟨_,by simp only[go_sem,K5,JZ];rfl,?_⟩;exact h w g
end
section
open Go.AE Delphi Val
variable {tab:Tab}
abbrev Bn:=List Nat×Tk
def bnC (b:Bn):List V:=.str b.1::tkC b.2
theorem Nc (b:Bn):(bnC b).length=4:=rfl
def BC (l:List Bn):List V:=l.flatMap bnC
variable {T:Fw}
theorem JvT {w:AW}{v:V}{l:List Bn}(h:Rd T w v 4 l.length (BC l)){i:Nat}{t:Bn}(hi:l[i]? = some t):∃b o c,v = .slice b o l.length c∧T b∧b<w.next∧w.load b (o+i*4) 4=some (bnC t)∧w.load b (o+i*4) 1=some [.str t.1]∧w.load b (o+i*4+1) 3=some (tkC t.2):=by
 have hlt:i<l.length:=(List.getElem?_eq_some_iff.1 hi).1;rcases h.inv with⟨_,q2,_⟩|⟨b,o,c,rfl,hB⟩
 ·omega
 ·refine⟨b,o,c,rfl,hB.own,hB.lt,?_,?_,?_⟩
  ·rw[hB.load (i*4) 4 Fh];have h2:=Dt Nc (i:=i) (j:=0) (k:=4) hi Fh;rw[FV]at h2;exact congrArg some h2
  ·rw[hB.load (i*4) 1 Fh];have h2:=Dt Nc (i:=i) (j:=0) (k:=1) hi Fh;rw[FV]at h2;exact congrArg some h2
  ·rw[Kj,hB.load (i*4+1) 3 Fh];have h2:=Dt Nc (i:=i) (j:=1) (k:=3) hi Fh;rw[FV]at h2;exact congrArg some h2
def OG (nm:List Nat):List Bn→Option Tk
 | []=>none
 | b::r=>if eqL b.1 nm then some b.2 else OG nm r
def TF (t:Tm) (bs:List Bn):Option Tk:=if t.kind=1 then OG t.name bs else some (Lc t)
def Jss:Option Tk→V
 | some t=> .tuple [.agg (tkC t),.bool true]
 | none=> .tuple [.agg (tkC ⟨0,[],0⟩),.bool false]
variable {bs:List Bn} {aw:AW}
theorem MP (C:Codes tab){t:Tm}{bv:V}(hb:Rd T aw bv 4 bs.length (BC bs))(hn:bs.length≤1000000)(h:∀w,Frm (fun _=>False) aw w→K (Jss (TF t bs)) w):WF tab ZN [.agg (tmC t),bv] aw K:=by
 refine Ld C.XT rfl ?_;obtain⟨w1,e1,c1,r1,m1⟩:=Oe aw (tmC t);obtain⟨w2,e2,c2,r2,m2⟩:=Oe w1 [V.int .i64 0,V.str [],V.int .i64 0];have c1:=c1.frm r2 fun h=>h;have f02:=r1.tr r2;have a0:w2.load aw.next 0 1=some [.int .i64 (Fq t.kind)]:=CB.ld c1 0 1 _ rfl
 have fin:∀w,Frm (fun _=>False) w2 w→∀u:Tk,∃w3,w.store w1.next 0 (tkC u)=some w3∧w3.load w1.next 0 3=some (tkC u)∧Frm (fun _=>False) aw w3:=fun w g u =>
  ⟨_,(c2.frm g fun h=>h).setAll (vs:=tkC u) rfl rfl,(Oc (l:=tkC u) (c2.frm g fun h=>h).lt).all (n:=3) rfl,(f02.tr g).out (by have:=r1.next;omega) rfl⟩
 have hbv:=hb.lenV;have hc1:V.cells (.agg (tmC t))=tmC t:=rfl;by_cases hk:t.kind=1
 case neg =>
  have e:TF t bs=some (Lc t):=if_neg hk;rw[e]at h;have a3:w2.load aw.next 0 3=some (tkC (Lc t)):=c1.all rfl;obtain⟨w3,s3,k3,f3⟩:=fin w2 (Frm.refl _) (Lc t);refine Fz (by simp only[go_sem,K5,J7,Pv,hc1,e1,e2,a0,hk,a3,TE,s3];rfl) ?_;refine K7 ⟨_,by simp only[go_sem,K5,J7,k3];rfl,?_⟩;exact h w3 f3
 have e:TF t bs=OG t.name bs:=if_pos hk;rw[e]at h;rw[hk]at a0;refine Fz (by simp only[go_sem,K5,J7,Px,hc1,e1,e2,a0];rfl) ?_;refine LK (fun n f w=>∃i,f.get 1=some bv∧f.get 2=some (.ptr aw.next 0)∧f.get 4=some (.ptr w1.next 0)∧f.get 6=some (.int .i64 (Fq i))∧w=w2∧OG t.name bs=OG t.name (bs.drop i)∧i≤bs.length∧n=bs.length-i) (fun f w=>f.get 4=some (.ptr w1.next 0)∧w=w2∧OG t.name bs=none) ?_ ?_ bs.length ⟨0,Fb,Fb,Fb,Fb,rfl,rfl,Nat.zero_le _,rfl⟩
 ·rintro n f w ⟨i,f1,f2,f4,f6,rfl,hL,hi,rfl⟩ ih out;by_cases hlt:i<bs.length
  case neg =>
   obtain rfl:i=bs.length:=Fh;rw[List.drop_length]at hL;refine Lb 1000 (by simp only[go_sem,XS,f1,f6,hbv,hlt];rfl) ?_;exact out _ _ _ ⟨(Fg f4),rfl,hL⟩ rfl
  obtain⟨u,hu⟩:∃t,bs[i]? = some t:=⟨_,FB hlt⟩;have hd:bs.drop i=u::bs.drop (i+1):=by rw[FL hlt];rw[FB hlt]at hu;cases hu;rfl
  rw[hd]at hL;have hL:OG t.name bs=if eqL u.1 t.name then some u.2 else OG t.name (bs.drop (i+1)):=hL;obtain⟨b,o,c,rfl,_,_,_,l0,l1⟩:=JvT (hb.frm f02 fun _ _ h=>h) hu;have a1:w.load aw.next 1 1=some [.str t.name]:=CB.ld c1 1 1 _ rfl;have hwr:KZ .i64 (Fq i+1)=Fq (i+1):=Lh Fh;have heq:Oi BinOp.eql u.1 t.name=some (.bool (eqL u.1 t.name)):=rfl;cases hs:eqL u.1 t.name with
  | true =>
   rw[hs]at heq hL;have hL:OG t.name bs=some u.2:=hL;rw[hL]at h;obtain⟨w3,s3,k3,f3⟩:=fin w (Frm.refl _) u.2;refine Fz (by simp only[go_sem,K5,XS,UA,Pw,f1,f2,f4,f6,hbv,hlt,l0,l1,a1,heq,TE,s3];rfl) ?_;refine K7 ⟨_,by simp only[go_sem,K5,J7,f4,k3];rfl,?_⟩;exact h w3 f3
  | false =>
   rw[hs]at heq hL;have hL:OG t.name bs=OG t.name (bs.drop (i+1)):=hL;refine Fz (by simp only[go_sem,K5,XS,UA,f1,f2,f6,hbv,hlt,l0,a1,heq,hwr];rfl) ?_;exact ih _ _ _ Fh ⟨i+1,(Fg f1),(Fg f2),(Fg f4),Fb,rfl,hL,by omega,rfl⟩
 ·rintro f w ⟨f4,rfl,hL⟩;rw[hL]at h;obtain⟨w3,s3,k3,f3⟩:=fin w (Frm.refl _) ⟨0,[],0⟩;have s3:w.store w1.next 0 [.int .i64 0,.str [],.int .i64 0]=some w3:=s3;have k3:w3.load w1.next 0 3=some [.int .i64 0,.str [],.int .i64 0]:=k3;refine Fz (by simp only[go_sem,K5,f4,Lg,Lj,over,Lr,FC,FD,s3];rfl) ?_;refine K7 ⟨_,by simp only[go_sem,K5,J7,f4,k3];rfl,?_⟩;exact h w3 f3
def TA (k:Nat) (a b:Tk):Bool:=if k=3 then OO a b else if k=4 then !OO a b else if k=5 then Ou a b else !Ou b a
theorem Jr9 (C:Codes tab){k:Nat}{a b:Tk}(h:∀w,Frm (fun _=>False) aw w→K (.bool (TA k a b)) w):WF tab GD [.int .i64 (Fq k),.agg (tkC a),.agg (tkC b)] aw K:=by
 refine Ld C.XX rfl ?_;obtain⟨w1,e1,c1,r1,m1⟩:=Oe aw (tkC a);obtain⟨w2,e2,c2,r2,m2⟩:=Oe w1 (tkC b);have c1:=c1.frm r2 fun h=>h;have f02:=r1.tr r2;have a3:w2.load aw.next 0 3=some (tkC a):=c1.all rfl;have b3:w2.load w1.next 0 3=some (tkC b):=c2.all rfl;have hc1:V.cells (.agg (tkC a))=tkC a:=rfl;have hc2:V.cells (.agg (tkC b))=tkC b:=rfl;by_cases h3:k=3
 ·subst h3;have e:TA 3 a b=OO a b:=rfl;rw[e]at h;have hk3:(Fq 3==(3:Int))=true:=rfl;refine Fz (by simp only[go_sem,K5,Jw,PC,hc1,hc2,e1,e2,a3,b3,hk3];rfl) ?_;refine K9 Ff Fe ?_;refine Nn C fun w3 g3=>?_;refine K6 1000 Fe ?_;refine K7 ⟨_,by simp only[go_sem,K5,Jw];rfl,?_⟩;exact h w3 (f02.tr g3)
 by_cases h4:k=4
 ·subst h4;have e:TA 4 a b = !OO a b:=rfl;rw[e]at h;refine Fz (by simp only[go_sem,K5,Jw,XW,PB,hc1,hc2,e1,e2,a3,b3];rfl) ?_;refine K9 Ff Fe ?_;refine Nn C fun w3 g3=>?_;have h:=h w3 (f02.tr g3);refine K6 1000 Fe ?_;refine K7 ⟨_,by simp only[go_sem,K5,Jw];rfl,?_⟩;exact h
 by_cases h5:k=5
 ·subst h5;have e:TA 5 a b=Ou a b:=rfl;rw[e]at h;refine Fz (by simp only[go_sem,K5,Jw,XW,UC,PA,hc1,hc2,e1,e2,a3,b3];rfl) ?_;refine K9 Ff Fe ?_;refine Q4 C fun w3 g3=>?_;refine K6 1000 Fe ?_;refine K7 ⟨_,by simp only[go_sem,K5,Jw];rfl,?_⟩;exact h w3 (f02.tr g3)
 have e:TA k a b = !Ou b a:=by unfold TA;rw[if_neg h3,if_neg h4,if_neg h5]
 rw[e]at h;refine Fz (by simp only[go_sem,K5,Jw,XW,UC,PD,hc1,hc2,e1,e2,a3,b3,h3,h4,h5];rfl) ?_;refine K9 Ff Fe ?_;refine Q4 C fun w3 g3=>?_;have h:=h w3 (f02.tr g3);refine K6 1000 Fe ?_;refine K7 ⟨_,by simp only[go_sem,K5,Jw];rfl,?_⟩;exact h
theorem Jrd {S:Fw}{w:AW}{v:V}{esz n:Nat}{cs:List V}(h:Buf S w v esz n cs):V.one v=true∧v.cells=[v]:=by
 rcases h.rd.inv with⟨rfl,_⟩|⟨_,_,_,rfl,_⟩<;>exact⟨rfl,rfl⟩
def OD (t:Tm) (bs:List Bn):Tk:=(TF t bs).getD ⟨0,[],0⟩
def Tv (l:Lt) (bs:List Bn):Fc:=(l.name,l.args.map fun t=>OD t bs)
def Az (t:Tm) (bs:List Bn):Bool:=(TF t bs).isSome
theorem MS (t:Tm)(bs:List Bn):Jss (TF t bs) = .tuple [.agg (tkC (OD t bs)),.bool (Az t bs)]:=by
 unfold OD Az;cases TF t bs<;>rfl
theorem Q9 (l:List Tk)(t:Tk):O0 (l++[t])=O0 l++tkC t:=by simp[O0]
theorem Jk8 (C:Codes tab){T':Fw}{l:Lt}{xs:List V}{bv:V}(hx:LtC T aw l xs)(hb:Rd T' aw bv 4 bs.length (BC bs))(hn:bs.length≤1000000)(ha:l.args.length≤1000)(h:∀w ys S,FcC S w (Tv l bs) ys→Frm (fun _=>False) aw w→(∀x,S x→aw.next≤x∧x<w.next)→K (.agg ys) w):WF tab VO [.agg xs,bv] aw K:=by
 refine Ld C.Xz rfl ?_;obtain⟨xv,rfl,hx⟩:=hx;obtain⟨w1,e1,c1,r1,m1⟩:=Oe aw [.int .i64 (Fq l.kind),.str l.name,xv];obtain⟨w2,e2,c2,r2,m2⟩:=Oe w1 [V.str [],V.nilslice];obtain⟨w3,s3,c3,r3,m3⟩:=Oj w2 (zs:=[V.str [],V.nilslice]) (vs:=[V.str l.name,V.nilslice]) rfl rfl;have f02:=r1.tr r2;have f03:=f02.tr r3;have c1:=c1.frm (r2.tr r3) fun h=>h;have c2:=c2.frm r3 fun h=>h;have a1:(w1.fresh [V.str [],V.nilslice]).load aw.next 1 1=some [.str l.name]:=by rw[e2];exact CB.ld ((fun c=>c) (show CB w2 aw.next _ from by have:=(OQ aw [V.int .i64 (Fq l.kind),.str l.name,xv]);rw[e1]at this;exact this.frm r2 fun h=>h)) 1 1 _ rfl
 have a1:w2.load aw.next 1 1=some [.str l.name]:=by rw[←e2];exact a1
 have hxv:=hx.lenV;have hov1:over [V.str [],V.nilslice] 0 [V.str l.name]=some [V.str l.name,V.nilslice]:=rfl;refine Fz (by simp only[go_sem,K5,Xy,Pd,e1,e2,a1,Lg,Lj,hov1,FC,FD,s3];rfl) ?_
 refine LK (fun n f w=>∃i v S,f.get 1=some bv∧f.get 2=some (.ptr aw.next 0)∧f.get 4=some (.ptr w1.next 0)∧f.get 5=some (.ptr w2.next 0)∧f.get 6=some (.int .i64 (Fq i))∧Frm (fun b=>b=w2.next) w3 w∧CB w w2.next [V.str l.name,v]∧Buf S w v 3 i (O0 ((l.args.take i).map fun t=>OD t bs))∧(∀x,S x→w3.next≤x∧x<w.next)∧i≤l.args.length∧n=l.args.length-i)
  (fun f w=>∃v S,f.get 4=some (.ptr w1.next 0)∧f.get 5=some (.ptr w2.next 0)∧Frm (fun b=>b=w2.next) w3 w∧CB w w2.next [V.str l.name,v]∧Buf S w v 3 l.args.length (O0 (l.args.map fun t=>OD t bs))∧(∀x,S x→w3.next≤x∧x<w.next)) ?_ ?_ l.args.length
  ⟨0,.nilslice,fun _=>False,Fb,Fb,Fb,Fb,Fb,Frm.refl _,c3,.nil,fun _ h=>h.elim,Nat.zero_le _,rfl⟩
 ·rintro n f w ⟨i,v,S,f1,f2,f4,f5,f6,g,hc,hB,hS,hi,rfl⟩ ih out;have n12:=r1.next;have n23:=r2.next;have g0:=g.next;have c1w:=c1.frm g Fh;have a2:w.load aw.next 2 1=some [xv]:=CB.ld c1w 2 1 _ rfl;by_cases hlt:i<l.args.length
  case neg =>
   obtain rfl:i=l.args.length:=Fh;rw[List.take_length]at hB;refine Lb 1000 (by simp only[go_sem,Uq,f2,f6,a2,hxv,hlt];rfl) ?_;exact out _ _ _ ⟨v,S,(Fg f4),(Fg f5),g,hc,hB,hS⟩ rfl
  obtain⟨t,ht⟩:∃t,l.args[i]? = some t:=⟨_,FB hlt⟩;have htk:l.args.take (i+1)=l.args.take i++[t]:=by rw[List.take_add_one,ht];rfl
  have hT0:∀x,(T x∧x<aw.next)→¬x=w2.next:=fun x hx=>by omega
  have f0w:Frm (fun _=>False) aw w:=f03.trans g (fun _ _ h=>h) (fun x hx he=>by omega);obtain⟨b,o,c,rfl,_,_,a3,_⟩:=Ij (hx.frm f0w fun _ _ h=>h) ht;have hwr:KZ .i64 (Fq i+1)=Fq (i+1):=Lh Fh;refine Fz (by simp only[go_sem,K5,Uq,Pc,f1,f2,f6,a2,hxv,hlt,a3];rfl) ?_;refine K9 Ff Fe ?_;refine MP C (t:=t) (hb.frm f0w fun _ _ h=>h) hn fun w4 g4=>?_;rw[MS];obtain⟨w5,s5,c5,r5,n5⟩:=Oj w4 (zs:=[V.int .i64 0,V.str [],V.int .i64 0]) (vs:=tkC (OD t bs)) rfl rfl;have g5:Frm (fun _=>False) w w5:=g4.tr r5;have hB5:=hB.frm g5 fun _ _ h=>h;have hc5:=hc.frm g5 fun h=>h;have n45:=g5.next;have b1:w5.load w2.next 1 1=some [v]:=CB.ld hc5 1 1 _ rfl;have k3:w5.load w4.next 0 3=some (tkC (OD t bs)):=c5.all rfl;have hcc:V.cells (.agg (tkC (OD t bs)))=tkC (OD t bs):=rfl;obtain⟨v',w6,S6,u1,u2,u3,u4⟩:=hB5.push (news:=tkC (OD t bs)) (bytes:=32) (fun b hb=>by have:=(hS b hb).2;omega) Fh rfl rfl Fh Fh;have hov:over [V.int .i64 0,V.str [],V.int .i64 0] 0 (tkC (OD t bs))=some (tkC (OD t bs)):=rfl;have hel:(w5.fresh (tkC (OD t bs))).elems 3 (.slice w5.next 0 1 (.known 1))=some (1,tkC (OD t bs)):=Tj Fh rfl;have hc6:=hc5.frm u3 fun h=>by have:=(hS _ h).1;have:=g.next;have:w3.next=w2.next+1:=m3;omega
  have hne:∀x,S6 x→x≠w2.next:=fun x hx=>by
   rcases (u4 x hx).2 with h|h
   ·have:=(hS x h).1;have:w3.next=w2.next+1:=m3;omega
   ·have:w3.next=w2.next+1:=m3;have:=g.next;omega
  obtain⟨hvone,hvc⟩:=Jrd u2;have st7:=hc6.set (i:=1) (v:=v') Fj hvone;have fst:Frm (fun b=>b=w2.next) w6 (w6.put w2.next ([V.str l.name,v].set 1 v')):=LW;refine Fz (by simp only[go_sem,K5,Pb,TE,s5,f5,b1,k3,hcc,Lg,Lj,hov,hel,u1,hvc,st7,f6,hwr,FC,FD];rfl) ?_;refine ih _ _ _ Fh ⟨i+1,v',S6,(Fg f1),(Fg f2),(Fg f4),(Fg f5),Fb,?_,Oc (FK (by have:w3.next=w2.next+1:=m3;have:=g.next;omega) u3.next),?_,?_,by omega,rfl⟩
  ·exact ((g.trans g5 (fun _ _ h=>h) (fun _ _ h=>h.elim)).trans u3 (fun _ _ h=>h) (fun x hx h=>by have:=(hS x h).1;omega)).trans fst (fun _ _ h=>h) (fun _ _ h=>h)
  ·rw[htk,List.map_append,Kv,Kw,Q9];exact u2.frm fst fun x hx h=>hne x hx h
  ·intro x hx;refine⟨?_,(u4 x hx).1⟩;rcases (u4 x hx).2 with h|h
   ·exact (hS x h).1
   ·have:=g.next;omega
 ·rintro f w ⟨v,S,f4,f5,g,hc,hB,hS⟩;have n12:=r1.next;have n23:=r2.next;have g0:=g.next;have hc2:=c2.frm g (by have:w2.next=w1.next+1:=m2;omega);have b2:w.load w2.next 0 2=some [V.str l.name,v]:=hc.all rfl;obtain⟨hvone,hvc⟩:=Jrd hB;have hst:=hc2.setAll (vs:=[V.str l.name,v]) rfl (by simp only[Lv,hvone];rfl);have hrl:=(Oc (l:=[V.str l.name,v]) hc2.lt).all (n:=2) rfl;have pf:Frm (fun b=>b=w1.next) w (w.put w1.next [V.str l.name,v]):=LW;refine Fz (by simp only[go_sem,K5,f4,f5,b2,hst,FC,FD];rfl) ?_;refine K7 ⟨_,by simp only[go_sem,K5,Xy,f4,hrl];rfl,?_⟩;refine h _ _ S ⟨v,rfl,?_⟩ ?_ fun x hx=>?_
  ·have:=(hB.frm pf fun x hx h=>by have:=(hS x hx).1;have:w3.next=w2.next+1:=m3;omega).rd;have e:(Tv l bs).2.length=l.args.length:=F9 ..;rw[e];exact this
  ·exact (f03.trans g (fun _ _ h=>h) (fun x hx he=>by omega)).out Fh rfl
  ·have:=hS x hx;have:w3.next=w2.next+1:=m3;show _∧x<w.next;omega
end
section
open Go.AE Delphi Val
variable {tab:Tab}
def Bi:List Tm→List Tk→List Bn→Option (List Bn)
 | t::ts,c::cs,bs=>match TF t bs with
  | none=>Bi ts cs (bs++[(t.name,c)])
  | some u=>if OO u c then Bi ts cs bs else none
 | _,_,bs=>some bs
def IJ (l:Lt) (f:Fc) (bs:List Bn):Option (List Bn):=if eqL l.name f.1=true∧l.args.length=f.2.length then Bi l.args f.2 bs else none
theorem JsO (l:List Bn)(t:Bn):BC (l++[t])=BC l++bnC t:=by simp[BC]
theorem Jo2:∀l:List Bn,Lv (BC l)=true
 | []=>rfl
 | b::l=>by
  show Lv (bnC b++BC l)=true;have:=Jo2 l;simp only[bnC,tkC,List.cons_append,List.nil_append,Lv,V.one];exact this
theorem JuE (l:List Bn):(BC l).length=l.length*4:=by
 induction l with
 | nil=>rfl
 | cons b l ih =>
  show (bnC b++BC l).length=_;rw[FE,ih,Nc,FC];omega
theorem Jvm (C:Codes tab){T T' T'':Fw}{l:Lt}{fc:Fc}{bs:List Bn}{xs ys:List V}{bv:V}{aw:AW}(hx:LtC T aw l xs)(hy:FcC T' aw fc ys)(hb:Rd T'' aw bv 4 bs.length (BC bs))(hn:bs.length≤1000)(ha:l.args.length≤1000)(h1:IJ l fc bs=none→∀v w,Frm (fun _=>False) aw w→K (.tuple [v,.bool false]) w)(h2:∀o,IJ l fc bs=some o→∀v w S,Bt S w v 4 o.length (BC o)→Frm (fun _=>False) aw w→(∀x,S x→aw.next≤x∧x<w.next)→K (.tuple [v,.bool true]) w):WF tab Gv [.agg xs,.agg ys,bv] aw K:=by
 refine Ld C.Xs rfl ?_;obtain⟨xv,rfl,hx⟩:=hx;obtain⟨yv,rfl,hy⟩:=hy;obtain⟨nm,cs⟩:=fc;simp only at hy;obtain⟨w1,e1,c1,r1,m1⟩:=Oe aw [.int .i64 (Fq l.kind),.str l.name,xv];obtain⟨w2,e2,c2,r2,m2⟩:=Oe w1 [.str nm,yv];have c1:=c1.frm r2 fun h=>h;have f02:=r1.tr r2;have a1:w2.load aw.next 1 1=some [.str l.name]:=CB.ld c1 1 1 _ rfl;have a2:w2.load aw.next 2 1=some [xv]:=CB.ld c1 2 1 _ rfl;have b0:w2.load w1.next 0 1=some [.str nm]:=CB.ld c2 0 1 _ rfl;have b1:w2.load w1.next 1 1=some [yv]:=CB.ld c2 1 1 _ rfl;have hxv:=hx.lenV;have hyv:=hy.lenV;have hneq:Oi BinOp.neq l.name nm=some (.bool (!eqL l.name nm)):=rfl;by_cases hnm:eqL l.name nm=true
 case neg =>
  have hf:eqL l.name nm=false:=by simpa using hnm
  rw[hf]at hneq;have hneq:Oi BinOp.neq l.name nm=some (.bool true):=hneq;have h1:=h1 (if_neg fun h=>hnm h.1);refine Fz (by simp only[go_sem,K5,JC,Xr,Ul,e1,e2,a1,b0,hneq];rfl) ?_;refine K7 ⟨_,by simp only[go_sem,K5,JC];rfl,?_⟩;exact h1 bv w2 f02
 rw[hnm]at hneq;have hneq:Oi BinOp.neq l.name nm=some (.bool false):=hneq;by_cases hlen:l.args.length=cs.length
 case neg =>
  have h1:=h1 (if_neg fun h=>hlen h.2);refine Fz (by simp only[go_sem,K5,JC,Xr,Ul,e1,e2,a1,a2,b0,b1,hneq,hxv,hyv,hlen];rfl) ?_;refine K7 ⟨_,by simp only[go_sem,K5,JC];rfl,?_⟩;exact h1 bv w2 f02
 have hfit:IJ l (nm,cs) bs=Bi l.args cs bs:=if_pos ⟨hnm,hlen⟩;rw[hfit]at h1 h2;have hyv:lenV yv=some l.args.length:=by rw[hlen];exact hyv
 obtain⟨v0,w3,S0,u1,u2,u3,u4⟩:=(Bt.nil (S:=fun _=>False) (w:=w2) (esz:=4)).addN (news:=BC bs) (k:=bs.length) (bytes:=48) Fh (JuE bs) (Jo2 bs) Fh Fh;have hel:w2.elems 4 bv=some (bs.length,BC bs):=(hb.frm f02 fun _ _ h=>h).elems;rw[FV,List.nil_append]at u2;refine Fz (by simp only[go_sem,K5,JC,Xr,H3,e1,e2,a1,a2,b0,b1,hneq,hxv,hyv,hel,u1];rfl) ?_
 refine LK (fun n f w=>∃i v S o,f.get 2=some bv∧f.get 3=some (.ptr aw.next 0)∧f.get 4=some (.ptr w1.next 0)∧f.get 8=some v∧f.get 9=some (.int .i64 (Fq i))∧Frm (fun _=>False) w2 w∧Bt S w v 4 o.length (BC o)∧(∀x,S x→w2.next≤x∧x<w.next)∧Bi l.args cs bs=Bi (l.args.drop i) (cs.drop i) o∧o.length≤1000+i∧i≤l.args.length∧n=l.args.length-i)
  (fun f w=>∃v S o,f.get 8=some v∧Frm (fun _=>False) w2 w∧Bt S w v 4 o.length (BC o)∧(∀x,S x→w2.next≤x∧x<w.next)∧Bi l.args cs bs=some o) ?_ ?_ l.args.length
  ⟨0,v0,S0,bs,Fb,Fb,Fb,Fb,Fb,u3,u2,fun x hx=>⟨((u4 x hx).2.resolve_left fun h=>h),(u4 x hx).1⟩,rfl,by omega,Nat.zero_le _,rfl⟩
 ·rintro n f w ⟨i,v,S,o,f2,f3,f4,f8,f9,g,hB,hS,hL,ho,hi,rfl⟩ ih out;have c1w:=c1.frm g fun h=>h;have c2w:=c2.frm g fun h=>h;have a1:w.load aw.next 1 1=some [.str l.name]:=CB.ld c1w 1 1 _ rfl;have a2:w.load aw.next 2 1=some [xv]:=CB.ld c1w 2 1 _ rfl;have b1:w.load w1.next 1 1=some [yv]:=CB.ld c2w 1 1 _ rfl;by_cases hlt:i<l.args.length
  case neg =>
   obtain rfl:i=l.args.length:=Fh;rw[List.drop_length]at hL;have hL:Bi l.args cs bs=some o:=by rw[hL];rfl
   refine Lb 1000 (by simp only[go_sem,Um,f3,f9,a2,hxv,hlt];rfl) ?_;exact out _ _ _ ⟨v,S,o,(Fg f8),g,hB,hS,hL⟩ rfl
  have hlt2:i<cs.length:=Fh;obtain⟨t,ht⟩:∃t,l.args[i]? = some t:=⟨_,FB hlt⟩;obtain⟨u,hu⟩:∃t,cs[i]? = some t:=⟨_,FB hlt2⟩;have hda:l.args.drop i=t::l.args.drop (i+1):=by rw[FL hlt];rw[FB hlt]at ht;cases ht;rfl
  have hdb:cs.drop i=u::cs.drop (i+1):=by rw[FL hlt2];rw[FB hlt2]at hu;cases hu;rfl
  rw[hda,hdb]at hL;have f0w:=f02.tr g;have hxw:=hx.frm f0w fun _ _ h=>h;have hyw:=hy.frm f0w fun _ _ h=>h;obtain⟨b,o',c,rfl,_,_,a3,_,an⟩:=Ij hxw ht;obtain⟨b',o'',c',rfl,_,_,b3⟩:=Di hyw hu;have hwr:KZ .i64 (Fq i+1)=Fq (i+1):=Lh Fh;refine Fz (by simp only[go_sem,K5,Um,H2,f3,f8,f9,a2,hxv,hlt,a3];rfl) ?_;refine K9 Ff Fe ?_;refine MP C (t:=t) hB.rd Fh fun w4 g4=>?_;rw[MS];obtain⟨w5,s5,c5,r5,n5⟩:=Oj w4 (zs:=[V.int .i64 0,V.str [],V.int .i64 0]) (vs:=tkC (OD t o)) rfl rfl;have g5:Frm (fun _=>False) w w5:=g4.tr r5;have hlt2':i<l.args.length:=hlt;have a2':w5.load aw.next 2 1=some [.slice b o' l.args.length c]:=CB.ld (c1w.frm g5 fun h=>h) 2 1 _ rfl;have b1':w5.load w1.next 1 1=some [.slice b' o'' cs.length c']:=CB.ld (c2w.frm g5 fun h=>h) 1 1 _ rfl;obtain⟨_,_,_,he,_,_,_,_,an'⟩:=Ij (hxw.frm g5 fun _ _ h=>h) ht;cases he;obtain⟨_,_,_,he,_,_,b3'⟩:=Di (hyw.frm g5 fun _ _ h=>h) hu;cases he;have k3:w5.load w4.next 0 3=some (tkC (OD t o)):=c5.all rfl;have n45:=g5.next;cases hw:TF t o with
  | none =>
   have hwb:Az t o=false:=by unfold Az;rw[hw];rfl
   have hL:Bi l.args cs bs=Bi (l.args.drop (i+1)) (cs.drop (i+1)) (o++[(t.name,u)]):=by
    rw[hL];simp only[Bi,hw]
   have hB5:=hB.frm g5 fun _ _ h=>h;obtain⟨v',w6,S6,u1,u2,u3,u4⟩:=hB5.push (news:=bnC (t.name,u)) (bytes:=48) (fun b hb=>by have:=(hS b hb).2;omega) Fh rfl rfl Fh Fh;have u1:(w5.fresh (V.str t.name::tkC u)).appendV 4 48 v 1 (V.str t.name::tkC u)=some (v',w6):=u1;have hov1:over [V.str [],V.int .i64 0,V.str [],V.int .i64 0] 0 [V.str t.name]=some [V.str t.name,V.int .i64 0,V.str [],V.int .i64 0]:=rfl;have hov2:over [V.str t.name,V.int .i64 0,V.str [],V.int .i64 0] 1 (tkC u)=some (V.str t.name::tkC u):=rfl;have hov3:over [V.str [],V.int .i64 0,V.str [],V.int .i64 0] 0 (V.str t.name::tkC u)=some (V.str t.name::tkC u):=rfl;have hel:(w5.fresh (V.str t.name::tkC u)).elems 4 (.slice w5.next 0 1 (.known 1))=some (1,V.str t.name::tkC u):=Tj Fh rfl;have hcc:V.cells (.agg (tkC u))=tkC u:=rfl;have hcl:(V.str t.name::tkC u).length=4:=rfl;have hcc4:V.cells (.agg (V.str t.name::tkC u))=V.str t.name::tkC u:=rfl;refine Fz (by simp only[go_sem,K5,HZ,TE,s5,hwb,f3,f4,f8,f9,a2',b1',hlt,hlt2,an',b3',Lg,Lj,hcc,hcc4,hov1,hov2,hov3,hel,u1,FC,FD,hwr];rfl) ?_;refine ih _ _ _ Fh ⟨i+1,v',S6,o++[(t.name,u)],(Fg f2),(Fg f3),(Fg f4),Fb,Fb,(g.tr g5).trans u3 (fun _ _ h=>h) (fun x hx h=>by have:=(hS x h).1;omega),?_,fun x hx=>?_,hL,by rw[FE];simp;omega,by omega,rfl⟩
   ·rw[JsO,FE];exact u2
   ·refine⟨?_,(u4 x hx).1⟩;rcases (u4 x hx).2 with h|h
    ·exact (hS x h).1
    ·have:=g.next;omega
  | some q =>
   have hwb:Az t o=true:=by unfold Az;rw[hw];rfl
   have hwd:OD t o=q:=by unfold OD;rw[hw];rfl
   rw[hwd]at s5 k3;rw[hwd]
   have hL:Bi l.args cs bs=if OO q u then Bi (l.args.drop (i+1)) (cs.drop (i+1)) o else none:=by
    rw[hL];simp only[Bi,hw]
   refine Fz (by simp only[go_sem,K5,H1,TE,s5,hwb,f4,f9,b1',hlt2,b3',k3];rfl) ?_;refine K9 Ff Fe ?_;refine Nn C fun w6 g6=>?_;have g6:=g5.tr g6;cases hs:OO q u with
   | false =>
    rw[hs]at hL;have h1:=h1 hL;refine Fz (by simp only[go_sem,K5,H0,f2];rfl) ?_;refine K7 ⟨_,by simp only[go_sem,K5,JC];rfl,?_⟩;exact h1 bv w6 (f0w.tr g6)
   | true =>
    rw[hs]at hL;have hL:Bi l.args cs bs=Bi (l.args.drop (i+1)) (cs.drop (i+1)) o:=hL;refine Fz (by simp only[go_sem,K5,f9,hwr];rfl) ?_;exact ih _ _ _ Fh ⟨i+1,v,S,o,(Fg f2),(Fg f3),(Fg f4),(Fg f8),Fb,g.tr g6,hB.frm g6 fun _ _ h=>h,fun x hx=>⟨(hS x hx).1,by have:=(hS x hx).2;have:=g6.next;omega⟩,hL,by omega,by omega,rfl⟩
 ·rintro f w ⟨v,S,o,f8,g,hB,hS,hL⟩;refine Fz (by simp only[go_sem,K5,f8];rfl) ?_;refine K7 ⟨_,by simp only[go_sem,K5,JC];rfl,?_⟩;exact h2 o hL v w S hB (f02.tr g) fun x hx=>⟨by have:=(hS x hx).1;have:=r1.next;have:=r2.next;omega,(hS x hx).2⟩
end
end Go.Proofs.YtegdcbdicpfbpaaGreatDoor
