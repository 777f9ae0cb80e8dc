/- A part of the proof. -/
import Derived.Test.YtegdcbdicpfbpaaDoorJxJ
import Derived.Test.YtegdcbdicpfbpaaDoorJxI
open Int renaming ofNat → Fq
open Go.IntKind renaming wrap → KX
set_option linter.unusedVariables false
set_option maxRecDepth 10000
set_option linter.unusedSimpArgs false
namespace Go.Proofs.YtegdcbdicpfbpaaDoor
open Go.AE Delphi
variable {tab:Tab}
def tmC (t:Tm):List V:=[.int .i64 (Fq t.kind),.str t.name,.int .i64 t.num]
def WOk (w:Wd):Prop:=w.text≠[]∧(w.kind≠4→w.text.length≤16)∧1≤w.kind∧w.kind≤4∧∀c∈w.text,c<256
variable {w:AW} {l vs:List V}
theorem TI {b:Nat}(hx:w.heap.get b=some (.cells l .own))(hl:l.length=vs.length)(h1:HB vs=true):w.store b 0 vs=some (w.turn b (.cells vs .own)):=by
 have:over l 0 vs=some vs:=by
  have:=TA [] l [] vs hl.symm;simpa using this
 exact Iq hx (.inl rfl:Shr (fun _=>True) w b .own) h1 this
theorem SA {b:Nat}{n:Nat}(h:vs.length=n):(w.turn b (.cells vs .own)).load b 0 n=some vs:=by
 have:(w.turn b (.cells vs .own)).heap.get b=some (.cells vs .own):=AE.T.get_put_same;simp only[AW.load,this,AW.alive,FY];exact Ir _ _ h
variable {aw:AW}
theorem EO {bp:Nat}{zs:List V}(h:Frm (fun b=>b=bp) (aw.fresh zs) w):Frm (fun b=>b=bp) aw (w.turn aw.next (.cells vs .own)):=by
 refine ((Frm.new (S:=fun _=>False) aw (.cells zs .own)).trans h (fun _ _ h=>h.elim) (fun _ _ h=>h)).trans (T:=fun b=>b=aw.next) (OI rfl (.inl rfl)) (fun _ _ h=>h) ?_;rintro x hx rfl;omega
theorem Ak:(aw.fresh l).heap.get aw.next=some (.cells l .own):=AE.T.get_put_same
theorem Jro {c:Nat}(h:c<256):KX .u8 (Fq c-48)=Fq ((c+208) % 256):=by
 have e:Fq ((c+208) % 256)=(((c:Int)+208) % 256):=Fj;rw[e];show KX .u8 ((c:Int)-48)=_;unfold KX;simp only[IntKind.signed,IntKind.bits,Bool.false_and,FM,if_false];omega
theorem RO {n:Nat}(h:n≤9223372036854775807):KX .i64 (Fq n)=Fq n:=Oq (by show (-9223372036854775808:Int)≤(n:Int);omega) (by show (n:Int)≤9223372036854775807;omega)
def Jry (n0 n1 bp:Nat) (s:List Nat) (aw:AW) (q:Nat) (f:Fr) (w:AW):Prop :=
 ∃i m,f.get 0=some (.ptr bp 0)∧f.get 2=some (.ptr n0 0)∧f.get 3=some (.ptr n1 0)∧f.get 4=some (.int .i64 (Fq m))∧f.get 5=some (.int .i64 (Fq i))∧w=aw∧i≤s.length∧O8 s=(s.drop i).foldl Bo m∧m+29≤29*10 ^ i∧q=s.length-i
theorem Ew (C:Codes tab){Tw:Fw}{bp k e:Nat}{wv:V}{ws:List Wd}{K:V→AW→Prop}(hp:PSt aw bp wv k e)(hw:Wds Tw aw bp wv ws)(hok:∀x∈ws,WOk x)(hT:∀x,Tw x→x<aw.next)(h:∀w,PSt w bp wv (HG ws k e).2.1 (HG ws k e).2.2→Frm (fun b=>b=bp) aw w→K (.agg (tmC (HG ws k e).1)) w):WF tab Zp [.ptr bp 0] aw K:=by
 refine Hy C.Y6 rfl ?_;have hlt:=hp.lt;have hne:¬bp=aw.next:=Fh;obtain⟨zs,hzs⟩:∃zs,zs=[V.int .i64 0,V.str [],V.int .i64 0]:=⟨_,rfl⟩;have hp1:=hp.frm (HJ (S:=fun _=>False) aw zs) fun h=>h;have hw1:=hw.frm (HJ (S:=fun _=>False) aw zs) fun _ _ h=>h;have hg:=hp1.get;have l0:(aw.fresh zs).load bp 0 1=some [wv]:=by simp only[AW.load,hg];rfl
 have l1:(aw.fresh zs).load bp 1 1=some [.int .i64 (Fq k)]:=by simp only[AW.load,hg];rfl
 have l2:(aw.fresh zs).load bp 2 1=some [.int .i64 (Fq e)]:=by simp only[AW.load,hg];rfl
 have hzl:zs.length=3:=by rw[hzs];rfl
 have hov:∀v:V,over zs 0 [v]=some [v,V.str [],V.int .i64 0]:=fun v=>by rw[hzs];rfl
 have fin:∀(w w':AW) (k':Nat),PSt w bp wv k' 4→Frm (fun b=>b=bp) (aw.fresh zs) w→(HG ws k e)=(Tm.zero,k',4)→w'=w.turn aw.next (.cells zs .own)→K (.agg zs) w':=by
  intro w w' k' h1 h2 h3 h4;subst h4;rw[h3]at h;have:=h (w.turn aw.next (.cells zs .own)) (h1.frm (S:=fun b=>b=aw.next) (OI rfl (.inl rfl)) (fun h=>hne h)) (EO h2);rw[hzs]at this ⊢;exact this
 have no:∀{s:List SI} {fr:Fr},HG ws k e=(Tm.zero,k,KZ e 4)→fr.get 0=some (.ptr bp 0)→fr.get 2=some (.ptr aw.next 0)→WS tab (.code W9::s) fr (aw.fresh zs) (fun fr' aw'=>∃vs,PQ fr' aw' Jd.results=some vs∧K (H7 vs) aw'):=by
  intro s fr hr f0 f2;refine Ho 1000 (by simp only[go_sem,Hn,W9,f0,f2];rfl) ?_;refine Hq (by simp only[go_sem,Hn]) (by simp only[go_sem,Hn];rfl) ?_;refine Bz C (x:=4) hp1 fun w q1 q2 q3=>?_;have hst:=TI (vs:=[V.int .i64 0,V.str [],V.int .i64 0]) ((q2.heap aw.next (FV _) (fun h=>hne h.symm)).trans Ak) hzl rfl;have hrl:=SA (w:=w) (b:=aw.next) (vs:=[V.int .i64 0,V.str [],V.int .i64 0]) (n:=3) rfl;refine Ho 1000 (by simp only[go_sem,Hn,f0,f2,Hw,HF,V.cells,hst,FC,FD];rfl) ?_;refine Hp ⟨_,by simp only[go_sem,Hn,Jd,f2,hrl];rfl,?_⟩;rw[hr]at h;have:=h (w.turn aw.next (.cells zs .own)) (q1.frm (S:=fun b=>b=aw.next) (OI rfl (.inl rfl)) (fun h=>hne h)) (EO q2);rw[hzs]at this;exact this
 by_cases he:e=0
 case neg =>
  have hr:HG ws k e=(Tm.zero,k,KZ e 4):=by simp[HG,Lx,he]
  refine Hs 1000 (by simp only[go_sem,Hn,Jd,←hzs,l2,he];rfl) ?_;exact no hr (by simp only[go_sem,Hn]<;>rfl) (by simp only[go_sem,Hn]<;>rfl)
 subst he;by_cases hk:ws.length≤k
 ·have hr:HG ws k 0=(Tm.zero,k,KZ 0 4):=by
   have:Lx ws k 0=none:=by unfold Lx;rw[if_pos rfl,List.getElem?_eq_none hk]
   simp only[HG,this]
  rcases hw1.at with⟨rfl,rfl⟩|⟨b,o,c,rfl,hneb,hltb,hat⟩
  ·have e1:0≤k:=Fh;refine Hs 1000 (by simp only[go_sem,Hn,Jd,←hzs,l0,l1,l2,e1];rfl) ?_;exact no hr (by simp only[go_sem,Hn]<;>rfl) (by simp only[go_sem,Hn]<;>rfl)
  ·refine Hs 1000 (by simp only[go_sem,Hn,Jd,←hzs,l0,l1,l2,hk];rfl) ?_;exact no hr (by simp only[go_sem,Hn]<;>rfl) (by simp only[go_sem,Hn]<;>rfl)
 have hkl:k<ws.length:=Fh;obtain⟨x,hx⟩:∃x,ws[k]? = some x:=⟨_,FB hkl⟩;have hnx:Lx ws k 0=some x:=by unfold Lx;rw[if_pos rfl,hx]
 obtain⟨x1,x2,x3,x4,x5⟩:=hok x (FI hx);rcases hw1.at with⟨rfl,rfl⟩|⟨b,o,c,rfl,hneb,hltb,hat⟩
 ·simp at hkl
 obtain⟨a1,a2,a3⟩:=hat k x hx;by_cases h4:x.kind=4
 ·have hr:HG ws k 0=(Tm.zero,k,KZ 0 4):=by
   simp only[HG,hnx];rw[if_pos h4];rfl
  refine Hs 1000 (by simp only[go_sem,Hn,Jd,←hzs,l0,l1,l2,hk,hkl,a1,h4];rfl) ?_;exact no hr (by simp only[go_sem,Hn]<;>rfl) (by simp only[go_sem,Hn]<;>rfl)
 refine Ho 1000 (by simp only[go_sem,Hn,Jd,←hzs,l0,l1,l2,hk,hkl,a1,h4];rfl) ?_;refine Pg ?_;have hbn:¬b=(aw.fresh zs).next:=Fh
 have lift:∀{b' o' n' l'},b'<(aw.fresh zs).next→(aw.fresh zs).load b' o' n'=some l'→((aw.fresh zs).fresh zs).load b' o' n'=some l':=by
  intro b' o' n' l' hb hl;have:((aw.fresh zs).fresh zs).heap.get b'=(aw.fresh zs).heap.get b':=AE.T.get_put_ne Fh;simp only[AW.load]at hl ⊢;rw[this];exact hl
 have m0:=lift hp1.lt l0;have m1:=lift hp1.lt l1;have m3:=lift hltb a3;have hst:=TI (w:=(aw.fresh zs).fresh zs) (vs:=P4 x) Ak hzl rfl;refine HQ 100 (by simp only[go_sem,Hn,←hzs,l0,l1,hkl,a3,NM,hst];rfl) ?_;refine Pk ⟨(show HP _ _ [(3,10),(7,10),(9,10)]from by simp only[go_sem,Hn,HP,chk,List.reverse_cons,List.reverse_nil,H9,Po,Pm,Pn,List.getElem?_nil,false_or,or_true,or_false,exists_eq',FP,Prod.mk.injEq,Bool.true_eq_false,FM,and_true,true_and,implies_true,l0,l1,m0,m1,hkl,a3,m3]),?_⟩
 have g2:Frm (fun _=>False) (aw.fresh zs) (((aw.fresh zs).fresh zs).turn (aw.fresh zs).next (.cells (P4 x) .own)):=by
  refine (HJ (S:=fun _=>False) _ zs).trans (T:=fun b=>b=(aw.fresh zs).next) (OI rfl (.inl rfl)) (fun _ _ h=>h) ?_;rintro y hy rfl;omega
 have g3:(((aw.fresh zs).fresh zs).turn (aw.fresh zs).next (.cells (P4 x) .own)).heap.get (aw.fresh zs).next=some (.cells (P4 x) .own):=AE.T.get_put_same;generalize ((aw.fresh zs).fresh zs).turn (aw.fresh zs).next (.cells (P4 x) .own)=w3 at g2 g3 ⊢;have hp3:=hp1.frm g2 fun h=>h;have hwr:KX .i64 (Fq k+1)=Fq (k+1):=Hv (by have:=hw.len;omega);have hn1:¬(aw.fresh zs).next=bp:=by have:=hp1.lt;omega
 have g4:(PSt.mk' w3 bp (.slice b o ws.length c) (k+1) 0).heap.get (aw.fresh zs).next=some (.cells (P4 x) .own):=(AE.T.get_put_ne hn1).trans g3;have hp4:=PSt.made (wv:=.slice b o ws.length c) (k:=k+1) (e:=0) hp3.lt;have g5:Frm (fun b=>b=bp) (aw.fresh zs) (PSt.mk' w3 bp (.slice b o ws.length c) (k+1) 0):=g2.trans PSt.made_frm (fun _ _ h=>h.elim) (fun _ _ h=>h);have s1:=hp3.s1 (k+1);have l31:=hp3.l1;generalize hw4:PSt.mk' w3 bp (.slice b o ws.length c) (k+1) 0=w4 at g4 hp4 g5 s1;have c0:w4.load (aw.fresh zs).next 0 1=some [.int .i64 (Fq x.kind)]:=by simp only[AW.load,g4];rfl
 have c1:w4.load (aw.fresh zs).next 1 1=some [.str x.text]:=by simp only[AW.load,g4];rfl
 have gn0:w4.heap.get aw.next=some (.cells zs .own):=(g5.heap aw.next (FV _) (fun h=>hne h.symm)).trans Ak
 have fine:∀(w:AW) (k' e':Nat) (t:Tm),PSt w bp (.slice b o ws.length c) k' e'→Frm (fun b=>b=bp) (aw.fresh zs) w→HG ws k 0=(t,k',e')→K (.agg (tmC t)) (w.turn aw.next (.cells (tmC t) .own)):=by
  intro w k' e' t h1 h2 h3;rw[h3]at h;exact h _ (h1.frm (S:=fun b=>b=aw.next) (OI rfl (.inl rfl)) (fun h=>hne h)) (EO h2)
 by_cases hk1:x.kind=1
 ·have hr:HG ws k 0=(⟨2,x.text,0⟩,k+1,0):=by
   simp only[HG,hnx];rw[if_neg h4,if_pos hk1]
  have hst:=TI (vs:=[V.int .i64 2,V.str x.text,V.int .i64 0]) gn0 hzl rfl;have hrl:=SA (w:=w4) (b:=aw.next) (vs:=[V.int .i64 2,V.str x.text,V.int .i64 0]) (n:=3) rfl;refine Ho 1000 (by simp only[go_sem,Hn,Y5,Gr,l31,hwr,s1,c0,c1,hk1,Hw,HF,over,hst,FC,FD];rfl) ?_;refine Hp ⟨_,by simp only[go_sem,Hn,Jd,hrl];rfl,?_⟩;exact fine w4 _ _ _ hp4 g5 hr
 by_cases hk2:x.kind=2
 ·have hr:HG ws k 0=(⟨1,x.text,0⟩,k+1,0):=by
   simp only[HG,hnx];rw[if_neg h4,if_neg hk1,if_pos hk2]
  have hst:=TI (vs:=[V.int .i64 1,V.str x.text,V.int .i64 0]) gn0 hzl rfl;have hrl:=SA (w:=w4) (b:=aw.next) (vs:=[V.int .i64 1,V.str x.text,V.int .i64 0]) (n:=3) rfl;refine Ho 1000 (by simp only[go_sem,Hn,Y5,Gq,l31,hwr,s1,c0,c1,hk1,hk2,Hw,HF,over,hst,FC,FD];rfl) ?_;refine Hp ⟨_,by simp only[go_sem,Hn,Jd,hrl];rfl,?_⟩;exact fine w4 _ _ _ hp4 g5 hr
 have hlen:=x2 h4;refine Ho 1000 (by simp only[go_sem,Hn,Y5,l31,hwr,s1,c0,c1,hk1,hk2,FC,FD];rfl) ?_;refine OA (Jry aw.next (aw.fresh zs).next bp x.text w4) ?_ x.text.length ⟨0,0,(by simp only[go_sem,Hn]<;>rfl),(by simp only[go_sem,Hn]<;>rfl),(by simp only[go_sem,Hn]<;>rfl),(by simp only[go_sem,Hn]<;>rfl),(by simp only[go_sem,Hn]<;>rfl),rfl,by omega,rfl,by simp,by omega⟩;rintro q f w ⟨i,m,f0,f2,f3,f4,f5,rfl,hi,hm,hb,rfl⟩ ih;by_cases hil:i<x.text.length
 ·obtain⟨ch,hch⟩:∃ch,x.text[i]? = some ch:=⟨_,FB hil⟩;have hc256:ch<256:=x5 ch (FI hch);have hwi:KX .i64 (Fq i+1)=Fq (i+1):=Hv Fh
  have hd:x.text.drop i=ch::x.text.drop (i+1):=by
   rw[FL hil];rw[FB hil]at hch;rw[FX hch]
  rw[hd,Kt]at hm
  have hpow:29*10 ^ (i+1)≤290000000000000000:=by
   have:10 ^ (i+1)≤10 ^ 16:=Nat.pow_le_pow_right Fh Fh;omega
  have hp10:10 ^ (i+1)=10 ^ i*10:=Nat.pow_succ ..;by_cases h45:ch=45
  ·rw[show Bo m ch=m from if_pos h45]at hm;refine Ho 1000 (by simp only[go_sem,Hn,Zg,Va,f0,f2,f3,f4,f5,c1,hil,hch,h45,hwi];rfl) ?_;exact ih (x.text.length-(i+1)) _ _ Fh ⟨i+1,m,(by simp only[go_sem,Hn,f0]<;>rfl),(by simp only[go_sem,Hn,f2]<;>rfl),(by simp only[go_sem,Hn,f3]<;>rfl),(by simp only[go_sem,Hn,f4]<;>rfl),(by simp only[go_sem,Hn]<;>rfl),rfl,by omega,hm,by omega,rfl⟩
  ·rw[show Bo m ch=m*10+(ch+208) % 256 from if_neg h45]at hm;have e1:=Jro hc256;have e2:KX .i64 (Fq ((ch+208) % 256))=Fq ((ch+208) % 256):=RO Fh
   have e3:KX .i64 (Fq m*10)=Fq (m*10):=by
    have:Fq m*10=Fq (m*10):=Fj;rw[this];exact RO Fh
   have e4:KX .i64 (Fq (m*10)+Fq ((ch+208) % 256))=Fq (m*10+(ch+208) % 256):=CP Fh;refine Ho 1000 (by simp only[go_sem,Hn,Zg,Va,Gs,f0,f2,f3,f4,f5,c1,hil,hch,h45,hwi,e1,e2,e3,e4];rfl) ?_;exact ih (x.text.length-(i+1)) _ _ Fh ⟨i+1,_,(by simp only[go_sem,Hn,f0]<;>rfl),(by simp only[go_sem,Hn,f2]<;>rfl),(by simp only[go_sem,Hn,f3]<;>rfl),(by simp only[go_sem,Hn]<;>rfl),(by simp only[go_sem,Hn]<;>rfl),rfl,by omega,hm,by omega,rfl⟩
 ·rw[List.drop_eq_nil_of_le (by omega:x.text.length≤i)]at hm;have hm:O8 x.text=m:=hm;by_cases hbig:2147483648<m
  ·have hr:HG ws k 0=(Tm.zero,k+1,4):=by
    simp only[HG,hnx];rw[if_neg h4,if_neg hk1,if_neg hk2,if_pos Fh]
   refine Ho 1000 (by simp only[go_sem,Hn,Zg,Gt,f0,f2,f3,f4,f5,c1,hil,hbig];rfl) ?_;refine Hq (by simp only[go_sem,Hn]) (by simp only[go_sem,Hn];rfl) ?_;refine Bz C (x:=4) hp4 fun w5 q1 q2 q3=>?_;have gn5:w5.heap.get aw.next=some (.cells zs .own):=(q2.heap aw.next (FK (FV _) g5.next) (fun h=>hne h.symm)).trans gn0;have hst:=TI (vs:=[V.int .i64 0,V.str [],V.int .i64 0]) gn5 hzl rfl;have hrl:=SA (w:=w5) (b:=aw.next) (vs:=[V.int .i64 0,V.str [],V.int .i64 0]) (n:=3) rfl;refine Ho 1000 (by simp only[go_sem,Hn,f0,f2,Hw,HF,over,hst,FC,FD];rfl) ?_;refine Hp ⟨_,by simp only[go_sem,Hn,Jd,f2,hrl];rfl,?_⟩;exact fine w5 _ _ _ q1 (g5.trans q2 (fun _ _ h=>h) (fun _ _ h=>h)) hr
  ·obtain⟨c0',t',hct⟩:∃c t,x.text=c::t:=by
    cases hh:x.text with
    | nil=>exact absurd hh x1
    | cons c t=>exact⟨c,t,rfl⟩
   have hl0:0<x.text.length:=by rw[hct];simp
   have hch0:x.text[0]? = some c0':=by rw[hct];rfl
   by_cases h45:c0'=45
   ·have hr:HG ws k 0=(⟨3,[],-(m:Int)⟩,k+1,0):=by
     simp only[HG,hnx];rw[if_neg h4,if_neg hk1,if_neg hk2,if_neg Fh,hct,hm.symm,hct];simp[h45]
    have e5:KX .i64 (0-Fq m) = -(m:Int):=by
     have:(0:Int)-Fq m = -(m:Int):=Fj;rw[this];exact Oq Fh Fh
    have hst:=TI (vs:=[V.int .i64 3,V.str [],V.int .i64 (-(m:Int))]) gn0 hzl rfl;have hrl:=SA (w:=w) (b:=aw.next) (vs:=[V.int .i64 3,V.str [],V.int .i64 (-(m:Int))]) (n:=3) rfl;refine Ho 1000 (by simp only[go_sem,Hn,Zg,f0,f2,f3,f4,f5,c1,hil,hbig,hl0,hch0,h45,e5,Hw,HF,hov,over,hst,FC,FD];rfl) ?_;refine Hp ⟨_,by simp only[go_sem,Hn,Jd,f2,hrl];rfl,?_⟩;exact fine w _ _ _ hp4 g5 hr
   ·have hr:HG ws k 0=(⟨3,[],(m:Int)⟩,k+1,0):=by
     simp only[HG,hnx];rw[if_neg h4,if_neg hk1,if_neg hk2,if_neg Fh,hct,hm.symm,hct];simp[h45]
    have hst:=TI (vs:=[V.int .i64 3,V.str [],V.int .i64 (Fq m)]) gn0 hzl rfl;have hrl:=SA (w:=w) (b:=aw.next) (vs:=[V.int .i64 3,V.str [],V.int .i64 (Fq m)]) (n:=3) rfl;refine Ho 1000 (by simp only[go_sem,Hn,Zg,f0,f2,f3,f4,f5,c1,hil,hbig,hl0,hch0,h45,Hw,HF,hov,over,hst,FC,FD];rfl) ?_;refine Hp ⟨_,by simp only[go_sem,Hn,Jd,f2,hrl];rfl,?_⟩;exact fine w _ _ _ hp4 g5 hr
section
open Go.AE Delphi
variable {tab:Tab}
theorem PSt.cb {bp k e:Nat}{wv:V}(h:PSt w bp wv k e):CB w bp [wv,.int .i64 (Fq k),.int .i64 (Fq e)]:=⟨h.lt,h.get⟩
def Pc (l:List Tm):List V:=l.flatMap tmC
theorem Jnu (l:List Tm)(t:Tm):Pc (l++[t])=Pc l++tmC t:=by simp[Pc]
structure AS (Tw:Fw) (aw w:AW) (bp:Nat) (wv:V) (txt:List Nat) (args:List Tm) (k e:Nat) (av:V) (S:Fw):Prop where
 p:PSt w bp wv k e
 frm:Frm (fun b=>b=bp) aw w
 res:CB w aw.next [.int .i64 0,.str [],.nilslice]
 lit:CB w (aw.next+1) [.int .i64 1,.str txt,av]
 buf:Buf S w av 3 args.length (Pc args)
 sep:∀x,S x→aw.next+1<x∧x<w.next
structure AF (f:Fr) (bp n0 n1:Nat):Prop where
 f0:f.get 0=some (.ptr bp 0)
 f2:f.get 2=some (.ptr n0 0)
 f3:f.get 3=some (.ptr n1 0)
def MQ (Tw:Fw) (aw:AW) (bp:Nat) (wv:V) (ws:List Wd) (txt:List Nat) (fin:List Tm×Nat×Nat) (q:Nat) (f:Fr) (w:AW):Prop :=
 ∃args k e av S,AF f bp aw.next (aw.next+1)∧AS Tw aw w bp wv txt args k e av S∧args.length≤5∧k≤ws.length∧ws.length+1≤q+k∧Li ws q args k e=fin∧(e=0→args.length≤4)
def Jqi (Tw:Fw) (aw:AW) (bp:Nat) (wv:V) (txt:List Nat) (fin:List Tm×Nat×Nat) (f:Fr) (w:AW):Prop :=
 ∃av S,AF f bp aw.next (aw.next+1)∧AS Tw aw w bp wv txt fin.1 fin.2.1 fin.2.2 av S
theorem L9 (t:Tm):(tmC t).length=3:=rfl
variable {ws:List Wd}
theorem JlS {q:Nat}{args:List Tm}{k e:Nat}(h:e≠0):Li ws q args k e=(args,k,e):=by
 cases q with
 | zero=>rfl
 | succ q=>simp only[Li,if_neg h]
theorem JnM (C:Codes tab){Tw:Fw}{bp:Nat}{wv:V}{txt:List Nat}{fin:List Tm×Nat×Nat}{q:Nat}{f:Fr}{s:List SI}{Q:Fr→AW→Prop}(hw:Wds Tw aw bp wv ws)(hok:∀x∈ws,WOk x)(hT:∀x,Tw x→x<aw.next)(hlt:bp<aw.next)(hI:MQ Tw aw bp wv ws txt fin q f w)(ih:∀n' f' w',n'<q→MQ Tw aw bp wv ws txt fin n' f' w'→WS tab (.code (.loop JQ) :: .endB 0::s) f' w' Q)(out:∀s' f' w',Jqi Tw aw bp wv txt fin f' w'→Lu 0 s'=some s→WS tab (.code (.exit 0)::s') f' w' Q):WS tab (.code JQ :: .code (.loop JQ) :: .endB 0::s) f w Q:=by
 obtain⟨args,k,e,av,S,⟨f0,f2,f3⟩,hA,hl5,hk,hq,hfin,hl4⟩:=hI;have p2:=hA.p.l2;by_cases he:e=0
 case neg =>
  rw[JlS he]at hfin;refine Hs 1000 (by simp only[go_sem,JQ,f0,f2,f3,p2,he];rfl) ?_;exact out _ _ _ ⟨av,S,⟨(by simp only[go_sem,Hn,f0]<;>rfl),(by simp only[go_sem,Hn,f2]<;>rfl),(by simp only[go_sem,Hn,f3]<;>rfl)⟩,by rw[←hfin];exact hA⟩ rfl
 subst he;have hl4:=hl4 rfl;obtain⟨q,rfl⟩:∃q',q=q'+1:=⟨q-1,by omega⟩;refine Ho 1000 (by simp only[go_sem,Hn,JQ,UX,f0,f2,f3,p2];rfl) ?_;refine Hq (by simp only[go_sem,Hn]) (by simp only[go_sem,Hn];rfl) ?_;have hww:Wds Tw w bp wv ws:=hw.frm hA.frm fun x hx he=>hw.no (he▸hx);refine Ew C hA.p hww hok (fun x hx=>FK (hT x hx) hA.frm.next) fun w1 q1 q2=>?_;simp only[Li,if_true]at hfin;have hk1:=IR (e:=0) hk;have hk1g:=CL ws k 0;generalize hrt:HG ws k 0=rt at hfin q1 hk1 hk1g;obtain⟨t,k1,e1⟩:=rt;simp only at hfin q1 hk1 hk1g;obtain⟨w2,s2,c2,r2,n2⟩:=PA w1 (zs:=[V.int .i64 0,V.str [],V.int .i64 0]) (vs:=tmC t) rfl rfl;have nx:=hA.frm.next;have nx1:=q2.next;have hn0:¬aw.next=bp:=Fh;have hn1:¬aw.next+1=bp:=Fh;have p2':=q1.frm r2 fun h=>h;have lit2:=(hA.lit.frm q2 hn1).frm r2 fun h=>h;have res2:=(hA.res.frm q2 hn0).frm r2 fun h=>h;have buf2:=(hA.buf.frm q2 fun x hx he=>by have:=(hA.sep x hx).1;omega).frm r2 fun _ _ h=>h;have l2:=p2'.l2;have la:w2.load (aw.next+1) 2 1=some [av]:=by rw[lit2.load];rfl
 have lt:w2.load w1.next 0 3=some (tmC t):=c2.all rfl;have hlv:=buf2.lenV;have f02:Frm (fun b=>b=bp) aw w2:=hA.frm.tr (q2.tr r2.no);obtain⟨e2,he2⟩:∃e2,e2=if e1=0∧args.length=4 then 8 else e1:=⟨_,rfl⟩;rw[←he2]at hfin;have hsz:S=S:=rfl
 have cont:∀w3,PSt w3 bp wv k1 e2→Frm (fun b=>b=bp) w2 w3→w3.next=w2.next→∃v' w5 S5,v'.cells=[v']∧(w3.load (aw.next+1) 2 1=some [av])∧w3.load w1.next 0 3=some (tmC t)∧(w3.fresh (tmC t)).appendV 3 32 av 1 (tmC t)=some (v',w5)∧(w3.fresh (tmC t)).elems 3 (.slice w3.next 0 1 (.known 1))=some (1,tmC t)∧w5.store (aw.next+1) 2 [v']=some (w5.put (aw.next+1) [.int .i64 1,.str txt,v'])∧AS Tw aw (w5.put (aw.next+1) [.int .i64 1,.str txt,v']) bp wv txt (args++[t]) k1 e2 v' S5:=by
  intro w3 g1 g2 g3;have buf3:=buf2.frm g2 fun x hx he=>by have:=(hA.sep x hx).1;omega
  have lit3:=lit2.frm g2 hn1;have res3:=res2.frm g2 hn0;have c3:=c2.frm g2 (by show ¬w1.next=bp;omega);have hS3:∀b,S b→b<w3.next:=fun b hb=>by have:=(hA.sep b hb).2;omega
  obtain⟨v',w5,S5,a1,a2,a3,a4⟩:=buf3.push (news:=tmC t) (bytes:=32) hS3 Fh rfl rfl Fh Fh;have nlit:¬S (aw.next+1):=fun h=>by have:=(hA.sep _ h).1;omega
  have nres:¬S aw.next:=fun h=>by have:=(hA.sep _ h).1;omega
  have nbp:¬S bp:=fun h=>by have:=(hA.sep _ h).1;omega
  have lit5:=lit3.frm a3 nlit;have vone:v'.one=true:=by rcases a2.inv with⟨rfl,_⟩|⟨_,rfl,_⟩<;>rfl
  have vc:v'.cells=[v']:=by rcases a2.inv with⟨rfl,_⟩|⟨_,rfl,_⟩<;>rfl
  have pf:Frm (fun b=>b=aw.next+1) w5 (w5.put (aw.next+1) [.int .i64 1,.str txt,v']):=HN
  have sep5:∀x,S5 x→aw.next+1<x∧x<w5.next:=by
   intro x hx;obtain⟨m1,m2⟩:=a4 x hx;refine⟨?_,m1⟩;rcases m2 with m2|m2
   ·exact (hA.sep x m2).1
   ·have:=hA.lit.lt;have:=g2.next;omega
  have n5:=a3.next;refine⟨v',w5,S5,vc,by rw[lit3.load];rfl,c3.all rfl,a1,Pl Fh rfl,lit5.set Fj vone,?_⟩;refine⟨((g1.frm a3 nbp).frm pf (fun h=>hn1 h.symm)),?_,(res3.frm a3 nres).frm pf (by show ¬aw.next=aw.next+1;omega),H1 lit5.lt,?_,fun x hx=>sep5 x hx⟩
  ·refine ((f02.tr g2).trans a3 (fun _ _ h=>h) fun x hx h=>?_).out Fh rfl;have:=(hA.sep x h).1;omega
  ·rw[FE,Jnu];exact a2.frm pf fun x hx he=>by have:=(sep5 x hx).1;omega
 have hl5':(args++[t]).length≤5:=by rw[FE,Ka];omega
 have nx2:=r2.next;have tl:(tmC t).length=3:=rfl;have hov:over [V.int .i64 0,V.str [],V.int .i64 0] 0 (tmC t)=some (tmC t):=rfl;have hfin':(if Pt ws k1 [44]=true then Li ws q (args++[t]) (k1+1) e2 else (args++[t],k1,e2))=fin:=hfin;by_cases h4:e1=0∧args.length=4
 ·obtain⟨rfl,h4⟩:=h4;rw[h4]at hlv;rw[if_pos ⟨rfl,h4⟩]at he2;subst he2;refine Ho 1000 (by simp only[go_sem,Hn,s2,L9,l2,la,hlv,f0,f2,f3];rfl) ?_;refine Hq (by simp only[go_sem,Hn]) (by simp only[go_sem,Hn];rfl) ?_;refine Bz C (x:=8) p2' fun w3 q3 q4 q5=>?_;obtain⟨v',w5,S5,b0,b1,b2,b3,b4,b5,b6⟩:=cont w3 q3 q4 q5;refine Ho 1000 (by simp only[go_sem,Hn,f0,f2,f3,b0,b1,b2,Hw,HF,hov,L9,b3,b4,b5,FC,FD];rfl) ?_;refine Hq (by simp only[go_sem,Hn]) (by simp only[go_sem,Hn];rfl) ?_;have hw5:=hw.frm b6.frm fun x hx he=>hw.no (he▸hx);refine TB C b6.p hw5 ?_;cases hs:Pt ws k1 [44]with
  | true =>
   rw[hs,if_pos rfl]at hfin';have hks:=OG hs;have hwr:KX .i64 (Fq k1+1)=Fq (k1+1):=Hv (by have:=hw.len;omega);have l1:=b6.p.l1;have st:=b6.p.cb.set (i:=1) (v:=.int .i64 (Fq (k1+1))) Fj rfl;refine Ho 1000 (by simp only[go_sem,Hn,f0,f2,f3,l1,hwr,st,FC,FD];rfl) ?_;have pf:Frm (fun b=>b=bp) (w5.put (aw.next+1) [.int .i64 1,.str txt,v']) ((w5.put (aw.next+1) [.int .i64 1,.str txt,v']).put bp [wv,.int .i64 (Fq (k1+1)),.int .i64 (Fq 8)]):=HN;exact ih q _ _ Fh ⟨args++[t],k1+1,8,v',S5,⟨(by simp only[go_sem,Hn,f0]<;>rfl),(by simp only[go_sem,Hn,f2]<;>rfl),(by simp only[go_sem,Hn,f3]<;>rfl)⟩,⟨⟨b6.p.lt,AE.T.get_put_same⟩,b6.frm.tr pf,b6.res.frm pf hn0,b6.lit.frm pf hn1,b6.buf.frm pf fun x hx he=>by have:=(b6.sep x hx).1;omega,b6.sep⟩,hl5',hks,by omega,hfin',fun h=>by omega⟩
  | false =>
   rw[hs,if_neg Fj]at hfin';refine Hs 1000 (by simp only[go_sem,f0,f2,f3];rfl) ?_;exact out _ _ _ ⟨v',S5,⟨(by simp only[go_sem,Hn,f0]<;>rfl),(by simp only[go_sem,Hn,f2]<;>rfl),(by simp only[go_sem,Hn,f3]<;>rfl)⟩,by rw[←hfin'];exact b6⟩ rfl
 ·rw[if_neg h4]at he2;subst he2;obtain⟨v',w5,S5,b0,b1,b2,b3,b4,b5,b6⟩:=cont w2 p2' (Frm.refl _) rfl
  have hl54:e2=0→(args++[t]).length≤4:=by
   intro h0;have:args.length≠4:=fun h=>h4 ⟨h0,h⟩;rw[FE,Ka];omega
  have fin2:∀(fr:Fr),AF fr bp aw.next (aw.next+1)→fr.get 95=some (.ptr bp 0)→WS tab (.ops [⟨some 96,none,.call (.const (.func (.func JC) [] [])) [(.tmp 95),(.const (.str [44]))]⟩,⟨some 97,none,.un .not (.tmp 96)⟩] :: .code (.cond (.tmp 97) (.exit 0) .skip) :: .code (.region [⟨some 98,none,.mov (.tmp 0)⟩,⟨some 99,none,.nilCheck (.tmp 98)⟩,⟨some 100,none,.fieldAddr 1 (.tmp 99)⟩,⟨some 101,none,.load 1 false (.tmp 100)⟩,⟨some 102,none,.bin .add (.tmp 101) (.const (.int .i64 1))⟩,⟨some 103,none,.nilCheck (.tmp 98)⟩,⟨some 104,none,.fieldAddr 1 (.tmp 103)⟩,⟨none,none,.store 1 (.tmp 104) (.tmp 102)⟩]) :: .endB 1 :: .code (.loop JQ) :: .endB 0::s) fr (w5.put (aw.next+1) [.int .i64 1,.str txt,v']) Q:=by
   rintro fr ⟨f0,f2,f3⟩ f95;refine Hq (by simp only[Cg]) (by simp only[go_sem,f95];rfl) ?_;have hw5:=hw.frm b6.frm fun x hx he=>hw.no (he▸hx);refine TB C b6.p hw5 ?_;cases hs:Pt ws k1 [44]with
   | true =>
    rw[hs,if_pos rfl]at hfin';have hks:=OG hs;have hwr:KX .i64 (Fq k1+1)=Fq (k1+1):=Hv (by have:=hw.len;omega);have l1:=b6.p.l1;have st:=b6.p.cb.set (i:=1) (v:=.int .i64 (Fq (k1+1))) Fj rfl;refine Ho 1000 (by simp only[go_sem,Hn,f0,f2,f3,l1,hwr,st,FC,FD];rfl) ?_;have pf:Frm (fun b=>b=bp) (w5.put (aw.next+1) [.int .i64 1,.str txt,v']) ((w5.put (aw.next+1) [.int .i64 1,.str txt,v']).put bp [wv,.int .i64 (Fq (k1+1)),.int .i64 (Fq e2)]):=HN;exact ih q _ _ Fh ⟨args++[t],k1+1,e2,v',S5,⟨(by simp only[go_sem,Hn,f0]<;>rfl),(by simp only[go_sem,Hn,f2]<;>rfl),(by simp only[go_sem,Hn,f3]<;>rfl)⟩,⟨⟨b6.p.lt,AE.T.get_put_same⟩,b6.frm.tr pf,b6.res.frm pf hn0,b6.lit.frm pf hn1,b6.buf.frm pf fun x hx he=>by have:=(b6.sep x hx).1;omega,b6.sep⟩,hl5',hks,by omega,hfin',hl54⟩
   | false =>
    rw[hs,if_neg Fj]at hfin';refine Hs 1000 (by simp only[go_sem,f0,f2,f3];rfl) ?_;exact out _ _ _ ⟨v',S5,⟨(by simp only[go_sem,Hn,f0]<;>rfl),(by simp only[go_sem,Hn,f2]<;>rfl),(by simp only[go_sem,Hn,f3]<;>rfl)⟩,by rw[←hfin'];exact b6⟩ rfl
  by_cases h0:e2=0
  ·have h4':¬args.length=4:=fun h=>h4 ⟨h0,h⟩;subst h0;refine Ho 1000 (by simp only[go_sem,Hn,s2,tl,l2,la,hlv,h4',f0,f2,f3,b0,b1,b2,Hw,HF,hov,L9,b3,b4,b5,FC,FD];rfl) ?_;exact fin2 _ ⟨(by simp only[go_sem,Hn,f0]<;>rfl),(by simp only[go_sem,Hn,f2]<;>rfl),(by simp only[go_sem,Hn,f3]<;>rfl)⟩ (by simp only[go_sem,Hn]<;>rfl)
  ·refine Ho 1000 (by simp only[go_sem,Hn,s2,tl,l2,la,h0,f0,f2,f3,b0,b1,b2,Hw,HF,hov,L9,b3,b4,b5,FC,FD];rfl) ?_;exact fin2 _ ⟨(by simp only[go_sem,Hn,f0]<;>rfl),(by simp only[go_sem,Hn,f2]<;>rfl),(by simp only[go_sem,Hn,f3]<;>rfl)⟩ (by simp only[go_sem,Hn]<;>rfl)
end
section
open Go.AE Delphi
variable {tab:Tab}
def LtC (T:Fw) (w:AW) (l:Lt) (xs:List V):Prop:=∃v,xs=[.int .i64 (Fq l.kind),.str l.name,v]∧Rd T w v 3 l.args.length (Pc l.args)
variable {T:Fw} {xs:List V}
theorem LtC.frm {S:Fw}{w':AW}{l:Lt}(h:LtC T w l xs)(hf:Frm S w w')(hd:∀x,T x→¬S x):LtC T w' l xs:=by
 obtain⟨v,h1,h2⟩:=h;exact⟨v,h1,h2.frm hf hd⟩
theorem LtC.mono {T':Fw}{l:Lt}(h:LtC T w l xs)(ht:∀x,T x→T' x):LtC T' w l xs:=by
 obtain⟨v,h1,h2⟩:=h;exact⟨v,h1,h2.mono ht⟩
theorem LtC.one {l:Lt}(h:LtC T w l xs):xs.length=3∧HB xs=true:=by
 obtain⟨v,rfl,h2⟩:=h;refine⟨rfl,?_⟩;rcases h2.inv with⟨rfl,_⟩|⟨_,_,_,rfl,_⟩<;>rfl
theorem LtC.zero:LtC T w Lt.zero [.int .i64 0,.str [],.nilslice]:=⟨.nilslice,rfl,.nil⟩
theorem Ev (C:Codes tab){Tw:Fw}{bp k e:Nat}{wv:V}{ws:List Wd}{K:V→AW→Prop}(hp:PSt aw bp wv k e)(hw:Wds Tw aw bp wv ws)(hok:∀x∈ws,WOk x)(hT:∀x,Tw x→x<aw.next)(hk:k≤ws.length)(h:∀w T xs,PSt w bp wv (HH ws k e).2.1 (HH ws k e).2.2→Frm (fun b=>b=bp) aw w→LtC T w (HH ws k e).1 xs→(∀x,T x→aw.next≤x∧x<w.next)→K (.agg xs) w):WF tab Z3 [.ptr bp 0] aw K:=by
 refine Hy C.YP rfl ?_;have hlt:=hp.lt;have hne:¬aw.next=bp:=Fh;obtain⟨zs,hzs⟩:∃zs,zs=[V.int .i64 0,V.str [],V.nilslice]:=⟨_,rfl⟩;have hp1:=hp.frm (HJ (S:=fun _=>False) aw zs) fun h=>h;have hw1:=hw.frm (HJ (S:=fun _=>False) aw zs) fun _ _ h=>h;have l0:=hp1.l0;have l1:=hp1.l1;have l2:=hp1.l2;have hzl:zs.length=3:=by rw[hzs];rfl
 have hov:∀v u:V,over zs 0 [v]=some [v,V.str [],V.nilslice]:=fun v u=>by rw[hzs];rfl
 have hc0:=Ph aw zs
 have fine:∀(w:AW) (k' e':Nat) (l:Lt) (T:Fw) (xs:List V),PSt w bp wv k' e'→Frm (fun b=>b=bp) (aw.fresh zs) w→HH ws k e=(l,k',e')→LtC T w l xs→(∀x,T x→aw.next<x∧x<w.next)→K (.agg xs) (w.put aw.next xs):=by
  intro w k' e' l T xs h1 h2 h3 h4 h5;rw[h3]at h;exact h _ T xs (h1.frm HN (fun h=>hne h.symm)) ((HJ (S:=fun b=>b=bp) aw zs).tr h2 |>.out (FH _) rfl) (h4.frm HN fun x hx he=>by have:=(h5 x hx).1;omega) fun x hx=>⟨by have:=(h5 x hx).1;omega,(h5 x hx).2⟩
 have no:∀{s:List SI} {fr:Fr},HH ws k e=(Lt.zero,k,KZ e 4)→fr.get 0=some (.ptr bp 0)→fr.get 2=some (.ptr aw.next 0)→WS tab (.code WM::s) fr (aw.fresh zs) (fun fr' aw'=>∃vs,PQ fr' aw' Jr.results=some vs∧K (H7 vs) aw'):=by
  intro s fr hr f0 f2;refine Ho 1000 (by simp only[go_sem,Hn,WM,f0,f2];rfl) ?_;refine Hq (by simp only[go_sem,Hn]) (by simp only[go_sem,Hn];rfl) ?_;refine Bz C (x:=4) hp1 fun w q1 q2 q3=>?_;have hc:=hc0.frm q2 hne;have hst:=hc.setAll (vs:=[V.int .i64 0,V.str [],V.nilslice]) hzl rfl;have hrl:=(H1 (l:=[V.int .i64 0,V.str [],V.nilslice]) hc.lt).all (n:=3) rfl;refine Ho 1000 (by simp only[go_sem,Hn,f0,f2,Hw,HF,V.cells,hst,FC,FD];rfl) ?_;refine Hp ⟨_,by simp only[go_sem,Hn,Jr,f2,hrl];rfl,?_⟩;exact fine w _ _ _ (fun _=>False) _ q1 q2 hr LtC.zero fun _ h=>h.elim
 by_cases he:e=0
 case neg =>
  have hr:HH ws k e=(Lt.zero,k,KZ e 4):=by simp[HH,Lx,he]
  refine Hs 1000 (by simp only[go_sem,Hn,Jr,←hzs,l2,he];rfl) ?_;exact no hr (by simp only[go_sem,Hn]<;>rfl) (by simp only[go_sem,Hn]<;>rfl)
 subst he;by_cases hkk:ws.length≤k
 ·have hr:HH ws k 0=(Lt.zero,k,KZ 0 4):=by
   have:Lx ws k 0=none:=by unfold Lx;rw[if_pos rfl,List.getElem?_eq_none hkk]
   simp only[HH,this]
  have hlv:=hw1.rd.lenV;refine Hs 1000 (by simp only[go_sem,Hn,Jr,←hzs,l0,l1,l2,hlv,hkk];rfl) ?_;exact no hr (by simp only[go_sem,Hn]<;>rfl) (by simp only[go_sem,Hn]<;>rfl)
 have hkl:k<ws.length:=Fh;obtain⟨x,hx⟩:∃x,ws[k]? = some x:=⟨_,FB hkl⟩;have hnx:Lx ws k 0=some x:=by unfold Lx;rw[if_pos rfl,hx]
 rcases hw1.at with⟨rfl,rfl⟩|⟨b,o,c,rfl,hneb,hltb,hat⟩
 ·simp at hkl
 obtain⟨a1,a2,a3⟩:=hat k x hx;by_cases h1k:x.kind=1
 case neg =>
  have hr:HH ws k 0=(Lt.zero,k,KZ 0 4):=by
   simp only[HH,hnx];rw[if_neg h1k];rfl
  refine Hs 1000 (by simp only[go_sem,Hn,Jr,←hzs,l0,l1,l2,hkk,hkl,a1,h1k];rfl) ?_;exact no hr (by simp only[go_sem,Hn]<;>rfl) (by simp only[go_sem,Hn]<;>rfl)
 refine Ho 1000 (by simp only[go_sem,Hn,Jr,←hzs,l0,l1,l2,hkk,hkl,a1,h1k];rfl) ?_;refine Pg ?_
 have lift:∀{b' o' n' l'},b'<(aw.fresh zs).next→(aw.fresh zs).load b' o' n'=some l'→((aw.fresh zs).fresh zs).load b' o' n'=some l':=by
  intro b' o' n' l' hb hl;have:((aw.fresh zs).fresh zs).heap.get b'=(aw.fresh zs).heap.get b':=AE.T.get_put_ne Fh;simp only[AW.load]at hl ⊢;rw[this];exact hl
 have m0:=lift hp1.lt l0;have m1:=lift hp1.lt l1;have m2:=lift hltb a2;obtain⟨w3,s3,c3,r3,n3⟩:=PA (aw.fresh zs) (zs:=zs) (vs:=[V.int .i64 1,V.str x.text,V.nilslice]) hzl rfl;have hov2:over [V.int .i64 1,V.str [],V.nilslice] 1 [V.str x.text]=some [V.int .i64 1,V.str x.text,V.nilslice]:=rfl;have hov1:over zs 0 [V.int .i64 1]=some [V.int .i64 1,V.str [],V.nilslice]:=by rw[hzs];rfl
 refine HQ 100 (by simp only[go_sem,Hn,←hzs,l0,l1,hkl,a2,Hw,HF,hov1,hov2,s3,FC,FD];rfl) ?_;refine Pk ⟨(show HP _ _ [(3,12),(7,12),(10,12)]from by simp only[go_sem,Hn,HP,chk,List.reverse_cons,List.reverse_nil,H9,Po,Pm,Pn,List.getElem?_nil,false_or,or_true,or_false,exists_eq',FP,Prod.mk.injEq,Bool.true_eq_false,FM,and_true,true_and,implies_true,l0,l1,m0,m1,hkl,a2,m2]),?_⟩;have hp3:=hp1.frm r3 fun h=>h;have hwr:KX .i64 (Fq k+1)=Fq (k+1):=Hv (by have:=hw.len;omega);have l31:=hp3.l1;have s1:=hp3.cb.set (i:=1) (v:=.int .i64 (Fq (k+1))) Fj rfl;have hp4:PSt (w3.put bp ([V.slice b o ws.length c,.int .i64 (Fq k),.int .i64 (Fq 0)].set 1 (.int .i64 (Fq (k+1))))) bp (.slice b o ws.length c) (k+1) 0:=⟨hp3.lt,AE.T.get_put_same⟩;have r4:Frm (fun b=>b=bp) (aw.fresh zs) (w3.put bp ([V.slice b o ws.length c,.int .i64 (Fq k),.int .i64 (Fq 0)].set 1 (.int .i64 (Fq (k+1))))):=r3.no.tr HN;have hn1:¬(aw.fresh zs).next=bp:=by have:=hp1.lt;omega
 have c4:=c3.frm (HN (l:=[V.slice b o ws.length c,.int .i64 (Fq k),.int .i64 (Fq 0)].set 1 (.int .i64 (Fq (k+1))))) hn1;have n4:(w3.put bp ([V.slice b o ws.length c,.int .i64 (Fq k),.int .i64 (Fq 0)].set 1 (.int .i64 (Fq (k+1))))).next=aw.next+1+1:=n3;generalize w3.put bp ([V.slice b o ws.length c,.int .i64 (Fq k),.int .i64 (Fq 0)].set 1 (.int .i64 (Fq (k+1))))=w4 at s1 hp4 r4 c4 n4;refine Ho 1000 (by simp only[go_sem,Hn,l31,hwr,s1,FC,FD];rfl) ?_;refine Hq (by simp only[go_sem,Hn]) (by simp only[go_sem,Hn];rfl) ?_;have hw4:=hw1.frm r4 fun y hy he=>hw1.no (he▸hy);refine TB C hp4 hw4 ?_;have c40:=hc0.frm r4 hne;cases hs:Pt ws (k+1) [40]with
 | false =>
  have hr:HH ws k 0=(⟨1,x.text,[]⟩,k+1,0):=by
   simp only[HH,hnx];rw[if_pos h1k,hs,if_neg Fj]
  have la:=c4.all (n:=3) rfl;have hst:=c40.setAll (vs:=[V.int .i64 1,V.str x.text,V.nilslice]) hzl rfl;have hrl:=(H1 (l:=[V.int .i64 1,V.str x.text,V.nilslice]) c40.lt).all (n:=3) rfl;refine Ho 1000 (by simp only[go_sem,Hn,la,hst,FC,FD];rfl) ?_;refine Hp ⟨_,by simp only[go_sem,Hn,Jr,hrl];rfl,?_⟩;exact fine w4 _ _ _ (fun _=>False) _ hp4 r4 hr ⟨.nilslice,rfl,.nil⟩ fun _ h=>h.elim
 | true =>
  have hks:=OG hs;have hwr2:KX .i64 (Fq (k+1)+1)=Fq (k+1+1):=Hv (by have:=hw.len;omega);have l41:=hp4.l1;have s2:=hp4.cb.set (i:=1) (v:=.int .i64 (Fq (k+1+1))) Fj rfl;refine Ho 1000 (by simp only[go_sem,Hn,l41,hwr2,s2,FC,FD];rfl) ?_;have pf:Frm (fun b=>b=bp) w4 (w4.put bp ([V.slice b o ws.length c,.int .i64 (Fq (k+1)),.int .i64 (Fq 0)].set 1 (.int .i64 (Fq (k+1+1))))):=HN;have hfr5:=(HJ (S:=fun b=>b=bp) aw zs).tr (r4.tr pf)
  refine HT (MQ Tw aw bp (.slice b o ws.length c) ws x.text (Li ws (ws.length+1) [] (k+2) 0)) (Jqi Tw aw bp (.slice b o ws.length c) x.text (Li ws (ws.length+1) [] (k+2) 0)) (fun n f w hI ih out=>JnM C hw hok hT hlt hI ih out) ?_ (ws.length+1)
   ⟨[],k+2,0,.nilslice,fun _=>False,⟨(by simp only[go_sem,Hn]<;>rfl),(by simp only[go_sem,Hn]<;>rfl),(by simp only[go_sem,Hn]<;>rfl)⟩,⟨⟨by show bp<w4.next;rw[n4];omega,AE.T.get_put_same⟩,hfr5,by rw[←hzs];exact c40.frm pf hne,c4.frm pf hn1,.nil,fun _ h=>h.elim⟩,by simp,hks,by omega,rfl,by simp⟩
  rintro f w ⟨av,S,⟨f0,f2,f3⟩,hA⟩;generalize hra:Li ws (ws.length+1) [] (k+2) 0=ra at hA;obtain⟨args,k5,e5⟩:=ra;simp only at hA
  have hk5:k5≤ws.length:=by
   have:=EA (ws:=ws) (ws.length+1) [] (k+2) 0 hks;rw[hra]at this;exact this
  refine Ho 1000 (by simp only[go_sem,Hn,f0];rfl) ?_;refine Hq (by simp only[go_sem,Hn]) (by simp only[go_sem,Hn];rfl) ?_;have hww:=hw.frm hA.frm fun y hy he=>hw.no (he▸hy);refine JkM C hA.p hww (by have:=hw.len;omega) fun w6 q1 q2 q3=>?_;have lit6:=hA.lit.frm q2 Fh;have res6:=hA.res.frm q2 hne;have buf6:=hA.buf.frm q2 fun y hy he=>by have:=(hA.sep y hy).1;omega
  have hr:HH ws k 0=(⟨1,x.text,args⟩,(Ld ws [41] k5 e5).1,(Ld ws [41] k5 e5).2):=by
   simp only[HH,hnx];rw[if_pos h1k,hs,if_pos rfl,hra]
  have la:=lit6.all (n:=3) rfl;have aone:HB [V.int .i64 1,V.str x.text,av]=true:=by rcases hA.buf.inv with⟨rfl,_⟩|⟨_,rfl,_⟩<;>rfl
  have hst:=res6.setAll (vs:=[V.int .i64 1,V.str x.text,av]) rfl aone;have hrl:=(H1 (l:=[V.int .i64 1,V.str x.text,av]) res6.lt).all (n:=3) rfl;refine Ho 1000 (by simp only[go_sem,Hn,f0,f2,f3,la,hst,FC,FD];rfl) ?_;refine Hp ⟨_,by simp only[go_sem,Hn,Jr,f2,hrl];rfl,?_⟩;rw[hr]at h;have r6:=hA.frm.tr q2;exact h _ S _ (q1.frm HN (fun h=>hne h.symm)) (r6.out (FH _) rfl) ⟨av,rfl,buf6.rd.frm HN fun y hy he=>by have:=(hA.sep y hy).1;omega⟩ fun y hy=>⟨by have:=(hA.sep y hy).1;omega,by have:=(hA.sep y hy).2;have:(w6.put aw.next [V.int .i64 1,V.str x.text,av]).next=w6.next:=rfl;omega⟩
end
section
open Go.AE Delphi
variable {tab:Tab}
theorem Jq1 {T:Fw}{b:Nat}{l:List Tm}(hT:T b)(h:CB w b (Pc l)):Rd T w (.slice b 0 l.length (.known l.length)) 3 l.length (Pc l):=by
 have hl:(Pc l).length=l.length*3:=AX L9 l;exact .blk hT h.lt h.get (.inl rfl) Fh (by rw[FY,FW Fh]) (FH _)
set_option maxHeartbeats 1000000 in
theorem JpZ (C:Codes tab){Tw:Fw}{bp k e:Nat}{wv:V}{ws:List Wd}{K:V→AW→Prop}(hp:PSt aw bp wv k e)(hw:Wds Tw aw bp wv ws)(hok:∀x∈ws,WOk x)(hT:∀x,Tw x→x<aw.next)(hk:k≤ws.length)(h:∀w T xs,PSt w bp wv (PB ws k e).2.1 (PB ws k e).2.2→Frm (fun b=>b=bp) aw w→LtC T w (PB ws k e).1 xs→(∀x,T x→aw.next≤x∧x<w.next)→K (.agg xs) w):WF tab VO [.ptr bp 0] aw K:=by
 refine Hy C.YR rfl ?_;have hlt:=hp.lt;have hne:¬aw.next=bp:=Fh;have hwl:=hw.len;obtain⟨zs,hzs⟩:∃zs,zs=[V.int .i64 0,V.str [],V.nilslice]:=⟨_,rfl⟩;have hp1:=hp.frm (HJ (S:=fun _=>False) aw zs) fun h=>h;have hw1:=hw.frm (HJ (S:=fun _=>False) aw zs) fun _ _ h=>h;have hT1:∀x,Tw x→x<(aw.fresh zs).next:=fun x hx=>Nat.lt_succ_of_lt (hT x hx);have l0:=hp1.l0;have l1:=hp1.l1;have l2:=hp1.l2;have hzl:zs.length=3:=by rw[hzs];rfl
 have hc0:=Ph aw zs;have hlv:=hw1.rd.lenV
 have fine:∀(w:AW) (k' e':Nat) (l:Lt) (T:Fw) (xs:List V),PSt w bp wv k' e'→Frm (fun b=>b=bp) (aw.fresh zs) w→PB ws k e=(l,k',e')→LtC T w l xs→(∀x,T x→aw.next<x∧x<w.next)→K (.agg xs) (w.put aw.next xs):=by
  intro w k' e' l T xs h1 h2 h3 h4 h5;rw[h3]at h;exact h _ T xs (h1.frm HN (fun h=>hne h.symm)) ((HJ (S:=fun b=>b=bp) aw zs).tr h2 |>.out (FH _) rfl) (h4.frm HN fun x hx he=>by have:=(h5 x hx).1;omega) fun x hx=>⟨by have:=(h5 x hx).1;omega,(h5 x hx).2⟩
 refine Ho 1000 (by simp only[go_sem,Hn,Jk,←hzs];rfl) ?_;refine Hq (by simp only[go_sem,Hn]) (by simp only[go_sem,Hn];rfl) ?_;refine TB C hp1 hw1 ?_;cases hs:Pt ws k [33]with
 | true =>
  have hks:=OG hs;have hwr:KX .i64 (Fq k+1)=Fq (k+1):=Hv Fh;have s1:=hp1.cb.set (i:=1) (v:=.int .i64 (Fq (k+1))) Fj rfl;have hp2:PSt ((aw.fresh zs).put bp ([wv,.int .i64 (Fq k),.int .i64 (Fq e)].set 1 (.int .i64 (Fq (k+1))))) bp wv (k+1) e:=⟨hp1.lt,AE.T.get_put_same⟩;have r2:Frm (fun b=>b=bp) (aw.fresh zs) ((aw.fresh zs).put bp ([wv,.int .i64 (Fq k),.int .i64 (Fq e)].set 1 (.int .i64 (Fq (k+1))))):=HN;generalize (aw.fresh zs).put bp ([wv,.int .i64 (Fq k),.int .i64 (Fq e)].set 1 (.int .i64 (Fq (k+1))))=w2 at s1 hp2 r2;have hw2:=hw1.frm r2 fun y hy he=>hw1.no (he▸hy);refine Ho 1000 (by simp only[go_sem,Hn,UY,UZ,Jk,←hzs,l1,hwr,s1,FC,FD];rfl) ?_;refine Hq (by simp only[go_sem,Hn]) (by simp only[go_sem,Hn];rfl) ?_;refine Ev C hp2 hw2 hok (fun x hx=>FK (hT1 x hx) r2.next) hks fun w3 T xs q1 q2 q3 q4=>?_;obtain⟨xl,xo⟩:=q3.one;obtain⟨v,rfl,hv⟩:=q3;obtain⟨w4,s4,c4,r4,n4⟩:=PA w3 (zs:=zs) (vs:=[.int .i64 (Fq (HH ws (k+1) e).1.kind),.str (HH ws (k+1) e).1.name,v]) hzl xo;have st:=c4.set (i:=0) (v:=.int .i64 2) Fj rfl;have f34:Frm (fun _=>False) w3 (w4.put w3.next [.int .i64 2,.str (HH ws (k+1) e).1.name,v]):=r4.out (FH _) rfl;have la:=(H1 (l:=[.int .i64 2,.str (HH ws (k+1) e).1.name,v]) c4.lt).all (n:=3) rfl;have f14:Frm (fun b=>b=bp) (aw.fresh zs) (w4.put w3.next [.int .i64 2,.str (HH ws (k+1) e).1.name,v]):=(r2.tr q2).tr f34.no;have cr:=hc0.frm f14 hne;have vone:HB [V.int .i64 2,.str (HH ws (k+1) e).1.name,v]=true:=xo;have hst:=cr.setAll (vs:=[V.int .i64 2,.str (HH ws (k+1) e).1.name,v]) hzl vone;have hrl:=(H1 (l:=[V.int .i64 2,.str (HH ws (k+1) e).1.name,v]) cr.lt).all (n:=3) rfl
  have hr:PB ws k e=({(HH ws (k+1) e).1 with kind:=2},(HH ws (k+1) e).2.1,(HH ws (k+1) e).2.2):=by
   simp only[PB];rw[if_pos hs]
  refine Ho 1000 (by simp only[go_sem,Hn,s4,st,la,hst,FC,FD,List.set_cons_zero];rfl) ?_;refine Hp ⟨_,by simp only[go_sem,Hn,Jk,hrl];rfl,?_⟩;have nn:=r2.next
  exact fine _ _ _ _ T _ (q1.frm f34 fun h=>h) f14 hr ⟨v,rfl,hv.frm f34 fun _ _ h=>h⟩ fun x hx=>by
   obtain⟨m1,m2⟩:=q4 x hx;have e1:(aw.fresh zs).next=aw.next+1:=rfl;have:=f34.next;exact⟨by omega,by omega⟩
 | false =>
 have atomP:∀{s:List SI} {fr:Fr},PB ws k e=HH ws k e→fr.get 0=some (.ptr bp 0)→fr.get 2=some (.ptr aw.next 0)→WS tab (.code WN::s) fr (aw.fresh zs) (fun fr' aw'=>∃vs,PQ fr' aw' Jk.results=some vs∧K (H7 vs) aw'):=by
  intro s fr hr f0 f2;refine Ho 1000 (by simp only[go_sem,Hn,WN,f0,f2];rfl) ?_;refine Hq (by simp only[go_sem,Hn]) (by simp only[go_sem,Hn];rfl) ?_;refine Ev C hp1 hw1 hok hT1 hk fun w3 T xs q1 q2 q3 q4=>?_;obtain⟨xl,xo⟩:=q3.one;have cr:=hc0.frm q2 hne;have hst:=cr.setAll (vs:=xs) (by rw[hzl,xl]) xo;have hrl:=(H1 (l:=xs) cr.lt).all (n:=3) xl;refine Ho 1000 (by simp only[go_sem,Hn,f0,f2,xl,hst];rfl) ?_;refine Hp ⟨_,by simp only[go_sem,Hn,Jk,f2,hrl];rfl,?_⟩
  exact fine _ _ _ _ T _ q1 q2 hr q3 fun x hx=>by
   obtain⟨m1,m2⟩:=q4 x hx;have e1:(aw.fresh zs).next=aw.next+1:=rfl;exact⟨by omega,m2⟩
 have termP:∀{s:List SI} {fr:Fr},¬(Ti ws k=1∧H5 ws (k+1)=0)→fr.get 0=some (.ptr bp 0)→fr.get 2=some (.ptr aw.next 0)→fr.get 91=some (.ptr bp 0)→WS tab (.ops [⟨some 92,none,.call (.const (.func (.func Zp) [] [])) [(.tmp 91)]⟩,⟨some 4,none,.alloc [(.int .i64 0),(.str []),(.int .i64 0)]⟩,⟨none,none,.store 3 (.tmp 4) (.tmp 92)⟩] :: .code Za::s) fr (aw.fresh zs) (fun fr' aw'=>∃vs,PQ fr' aw' Jk.results=some vs∧K (H7 vs) aw'):=by
  intro s fr hna f0 f2 f91;refine Hq (by simp only[Cg]) (by simp only[go_sem,f91];rfl) ?_;refine Ew C hp1 hw1 hok hT1 fun w1 q1 q2=>?_;have hk1:=IR (e:=e) hk;generalize hrt:HG ws k e=rt at q1 hk1;obtain⟨t,k1,e1⟩:=rt;simp only at q1 hk1;obtain⟨w2,s2,c2,r2,n2⟩:=PA w1 (zs:=[V.int .i64 0,V.str [],V.int .i64 0]) (vs:=tmC t) rfl rfl;have p2:=q1.frm r2 fun h=>h;have f12:Frm (fun b=>b=bp) (aw.fresh zs) w2:=q2.tr r2.no;have hw2:=hw1.frm f12 fun y hy he=>hw1.no (he▸hy);have res2:=hc0.frm f12 hne;have e1n:(aw.fresh zs).next=aw.next+1:=rfl;have nq:=q2.next;have m0:=p2.l0;have m1:=p2.l1;have m2:=p2.l2;have hlv2:=hw2.rd.lenV;refine Hs 1000 (by simp only[go_sem,Hn,s2,L9,f0,f2];rfl) ?_;have g0:((fr.put 92 (.agg (tmC t))).put 4 (.ptr w1.next 0)).get 0=some (.ptr bp 0):=(by simp only[go_sem,Hn,f0]<;>rfl);have g2:((fr.put 92 (.agg (tmC t))).put 4 (.ptr w1.next 0)).get 2=some (.ptr aw.next 0):=(by simp only[go_sem,Hn,f2]<;>rfl);have g4:((fr.put 92 (.agg (tmC t))).put 4 (.ptr w1.next 0)).get 4=some (.ptr w1.next 0):=(by simp only[go_sem,Hn]<;>rfl);generalize (fr.put 92 (.agg (tmC t))).put 4 (.ptr w1.next 0)=fr1 at g0 g2 g4
  have badP:∀{s:List SI} {fr:Fr},PB ws k e=(Lt.zero,k1,KZ e1 4)→fr.get 0=some (.ptr bp 0)→fr.get 2=some (.ptr aw.next 0)→WS tab (.code WP::s) fr w2 (fun fr' aw'=>∃vs,PQ fr' aw' Jk.results=some vs∧K (H7 vs) aw'):=by
   intro s fr hr f0 f2;refine Ho 1000 (by simp only[go_sem,Hn,WP,f0,f2];rfl) ?_;refine Hq (by simp only[go_sem,Hn]) (by simp only[go_sem,Hn];rfl) ?_;refine Bz C (x:=4) p2 fun w q1 q2 q3=>?_;have hc:=res2.frm q2 hne;have hst:=hc.setAll (vs:=[V.int .i64 0,V.str [],V.nilslice]) hzl rfl;have hrl:=(H1 (l:=[V.int .i64 0,V.str [],V.nilslice]) hc.lt).all (n:=3) rfl;refine Ho 1000 (by simp only[go_sem,Hn,f0,f2,Hw,HF,V.cells,hst,FC,FD];rfl) ?_;refine Hp ⟨_,by simp only[go_sem,Hn,Jk,f2,hrl];rfl,?_⟩;exact fine w _ _ _ (fun _=>False) _ q1 (f12.tr q2) hr LtC.zero fun _ h=>h.elim
  have hbad:(e1≠0∨H5 ws k1=0)→PB ws k e=(Lt.zero,k1,KZ e1 4):=by
   intro hc;simp only[PB];rw[hs,if_neg Fj,if_neg hna,hrt,if_pos hc]
  by_cases he1:e1=0
  case neg =>
   refine Hs 1000 (by simp only[go_sem,Hn,Za,g0,g2,m2,he1];rfl) ?_;exact badP (hbad (.inl he1)) (by simp only[go_sem,Hn,g0]<;>rfl) (by simp only[go_sem,Hn,g2]<;>rfl)
  subst he1;by_cases hkk:ws.length≤k1
  ·have hz:H5 ws k1=0:=by unfold H5;rw[List.getElem?_eq_none hkk]
   refine Hs 1000 (by simp only[go_sem,Hn,Za,g0,g2,m0,m1,m2,hlv2,hkk];rfl) ?_;exact badP (hbad (.inr hz)) (by simp only[go_sem,Hn,g0]<;>rfl) (by simp only[go_sem,Hn,g2]<;>rfl)
  have hkl:k1<ws.length:=Fh;obtain⟨x,hx⟩:∃x,ws[k1]? = some x:=⟨_,FB hkl⟩;rcases hw2.at with⟨rfl,rfl⟩|⟨b,o,c,rfl,hneb,hltb,hat⟩
  ·simp at hkl
  obtain⟨a1,a2,a3⟩:=hat k1 x hx;by_cases h4:x.kind=4
  case neg =>
   have hz:H5 ws k1=0:=by unfold H5;rw[hx];exact if_neg h4
   refine Hs 1000 (by simp only[go_sem,Hn,Za,g0,g2,m0,m1,m2,hkk,hkl,a1,h4];rfl) ?_;exact badP (hbad (.inr hz)) (by simp only[go_sem,Hn,g0]<;>rfl) (by simp only[go_sem,Hn,g2]<;>rfl)
  have hz:H5 ws k1=PH x.text:=by unfold H5;rw[hx];exact if_pos h4
  refine Ho 1000 (by simp only[go_sem,Hn,Za,g0,g2,m0,m1,m2,hkk,hkl,a1,a2,h4];rfl) ?_;refine Hq (by simp only[go_sem,Hn]) (by simp only[go_sem,Hn];rfl) ?_;refine Ac C ?_;by_cases hcz:PH x.text=0
  ·rw[hcz];refine Hs 1000 (by simp only[go_sem,Hn];rfl) ?_;exact badP (hbad (.inr (hz.trans hcz))) (by simp only[go_sem,Hn,g0]<;>rfl) (by simp only[go_sem,Hn,g2]<;>rfl)
  refine Ho 1000 (by simp only[go_sem,Hn,U2,g0,g2,m0,m1,hkl,a2,hcz];rfl) ?_;refine Hq (by simp only[go_sem,Hn]) (by simp only[go_sem,Hn];rfl) ?_;refine Ac C ?_;have hwr:KX .i64 (Fq k1+1)=Fq (k1+1):=Hv Fh;have s3:=p2.cb.set (i:=1) (v:=.int .i64 (Fq (k1+1))) Fj rfl;have hp3:PSt (w2.put bp ([V.slice b o ws.length c,.int .i64 (Fq k1),.int .i64 (Fq 0)].set 1 (.int .i64 (Fq (k1+1))))) bp (.slice b o ws.length c) (k1+1) 0:=⟨p2.lt,AE.T.get_put_same⟩;have r3:Frm (fun b=>b=bp) w2 (w2.put bp ([V.slice b o ws.length c,.int .i64 (Fq k1),.int .i64 (Fq 0)].set 1 (.int .i64 (Fq (k1+1))))):=HN;generalize w2.put bp ([V.slice b o ws.length c,.int .i64 (Fq k1),.int .i64 (Fq 0)].set 1 (.int .i64 (Fq (k1+1))))=w3 at s3 hp3 r3;have hw3:=hw2.frm r3 fun y hy he=>hw2.no (he▸hy);refine Ho 1000 (by simp only[go_sem,Hn,U1,g0,g2,g4,m1,hwr,s3,FC,FD];rfl) ?_;refine Hq (by simp only[go_sem,Hn]) (by simp only[go_sem,Hn];rfl) ?_;refine Ew C hp3 hw3 hok (fun x hx=>FK (hT1 x hx) (f12.tr r3).next) fun w5 u1 u2=>?_;obtain⟨w6,s6,c6,r6,n6⟩:=PA w5 (zs:=[V.int .i64 0,V.str [],V.int .i64 0]) (vs:=tmC (HG ws (k1+1) 0).1) rfl rfl;have hb1:¬w1.next=bp:=by have:=hp1.lt;omega
  have la:=((((c2.frm r3 hb1).frm u2 hb1).frm r6 fun h=>h)).all (n:=3) rfl;have lb:=c6.all (n:=3) rfl;have hov1:over [V.int .i64 0,V.str [],V.int .i64 0,V.int .i64 0,V.str [],V.int .i64 0] 0 (tmC t)=some (tmC t++[V.int .i64 0,V.str [],V.int .i64 0]):=rfl;have hov2:over (tmC t++[V.int .i64 0,V.str [],V.int .i64 0]) 3 (tmC (HG ws (k1+1) 0).1)=some (Pc [t,(HG ws (k1+1) 0).1]):=rfl;have p7:=(u1.frm r6 fun h=>h).frm (HJ (S:=fun _=>False) w6 (Pc [t,(HG ws (k1+1) 0).1])) fun h=>h;have c7:=Ph w6 (Pc [t,(HG ws (k1+1) 0).1]);have f17:Frm (fun b=>b=bp) (aw.fresh zs) (w6.fresh (Pc [t,(HG ws (k1+1) 0).1])):=(((f12.tr r3).tr u2).tr r6.no).tr (HJ _ _);have cr:=hc0.frm f17 hne;have hst:=cr.setAll (vs:=[V.int .i64 (Fq (PH x.text)),.str [],.slice w6.next 0 2 (.known 2)]) hzl rfl;have hrl:=(H1 (l:=[V.int .i64 (Fq (PH x.text)),.str [],.slice w6.next 0 2 (.known 2)]) cr.lt).all (n:=3) rfl
  have hr:PB ws k e=(⟨PH x.text,[],[t,(HG ws (k1+1) 0).1]⟩,(HG ws (k1+1) 0).2.1,(HG ws (k1+1) 0).2.2):=by
   have hng:¬((0:Nat)≠0∨H5 ws k1=0):=by
    rintro (h|h)
    ·exact h rfl
    ·exact hcz (hz.symm.trans h)
   simp only[PB];rw[hs,if_neg Fj,if_neg hna,hrt];simp only[];rw[if_neg hng,hz]
  refine Ho 1000 (by simp only[go_sem,Hn,U0,g0,g2,g4,s6,L9,la,lb,Hw,HF,hov1,hov2,over,hst,FC,FD];rfl) ?_;refine Hp ⟨_,by simp only[go_sem,Hn,Jk,g2,hrl];rfl,?_⟩;have n17:=(((f12.tr r3).tr u2).tr (r6.no (S:=fun b=>b=bp))).next
  exact fine _ _ _ _ (fun y=>y=w6.next) _ p7 f17 hr ⟨_,rfl,Jq1 (T:=fun y=>y=w6.next) rfl c7⟩ fun y hy=>by
   subst hy;exact⟨by omega,FV _⟩
 by_cases hkl:k<ws.length
 case neg =>
  have hna:¬(Ti ws k=1∧H5 ws (k+1)=0):=by
   unfold Ti;rw[List.getElem?_eq_none Fh];simp
  refine Ho 1000 (by simp only[go_sem,Hn,Zb,l0,l1,hlv,hkl];rfl) ?_;exact termP hna (by simp only[go_sem,Hn]<;>rfl) (by simp only[go_sem,Hn]<;>rfl) (by simp only[go_sem,Hn]<;>rfl)
 obtain⟨x,hx⟩:∃x,ws[k]? = some x:=⟨_,FB hkl⟩;have hkx:Ti ws k=x.kind:=by unfold Ti;rw[hx]
 rcases hw1.at with⟨rfl,rfl⟩|⟨b,o,c,rfl,hneb,hltb,hat⟩
 ·simp at hkl
 obtain⟨a1,a2,a3⟩:=hat k x hx;by_cases h1k:x.kind=1
 case neg =>
  have hna:¬(Ti ws k=1∧H5 ws (k+1)=0):=fun h=>h1k (hkx.symm.trans h.1);refine Ho 1000 (by simp only[go_sem,Hn,Zb,l0,l1,hkl,a1,h1k];rfl) ?_;exact termP hna (by simp only[go_sem,Hn]<;>rfl) (by simp only[go_sem,Hn]<;>rfl) (by simp only[go_sem,Hn]<;>rfl)
 have hwr:KX .i64 (Fq k+1)=Fq (k+1):=Hv Fh
 have hr0:H5 ws (k+1)=0→PB ws k e=HH ws k e:=by
  intro hz;simp only[PB];rw[hs,if_neg Fj,if_pos ⟨hkx.trans h1k,hz⟩]
 by_cases hkl2:k+1<ws.length
 case neg =>
  have hz:H5 ws (k+1)=0:=by unfold H5;rw[List.getElem?_eq_none Fh]
  refine Hs 1000 (by simp only[go_sem,Hn,Zb,l0,l1,hkl,a1,h1k,hwr,hkl2];rfl) ?_;exact atomP (hr0 hz) (by simp only[go_sem,Hn]<;>rfl) (by simp only[go_sem,Hn]<;>rfl)
 obtain⟨y,hy⟩:∃x,ws[k+1]? = some x:=⟨_,FB hkl2⟩;obtain⟨b1,b2,b3⟩:=hat (k+1) y hy;by_cases h4:y.kind=4
 case neg =>
  have hz:H5 ws (k+1)=0:=by unfold H5;rw[hy];exact if_neg h4
  refine Hs 1000 (by simp only[go_sem,Hn,Zb,l0,l1,hkl,a1,h1k,hwr,hkl2,b1,h4];rfl) ?_;exact atomP (hr0 hz) (by simp only[go_sem,Hn]<;>rfl) (by simp only[go_sem,Hn]<;>rfl)
 have hz:H5 ws (k+1)=PH y.text:=by unfold H5;rw[hy];exact if_pos h4
 refine Ho 1000 (by simp only[go_sem,Hn,Zb,l0,l1,hkl,a1,h1k,hwr,hkl2,b1,b2,h4];rfl) ?_;refine Hq (by simp only[go_sem,Hn]) (by simp only[go_sem,Hn];rfl) ?_;refine Ac C ?_;by_cases hcz:PH y.text=0
 ·rw[hcz];refine Hs 1000 (by simp only[go_sem,Hn];rfl) ?_;exact atomP (hr0 (hz.trans hcz)) (by simp only[go_sem,Hn]<;>rfl) (by simp only[go_sem,Hn]<;>rfl)
 ·have hpos:0<PH y.text:=Fh;refine Ho 1000 (by simp only[go_sem,Hn,hpos];rfl) ?_;exact termP (fun h=>hcz (hz.symm.trans h.2)) (by simp only[go_sem,Hn]<;>rfl) (by simp only[go_sem,Hn]<;>rfl) (by simp only[go_sem,Hn]<;>rfl)
end
section
open Go.AE Delphi
variable {tab:Tab}
theorem Jpu {S:Fw}{v:V}{esz n:Nat}{cs:List V}(h:Buf S w v esz n cs):v.one=true∧v.cells=[v]:=by
 rcases h.inv with⟨rfl,_⟩|⟨_,rfl,_⟩<;>exact⟨rfl,rfl⟩
structure BS (a w:AW) (bp n8:Nat) (wv:V) (hd:Lt) (hv:V) (body:List Lt) (k e:Nat) (bv:V) (S T:Fw) (xss:List (List V)):Prop where
 p:PSt w bp wv k e
 frm:Frm (fun b=>b=bp) a w
 rule:CB w n8 [.int .i64 (Fq hd.kind),.str hd.name,hv,bv]
 head:Rd T w hv 3 hd.args.length (Pc hd.args)
 buf:Buf S w bv 3 body.length xss.flatten
 lits:All2 (LtC T w) body xss
 sepS:∀x,S x→a.next≤x∧x<w.next∧x≠n8∧¬T x
 sepT:∀x,T x→a.next≤x∧x<w.next∧x≠n8
structure BF (f:Fr) (bp n8:Nat) (v5 v7:V):Prop where
 f5:f.get 5=some v5
 f6:f.get 6=some (.ptr bp 0)
 f7:f.get 7=some v7
 f8:f.get 8=some (.ptr n8 0)
def MS (a:AW) (bp n8:Nat) (wv:V) (hd:Lt) (hv:V) (ws:List Wd) (v5 v7:V) (fin:List Lt×Nat×Nat) (q:Nat) (f:Fr) (w:AW):Prop :=
 ∃body k e bv S T xss,BF f bp n8 v5 v7∧BS a w bp n8 wv hd hv body k e bv S T xss∧body.length≤7∧k≤ws.length∧ws.length+1≤q+k∧Pr ws q body k e=fin∧(e=0→body.length≤6)
def Jqj (a:AW) (bp n8:Nat) (wv:V) (hd:Lt) (hv:V) (v5 v7:V) (fin:List Lt×Nat×Nat) (f:Fr) (w:AW):Prop :=
 ∃bv S T xss,BF f bp n8 v5 v7∧BS a w bp n8 wv hd hv fin.1 fin.2.1 fin.2.2 bv S T xss
variable {ws:List Wd}
theorem JlT {q:Nat}{l:List Lt}{k e:Nat}(h:e≠0):Pr ws q l k e=(l,k,e):=by
 cases q with
 | zero=>rfl
 | succ q=>simp only[Pr,if_neg h]
theorem Jmi (C:Codes tab){Tw:Fw}{a:AW}{bp n8:Nat}{wv:V}{hd:Lt}{hv:V}{v5 v7:V}{fin:List Lt×Nat×Nat}{q:Nat}{f:Fr}{s:List SI}{Q:Fr→AW→Prop}(hw:Wds Tw a bp wv ws)(hok:∀x∈ws,WOk x)(hT:∀x,Tw x→x<a.next)(hlt:bp<a.next)(hn8:a.next≤n8)(hI:MS a bp n8 wv hd hv ws v5 v7 fin q f w)(ih:∀n' f' w',n'<q→MS a bp n8 wv hd hv ws v5 v7 fin n' f' w'→WS tab (.code (.loop JO) :: .endB 2::s) f' w' Q)(out:∀s' f' w',Jqj a bp n8 wv hd hv v5 v7 fin f' w'→Lu 2 s'=some s→WS tab (.code (.exit 2)::s') f' w' Q):WS tab (.code JO :: .code (.loop JO) :: .endB 2::s) f w Q:=by
 obtain⟨body,k,e,bv,S,T,xss,⟨f5,f6,f7,f8⟩,hA,hl7,hk,hq,hfin,hl6⟩:=hI;have p2:=hA.p.l2;by_cases he:e=0
 case neg =>
  rw[JlT he]at hfin;refine Hs 1000 (by simp only[go_sem,JO,f6,p2,he];rfl) ?_;exact out _ _ _ ⟨bv,S,T,xss,⟨(by simp only[go_sem,Hn,f5]<;>rfl),(by simp only[go_sem,Hn,f6]<;>rfl),(by simp only[go_sem,Hn,f7]<;>rfl),(by simp only[go_sem,Hn,f8]<;>rfl)⟩,by rw[←hfin];exact hA⟩ rfl
 subst he;have hl6:=hl6 rfl;obtain⟨q,rfl⟩:∃q',q=q'+1:=⟨q-1,by omega⟩;refine Ho 1000 (by simp only[go_sem,Hn,JO,f6,p2];rfl) ?_;refine Hq (by simp only[go_sem,Hn]) (by simp only[go_sem,Hn];rfl) ?_;have hww:Wds Tw w bp wv ws:=hw.frm hA.frm fun x hx he=>hw.no (he▸hx);refine JpZ C hA.p hww hok (fun x hx=>FK (hT x hx) hA.frm.next) hk fun w1 Tn xs q1 q2 q3 q4=>?_;simp only[Pr,if_true]at hfin;have hk1:=JkU (e:=0) hk;have hk1g:=JkT ws k 0;generalize hrt:PB ws k 0=rt at hfin q1 hk1 hk1g q3;obtain⟨t,k1,e1⟩:=rt;simp only at hfin q1 hk1 hk1g q3;obtain⟨xl,xo⟩:=q3.one;obtain⟨w2,s2,c2,r2,n2⟩:=PA w1 (zs:=[V.int .i64 0,V.str [],V.nilslice]) (vs:=xs) (by rw[xl];rfl) xo;have nx:=hA.frm.next;have nx1:=q2.next;have hnb:¬n8=bp:=Fh;have p2':=q1.frm r2 fun h=>h;have nS:∀x,S x→¬x=bp:=fun x hx he=>by have:=(hA.sepS x hx).1;omega
 have nT:∀x,T x→¬x=bp:=fun x hx he=>by have:=(hA.sepT x hx).1;omega
 have nTn:∀x,Tn x→¬x=bp:=fun x hx he=>by have:=(q4 x hx).1;omega
 have rule2:=(hA.rule.frm q2 hnb).frm r2 fun h=>h;have buf2:=(hA.buf.frm q2 nS).frm r2 fun _ _ h=>h;have l2:=p2'.l2;have la:w2.load n8 3 1=some [bv]:=by rw[rule2.load];rfl
 have lt:w2.load w1.next 0 3=some xs:=c2.all xl;have hlv:=buf2.lenV;have f02:Frm (fun b=>b=bp) a w2:=hA.frm.tr (q2.tr r2.no);have f12:Frm (fun b=>b=bp) w w2:=q2.tr r2.no
 have lits2:All2 (LtC (fun x=>T x∨Tn x) w2) (body++[t]) (xss++[xs]):=by
  refine All2.snoc ((q3.frm r2 fun _ _ h=>h).mono fun _ h=> .inr h) ?_;exact hA.lits.imp fun l ys hl=>(hl.frm f12 nT).mono fun _ h=> .inl h
 have head2:Rd (fun x=>T x∨Tn x) w2 hv 3 hd.args.length (Pc hd.args):=(hA.head.frm f12 nT).mono fun _ h=> .inl h
 have sepT2:∀x,T x∨Tn x→a.next≤x∧x<w2.next∧x≠n8:=by
  rintro x (hx|hx)
  ·have:=hA.sepT x hx;exact⟨this.1,by omega,this.2.2⟩
  ·have:=q4 x hx;have:=hA.rule.lt;exact⟨by omega,by omega,by omega⟩
 obtain⟨e2,he2⟩:∃e2,e2=if e1=0∧body.length=6 then 8 else e1:=⟨_,rfl⟩;rw[←he2]at hfin;have hl7':(body++[t]).length≤7:=by rw[FE,Ka];omega
 have hl64:e2=0→(body++[t]).length≤6:=by
  intro h0;rw[FE,Ka];split at he2
  ·omega
  ·rename_i hn;have:body.length≠6:=fun h=>hn ⟨by omega,h⟩;omega
 have hfin':(if Pt ws k1 [44]=true then Pr ws q (body++[t]) (k1+1) e2 else (body++[t],k1,e2))=fin:=hfin
 have cont:∀{fr:Fr} {w3:AW},BF fr bp n8 v5 v7→fr.get 9=some (.ptr w1.next 0)→PSt w3 bp wv k1 e2→Frm (fun b=>b=bp) w2 w3→WS tab (.code WA :: .endB 3 :: .code (.loop JO) :: .endB 2::s) fr w3 Q:=by
  rintro fr w3 ⟨f5,f6,f7,f8⟩ f9 g1 g2;have n3:=g2.next;have buf3:=buf2.frm g2 nS;have rule3:=rule2.frm g2 hnb;have c3:=c2.frm g2 (by show ¬w1.next=bp;omega);have hS3:∀b,S b→b<w3.next:=fun b hb=>by have:=(hA.sepS b hb).2;omega
  obtain⟨v',w5,S5,a1,a2,a3,a4⟩:=buf3.push (news:=xs) (bytes:=48) hS3 Fh xl xo Fh Fh;have nrule:¬S n8:=fun h=>(hA.sepS _ h).2.2.1 rfl;have nbp:¬S bp:=fun h=>nS _ h rfl;obtain⟨vone,vc⟩:=Jpu a2;have rule5:=rule3.frm a3 nrule;have pf:Frm (fun b=>b=n8) w5 (w5.put n8 [.int .i64 (Fq hd.kind),.str hd.name,hv,v']):=HN;have n5:=a3.next;have b1:w3.load n8 3 1=some [bv]:=by rw[rule3.load];rfl
  have b2:=c3.all xl;have b4:=Pl (w:=w3) (c:=.known 1) (by omega:0<1) (by rw[xl]:xs.length=1*3);have b5:=rule5.set (i:=3) (v:=v') Fj vone
  have sS5:∀x,S5 x→a.next≤x∧x<w5.next∧x≠n8∧¬(T x∨Tn x):=by
   intro x hx;obtain⟨m1,m2⟩:=a4 x hx;have hr:=hA.rule.lt;rcases m2 with m2|m2
   ·obtain⟨y1,y2,y3,y4⟩:=hA.sepS x m2;refine⟨y1,m1,y3,?_⟩;rintro (h|h)
    ·exact y4 h
    ·have:=(q4 x h).1;omega
   ·refine⟨by omega,m1,by omega,fun h=>?_⟩;have:=(sepT2 x h).2.1;omega
  have nT2:∀x,(T x∨Tn x)→¬x=bp:=fun x hx=>hx.elim (nT x) (nTn x)
  have nT3:∀x,(T x∨Tn x)→¬S x:=by
   rintro x (hx|hx) h
   ·exact (hA.sepS x h).2.2.2 hx
   ·have:=(q4 x hx).1;have:=(hA.sepS x h).2.1;omega
  have nT4:∀x,(T x∨Tn x)→¬x=n8:=fun x hx=>(sepT2 x hx).2.2
  have hA5:BS a (w5.put n8 [.int .i64 (Fq hd.kind),.str hd.name,hv,v']) bp n8 wv hd hv (body++[t]) k1 e2 v' S5 (fun x=>T x∨Tn x) (xss++[xs]):=by
   refine⟨(g1.frm a3 nbp).frm pf (fun h=>hnb h.symm),?_,H1 rule5.lt,((head2.frm g2 nT2).frm a3 nT3).frm pf nT4,?_,lits2.imp fun l ys hl=>((hl.frm g2 nT2).frm a3 nT3).frm pf nT4,fun x hx=>sS5 x hx,fun x hx=>?_⟩
   ·refine ((f02.tr g2).trans a3 (fun _ _ h=>h) fun x hx h=>?_).out hn8 rfl;have:=(hA.sepS x h).1;omega
   ·rw[FE,Ka,List.flatten_append,List.flatten_cons,List.flatten_nil,Kb];exact a2.frm pf fun x hx he=>(sS5 x hx).2.2.1 he
   ·have:=sepT2 x hx;exact⟨this.1,by have:(w5.put n8 [.int .i64 (Fq hd.kind),.str hd.name,hv,v']).next=w5.next:=rfl;omega,this.2.2⟩
  have hov:over [V.int .i64 0,V.str [],V.nilslice] 0 xs=some xs:=by
   have:=TA [] [V.int .i64 0,V.str [],V.nilslice] [] xs (by rw[xl];rfl);simpa using this
  refine Ho 1000 (by simp only[go_sem,Hn,WA,f6,f8,f9,vc,b1,b2,xl,Hw,HF,hov,a1,b4,b5,FC,FD,List.set_cons_succ,List.set_cons_zero];rfl) ?_;refine Hq (by simp only[go_sem,Hn]) (by simp only[go_sem,Hn];rfl) ?_;have hw5:=hw.frm hA5.frm fun x hx he=>hw.no (he▸hx);refine TB C hA5.p hw5 ?_;cases hs:Pt ws k1 [44]with
  | true =>
   rw[hs,if_pos rfl]at hfin';have hks:=OG hs;have hwr:KX .i64 (Fq k1+1)=Fq (k1+1):=Hv (by have:=hw.len;omega);have l1:=hA5.p.l1;have st:=hA5.p.cb.set (i:=1) (v:=.int .i64 (Fq (k1+1))) Fj rfl;have pf2:Frm (fun b=>b=bp) (w5.put n8 [.int .i64 (Fq hd.kind),.str hd.name,hv,v']) ((w5.put n8 [.int .i64 (Fq hd.kind),.str hd.name,hv,v']).put bp ([wv,.int .i64 (Fq k1),.int .i64 (Fq e2)].set 1 (.int .i64 (Fq (k1+1))))):=HN;refine Ho 1000 (by simp only[go_sem,Hn,UH,f6,f8,l1,hwr,st,FC,FD];rfl) ?_;exact ih q _ _ Fh ⟨body++[t],k1+1,e2,v',S5,_,_,⟨(by simp only[go_sem,Hn,f5]<;>rfl),(by simp only[go_sem,Hn,f6]<;>rfl),(by simp only[go_sem,Hn,f7]<;>rfl),(by simp only[go_sem,Hn,f8]<;>rfl)⟩,⟨⟨hA5.p.lt,AE.T.get_put_same⟩,hA5.frm.tr pf2,hA5.rule.frm pf2 hnb,hA5.head.frm pf2 nT2,hA5.buf.frm pf2 fun x hx he=>by have:=(sS5 x hx).1;omega,hA5.lits.imp fun l ys hl=>hl.frm pf2 nT2,hA5.sepS,hA5.sepT⟩,hl7',hks,by omega,hfin',hl64⟩
  | false =>
   rw[hs,if_neg Fj]at hfin';refine Hs 1000 (by simp only[go_sem,f6];rfl) ?_;exact out _ _ _ ⟨v',S5,_,_,⟨(by simp only[go_sem,Hn,f5]<;>rfl),(by simp only[go_sem,Hn,f6]<;>rfl),(by simp only[go_sem,Hn,f7]<;>rfl),(by simp only[go_sem,Hn,f8]<;>rfl)⟩,by rw[←hfin'];exact hA5⟩ rfl
 by_cases h6:e1=0∧body.length=6
 ·obtain⟨rfl,h6⟩:=h6;rw[h6]at hlv;rw[if_pos ⟨rfl,h6⟩]at he2;subst he2;refine Ho 1000 (by simp only[go_sem,Hn,Yy,UG,s2,xl,l2,la,hlv,f6,f8];rfl) ?_;refine Hq (by simp only[go_sem,Hn]) (by simp only[go_sem,Hn];rfl) ?_;refine Bz C (x:=8) p2' fun w3 q3 q4 q5=>?_;refine Hs 1000 (by simp only[go_sem,Hn];rfl) ?_;exact cont ⟨(by simp only[go_sem,Hn,f5]<;>rfl),(by simp only[go_sem,Hn,f6]<;>rfl),(by simp only[go_sem,Hn,f7]<;>rfl),(by simp only[go_sem,Hn,f8]<;>rfl)⟩ (by simp only[go_sem,Hn]<;>rfl) q3 q4
 ·rw[if_neg h6]at he2;subst he2;by_cases h0:e2=0
  ·have h6':¬body.length=6:=fun h=>h6 ⟨h0,h⟩;subst h0;refine Hs 1000 (by simp only[go_sem,Hn,Yy,s2,xl,l2,la,hlv,h6',f6,f8];rfl) ?_;exact cont ⟨(by simp only[go_sem,Hn,f5]<;>rfl),(by simp only[go_sem,Hn,f6]<;>rfl),(by simp only[go_sem,Hn,f7]<;>rfl),(by simp only[go_sem,Hn,f8]<;>rfl)⟩ (by simp only[go_sem,Hn]<;>rfl) p2' (Frm.refl _)
  ·refine Hs 1000 (by simp only[go_sem,Hn,Yy,s2,xl,l2,la,h0,f6,f8];rfl) ?_;exact cont ⟨(by simp only[go_sem,Hn,f5]<;>rfl),(by simp only[go_sem,Hn,f6]<;>rfl),(by simp only[go_sem,Hn,f7]<;>rfl),(by simp only[go_sem,Hn,f8]<;>rfl)⟩ (by simp only[go_sem,Hn]<;>rfl) p2' (Frm.refl _)
end
section
open Go.AE Delphi
variable {tab:Tab}
def RlC (T:Fw) (w:AW) (r:Rl) (xs:List V):Prop:=∃v u,xs=[.int .i64 (Fq r.head.kind),.str r.head.name,v,u]∧Rd T w v 3 r.head.args.length (Pc r.head.args)∧RdL (LtC T) T w u 3 r.body
variable {T:Fw} {r:Rl} {xs:List V}
theorem RlC.frm {S:Fw}{w':AW}(h:RlC T w r xs)(hf:Frm S w w')(hd:∀x,T x→¬S x):RlC T w' r xs:=by
 obtain⟨v,u,h1,h2,h3⟩:=h;exact⟨v,u,h1,h2.frm hf hd,h3.frm (fun _ _ h=>h.frm hf hd) hf hd⟩
theorem TD {T':Fw}{u:V}{l:List Lt}(h:RdL (LtC T) T w u 3 l)(ht:∀x,T x→T' x):RdL (LtC T') T' w u 3 l:=by
 obtain⟨xss,h1,h2⟩:=h;exact⟨xss,h1.mono ht,h2.imp fun _ _ h=>h.mono ht⟩
theorem RlC.mono {T':Fw}(h:RlC T w r xs)(ht:∀x,T x→T' x):RlC T' w r xs:=by
 obtain⟨v,u,h1,h2,h3⟩:=h;exact⟨v,u,h1,h2.mono ht,TD h3 ht⟩
theorem RlC.one (h:RlC T w r xs):xs.length=4∧HB xs=true:=by
 obtain⟨v,u,rfl,h2,xss,h3,_⟩:=h;refine⟨rfl,?_⟩;rcases h2.inv with⟨rfl,_⟩|⟨_,_,_,rfl,_⟩<;>rcases h3.inv with⟨rfl,_⟩|⟨_,_,_,rfl,_⟩<;>rfl
theorem JjX (C:Codes tab){Tw:Fw}{a:AW}{bp k:Nat}{wv:V}{ws:List Wd}{v5 v7:V}{f:Fr}{s:List SI}{Q:Fr→AW→Prop}(hp:PSt a bp wv k 0)(hw:Wds Tw a bp wv ws)(hok:∀x∈ws,WOk x)(hT:∀x,Tw x→x<a.next)(hk:k≤ws.length)(f5:f.get 5=some v5)(f6:f.get 6=some (.ptr bp 0))(f7:f.get 7=some v7)(h:∀f' w T xs n8,BF f' bp n8 v5 v7→PSt w bp wv (H2 ws k 0).2.1 (H2 ws k 0).2.2→Frm (fun b=>b=bp) a w→CB w n8 xs→a.next≤n8→RlC T w (H2 ws k 0).1 xs→(∀x,T x→a.next≤x∧x<w.next∧x≠n8)→WS tab (.code J5::s) f' w Q):WS tab (.code WE::s) f a Q:=by
 have hlt:=hp.lt;have hwl:=hw.len;refine Ho 1000 (by simp only[go_sem,Hn,WE,f6];rfl) ?_;refine Hq (by simp only[go_sem,Hn]) (by simp only[go_sem,Hn];rfl) ?_;refine Ev C hp hw hok hT hk fun w1 TH xs q1 q2 q3 q4=>?_;have hk1:=CK (e:=0) hk;generalize hrt:HH ws k 0=rt at q1 q3 hk1;obtain⟨hd,k1,e1⟩:=rt;simp only at q1 q3 hk1;obtain⟨hv,rfl,hrd⟩:=q3;have hvone:HB [V.int .i64 (Fq hd.kind),V.str hd.name,hv,.nilslice]=true:=by rcases hrd.inv with⟨rfl,_⟩|⟨_,_,_,rfl,_⟩<;>rfl
 obtain⟨w2,s2,c2,r2,n2⟩:=PA w1 (zs:=[V.int .i64 0,V.str [],V.nilslice,V.nilslice]) (vs:=[V.int .i64 (Fq hd.kind),V.str hd.name,hv,.nilslice]) rfl hvone;have n1:=q2.next;have p2:=q1.frm r2 fun h=>h;have f02:Frm (fun b=>b=bp) a w2:=q2.tr r2.no;have hw2:=hw.frm f02 fun y hy he=>hw.no (he▸hy);have hn8:¬w1.next=bp:=Fh;have hrd2:=hrd.frm r2 fun _ _ h=>h;have l2:=p2.l2;have g5:f.get 5=some v5:=f5
 have fin:∀{fr:Fr} {w:AW} {body:List Lt} {k' e':Nat} {bv:V} {S T:Fw} {xss:List (List V)},BF fr bp w1.next v5 v7→fr.get 93=some (.ptr bp 0)→k'≤ws.length→BS a w bp w1.next wv hd hv body k' e' bv S T xss→H2 ws k 0=(⟨hd,body⟩,(Ld ws [46] k' e').1,(Ld ws [46] k' e').2)→WS tab (.ops [⟨some 94,none,.call (.const (.func (.func Z4) [] [])) [(.tmp 93),(.const (.str [46]))]⟩] :: .code J5::s) fr w Q:=by
  rintro fr w body k' e' bv S T xss ⟨g5,g6,g7,g8⟩ g93 hk' hA hr;refine Hq (by simp only[Cg]) (by simp only[go_sem,g93];rfl) ?_;have hww:=hw.frm hA.frm fun y hy he=>hw.no (he▸hy);refine JkM C hA.p hww Fh fun w6 u1 u2 u3=>?_;refine Hs 1000 (by simp only[go_sem,Hn];rfl) ?_;rw[hr]at h;have nS:∀x,S x→¬x=bp:=fun x hx he=>by have:=(hA.sepS x hx).1;omega
  have nT:∀x,T x→¬x=bp:=fun x hx he=>by have:=(hA.sepT x hx).1;omega
  have n6:=u2.next;refine h _ w6 (fun x=>S x∨T x) _ w1.next ⟨(by simp only[go_sem,Hn,g5]<;>rfl),(by simp only[go_sem,Hn,g6]<;>rfl),(by simp only[go_sem,Hn,g7]<;>rfl),(by simp only[go_sem,Hn,g8]<;>rfl)⟩ u1 (hA.frm.tr u2) (hA.rule.frm u2 hn8) n1 ⟨hv,bv,rfl,(hA.head.frm u2 nT).mono fun _ h=> .inr h,xss,(hA.buf.rd.frm u2 nS).mono fun _ h=> .inl h,hA.lits.imp fun l ys hl=>(hl.frm u2 nT).mono fun _ h=> .inr h⟩ ?_;rintro x (hx|hx)
  ·have:=hA.sepS x hx;exact⟨this.1,by omega,this.2.2.1⟩
  ·have:=hA.sepT x hx;exact⟨this.1,by omega,this.2.2⟩
 have hA0:BS a w2 bp w1.next wv hd hv [] k1 e1 .nilslice (fun _=>False) TH []:=⟨p2,f02,c2,hrd2,.nil,.nil,fun _ h=>h.elim,fun x hx=>by have:=q4 x hx;exact⟨this.1,by omega,by omega⟩⟩;have hov:over [V.int .i64 0,V.str [],V.nilslice,V.nilslice] 0 [V.int .i64 (Fq hd.kind),V.str hd.name,hv]=some [V.int .i64 (Fq hd.kind),V.str hd.name,hv,.nilslice]:=rfl;refine Ho 1000 (by simp only[go_sem,Hn,f6,Hw,HF,hov,s2,UK,FC,FD];rfl) ?_;refine Hq (by simp only[go_sem,Hn]) (by simp only[go_sem,Hn];rfl) ?_;refine TB C p2 hw2 ?_;cases hs:Pt ws k1 [58,45]with
 | false =>
  have hr:H2 ws k 0=(⟨hd,[]⟩,(Ld ws [46] k1 e1).1,(Ld ws [46] k1 e1).2):=by
   unfold H2;rw[hrt];simp only[hs,FM,false_and,if_false]
  refine Ho 1000 (by simp only[go_sem,Hn,f6];rfl) ?_;exact fin ⟨(by simp only[go_sem,Hn,f5]<;>rfl),(by simp only[go_sem,Hn,f6]<;>rfl),(by simp only[go_sem,Hn,f7]<;>rfl),(by simp only[go_sem,Hn]<;>rfl)⟩ (by simp only[go_sem,Hn]<;>rfl) hk1 hA0 hr
 | true =>
  by_cases he1:e1=0
  case neg =>
   have hr:H2 ws k 0=(⟨hd,[]⟩,(Ld ws [46] k1 e1).1,(Ld ws [46] k1 e1).2):=by
    unfold H2;rw[hrt];simp only[hs,he1,and_false,if_false]
   refine Ho 1000 (by simp only[go_sem,Hn,f6,l2,he1];rfl) ?_;exact fin ⟨(by simp only[go_sem,Hn,f5]<;>rfl),(by simp only[go_sem,Hn,f6]<;>rfl),(by simp only[go_sem,Hn,f7]<;>rfl),(by simp only[go_sem,Hn]<;>rfl)⟩ (by simp only[go_sem,Hn]<;>rfl) hk1 hA0 hr
  subst he1;have hks:=OG hs;have hwr:KX .i64 (Fq k1+1)=Fq (k1+1):=Hv Fh;have l1:=p2.l1;have st:=p2.cb.set (i:=1) (v:=.int .i64 (Fq (k1+1))) Fj rfl;have pf2:Frm (fun b=>b=bp) w2 (w2.put bp ([wv,.int .i64 (Fq k1),.int .i64 (Fq 0)].set 1 (.int .i64 (Fq (k1+1))))):=HN;refine Ho 1000 (by simp only[go_sem,Hn,f6,l1,l2,hwr,st,UI,FC,FD];rfl) ?_
  refine HT (MS a bp w1.next wv hd hv ws v5 v7 (Pr ws (ws.length+1) [] (k1+1) 0)) (Jqj a bp w1.next wv hd hv v5 v7 (Pr ws (ws.length+1) [] (k1+1) 0)) (fun n f w hI ih out=>Jmi C hw hok hT hlt n1 hI ih out) ?_ (ws.length+1)
   ⟨[],k1+1,0,.nilslice,fun _=>False,TH,[],⟨(by simp only[go_sem,Hn,f5]<;>rfl),(by simp only[go_sem,Hn,f6]<;>rfl),(by simp only[go_sem,Hn,f7]<;>rfl),(by simp only[go_sem,Hn]<;>rfl)⟩,⟨⟨p2.lt,AE.T.get_put_same⟩,f02.tr pf2,c2.frm pf2 hn8,hrd2.frm pf2 fun x hx he=>by have:=(q4 x hx).1;omega,.nil,.nil,fun _ h=>h.elim,hA0.sepT⟩,by simp,hks,by omega,rfl,by simp⟩
  rintro f' w ⟨bv,S,T,xss,hBF,hA⟩;have hk5:=EC (ws:=ws) (ws.length+1) [] (k1+1) 0 hks
  have hr:H2 ws k 0=(⟨hd,(Pr ws (ws.length+1) [] (k1+1) 0).1⟩,(Ld ws [46] (Pr ws (ws.length+1) [] (k1+1) 0).2.1 (Pr ws (ws.length+1) [] (k1+1) 0).2.2).1,(Ld ws [46] (Pr ws (ws.length+1) [] (k1+1) 0).2.1 (Pr ws (ws.length+1) [] (k1+1) 0).2.2).2):=by
   unfold H2;rw[hrt];simp only[hs,and_self,if_true]
  generalize Pr ws (ws.length+1) [] (k1+1) 0=rb at hA hk5 hr;obtain⟨body,k5,e5⟩:=rb;obtain⟨g5,g6,g7,g8⟩:=hBF;refine Ho 1000 (by simp only[go_sem,Hn,g6];rfl) ?_;exact fin ⟨(by simp only[go_sem,Hn,g5]<;>rfl),(by simp only[go_sem,Hn,g6]<;>rfl),(by simp only[go_sem,Hn,g7]<;>rfl),(by simp only[go_sem,Hn,g8]<;>rfl)⟩ (by simp only[go_sem,Hn]<;>rfl) hk5 hA hr
end
section
open Go.AE Delphi
variable {tab:Tab}
structure RS (a0 w:AW) (bp:Nat) (wv:V) (rules:List Rl) (k e:Nat) (rv:V) (S T:Fw) (xss:List (List V)):Prop where
 p:PSt w bp wv k e
 frm:Frm (fun b=>b=bp) a0 w
 buf:Buf S w rv 4 rules.length xss.flatten
 rls:All2 (RlC T w) rules xss
 sepS:∀x,S x→a0.next≤x∧x<w.next∧¬T x
 sepT:∀x,T x→a0.next≤x∧x<w.next
structure RF (f:Fr) (bp:Nat) (v5 v7:V):Prop where
 f5:f.get 5=some v5
 f6:f.get 6=some (.ptr bp 0)
 f7:f.get 7=some v7
def ML (a0:AW) (bp:Nat) (wv:V) (ws:List Wd) (v5:V) (fin:List Rl×Nat×Nat) (q:Nat) (f:Fr) (w:AW):Prop :=
 ∃rules k e rv S T xss,RF f bp v5 rv∧RS a0 w bp wv rules k e rv S T xss∧rules.length≤31∧k≤ws.length∧(e=0→ws.length+1≤q+k)∧PK ws q rules k e=fin∧(e=0→rules.length≤30)
def Jqo (a0:AW) (bp:Nat) (wv:V) (v5:V) (fin:List Rl×Nat×Nat) (f:Fr) (w:AW):Prop :=
 ∃rv S T xss,RF f bp v5 rv∧RS a0 w bp wv fin.1 fin.2.1 fin.2.2 rv S T xss
variable {ws:List Wd}
theorem NJ {q:Nat}{l:List Rl}{k e:Nat}(h:¬(e=0∧k<ws.length)):PK ws q l k e=(l,k,e):=by
 cases q with
 | zero=>rfl
 | succ q=>simp only[PK,if_neg h]
theorem Jnf (C:Codes tab){Tw:Fw}{a0:AW}{bp:Nat}{wv:V}{v5:V}{fin:List Rl×Nat×Nat}{q:Nat}{f:Fr}{s:List SI}{Q:Fr→AW→Prop}(hw:Wds Tw a0 bp wv ws)(hok:∀x∈ws,WOk x)(hT:∀x,Tw x→x<a0.next)(hlt:bp<a0.next)(hI:ML a0 bp wv ws v5 fin q f w)(ih:∀n' f' w',n'<q→ML a0 bp wv ws v5 fin n' f' w'→WS tab (.code (.loop JF) :: .endB 0::s) f' w' Q)(out:∀s' f' w',Jqo a0 bp wv v5 fin f' w'→Lu 0 s'=some s→WS tab (.code (.exit 0)::s') f' w' Q):WS tab (.code JF :: .code (.loop JF) :: .endB 0::s) f w Q:=by
 obtain⟨rules,k,e,rv,S,T,xss,⟨f5,f6,f7⟩,hA,hl31,hk,hq,hfin,hl30⟩:=hI;have l0:=hA.p.l0;have l1:=hA.p.l1;have l2:=hA.p.l2;have hww:Wds Tw w bp wv ws:=hw.frm hA.frm fun x hx he=>hw.no (he▸hx);have hlv:=hww.rd.lenV;by_cases he:e=0
 case neg =>
  rw[NJ (fun h=>he h.1)]at hfin;refine Hs 1000 (by simp only[go_sem,JF,f6,l2,he];rfl) ?_;exact out _ _ _ ⟨rv,S,T,xss,⟨(by simp only[go_sem,Hn,f5]<;>rfl),(by simp only[go_sem,Hn,f6]<;>rfl),(by simp only[go_sem,Hn,f7]<;>rfl)⟩,by rw[←hfin];exact hA⟩ rfl
 subst he;by_cases hkl:k<ws.length
 case neg =>
  rw[NJ (fun h=>hkl h.2)]at hfin;refine Hs 1000 (by simp only[go_sem,JF,f6,l0,l1,l2,hlv,hkl];rfl) ?_;exact out _ _ _ ⟨rv,S,T,xss,⟨(by simp only[go_sem,Hn,f5]<;>rfl),(by simp only[go_sem,Hn,f6]<;>rfl),(by simp only[go_sem,Hn,f7]<;>rfl)⟩,by rw[←hfin];exact hA⟩ rfl
 have hl30:=hl30 rfl;have hq:=hq rfl;obtain⟨q,rfl⟩:∃q',q=q'+1:=⟨q-1,by omega⟩;simp only[PK]at hfin;rw[if_pos ⟨trivial,hkl⟩]at hfin;refine Hs 1000 (by simp only[go_sem,Hn,JF,f6,l0,l1,l2,hlv,hkl];rfl) ?_;refine JjX C (v5:=v5) (v7:=rv) hA.p hww hok (fun x hx=>FK (hT x hx) hA.frm.next) hk (by simp only[go_sem,Hn,f5]<;>rfl) (by simp only[go_sem,Hn,f6]<;>rfl) (by simp only[go_sem,Hn,f7]<;>rfl) ?_;rintro f' w1 Tn xs n8 ⟨g5,g6,g7,g8⟩ q1 q2 c2 hn8 q3 q4;have hk1:=JlW (e:=0) hk;have hk1g:=JlU ws k 0;have hgt:=JlV (ws:=ws) (k:=k) (e:=0);generalize hrt:H2 ws k 0=rt at hfin q1 hk1 hk1g q3 hgt;obtain⟨t,k1,e1⟩:=rt;simp only at hfin q1 hk1 hk1g q3 hgt;obtain⟨xl,xo⟩:=q3.one;have nx:=hA.frm.next;have nx1:=q2.next;have nS:∀x,S x→¬x=bp:=fun x hx he=>by have:=(hA.sepS x hx).1;omega
 have nT:∀x,T x→¬x=bp:=fun x hx he=>by have:=(hA.sepT x hx).1;omega
 have nTn:∀x,Tn x→¬x=bp:=fun x hx he=>by have:=(q4 x hx).1;omega
 have m2:=q1.l2;have buf1:=hA.buf.frm q2 nS;have hlr:=buf1.lenV;have la:=c2.all xl;obtain⟨e2,he2⟩:∃e2,e2=if e1=0∧rules.length=30 then 8 else e1:=⟨_,rfl⟩;rw[←he2]at hfin
 have cont:∀{fr:Fr} {w3:AW},BF fr bp n8 v5 rv→PSt w3 bp wv k1 e2→Frm (fun b=>b=bp) w1 w3→WS tab (.code WB :: .endB 1 :: .code (.loop JF) :: .endB 0::s) fr w3 Q:=by
  rintro fr w3 ⟨f5,f6,f7,f8⟩ g1 g2;have n3:=g2.next;have buf3:=buf1.frm g2 nS;have hn8b:¬n8=bp:=Fh;have c3:=c2.frm g2 hn8b;have hS3:∀b,S b→b<w3.next:=fun b hb=>by have:=(hA.sepS b hb).2.1;omega
  obtain⟨v',w5,S5,a1,a2,a3,a4⟩:=buf3.push (news:=xs) (bytes:=72) hS3 Fh xl xo Fh Fh;have nbp:¬S bp:=fun h=>nS _ h rfl;have n5:=a3.next;have b2:=c3.all xl;have b4:=Pl (w:=w3) (c:=.known 1) (by omega:0<1) (by rw[xl]:xs.length=1*4);have nT2:∀x,(T x∨Tn x)→¬x=bp:=fun x hx=>hx.elim (nT x) (nTn x)
  have nT3:∀x,(T x∨Tn x)→¬S x:=by
   rintro x (hx|hx) h
   ·exact (hA.sepS x h).2.2 hx
   ·have:=(q4 x hx).1;have:=(hA.sepS x h).2.1;omega
  have hov:over [V.int .i64 0,V.str [],V.nilslice,V.nilslice] 0 xs=some xs:=by
   have:=TA [] [V.int .i64 0,V.str [],V.nilslice,V.nilslice] [] xs (by rw[xl];rfl);simpa using this
  have sT5:∀x,T x∨Tn x→a0.next≤x∧x<w5.next:=by
   rintro x (hx|hx)
   ·have:=hA.sepT x hx;exact⟨this.1,by omega⟩
   ·have:=q4 x hx;exact⟨by omega,by omega⟩
  have hA5:RS a0 w5 bp wv (rules++[t]) k1 e2 v' S5 (fun x=>T x∨Tn x) (xss++[xs]):=by
   refine⟨g1.frm a3 nbp,((hA.frm.tr q2).tr g2).trans a3 (fun _ _ h=>h) (fun x hx h=>by have:=(hA.sepS x h).1;omega),?_,?_,fun x hx=>?_,sT5⟩
   ·rw[FE,Ka,List.flatten_append,List.flatten_cons,List.flatten_nil,Kb];exact a2
   ·refine All2.snoc (((q3.mono fun _ h=> .inr h).frm g2 nT2).frm a3 nT3) ?_;exact hA.rls.imp fun r ys hr=>(((hr.frm q2 nT).mono fun _ h=> .inl h).frm g2 nT2).frm a3 nT3
   ·obtain⟨m1,m2⟩:=a4 x hx;rcases m2 with m2|m2
    ·obtain⟨y1,y2,y3⟩:=hA.sepS x m2;refine⟨y1,m1,?_⟩;rintro (h|h)
     ·exact y3 h
     ·have:=(q4 x h).1;omega
    ·refine⟨by omega,m1,?_⟩;rintro (h|h)
     ·have:=(hA.sepT x h).2;omega
     ·have:=(q4 x h).2.1;omega
  refine Ho 1000 (by simp only[go_sem,Hn,WB,f7,f8,b2,xl,Hw,HF,hov,a1,b4,FC,FD];rfl) ?_
  have e10:e2=0→e1=0∧rules.length≠30:=by
   intro h0;rw[h0]at he2;split at he2
   ·omega
   ·rename_i hn;exact⟨he2.symm,fun h=>hn ⟨he2.symm,h⟩⟩
  exact ih q _ _ Fh ⟨rules++[t],k1,e2,v',S5,_,_,⟨(by simp only[go_sem,Hn,f5]<;>rfl),(by simp only[go_sem,Hn,f6]<;>rfl),(by simp only[go_sem,Hn]<;>rfl)⟩,hA5,by rw[FE,Ka];omega,hk1,fun h0=>by have:=hgt (e10 h0).1;omega,hfin,fun h0=>by have:=(e10 h0).2;rw[FE,Ka];omega⟩
 by_cases h30:e1=0∧rules.length=30
 ·obtain⟨rfl,h30⟩:=h30;rw[h30]at hlr;rw[if_pos ⟨rfl,h30⟩]at he2;subst he2;refine Ho 1000 (by simp only[go_sem,Hn,J5,UJ,g6,g7,m2,hlr];rfl) ?_;refine Hq (by simp only[go_sem,Hn]) (by simp only[go_sem,Hn];rfl) ?_;refine Bz C (x:=8) q1 fun w3 u3 u4 u5=>?_;refine Hs 1000 (by simp only[go_sem,Hn];rfl) ?_;exact cont ⟨(by simp only[go_sem,Hn,g5]<;>rfl),(by simp only[go_sem,Hn,g6]<;>rfl),(by simp only[go_sem,Hn,g7]<;>rfl),(by simp only[go_sem,Hn,g8]<;>rfl)⟩ u3 u4
 ·rw[if_neg h30]at he2;subst he2;by_cases h0:e2=0
  ·have h30':¬rules.length=30:=fun h=>h30 ⟨h0,h⟩;subst h0;refine Hs 1000 (by simp only[go_sem,Hn,J5,g6,g7,m2,hlr,h30'];rfl) ?_;exact cont ⟨(by simp only[go_sem,Hn,g5]<;>rfl),(by simp only[go_sem,Hn,g6]<;>rfl),(by simp only[go_sem,Hn,g7]<;>rfl),(by simp only[go_sem,Hn,g8]<;>rfl)⟩ q1 (Frm.refl _)
  ·refine Hs 1000 (by simp only[go_sem,Hn,J5,g6,g7,m2,h0];rfl) ?_;exact cont ⟨(by simp only[go_sem,Hn,g5]<;>rfl),(by simp only[go_sem,Hn,g6]<;>rfl),(by simp only[go_sem,Hn,g7]<;>rfl),(by simp only[go_sem,Hn,g8]<;>rfl)⟩ q1 (Frm.refl _)
theorem Jke (C:Codes tab){s:List Nat}{K:V→AW→Prop}(hs:s.length≤1099511627776)(hb:∀x∈s,x<256)(h:∀w v T,RdL (RlC T) T w v 4 (OE s).1→Frm (fun _=>False) aw w→(∀x,T x→aw.next≤x∧x<w.next)→K (.tuple [v,.int .i64 (Fq (OE s).2)]) w):WF tab VH [.str s] aw K:=by
 refine Hy C.Yz rfl ?_;refine Ho 1000 (by simp only[go_sem,Hn,J6,UN];rfl) ?_;refine Hq (by simp only[go_sem,Hn]) (by simp only[go_sem,Hn];rfl) ?_;refine JoU C hs (fun hl=>?_) fun hl v aw' hown hext=>?_
 ·have hr:OE s=([],8):=by unfold OE;rw[if_pos hl]
  rw[hr]at h;refine Ho 1000 (by simp only[go_sem,Hn,WH,UF];rfl) ?_;refine Hp ⟨_,by simp only[go_sem,Hn,J6];rfl,?_⟩;exact h aw .nilslice (fun _=>False) ⟨[],.nil,.nil⟩ (Frm.refl _) fun _ h=>h.elim
 obtain⟨e0,he0⟩:∃e0:Nat,e0=if (scan 0 s).2=true then 0 else 4:=⟨_,rfl⟩;have hk0:(if (scan 0 s).2=true then (0:Int)else 4)=Fq e0:=by rw[he0];split<;>rfl
 rw[hk0];have h8:¬e0=8:=by rw[he0];split<;>omega
 obtain⟨wl,wok⟩:=JoW hb
 have hr:OE s=if KZ (PK (scan 0 s).1 ((scan 0 s).1.length+1) [] 0 0).2.2 e0=0 then ((PK (scan 0 s).1 ((scan 0 s).1.length+1) [] 0 0).1,0)else ([],KZ (PK (scan 0 s).1 ((scan 0 s).1.length+1) [] 0 0).2.2 e0):=by
  unfold OE;rw[if_neg Fh,he0]
 rw[hr]at h;clear hr he0 hk0;generalize (scan 0 s).1=ws at hown wl wok h;have hrd:=hown.rd;have nx:=hext.next;obtain⟨zs,hzs⟩:∃zs,zs=[v,V.int .i64 0,V.int .i64 0]:=⟨_,rfl⟩;have hov:over [V.nilslice,V.int .i64 0,V.int .i64 0] 0 [v]=some zs:=by rw[hzs];rfl
 have vc:v.cells=[v]:=by rcases hrd.inv with⟨rfl,_⟩|⟨_,_,_,rfl,_⟩<;>rfl
 have f0:Frm (fun _=>False) aw (aw'.fresh zs):=(hext.frm (S:=fun _=>False) fun x hx hn=>by omega).tr (HJ _ _);have hp:PSt (aw'.fresh zs) aw'.next v 0 0:=by rw[hzs];exact⟨FV _,AE.T.get_put_same⟩
 have hw:Wds (fun b=>aw.next≤b∧b<aw'.next) (aw'.fresh zs) aw'.next v ws:=⟨hrd.frm (HJ (S:=fun _=>False) _ _) fun _ _ h=>h,fun h=>by omega,by omega⟩;refine Ho 1000 (by simp only[go_sem,Hn,WH,UM,h8,Hw,HF,vc,hov,FC,FD];rfl) ?_
 refine HT (ML (aw'.fresh zs) aw'.next v ws (.int .i64 (Fq e0)) (PK ws (ws.length+1) [] 0 0)) (Jqo (aw'.fresh zs) aw'.next v (.int .i64 (Fq e0)) (PK ws (ws.length+1) [] 0 0)) (fun n f w hI ih out=>Jnf C hw wok (fun x hx=>Nat.lt_succ_of_lt hx.2) (FV _) hI ih out) ?_ (ws.length+1)
  ⟨[],0,0,.nilslice,fun _=>False,fun _=>False,[],⟨(by simp only[go_sem,Hn]<;>rfl),(by simp only[go_sem,Hn]<;>rfl),(by simp only[go_sem,Hn]<;>rfl)⟩,⟨hp,Frm.refl _,.nil,.nil,fun _ h=>h.elim,fun _ h=>h.elim⟩,by simp,by omega,fun _=>by omega,rfl,by simp⟩
 rintro f w ⟨rv,S,T,xss,⟨f5,f6,f7⟩,hA⟩;generalize PK ws (ws.length+1) [] 0 0=rr at hA h;obtain⟨rules,k,e⟩:=rr;simp only at hA h;refine Ho 1000 (by simp only[go_sem,Hn,f5,f6];rfl) ?_;refine Hq (by simp only[go_sem,Hn]) (by simp only[go_sem,Hn];rfl) ?_;refine Bz C (x:=e0) hA.p fun w3 u3 u4 u5=>?_;have l2:=u3.l2;have n4:=u4.next;have nn:(aw'.fresh zs).next=aw'.next+1:=rfl
 have fr3:Frm (fun _=>False) aw w3:=by
  refine f0.trans (hA.frm.tr u4) (fun _ _ h=>h) ?_;rintro x hx rfl;omega
 by_cases hz:KZ e e0=0
 ·rw[if_pos hz]at h;rw[hz]at l2;refine Ho 1000 (by simp only[go_sem,Hn,WG,f6,f7,l2];rfl) ?_;refine Hp ⟨_,by simp only[go_sem,Hn,J6];rfl,?_⟩;have nS:∀x,S x→¬x=aw'.next:=fun x hx he=>by have:=(hA.sepS x hx).1;omega
  have nT:∀x,T x→¬x=aw'.next:=fun x hx he=>by have:=(hA.sepT x hx).1;omega
  refine h w3 rv (fun x=>S x∨T x) ⟨xss,(hA.buf.rd.frm u4 nS).mono fun _ h=> .inl h,hA.rls.imp fun r ys hr=>(hr.frm u4 nT).mono fun _ h=> .inr h⟩ fr3 ?_;rintro x (hx|hx)
  ·have:=hA.sepS x hx;exact⟨by omega,by omega⟩
  ·have:=hA.sepT x hx;exact⟨by omega,by omega⟩
 ·rw[if_neg hz]at h;refine Ho 1000 (by simp only[go_sem,Hn,WG,UL,f6,f7,l2,hz];rfl) ?_;refine Hp ⟨_,by simp only[go_sem,Hn,J6];rfl,?_⟩;exact h w3 .nilslice (fun _=>False) ⟨[],.nil,.nil⟩ fr3 fun _ h=>h.elim
end
end Go.Proofs.YtegdcbdicpfbpaaDoor
