/- A part of the proof. -/
import Derived.Test.YtegdcbdicpfbpaaDoorJxP
import Derived.Test.YtegdcbdicpfbpaaDoorJxI
import Derived.Test.YtegdcbdicpfbpaaDoorJxL
import Derived.Sort.KeysCollected
import Derived.Test.YtegdcbdicpfbpaaDoorJxM
open Int renaming ofNat → Fq
open Go.IntKind renaming wrap → KX
set_option linter.unusedVariables false
set_option maxRecDepth 10000
set_option linter.unusedSimpArgs false
namespace Go.Proofs.YtegdcbdicpfbpaaDoor
open Go.AE Delphi Val
variable {tab:Tab}
def K6 (r:Rl) (first:Int) (dq:Option (Nat×List (List Int))) (sets:List Nat→Option (Nat×List (List Int))) (most:Int):JE :=
 ⟨r.head,r.body,(HU r first).1,(List.range ((HU r first).1.length+1)).map (PO r.head r.body (HU r first).1),fun i=>if Fq i=first then dq else sets (HA r.body i).name,most⟩
def Pw (r:Rl) (first:Int) (dq:Option (Nat×List (List Int))) (sets:List Nat→Option (Nat×List (List Int))) (most:Int) (ts:List Tk):JS :=
 Pv (K6 r first dq sets most) (HU r first).1.length 0 [] ⟨K8 ts r.body,[],[]⟩
structure SomeB (r:Rl) (dq:Option (Nat×List (List Int))) (sets:List Nat→Option (Nat×List (List Int))):Prop where
 bd:RBr r
 h4:r.head.args.length≤4
 bk:∀l∈r.body,l.kind≠1→l.kind≠2→3≤l.kind∧l.kind≤6∧l.args.length=2
 hc:∀t∈r.head.args,t.kind≠1→TkOk (Hz t)
 bc:∀l∈r.body,∀t∈l.args,t.kind≠1→TkOk (Hz t)∧HV (Hz t)=true
 w4:∀nm x,sets nm=some x→x.1≤4
 rl:∀nm x,(dq=some x∨sets nm=some x)→x.2.length≤1000000∧∀r∈x.2,r.length=x.1∧∀n∈r,n.natAbs≤100000
def MP (r:Rl):List Tk:=(r.head.args++r.body.flatMap Lt.args).map Hz
variable {r:Rl}
theorem JnZ (h:RBr r):(MP r).length≤40:=by
 unfold MP;rw[F7,FE];have h1:=h.head;have h2:=h.body
 have:∀(b:List Lt),(∀l∈b,l.args.length≤5)→(b.flatMap Lt.args).length≤5*b.length:=by
  intro b;induction b with
  | nil=>intro _;simp
  | cons l b ih =>
   intro hb;rw[Kw,FE,FC];have:=ih fun x hx=>hb x (FO _ hx);have:=hb l Fj;omega
 have:=this r.body h.args;omega
variable {first:Int}
theorem JoK (hbd:RBr r)(h:La r first):(∀i∈(HU r first).1,i<r.body.length)∧(HU r first).1.length≤r.body.length:=by
 have hinv:=NH (body:=r.body) hbd.args (r.body.length-(P1 r.body first).1.length) _ (NU hbd h);refine⟨hinv.lt,?_⟩;refine NI _ _ ?_;have:=Au r.body first;by_cases h0:0≤first
 ·have:=h.2.2.1;omega
 ·simp[P1,h0]
theorem Jp7 (C:Codes tab)(I:Bi tab)(P:O0 tab){most:Int}{xs:List V}{dq:Option (Nat×List (List Int))}{sets:List Nat→Option (Nat×List (List Int))}{sty sfn tb mb:Nat}{sv dp tv:V}{O S:Fw}{ts:List Tk}{w:AW}{K:V→AW→Prop}(hb:SomeB r dq sets)(hsl:HY [(44,Jo,none)] sty=some (sfn,none))(hdv:dp.cells=[dp])(hr:RlC O w r xs)(hT:TabW tb mb tv S ts w)(hst:Dc tab O w sfn sv sets)(hd:SetQ O w dp dq)(hO:∀x,O x→x<w.next∧¬S x∧x≠tb∧x≠mb)(hts:ts.length≤60000)(hrl:La r first→(Pw r first dq sets most ts).rows.length≤1000000)(h1:¬La r first→∀w',Frm (fun _=>False) w w'→K .nilslice w')(h2:La r first→∀v w' tv' S' cs S1 T1,TabW tb mb tv' S' (Pw r first dq sets most ts).ts w'→Frm (fun x=>S x∨x=tb∨x=mb) w w'→(∀x,S' x→S x∨w.next≤x)→Rel.ListOf w.next w' v (Pw r first dq sets most ts).rows cs S1 T1→(∀x,S1 x∨T1 x→¬S' x)→Rel.Rise (Pw r first dq sets most ts).rows∧(∀x∈(Pw r first dq sets most ts).rows,x.length=r.head.args.length)→K v w'): WF tab VJ [.agg xs,.ptr tb 0,.iface sty sv,.int .i64 first,dp,.int .i64 most] w K:=by
 refine Hy C.YC rfl ?_;have hxl:=hr.one;obtain⟨w1,e1,c1,r1,m1⟩:=Lc w xs;have k4:w1.load w.next 0 4=some xs:=c1.all hxl.1;have hcx:V.cells (.agg xs)=xs:=rfl;refine Fz (by simp only[go_sem,Hn,J8,UV,hcx,e1,k4];rfl) ?_;refine Hq Ff Fe ?_;refine JpR C (hr.frm r1 fun _ _ h=>h) hb.bd (fun w2 hno g2=>?_) (fun w2 ov bv So Sb hok q1 q2 g2 q3=>?_)
 ·obtain⟨w3,s3,c3,r3,n3⟩:=PA w2 (zs:=[V.nilslice,V.nilslice]) (vs:=[V.nilslice,V.nilslice]) rfl rfl;refine Fz (by simp only[go_sem,Hn,s3,FC,FD,WK,UO];rfl) ?_;refine Hp ⟨_,by simp only[go_sem,Hn,J8];rfl,?_⟩;exact h1 hno w3 ((r1.tr g2).tr r3)
 have hone:HB [ov,bv]=true:=by
  rw[Sl];intro x hx;simp at hx;rcases hx with rfl|rfl
  ·exact q1.one.1
  ·exact q2.one.1
 obtain⟨w3,s3,c3,r3,n3⟩:=PA w2 (zs:=[V.nilslice,V.nilslice]) (vs:=[ov,bv]) rfl hone;have g13:=g2.tr r3;have c13:=c1.frm g13 fun h=>h;have k4':w3.load w.next 0 4=some xs:=c13.all hxl.1;have l2:w3.load w2.next 0 2=some [ov,bv]:=c3.all rfl;obtain⟨hv,xb,rfl,hh,hu⟩:=hr;have k2:w3.load w.next 2 1=some [hv]:=CB.ld c13 2 1 _ rfl;have hhl:=hh.lenV;have hp1:eqV .ptr (.ptr tb 0) .nilptr=some false:=rfl;have hp2:eqV .iface (.iface sty sv) .niliface=some false:=rfl;refine Fz (by simp only[go_sem,Hn,s3,FC,FD,WK,hp1,hp2,UU];rfl) ?_;refine Pg ?_;have cm1:SM (w3.new (.map [] 0)) w3.next ([]:Vm):=MB.new w3;have fm1:Frm (fun _=>False) w3 (w3.new (.map [] 0)):=Te w3;have nm1:(w3.new (.map [] 0)).next=w3.next+1:=rfl;generalize hw4:w3.new (.map [] 0)=w4 at cm1 fm1 nm1;have cm2:SM (w4.new (.map [] 0)) w4.next ([]:Vm):=MB.new w4;have fm2:Frm (fun _=>False) w4 (w4.new (.map [] 0)):=Te w4;have nm2:(w4.new (.map [] 0)).next=w4.next+1:=rfl;generalize hw5:w4.new (.map [] 0)=w5 at cm2 fm2 nm2;have cm1:=cm1.frm fm2 fun h=>h;have g35:=fm1.tr fm2;have k2':w5.load w.next 2 1=some [hv]:=CB.ld (c13.frm g35 fun h=>h) 2 1 _ rfl;have hl5:([.int .i64 (Fq r.head.kind),.str r.head.name,hv,xb]:List V).length=4:=rfl;refine HQ 100 (by simp only[go_sem,Hn,k4',l2,hw4,hw5,k2',hhl];rfl) ?_;refine Pp Ff Fe ?_;refine Rel.new_ok C hb.h4 fun w6 hset g6 n6=>?_;have g36:=g35.tr g6;obtain⟨w7,e7,c7,r7,m7⟩:=Lc w6 [V.int .i64 (Fq r.head.kind),.str r.head.name,hv,xb,.ptr tb 0,.iface sty sv,ov,bv,.int .i64 first,dp,.nilslice,.map w3.next,.map w4.next,.ptr w5.next 0,.int .i64 most];have hcc1:V.cells (.agg [V.int .i64 (Fq r.head.kind),.str r.head.name,hv,xb])=[V.int .i64 (Fq r.head.kind),.str r.head.name,hv,xb]:=rfl;have hcc2:V.cells (.agg [ov,bv])=[ov,bv]:=rfl;have hcc3:V.cells (.iface sty sv)=[.iface sty sv]:=rfl;have n35:=g35.next;have k4'':w6.load w.next 0 4=some [V.int .i64 (Fq r.head.kind),.str r.head.name,hv,xb]:=(c13.frm g36 fun h=>h).all rfl;refine HQ 100 (by simp only[go_sem,Hn,Hw,HF,over,hcc1,hcc2,hcc3,hdv,Sq,FC,FD,HC,e7];rfl) ?_;have k4a:w4.load w.next 0 4=some [V.int .i64 (Fq r.head.kind),.str r.head.name,hv,xb]:=(c13.frm fm1 fun h=>h).all rfl;have k4b:w5.load w.next 0 4=some [V.int .i64 (Fq r.head.kind),.str r.head.name,hv,xb]:=(c13.frm g35 fun h=>h).all rfl;have l2a:w4.load w2.next 0 2=some [ov,bv]:=(c3.frm fm1 fun h=>h).all rfl;have l2b:w5.load w2.next 0 2=some [ov,bv]:=(c3.frm g35 fun h=>h).all rfl;have l2c:w6.load w2.next 0 2=some [ov,bv]:=(c3.frm g36 fun h=>h).all rfl;have k2a:w4.load w.next 2 1=some [hv]:=CB.ld (c13.frm fm1 fun h=>h) 2 1 _ rfl;refine Pk ⟨(show HP _ _ [(0,6),(0,7),(0,12),(3,6),(3,7),(3,12),(10,6),(10,7)]from by simp only[go_sem,Hn,HP,chk,List.reverse_cons,List.reverse_nil,H9,Po,Pm,Pn,List.getElem?_nil,false_or,or_true,or_false,exists_eq',FP,Prod.mk.injEq,Bool.true_eq_false,FM,and_true,true_and,implies_true,k4',k4a,k4b,k4'',l2,l2a,l2b,l2c,k2,k2a,k2']),?_⟩;have g37:=g36.tr r7;have g07:Frm (fun _=>False) w w7:=((r1.tr g13).tr g37);have nn1:=r1.next;have nn13:=g13.next;have nn36:=g36.next;have n67:=r7.next;have j3:w7.load w.next 3 1=some [xb]:=CB.ld (c13.frm g37 fun h=>h) 3 1 _ rfl;have hul:=TC hu;have hT7:=hT.step0 g07;have hO7:∀x,O x→x<w7.next∧¬S x∧x≠tb∧x≠mb:=fun x hx=>⟨FK (hO x hx).1 g07.next,(hO x hx).2⟩;have hOw:∀x,O x→x<w.next:=fun x hx=>(hO x hx).1;have hu7:RdL (LtC O) O w7 xb 3 r.body:=hu.frm (fun _ _ h=>h.frm g07 fun _ _ h=>h) g07 fun _ _ h=>h;have hh7:=hh.frm g07 fun _ _ h=>h;have hb7:=hb.bd.body;have ha5:=hb.bd.args;have hpl:=JoK hb.bd hok;have hal:∀l∈r.body,l.args.length≤10:=fun l hl=>by have:=ha5 l hl;omega
 have hSl:∀x,S x→x<w.next:=fun x hx=>(hT.s x hx).1;have htbl:=hT.a.lt;have hmbl:=hT.m.lt;refine Fz (by simp only[go_sem,Hn,UT,j3,hul];rfl) ?_;refine JoY (jb:=w6.next) (b6:=w.next) (O:=O) C hT7 hu7 hO7 Fh hal Fh hb.bc ⟨Fb,Fb,Fb⟩ Fb Fb Fb fun f8 w8 tv8 S8 hF8 t8 g8 s8=>?_;obtain⟨f1,f6,f15⟩:=hF8;have n78:=g8.next
 have hR8:∀x,w.next≤x→¬(S x∨x=tb∨x=mb):=fun x hx h=>by
  rcases h with h|h|h
  ·have:=hSl x h;omega
  ·omega
  ·omega
 have hRO:∀x,O x→¬(S x∨x=tb∨x=mb):=fun x hx h=>by
  obtain⟨_,h1,h2,h3⟩:=hO x hx;rcases h with h|h|h
  ·exact h1 h
  ·exact h2 h
  ·exact h3 h
 obtain⟨cells,hcells⟩:∃c,c=[V.int .i64 (Fq r.head.kind),.str r.head.name,hv,xb,.ptr tb 0,.iface sty sv,ov,bv,.int .i64 first,dp,.nilslice,.map w3.next,.map w4.next,.ptr w5.next 0,.int .i64 most]:=⟨_,rfl⟩;rw[←hcells]at c7;have c8:=c7.frm g8 (hR8 _ Fh);have hSoN:∀x,So x→w.next≤x∧x<w3.next:=fun x hx=>by have:=q3 x (.inl hx);have:=r3.next;omega
 have q1':Bt So w8 ov 1 (HU r first).1.length (PV (HU r first).1):=((q1.frm r3 fun _ _ h=>h).frm g37 fun _ _ h=>h).frm g8 fun x hx=>hR8 x (hSoN x hx).1;have hu8:RdL (LtC O) O w8 xb 3 r.body:=hu7.frm (fun _ _ h=>h.frm g8 hRO) g8 hRO;have hh8:=hh7.frm g8 hRO
 have hO1:∀x,(O x∨So x)→x<w8.next∧x≠w6.next:=fun x hx=>by
  rcases hx with hx|hx
  ·have:=hOw x hx;omega
  ·have:=hSoN x hx;omega
 refine Fz (by simp only[go_sem,Hn,f15];rfl) ?_;refine Hq Ff Fe ?_;refine JoG (O:=fun x=>O x∨So x) (head:=r.head) (body:=r.body) (order:=(HU r first).1) C c8 (by rw[hcells];rfl) (by rw[hcells];rfl) (by rw[hcells];rfl) (by rw[hcells];rfl) (hh8.mono fun _ h=> .inl h) (TD hu8 fun _ h=> .inl h) (q1'.mono fun _ h=> .inr h) hO1 hpl.1 hal (by have:=hb.bd.head;omega) Fh Fh fun w9 nv ncs R9 c9 nv1 hnv hns g9 hR9=>?_;have n89:=g9.next;have e9:cells.set 10 nv=[V.int .i64 (Fq r.head.kind),.str r.head.name,hv,xb,.ptr tb 0,.iface sty sv,ov,bv,.int .i64 first,dp,nv,.map w3.next,.map w4.next,.ptr w5.next 0,.int .i64 most]:=by rw[hcells];rfl
 have j13:w9.load w6.next 13 1=some [.ptr w5.next 0]:=CB.ld c9 13 1 _ (by rw[e9];rfl);have hp3:eqV .ptr (.ptr w5.next 0) .nilptr=some false:=rfl;have nj:∀x,x<w.next→¬x=w6.next:=fun x hx=>by omega
 have hE:JPure (K6 r first dq sets most) first dq sets (K8 ts r.body) (MP r):=by
  have hcl:=JnZ hb.bd;have hil:=Em (ts:=ts) (n:=10) hal;refine⟨fun i hi=>rfl,hb.w4,fun i x hx=>?_,hpl.1,by show (HU r first).1.length≤100;omega,by simp[K6],fun l hl=>?_,by have:=hb.bd.head;show r.head.args.length≤10;omega,hal,hb.bk,by show r.body.length≤100;omega,fun t ht hk=>⟨hb.hc t ht hk,?_⟩,fun l hl t ht hk=>⟨(hb.bc l hl t ht hk).1,?_⟩,by omega⟩
  ·have hx:(if Fq i=first then dq else sets (HA r.body i).name)=some x:=hx;split at hx
   ·exact hb.rl [] x (.inl hx)
   ·exact hb.rl _ x (.inr hx)
  ·simp only[K6,Kc,List.mem_range]at hl;obtain⟨k,_,rfl⟩:=hl;exact Kj (QV (k:=k) hal (by have:=hb.bd.head;omega) Fh).2 Fh
  ·exact List.mem_map.2 ⟨t,List.mem_append_left _ ht,rfl⟩
  ·exact List.mem_map.2 ⟨t,List.mem_append_right _ (List.mem_flatMap.2 ⟨l,hl,ht⟩),rfl⟩
 have g79:Frm (fun x=>(S x∨x=tb∨x=mb)∨x=w6.next) w7 w9:=g8.trans g9 (fun _ _ h=> .inl h) fun _ _ h=> .inr h;have g09:Frm (fun x=>(S x∨x=tb∨x=mb)∨x=w6.next) w w9:=g07.trans g79 (fun _ _ h=>h.elim) fun _ _ h=>h;have hO9:∀x,O x→¬((S x∨x=tb∨x=mb)∨x=w6.next):=fun x hx h=>h.elim (hRO x hx) (nj x (hOw x hx));have hj9:∀x,So x→¬x=w6.next:=fun x hx=>by have:=hSoN x hx;omega
 have hlt9:∀x,(O x∨So x∨x=w6.next∨R9 x)→x<w9.next:=fun x hx=>by
  rcases hx with hx|hx|hx|hx
  ·have:=hOw x hx;omega
  ·have:=hSoN x hx;omega
  ·omega
  ·exact (hR9 x hx).2
 have hS:JStat tab (fun x=>O x∨So x∨x=w6.next∨R9 x) w9 w6.next tb w3.next w4.next (K6 r first dq sets most) (cells.set 10 nv) (.ptr w5.next 0) sv first dq sets sty sfn:=by
  rw[e9]at c9 ⊢;refine⟨c9,.inr (.inr (.inl rfl)),⟨_,rfl,⟨hv,rfl,(hh.frm g09 hO9).mono fun _ h=> .inl h⟩⟩,⟨xb,rfl,TD (hu.frm (fun _ _ h=>h.frm g09 hO9) g09 hO9) fun _ h=> .inl h⟩,rfl,rfl,⟨ov,rfl,((q1'.frm g9 hj9).rd).mono fun _ h=> .inr (.inl h)⟩,rfl,⟨dp,rfl,(hd.frm g09 hO9).mono (fun _ h=> .inl h) hlt9⟩,⟨nv,ncs,rfl,?_,fun k l hl=>?_⟩,rfl,rfl,rfl,rfl,?_⟩
  ·have e:(K6 r first dq sets most).need.length=(HU r first).1.length+1:=by simp[K6]
   rw[e];exact hnv.mono fun _ h=> .inr (.inr (.inr h))
  ·simp only[K6,F6]at hl;by_cases hk:k<(HU r first).1.length+1
   ·rw[List.getElem?_range hk]at hl;have hl:=FX hl;obtain⟨sv',h4,h5⟩:=hns k Fh;rw[hl]at h5;exact⟨sv',h4,h5.mono fun _ h=> .inr (.inr (.inr h))⟩
   ·rw[List.getElem?_eq_none (by rw[List.length_range];omega)]at hl;cases hl
  ·intro R w' g' hd' nm K' hK;refine hst (fun x=>((S x∨x=tb∨x=mb)∨x=w6.next)∨R x) w' (g09.trans g' (fun _ _ h=> .inl h) fun _ _ h=> .inr h) (fun x hx h=>h.elim (hO9 x hx) (hd' x (.inl hx))) nm K' fun w2 p g2 hq=>hK w2 p g2 (hq.mono (fun _ h=> .inl h) fun x hx=>FK (hlt9 x hx) (Kj g'.next g2.next))
 have hD:Dyn (fun x=>O x∨So x∨x=w6.next∨R9 x) tb mb w4.next w3.next (.ptr w5.next 0) (K6 r first dq sets most).head.args.length w9 tv8 S8 (fun b=>b=w5.next) [] ⟨K8 ts r.body,[],[]⟩:=by
  have hnew:∀x,w.next≤x→x<w7.next→¬S8 x:=fun x h1 h2 h=>by
   rcases s8 x h with h|h
   ·have:=hSl x h;omega
   ·omega
  have hn79:∀x,w.next≤x→x≠w6.next→¬((S x∨x=tb∨x=mb)∨x=w6.next):=fun x hx hn h=>h.elim (hR8 x hx) hn;have c1m:=(((cm1.frm g6 fun h=>h).frm r7 fun h=>h).frm g79 (hn79 _ Fh Fh));have c2m:=(((cm2.frm g6 fun h=>h).frm r7 fun h=>h).frm g79 (hn79 _ Fh Fh));have s6:Rel.SetOf (fun b=>b=w5.next) w9 (.ptr w5.next 0) r.head.args.length []:=(hset.frm r7 fun _ _ h=>h).frm g79 fun x hx=>by subst hx;exact hn79 _ Fh Fh
  refine⟨t8.step g9 (fun e=>by omega) (fun e=>by omega) fun x hx e=>hnew x Fh Fh hx,c2m,c1m,s6,fun x hx=>⟨fun e=>hnew x Fh Fh hx,fun e=>hnew x Fh Fh hx,fun e=>hnew x Fh Fh hx,fun ho=>?_⟩,fun x hx=>⟨by omega,by omega,by omega,by omega,fun ho=>?_,by omega⟩,⟨fun ho=>?_,fun ho=>?_,fun ho=>?_,fun ho=>?_⟩,⟨by omega,by omega,by omega,by omega,by omega⟩,hlt9⟩
  ·rcases ho with ho|ho|ho|ho
   ·rcases s8 x hx with h|h
    ·exact (hO x ho).2.1 h
    ·have:=hOw x ho;omega
   ·have:=hSoN x ho;exact hnew x Fh Fh hx
   ·exact hnew x Fh Fh hx
   ·have:=(hR9 x ho).1;have:=(t8.s x hx).1;omega
  ·rcases ho with ho|ho|ho|ho
   ·have:=hOw x ho;omega
   ·have:=hSoN x ho;omega
   ·omega
   ·have:=(hR9 x ho).1;omega
  ·rcases ho with ho|ho|ho|ho
   ·exact (hO _ ho).2.2.1 rfl
   ·have:=hSoN _ ho;omega
   ·omega
   ·have:=(hR9 _ ho).1;omega
  ·rcases ho with ho|ho|ho|ho
   ·exact (hO _ ho).2.2.2 rfl
   ·have:=hSoN _ ho;omega
   ·omega
   ·have:=(hR9 _ ho).1;omega
  ·rcases ho with ho|ho|ho|ho
   ·have:=hOw _ ho;omega
   ·have:=hSoN _ ho;omega
   ·omega
   ·have:=(hR9 _ ho).1;omega
  ·rcases ho with ho|ho|ho|ho
   ·have:=hOw _ ho;omega
   ·have:=hSoN _ ho;omega
   ·omega
   ·have:=(hR9 _ ho).1;omega
 refine Fz (by simp only[go_sem,Hn,US,f15,j13,hp3,UQ];rfl) ?_;refine Hq Ff Fe ?_;have hM0:MOk []:=fun v=>by simp[HM,Hr]
 refine JkA C I P hE hsl (HU r first).1.length 0 (FU _) hS hD hM0 (TsIn.refl _ _) (hrl hok) fun w10 tv10 S10 So10 d10 m10=>?_;have j13':w10.load w6.next 13 1=some [.ptr w5.next 0]:=CB.ld (c9.frm m10.f (hD.dis _ (.inr (.inr (.inl rfl))))) 13 1 _ (by rw[e9];rfl);refine Fz (by simp only[go_sem,Hn,UR,f15,j13'];rfl) ?_;refine Hq Ff Fe ?_;refine Rel.all_ok C d10.o (hrl hok) fun v w11 cs S1 T1 hL g11=>?_;refine Ho 1000 Fe ?_;refine Hp ⟨_,by simp only[go_sem,Hn,J8];rfl,?_⟩;have n10:=m10.f.next;have n11:=g11.next;refine h2 hok v w11 tv10 S10 cs S1 T1 (d10.t.step0 g11) ?_ (fun x hx=>?_) (hL.weaken Fh) (fun x hx hs=>?_) (by obtain⟨_,_,_,_,_,_,hz⟩:=d10.o;exact⟨hz.rise,hz.wid⟩)
 ·refine ((g09.trans m10.f (fun x hx h=>?_) fun x hx h=>?_).trans g11 (fun _ _ h=>h) fun _ _ h=>h.elim)
  ·exact h.elim id fun e=>absurd e (nj x hx)
  ·rcases h with h|h|h|h|h|h
   ·rcases s8 x h with h|h
    ·exact .inl h
    ·omega
   ·omega
   ·exact .inr (.inl h)
   ·exact .inr (.inr h)
   ·omega
   ·omega
 ·rcases m10.s x hx with h|h
  ·rcases s8 x h with h|h
   ·exact .inl h
   ·right;omega
  ·right;omega
 ·have:=(d10.t.s x hs).1;rcases hx with hx|hx
  ·have:=(hL.2.2.1 x hx).1;omega
  ·have:=(hL.2.2.2 x hx).1;omega
section
open Go.AE Delphi Val
abbrev Nv:=List Nat→Int
def Lg (ts0:List Tk) (ν:Nv) (t:Tm):Int:=if t.kind=1 then ν t.name else Fq (PE ts0 (Hz t))
def P9 (ts0:List Tk) (ν:Nv) (t:Tm):Tk:=if t.kind=1 then H3 ts0 (ν t.name)else Hz t
def inN (q:Option (Nat×List (List Int))) (l:List Int):Prop:=∃x,q=some x∧l∈x.2
def BN (ts0:List Tk) (ν:Nv) (l:Lt):Bool:=match l.args with
 | [a,b]=>OX l.kind (P9 ts0 ν a) (P9 ts0 ν b)
 | _=>false
def O9 (ts0:List Tk) (q:Option (Nat×List (List Int))) (l:Lt) (ν:Nv):Prop :=
 if l.kind=1 then inN q (l.args.map (Lg ts0 ν))else if l.kind=2 then ¬inN q (l.args.map (Lg ts0 ν))else BN ts0 ν l=true
def agr (M:Vm) (ν:Nv):Prop:=∀v n,Hr M v=some n→ν v=n
def Oh (E:JE) (ts0:List Tk) (k:Nat) (M:Vm) (h:List Tk):Prop:=∃ν,agr M ν∧(∀j,k≤j→j<E.order.length→O9 ts0 (E.sets (PW E j)) (HR E j) ν)∧h=E.head.args.map (P9 ts0 ν)
def bvK (E:JE) (k:Nat) (v:List Nat):Prop:=∃j,j<k∧(HR E j).kind=1∧∃t∈(HR E j).args,t.kind=1∧t.name=v
structure VldM (E:JE) (ts0:List Tk) (k:Nat) (M:Vm):Prop where
 dom:∀v,(∃n,Hr M v=some n)↔bvK E k v
 rng:∀v n,Hr M v=some n→1≤n∧n≤(ts0.length:Int)
variable {M:Vm} {v:List Nat}
theorem Iu {n:Int}(h:Hr M v=some n):HM M v=n:=by unfold HM;rw[h];rfl
theorem Jo3 (h:0<HM M v):Hr M v=some (HM M v):=by
 unfold HM at h ⊢;cases hg:Hr M v with
 | none=>rw[hg]at h;exact absurd h (by decide)
 | some n=>rfl
def mt (ν:Nv):List Tm→List Int→Prop
 | t::ts,n::ns=>(t.kind=1→ν t.name=n)∧mt ν ts ns
 | _,_=>True
theorem Jpm {n:Int}{ν:Nv}(hM:Hr M v=none):agr (Pe M v n) ν↔agr M ν∧ν v=n:=by
 constructor
 ·intro h;refine⟨fun u m hu=>?_,h v n (HD _ _ _)⟩;have hne:u≠v:=by rintro rfl;rw[hM]at hu;cases hu
  exact h u m (by rw[HX _ _ _ _ hne];exact hu)
 ·rintro⟨h1,h2⟩ u m hu;by_cases he:u=v
  ·subst he;rw[HD]at hu;rw[h2];exact FX hu
  ·rw[HX _ _ _ _ he]at hu;exact h1 u m hu
theorem IK (ν:Nv):∀(ts:List Tm) (ns:List Int) (M:Vm) (l2:Fx),ts.length=ns.length→ ((agr M ν∧mt ν ts ns)↔((HK ts ns M l2).2=true∧agr (HK ts ns M l2).1.1 ν))
 | [],ns,M,l2,hl=>by simp[HK,mt]
 | t::ts,[],M,l2,hl=>by simp at hl
 | t::ts,n::ns,M,l2,hl=>by
  have hl':ts.length=ns.length:=by simpa using hl
  unfold HK;simp only[mt];by_cases hk:t.kind=1
  ·rw[if_neg (by simp[hk])];cases hg:Hr M t.name with
   | some k =>
    simp only;by_cases hkn:k=n
    ·rw[if_pos hkn,←IK ν ts ns M l2 hl'];constructor
     ·rintro⟨h1,h2,h3⟩;exact⟨h1,h3⟩
     ·rintro⟨h1,h3⟩;exact⟨h1,fun _=>by rw[h1 _ _ hg,hkn],h3⟩
    ·rw[if_neg hkn];constructor
     ·rintro⟨h1,h2,_⟩;exact absurd ((h1 _ _ hg).symm.trans (h2 hk)) hkn
     ·rintro⟨h,_⟩;cases h
   | none =>
    simp only;rw[←IK ν ts ns _ _ hl',Jpm hg];constructor
    ·rintro⟨h1,h2,h3⟩;exact⟨⟨h1,h2 hk⟩,h3⟩
    ·rintro⟨⟨h1,h2⟩,h3⟩;exact⟨h1,fun _=>h2,h3⟩
  ·rw[if_pos hk,←IK ν ts ns M l2 hl'];constructor
   ·rintro⟨h1,_,h3⟩;exact⟨h1,h3⟩
   ·rintro⟨h1,h3⟩;exact⟨h1,fun h=>absurd h hk,h3⟩
theorem CQ:∀(ts:List Tm) (ns:List Int) (M:Vm) (l2:Fx),ts.length=ns.length→(HK ts ns M l2).2=true→ (∀v,(∃n,Hr (HK ts ns M l2).1.1 v=some n)↔((∃n,Hr M v=some n)∨∃t∈ts,t.kind=1∧t.name=v))∧ (∀(P:Int→Prop),(∀v n,Hr M v=some n→P n)→(∀n∈ns,P n)→∀v n,Hr (HK ts ns M l2).1.1 v=some n→P n)
 | [],ns,M,l2,hl,_=>⟨fun v=>by simp[HK],fun P h1 _ v n h=>h1 v n (by simpa[HK]using h)⟩
 | t::ts,[],M,l2,hl,_=>by simp at hl
 | t::ts,n::ns,M,l2,hl,hok=>by
  have hl':ts.length=ns.length:=by simpa using hl
  unfold HK at hok ⊢;by_cases hk:t.kind=1
  ·rw[if_neg (by simp[hk])]at hok ⊢;cases hg:Hr M t.name with
   | some k =>
    rw[hg]at hok;simp only at hok ⊢;by_cases hkn:k=n
    ·rw[if_pos hkn]at hok ⊢;obtain⟨h1,h2⟩:=CQ ts ns M l2 hl' hok;refine⟨fun v=>?_,fun P p1 p2=>h2 P p1 fun m hm=>p2 m (FO _ hm)⟩;rw[h1 v];constructor
     ·rintro (h|⟨u,hu,h⟩)
      ·exact .inl h
      ·exact .inr ⟨u,FO _ hu,h⟩
     ·rintro (h|⟨u,hu,h⟩)
      ·exact .inl h
      ·rcases List.mem_cons.1 hu with rfl|hu
       ·rw[←h.2];exact .inl ⟨k,hg⟩
       ·exact .inr ⟨u,hu,h⟩
    ·rw[if_neg hkn]at hok;cases hok
   | none =>
    rw[hg]at hok;simp only at hok ⊢;obtain⟨h1,h2⟩:=CQ ts ns (Pe M t.name n) _ hl' hok;refine⟨fun v=>?_,fun P p1 p2=>h2 P (fun v m hv=>?_) fun m hm=>p2 m (FO _ hm)⟩
    ·rw[h1 v];constructor
     ·rintro (⟨m,h⟩|⟨u,hu,h⟩)
      ·by_cases he:v=t.name
       ·exact .inr ⟨t,by simp,hk,he.symm⟩
       ·rw[HX _ _ _ _ he]at h;exact .inl ⟨m,h⟩
      ·exact .inr ⟨u,FO _ hu,h⟩
     ·rintro (⟨m,h⟩|⟨u,hu,h⟩)
      ·by_cases he:v=t.name
       ·exact .inl ⟨n,by rw[he,HD]⟩
       ·exact .inl ⟨m,by rw[HX _ _ _ _ he];exact h⟩
      ·rcases List.mem_cons.1 hu with rfl|hu
       ·exact .inl ⟨n,by rw[←h.2,HD]⟩
       ·exact .inr ⟨u,hu,h⟩
    ·by_cases he:v=t.name
     ·subst he;rw[HD]at hv;cases hv;exact p2 n Fj
     ·rw[HX _ _ _ _ he]at hv;exact p1 v m hv
  ·rw[if_pos hk]at hok ⊢;obtain⟨h1,h2⟩:=CQ ts ns M l2 hl' hok;refine⟨fun v=>?_,fun P p1 p2=>h2 P p1 fun m hm=>p2 m (FO _ hm)⟩;rw[h1 v];constructor
   ·rintro (h|⟨u,hu,h⟩)
    ·exact .inl h
    ·exact .inr ⟨u,FO _ hu,h⟩
   ·rintro (h|⟨u,hu,h⟩)
    ·exact .inl h
    ·rcases List.mem_cons.1 hu with rfl|hu
     ·exact absurd h.1 hk
     ·exact .inr ⟨u,hu,h⟩
def Og (ts0:List Tk) (M:Vm) (t:Tm):Int:=if t.kind=1 then HM M t.name else Fq (PE ts0 (Hz t))
variable {ts0 x:List Tk}
theorem Jm4 {c:Tk}(h:c∈ts0):PE (ts0++x) c=PE ts0 c:=by
 have e:∀(l m:List Tk) (k:Nat),KY k (l++m)=KY k l++KY (k+l.length) m:=by
  intro l;induction l with
  | nil=>intro m k;simp[KY]
  | cons a l ih=>intro m k;simp only[List.cons_append,KY,ih,FC];congr 3;omega
 unfold PE;rw[e,Val.aget_app,Da h]
theorem JqL {ts:List Tk}{c:Tk}(h:c∈ts)(hm:HV c=true):idT ts c=(PE ts c,ts):=by unfold idT;rw[if_pos hm,if_pos h]
theorem JkW {ts0 x:List Tk}(M:Vm):∀(l:List Tm) (acc:List Int),(∀t∈l,t.kind≠1→Hz t∈ts0∧HV (Hz t)=true)→l.foldl (PX M) (acc,ts0++x)=(acc++l.map (Og ts0 M),ts0++x)
 | [],acc,_=>by simp
 | t::l,acc,h=>by
  have ht:=h t Fj
  have e:PX M (acc,ts0++x) t=(acc++[Og ts0 M t],ts0++x):=by
   unfold PX Og;by_cases hk:t.kind=1
   ·rw[if_pos hk,if_pos hk]
   ·obtain⟨h1,h2⟩:=ht hk;rw[if_neg hk,if_neg hk];simp only;rw[JqL (List.mem_append_left _ h1) h2,Jm4 h1]
  rw[Kt,e,JkW M l _ fun u hu=>h u (FO _ hu)];simp
theorem JoS (M:Vm)(l:List Tm)(h:∀t∈l,t.kind≠1→Hz t∈ts0∧HV (Hz t)=true):HE M (ts0++x) l=(l.map (Og ts0 M),ts0++x):=by
 unfold HE;rw[JkW M l [] h];simp
theorem AV {ts0:List Tk}{M:Vm}{ν:Nv}(hM:agr M ν):∀(l:List Tm) (row:List Int),row.length=l.length→(∀t∈l,t.kind≠1→Hz t∈ts0)→(row=l.map (Lg ts0 ν)↔(Rel.fitsR row (l.map (Og ts0 M))=true∧mt ν l row))
 | [],row,hl,_=>by
  have:row=[]:=List.length_eq_zero_iff.1 hl;subst this;simp[Rel.fitsR,mt]
 | t::l,[],hl,_=>by simp at hl
 | t::l,n::row,hl,hc=>by
  have hl':row.length=l.length:=by simpa using hl
  have ih:=AV (ts0:=ts0) hM l row hl' fun u hu=>hc u (FO _ hu);simp only[Ku,List.cons.injEq,Rel.fitsR,mt,FQ,Bool.not_eq_true',Bool.and_eq_false_iff,decide_eq_false_iff_not];rw[ih];by_cases hk:t.kind=1
  ·have e1:Lg ts0 ν t=ν t.name:=if_pos hk;have e2:Og ts0 M t=HM M t.name:=if_pos hk;rw[e1,e2];constructor
   ·rintro⟨rfl,h2,h3⟩;refine⟨⟨?_,h2⟩,fun _=>rfl,h3⟩;by_cases hp:0<HM M t.name
    ·right;have:=hM _ _ (Jo3 hp);rw[this];simp
    ·exact .inl hp
   ·rintro⟨⟨_,h2⟩,h3,h4⟩;exact⟨(h3 hk).symm,h2,h4⟩
  ·have e1:Lg ts0 ν t=Fq (PE ts0 (Hz t)):=if_neg hk;have e2:Og ts0 M t=Fq (PE ts0 (Hz t)):=if_neg hk;rw[e1,e2];have hp:=CG (hc t Fj hk);constructor
   ·rintro⟨rfl,h2,h3⟩;exact⟨⟨.inr Fj,h2⟩,fun h=>absurd h hk,h3⟩
   ·rintro⟨⟨h1,h2⟩,_,h4⟩;refine⟨?_,h2,h4⟩;rcases h1 with h1|h1
    ·exact absurd (show (0:Int)<Fq (PE ts0 (Hz t))by show (0:Int)<((PE ts0 (Hz t):Nat):Int);omega) h1
    ·simpa using h1
end
section
open Go.AE Delphi Val
theorem CV (n:Int):32∉P7 n:=by
 intro h;cases n with
 | ofNat m =>
  have:=(Ty m m (FH _)).1 32 h;revert this;decide
 | negSucc m =>
  rcases List.mem_cons.1 (show (32:Nat)∈45::Lf (m+1)from h)with h|h
  ·cases h
  ·have:=(Ty (m+1) (m+1) (FH _)).1 32 h;revert this;decide
theorem Jkz {a b:Int}(ha:a.natAbs≤2147483648)(hb:b.natAbs≤2147483648)(h:P7 a=P7 b):a=b:=by
 obtain⟨h1,h2⟩:=JmG a ha;obtain⟨h3,h4⟩:=JmG b hb;rw[h]at h1 h2;have e:a.natAbs=b.natAbs:=by rw[←h1,←h3]
 have s:a<0↔b<0:=by rw[←h2,←h4]
 omega
def MW (x:List Nat):Prop:=x=[]∨∃y,x=32::y
theorem Ao:∀{a b x y:List Nat},32∉a→32∉b→MW x→MW y→a++x=b++y→a=b∧x=y
 | [],[],x,y,_,_,_,_,h=>⟨rfl,h⟩
 | [],c::b,x,y,_,hb,hx,_,h=>by
  rcases hx with rfl|⟨x',rfl⟩
  ·simp at h
  ·have h:32::x'=c::(b++y):=h;injection h with h1 _
   exact absurd (by rw[←h1];simp) hb
 | c::a,[],x,y,ha,_,_,hy,h=>by
  rcases hy with rfl|⟨y',rfl⟩
  ·simp at h
  ·have h:c::(a++x)=32::y':=h;injection h with h1 _
   exact absurd (by rw[h1];simp) ha
 | c::a,d::b,x,y,ha,hb,hx,hy,h=>by
  have h:c::(a++x)=d::(b++y):=h;injection h with h1 h2
  obtain⟨h3,h4⟩:=Ao (fun hh=>ha (FO _ hh)) (fun hh=>hb (FO _ hh)) hx hy h2;exact⟨by rw[h1,h3],h4⟩
theorem Cj (M:Vm)(l:Fx):MW (P3 M l):=by
 cases l with
 | nil=>exact .inl rfl
 | cons v l=>exact .inr ⟨_,rfl⟩
theorem NA {M M':Vm}(h1:∀v,(HM M v).natAbs≤100000)(h2:∀v,(HM M' v).natAbs≤100000):∀{l l':Fx},l=l'→P3 M l=P3 M' l'→∀v∈l,HM M v=HM M' v
 | [],_,rfl,_=>by simp
 | v::l,_,rfl,h=>by
  have h:32::(P7 (HM M v)++P3 M l)=32::(P7 (HM M' v)++P3 M' l):=h;injection h with _ h
  obtain⟨h3,h4⟩:=Ao (CV _) (CV _) (Cj M l) (Cj M' l) h;intro u hu;rcases List.mem_cons.1 hu with rfl|hu
  ·exact Jkz (by have:=h1 u;omega) (by have:=h2 u;omega) h3
  ·exact NA h1 h2 rfl h4 u hu
variable {E:JE} {k:Nat} {M:Vm}
theorem Er {k':Nat}{M':Vm}(hk:k≤1000)(hk':k'≤1000)(h1:∀v,(HM M v).natAbs≤100000)(h2:∀v,(HM M' v).natAbs≤100000)(h:Od E k M=Od E k' M'):k=k'∧∀v∈BL E k,HM M v=HM M' v:=by
 unfold Od Oe at h;obtain⟨h3,h4⟩:=Ao (CV _) (CV _) (Cj _ _) (Cj _ _) h
 have e:k=k':=by
  have:=Jkz (a:=Fq k) (b:=Fq k') (by show k≤_;omega) (by show k'≤_;omega) h3;exact Int.ofNat.inj this
 subst e;exact⟨rfl,NA h1 h2 rfl h4⟩
structure PlanOk (E:JE) (ts0:List Tk):Prop where
 lb:∀k,k<E.order.length→∀t∈(HR E k).args,t.kind≠1→Hz t∈ts0∧HV (Hz t)=true
 bound:∀k,k<E.order.length→(HR E k).kind≠1→∀t∈(HR E k).args,t.kind=1→bvK E k t.name
 hb:∀t∈E.head.args,t.kind=1→bvK E E.order.length t.name
 hm:∀t∈E.head.args,t.kind≠1→HV (Hz t)=true
 rl:∀k,k<E.order.length→∀x,E.sets (PW E k)=some x→∀r∈x.2,r.length=x.1∧∀n∈r,1≤n∧n≤(ts0.length:Int)
 nd:∀k,k≤E.order.length→∀v,v∈BL E k↔((∃t∈E.head.args,t.kind=1∧t.name=v)∨∃j,k≤j∧j<E.order.length∧∃t∈(HR E j).args,t.kind=1∧t.name=v)
 l2:∀k,k<E.order.length→(HR E k).kind≠1→(HR E k).kind≠2→(HR E k).args.length=2
 ol:E.order.length≤100
 tl:ts0.length≤90000
def LZ (s:JS):List (List Tk):=s.rows.map fun r=>r.map (H3 s.ts)
structure JInv (ts0:List Tk) (s:JS):Prop where
 ts:∃x,s.ts=ts0++x
 rng:∀r∈s.rows,∀n∈r,1≤n∧n≤(s.ts.length:Int)
def dnJ (E:JE) (s:JS):Bool:=Oa E.most s.rows.length
def Bh (E:JE) (ts0:List Tk) (K:Nat) (s:JS):Prop:=∀k M,K≤k→k≤E.order.length→VldM E ts0 k M→0<HM s.seen (Od E k M)→∀h,Oh E ts0 k M h→h∈LZ s
structure PostJ (E:JE) (ts0:List Tk) (K:Nat) (R:List Tk→Prop) (s s':JS):Prop where
 inv:JInv ts0 s'
 mono:∀h∈LZ s,h∈LZ s'
 snd:∀h∈LZ s',h∈LZ s∨R h
 cmp:dnJ E s'=false→∀h,R h→h∈LZ s'
 comp:dnJ E s'=false→Bh E ts0 K s'
 seen:∀key,0<HM s'.seen key→0<HM s.seen key∨∃k M,K≤k∧k≤E.order.length∧VldM E ts0 k M∧key=Od E k M
 smono:∀key,0<HM s.seen key→0<HM s'.seen key
 dmono:dnJ E s=true→dnJ E s'=true
variable {ts0:List Tk} {K:Nat} {R:List Tk→Prop} {s:JS}
theorem PostJ.dfalse {s':JS}(h:PostJ E ts0 K R s s')(hd:dnJ E s'=false):dnJ E s=false:=by
 cases hs:dnJ E s with
 | false=>rfl
 | true=>rw[h.dmono hs]at hd;cases hd
theorem PostJ.refl (hi:JInv ts0 s)(hc:dnJ E s=false→Bh E ts0 K s):PostJ E ts0 K (fun _=>False) s s:=
 ⟨hi,fun _ h=>h,fun _ h=> .inl h,fun _ _ h=>h.elim,hc,fun _ h=> .inl h,fun _ h=>h,fun h=>h⟩
variable {R':List Tk→Prop}
theorem PostJ.trans {s1 s2:JS}(h:PostJ E ts0 K R s s1)(h':PostJ E ts0 K R' s1 s2):PostJ E ts0 K (fun x=>R x∨R' x) s s2 where
 inv:=h'.inv
 mono x hx:=h'.mono x (h.mono x hx)
 snd x hx:=by
  rcases h'.snd x hx with h1|h1
  ·rcases h.snd x h1 with h2|h2
   ·exact .inl h2
   ·exact .inr (.inl h2)
  ·exact .inr (.inr h1)
 cmp hd x hx:=by
  rcases hx with hx|hx
  ·exact h'.mono x (h.cmp (h'.dfalse hd) x hx)
  ·exact h'.cmp hd x hx
 comp:=h'.comp
 seen key hk:=by
  rcases h'.seen key hk with h1|h1
  ·exact h.seen key h1
  ·exact .inr h1
 smono key hk:=h'.smono key (h.smono key hk)
 dmono hd:=h'.dmono (h.dmono hd)
theorem PostJ.iff {s':JS}(h:PostJ E ts0 K R s s')(hr:∀x,R x↔R' x):PostJ E ts0 K R' s s':=
 ⟨h.inv,h.mono,fun x hx=>(h.snd x hx).imp id (hr x).1,fun hd x hx=>h.cmp hd x ((hr x).2 hx),h.comp,h.seen,h.smono,h.dmono⟩
theorem SE (h:VldM E ts0 k M)(ht:ts0.length≤90000):∀v,(HM M v).natAbs≤100000:=by
 intro v;unfold HM;cases hg:Hr M v with
 | none=>simp
 | some n =>
  have:=h.rng v n hg;show n.natAbs≤100000;omega
theorem JoP (hE:PlanOk E ts0){M':Vm}(hk:k≤E.order.length)(h1:VldM E ts0 k M)(h2:VldM E ts0 k M')(hs:∀v∈BL E k,HM M v=HM M' v){h:List Tk}(hr:Oh E ts0 k M h):Oh E ts0 k M' h:=by
 obtain⟨ν,ha,hsat,rfl⟩:=hr
 let ν':Nv:=fun v=>match Hr M' v with
  | some n=>n
  | none=>ν v
 have hn:∀v∈BL E k,ν' v=ν v:=by
  intro v hv;show (match Hr M' v with|some n=>n|none=>ν v)=ν v;cases hg:Hr M' v with
  | none=>rfl
  | some n =>
   obtain⟨m,hm⟩:=(h1.dom v).2 ((h2.dom v).1 ⟨n,hg⟩);have:=hs v hv;rw[Iu hm,Iu hg]at this;rw[ha v m hm,this]
 have hnum:∀t:Tm,(t.kind=1→t.name∈BL E k)→Lg ts0 ν' t=Lg ts0 ν t∧P9 ts0 ν' t=P9 ts0 ν t:=by
  intro t ht;unfold Lg P9;by_cases hk1:t.kind=1
  ·rw[if_pos hk1,if_pos hk1,if_pos hk1,if_pos hk1,hn _ (ht hk1)];exact⟨rfl,rfl⟩
  ·rw[if_neg hk1,if_neg hk1,if_neg hk1,if_neg hk1];exact⟨rfl,rfl⟩
 refine⟨ν',fun v n hv=>?_,fun j hj hjl=>?_,?_⟩
 ·show (match Hr M' v with|some n=>n|none=>ν v)=n;rw[hv]
 ·have hl:∀t∈(HR E j).args,Lg ts0 ν' t=Lg ts0 ν t∧P9 ts0 ν' t=P9 ts0 ν t:=fun t ht=>hnum t fun hk1=>(hE.nd k hk t.name).2 (.inr ⟨j,hj,hjl,t,ht,hk1,rfl⟩);have e1:(HR E j).args.map (Lg ts0 ν')=(HR E j).args.map (Lg ts0 ν):=List.map_congr_left fun t ht=>(hl t ht).1
  have e2:BN ts0 ν' (HR E j)=BN ts0 ν (HR E j):=by
   unfold BN;cases ha:(HR E j).args with
   | nil=>rfl
   | cons a l =>
    cases l with
    | nil=>rfl
    | cons b l =>
     cases l with
     | nil =>
      simp only;rw[(hl a (by rw[ha];simp)).2,(hl b (by rw[ha];simp)).2]
     | cons c l=>rfl
  have:=hsat j hj hjl;unfold O9 at this ⊢;rw[e1,e2];exact this
 ·exact (List.map_congr_left fun t ht=>(hnum t fun hk1=>(hE.nd k hk t.name).2 (.inl ⟨t,ht,hk1,rfl⟩)).2).symm
variable {ts:List Tk}
theorem Bv {x:List Tk}{n:Int}(h1:1≤n)(h2:n≤(ts.length:Int)):H3 (ts++x) n=H3 ts n:=by
 unfold H3;rw[if_neg Fh,if_neg Fh,List.getD_eq_getElem?_getD,List.getD_eq_getElem?_getD,F4 Fh]
theorem Ei:∀{ts:List Tk} {c:Tk},c∈ts→H3 ts (Fq (PE ts c))=c∧PE ts c≤ts.length:=by
 have go:∀(ts:List Tk) (k:Nat) (c:Tk) (v:Nat),Hr (KY k ts) c=some v→ts[v-k]? = some c∧v<k+ts.length:=by
  intro ts;induction ts with
  | nil=>intro k c v h;simp[KY,Hr]at h
  | cons a ts ih =>
   intro k c v h;simp only[KY,Hr]at h;split at h
   ·rename_i he;cases h;rw[Nat.sub_self];exact⟨by rw[he];rfl,by simp⟩
   ·obtain⟨h1,h2⟩:=ih (k+1) c v h;have hg:=EL h;refine⟨?_,by simp only[FC];omega⟩;have:v-k=(v-(k+1))+1:=Fh;rw[this,Kg];exact h1
 intro ts c h;obtain⟨h1,h2⟩:=go ts 1 c _ (Da h);have h3:=CG h;refine⟨?_,by omega⟩;unfold H3;have e:¬(Fq (PE ts c)<1):=by show ¬(((PE ts c:Nat):Int)<1);omega
 rw[if_neg e,List.getD_eq_getElem?_getD];have:(Fq (PE ts c)).toNat=PE ts c:=rfl;rw[this,h1];rfl
theorem QM {c:Tk}(h:HV c=true):∃y,(idT ts c).2=ts++y∧1≤(idT ts c).1∧(idT ts c).1≤(idT ts c).2.length∧H3 (idT ts c).2 (Fq (idT ts c).1)=c:=by
 by_cases hm:c∈ts
 ·have e:idT ts c=(PE ts c,ts):=by unfold idT;rw[if_pos h,if_pos hm]
  rw[e];obtain⟨h1,h2⟩:=Ei hm;exact⟨[],by simp,CG hm,h2,h1⟩
 ·have e:idT ts c=(ts.length+1,ts++[c]):=by unfold idT;rw[if_pos h,if_neg hm]
  rw[e];refine⟨[c],rfl,by simp,by simp,?_⟩;unfold H3;have e1:¬(Fq (ts.length+1)<1):=by show ¬(((ts.length+1:Nat):Int)<1);omega
  simp only;rw[if_neg e1,List.getD_eq_getElem?_getD];have:(Fq (ts.length+1)).toNat-1=ts.length:=by show ts.length+1-1=_;omega
  rw[this,F3 (FH _),Nat.sub_self];rfl
theorem El {ts0:List Tk}{M:Vm}{ν:Nv}(hM:agr M ν)(hr:∀v n,Hr M v=some n→1≤n∧n≤(ts0.length:Int)):∀(l:List Tm) (acc:List Int) (x:List Tk),(∀t∈l,t.kind=1→∃n,Hr M t.name=some n)→(∀t∈l,t.kind≠1→HV (Hz t)=true)→(∀n∈acc,1≤n∧n≤((ts0++x).length:Int))→ ∃y,(l.foldl (PX M) (acc,ts0++x)).2=ts0++(x++y)∧(∀n∈(l.foldl (PX M) (acc,ts0++x)).1,1≤n∧n≤((ts0++(x++y)).length:Int))∧(l.foldl (PX M) (acc,ts0++x)).1.map (H3 (ts0++(x++y)))=acc.map (H3 (ts0++x))++l.map (P9 ts0 ν)
 | [],acc,x,_,_,ha=>⟨[],by simp,by simpa using ha,by simp⟩
 | t::l,acc,x,hv,hc,ha=>by
  rw[Kt];have hv':∀u∈l,u.kind=1→∃n,Hr M u.name=some n:=fun u hu=>hv u (FO _ hu);have hc':∀u∈l,u.kind≠1→HV (Hz u)=true:=fun u hu=>hc u (FO _ hu);by_cases hk:t.kind=1
  ·obtain⟨n,hn⟩:=hv t Fj hk;obtain⟨n1,n2⟩:=hr _ _ hn;have e:PX M (acc,ts0++x) t=(acc++[n],ts0++x):=by unfold PX;rw[if_pos hk,Iu hn]
   rw[e];have hln:((ts0++x).length:Int)=(ts0.length:Int)+(x.length:Int):=by rw[FE];omega
   obtain⟨y,h1,h2,h3⟩:=El hM hr l (acc++[n]) x hv' hc' (fun m hm=>by
    rcases List.mem_append.1 hm with hm|hm
    ·exact ha m hm
    ·simp at hm;subst hm;exact⟨n1,by rw[hln];omega⟩)
   refine⟨y,h1,h2,?_⟩;rw[h3,List.map_append,Ku,Kv,Ku,Bv n1 n2];have e2:P9 ts0 ν t=H3 ts0 n:=by unfold P9;rw[if_pos hk,hM _ _ hn]
   rw[e2];simp
  ·obtain⟨z,i1,i2,i3,i4⟩:=QM (ts:=ts0++x) (hc t Fj hk);have e:PX M (acc,ts0++x) t=(acc++[Fq (idT (ts0++x) (Hz t)).1],ts0++(x++z)):=by unfold PX;rw[if_neg hk,i1,F5]
   rw[e];have hz:(idT (ts0++x) (Hz t)).2=ts0++(x++z):=by rw[i1,F5]
   rw[hz]at i3 i4;have hle:((ts0++x).length:Int)≤((ts0++(x++z)).length:Int):=by simp only[FE];omega
   obtain⟨y,h1,h2,h3⟩:=El hM hr l (acc++[Fq (idT (ts0++x) (Hz t)).1]) (x++z) hv' hc' (fun m hm=>by
    rcases List.mem_append.1 hm with hm|hm
    ·have:=ha m hm;exact⟨this.1,by omega⟩
    ·simp only[FJ,FZ,or_false]at hm;subst hm;exact⟨by show (1:Int)≤((_:Nat):Int);omega,by show ((_:Nat):Int)≤_;omega⟩)
   refine⟨z++y,by rw[h1];simp,by simpa using h2,?_⟩;have e3:x++(z++y)=(x++z)++y:=Fj;rw[e3,h3,List.map_append,Ku,Kv,i4,Ku];have e2:P9 ts0 ν t=Hz t:=if_neg hk
   have e4:acc.map (H3 (ts0++(x++z)))=acc.map (H3 (ts0++x)):=List.map_congr_left fun m hm=>by
    have:=ha m hm;rw[←F5];exact Bv this.1 this.2
   rw[e2,e4];simp
end
section
open Go.AE Delphi Val
variable {x:List Int}
theorem JoD {rows:Fy}{r:List Int}:x∈Rel.insR rows r↔x∈rows∨x=r:=by
 unfold Rel.insR
 have e:x∈rows↔x∈rows.take (Rel.posn rows r)∨x∈rows.drop (Rel.posn rows r):=by
  rw[←F9,List.take_append_drop]
 rw[e];simp only[F9,Kn];constructor
 ·rintro ((h|h)|h)
  ·exact .inl (.inl h)
  ·exact .inr h
  ·exact .inl (.inr h)
 ·rintro ((h|h)|h)
  ·exact .inl (.inl h)
  ·exact .inr h
  ·exact .inl (.inr h)
theorem mem_addR {rows:Fy}{r:List Int}:x∈Lb rows r↔x∈rows∨x=r:=by
 unfold Lb;split
 ·rename_i h;constructor
  ·exact .inl
  ·rintro (h1|rfl)
   ·exact h1
   ·exact h
 ·exact JoD
theorem JmB {m:Int}{a b:Nat}(h:a≤b)(hd:Oa m a=true):Oa m b=true:=by
 unfold Oa at hd ⊢;simp only[FQ,decide_eq_true_eq]at hd ⊢;refine⟨hd.1,?_⟩;have h1:m<(a:Int):=hd.2;show m<(b:Int);omega
theorem Ry (M:Vm)(k k':List Nat)(n:Int):HM (Pe M k n) k'=if k'=k then n else HM M k':=by
 unfold HM;by_cases h:k'=k
 ·subst h;rw[if_pos rfl,HD];rfl
 ·rw[if_neg h,HX _ _ _ _ h]
variable {E:JE} {ts0:List Tk} {k:Nat} {M:Vm} {s:JS}
theorem Jjc (h:JInv ts0 s):JInv ts0 (Ow E k M s):=⟨h.ts,h.rng⟩
theorem JmQ (hE:PlanOk E ts0)(hM:VldM E ts0 E.order.length M)(hs:JInv ts0 s)(hc:dnJ E s=false→Bh E ts0 (E.order.length+1) s):PostJ E ts0 (E.order.length+1) (Oh E ts0 E.order.length M) s (OL E M s):=by
 obtain⟨x,hx⟩:=hs.ts
 let ν0:Nv:=fun v=>HM M v
 have ha0:agr M ν0:=fun v n h=>Iu h
 have hrow:∀ν,agr M ν→∃y,(HE M s.ts E.head.args).2=s.ts++y∧(∀n∈(HE M s.ts E.head.args).1,1≤n∧n≤((HE M s.ts E.head.args).2.length:Int))∧(HE M s.ts E.head.args).1.map (H3 (HE M s.ts E.head.args).2)=E.head.args.map (P9 ts0 ν):=by
  intro ν hν;obtain⟨y,h1,h2,h3⟩:=El hν hM.rng E.head.args [] x (fun t ht hk=>(hM.dom t.name).2 (hE.hb t ht hk)) hE.hm Fj;have e:HE M s.ts E.head.args=E.head.args.foldl (PX M) ([],ts0++x):=by unfold HE;rw[hx]
  rw[e,h1];refine⟨y,by rw[hx];simp,h2,?_⟩;simpa using h3
 obtain⟨y,h1,h2,h3⟩:=hrow ν0 ha0
 have hh:∀h,h∈LZ (OL E M s)↔h∈LZ s∨h=E.head.args.map (P9 ts0 ν0):=by
  intro h;unfold LZ OL;simp only[Kc,mem_addR]
  have e:∀r∈s.rows,r.map (H3 (HE M s.ts E.head.args).2)=r.map (H3 s.ts):=fun r hr=>List.map_congr_left fun n hn=>by
   have:=hs.rng r hr n hn;rw[h1];exact Bv this.1 this.2
  constructor
  ·rintro⟨r,hr|rfl,rfl⟩
   ·exact .inl ⟨r,hr,(e r hr).symm⟩
   ·exact .inr h3
  ·rintro (⟨r,hr,rfl⟩|rfl)
   ·exact⟨r,.inl hr,e r hr⟩
   ·exact⟨_,.inr rfl,h3⟩
 have hres:∀h,Oh E ts0 E.order.length M h↔h=E.head.args.map (P9 ts0 ν0):=by
  intro h;constructor
  ·rintro⟨ν,hν,_,rfl⟩;obtain⟨_,_,_,h4⟩:=hrow ν hν;rw[←h4,h3]
  ·rintro rfl;exact⟨ν0,ha0,fun j h1 h2=>by omega,rfl⟩
 refine⟨⟨⟨x++y,by show (HE M s.ts E.head.args).2=_;rw[h1,hx];simp⟩,fun r hr n hn=>?_⟩,fun h hh'=>(hh h).2 (.inl hh'),fun h hh'=>((hh h).1 hh').imp id (hres h).2,fun _ h hr=>(hh h).2 (.inr ((hres h).1 hr)),fun _ k M' hk hk'=>by omega,fun key hk=> .inl hk,fun key hk=>hk,fun hd=>JmB (A7 _ _) hd⟩;have hr:r∈Lb s.rows (HE M s.ts E.head.args).1:=hr;rcases mem_addR.1 hr with hr|rfl
 ·have:=hs.rng r hr n hn;refine⟨this.1,?_⟩;show n≤((HE M s.ts E.head.args).2.length:Int);rw[h1,FE];omega
 ·exact h2 n hn
def Mq (E:JE) (ts0:List Tk) (k:Nat) (rec:Vm→JS→JS):Prop:=∀M s,VldM E ts0 k M→JInv ts0 s→(dnJ E s=false→Bh E ts0 k s)→PostJ E ts0 k (Oh E ts0 k M) s (rec M s)
theorem Ea {E:JE}{ts0:List Tk}{K:Nat}{rec:Vm→JS→JS}{l:Lt}{M:Vm}(hrec:Mq E ts0 K rec):∀(rows:Fy) (s:JS),(∀r∈rows,(HK l.args r M []).2=true→VldM E ts0 K (HK l.args r M []).1.1)→JInv ts0 s→(dnJ E s=false→Bh E ts0 K s)→ PostJ E ts0 K (fun h=>∃r∈rows,(HK l.args r M []).2=true∧Oh E ts0 K (HK l.args r M []).1.1 h) s (Pd rec l M rows s)
 | [],s,hv,hi,hc=>(PostJ.refl hi hc).iff fun h=>by simp
 | r::rows,s,hv,hi,hc=>by
  have hv':∀r∈rows,(HK l.args r M []).2=true→VldM E ts0 K (HK l.args r M []).1.1:=fun x hx=>hv x (FO _ hx);have e:Pd rec l M (r::rows) s=Pd rec l M rows (if (HK l.args r M []).2=true then rec (HK l.args r M []).1.1 s else s):=rfl;rw[e];by_cases hok:(HK l.args r M []).2=true
  ·rw[if_pos hok];have p1:=hrec _ s (hv r Fj hok) hi hc;have p2:=Ea hrec rows _ hv' p1.inv p1.comp;refine (p1.trans p2).iff fun h=>?_;constructor
   ·rintro (h1|⟨x,hx,h1,h2⟩)
    ·exact⟨r,by simp,hok,h1⟩
    ·exact⟨x,FO _ hx,h1,h2⟩
   ·rintro⟨x,hx,h1,h2⟩;rcases List.mem_cons.1 hx with rfl|hx
    ·exact .inl h2
    ·exact .inr ⟨x,hx,h1,h2⟩
  ·rw[if_neg hok];have p2:=Ea hrec rows s hv' hi hc;refine p2.iff fun h=>?_;constructor
   ·rintro⟨x,hx,h1,h2⟩;exact⟨x,FO _ hx,h1,h2⟩
   ·rintro⟨x,hx,h1,h2⟩;rcases List.mem_cons.1 hx with rfl|hx
    ·exact absurd h1 hok
    ·exact⟨x,hx,h1,h2⟩
theorem Jo5 (h:VldM E ts0 k M)(hn:(HR E k).kind≠1):VldM E ts0 (k+1) M:=by
 refine⟨fun v=>?_,h.rng⟩;rw[h.dom v];constructor
 ·rintro⟨j,hj,h1,h2⟩;exact⟨j,by omega,h1,h2⟩
 ·rintro⟨j,hj,h1,h2⟩;by_cases hjk:j=k
  ·subst hjk;exact absurd h1 hn
  ·exact⟨j,by omega,h1,h2⟩
theorem Jo4 {row:List Int}(h:VldM E ts0 k M)(hk1:(HR E k).kind=1)(hl:row.length=(HR E k).args.length)(hr:∀n∈row,1≤n∧n≤(ts0.length:Int))(hok:(HK (HR E k).args row M []).2=true):VldM E ts0 (k+1) (HK (HR E k).args row M []).1.1:=by
 obtain⟨h1,h2⟩:=CQ (HR E k).args row M [] hl.symm hok;refine⟨fun v=>?_,h2 _ h.rng hr⟩;rw[h1 v,h.dom v];constructor
 ·rintro (⟨j,hj,h3,h4⟩|⟨t,ht,h3⟩)
  ·exact⟨j,by omega,h3,h4⟩
  ·exact⟨k,by omega,hk1,t,ht,h3⟩
 ·rintro⟨j,hj,h3,t,ht,h4⟩;by_cases hjk:j=k
  ·subst hjk;exact .inr ⟨t,ht,h4⟩
  ·exact .inl ⟨j,by omega,h3,t,ht,h4⟩
theorem Ar (hk:k<E.order.length)(h:List Tk):Oh E ts0 k M h↔∃ν,agr M ν∧O9 ts0 (E.sets (PW E k)) (HR E k) ν∧(∀j,k+1≤j→j<E.order.length→O9 ts0 (E.sets (PW E j)) (HR E j) ν)∧h=E.head.args.map (P9 ts0 ν):=by
 constructor
 ·rintro⟨ν,h1,h2,h3⟩;exact⟨ν,h1,h2 k (FH _) hk,fun j hj hjl=>h2 j Fh hjl,h3⟩
 ·rintro⟨ν,h1,h2,h3,h4⟩;refine⟨ν,h1,fun j hj hjl=>?_,h4⟩;by_cases hjk:j=k
  ·subst hjk;exact h2
  ·exact h3 j Fh hjl
variable {ν:Nv}
theorem EX (hE:PlanOk E ts0)(hk:k<E.order.length):inN (E.sets (PW E k)) ((HR E k).args.map (Lg ts0 ν))↔∃x,Pf E k=some x∧(HR E k).args.map (Lg ts0 ν)∈x.2:=by
 unfold inN Pf;constructor
 ·rintro⟨x,hx,hm⟩;have hw:=(hE.rl k hk x hx _ hm).1;rw[F7]at hw;refine⟨x,?_,hm⟩;rw[hx];unfold BM;simp only;rw[if_pos hw.symm]
 ·rintro⟨x,hx,hm⟩;cases hq:E.sets (PW E k)with
  | none=>rw[hq]at hx;cases hx
  | some y =>
   rw[hq]at hx;unfold BM at hx;simp only at hx;split at hx
   ·cases hx;exact⟨_,rfl,hm⟩
   ·cases hx
theorem EF (hE:PlanOk E ts0)(hk:k<E.order.length){x:Nat×List (List Int)}(hx:Pf E k=some x):x.1=(HR E k).args.length∧∀r∈x.2,r.length=(HR E k).args.length∧∀n∈r,1≤n∧n≤(ts0.length:Int):=by
 unfold Pf at hx;cases hq:E.sets (PW E k)with
 | none=>rw[hq]at hx;cases hx
 | some y =>
  rw[hq]at hx;unfold BM at hx;simp only at hx;split at hx
  ·rename_i he;cases hx;refine⟨he,fun r hr=>?_⟩;have:=hE.rl k hk _ hq r hr;exact⟨this.1.trans he,this.2⟩
  ·cases hx
theorem JpY (hM:agr M ν){l:List Tm}(h:∀t∈l,t.kind=1→∃n,Hr M t.name=some n):l.map (Og ts0 M)=l.map (Lg ts0 ν):=List.map_congr_left fun t ht=>by
 unfold Og Lg;by_cases hk:t.kind=1
 ·obtain⟨n,hn⟩:=h t ht hk;rw[if_pos hk,if_pos hk,Iu hn,hM _ _ hn]
 ·rw[if_neg hk,if_neg hk]
theorem Rz {x:List Tk}(hM:agr M ν)(hr:∀v n,Hr M v=some n→1≤n∧n≤(ts0.length:Int)){t:Tm}(h:t.kind=1→∃n,Hr M t.name=some n):LH M (ts0++x) t=some (P9 ts0 ν t):=by
 unfold LH P9;by_cases hk:t.kind=1
 ·obtain⟨n,hn⟩:=h hk;have:=hr _ _ hn;rw[if_pos hk,if_pos hk,hn,hM _ _ hn];show some (H3 (ts0++x) n)=_;rw[Bv this.1 this.2]
 ·rw[if_neg hk,if_neg hk]
theorem JpL (hE:PlanOk E ts0)(hk:k<E.order.length){rec:Vm→JS→JS}(hrec:Mq E ts0 (k+1) rec)(hM:VldM E ts0 k M)(hs:JInv ts0 s)(hc:dnJ E s=false→Bh E ts0 (k+1) s):PostJ E ts0 (k+1) (Oh E ts0 k M) s (goJ E rec k M s):=by
 obtain⟨x,hx⟩:=hs.ts;have hp:HE M s.ts (HR E k).args=((HR E k).args.map (Og ts0 M),s.ts):=by rw[hx];exact JoS M _ (hE.lb k hk)
 have hlc:∀t∈(HR E k).args,t.kind≠1→Hz t∈ts0:=fun t ht h=>(hE.lb k hk t ht h).1;unfold goJ;rw[hp];have es:(⟨s.ts,s.seen,s.rows⟩:JS)=s:=rfl;by_cases hk1:(HR E k).kind=1
 ·rw[if_pos hk1];simp only
  have hrows:∀r∈Oj (Pf E k) ((HR E k).args.map (Og ts0 M)),r.length=(HR E k).args.length∧(∀n∈r,1≤n∧n≤(ts0.length:Int)):=by
   intro r hr;unfold Oj at hr;cases hq:Pf E k with
   | none=>rw[hq]at hr;simp at hr
   | some y =>
    rw[hq]at hr;exact (EF hE hk hq).2 r (List.mem_filter.1 hr).1
  have p:=Ea (l:=HR E k) (M:=M) hrec (Oj (Pf E k) ((HR E k).args.map (Og ts0 M))) s (fun r hr hok=>Jo4 hM hk1 (hrows r hr).1 (hrows r hr).2 hok) hs hc;refine p.iff fun h=>?_;rw[Ar hk];constructor
  ·rintro⟨r,hr,hok,ν,h1,h2,h3⟩;obtain⟨h4,h5⟩:=(IK ν (HR E k).args r M [] (hrows r hr).1.symm).2 ⟨hok,h1⟩;refine⟨ν,h4,?_,h2,h3⟩;unfold O9;rw[if_pos hk1,EX hE hk];unfold Oj at hr;cases hq:Pf E k with
   | none=>rw[hq]at hr;simp at hr
   | some y =>
    rw[hq]at hr;obtain⟨h6,h7⟩:=List.mem_filter.1 hr;refine⟨y,rfl,?_⟩;have:=(AV h4 (HR E k).args r ((EF hE hk hq).2 r h6).1 hlc).2 ⟨h7,h5⟩;rw[←this];exact h6
  ·rintro⟨ν,h1,h2,h3,h4⟩;unfold O9 at h2;rw[if_pos hk1,EX hE hk]at h2;obtain⟨y,hq,h5⟩:=h2;have hl:=((EF hE hk hq).2 _ h5).1;obtain⟨h6,h7⟩:=(AV h1 (HR E k).args _ hl hlc).1 rfl;obtain⟨h8,h9⟩:=(IK ν (HR E k).args _ M [] hl.symm).1 ⟨h1,h7⟩;refine⟨_,?_,h8,ν,h9,h3,h4⟩;unfold Oj;rw[hq];exact List.mem_filter.2 ⟨h5,h6⟩
 rw[if_neg hk1];have hb:∀t∈(HR E k).args,t.kind=1→∃n,Hr M t.name=some n:=fun t ht h=>(hM.dom _).2 (hE.bound k hk hk1 t ht h);have hM':=Jo5 hM hk1
 have test:∀(b:Bool),(∀ν,agr M ν→(O9 ts0 (E.sets (PW E k)) (HR E k) ν↔b=true))→PostJ E ts0 (k+1) (Oh E ts0 k M) s (if b=true then rec M s else s):=by
  intro b hb';cases b with
  | true =>
   rw[if_pos rfl];refine (hrec M s hM' hs hc).iff fun h=>?_;rw[Ar hk];constructor
   ·rintro⟨ν,h1,h2,h3⟩;exact⟨ν,h1,(hb' ν h1).2 rfl,h2,h3⟩
   ·rintro⟨ν,h1,_,h2,h3⟩;exact⟨ν,h1,h2,h3⟩
  | false =>
   rw[if_neg Fj];refine (PostJ.refl hs hc).iff fun h=>?_;rw[Ar hk];constructor
   ·exact fun h=>h.elim
   ·rintro⟨ν,h1,h2,_⟩;have:=(hb' ν h1).1 h2;cases this
 by_cases hk2:(HR E k).kind=2
 ·rw[if_pos hk2];simp only
  have ht:=test (!Sd (Pf E k) ((HR E k).args.map (Og ts0 M))) fun ν hν=>by
   unfold O9;rw[if_neg hk1,if_pos hk2,EX hE hk,JpY hν hb];unfold Sd;cases hq:Pf E k with
   | none=>simp
   | some y=>simp
  cases hh:Sd (Pf E k) ((HR E k).args.map (Og ts0 M))with
  | true=>rw[hh]at ht;simpa using ht
  | false=>rw[hh]at ht;simpa using ht
 ·rw[if_neg hk2];refine test _ fun ν hν=>?_;unfold O9;rw[if_neg hk1,if_neg hk2];have h2:=hE.l2 k hk hk1 hk2;unfold Dp BN;cases ha:(HR E k).args with
  | nil=>exact Iff.rfl
  | cons a l =>
   cases l with
   | nil=>exact Iff.rfl
   | cons b l =>
    cases l with
    | cons c l=>exact Iff.rfl
    | nil =>
     simp only;rw[hx,Rz hν hM.rng (hb a (by rw[ha];simp)),Rz hν hM.rng (hb b (by rw[ha];simp))];rfl
theorem R4 (hE:PlanOk E ts0)(hk:k≤E.order.length)(hM:VldM E ts0 k M)(hc:Bh E ts0 k s):Bh E ts0 (k+1) (Ow E k M s):=by
 intro k' M' h1 h2 h3 h4 h hr;have h4:0<HM (Pe s.seen (Od E k M) 1) (Od E k' M'):=h4;rw[Ry]at h4;have hol:=hE.ol;split at h4
 ·rename_i he;have:=(Er Fh Fh (SE h3 hE.tl) (SE hM hE.tl) he).1;omega
 ·exact hc k' M' Fh h2 h3 h4 h hr
theorem Jjb (hE:PlanOk E ts0){s':JS}(hk:k≤E.order.length)(hM:VldM E ts0 k M)(hc:dnJ E s=false→Bh E ts0 k s)(p:PostJ E ts0 (k+1) (Oh E ts0 k M) (Ow E k M s) s'):PostJ E ts0 k (Oh E ts0 k M) s s':=by
 have hol:=hE.ol
 have hm:∀key,0<HM (Ow E k M s).seen key↔(key=Od E k M∨0<HM s.seen key):=by
  intro key;show 0<HM (Pe s.seen (Od E k M) 1) key↔_;rw[Ry];by_cases he:key=Od E k M
  ·rw[if_pos he];exact⟨fun _=> .inl he,fun _=>by decide⟩
  ·rw[if_neg he];exact⟨.inr,fun h=>h.resolve_left he⟩
 refine⟨p.inv,p.mono,p.snd,p.cmp,fun hd k' M' h1 h2 h3 h4 h hr=>?_,fun key hkey=>?_,fun key hkey=>p.smono key ((hm key).2 (.inr hkey)),p.dmono⟩
 ·by_cases hkk:k'=k
  ·subst hkk;rcases p.seen _ h4 with h5|⟨k2,M2,h5,h6,h7,h8⟩
   ·rcases (hm _).1 h5 with h5|h5
    ·have hs:=(Er Fh Fh (SE h3 hE.tl) (SE hM hE.tl) h5).2;exact p.cmp hd h (JoP hE hk h3 hM hs hr)
    ·exact p.mono h (hc (p.dfalse hd) k' M' (FH _) h2 h3 h5 h hr)
   ·have:=(Er Fh Fh (SE h3 hE.tl) (SE h7 hE.tl) h8).1;omega
  ·exact p.comp hd k' M' Fh h2 h3 h4 h hr
 ·rcases p.seen key hkey with h5|⟨k2,M2,h5,h6,h7,h8⟩
  ·rcases (hm key).1 h5 with h5|h5
   ·exact .inr ⟨k,M,FH _,hk,hM,h5⟩
   ·exact .inl h5
  ·exact .inr ⟨k2,M2,by omega,h6,h7,h8⟩
theorem Rw (hk:k≤E.order.length)(hM:VldM E ts0 k M)(hs:JInv ts0 s)(hc:dnJ E s=false→Bh E ts0 k s)(hst:O4 E k M s=true):PostJ E ts0 k (Oh E ts0 k M) s s:=by
 have r:=PostJ.refl hs hc;refine⟨r.inv,r.mono,fun h hh=> .inl hh,fun hd h hr=>?_,r.comp,r.seen,r.smono,r.dmono⟩;unfold O4 at hst;have hd':Oa E.most s.rows.length=false:=hd;rw[hd',Bool.or_false]at hst;exact hc hd k M (FH _) hk hM (of_decide_eq_true hst) h hr
theorem Q7 {E:JE}{ts0:List Tk}(hE:PlanOk E ts0):∀(n k:Nat),k+n=E.order.length→Mq E ts0 k (Pv E n k)
 | 0,k,hk=>by
  intro M s hM hs hc;unfold Pv;by_cases hst:O4 E k M s=true
  ·rw[if_pos hst];exact Rw Fh hM hs hc hst
  ·rw[if_neg hst];obtain rfl:k=E.order.length:=Fh;exact Jjb hE (FH _) hM hc (JmQ hE hM (Jjc hs) fun hd=>R4 hE (FH _) hM (hc hd))
 | n+1,k,hk=>by
  intro M s hM hs hc;unfold Pv;by_cases hst:O4 E k M s=true
  ·rw[if_pos hst];exact Rw Fh hM hs hc hst
  ·rw[if_neg hst];exact Jjb hE Fh hM hc (JpL hE Fh (Q7 hE n (k+1) Fh) hM (Jjc hs) fun hd=>R4 hE Fh hM (hc hd))
end
section
open Go.AE Delphi Val
def bvL (body:List Lt) (l:List Nat) (v:List Nat):Prop:=∃j∈l,(HA body j).kind=1∧∃t∈(HA body j).args,t.kind=1∧t.name=v
structure PlGood (body:List Lt) (s:H8):Prop where
 nd:s.1.Nodup
 lt:∀i∈s.1,i<body.length
 bnd:∀k i,s.1[k]? = some i→(HA body i).kind≠1→∀t∈(HA body i).args,t.kind=1→bvL body (s.1.take k) t.name
 vs:∀v∈s.2,bvL body s.1 v
variable {body:List Lt}
theorem JnP {l l':List Nat}{v:List Nat}(h:∀x∈l,x∈l')(hb:bvL body l v):bvL body l' v:=by
 obtain⟨j,hj,h2⟩:=hb;exact⟨j,h j hj,h2⟩
theorem PlGood.take {s:H8}{i:Nat}(h:PlGood body s)(hc:PN body s i=true):PlGood body (PP body s i):=by
 obtain⟨h1,h2,h3⟩:=of_decide_eq_true hc;refine⟨?_,fun j hj=>?_,fun k j hk hn t ht hk1=>?_,fun v hv=>?_⟩
 ·show (s.1++[i]).Nodup;rw[List.nodup_append];refine⟨h.nd,by simp,?_⟩;rintro a ha b hb rfl;simp at hb;subst hb;exact h2 ha
 ·rcases List.mem_append.1 (show j∈s.1++[i]from hj)with hj|hj
  ·exact h.lt j hj
  ·simp at hj;subst hj;exact h1
 ·have hk:(s.1++[i])[k]? = some j:=hk;show bvL body ((s.1++[i]).take k) t.name;by_cases hkl:k<s.1.length
  ·rw[F4 hkl]at hk;rw[List.take_append_of_le_length Fh];exact h.bnd k j hk hn t ht hk1
  ·rw[F3 Fh]at hk
   have hk0:k-s.1.length=0:=by
    by_cases h0:k-s.1.length=0
    ·exact h0
    ·rw[List.getElem?_eq_none (by simp;omega)]at hk;cases hk
   rw[hk0]at hk;have hk:=FX hk;subst hk;have hke:k=s.1.length:=Fh;rw[hke,List.take_append_of_le_length (FH _),List.take_length];rcases h3 with h3|h3
   ·exact absurd h3 hn
   ·exact h.vs _ (bndN_full.1 h3 t ht hk1)
 ·rcases List.mem_append.1 (show v∈s.2++O6 s.2 (HA body i)from hv)with hv|hv
  ·exact JnP (fun x hx=>List.mem_append_left _ hx) (h.vs v hv)
  ·obtain⟨hn,t,ht,hk1,hnm⟩:=mem_newV.1 hv;rcases h3 with h3|h3
   ·exact⟨i,by show i∈s.1++[i];simp,h3,t,ht,hk1,hnm⟩
   ·exact absurd (by rw[←hnm];exact bndN_full.1 h3 t ht hk1) hn
theorem Jkq {body:List Lt}{s:H8}:∀(L:List Nat),L≠[]→∃m∈L,∀j∈L,j≠m→PD (LB body s m) (LB body s j)=true
 | [],h=>absurd rfl h
 | [a],_=>⟨a,by simp,fun j hj hne=>by simp at hj;exact absurd hj hne⟩
 | a::b::L,_=>by
  obtain⟨m,hm,hb⟩:=Jkq (b::L) Fj;by_cases ham:a=m
  ·subst ham;refine⟨a,by simp,fun j hj hne=>?_⟩;rcases List.mem_cons.1 hj with rfl|hj
   ·exact absurd rfl hne
   ·exact hb j hj hne
  ·have hne:(LB body s a).2.2≠(LB body s m).2.2:=ham;rcases NC hne with h|h
   ·refine⟨a,by simp,fun j hj hne=>?_⟩;rcases List.mem_cons.1 hj with rfl|hj
    ·exact absurd rfl hne
    ·by_cases hjm:j=m
     ·subst hjm;exact h
     ·exact Aa h (hb j hj hjm)
   ·refine⟨m,FO _ hm,fun j hj hne=>?_⟩;rcases List.mem_cons.1 hj with rfl|hj
    ·exact h
    ·exact hb j hj hne
theorem Jpo {s:H8}(h:∃i,PN body s i=true):∃i,DC body s=some i∧PN body s i=true:=by
 obtain⟨i,hi⟩:=h
 let L:=(List.range body.length).filter fun i=>PN body s i
 have hL:∀j,j∈L↔PN body s j=true:=fun j=>by
  show j∈(List.range body.length).filter (fun i=>PN body s i)↔_;rw[KG,List.mem_range];exact⟨fun h=>h.2,fun h=>⟨IP h,h⟩⟩
 obtain⟨m,hm,hb⟩:=Jkq (body:=body) (s:=s) L (fun h0=>by have:=(hL i).2 hi;rw[h0]at this;simp at this);have hmc:=(hL m).1 hm;exact⟨m,QF ⟨hmc,fun j hj hne=>hb j ((hL j).2 hj) hne⟩,hmc⟩
theorem NN {r:Rl}(hbd:RBr r)(hs:LF r=true):∀(n:Nat) (s:H8),PlInv r.body s→PlGood r.body s→s.1.length+n=r.body.length→PlGood r.body (OC r.body n s)∧(OC r.body n s).1.length=r.body.length
 | 0,s,hi,hg,hn=>by
  have e:OC r.body 0 s=s:=rfl;rw[e];exact⟨hg,by simpa using hn⟩
 | n+1,s,hi,hg,hn=>by
  unfold OC;have hlt:s.1.length<r.body.length:=Fh;rw[if_pos hlt];obtain⟨i,h1,h2⟩:=Jpo (Nt hs hi hlt);rw[h1];exact NN hbd hs n (PP r.body s i) (hi.take (IP h2) hbd.args) (hg.take h2) (by simp only[PP,FE,Ka];omega)
theorem AO (hbd:RBr r)(h:La r first):PlGood r.body (HU r first)∧(HU r first).1.length=r.body.length:=by
 unfold HU;have hl:=Au r.body first
 have hg:PlGood r.body (P1 r.body first)∧(P1 r.body first).1.length≤r.body.length:=by
  unfold P1;have e0:PlGood r.body ([],[]):=⟨by simp,by simp,by simp,by simp⟩;by_cases h0:0≤first
  ·rw[if_pos h0];have:=h.2.2.1;refine⟨e0.take (decide_eq_true ⟨by omega,by simp,.inl (h.2.2.2 h0)⟩),?_⟩;simp only[PP,List.nil_append,Ka];omega
  ·rw[if_neg h0];exact⟨e0,Nat.zero_le _⟩
 exact NN hbd h.1 _ _ (NU hbd h) hg.1 Fh
theorem Jjp (hbd:RBr r)(h:La r first):∀i,i<r.body.length→i∈(HU r first).1:=by
 obtain⟨hg,hl⟩:=AO hbd h;intro i hi;refine Classical.byContradiction fun hn=>?_;have:(HU r first).1.length≤((List.range r.body.length).erase i).length:=Ig hg.nd fun c hc=>(List.mem_erase_of_ne (by rintro rfl;exact hn hc)).2 (List.mem_range.2 (hg.lt c hc));rw[List.length_erase_of_mem (List.mem_range.2 hi),List.length_range]at this;omega
theorem Jon (ts:List Tk)(t:Tm):∃y,Lr ts t=ts++y:=by
 unfold Lr;split
 ·exact⟨[],by simp⟩
 ·unfold idT;split
  ·split
   ·exact⟨[],by simp⟩
   ·exact⟨_,rfl⟩
  ·exact⟨[],by simp⟩
theorem Eo:∀(l:List Tm) (ts:List Tk),∃y,PT ts l=ts++y
 | [],ts=>⟨[],by simp[PT]⟩
 | t::l,ts=>by
  obtain⟨y,hy⟩:=Jon ts t;obtain⟨z,hz⟩:=Eo l (Lr ts t);refine⟨y++z,?_⟩;show PT (Lr ts t) l=_;rw[hz,hy,F5]
theorem CW:∀(b:List Lt) (ts:List Tk),∃y,K8 ts b=ts++y
 | [],ts=>⟨[],by simp[K8]⟩
 | l::b,ts=>by
  obtain⟨y,hy⟩:=Eo l.args ts;obtain⟨z,hz⟩:=CW b (PT ts l.args);refine⟨y++z,?_⟩;show K8 (PT ts l.args) b=_;rw[hz,hy,F5]
structure TsGood (ts:List Tk):Prop where
 nd:ts.Nodup
 may:∀c∈ts,HV c=true
variable {ts:List Tk}
theorem TsGood.id (h:TsGood ts)(c:Tk):TsGood (idT ts c).2:=by
 unfold idT;split
 ·rename_i hm;split
  ·exact h
  ·rename_i hn;refine⟨?_,fun d hd=>?_⟩
   ·show (ts++[c]).Nodup;rw[List.nodup_append];refine⟨h.nd,by simp,?_⟩;rintro a ha b hb rfl;simp at hb;subst hb;exact hn ha
   ·rcases List.mem_append.1 hd with hd|hd
    ·exact h.may d hd
    ·simp at hd;subst hd;exact hm
 ·exact h
theorem TsGood.idL:∀{l:List Tm} {ts:List Tk},TsGood ts→TsGood (PT ts l)
 | [],ts,h=>h
 | t::l,ts,h=>by
  show TsGood (PT (Lr ts t) l);refine TsGood.idL ?_;unfold Lr;split
  ·exact h
  ·exact h.id _
theorem TsGood.idB:∀{b:List Lt} {ts:List Tk},TsGood ts→TsGood (K8 ts b)
 | [],ts,h=>h
 | l::b,ts,h=>TsGood.idB (b:=b) h.idL
theorem Joo {t:Tm}(hk:t.kind≠1)(hm:HV (Hz t)=true):Hz t∈Lr ts t:=by
 unfold Lr;rw[if_neg hk];unfold idT;rw[if_pos hm];split
 ·assumption
 ·exact List.mem_append_right _ Fj
theorem QO:∀{l:List Tm} {ts:List Tk} {t:Tm},t∈l→t.kind≠1→HV (Hz t)=true→Hz t∈PT ts l
 | u::l,ts,t,ht,hk,hm=>by
  show Hz t∈PT (Lr ts u) l;rcases List.mem_cons.1 ht with rfl|ht
  ·obtain⟨y,hy⟩:=Eo l (Lr ts t);rw[hy];exact List.mem_append_left _ (Joo hk hm)
  ·exact QO ht hk hm
theorem En:∀{b:List Lt} {ts:List Tk} {l:Lt} {t:Tm},l∈b→t∈l.args→t.kind≠1→HV (Hz t)=true→Hz t∈K8 ts b
 | m::b,ts,l,t,hl,ht,hk,hm=>by
  show Hz t∈K8 (PT ts m.args) b;rcases List.mem_cons.1 hl with rfl|hl
  ·obtain⟨y,hy⟩:=CW b (PT ts l.args);rw[hy];exact List.mem_append_left _ (QO ht hk hm)
  ·exact En hl ht hk hm
theorem EK {b:List Lt}{i:Nat}(h:i<b.length):HA b i∈b:=by
 unfold HA;rw[FB h];exact List.getElem_mem h
structure RowsIn (ts:List Tk) (dq:Option (Nat×List (List Int))) (sets:List Nat→Option (Nat×List (List Int))):Prop where
 rl:∀nm x,(dq=some x∨sets nm=some x)→∀r∈x.2,r.length=x.1∧∀n∈r,1≤n∧n≤(ts.length:Int)
theorem Jre {most:Int}{dq:Option (Nat×List (List Int))}{sets:List Nat→Option (Nat×List (List Int))}(hb:SomeB r dq sets)(hm:∀t∈r.head.args,t.kind≠1→HV (Hz t)=true)(hr:RowsIn ts dq sets)(hok:La r first)(hts:ts.length≤60000):PlanOk (K6 r first dq sets most) (K8 ts r.body):=by
 obtain⟨hg,hl⟩:=AO hb.bd hok;have hall:=Jjp hb.bd hok;have hb7:=hb.bd.body;have hil:=Em (ts:=ts) (n:=5) hb.bd.args
 have hpl:∀k,k<(HU r first).1.length→(HU r first).1[k]? = some (PW (K6 r first dq sets most) k):=fun k hk=>by
  show _=some ((HU r first).1.getD k 0);rw[List.getD_eq_getElem?_getD,FB hk];rfl
 have hplt:∀k,k<(HU r first).1.length→PW (K6 r first dq sets most) k<r.body.length:=fun k hk=>hg.lt _ (FI (hpl k hk));have hlit:∀k,HR (K6 r first dq sets most) k=HA r.body (PW (K6 r first dq sets most) k):=fun k=>rfl;have hlm:∀k,k<(HU r first).1.length→HR (K6 r first dq sets most) k∈r.body:=fun k hk=>by rw[hlit];exact EK (hplt k hk)
 have hbv:∀k,k≤(HU r first).1.length→∀v,bvL r.body ((HU r first).1.take k) v→bvK (K6 r first dq sets most) k v:=by
  rintro k hk v ⟨j,hj,h1,h2⟩;obtain⟨m,hm⟩:=List.getElem?_of_mem hj
  have hmk:m<k:=by
   have:=(List.getElem?_eq_some_iff.1 hm).1;rw[FT]at this;omega
  rw[Kr hmk]at hm;have:=hpl m Fh;rw[hm]at this;have:=FX this;refine⟨m,hmk,?_⟩;rw[hlit,←this];exact⟨h1,h2⟩
 refine⟨fun k hk t ht h=>⟨En (hlm k hk) ht h (hb.bc _ (hlm k hk) t ht h).2,(hb.bc _ (hlm k hk) t ht h).2⟩,fun k hk hn t ht h1=>hbv k (KF hk) _ (hg.bnd k _ (hpl k hk) hn t ht h1),fun t ht h1=>?_,hm,fun k hk x hx r' hr'=>?_,fun k hk v=>?_,fun k hk h1 h2=>(hb.bk _ (hlm k hk) h1 h2).2.2,?_,by omega⟩
 ·have hn:t.name∈Lv r:=mem_rNeed.2 (.inl ⟨t,ht,h1,rfl⟩);obtain⟨y,hy,hyk,u,hu,hu1,hun⟩:=mem_rBound.1 (of_decide_eq_true (List.all_eq_true.1 hok.1 _ hn));obtain⟨j,hj⟩:=List.getElem?_of_mem hy;have hjl:j<r.body.length:=(List.getElem?_eq_some_iff.1 hj).1;have:=hbv (HU r first).1.length (FH _) t.name ⟨j,by rw[List.take_length];exact hall j hjl,by rw[Pi hj];exact hyk,u,by rw[Pi hj];exact hu,hu1,hun⟩;exact this
 ·have hx:(if Fq (PW (K6 r first dq sets most) k)=first then dq else sets (HA r.body (PW (K6 r first dq sets most) k)).name)=some x:=hx
  have:r'.length=x.1∧∀n∈r',1≤n∧n≤(ts.length:Int):=by
   split at hx
   ·exact hr.rl [] x (.inl hx) r' hr'
   ·exact hr.rl _ x (.inr hx) r' hr'
  obtain⟨y,hy⟩:=CW r.body ts;refine⟨this.1,fun n hn=>⟨(this.2 n hn).1,?_⟩⟩;have:=(this.2 n hn).2;rw[hy,FE];omega
 ·have hk:k≤(HU r first).1.length:=hk
  have e:BL (K6 r first dq sets most) k=PO r.head r.body (HU r first).1 k:=by
   show ((List.range ((HU r first).1.length+1)).map (PO r.head r.body (HU r first).1)).getD k []=_;rw[List.getD_eq_getElem?_getD,F6,List.getElem?_range Fh];rfl
  rw[e];unfold PO;rw[CE];unfold I1;constructor
  ·rintro⟨t,ht,h1,h2⟩;rcases List.mem_append.1 ht with ht|ht
   ·exact .inl ⟨t,ht,h1,h2⟩
   ·obtain⟨i,hi,ht⟩:=List.mem_flatMap.1 ht;obtain⟨m,hm⟩:=List.getElem?_of_mem hi;rw[Kq]at hm;have hml:k+m<(HU r first).1.length:=(List.getElem?_eq_some_iff.1 hm).1;have:=hpl (k+m) hml;rw[hm]at this;have:=FX this;exact .inr ⟨k+m,by omega,hml,t,by rw[hlit,←this];exact ht,h1,h2⟩
  ·rintro (⟨t,ht,h1,h2⟩|⟨j,hj,hjl,t,ht,h1,h2⟩)
   ·exact⟨t,List.mem_append_left _ ht,h1,h2⟩
   ·refine⟨t,List.mem_append_right _ (List.mem_flatMap.2 ⟨_,?_,by rw[hlit]at ht;exact ht⟩),h1,h2⟩;have:=hpl j hjl;refine FI (i:=j-k) ?_;rw[Kq];have e2:k+(j-k)=j:=Fh;rw[e2];exact this
 ·show (HU r first).1.length≤100;omega
end
section
open Go.AE Delphi Val
abbrev Sg:=List Nat→Tk
def O5 (σ:Sg) (t:Tm):Tk:=if t.kind=1 then σ t.name else Hz t
def fsT (ts:List Tk) (q:Option (Nat×List (List Int))) (args:List Tk):Prop:=∃x r,q=some x∧r∈x.2∧args=r.map (H3 ts)
def MO (σ:Sg) (l:Lt):Bool:=match l.args with
 | [a,b]=>OX l.kind (O5 σ a) (O5 σ b)
 | _=>false
def DL (F:List Tk→Prop) (l:Lt) (σ:Sg):Prop:=if l.kind=1 then F (l.args.map (O5 σ))else if l.kind=2 then ¬F (l.args.map (O5 σ))else MO σ l=true
def IY (r:Rl) (F:Nat→List Tk→Prop) (h:List Tk):Prop:=∃σ:Sg,(∀i,i<r.body.length→DL (F i) (HA r.body i) σ)∧h=r.head.args.map (O5 σ)
variable {ts:List Tk}
theorem Rx {n:Int}(h1:1≤n)(h2:n≤(ts.length:Int)):H3 ts n∈ts:=by
 unfold H3;rw[if_neg Fh,List.getD_eq_getElem?_getD,FB (show n.toNat-1<ts.length by omega)];exact List.getElem_mem _
theorem Jqh:HV zTk=false:=rfl
theorem Eh (hg:TsGood ts){m n:Int}(h1:1≤n)(h2:n≤(ts.length:Int))(h:H3 ts m=H3 ts n):m=n:=by
 have hm:=Rx h1 h2
 have hr:1≤m∧m≤(ts.length:Int):=by
  refine Classical.byContradiction fun hc=>?_
  have:H3 ts m=zTk:=by
   unfold H3;by_cases h0:m<1
   ·rw[if_pos h0]
   ·rw[if_neg h0,List.getD_eq_getElem?_getD,List.getElem?_eq_none Fh];rfl
  rw[this]at h;have:=hg.may _ (h▸hm);rw[Jqh]at this;cases this
 unfold H3 at h;rw[if_neg Fh,if_neg Fh,List.getD_eq_getElem?_getD,List.getD_eq_getElem?_getD,FB (show m.toNat-1<ts.length by omega),FB (show n.toNat-1<ts.length by omega)]at h;have h:ts[m.toNat-1]'(by omega)=ts[n.toNat-1]'(by omega):=h;have hp:=List.pairwise_iff_getElem.1 hg.nd;rcases Nat.lt_trichotomy (m.toNat-1) (n.toNat-1)with hl|hl|hl
 ·exact absurd h (hp _ _ Fh Fh hl)
 ·omega
 ·exact absurd h.symm (hp _ _ Fh Fh hl)
theorem EM {ts y:List Tk}(hg:TsGood (ts++y)){ν:Nv}:∀(args:List Tm) (r:List Int),(∀t∈args,t.kind≠1→Hz t∈ts++y)→(∀n∈r,1≤n∧n≤(ts.length:Int))→(r=args.map (Lg (ts++y) ν)↔args.map (P9 (ts++y) ν)=r.map (H3 ts))
 | [],r,_,_=>by
  cases r with
  | nil=>simp
  | cons n r=>simp
 | t::args,[],_,_=>by simp
 | t::args,n::r,hc,hr=>by
  have ih:=EM hg (ν:=ν) args r (fun u hu=>hc u (FO _ hu)) fun m hm=>hr m (FO _ hm);obtain⟨n1,n2⟩:=hr n Fj;have n3:n≤((ts++y).length:Int):=by rw[FE];omega
  simp only[Ku,List.cons.injEq];rw[ih]
  have e:n=Lg (ts++y) ν t↔P9 (ts++y) ν t=H3 ts n:=by
   rw[←Bv (x:=y) n1 n2];unfold Lg P9;by_cases hk:t.kind=1
   ·rw[if_pos hk,if_pos hk];constructor
    ·intro h;rw[←h]
    ·intro h;exact (Eh hg n1 n3 h).symm
   ·rw[if_neg hk,if_neg hk];have hp:=(Ei (hc t Fj hk)).1;constructor
    ·intro h;rw[h,hp]
    ·intro h;rw[←hp]at h;exact (Eh hg n1 n3 h).symm
  rw[e]
variable {q:Option (Nat×List (List Int))}
theorem Jrd {y:List Tk}(hg:TsGood (ts++y)){ν:Nv}(hq:∀x,q=some x→∀r∈x.2,∀n∈r,1≤n∧n≤(ts.length:Int)){args:List Tm}(hc:∀t∈args,t.kind≠1→Hz t∈ts++y): inN q (args.map (Lg (ts++y) ν))↔fsT ts q (args.map (P9 (ts++y) ν)):=by
 constructor
 ·rintro⟨x,hx,hm⟩;exact⟨x,_,hx,hm,(EM hg args _ hc (hq x hx _ hm)).1 rfl⟩
 ·rintro⟨x,r,hx,hm,h⟩;have:=(EM hg args r hc (hq x hx r hm)).2 h;exact⟨x,hx,by rw[←this];exact hm⟩
theorem JqI (hq:∀x,q=some x→∀r∈x.2,∀n∈r,1≤n∧n≤(ts.length:Int)){args:List Tk}(h:fsT ts q args):∀c∈args,c∈ts:=by
 obtain⟨x,r,hx,hr,rfl⟩:=h;intro c hc;obtain⟨n,hn,rfl⟩:=List.mem_map.1 hc;have:=hq x hx r hr n hn;exact Rx this.1 this.2
theorem Ed {P:List Tk→Prop}(hP:∀ts c,P ts→P (idT ts c).2)(M:Vm):∀(l:List Tm) (s:List Int×List Tk),P s.2→P (l.foldl (PX M) s).2
 | [],s,h=>h
 | t::l,s,h=>by
  rw[Kt];refine Ed hP M l _ ?_;unfold PX;split
  ·exact h
  ·exact hP _ _ h
theorem Rp {P:List Tk→Prop}{rec:Vm→JS→JS}(h:∀M s,P s.ts→P (rec M s).ts)(l:Lt)(M:Vm):∀(rows:Fy) (s:JS),P s.ts→P (Pd rec l M rows s).ts
 | [],s,hs=>hs
 | r::rows,s,hs=>by
  unfold Pd;rw[Kt];refine Rp h l M rows _ ?_;split
  ·exact h _ _ hs
  ·exact hs
theorem Ch {P:List Tk→Prop}(hP:∀ts c,P ts→P (idT ts c).2)(E:JE):∀(n k:Nat) (M:Vm) (s:JS),P s.ts→P (Pv E n k M s).ts
 | 0,k,M,s,h=>by
  unfold Pv;split
  ·exact h
  ·exact Ed hP M _ _ h
 | n+1,k,M,s,h=>by
  unfold Pv;split
  ·exact h
  ·unfold goJ;have h1:P (HE M (Ow E k M s).ts (HR E k).args).2:=Ed hP M _ _ h;split
   ·exact Rp (fun M s hs=>Ch hP E n (k+1) M s hs) _ _ _ _ h1
   split
   ·split
    ·exact h1
    ·exact Ch hP E n (k+1) _ _ h1
   ·split
    ·exact Ch hP E n (k+1) _ _ h
    ·exact h
theorem JoZ {most:Int}{dq:Option (Nat×List (List Int))}{sets:List Nat→Option (Nat×List (List Int))}(hb:SomeB r dq sets)(hm:∀t∈r.head.args,t.kind≠1→HV (Hz t)=true)(hr:RowsIn ts dq sets)(hok:La r first)(hts:ts.length≤60000)(hg:TsGood ts): (∃y,(Pw r first dq sets most ts).ts=ts++y)∧TsGood (Pw r first dq sets most ts).ts∧(∀x∈(Pw r first dq sets most ts).rows,∀n∈x,1≤n∧n≤((Pw r first dq sets most ts).ts.length:Int))∧ (∀h∈LZ (Pw r first dq sets most ts),IY r (fun i=>fsT ts (if Fq i=first then dq else sets (HA r.body i).name)) h)∧ (Oa most (Pw r first dq sets most ts).rows.length=false→∀h,IY r (fun i=>fsT ts (if Fq i=first then dq else sets (HA r.body i).name)) h→h∈LZ (Pw r first dq sets most ts)):=by
 have hE:=Jre (most:=most) hb hm hr hok hts;obtain⟨y,hy⟩:=CW r.body ts;have hg0:TsGood (ts++y):=by rw[←hy];exact hg.idB
 have p:=Q7 hE (HU r first).1.length 0 (FU _) [] ⟨K8 ts r.body,[],[]⟩
  ⟨fun v=>⟨fun⟨n,h⟩=>by simp[Hr]at h,fun⟨j,hj,_⟩=>by omega⟩,fun v n h=>by simp[Hr]at h⟩ ⟨⟨[],by simp⟩,by simp⟩ fun _ k M _ _ _ h=>by simp[HM,Hr]at h
 have hq:∀i,∀x,(if Fq i=first then dq else sets (HA r.body i).name)=some x→∀r∈x.2,∀n∈r,1≤n∧n≤(ts.length:Int):=by
  intro i x hx r' hr';split at hx
  ·exact (hr.rl [] x (.inl hx) r' hr').2
  ·exact (hr.rl _ x (.inr hx) r' hr').2
 have hcc:∀l∈r.body,∀t∈l.args,t.kind≠1→Hz t∈ts++y:=fun l hl t ht hk=>by rw[←hy];exact En hl ht hk (hb.bc l hl t ht hk).2
 obtain⟨hgd,hgl⟩:=AO hb.bd hok;have hall:=Jjp hb.bd hok
 have hpl:∀k,k<(HU r first).1.length→(HU r first).1[k]? = some (PW (K6 r first dq sets most) k):=fun k hk=>by
  show _=some ((HU r first).1.getD k 0);rw[List.getD_eq_getElem?_getD,FB hk];rfl
 have hlit:∀(ν:Nv) (σ:Sg) (i:Nat),i<r.body.length→(∀t∈(HA r.body i).args,P9 (ts++y) ν t=O5 σ t)→(O9 (ts++y) ((K6 r first dq sets most).sets i) (HA r.body i) ν↔DL (fsT ts (if Fq i=first then dq else sets (HA r.body i).name)) (HA r.body i) σ):=by
  intro ν σ i hi hv;have e1:(HA r.body i).args.map (P9 (ts++y) ν)=(HA r.body i).args.map (O5 σ):=List.map_congr_left hv;have e2:=Jrd hg0 (ν:=ν) (hq i) (hcc _ (EK hi))
  have e3:BN (ts++y) ν (HA r.body i)=MO σ (HA r.body i):=by
   unfold BN MO;cases ha:(HA r.body i).args with
   | nil=>rfl
   | cons a l =>
    cases l with
    | nil=>rfl
    | cons b l =>
     cases l with
     | nil =>
      simp only;rw[hv a (by rw[ha];simp),hv b (by rw[ha];simp)]
     | cons c l=>rfl
  rw[e1]at e2;unfold O9 DL;rw[e3];show (if _ then inN (if Fq i=first then dq else sets (HA r.body i).name) _ else if _ then ¬inN (if Fq i=first then dq else sets (HA r.body i).name) _ else _)↔_;rw[e2]
 have hres:∀h,Oh (K6 r first dq sets most) (ts++y) 0 [] h↔IY r (fun i=>fsT ts (if Fq i=first then dq else sets (HA r.body i).name)) h:=by
  intro h;constructor
  ·rintro⟨ν,_,hs,rfl⟩;refine⟨fun v=>H3 (ts++y) (ν v),fun i hi=>?_,rfl⟩;obtain⟨k,hk⟩:=List.getElem?_of_mem (hall i hi);have hkl:k<(HU r first).1.length:=(List.getElem?_eq_some_iff.1 hk).1;have hpk:=hpl k hkl;rw[hk]at hpk;have hpk:=FX hpk;have:=hs k (Nat.zero_le _) hkl;have e:HR (K6 r first dq sets most) k=HA r.body i:=by rw[hpk];rfl
   rw[e,←hpk]at this;exact (hlit ν _ i hi fun t _=>rfl).1 this
  ·rintro⟨σ,hs,rfl⟩
   let ν:Nv:=fun v=>Fq (PE (ts++y) (σ v))
   have hatom:∀l∈r.body,l.kind=1→∀t∈l.args,t.kind=1→σ t.name∈ts++y:=by
    intro l hl hk t ht hk1;obtain⟨i,hi⟩:=List.getElem?_of_mem hl;have hil:i<r.body.length:=(List.getElem?_eq_some_iff.1 hi).1;have:=hs i hil;unfold DL at this;rw[Pi hi,if_pos hk]at this;have:=JqI (hq i) this (O5 σ t) (List.mem_map.2 ⟨t,ht,rfl⟩);have e:O5 σ t=σ t.name:=if_pos hk1;rw[e]at this;exact List.mem_append_left _ this
   have hbv:∀v,v∈OM r→σ v∈ts++y:=by
    intro v hv;obtain⟨x,hx,hk,t,ht,hk1,rfl⟩:=mem_rBound.1 hv;exact hatom x hx hk t ht hk1
   have hsafe:∀v,v∈Lv r→v∈OM r:=fun v hv=>of_decide_eq_true (List.all_eq_true.1 hok.1 v hv)
   have hval:∀t:Tm,(t.kind=1→σ t.name∈ts++y)→P9 (ts++y) ν t=O5 σ t:=by
    intro t ht;unfold P9 O5;by_cases hk:t.kind=1
    ·rw[if_pos hk,if_pos hk];exact (Ei (ht hk)).1
    ·rw[if_neg hk,if_neg hk]
   have hlv:∀l∈r.body,∀t∈l.args,t.kind=1→σ t.name∈ts++y:=by
    intro l hl t ht hk1;by_cases hk:l.kind=1
    ·exact hatom l hl hk t ht hk1
    ·exact hbv _ (hsafe _ (mem_rNeed.2 (.inr ⟨l,hl,hk,t,ht,hk1,rfl⟩)))
   refine⟨ν,fun v n h=>by simp[Hr]at h,fun j _ hj=>?_,?_⟩
   ·have hjl:j<(HU r first).1.length:=hj;have hlt:=hgd.lt _ (FI (hpl j hjl));exact (hlit ν σ _ hlt fun t ht=>hval t (hlv _ (EK hlt) t ht)).2 (hs _ hlt)
   ·exact (List.map_congr_left fun t ht=>hval t fun hk1=>hbv _ (hsafe _ (mem_rNeed.2 (.inl ⟨t,ht,hk1,rfl⟩)))).symm
 rw[hy]at p;have hs':Pw r first dq sets most ts=Pv (K6 r first dq sets most) (HU r first).1.length 0 [] ⟨ts++y,[],[]⟩:=by unfold Pw;rw[hy]
 rw[hs'];obtain⟨x,hx⟩:=p.inv.ts;refine⟨⟨y++x,by rw[hx,F5]⟩,Ch (fun ts c h=>h.id c) _ _ _ _ _ hg0,p.inv.rng,fun h hh=>?_,fun hd h hh=>p.cmp hd h ((hres h).2 hh)⟩;rcases p.snd h hh with h1|h1
 ·simp[LZ]at h1
 ·exact (hres h).1 h1
end
end Go.Proofs.YtegdcbdicpfbpaaDoor
set_option linter.unusedSectionVars false
open Go.RowKit
namespace Go.AE
variable [Globs]
section
end
end Go.AE
namespace Go.Proofs.YtegdcbdicpfbpaaDoor
open Go.AE Delphi Val
def Jq6 (f:Fc):Prop:=∀t∈f.2,HV t=true
section
open Go.AE Delphi Val
def Jql (l:List Fc):Prop:=∀f∈l,Jq6 f
end
section
open Go.AE Delphi Val
variable {tab:Tab}
variable {T:Fw} {w:AW} {v:V}
theorem JpG {f:Fc}(h:Rd T w v 3 f.2.length (Oi f.2)){i:Nat}{t:Tk}(hi:f.2[i]? = some t):∃b o c,v = .slice b o f.2.length c∧w.load b (o+i*3) 3=some (tkC t):=by
 obtain⟨b,o,c,rfl,_,_,a3⟩:=Jnr h hi;exact⟨b,o,c,rfl,a3⟩
def FcsB (S T:Fw) (w:AW) (v:V) (l:List Fc):Prop:=∃xss,Bt S w v 2 l.length xss.flatten∧All2 (FcC T w) l xss
variable {S:Fw} {l:List Fc}
theorem FcsB.rd (h:FcsB S T w v l){U:Fw}(h1:∀x,S x→U x)(h2:∀x,T x→U x):Fcs U w v l:=by
 obtain⟨xss,h3,h4⟩:=h;exact⟨xss,h3.rd.mono h1,D6 h4 fun f xs ⟨v,q1,q2⟩=>⟨v,q1,q2.mono h2⟩⟩
theorem FcsB.frm {R:Fw}{w':AW}(h:FcsB S T w v l)(g:Frm R w w')(h1:∀x,S x→¬R x)(h2:∀x,T x→¬R x):FcsB S T w' v l:=by
 obtain⟨xss,h3,h4⟩:=h;exact⟨xss,h3.frm g h1,D6 h4 fun f xs q=>q.frm g h2⟩
theorem FcsB.nil:FcsB S T w .nilslice []:=⟨[],.nil,.nil⟩
theorem FcsB.push {U:Fw}{f:Fc}{xs:List V}(h:FcsB S T w v l)(hf:FcC U w f xs)(hS:∀x,S x→x<w.next)(hT:∀x,T x→¬S x∧x<w.next)(hU:∀x,U x→¬S x∧x<w.next)(hl:l.length≤1000000): ∃v' w' S',(w.fresh xs).appendV 2 40 v 1 xs=some (v',w')∧FcsB S' (fun x=>T x∨U x) w' v' (l++[f])∧Frm S w w'∧LC S S' w w':=by
 obtain⟨xss,h3,h4⟩:=h;have hone:=hf.one;obtain⟨v',w',S',q1,q2,q3,q4⟩:=h3.push (news:=xs) (bytes:=40) hS Fh hone.1 hone.2 Fh Fh;refine⟨v',w',S',q1,⟨xss++[xs],by rw[FE,List.flatten_append];simpa using q2,?_⟩,q3,q4⟩
 have h5:All2 (FcC (fun x=>T x∨U x) w') l xss:=D6 h4 fun g ys q=>by
  obtain⟨u,q5,q6⟩:=q.frm q3 fun x hx=>(hT x hx).1;exact⟨u,q5,q6.mono fun _ h=> .inl h⟩
 refine h5.snoc ?_;obtain⟨u,q5,q6⟩:=hf.frm q3 fun x hx=>(hU x hx).1;exact⟨u,q5,q6.mono fun _ h=> .inr h⟩
end
section
open Go.AE Delphi Val
variable {tab:Tab}
end
section
open Go.AE Delphi Val
variable {tab:Tab}
variable {w:AW}
theorem JqA {S:Fw}{v:V}{l:List Int}(h:Bt S w v 1 l.length (Rel.rowC l)):Rel.RowV S w v l:=by
 generalize hn:l.length=n at h;generalize hc:Rel.rowC l=cs at h;cases h with
 | nil =>
  have:l=[]:=List.length_eq_zero_iff.1 hn;subst this;exact .nil
 | blk hS hb hx hl he hp hs =>
  subst hc;refine .blk hS hb hx ?_ hn;rcases hs with rfl|rfl|⟨f,F,h1,h2,h3,h4,_,_,h7⟩
  ·exact .inl rfl
  ·exact .inr (.inl rfl)
  ·exact .inr (.inr (.inr ⟨f,F,h1,h2,h3,h4,h7⟩))
def BI (s:List Int×List Tk) (c:Tk):List Int×List Tk:=(s.1++[Fq (idT s.2 c).1],(idT s.2 c).2)
def HI (ts:List Tk) (args:List Tk):List Int×List Tk:=args.foldl BI ([],ts)
theorem Ny (ts:List Tk)(args:List Tk)(c:Tk):HI ts (args++[c])=BI (HI ts args) c:=by unfold HI;rw[List.foldl_append];rfl
theorem Ib (ts:List Tk)(args:List Tk):(HI ts args).1.length=args.length∧(HI ts args).2.length≤ts.length+args.length:=by
 have:∀(args:List Tk) (s:List Int×List Tk),(args.foldl BI s).1.length=s.1.length+args.length∧(args.foldl BI s).2.length≤s.2.length+args.length:=by
  intro args;induction args with
  | nil=>intro s;exact⟨rfl,FH _⟩
  | cons c args ih =>
   intro s;obtain⟨h1,h2⟩:=ih (BI s c);have h3:=EJ s.2 c;have h4:(BI s c).1.length=s.1.length+1:=by unfold BI;simp
   have h5:(BI s c).2.length≤s.2.length+1:=h3;rw[Kt,h1,h4,FC];exact⟨by omega,by omega⟩
 simpa[HI]using this args ([],ts)
abbrev Le:=List (List Nat×(Nat×List (List Int)))
def Ll (M:Le) (f:Fc):Le:=match Hr M f.1 with
 | none=>Pe M f.1 (f.2.length,[])
 | some _=>M
def P6 (M:Le) (f:Fc):Nat×List (List Int):=(Hr (Ll M f) f.1).getD (0,[])
def Tg (s:List Tk×Le) (f:Fc):List Tk×Le:=((HI s.1 f.2).2,Pe (Ll s.2 f) f.1 ((P6 s.2 f).1,Lb (P6 s.2 f).2 (HI s.1 f.2).1))
def HO (ts:List Tk) (l:List Fc):List Tk×Le:=l.foldl Tg (ts,[])
theorem AC (ts:List Tk)(l:List Fc)(f:Fc):HO ts (l++[f])=Tg (HO ts l) f:=by unfold HO;rw[List.foldl_append];rfl
structure LaidW (B sm:Nat) (w:AW) (M:Le) (MV:List (List Nat×V)) (Sf:List Nat→Fw):Prop where
 pm:PM w sm MV
 key:∀nm,Hr M nm=none→Hr MV nm=none
 set:∀nm x,Hr M nm=some x→∃p,Hr MV nm=some p∧Rel.SetOf (Sf nm) w p x.1 x.2
 dis:∀nm nm' x,Sf nm x→Sf nm' x→nm=nm'
 lo:∀nm x,Sf nm x→B≤x∧x<w.next∧x≠sm
theorem LaidW.frm {B sm:Nat}{w':AW}{M:Le}{MV:List (List Nat×V)}{Sf:List Nat→Fw}{R:Fw}(h:LaidW B sm w M MV Sf)(g:Frm R w w')(hs:¬R sm)(hf:∀nm x,Sf nm x→¬R x):LaidW B sm w' M MV Sf:=
 ⟨h.pm.frm g hs,h.key,fun nm x hx=>by obtain⟨p,h1,h2⟩:=h.set nm x hx;exact⟨p,h1,h2.frm g (hf nm)⟩,h.dis,fun nm x hx=>by
  obtain⟨h1,h2,h3⟩:=h.lo nm x hx;have:=g.next;exact⟨h1,by omega,h3⟩⟩
structure LdF (f:Fr) (tb:Nat) (lv:V) (b5 i b4:Nat):Prop where
 f0:f.get 0=some (.ptr tb 0)
 f1:f.get 1=some lv
 f4:f.get 4=some (.ptr b4 0)
 f5:f.get 5=some (.ptr b5 0)
 f6:f.get 6=some (.int .i64 (Fq i))
theorem Jov (C:Codes tab){T S:Fw}{tb mb b5 b4 i:Nat}{lv tv:V}{ts:List Tk}{l:List Fc}{fc:Fc}{f:Fr}{st:List SI}{Q:Fr→AW→Prop}(hx:Fcs T w lv l)(hfc:l[i]? = some fc)(hT:∀x,T x→x<w.next∧¬S x∧x≠tb∧x≠mb)(ht:TabW tb mb tv S ts w)(hts:ts.length≤50000)(hal:fc.2.length≤1000)(hok:∀t∈fc.2,TkOk t)(hF:LdF f tb lv b5 i b4)(f7:f.get 7=some .nilslice)(f8:f.get 8=some (.int .i64 (Fq 0)))(h:∀f' w' rv R tv' S',LdF f' tb lv b5 i b4→f'.get 7=some rv→Rel.RowV R w' rv (HI ts fc.2).1→TabW tb mb tv' S' (HI ts fc.2).2 w'→Frm (fun x=>S x∨x=tb∨x=mb) w w'→(∀x,S' x→S x∨w.next≤x)→(∀x,R x→w.next≤x∧x<w'.next)→WS tab st f' w' Q): WS tab (.code (.loop Zv) :: .endB 2::st) f w Q:=by
 have hil:i<l.length:=(List.getElem?_eq_some_iff.1 hfc).1;have htS:=ht.s
 refine HT (fun q f w1=>∃m rv R tv1 S1,LdF f tb lv b5 i b4∧f.get 7=some rv∧f.get 8=some (.int .i64 (Fq m))∧Bt R w1 rv 1 m (Rel.rowC (HI ts (fc.2.take m)).1)∧TabW tb mb tv1 S1 (HI ts (fc.2.take m)).2 w1∧Frm (fun x=>S x∨x=tb∨x=mb) w w1∧(∀x,S1 x→S x∨w.next≤x)∧(∀x,R x→w.next≤x∧x<w1.next∧¬S1 x)∧m≤fc.2.length∧q=fc.2.length-m)
  (fun f w1=>∃rv R tv1 S1,LdF f tb lv b5 i b4∧f.get 7=some rv∧Bt R w1 rv 1 fc.2.length (Rel.rowC (HI ts fc.2).1)∧TabW tb mb tv1 S1 (HI ts fc.2).2 w1∧Frm (fun x=>S x∨x=tb∨x=mb) w w1∧(∀x,S1 x→S x∨w.next≤x)∧(∀x,R x→w.next≤x∧x<w1.next)) ?_ ?_ fc.2.length
  ⟨0,.nilslice,fun _=>False,tv,S,hF,f7,f8,.nil,ht,Frm.refl _,fun x hx=> .inl hx,fun _ h=>h.elim,Nat.zero_le _,rfl⟩
 ·rintro q f w1 ⟨m,rv,R,tv1,S1,⟨f0,f1,f4,f5,f6⟩,f7,f8,hB,hT1,g,hS1,hR,hm,rfl⟩ ih out
  have hTR:∀x,T x→¬(S x∨x=tb∨x=mb):=fun x hx h=>by
   obtain⟨_,h1,h2,h3⟩:=hT x hx;rcases h with h|h|h
   ·exact h1 h
   ·exact h2 h
   ·exact h3 h
  obtain⟨b,o,c,xv,rfl,_,_,l2,l0,l1,hxa⟩:=Dm (hx.frm g hTR) hfc;have hxl:=hxa.lenV;by_cases hlt:m<fc.2.length
  case neg =>
   obtain rfl:m=fc.2.length:=Fh;rw[List.take_length]at hB hT1;refine Hs 1000 (by simp only[go_sem,Zv,f1,f6,f8,hil,l1,hxl,hlt];rfl) ?_;exact out _ _ _ ⟨rv,R,tv1,S1,⟨(Fg f0),(Fg f1),(Fg f4),(Fg f5),(Fg f6)⟩,(Fg f7),hB,hT1,g,hS1,fun x hx=>⟨(hR x hx).1,(hR x hx).2.1⟩⟩ rfl
  obtain⟨t,ht'⟩:∃t,fc.2[m]? = some t:=⟨_,FB hlt⟩;obtain⟨ab,ao,ac,rfl,a3⟩:=JpG hxa ht';have hln:=(Ib ts (fc.2.take m)).2;rw[FT]at hln;refine Fz (by simp only[go_sem,Hn,Zv,Ut,f0,f1,f6,f7,f8,hil,l1,hxl,hlt,a3,Bg];rfl) ?_;refine Hq Ff Fe ?_;refine Dq C hT1 Fh (hok t (FI ht')) fun w2 tv2 S2 t2 g2 s2=>?_;have n1:=g.next;have n2:=g2.next
  have hRn:∀x,R x→¬(S1 x∨x=tb∨x=mb):=fun x hx h=>by
   have:=hR x hx;rcases h with h|h|h
   ·exact this.2.2 h
   ·have:=ht.a.lt;omega
   ·have:=ht.m.lt;omega
  have hB2:=hB.frm g2 hRn;obtain⟨v',w3,R3,u1,u2,u3,u4⟩:=hB2.push (news:=[.int .i64 (Fq (idT (HI ts (fc.2.take m)).2 t).1)]) (bytes:=8) (fun x hx=>by have:=hR x hx;omega) Fh rfl rfl Fh Fh;have hel:(w2.fresh [.int .i64 (Fq (idT (HI ts (fc.2.take m)).2 t).1)]).elems 1 (.slice w2.next 0 1 (.known 1))=some (1,[.int .i64 (Fq (idT (HI ts (fc.2.take m)).2 t).1)]):=Pl Fh rfl;have hov:over [V.int .i64 0] 0 [.int .i64 (Fq (idT (HI ts (fc.2.take m)).2 t).1)]=some [.int .i64 (Fq (idT (HI ts (fc.2.take m)).2 t).1)]:=rfl;have hwr:KX .i64 (Fq m+1)=Fq (m+1):=Hv Fh;refine Fz (by simp only[go_sem,Hn,f7,Hw,HF,hov,FC,FD,hel,u1,f8,hwr];rfl) ?_;have hRt:∀x,R x→x≠tb∧x≠mb:=fun x hx=>⟨fun e=>hRn x hx (.inr (.inl e)),fun e=>hRn x hx (.inr (.inr e))⟩
  have t3:TabW tb mb tv2 S2 (idT (HI ts (fc.2.take m)).2 t).2 w3:=t2.step u3 (fun e=>(hRt _ e).1 rfl) (fun e=>(hRt _ e).2 rfl) fun x hx e=>by
   rcases s2 x hx with h|h
   ·exact (hR x e).2.2 h
   ·have:=(hR x e).2.1;omega
  have esn:HI ts (fc.2.take (m+1))=((HI ts (fc.2.take m)).1++[Fq (idT (HI ts (fc.2.take m)).2 t).1],(idT (HI ts (fc.2.take m)).2 t).2):=by rw[PF ht',Ny];rfl
  have n3:=u3.next;refine ih _ _ _ Fh ⟨m+1,v',R3,tv2,S2,⟨(Fg f0),(Fg f1),(Fg f4),(Fg f5),(Fg f6)⟩,Fb,Fb,?_,by rw[esn];exact t3,?_,fun x hx=>?_,fun x hx=>?_,by omega,rfl⟩
  ·rw[esn];have e:Rel.rowC ((HI ts (fc.2.take m)).1++[Fq (idT (HI ts (fc.2.take m)).2 t).1])=Rel.rowC (HI ts (fc.2.take m)).1++[.int .i64 (Fq (idT (HI ts (fc.2.take m)).2 t).1)]:=by unfold Rel.rowC;rw[List.map_append];rfl
   rw[e];exact u2
  ·refine (g.trans g2 (fun _ _ h=>h) fun x hx h=>?_).trans u3 (fun _ _ h=>h) fun x hx h=>by have:=(hR x h).1;omega
   rcases h with h|h|h
   ·rcases hS1 x h with h|h
    ·exact .inl h
    ·omega
   ·exact .inr (.inl h)
   ·exact .inr (.inr h)
  ·rcases s2 x hx with h|h
   ·exact hS1 x h
   ·right;omega
  ·refine⟨?_,(u4 x hx).1,fun hs=>?_⟩
   ·rcases (u4 x hx).2 with h|h
    ·exact (hR x h).1
    ·omega
   ·rcases (u4 x hx).2 with h|h
    ·rcases s2 x hs with h2|h2
     ·exact (hR x h).2.2 h2
     ·have:=(hR x h).2.1;omega
    ·have:=(t2.s x hs).1;omega
 ·rintro f w1 ⟨rv,R,tv1,S1,hF,h7,hB,hT1,g,hS1,hR⟩;have hl:=(Ib ts fc.2).1;exact h f w1 rv R tv1 S1 hF h7 (JqA (by rw[hl];exact hB)) hT1 g hS1 hR
end
end Go.Proofs.YtegdcbdicpfbpaaDoor
