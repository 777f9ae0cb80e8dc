/- A part of the proof. -/
import Derived.Test.YtegdcbdicpfbpaaGreatDoorJdR
import Derived.Test.YtegdcbdicpfbpaaGreatDoorJdI
import Derived.Test.YtegdcbdicpfbpaaGreatDoorJdL
import Derived.Sort.KeysCollected
import Derived.Test.YtegdcbdicpfbpaaGreatDoorJdM
import Derived.Test.YtegdcbdicpfbpaaGreatDoorJdO
open Int renaming ofNat → Fq
set_option linter.unusedVariables false
set_option maxRecDepth 10000
set_option linter.unusedSimpArgs false
namespace Go.Proofs.YtegdcbdicpfbpaaGreatDoor
open Go.AE Delphi Val
variable {tab:Tab}
def Bb (r:Rl) (first:Int) (dq:Option (Nat×List (List Int))) (sets:List Nat→Option (Nat×List (List Int))) (most:Int):JE :=
 ⟨r.head,r.body,(LQ r first).1,(List.range ((LQ r first).1.length+1)).map (Br r.head r.body (LQ r first).1),fun i=>if Fq i=first then dq else sets (Le r.body i).name,most⟩
def LM (r:Rl) (first:Int) (dq:Option (Nat×List (List Int))) (sets:List Nat→Option (Nat×List (List Int))) (most:Int) (ts:List Tk):JS :=
 OW (Bb r first dq sets most) (LQ r first).1.length 0 [] ⟨Bj ts r.body,[],[]⟩
structure SomeB (r:Rl) (dq:Option (Nat×List (List Int))) (sets:List Nat→Option (Nat×List (List Int))):Prop where
 bd:RBr r
 h4:r.head.args.length≤4
 bk:∀l∈r.body,l.kind≠1→l.kind≠2→3≤l.kind∧l.kind≤6∧l.args.length=2
 hc:∀t∈r.head.args,t.kind≠1→TkOk (Lc t)
 bc:∀l∈r.body,∀t∈l.args,t.kind≠1→TkOk (Lc t)∧Ll (Lc t)=true
 w4:∀nm x,sets nm=some x→x.1≤4
 rl:∀nm x,(dq=some x∨sets nm=some x)→x.2.length≤1000000∧∀r∈x.2,r.length=x.1∧∀n∈r,n.natAbs≤100000
def NI (r:Rl):List Tk:=(r.head.args++r.body.flatMap Lt.args).map Lc
variable {r:Rl}
theorem Jm8 (h:RBr r):(NI r).length≤40:=by
 unfold NI;rw[F9,FE];have h1:=h.head;have h2:=h.body
 have:∀(b:List Lt),(∀l∈b,l.args.length≤5)→(b.flatMap Lt.args).length≤5*b.length:=by
  intro b;induction b with
  | nil=>intro _;simp
  | cons l b ih =>
   intro hb;rw[Kz,FE,FC];have:=ih fun x hx=>hb x (FO _ hx);have:=hb l Fj;omega
 have:=this r.body h.args;omega
variable {first:Int}
theorem JtK (hbd:RBr r)(h:OL r first):(∀i∈(LQ r first).1,i<r.body.length)∧(LQ r first).1.length≤r.body.length:=by
 have hinv:=JjI (body:=r.body) hbd.args (r.body.length-(TB r.body first).1.length) _ (Jlc hbd h);refine⟨hinv.lt,?_⟩;refine JjJ _ _ ?_;have:=Qg r.body first;by_cases h0:0≤first
 ·have:=h.2.2.1;omega
 ·simp[TB,h0]
theorem JpG (C:Codes tab)(I:Ib tab)(P:SL tab){most:Int}{xs:List V}{dq:Option (Nat×List (List Int))}{sets:List Nat→Option (Nat×List (List Int))}{sty sfn tb mb:Nat}{sv dp tv:V}{O S:Fw}{ts:List Tk}{w:AW}{K:V→AW→Prop}(hb:SomeB r dq sets)(hsl:L9 [(41,Jg,none)] sty=some (sfn,none))(hdv:dp.cells=[dp])(hr:RlC O w r xs)(hT:TabW tb mb tv S ts w)(hst:StoreAt tab O w sfn sv sets)(hd:SetQ O w dp dq)(hO:∀x,O x→x<w.next∧¬S x∧x≠tb∧x≠mb)(hts:ts.length≤60000)(hrl:OL r first→(LM r first dq sets most ts).rows.length≤1000000)(h1:¬OL r first→∀w',Frm (fun _=>False) w w'→K .nilslice w')(h2:OL r first→∀v w' tv' S' cs S1 T1,TabW tb mb tv' S' (LM r first dq sets most ts).ts w'→Frm (fun x=>S x∨x=tb∨x=mb) w w'→(∀x,S' x→S x∨w.next≤x)→Rel.ListOf w.next w' v (LM r first dq sets most ts).rows cs S1 T1→(∀x,S1 x∨T1 x→¬S' x)→Rel.Rise (LM r first dq sets most ts).rows∧(∀x∈(LM r first dq sets most ts).rows,x.length=r.head.args.length)→K v w'): WF tab VP [.agg xs,.ptr tb 0,.iface sty sv,.int .i64 first,dp,.int .i64 most] w K:=by
 refine Ld C.XB rfl ?_;have hxl:=hr.one;obtain⟨w1,e1,c1,r1,m1⟩:=Oe w xs;have k4:w1.load w.next 0 4=some xs:=c1.all hxl.1;have hcx:V.cells (.agg xs)=xs:=rfl;refine Fz (by simp only[go_sem,K5,Zt,Pl,hcx,e1,k4];rfl) ?_;refine K9 Ff Fe ?_;refine Ju5 C (hr.frm r1 fun _ _ h=>h) hb.bd (fun w2 hno g2=>?_) (fun w2 ov bv So Sb hok q1 q2 g2 q3=>?_)
 ·obtain⟨w3,s3,c3,r3,n3⟩:=Oj w2 (zs:=[V.nilslice,V.nilslice]) (vs:=[V.nilslice,V.nilslice]) rfl rfl;refine Fz (by simp only[go_sem,K5,s3,FC,FD,Ut,Pe];rfl) ?_;refine K7 ⟨_,by simp only[go_sem,K5,Zt];rfl,?_⟩;exact h1 hno w3 ((r1.tr g2).tr r3)
 have hone:Lv [ov,bv]=true:=by
  rw[Ah];intro x hx;simp at hx;rcases hx with rfl|rfl
  ·exact q1.one.1
  ·exact q2.one.1
 obtain⟨w3,s3,c3,r3,n3⟩:=Oj w2 (zs:=[V.nilslice,V.nilslice]) (vs:=[ov,bv]) rfl hone;have g13:=g2.tr r3;have c13:=c1.frm g13 fun h=>h;have k4':w3.load w.next 0 4=some xs:=c13.all hxl.1;have l2:w3.load w2.next 0 2=some [ov,bv]:=c3.all rfl;obtain⟨hv,xb,rfl,hh,hu⟩:=hr;have k2:w3.load w.next 2 1=some [hv]:=CB.ld c13 2 1 _ rfl;have hhl:=hh.lenV;have hp1:eqV .ptr (.ptr tb 0) .nilptr=some false:=rfl;have hp2:eqV .iface (.iface sty sv) .niliface=some false:=rfl;refine Fz (by simp only[go_sem,K5,s3,FC,FD,Ut,hp1,hp2,Pk];rfl) ?_;refine Bo ?_;have cm1:SM (w3.new (.map [] 0)) w3.next ([]:Vm):=MB.new w3;have fm1:Frm (fun _=>False) w3 (w3.new (.map [] 0)):=CY w3;have nm1:(w3.new (.map [] 0)).next=w3.next+1:=rfl;generalize hw4:w3.new (.map [] 0)=w4 at cm1 fm1 nm1;have cm2:SM (w4.new (.map [] 0)) w4.next ([]:Vm):=MB.new w4;have fm2:Frm (fun _=>False) w4 (w4.new (.map [] 0)):=CY w4;have nm2:(w4.new (.map [] 0)).next=w4.next+1:=rfl;generalize hw5:w4.new (.map [] 0)=w5 at cm2 fm2 nm2;have cm1:=cm1.frm fm2 fun h=>h;have g35:=fm1.tr fm2;have k2':w5.load w.next 2 1=some [hv]:=CB.ld (c13.frm g35 fun h=>h) 2 1 _ rfl;have hl5:([.int .i64 (Fq r.head.kind),.str r.head.name,hv,xb]:List V).length=4:=rfl;refine LU 100 (by simp only[go_sem,K5,k4',l2,hw4,hw5,k2',hhl];rfl) ?_;refine BJ Ff Fe ?_;refine Rel.new_ok C hb.h4 fun w6 hset g6 n6=>?_;have g36:=g35.tr g6;obtain⟨w7,e7,c7,r7,m7⟩:=Oe w6 [V.int .i64 (Fq r.head.kind),.str r.head.name,hv,xb,.ptr tb 0,.iface sty sv,ov,bv,.int .i64 first,dp,.nilslice,.map w3.next,.map w4.next,.ptr w5.next 0,.int .i64 most];have hcc1:V.cells (.agg [V.int .i64 (Fq r.head.kind),.str r.head.name,hv,xb])=[V.int .i64 (Fq r.head.kind),.str r.head.name,hv,xb]:=rfl;have hcc2:V.cells (.agg [ov,bv])=[ov,bv]:=rfl;have hcc3:V.cells (.iface sty sv)=[.iface sty sv]:=rfl;have n35:=g35.next;have k4'':w6.load w.next 0 4=some [V.int .i64 (Fq r.head.kind),.str r.head.name,hv,xb]:=(c13.frm g36 fun h=>h).all rfl;refine LU 100 (by simp only[go_sem,K5,Lg,Lj,over,hcc1,hcc2,hcc3,hdv,Am,FC,FD,Lr,e7];rfl) ?_;have k4a:w4.load w.next 0 4=some [V.int .i64 (Fq r.head.kind),.str r.head.name,hv,xb]:=(c13.frm fm1 fun h=>h).all rfl;have k4b:w5.load w.next 0 4=some [V.int .i64 (Fq r.head.kind),.str r.head.name,hv,xb]:=(c13.frm g35 fun h=>h).all rfl;have l2a:w4.load w2.next 0 2=some [ov,bv]:=(c3.frm fm1 fun h=>h).all rfl;have l2b:w5.load w2.next 0 2=some [ov,bv]:=(c3.frm g35 fun h=>h).all rfl;have l2c:w6.load w2.next 0 2=some [ov,bv]:=(c3.frm g36 fun h=>h).all rfl;have k2a:w4.load w.next 2 1=some [hv]:=CB.ld (c13.frm fm1 fun h=>h) 2 1 _ rfl;refine O1 ⟨(show LF _ _ [(0,6),(0,7),(0,12),(3,6),(3,7),(3,12),(10,6),(10,7)]from by simp only[go_sem,K5,LF,chk,List.reverse_cons,List.reverse_nil,O8,O6,O4,O5,List.getElem?_nil,false_or,or_true,or_false,exists_eq',FQ,Prod.mk.injEq,Bool.true_eq_false,FM,and_true,true_and,implies_true,k4',k4a,k4b,k4'',l2,l2a,l2b,l2c,k2,k2a,k2']),?_⟩;have g37:=g36.tr r7;have g07:Frm (fun _=>False) w w7:=((r1.tr g13).tr g37);have nn1:=r1.next;have nn13:=g13.next;have nn36:=g36.next;have n67:=r7.next;have j3:w7.load w.next 3 1=some [xb]:=CB.ld (c13.frm g37 fun h=>h) 3 1 _ rfl;have hul:=Cx hu;have hT7:=hT.step0 g07;have hO7:∀x,O x→x<w7.next∧¬S x∧x≠tb∧x≠mb:=fun x hx=>⟨FK (hO x hx).1 g07.next,(hO x hx).2⟩;have hOw:∀x,O x→x<w.next:=fun x hx=>(hO x hx).1;have hu7:RdL (LtC O) O w7 xb 3 r.body:=hu.frm (fun _ _ h=>h.frm g07 fun _ _ h=>h) g07 fun _ _ h=>h;have hh7:=hh.frm g07 fun _ _ h=>h;have hb7:=hb.bd.body;have ha5:=hb.bd.args;have hpl:=JtK hb.bd hok;have hal:∀l∈r.body,l.args.length≤10:=fun l hl=>by have:=ha5 l hl;omega
 have hSl:∀x,S x→x<w.next:=fun x hx=>(hT.s x hx).1;have htbl:=hT.a.lt;have hmbl:=hT.m.lt;refine Fz (by simp only[go_sem,K5,Pj,j3,hul];rfl) ?_;refine Jt3 (jb:=w6.next) (b6:=w.next) (O:=O) C hT7 hu7 hO7 Fh hal Fh hb.bc ⟨Fb,Fb,Fb⟩ Fb Fb Fb fun f8 w8 tv8 S8 hF8 t8 g8 s8=>?_;obtain⟨f1,f6,f15⟩:=hF8;have n78:=g8.next
 have hR8:∀x,w.next≤x→¬(S x∨x=tb∨x=mb):=fun x hx h=>by
  rcases h with h|h|h
  ·have:=hSl x h;omega
  ·omega
  ·omega
 have hRO:∀x,O x→¬(S x∨x=tb∨x=mb):=fun x hx h=>by
  obtain⟨_,h1,h2,h3⟩:=hO x hx;rcases h with h|h|h
  ·exact h1 h
  ·exact h2 h
  ·exact h3 h
 obtain⟨cells,hcells⟩:∃c,c=[V.int .i64 (Fq r.head.kind),.str r.head.name,hv,xb,.ptr tb 0,.iface sty sv,ov,bv,.int .i64 first,dp,.nilslice,.map w3.next,.map w4.next,.ptr w5.next 0,.int .i64 most]:=⟨_,rfl⟩;rw[←hcells]at c7;have c8:=c7.frm g8 (hR8 _ Fh);have hSoN:∀x,So x→w.next≤x∧x<w3.next:=fun x hx=>by have:=q3 x (.inl hx);have:=r3.next;omega
 have q1':Bt So w8 ov 1 (LQ r first).1.length (Bw (LQ r first).1):=((q1.frm r3 fun _ _ h=>h).frm g37 fun _ _ h=>h).frm g8 fun x hx=>hR8 x (hSoN x hx).1;have hu8:RdL (LtC O) O w8 xb 3 r.body:=hu7.frm (fun _ _ h=>h.frm g8 hRO) g8 hRO;have hh8:=hh7.frm g8 hRO
 have hO1:∀x,(O x∨So x)→x<w8.next∧x≠w6.next:=fun x hx=>by
  rcases hx with hx|hx
  ·have:=hOw x hx;omega
  ·have:=hSoN x hx;omega
 refine Fz (by simp only[go_sem,K5,f15];rfl) ?_;refine K9 Ff Fe ?_;refine JtF (O:=fun x=>O x∨So x) (head:=r.head) (body:=r.body) (order:=(LQ r first).1) C c8 (by rw[hcells];rfl) (by rw[hcells];rfl) (by rw[hcells];rfl) (by rw[hcells];rfl) (hh8.mono fun _ h=> .inl h) (C8 hu8 fun _ h=> .inl h) (q1'.mono fun _ h=> .inr h) hO1 hpl.1 hal (by have:=hb.bd.head;omega) Fh Fh fun w9 nv ncs R9 c9 nv1 hnv hns g9 hR9=>?_;have n89:=g9.next;have e9:cells.set 10 nv=[V.int .i64 (Fq r.head.kind),.str r.head.name,hv,xb,.ptr tb 0,.iface sty sv,ov,bv,.int .i64 first,dp,nv,.map w3.next,.map w4.next,.ptr w5.next 0,.int .i64 most]:=by rw[hcells];rfl
 have j13:w9.load w6.next 13 1=some [.ptr w5.next 0]:=CB.ld c9 13 1 _ (by rw[e9];rfl);have hp3:eqV .ptr (.ptr w5.next 0) .nilptr=some false:=rfl;have nj:∀x,x<w.next→¬x=w6.next:=fun x hx=>by omega
 have hE:JPure (Bb r first dq sets most) first dq sets (Bj ts r.body) (NI r):=by
  have hcl:=Jm8 hb.bd;have hil:=MN (ts:=ts) (n:=10) hal;refine⟨fun i hi=>rfl,hb.w4,fun i x hx=>?_,hpl.1,by show (LQ r first).1.length≤100;omega,by simp[Bb],fun l hl=>?_,by have:=hb.bd.head;show r.head.args.length≤10;omega,hal,hb.bk,by show r.body.length≤100;omega,fun t ht hk=>⟨hb.hc t ht hk,?_⟩,fun l hl t ht hk=>⟨(hb.bc l hl t ht hk).1,?_⟩,by omega⟩
  ·have hx:(if Fq i=first then dq else sets (Le r.body i).name)=some x:=hx;split at hx
   ·exact hb.rl [] x (.inl hx)
   ·exact hb.rl _ x (.inr hx)
  ·simp only[Bb,Ke,List.mem_range]at hl;obtain⟨k,_,rfl⟩:=hl;exact Kk (Jm0 (k:=k) hal (by have:=hb.bd.head;omega) Fh).2 Fh
  ·exact List.mem_map.2 ⟨t,List.mem_append_left _ ht,rfl⟩
  ·exact List.mem_map.2 ⟨t,List.mem_append_right _ (List.mem_flatMap.2 ⟨l,hl,ht⟩),rfl⟩
 have g79:Frm (fun x=>(S x∨x=tb∨x=mb)∨x=w6.next) w7 w9:=g8.trans g9 (fun _ _ h=> .inl h) fun _ _ h=> .inr h;have g09:Frm (fun x=>(S x∨x=tb∨x=mb)∨x=w6.next) w w9:=g07.trans g79 (fun _ _ h=>h.elim) fun _ _ h=>h;have hO9:∀x,O x→¬((S x∨x=tb∨x=mb)∨x=w6.next):=fun x hx h=>h.elim (hRO x hx) (nj x (hOw x hx));have hj9:∀x,So x→¬x=w6.next:=fun x hx=>by have:=hSoN x hx;omega
 have hlt9:∀x,(O x∨So x∨x=w6.next∨R9 x)→x<w9.next:=fun x hx=>by
  rcases hx with hx|hx|hx|hx
  ·have:=hOw x hx;omega
  ·have:=hSoN x hx;omega
  ·omega
  ·exact (hR9 x hx).2
 have hS:JStat tab (fun x=>O x∨So x∨x=w6.next∨R9 x) w9 w6.next tb w3.next w4.next (Bb r first dq sets most) (cells.set 10 nv) (.ptr w5.next 0) sv first dq sets sty sfn:=by
  rw[e9]at c9 ⊢;refine⟨c9,.inr (.inr (.inl rfl)),⟨_,rfl,⟨hv,rfl,(hh.frm g09 hO9).mono fun _ h=> .inl h⟩⟩,⟨xb,rfl,C8 (hu.frm (fun _ _ h=>h.frm g09 hO9) g09 hO9) fun _ h=> .inl h⟩,rfl,rfl,⟨ov,rfl,((q1'.frm g9 hj9).rd).mono fun _ h=> .inr (.inl h)⟩,rfl,⟨dp,rfl,(hd.frm g09 hO9).mono (fun _ h=> .inl h) hlt9⟩,⟨nv,ncs,rfl,?_,fun k l hl=>?_⟩,rfl,rfl,rfl,rfl,?_⟩
  ·have e:(Bb r first dq sets most).need.length=(LQ r first).1.length+1:=by simp[Bb]
   rw[e];exact hnv.mono fun _ h=> .inr (.inr (.inr h))
  ·simp only[Bb,F7]at hl;by_cases hk:k<(LQ r first).1.length+1
   ·rw[List.getElem?_range hk]at hl;have hl:=FY hl;obtain⟨sv',h4,h5⟩:=hns k Fh;rw[hl]at h5;exact⟨sv',h4,h5.mono fun _ h=> .inr (.inr (.inr h))⟩
   ·rw[List.getElem?_eq_none (by rw[List.length_range];omega)]at hl;cases hl
  ·intro R w' g' hd' nm K' hK;refine hst (fun x=>((S x∨x=tb∨x=mb)∨x=w6.next)∨R x) w' (g09.trans g' (fun _ _ h=> .inl h) fun _ _ h=> .inr h) (fun x hx h=>h.elim (hO9 x hx) (hd' x (.inl hx))) nm K' fun w2 p g2 hq=>hK w2 p g2 (hq.mono (fun _ h=> .inl h) fun x hx=>FK (hlt9 x hx) (Kk g'.next g2.next))
 have hD:Dyn (fun x=>O x∨So x∨x=w6.next∨R9 x) tb mb w4.next w3.next (.ptr w5.next 0) (Bb r first dq sets most).head.args.length w9 tv8 S8 (fun b=>b=w5.next) [] ⟨Bj ts r.body,[],[]⟩:=by
  have hnew:∀x,w.next≤x→x<w7.next→¬S8 x:=fun x h1 h2 h=>by
   rcases s8 x h with h|h
   ·have:=hSl x h;omega
   ·omega
  have hn79:∀x,w.next≤x→x≠w6.next→¬((S x∨x=tb∨x=mb)∨x=w6.next):=fun x hx hn h=>h.elim (hR8 x hx) hn;have c1m:=(((cm1.frm g6 fun h=>h).frm r7 fun h=>h).frm g79 (hn79 _ Fh Fh));have c2m:=(((cm2.frm g6 fun h=>h).frm r7 fun h=>h).frm g79 (hn79 _ Fh Fh));have s6:Rel.SetOf (fun b=>b=w5.next) w9 (.ptr w5.next 0) r.head.args.length []:=(hset.frm r7 fun _ _ h=>h).frm g79 fun x hx=>by subst hx;exact hn79 _ Fh Fh
  refine⟨t8.step g9 (fun e=>by omega) (fun e=>by omega) fun x hx e=>hnew x Fh Fh hx,c2m,c1m,s6,fun x hx=>⟨fun e=>hnew x Fh Fh hx,fun e=>hnew x Fh Fh hx,fun e=>hnew x Fh Fh hx,fun ho=>?_⟩,fun x hx=>⟨by omega,by omega,by omega,by omega,fun ho=>?_,by omega⟩,⟨fun ho=>?_,fun ho=>?_,fun ho=>?_,fun ho=>?_⟩,⟨by omega,by omega,by omega,by omega,by omega⟩,hlt9⟩
  ·rcases ho with ho|ho|ho|ho
   ·rcases s8 x hx with h|h
    ·exact (hO x ho).2.1 h
    ·have:=hOw x ho;omega
   ·have:=hSoN x ho;exact hnew x Fh Fh hx
   ·exact hnew x Fh Fh hx
   ·have:=(hR9 x ho).1;have:=(t8.s x hx).1;omega
  ·rcases ho with ho|ho|ho|ho
   ·have:=hOw x ho;omega
   ·have:=hSoN x ho;omega
   ·omega
   ·have:=(hR9 x ho).1;omega
  ·rcases ho with ho|ho|ho|ho
   ·exact (hO _ ho).2.2.1 rfl
   ·have:=hSoN _ ho;omega
   ·omega
   ·have:=(hR9 _ ho).1;omega
  ·rcases ho with ho|ho|ho|ho
   ·exact (hO _ ho).2.2.2 rfl
   ·have:=hSoN _ ho;omega
   ·omega
   ·have:=(hR9 _ ho).1;omega
  ·rcases ho with ho|ho|ho|ho
   ·have:=hOw _ ho;omega
   ·have:=hSoN _ ho;omega
   ·omega
   ·have:=(hR9 _ ho).1;omega
  ·rcases ho with ho|ho|ho|ho
   ·have:=hOw _ ho;omega
   ·have:=hSoN _ ho;omega
   ·omega
   ·have:=(hR9 _ ho).1;omega
 refine Fz (by simp only[go_sem,K5,Pi,f15,j13,hp3,Pg];rfl) ?_;refine K9 Ff Fe ?_;have hM0:MOk []:=fun v=>by simp[Lm,K8]
 refine Jpe C I P hE hsl (LQ r first).1.length 0 (FV _) hS hD hM0 (TsIn.refl _ _) (hrl hok) fun w10 tv10 S10 So10 d10 m10=>?_;have j13':w10.load w6.next 13 1=some [.ptr w5.next 0]:=CB.ld (c9.frm m10.f (hD.dis _ (.inr (.inr (.inl rfl))))) 13 1 _ (by rw[e9];rfl);refine Fz (by simp only[go_sem,K5,Ph,f15,j13'];rfl) ?_;refine K9 Ff Fe ?_;refine Rel.all_ok C d10.o (hrl hok) fun v w11 cs S1 T1 hL g11=>?_;refine K6 1000 Fe ?_;refine K7 ⟨_,by simp only[go_sem,K5,Zt];rfl,?_⟩;have n10:=m10.f.next;have n11:=g11.next;refine h2 hok v w11 tv10 S10 cs S1 T1 (d10.t.step0 g11) ?_ (fun x hx=>?_) (hL.weaken Fh) (fun x hx hs=>?_) (by obtain⟨_,_,_,_,_,_,hz⟩:=d10.o;exact⟨hz.rise,hz.wid⟩)
 ·refine ((g09.trans m10.f (fun x hx h=>?_) fun x hx h=>?_).trans g11 (fun _ _ h=>h) fun _ _ h=>h.elim)
  ·exact h.elim id fun e=>absurd e (nj x hx)
  ·rcases h with h|h|h|h|h|h
   ·rcases s8 x h with h|h
    ·exact .inl h
    ·omega
   ·omega
   ·exact .inr (.inl h)
   ·exact .inr (.inr h)
   ·omega
   ·omega
 ·rcases m10.s x hx with h|h
  ·rcases s8 x h with h|h
   ·exact .inl h
   ·right;omega
  ·right;omega
 ·have:=(d10.t.s x hs).1;rcases hx with hx|hx
  ·have:=(hL.2.2.1 x hx).1;omega
  ·have:=(hL.2.2.2 x hx).1;omega
section
open Go.AE Delphi Val
abbrev Nv:=List Nat→Int
def Tg (ts0:List Tk) (ν:Nv) (t:Tm):Int:=if t.kind=1 then ν t.name else Fq (Bg ts0 (Lc t))
def Bc (ts0:List Tk) (ν:Nv) (t:Tm):Tk:=if t.kind=1 then Lx ts0 (ν t.name)else Lc t
def inN (q:Option (Nat×List (List Int))) (l:List Int):Prop:=∃x,q=some x∧l∈x.2
def CQ (ts0:List Tk) (ν:Nv) (l:Lt):Bool:=match l.args with
 | [a,b]=>TA l.kind (Bc ts0 ν a) (Bc ts0 ν b)
 | _=>false
def I9 (ts0:List Tk) (q:Option (Nat×List (List Int))) (l:Lt) (ν:Nv):Prop :=
 if l.kind=1 then inN q (l.args.map (Tg ts0 ν))else if l.kind=2 then ¬inN q (l.args.map (Tg ts0 ν))else CQ ts0 ν l=true
def agr (M:Vm) (ν:Nv):Prop:=∀v n,K8 M v=some n→ν v=n
def SK (E:JE) (ts0:List Tk) (k:Nat) (M:Vm) (h:List Tk):Prop:=∃ν,agr M ν∧(∀j,k≤j→j<E.order.length→I9 ts0 (E.sets (Tp E j)) (Lp E j) ν)∧h=E.head.args.map (Bc ts0 ν)
def bvK (E:JE) (k:Nat) (v:List Nat):Prop:=∃j,j<k∧(Lp E j).kind=1∧∃t∈(Lp E j).args,t.kind=1∧t.name=v
structure VldM (E:JE) (ts0:List Tk) (k:Nat) (M:Vm):Prop where
 dom:∀v,(∃n,K8 M v=some n)↔bvK E k v
 rng:∀v n,K8 M v=some n→1≤n∧n≤(ts0.length:Int)
variable {M:Vm} {v:List Nat}
theorem Er {n:Int}(h:K8 M v=some n):Lm M v=n:=by unfold Lm;rw[h];rfl
theorem Jt7 (h:0<Lm M v):K8 M v=some (Lm M v):=by
 unfold Lm at h ⊢;cases hg:K8 M v with
 | none=>rw[hg]at h;exact absurd h (by decide)
 | some n=>rfl
def mt (ν:Nv):List Tm→List Int→Prop
 | t::ts,n::ns=>(t.kind=1→ν t.name=n)∧mt ν ts ns
 | _,_=>True
theorem Jux {n:Int}{ν:Nv}(hM:K8 M v=none):agr (Ob M v n) ν↔agr M ν∧ν v=n:=by
 constructor
 ·intro h;refine⟨fun u m hu=>?_,h v n (Bd _ _ _)⟩;have hne:u≠v:=by rintro rfl;rw[hM]at hu;cases hu
  exact h u m (by rw[Ti _ _ _ _ hne];exact hu)
 ·rintro⟨h1,h2⟩ u m hu;by_cases he:u=v
  ·subst he;rw[Bd]at hu;rw[h2];exact FY hu
  ·rw[Ti _ _ _ _ he]at hu;exact h1 u m hu
theorem Ee (ν:Nv):∀(ts:List Tm) (ns:List Int) (M:Vm) (l2:Fx),ts.length=ns.length→ ((agr M ν∧mt ν ts ns)↔((LB ts ns M l2).2=true∧agr (LB ts ns M l2).1.1 ν))
 | [],ns,M,l2,hl=>by simp[LB,mt]
 | t::ts,[],M,l2,hl=>by simp at hl
 | t::ts,n::ns,M,l2,hl=>by
  have hl':ts.length=ns.length:=by simpa using hl
  unfold LB;simp only[mt];by_cases hk:t.kind=1
  ·rw[if_neg (by simp[hk])];cases hg:K8 M t.name with
   | some k =>
    simp only;by_cases hkn:k=n
    ·rw[if_pos hkn,←Ee ν ts ns M l2 hl'];constructor
     ·rintro⟨h1,h2,h3⟩;exact⟨h1,h3⟩
     ·rintro⟨h1,h3⟩;exact⟨h1,fun _=>by rw[h1 _ _ hg,hkn],h3⟩
    ·rw[if_neg hkn];constructor
     ·rintro⟨h1,h2,_⟩;exact absurd ((h1 _ _ hg).symm.trans (h2 hk)) hkn
     ·rintro⟨h,_⟩;cases h
   | none =>
    simp only;rw[←Ee ν ts ns _ _ hl',Jux hg];constructor
    ·rintro⟨h1,h2,h3⟩;exact⟨⟨h1,h2 hk⟩,h3⟩
    ·rintro⟨⟨h1,h2⟩,h3⟩;exact⟨h1,fun _=>h2,h3⟩
  ·rw[if_pos hk,←Ee ν ts ns M l2 hl'];constructor
   ·rintro⟨h1,_,h3⟩;exact⟨h1,h3⟩
   ·rintro⟨h1,h3⟩;exact⟨h1,fun h=>absurd h hk,h3⟩
theorem MI:∀(ts:List Tm) (ns:List Int) (M:Vm) (l2:Fx),ts.length=ns.length→(LB ts ns M l2).2=true→ (∀v,(∃n,K8 (LB ts ns M l2).1.1 v=some n)↔((∃n,K8 M v=some n)∨∃t∈ts,t.kind=1∧t.name=v))∧ (∀(P:Int→Prop),(∀v n,K8 M v=some n→P n)→(∀n∈ns,P n)→∀v n,K8 (LB ts ns M l2).1.1 v=some n→P n)
 | [],ns,M,l2,hl,_=>⟨fun v=>by simp[LB],fun P h1 _ v n h=>h1 v n (by simpa[LB]using h)⟩
 | t::ts,[],M,l2,hl,_=>by simp at hl
 | t::ts,n::ns,M,l2,hl,hok=>by
  have hl':ts.length=ns.length:=by simpa using hl
  unfold LB at hok ⊢;by_cases hk:t.kind=1
  ·rw[if_neg (by simp[hk])]at hok ⊢;cases hg:K8 M t.name with
   | some k =>
    rw[hg]at hok;simp only at hok ⊢;by_cases hkn:k=n
    ·rw[if_pos hkn]at hok ⊢;obtain⟨h1,h2⟩:=MI ts ns M l2 hl' hok;refine⟨fun v=>?_,fun P p1 p2=>h2 P p1 fun m hm=>p2 m (FO _ hm)⟩;rw[h1 v];constructor
     ·rintro (h|⟨u,hu,h⟩)
      ·exact .inl h
      ·exact .inr ⟨u,FO _ hu,h⟩
     ·rintro (h|⟨u,hu,h⟩)
      ·exact .inl h
      ·rcases List.mem_cons.1 hu with rfl|hu
       ·rw[←h.2];exact .inl ⟨k,hg⟩
       ·exact .inr ⟨u,hu,h⟩
    ·rw[if_neg hkn]at hok;cases hok
   | none =>
    rw[hg]at hok;simp only at hok ⊢;obtain⟨h1,h2⟩:=MI ts ns (Ob M t.name n) _ hl' hok;refine⟨fun v=>?_,fun P p1 p2=>h2 P (fun v m hv=>?_) fun m hm=>p2 m (FO _ hm)⟩
    ·rw[h1 v];constructor
     ·rintro (⟨m,h⟩|⟨u,hu,h⟩)
      ·by_cases he:v=t.name
       ·exact .inr ⟨t,by simp,hk,he.symm⟩
       ·rw[Ti _ _ _ _ he]at h;exact .inl ⟨m,h⟩
      ·exact .inr ⟨u,FO _ hu,h⟩
     ·rintro (⟨m,h⟩|⟨u,hu,h⟩)
      ·by_cases he:v=t.name
       ·exact .inl ⟨n,by rw[he,Bd]⟩
       ·exact .inl ⟨m,by rw[Ti _ _ _ _ he];exact h⟩
      ·rcases List.mem_cons.1 hu with rfl|hu
       ·exact .inl ⟨n,by rw[←h.2,Bd]⟩
       ·exact .inr ⟨u,hu,h⟩
    ·by_cases he:v=t.name
     ·subst he;rw[Bd]at hv;cases hv;exact p2 n Fj
     ·rw[Ti _ _ _ _ he]at hv;exact p1 v m hv
  ·rw[if_pos hk]at hok ⊢;obtain⟨h1,h2⟩:=MI ts ns M l2 hl' hok;refine⟨fun v=>?_,fun P p1 p2=>h2 P p1 fun m hm=>p2 m (FO _ hm)⟩;rw[h1 v];constructor
   ·rintro (h|⟨u,hu,h⟩)
    ·exact .inl h
    ·exact .inr ⟨u,FO _ hu,h⟩
   ·rintro (h|⟨u,hu,h⟩)
    ·exact .inl h
    ·rcases List.mem_cons.1 hu with rfl|hu
     ·exact absurd h.1 hk
     ·exact .inr ⟨u,hu,h⟩
def SH (ts0:List Tk) (M:Vm) (t:Tm):Int:=if t.kind=1 then Lm M t.name else Fq (Bg ts0 (Lc t))
variable {ts0 x:List Tk}
theorem Jr1 {c:Tk}(h:c∈ts0):Bg (ts0++x) c=Bg ts0 c:=by
 have e:∀(l m:List Tk) (k:Nat),Bl k (l++m)=Bl k l++Bl (k+l.length) m:=by
  intro l;induction l with
  | nil=>intro m k;simp[Bl]
  | cons a l ih=>intro m k;simp only[List.cons_append,Bl,ih,FC];congr 3;omega
 unfold Bg;rw[e,Val.aget_app,MU h]
theorem Jv8 {ts:List Tk}{c:Tk}(h:c∈ts)(hm:Ll c=true):idT ts c=(Bg ts c,ts):=by unfold idT;rw[if_pos hm,if_pos h]
theorem JpE {ts0 x:List Tk}(M:Vm):∀(l:List Tm) (acc:List Int),(∀t∈l,t.kind≠1→Lc t∈ts0∧Ll (Lc t)=true)→l.foldl (Bz M) (acc,ts0++x)=(acc++l.map (SH ts0 M),ts0++x)
 | [],acc,_=>by simp
 | t::l,acc,h=>by
  have ht:=h t Fj
  have e:Bz M (acc,ts0++x) t=(acc++[SH ts0 M t],ts0++x):=by
   unfold Bz SH;by_cases hk:t.kind=1
   ·rw[if_pos hk,if_pos hk]
   ·obtain⟨h1,h2⟩:=ht hk;rw[if_neg hk,if_neg hk];simp only;rw[Jv8 (List.mem_append_left _ h1) h2,Jr1 h1]
  rw[Ku,e,JpE M l _ fun u hu=>h u (FO _ hu)];simp
theorem JtT (M:Vm)(l:List Tm)(h:∀t∈l,t.kind≠1→Lc t∈ts0∧Ll (Lc t)=true):Lf M (ts0++x) l=(l.map (SH ts0 M),ts0++x):=by
 unfold Lf;rw[JpE M l [] h];simp
theorem Qq {ts0:List Tk}{M:Vm}{ν:Nv}(hM:agr M ν):∀(l:List Tm) (row:List Int),row.length=l.length→(∀t∈l,t.kind≠1→Lc t∈ts0)→(row=l.map (Tg ts0 ν)↔(Rel.fitsR row (l.map (SH ts0 M))=true∧mt ν l row))
 | [],row,hl,_=>by
  have:row=[]:=List.length_eq_zero_iff.1 hl;subst this;simp[Rel.fitsR,mt]
 | t::l,[],hl,_=>by simp at hl
 | t::l,n::row,hl,hc=>by
  have hl':row.length=l.length:=by simpa using hl
  have ih:=Qq (ts0:=ts0) hM l row hl' fun u hu=>hc u (FO _ hu);simp only[Kv,List.cons.injEq,Rel.fitsR,mt,FT,Bool.not_eq_true',Bool.and_eq_false_iff,decide_eq_false_iff_not];rw[ih];by_cases hk:t.kind=1
  ·have e1:Tg ts0 ν t=ν t.name:=if_pos hk;have e2:SH ts0 M t=Lm M t.name:=if_pos hk;rw[e1,e2];constructor
   ·rintro⟨rfl,h2,h3⟩;refine⟨⟨?_,h2⟩,fun _=>rfl,h3⟩;by_cases hp:0<Lm M t.name
    ·right;have:=hM _ _ (Jt7 hp);rw[this];simp
    ·exact .inl hp
   ·rintro⟨⟨_,h2⟩,h3,h4⟩;exact⟨(h3 hk).symm,h2,h4⟩
  ·have e1:Tg ts0 ν t=Fq (Bg ts0 (Lc t)):=if_neg hk;have e2:SH ts0 M t=Fq (Bg ts0 (Lc t)):=if_neg hk;rw[e1,e2];have hp:=Ml (hc t Fj hk);constructor
   ·rintro⟨rfl,h2,h3⟩;exact⟨⟨.inr Fj,h2⟩,fun h=>absurd h hk,h3⟩
   ·rintro⟨⟨h1,h2⟩,_,h4⟩;refine⟨?_,h2,h4⟩;rcases h1 with h1|h1
    ·exact absurd (show (0:Int)<Fq (Bg ts0 (Lc t))by show (0:Int)<((Bg ts0 (Lc t):Nat):Int);omega) h1
    ·simpa using h1
end
section
open Go.AE Delphi Val
theorem ML (n:Int):32∉Ba n:=by
 intro h;cases n with
 | ofNat m =>
  have:=(DD m m (FH _)).1 32 h;revert this;decide
 | negSucc m =>
  rcases List.mem_cons.1 (show (32:Nat)∈45::Te (m+1)from h)with h|h
  ·cases h
  ·have:=(DD (m+1) (m+1) (FH _)).1 32 h;revert this;decide
theorem Jpd {a b:Int}(ha:a.natAbs≤2147483648)(hb:b.natAbs≤2147483648)(h:Ba a=Ba b):a=b:=by
 obtain⟨h1,h2⟩:=JrC a ha;obtain⟨h3,h4⟩:=JrC b hb;rw[h]at h1 h2;have e:a.natAbs=b.natAbs:=by rw[←h1,←h3]
 have s:a<0↔b<0:=by rw[←h2,←h4]
 omega
def Jth (x:List Nat):Prop:=x=[]∨∃y,x=32::y
theorem RN:∀{a b x y:List Nat},32∉a→32∉b→Jth x→Jth y→a++x=b++y→a=b∧x=y
 | [],[],x,y,_,_,_,_,h=>⟨rfl,h⟩
 | [],c::b,x,y,_,hb,hx,_,h=>by
  rcases hx with rfl|⟨x',rfl⟩
  ·simp at h
  ·have h:32::x'=c::(b++y):=h;injection h with h1 _
   exact absurd (by rw[←h1];simp) hb
 | c::a,[],x,y,ha,_,_,hy,h=>by
  rcases hy with rfl|⟨y',rfl⟩
  ·simp at h
  ·have h:c::(a++x)=32::y':=h;injection h with h1 _
   exact absurd (by rw[h1];simp) ha
 | c::a,d::b,x,y,ha,hb,hx,hy,h=>by
  have h:c::(a++x)=d::(b++y):=h;injection h with h1 h2
  obtain⟨h3,h4⟩:=RN (fun hh=>ha (FO _ hh)) (fun hh=>hb (FO _ hh)) hx hy h2;exact⟨by rw[h1,h3],h4⟩
theorem Ms (M:Vm)(l:Fx):Jth (Si M l):=by
 cases l with
 | nil=>exact .inl rfl
 | cons v l=>exact .inr ⟨_,rfl⟩
theorem JjB {M M':Vm}(h1:∀v,(Lm M v).natAbs≤100000)(h2:∀v,(Lm M' v).natAbs≤100000):∀{l l':Fx},l=l'→Si M l=Si M' l'→∀v∈l,Lm M v=Lm M' v
 | [],_,rfl,_=>by simp
 | v::l,_,rfl,h=>by
  have h:32::(Ba (Lm M v)++Si M l)=32::(Ba (Lm M' v)++Si M' l):=h;injection h with _ h
  obtain⟨h3,h4⟩:=RN (ML _) (ML _) (Ms M l) (Ms M' l) h;intro u hu;rcases List.mem_cons.1 hu with rfl|hu
  ·exact Jpd (by have:=h1 u;omega) (by have:=h2 u;omega) h3
  ·exact JjB h1 h2 rfl h4 u hu
variable {E:JE} {k:Nat} {M:Vm}
theorem QO {k':Nat}{M':Vm}(hk:k≤1000)(hk':k'≤1000)(h1:∀v,(Lm M v).natAbs≤100000)(h2:∀v,(Lm M' v).natAbs≤100000)(h:SN E k M=SN E k' M'):k=k'∧∀v∈Cz E k,Lm M v=Lm M' v:=by
 unfold SN SQ at h;obtain⟨h3,h4⟩:=RN (ML _) (ML _) (Ms _ _) (Ms _ _) h
 have e:k=k':=by
  have:=Jpd (a:=Fq k) (b:=Fq k') (by show k≤_;omega) (by show k'≤_;omega) h3;exact Int.ofNat.inj this
 subst e;exact⟨rfl,JjB h1 h2 rfl h4⟩
structure PlanOk (E:JE) (ts0:List Tk):Prop where
 lb:∀k,k<E.order.length→∀t∈(Lp E k).args,t.kind≠1→Lc t∈ts0∧Ll (Lc t)=true
 bound:∀k,k<E.order.length→(Lp E k).kind≠1→∀t∈(Lp E k).args,t.kind=1→bvK E k t.name
 hb:∀t∈E.head.args,t.kind=1→bvK E E.order.length t.name
 hm:∀t∈E.head.args,t.kind≠1→Ll (Lc t)=true
 rl:∀k,k<E.order.length→∀x,E.sets (Tp E k)=some x→∀r∈x.2,r.length=x.1∧∀n∈r,1≤n∧n≤(ts0.length:Int)
 nd:∀k,k≤E.order.length→∀v,v∈Cz E k↔((∃t∈E.head.args,t.kind=1∧t.name=v)∨∃j,k≤j∧j<E.order.length∧∃t∈(Lp E j).args,t.kind=1∧t.name=v)
 l2:∀k,k<E.order.length→(Lp E k).kind≠1→(Lp E k).kind≠2→(Lp E k).args.length=2
 ol:E.order.length≤100
 tl:ts0.length≤90000
def II (s:JS):List (List Tk):=s.rows.map fun r=>r.map (Lx s.ts)
structure JInv (ts0:List Tk) (s:JS):Prop where
 ts:∃x,s.ts=ts0++x
 rng:∀r∈s.rows,∀n∈r,1≤n∧n≤(s.ts.length:Int)
def dnJ (E:JE) (s:JS):Bool:=SC E.most s.rows.length
def Cq (E:JE) (ts0:List Tk) (K:Nat) (s:JS):Prop:=∀k M,K≤k→k≤E.order.length→VldM E ts0 k M→0<Lm s.seen (SN E k M)→∀h,SK E ts0 k M h→h∈II s
structure PostJ (E:JE) (ts0:List Tk) (K:Nat) (R:List Tk→Prop) (s s':JS):Prop where
 inv:JInv ts0 s'
 mono:∀h∈II s,h∈II s'
 snd:∀h∈II s',h∈II s∨R h
 cmp:dnJ E s'=false→∀h,R h→h∈II s'
 comp:dnJ E s'=false→Cq E ts0 K s'
 seen:∀key,0<Lm s'.seen key→0<Lm s.seen key∨∃k M,K≤k∧k≤E.order.length∧VldM E ts0 k M∧key=SN E k M
 smono:∀key,0<Lm s.seen key→0<Lm s'.seen key
 dmono:dnJ E s=true→dnJ E s'=true
variable {ts0:List Tk} {K:Nat} {R:List Tk→Prop} {s:JS}
theorem PostJ.dfalse {s':JS}(h:PostJ E ts0 K R s s')(hd:dnJ E s'=false):dnJ E s=false:=by
 cases hs:dnJ E s with
 | false=>rfl
 | true=>rw[h.dmono hs]at hd;cases hd
theorem PostJ.refl (hi:JInv ts0 s)(hc:dnJ E s=false→Cq E ts0 K s):PostJ E ts0 K (fun _=>False) s s:=
 ⟨hi,fun _ h=>h,fun _ h=> .inl h,fun _ _ h=>h.elim,hc,fun _ h=> .inl h,fun _ h=>h,fun h=>h⟩
variable {R':List Tk→Prop}
theorem PostJ.trans {s1 s2:JS}(h:PostJ E ts0 K R s s1)(h':PostJ E ts0 K R' s1 s2):PostJ E ts0 K (fun x=>R x∨R' x) s s2 where
 inv:=h'.inv
 mono x hx:=h'.mono x (h.mono x hx)
 snd x hx:=by
  rcases h'.snd x hx with h1|h1
  ·rcases h.snd x h1 with h2|h2
   ·exact .inl h2
   ·exact .inr (.inl h2)
  ·exact .inr (.inr h1)
 cmp hd x hx:=by
  rcases hx with hx|hx
  ·exact h'.mono x (h.cmp (h'.dfalse hd) x hx)
  ·exact h'.cmp hd x hx
 comp:=h'.comp
 seen key hk:=by
  rcases h'.seen key hk with h1|h1
  ·exact h.seen key h1
  ·exact .inr h1
 smono key hk:=h'.smono key (h.smono key hk)
 dmono hd:=h'.dmono (h.dmono hd)
theorem PostJ.iff {s':JS}(h:PostJ E ts0 K R s s')(hr:∀x,R x↔R' x):PostJ E ts0 K R' s s':=
 ⟨h.inv,h.mono,fun x hx=>(h.snd x hx).imp id (hr x).1,fun hd x hx=>h.cmp hd x ((hr x).2 hx),h.comp,h.seen,h.smono,h.dmono⟩
theorem Ay (h:VldM E ts0 k M)(ht:ts0.length≤90000):∀v,(Lm M v).natAbs≤100000:=by
 intro v;unfold Lm;cases hg:K8 M v with
 | none=>simp
 | some n =>
  have:=h.rng v n hg;show n.natAbs≤100000;omega
theorem JtQ (hE:PlanOk E ts0){M':Vm}(hk:k≤E.order.length)(h1:VldM E ts0 k M)(h2:VldM E ts0 k M')(hs:∀v∈Cz E k,Lm M v=Lm M' v){h:List Tk}(hr:SK E ts0 k M h):SK E ts0 k M' h:=by
 obtain⟨ν,ha,hsat,rfl⟩:=hr
 let ν':Nv:=fun v=>match K8 M' v with
  | some n=>n
  | none=>ν v
 have hn:∀v∈Cz E k,ν' v=ν v:=by
  intro v hv;show (match K8 M' v with|some n=>n|none=>ν v)=ν v;cases hg:K8 M' v with
  | none=>rfl
  | some n =>
   obtain⟨m,hm⟩:=(h1.dom v).2 ((h2.dom v).1 ⟨n,hg⟩);have:=hs v hv;rw[Er hm,Er hg]at this;rw[ha v m hm,this]
 have hnum:∀t:Tm,(t.kind=1→t.name∈Cz E k)→Tg ts0 ν' t=Tg ts0 ν t∧Bc ts0 ν' t=Bc ts0 ν t:=by
  intro t ht;unfold Tg Bc;by_cases hk1:t.kind=1
  ·rw[if_pos hk1,if_pos hk1,if_pos hk1,if_pos hk1,hn _ (ht hk1)];exact⟨rfl,rfl⟩
  ·rw[if_neg hk1,if_neg hk1,if_neg hk1,if_neg hk1];exact⟨rfl,rfl⟩
 refine⟨ν',fun v n hv=>?_,fun j hj hjl=>?_,?_⟩
 ·show (match K8 M' v with|some n=>n|none=>ν v)=n;rw[hv]
 ·have hl:∀t∈(Lp E j).args,Tg ts0 ν' t=Tg ts0 ν t∧Bc ts0 ν' t=Bc ts0 ν t:=fun t ht=>hnum t fun hk1=>(hE.nd k hk t.name).2 (.inr ⟨j,hj,hjl,t,ht,hk1,rfl⟩);have e1:(Lp E j).args.map (Tg ts0 ν')=(Lp E j).args.map (Tg ts0 ν):=List.map_congr_left fun t ht=>(hl t ht).1
  have e2:CQ ts0 ν' (Lp E j)=CQ ts0 ν (Lp E j):=by
   unfold CQ;cases ha:(Lp E j).args with
   | nil=>rfl
   | cons a l =>
    cases l with
    | nil=>rfl
    | cons b l =>
     cases l with
     | nil =>
      simp only;rw[(hl a (by rw[ha];simp)).2,(hl b (by rw[ha];simp)).2]
     | cons c l=>rfl
  have:=hsat j hj hjl;unfold I9 at this ⊢;rw[e1,e2];exact this
 ·exact (List.map_congr_left fun t ht=>(hnum t fun hk1=>(hE.nd k hk t.name).2 (.inl ⟨t,ht,hk1,rfl⟩)).2).symm
variable {ts:List Tk}
theorem Cv {x:List Tk}{n:Int}(h1:1≤n)(h2:n≤(ts.length:Int)):Lx (ts++x) n=Lx ts n:=by
 unfold Lx;rw[if_neg Fh,if_neg Fh,List.getD_eq_getElem?_getD,List.getD_eq_getElem?_getD,F5 Fh]
theorem QM:∀{ts:List Tk} {c:Tk},c∈ts→Lx ts (Fq (Bg ts c))=c∧Bg ts c≤ts.length:=by
 have go:∀(ts:List Tk) (k:Nat) (c:Tk) (v:Nat),K8 (Bl k ts) c=some v→ts[v-k]? = some c∧v<k+ts.length:=by
  intro ts;induction ts with
  | nil=>intro k c v h;simp[Bl,K8]at h
  | cons a ts ih =>
   intro k c v h;simp only[Bl,K8]at h;split at h
   ·rename_i he;cases h;rw[Nat.sub_self];exact⟨by rw[he];rfl,by simp⟩
   ·obtain⟨h1,h2⟩:=ih (k+1) c v h;have hg:=Jlp h;refine⟨?_,by simp only[FC];omega⟩;have:v-k=(v-(k+1))+1:=Fh;rw[this,Kh];exact h1
 intro ts c h;obtain⟨h1,h2⟩:=go ts 1 c _ (MU h);have h3:=Ml h;refine⟨?_,by omega⟩;unfold Lx;have e:¬(Fq (Bg ts c)<1):=by show ¬(((Bg ts c:Nat):Int)<1);omega
 rw[if_neg e,List.getD_eq_getElem?_getD];have:(Fq (Bg ts c)).toNat=Bg ts c:=rfl;rw[this,h1];rfl
theorem Jnt {c:Tk}(h:Ll c=true):∃y,(idT ts c).2=ts++y∧1≤(idT ts c).1∧(idT ts c).1≤(idT ts c).2.length∧Lx (idT ts c).2 (Fq (idT ts c).1)=c:=by
 by_cases hm:c∈ts
 ·have e:idT ts c=(Bg ts c,ts):=by unfold idT;rw[if_pos h,if_pos hm]
  rw[e];obtain⟨h1,h2⟩:=QM hm;exact⟨[],by simp,Ml hm,h2,h1⟩
 ·have e:idT ts c=(ts.length+1,ts++[c]):=by unfold idT;rw[if_pos h,if_neg hm]
  rw[e];refine⟨[c],rfl,by simp,by simp,?_⟩;unfold Lx;have e1:¬(Fq (ts.length+1)<1):=by show ¬(((ts.length+1:Nat):Int)<1);omega
  simp only;rw[if_neg e1,List.getD_eq_getElem?_getD];have:(Fq (ts.length+1)).toNat-1=ts.length:=by show ts.length+1-1=_;omega
  rw[this,F4 (FH _),Nat.sub_self];rfl
theorem QA {ts0:List Tk}{M:Vm}{ν:Nv}(hM:agr M ν)(hr:∀v n,K8 M v=some n→1≤n∧n≤(ts0.length:Int)):∀(l:List Tm) (acc:List Int) (x:List Tk),(∀t∈l,t.kind=1→∃n,K8 M t.name=some n)→(∀t∈l,t.kind≠1→Ll (Lc t)=true)→(∀n∈acc,1≤n∧n≤((ts0++x).length:Int))→ ∃y,(l.foldl (Bz M) (acc,ts0++x)).2=ts0++(x++y)∧(∀n∈(l.foldl (Bz M) (acc,ts0++x)).1,1≤n∧n≤((ts0++(x++y)).length:Int))∧(l.foldl (Bz M) (acc,ts0++x)).1.map (Lx (ts0++(x++y)))=acc.map (Lx (ts0++x))++l.map (Bc ts0 ν)
 | [],acc,x,_,_,ha=>⟨[],by simp,by simpa using ha,by simp⟩
 | t::l,acc,x,hv,hc,ha=>by
  rw[Ku];have hv':∀u∈l,u.kind=1→∃n,K8 M u.name=some n:=fun u hu=>hv u (FO _ hu);have hc':∀u∈l,u.kind≠1→Ll (Lc u)=true:=fun u hu=>hc u (FO _ hu);by_cases hk:t.kind=1
  ·obtain⟨n,hn⟩:=hv t Fj hk;obtain⟨n1,n2⟩:=hr _ _ hn;have e:Bz M (acc,ts0++x) t=(acc++[n],ts0++x):=by unfold Bz;rw[if_pos hk,Er hn]
   rw[e];have hln:((ts0++x).length:Int)=(ts0.length:Int)+(x.length:Int):=by rw[FE];omega
   obtain⟨y,h1,h2,h3⟩:=QA hM hr l (acc++[n]) x hv' hc' (fun m hm=>by
    rcases List.mem_append.1 hm with hm|hm
    ·exact ha m hm
    ·simp at hm;subst hm;exact⟨n1,by rw[hln];omega⟩)
   refine⟨y,h1,h2,?_⟩;rw[h3,List.map_append,Kv,Kw,Kv,Cv n1 n2];have e2:Bc ts0 ν t=Lx ts0 n:=by unfold Bc;rw[if_pos hk,hM _ _ hn]
   rw[e2];simp
  ·obtain⟨z,i1,i2,i3,i4⟩:=Jnt (ts:=ts0++x) (hc t Fj hk);have e:Bz M (acc,ts0++x) t=(acc++[Fq (idT (ts0++x) (Lc t)).1],ts0++(x++z)):=by unfold Bz;rw[if_neg hk,i1,F6]
   rw[e];have hz:(idT (ts0++x) (Lc t)).2=ts0++(x++z):=by rw[i1,F6]
   rw[hz]at i3 i4;have hle:((ts0++x).length:Int)≤((ts0++(x++z)).length:Int):=by simp only[FE];omega
   obtain⟨y,h1,h2,h3⟩:=QA hM hr l (acc++[Fq (idT (ts0++x) (Lc t)).1]) (x++z) hv' hc' (fun m hm=>by
    rcases List.mem_append.1 hm with hm|hm
    ·have:=ha m hm;exact⟨this.1,by omega⟩
    ·simp only[FJ,F3,or_false]at hm;subst hm;exact⟨by show (1:Int)≤((_:Nat):Int);omega,by show ((_:Nat):Int)≤_;omega⟩)
   refine⟨z++y,by rw[h1];simp,by simpa using h2,?_⟩;have e3:x++(z++y)=(x++z)++y:=Fj;rw[e3,h3,List.map_append,Kv,Kw,i4,Kv];have e2:Bc ts0 ν t=Lc t:=if_neg hk
   have e4:acc.map (Lx (ts0++(x++z)))=acc.map (Lx (ts0++x)):=List.map_congr_left fun m hm=>by
    have:=ha m hm;rw[←F6];exact Cv this.1 this.2
   rw[e2,e4];simp
end
section
open Go.AE Delphi Val
variable {x:List Int}
theorem JtC {rows:Fy}{r:List Int}:x∈Rel.insR rows r↔x∈rows∨x=r:=by
 unfold Rel.insR
 have e:x∈rows↔x∈rows.take (Rel.posn rows r)∨x∈rows.drop (Rel.posn rows r):=by
  rw[←Ka,List.take_append_drop]
 rw[e];simp only[Ka,Ko];constructor
 ·rintro ((h|h)|h)
  ·exact .inl (.inl h)
  ·exact .inr h
  ·exact .inl (.inr h)
 ·rintro ((h|h)|h)
  ·exact .inl (.inl h)
  ·exact .inr h
  ·exact .inl (.inr h)
theorem mem_addR {rows:Fy}{r:List Int}:x∈BP rows r↔x∈rows∨x=r:=by
 unfold BP;split
 ·rename_i h;constructor
  ·exact .inl
  ·rintro (h1|rfl)
   ·exact h1
   ·exact h
 ·exact JtC
theorem Jrt {m:Int}{a b:Nat}(h:a≤b)(hd:SC m a=true):SC m b=true:=by
 unfold SC at hd ⊢;simp only[FT,decide_eq_true_eq]at hd ⊢;refine⟨hd.1,?_⟩;have h1:m<(a:Int):=hd.2;show m<(b:Int);omega
theorem Jmn (M:Vm)(k k':List Nat)(n:Int):Lm (Ob M k n) k'=if k'=k then n else Lm M k':=by
 unfold Lm;by_cases h:k'=k
 ·subst h;rw[if_pos rfl,Bd];rfl
 ·rw[if_neg h,Ti _ _ _ _ h]
variable {E:JE} {ts0:List Tk} {k:Nat} {M:Vm} {s:JS}
theorem JnH (h:JInv ts0 s):JInv ts0 (Ia E k M s):=⟨h.ts,h.rng⟩
theorem JrM (hE:PlanOk E ts0)(hM:VldM E ts0 E.order.length M)(hs:JInv ts0 s)(hc:dnJ E s=false→Cq E ts0 (E.order.length+1) s):PostJ E ts0 (E.order.length+1) (SK E ts0 E.order.length M) s (IG E M s):=by
 obtain⟨x,hx⟩:=hs.ts
 let ν0:Nv:=fun v=>Lm M v
 have ha0:agr M ν0:=fun v n h=>Er h
 have hrow:∀ν,agr M ν→∃y,(Lf M s.ts E.head.args).2=s.ts++y∧(∀n∈(Lf M s.ts E.head.args).1,1≤n∧n≤((Lf M s.ts E.head.args).2.length:Int))∧(Lf M s.ts E.head.args).1.map (Lx (Lf M s.ts E.head.args).2)=E.head.args.map (Bc ts0 ν):=by
  intro ν hν;obtain⟨y,h1,h2,h3⟩:=QA hν hM.rng E.head.args [] x (fun t ht hk=>(hM.dom t.name).2 (hE.hb t ht hk)) hE.hm Fj;have e:Lf M s.ts E.head.args=E.head.args.foldl (Bz M) ([],ts0++x):=by unfold Lf;rw[hx]
  rw[e,h1];refine⟨y,by rw[hx];simp,h2,?_⟩;simpa using h3
 obtain⟨y,h1,h2,h3⟩:=hrow ν0 ha0
 have hh:∀h,h∈II (IG E M s)↔h∈II s∨h=E.head.args.map (Bc ts0 ν0):=by
  intro h;unfold II IG;simp only[Ke,mem_addR]
  have e:∀r∈s.rows,r.map (Lx (Lf M s.ts E.head.args).2)=r.map (Lx s.ts):=fun r hr=>List.map_congr_left fun n hn=>by
   have:=hs.rng r hr n hn;rw[h1];exact Cv this.1 this.2
  constructor
  ·rintro⟨r,hr|rfl,rfl⟩
   ·exact .inl ⟨r,hr,(e r hr).symm⟩
   ·exact .inr h3
  ·rintro (⟨r,hr,rfl⟩|rfl)
   ·exact⟨r,.inl hr,e r hr⟩
   ·exact⟨_,.inr rfl,h3⟩
 have hres:∀h,SK E ts0 E.order.length M h↔h=E.head.args.map (Bc ts0 ν0):=by
  intro h;constructor
  ·rintro⟨ν,hν,_,rfl⟩;obtain⟨_,_,_,h4⟩:=hrow ν hν;rw[←h4,h3]
  ·rintro rfl;exact⟨ν0,ha0,fun j h1 h2=>by omega,rfl⟩
 refine⟨⟨⟨x++y,by show (Lf M s.ts E.head.args).2=_;rw[h1,hx];simp⟩,fun r hr n hn=>?_⟩,fun h hh'=>(hh h).2 (.inl hh'),fun h hh'=>((hh h).1 hh').imp id (hres h).2,fun _ h hr=>(hh h).2 (.inr ((hres h).1 hr)),fun _ k M' hk hk'=>by omega,fun key hk=> .inl hk,fun key hk=>hk,fun hd=>Jrt (QH _ _) hd⟩;have hr:r∈BP s.rows (Lf M s.ts E.head.args).1:=hr;rcases mem_addR.1 hr with hr|rfl
 ·have:=hs.rng r hr n hn;refine⟨this.1,?_⟩;show n≤((Lf M s.ts E.head.args).2.length:Int);rw[h1,FE];omega
 ·exact h2 n hn
def JpM (E:JE) (ts0:List Tk) (k:Nat) (rec:Vm→JS→JS):Prop:=∀M s,VldM E ts0 k M→JInv ts0 s→(dnJ E s=false→Cq E ts0 k s)→PostJ E ts0 k (SK E ts0 k M) s (rec M s)
theorem RY {E:JE}{ts0:List Tk}{K:Nat}{rec:Vm→JS→JS}{l:Lt}{M:Vm}(hrec:JpM E ts0 K rec):∀(rows:Fy) (s:JS),(∀r∈rows,(LB l.args r M []).2=true→VldM E ts0 K (LB l.args r M []).1.1)→JInv ts0 s→(dnJ E s=false→Cq E ts0 K s)→ PostJ E ts0 K (fun h=>∃r∈rows,(LB l.args r M []).2=true∧SK E ts0 K (LB l.args r M []).1.1 h) s (Ot rec l M rows s)
 | [],s,hv,hi,hc=>(PostJ.refl hi hc).iff fun h=>by simp
 | r::rows,s,hv,hi,hc=>by
  have hv':∀r∈rows,(LB l.args r M []).2=true→VldM E ts0 K (LB l.args r M []).1.1:=fun x hx=>hv x (FO _ hx);have e:Ot rec l M (r::rows) s=Ot rec l M rows (if (LB l.args r M []).2=true then rec (LB l.args r M []).1.1 s else s):=rfl;rw[e];by_cases hok:(LB l.args r M []).2=true
  ·rw[if_pos hok];have p1:=hrec _ s (hv r Fj hok) hi hc;have p2:=RY hrec rows _ hv' p1.inv p1.comp;refine (p1.trans p2).iff fun h=>?_;constructor
   ·rintro (h1|⟨x,hx,h1,h2⟩)
    ·exact⟨r,by simp,hok,h1⟩
    ·exact⟨x,FO _ hx,h1,h2⟩
   ·rintro⟨x,hx,h1,h2⟩;rcases List.mem_cons.1 hx with rfl|hx
    ·exact .inl h2
    ·exact .inr ⟨x,hx,h1,h2⟩
  ·rw[if_neg hok];have p2:=RY hrec rows s hv' hi hc;refine p2.iff fun h=>?_;constructor
   ·rintro⟨x,hx,h1,h2⟩;exact⟨x,FO _ hx,h1,h2⟩
   ·rintro⟨x,hx,h1,h2⟩;rcases List.mem_cons.1 hx with rfl|hx
    ·exact absurd h1 hok
    ·exact⟨x,hx,h1,h2⟩
theorem Jt9 (h:VldM E ts0 k M)(hn:(Lp E k).kind≠1):VldM E ts0 (k+1) M:=by
 refine⟨fun v=>?_,h.rng⟩;rw[h.dom v];constructor
 ·rintro⟨j,hj,h1,h2⟩;exact⟨j,by omega,h1,h2⟩
 ·rintro⟨j,hj,h1,h2⟩;by_cases hjk:j=k
  ·subst hjk;exact absurd h1 hn
  ·exact⟨j,by omega,h1,h2⟩
theorem Jt8 {row:List Int}(h:VldM E ts0 k M)(hk1:(Lp E k).kind=1)(hl:row.length=(Lp E k).args.length)(hr:∀n∈row,1≤n∧n≤(ts0.length:Int))(hok:(LB (Lp E k).args row M []).2=true):VldM E ts0 (k+1) (LB (Lp E k).args row M []).1.1:=by
 obtain⟨h1,h2⟩:=MI (Lp E k).args row M [] hl.symm hok;refine⟨fun v=>?_,h2 _ h.rng hr⟩;rw[h1 v,h.dom v];constructor
 ·rintro (⟨j,hj,h3,h4⟩|⟨t,ht,h3⟩)
  ·exact⟨j,by omega,h3,h4⟩
  ·exact⟨k,by omega,hk1,t,ht,h3⟩
 ·rintro⟨j,hj,h3,t,ht,h4⟩;by_cases hjk:j=k
  ·subst hjk;exact .inr ⟨t,ht,h4⟩
  ·exact .inl ⟨j,by omega,h3,t,ht,h4⟩
theorem R7 (hk:k<E.order.length)(h:List Tk):SK E ts0 k M h↔∃ν,agr M ν∧I9 ts0 (E.sets (Tp E k)) (Lp E k) ν∧(∀j,k+1≤j→j<E.order.length→I9 ts0 (E.sets (Tp E j)) (Lp E j) ν)∧h=E.head.args.map (Bc ts0 ν):=by
 constructor
 ·rintro⟨ν,h1,h2,h3⟩;exact⟨ν,h1,h2 k (FH _) hk,fun j hj hjl=>h2 j Fh hjl,h3⟩
 ·rintro⟨ν,h1,h2,h3,h4⟩;refine⟨ν,h1,fun j hj hjl=>?_,h4⟩;by_cases hjk:j=k
  ·subst hjk;exact h2
  ·exact h3 j Fh hjl
variable {ν:Nv}
theorem Jnx (hE:PlanOk E ts0)(hk:k<E.order.length):inN (E.sets (Tp E k)) ((Lp E k).args.map (Tg ts0 ν))↔∃x,OZ E k=some x∧(Lp E k).args.map (Tg ts0 ν)∈x.2:=by
 unfold inN OZ;constructor
 ·rintro⟨x,hx,hm⟩;have hw:=(hE.rl k hk x hx _ hm).1;rw[F9]at hw;refine⟨x,?_,hm⟩;rw[hx];unfold CS;simp only;rw[if_pos hw.symm]
 ·rintro⟨x,hx,hm⟩;cases hq:E.sets (Tp E k)with
  | none=>rw[hq]at hx;cases hx
  | some y =>
   rw[hq]at hx;unfold CS at hx;simp only at hx;split at hx
   ·cases hx;exact⟨_,rfl,hm⟩
   ·cases hx
theorem Q7 (hE:PlanOk E ts0)(hk:k<E.order.length){x:Nat×List (List Int)}(hx:OZ E k=some x):x.1=(Lp E k).args.length∧∀r∈x.2,r.length=(Lp E k).args.length∧∀n∈r,1≤n∧n≤(ts0.length:Int):=by
 unfold OZ at hx;cases hq:E.sets (Tp E k)with
 | none=>rw[hq]at hx;cases hx
 | some y =>
  rw[hq]at hx;unfold CS at hx;simp only at hx;split at hx
  ·rename_i he;cases hx;refine⟨he,fun r hr=>?_⟩;have:=hE.rl k hk _ hq r hr;exact⟨this.1.trans he,this.2⟩
  ·cases hx
theorem Jvf (hM:agr M ν){l:List Tm}(h:∀t∈l,t.kind=1→∃n,K8 M t.name=some n):l.map (SH ts0 M)=l.map (Tg ts0 ν):=List.map_congr_left fun t ht=>by
 unfold SH Tg;by_cases hk:t.kind=1
 ·obtain⟨n,hn⟩:=h t ht hk;rw[if_pos hk,if_pos hk,Er hn,hM _ _ hn]
 ·rw[if_neg hk,if_neg hk]
theorem Jmp {x:List Tk}(hM:agr M ν)(hr:∀v n,K8 M v=some n→1≤n∧n≤(ts0.length:Int)){t:Tm}(h:t.kind=1→∃n,K8 M t.name=some n):TT M (ts0++x) t=some (Bc ts0 ν t):=by
 unfold TT Bc;by_cases hk:t.kind=1
 ·obtain⟨n,hn⟩:=h hk;have:=hr _ _ hn;rw[if_pos hk,if_pos hk,hn,hM _ _ hn];show some (Lx (ts0++x) n)=_;rw[Cv this.1 this.2]
 ·rw[if_neg hk,if_neg hk]
theorem JuW (hE:PlanOk E ts0)(hk:k<E.order.length){rec:Vm→JS→JS}(hrec:JpM E ts0 (k+1) rec)(hM:VldM E ts0 k M)(hs:JInv ts0 s)(hc:dnJ E s=false→Cq E ts0 (k+1) s):PostJ E ts0 (k+1) (SK E ts0 k M) s (goJ E rec k M s):=by
 obtain⟨x,hx⟩:=hs.ts;have hp:Lf M s.ts (Lp E k).args=((Lp E k).args.map (SH ts0 M),s.ts):=by rw[hx];exact JtT M _ (hE.lb k hk)
 have hlc:∀t∈(Lp E k).args,t.kind≠1→Lc t∈ts0:=fun t ht h=>(hE.lb k hk t ht h).1;unfold goJ;rw[hp];have es:(⟨s.ts,s.seen,s.rows⟩:JS)=s:=rfl;by_cases hk1:(Lp E k).kind=1
 ·rw[if_pos hk1];simp only
  have hrows:∀r∈Ii (OZ E k) ((Lp E k).args.map (SH ts0 M)),r.length=(Lp E k).args.length∧(∀n∈r,1≤n∧n≤(ts0.length:Int)):=by
   intro r hr;unfold Ii at hr;cases hq:OZ E k with
   | none=>rw[hq]at hr;simp at hr
   | some y =>
    rw[hq]at hr;exact (Q7 hE hk hq).2 r (List.mem_filter.1 hr).1
  have p:=RY (l:=Lp E k) (M:=M) hrec (Ii (OZ E k) ((Lp E k).args.map (SH ts0 M))) s (fun r hr hok=>Jt8 hM hk1 (hrows r hr).1 (hrows r hr).2 hok) hs hc;refine p.iff fun h=>?_;rw[R7 hk];constructor
  ·rintro⟨r,hr,hok,ν,h1,h2,h3⟩;obtain⟨h4,h5⟩:=(Ee ν (Lp E k).args r M [] (hrows r hr).1.symm).2 ⟨hok,h1⟩;refine⟨ν,h4,?_,h2,h3⟩;unfold I9;rw[if_pos hk1,Jnx hE hk];unfold Ii at hr;cases hq:OZ E k with
   | none=>rw[hq]at hr;simp at hr
   | some y =>
    rw[hq]at hr;obtain⟨h6,h7⟩:=List.mem_filter.1 hr;refine⟨y,rfl,?_⟩;have:=(Qq h4 (Lp E k).args r ((Q7 hE hk hq).2 r h6).1 hlc).2 ⟨h7,h5⟩;rw[←this];exact h6
  ·rintro⟨ν,h1,h2,h3,h4⟩;unfold I9 at h2;rw[if_pos hk1,Jnx hE hk]at h2;obtain⟨y,hq,h5⟩:=h2;have hl:=((Q7 hE hk hq).2 _ h5).1;obtain⟨h6,h7⟩:=(Qq h1 (Lp E k).args _ hl hlc).1 rfl;obtain⟨h8,h9⟩:=(Ee ν (Lp E k).args _ M [] hl.symm).1 ⟨h1,h7⟩;refine⟨_,?_,h8,ν,h9,h3,h4⟩;unfold Ii;rw[hq];exact List.mem_filter.2 ⟨h5,h6⟩
 rw[if_neg hk1];have hb:∀t∈(Lp E k).args,t.kind=1→∃n,K8 M t.name=some n:=fun t ht h=>(hM.dom _).2 (hE.bound k hk hk1 t ht h);have hM':=Jt9 hM hk1
 have test:∀(b:Bool),(∀ν,agr M ν→(I9 ts0 (E.sets (Tp E k)) (Lp E k) ν↔b=true))→PostJ E ts0 (k+1) (SK E ts0 k M) s (if b=true then rec M s else s):=by
  intro b hb';cases b with
  | true =>
   rw[if_pos rfl];refine (hrec M s hM' hs hc).iff fun h=>?_;rw[R7 hk];constructor
   ·rintro⟨ν,h1,h2,h3⟩;exact⟨ν,h1,(hb' ν h1).2 rfl,h2,h3⟩
   ·rintro⟨ν,h1,_,h2,h3⟩;exact⟨ν,h1,h2,h3⟩
  | false =>
   rw[if_neg Fj];refine (PostJ.refl hs hc).iff fun h=>?_;rw[R7 hk];constructor
   ·exact fun h=>h.elim
   ·rintro⟨ν,h1,h2,_⟩;have:=(hb' ν h1).1 h2;cases this
 by_cases hk2:(Lp E k).kind=2
 ·rw[if_pos hk2];simp only
  have ht:=test (!D7 (OZ E k) ((Lp E k).args.map (SH ts0 M))) fun ν hν=>by
   unfold I9;rw[if_neg hk1,if_pos hk2,Jnx hE hk,Jvf hν hb];unfold D7;cases hq:OZ E k with
   | none=>simp
   | some y=>simp
  cases hh:D7 (OZ E k) ((Lp E k).args.map (SH ts0 M))with
  | true=>rw[hh]at ht;simpa using ht
  | false=>rw[hh]at ht;simpa using ht
 ·rw[if_neg hk2];refine test _ fun ν hν=>?_;unfold I9;rw[if_neg hk1,if_neg hk2];have h2:=hE.l2 k hk hk1 hk2;unfold Nt CQ;cases ha:(Lp E k).args with
  | nil=>exact Iff.rfl
  | cons a l =>
   cases l with
   | nil=>exact Iff.rfl
   | cons b l =>
    cases l with
    | cons c l=>exact Iff.rfl
    | nil =>
     simp only;rw[hx,Jmp hν hM.rng (hb a (by rw[ha];simp)),Jmp hν hM.rng (hb b (by rw[ha];simp))];rfl
theorem Jl6 (hE:PlanOk E ts0)(hk:k≤E.order.length)(hM:VldM E ts0 k M)(hc:Cq E ts0 k s):Cq E ts0 (k+1) (Ia E k M s):=by
 intro k' M' h1 h2 h3 h4 h hr;have h4:0<Lm (Ob s.seen (SN E k M) 1) (SN E k' M'):=h4;rw[Jmn]at h4;have hol:=hE.ol;split at h4
 ·rename_i he;have:=(QO Fh Fh (Ay h3 hE.tl) (Ay hM hE.tl) he).1;omega
 ·exact hc k' M' Fh h2 h3 h4 h hr
theorem JnG (hE:PlanOk E ts0){s':JS}(hk:k≤E.order.length)(hM:VldM E ts0 k M)(hc:dnJ E s=false→Cq E ts0 k s)(p:PostJ E ts0 (k+1) (SK E ts0 k M) (Ia E k M s) s'):PostJ E ts0 k (SK E ts0 k M) s s':=by
 have hol:=hE.ol
 have hm:∀key,0<Lm (Ia E k M s).seen key↔(key=SN E k M∨0<Lm s.seen key):=by
  intro key;show 0<Lm (Ob s.seen (SN E k M) 1) key↔_;rw[Jmn];by_cases he:key=SN E k M
  ·rw[if_pos he];exact⟨fun _=> .inl he,fun _=>by decide⟩
  ·rw[if_neg he];exact⟨.inr,fun h=>h.resolve_left he⟩
 refine⟨p.inv,p.mono,p.snd,p.cmp,fun hd k' M' h1 h2 h3 h4 h hr=>?_,fun key hkey=>?_,fun key hkey=>p.smono key ((hm key).2 (.inr hkey)),p.dmono⟩
 ·by_cases hkk:k'=k
  ·subst hkk;rcases p.seen _ h4 with h5|⟨k2,M2,h5,h6,h7,h8⟩
   ·rcases (hm _).1 h5 with h5|h5
    ·have hs:=(QO Fh Fh (Ay h3 hE.tl) (Ay hM hE.tl) h5).2;exact p.cmp hd h (JtQ hE hk h3 hM hs hr)
    ·exact p.mono h (hc (p.dfalse hd) k' M' (FH _) h2 h3 h5 h hr)
   ·have:=(QO Fh Fh (Ay h3 hE.tl) (Ay h7 hE.tl) h8).1;omega
  ·exact p.comp hd k' M' Fh h2 h3 h4 h hr
 ·rcases p.seen key hkey with h5|⟨k2,M2,h5,h6,h7,h8⟩
  ·rcases (hm key).1 h5 with h5|h5
   ·exact .inr ⟨k,M,FH _,hk,hM,h5⟩
   ·exact .inl h5
  ·exact .inr ⟨k2,M2,by omega,h6,h7,h8⟩
theorem Jml (hk:k≤E.order.length)(hM:VldM E ts0 k M)(hs:JInv ts0 s)(hc:dnJ E s=false→Cq E ts0 k s)(hst:I1 E k M s=true):PostJ E ts0 k (SK E ts0 k M) s s:=by
 have r:=PostJ.refl hs hc;refine⟨r.inv,r.mono,fun h hh=> .inl hh,fun hd h hr=>?_,r.comp,r.seen,r.smono,r.dmono⟩;unfold I1 at hst;have hd':SC E.most s.rows.length=false:=hd;rw[hd',Bool.or_false]at hst;exact hc hd k M (FH _) hk hM (of_decide_eq_true hst) h hr
theorem Jnn {E:JE}{ts0:List Tk}(hE:PlanOk E ts0):∀(n k:Nat),k+n=E.order.length→JpM E ts0 k (OW E n k)
 | 0,k,hk=>by
  intro M s hM hs hc;unfold OW;by_cases hst:I1 E k M s=true
  ·rw[if_pos hst];exact Jml Fh hM hs hc hst
  ·rw[if_neg hst];obtain rfl:k=E.order.length:=Fh;exact JnG hE (FH _) hM hc (JrM hE hM (JnH hs) fun hd=>Jl6 hE (FH _) hM (hc hd))
 | n+1,k,hk=>by
  intro M s hM hs hc;unfold OW;by_cases hst:I1 E k M s=true
  ·rw[if_pos hst];exact Jml Fh hM hs hc hst
  ·rw[if_neg hst];exact JnG hE Fh hM hc (JuW hE Fh (Jnn hE n (k+1) Fh) hM (JnH hs) fun hd=>Jl6 hE Fh hM (hc hd))
end
section
open Go.AE Delphi Val
def bvL (body:List Lt) (l:List Nat) (v:List Nat):Prop:=∃j∈l,(Le body j).kind=1∧∃t∈(Le body j).args,t.kind=1∧t.name=v
structure PlGood (body:List Lt) (s:Oo):Prop where
 nd:s.1.Nodup
 lt:∀i∈s.1,i<body.length
 bnd:∀k i,s.1[k]? = some i→(Le body i).kind≠1→∀t∈(Le body i).args,t.kind=1→bvL body (s.1.take k) t.name
 vs:∀v∈s.2,bvL body s.1 v
variable {body:List Lt}
theorem JsP {l l':List Nat}{v:List Nat}(h:∀x∈l,x∈l')(hb:bvL body l v):bvL body l' v:=by
 obtain⟨j,hj,h2⟩:=hb;exact⟨j,h j hj,h2⟩
theorem PlGood.take {s:Oo}{i:Nat}(h:PlGood body s)(hc:Bq body s i=true):PlGood body (Bu body s i):=by
 obtain⟨h1,h2,h3⟩:=of_decide_eq_true hc;refine⟨?_,fun j hj=>?_,fun k j hk hn t ht hk1=>?_,fun v hv=>?_⟩
 ·show (s.1++[i]).Nodup;rw[List.nodup_append];refine⟨h.nd,by simp,?_⟩;rintro a ha b hb rfl;simp at hb;subst hb;exact h2 ha
 ·rcases List.mem_append.1 (show j∈s.1++[i]from hj)with hj|hj
  ·exact h.lt j hj
  ·simp at hj;subst hj;exact h1
 ·have hk:(s.1++[i])[k]? = some j:=hk;show bvL body ((s.1++[i]).take k) t.name;by_cases hkl:k<s.1.length
  ·rw[F5 hkl]at hk;rw[List.take_append_of_le_length Fh];exact h.bnd k j hk hn t ht hk1
  ·rw[F4 Fh]at hk
   have hk0:k-s.1.length=0:=by
    by_cases h0:k-s.1.length=0
    ·exact h0
    ·rw[List.getElem?_eq_none (by simp;omega)]at hk;cases hk
   rw[hk0]at hk;have hk:=FY hk;subst hk;have hke:k=s.1.length:=Fh;rw[hke,List.take_append_of_le_length (FH _),List.take_length];rcases h3 with h3|h3
   ·exact absurd h3 hn
   ·exact h.vs _ (bndN_full.1 h3 t ht hk1)
 ·rcases List.mem_append.1 (show v∈s.2++I7 s.2 (Le body i)from hv)with hv|hv
  ·exact JsP (fun x hx=>List.mem_append_left _ hx) (h.vs v hv)
  ·obtain⟨hn,t,ht,hk1,hnm⟩:=mem_newV.1 hv;rcases h3 with h3|h3
   ·exact⟨i,by show i∈s.1++[i];simp,h3,t,ht,hk1,hnm⟩
   ·exact absurd (by rw[←hnm];exact bndN_full.1 h3 t ht hk1) hn
theorem Jo1 {body:List Lt}{s:Oo}:∀(L:List Nat),L≠[]→∃m∈L,∀j∈L,j≠m→Bf (TJ body s m) (TJ body s j)=true
 | [],h=>absurd rfl h
 | [a],_=>⟨a,by simp,fun j hj hne=>by simp at hj;exact absurd hj hne⟩
 | a::b::L,_=>by
  obtain⟨m,hm,hb⟩:=Jo1 (b::L) Fj;by_cases ham:a=m
  ·subst ham;refine⟨a,by simp,fun j hj hne=>?_⟩;rcases List.mem_cons.1 hj with rfl|hj
   ·exact absurd rfl hne
   ·exact hb j hj hne
  ·have hne:(TJ body s a).2.2≠(TJ body s m).2.2:=ham;rcases JjD hne with h|h
   ·refine⟨a,by simp,fun j hj hne=>?_⟩;rcases List.mem_cons.1 hj with rfl|hj
    ·exact absurd rfl hne
    ·by_cases hjm:j=m
     ·subst hjm;exact h
     ·exact Ro h (hb j hj hjm)
   ·refine⟨m,FO _ hm,fun j hj hne=>?_⟩;rcases List.mem_cons.1 hj with rfl|hj
    ·exact h
    ·exact hb j hj hne
theorem Juz {s:Oo}(h:∃i,Bq body s i=true):∃i,NC body s=some i∧Bq body s i=true:=by
 obtain⟨i,hi⟩:=h
 let L:=(List.range body.length).filter fun i=>Bq body s i
 have hL:∀j,j∈L↔Bq body s j=true:=fun j=>by
  show j∈(List.range body.length).filter (fun i=>Bq body s i)↔_;rw[KI,List.mem_range];exact⟨fun h=>h.2,fun h=>⟨Eg h,h⟩⟩
 obtain⟨m,hm,hb⟩:=Jo1 (body:=body) (s:=s) L (fun h0=>by have:=(hL i).2 hi;rw[h0]at this;simp at this);have hmc:=(hL m).1 hm;exact⟨m,JlH ⟨hmc,fun j hj hne=>hb j ((hL j).2 hj) hne⟩,hmc⟩
theorem JiZ {r:Rl}(hbd:RBr r)(hs:BD r=true):∀(n:Nat) (s:Oo),PlInv r.body s→PlGood r.body s→s.1.length+n=r.body.length→PlGood r.body (Iu r.body n s)∧(Iu r.body n s).1.length=r.body.length
 | 0,s,hi,hg,hn=>by
  have e:Iu r.body 0 s=s:=rfl;rw[e];exact⟨hg,by simpa using hn⟩
 | n+1,s,hi,hg,hn=>by
  unfold Iu;have hlt:s.1.length<r.body.length:=Fh;rw[if_pos hlt];obtain⟨i,h1,h2⟩:=Juz (Jjv hs hi hlt);rw[h1];exact JiZ hbd hs n (Bu r.body s i) (hi.take (Eg h2) hbd.args) (hg.take h2) (by simp only[Bu,FE,Kb];omega)
theorem RZ (hbd:RBr r)(h:OL r first):PlGood r.body (LQ r first)∧(LQ r first).1.length=r.body.length:=by
 unfold LQ;have hl:=Qg r.body first
 have hg:PlGood r.body (TB r.body first)∧(TB r.body first).1.length≤r.body.length:=by
  unfold TB;have e0:PlGood r.body ([],[]):=⟨by simp,by simp,by simp,by simp⟩;by_cases h0:0≤first
  ·rw[if_pos h0];have:=h.2.2.1;refine⟨e0.take (decide_eq_true ⟨by omega,by simp,.inl (h.2.2.2 h0)⟩),?_⟩;simp only[Bu,List.nil_append,Kb];omega
  ·rw[if_neg h0];exact⟨e0,Nat.zero_le _⟩
 exact JiZ hbd h.1 _ _ (Jlc hbd h) hg.1 Fh
theorem JnW (hbd:RBr r)(h:OL r first):∀i,i<r.body.length→i∈(LQ r first).1:=by
 obtain⟨hg,hl⟩:=RZ hbd h;intro i hi;refine Classical.byContradiction fun hn=>?_;have:(LQ r first).1.length≤((List.range r.body.length).erase i).length:=ES hg.nd fun c hc=>(List.mem_erase_of_ne (by rintro rfl;exact hn hc)).2 (List.mem_range.2 (hg.lt c hc));rw[List.length_erase_of_mem (List.mem_range.2 hi),List.length_range]at this;omega
theorem Jtk (ts:List Tk)(t:Tm):∃y,TC ts t=ts++y:=by
 unfold TC;split
 ·exact⟨[],by simp⟩
 ·unfold idT;split
  ·split
   ·exact⟨[],by simp⟩
   ·exact⟨_,rfl⟩
  ·exact⟨[],by simp⟩
theorem QN:∀(l:List Tm) (ts:List Tk),∃y,OI ts l=ts++y
 | [],ts=>⟨[],by simp[OI]⟩
 | t::l,ts=>by
  obtain⟨y,hy⟩:=Jtk ts t;obtain⟨z,hz⟩:=QN l (TC ts t);refine⟨y++z,?_⟩;show OI (TC ts t) l=_;rw[hz,hy,F6]
theorem MM:∀(b:List Lt) (ts:List Tk),∃y,Bj ts b=ts++y
 | [],ts=>⟨[],by simp[Bj]⟩
 | l::b,ts=>by
  obtain⟨y,hy⟩:=QN l.args ts;obtain⟨z,hz⟩:=MM b (OI ts l.args);refine⟨y++z,?_⟩;show Bj (OI ts l.args) b=_;rw[hz,hy,F6]
structure TsGood (ts:List Tk):Prop where
 nd:ts.Nodup
 may:∀c∈ts,Ll c=true
variable {ts:List Tk}
theorem TsGood.id (h:TsGood ts)(c:Tk):TsGood (idT ts c).2:=by
 unfold idT;split
 ·rename_i hm;split
  ·exact h
  ·rename_i hn;refine⟨?_,fun d hd=>?_⟩
   ·show (ts++[c]).Nodup;rw[List.nodup_append];refine⟨h.nd,by simp,?_⟩;rintro a ha b hb rfl;simp at hb;subst hb;exact hn ha
   ·rcases List.mem_append.1 hd with hd|hd
    ·exact h.may d hd
    ·simp at hd;subst hd;exact hm
 ·exact h
theorem TsGood.idL:∀{l:List Tm} {ts:List Tk},TsGood ts→TsGood (OI ts l)
 | [],ts,h=>h
 | t::l,ts,h=>by
  show TsGood (OI (TC ts t) l);refine TsGood.idL ?_;unfold TC;split
  ·exact h
  ·exact h.id _
theorem TsGood.idB:∀{b:List Lt} {ts:List Tk},TsGood ts→TsGood (Bj ts b)
 | [],ts,h=>h
 | l::b,ts,h=>TsGood.idB (b:=b) h.idL
theorem Jtl {t:Tm}(hk:t.kind≠1)(hm:Ll (Lc t)=true):Lc t∈TC ts t:=by
 unfold TC;rw[if_neg hk];unfold idT;rw[if_pos hm];split
 ·assumption
 ·exact List.mem_append_right _ Fj
theorem Jnv:∀{l:List Tm} {ts:List Tk} {t:Tm},t∈l→t.kind≠1→Ll (Lc t)=true→Lc t∈OI ts l
 | u::l,ts,t,ht,hk,hm=>by
  show Lc t∈OI (TC ts u) l;rcases List.mem_cons.1 ht with rfl|ht
  ·obtain⟨y,hy⟩:=QN l (TC ts t);rw[hy];exact List.mem_append_left _ (Jtl hk hm)
  ·exact Jnv ht hk hm
theorem QC:∀{b:List Lt} {ts:List Tk} {l:Lt} {t:Tm},l∈b→t∈l.args→t.kind≠1→Ll (Lc t)=true→Lc t∈Bj ts b
 | m::b,ts,l,t,hl,ht,hk,hm=>by
  show Lc t∈Bj (OI ts m.args) b;rcases List.mem_cons.1 hl with rfl|hl
  ·obtain⟨y,hy⟩:=MM b (OI ts l.args);rw[hy];exact List.mem_append_left _ (Jnv ht hk hm)
  ·exact QC hl ht hk hm
theorem Av {b:List Lt}{i:Nat}(h:i<b.length):Le b i∈b:=by
 unfold Le;rw[FB h];exact KE h
structure RowsIn (ts:List Tk) (dq:Option (Nat×List (List Int))) (sets:List Nat→Option (Nat×List (List Int))):Prop where
 rl:∀nm x,(dq=some x∨sets nm=some x)→∀r∈x.2,r.length=x.1∧∀n∈r,1≤n∧n≤(ts.length:Int)
theorem JwB {most:Int}{dq:Option (Nat×List (List Int))}{sets:List Nat→Option (Nat×List (List Int))}(hb:SomeB r dq sets)(hm:∀t∈r.head.args,t.kind≠1→Ll (Lc t)=true)(hr:RowsIn ts dq sets)(hok:OL r first)(hts:ts.length≤60000):PlanOk (Bb r first dq sets most) (Bj ts r.body):=by
 obtain⟨hg,hl⟩:=RZ hb.bd hok;have hall:=JnW hb.bd hok;have hb7:=hb.bd.body;have hil:=MN (ts:=ts) (n:=5) hb.bd.args
 have hpl:∀k,k<(LQ r first).1.length→(LQ r first).1[k]? = some (Tp (Bb r first dq sets most) k):=fun k hk=>by
  show _=some ((LQ r first).1.getD k 0);rw[List.getD_eq_getElem?_getD,FB hk];rfl
 have hplt:∀k,k<(LQ r first).1.length→Tp (Bb r first dq sets most) k<r.body.length:=fun k hk=>hg.lt _ (FI (hpl k hk));have hlit:∀k,Lp (Bb r first dq sets most) k=Le r.body (Tp (Bb r first dq sets most) k):=fun k=>rfl;have hlm:∀k,k<(LQ r first).1.length→Lp (Bb r first dq sets most) k∈r.body:=fun k hk=>by rw[hlit];exact Av (hplt k hk)
 have hbv:∀k,k≤(LQ r first).1.length→∀v,bvL r.body ((LQ r first).1.take k) v→bvK (Bb r first dq sets most) k v:=by
  rintro k hk v ⟨j,hj,h1,h2⟩;obtain⟨m,hm⟩:=List.getElem?_of_mem hj
  have hmk:m<k:=by
   have:=(List.getElem?_eq_some_iff.1 hm).1;rw[FU]at this;omega
  rw[Kt hmk]at hm;have:=hpl m Fh;rw[hm]at this;have:=FY this;refine⟨m,hmk,?_⟩;rw[hlit,←this];exact⟨h1,h2⟩
 refine⟨fun k hk t ht h=>⟨QC (hlm k hk) ht h (hb.bc _ (hlm k hk) t ht h).2,(hb.bc _ (hlm k hk) t ht h).2⟩,fun k hk hn t ht h1=>hbv k (KH hk) _ (hg.bnd k _ (hpl k hk) hn t ht h1),fun t ht h1=>?_,hm,fun k hk x hx r' hr'=>?_,fun k hk v=>?_,fun k hk h1 h2=>(hb.bk _ (hlm k hk) h1 h2).2.2,?_,by omega⟩
 ·have hn:t.name∈Tx r:=mem_rNeed.2 (.inl ⟨t,ht,h1,rfl⟩);obtain⟨y,hy,hyk,u,hu,hu1,hun⟩:=mem_rBound.1 (of_decide_eq_true (List.all_eq_true.1 hok.1 _ hn));obtain⟨j,hj⟩:=List.getElem?_of_mem hy;have hjl:j<r.body.length:=(List.getElem?_eq_some_iff.1 hj).1;have:=hbv (LQ r first).1.length (FH _) t.name ⟨j,by rw[List.take_length];exact hall j hjl,by rw[Tu hj];exact hyk,u,by rw[Tu hj];exact hu,hu1,hun⟩;exact this
 ·have hx:(if Fq (Tp (Bb r first dq sets most) k)=first then dq else sets (Le r.body (Tp (Bb r first dq sets most) k)).name)=some x:=hx
  have:r'.length=x.1∧∀n∈r',1≤n∧n≤(ts.length:Int):=by
   split at hx
   ·exact hr.rl [] x (.inl hx) r' hr'
   ·exact hr.rl _ x (.inr hx) r' hr'
  obtain⟨y,hy⟩:=MM r.body ts;refine⟨this.1,fun n hn=>⟨(this.2 n hn).1,?_⟩⟩;have:=(this.2 n hn).2;rw[hy,FE];omega
 ·have hk:k≤(LQ r first).1.length:=hk
  have e:Cz (Bb r first dq sets most) k=Br r.head r.body (LQ r first).1 k:=by
   show ((List.range ((LQ r first).1.length+1)).map (Br r.head r.body (LQ r first).1)).getD k []=_;rw[List.getD_eq_getElem?_getD,F7,List.getElem?_range Fh];rfl
  rw[e];unfold Br;rw[Mh];unfold EF;constructor
  ·rintro⟨t,ht,h1,h2⟩;rcases List.mem_append.1 ht with ht|ht
   ·exact .inl ⟨t,ht,h1,h2⟩
   ·obtain⟨i,hi,ht⟩:=List.mem_flatMap.1 ht;obtain⟨m,hm⟩:=List.getElem?_of_mem hi;rw[Kr]at hm;have hml:k+m<(LQ r first).1.length:=(List.getElem?_eq_some_iff.1 hm).1;have:=hpl (k+m) hml;rw[hm]at this;have:=FY this;exact .inr ⟨k+m,by omega,hml,t,by rw[hlit,←this];exact ht,h1,h2⟩
  ·rintro (⟨t,ht,h1,h2⟩|⟨j,hj,hjl,t,ht,h1,h2⟩)
   ·exact⟨t,List.mem_append_left _ ht,h1,h2⟩
   ·refine⟨t,List.mem_append_right _ (List.mem_flatMap.2 ⟨_,?_,by rw[hlit]at ht;exact ht⟩),h1,h2⟩;have:=hpl j hjl;refine FI (i:=j-k) ?_;rw[Kr];have e2:k+(j-k)=j:=Fh;rw[e2];exact this
 ·show (LQ r first).1.length≤100;omega
end
section
open Go.AE Delphi Val
abbrev Sg:=List Nat→Tk
def Oh (σ:Sg) (t:Tm):Tk:=if t.kind=1 then σ t.name else Lc t
def fsT (ts:List Tk) (q:Option (Nat×List (List Int))) (args:List Tk):Prop:=∃x r,q=some x∧r∈x.2∧args=r.map (Lx ts)
def Ad (σ:Sg) (l:Lt):Bool:=match l.args with
 | [a,b]=>TA l.kind (Oh σ a) (Oh σ b)
 | _=>false
def Ip (F:List Tk→Prop) (l:Lt) (σ:Sg):Prop:=if l.kind=1 then F (l.args.map (Oh σ))else if l.kind=2 then ¬F (l.args.map (Oh σ))else Ad σ l=true
def AQ (r:Rl) (F:Nat→List Tk→Prop) (h:List Tk):Prop:=∃σ:Sg,(∀i,i<r.body.length→Ip (F i) (Le r.body i) σ)∧h=r.head.args.map (Oh σ)
variable {ts:List Tk}
theorem RB {n:Int}(h1:1≤n)(h2:n≤(ts.length:Int)):Lx ts n∈ts:=by
 unfold Lx;rw[if_neg Fh,List.getD_eq_getElem?_getD,FB (show n.toNat-1<ts.length by omega)];exact KE _
theorem JvB:Ll zTk=false:=rfl
theorem RA (hg:TsGood ts){m n:Int}(h1:1≤n)(h2:n≤(ts.length:Int))(h:Lx ts m=Lx ts n):m=n:=by
 have hm:=RB h1 h2
 have hr:1≤m∧m≤(ts.length:Int):=by
  refine Classical.byContradiction fun hc=>?_
  have:Lx ts m=zTk:=by
   unfold Lx;by_cases h0:m<1
   ·rw[if_pos h0]
   ·rw[if_neg h0,List.getD_eq_getElem?_getD,List.getElem?_eq_none Fh];rfl
  rw[this]at h;have:=hg.may _ (h▸hm);rw[JvB]at this;cases this
 unfold Lx at h;rw[if_neg Fh,if_neg Fh,List.getD_eq_getElem?_getD,List.getD_eq_getElem?_getD,FB (show m.toNat-1<ts.length by omega),FB (show n.toNat-1<ts.length by omega)]at h;have h:ts[m.toNat-1]'(by omega)=ts[n.toNat-1]'(by omega):=h;have hp:=List.pairwise_iff_getElem.1 hg.nd;rcases Nat.lt_trichotomy (m.toNat-1) (n.toNat-1)with hl|hl|hl
 ·exact absurd h (hp _ _ Fh Fh hl)
 ·omega
 ·exact absurd h.symm (hp _ _ Fh Fh hl)
theorem Jlq {ts y:List Tk}(hg:TsGood (ts++y)){ν:Nv}:∀(args:List Tm) (r:List Int),(∀t∈args,t.kind≠1→Lc t∈ts++y)→(∀n∈r,1≤n∧n≤(ts.length:Int))→(r=args.map (Tg (ts++y) ν)↔args.map (Bc (ts++y) ν)=r.map (Lx ts))
 | [],r,_,_=>by
  cases r with
  | nil=>simp
  | cons n r=>simp
 | t::args,[],_,_=>by simp
 | t::args,n::r,hc,hr=>by
  have ih:=Jlq hg (ν:=ν) args r (fun u hu=>hc u (FO _ hu)) fun m hm=>hr m (FO _ hm);obtain⟨n1,n2⟩:=hr n Fj;have n3:n≤((ts++y).length:Int):=by rw[FE];omega
  simp only[Kv,List.cons.injEq];rw[ih]
  have e:n=Tg (ts++y) ν t↔Bc (ts++y) ν t=Lx ts n:=by
   rw[←Cv (x:=y) n1 n2];unfold Tg Bc;by_cases hk:t.kind=1
   ·rw[if_pos hk,if_pos hk];constructor
    ·intro h;rw[←h]
    ·intro h;exact (RA hg n1 n3 h).symm
   ·rw[if_neg hk,if_neg hk];have hp:=(QM (hc t Fj hk)).1;constructor
    ·intro h;rw[h,hp]
    ·intro h;rw[←hp]at h;exact (RA hg n1 n3 h).symm
  rw[e]
variable {q:Option (Nat×List (List Int))}
theorem JwA {y:List Tk}(hg:TsGood (ts++y)){ν:Nv}(hq:∀x,q=some x→∀r∈x.2,∀n∈r,1≤n∧n≤(ts.length:Int)){args:List Tm}(hc:∀t∈args,t.kind≠1→Lc t∈ts++y): inN q (args.map (Tg (ts++y) ν))↔fsT ts q (args.map (Bc (ts++y) ν)):=by
 constructor
 ·rintro⟨x,hx,hm⟩;exact⟨x,_,hx,hm,(Jlq hg args _ hc (hq x hx _ hm)).1 rfl⟩
 ·rintro⟨x,r,hx,hm,h⟩;have:=(Jlq hg args r hc (hq x hx r hm)).2 h;exact⟨x,hx,by rw[←this];exact hm⟩
theorem Jv5 (hq:∀x,q=some x→∀r∈x.2,∀n∈r,1≤n∧n≤(ts.length:Int)){args:List Tk}(h:fsT ts q args):∀c∈args,c∈ts:=by
 obtain⟨x,r,hx,hr,rfl⟩:=h;intro c hc;obtain⟨n,hn,rfl⟩:=List.mem_map.1 hc;have:=hq x hx r hr n hn;exact RB this.1 this.2
theorem Rv {P:List Tk→Prop}(hP:∀ts c,P ts→P (idT ts c).2)(M:Vm):∀(l:List Tm) (s:List Int×List Tk),P s.2→P (l.foldl (Bz M) s).2
 | [],s,h=>h
 | t::l,s,h=>by
  rw[Ku];refine Rv hP M l _ ?_;unfold Bz;split
  ·exact h
  ·exact hP _ _ h
theorem Jk5 {P:List Tk→Prop}{rec:Vm→JS→JS}(h:∀M s,P s.ts→P (rec M s).ts)(l:Lt)(M:Vm):∀(rows:Fy) (s:JS),P s.ts→P (Ot rec l M rows s).ts
 | [],s,hs=>hs
 | r::rows,s,hs=>by
  unfold Ot;rw[Ku];refine Jk5 h l M rows _ ?_;split
  ·exact h _ _ hs
  ·exact hs
theorem Mq {P:List Tk→Prop}(hP:∀ts c,P ts→P (idT ts c).2)(E:JE):∀(n k:Nat) (M:Vm) (s:JS),P s.ts→P (OW E n k M s).ts
 | 0,k,M,s,h=>by
  unfold OW;split
  ·exact h
  ·exact Rv hP M _ _ h
 | n+1,k,M,s,h=>by
  unfold OW;split
  ·exact h
  ·unfold goJ;have h1:P (Lf M (Ia E k M s).ts (Lp E k).args).2:=Rv hP M _ _ h;split
   ·exact Jk5 (fun M s hs=>Mq hP E n (k+1) M s hs) _ _ _ _ h1
   split
   ·split
    ·exact h1
    ·exact Mq hP E n (k+1) _ _ h1
   ·split
    ·exact Mq hP E n (k+1) _ _ h
    ·exact h
theorem Jt4 {most:Int}{dq:Option (Nat×List (List Int))}{sets:List Nat→Option (Nat×List (List Int))}(hb:SomeB r dq sets)(hm:∀t∈r.head.args,t.kind≠1→Ll (Lc t)=true)(hr:RowsIn ts dq sets)(hok:OL r first)(hts:ts.length≤60000)(hg:TsGood ts): (∃y,(LM r first dq sets most ts).ts=ts++y)∧TsGood (LM r first dq sets most ts).ts∧(∀x∈(LM r first dq sets most ts).rows,∀n∈x,1≤n∧n≤((LM r first dq sets most ts).ts.length:Int))∧ (∀h∈II (LM r first dq sets most ts),AQ r (fun i=>fsT ts (if Fq i=first then dq else sets (Le r.body i).name)) h)∧ (SC most (LM r first dq sets most ts).rows.length=false→∀h,AQ r (fun i=>fsT ts (if Fq i=first then dq else sets (Le r.body i).name)) h→h∈II (LM r first dq sets most ts)):=by
 have hE:=JwB (most:=most) hb hm hr hok hts;obtain⟨y,hy⟩:=MM r.body ts;have hg0:TsGood (ts++y):=by rw[←hy];exact hg.idB
 have p:=Jnn hE (LQ r first).1.length 0 (FV _) [] ⟨Bj ts r.body,[],[]⟩
  ⟨fun v=>⟨fun⟨n,h⟩=>by simp[K8]at h,fun⟨j,hj,_⟩=>by omega⟩,fun v n h=>by simp[K8]at h⟩ ⟨⟨[],by simp⟩,by simp⟩ fun _ k M _ _ _ h=>by simp[Lm,K8]at h
 have hq:∀i,∀x,(if Fq i=first then dq else sets (Le r.body i).name)=some x→∀r∈x.2,∀n∈r,1≤n∧n≤(ts.length:Int):=by
  intro i x hx r' hr';split at hx
  ·exact (hr.rl [] x (.inl hx) r' hr').2
  ·exact (hr.rl _ x (.inr hx) r' hr').2
 have hcc:∀l∈r.body,∀t∈l.args,t.kind≠1→Lc t∈ts++y:=fun l hl t ht hk=>by rw[←hy];exact QC hl ht hk (hb.bc l hl t ht hk).2
 obtain⟨hgd,hgl⟩:=RZ hb.bd hok;have hall:=JnW hb.bd hok
 have hpl:∀k,k<(LQ r first).1.length→(LQ r first).1[k]? = some (Tp (Bb r first dq sets most) k):=fun k hk=>by
  show _=some ((LQ r first).1.getD k 0);rw[List.getD_eq_getElem?_getD,FB hk];rfl
 have hlit:∀(ν:Nv) (σ:Sg) (i:Nat),i<r.body.length→(∀t∈(Le r.body i).args,Bc (ts++y) ν t=Oh σ t)→(I9 (ts++y) ((Bb r first dq sets most).sets i) (Le r.body i) ν↔Ip (fsT ts (if Fq i=first then dq else sets (Le r.body i).name)) (Le r.body i) σ):=by
  intro ν σ i hi hv;have e1:(Le r.body i).args.map (Bc (ts++y) ν)=(Le r.body i).args.map (Oh σ):=List.map_congr_left hv;have e2:=JwA hg0 (ν:=ν) (hq i) (hcc _ (Av hi))
  have e3:CQ (ts++y) ν (Le r.body i)=Ad σ (Le r.body i):=by
   unfold CQ Ad;cases ha:(Le r.body i).args with
   | nil=>rfl
   | cons a l =>
    cases l with
    | nil=>rfl
    | cons b l =>
     cases l with
     | nil =>
      simp only;rw[hv a (by rw[ha];simp),hv b (by rw[ha];simp)]
     | cons c l=>rfl
  rw[e1]at e2;unfold I9 Ip;rw[e3];show (if _ then inN (if Fq i=first then dq else sets (Le r.body i).name) _ else if _ then ¬inN (if Fq i=first then dq else sets (Le r.body i).name) _ else _)↔_;rw[e2]
 have hres:∀h,SK (Bb r first dq sets most) (ts++y) 0 [] h↔AQ r (fun i=>fsT ts (if Fq i=first then dq else sets (Le r.body i).name)) h:=by
  intro h;constructor
  ·rintro⟨ν,_,hs,rfl⟩;refine⟨fun v=>Lx (ts++y) (ν v),fun i hi=>?_,rfl⟩;obtain⟨k,hk⟩:=List.getElem?_of_mem (hall i hi);have hkl:k<(LQ r first).1.length:=(List.getElem?_eq_some_iff.1 hk).1;have hpk:=hpl k hkl;rw[hk]at hpk;have hpk:=FY hpk;have:=hs k (Nat.zero_le _) hkl;have e:Lp (Bb r first dq sets most) k=Le r.body i:=by rw[hpk];rfl
   rw[e,←hpk]at this;exact (hlit ν _ i hi fun t _=>rfl).1 this
  ·rintro⟨σ,hs,rfl⟩
   let ν:Nv:=fun v=>Fq (Bg (ts++y) (σ v))
   have hatom:∀l∈r.body,l.kind=1→∀t∈l.args,t.kind=1→σ t.name∈ts++y:=by
    intro l hl hk t ht hk1;obtain⟨i,hi⟩:=List.getElem?_of_mem hl;have hil:i<r.body.length:=(List.getElem?_eq_some_iff.1 hi).1;have:=hs i hil;unfold Ip at this;rw[Tu hi,if_pos hk]at this;have:=Jv5 (hq i) this (Oh σ t) (List.mem_map.2 ⟨t,ht,rfl⟩);have e:Oh σ t=σ t.name:=if_pos hk1;rw[e]at this;exact List.mem_append_left _ this
   have hbv:∀v,v∈BX r→σ v∈ts++y:=by
    intro v hv;obtain⟨x,hx,hk,t,ht,hk1,rfl⟩:=mem_rBound.1 hv;exact hatom x hx hk t ht hk1
   have hsafe:∀v,v∈Tx r→v∈BX r:=fun v hv=>of_decide_eq_true (List.all_eq_true.1 hok.1 v hv)
   have hval:∀t:Tm,(t.kind=1→σ t.name∈ts++y)→Bc (ts++y) ν t=Oh σ t:=by
    intro t ht;unfold Bc Oh;by_cases hk:t.kind=1
    ·rw[if_pos hk,if_pos hk];exact (QM (ht hk)).1
    ·rw[if_neg hk,if_neg hk]
   have hlv:∀l∈r.body,∀t∈l.args,t.kind=1→σ t.name∈ts++y:=by
    intro l hl t ht hk1;by_cases hk:l.kind=1
    ·exact hatom l hl hk t ht hk1
    ·exact hbv _ (hsafe _ (mem_rNeed.2 (.inr ⟨l,hl,hk,t,ht,hk1,rfl⟩)))
   refine⟨ν,fun v n h=>by simp[K8]at h,fun j _ hj=>?_,?_⟩
   ·have hjl:j<(LQ r first).1.length:=hj;have hlt:=hgd.lt _ (FI (hpl j hjl));exact (hlit ν σ _ hlt fun t ht=>hval t (hlv _ (Av hlt) t ht)).2 (hs _ hlt)
   ·exact (List.map_congr_left fun t ht=>hval t fun hk1=>hbv _ (hsafe _ (mem_rNeed.2 (.inl ⟨t,ht,hk1,rfl⟩)))).symm
 rw[hy]at p;have hs':LM r first dq sets most ts=OW (Bb r first dq sets most) (LQ r first).1.length 0 [] ⟨ts++y,[],[]⟩:=by unfold LM;rw[hy]
 rw[hs'];obtain⟨x,hx⟩:=p.inv.ts;refine⟨⟨y++x,by rw[hx,F6]⟩,Mq (fun ts c h=>h.id c) _ _ _ _ _ hg0,p.inv.rng,fun h hh=>?_,fun hd h hh=>p.cmp hd h ((hres h).2 hh)⟩;rcases p.snd h hh with h1|h1
 ·simp[II]at h1
 ·exact (hres h).1 h1
end
end Go.Proofs.YtegdcbdicpfbpaaGreatDoor
set_option linter.unusedSectionVars false
open Go.RowKit
namespace Go.AE
variable [Globs]
section
theorem NS:∀(a:List Nat),Oq a a=false
 | []=>rfl
 | x::l=>by
  have h1:Nat.blt x x=false:=by rw[Nk];simp
  have h2:Nat.beq x x=true:=Nat.beq_refl x;simp only[Oq,h1,h2,NS l];rfl
theorem Jpq (a b:Nat):Nat.blt a b=decide (a<b):=Nk
theorem Rp:∀{a b c:List Nat},Oq a b=true→Oq b c=true→Oq a c=true
 | [],b,[],h1,h2=>by cases b<;>simp[Oq]at h1 h2
 | [],b,z::c,h1,h2=>by simp[Oq]
 | x::a,[],c,h1,h2=>by simp[Oq]at h1
 | x::a,y::b,[],h1,h2=>by simp[Oq]at h2
 | x::a,y::b,z::c,h1,h2=>by
  simp only[Oq,Bool.or_eq_true,FT,Jpq,decide_eq_true_eq,Nat.beq_eq]at h1 h2 ⊢;rcases h1 with h1|⟨rfl,h1⟩
  ·rcases h2 with h2|⟨rfl,h2⟩
   ·exact .inl Fh
   ·exact .inl h1
  ·rcases h2 with h2|⟨rfl,h2⟩
   ·exact .inl h2
   ·exact .inr ⟨rfl,Rp h1 h2⟩
theorem RP:∀{a b:List Nat},Oq a b=false→Oq b a=false→a=b
 | [],[],_,_=>rfl
 | [],y::b,h,_=>by simp[Oq]at h
 | x::a,[],_,h=>by simp[Oq]at h
 | x::a,y::b,h1,h2=>by
  simp only[Oq,Bool.or_eq_false_iff,Jpq,decide_eq_false_iff_not]at h1 h2;have hxy:x=y:=Fh;subst hxy;have e:Nat.beq x x=true:=Nat.beq_refl _;have g1:=h1.2;have g2:=h2.2;rw[e,Bool.true_and]at g1 g2;rw[RP g1 g2]
end
end Go.AE
namespace Go.Proofs.YtegdcbdicpfbpaaGreatDoor
open Go.AE Delphi Val
theorem Jvt (a:Tk):Ou a a=false:=by
 unfold Ou;split
 ·simp
 ·exact NS _
variable {a b:Tk}
theorem Jwp {c:Tk}(h1:Ou a b=true)(h2:Ou b c=true):Ou a c=true:=by
 unfold Ou at *;by_cases ha:a.k=3<;>by_cases hb:b.k=3<;>by_cases hc:c.k=3<;>simp only[ha,hb,hc,if_true,if_false,decide_eq_true_eq,FM]at *
 ·omega
 ·exact Rp h1 h2
theorem JrR {t:Tk}(h:Ll t=true):(t.k=3∧t.s=[])∨(t.k=2∧t.n=0):=by
 unfold Ll at h;split at h
 ·rename_i hk;simp only[FT,decide_eq_true_eq]at h;exact .inl ⟨hk,h.1⟩
 ·split at h
  ·rename_i hk;simp only[FT,decide_eq_true_eq]at h;exact .inr ⟨hk,h.1⟩
  ·cases h
theorem Jvu (ha:Ll a=true)(hb:Ll b=true)(h1:Ou a b=false)(h2:Ou b a=false):a=b:=by
 obtain⟨k,s,n⟩:=a;obtain⟨k',s',n'⟩:=b;unfold Ou at h1 h2;have n23:¬((2:Int)=3):=by decide
 rcases JrR ha with⟨q1,q2⟩|⟨q1,q2⟩<;>rcases JrR hb with⟨p1,p2⟩|⟨p1,p2⟩<;>simp only at q1 q2 p1 p2<;>subst q1<;>subst q2<;>subst p1<;>subst p2<;>simp only[n23,if_true,if_false,decide_eq_false_iff_not,FM,reduceCtorEq]at h1 h2
 ·have:n=n':=Fh;rw[this]
 ·have:=RP h1 h2;rw[this]
def Ig (f:Fc):Prop:=∀t∈f.2,Ll t=true
theorem JlF:∀l:List Tk,Oz l l=false
 | []=>by simp[Oz]
 | a::l=>by simp only[Oz,JjN,if_true];exact JlF l
theorem Nh (f:Fc):Ov f f=false:=by
 unfold Ov;rw[if_pos (eqL_iff.2 rfl)];exact JlF _
theorem JlG:∀{a b:List Tk},(∀t∈a,Ll t=true)→(∀t∈b,Ll t=true)→Oz a b=false→Oz b a=false→a=b
 | [],[],_,_,_,_=>rfl
 | [],b::bs,_,_,h,_=>by simp[Oz]at h
 | a::as',[],_,_,_,h=>by simp[Oz]at h
 | a::as',b::bs,ha,hb,h1,h2=>by
  simp only[Oz]at h1 h2;by_cases hs:a=b
  ·subst hs;rw[if_pos (JjN a)]at h1 h2;rw[JlG (fun t ht=>ha t (by simp[ht])) (fun t ht=>hb t (by simp[ht])) h1 h2]
  ·have e1:OO a b=false:=by rw[Eo];exact decide_eq_false hs
   have e2:OO b a=false:=by rw[Eo];exact decide_eq_false fun h=>hs h.symm
   rw[e1,if_neg Fj]at h1;rw[e2,if_neg Fj]at h2;exact absurd (Jvu (ha a Fj) (hb b Fj) h1 h2) hs
theorem Jpa {a b:Fc}(ha:Ig a)(hb:Ig b)(h1:Ov a b=false)(h2:Ov b a=false):a=b:=by
 unfold Ov at h1 h2;by_cases hn:a.1=b.1
 ·rw[if_pos (eqL_iff.2 hn)]at h1;rw[if_pos (eqL_iff.2 hn.symm)]at h2;exact Prod.ext hn (JlG ha hb h1 h2)
 ·rw[if_neg fun h=>hn (eqL_iff.1 h)]at h1;rw[if_neg fun h=>hn (eqL_iff.1 h).symm]at h2;exact absurd (RP h1 h2) hn
theorem Eb {a b:Fc}(ha:Ig a)(hb:Ig b):BK a b=true↔a=b:=by
 unfold BK;constructor
 ·intro h;simp only[FT,Bool.not_eq_true']at h;exact Jpa ha hb h.1 h.2
 ·rintro rfl;rw[Nh];rfl
theorem JpO {x y:List Tk}:Oz (a::x) (b::y)=if a=b then Oz x y else Ou a b:=by
 simp only[Oz,Eo];by_cases h:a=b<;>simp[h]
theorem JmW:∀{a b c:List Tk},Oz a b=true→Oz b c=true→Oz a c=true
 | [],[],c,h,_=>by simp[Oz]at h
 | [],b::bs,[],_,h=>by simp[Oz]at h
 | [],b::bs,c::cs,_,_=>by simp[Oz]
 | a::x,[],c,h,_=>by simp[Oz]at h
 | a::x,b::y,[],_,h=>by simp[Oz]at h
 | a::x,b::y,c::z,h1,h2=>by
  rw[JpO]at h1 h2 ⊢;by_cases hab:a=b
  ·subst hab;rw[if_pos rfl]at h1;by_cases hac:a=c
   ·rw[if_pos hac]at h2 ⊢;exact JmW h1 h2
   ·rw[if_neg hac]at h2 ⊢;exact h2
  ·rw[if_neg hab]at h1;by_cases hbc:b=c
   ·subst hbc;rw[if_neg hab];exact h1
   ·rw[if_neg hbc]at h2;have h3:=Jwp h1 h2;by_cases hac:a=c
    ·subst hac;rw[Jvt]at h3;cases h3
    ·rw[if_neg hac];exact h3
theorem Jni {a b c:Fc}(h1:Ov a b=true)(h2:Ov b c=true):Ov a c=true:=by
 unfold Ov at *;by_cases hab:a.1=b.1
 ·rw[if_pos (eqL_iff.2 hab)]at h1;by_cases hbc:b.1=c.1
  ·rw[if_pos (eqL_iff.2 hbc)]at h2;rw[if_pos (eqL_iff.2 (hab.trans hbc))];exact JmW h1 h2
  ·rw[if_neg fun h=>hbc (eqL_iff.1 h)]at h2;rw[if_neg fun h=>hbc (hab.symm.trans (eqL_iff.1 h)),hab];exact h2
 ·rw[if_neg fun h=>hab (eqL_iff.1 h)]at h1;by_cases hbc:b.1=c.1
  ·rw[if_neg fun h=>hab ((eqL_iff.1 h).trans hbc.symm),←hbc];exact h1
  ·rw[if_neg fun h=>hbc (eqL_iff.1 h)]at h2;have h3:=Rp h1 h2;by_cases hac:a.1=c.1
   ·rw[hac,NS]at h3;cases h3
   ·rw[if_neg fun h=>hac (eqL_iff.1 h)];exact h3
end Go.Proofs.YtegdcbdicpfbpaaGreatDoor
