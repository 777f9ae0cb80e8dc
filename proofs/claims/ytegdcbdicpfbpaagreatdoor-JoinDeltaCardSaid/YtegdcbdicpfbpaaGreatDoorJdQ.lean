/- A part of the proof. -/
import Derived.Test.YtegdcbdicpfbpaaGreatDoorJdP
import Derived.Test.YtegdcbdicpfbpaaGreatDoorJdI
import Derived.Test.YtegdcbdicpfbpaaGreatDoorJdM
open Int renaming ofNat → Fq
open Go.IntKind renaming wrap → KZ
set_option linter.unusedVariables false
set_option maxRecDepth 10000
set_option linter.unusedSimpArgs false
namespace Go.Proofs.YtegdcbdicpfbpaaGreatDoor
open Go.AE Delphi Val
variable {tab:Tab}
def StoreAt (tab:Tab) (O:Fw) (w:AW) (sfn:Nat) (sv:V) (sets:List Nat→Option (Nat×List (List Int))):Prop :=
 ∀(R:Fw) (w':AW),Frm R w w'→(∀x,O x→¬R x)→∀(nm:List Nat) (K:V→AW→Prop),(∀w2 p,Frm (fun _=>False) w' w2→SetQ O w2 p (sets nm)→K p w2)→WF tab sfn [sv,.str nm] w' K
variable {w:AW}
theorem SetQ.mono {S S':Fw}{p:V}{q:Option (Nat×List (List Int))}(h:SetQ S w p q)(hs:∀x,S x→S' x)(hl:∀x,S' x→x<w.next):SetQ S' w p q:=by
 cases q with
 | none=>exact h
 | some x =>
  obtain⟨bp,lv,cs,S0,T,e,h⟩:=h;exact⟨bp,lv,cs,S0,T,e,⟨hs _ h.hp,h.lt,h.hx,fun b hb=>⟨hs _ (h.h0 b hb).1,(h.h0 b hb).2⟩,fun b hb=>⟨hs _ (h.hT b hb).1,(h.hT b hb).2⟩,hl,h.hb,h.hv,h.rise,h.wid,h.w4⟩⟩
structure JStat (tab:Tab) (O:Fw) (w:AW) (jb tb sb vb:Nat) (E:JE) (cells:List V) (op sv:V) (a:Int) (dq:Option (Nat×List (List Int))) (sets:List Nat→Option (Nat×List (List Int))) (sty sfn:Nat):Prop where
 cj:CB w jb cells
 oj:O jb
 head:∃xs,Lr 3 (cells.drop 0)=some xs∧LtC O w E.head xs
 body:∃xb,Lr 1 (cells.drop 3)=some [xb]∧RdL (LtC O) O w xb 3 E.body
 h4:Lr 1 (cells.drop 4)=some [.ptr tb 0]
 h5:Lr 1 (cells.drop 5)=some [.iface sty sv]
 order:∃ov,Lr 1 (cells.drop 6)=some [ov]∧Rd O w ov 1 E.order.length (Bw E.order)
 h8:Lr 1 (cells.drop 8)=some [.int .i64 a]
 delta:∃dp,Lr 1 (cells.drop 9)=some [dp]∧SetQ O w dp dq
 need:∃nv ncs,Lr 1 (cells.drop 10)=some [nv]∧Rd O w nv 1 E.need.length ncs∧∀(k:Nat) l,E.need[k]? = some l→∃sv,ncs[k]? = some sv∧Rd O w sv 1 l.length (LY l)
 h11:Lr 1 (cells.drop 11)=some [.map sb]
 h12:Lr 1 (cells.drop 12)=some [.map vb]
 h13:Lr 1 (cells.drop 13)=some [op]
 h14:Lr 1 (cells.drop 14)=some [.int .i64 E.most]
 store:StoreAt tab O w sfn sv sets
variable {O:Fw} {jb tb sb vb sty sfn:Nat} {E:JE} {cells:List V} {op sv:V} {a:Int} {dq:Option (Nat×List (List Int))} {sets:List Nat→Option (Nat×List (List Int))}
theorem JStat.frm {R:Fw}{w':AW}(h:JStat tab O w jb tb sb vb E cells op sv a dq sets sty sfn)(g:Frm R w w')(hd:∀x,O x→¬R x):JStat tab O w' jb tb sb vb E cells op sv a dq sets sty sfn where
 cj:=h.cj.frm g (hd _ h.oj)
 oj:=h.oj
 head:=by obtain⟨xs,h1,h2⟩:=h.head;exact⟨xs,h1,h2.frm g hd⟩
 body:=by obtain⟨xs,h1,h2⟩:=h.body;exact⟨xs,h1,h2.frm (fun _ _ h=>h.frm g hd) g hd⟩
 h4:=h.h4
 h5:=h.h5
 order:=by obtain⟨ov,h1,h2⟩:=h.order;exact⟨ov,h1,h2.frm g hd⟩
 h8:=h.h8
 delta:=by obtain⟨dp,h1,h2⟩:=h.delta;exact⟨dp,h1,h2.frm g hd⟩
 need:=by obtain⟨nv,ncs,h1,h2,h3⟩:=h.need;exact⟨nv,ncs,h1,h2.frm g hd,fun k l hl=>by obtain⟨sv,h4,h5⟩:=h3 k l hl;exact⟨sv,h4,h5.frm g hd⟩⟩
 h11:=h.h11
 h12:=h.h12
 h13:=h.h13
 h14:=h.h14
 store R' w2 g' hd':=h.store (fun x=>R x∨R' x) w2 (g.trans g' (fun _ _ h=> .inl h) fun _ _ h=> .inr h) fun x hx hh=>hh.elim (hd x hx) (hd' x hx)
theorem JStat.mono {O':Fw}(h:JStat tab O w jb tb sb vb E cells op sv a dq sets sty sfn)(ho:∀x,O x→O' x)(hl:∀x,O' x→x<w.next):JStat tab O' w jb tb sb vb E cells op sv a dq sets sty sfn where
 cj:=h.cj
 oj:=ho _ h.oj
 head:=by obtain⟨xs,h1,h2⟩:=h.head;exact⟨xs,h1,h2.mono ho⟩
 body:=by obtain⟨xs,h1,h2⟩:=h.body;exact⟨xs,h1,C8 h2 ho⟩
 h4:=h.h4
 h5:=h.h5
 order:=by obtain⟨ov,h1,h2⟩:=h.order;exact⟨ov,h1,h2.mono ho⟩
 h8:=h.h8
 delta:=by obtain⟨dp,h1,h2⟩:=h.delta;exact⟨dp,h1,h2.mono ho hl⟩
 need:=by obtain⟨nv,ncs,h1,h2,h3⟩:=h.need;exact⟨nv,ncs,h1,h2.mono ho,fun k l hl=>by obtain⟨sv,h4,h5⟩:=h3 k l hl;exact⟨sv,h4,h5.mono ho⟩⟩
 h11:=h.h11
 h12:=h.h12
 h13:=h.h13
 h14:=h.h14
 store R' w2 g' hd' nm K hK:=h.store R' w2 g' (fun x hx=>hd' x (ho x hx)) nm K fun w3 p g3 hq=>hK w3 p g3 (hq.mono ho fun x hx=>FK (hl x hx) (Kk g'.next g3.next))
structure JPure (E:JE) (a:Int) (dq:Option (Nat×List (List Int))) (sets:List Nat→Option (Nat×List (List Int))) (ts0 cs:List Tk):Prop where
 st:∀i,i<E.body.length→E.sets i=(if Fq i=a then dq else sets (Le E.body i).name)
 w4:∀nm x,sets nm=some x→x.1≤4
 rl:∀i x,E.sets i=some x→x.2.length≤1000000∧∀r∈x.2,r.length=x.1∧∀n∈r,n.natAbs≤100000
 olt:∀i∈E.order,i<E.body.length
 ol:E.order.length≤100
 nl:E.need.length=E.order.length+1
 nn:∀l∈E.need,l.length≤100
 hal:E.head.args.length≤10
 bal:∀l∈E.body,l.args.length≤10
 bk:∀l∈E.body,l.kind≠1→l.kind≠2→3≤l.kind∧l.kind≤6∧l.args.length=2
 bl:E.body.length≤100
 hc:∀t∈E.head.args,t.kind≠1→TkOk (Lc t)∧Lc t∈cs
 bc:∀l∈E.body,∀t∈l.args,t.kind≠1→TkOk (Lc t)∧Lc t∈cs
 tsl:ts0.length+cs.length≤80000
def MOk (M:Vm):Prop:=∀v,(Lm M v).natAbs≤100000
theorem MOk.put {M:Vm}(h:MOk M)(k:List Nat){n:Int}(hn:n.natAbs≤100000):MOk (Ob M k n):=by
 intro v;by_cases hv:v=k
 ·subst hv;unfold Lm;rw[Bd];exact hn
 ·unfold Lm;rw[Ti _ _ _ _ hv];exact h v
theorem MOk.bind:∀(ts:List Tm) (ns:List Int) {M:Vm} (l2:Fx),MOk M→(∀n∈ns,n.natAbs≤100000)→MOk (LB ts ns M l2).1.1
 | [],ns,M,l2,h,_=>by simpa[LB]using h
 | _::_,[],M,l2,h,_=>by simpa[LB]using h
 | t::ts,n::ns,M,l2,h,hn=>by
  have hn':∀m∈ns,m.natAbs≤100000:=fun m hm=>hn m (FO _ hm);unfold LB;split
  ·exact MOk.bind ts ns l2 h hn'
  cases K8 M t.name with
  | some k =>
   simp only;split
   ·exact MOk.bind ts ns l2 h hn'
   ·exact h
  | none=>exact MOk.bind ts ns _ (h.put _ (hn n Fj)) hn'
abbrev FrK (K:V→AW→Prop):Fr→AW→Prop:=fun fr' aw'=>∃vs,Ox fr' aw' Ji.results=some vs∧K (Oy vs) aw'
theorem Jno (C:Codes tab)(I:Ib tab){mb k:Nat}{tv:V}{ts0 cs:List Tk}{S So:Fw}{M:Vm}{s:JS}{K:V→AW→Prop}(hp:JPure E a dq sets ts0 cs)(hs:JStat tab O w jb tb sb vb E cells op sv a dq sets sty sfn)(hD:Dyn O tb mb vb sb op E.head.args.length w tv S So M s)(hk:k≤E.order.length)(hM:MOk M)(h1:I1 E k M s=true→K (.tuple []) w)(h2:I1 E k M s=false→∀f w',f.get 0=some (.ptr jb 0)→f.get 1=some (.int .i64 (Fq k))→Dyn O tb mb vb sb op E.head.args.length w' tv S So M (Ia E k M s)→Mv tb mb vb sb w S So w' S So→WS tab [.code Zz] f w' (FrK K)): WF tab Zf [.ptr jb 0,.int .i64 (Fq k)] w K:=by
 refine Ld C.X4 rfl ?_;obtain⟨nv,ncs,h10,hnr,hns⟩:=hs.need;have hkl:k<E.need.length:=by rw[hp.nl];omega
 obtain⟨l,hl⟩:∃l,E.need[k]? = some l:=⟨_,FB hkl⟩;have hla:Cz E k=l:=by unfold Cz;rw[List.getD_eq_getElem?_getD,hl];rfl
 have hll:=hp.nn l (FI hl);have hol:=hp.ol;have hke:SN E k M=SQ M k l:=by unfold SN;rw[hla]
 refine Fz (by simp only[go_sem,K5,Ji];rfl) ?_;refine K9 Ff Fe ?_;refine Jwe (O:=O) C I hs.cj h10 hs.h12 hD.m hM hnr hkl (hns k l hl) hll ?_ Fh;have j11:w.load jb 11 1=some [.map sb]:=CB.ld hs.cj 11 1 _ hs.h11;have look:=hD.n.look BB (.int .i64 0) (SQ M k l)
 have hlk:w.lookV (.scalar .str) (.int .i64 0) (.map sb) (.str (SQ M k l))=some (.int .i64 (Lm s.seen (SQ M k l)),(K8 s.seen (SQ M k l)).isSome):=by
  rw[look];unfold Lm;cases K8 s.seen (SQ M k l)<;>rfl
 have hsj:I1 E k M s=(decide (0<Lm s.seen (SQ M k l))||SC E.most s.rows.length):=by unfold I1;rw[hke]
 have hmk:Ia E k M s=⟨s.ts,Ob s.seen (SQ M k l) 1,s.rows⟩:=by unfold Ia;rw[hke]
 rw[hsj]at h1 h2;rw[hmk]at h2;generalize SQ M k l=ky at hlk h1 h2;by_cases hg:Lm s.seen ky>0
 ·rw[decide_eq_true (p:=0<Lm s.seen ky) hg,Bool.true_or]at h1;refine Fz (by simp only[go_sem,K5,UJ,j11,hlk,hg];rfl) ?_;refine K7 ⟨_,by simp only[go_sem,K5,Ji];rfl,?_⟩;exact h1 rfl
 ·rw[decide_eq_false (p:=0<Lm s.seen ky) hg,Bool.false_or]at h1 h2;refine Fz (by simp only[go_sem,K5,UJ,j11,hlk,hg];rfl) ?_;refine K9 Ff Fe ?_;refine JuN C hs.cj hs.h13 hs.h14 hD.o ?_;cases hd:SC E.most s.rows.length with
  | true =>
   refine K6 1000 Fe ?_;refine K7 ⟨_,by simp only[go_sem,K5,Ji];rfl,?_⟩;exact h1 hd
  | false =>
   obtain⟨w2,p1,p2,p3,p4⟩:=hD.n.put BB ky 1;refine Lb 11 (by simp only[go_sem,K5,PO,j11,p1];rfl) ?_;obtain⟨q1,q2⟩:=hD.mark p2 p3;exact h2 hd _ _ Fb Fb q1 q2
section
open Go.AE Delphi Val
variable {tab:Tab}
def SL (tab:Tab):Prop:=∀args aw v aw',Ci 24 args aw=some (v,aw')→tab.prim Zg args aw v aw'
variable {M:Vm}
theorem Dyn.rowO {mb width:Nat}{tv:V}{S So:Fw}{s:JS}(h:Dyn O tb mb vb sb op width w tv S So M s):∀x,O x∨x=vb→x<w.next∧¬S x∧x≠tb∧x≠mb:=by
 rintro x (hx|rfl)
 ·have hd:=h.dis x hx;exact⟨h.lt x hx,fun hh=>hd (.inl hh),fun hh=>hd (.inr (.inr (.inl hh))),fun hh=>hd (.inr (.inr (.inr (.inl hh))))⟩
 ·exact⟨h.m.lt,fun hh=>(h.sd _ hh).1 rfl,h.ne.1,h.ne.2.1⟩
theorem JrD (C:Codes tab)(P:SL tab){mb k:Nat}{tv:V}{ts0 cs:List Tk}{S So:Fw}{s:JS}{f:Fr}{K:V→AW→Prop}(hp:JPure E a dq sets ts0 cs)(hs:JStat tab O w jb tb sb vb E cells op sv a dq sets sty sfn)(hD:Dyn O tb mb vb sb op E.head.args.length w tv S So M s)(hk:k=E.order.length)(hts:TsIn ts0 cs s.ts)(hrl:(IG E M s).rows.length≤1000000)(f0:f.get 0=some (.ptr jb 0))(f1:f.get 1=some (.int .i64 (Fq k)))(h:∀w' tv' S' So',Dyn O tb mb vb sb op E.head.args.length w' tv' S' So' M (IG E M s)→Mv tb mb vb sb w S So w' S' So'→K (.tuple []) w'):WS tab [.code Zz] f w (FrK K):=by
 obtain⟨ov,h6,ho⟩:=hs.order;obtain⟨xs,h0,hx⟩:=hs.head;have j6:w.load jb 6 1=some [ov]:=CB.ld hs.cj 6 1 _ h6;have j13:w.load jb 13 1=some [op]:=CB.ld hs.cj 13 1 _ hs.h13;have j0:w.load jb 0 3=some xs:=CB.ld hs.cj 0 3 _ h0;have hov:=ho.lenV;subst hk;refine Fz (by simp only[go_sem,K5,Zz,PP,f0,f1,j6,hov];rfl) ?_;refine Bo ?_;refine LU 100 (by simp only[go_sem,K5,f0,j13,j0];rfl) ?_;refine BJ Ff Fe ?_;have htl:=hts.len;have htb:=hp.tsl;have hal:=hp.hal;refine Jn6 (O:=fun x=>O x∨x=vb) C hD.t hD.rowO hs.cj (.inl hs.oj) hs.h4 hs.h12 hD.m (.inr rfl) (hx.mono fun _ h=> .inl h) hal (fun t ht hk=>(hp.hc t ht hk).1) Fh fun w1 v1 tv1 S1 R1 q1 q2 q3 q4 q5=>?_;obtain⟨d1,m1⟩:=hD.tabl q2 q3 q4;have j13':w1.load jb 13 1=some [op]:=CB.ld (hs.cj.frm m1.f (hD.dis _ hs.oj)) 13 1 _ hs.h13;have hrw:=(Aj M s.ts E.head.args).1;have hadd:=QH s.rows (Lf M s.ts E.head.args).1;have hrl':(BP s.rows (Lf M s.ts E.head.args).1).length≤1000000:=hrl;refine LU 100 Fe ?_;refine BJ Ff Fe ?_;refine Rel.add_ok C P d1.o q1 (by show s.rows.length≤1000000;omega) Fh (fun hn=>?_) fun hw hn w2 So2 g1 g2 g3=>?_
 ·have e:IG E M s=⟨(Lf M s.ts E.head.args).2,s.seen,s.rows⟩:=by
   unfold IG BP;rw[if_pos];exact Classical.byContradiction fun hc=>hn ⟨hrw,hc⟩
  rw[e]at h;refine LU 100 Fe ?_;refine O1 ⟨(show LF _ _ [(3,10)]from by simp only[go_sem,K5,LF,chk,List.reverse_cons,List.reverse_nil,O8,O6,O4,O5,List.getElem?_nil,false_or,or_true,or_false,exists_eq',FQ,Prod.mk.injEq,Bool.true_eq_false,FM,and_true,true_and,implies_true,j13,j13']),?_⟩;refine K6 1000 Fe ?_;refine K7 ⟨_,by simp only[go_sem,K5,Ji];rfl,?_⟩;exact h _ _ _ _ d1 m1
 ·have e:IG E M s=⟨(Lf M s.ts E.head.args).2,s.seen,Rel.insR s.rows (Lf M s.ts E.head.args).1⟩:=by
   unfold IG BP;rw[if_neg hn]
  rw[e]at h;obtain⟨d2,m2⟩:=d1.out g1 g2 g3;refine LU 100 Fe ?_;refine O1 ⟨(show LF _ _ [(3,10)]from by simp only[go_sem,K5,LF,chk,List.reverse_cons,List.reverse_nil,O8,O6,O4,O5,List.getElem?_nil,false_or,or_true,or_false,exists_eq',FQ,Prod.mk.injEq,Bool.true_eq_false,FM,and_true,true_and,implies_true,j13,j13']),?_⟩;refine K6 1000 Fe ?_;refine K7 ⟨_,by simp only[go_sem,K5,Ji];rfl,?_⟩;exact h _ _ _ _ d2 (m1.trans m2)
theorem Jtf (C:Codes tab){Y:Vm}{lv:V}{R:Fw}{f:Fr}{st:List SI}{Q:Fr→AW→Prop}(hj:CB w jb cells)(hjv:jb≠vb)(h12:Lr 1 (cells.drop 12)=some [.map vb])(hM:SM w vb (M++Y))(hY:∀v∈Y.map Prod.fst,K8 M v=none)(hl:Rd R w lv 1 Y.length (LY (Y.map Prod.fst)))(hR:∀x,R x→x≠vb)(hYl:Y.length≤1000)(f0:f.get 0=some (.ptr jb 0))(f116:f.get 116=some lv)(f117:f.get 117=some (.int .i64 (Fq Y.length)))(f118:f.get 118=some (.int .i64 (Fq 0)))(h:∀f' w',f'.get 0=f.get 0→f'.get 1=f.get 1→f'.get 6=f.get 6→f'.get 98=f.get 98→f'.get 99=f.get 99→f'.get 100=f.get 100→SM w' vb M→Frm (fun x=>x=vb) w w'→WS tab st f' w' Q):WS tab (.code (.loop Yd) :: .endB 3::st) f w Q:=by
 refine LK (fun n f' w'=>∃i,f'.get 0=f.get 0∧f'.get 1=f.get 1∧f'.get 6=f.get 6∧f'.get 98=f.get 98∧f'.get 99=f.get 99∧f'.get 100=f.get 100∧f'.get 116=some lv∧f'.get 117=some (.int .i64 (Fq Y.length))∧f'.get 118=some (.int .i64 (Fq i))∧SM w' vb (M++Y.drop i)∧Frm (fun x=>x=vb) w w'∧i≤Y.length∧n=Y.length-i)
  (fun f' w'=>f'.get 0=f.get 0∧f'.get 1=f.get 1∧f'.get 6=f.get 6∧f'.get 98=f.get 98∧f'.get 99=f.get 99∧f'.get 100=f.get 100∧SM w' vb M∧Frm (fun x=>x=vb) w w') ?_ ?_ Y.length ⟨0,rfl,rfl,rfl,rfl,rfl,rfl,f116,f117,f118,hM,Frm.refl _,Nat.zero_le _,rfl⟩
 ·rintro n f' w' ⟨i,g0,g1,g6,g98,g99,g100,g116,g117,g118,hMw,g,hi,rfl⟩ ih out;by_cases hil:i<Y.length
  case neg =>
   obtain rfl:i=Y.length:=Fh;rw[List.drop_length,Kc]at hMw;refine Lb 1000 (by simp only[go_sem,Yd,g117,g118,hil];rfl) ?_;exact out _ _ _ ⟨(Fg g0),(Fg g1),(Fg g6),(Fg g98),(Fg g99),(Fg g100),hMw,g⟩ rfl
  obtain⟨⟨v,n⟩,hy⟩:∃p,Y[i]? = some p:=⟨_,FB hil⟩;have hdr:Y.drop i=(v,n)::Y.drop (i+1):=by rw[FL hil];rw[FB hil]at hy;rw[FY hy]
  rw[hdr]at hMw;have hv:=hY v (List.mem_map.2 ⟨_,FI hy,rfl⟩);have hag:K8 (M++(v,n)::Y.drop (i+1)) v=some n:=by rw[Jio hv];simp[K8]
  obtain⟨es,ck,j,m,e1,e2,hM2,g2⟩:=Jwg BB hMw hag;rw[JsJ _ hv]at hM2;have hlw:=hl.frm g hR;rcases hlw.inv with⟨_,h0,_⟩|⟨b,o,c,rfl,hB⟩
  ·omega
  have ln:w'.load b (o+i*1) 1=some [.str v]:=by
   rw[KC];exact hB.cell Fh (by unfold LY;rw[F7,F7,hy];rfl)
  have j12:w'.load jb 12 1=some [.map vb]:=CB.ld (hj.frm g hjv) 12 1 _ h12;have hwr:KZ .i64 (Fq i+1)=Fq (i+1):=Lh Fh;have hko:IE (.scalar .str) (.str v)=true:=rfl;rw[f0]at g0;refine Fz (by simp only[go_sem,K5,Yd,PS,PR,g0,g116,g117,g118,hil,ln,j12,hko,e1,e2,hwr];rfl) ?_;refine ih _ _ _ Fh ⟨i+1,by rw[f0];exact (Fg g0),(Fg g1),(Fg g6),(Fg g98),(Fg g99),(Fg g100),(Fg g116),(Fg g117),Fb,hM2,g.tr g2,by omega,rfl⟩
 ·rintro f' w' ⟨g0,g1,g6,g98,g99,g100,hMw,g⟩;exact h f' w' g0 g1 g6 g98 g99 g100 hMw g
set_option maxRecDepth 100000
end
section
open Go.AE Go.RowKit Delphi
theorem codesS:Codes (EQ Tryz.prog):=JuJ rfl
theorem Jte (n:Int)(aw:AW)(h1 : -9223372036854775808≤n)(h2:n≤9223372036854775807):CallR (EQ Tryz.prog) GZ [.int .i64 n,.int .i64 10] aw (.str (Ba n)) aw:=.prim (by
 show Eu [.int .i64 n,.int .i64 10] aw=some (.str (Ba n),aw);simp only[Eu];rw[if_pos ⟨h1,h2⟩])
theorem Jwc:Ib (EQ Tryz.prog):=fun n aw h1 h2=>by
 have h:WF (EQ Tryz.prog) YO [.int .i64 n] aw fun v w=>v = .str (Ba n)∧w=aw:=by
  refine Ld codesS.Vd rfl ?_;refine Fz (by simp only[go_sem,K5,Vc];rfl) ?_;refine K9 Ff Fe ?_;refine Ld codesS.Vs rfl ?_;refine Fz (by simp only[go_sem,K5,Vr];rfl) ?_;refine K9 Ff Fe ?_;refine⟨_,_,Jte n aw h1 h2,?_⟩;refine K6 1000 Fe ?_;refine K7 ⟨_,by simp only[go_sem,K5,Vr];rfl,?_⟩;refine K6 1000 Fe ?_;refine K7 ⟨_,by simp only[go_sem,K5,Vc];rfl,?_⟩;exact⟨rfl,rfl⟩
 obtain⟨_,_,h,rfl,rfl⟩:=h;exact h
theorem Jw1:SL (EQ Tryz.prog):=fun args aw v aw' h=>h
end
section
open Go.AE Delphi Val
variable {tab:Tab}
def JmJ (tab:Tab) (E:JE) (jb tb mb vb sb:Nat) (cells:List V) (op sv:V) (a:Int) (dq:Option (Nat×List (List Int))) (sets:List Nat→Option (Nat×List (List Int))) (sty sfn:Nat) (ts0 cs:List Tk) (k:Nat) (rec:Vm→JS→JS):Prop :=
 ∀{O S So:Fw} {w:AW} {tv:V} {M:Vm} {s:JS} {K:V→AW→Prop},JStat tab O w jb tb sb vb E cells op sv a dq sets sty sfn→Dyn O tb mb vb sb op E.head.args.length w tv S So M s→MOk M→TsIn ts0 cs s.ts→(rec M s).rows.length≤1000000→
  (∀w' tv' S' So',Dyn O tb mb vb sb op E.head.args.length w' tv' S' So' M (rec M s)→Mv tb mb vb sb w S So w' S' So'→K (.tuple []) w')→WF tab Zf [.ptr jb 0,.int .i64 (Fq k)] w K
variable {rec:Vm→JS→JS} {l:Lt} {M:Vm} {rows:Fy}
theorem JqI {i:Nat}{r:List Int}(h:rows[i]? = some r)(s:JS):Ot rec l M (rows.take (i+1)) s=if (LB l.args r M []).2=true then rec (LB l.args r M []).1.1 (Ot rec l M (rows.take i) s)else Ot rec l M (rows.take i) s:=by
 unfold Ot;rw[O7 h,List.foldl_append];rfl
theorem JqH (hm:DV rec)(i:Nat)(s:JS):(Ot rec l M (rows.take i) s).rows.length≤(Ot rec l M rows s).rows.length:=by
 have:Ot rec l M rows s=Ot rec l M (rows.drop i) (Ot rec l M (rows.take i) s):=by
  unfold Ot;rw[←List.foldl_append,List.take_append_drop]
 rw[this];exact Rb hm l M _ _
def TsJ (ts0 cs:List Tk) (rec:Vm→JS→JS):Prop:=∀M s,TsIn ts0 cs s.ts→TsIn ts0 cs (rec M s).ts
theorem QT {rec:Vm→JS→JS}{ts0 cs:List Tk}(h:TsJ ts0 cs rec)(l:Lt)(M:Vm):∀(rows:Fy) (s:JS),TsIn ts0 cs s.ts→TsIn ts0 cs (Ot rec l M rows s).ts
 | [],s,hs=>hs
 | r::rows,s,hs=>by
  unfold Ot;rw[Ku];refine QT h l M rows _ ?_;split
  ·exact h _ _ hs
  ·exact hs
theorem JrE (C:Codes tab){mb k:Nat}{tv:V}{ts0 cs:List Tk}{S So:Fw}{s:JS}{f:Fr}{K:V→AW→Prop}{lb:Nat}{xs rcs:List V}{rv:V}{S1 T1:Fw}{N:Nat}{st:List SI}(hp:JPure E a dq sets ts0 cs)(hs:JStat tab O w jb tb sb vb E cells op sv a dq sets sty sfn)(hD:Dyn O tb mb vb sb op E.head.args.length w tv S So M s)(hrec:JmJ tab E jb tb mb vb sb cells op sv a dq sets sty sfn ts0 cs (k+1) rec)(hmono:DV rec)(htj:TsJ ts0 cs rec)(hk:k≤1000)(hM:MOk M)(hts:TsIn ts0 cs s.ts)(hal:l.args.length≤10)(hrw:∀r∈rows,r.length=l.args.length∧∀n∈r,n.natAbs≤100000)(hrn:rows.length≤1000000)(hrl:(Ot rec l M rows s).rows.length≤1000000)(hx:LtC O w l xs)(hlb:CB w lb xs)(hlbo:O lb)(hL:Rel.ListOf N w rv rows rcs S1 T1)(hSO:∀x,S1 x→O x)(hTO:∀x,T1 x→O x)(f0:f.get 0=some (.ptr jb 0))(f1:f.get 1=some (.int .i64 (Fq k)))(f6:f.get 6=some (.ptr lb 0))(f98:f.get 98=some rv)(f99:f.get 99=some (.int .i64 (Fq rows.length)))(f100:f.get 100=some (.int .i64 (Fq 0)))(h:∀f' w' tv' S' So',Dyn O tb mb vb sb op E.head.args.length w' tv' S' So' M (Ot rec l M rows s)→Mv tb mb vb sb w S So w' S' So'→WS tab st f' w' (FrK K)):WS tab (.code (.loop Ye) :: .endB 1::st) f w (FrK K):=by
 refine LK (fun n f w1=>∃i tv1 S2 So2,f.get 0=some (.ptr jb 0)∧f.get 1=some (.int .i64 (Fq k))∧f.get 6=some (.ptr lb 0)∧f.get 98=some rv∧f.get 99=some (.int .i64 (Fq rows.length))∧f.get 100=some (.int .i64 (Fq i))∧Dyn O tb mb vb sb op E.head.args.length w1 tv1 S2 So2 M (Ot rec l M (rows.take i) s)∧Mv tb mb vb sb w S So w1 S2 So2∧i≤rows.length∧n=rows.length-i)
  (fun f w1=>∃tv1 S2 So2,Dyn O tb mb vb sb op E.head.args.length w1 tv1 S2 So2 M (Ot rec l M rows s)∧Mv tb mb vb sb w S So w1 S2 So2) ?_ ?_ rows.length ⟨0,tv,S,So,f0,f1,f6,f98,f99,f100,hD,Mv.refl,Nat.zero_le _,rfl⟩
 ·rintro n f w1 ⟨i,tv1,S2,So2,f0,f1,f6,f98,f99,f100,hD1,m1,hi,rfl⟩ ih out;by_cases hil:i<rows.length
  case neg =>
   obtain rfl:i=rows.length:=Fh;rw[List.take_length]at hD1;refine Lb 1000 (by simp only[go_sem,Ye,f99,f100,hil];rfl) ?_;exact out _ _ _ ⟨tv1,S2,So2,hD1,m1⟩ rfl
  obtain⟨r,hr⟩:∃r,rows[i]? = some r:=⟨_,FB hil⟩;have hrm:=hrw r (FI hr);have hOD:=hD.dis;have hs1:=hs.frm m1.f hOD;have hx1:=hx.frm m1.f hOD;have hlb1:=hlb.frm m1.f (hOD _ hlbo);obtain⟨L1,L2,L3,L4⟩:=hL;have hB1:=L1.frm m1.f fun x hx=>hOD _ (hSO x hx);have hR1:=L2.frm m1.f fun x hx=>hOD _ (hTO x hx);obtain⟨v,hv,hrv⟩:=hR1.at hr;have hxl:=hx.one;have lx:w1.load lb 0 3=some xs:=hlb1.all hxl.1;rcases hB1.rd.inv with⟨_,h0,_⟩|⟨b,o,c,hve,hB⟩
  ·omega
  have ln:w1.load b (o+i*1) 1=some [v]:=by rw[KC];exact hB.cell Fh hv
  have f98':=f98;rw[hve]at f98';have hvb:=hD1.m.lt;have hbl:LB l.args r M []=(((LB l.args r M []).1.1,(LB l.args r M []).1.2),(LB l.args r M []).2):=rfl;obtain⟨Y,hY1,hY2,hY3⟩:=Joq l.args r M;have hMb:=MOk.bind l.args r (M:=M) [] hM hrm.2;have hpart:=JqH hmono (l:=l) (M:=M) (rows:=rows) (i+1) s;have htk:=JqI (rec:=rec) (l:=l) (M:=M) hr s;have htsi:=QT htj l M (rows.take i) s hts;refine Fz (by simp only[go_sem,K5,Ye,PU,PT,f0,f1,f6,f98',f99,f100,hil,ln,lx];rfl) ?_;refine K9 Ff Fe ?_;have hjv:jb≠vb:=fun e=>hOD _ hs.oj (.inr (.inr (.inr (.inr (.inl e)))));refine JuC C (O:=O) hs1.cj hjv hs1.h12 hD1.m hx1 (fun x hx e=>hOD _ hx (.inr (.inr (.inr (.inr (.inl e)))))) hrv (fun x hx e=>hOD _ (hTO x hx) (.inr (.inr (.inr (.inr (.inl e)))))) hal hrm.1 fun w2 bv Sb M' l2 ok hb1 hb2 hb3 hb4 hb5=>?_;have hY1':=hY1;rw[hb1]at hY1' htk hMb
  obtain⟨rfl,rfl⟩:M'=M++Y∧l2=Y.map Prod.fst:=by
   have:=hY1';simp only[Prod.mk.injEq]at this;exact this
  simp only[]at htk hMb;obtain⟨d2,m2⟩:=hD1.vars hb2 hb4
  have hYl:Y.length≤10:=by
   have:(Y.map Prod.fst).length≤l.args.length:=by
    have hg:∀(ts:List Tm) (ns:List Int) (M:Vm) (l2:Fx),(LB ts ns M l2).1.2.length≤l2.length+ts.length:=by
     intro ts;induction ts with
     | nil=>intro ns M l2;simp[LB]
     | cons t ts ih =>
      intro ns M l2;cases ns with
      | nil=>simp[LB]
      | cons n ns =>
       unfold LB;have:=ih ns M l2;have h2:=ih ns (Ob M t.name n) (l2++[t.name]);rw[FE,Kb]at h2;split
       ·simp only[FC];omega
       cases K8 M t.name with
       | none=>simp only[FC];omega
       | some k =>
        simp only;split
        ·simp only[FC];omega
        ·simp only[FC];omega
    have:=hg l.args r M [];rw[hb1]at this;simpa using this
   rw[F9]at this;omega
  have hlv:=hb3.lenV;have hYm:(Y.map Prod.fst).length=Y.length:=F9 ..;rw[hYm]at hlv hb3;have hwr:KZ .i64 (Fq i+1)=Fq (i+1):=Lh Fh;have hwk:KZ .i64 (Fq k+1)=Fq (k+1):=Lh Fh
  have rest:∀(fr:Fr) (w3:AW) (tv3:V) (S3 So3:Fw) (s3:JS),fr.get 0=some (.ptr jb 0)→fr.get 1=some (.int .i64 (Fq k))→fr.get 6=some (.ptr lb 0)→fr.get 98=some (.slice b o rows.length c)→fr.get 99=some (.int .i64 (Fq rows.length))→fr.get 100=some (.int .i64 (Fq i))→fr.get 116=some bv→fr.get 117=some (.int .i64 (Fq Y.length))→fr.get 118=some (.int .i64 (Fq 0))→Dyn O tb mb vb sb op E.head.args.length w3 tv3 S3 So3 (M++Y) s3→Mv tb mb vb sb w2 S2 So2 w3 S3 So3→Rd Sb w3 bv 1 Y.length (LY (Y.map Prod.fst))→s3=Ot rec l M (rows.take (i+1)) s→WS tab (.code (.loop Yd) :: .endB 3 :: .endB 2 :: .code (.region [⟨some 128,none,.bin .add (.tmp 100) (.const (.int .i64 1))⟩,⟨some 100,none,.mov (.tmp 128)⟩]) :: .code (.loop Ye) :: .endB 1::st) fr w3 (FrK K):=by
   intro fr w3 tv3 S3 So3 s3 g0 g1 g6 g98 g99 g100 g116 g117 g118 d3 m3 hbr hs3;have hs3':=hs1.frm (m2.trans m3).f (hD1.dis);refine Jtf C hs3'.cj hjv hs3'.h12 d3.m hY2 hbr (fun x hx e=>by have:=(hb5 x hx).1;omega) Fh g0 g116 g117 g118 fun f4 w4 k0 k1 k6 k98 k99 k100 hM4 g4=>?_;rw[g0]at k0;rw[g1]at k1;rw[g6]at k6;rw[g98]at k98;rw[g99]at k99;rw[g100]at k100;obtain⟨d4,m4⟩:=d3.vars hM4 g4;rw[hs3]at d4;refine Lb 5 (by simp only[go_sem,K5,k100,hwr];rfl) ?_;exact ih _ _ _ Fh ⟨i+1,tv3,S3,So3,(by simp only[go_sem,K5,k0]<;>rfl),(by simp only[go_sem,K5,k1]<;>rfl),(by simp only[go_sem,K5,k6]<;>rfl),by rw[hve];exact (by simp only[go_sem,K5,k98]<;>rfl),(by simp only[go_sem,K5,k99]<;>rfl),Fb,d4,((m1.trans m2).trans m3).trans m4,by omega,rfl⟩
  cases ok with
  | false =>
   have htk':Ot rec l M (rows.take (i+1)) s=Ot rec l M (rows.take i) s:=by rw[htk];rfl
   refine Fz (by simp only[go_sem,K5,UK,hlv];rfl) ?_;exact rest _ _ tv1 S2 So2 _ (Fg f0) (Fg f1) (Fg f6) (by simp only[go_sem,K5,f98']<;>rfl) (Fg f99) (Fg f100) Fb Fb Fb d2 Mv.refl hb3.rd htk'.symm
  | true =>
   have htk':Ot rec l M (rows.take (i+1)) s=rec (M++Y) (Ot rec l M (rows.take i) s):=by rw[htk];rfl
   refine Fz (by simp only[go_sem,K5,UK,PQ,f0,f1,hwk];rfl) ?_;refine K9 Ff Fe ?_
   have hO2:∀x,(O x∨Sb x)→x<w2.next∧¬DS tb mb vb sb S2 So2 x:=by
    rintro x (hx|hx)
    ·exact⟨d2.lt x hx,d2.dis x hx⟩
    ·obtain⟨q1,q2⟩:=hb5 x hx;refine⟨q2,?_⟩;rintro (hh|hh|hh|hh|hh|hh)
     ·have:=(hD1.t.s x hh).1;omega
     ·have:=(hD1.od x hh).2.2.2.2.2;omega
     ·have:=hD1.t.a.lt;omega
     ·have:=hD1.t.m.lt;omega
     ·omega
     ·have:=hD1.n.lt;omega
   refine hrec (O:=fun x=>O x∨Sb x) ((hs1.frm m2.f hD1.dis).mono (fun _ h=> .inl h) fun x hx=>(hO2 x hx).1) (d2.mono hO2) hMb htsi (by rw[←htk'];omega) fun w3 tv3 S3 So3 d3 m3=>?_;have d3':Dyn O tb mb vb sb op E.head.args.length w3 tv3 S3 So3 (M++Y) (rec (M++Y) (Ot rec l M (rows.take i) s)):=d3.mono fun x hx=>⟨d3.lt x (.inl hx),d3.dis x (.inl hx)⟩;refine Fz (by simp only[go_sem,K5,hlv];rfl) ?_;exact rest _ _ tv3 S3 So3 _ (Fg f0) (Fg f1) (Fg f6) (by simp only[go_sem,K5,f98']<;>rfl) (Fg f99) (Fg f100) Fb Fb Fb d3' m3 (hb3.rd.frm m3.f fun x hx=>(hO2 x (.inr hx)).2) htk'.symm
 ·rintro f w1 ⟨tv1,S2,So2,hD1,m1⟩;exact h f w1 tv1 S2 So2 hD1 m1
end
section
open Go.AE Delphi Val
variable {tab:Tab}
variable {ts0 cs:List Tk}
theorem Jtw (hc:∀t∈E.head.args,t.kind≠1→Lc t∈cs):TsJ ts0 cs (IG E):=fun M s h=>TsIn.row M _ _ h hc
variable {rec:Vm→JS→JS}
theorem Jv6 (hr:TsJ ts0 cs rec)(hc:∀l∈E.body,∀t∈l.args,t.kind≠1→Lc t∈cs)(k:Nat):TsJ ts0 cs (goJ E rec k):=by
 intro M s h
 have hl:∀t∈(Lp E k).args,t.kind≠1→Lc t∈cs:=by
  unfold Lp Le;cases hb:E.body[Tp E k]? with
  | none=>intro t ht;simp[Lt.nil]at ht
  | some l=>exact hc l (FI hb)
 have h1:TsIn ts0 cs (Lf M s.ts (Lp E k).args).2:=TsIn.row M _ _ h hl;unfold goJ;split
 ·exact QT hr _ _ _ _ h1
 split
 ·split
  ·exact h1
  ·exact hr _ _ h1
 ·split
  ·exact hr _ _ h
  ·exact h
theorem Qv {E:JE}{ts0 cs:List Tk}(hh:∀t∈E.head.args,t.kind≠1→Lc t∈cs)(hb:∀l∈E.body,∀t∈l.args,t.kind≠1→Lc t∈cs):∀(n k:Nat),TsJ ts0 cs (OW E n k)
 | 0,k=>by
  intro M s h;unfold OW;split
  ·exact h
  ·exact Jtw hh M _ h
 | n+1,k=>by
  intro M s h;unfold OW;split
  ·exact h
  ·exact Jv6 (Qv hh hb n (k+1)) hb k M _ h
theorem Jpr {T:Fw}{v:V}{l:List Nat}(h:Rd T w v 1 l.length (Bw l)){i n:Nat}(hi:l[i]? = some n):∃b o c,v = .slice b o l.length c∧w.load b (o+i*1) 1=some [.int .i64 (Fq n)]:=by
 have hlt:i<l.length:=(List.getElem?_eq_some_iff.1 hi).1;rcases h.inv with⟨_,h0,_⟩|⟨b,o,c,rfl,hB⟩
 ·omega
 ·exact⟨b,o,c,rfl,by rw[KC];exact hB.cell Fh (by unfold Bw;rw[F7,hi];rfl)⟩
theorem JuV (C:Codes tab){mb k:Nat}{tv:V}{S So:Fw}{M:Vm}{s:JS}{f:Fr}{K:V→AW→Prop}(hp:JPure E a dq sets ts0 cs)(hsl:L9 [(41,Jg,none)] sty=some (sfn,none))(hs:JStat tab O w jb tb sb vb E cells op sv a dq sets sty sfn)(hD:Dyn O tb mb vb sb op E.head.args.length w tv S So M s)(hk:k<E.order.length)(hrec:JmJ tab E jb tb mb vb sb cells op sv a dq sets sty sfn ts0 cs (k+1) rec)(hmono:DV rec)(htj:TsJ ts0 cs rec)(hM:MOk M)(hts:TsIn ts0 cs s.ts)(hrl:(goJ E rec k M s).rows.length≤1000000)(f0:f.get 0=some (.ptr jb 0))(f1:f.get 1=some (.int .i64 (Fq k)))(h:∀w' tv' S' So',Dyn O tb mb vb sb op E.head.args.length w' tv' S' So' M (goJ E rec k M s)→Mv tb mb vb sb w S So w' S' So'→K (.tuple []) w'):WS tab [.code Zz] f w (FrK K):=by
 obtain⟨ov,h6,ho⟩:=hs.order;obtain⟨xb,h3,hb⟩:=hs.body;obtain⟨dp,h9,hdq⟩:=hs.delta;have hol:=hp.ol;have hbl:=hp.bl;obtain⟨i,hi⟩:∃i,E.order[k]? = some i:=⟨_,FB hk⟩;have hpl:Tp E k=i:=by unfold Tp;rw[List.getD_eq_getElem?_getD,hi];rfl
 have hib:=hp.olt i (FI hi);obtain⟨l,hl⟩:∃l,E.body[i]? = some l:=⟨_,FB hib⟩;have hlm:=FI hl;have hll:Lp E k=l:=by unfold Lp;rw[hpl];exact Tu hl
 have hla:Le E.body i=l:=Tu hl
 have hset:OZ E k=CS (if Fq i=a then dq else sets l.name) l.args.length:=by
  unfold OZ;rw[hll,hpl,hp.st i hib,hla]
 have hsrow:∀x,OZ E k=some x→x.2.length≤1000000∧x.1=l.args.length∧∀r∈x.2,r.length=x.1∧∀n∈r,n.natAbs≤100000:=by
  intro x hx;unfold OZ at hx;rw[hpl,hll]at hx;cases hq:E.sets i with
  | none=>rw[hq]at hx;cases hx
  | some y =>
   rw[hq]at hx;unfold CS at hx;simp only at hx;split at hx
   ·rename_i he;cases hx;have:=hp.rl i _ hq;exact⟨this.1,he,this.2⟩
   ·cases hx
 have hal:=hp.bal l hlm;have hbc:=hp.bc l hlm;have htl:=hts.len;have htb:=hp.tsl;have hov:=ho.lenV;obtain⟨ob,oo,oc,rfl,lo⟩:=Jpr ho hi;obtain⟨bb,bo,bc,xs,rfl,lb,hx⟩:=CJ hb hl;have hxl:=hx.one;have j6:w.load jb 6 1=some [.slice ob oo E.order.length oc]:=CB.ld hs.cj 6 1 _ h6;have j3:w.load jb 3 1=some [.slice bb bo E.body.length bc]:=CB.ld hs.cj 3 1 _ h3;obtain⟨w1,s1,c1,r1,n1⟩:=Oj w (zs:=[V.int .i64 0,V.str [],V.nilslice]) (vs:=xs) hxl.1.symm hxl.2;obtain⟨d1,m1⟩:=hD.step0 r1
 have hO1:∀x,(O x∨x=w.next)→x<w1.next∧¬DS tb mb vb sb S So x:=by
  rintro x (hx|rfl)
  ·exact⟨d1.lt x hx,d1.dis x hx⟩
  ·refine⟨by omega,?_⟩;rintro (hh|hh|hh|hh|hh|hh)
   ·have:=(hD.t.s _ hh).1;omega
   ·have:=(hD.od _ hh).2.2.2.2.2;omega
   ·have:=hD.t.a.lt;omega
   ·have:=hD.t.m.lt;omega
   ·have:=hD.m.lt;omega
   ·have:=hD.n.lt;omega
 have e1:=d1.mono hO1;have t1:=(hs.frm r1 fun _ _ h=>h).mono (O':=fun x=>O x∨x=w.next) (fun _ h=> .inl h) fun x hx=>(hO1 x hx).1;have hx1:=(hx.frm r1 fun _ _ h=>h).mono (T':=fun x=>O x∨x=w.next) fun _ h=> .inl h;have hb1:=C8 (T':=fun x=>O x∨x=w.next) (hb.frm (fun _ _ h=>h.frm r1 fun _ _ h=>h) r1 fun _ _ h=>h) fun _ h=> .inl h;have hd1:=(hdq.frm r1 fun _ _ h=>h).mono (S':=fun x=>O x∨x=w.next) (fun _ h=> .inl h) fun x hx=>(hO1 x hx).1;have hkl:¬k=E.order.length:=Fh
 have k0:w1.load w.next 0 1=some [.int .i64 (Fq l.kind)]:=by
  obtain⟨xv,rfl,_⟩:=hx;exact CB.ld c1 0 1 _ rfl
 have k3:w1.load w.next 0 3=some xs:=c1.all hxl.1;have fin:∀w' tv' S' So',Dyn (fun x=>O x∨x=w.next) tb mb vb sb op E.head.args.length w' tv' S' So' M (goJ E rec k M s)→Mv tb mb vb sb w1 S So w' S' So'→K (.tuple []) w':=fun w' tv' S' So' d m=>h w' tv' S' So' (d.mono fun x hx=>⟨d.lt x (.inl hx),d.dis x (.inl hx)⟩) (m1.trans m);refine Lb 39 (by simp only[go_sem,K5,Zz,P1,P0,f0,f1,j6,hov,hkl,hk,lo,j3,hib,lb,hxl.1,s1];rfl) ?_;by_cases hk1:l.kind=1
 ·have eg:goJ E rec k M s=Ot rec l M (Ii (OZ E k) (Lf M s.ts l.args).1) ⟨(Lf M s.ts l.args).2,s.seen,s.rows⟩:=by unfold goJ;rw[hll,if_pos hk1]
  rw[eg]at fin hrl;rw[hk1]at k0;refine Fz (by simp only[go_sem,K5,X3,PZ,k0];rfl) ?_;refine Bo ?_;refine LU 100 (by simp only[go_sem,K5,f0];rfl) ?_;refine BJ Ff Fe ?_;refine Jsg (O:=fun x=>O x∨x=w.next) (S':=fun x=>O x∨x=w.next) C t1.cj h3 t1.h5 hsl t1.h8 h9 hb1 hl hd1 (fun w' K' g hK=>t1.store _ w' g (fun _ _ h=>h) l.name K' hK) (fun x hx=>hp.w4 _ x hx) Fh fun w2 p Sp g2 hq hSp=>?_;rw[←hset]at hq;obtain⟨d2,m2⟩:=e1.step0 g2;have t2:=t1.frm g2 fun _ _ h=>h;have k3':w2.load w.next 0 3=some xs:=(c1.frm g2 fun h=>h).all hxl.1;refine LU 100 (by simp only[go_sem,K5,f0,k3'];rfl) ?_;refine BJ Ff Fe ?_;refine Jn6 (O:=fun x=>(O x∨x=w.next)∨x=vb) C d2.t d2.rowO t2.cj (.inl t2.oj) t2.h4 t2.h12 d2.m (.inr rfl) ((hx1.frm g2 fun _ _ h=>h).mono fun _ h=> .inl h) hal (fun t ht hk=>(hbc t ht hk).1) Fh fun w3 v3 tv3 S3 R3 q1 q2 q3 q4 q5=>?_;obtain⟨d3,m3⟩:=d2.tabl q2 q3 q4;have t3:=t2.frm m3.f d2.dis;have hrl3:=(Aj M s.ts l.args).1;have hq3:SetQ (fun x=>O x∨x=w.next) w3 p (OZ E k):=((hq.mono (fun x hx=>(hSp x hx).elim id id) fun x hx=>d2.lt x hx).frm m3.f d2.dis);refine LU 100 Fe ?_;refine BJ Ff Fe ?_;refine JrQ C hq3 q1 (fun x hx=>⟨(hsrow x hx).1,by rw[hrl3];exact (hsrow x hx).2.1.symm⟩) Fh fun v4 w4 rcs S4 T4 hL g4=>?_;obtain⟨d4,m4⟩:=d3.step0 g4;have hlv:lenV v4=some (Ii (OZ E k) (Lf M s.ts l.args).1).length:=hL.1.lenV;refine LU 100 (by simp only[go_sem,K5,hlv];rfl) ?_;refine O1 ⟨(show LF _ _ [(4,2)]from by simp only[go_sem,K5,LF,chk,List.reverse_cons,List.reverse_nil,O8,O6,O4,O5,List.getElem?_nil,false_or,or_true,or_false,exists_eq',FQ,Prod.mk.injEq,Bool.true_eq_false,FM,and_true,true_and,implies_true,k3,k3']),?_⟩
  have hmr:∀r∈Ii (OZ E k) (Lf M s.ts l.args).1,r.length=l.args.length∧∀n∈r,n.natAbs≤100000:=by
   intro r hr;unfold Ii at hr;cases hq:OZ E k with
   | none=>rw[hq]at hr;simp at hr
   | some x =>
    rw[hq]at hr;obtain⟨_,h2,h3⟩:=hsrow x hq;have:=h3 r (List.mem_filter.1 hr).1;exact⟨by rw[this.1,h2],this.2⟩
  have hmn:(Ii (OZ E k) (Lf M s.ts l.args).1).length≤1000000:=by
   unfold Ii;cases hq:OZ E k with
   | none=>simp
   | some x=>exact Kk (Km _ _) (hsrow x hq).1
  have hO4:∀x,((O x∨x=w.next)∨S4 x∨T4 x)→x<w4.next∧¬DS tb mb vb sb S3 So x:=by
   have new:∀x,w3.next≤x→x<w4.next→x<w4.next∧¬DS tb mb vb sb S3 So x:=by
    intro x h1 h2;refine⟨h2,?_⟩;rintro (hh|hh|hh|hh|hh|hh)
    ·have:=(d3.t.s _ hh).1;omega
    ·have:=(d3.od _ hh).2.2.2.2.2;omega
    ·have:=d3.t.a.lt;omega
    ·have:=d3.t.m.lt;omega
    ·have:=d3.m.lt;omega
    ·have:=d3.n.lt;omega
   rintro x (hx|hx|hx)
   ·exact⟨d4.lt x hx,d4.dis x hx⟩
   ·have:=hL.2.2.1 x hx;exact new x this.1 this.2.1
   ·have:=hL.2.2.2 x hx;exact new x this.1 this.2
  have d4':=d4.mono hO4;have t4:=(t3.frm g4 fun _ _ h=>h).mono (O':=fun x=>(O x∨x=w.next)∨S4 x∨T4 x) (fun _ h=> .inl h) fun x hx=>(hO4 x hx).1;have g14:=((m2.trans m3).trans m4).f;have hx4:=(hx1.frm g14 e1.dis).mono (T':=fun x=>(O x∨x=w.next)∨S4 x∨T4 x) fun _ h=> .inl h;have c4:=c1.frm g14 (e1.dis _ (.inr rfl));refine K6 1000 Fe ?_;refine JrE (O:=fun x=>(O x∨x=w.next)∨S4 x∨T4 x) C hp t4 d4' hrec hmono htj Fh hM (TsIn.row M _ _ hts fun t ht hk=>(hbc t ht hk).2) hal hmr hmn hrl hx4 c4 (.inl (.inr rfl)) hL (fun x hx=> .inr (.inl hx)) (fun x hx=> .inr (.inr hx)) (Fg f0) (Fg f1) Fb Fb Fb Fb fun f5 w5 tv5 S5 So5 d5 m5=>?_;refine K6 1000 Fe ?_;refine Su ⟨_,by simp only[go_sem,K5,Ji];rfl,?_⟩;exact fin _ _ _ _ (d5.mono fun x hx=>⟨d5.lt x (.inl hx),d5.dis x (.inl hx)⟩) (((m2.trans m3).trans m4).trans m5)
 have hkn1:¬Fq l.kind=1:=fun e=>hk1 (Int.ofNat.inj e);have hwk:KZ .i64 (Fq k+1)=Fq (k+1):=Lh Fh;by_cases hk2:l.kind=2
 ·have eg:goJ E rec k M s=if D7 (OZ E k) (Lf M s.ts l.args).1=true then⟨(Lf M s.ts l.args).2,s.seen,s.rows⟩else rec M ⟨(Lf M s.ts l.args).2,s.seen,s.rows⟩:=by unfold goJ;rw[hll,if_neg hk1,if_pos hk2]
  rw[eg]at fin hrl;rw[hk2]at k0;refine Fz (by simp only[go_sem,K5,X3,UL,PX,k0];rfl) ?_;refine Bo ?_;refine LU 100 (by simp only[go_sem,K5,f0];rfl) ?_;refine BJ Ff Fe ?_;refine Jsg (O:=fun x=>O x∨x=w.next) (S':=fun x=>O x∨x=w.next) C t1.cj h3 t1.h5 hsl t1.h8 h9 hb1 hl hd1 (fun w' K' g hK=>t1.store _ w' g (fun _ _ h=>h) l.name K' hK) (fun x hx=>hp.w4 _ x hx) Fh fun w2 p Sp g2 hq hSp=>?_;rw[←hset]at hq;obtain⟨d2,m2⟩:=e1.step0 g2;have t2:=t1.frm g2 fun _ _ h=>h;have k3':w2.load w.next 0 3=some xs:=(c1.frm g2 fun h=>h).all hxl.1;refine LU 100 (by simp only[go_sem,K5,f0,k3'];rfl) ?_;refine BJ Ff Fe ?_;refine Jn6 (O:=fun x=>(O x∨x=w.next)∨x=vb) C d2.t d2.rowO t2.cj (.inl t2.oj) t2.h4 t2.h12 d2.m (.inr rfl) ((hx1.frm g2 fun _ _ h=>h).mono fun _ h=> .inl h) hal (fun t ht hk=>(hbc t ht hk).1) Fh fun w3 v3 tv3 S3 R3 q1 q2 q3 q4 q5=>?_;obtain⟨d3,m3⟩:=d2.tabl q2 q3 q4;have t3:=t2.frm m3.f d2.dis;have hrl3:=(Aj M s.ts l.args).1;have hq3:SetQ (fun x=>O x∨x=w.next) w3 p (OZ E k):=((hq.mono (fun x hx=>(hSp x hx).elim id id) fun x hx=>d2.lt x hx).frm m3.f d2.dis);refine LU 100 Fe ?_;refine BJ Ff Fe ?_;refine JuX C hq3 q1 (fun x hx=>(hsrow x hx).1) Fh ?_;cases hh:D7 (OZ E k) (Lf M s.ts l.args).1 with
  | true =>
   rw[hh]at fin;refine LU 100 Fe ?_;refine O1 ⟨(show LF _ _ [(4,2)]from by simp only[go_sem,K5,LF,chk,List.reverse_cons,List.reverse_nil,O8,O6,O4,O5,List.getElem?_nil,false_or,or_true,or_false,exists_eq',FQ,Prod.mk.injEq,Bool.true_eq_false,FM,and_true,true_and,implies_true,k3,k3']),?_⟩;refine K6 1000 Fe ?_;refine Su ⟨_,by simp only[go_sem,K5,Ji];rfl,?_⟩;exact fin _ _ _ _ d3 (m2.trans m3)
  | false =>
   rw[hh]at fin hrl;refine LU 100 Fe ?_;refine O1 ⟨(show LF _ _ [(4,2)]from by simp only[go_sem,K5,LF,chk,List.reverse_cons,List.reverse_nil,O8,O6,O4,O5,List.getElem?_nil,false_or,or_true,or_false,exists_eq',FQ,Prod.mk.injEq,Bool.true_eq_false,FM,and_true,true_and,implies_true,k3,k3']),?_⟩;refine Fz (by simp only[go_sem,K5,PV,f0,f1,hwk];rfl) ?_;refine K9 Ff Fe ?_;refine hrec t3 d3 hM (TsIn.row M _ _ hts fun t ht hk=>(hbc t ht hk).2) hrl fun w5 tv5 S5 So5 d5 m5=>?_;refine K6 1000 Fe ?_;refine Su ⟨_,by simp only[go_sem,K5,Ji];rfl,?_⟩;exact fin _ _ _ _ d5 ((m2.trans m3).trans m5)
 ·have eg:goJ E rec k M s=if Nt l M s.ts=true then rec M s else s:=by unfold goJ;rw[hll,if_neg hk1,if_neg hk2]
  rw[eg]at fin hrl;have hkn2:¬Fq l.kind=2:=fun e=>hk2 (Int.ofNat.inj e);obtain⟨b1,b2,b3⟩:=hp.bk l hlm hk1 hk2;obtain⟨lk,ln,la⟩:=l;simp only at b1 b2 b3 hk1 hk2
  obtain⟨ta,tb',rfl⟩:∃x y,la=[x,y]:=by
   cases la with
   | nil=>simp at b3
   | cons x la =>
    cases la with
    | nil=>simp at b3
    | cons y la =>
     cases la with
     | nil=>exact⟨x,y,rfl⟩
     | cons z la=>simp at b3
  have hhl:Nt ⟨lk,ln,[ta,tb']⟩ M s.ts=(EC lk (TT M s.ts ta) (TT M s.ts tb')).1:=rfl;rw[hhl]at fin hrl;have j4:w1.load jb 4 1=some [.ptr tb 0]:=CB.ld t1.cj 4 1 _ t1.h4;have j12:w1.load jb 12 1=some [.map vb]:=CB.ld t1.cj 12 1 _ t1.h12;have k0:w1.load w.next 0 1=some [.int .i64 (Fq lk)]:=k0;refine Fz (by simp only[go_sem,K5,X3,UL,PY,k0,k3,f0,hk1,hk2,hkn1,hkn2,j4,j12];rfl) ?_;refine K9 Ff Fe ?_;refine Jti C (O:=fun x=>O x∨x=w.next) e1.t e1.m hx1 e1.lt ⟨b1,b2⟩ Fh hM fun w2 g2=>?_;obtain⟨d2,m2⟩:=e1.step0 g2;have t2:=t1.frm g2 fun _ _ h=>h;cases hh:(EC lk (TT M s.ts ta) (TT M s.ts tb')).1 with
  | false =>
   rw[hh]at fin;refine K6 1000 Fe ?_;refine Su ⟨_,by simp only[go_sem,K5,Ji];rfl,?_⟩;exact fin _ _ _ _ d2 m2
  | true =>
   rw[hh]at fin hrl;refine Fz (by simp only[go_sem,K5,PW,f0,f1,hwk];rfl) ?_;refine K9 Ff Fe ?_;refine hrec t2 d2 hM hts hrl fun w5 tv5 S5 So5 d5 m5=>?_;refine K6 1000 Fe ?_;refine Su ⟨_,by simp only[go_sem,K5,Ji];rfl,?_⟩;exact fin _ _ _ _ d5 (m2.trans m5)
theorem Jpe (C:Codes tab)(I:Ib tab)(P:SL tab){E:JE}{jb tb mb vb sb:Nat}{cells:List V}{op sv:V}{a:Int}{dq:Option (Nat×List (List Int))}{sets:List Nat→Option (Nat×List (List Int))}{sty sfn:Nat}{ts0 cs:List Tk}(hp:JPure E a dq sets ts0 cs)(hsl:L9 [(41,Jg,none)] sty=some (sfn,none)):∀(n k:Nat),k+n=E.order.length→JmJ tab E jb tb mb vb sb cells op sv a dq sets sty sfn ts0 cs k (OW E n k)
 | 0,k,hk=>by
  rename_i O S So w tv M s K;intro hs hD hM hts hrl h;refine Jno C I hp hs hD Fh hM (fun hst=>?_) fun hst f w1 f0 f1 d1 m1=>?_
  ·have e:OW E 0 k M s=s:=by unfold OW;rw[if_pos hst]
   rw[e]at h;exact h _ _ _ _ hD Mv.refl
  ·have e:OW E 0 k M s=IG E M (Ia E k M s):=by unfold OW;rw[if_neg (by rw[hst];simp)]
   rw[e]at h hrl;exact JrD C P hp (hs.frm m1.f hD.dis) d1 Fh hts hrl f0 f1 fun w' tv' S' So' d m=>h _ _ _ _ d (m1.trans m)
 | n+1,k,hk=>by
  rename_i O S So w tv M s K;intro hs hD hM hts hrl h;refine Jno C I hp hs hD Fh hM (fun hst=>?_) fun hst f w1 f0 f1 d1 m1=>?_
  ·have e:OW E (n+1) k M s=s:=by unfold OW;rw[if_pos hst]
   rw[e]at h;exact h _ _ _ _ hD Mv.refl
  ·have e:OW E (n+1) k M s=goJ E (OW E n (k+1)) k M (Ia E k M s):=by
    show (if I1 E k M s=true then s else _)=_;rw[if_neg (by rw[hst];simp)]
   rw[e]at h hrl;exact JuV C hp hsl (hs.frm m1.f hD.dis) d1 Fh (Jpe C I P hp hsl n (k+1) Fh) (JkP E n (k+1)) (Qv (fun t ht hk=>(hp.hc t ht hk).2) (fun l hl t ht hk=>(hp.bc l hl t ht hk).2) n (k+1)) hM hts hrl f0 f1 fun w' tv' S' So' d m=>h _ _ _ _ d (m1.trans m)
end
section
open Go.AE Delphi Val
variable {tab:Tab}
def EF (head:Lt) (body:List Lt) (order:List Nat) (k:Nat):List Tm:=head.args++(order.drop k).flatMap fun i=>(Le body i).args
def Br (head:Lt) (body:List Lt) (order:List Nat) (k:Nat):Fx:=Ol (EF head body order k)
def BtE (S:Fw) (w:AW) (v:V) (n:Nat) (cs:List V):Prop:=Bt S w v 3 n cs∨(n=0∧cs=[]∧∃b,v = .slice b 0 0 (.known 0)∧S b∧CB w b [])
variable {S:Fw} {v:V} {n:Nat} {cs:List V}
theorem BtE.frm {T:Fw}{w':AW}(h:BtE S w v n cs)(hf:Frm T w w')(hd:∀x,S x→¬T x):BtE S w' v n cs:=by
 rcases h with h|⟨h1,h2,b,h3,h4,h5⟩
 ·exact .inl (h.frm hf hd)
 ·exact .inr ⟨h1,h2,b,h3,h4,h5.frm hf (hd b h4)⟩
theorem BtE.rd (h:BtE S w v n cs):Rd S w v 3 n cs:=by
 rcases h with h|⟨rfl,rfl,b,rfl,h4,h5⟩
 ·exact h.rd
 ·exact .blk h4 h5.lt h5.get (.inl rfl) Fj Fj (FH 0)
variable {k:Nat}
theorem BtE.addN {news:List V}(h:BtE S w v n cs)(hS:∀x,S x→x<w.next)(hl:news.length=k*3)(h1:Lv news=true)(hb:n+k≤100000): ∃v' w' S',w.appendV 3 32 v k news=some (v',w')∧BtE S' w' v' (n+k) (cs++news)∧Frm S w w'∧TV S S' w w':=by
 rcases h with h|⟨rfl,rfl,b,rfl,h4,h5⟩
 ·obtain⟨v',w',S',q1,q2,q3,q4⟩:=h.addN (k:=k) (news:=news) (bytes:=32) Fh hl h1 Fh Fh;exact⟨v',w',S',q1,.inl q2,q3,q4⟩
 ·cases k with
  | zero =>
   have:news=[]:=List.length_eq_zero_iff.1 (by simpa using hl);subst this;refine⟨_,w,S,rfl,.inr ⟨rfl,rfl,b,rfl,h4,h5⟩,Frm.refl _,fun x hx=>⟨hS x hx,.inl hx⟩⟩
  | succ k =>
   refine⟨.slice w.next 0 (0+(k+1)) (.upTo 3),w.fresh ([]++news),fun x=>x=w.next,?_,.inl (.blk rfl (FW _) (OQ w ([]++news)).get (by rw[List.nil_append,hl,FV]) Fh Fh (.inl rfl)),LZ _ _,?_⟩
   ·have c1:(0+(k+1))*32≤70368744177664∧0+(k+1)≤70368744177664∧0≤0:=⟨by omega,by omega,FH _⟩;have c2:¬(0+(k+1)≤0):=Fh;simp only[AW.appendV,if_pos c1,if_neg c2,AW.elems]
   ·rintro x rfl;exact⟨FW _,.inr (FH _)⟩
theorem JuF (h:Bt S w v 1 n cs)(hk:k≤n): (v = .nilslice∧n=0)∨∃b,v = .slice b 0 n (.upTo 1)∧(∀w':AW,w'.sliceW 1 b 0 n (.upTo 1) (some k) none none=some (.slice b (0+k*1) (n-k) (.upTo 1)))∧Rd S w (.slice b (0+k*1) (n-k) (.upTo 1)) 1 (n-k) (cs.drop k):=by
 cases h with
 | nil=>exact .inl ⟨rfl,rfl⟩
 | blk hS hb hx hl he hn hs =>
  rename_i b sh;refine .inr ⟨b,rfl,fun w'=>?_,?_⟩
  ·have c:n≤n∧k≤n∧True:=⟨FH _,hk,trivial⟩;simp only[AW.sliceW,TS,Option.getD_none,Option.getD_some,if_pos c]
  ·refine .blk hS hb hx ?_ Fh ?_ (.inl rfl)
   ·rcases hs with rfl|rfl|⟨f,F,h1,h2,h3,h4,_,_,h7⟩
    ·exact .inl rfl
    ·exact .inr (.inl rfl)
    ·exact .inr (.inr (.inr ⟨f,F,h1,h2,h3,h4,h7⟩))
   ·rw[KC,KC,FV,FX (by rw[Ki];omega)]
structure NdF (f:Fr) (jb nb N i:Nat):Prop where
 f0:f.get 0=some (.ptr jb 0)
 f20:f.get 20=some (.slice nb 0 N (.known N))
 f21:f.get 21=some (.int .i64 (Fq N))
 f22:f.get 22=some (.int .i64 (Fq i))
theorem Jvw (a b:List Tm):L8 (a++b)=L8 a++L8 b:=by simp[L8]
theorem Joh (l:List Tm):(L8 l).length=l.length*3:=by rw[Jvv,Jt6,F9]
theorem Joi (l:List Tm):Lv (L8 l)=true:=by
 rw[Ah];intro x hx;simp only[L8,List.mem_flatMap]at hx;obtain⟨t,_,ht⟩:=hx;simp only[tmC,FJ,F3,or_false]at ht;rcases ht with rfl|rfl|rfl<;>rfl
theorem JoK (C:Codes tab){nb N i:Nat}{R:Fw}{body:List Lt}{order:List Nat}{xb ov tv:V}{f:Fr}{st:List SI}{Q:Fr→AW→Prop}{hd:List Tm}(hj:CB w jb cells)(h3:Lr 1 (cells.drop 3)=some [xb])(hb:RdL (LtC O) O w xb 3 body)(hO:∀x,O x→x<w.next∧¬R x)(hjR:¬R jb)(hR:∀x,R x→x<w.next)(hnbR:¬R nb)(hord:Rd O w ov 1 (order.length-k) (Bw (order.drop k)))(holt:∀i∈order,i<body.length)(hal:∀l∈body,l.args.length≤10)(hol:order.length≤100)(hk:k≤order.length)(hbl:body.length≤100)(hF:NdF f jb nb N i)(f2:f.get 2=some (.int .i64 (Fq k)))(f3:f.get 3=some tv)(f39:f.get 39=some ov)(f40:f.get 40=some (.int .i64 (Fq (order.length-k))))(f41:f.get 41=some (.int .i64 (Fq 0)))(ht:BtE R w tv hd.length (L8 hd))(hhd:hd.length≤10)(h:∀f' w' tv' R',NdF f' jb nb N i→f'.get 2=some (.int .i64 (Fq k))→f'.get 3=some tv'→BtE R' w' tv' (hd++(order.drop k).flatMap fun i=>(Le body i).args).length (L8 (hd++(order.drop k).flatMap fun i=>(Le body i).args))→Frm R w w'→(∀x,R' x→x<w'.next∧(R x∨w.next≤x))→WS tab st f' w' Q): WS tab (.code (.loop Ya) :: .endB 2::st) f w Q:=by
 refine LK (fun n f w1=>∃m tv1 R1 l1,l1=hd++((order.drop k).take m).flatMap (fun i=>(Le body i).args)∧NdF f jb nb N i∧f.get 2=some (.int .i64 (Fq k))∧f.get 3=some tv1∧f.get 39=some ov∧f.get 40=some (.int .i64 (Fq (order.length-k)))∧f.get 41=some (.int .i64 (Fq m))∧BtE R1 w1 tv1 l1.length (L8 l1)∧l1.length≤10+10*m∧Frm R w w1∧(∀x,R1 x→x<w1.next∧(R x∨w.next≤x))∧m≤order.length-k∧n=order.length-k-m)
  (fun f w1=>∃tv1 R1,NdF f jb nb N i∧f.get 2=some (.int .i64 (Fq k))∧f.get 3=some tv1∧BtE R1 w1 tv1 (hd++(order.drop k).flatMap fun i=>(Le body i).args).length (L8 (hd++(order.drop k).flatMap fun i=>(Le body i).args))∧Frm R w w1∧(∀x,R1 x→x<w1.next∧(R x∨w.next≤x))) ?_ ?_ (order.length-k)
  ⟨0,tv,R,hd,by simp,hF,f2,f3,f39,f40,f41,ht,by omega,Frm.refl _,fun x hx=>⟨hR x hx,.inl hx⟩,Nat.zero_le _,rfl⟩
 ·rintro n f w1 ⟨m,tv1,R1,l1,hl1,⟨g0,g20,g21,g22⟩,g2,g3,g39,g40,g41,hB,hll,g,hR1,hm,rfl⟩ ih out;have hdl:(order.drop k).length=order.length-k:=Ki ..;by_cases hlt:m<order.length-k
  case neg =>
   obtain rfl:m=order.length-k:=Fh;rw[←hdl,List.take_length]at hl1;refine Lb 1000 (by simp only[go_sem,Ya,g40,g41,hlt];rfl) ?_;refine out _ _ _ ⟨tv1,R1,⟨(Fg g0),(Fg g20),(Fg g21),(Fg g22)⟩,(Fg g2),(Fg g3),?_,g,hR1⟩ rfl;rw[←hl1];exact hB
  obtain⟨j,hj'⟩:∃j,(order.drop k)[m]? = some j:=⟨_,FB Fh⟩;have hjb:=holt j (List.mem_of_mem_drop (FI hj'));obtain⟨l,hl⟩:∃l,body[j]? = some l:=⟨_,FB hjb⟩;have hla:Le body j=l:=Tu hl;have hal':=hal l (FI hl);have hordw:=hord.frm g fun x hx=>(hO x hx).2;have hordw:Rd O w1 ov 1 (order.drop k).length (Bw (order.drop k)):=by rw[hdl];exact hordw
  obtain⟨ob,oo,oc,rfl,lo⟩:=Jpr hordw hj';have hbw:RdL (LtC O) O w1 xb 3 body:=hb.frm (fun _ _ h=>h.frm g fun x hx=>(hO x hx).2) g fun x hx=>(hO x hx).2;obtain⟨bb,bo,bc,xs,rfl,lb,hx⟩:=CJ hbw hl;obtain⟨xv,rfl,hx⟩:=hx;have j3:w1.load jb 3 1=some [.slice bb bo body.length bc]:=CB.ld (hj.frm g hjR) 3 1 _ h3
  have lb2:w1.load bb (bo+j*3+2) 1=some [xv]:=by
   rcases hbw.inv (fun a xs h=>h.one.1)with⟨h0,_⟩|⟨b2,o2,c2,e2,_,_,_,hc⟩
   ·cases h0
   ·cases e2;obtain⟨ys,hy,hld⟩:=hc j l hl;have h30:=hld 0 3 Fh;rw[KF]at h30;rw[lb]at h30;have h21:=hld 2 1 Fh
    have e:ys=[V.int .i64 (Fq l.kind),V.str l.name,xv]:=by
     have h30:=FY h30;rw[FZ,FX (Nat.le_of_eq hy.one.1)]at h30;exact h30.symm
    rw[e]at h21;exact h21
  have hlj:j<body.length:=hjb;have hel:=hx.elems;obtain⟨v',w',R',q1,q2,q3,q4⟩:=hB.addN (k:=l.args.length) (news:=L8 l.args) (fun x hx=>(hR1 x hx).1) (Joh _) (Joi _) Fh;have hwr:KZ .i64 (Fq m+1)=Fq (m+1):=Lh Fh;have e9:(order.drop k).length=order.length-k:=hdl;rw[e9]at g39;refine Fz (by simp only[go_sem,K5,Ya,PL,PK,g0,g3,g39,g40,g41,hlt,lo,j3,hlj,lb2,hel,q1,hwr];rfl) ?_;refine ih _ _ _ Fh ⟨m+1,v',R',l1++l.args,?_,⟨(Fg g0),(Fg g20),(Fg g21),(Fg g22)⟩,(Fg g2),Fb,by rw[e9];exact (Fg g39),(Fg g40),Fb,?_,by rw[FE];omega,?_,?_,by omega,rfl⟩
  ·rw[O7 hj',List.flatMap_append,hl1,List.flatMap_singleton,hla,F6]
  ·rw[FE,Jvw];exact q2
  ·exact g.trans q3 (fun _ _ h=>h) fun x hx h=>by rcases (hR1 x h).2 with h|h;exact h;omega
  ·intro x hx;refine⟨(q4 x hx).1,?_⟩;have:=g.next;rcases (q4 x hx).2 with h1|h1
   ·exact (hR1 x h1).2
   ·right;omega
 ·rintro f w1 ⟨tv1,R1,hF,g2,g3,hB,g,hR1⟩;exact h f w1 tv1 R1 hF g2 g3 hB g hR1
end
section
open Go.AE Delphi Val
variable {tab:Tab}
theorem Jvl (n:Nat):(List.replicate n [V.nilslice]).flatten=List.replicate n V.nilslice:=by
 induction n with
 | zero=>rfl
 | succ n ih=>rw[List.replicate_succ,List.flatten_cons,ih,List.replicate_succ];rfl
variable {body:List Lt} {order:List Nat}
theorem Jm0 {head:Lt}{k:Nat}(hal:∀l∈body,l.args.length≤10)(hhl:head.args.length≤10)(hol:order.length≤8):(EF head body order k).length≤90∧(Br head body order k).length≤90:=by
 have h1:(EF head body order k).length≤90:=by
  unfold EF;rw[FE]
  have:∀(l:List Nat),(l.flatMap fun i=>(Le body i).args).length≤10*l.length:=by
   intro l;induction l with
   | nil=>simp
   | cons a l ih =>
    rw[Kz,FE,FC]
    have:(Le body a).args.length≤10:=by
     unfold Le;cases hb:body[a]? with
     | none=>simp[Lt.nil]
     | some l=>exact hal l (FI hb)
    omega
  have h2:=this (order.drop k);have h3:(order.drop k).length≤8:=by rw[Ki];omega
  omega
 exact⟨h1,Kk (A7 _) h1⟩
theorem JtF (C:Codes tab){head:Lt}{hv xb ov:V}{K:V→AW→Prop}(hj:CB w jb cells)(hcl:cells.length=15)(h2:Lr 1 (cells.drop 2)=some [hv])(h3:Lr 1 (cells.drop 3)=some [xb])(h6:Lr 1 (cells.drop 6)=some [ov])(hh:Rd O w hv 3 head.args.length (L8 head.args))(hb:RdL (LtC O) O w xb 3 body)(ho:Bt O w ov 1 order.length (Bw order))(hO:∀x,O x→x<w.next∧x≠jb)(holt:∀i∈order,i<body.length)(hal:∀l∈body,l.args.length≤10)(hhl:head.args.length≤10)(hol:order.length≤8)(hbl:body.length≤100)(h:∀w' nv ncs R,CB w' jb (cells.set 10 nv)→nv.one=true→Rd R w' nv 1 (order.length+1) ncs→(∀k,k≤order.length→∃sv,ncs[k]? = some sv∧Rd R w' sv 1 (Br head body order k).length (LY (Br head body order k)))→Frm (fun x=>x=jb) w w'→(∀x,R x→w.next≤x∧x<w'.next)→K (.tuple []) w'): WF tab GF [.ptr jb 0] w K:=by
 refine Ld C.X2 rfl ?_;have j6:w.load jb 6 1=some [ov]:=CB.ld hj 6 1 _ h6;have hov:=ho.lenV;have hwr:KZ .i64 (Fq order.length+1)=Fq (order.length+1):=Lh Fh;obtain⟨w1,e1,c1,r1,m1⟩:=Oe w (List.replicate (order.length+1) V.nilslice);have hc1:order.length+1≤70368744177664:=Fh;have hc2:(order.length+1)*24≤70368744177664:=Fh;have hnb:jb≠w.next:=by have:=hj.lt;omega
 have hj1:=hj.frm r1 fun h=>h;have s1:w1.store jb 10 [.slice w.next 0 (order.length+1) (.known (order.length+1))]=some (w1.put jb (cells.set 10 (.slice w.next 0 (order.length+1) (.known (order.length+1))))):=hj1.set Fh rfl;have g2:Frm (fun x=>x=jb) w1 (w1.put jb (cells.set 10 (.slice w.next 0 (order.length+1) (.known (order.length+1))))):=LW;have c2:=Oc (l:=cells.set 10 (.slice w.next 0 (order.length+1) (.known (order.length+1)))) hj1.lt;have c1:=c1.frm g2 fun e=>hnb e.symm;obtain⟨w2,e2⟩:∃w2,w2=w1.put jb (cells.set 10 (.slice w.next 0 (order.length+1) (.known (order.length+1)))):=⟨_,rfl⟩;rw[←e2]at s1 g2 c2 c1;have f02:Frm (fun x=>x=jb) w w2:=r1.no.tr g2;have hn2:w2.next=w.next+1:=by rw[e2,JnZ];exact m1
 obtain⟨cells',hc'⟩:∃c,c=cells.set 10 (.slice w.next 0 (order.length+1) (.known (order.length+1))):=⟨_,rfl⟩;rw[←hc']at c2;have hlen':cells'.length=15:=by rw[hc',Kn];exact hcl
 have keep:∀i,i≠10→i<15→Lr 1 (cells'.drop i)=Lr 1 (cells.drop i):=by
  intro i hi hl
  have e:∀(l:List V) (i:Nat),i<l.length→Lr 1 (l.drop i)=(l[i]?).map fun x=>[x]:=by
   intro l i h;rw[FL h,FB h];rfl
  rw[e _ _ Fh,e _ _ Fh,hc',List.getElem?_set_ne Fh]
 have q2:Lr 1 (cells'.drop 2)=some [hv]:=by rw[keep 2 Fh Fh];exact h2
 have q3:Lr 1 (cells'.drop 3)=some [xb]:=by rw[keep 3 Fh Fh];exact h3
 have q6:Lr 1 (cells'.drop 6)=some [ov]:=by rw[keep 6 Fh Fh];exact h6
 have q10:Lr 1 (cells'.drop 10)=some [.slice w.next 0 (order.length+1) (.known (order.length+1))]:=by
  rw[FL Fh];have:cells'[10]? = some (.slice w.next 0 (order.length+1) (.known (order.length+1))):=by rw[hc',List.getElem?_set_self Fh]
  rw[FB Fh]at this;rw[FY this];rfl
 have j10:w2.load jb 10 1=some [.slice w.next 0 (order.length+1) (.known (order.length+1))]:=CB.ld c2 10 1 _ q10;have hrep:=Jvl (order.length+1);refine Fz (by simp only[go_sem,K5,Yc,PN,j6,hov,hwr,hc1,hc2,FH,hrep,e1,s1,j10,FC,FD];rfl) ?_
 refine LK (fun n f w3=>∃i ncs,NdF f jb w.next (order.length+1) i∧Frm (fun x=>x=w.next) w2 w3∧CB w3 w.next ncs∧ncs.length=order.length+1∧(∀k,k<i→∃sv,ncs[k]? = some sv∧Rd (fun x=>w2.next≤x∧x<w3.next) w3 sv 1 (Br head body order k).length (LY (Br head body order k)))∧i≤order.length+1∧n=order.length+1-i)
  (fun f w3=>∃ncs,Frm (fun x=>x=w.next) w2 w3∧CB w3 w.next ncs∧ncs.length=order.length+1∧(∀k,k<order.length+1→∃sv,ncs[k]? = some sv∧Rd (fun x=>w2.next≤x∧x<w3.next) w3 sv 1 (Br head body order k).length (LY (Br head body order k)))) ?_ ?_ (order.length+1)
  ⟨0,_,⟨Fb,Fb,Fb,Fb⟩,Frm.refl _,c1,List.length_replicate ..,fun k hk=>by omega,Nat.zero_le _,rfl⟩
 ·rintro n f w3 ⟨i,ncs,⟨f0,f20,f21,f22⟩,g3,cn,hnl,hns,hi,rfl⟩ ih out;have hn3:=g3.next;by_cases hil:i<order.length+1
  case neg =>
   obtain rfl:i=order.length+1:=Fh;refine Lb 1000 (by simp only[go_sem,Yb,X1,f21,f22,hil];rfl) ?_;exact out _ _ _ ⟨ncs,g3,cn,hnl,hns⟩ rfl
  have hOw:∀x,O x→¬x=w.next:=fun x hx e=>by have:=(hO x hx).1;omega
  have hOj:∀x,O x→¬x=jb:=fun x hx=>(hO x hx).2;have g03:Frm (fun x=>x=jb∨x=w.next) w w3:=f02.trans g3 (fun _ _ h=> .inl h) fun _ _ h=> .inr h;have hO3:∀x,O x→¬(x=jb∨x=w.next):=fun x hx h=>h.elim (hOj x hx) (hOw x hx);have cj3:CB w3 jb cells':=c2.frm g3 hnb;have j2:w3.load jb 2 1=some [hv]:=CB.ld cj3 2 1 _ q2;have hh3:=hh.frm g03 hO3;obtain⟨w4,e4,c4,r4,m4⟩:=Oe w3 ([]:List V);have hE0:BtE (fun x=>x=w3.next) w4 (.slice w3.next 0 0 (.known 0)) 0 []:=.inr ⟨rfl,rfl,_,rfl,rfl,c4⟩;obtain⟨v5,w5,R5,a1,a2,a3,a4⟩:=hE0.addN (k:=head.args.length) (news:=L8 head.args) (fun x hx=>by omega) (Joh _) (Joi _) Fh;rw[FV,List.nil_append]at a2;have hel4:=(hh3.frm r4 fun _ _ h=>h).elems;have j2':w4.load jb 2 1=some [hv]:=CB.ld (cj3.frm r4 fun h=>h) 2 1 _ q2;have g35:Frm (fun _=>False) w3 w5:=r4.trans a3 (fun _ _ h=>h) fun x hx h=>by omega
  have hn5:=g35.next;have cj5:=cj3.frm g35 fun h=>h;have j6':w5.load jb 6 1=some [ov]:=CB.ld cj5 6 1 _ q6;have ho5:Bt O w5 ov 1 order.length (Bw order):=(ho.frm g03 hO3).frm g35 fun _ _ h=>h;have hb5:RdL (LtC O) O w5 xb 3 body:=(hb.frm (fun _ _ h=>h.frm g03 hO3) g03 hO3).frm (fun _ _ h=>h.frm g35 fun _ _ h=>h) g35 fun _ _ h=>h;have hR5:∀x,R5 x→w3.next≤x∧x<w5.next:=fun x hx=>⟨by rcases (a4 x hx).2 with h|h<;>omega,(a4 x hx).1⟩;have hjl:=hj.lt
  have rest:∀(fr:Fr) (ov':V),NdF fr jb w.next (order.length+1) i→fr.get 2=some (.int .i64 (Fq i))→fr.get 3=some v5→fr.get 39=some ov'→fr.get 40=some (.int .i64 (Fq (order.length-i)))→fr.get 41=some (.int .i64 (Fq 0))→Rd O w5 ov' 1 (order.length-i) (Bw (order.drop i))→WS tab (.code (.loop Ya) :: .endB 2 :: .code UG :: .endB 1 :: .code (.region [⟨some 65,none,.bin .add (.tmp 22) (.const (.int .i64 1))⟩,⟨some 22,none,.mov (.tmp 65)⟩]) :: .code (.loop Yb) :: .endB 0::[]) fr w5 (fun fr' aw'=>∃vs,Ox fr' aw' Yc.results=some vs∧K (Oy vs) aw'):=by
   intro fr ov' hF h2' h3' h39 h40 h41 hro;refine JoK (R:=R5) (O:=O) (k:=i) (nb:=w.next) (xb:=xb) (body:=body) (cells:=cells') C cj5 q3 hb5 (fun x hx=>⟨by have:=(hO x hx).1;omega,fun hh=>by have:=(hR5 x hh).1;have:=(hO x hx).1;omega⟩) (fun hh=>by have:=(hR5 _ hh).1;omega) (fun x hx=>(hR5 x hx).2) (fun hh=>by have:=(hR5 _ hh).1;omega) hro holt hal Fh Fh hbl hF h2' h3' h39 h40 h41 a2 hhl (fun f6 w6 v6 R6 hF6 k2 k3 b1 b2 b3=>?_);obtain⟨k0,k20,k21,k22⟩:=hF6;have hn6:=b2.next;have g36:Frm (fun _=>False) w3 w6:=g35.trans b2 (fun _ _ h=>h) fun x hx h=>by have:=(hR5 x h).1;omega
   have cj6:=cj3.frm g36 fun h=>h;have k10:w6.load jb 10 1=some [.slice w.next 0 (order.length+1) (.known (order.length+1))]:=CB.ld cj6 10 1 _ q10;have hbd:=Jm0 (head:=head) (body:=body) (order:=order) (k:=i) hal hhl hol;have hbd1:(head.args++(order.drop i).flatMap fun i=>(Le body i).args).length≤90:=hbd.1;refine Fz (by simp only[go_sem,K5,UG];rfl) ?_;refine Bo ?_;refine LU 100 (by simp only[go_sem,K5,k0,k2,k3,k10];rfl) ?_;refine BJ Ff Fe ?_;refine Ey C b1.rd Fh fun v7 w7 S7 u1 u2 u3=>?_;have g37:=g36.tr u2;have cn7:=cn.frm g37 fun h=>h;have k10':w7.load jb 10 1=some [.slice w.next 0 (order.length+1) (.known (order.length+1))]:=CB.ld (cj6.frm u2 fun h=>h) 10 1 _ q10;have st:=cn7.set (i:=i) (v:=v7) Fh u1.one.1;have st:w7.store w.next (0+i*1) [v7]=some (w7.put w.next (ncs.set i v7)):=by rw[FV,KC];exact st
   have g8:Frm (fun x=>x=w.next) w7 (w7.put w.next (ncs.set i v7)):=LW;have c8:=Oc (l:=ncs.set i v7) cn7.lt;have hwi:KZ .i64 (Fq i+1)=Fq (i+1):=Lh Fh;have hn8:(w7.put w.next (ncs.set i v7)).next=w7.next:=JnZ;have hvc:=u1.one.2;refine LU 100 (by simp only[go_sem,K5,k0,k2,k20,hil,st,hvc];rfl) ?_;refine O1 ⟨(show LF _ _ [(3,6)]from by simp only[go_sem,K5,LF,chk,List.reverse_cons,List.reverse_nil,O8,O6,O4,O5,List.getElem?_nil,false_or,or_true,or_false,exists_eq',FQ,Prod.mk.injEq,Bool.true_eq_false,FM,and_true,true_and,implies_true,k10,k10']),?_⟩;obtain⟨w8,e8⟩:∃w8,w8=w7.put w.next (ncs.set i v7):=⟨_,rfl⟩;rw[←e8]at g8 c8 hn8 ⊢;refine Fz (by simp only[go_sem,K5,k22,hwi];rfl) ?_;have hn7:=g37.next;refine ih _ _ _ Fh ⟨i+1,ncs.set i v7,⟨(by simp only[go_sem,K5,k0]<;>rfl),(by simp only[go_sem,K5,k20]<;>rfl),(by simp only[go_sem,K5,k21]<;>rfl),Fb⟩,(g3.tr g37.no).tr g8,c8,by rw[Kn];exact hnl,fun k hk=>?_,by omega,rfl⟩;by_cases hki:k=i
   ·subst hki;refine⟨v7,List.getElem?_set_self Fh,?_⟩;have e9:Br head body order k=Ol (head.args++(order.drop k).flatMap fun i=>(Le body i).args):=rfl;rw[e9];refine (u1.rd.frm g8 fun x hx h=>by have:=(u3 x hx).1;omega).mono fun x hx=>?_;have:=u3 x hx;exact⟨by omega,by omega⟩
   ·obtain⟨sv,hsv,hr⟩:=hns k Fh;refine⟨sv,by rw[List.getElem?_set_ne Fh];exact hsv,?_⟩;exact ((hr.frm g37 fun _ _ h=>h).frm g8 fun x hx h=>by omega).mono fun x hx=>⟨hx.1,by omega⟩
  rcases JuF ho5 (k:=i) Fh with⟨rfl,hn0⟩|⟨ob,rfl,hsl,hrd⟩
  ·obtain rfl:i=0:=Fh;have hod:order.length-0=0:=Fh;have hor:order=[]:=List.length_eq_zero_iff.1 hn0;have hlo:lenV V.nilslice=some 0:=rfl;refine Fz (by simp only[go_sem,K5,Yb,X1,UI,UH,f0,f21,f22,hil,Lg,Lj,e4,j2',hel4,a1,j6',hlo];rfl) ?_;refine rest _ .nilslice ⟨(Fg f0),(Fg f20),(Fg f21),(Fg f22)⟩ Fb Fb Fb (by rw[hod];exact Fb) Fb ?_;rw[hod,hor];exact .nil
  ·have hnd:Bw (order.drop i)=(Bw order).drop i:=by unfold Bw;rw[List.map_drop]
   refine Fz (by simp only[go_sem,K5,Yb,X1,UI,UH,f0,f21,f22,hil,Lg,Lj,e4,j2',hel4,a1,j6',hsl];rfl) ?_;refine rest _ _ ⟨(Fg f0),(Fg f20),(Fg f21),(Fg f22)⟩ Fb Fb Fb Fb Fb ?_;rw[hnd];exact hrd
 ·rintro f w3 ⟨ncs,g3,cn,hnl,hns⟩;refine K6 1000 Fe ?_;refine Su ⟨_,by simp only[go_sem,K5,Yc];rfl,?_⟩;have hn3:=g3.next;have hnx:w.next<w3.next:=Fh;refine h w3 (.slice w.next 0 (order.length+1) (.known (order.length+1))) ncs (fun x=>w.next≤x∧x<w3.next) (by rw[←hc'];exact c2.frm g3 hnb) rfl ?_ ?_ (f02.trans g3 (fun _ _ h=>h) fun x hx h=>by omega) fun x hx=>hx
  ·exact .blk ⟨FH _,hnx⟩ cn.lt cn.get (.inl rfl) Fh (by rw[FZ,FX Fh]) (FH _)
  ·intro k hk;obtain⟨sv,h4,h5⟩:=hns k Fh;exact⟨sv,h4,h5.mono fun x hx=>⟨by omega,hx.2⟩⟩
end
section
open Go.AE Delphi
variable {tab:Tab}
variable {cs new:List V} {i:Nat}
theorem Jvd {k:Nat}(hl:new.length=k)(hi:i+k≤cs.length):over cs i new=some (cs.take i++new++cs.drop (i+k)):=by
 have h:=CZ (cs.take i) ((cs.drop i).take k) (cs.drop (i+k)) new (by rw[FU,Ki];omega)
 have e:cs.take i++(cs.drop i).take k++cs.drop (i+k)=cs:=by
  rw[F6];have:(cs.drop i).take k++cs.drop (i+k)=cs.drop i:=by rw[←List.drop_drop];exact List.take_append_drop k (cs.drop i)
  rw[this,List.take_append_drop]
 rw[e,FU,KD Fh]at h;exact h
variable {S:Fw} {v:V}
theorem JvW {esz n:Nat}(h:Bt S w v esz n cs)(hi:i<n)(hl:new.length=esz)(h1:Lv new=true): ∃b w',v = .slice b 0 n (.upTo esz)∧w.store b (i*esz) new=some w'∧Bt S w' v esz n (cs.take (i*esz)++new++cs.drop (i*esz+esz))∧Frm S w w'∧w'.next=w.next:=by
 cases h with
 | nil=>omega
 | @blk b _ _ _ sh hS hb hx hlen he hn hs =>
  have hle:i*esz+esz≤cs.length:=by rw[hlen];have:=Nat.mul_le_mul_right esz (show i+1≤n by omega);rw[Nat.add_mul]at this;omega
  have ho:=Jvd (cs:=cs) (i:=i*esz) hl hle;have fr:Frm S w (w.turn b (.cells (cs.take (i*esz)++new++cs.drop (i*esz+esz)) sh)):=IB hS hs;refine⟨b,_,rfl,Em hx hs h1 ho,.blk (sh:=sh) hS hb T.get_put_same ?_ he hn (Joj hb hs),fr,rfl⟩;simp only[FE,FU,Ki];rw[hl];omega
def kyC (k:Ky):List V:=[.int .i64 (Fq k.2.2),.bool k.1,.int .i64 (Fq k.2.1)]
def BH (ks:List Ky):List V:=(ks.map kyC).flatten
theorem Mx (a b:List Ky):BH (a++b)=BH a++BH b:=by simp[BH]
theorem QP:∀ks:List Ky,(BH ks).length=ks.length*3
 | []=>rfl
 | k::ks=>by
  have:BH (k::ks)=kyC k++BH ks:=rfl;rw[this,FE,QP ks,FC];simp[kyC];omega
variable {ks:List Ky}
theorem Jtr (hi:i<ks.length)(k:Ky):(BH ks).take (i*3)++kyC k++(BH ks).drop (i*3+3)=BH (ks.set i k):=by
 have e0:ks=ks.take i++(ks[i]::ks.drop (i+1)):=by
  rw[←FL hi,List.take_append_drop]
 have e1:BH ks=BH (ks.take i)++(kyC ks[i]++BH (ks.drop (i+1))):=by
  conv=>lhs;rw[e0]
  rw[Mx];rfl
 have l1:(BH (ks.take i)).length=i*3:=by rw[QP,FU,KD Fh]
 have l2:(kyC ks[i]).length=3:=rfl
 have e2:ks.set i k=ks.take i++k::ks.drop (i+1):=by
  rw[List.set_eq_take_append_cons_drop,if_pos hi]
 rw[e1,e2,Mx];have:BH (k::ks.drop (i+1))=kyC k++BH (ks.drop (i+1)):=rfl;rw[this,List.take_append_of_le_length Fh,FX Fh,F6]
 congr 2
 rw[←l1,List.drop_append,List.drop_eq_nil_of_le Fh,List.nil_append,Nat.add_sub_cancel_left,←l2,List.drop_left]
abbrev QB (S:Fw) (w:AW) (v:V) (ks:List Ky):Prop:=Bt S w v 3 ks.length (BH ks)
theorem Jr4 (h:QB S w v ks)(hi:i<ks.length)(k:Ky): ∃b w',v = .slice b 0 ks.length (.upTo 3)∧w.store b (i*3) (kyC k)=some w'∧QB S w' v (ks.set i k)∧Frm S w w'∧w'.next=w.next:=by
 obtain⟨b,w',h1,h2,h3,h4,h5⟩:=JvW h hi (new:=kyC k) rfl rfl;rw[Jtr hi]at h3;exact⟨b,w',h1,h2,by show Bt S w' v 3 (ks.set i k).length _;rw[Kn];exact h3,h4,h5⟩
theorem IZ (h:QB S w v ks){k:Ky}(hk:ks[i]? = some k):∃b,v = .slice b 0 ks.length (.upTo 3)∧S b∧b<w.next∧w.load b (i*3) 3=some (kyC k):=by
 have hi:i<ks.length:=(List.getElem?_eq_some_iff.1 hk).1;rcases h.inv with⟨_,h0,_⟩|⟨b,rfl,hS,hb⟩
 ·omega
 rcases h.rd.inv with⟨q,_⟩|⟨b',o',c',q,hB⟩
 ·cases q
 cases q;refine⟨b,rfl,hS,hb,?_⟩;have:=hB.load (i*3) 3 Fh;rw[FV]at this;rw[this];refine congrArg some ?_
 have e0:ks=ks.take i++(k::ks.drop (i+1)):=by
  have:=FB hi;rw[this]at hk;cases hk;rw[←FL hi,List.take_append_drop]
 have l1:(BH (ks.take i)).length=i*3:=by rw[QP,FU,KD Fh]
 have e1:BH ks=BH (ks.take i)++(kyC k++BH (ks.drop (i+1))):=by
  conv=>lhs;rw[e0]
  rw[Mx];rfl
 rw[e1,←l1,List.drop_left];rfl
theorem QW (C:Codes tab){j:Nat}{a b:Ky}{K:V→AW→Prop}(h:QB S w v ks)(hi:ks[i]? = some a)(hj:ks[j]? = some b)(hK:∀w',Frm (fun _=>False) w w'→K (.bool (Bf a b)) w'):WF tab JW [v,.int .i64 (Fq i),.int .i64 (Fq j)] w K:=by
 refine Ld C.VB rfl ?_;have hil:i<ks.length:=(List.getElem?_eq_some_iff.1 hi).1;have hjl:j<ks.length:=(List.getElem?_eq_some_iff.1 hj).1;obtain⟨bl,rfl,hS,hb,l1⟩:=IZ h hi;obtain⟨bl',e,_,_,l2⟩:=IZ h hj;cases e;have g1:=LZ (S:=fun _=>False) w [V.int .i64 0,V.bool false,V.int .i64 0];have m1:(w.fresh [V.int .i64 0,V.bool false,V.int .i64 0]).next=w.next+1:=rfl;have c1:=OQ w [V.int .i64 0,V.bool false,V.int .i64 0];have h1:=h.frm g1 fun _ _ h=>h;generalize hw1:w.fresh [V.int .i64 0,V.bool false,V.int .i64 0]=w1 at g1 m1 c1 h1;have g2:=LZ (S:=fun _=>False) w1 [V.int .i64 0,V.bool false,V.int .i64 0];have m2:(w1.fresh [V.int .i64 0,V.bool false,V.int .i64 0]).next=w1.next+1:=rfl;have c2:=OQ w1 [V.int .i64 0,V.bool false,V.int .i64 0];have h2:=h1.frm g2 fun _ _ h=>h;have c12:=c1.frm g2 fun h=>h;generalize hw2:w1.fresh [V.int .i64 0,V.bool false,V.int .i64 0]=w2 at g2 m2 c2 h2 c12;have s3:=c12.setAll (vs:=kyC a) rfl rfl;have p3:Frm (fun x=>x=w.next) w2 (w2.put w.next (kyC a)):=LW;have c3:CB (w2.put w.next (kyC a)) w.next (kyC a):=Oc c12.lt;have c23:=c2.frm p3 (by show ¬w1.next=w.next;omega);have f3:Frm (fun _=>False) w (w2.put w.next (kyC a)):=(g1.tr g2).out (FH _) rfl;generalize hw3:w2.put w.next (kyC a)=w3 at s3 p3 c3 c23 f3;have s4:=c23.setAll (vs:=kyC b) rfl rfl;have p4:Frm (fun x=>x=w1.next) w3 (w3.put w1.next (kyC b)):=LW;have c4:CB (w3.put w1.next (kyC b)) w1.next (kyC b):=Oc c23.lt;have c34:=c3.frm p4 (by show ¬w.next=w1.next;omega);have f4:Frm (fun _=>False) w (w3.put w1.next (kyC b)):=f3.out Fh rfl;generalize hw4:w3.put w1.next (kyC b)=w4 at s4 p4 c4 c34 f4;obtain⟨x1,e,_,_,a1⟩:=IZ h1 hi;cases e;obtain⟨x1,e,_,_,a2⟩:=IZ h2 hi;cases e;obtain⟨x1,e,_,_,b1⟩:=IZ h1 hj;cases e;obtain⟨x1,e,_,_,b2⟩:=IZ h2 hj;cases e;obtain⟨x1,e,_,_,b3⟩:=IZ (h.frm f3 fun _ _ h=>h) hj;cases e;have u0:w4.load w.next 0 1=some [.int .i64 (Fq a.2.2)]:=by rw[c34.load];rfl
 have u1:w4.load w.next 1 1=some [.bool a.1]:=by rw[c34.load];rfl
 have u2:w4.load w.next 2 1=some [.int .i64 (Fq a.2.1)]:=by rw[c34.load];rfl
 have v0:w4.load w1.next 0 1=some [.int .i64 (Fq b.2.2)]:=by rw[c4.load];rfl
 have v1:w4.load w1.next 1 1=some [.bool b.1]:=by rw[c4.load];rfl
 have v2:w4.load w1.next 2 1=some [.int .i64 (Fq b.2.1)]:=by rw[c4.load];rfl
 have ka:(kyC a).length=3:=rfl;have kb:(kyC b).length=3:=rfl;have hK:=hK w4 f4;refine Fz (by simp only[go_sem,K5,Jr,JaT];rfl) ?_;refine Bo ?_;refine LU 100 (by simp only[go_sem,K5,hil,hjl,l1,l2,hw1,hw2,s3,s4,ka,kb,FV];rfl) ?_;refine O1 ⟨(show LF _ _ [(3,8),(3,9),(7,8),(7,9),(7,10)]from by simp only[go_sem,K5,LF,chk,List.reverse_cons,List.reverse_nil,O8,O6,O4,O5,List.getElem?_nil,false_or,or_true,or_false,exists_eq',FQ,Prod.mk.injEq,Bool.true_eq_false,FM,and_true,true_and,implies_true,hil,hjl,l1,l2,a1,a2,b1,b2,b3,FV]),?_⟩;obtain⟨x1,x2,x3⟩:=a;obtain⟨y1,y2,y3⟩:=b;simp only at u0 u1 u2 v0 v1 v2 hK;by_cases hn:x2=y2
 ·subst hn;cases x1<;>cases y1<;>simp only[Bf,ne_eq,not_true_eq_false,if_false,reduceCtorEq,not_false_eq_true,if_true]at hK
  ·refine Fz (by simp only[go_sem,K5,JJ,YC,Gj,u0,u1,u2,v0,v1,v2,eqV];rfl) ?_;refine K7 ⟨_,by simp only[go_sem,K5,Jr];rfl,?_⟩;exact hK
  ·refine Fz (by simp only[go_sem,K5,JJ,YB,u0,u1,u2,v0,v1,v2,eqV];rfl) ?_;refine K7 ⟨_,by simp only[go_sem,K5,Jr];rfl,?_⟩;exact hK
  ·refine Fz (by simp only[go_sem,K5,JJ,YB,u0,u1,u2,v0,v1,v2,eqV];rfl) ?_;refine K7 ⟨_,by simp only[go_sem,K5,Jr];rfl,?_⟩;exact hK
  ·refine Fz (by simp only[go_sem,K5,JJ,YC,Gj,u0,u1,u2,v0,v1,v2,eqV];rfl) ?_;refine K7 ⟨_,by simp only[go_sem,K5,Jr];rfl,?_⟩;exact hK
 ·cases x1<;>cases y1<;>simp only[Bf,ne_eq,not_true_eq_false,if_false,reduceCtorEq,not_false_eq_true,if_true,hn]at hK
  ·refine Fz (by simp only[go_sem,K5,JJ,YC,Gi,u0,u1,u2,v0,v1,v2,eqV,hn];rfl) ?_;refine K7 ⟨_,by simp only[go_sem,K5,Jr];rfl,?_⟩;exact hK
  ·refine Fz (by simp only[go_sem,K5,JJ,YB,u0,u1,u2,v0,v1,v2,eqV];rfl) ?_;refine K7 ⟨_,by simp only[go_sem,K5,Jr];rfl,?_⟩;exact hK
  ·refine Fz (by simp only[go_sem,K5,JJ,YB,u0,u1,u2,v0,v1,v2,eqV];rfl) ?_;refine K7 ⟨_,by simp only[go_sem,K5,Jr];rfl,?_⟩;exact hK
  ·refine Fz (by simp only[go_sem,K5,JJ,YC,Gi,u0,u1,u2,v0,v1,v2,eqV,hn];rfl) ?_;refine K7 ⟨_,by simp only[go_sem,K5,Jr];rfl,?_⟩;exact hK
end
end Go.Proofs.YtegdcbdicpfbpaaGreatDoor
namespace Delphi
def Cn (ks:List Ky) (i j:Nat) (a b:Ky):List Ky:=(ks.set i b).set j a
variable {ks:List Ky} {i j:Nat} {a b:Ky}
theorem Ry:(Cn ks i j a b).length=ks.length:=by simp[Cn]
theorem Cy {p:Nat}(hi:i<ks.length)(hj:j<ks.length):(Cn ks i j a b)[p]? = if j=p then some a else if i=p then some b else ks[p]?:=by
 unfold Cn;rw[Kq,Kq];by_cases e1:j=p
 ·subst e1;simp[hj]
 ·by_cases e2:i=p
  ·subst e2;simp[e1,hi]
  ·simp[e1,e2]
theorem Jsn (ha:ks[i]? = some a)(hb:ks[j]? = some b)(k:Ky):k∈Cn ks i j a b↔k∈ks:=by
 have hi:i<ks.length:=(List.getElem?_eq_some_iff.1 ha).1;have hj:j<ks.length:=(List.getElem?_eq_some_iff.1 hb).1;rw[List.mem_iff_getElem?,List.mem_iff_getElem?];constructor
 ·rintro⟨p,hp⟩;rw[Cy hi hj]at hp;split at hp
  ·exact⟨i,by rw[ha];exact hp⟩
  ·split at hp
   ·exact⟨j,by rw[hb];exact hp⟩
   ·exact⟨p,hp⟩
 ·rintro⟨p,hp⟩;by_cases e1:p=i
  ·subst e1;exact⟨j,by rw[Cy hi hj,if_pos rfl,←hp,ha]⟩
  ·by_cases e2:p=j
   ·subst e2;refine⟨i,?_⟩;rw[Cy hi hj];by_cases e3:p=i
    ·exact absurd e3 e1
    ·rw[if_neg e3,if_pos rfl,←hp,hb]
   ·exact⟨p,by rw[Cy hi hj,if_neg fun h=>e2 h.symm,if_neg fun h=>e1 h.symm];exact hp⟩
def Dk (ks:List Ky):Prop:=∃m,ks[0]? = some m∧∀k∈ks,k=m∨Bf m k=true
end Delphi
namespace Go.Proofs.YtegdcbdicpfbpaaGreatDoor
open Go.AE Delphi
variable {tab:Tab}
variable {S:Fw} {v:V} {ks:List Ky} {K:V→AW→Prop}
theorem QX (C:Codes tab){w:AW}{i j:Nat}{a b:Ky}(h:QB S w v ks)(hi:ks[i]? = some a)(hj:ks[j]? = some b)(hK:∀w',QB S w' v (Cn ks i j a b)→Frm S w w'→w'.next=w.next→K (.tuple []) w'):WF tab JX [v,.int .i64 (Fq i),.int .i64 (Fq j)] w K:=by
 refine Ld C.VH rfl ?_;have hil:i<ks.length:=(List.getElem?_eq_some_iff.1 hi).1;have hjl:j<ks.length:=(List.getElem?_eq_some_iff.1 hj).1;obtain⟨bl,rfl,hS,hb,l1⟩:=IZ h hi;obtain⟨bl',e,_,_,l2⟩:=IZ h hj;cases e;obtain⟨bl',w1,e,s1,h1,f1,n1⟩:=Jr4 h hil b;cases e;obtain⟨bl',w2,e,s2,h2,f2,n2⟩:=Jr4 h1 (by rw[Kn];exact hjl) a;rw[Kn]at e;cases e;have ka:(kyC a).length=3:=rfl;have kb:(kyC b).length=3:=rfl;refine Fz (by simp only[go_sem,K5,VG,hil,hjl,l1,l2,s1,s2,ka,kb,FV];rfl) ?_;refine Su ⟨_,by simp only[go_sem,K5,VG];rfl,?_⟩;exact hK w2 h2 (f1.tr f2) (n2.trans n1)
def QQ (S:Fw) (w:AW) (v:V) (ks:List Ky):Prop:=(ks=[]∧∃b,v = .slice b 0 0 (.known 0))∨(ks≠[]∧QB S w v ks)
theorem JtN (C:Codes tab){w:AW}{x:Ky}{bq:Nat}(hq:CB w bq [v])(h:QQ S w v ks)(hn:ks.length≤100)(hS:∀y,S y→y<w.next∧y≠bq)(hK:∀w' v' S',CB w' bq [v']→QB S' w' v' (ks++[x])→Frm (fun y=>S y∨y=bq) w w'→(∀y,S' y→y<w'.next∧y≠bq∧(S y∨w.next≤y))→K (.tuple []) w'):WF tab G5 [.ptr bq 0,.iface 184 (.agg (kyC x))] w K:=by
 refine Ld C.VF rfl ?_;obtain⟨w1,s1,c1,r1,m1⟩:=Oj w (zs:=[V.int .i64 0,V.bool false,V.int .i64 0]) (vs:=kyC x) rfl rfl;have hq1:=hq.frm r1 fun h=>h;have g2:=LZ (S:=fun _=>False) w1 (kyC x);have m2:(w1.fresh (kyC x)).next=w1.next+1:=rfl;have c2:=OQ w1 (kyC x);have el:=Tj (w:=w1) (esz:=3) (n:=1) (cs:=kyC x) (c:=.known 1) Fh rfl;have hq2:=hq1.frm g2 fun h=>h;have k3:w1.load w.next 0 3=some (kyC x):=c1.all rfl;have lq:w1.load bq 0 1=some [v]:=hq1.load 0 1;have lq2:(w1.fresh (kyC x)).load bq 0 1=some [v]:=hq2.load 0 1;have hlq:=hq.lt
 have ap:∃v' w3 S3,(w1.fresh (kyC x)).appendV 3 24 v 1 (kyC x)=some (v',w3)∧QB S3 w3 v' (ks++[x])∧Frm S (w1.fresh (kyC x)) w3∧∀y,S3 y→y<w3.next∧(S y∨(w1.fresh (kyC x)).next≤y):=by
  rcases h with⟨rfl,b,rfl⟩|⟨hne,hB⟩
  ·refine⟨.slice (w1.fresh (kyC x)).next 0 1 (.upTo 3),(w1.fresh (kyC x)).fresh (kyC x),fun y=>y=(w1.fresh (kyC x)).next,rfl,?_,LZ _ _,?_⟩
   ·exact .blk rfl (FW _) AE.T.get_put_same rfl Fh (by show 0<1;omega) (.inl rfl)
   ·rintro y rfl;exact⟨FW _,.inr (FH _)⟩
  ·obtain⟨v',w3,S3,u1,u2,u3,u4⟩:=((hB.frm r1 fun _ _ h=>h).frm g2 fun _ _ h=>h).addN (news:=kyC x) (k:=1) (bytes:=24) Fh rfl rfl Fh Fh;refine⟨v',w3,S3,u1,?_,u3,u4⟩;show Bt S3 w3 v' 3 (ks++[x]).length (BH (ks++[x]));rw[Mx,FE];exact u2
 obtain⟨v',w3,S3,u1,u2,u3,u4⟩:=ap;have hq3:=hq2.frm u3 fun h=>(hS _ h).2 rfl;have st:=hq3.set (i:=0) (v:=v') Fj u2.one.1;have vc:=u2.one.2;have ka:(kyC x).length=3:=rfl;have hov:over [V.int .i64 0,V.bool false,V.int .i64 0] 0 (kyC x)=some (kyC x):=rfl;have pf:Frm (fun y=>y=bq) w3 (w3.put bq ([v].set 0 v')):=LW;have c3:CB (w3.put bq ([v].set 0 v')) bq [v']:=Oc hq3.lt;have nx:=u3.next
 have sep:∀y,S3 y→y<w3.next∧y≠bq∧(S y∨w.next≤y):=by
  intro y hy;obtain⟨q1,q2⟩:=u4 y hy;rcases q2 with q2|q2
  ·exact⟨q1,(hS y q2).2,.inl q2⟩
  ·exact⟨q1,by omega,.inr Fh⟩
 have fin:=hK (w3.put bq ([v].set 0 v')) v' S3 c3 (u2.frm pf fun y hy=>(sep y hy).2.1) (((r1.tr g2).trans (U:=S) u3 (fun _ _ h=>h.elim) fun _ _ h=>h).trans pf (fun _ _ h=> .inl h) fun _ _ h=> .inr h) sep;refine Fz (by simp only[go_sem,K5,VE,JaW,s1,ka,FC,FD];rfl) ?_;refine Bo ?_;refine LU 100 (by simp only[go_sem,K5,lq,k3,Lg,Lj,hov,ka,el,u1,vc,st,FC,FD];rfl) ?_;refine O1 ⟨(show LF _ _ [(3,5)]from by simp only[go_sem,K5,LF,chk,List.reverse_cons,List.reverse_nil,O8,O6,O4,O5,List.getElem?_nil,false_or,or_true,or_false,exists_eq',FQ,Prod.mk.injEq,Bool.true_eq_false,FM,and_true,true_and,implies_true,lq,lq2]),?_⟩;refine Su ⟨_,by simp only[go_sem,K5,VE];rfl,?_⟩;exact fin
def UpI (S:Fw) (bq:Nat) (v:V) (x:Ky) (m:Option Ky) (ks0:List Ky) (aw:AW) (j:Nat) (f:Fr) (w:AW):Prop :=
 ∃ks,f.get 0=some (.iface 178 (.ptr bq 0))∧f.get 1=some (.int .i64 (Fq j))∧QB S w v ks∧CB w bq [v]∧Frm S aw w∧ks.length=ks0.length∧(∀k,k∈ks↔k∈ks0)∧ks[j]? = some x∧(∀p,ks[p]? = some x→p=j)∧(0<j→ks[0]? = m)∧(j=0→∀k,m=some k→Bf x k=true)
theorem JwO (C:Codes tab){aw:AW}{bq:Nat}{x:Ky}(hq:CB aw bq [v])(h:QB S aw v (ks++[x]))(hn:ks.length≤100)(hm:ks=[]∨Dk ks)(hx:∀k∈ks,k.2.2≠x.2.2)(hSq:¬S bq)(hK:∀w' ks',QB S w' v ks'→CB w' bq [v]→Frm S aw w'→ks'.length=ks.length+1→(∀k,k∈ks'↔k∈ks∨k=x)→Dk ks'→K (.tuple []) w'):WF tab G0 [.iface 178 (.ptr bq 0),.int .i64 (Fq ks.length)] aw K:=by
 refine Ld C.Vo rfl ?_
 have huq:∀p,(ks++[x])[p]? = some x→p=ks.length:=by
  intro p hp;by_cases hl:p<ks.length
  ·rw[F5 hl]at hp;exact absurd rfl (hx x (FI hp))
  ·have:p<(ks++[x]).length:=(List.getElem?_eq_some_iff.1 hp).1;rw[FE,Kb]at this;omega
 refine Fz (by simp only[go_sem,K5,Vn];rfl) ?_
 refine LK (UpI S bq v x ks[0]? (ks++[x]) aw) (fun f w=>∃ks',QB S w v ks'∧CB w bq [v]∧Frm S aw w∧ks'.length=ks.length+1∧(∀k,k∈ks'↔k∈ks∨k=x)∧Dk ks') ?_ ?_ ks.length
  ⟨ks++[x],Fb,Fb,h,hq,Frm.refl _,rfl,fun _=>Iff.rfl,by simp,huq,fun h0=>by rw[F5 h0],fun h0 k hk=>by rw[List.length_eq_zero_iff.1 h0]at hk;simp at hk⟩
 ·rintro j f w ⟨ks',f0,f1,hB,hc,hf,hl,hmem,hj,huniq,hroot,hless⟩ ih exit;have hmem':∀k,k∈ks'↔k∈ks∨k=x:=fun k=>by rw[hmem];simp
  have hll:ks'.length=ks.length+1:=by rw[hl];simp
  have hjl:j<ks'.length:=(List.getElem?_eq_some_iff.1 hj).1
  have done0:j=0→Dk ks':=by
   rintro rfl;refine⟨x,hj,fun k hk=>?_⟩;rcases (hmem' k).1 hk with hk|rfl
   ·right;rcases hm with rfl|⟨m,hm0,hmin⟩
    ·simp at hk
    ·have h1:=hless rfl m hm0;rcases hmin k hk with rfl|h2
     ·exact h1
     ·exact Ro h1 h2
   ·exact .inl rfl
  by_cases hz:j=0
  ·have e0:Fq j=0:=by rw[hz];rfl
   have e1:KZ .i64 (Fq j-1) = -1:=by rw[e0];rfl
   have e2:KZ .i64 (Int.tdiv (-1) 2)=0:=rfl;have e3:((0:Int)==Fq j)=true:=by rw[e0];rfl
   refine Lb 1000 (by simp only[go_sem,Ge,Gd,f0,f1,e1,e2,e3];rfl) ?_;exact exit _ _ _ ⟨ks',hB,hc,hf,hll,hmem',done0 hz⟩ rfl
  have e1:KZ .i64 (Fq j-1)=Fq (j-1):=by
   have a1:Fq j=(j:Int):=rfl;have a2:Fq (j-1)=((j-1:Nat):Int):=rfl;rw[Iw]<;>omega
  have e2:KZ .i64 (Int.tdiv (Fq (j-1)) 2)=Fq ((j-1) / 2):=by
   have a3:Int.tdiv (Fq (j-1)) 2=Fq ((j-1) / 2):=rfl;have a4:Fq ((j-1) / 2)=(((j-1) / 2:Nat):Int):=rfl;rw[a3,Iw]<;>omega
  have hij:(j-1) / 2<j:=Fh;generalize (j-1) / 2=i at e2 hij;have hne:¬i=j:=Fh;obtain⟨a,ha⟩:∃a,ks'[i]? = some a:=⟨_,FB Fh⟩;have lq:w.load bq 0 1=some [v]:=hc.load 0 1;have hroot:=hroot Fh;refine Fz (by simp only[go_sem,K5,Ge,Gd,f0,f1,e1,e2,hne,L9,lq];rfl) ?_;refine K9 (by simp only[go_sem,K5,L9,lq]) (by simp only[go_sem,K5,L9,lq];rfl) ?_;refine QW C hB hj ha fun w2 g2=>?_;have hB2:=hB.frm g2 fun _ _ h=>h;have hc2:=hc.frm g2 fun h=>h;have lq2:w2.load bq 0 1=some [v]:=hc2.load 0 1;have hf2:Frm S aw w2:=hf.tr g2.no;cases hlk:Bf x a with
  | false =>
   refine Lb 1000 (by simp only[go_sem,f0,f1];rfl) ?_;refine exit _ _ _ ⟨ks',hB2,hc2,hf2,hll,hmem',?_⟩ rfl;rcases hm with rfl|⟨m,hm0,hmin⟩
   ·simp at hll;omega
   ·rw[hm0]at hroot
    have hma:a=m∨Bf m a=true:=by
     rcases (hmem' a).1 (FI ha)with h|h
     ·exact hmin a h
     ·exact absurd (huniq i (by rw[ha,h])) hne
    have hmx:Bf m x=true:=by
     have hxm:Bf x m=false:=by
      cases hc:Bf x m with
      | false=>rfl
      | true =>
       rcases hma with rfl|h
       ·rw[hc]at hlk;cases hlk
       ·rw[Ro hc h]at hlk;cases hlk
     rcases JjD (hx m (FI hm0))with h|h
     ·exact h
     ·rw[h]at hxm;cases hxm
    refine⟨m,hroot,fun k hk=>?_⟩;rcases (hmem' k).1 hk with hk|rfl
    ·exact hmin k hk
    ·exact .inr hmx
  | true =>
   refine Fz (by simp only[go_sem,K5,JaP,f0,f1,L9,lq2];rfl) ?_;refine K9 (by simp only[go_sem,K5,L9,lq2]) (by simp only[go_sem,K5,L9,lq2];rfl) ?_;refine QX C hB2 ha hj fun w3 q1 q2 q3=>?_;have hc3:=hc2.frm q2 hSq;refine K6 1000 Fe ?_;refine ih i _ _ hij ⟨Cn ks' i j a x,(Fg f0),Fb,q1,hc3,hf2.tr q2,by rw[Ry];exact hl,fun k=>by rw[Jsn ha hj];exact hmem k,?_,fun p hp=>?_,fun h0=>?_,fun h0 k hk=>?_⟩
   ·rw[Cy Fh hjl,if_neg fun h=>hne h.symm,if_pos rfl]
   ·rw[Cy Fh hjl]at hp;split at hp
    ·cases hp;exact absurd (huniq i ha) hne
    ·split at hp
     ·omega
     ·rename_i h1 h2;exact absurd (huniq p hp).symm h1
   ·rw[Cy Fh hjl,if_neg Fh,if_neg Fh];exact hroot
   ·subst h0;rw[ha]at hroot;rw[←hroot]at hk;cases hk;exact hlk
 ·rintro f w ⟨ks',h1,h2,h3,h4,h5,h6⟩;refine Su ⟨_,by simp only[go_sem,K5,Vn];rfl,?_⟩;exact hK w ks' h1 h2 h3 h4 h5 h6
end Go.Proofs.YtegdcbdicpfbpaaGreatDoor
