/- A part of the proof. -/
import Derived.Test.YtegdcbdicpfbpaaGreatDoorJdU
import Derived.Test.YtegdcbdicpfbpaaGreatDoorJdI
import Derived.Test.YtegdcbdicpfbpaaGreatDoorJdK
import Derived.HandedShaped
import Derived.Stop.Joined
open Int renaming ofNat → Fq
open Go.IntKind renaming wrap → KZ
set_option linter.unusedVariables false
set_option maxRecDepth 10000
set_option linter.unusedSimpArgs false
namespace Go.Proofs.YtegdcbdicpfbpaaGreatDoor
open Go.AE Delphi Val
variable {tab:Tab}
theorem Ju1 (C:Codes tab)(I:Ib tab)(P:SL tab){O S Tf Td:Fw}{r:Rl}{ts:List Tk}{M:Bp}{fs ds:List Fc}{nl b o i tb mb sm sb:Nat}{a:Int}{c:Cap}{tv hv xb fv dv:V}{w:AW}{f:Fr}{sk:List SI}{K:V→AW→Prop}(hW:JdW tab O S r ts M b o i tb mb sm sb tv hv xb w)(hG:RG r)(hLT:LaidT ts M fs)(hts:ts.length≤200)(hln:∀nm x,K8 M nm=some x→x.1≤4∧x.2.length≤1000000)(hFM:O9 fs)(hfl:fs.length≤25)(hfx:∀f∈fs,f.2.length≤1000)(hDM:O9 ds)(hDL:FcsL ds)(hdl:ds.length≤10)(hcs:BD r=true)(hf:Fcs Tf w fv fs)(hTf:∀x,Tf x→x<w.next)(hd:Fcs Td w dv ds)(hTd:∀x,Td x→x<w.next∧¬S x∧x≠tb∧x≠mb)(hF:JdF f (.slice b o nl c) fv dv a i)(f12:f.get 12=some (.ptr tb 0))(f13:f.get 13=some (.ptr sb 0))(hil:i<nl)(hret:∀w',Frm (fun _=>False) w w'→K (.bool true) w')(hno:∀f' w',JdF f' (.slice b o nl c) fv dv a i→Frm (fun _=>False) w w'→WS tab (.code (.exit 1) :: .code YT::sk) f' w' (Ag K))(h:∀f' w',JdF f' (.slice b o nl c) fv dv a i→Frm (fun x=>S x∨x=tb∨x=mb) w w'→WS tab sk f' w' (Ag K)): WS tab (.code Zk::sk) f w (Ag K):=by
 obtain⟨f1,f2,f3,f10,f11⟩:=hF;obtain⟨pt,hxs⟩:=hW.rl (fun _=>False) w (Frm.refl _) fun _ _ h=>h;have pt3:w.load b (o+i*4+3) 1=some [xb]:=pt 3 1 Fh;obtain⟨v0,u0,hxe,hxh,hxb⟩:=hxs;cases hxe;have hxbl:=Cx hxb;by_cases hA:a<0
 ·refine Lb 1000 (by simp only[go_sem,K5,Zk,f3,f10,f11,hil,hA];rfl) ?_;exact JnC C I P hW hG hLT Fh hln ⟨(Fg f1),(Fg f2),(Fg f3),(Fg f10),(Fg f11)⟩ (Fg f12) (Fg f13) hil (.inl hA) hno
 by_cases hB:Fq r.body.length≤a
 ·refine Lb 1000 (by simp only[go_sem,K5,Zk,f3,f10,f11,hil,hA,hB,pt3,hxbl];rfl) ?_;exact JnC C I P hW hG hLT Fh hln ⟨(Fg f1),(Fg f2),(Fg f3),(Fg f10),(Fg f11)⟩ (Fg f12) (Fg f13) hil (.inr fun h=>by have:=h.2.2.1;have e:Fq r.body.length=(r.body.length:Int):=rfl;omega) hno
 obtain⟨n,rfl⟩:∃n:Nat,a=Fq n:=⟨a.toNat,(Int.toNat_of_nonneg Fh).symm⟩;have hnl:n<r.body.length:=by have:¬((r.body.length:Int)≤(n:Int)):=hB;omega
 obtain⟨t,ht⟩:∃t,r.body[n]? = some t:=⟨_,FB hnl⟩;have hlit:=Jl3 ht;obtain⟨lb,lo,lc,lv,rfl,k0,k3,hlr⟩:=Jo3 hxb ht;by_cases hk:t.kind=1
 case neg =>
  have hkd:(Fq t.kind==1)=false:=beq_eq_false_iff_ne.2 fun h=>hk (Int.ofNat.inj h);refine Lb 1000 (by simp only[go_sem,K5,Zk,f3,f10,f11,hil,hA,hB,hnl,pt3,hxbl,k0,hk,hkd];rfl) ?_;exact JnC C I P hW hG hLT Fh hln ⟨(Fg f1),(Fg f2),(Fg f3),(Fg f10),(Fg f11)⟩ (Fg f12) (Fg f13) hil (.inr fun h=>hk (by have:=h.2.2.2 (Int.natCast_nonneg n);rw[show (Fq n).toNat=n from rfl,hlit]at this;exact this)) hno
 have hkd:(Fq t.kind==1)=true:=by rw[hk];rfl
 rw[hk]at k0;refine Lb 1000 (by simp only[go_sem,K5,Zk,f3,f10,f11,hil,hA,hB,hnl,pt3,hxbl,k0];rfl) ?_;exact Ju2 C I P hW hG hLT hts hln hFM hfl hfx hDM hDL hdl hcs ht hk hf hTf hd hTd ⟨(Fg f1),(Fg f2),(Fg f3),(Fg f10),(Fg f11)⟩ (Fg f12) (Fg f13) hil hret h
theorem Jmt (C:Codes tab)(I:Ib tab)(P:SL tab){T0 T1:Fw}{s:List Nat}{facts delta:List Fc}{fv0 dv0:V}{a:Int}{aw:AW}(hs:∀x∈s,x<256)(hx0:Fcs T0 aw fv0 facts)(hT0:∀x,T0 x→x<aw.next)(hfl0:facts.length≤9223372036854775807)(hnb:∀f∈facts,∀c∈f.1,c<256)(htb:∀f∈facts,∀t∈f.2,∀c∈t.s,c<256)(hx1:Fcs T1 aw dv0 delta)(hT1:∀x,T1 x→x<aw.next)(hfl1:delta.length≤9223372036854775807)(hnb1:∀f∈delta,∀c∈f.1,c<256)(htb1:∀f∈delta,∀t∈f.2,∀c∈t.s,c<256): WF tab JaX [.str s,fv0,dv0,.int .i64 a] aw (fun v aw'=>v = .bool true∧Frm (fun _=>False) aw aw'):=by
 refine Ld C.YV rfl ?_;refine Fz (by simp only[go_sem,K5,Zl];rfl) ?_;refine K9 Ff Fe ?_;refine JpP C I P fun w0 g0=>?_;refine Fz (by simp only[go_sem,K5,Hf];rfl) ?_;refine K9 Ff Fe ?_;refine Jl5 C hs fun w1 rv T rs hrs q1 g1 q3=>?_;have hG:∀r∈rs,RG r:=by rw[hrs];exact (R4 _).1
 have hRl:rs.length≤30:=by rw[hrs];exact (R4 _).2
 clear hrs;have g01:=g0.tr g1;have n01:=g01.next;refine Fz (by simp only[go_sem,K5,He];rfl) ?_;refine K9 Ff Fe ?_;refine Jm9 (n:=25) C (hx0.frm g01 fun _ _ h=>h) (fun x hx=>FK (hT0 x hx) n01) hfl0 Fh hnb htb fun wa fv Sf hFa ga hSfa=>?_;have g0a:=g01.tr ga;have na:=ga.next;refine K6 1000 Fe ?_;refine K9 Ff Fe ?_;refine Jm9 (n:=10) C (hx1.frm g0a fun _ _ h=>h) (fun x hx=>by have:=hT1 x hx;omega) hfl1 Fh hnb1 htb1 fun w2 dv Sd hD g2a hSd=>?_;have hF:=hFa.frm g2a fun _ _ h=>h;have g2:=ga.tr g2a;have n2a:=g2a.next;obtain⟨hFM,hFL⟩:=JkG (n:=25) Fh facts;have hFlen:=Mf 25 facts;generalize OP 25 facts=fs at hF hFM hFL hFlen;obtain⟨hDM,hDL⟩:=JkG (n:=10) Fh delta;have hDlen:=Mf 10 delta;generalize OP 10 delta=ds at hD hDM hDL hDlen;have g02:=g01.tr g2;have hq2:RdL (RlC T) T w2 rv 4 rs:=q1.frm (fun _ _ h=>h.frm g2 fun _ _ h=>h) g2 fun _ _ h=>h;have n12:=g2.next;have hlv:=Cx q1;have hTl:∀x,T x→x<w2.next:=fun x hx=>by have:=(q3 x hx).2;omega
 have hfx4:∀f∈fs,f.2.length≤1000:=fun f hf=>by have:=(hFL.ok f hf).1;omega
 have hdx4:∀f∈ds,f.2.length≤1000:=fun f hf=>by have:=(hDL.ok f hf).1;omega
 refine K6 1000 Fe ?_;refine LK (fun q f w=>∃i,JdF f rv fv dv a i∧Frm (fun _=>False) w2 w∧i≤rs.length∧q=rs.length-i) (fun f w=>Frm (fun _=>False) w2 w) ?_ ?_ rs.length ⟨0,⟨Fb,Fb,Fb,Fb,Fb⟩,Frm.refl _,Nat.zero_le _,rfl⟩
 ·rintro q f w ⟨i,⟨f1,f2,f3,f10,f11⟩,g,hi,rfl⟩ ih out;by_cases hil:i<rs.length
  case neg =>
   refine Lb 1000 (by simp only[go_sem,YU,f10,f11,hlv,hil];rfl) ?_;exact out _ _ _ g rfl
  by_cases hi6:i<6
  case neg =>
   refine Lb 1000 (by simp only[go_sem,YU,f10,f11,hlv,hil,hi6];rfl) ?_;exact out _ _ _ g rfl
  obtain⟨r,hr⟩:∃r,rs[i]? = some r:=⟨_,FB hil⟩;have hGr:=hG r (FI hr);obtain⟨l1,l2,l3,l4,l5⟩:=Np hGr;obtain⟨b,o,c,xs,rfl,hxs0,stay⟩:=JtS hq2 hr;have stay0:=stay;have stay:=fun (w':AW) (g':Frm (fun _=>False) w2 w')=>stay (fun _=>False) w' g' fun _ _ h=>h;obtain⟨_,a4,hxs⟩:=stay w g;have hwr:KZ .i64 (Fq i+1)=Fq (i+1):=Lh Fh;have gn:=g.next;have hRB:RuleB r:=⟨l4,fun l hl=>⟨by have:=l4.args l hl;omega,fun h1 h2=>(l3 l hl h1 h2).2.2⟩⟩;refine Fz (by simp only[go_sem,K5,YU,Hd,f10,f11,hlv,hil,hi6,a4];rfl) ?_;refine K9 Ff Fe ?_;refine JtW C hxs l4.big fun w3 g3=>?_;cases hcs:BD r with
  | false =>
   refine Fz (by simp only[go_sem,K5,f11,hwr];rfl) ?_;exact ih _ _ _ Fh ⟨i+1,⟨(Fg f1),(Fg f2),(Fg f3),(Fg f10),Fb⟩,g.tr g3,by omega,rfl⟩
  | true =>
  have n3:=g3.next;refine K6 1000 Fe ?_;refine K9 Ff Fe ?_;refine new_ok C fun w4 ht4 g4=>?_;have n4:=g4.next;have hT4l:=ht4.a.lt;have g24:=(g.tr g3).tr g4;refine Fz (by simp only[go_sem,K5,Hc,f1];rfl) ?_;refine K9 Ff Fe ?_;refine Jlo C P (hF.frm g24 fun _ _ h=>h) hFL (fun x hx=>⟨by have:=hSfa x hx;omega,fun h=>h,by have:=hSfa x hx;omega,by have:=hSfa x hx;omega⟩) ht4 Fj fun w5 sm b5 tv5 S5 MV Sx t5 L5 hsm=>?_;have hLT:=(RO (ts:=[]) ⟨List.nodup_nil,by simp⟩ hFL hFM).2;have hLl:=(Ap (ts:=[]) hFL).2;have hln:=JnE (ts:=[]) hFL;generalize LC [] fs=ld at t5 L5 hLT hLl hln;obtain⟨ts,M⟩:=ld;simp only at t5 L5 hLT hLl hln;simp only[FD,FV]at hLl;have n5:=L5.f.next
  have g5:Frm (fun _=>False) w3 w5:=g4.trans L5.f (fun _ _ h=>h) fun x hx h=>by
   rcases h with h|h|h
   ·exact h
   ·omega
   ·omega
  have g25:=(g.tr g3).tr g5;have hsml:=L5.lw.pm.lt
  have hS5l:∀x,S5 x→w3.next≤x∧x<w5.next:=fun x hx=>by
   have h1:=(t5.s x hx).1;rcases L5.s x hx with h|h
   ·exact h.elim
   ·omega
  obtain⟨w6,s6,c6,r6,m6⟩:=Oj w5 (zs:=[V.nilmap]) (vs:=[V.map sm]) rfl rfl;have a66:w6.load w5.next 0 1=some [.map sm]:=c6.all rfl;have g26:=g25.tr r6;obtain⟨pt6,a46,hxs6⟩:=stay w6 g26;have n26:=g26.next;have hcm:V.cells (.agg [.map sm])=[V.map sm]:=rfl
  have hO:∀x,(Df sm Sx x∨T x)→x<w5.next∧¬S5 x∧x≠w3.next+1∧x≠w3.next:=by
   rintro x ((rfl|⟨n,hn⟩)|hx)
   ·exact⟨by omega,fun hs=>(L5.ss _ hs).1 rfl,L5.ne.1,L5.ne.2.1⟩
   ·have h1:=L5.sd n x hn;have h2:=L5.lw.lo n x hn;exact⟨by omega,h1.1,h1.2.1,h1.2.2.1⟩
   ·have h1:=hTl x hx;refine⟨by omega,fun hs=>?_,by omega,by omega⟩;have:=hS5l x hs;omega
  have hst6:StoreAt tab (fun x=>Df sm Sx x∨T x) w6 Jg (.agg [.map sm]) (fun nm=>K8 M nm):=by
   have h5:=JkV (O:=fun x=>Df sm Sx x∨T x) C L5 (fun _ h=> .inl h) fun x hx=>(hO x hx).1;exact fun R w' g' hd nm K hK=>h5 R w' (r6.no.tr g') hd nm K hK
  have hO6:∀x,(Df sm Sx x∨T x)→x<w6.next∧¬S5 x∧x≠w3.next+1∧x≠w3.next:=fun x hx=>⟨by have:=(hO x hx).1;omega,(hO x hx).2⟩;have hxv:=hxs6;obtain⟨hv,xb,rfl,hxh,hxb⟩:=hxv
  have hW:JdW tab (fun x=>Df sm Sx x∨T x) S5 r ts M b o i (w3.next+1) w3.next sm w5.next tv5 hv xb w6:=by
   refine⟨fun R w' g' hd=>?_,t5.step0 r6,hst6,c6,hO6,fun h=>by have:=hS5l _ h;omega,by omega,by omega⟩;obtain⟨h1,_,v,u,h2,h3,h4⟩:=stay0 R w' (g26.no.tr g') fun x hx=>hd x (.inr hx);exact⟨h1,v,u,h2,h3.mono fun _ h=> .inr h,C8 h4 fun _ h=> .inr h⟩
  have ext:∀w',Frm (fun x=>S5 x∨x=w3.next+1∨x=w3.next) w6 w'→Frm (fun _=>False) w2 w':=fun w' g'=>g26.trans g' (fun _ _ h=>h) fun x hx h=>by
   rcases h with h|h|h
   ·have:=hS5l x h;omega
   ·omega
   ·omega
  refine Lb 1000 (by simp only[go_sem,K5,s6,hcm,FC,FD];rfl) ?_
  refine Ju1 (K:=fun v aw'=>v = .bool true∧Frm (fun _=>False) aw aw') C I P hW hGr hLT Fh hln hFM hFlen hfx4 hDM hDL hDlen hcs (hF.frm g26 fun _ _ h=>h) (fun x hx=>by have:=hSfa x hx;omega) (hD.frm g26 fun _ _ h=>h) (fun x hx=>by
   have:=hSd x hx;exact⟨by omega,fun h=>by have:=hS5l x h;omega,by omega,by omega⟩) ⟨(Fg f1),(Fg f2),(Fg f3),(Fg f10),(Fg f11)⟩ Fb Fb hil (fun w' g'=>⟨rfl,(g02.tr g26).tr g'⟩) (fun f' w' hF' g'=>?_) fun f' w' hF' g'=>?_
  ·obtain⟨f1,f2,f3,f10,f11⟩:=hF';refine Fz (by simp only[go_sem,K5,f11,hwr];rfl) ?_;exact ih _ _ _ Fh ⟨i+1,⟨(Fg f1),(Fg f2),(Fg f3),(Fg f10),Fb⟩,g26.tr g',by omega,rfl⟩
  ·obtain⟨f1,f2,f3,f10,f11⟩:=hF';refine Fz (by simp only[go_sem,K5,f11,hwr];rfl) ?_;exact ih _ _ _ Fh ⟨i+1,⟨(Fg f1),(Fg f2),(Fg f3),(Fg f10),Fb⟩,ext _ g',by omega,rfl⟩
 ·rintro f w g;refine K6 1000 Fe ?_;refine K7 ⟨_,by simp only[go_sem,K5,Zl];rfl,?_⟩;exact⟨rfl,g02.tr g⟩
end Go.Proofs.YtegdcbdicpfbpaaGreatDoor
namespace Go.AE
open Go.RowKit Go.ChangeShapes
variable [Globs]
omit [Globs] in
theorem Jm2 {n esz:Nat}{c:Cap}(h:JpK n c):ED esz n c:=by
 cases c with
 | known k=>exact h
 | upTo z=>exact .inr h
end Go.AE
namespace Go
variable {H:Type} {enc:TypeId×Value→H}
theorem Ji1 {a:Assume}{C:Checked}{os:Os}{f:FuncId}{fn:Func}{s:ChangeSpec}{conds:List PathCond}{apart fresh handsOn again:Bool}{X:World→Array Value→Prop}(hX:∀(w w':World) (args:Array Value),w.heap=w'.heap→X w args→X w' args)(own:ownKnob C.prog.godebug=none)(started:os.Started)(noInit:C.prog.inits.idxOf? f=none)(hfn:C.prog.funcs[f]? = some fn)(witness:∃(w:World) (tape:Tape) (i:Input),w.os=os∧(w.forCall tape i).Shaped C.prog∧i.vars=[]∧Input.okWide C.prog (w.forCall tape i) .any w.heap.size f i∧ ((s.pre enc C.prog fn conds apart (w.forCall tape i).memory i.args∧X (w.forCall tape i).memory i.args)∧sizedMet enc C.prog fn (OpenSpec.ofChange s) apart (w.forCall tape i).memory i.args)∧a.holds C.prog (lone (Frame.enter C.prog f i.args .normal) [] (w.forCall tape i)))(contract:∀(W:World) (base:Nat) (args:Array Value) (ds gs:List (DataW H)) (before:List MemPlace), (∀(j:Nat) t v,fn.params[j]? = some t→args[j]? = some v→Value.okWide C.prog W .any base t v)→ DataW.Whole enc C.prog fn.params.toList s.vars apart W args.toList ds gs before→ conds.all (PathCond.test C.prog ⟨fn.params.toList,ds,s.plain.varTypes C.prog,gs⟩)=true→ (DataW.weightsEach C.prog (fn.params.toList++s.plain.varTypes C.prog) (ds++gs)).all (·≤reachBytes)=true→X W args→ W.ShapedOpen C.prog→ a.holds C.prog (lone (Frame.enter C.prog f args .normal) [] W)→ Calls C.prog f args W fun e W'=>∃v,e = .returned v∧s.post enc C.prog fn apart fresh handsOn again W args v W'): ReturnsInHanded a C os f .any (fun w args=>(s.pre enc C.prog fn conds apart w args∧X w args)∧sizedMet enc C.prog fn (OpenSpec.ofChange s) apart w args) (s.post enc C.prog fn apart fresh handsOn again):=by
 refine returnsInHanded_of_calls own started noInit witness ?_;intro w tape i _ hsh _ hok hpre hholds;obtain⟨_,_,_,fn',hfn',_,_,_,_,hval⟩:=hok;have e:fn'=fn:=FY (hfn'.symm.trans hfn);subst e;obtain⟨⟨⟨ds,gs,before,hw,hc⟩,hx⟩,hz⟩:=hpre;have hw':=DataW.Whole.of_heap (w':=w.forCall tape i) (by rfl) hw;refine (contract (w.forCall tape i) w.heap.size i.args ds gs before hval hw' hc (hz.weights hw) (hX _ _ _ (by rfl) hx) hsh hholds).mono fun e W' ⟨v,he,hp⟩=>?_;subst he;exact ChangeSpec.post_blind hp
end Go
