/- A part of the proof. -/
import Derived.Test.YtegdcbdicpfbpaaDoorJhO
set_option linter.unusedVariables false
set_option maxRecDepth 10000
set_option linter.unusedSimpArgs false
namespace Go.Proofs.YtegdcbdicpfbpaaDoor
open Go.AE Delphi Val
variable {tab:Tab}
theorem JoS (n:Nat):(List.replicate n [V.nilslice]).flatten=List.replicate n V.nilslice:=by
 induction n with
 | zero=>rfl
 | succ n ih=>rw[List.replicate_succ,List.flatten_cons,ih,List.replicate_succ];rfl
variable {body:List Lt} {order:List Nat}
theorem JhI {head:Lt}{k:Nat}(hal:∀l∈body,l.args.length≤10)(hhl:head.args.length≤10)(hol:order.length≤8):(Jht head body order k).length≤90∧(P9 head body order k).length≤90:=by
 have h1:(Jht head body order k).length≤90:=by
  unfold Jht;rw[FE]
  have:∀(l:List Nat),(l.flatMap fun i=>(H4 body i).args).length≤10*l.length:=by
   intro l;induction l with
   | nil=>simp
   | cons a l ih =>
    rw[Kv,FE,FC]
    have:(H4 body a).args.length≤10:=by
     unfold H4;cases hb:body[a]? with
     | none=>simp[Lt.nil]
     | some l=>exact hal l (FI hb)
    omega
  have h2:=this (order.drop k);have h3:(order.drop k).length≤8:=by rw[Kh];omega
  omega
 exact⟨h1,Kj (Jcr _) h1⟩
theorem JnC (C:Codes tab){jb:Nat}{cells:List V}{O:Fw}{head:Lt}{hv xb ov:V}{w:AW}{K:V→AW→Prop}(hj:CB w jb cells)(hcl:cells.length=15)(h2:HN 1 (cells.drop 2)=some [hv])(h3:HN 1 (cells.drop 3)=some [xb])(h6:HN 1 (cells.drop 6)=some [ov])(hh:Rd O w hv 3 head.args.length (Pl head.args))(hb:RdL (LtC O) O w xb 3 body)(ho:Bt O w ov 1 order.length (PZ order))(hO:∀x,O x→x<w.next∧x≠jb)(holt:∀i∈order,i<body.length)(hal:∀l∈body,l.args.length≤10)(hhl:head.args.length≤10)(hol:order.length≤8)(hbl:body.length≤100)(h:∀w' nv ncs R,CB w' jb (cells.set 10 nv)→nv.one=true→Rd R w' nv 1 (order.length+1) ncs→(∀k,k≤order.length→∃sv,ncs[k]? = some sv∧Rd R w' sv 1 (P9 head body order k).length (H5 (P9 head body order k)))→Frm (fun x=>x=jb) w w'→(∀x,R x→w.next≤x∧x<w'.next)→K (.tuple []) w'): WF tab V8 [.ptr jb 0] w K:=by
 refine HL C.Y8 rfl ?_;have j6:w.load jb 6 1=some [ov]:=CB.ld hj 6 1 _ h6;have hov:=ho.lenV;have hwr:IntKind.wrap .i64 (Int.ofNat order.length+1)=Int.ofNat (order.length+1):=HJ Fh;obtain⟨w1,e1,c1,r1,m1⟩:=PU w (List.replicate (order.length+1) V.nilslice);have hc1:order.length+1≤70368744177664:=Fh;have hc2:(order.length+1)*24≤70368744177664:=Fh;have hnb:jb≠w.next:=by have:=hj.lt;omega
 have hj1:=hj.frm r1 fun h=>h;have s1:w1.store jb 10 [.slice w.next 0 (order.length+1) (.known (order.length+1))]=some (w1.put jb (cells.set 10 (.slice w.next 0 (order.length+1) (.known (order.length+1))))):=hj1.set Fh rfl;have g2:Frm (fun x=>x=jb) w1 (w1.put jb (cells.set 10 (.slice w.next 0 (order.length+1) (.known (order.length+1))))):=HO;have c2:=H3 (l:=cells.set 10 (.slice w.next 0 (order.length+1) (.known (order.length+1)))) hj1.lt;have c1:=c1.frm g2 fun e=>hnb e.symm;obtain⟨w2,e2⟩:∃w2,w2=w1.put jb (cells.set 10 (.slice w.next 0 (order.length+1) (.known (order.length+1)))):=⟨_,rfl⟩;rw[←e2]at s1 g2 c2 c1;have f02:Frm (fun x=>x=jb) w w2:=r1.no.tr g2;have hn2:w2.next=w.next+1:=by rw[e2,Jiw];exact m1
 obtain⟨cells',hc'⟩:∃c,c=cells.set 10 (.slice w.next 0 (order.length+1) (.known (order.length+1))):=⟨_,rfl⟩;rw[←hc']at c2;have hlen':cells'.length=15:=by rw[hc',Km];exact hcl
 have keep:∀i,i≠10→i<15→HN 1 (cells'.drop i)=HN 1 (cells.drop i):=by
  intro i hi hl
  have e:∀(l:List V) (i:Nat),i<l.length→HN 1 (l.drop i)=(l[i]?).map fun x=>[x]:=by
   intro l i h;rw[FL h,FB h];rfl
  rw[e _ _ Fh,e _ _ Fh,hc',List.getElem?_set_ne Fh]
 have q2:HN 1 (cells'.drop 2)=some [hv]:=by rw[keep 2 Fh Fh];exact h2
 have q3:HN 1 (cells'.drop 3)=some [xb]:=by rw[keep 3 Fh Fh];exact h3
 have q6:HN 1 (cells'.drop 6)=some [ov]:=by rw[keep 6 Fh Fh];exact h6
 have q10:HN 1 (cells'.drop 10)=some [.slice w.next 0 (order.length+1) (.known (order.length+1))]:=by
  rw[FL Fh];have:cells'[10]? = some (.slice w.next 0 (order.length+1) (.known (order.length+1))):=by rw[hc',List.getElem?_set_self Fh]
  rw[FB Fh]at this;rw[FX this];rfl
 have j10:w2.load jb 10 1=some [.slice w.next 0 (order.length+1) (.known (order.length+1))]:=CB.ld c2 10 1 _ q10;have hrep:=JoS (order.length+1);refine Fz (by simp only[go_sem,HA,simprocAttr,ZP,Gm,j6,hov,hwr,hc1,hc2,FH,hrep,e1,s1,j10,FC,FD];rfl) ?_
 refine H7 (fun n f w3=>∃i ncs,NdF f jb w.next (order.length+1) i∧Frm (fun x=>x=w.next) w2 w3∧CB w3 w.next ncs∧ncs.length=order.length+1∧(∀k,k<i→∃sv,ncs[k]? = some sv∧Rd (fun x=>w2.next≤x∧x<w3.next) w3 sv 1 (P9 head body order k).length (H5 (P9 head body order k)))∧i≤order.length+1∧n=order.length+1-i)
  (fun f w3=>∃ncs,Frm (fun x=>x=w.next) w2 w3∧CB w3 w.next ncs∧ncs.length=order.length+1∧(∀k,k<order.length+1→∃sv,ncs[k]? = some sv∧Rd (fun x=>w2.next≤x∧x<w3.next) w3 sv 1 (P9 head body order k).length (H5 (P9 head body order k)))) ?_ ?_ (order.length+1)
  ⟨0,_,⟨Fb,Fb,Fb,Fb⟩,Frm.refl _,c1,List.length_replicate ..,fun k hk=>by omega,Nat.zero_le _,rfl⟩
 ·rintro n f w3 ⟨i,ncs,⟨f0,f20,f21,f22⟩,g3,cn,hnl,hns,hi,rfl⟩ ih out;have hn3:=g3.next;by_cases hil:i<order.length+1
  case neg =>
   obtain rfl:i=order.length+1:=Fh;refine HF 1000 (by simp only[go_sem,simprocAttr,ZO,Y7,f21,f22,hil];rfl) ?_;exact out _ _ _ ⟨ncs,g3,cn,hnl,hns⟩ rfl
  have hOw:∀x,O x→¬x=w.next:=fun x hx e=>by have:=(hO x hx).1;omega
  have hOj:∀x,O x→¬x=jb:=fun x hx=>(hO x hx).2;have g03:Frm (fun x=>x=jb∨x=w.next) w w3:=f02.trans g3 (fun _ _ h=> .inl h) fun _ _ h=> .inr h;have hO3:∀x,O x→¬(x=jb∨x=w.next):=fun x hx h=>h.elim (hOj x hx) (hOw x hx);have cj3:CB w3 jb cells':=c2.frm g3 hnb;have j2:w3.load jb 2 1=some [hv]:=CB.ld cj3 2 1 _ q2;have hh3:=hh.frm g03 hO3;obtain⟨w4,e4,c4,r4,m4⟩:=PU w3 ([]:List V);have hE0:BtE (fun x=>x=w3.next) w4 (.slice w3.next 0 0 (.known 0)) 0 []:=.inr ⟨rfl,rfl,_,rfl,rfl,c4⟩;obtain⟨v5,w5,R5,a1,a2,a3,a4⟩:=hE0.addN (k:=head.args.length) (news:=Pl head.args) (fun x hx=>by omega) (JiN _) (JiO _) Fh;rw[FU,List.nil_append]at a2;have hel4:=(hh3.frm r4 fun _ _ h=>h).elems;have j2':w4.load jb 2 1=some [hv]:=CB.ld (cj3.frm r4 fun h=>h) 2 1 _ q2;have g35:Frm (fun _=>False) w3 w5:=r4.trans a3 (fun _ _ h=>h) fun x hx h=>by omega
  have hn5:=g35.next;have cj5:=cj3.frm g35 fun h=>h;have j6':w5.load jb 6 1=some [ov]:=CB.ld cj5 6 1 _ q6;have ho5:Bt O w5 ov 1 order.length (PZ order):=(ho.frm g03 hO3).frm g35 fun _ _ h=>h;have hb5:RdL (LtC O) O w5 xb 3 body:=(hb.frm (fun _ _ h=>h.frm g03 hO3) g03 hO3).frm (fun _ _ h=>h.frm g35 fun _ _ h=>h) g35 fun _ _ h=>h;have hR5:∀x,R5 x→w3.next≤x∧x<w5.next:=fun x hx=>⟨by rcases (a4 x hx).2 with h|h<;>omega,(a4 x hx).1⟩;have hjl:=hj.lt
  have rest:∀(fr:Fr) (ov':V),NdF fr jb w.next (order.length+1) i→fr.get 2=some (.int .i64 (Int.ofNat i))→fr.get 3=some v5→fr.get 39=some ov'→fr.get 40=some (.int .i64 (Int.ofNat (order.length-i)))→fr.get 41=some (.int .i64 (Int.ofNat 0))→Rd O w5 ov' 1 (order.length-i) (PZ (order.drop i))→WS tab (.code (.loop ZN) :: .endB 2 :: .code Vf :: .endB 1 :: .code (.region [⟨some 65,none,.bin .add (.tmp 22) (.const (.int .i64 1))⟩,⟨some 22,none,.mov (.tmp 65)⟩]) :: .code (.loop ZO) :: .endB 0::[]) fr w5 (fun fr' aw'=>∃vs,PV fr' aw' ZP.results=some vs∧K (Ph vs) aw'):=by
   intro fr ov' hF h2' h3' h39 h40 h41 hro;refine Jjh (R:=R5) (O:=O) (k:=i) (nb:=w.next) (xb:=xb) (body:=body) (cells:=cells') C cj5 q3 hb5 (fun x hx=>⟨by have:=(hO x hx).1;omega,fun hh=>by have:=(hR5 x hh).1;have:=(hO x hx).1;omega⟩) (fun hh=>by have:=(hR5 _ hh).1;omega) (fun x hx=>(hR5 x hx).2) (fun hh=>by have:=(hR5 _ hh).1;omega) hro holt hal Fh Fh hbl hF h2' h3' h39 h40 h41 a2 hhl (fun f6 w6 v6 R6 hF6 k2 k3 b1 b2 b3=>?_);obtain⟨k0,k20,k21,k22⟩:=hF6;have hn6:=b2.next;have g36:Frm (fun _=>False) w3 w6:=g35.trans b2 (fun _ _ h=>h) fun x hx h=>by have:=(hR5 x h).1;omega
   have cj6:=cj3.frm g36 fun h=>h;have k10:w6.load jb 10 1=some [.slice w.next 0 (order.length+1) (.known (order.length+1))]:=CB.ld cj6 10 1 _ q10;have hbd:=JhI (head:=head) (body:=body) (order:=order) (k:=i) hal hhl hol;have hbd1:(head.args++(order.drop i).flatMap fun i=>(H4 body i).args).length≤90:=hbd.1;refine Fz (by simp only[go_sem,HA,simprocAttr,Vf];rfl) ?_;refine Pp ?_;refine H0 100 (by simp only[go_sem,HA,simprocAttr,k0,k2,k3,k10];rfl) ?_;refine PD Ff Fe ?_;refine JdI C b1.rd Fh fun v7 w7 S7 u1 u2 u3=>?_;have g37:=g36.tr u2;have cn7:=cn.frm g37 fun h=>h;have k10':w7.load jb 10 1=some [.slice w.next 0 (order.length+1) (.known (order.length+1))]:=CB.ld (cj6.frm u2 fun h=>h) 10 1 _ q10;have st:=cn7.set (i:=i) (v:=v7) Fh u1.one.1;have st:w7.store w.next (0+i*1) [v7]=some (w7.put w.next (ncs.set i v7)):=by rw[FU,Kz];exact st
   have g8:Frm (fun x=>x=w.next) w7 (w7.put w.next (ncs.set i v7)):=HO;have c8:=H3 (l:=ncs.set i v7) cn7.lt;have hwi:IntKind.wrap .i64 (Int.ofNat i+1)=Int.ofNat (i+1):=HJ Fh;have hn8:(w7.put w.next (ncs.set i v7)).next=w7.next:=Jiw;have hvc:=u1.one.2;refine H0 100 (by simp only[go_sem,HA,simprocAttr,k0,k2,k20,hil,st,hvc];rfl) ?_;refine Pr ⟨(show HW _ _ [(3,6)]from by simp only[go_sem,HA,simprocAttr,HW,chk,List.reverse_cons,List.reverse_nil,Pk,Pv,Pt,Pu,List.getElem?_nil,false_or,or_true,or_false,exists_eq',FP,Prod.mk.injEq,Bool.true_eq_false,FM,and_true,true_and,implies_true,k10,k10']),?_⟩;obtain⟨w8,e8⟩:∃w8,w8=w7.put w.next (ncs.set i v7):=⟨_,rfl⟩;rw[←e8]at g8 c8 hn8 ⊢;refine Fz (by simp only[go_sem,HA,simprocAttr,k22,hwi];rfl) ?_;have hn7:=g37.next;refine ih _ _ _ Fh ⟨i+1,ncs.set i v7,⟨(by simp only[go_sem,HA,simprocAttr,k0]<;>rfl),(by simp only[go_sem,HA,simprocAttr,k20]<;>rfl),(by simp only[go_sem,HA,simprocAttr,k21]<;>rfl),Fb⟩,(g3.tr g37.no).tr g8,c8,by rw[Km];exact hnl,fun k hk=>?_,by omega,rfl⟩;by_cases hki:k=i
   ·subst hki;refine⟨v7,List.getElem?_set_self Fh,?_⟩;have e9:P9 head body order k=Pm (head.args++(order.drop k).flatMap fun i=>(H4 body i).args):=rfl;rw[e9];refine (u1.rd.frm g8 fun x hx h=>by have:=(u3 x hx).1;omega).mono fun x hx=>?_;have:=u3 x hx;exact⟨by omega,by omega⟩
   ·obtain⟨sv,hsv,hr⟩:=hns k Fh;refine⟨sv,by rw[List.getElem?_set_ne Fh];exact hsv,?_⟩;exact ((hr.frm g37 fun _ _ h=>h).frm g8 fun x hx h=>by omega).mono fun x hx=>⟨hx.1,by omega⟩
  rcases Joj ho5 (k:=i) Fh with⟨rfl,hn0⟩|⟨ob,rfl,hsl,hrd⟩
  ·obtain rfl:i=0:=Fh;have hod:order.length-0=0:=Fh;have hor:order=[]:=List.length_eq_zero_iff.1 hn0;have hlo:lenV V.nilslice=some 0:=rfl;refine Fz (by simp only[go_sem,HA,simprocAttr,ZO,Y7,Vh,Vg,f0,f21,f22,hil,HI,HQ,e4,j2',hel4,a1,j6',hlo];rfl) ?_;refine rest _ .nilslice ⟨(Fg f0),(Fg f20),(Fg f21),(Fg f22)⟩ Fb Fb Fb (by rw[hod];exact Fb) Fb ?_;rw[hod,hor];exact .nil
  ·have hnd:PZ (order.drop i)=(PZ order).drop i:=by unfold PZ;rw[List.map_drop]
   refine Fz (by simp only[go_sem,HA,simprocAttr,ZO,Y7,Vh,Vg,f0,f21,f22,hil,HI,HQ,e4,j2',hel4,a1,j6',hsl];rfl) ?_;refine rest _ _ ⟨(Fg f0),(Fg f20),(Fg f21),(Fg f22)⟩ Fb Fb Fb Fb Fb ?_;rw[hnd];exact hrd
 ·rintro f w3 ⟨ncs,g3,cn,hnl,hns⟩;refine HB 1000 Fe ?_;refine JaK ⟨_,by simp only[go_sem,HA,simprocAttr,ZP];rfl,?_⟩;have hn3:=g3.next;have hnx:w.next<w3.next:=Fh;refine h w3 (.slice w.next 0 (order.length+1) (.known (order.length+1))) ncs (fun x=>w.next≤x∧x<w3.next) (by rw[←hc'];exact c2.frm g3 hnb) rfl ?_ ?_ (f02.trans g3 (fun _ _ h=>h) fun x hx h=>by omega) fun x hx=>hx
  ·exact .blk ⟨FH _,hnx⟩ cn.lt cn.get (.inl rfl) Fh (by rw[FY,FW Fh]) (FH _)
  ·intro k hk;obtain⟨sv,h4,h5⟩:=hns k Fh;exact⟨sv,h4,h5.mono fun x hx=>⟨by omega,hx.2⟩⟩
section
open Go.AE Delphi
variable {tab:Tab}
variable {cs new:List V} {i:Nat}
theorem JoL {k:Nat}(hl:new.length=k)(hi:i+k≤cs.length):over cs i new=some (cs.take i++new++cs.drop (i+k)):=by
 have h:=JbL (cs.take i) ((cs.drop i).take k) (cs.drop (i+k)) new (by rw[FT,Kh];omega)
 have e:cs.take i++(cs.drop i).take k++cs.drop (i+k)=cs:=by
  rw[F5];have:(cs.drop i).take k++cs.drop (i+k)=cs.drop i:=by rw[←List.drop_drop];exact List.take_append_drop k (cs.drop i)
  rw[this,List.take_append_drop]
 rw[e,FT,KA Fh]at h;exact h
variable {S:Fw} {w:AW} {v:V}
theorem Jpm {esz n:Nat}(h:Bt S w v esz n cs)(hi:i<n)(hl:new.length=esz)(h1:HM new=true): ∃b w',v = .slice b 0 n (.upTo esz)∧w.store b (i*esz) new=some w'∧Bt S w' v esz n (cs.take (i*esz)++new++cs.drop (i*esz+esz))∧Frm S w w'∧w'.next=w.next:=by
 cases h with
 | nil=>omega
 | @blk b _ _ _ sh hS hb hx hlen he hn hs =>
  have hle:i*esz+esz≤cs.length:=by rw[hlen];have:=Nat.mul_le_mul_right esz (show i+1≤n by omega);rw[Nat.add_mul]at this;omega
  have ho:=JoL (cs:=cs) (i:=i*esz) hl hle;have fr:Frm S w (w.turn b (.cells (cs.take (i*esz)++new++cs.drop (i*esz+esz)) sh)):=Jal hS hs;refine⟨b,_,rfl,Jcx hx hs h1 ho,.blk (sh:=sh) hS hb T.get_put_same ?_ he hn (JiP hb hs),fr,rfl⟩;simp only[FE,FT,Kh];rw[hl];omega
def kyC (k:Ky):List V:=[.int .i64 (Int.ofNat k.2.2),.bool k.1,.int .i64 (Int.ofNat k.2.1)]
def JaG (ks:List Ky):List V:=(ks.map kyC).flatten
theorem Jd1 (a b:List Ky):JaG (a++b)=JaG a++JaG b:=by simp[JaG]
theorem JfD:∀ks:List Ky,(JaG ks).length=ks.length*3
 | []=>rfl
 | k::ks=>by
  have:JaG (k::ks)=kyC k++JaG ks:=rfl;rw[this,FE,JfD ks,FC];simp[kyC];omega
variable {ks:List Ky}
theorem Jnp (hi:i<ks.length)(k:Ky):(JaG ks).take (i*3)++kyC k++(JaG ks).drop (i*3+3)=JaG (ks.set i k):=by
 have e0:ks=ks.take i++(ks[i]::ks.drop (i+1)):=by
  rw[←FL hi,List.take_append_drop]
 have e1:JaG ks=JaG (ks.take i)++(kyC ks[i]++JaG (ks.drop (i+1))):=by
  conv=>lhs;rw[e0]
  rw[Jd1];rfl
 have l1:(JaG (ks.take i)).length=i*3:=by rw[JfD,FT,KA Fh]
 have l2:(kyC ks[i]).length=3:=rfl
 have e2:ks.set i k=ks.take i++k::ks.drop (i+1):=by
  rw[List.set_eq_take_append_cons_drop,if_pos hi]
 rw[e1,e2,Jd1];have:JaG (k::ks.drop (i+1))=kyC k++JaG (ks.drop (i+1)):=rfl;rw[this,List.take_append_of_le_length Fh,FW Fh,F5]
 congr 2
 rw[←l1,List.drop_append,List.drop_eq_nil_of_le Fh,List.nil_append,Nat.add_sub_cancel_left,←l2,List.drop_left]
abbrev QB (S:Fw) (w:AW) (v:V) (ks:List Ky):Prop:=Bt S w v 3 ks.length (JaG ks)
theorem Jmb (h:QB S w v ks)(hi:i<ks.length)(k:Ky): ∃b w',v = .slice b 0 ks.length (.upTo 3)∧w.store b (i*3) (kyC k)=some w'∧QB S w' v (ks.set i k)∧Frm S w w'∧w'.next=w.next:=by
 obtain⟨b,w',h1,h2,h3,h4,h5⟩:=Jpm h hi (new:=kyC k) rfl rfl;rw[Jnp hi]at h3;exact⟨b,w',h1,h2,by show Bt S w' v 3 (ks.set i k).length _;rw[Km];exact h3,h4,h5⟩
theorem Jb4 (h:QB S w v ks){k:Ky}(hk:ks[i]? = some k):∃b,v = .slice b 0 ks.length (.upTo 3)∧S b∧b<w.next∧w.load b (i*3) 3=some (kyC k):=by
 have hi:i<ks.length:=(List.getElem?_eq_some_iff.1 hk).1;rcases h.inv with⟨_,h0,_⟩|⟨b,rfl,hS,hb⟩
 ·omega
 rcases h.rd.inv with⟨q,_⟩|⟨b',o',c',q,hB⟩
 ·cases q
 cases q;refine⟨b,rfl,hS,hb,?_⟩;have:=hB.load (i*3) 3 Fh;rw[FU]at this;rw[this];refine congrArg some ?_
 have e0:ks=ks.take i++(k::ks.drop (i+1)):=by
  have:=FB hi;rw[this]at hk;cases hk;rw[←FL hi,List.take_append_drop]
 have l1:(JaG (ks.take i)).length=i*3:=by rw[JfD,FT,KA Fh]
 have e1:JaG ks=JaG (ks.take i)++(kyC k++JaG (ks.drop (i+1))):=by
  conv=>lhs;rw[e0]
  rw[Jd1];rfl
 rw[e1,←l1,List.drop_left];rfl
theorem JfJ (C:Codes tab){j:Nat}{a b:Ky}{K:V→AW→Prop}(h:QB S w v ks)(hi:ks[i]? = some a)(hj:ks[j]? = some b)(hK:∀w',Frm (fun _=>False) w w'→K (.bool (PT a b)) w'):WF tab JW [v,.int .i64 (Int.ofNat i),.int .i64 (Int.ofNat j)] w K:=by
 refine HL C.Wj rfl ?_;have hil:i<ks.length:=(List.getElem?_eq_some_iff.1 hi).1;have hjl:j<ks.length:=(List.getElem?_eq_some_iff.1 hj).1;obtain⟨bl,rfl,hS,hb,l1⟩:=Jb4 h hi;obtain⟨bl',e,_,_,l2⟩:=Jb4 h hj;cases e;have g1:=HU (S:=fun _=>False) w [V.int .i64 0,V.bool false,V.int .i64 0];have m1:(w.fresh [V.int .i64 0,V.bool false,V.int .i64 0]).next=w.next+1:=rfl;have c1:=Pw w [V.int .i64 0,V.bool false,V.int .i64 0];have h1:=h.frm g1 fun _ _ h=>h;generalize hw1:w.fresh [V.int .i64 0,V.bool false,V.int .i64 0]=w1 at g1 m1 c1 h1;have g2:=HU (S:=fun _=>False) w1 [V.int .i64 0,V.bool false,V.int .i64 0];have m2:(w1.fresh [V.int .i64 0,V.bool false,V.int .i64 0]).next=w1.next+1:=rfl;have c2:=Pw w1 [V.int .i64 0,V.bool false,V.int .i64 0];have h2:=h1.frm g2 fun _ _ h=>h;have c12:=c1.frm g2 fun h=>h;generalize hw2:w1.fresh [V.int .i64 0,V.bool false,V.int .i64 0]=w2 at g2 m2 c2 h2 c12;have s3:=c12.setAll (vs:=kyC a) rfl rfl;have p3:Frm (fun x=>x=w.next) w2 (w2.put w.next (kyC a)):=HO;have c3:CB (w2.put w.next (kyC a)) w.next (kyC a):=H3 c12.lt;have c23:=c2.frm p3 (by show ¬w1.next=w.next;omega);have f3:Frm (fun _=>False) w (w2.put w.next (kyC a)):=(g1.tr g2).out (FH _) rfl;generalize hw3:w2.put w.next (kyC a)=w3 at s3 p3 c3 c23 f3;have s4:=c23.setAll (vs:=kyC b) rfl rfl;have p4:Frm (fun x=>x=w1.next) w3 (w3.put w1.next (kyC b)):=HO;have c4:CB (w3.put w1.next (kyC b)) w1.next (kyC b):=H3 c23.lt;have c34:=c3.frm p4 (by show ¬w.next=w1.next;omega);have f4:Frm (fun _=>False) w (w3.put w1.next (kyC b)):=f3.out Fh rfl;generalize hw4:w3.put w1.next (kyC b)=w4 at s4 p4 c4 c34 f4;obtain⟨x1,e,_,_,a1⟩:=Jb4 h1 hi;cases e;obtain⟨x1,e,_,_,a2⟩:=Jb4 h2 hi;cases e;obtain⟨x1,e,_,_,b1⟩:=Jb4 h1 hj;cases e;obtain⟨x1,e,_,_,b2⟩:=Jb4 h2 hj;cases e;obtain⟨x1,e,_,_,b3⟩:=Jb4 (h.frm f3 fun _ _ h=>h) hj;cases e;have u0:w4.load w.next 0 1=some [.int .i64 (Int.ofNat a.2.2)]:=by rw[c34.load];rfl
 have u1:w4.load w.next 1 1=some [.bool a.1]:=by rw[c34.load];rfl
 have u2:w4.load w.next 2 1=some [.int .i64 (Int.ofNat a.2.1)]:=by rw[c34.load];rfl
 have v0:w4.load w1.next 0 1=some [.int .i64 (Int.ofNat b.2.2)]:=by rw[c4.load];rfl
 have v1:w4.load w1.next 1 1=some [.bool b.1]:=by rw[c4.load];rfl
 have v2:w4.load w1.next 2 1=some [.int .i64 (Int.ofNat b.2.1)]:=by rw[c4.load];rfl
 have ka:(kyC a).length=3:=rfl;have kb:(kyC b).length=3:=rfl;have hK:=hK w4 f4;refine Fz (by simp only[go_sem,HA,simprocAttr,Jr,Hm];rfl) ?_;refine Pp ?_;refine H0 100 (by simp only[go_sem,HA,simprocAttr,hil,hjl,l1,l2,hw1,hw2,s3,s4,ka,kb,FU];rfl) ?_;refine Pr ⟨(show HW _ _ [(3,8),(3,9),(7,8),(7,9),(7,10)]from by simp only[go_sem,HA,simprocAttr,HW,chk,List.reverse_cons,List.reverse_nil,Pk,Pv,Pt,Pu,List.getElem?_nil,false_or,or_true,or_false,exists_eq',FP,Prod.mk.injEq,Bool.true_eq_false,FM,and_true,true_and,implies_true,hil,hjl,l1,l2,a1,a2,b1,b2,b3,FU]),?_⟩;obtain⟨x1,x2,x3⟩:=a;obtain⟨y1,y2,y3⟩:=b;simp only at u0 u1 u2 v0 v1 v2 hK;by_cases hn:x2=y2
 ·subst hn;cases x1<;>cases y1<;>simp only[PT,ne_eq,not_true_eq_false,if_false,reduceCtorEq,not_false_eq_true,if_true]at hK
  ·refine Fz (by simp only[go_sem,HA,simprocAttr,JI,Yc,VT,u0,u1,u2,v0,v1,v2,eqV];rfl) ?_;refine HC ⟨_,by simp only[go_sem,HA,simprocAttr,Jr];rfl,?_⟩;exact hK
  ·refine Fz (by simp only[go_sem,HA,simprocAttr,JI,Yb,u0,u1,u2,v0,v1,v2,eqV];rfl) ?_;refine HC ⟨_,by simp only[go_sem,HA,simprocAttr,Jr];rfl,?_⟩;exact hK
  ·refine Fz (by simp only[go_sem,HA,simprocAttr,JI,Yb,u0,u1,u2,v0,v1,v2,eqV];rfl) ?_;refine HC ⟨_,by simp only[go_sem,HA,simprocAttr,Jr];rfl,?_⟩;exact hK
  ·refine Fz (by simp only[go_sem,HA,simprocAttr,JI,Yc,VT,u0,u1,u2,v0,v1,v2,eqV];rfl) ?_;refine HC ⟨_,by simp only[go_sem,HA,simprocAttr,Jr];rfl,?_⟩;exact hK
 ·cases x1<;>cases y1<;>simp only[PT,ne_eq,not_true_eq_false,if_false,reduceCtorEq,not_false_eq_true,if_true,hn]at hK
  ·refine Fz (by simp only[go_sem,HA,simprocAttr,JI,Yc,VS,u0,u1,u2,v0,v1,v2,eqV,hn];rfl) ?_;refine HC ⟨_,by simp only[go_sem,HA,simprocAttr,Jr];rfl,?_⟩;exact hK
  ·refine Fz (by simp only[go_sem,HA,simprocAttr,JI,Yb,u0,u1,u2,v0,v1,v2,eqV];rfl) ?_;refine HC ⟨_,by simp only[go_sem,HA,simprocAttr,Jr];rfl,?_⟩;exact hK
  ·refine Fz (by simp only[go_sem,HA,simprocAttr,JI,Yb,u0,u1,u2,v0,v1,v2,eqV];rfl) ?_;refine HC ⟨_,by simp only[go_sem,HA,simprocAttr,Jr];rfl,?_⟩;exact hK
  ·refine Fz (by simp only[go_sem,HA,simprocAttr,JI,Yc,VS,u0,u1,u2,v0,v1,v2,eqV,hn];rfl) ?_;refine HC ⟨_,by simp only[go_sem,HA,simprocAttr,Jr];rfl,?_⟩;exact hK
end
end Go.Proofs.YtegdcbdicpfbpaaDoor
namespace Delphi
def Jcm (ks:List Ky) (i j:Nat) (a b:Ky):List Ky:=(ks.set i b).set j a
variable {ks:List Ky} {i j:Nat} {a b:Ky}
theorem JeS:(Jcm ks i j a b).length=ks.length:=by simp[Jcm]
theorem Ja9 {p:Nat}(hi:i<ks.length)(hj:j<ks.length):(Jcm ks i j a b)[p]? = if j=p then some a else if i=p then some b else ks[p]?:=by
 unfold Jcm;rw[Ko,Ko];by_cases e1:j=p
 ·subst e1;simp[hj]
 ·by_cases e2:i=p
  ·subst e2;simp[e1,hi]
  ·simp[e1,e2]
theorem Jmt (ha:ks[i]? = some a)(hb:ks[j]? = some b)(k:Ky):k∈Jcm ks i j a b↔k∈ks:=by
 have hi:i<ks.length:=(List.getElem?_eq_some_iff.1 ha).1;have hj:j<ks.length:=(List.getElem?_eq_some_iff.1 hb).1;rw[List.mem_iff_getElem?,List.mem_iff_getElem?];constructor
 ·rintro⟨p,hp⟩;rw[Ja9 hi hj]at hp;split at hp
  ·exact⟨i,by rw[ha];exact hp⟩
  ·split at hp
   ·exact⟨j,by rw[hb];exact hp⟩
   ·exact⟨p,hp⟩
 ·rintro⟨p,hp⟩;by_cases e1:p=i
  ·subst e1;exact⟨j,by rw[Ja9 hi hj,if_pos rfl,←hp,ha]⟩
  ·by_cases e2:p=j
   ·subst e2;refine⟨i,?_⟩;rw[Ja9 hi hj];by_cases e3:p=i
    ·exact absurd e3 e1
    ·rw[if_neg e3,if_pos rfl,←hp,hb]
   ·exact⟨p,by rw[Ja9 hi hj,if_neg fun h=>e2 h.symm,if_neg fun h=>e1 h.symm];exact hp⟩
def Jev (ks:List Ky):Prop:=∃m,ks[0]? = some m∧∀k∈ks,k=m∨PT m k=true
end Delphi
namespace Go.Proofs.YtegdcbdicpfbpaaDoor
open Go.AE Delphi
variable {tab:Tab}
variable {S:Fw} {v:V} {ks:List Ky} {K:V→AW→Prop}
theorem JfK (C:Codes tab){w:AW}{i j:Nat}{a b:Ky}(h:QB S w v ks)(hi:ks[i]? = some a)(hj:ks[j]? = some b)(hK:∀w',QB S w' v (Jcm ks i j a b)→Frm S w w'→w'.next=w.next→K (.tuple []) w'):WF tab JX [v,.int .i64 (Int.ofNat i),.int .i64 (Int.ofNat j)] w K:=by
 refine HL C.Wp rfl ?_;have hil:i<ks.length:=(List.getElem?_eq_some_iff.1 hi).1;have hjl:j<ks.length:=(List.getElem?_eq_some_iff.1 hj).1;obtain⟨bl,rfl,hS,hb,l1⟩:=Jb4 h hi;obtain⟨bl',e,_,_,l2⟩:=Jb4 h hj;cases e;obtain⟨bl',w1,e,s1,h1,f1,n1⟩:=Jmb h hil b;cases e;obtain⟨bl',w2,e,s2,h2,f2,n2⟩:=Jmb h1 (by rw[Km];exact hjl) a;rw[Km]at e;cases e;have ka:(kyC a).length=3:=rfl;have kb:(kyC b).length=3:=rfl;refine Fz (by simp only[go_sem,HA,simprocAttr,Wo,hil,hjl,l1,l2,s1,s2,ka,kb,FU];rfl) ?_;refine JaK ⟨_,by simp only[go_sem,HA,simprocAttr,Wo];rfl,?_⟩;exact hK w2 h2 (f1.tr f2) (n2.trans n1)
def QQ (S:Fw) (w:AW) (v:V) (ks:List Ky):Prop:=(ks=[]∧∃b,v = .slice b 0 0 (.known 0))∨(ks≠[]∧QB S w v ks)
theorem JnJ (C:Codes tab){w:AW}{x:Ky}{bq:Nat}(hq:CB w bq [v])(h:QQ S w v ks)(hn:ks.length≤100)(hS:∀y,S y→y<w.next∧y≠bq)(hK:∀w' v' S',CB w' bq [v']→QB S' w' v' (ks++[x])→Frm (fun y=>S y∨y=bq) w w'→(∀y,S' y→y<w'.next∧y≠bq∧(S y∨w.next≤y))→K (.tuple []) w'):WF tab Ut [.ptr bq 0,.iface 126 (.agg (kyC x))] w K:=by
 refine HL C.Wn rfl ?_;obtain⟨w1,s1,c1,r1,m1⟩:=PE w (zs:=[V.int .i64 0,V.bool false,V.int .i64 0]) (vs:=kyC x) rfl rfl;have hq1:=hq.frm r1 fun h=>h;have g2:=HU (S:=fun _=>False) w1 (kyC x);have m2:(w1.fresh (kyC x)).next=w1.next+1:=rfl;have c2:=Pw w1 (kyC x);have el:=PG (w:=w1) (esz:=3) (n:=1) (cs:=kyC x) (c:=.known 1) Fh rfl;have hq2:=hq1.frm g2 fun h=>h;have k3:w1.load w.next 0 3=some (kyC x):=c1.all rfl;have lq:w1.load bq 0 1=some [v]:=hq1.load 0 1;have lq2:(w1.fresh (kyC x)).load bq 0 1=some [v]:=hq2.load 0 1;have hlq:=hq.lt
 have ap:∃v' w3 S3,(w1.fresh (kyC x)).appendV 3 24 v 1 (kyC x)=some (v',w3)∧QB S3 w3 v' (ks++[x])∧Frm S (w1.fresh (kyC x)) w3∧∀y,S3 y→y<w3.next∧(S y∨(w1.fresh (kyC x)).next≤y):=by
  rcases h with⟨rfl,b,rfl⟩|⟨hne,hB⟩
  ·refine⟨.slice (w1.fresh (kyC x)).next 0 1 (.upTo 3),(w1.fresh (kyC x)).fresh (kyC x),fun y=>y=(w1.fresh (kyC x)).next,rfl,?_,HU _ _,?_⟩
   ·exact .blk rfl (FV _) AE.T.get_put_same rfl Fh (by show 0<1;omega) (.inl rfl)
   ·rintro y rfl;exact⟨FV _,.inr (FH _)⟩
  ·obtain⟨v',w3,S3,u1,u2,u3,u4⟩:=((hB.frm r1 fun _ _ h=>h).frm g2 fun _ _ h=>h).addN (news:=kyC x) (k:=1) (bytes:=24) Fh rfl rfl Fh Fh;refine⟨v',w3,S3,u1,?_,u3,u4⟩;show Bt S3 w3 v' 3 (ks++[x]).length (JaG (ks++[x]));rw[Jd1,FE];exact u2
 obtain⟨v',w3,S3,u1,u2,u3,u4⟩:=ap;have hq3:=hq2.frm u3 fun h=>(hS _ h).2 rfl;have st:=hq3.set (i:=0) (v:=v') Fj u2.one.1;have vc:=u2.one.2;have ka:(kyC x).length=3:=rfl;have hov:over [V.int .i64 0,V.bool false,V.int .i64 0] 0 (kyC x)=some (kyC x):=rfl;have pf:Frm (fun y=>y=bq) w3 (w3.put bq ([v].set 0 v')):=HO;have c3:CB (w3.put bq ([v].set 0 v')) bq [v']:=H3 hq3.lt;have nx:=u3.next
 have sep:∀y,S3 y→y<w3.next∧y≠bq∧(S y∨w.next≤y):=by
  intro y hy;obtain⟨q1,q2⟩:=u4 y hy;rcases q2 with q2|q2
  ·exact⟨q1,(hS y q2).2,.inl q2⟩
  ·exact⟨q1,by omega,.inr Fh⟩
 have fin:=hK (w3.put bq ([v].set 0 v')) v' S3 c3 (u2.frm pf fun y hy=>(sep y hy).2.1) (((r1.tr g2).trans (U:=S) u3 (fun _ _ h=>h.elim) fun _ _ h=>h).trans pf (fun _ _ h=> .inl h) fun _ _ h=> .inr h) sep;refine Fz (by simp only[go_sem,HA,simprocAttr,Wm,Hp,s1,ka,FC,FD];rfl) ?_;refine Pp ?_;refine H0 100 (by simp only[go_sem,HA,simprocAttr,lq,k3,HI,HQ,hov,ka,el,u1,vc,st,FC,FD];rfl) ?_;refine Pr ⟨(show HW _ _ [(3,5)]from by simp only[go_sem,HA,simprocAttr,HW,chk,List.reverse_cons,List.reverse_nil,Pk,Pv,Pt,Pu,List.getElem?_nil,false_or,or_true,or_false,exists_eq',FP,Prod.mk.injEq,Bool.true_eq_false,FM,and_true,true_and,implies_true,lq,lq2]),?_⟩;refine JaK ⟨_,by simp only[go_sem,HA,simprocAttr,Wm];rfl,?_⟩;exact fin
def UpI (S:Fw) (bq:Nat) (v:V) (x:Ky) (m:Option Ky) (ks0:List Ky) (aw:AW) (j:Nat) (f:Fr) (w:AW):Prop :=
 ∃ks,f.get 0=some (.iface 120 (.ptr bq 0))∧f.get 1=some (.int .i64 (Int.ofNat j))∧QB S w v ks∧CB w bq [v]∧Frm S aw w∧ks.length=ks0.length∧(∀k,k∈ks↔k∈ks0)∧ks[j]? = some x∧(∀p,ks[p]? = some x→p=j)∧(0<j→ks[0]? = m)∧(j=0→∀k,m=some k→PT x k=true)
theorem Jp7 (C:Codes tab){aw:AW}{bq:Nat}{x:Ky}(hq:CB aw bq [v])(h:QB S aw v (ks++[x]))(hn:ks.length≤100)(hm:ks=[]∨Jev ks)(hx:∀k∈ks,k.2.2≠x.2.2)(hSq:¬S bq)(hK:∀w' ks',QB S w' v ks'→CB w' bq [v]→Frm S aw w'→ks'.length=ks.length+1→(∀k,k∈ks'↔k∈ks∨k=x)→Jev ks'→K (.tuple []) w'):WF tab Uo [.iface 120 (.ptr bq 0),.int .i64 (Int.ofNat ks.length)] aw K:=by
 refine HL C.X5 rfl ?_
 have huq:∀p,(ks++[x])[p]? = some x→p=ks.length:=by
  intro p hp;by_cases hl:p<ks.length
  ·rw[F4 hl]at hp;exact absurd rfl (hx x (FI hp))
  ·have:p<(ks++[x]).length:=(List.getElem?_eq_some_iff.1 hp).1;rw[FE,Ka]at this;omega
 refine Fz (by simp only[go_sem,HA,simprocAttr,X4];rfl) ?_
 refine H7 (UpI S bq v x ks[0]? (ks++[x]) aw) (fun f w=>∃ks',QB S w v ks'∧CB w bq [v]∧Frm S aw w∧ks'.length=ks.length+1∧(∀k,k∈ks'↔k∈ks∨k=x)∧Jev ks') ?_ ?_ ks.length
  ⟨ks++[x],Fb,Fb,h,hq,Frm.refl _,rfl,fun _=>Iff.rfl,by simp,huq,fun h0=>by rw[F4 h0],fun h0 k hk=>by rw[List.length_eq_zero_iff.1 h0]at hk;simp at hk⟩
 ·rintro j f w ⟨ks',f0,f1,hB,hc,hf,hl,hmem,hj,huniq,hroot,hless⟩ ih exit;have hmem':∀k,k∈ks'↔k∈ks∨k=x:=fun k=>by rw[hmem];simp
  have hll:ks'.length=ks.length+1:=by rw[hl];simp
  have hjl:j<ks'.length:=(List.getElem?_eq_some_iff.1 hj).1
  have done0:j=0→Jev ks':=by
   rintro rfl;refine⟨x,hj,fun k hk=>?_⟩;rcases (hmem' k).1 hk with hk|rfl
   ·right;rcases hm with rfl|⟨m,hm0,hmin⟩
    ·simp at hk
    ·have h1:=hless rfl m hm0;rcases hmin k hk with rfl|h2
     ·exact h1
     ·exact Jff h1 h2
   ·exact .inl rfl
  by_cases hz:j=0
  ·have e0:Int.ofNat j=0:=by rw[hz];rfl
   have e1:IntKind.wrap .i64 (Int.ofNat j-1) = -1:=by rw[e0];rfl
   have e2:IntKind.wrap .i64 (Int.tdiv (-1) 2)=0:=rfl;have e3:((0:Int)==Int.ofNat j)=true:=by rw[e0];rfl
   refine HF 1000 (by simp only[go_sem,Nat.reduceAdd,Nat.reduceLT,Nat.reduceEqDiff,reduceIte,reduceCtorEq,Int.reduceBEq,Int.reduceBNe,Int.reduceLT,Int.reduceLE,Int.reduceGT,Int.reduceGE,Int.reduceEq,Int.reduceAdd,Int.reduceSub,Int.reduceMul,Nat.reduceMul,Nat.reduceSub,Nat.reduceLeDiff,VN,VM,f0,f1,e1,e2,e3];rfl) ?_;exact exit _ _ _ ⟨ks',hB,hc,hf,hll,hmem',done0 hz⟩ rfl
  have e1:IntKind.wrap .i64 (Int.ofNat j-1)=Int.ofNat (j-1):=by
   have a1:Int.ofNat j=(j:Int):=rfl;have a2:Int.ofNat (j-1)=((j-1:Nat):Int):=rfl;rw[JaX]<;>omega
  have e2:IntKind.wrap .i64 (Int.tdiv (Int.ofNat (j-1)) 2)=Int.ofNat ((j-1) / 2):=by
   have a3:Int.tdiv (Int.ofNat (j-1)) 2=Int.ofNat ((j-1) / 2):=rfl;have a4:Int.ofNat ((j-1) / 2)=(((j-1) / 2:Nat):Int):=rfl;rw[a3,JaX]<;>omega
  have hij:(j-1) / 2<j:=Fh;generalize (j-1) / 2=i at e2 hij;have hne:¬i=j:=Fh;obtain⟨a,ha⟩:∃a,ks'[i]? = some a:=⟨_,FB Fh⟩;have lq:w.load bq 0 1=some [v]:=hc.load 0 1;have hroot:=hroot Fh;refine Fz (by simp only[go_sem,HA,simprocAttr,VN,VM,f0,f1,e1,e2,hne,H8,lq];rfl) ?_;refine HD (by simp only[go_sem,HA,simprocAttr,H8,lq]) (by simp only[go_sem,HA,simprocAttr,H8,lq];rfl) ?_;refine JfJ C hB hj ha fun w2 g2=>?_;have hB2:=hB.frm g2 fun _ _ h=>h;have hc2:=hc.frm g2 fun h=>h;have lq2:w2.load bq 0 1=some [v]:=hc2.load 0 1;have hf2:Frm S aw w2:=hf.tr g2.no;cases hlk:PT x a with
  | false =>
   refine HF 1000 (by simp only[go_sem,simprocAttr,f0,f1];rfl) ?_;refine exit _ _ _ ⟨ks',hB2,hc2,hf2,hll,hmem',?_⟩ rfl;rcases hm with rfl|⟨m,hm0,hmin⟩
   ·simp at hll;omega
   ·rw[hm0]at hroot
    have hma:a=m∨PT m a=true:=by
     rcases (hmem' a).1 (FI ha)with h|h
     ·exact hmin a h
     ·exact absurd (huniq i (by rw[ha,h])) hne
    have hmx:PT m x=true:=by
     have hxm:PT x m=false:=by
      cases hc:PT x m with
      | false=>rfl
      | true =>
       rcases hma with rfl|h
       ·rw[hc]at hlk;cases hlk
       ·rw[Jff hc h]at hlk;cases hlk
     rcases Jje (hx m (FI hm0))with h|h
     ·exact h
     ·rw[h]at hxm;cases hxm
    refine⟨m,hroot,fun k hk=>?_⟩;rcases (hmem' k).1 hk with hk|rfl
    ·exact hmin k hk
    ·exact .inr hmx
  | true =>
   refine Fz (by simp only[go_sem,HA,simprocAttr,Hi,f0,f1,H8,lq2];rfl) ?_;refine HD (by simp only[go_sem,HA,simprocAttr,H8,lq2]) (by simp only[go_sem,HA,simprocAttr,H8,lq2];rfl) ?_;refine JfK C hB2 ha hj fun w3 q1 q2 q3=>?_;have hc3:=hc2.frm q2 hSq;refine HB 1000 Fe ?_;refine ih i _ _ hij ⟨Jcm ks' i j a x,(Fg f0),Fb,q1,hc3,hf2.tr q2,by rw[JeS];exact hl,fun k=>by rw[Jmt ha hj];exact hmem k,?_,fun p hp=>?_,fun h0=>?_,fun h0 k hk=>?_⟩
   ·rw[Ja9 Fh hjl,if_neg fun h=>hne h.symm,if_pos rfl]
   ·rw[Ja9 Fh hjl]at hp;split at hp
    ·cases hp;exact absurd (huniq i ha) hne
    ·split at hp
     ·omega
     ·rename_i h1 h2;exact absurd (huniq p hp).symm h1
   ·rw[Ja9 Fh hjl,if_neg Fh,if_neg Fh];exact hroot
   ·subst h0;rw[ha]at hroot;rw[←hroot]at hk;cases hk;exact hlk
 ·rintro f w ⟨ks',h1,h2,h3,h4,h5,h6⟩;refine JaK ⟨_,by simp only[go_sem,HA,simprocAttr,X4];rfl,?_⟩;exact hK w ks' h1 h2 h3 h4 h5 h6
section
open Go.AE Delphi
variable {tab:Tab}
theorem JjU (C:Codes tab){w:AW}{n:Nat}(h:lenV v=some n)(hK:K (.int .i64 (Int.ofNat n)) w):WF tab ZA [v] w K:=by
 refine HL C.Wi rfl ?_;refine Fz (by simp only[go_sem,HA,simprocAttr,Wh,h];rfl) ?_;refine HC ⟨_,by simp only[go_sem,HA,simprocAttr,Wh];rfl,?_⟩;exact hK
theorem Jnk (C:Codes tab){w:AW}{x:Ky}{bq:Nat}(hq:CB w bq [v])(h:QQ S w v ks)(hn:ks.length≤100)(hS:∀y,S y→y<w.next∧y≠bq)(hm:ks=[]∨Jev ks)(hx:∀k∈ks,k.2.2≠x.2.2)(hK:∀w' v' S' ks',CB w' bq [v']→QB S' w' v' ks'→Frm (fun y=>S y∨y=bq) w w'→(∀y,S' y→y<w'.next∧y≠bq∧(S y∨w.next≤y))→ks'.length=ks.length+1→(∀k,k∈ks'↔k∈ks∨k=x)→Jev ks'→K (.tuple []) w'): WF tab Uk [.iface 120 (.ptr bq 0),.iface 126 (.agg (kyC x))] w K:=by
 refine HL C.XV rfl ?_;refine Fz (by simp only[go_sem,HA,simprocAttr,XU,H8];rfl) ?_;refine HD (by simp only[go_sem,HA,simprocAttr,H8]) (by simp only[go_sem,HA,simprocAttr,H8];rfl) ?_;refine JnJ C hq h hn hS fun w1 v1 S1 c1 b1 f1 s1=>?_;have lq:w1.load bq 0 1=some [v1]:=c1.load 0 1;have hlv:=b1.lenV;rw[FE,Ka]at hlv;refine Fz (by simp only[go_sem,HA,simprocAttr,He,H8,lq];rfl) ?_;refine HD (by simp only[go_sem,HA,simprocAttr,H8,lq]) (by simp only[go_sem,HA,simprocAttr,H8,lq];rfl) ?_;refine JjU C hlv ?_
 have hsub:IntKind.wrap .i64 (Int.ofNat (ks.length+1)-1)=Int.ofNat ks.length:=by
  have a1:Int.ofNat (ks.length+1)=((ks.length+1:Nat):Int):=rfl;have a2:Int.ofNat ks.length=(ks.length:Int):=rfl;rw[JaX]<;>omega
 refine Fz (by simp only[go_sem,HA,simprocAttr,hsub];rfl) ?_;refine HD Ff Fe ?_;refine Jp7 C c1 b1 hn hm hx (fun h=>(s1 _ h).2.1 rfl) fun w2 ks' q1 q2 q3 q4 q5 q6=>?_;refine HB 1000 Fe ?_;refine JaK ⟨_,by simp only[go_sem,HA,simprocAttr,XU];rfl,?_⟩;have nx:=q3.next;exact hK w2 v1 S1 ks' q2 q1 (f1.trans q3 (fun _ _ h=>h) fun y hy h=>(s1 y h).2.2.elim .inl fun h=>by omega) (fun y hy=>⟨by have:=(s1 y hy).1;omega,(s1 y hy).2⟩) q4 q5 q6
def DnI (S:Fw) (bq n:Nat) (v:V) (lst:Ky) (aw:AW) (q:Nat) (f:Fr) (w:AW):Prop :=
 ∃i ks,f.get 0=some (.iface 120 (.ptr bq 0))∧f.get 1=some (.int .i64 (Int.ofNat 0))∧f.get 2=some (.int .i64 (Int.ofNat n))∧f.get 7=some (.int .i64 (Int.ofNat i))∧q=n-i∧i≤n∧QB S w v ks∧CB w bq [v]∧Frm S aw w∧ks.length=n+1∧ks[n]? = some lst
theorem Jor (C:Codes tab){aw:AW}{bq n:Nat}{lst:Ky}(hq:CB aw bq [v])(h:QB S aw v ks)(hl:ks.length=n+1)(hn:n≤100)(hlast:ks[n]? = some lst)(hSq:¬S bq)(hK:∀w' ks' b,QB S w' v ks'→CB w' bq [v]→Frm S aw w'→ks'.length=n+1→ks'[n]? = some lst→K (.bool b) w'):WF tab Up [.iface 120 (.ptr bq 0),.int .i64 (Int.ofNat 0),.int .i64 (Int.ofNat n)] aw K:=by
 refine HL C.X7 rfl ?_;refine Fz (by simp only[go_sem,HA,simprocAttr,Ya,Hl];rfl) ?_
 refine H7 (DnI S bq n v lst aw) (fun f w=>∃i ks',f.get 1=some (.int .i64 (Int.ofNat 0))∧f.get 7=some (.int .i64 (Int.ofNat i))∧QB S w v ks'∧CB w bq [v]∧Frm S aw w∧ks'.length=n+1∧ks'[n]? = some lst) ?_ ?_ n
  ⟨0,ks,Fb,Fb,Fb,Fb,rfl,by omega,h,hq,Frm.refl _,hl,hlast⟩
 ·rintro q f w ⟨i,ks,f0,f1,f2,f7,rfl,hi,hB,hc,hf,hl,hlast⟩ ih exit
  have e1:IntKind.wrap .i64 (2*Int.ofNat i)=Int.ofNat (2*i):=by
   have a1:Int.ofNat i=(i:Int):=rfl;have a2:Int.ofNat (2*i)=((2*i:Nat):Int):=rfl;rw[JaX]<;>omega
  have e2:IntKind.wrap .i64 (Int.ofNat (2*i)+1)=Int.ofNat (2*i+1):=HJ Fh;have hij:i<2*i+1:=Fh;have hj1:2*i+1≤201:=Fh;generalize 2*i+1=j1 at e2 hij hj1;have e3:IntKind.wrap .i64 (Int.ofNat j1+1)=Int.ofNat (j1+1):=HJ Fh;by_cases hg:n≤j1
  ·refine HF 1000 (by simp only[go_sem,simprocAttr,Z9,X6,f2,f7,e1,e2,hg];rfl) ?_;exact exit _ _ _ ⟨i,ks,(Fg f1),(Fg f7),hB,hc,hf,hl,hlast⟩ rfl
  have lq:w.load bq 0 1=some [v]:=hc.load 0 1;obtain⟨a,ha⟩:∃a,ks[i]? = some a:=⟨_,FB Fh⟩;obtain⟨b,hb⟩:∃a,ks[j1]? = some a:=⟨_,FB Fh⟩
  have child:∀{fr:Fr} {w:AW} {j:Nat},fr.get 0=some (.iface 120 (.ptr bq 0))→fr.get 1=some (.int .i64 (Int.ofNat 0))→fr.get 2=some (.int .i64 (Int.ofNat n))→fr.get 7=some (.int .i64 (Int.ofNat i))→fr.get 9=some (.int .i64 (Int.ofNat j))→i<j→j<n→QB S w v ks→CB w bq [v]→Frm S aw w→WS tab (.code VP :: .endB 1 :: .code (.loop Z9) :: .endB 0::[.code (.seq (.region [⟨some 45,none,.mov (.tmp 7)⟩,⟨some 46,none,.mov (.tmp 1)⟩,⟨some 47,none,.bin .gtr (.tmp 45) (.tmp 46)⟩,⟨some 6,none,.mov (.tmp 47)⟩]) .ret)]) fr w fun fr' a=>∃vs,PV fr' a Ya.results=some vs∧K (Ph vs) a:=by
   intro fr w j f0 f1 f2 f7 f9 hij hjn hB hc hf;have lq:w.load bq 0 1=some [v]:=hc.load 0 1;obtain⟨b,hb⟩:∃a,ks[j]? = some a:=⟨_,FB Fh⟩;refine Fz (by simp only[go_sem,HA,simprocAttr,VP,f0,f7,f9,H8,lq];rfl) ?_;refine HD (by simp only[go_sem,HA,simprocAttr,H8,lq]) (by simp only[go_sem,HA,simprocAttr,H8,lq];rfl) ?_;refine JfJ C hB hb ha fun w2 g2=>?_;have hB2:=hB.frm g2 fun _ _ h=>h;have hc2:=hc.frm g2 fun h=>h;have lq2:w2.load bq 0 1=some [v]:=hc2.load 0 1;have hf2:Frm S aw w2:=hf.tr g2.no;cases PT b a with
   | false =>
    refine HF 1000 (by simp only[go_sem,simprocAttr,f0];rfl) ?_;exact exit _ _ _ ⟨i,ks,(Fg f1),(Fg f7),hB2,hc2,hf2,hl,hlast⟩ rfl
   | true =>
    refine Fz (by simp only[go_sem,HA,simprocAttr,Hk,f0,f7,f9,H8,lq2];rfl) ?_;refine HD (by simp only[go_sem,HA,simprocAttr,H8,lq2]) (by simp only[go_sem,HA,simprocAttr,H8,lq2];rfl) ?_;refine JfK C hB2 ha hb fun w3 q1 q2 q3=>?_;have hc3:=hc2.frm q2 hSq;refine Fz (by simp only[go_sem,HA,simprocAttr,f9];rfl) ?_;refine ih (n-j) _ _ Fh ⟨j,Jcm ks i j a b,(Fg f0),(Fg f1),(Fg f2),Fb,rfl,by omega,q1,hc3,hf2.tr q2,by rw[JeS];exact hl,?_⟩;rw[Ja9 Fh Fh,if_neg Fh,if_neg Fh];exact hlast
  by_cases hg2:j1+1<n
  ·obtain⟨c,hcc⟩:∃a,ks[j1+1]? = some a:=⟨_,FB Fh⟩;refine Fz (by simp only[go_sem,HA,simprocAttr,Z9,X6,VQ,VO,f0,f2,f7,e1,e2,e3,hg,hg2,H8,lq];rfl) ?_;refine HD (by simp only[go_sem,HA,simprocAttr,H8,lq]) (by simp only[go_sem,HA,simprocAttr,H8,lq];rfl) ?_;refine JfJ C hB hcc hb fun w2 g2=>?_;have hB2:=hB.frm g2 fun _ _ h=>h;have hc2:=hc.frm g2 fun h=>h;have hf2:Frm S aw w2:=hf.tr g2.no;cases PT c b with
   | false =>
    refine HF 1000 (by simp only[go_sem,HA,simprocAttr,f0];rfl) ?_;exact child (Fg f0) (Fg f1) (Fg f2) (Fg f7) Fb hij Fh hB2 hc2 hf2
   | true =>
    refine HF 1000 (by simp only[go_sem,HA,simprocAttr,Hj,f0];rfl) ?_;exact child (Fg f0) (Fg f1) (Fg f2) (Fg f7) Fb Fh hg2 hB2 hc2 hf2
  ·refine HF 1000 (by simp only[go_sem,HA,simprocAttr,Z9,X6,VQ,VO,f0,f2,f7,e1,e2,e3,hg,hg2,H8,lq];rfl) ?_;exact child (Fg f0) (Fg f1) (Fg f2) (Fg f7) Fb hij Fh hB hc hf
 ·rintro f w ⟨i,ks',f1,f7,h1,h2,h3,h4,h5⟩;refine Fz (by simp only[go_sem,HA,simprocAttr,f1,f7];rfl) ?_;refine HC ⟨_,by simp only[go_sem,HA,simprocAttr,Ya];rfl,?_⟩;exact hK w ks' _ h1 h2 h3 h4 h5
end
section
open Go.AE Delphi
variable {tab:Tab}
theorem JoR (C:Codes tab){w:AW}{n bq:Nat}{x:Ky}(hq:CB w bq [v])(h:QB S w v ks)(hl:ks.length=n+1)(hn:n≤100)(hx:ks[n]? = some x)(hK:∀w',Frm (fun y=>y=bq) w w'→K (.iface 126 (.agg (kyC x))) w'):WF tab Us [.ptr bq 0] w K:=by
 refine HL C.Wl rfl ?_;obtain⟨b,rfl,hS,hb,l1⟩:=Jb4 h hx;have hlv:=h.lenV;have lq:w.load bq 0 1=some [.slice b 0 ks.length (.upTo 3)]:=hq.load 0 1;have g1:=HU (S:=fun _=>False) w [V.int .i64 0,V.bool false,V.int .i64 0];have c1:=Pw w [V.int .i64 0,V.bool false,V.int .i64 0];have lq1:(w.fresh [V.int .i64 0,V.bool false,V.int .i64 0]).load bq 0 1=some [.slice b 0 ks.length (.upTo 3)]:=(hq.frm g1 fun h=>h).load 0 1;obtain⟨b',e,_,_,l2⟩:=Jb4 (h.frm g1 fun _ _ h=>h) hx;cases e
 have hsub:IntKind.wrap .i64 (Int.ofNat ks.length-1)=Int.ofNat n:=by
  have a1:Int.ofNat ks.length=(ks.length:Int):=rfl;have a2:Int.ofNat n=(n:Int):=rfl;rw[JaX]<;>omega
 have hlt:n<ks.length:=Fh;have hlqb:=hq.lt;obtain⟨w2,s2,c2,r2,m2⟩:=PE w (zs:=[V.int .i64 0,V.bool false,V.int .i64 0]) (vs:=kyC x) rfl rfl;have hq2:=hq.frm r2 fun h=>h;have lq2:w2.load bq 0 1=some [.slice b 0 ks.length (.upTo 3)]:=hq2.load 0 1
 have hsl:∀a:AW,a.sliceW 3 b 0 ks.length (.upTo 3) none (some n) none=some (.slice b 0 n (.upTo 3)):=by
  intro a;have e1:n≤ks.length∧0≤n∧3=3:=⟨by omega,by omega,rfl⟩;have e2:Jbb 3 b 0 ks.length (.upTo 3) none (some n) none=some (.slice b 0 n (.upTo 3)):=if_pos e1;simp only[AW.sliceW,e2]
 have st:=hq2.set (i:=0) (v:=.slice b 0 n (.upTo 3)) Fj rfl;have pf:Frm (fun y=>y=bq) w2 (w2.put bq ([V.slice b 0 ks.length (.upTo 3)].set 0 (.slice b 0 n (.upTo 3)))):=HO;have c3:=c2.frm pf (by show ¬w.next=bq;omega);have k3:(w2.put bq ([V.slice b 0 ks.length (.upTo 3)].set 0 (.slice b 0 n (.upTo 3)))).load w.next 0 3=some (kyC x):=c3.all rfl;have ka:(kyC x).length=3:=rfl;have fin:=hK (w2.put bq ([V.slice b 0 ks.length (.upTo 3)].set 0 (.slice b 0 n (.upTo 3)))) (r2.no.tr pf);refine Fz (by simp only[go_sem,HA,simprocAttr,Wk,Ho];rfl) ?_;refine Pp ?_;refine H0 100 (by simp only[go_sem,HA,simprocAttr,lq,hsub,hlt,l1,s2,ka,FU];rfl) ?_;refine Pr ⟨(show HW _ _ [(2,10),(5,10),(9,10)]from by simp only[go_sem,HA,simprocAttr,HW,chk,List.reverse_cons,List.reverse_nil,Pk,Pv,Pt,Pu,List.getElem?_nil,false_or,or_true,or_false,exists_eq',FP,Prod.mk.injEq,Bool.true_eq_false,FM,and_true,true_and,implies_true,lq,lq1,l1,l2,FU]),?_⟩;refine Fz (by simp only[go_sem,HA,simprocAttr,Hn,lq2,hsub,hsl,st,k3,FC,FD];rfl) ?_;refine HC ⟨_,by simp only[go_sem,HA,simprocAttr,Wk];rfl,?_⟩;exact fin
theorem JoA (C:Codes tab){w:AW}{n bq:Nat}{m:Ky}(hq:CB w bq [v])(h:QB S w v ks)(hl:ks.length=n+1)(hn:n≤100)(hm:ks[0]? = some m)(hSq:¬S bq)(hK:∀w',Frm (fun y=>S y∨y=bq) w w'→K (.iface 126 (.agg (kyC m))) w'):WF tab Ul [.iface 120 (.ptr bq 0)] w K:=by
 refine HL C.XX rfl ?_;have lq:w.load bq 0 1=some [v]:=hq.load 0 1;have hlv:=h.lenV;obtain⟨x,hx⟩:∃x,ks[n]? = some x:=⟨_,FB Fh⟩
 have hsub:IntKind.wrap .i64 (Int.ofNat ks.length-1)=Int.ofNat n:=by
  have a1:Int.ofNat ks.length=(ks.length:Int):=rfl;have a2:Int.ofNat n=(n:Int):=rfl;rw[JaX]<;>omega
 refine Fz (by simp only[go_sem,HA,simprocAttr,XW,Hg,H8,lq];rfl) ?_;refine HD (by simp only[go_sem,HA,simprocAttr,H8,lq]) (by simp only[go_sem,HA,simprocAttr,H8,lq];rfl) ?_;refine JjU C hlv ?_;refine Fz (by simp only[go_sem,HA,simprocAttr,hsub,H8,lq];rfl) ?_;refine HD (by simp only[go_sem,HA,simprocAttr,H8,lq]) (by simp only[go_sem,HA,simprocAttr,H8,lq];rfl) ?_;refine JfK C (i:=0) h hm hx fun w2 q1 q2 q3=>?_;have hc2:=hq.frm q2 hSq;have hl2:(Jcm ks 0 n m x).length=n+1:=by rw[JeS];exact hl
 have hlast:(Jcm ks 0 n m x)[n]? = some m:=by rw[Ja9 Fh Fh,if_pos rfl]
 refine Fz (by simp only[go_sem,HA,simprocAttr,Hf];rfl) ?_;refine HD Ff Fe ?_;refine Jor C hc2 q1 hl2 hn hlast hSq fun w3 ks3 b p1 p2 p3 p4 p5=>?_;refine Fz (by simp only[go_sem,HA,simprocAttr,H8];rfl) ?_;refine HD (by simp only[go_sem,HA,simprocAttr,H8]) (by simp only[go_sem,HA,simprocAttr,H8];rfl) ?_;refine JoR C p2 p1 p4 hn p5 fun w4 f4=>?_;refine HB 1000 Fe ?_;refine HC ⟨_,by simp only[go_sem,HA,simprocAttr,XW];rfl,?_⟩;exact hK w4 ((q2.tr p3).trans f4 (fun _ _ h=> .inl h) fun _ _ h=> .inr h)
end
section
open Go.AE Delphi
variable {tab:Tab}
def Jqa (a:AW) (bw:Nat) (u5:V) (bd:Fx) (x:Lt) (q:Nat) (f:Fr) (w:AW):Prop :=
 ∃i,f.get 0=some (.ptr bw 0)∧f.get 5=some (.int .i64 (Int.ofNat ((x.args.take i).countP (Jb7 bd))))∧f.get 9=some u5∧f.get 10=some (.int .i64 (Int.ofNat x.args.length))∧f.get 11=some (.int .i64 (Int.ofNat i))∧i≤x.args.length∧q=x.args.length-i∧Frm (fun _=>False) a w
theorem Jm2 (C:Codes tab){T:Fw}{aw:AW}{xs:List V}{x:Lt}{bw mb md k:Nat}{u ov bv:V}{M:Ps}{bd:Fx}(hc:CB aw bw [u,.map mb,.map md,ov,bv])(hM:SM aw mb M)(hs:Seen M bd k)(hx:LtC T aw x xs)(ha:x.args.length≤1000)(h:∀w,Frm (fun _=>False) aw w→K (.int .i64 (Int.ofNat (Jb8 bd x))) w):WF tab Uj [.ptr bw 0,.agg xs] aw K:=by
 refine HL C.XT rfl ?_;obtain⟨v,rfl,hu⟩:=hx;have cb:=Pw aw [V.int .i64 (Int.ofNat x.kind),.str x.name,v];have ff:=HU (S:=fun _=>False) aw [V.int .i64 (Int.ofNat x.kind),.str x.name,v];generalize hw1:aw.fresh [V.int .i64 (Int.ofNat x.kind),.str x.name,v]=w1 at cb ff;have l2:w1.load aw.next 2 1=some [v]:=by rw[cb.load];rfl
 have hlv:=hu.lenV;refine Fz (by simp only[go_sem,HA,simprocAttr,XS,Hd,hw1,l2,hlv];rfl) ?_;refine H7 (Jqa aw bw v bd x) (fun f w=>f.get 5=some (.int .i64 (Int.ofNat (Jb8 bd x)))∧Frm (fun _=>False) aw w) ?_ ?_ x.args.length ⟨0,Fb,Fb,Fb,Fb,Fb,by omega,rfl,ff⟩
 ·rintro q f w ⟨i,f0,f5,f9,f10,f11,hi,rfl,hf⟩ ih exit;by_cases hlt:i<x.args.length
  case neg =>
   rw[FW Fh]at f5;refine HF 1000 (by simp only[go_sem,simprocAttr,Z7,f10,f11,hlt];rfl) ?_;exact exit _ _ _ ⟨(by simp only[go_sem,HA,simprocAttr,f5,Jb8]<;>rfl),hf⟩ rfl
  obtain⟨t,ht⟩:∃t,x.args[i]? = some t:=⟨_,FB hlt⟩;have hwr:IntKind.wrap .i64 (Int.ofNat i+1)=Int.ofNat (i+1):=HJ Fh;obtain⟨b,o,c,rfl,_,_,t3,_,_⟩:=JdG (hu.frm hf fun _ _ h=>h) ht;obtain⟨w2,s2,c2,r2,n2⟩:=PE w (zs:=[V.int .i64 0,V.str [],V.int .i64 0]) (vs:=tmC t) rfl rfl;have hf2:=hf.tr r2;have k0:w2.load w.next 0 1=some [.int .i64 (Int.ofNat t.kind)]:=by rw[c2.load];rfl
  have k1:w2.load w.next 1 1=some [.str t.name]:=by rw[c2.load];rfl
  have lm:w2.load bw 1 1=some [.map mb]:=by rw[(hc.frm hf2 fun h=>h).load];rfl
  have hcl:(x.args.take i).countP (Jb7 bd)≤i:=by have:=List.countP_le_length (p:=Jb7 bd) (l:=x.args.take i);rw[FT]at this;omega
  have hwc:IntKind.wrap .i64 (Int.ofNat ((x.args.take i).countP (Jb7 bd))+1)=Int.ofNat ((x.args.take i).countP (Jb7 bd)+1):=HJ Fh
  have e:(x.args.take (i+1)).countP (Jb7 bd)=(x.args.take i).countP (Jb7 bd)+(if Jb7 bd t=true then 1 else 0):=by
   rw[JiM ht,List.countP_append];simp[List.countP_cons]
  by_cases hk:t.kind=1
  case neg =>
   have hb:Jb7 bd t=true:=decide_eq_true (.inl hk);rw[if_pos hb]at e;refine Fz (by simp only[go_sem,HA,simprocAttr,Z7,XR,XQ,VJ,f5,f9,f10,f11,hlt,t3,s2,Jah,k0,hk,hwr,hwc];rfl) ?_;exact ih _ _ _ Fh ⟨i+1,(Fg f0),by rw[e];exact Fb,(Fg f9),(Fg f10),Fb,by omega,rfl,hf2⟩
  have k0':w2.load w.next 0 1=some [.int .i64 1]:=by rw[k0,hk];rfl
  obtain⟨n,hn1,hn2,hn3⟩:=Jdj hs t.name;have look:=(hM.frm hf2 fun h=>h).look Px (.int .i64 0) t.name;rw[hn3]at look;by_cases hm:n=0
  ·have hb:¬Jb7 bd t=true:=by simp[Jb7,hk,hn2.1 hm]
   rw[if_neg hb]at e;subst hm;refine Fz (by simp only[go_sem,HA,simprocAttr,Z7,XR,XQ,f0,f9,f10,f11,hlt,t3,s2,Jah,k0',k1,lm,look,hwr,Kk];rfl) ?_;exact ih _ _ _ Fh ⟨i+1,(Fg f0),by rw[e];exact (Fg f5),(Fg f9),(Fg f10),Fb,by omega,rfl,hf2⟩
  ·have hin:t.name∈bd:=Classical.byContradiction fun hc=>hm (hn2.2 hc);have hb:Jb7 bd t=true:=decide_eq_true (.inr hin);rw[if_pos hb]at e;have h0:0<n:=Fh;refine Fz (by simp only[go_sem,HA,simprocAttr,Z7,XR,XQ,VJ,f0,f5,f9,f10,f11,hlt,t3,s2,Jah,k0',k1,lm,look,h0,hwr,hwc];rfl) ?_;exact ih _ _ _ Fh ⟨i+1,(Fg f0),by rw[e];exact Fb,(Fg f9),(Fg f10),Fb,by omega,rfl,hf2⟩
 ·rintro f w ⟨f5,hf⟩;refine Fz (by simp only[go_sem,HA,simprocAttr,f5];rfl) ?_;refine HC ⟨_,by simp only[go_sem,HA,simprocAttr,XS];rfl,?_⟩;exact h w hf
end
section
open Go.AE Delphi
variable {tab:Tab}
abbrev IM:=MB (α:=Int) (β:=Int) (V.int .i64) (V.int .i64)
structure WkS (a w:AW) (T:Fw) (body:List Lt) (u:V) (bw mb md:Nat) (s:Po) (ov bv:V) (So Sb:Fw) (M:Ps) (D:List (Int×Int)) (k:Nat):Prop where
 frm:Frm (fun _=>False) a w
 lits:RdL (LtC T) T a u 3 body
 cell:CB w bw [u,.map mb,.map md,ov,bv]
 mB:SM w mb M
 seen:Seen M s.2 k
 mD:IM w md D
 dn:∀j:Nat,HE D (Int.ofNat j)=if j∈s.1 then some 1 else none
 ord:Bt So w ov 1 s.1.length (PZ s.1)
 bnd:Bt Sb w bv 1 s.2.length (H5 s.2)
 ge:a.next≤bw∧a.next≤mb∧a.next≤md∧bw≠mb∧bw≠md∧mb≠md
 sepO:∀x,So x→a.next≤x∧x<w.next∧x≠bw∧x≠mb∧x≠md∧¬Sb x
 sepB:∀x,Sb x→a.next≤x∧x<w.next∧x≠bw∧x≠mb∧x≠md
 inv:PlInv body s
variable {a w:AW} {T So Sb:Fw} {body:List Lt} {u ov bv:V} {bw mb md k:Nat} {s:Po} {M:Ps} {D:List (Int×Int)}
theorem WkS.ext {w2:AW}(h:WkS a w T body u bw mb md s ov bv So Sb M D k)(hf:Frm (fun _=>False) w w2):WkS a w2 T body u bw mb md s ov bv So Sb M D k:=
 have nx:=hf.next
 ⟨h.frm.tr hf,h.lits,h.cell.frm hf fun h=>h,h.mB.frm hf fun h=>h,h.seen,h.mD.frm hf fun h=>h,h.dn,h.ord.frm hf fun _ _ h=>h,h.bnd.frm hf fun _ _ h=>h,h.ge,fun x hx=>by have h1:=h.sepO x hx;exact⟨h1.1,by omega,h1.2.2⟩,fun x hx=>by have h1:=h.sepB x hx;exact⟨h1.1,by omega,h1.2.2⟩,h.inv⟩
theorem WkS.lit (h:WkS a w T body u bw mb md s ov bv So Sb M D k){i:Nat}{t:Lt}(hi:body[i]? = some t): ∃b o c v,u = .slice b o body.length c∧w.load b (o+i*3) 3=some [.int .i64 (Int.ofNat t.kind),.str t.name,v]∧w.load b (o+i*3) 1=some [.int .i64 (Int.ofNat t.kind)]∧w.load b (o+i*3+2) 1=some [v]∧Rd T w v 3 t.args.length (Pl t.args):=by
 obtain⟨b,o,c,v,h1,_,_,h2,h4,_,h5,h3⟩:=JcT (h.lits.frm (fun _ _ hl=>hl.frm h.frm fun _ _ h=>h) h.frm fun _ _ h=>h) hi;exact⟨b,o,c,v,h1,h2,h4,h5,h3⟩
theorem WkS.done (h:WkS a w T body u bw mb md s ov bv So Sb M D k)(i:Nat): w.lookV (.scalar .int) (.int .i64 0) (.map md) (.int .i64 (Int.ofNat i))=some (if i∈s.1 then (V.int .i64 1,true)else (V.int .i64 0,false)):=by
 rw[h.mD.look JlS (.int .i64 0) (Int.ofNat i),h.dn i];by_cases hm:i∈s.1
 ·rw[if_pos hm,if_pos hm];rfl
 ·rw[if_neg hm,if_neg hm];rfl
def BsI (a:AW) (T:Fw) (body:List Lt) (u:V) (bw mb md bq:Nat) (s:Po) (ov bv:V) (So Sb:Fw) (M:Ps) (D:List (Int×Int)) (k:Nat) (w0:AW) (q:Nat) (f:Fr) (w:AW):Prop :=
 ∃i ks qv S,f.get 0=some (.ptr bw 0)∧f.get 3=some (.ptr bq 0)∧f.get 15=some u∧f.get 16=some (.int .i64 (Int.ofNat body.length))∧f.get 17=some (.int .i64 (Int.ofNat i))∧i≤body.length∧q=body.length-i∧
  CB w bq [qv]∧QQ S w qv ks∧(ks=[]∨Jev ks)∧(∀y,y∈ks↔∃j,j<i∧Jao body s j=true∧y=Jcb body s j)∧ks.length≤i∧(∀y,S y→w0.next≤y∧y<w.next∧y≠bq)∧Frm (fun _=>False) w0 w∧WkS a w T body u bw mb md s ov bv So Sb M D k
theorem Jof (C:Codes tab){w0:AW}(hA:WkS a w0 T body u bw mb md s ov bv So Sb M D k)(hb7:body.length≤7)(hargs:∀x∈body,x.args.length≤5)(hex:∃i,Jao body s i=true)(h:∀i w,JcW body s i→Frm (fun _=>False) w0 w→K (.int .i64 (Int.ofNat i)) w):WF tab Ud [.ptr bw 0] w0 K:=by
 refine HL C.Xq rfl ?_;have g1:=HU (S:=fun _=>False) w0 [];have m1:(w0.fresh []).next=w0.next+1:=rfl;generalize hw1:w0.fresh []=w1 at g1 m1;have g2:=HU (S:=fun _=>False) w1 [V.slice w0.next 0 0 (.known 0)];have m2:(w1.fresh [V.slice w0.next 0 0 (.known 0)]).next=w1.next+1:=rfl;have c2:=Pw w1 [V.slice w0.next 0 0 (.known 0)];generalize hw2:w1.fresh [V.slice w0.next 0 0 (.known 0)]=w2 at g2 m2 c2;have hA2:=(hA.ext g1).ext g2;have ld0:w2.load bw 0 1=some [u]:=by rw[hA2.cell.load];rfl
 have hlv:=Jc6 hA.lits;have hl0:([]:List V).length=0:=rfl;have hA0:=hA;refine Fz (by simp only[go_sem,HA,simprocAttr,Z0,GX,HI,HQ,hw1,hw2,ld0,hlv,FD];rfl) ?_
 refine H7 (BsI a T body u bw mb md w1.next s ov bv So Sb M D k w0) (fun f w=>∃ks qv S,f.get 3=some (.ptr w1.next 0)∧CB w w1.next [qv]∧QQ S w qv ks∧(ks=[]∨Jev ks)∧(∀y,y∈ks↔∃j,Jao body s j=true∧y=Jcb body s j)∧ks.length≤7∧(∀y,S y→w0.next≤y∧y<w.next∧y≠w1.next)∧Frm (fun _=>False) w0 w) ?_ ?_ body.length
  ⟨0,[],_,fun _=>False,Fb,Fb,Fb,Fb,Fb,by omega,rfl,c2,.inl ⟨rfl,_,rfl⟩,.inl rfl,fun y=>⟨fun h=>(by simp at h),fun⟨j,hj,_⟩=>by omega⟩,by simp,fun _ h=>h.elim,g1.tr g2,hA2⟩
 ·rintro q f w ⟨i,ks,qv,S,f0,f3,f15,f16,f17,hi,rfl,hc,hQ,hm,hmem,hl,hS,hf,hA⟩ ih exit;by_cases hlt:i<body.length
  case neg =>
   refine HF 1000 (by simp only[go_sem,simprocAttr,Xp,f16,f17,hlt];rfl) ?_;refine exit _ _ _ ⟨ks,qv,S,(Fg f3),hc,hQ,hm,fun y=>?_,by omega,hS,hf⟩ rfl;rw[hmem];exact⟨fun⟨j,_,h⟩=>⟨j,h⟩,fun⟨j,h1,h2⟩=>⟨j,by have:=Jfu h1;omega,h1,h2⟩⟩
  obtain⟨t,ht⟩:∃t,body[i]? = some t:=⟨_,FB hlt⟩;have hla:H4 body i=t:=PJ ht;have ha5:=hargs t (FI ht);have hwr:IntKind.wrap .i64 (Int.ofNat i+1)=Int.ofNat (i+1):=HJ Fh;obtain⟨b,o,c,v,rfl,a3,_,_,hrv⟩:=hA.lit ht;have hone:HM [V.int .i64 (Int.ofNat t.kind),.str t.name,v]=true:=by rcases hrv.inv with⟨rfl,_⟩|⟨_,_,_,rfl,_⟩<;>rfl
  obtain⟨w3,s3,c3,r3,n3⟩:=PE w (zs:=[V.int .i64 0,V.str [],V.nilslice]) (vs:=[V.int .i64 (Int.ofNat t.kind),.str t.name,v]) rfl hone;have hA3:=hA.ext r3;have k3:w3.load w.next 0 3=some [.int .i64 (Int.ofNat t.kind),.str t.name,v]:=c3.all rfl;refine Fz (by simp only[go_sem,HA,simprocAttr,Xp,GW,GV,f0,f15,f16,f17,hlt,a3,s3,k3,FC,FD];rfl) ?_;refine HD Ff Fe ?_;refine Jm2 C hA3.cell hA3.mB hA3.seen (x:=t) ⟨v,rfl,hrv.frm r3 fun _ _ h=>h⟩ Fh fun w4 g4=>?_;have hA4:=hA3.ext g4;have c4:=c3.frm g4 fun h=>h;have k0:w4.load w.next 0 1=some [.int .i64 (Int.ofNat t.kind)]:=by rw[c4.load];rfl
  have k2:w4.load w.next 2 1=some [v]:=by rw[c4.load];rfl
  have lmd:w4.load bw 2 1=some [.map md]:=by rw[hA4.cell.load];rfl
  have hvl:=hrv.lenV;have f34:Frm (fun _=>False) w w4:=r3.tr g4;have hc4:=hc.frm f34 fun h=>h;have nx4:=f34.next;have hQ4:QQ S w4 qv ks:=hQ.imp (fun h=>h) fun⟨h1,h2⟩=>⟨h1,h2.frm f34 fun _ _ h=>h⟩;have hS4:∀y,S y→w0.next≤y∧y<w4.next∧y≠w1.next:=fun y hy=>by have:=hS y hy;exact⟨this.1,by omega,this.2.2⟩
  have hf4:=hf.tr f34;have hdn:=hA4.done i
  have skip:Jao body s i=false→∀y,y∈ks↔∃j,j<i+1∧Jao body s j=true∧y=Jcb body s j:=by
   intro hnc y;rw[hmem];constructor
   ·rintro⟨j,h1,h2⟩;exact⟨j,by omega,h2⟩
   ·rintro⟨j,h1,h2,h3⟩;refine⟨j,?_,h2,h3⟩;by_cases e:j=i
    ·subst e;rw[hnc]at h2;cases h2
    ·omega
  by_cases hd:i∈s.1
  ·have hnc:Jao body s i=false:=Jir fun h=>h.2.1 hd;rw[if_pos hd]at hdn;refine Fz (by simp only[go_sem,HA,simprocAttr,ZZ,f0,k0,lmd,hdn,f17,hwr];rfl) ?_;exact ih _ _ _ Fh ⟨i+1,ks,qv,S,(Fg f0),(Fg f3),(Fg f15),(Fg f16),Fb,by omega,rfl,hc4,hQ4,hm,skip hnc,by omega,hS4,hf4,hA4⟩
  rw[if_neg hd]at hdn
  have hxd:∀n a,∀y∈ks,y.2.2≠((a,n,i):Ky).2.2:=by
   intro n a y hy;obtain⟨j,hj,_,rfl⟩:=(hmem y).1 hy;show j≠i;omega
  have push:∀{fr:Fr} {n:Nat} {at':Bool},Jao body s i=true→Jcb body s i=(at',n,i)→fr.get 0=some (.ptr bw 0)→fr.get 3=some (.ptr w1.next 0)→fr.get 4=some (.int .i64 (Int.ofNat i))→fr.get 6=some (.int .i64 (Int.ofNat n))→fr.get 7=some (.bool at')→fr.get 15=some (.slice b o body.length c)→fr.get 16=some (.int .i64 (Int.ofNat body.length))→fr.get 17=some (.int .i64 (Int.ofNat i))→WS tab (.code Vx :: .endB 1 :: .code (.region [⟨some 56,none,.bin .add (.tmp 17) (.const (.int .i64 1))⟩,⟨some 17,none,.mov (.tmp 56)⟩]) :: .code (.loop Xp) :: .endB 0::[.code Vy]) fr w4 fun fr' a=>∃vs,PV fr' a Z0.results=some vs∧K (Ph vs) a:=by
   intro fr n at' hcand hkey f0 f3 f4 f6 f7 f15 f16 f17;have ov1:over [V.int .i64 0,V.bool false,V.int .i64 0] 0 [V.int .i64 (Int.ofNat i)]=some [V.int .i64 (Int.ofNat i),V.bool false,V.int .i64 0]:=rfl;have ov2:over [V.int .i64 (Int.ofNat i),V.bool false,V.int .i64 0] 1 [V.bool at']=some [V.int .i64 (Int.ofNat i),V.bool at',V.int .i64 0]:=rfl;have ov3:over [V.int .i64 (Int.ofNat i),V.bool at',V.int .i64 0] 2 [V.int .i64 (Int.ofNat n)]=some (kyC (at',n,i)):=rfl;refine Fz (by simp only[go_sem,HA,simprocAttr,Vx,f3,f4,f6,f7,HI,HQ,ov1,ov2,ov3,FC,FD];rfl) ?_;refine HD Ff Fe ?_;refine Jnk C hc4 hQ4 Fh (fun y hy=>(hS4 y hy).2) hm (hxd n at') fun w5 v5 S5 ks5 q1 q2 q3 q4 q5 q6 q7=>?_
   have f5:Frm (fun _=>False) w0 w5:=hf4.trans q3 (fun _ _ h=>h) fun y hy h=>by
    rcases h with h|rfl
    ·have:=(hS4 y h).1;omega
    ·have:=hc4.lt;omega
   have hA5:=hA0.ext f5;have n5:=q3.next;refine Fz (by simp only[go_sem,HA,simprocAttr,f17,hwr];rfl) ?_;refine ih _ _ _ Fh ⟨i+1,ks5,v5,S5,(Fg f0),(Fg f3),(Fg f15),(Fg f16),Fb,by omega,rfl,q1,.inr ⟨fun h=>by rw[h]at q5;simp at q5,q2⟩,.inr q7,fun y=>?_,by omega,fun y hy=>?_,f5,hA5⟩
   ·rw[q6,hmem];constructor
    ·rintro (⟨j,h1,h2⟩|rfl)
     ·exact⟨j,by omega,h2⟩
     ·exact⟨i,by omega,hcand,hkey.symm⟩
    ·rintro⟨j,h1,h2,rfl⟩;by_cases e:j=i
     ·subst e;exact .inr hkey
     ·exact .inl ⟨j,by omega,h2,rfl⟩
   ·obtain⟨p1,p2,p3⟩:=q4 y hy;have:=hf4.next;rcases p3 with p3|p3
    ·exact⟨(hS4 y p3).1,p1,p2⟩
    ·exact⟨by omega,p1,p2⟩
  by_cases hk:t.kind=1
  ·have hcand:Jao body s i=true:=decide_eq_true ⟨hlt,hd,.inl (by rw[hla];exact hk)⟩;have k0':w4.load w.next 0 1=some [.int .i64 1]:=by rw[k0,hk];rfl
   refine HF 1000 (by simp only[go_sem,HA,simprocAttr,ZZ,f0,k0',lmd,hdn,Kk];rfl) ?_;exact push (n:=Jb8 s.2 t) (at':=true) hcand (by simp[Jcb,hla,hk]) (Fg f0) (Fg f3) Fb Fb Fb (Fg f15) (Fg f16) (Fg f17)
  ·by_cases hlt2:Jb8 s.2 t<t.args.length
   ·have hnc:Jao body s i=false:=Jir fun h=>by rw[hla]at h;exact h.2.2.elim hk fun h=>by omega
    refine Fz (by simp only[go_sem,HA,simprocAttr,ZZ,f0,k0,hk,lmd,hdn,k2,hvl,hlt2,f17,hwr,Kk];rfl) ?_;exact ih _ _ _ Fh ⟨i+1,ks,qv,S,(Fg f0),(Fg f3),(Fg f15),(Fg f16),Fb,by omega,rfl,hc4,hQ4,hm,skip hnc,by omega,hS4,hf4,hA4⟩
   ·have hle:=Joi (bd:=s.2) (x:=t);have hcand:Jao body s i=true:=decide_eq_true ⟨hlt,hd,.inr (by rw[hla];omega)⟩;refine HF 1000 (by simp only[go_sem,HA,simprocAttr,ZZ,f0,k0,hk,lmd,hdn,k2,hvl,hlt2,Kk];rfl) ?_;exact push (n:=0) (at':=false) hcand (by simp[Jcb,hla,hk]) (Fg f0) (Fg f3) Fb Fb Fb (Fg f15) (Fg f16) (Fg f17)
 ·rintro f w ⟨ks,qv,S,f3,hc,hQ,hm,hmem,hl,hS,hf⟩;rcases hQ with⟨rfl,_⟩|⟨hne,hB⟩
  ·obtain⟨i,hi⟩:=hex;have:=(hmem (Jcb body s i)).2 ⟨i,hi,rfl⟩;simp at this
  rcases hm with rfl|⟨m,hm0,hmin⟩
  ·exact absurd rfl hne
  obtain⟨n,hn⟩:∃n,ks.length=n+1:=⟨ks.length-1,by have:=List.length_pos_iff.2 hne;omega⟩;obtain⟨j,hj,rfl⟩:=(hmem m).1 (FI hm0)
  have hbest:JcW body s j:=by
   refine⟨hj,fun j' hj' hn=>?_⟩;rcases hmin _ ((hmem _).2 ⟨j',hj',rfl⟩)with h|h
   ·exact absurd (congrArg (fun k:Ky=>k.2.2) h) hn
   ·exact h
  refine Fz (by simp only[go_sem,HA,simprocAttr,Vy,f3];rfl) ?_;refine HD Ff Fe ?_;refine JoA C hc hB hn Fh hm0 (fun h=>(hS _ h).2.2 rfl) fun w3 f3=>?_;obtain⟨w4,s4,c4,r4,n4⟩:=PE w3 (zs:=[V.int .i64 0,V.bool false,V.int .i64 0]) (vs:=kyC (Jcb body s j)) rfl rfl;have l4:w4.load w3.next 0 1=some [.int .i64 (Int.ofNat j)]:=by rw[c4.load];rfl
  have kl:(kyC (Jcb body s j)).length=3:=rfl;refine Fz (by simp only[go_sem,HA,simprocAttr,s4,l4,kl,FC,FD];rfl) ?_;refine HC ⟨_,by simp only[go_sem,HA,simprocAttr,Z0];rfl,?_⟩;refine h j w4 hbest ?_;refine (hf.trans f3 (fun _ _ h=>h) ?_).tr r4;rintro y hy (h|rfl)
  ·have:=(hS y h).1;omega
  ·omega
end
end Go.Proofs.YtegdcbdicpfbpaaDoor
namespace Delphi
theorem JhD {out:Fx}{t:Tm}(h:out.Nodup):(PO out t).Nodup:=by
 unfold PO;split
 ·rename_i hc;rw[List.nodup_append];refine⟨h,by simp,?_⟩;intro a ha b hb;rw[Kn]at hb;rintro rfl;exact hc.2 (hb▸ha)
 ·exact h
theorem JiY (l:List Tm):(Pm l).Nodup:=by
 have:∀(l:List Tm) (out:Fx),out.Nodup→(l.foldl PO out).Nodup:=by
  intro l;induction l with
  | nil=>intro out h;exact h
  | cons t l ih=>intro out h;exact ih _ (JhD h)
 exact this l [] List.nodup_nil
theorem Jjj (bd:Fx)(x:Lt):Jc3 bd x=(Pm x.args).filter fun v=>decide (v∉bd):=by
 have:∀(l:List Tm) (out out':Fx),out=out'.filter (fun v=>decide (v∉bd))→l.foldl (Jaw bd) out=(l.foldl PO out').filter fun v=>decide (v∉bd):=by
  intro l;induction l with
  | nil=>intro out out' h;exact h
  | cons t l ih =>
   intro out out' h;refine ih _ _ ?_;by_cases hk:t.kind=1
   ·by_cases hb:t.name∈bd
    ·have e1:Jaw bd out t=out:=if_neg fun h=>h.2.1 hb;rw[e1,h];unfold PO;split
     ·rw[List.filter_append];simp[hb]
     ·rfl
    ·have hm:t.name∈out↔t.name∈out':=by rw[h,KE];simp[hb]
     by_cases ho:t.name∈out'
     ·have e1:Jaw bd out t=out:=if_neg fun h=>h.2.2 (hm.2 ho);have e2:PO out' t=out':=if_neg fun h=>h.2 ho;rw[e1,e2,h]
     ·have e1:Jaw bd out t=out++[t.name]:=if_pos ⟨hk,hb,fun h=>ho (hm.1 h)⟩;have e2:PO out' t=out'++[t.name]:=if_pos ⟨hk,ho⟩;rw[e1,e2,List.filter_append,h];simp[hb]
   ·have e1:Jaw bd out t=out:=if_neg fun h=>hk h.1;have e2:PO out' t=out':=if_neg fun h=>hk h.1;rw[e1,e2,h]
 exact this x.args [] [] rfl
variable {bd:Fx}
theorem JnE {x:Lt}(h:Jb8 bd x=x.args.length):Jc3 bd x=[]:=by
 rw[List.eq_nil_iff_forall_not_mem];intro v hv;obtain⟨h1,t,ht,hk,rfl⟩:=mem_newV.1 hv;exact h1 (bndN_full.1 h t ht hk)
def JbA (bd vs:Fx) (j:Nat):Fx:=bd++(vs.take j).filter fun v=>decide (v∉bd)
variable {v:List Nat}
theorem JmU {vs:Fx}(hn:vs.Nodup){j:Nat}(hj:vs[j]? = some v):v∈JbA bd vs j↔v∈bd:=by
 simp only[JbA,F9,KE,decide_eq_true_eq];constructor
 ·rintro (h|⟨h,h2⟩)
  ·exact h
  ·exfalso;obtain⟨p,hp⟩:=List.getElem?_of_mem h
   have hpj:p<j:=by
    have:p<(vs.take j).length:=(List.getElem?_eq_some_iff.1 hp).1;rw[FT]at this;omega
   rw[List.getElem?_take_of_lt hpj]at hp;have hjl:j<vs.length:=(List.getElem?_eq_some_iff.1 hj).1;have hpl:p<vs.length:=Fh;have:=List.pairwise_iff_getElem.1 hn p j hpl hjl hpj;rw[FB hpl]at hp;rw[FB hjl]at hj;exact this ((FX hp).trans (FX hj).symm)
 ·exact .inl
theorem Jll {vs:Fx}{j:Nat}(hj:vs[j]? = some v):JbA bd vs (j+1)=if v∈bd then JbA bd vs j else JbA bd vs j++[v]:=by
 have:vs.take (j+1)=vs.take j++[v]:=by rw[List.take_add_one,hj];rfl
 simp only[JbA,this,List.filter_append];by_cases h:v∈bd
 ·simp[h]
 ·simp[h]
end Delphi
namespace Go.Proofs.YtegdcbdicpfbpaaDoor
open Go.AE Delphi
variable {tab:Tab}
structure WkM (a w:AW) (T:Fw) (body:List Lt) (u:V) (bw mb md:Nat) (l:List Nat) (bd:Fx) (ov bv:V) (So Sb:Fw) (M:Ps) (D:List (Int×Int)) (k:Nat):Prop where
 frm:Frm (fun _=>False) a w
 lits:RdL (LtC T) T a u 3 body
 cell:CB w bw [u,.map mb,.map md,ov,bv]
 mB:SM w mb M
 seen:Seen M bd k
 mD:IM w md D
 dn:∀j:Nat,HE D (Int.ofNat j)=if j∈l then some 1 else none
 ord:Bt So w ov 1 l.length (PZ l)
 bnd:Bt Sb w bv 1 bd.length (H5 bd)
 ge:a.next≤bw∧a.next≤mb∧a.next≤md∧bw≠mb∧bw≠md∧mb≠md
 sepO:∀x,So x→a.next≤x∧x<w.next∧x≠bw∧x≠mb∧x≠md∧¬Sb x
 sepB:∀x,Sb x→a.next≤x∧x<w.next∧x≠bw∧x≠mb∧x≠md
variable {a w:AW} {T So Sb:Fw} {body:List Lt} {u ov bv:V} {bw mb md k:Nat} {M:Ps} {D:List (Int×Int)}
theorem WkS.m {s:Po}(h:WkS a w T body u bw mb md s ov bv So Sb M D k):WkM a w T body u bw mb md s.1 s.2 ov bv So Sb M D k:=⟨h.frm,h.lits,h.cell,h.mB,h.seen,h.mD,h.dn,h.ord,h.bnd,h.ge,h.sepO,h.sepB⟩
theorem WkM.s {s:Po}(h:WkM a w T body u bw mb md s.1 s.2 ov bv So Sb M D k)(hi:PlInv body s):WkS a w T body u bw mb md s ov bv So Sb M D k:=⟨h.frm,h.lits,h.cell,h.mB,h.seen,h.mD,h.dn,h.ord,h.bnd,h.ge,h.sepO,h.sepB,hi⟩
variable {l:List Nat}
theorem WkM.ext {w2:AW}{bd:Fx}(h:WkM a w T body u bw mb md l bd ov bv So Sb M D k)(hf:Frm (fun _=>False) w w2):WkM a w2 T body u bw mb md l bd ov bv So Sb M D k:=
 have nx:=hf.next
 ⟨h.frm.tr hf,h.lits,h.cell.frm hf fun h=>h,h.mB.frm hf fun h=>h,h.seen,h.mD.frm hf fun h=>h,h.dn,h.ord.frm hf fun _ _ h=>h,h.bnd.frm hf fun _ _ h=>h,h.ge,fun x hx=>by have h1:=h.sepO x hx;exact⟨h1.1,by omega,h1.2.2⟩,fun x hx=>by have h1:=h.sepB x hx;exact⟨h1.1,by omega,h1.2.2⟩⟩
theorem WkM.take1 {i:Nat}{bd:Fx}(h:WkM a w T body u bw mb md l bd ov bv So Sb M D k)(hl:l.length≤100): ∃w2 ov' w5 S5 D',w.putV (.scalar .int) (.map md) (.int .i64 (Int.ofNat i)) (.int .i64 1)=some w2∧(w2.fresh [.int .i64 (Int.ofNat i)]).appendV 1 8 ov 1 [.int .i64 (Int.ofNat i)]=some (ov',w5)∧w5.store bw 3 [ov']=some (w5.put bw [u,.map mb,.map md,ov',bv])∧CB w2 bw [u,.map mb,.map md,ov,bv]∧CB (w2.fresh [.int .i64 (Int.ofNat i)]) bw [u,.map mb,.map md,ov,bv]∧ov'.cells=[ov']∧WkM a (w5.put bw [u,.map mb,.map md,ov',bv]) T body u bw mb md (l++[i]) bd ov' bv S5 Sb M D' k:=by
 obtain⟨g1,g2,g3,g4,g5,g6⟩:=h.ge;obtain⟨w2,p1,p2,p3,p4⟩:=h.mD.put JlS (Int.ofNat i) 1;have hc2:=h.cell.frm p3 (by show ¬bw=md;exact g5);have hb2:=h.mB.frm p3 (by show ¬mb=md;exact g6);have ho2:=h.ord.frm p3 fun x hx he=>(h.sepO x hx).2.2.2.2.1 he;have hbn2:=h.bnd.frm p3 fun x hx he=>(h.sepB x hx).2.2.2.2 he;have hSo:∀b,So b→b<w2.next:=fun b hb=>by rw[p4];exact (h.sepO b hb).2.1
 obtain⟨ov',w5,S5,u1,u2,u3,u4⟩:=ho2.push (news:=[V.int .i64 (Int.ofNat i)]) (bytes:=8) hSo Fh rfl rfl Fh Fh;have nw:¬So bw:=fun hx=>(h.sepO _ hx).2.2.1 rfl;have nb:¬So mb:=fun hx=>(h.sepO _ hx).2.2.2.1 rfl;have nd:¬So md:=fun hx=>(h.sepO _ hx).2.2.2.2.1 rfl;have hc5:=hc2.frm u3 nw;have st:=hc5.set (i:=3) (v:=ov') Fj u2.one.1;have pf:Frm (fun x=>x=bw) w5 (w5.put bw [u,.map mb,.map md,ov',bv]):=HO;have nx:=u3.next;have hfa:=h.frm.next;have lw:=h.cell.lt;have lmb:=h.mB.lt;have lmd:=h.mD.lt
 have sS5:∀x,S5 x→a.next≤x∧x<w5.next∧x≠bw∧x≠mb∧x≠md∧¬Sb x:=by
  intro x hx;obtain⟨m1,m2⟩:=u4 x hx;rcases m2 with m2|m2
  ·have h1:=h.sepO x m2;exact⟨h1.1,m1,h1.2.2⟩
  ·exact⟨by omega,m1,by omega,by omega,by omega,fun hb=>by have:=(h.sepB x hb).2.1;omega⟩
 refine⟨w2,ov',w5,S5,_,p1,u1,st,hc2,hc2.frm (HU (S:=fun _=>False) _ _) fun h=>h,u2.one.2,⟨?_,h.lits,H3 hc5.lt,(hb2.frm u3 nb).frm pf (fun e=>g4 e.symm),h.seen,(p2.frm u3 nd).frm pf (fun e=>g5 e.symm),?_,?_,(hbn2.frm u3 fun x hx hs=>(h.sepO x hs).2.2.2.2.2 hx).frm pf fun x hx=>(h.sepB x hx).2.2.1,h.ge,fun x hx=>sS5 x hx,fun x hx=>?_⟩⟩
 ·refine ((h.frm.trans p3 (fun _ _ h=>h) ?_).trans u3 (fun _ _ h=>h) fun x hx hs=>by have:=(h.sepO x hs).1;omega).out Fh rfl;rintro x hx rfl;omega
 ·intro j;by_cases e:j=i
  ·subst e;rw[HT,if_pos Fj]
  ·have e2:Int.ofNat j≠Int.ofNat i:=fun h=>e (Int.ofNat.inj h);rw[Pi _ _ _ _ e2,h.dn j];by_cases hm:j∈l
   ·rw[if_pos hm,if_pos (by simp[hm])]
   ·rw[if_neg hm,if_neg (by simp[hm,e])]
 ·have e:PZ (l++[i])=PZ l++[V.int .i64 (Int.ofNat i)]:=by simp[PZ]
  rw[e,FE,Ka];exact u2.frm pf fun x hx=>(sS5 x hx).2.2.1
 ·have h1:=h.sepB x hx;exact⟨h1.1,by have:(w5.put bw [u,.map mb,.map md,ov',bv]).next=w5.next:=rfl;omega,h1.2.2⟩
end Go.Proofs.YtegdcbdicpfbpaaDoor
