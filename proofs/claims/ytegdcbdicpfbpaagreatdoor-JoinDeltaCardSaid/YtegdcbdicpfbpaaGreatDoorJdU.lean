/- A part of the proof. -/
import Derived.Test.YtegdcbdicpfbpaaGreatDoorJdT
open Int renaming ofNat → Fq
open Go.IntKind renaming wrap → KZ
set_option linter.unusedVariables false
set_option maxRecDepth 10000
set_option linter.unusedSimpArgs false
namespace Go.Proofs.YtegdcbdicpfbpaaGreatDoor
open Go.AE Delphi Val
variable {tab:Tab}
def Tq (ts:List Tk) (nm:List Nat) (rows:Fy):List Fc:=rows.foldl (fun o r=>OE o (nm,r.map (Lx ts))) []
theorem JoA (ts:List Tk)(nm:List Nat)(rows:Fy)(r:List Int):Tq ts nm (rows++[r])=OE (Tq ts nm rows) (nm,r.map (Lx ts)):=by unfold Tq;rw[List.foldl_append];rfl
theorem JkJ (ts:List Tk)(nm:List Nat)(rows:Fy):(Tq ts nm rows).length≤rows.length∧∀n,(∀r∈rows,r.length≤n)→∀f∈Tq ts nm rows,f.2.length≤n:=by
 unfold Tq
 have:∀(rows:Fy) (o:List Fc),(rows.foldl (fun o r=>OE o (nm,r.map (Lx ts))) o).length≤o.length+rows.length∧∀n,(∀f∈o,f.2.length≤n)→(∀r∈rows,r.length≤n)→∀f∈rows.foldl (fun o r=>OE o (nm,r.map (Lx ts))) o,f.2.length≤n:=by
  intro rows;induction rows with
  | nil=>intro o;exact⟨by simp,fun n h _=>h⟩
  | cons r rows ih =>
   intro o;obtain⟨h1,h2⟩:=ih (OE o (nm,r.map (Lx ts)));rw[Ku,FC];have:=QG o (nm,r.map (Lx ts));refine⟨by omega,fun n h3 h4=>h2 n (fun f hf=>?_) fun x hx=>h4 x (FO _ hx)⟩;rcases MG hf with h|rfl
   ·exact h3 f h
   ·show (r.map (Lx ts)).length≤n;rw[F9];exact h4 r Fj
 obtain⟨h1,h2⟩:=this rows [];exact⟨by simpa using h1,fun n h=>h2 n Fj h⟩
structure FtF (f:Fr) (tb:Nat) (nm:List Nat) (rv ov:V) (i fb:Nat):Prop where
 f0:f.get 0=some (.ptr tb 0)
 f1:f.get 1=some (.str nm)
 f2:f.get 2=some rv
 f7:f.get 7=some ov
 f8:f.get 8=some (.int .i64 (Fq i))
 f9:f.get 9=some (.ptr fb 0)
def RowsRd (T:Fw) (w:AW) (v:V) (rows:Fy):Prop:=∃cs,Rd T w v 1 rows.length cs∧Rel.RowsV T w cs rows
variable {T:Fw} {w:AW} {v:V} {rows:Fy}
theorem RowsRd.frm {R:Fw}{w':AW}(h:RowsRd T w v rows)(g:Frm R w w')(hd:∀x,T x→¬R x):RowsRd T w' v rows:=by
 obtain⟨cs,h1,h2⟩:=h;exact⟨cs,h1.frm g hd,h2.frm g hd⟩
theorem RowsRd.lenV (h:RowsRd T w v rows):lenV v=some rows.length:=by obtain⟨cs,h1,h2⟩:=h;exact h1.lenV
variable {r:List Int}
theorem RowsRd.at (h:RowsRd T w v rows){i:Nat}(hi:rows[i]? = some r):∃b o c rv,v = .slice b o rows.length c∧w.load b (o+i*1) 1=some [rv]∧Rel.RowV T w rv r:=by
 obtain⟨cs,h1,h2⟩:=h;obtain⟨rv,h3,h4⟩:=h2.at hi;have hlt:i<rows.length:=(List.getElem?_eq_some_iff.1 hi).1;rcases h1.inv with⟨_,h0,_⟩|⟨b,o,c,rfl,hB⟩
 ·omega
 ·exact⟨b,o,c,rv,rfl,by rw[KC];exact hB.cell Fh h3,h4⟩
variable {S:Fw}
theorem JrP {N:Nat}{cs:List V}(h:Rel.ListOf N w v rows cs S T):RowsRd (fun x=>S x∨T x) w v rows:=⟨cs,h.1.rd.mono fun _ h=> .inl h,h.2.1.mono fun _ h=> .inr h⟩
variable {rv:V} {ts:List Tk} {nm:List Nat}
theorem Jqf (C:Codes tab){tb mb i fb:Nat}{tv ov:V}{f:Fr}{st:List SI}{Q:Fr→AW→Prop}(hx:RowsRd T w rv rows)(hr:rows[i]? = some r)(hT:∀x,T x→x≠fb)(ht:TabW tb mb tv S ts w)(hfb:¬S fb∧tb≠fb∧mb≠fb)(hts:ts.length≤100000)(hrn:∀n∈r,1≤n∧n≤(ts.length:Int))(hrl:r.length≤1000)(hF:FtF f tb nm rv ov i fb)(f10:f.get 10=some (.int .i64 (Fq 0)))(hb:CB w fb [.str nm,.nilslice])(h:∀f' w' av R,FtF f' tb nm rv ov i fb→CB w' fb [.str nm,av]→Rd R w' av 3 r.length (O0 (r.map (Lx ts)))→Frm (fun x=>x=fb) w w'→(∀x,R x→w.next≤x∧x<w'.next)→WS tab st f' w' Q): WS tab (.code (.loop Xf) :: .endB 2::st) f w Q:=by
 have hil:i<rows.length:=(List.getElem?_eq_some_iff.1 hr).1
 refine LK (fun q f w1=>∃m av R,FtF f tb nm rv ov i fb∧f.get 10=some (.int .i64 (Fq m))∧CB w1 fb [.str nm,av]∧Bt R w1 av 3 m (O0 ((r.take m).map (Lx ts)))∧Frm (fun x=>x=fb) w w1∧(∀x,R x→w.next≤x∧x<w1.next)∧m≤r.length∧q=r.length-m)
  (fun f w1=>∃av R,FtF f tb nm rv ov i fb∧CB w1 fb [.str nm,av]∧Bt R w1 av 3 r.length (O0 (r.map (Lx ts)))∧Frm (fun x=>x=fb) w w1∧(∀x,R x→w.next≤x∧x<w1.next)) ?_ ?_ r.length
  ⟨0,.nilslice,fun _=>False,hF,f10,hb,.nil,Frm.refl _,fun _ h=>h.elim,Nat.zero_le _,rfl⟩
 ·rintro q f w1 ⟨m,av,R,⟨f0,f1,f2,f7,f8,f9⟩,f10,hc,hB,g,hR,hm,rfl⟩ ih out;obtain⟨b,o,c,xv,rfl,lr,hrv⟩:=(hx.frm g hT).at hr;have hxl:=M0 hrv;by_cases hlt:m<r.length
  case neg =>
   obtain rfl:m=r.length:=Fh;rw[List.take_length]at hB;refine Lb 1000 (by simp only[go_sem,Xf,f2,f8,f10,hil,lr,hxl,hlt];rfl) ?_;exact out _ _ _ ⟨av,R,⟨(Fg f0),(Fg f1),(Fg f2),(Fg f7),(Fg f8),(Fg f9)⟩,hc,hB,g,hR⟩ rfl
  obtain⟨n,hn⟩:∃n,r[m]? = some n:=⟨_,FB hlt⟩;obtain⟨rb,rc,rfl,ln⟩:=Dh hrv hn;have hnr:=hrn n (FI hn);have k1:w1.load fb 1 1=some [av]:=CB.ld hc 1 1 _ rfl;have ht1:=ht.step g hfb.2.1 hfb.2.2 fun x hx e=>hfb.1 (e▸hx);have gn:=g.next;refine Fz (by simp only[go_sem,K5,Xf,HH,f2,f8,f10,hil,lr,hxl,hlt];rfl) ?_;refine Bo ?_;refine LU 100 (by simp only[go_sem,K5,f0,f2,f8,f9,f10,k1,hil,lr,hlt,ln];rfl) ?_;refine BJ Ff Fe ?_;refine JpI C ht1 hts ⟨by omega,by omega⟩ fun w2 u g2 hu1 hu2=>?_;have hu:=Jog hu1 hu2;have hc2:=hc.frm g2 fun h=>h;have k1':w2.load fb 1 1=some [av]:=CB.ld hc2 1 1 _ rfl;have hB2:=hB.frm g2 fun _ _ h=>h;have gn2:=g2.next;have hbl:=hb.lt;obtain⟨v',w3,R3,u1,u2,u3,u4⟩:=hB2.push (news:=tkC u) (bytes:=32) (fun x hx=>by have:=hR x hx;omega) Fh rfl rfl Fh Fh;have hel:(w2.fresh (tkC u)).elems 3 (.slice w2.next 0 1 (.known 1))=some (1,tkC u):=Tj Fh rfl;have hov:over [V.int .i64 0,V.str [],V.int .i64 0] 0 (tkC u)=some (tkC u):=rfl;have k1'':(w2.fresh (tkC u)).load fb 1 1=some [av]:=CB.ld (hc2.frm (LZ (S:=fun _=>False) _ _) fun h=>h) 1 1 _ rfl;have hc3:=hc2.frm u3 fun h=>by have:=(hR _ h).1;omega
  have s3:w3.store fb 1 [v']=some (w3.put fb [.str nm,v']):=hc3.set (i:=1) (v:=v') Fj u2.one.1;have c4:=Oc (l:=[V.str nm,v']) hc3.lt;have g4:Frm (fun x=>x=fb) w3 (w3.put fb [.str nm,v']):=LW;have hcc:V.cells (.agg (tkC u))=tkC u:=rfl;have hwr:KZ .i64 (Fq m+1)=Fq (m+1):=Lh Fh;have hvc:=u2.one.2;refine LU 100 (by simp only[go_sem,K5,f9,hcc,TE,Lg,Lj,hov,FC,FD,hel,u1,hvc,s3];rfl) ?_;refine O1 ⟨(show LF _ _ [(1,10),(1,11)]from by simp only[go_sem,K5,LF,chk,List.reverse_cons,List.reverse_nil,O8,O6,O4,O5,List.getElem?_nil,false_or,or_true,or_false,exists_eq',FQ,Prod.mk.injEq,Bool.true_eq_false,FM,and_true,true_and,implies_true,k1,k1',k1'']),?_⟩;have hn3:=u3.next;obtain⟨w4,e4⟩:∃w4,w4=w3.put fb [.str nm,v']:=⟨_,rfl⟩;have hn4:w4.next=w3.next:=by rw[e4];rfl
  rw[←e4]at c4 g4 ⊢;refine Fz (by simp only[go_sem,K5,f10,hwr];rfl) ?_;refine ih _ _ _ Fh ⟨m+1,v',R3,⟨(Fg f0),(Fg f1),(Fg f2),(Fg f7),(Fg f8),(Fg f9)⟩,Fb,c4,?_,((g.tr g2.no).trans u3 (fun _ _ h=>h) fun x hx h=>by have:=(hR x h).1;omega).tr g4,fun x hx=>?_,by omega,rfl⟩
  ·rw[O7 hn,List.map_append,Kv,Kw,Q9,←hu]
   exact u2.frm g4 fun x hx h=>by
    rcases (u4 x hx).2 with h1|h1
    ·have:=(hR x h1).1;omega
    ·omega
  ·refine⟨?_,by rw[hn4];exact (u4 x hx).1⟩;rcases (u4 x hx).2 with h1|h1
   ·exact (hR x h1).1
   ·omega
 ·rintro f w1 ⟨av,R,hF,hc,hB,g,hR⟩;exact h f w1 av R hF hc hB.rd g hR
variable {K:V→AW→Prop}
theorem Jtb (C:Codes tab){tb mb:Nat}{tv:V}{aw:AW}(hx:RowsRd T aw rv rows)(hT:∀x,T x→x<aw.next)(ht:TabW tb mb tv S ts aw)(hts:ts.length≤100000)(hrn:∀r∈rows,∀n∈r,1≤n∧n≤(ts.length:Int))(hrl:∀r∈rows,r.length≤1000)(hl:rows.length≤500000)(h:∀w v,Fcs (fun x=>aw.next≤x∧x<w.next) w v (Tq ts nm rows)→Frm (fun _=>False) aw w→K v w):WF tab Gr [.ptr tb 0,.str nm,rv] aw K:=by
 refine Ld C.Xh rfl ?_;have hlv:=hx.lenV;refine Fz (by simp only[go_sem,K5,Xg];rfl) ?_
 refine LK (fun q f w=>∃i ov,f.get 0=some (.ptr tb 0)∧f.get 1=some (.str nm)∧f.get 2=some rv∧f.get 7=some ov∧f.get 8=some (.int .i64 (Fq i))∧Fcs (fun x=>aw.next≤x∧x<w.next) w ov (Tq ts nm (rows.take i))∧(Tq ts nm (rows.take i)=[]→ov = .nilslice)∧Frm (fun _=>False) aw w∧i≤rows.length∧q=rows.length-i)
  (fun f w=>∃ov,f.get 7=some ov∧Fcs (fun x=>aw.next≤x∧x<w.next) w ov (Tq ts nm rows)∧Frm (fun _=>False) aw w) ?_ ?_ rows.length
  ⟨0,.nilslice,Fb,Fb,Fb,Fb,Fb,⟨[],.nil,.nil⟩,fun _=>rfl,Frm.refl _,Nat.zero_le _,rfl⟩
 ·rintro q f w ⟨i,ov,f0,f1,f2,f7,f8,ho,hnil,g,hi,rfl⟩ ih out;by_cases hil:i<rows.length
  case neg =>
   obtain rfl:i=rows.length:=Fh;rw[List.take_length]at ho;refine Lb 1000 (by simp only[go_sem,Ue,f2,f8,hlv,hil];rfl) ?_;exact out _ _ _ ⟨ov,(Fg f7),ho,g⟩ rfl
  obtain⟨r,hr⟩:∃r,rows[i]? = some r:=⟨_,FB hil⟩;have hrm:=FI hr;obtain⟨w2,s2,c2,r2,n2⟩:=Oj w (zs:=[V.str [],V.nilslice]) (vs:=[V.str nm,V.nilslice]) rfl rfl;have hov1:over [V.str [],V.nilslice] 0 [V.str nm]=some [V.str nm,V.nilslice]:=rfl;have hwr:KZ .i64 (Fq i+1)=Fq (i+1):=Lh Fh;have gn:=g.next;have hSS:=ht.s;have htb:=ht.a.lt;have hmb:=ht.m.lt;have hrl':=hrl r hrm;obtain⟨hfl,hfw⟩:=JkJ ts nm (rows.take i);rw[FU]at hfl;have hfw:=hfw 1000 fun x hx=>hrl x (List.mem_of_mem_take hx);have esn:Tq ts nm (rows.take (i+1))=OE (Tq ts nm (rows.take i)) (nm,r.map (Lx ts)):=by rw[O7 hr,JoA]
  refine Fz (by simp only[go_sem,K5,Ue,HJ,f1,f2,f8,hlv,hil,Lg,Lj,hov1,FC,FD,s2];rfl) ?_;refine Jqf (i:=i) (fb:=w.next) (nm:=nm) (ov:=ov) C ((hx.frm g fun _ _ h=>h).frm r2 fun _ _ h=>h) hr (fun x hx=>by have:=hT x hx;omega) ((ht.step0 g).step0 r2) ⟨fun hs=>by have:=(hSS _ hs).1;omega,by omega,by omega⟩ hts (hrn r hrm) hrl' ⟨(Fg f0),(Fg f1),(Fg f2),(Fg f7),(Fg f8),Fb⟩ Fb c2 fun f3 w3 av R hF3 c3 hB3 g3 hR=>?_;obtain⟨q0,q1,q2,q7,q8,q9⟩:=hF3;have gn3:=g3.next;have g03:Frm (fun _=>False) w w3:=r2.trans g3 (fun _ _ h=>h) fun x hx h=>by omega
  have k2:w3.load w.next 0 2=some [.str nm,av]:=c3.all rfl;have hfc:FcC R w3 (nm,r.map (Lx ts)) [.str nm,av]:=⟨av,rfl,by show Rd R w3 av 3 (r.map (Lx ts)).length _;rw[F9];exact hB3⟩;refine Fz (by simp only[go_sem,K5,HI,q7,q9,k2];rfl) ?_;refine K9 Ff Fe ?_;refine JpC C (ho.frm g03 fun _ _ h=>h) hnil hfc Fh hfw (by show (r.map (Lx ts)).length≤1000;rw[F9];exact hrl') ?_;intro w4 v4 q3 q4 q5;have gn4:=q5.next;refine Fz (by simp only[go_sem,K5,q8,hwr];rfl) ?_;refine ih _ _ _ Fh ⟨i+1,v4,(by simp only[go_sem,K5,q0]<;>rfl),(by simp only[go_sem,K5,q1]<;>rfl),(by simp only[go_sem,K5,q2]<;>rfl),Fb,Fb,?_,fun e=>q4 (by rw[←esn];exact e),(g.tr g03).tr q5,by omega,rfl⟩;rw[esn];refine q3.mono fun x hx=>?_;rcases hx with hx|hx|hx
  ·exact⟨hx.1,by omega⟩
  ·have:=hR x hx;exact⟨by omega,by omega⟩
  ·exact⟨by omega,hx.2⟩
 ·rintro f w ⟨ov,f7,ho,g⟩;refine Fz (by simp only[go_sem,K5,f7];rfl) ?_;refine K7 ⟨_,by simp only[go_sem,K5,Xg];rfl,?_⟩;exact h w ov ho g
theorem JlN:∀{a b:List Int},a.length=b.length→Rel.cmpL a b<0→∃(d:Nat),∃x y:Int,a[d]? = some x∧b[d]? = some y∧x<y∧∀j,j<d→a[j]? = b[j]?
 | [],[],_,h=>by simp[Rel.cmpL]at h
 | [],_::_,hl,_=>by simp at hl
 | _::_,[],hl,_=>by simp at hl
 | x::a,y::b,hl,h=>by
  unfold Rel.cmpL at h;by_cases hc:Rel.cmpI x y=0
  ·rw[if_pos hc]at h;obtain⟨d,u,v,h1,h2,h3,h4⟩:=JlN (by simpa using hl) h
   have hxy:x=y:=by
    unfold Rel.cmpI at hc;split at hc
    ·cases hc
    ·split at hc
     ·cases hc
     ·omega
   refine⟨d+1,u,v,by simpa using h1,by simpa using h2,h3,fun j hj=>?_⟩;cases j with
   | zero=>rw[hxy];rfl
   | succ j=>simpa using h4 j Fh
  ·rw[if_neg hc]at h;refine⟨0,x,y,rfl,rfl,?_,fun j hj=>by omega⟩;unfold Rel.cmpI at h;split at h
   ·assumption
   ·split at h
    ·exact absurd h (by decide)
    ·exact absurd h (by decide)
theorem Jvc (C:Codes tab){wd:Nat}{aw:AW}(hx:RowsRd T aw rv rows)(hrise:Rel.Rise rows)(hw:∀r∈rows,r.length=wd)(hwd:wd≤1000)(hl:rows.length≤1000000)(h:K (.bool true) aw):WF tab Gp [rv] aw K:=by
 refine Ld C.Xd rfl ?_;have hlv:=hx.lenV;refine Fz (by simp only[go_sem,K5,Xc];rfl) ?_;refine LK (fun q f w=>∃i,f.get 0=some rv∧f.get 3=some (.int .i64 (Fq i))∧w=aw∧1≤i∧q=rows.length+1-i) (fun f w=>w=aw) ?_ ?_ rows.length ⟨1,Fb,Fb,rfl,FH _,by omega⟩
 ·rintro q f w ⟨i,f0,f3,rfl,h1,rfl⟩ ih out;by_cases hil:i<rows.length
  case neg =>
   refine Lb 1000 (by simp only[go_sem,Ub,f0,f3,hlv,hil];rfl) ?_;exact out _ _ _ rfl rfl
  obtain⟨p,rfl⟩:∃p,i=p+1:=⟨i-1,by omega⟩;have hpl:p<rows.length:=Fh;obtain⟨r,hr⟩:∃r,rows[p+1]? = some r:=⟨_,FB hil⟩;obtain⟨r0,hr0⟩:∃r,rows[p]? = some r:=⟨_,FB hpl⟩;have hlt:=List.pairwise_iff_getElem.1 hrise p (p+1) hpl hil Fh;rw[FB hil]at hr;rw[FB hpl]at hr0;have e1:=FY hr;have e0:=FY hr0;rw[e1,e0]at hlt;have hwr:=hw r (by rw[←e1];exact KE _);have hwr0:=hw r0 (by rw[←e0];exact KE _);obtain⟨d,x,y,hxd,hyd,hxy,heq⟩:=JlN (hwr0.trans hwr.symm) hlt;have hdl:d<wd:=by have:=(List.getElem?_eq_some_iff.1 hxd).1;omega
  obtain⟨b,o,c,v1,rfl,lr,hrv⟩:=hx.at (i:=p+1) (r:=r) (by rw[FB hil,e1]);obtain⟨b',o',c',v0,e',lr0,hrv0⟩:=hx.at (i:=p) (r:=r0) (by rw[FB hpl,e0]);cases e';have hl1:=M0 hrv;have hl0:=M0 hrv0;rw[hwr]at hl1;rw[hwr0]at hl0
  have hwm:KZ .i64 (Fq (p+1)-1)=Fq p:=by
   rw[show Fq (p+1)-1=Fq p by show ((p+1:Nat):Int)-1=(p:Int);omega];exact Iw (by show (-9223372036854775808:Int)≤(p:Int);omega) (by show (p:Int)≤_;omega)
  have hwi:KZ .i64 (Fq (p+1)+1)=Fq (p+1+1):=Lh Fh;refine Fz (by simp only[go_sem,K5,Ub,HD,f0,f3,hlv,hil];rfl) ?_;refine LK (fun q f w'=>∃k,f.get 0=some (.slice b o rows.length c)∧f.get 3=some (.int .i64 (Fq (p+1)))∧f.get 5=some (.int .i64 (Fq k))∧w'=w∧k≤d∧q=d-k) (fun f w'=>f.get 0=some (.slice b o rows.length c)∧f.get 3=some (.int .i64 (Fq (p+1)))∧f.get 4=some (.bool true)∧w'=w) ?_ ?_ d ⟨0,(Fg f0),(Fg f3),Fb,rfl,Nat.zero_le _,rfl⟩
  ·rintro q f w' ⟨k,g0,g3,g5,rfl,hk,rfl⟩ ih' out';have hkw:k<wd:=Fh;by_cases hkd:k=d
   ·subst hkd;obtain⟨rb,rc,rfl,ln⟩:=Dh hrv hyd;obtain⟨rb0,rc0,rfl,ln0⟩:=Dh hrv0 hxd;have hne:(x != y)=true:=by simp;omega
    have hne':¬x=y:=Fh;rw[hwr]at lr;rw[hwr0]at lr0;refine Lb 1000 (by simp only[go_sem,Ua,V9,HC,g0,g3,g5,hil,hpl,lr,lr0,hl1,hl0,hkw,hwm,ln,ln0,hne,hne',hxy,hwr,hwr0];rfl) ?_;exact out' _ _ _ ⟨(Fg g0),(Fg g3),Fb,rfl⟩ rfl
   ·have hk':k<d:=Fh;have hkl:k<r.length:=Fh;obtain⟨z,hz⟩:∃z,r[k]? = some z:=⟨_,FB hkl⟩;have hz0:r0[k]? = some z:=by rw[heq k hk',hz]
    obtain⟨rb,rc,rfl,ln⟩:=Dh hrv hz;obtain⟨rb0,rc0,rfl,ln0⟩:=Dh hrv0 hz0;have hne:(z != z)=false:=Fj;have hwk:KZ .i64 (Fq k+1)=Fq (k+1):=Lh Fh;rw[hwr]at lr;rw[hwr0]at lr0;refine Fz (by simp only[go_sem,K5,Ua,V9,g0,g3,g5,hil,hpl,lr,lr0,hl1,hl0,hkw,hwm,ln,ln0,hne,hwr,hwr0,hwk];rfl) ?_;exact ih' _ _ _ Fh ⟨k+1,(Fg g0),(Fg g3),Fb,rfl,by omega,rfl⟩
  ·rintro f w' ⟨g0,g3,g4,rfl⟩;refine Fz (by simp only[go_sem,K5,g3,g4,hwi];rfl) ?_;exact ih _ _ _ Fh ⟨p+1+1,(Fg g0),Fb,rfl,by omega,rfl⟩
 ·rintro f w rfl;refine K6 1000 Fe ?_;refine K7 ⟨_,by simp only[go_sem,K5,Xc];rfl,?_⟩;exact h
section
open Go.AE Delphi Val
theorem Jqq (hg:TsGood ts):∀(args:List Tk),(∀c∈args,Ll c=true)→∃y,(LJ ts args).2=ts++y∧TsGood (LJ ts args).2∧(∀n∈(LJ ts args).1,1≤n∧n≤((LJ ts args).2.length:Int))∧(LJ ts args).1.map (Lx (LJ ts args).2)=args:=by
 intro args hm
 suffices h:∀k,k≤args.length→∃y,(LJ ts (args.take k)).2=ts++y∧TsGood (LJ ts (args.take k)).2∧(∀n∈(LJ ts (args.take k)).1,1≤n∧n≤((LJ ts (args.take k)).2.length:Int))∧(LJ ts (args.take k)).1.map (Lx (LJ ts (args.take k)).2)=args.take k by
  have:=h args.length (FH _)
  rwa [List.take_length]at this
 intro k;induction k with
 | zero=>intro _;exact⟨[],by simp[LJ],by simpa[LJ]using hg,by simp[LJ],by simp[LJ]⟩
 | succ k ih =>
  intro hk;obtain⟨y,h1,h2,h3,h4⟩:=ih Fh;obtain⟨c,hc⟩:∃c,args[k]? = some c:=⟨_,FB Fh⟩;rw[O7 hc,Jjz];obtain⟨z,i1,i2,i3,i4⟩:=Jnt (ts:=(LJ ts (args.take k)).2) (hm c (FI hc));have hg2:=h2.id c;unfold CP;simp only;have hle:((LJ ts (args.take k)).2.length:Int)≤((idT (LJ ts (args.take k)).2 c).2.length:Int):=by rw[i1,FE];omega
  refine⟨y++z,by rw[i1,h1,F6],hg2,fun n hn=>?_,?_⟩
  ·rcases List.mem_append.1 hn with hn|hn
   ·have:=h3 n hn;exact⟨this.1,by omega⟩
   ·simp only[FJ,F3,or_false]at hn;subst hn;exact⟨by show (1:Int)≤((_:Nat):Int);omega,by show ((_:Nat):Int)≤_;omega⟩
  ·rw[List.map_append,Kv,Kw,i4]
   congr 1
   refine (List.map_congr_left fun n hn=>?_).trans h4;have:=h3 n hn;rw[i1];exact Cv this.1 this.2
structure LaidT (ts:List Tk) (M:Bp) (l:List Fc):Prop where
 good:TsGood ts
 mem:∀nm args,fsT ts (K8 M nm) args↔(nm,args)∈l
 rng:∀nm x,K8 M nm=some x→∀r∈x.2,r.length=x.1∧∀n∈r,1≤n∧n≤(ts.length:Int)
variable {y:List Tk}
theorem Jnp {q:Option (Nat×List (List Int))}(hq:∀x,q=some x→∀r∈x.2,∀n∈r,1≤n∧n≤(ts.length:Int)){args:List Tk}:fsT (ts++y) q args↔fsT ts q args:=by
 unfold fsT
 have e:∀x,q=some x→∀r∈x.2,r.map (Lx (ts++y))=r.map (Lx ts):=fun x hx r hr=>List.map_congr_left fun n hn=>by
  have:=hq x hx r hr n hn;exact Cv this.1 this.2
 constructor
 ·rintro⟨x,r,h1,h2,h3⟩;exact⟨x,r,h1,h2,by rw[h3,e x h1 r h2]⟩
 ·rintro⟨x,r,h1,h2,h3⟩;exact⟨x,r,h1,h2,by rw[h3,e x h1 r h2]⟩
variable {l:List Fc}
theorem LaidT.ext {M:Bp}(h:LaidT ts M l)(hg:TsGood (ts++y)):LaidT (ts++y) M l:=
 ⟨hg,fun nm args=>by rw[Jnp fun x hx r hr n hn=>(h.rng nm x hx r hr).2 n hn];exact h.mem nm args,fun nm x hx r hr=>⟨(h.rng nm x hx r hr).1,fun n hn=>by
  have:=(h.rng nm x hx r hr).2 n hn;rw[FE];exact⟨this.1,by omega⟩⟩⟩
theorem RO (hg:TsGood ts)(hl:FcsL l)(hm:O9 l):(∃y,(LC ts l).1=ts++y)∧LaidT (LC ts l).1 (LC ts l).2 l:=by
 suffices h:∀i,i≤l.length→(∃y,(LC ts (l.take i)).1=ts++y)∧LaidT (LC ts (l.take i)).1 (LC ts (l.take i)).2 (l.take i)by
  have:=h l.length (FH _)
  rwa [List.take_length]at this
 intro i;induction i with
 | zero=>intro _;exact⟨⟨[],by simp[LC]⟩,by simpa[LC]using hg,fun nm args=>by simp[LC,K8,fsT],fun nm x hx=>by simp[LC,K8]at hx⟩
 | succ i ih =>
  intro hi;obtain⟨⟨y,hy⟩,hT⟩:=ih Fh;obtain⟨fc,hfc⟩:∃fc,l[i]? = some fc:=⟨_,FB Fh⟩;have hfm:=FI hfc;obtain⟨hp,_⟩:LaidP (l.take i) (LC ts (l.take i)).2∧_:=Ap (ts:=ts) ⟨by rw[FU];have:=hl.len;omega,fun f hf=>hl.ok f (List.mem_of_mem_take hf),fun f hf g hg=>hl.ar f (List.mem_of_mem_take hf) g (List.mem_of_mem_take hg)⟩;rw[O7 hfc,N9];generalize LC ts (l.take i)=s at hy hT hp;obtain⟨ts1,M⟩:=s;simp only at hy hT hp;obtain⟨z,j1,j2,j3,j4⟩:=Jqq hT.good fc.2 (hm fc hfm);have hx:=Jl2 M fc;have hrl:=(Ec ts1 fc.2).1;unfold Dg;simp only
  have hold:∀r,r∈(BM M fc).2↔∃x,K8 M fc.1=some x∧r∈x.2:=by
   intro r;unfold BM Ty;cases hg:K8 M fc.1 with
   | none=>simp only;rw[Bd];simp
   | some x=>simp only;rw[hg];simp
  have hwd:(BM M fc).1=fc.2.length:=by
   unfold BM Ty;cases hg:K8 M fc.1 with
   | none=>simp only;rw[Bd];rfl
   | some x =>
    simp only;rw[hg];obtain⟨g,hgm,hgn,hga⟩:=hp.ar _ _ hg;show x.1=_;rw[hga];exact hl.ar g (List.mem_of_mem_take hgm) fc hfm hgn
  have hne:∀nm,nm≠fc.1→K8 (Ob (Ty M fc) fc.1 ((BM M fc).1,BP (BM M fc).2 (LJ ts1 fc.2).1)) nm=K8 M nm:=by
   intro nm h;rw[Ti _ _ _ _ h];unfold Ty;cases hg:K8 M fc.1 with
   | none=>simp only;rw[Ti _ _ _ _ h]
   | some x=>rfl
  have e1:∀nm x,K8 M nm=some x→∀r∈x.2,∀n∈r,1≤n∧n≤(ts1.length:Int):=fun nm x hx r hr=>(hT.rng nm x hx r hr).2;refine⟨⟨y++z,by rw[j1,hy,F6]⟩,j2,fun nm args=>?_,fun nm x hx' r hr=>?_⟩
  ·rw[Ka];by_cases he:nm=fc.1
   ·subst he;rw[Bd]
    have:fsT (LJ ts1 fc.2).2 (some ((BM M fc).1,BP (BM M fc).2 (LJ ts1 fc.2).1)) args↔(fsT ts1 (K8 M fc.1) args∨args=fc.2):=by
     constructor
     ·rintro⟨x,r,h1,h2,h3⟩;cases h1;rcases mem_addR.1 h2 with h2|rfl
      ·obtain⟨x,hx1,hx2⟩:=(hold r).1 h2;left;refine⟨x,r,hx1,hx2,?_⟩;rw[h3,j1];refine List.map_congr_left fun n hn=>?_;have:=e1 _ _ hx1 r hx2 n hn;exact Cv this.1 this.2
      ·exact .inr (h3.trans j4)
     ·rintro (⟨x,r,h1,h2,h3⟩|rfl)
      ·refine⟨_,r,rfl,mem_addR.2 (.inl ((hold r).2 ⟨x,h1,h2⟩)),?_⟩;rw[h3,j1];refine (List.map_congr_left fun n hn=>?_).symm;have:=e1 _ _ h1 r h2 n hn;exact Cv this.1 this.2
      ·exact⟨_,_,rfl,mem_addR.2 (.inr rfl),j4.symm⟩
    rw[this,hT.mem];simp only[FJ,F3,or_false];constructor
    ·rintro (h|rfl)
     ·exact .inl h
     ·exact .inr rfl
    ·rintro (h|h)
     ·exact .inl h
     ·exact .inr (congrArg Prod.snd h)
   ·rw[hne nm he,j1,Jnp (e1 nm),hT.mem];constructor
    ·exact .inl
    ·rintro (h|h)
     ·exact h
     ·simp only[FJ,F3,or_false]at h;exact absurd (congrArg Prod.fst h) he
  ·have hle:(ts1.length:Int)≤((LJ ts1 fc.2).2.length:Int):=by rw[j1,FE];omega
   by_cases he:nm=fc.1
   ·subst he;rw[Bd]at hx';cases hx';rcases mem_addR.1 hr with hr|rfl
    ·obtain⟨x,hx1,hx2⟩:=(hold r).1 hr;have:=hT.rng _ _ hx1 r hx2;refine⟨?_,fun n hn=>⟨(this.2 n hn).1,by have:=(this.2 n hn).2;omega⟩⟩;show r.length=(BM M fc).1;rw[this.1,hwd];obtain⟨g,hgm,hgn,hga⟩:=hp.ar _ _ hx1;rw[hga];exact hl.ar g (List.mem_of_mem_take hgm) fc hfm hgn
    ·exact⟨by show _=(BM M fc).1;rw[hwd,hrl],j3⟩
   ·rw[hne nm he]at hx';have:=hT.rng _ _ hx' r hr;exact⟨this.1,fun n hn=>⟨(this.2 n hn).1,by have:=(this.2 n hn).2;omega⟩⟩
theorem JqG (h:rows.Nodup)(hn:r∉rows):(Rel.insR rows r).Nodup:=by
 unfold Rel.insR;have h1:(rows.take (Rel.posn rows r)++rows.drop (Rel.posn rows r)).Nodup:=by rw[List.take_append_drop];exact h
 rw[List.nodup_append]at h1;obtain⟨a1,a2,a3⟩:=h1;have n1:r∉rows.take (Rel.posn rows r):=fun hh=>hn (List.mem_of_mem_take hh);have n2:r∉rows.drop (Rel.posn rows r):=fun hh=>hn (List.mem_of_mem_drop hh);rw[F6,List.nodup_append];refine⟨a1,List.nodup_cons.2 ⟨n2,a2⟩,?_⟩;rintro a ha b hb rfl;rcases List.mem_cons.1 hb with rfl|hb
 ·exact n1 ha
 ·exact a3 a ha a hb rfl
theorem JqF (h:rows.Nodup):(BP rows r).Nodup:=by
 unfold BP;split
 ·exact h
 ·rename_i hn;exact JqG h hn
theorem JjH {rec:Vm→JS→JS}(h:∀M s,s.rows.Nodup→(rec M s).rows.Nodup)(l:Lt)(M:Vm):∀(rows:Fy) (s:JS),s.rows.Nodup→(Ot rec l M rows s).rows.Nodup
 | [],s,hs=>hs
 | r::rows,s,hs=>by
  unfold Ot;rw[Ku];refine JjH h l M rows _ ?_;split
  ·exact h _ _ hs
  ·exact hs
theorem E9 (E:JE):∀(n k:Nat) (M:Vm) (s:JS),s.rows.Nodup→(OW E n k M s).rows.Nodup
 | 0,k,M,s,h=>by
  unfold OW;split
  ·exact h
  ·exact JqF h
 | n+1,k,M,s,h=>by
  unfold OW;split
  ·exact h
  ·unfold goJ;split
   ·exact JjH (fun M s hs=>E9 E n (k+1) M s hs) _ _ _ _ h
   split
   ·split
    ·exact h
    ·exact E9 E n (k+1) _ _ h
   ·split
    ·exact E9 E n (k+1) _ _ h
    ·exact h
theorem Jiu {ts:List Tk}(hg:TsGood ts):∀{rows:Fy},rows.Nodup→(∀r∈rows,∀n∈r,1≤n∧n≤(ts.length:Int))→(rows.map fun r=>r.map (Lx ts)).Nodup
 | [],_,_=>by simp
 | r::rows,h,hr=>by
  obtain⟨h1,h2⟩:=List.nodup_cons.1 h;rw[Kv,List.nodup_cons];refine⟨fun hm=>?_,Jiu hg h2 fun x hx=>hr x (FO _ hx)⟩;obtain⟨x,hx,he⟩:=List.mem_map.1 hm
  have:∀(a b:List Int),(∀n∈a,1≤n∧n≤(ts.length:Int))→(∀n∈b,1≤n∧n≤(ts.length:Int))→a.map (Lx ts)=b.map (Lx ts)→a=b:=by
   intro a;induction a with
   | nil=>intro b _ _ h;cases b with|nil=>rfl|cons _ _=>simp at h
   | cons n a ih =>
    intro b ha hb h;cases b with
    | nil=>simp at h
    | cons m b =>
     simp only[Kv,List.cons.injEq]at h;have hm:=hb m Fj;rw[RA hg hm.1 hm.2 h.1,ih b (fun k hk=>ha k (FO _ hk)) (fun k hk=>hb k (FO _ hk)) h.2]
  rw[this x r (hr x (FO _ hx)) (hr r Fj) he]at hx;exact h1 hx
theorem JrT {s:List Nat}(h:AP s):BO s=true∧s.length≤16:=by
 obtain⟨c,t,rfl,h1,h2,h3⟩:=h
 have hall:∀(t:List Nat) (i:Nat),0<i→(∀x∈t,OH x=true)→BN i t=true:=by
  intro t;induction t with
  | nil=>intro i _ _;rfl
  | cons x t ih =>
   intro i hi h;unfold BN;rw[ih (i+1) Fh fun y hy=>h y (FO _ hy),Bool.and_true];have:=h x Fj;unfold OH Ir LX at this;unfold okc;rw[decide_eq_true (show i≠0 by omega),Bool.true_and];exact this
 refine⟨?_,h3⟩;unfold BO BN;rw[hall t 1 Fh fun x hx=>h2 x (FO _ hx),Bool.and_true]
 have e1:okc 0 c=true:=by
  unfold okc;unfold Ir at h1;rw[h1];rfl
 rw[e1,Bool.true_and,decide_eq_true h3,decide_eq_true (by simp:1≤(c::t).length)];rfl
theorem JqE {c:Nat}(h:OH c=true):c<256:=by
 unfold OH Ir LX at h;simp only[Bool.or_eq_true,FT,decide_eq_true_eq]at h;omega
theorem Jsp {t:Tm}(hw:TmW t)(hx:TmX Ba t)(hk:t.kind≠1):Ll (Lc t)=true∧TkOk (Lc t):=by
 rcases hw with⟨h1,_⟩|⟨h1,h2⟩|⟨h1,h2,h3⟩
 ·exact absurd h1 hk
 ·have hn:=hx.2.1 h1;obtain⟨w1,w2⟩:=JrT hn;refine⟨?_,⟨by show t.name.length≤9223372036854775807;omega,fun c hc=>?_⟩⟩
  ·unfold Ll Lc;simp only[h1,h2,w1];rfl
  ·obtain⟨c0,t0,e,_,h5,_⟩:=hn;exact JqE (h5 c hc)
 ·refine⟨?_,⟨by show t.name.length≤9223372036854775807;rw[h2];simp,fun c hc=>by have hc:c∈t.name:=hc;rw[h2]at hc;simp at hc⟩⟩;unfold Ll Lc;simp only[h1,h2];have a1 : -2147483648≤t.num:=Fh;have a2:t.num≤2147483648:=Fh;simp[a1,a2]
theorem Np {r:Rl}(h:RG r):(∀t∈r.head.args,t.kind≠1→Ll (Lc t)=true∧TkOk (Lc t))∧(∀l∈r.body,∀t∈l.args,t.kind≠1→Ll (Lc t)=true∧TkOk (Lc t))∧(∀l∈r.body,l.kind≠1→l.kind≠2→3≤l.kind∧l.kind≤6∧l.args.length=2)∧RBr r∧r.head.args.length≤4:=by
 obtain⟨hx,hl⟩:=h;refine⟨fun t ht hk=>Jsp (hx.w.ht t ht) (hx.tm t ht) hk,fun l hlm t ht hk=>Jsp ((hx.bd l hlm).w.tm t ht) ((hx.bd l hlm).tm t ht) hk,fun l hlm h1 h2=>?_,⟨by have:=hl.hd;omega,by have:=hl.bd;omega,fun l hlm=>by have:l.args.length≤4:=hl.ls l hlm;omega⟩,hl.hd⟩;rcases (hx.bd l hlm).w.kind with h3|h3
 ·rcases h3 with h3|h3
  ·exact absurd h3 h1
  ·exact absurd h3 h2
 ·exact⟨h3.1,h3.2.1,h3.2.2.1⟩
end
section
open Go.AE Delphi Val
variable {tab:Tab}
theorem Jqe (hg:TsGood ts)(nm:List Nat):∀(rows:Fy),(∀r∈rows,∀n∈r,1≤n∧n≤(ts.length:Int))→O9 (Tq ts nm rows)∧I4 (Tq ts nm rows)∧∀f,f∈Tq ts nm rows↔∃r∈rows,f=(nm,r.map (Lx ts)):=by
 have hm:∀r:List Int,(∀n∈r,1≤n∧n≤(ts.length:Int))→Ig (nm,r.map (Lx ts)):=fun r hr c hc=>by
  obtain⟨n,hn,rfl⟩:=List.mem_map.1 hc;have:=hr n hn;exact hg.may _ (RB this.1 this.2)
 have:∀(rows:Fy) (o:List Fc),(∀r∈rows,∀n∈r,1≤n∧n≤(ts.length:Int))→O9 o→I4 o→O9 (rows.foldl (fun o r=>OE o (nm,r.map (Lx ts))) o)∧I4 (rows.foldl (fun o r=>OE o (nm,r.map (Lx ts))) o)∧∀f,f∈rows.foldl (fun o r=>OE o (nm,r.map (Lx ts))) o↔(f∈o∨∃r∈rows,f=(nm,r.map (Lx ts))):=by
  intro rows;induction rows with
  | nil=>intro o _ h1 h2;exact⟨h1,h2,fun f=>by simp⟩
  | cons r rows ih =>
   intro o hr h1 h2;have hmr:=hm r (hr r Fj);obtain⟨q1,q2,q3⟩:=ih (OE o (nm,r.map (Lx ts))) (fun x hx=>hr x (FO _ hx)) (JmR h1 hmr) (JlC h1 hmr h2);rw[Ku];refine⟨q1,q2,fun f=>?_⟩;rw[q3 f,JmS h1 hmr];constructor
   ·rintro ((h|h)|⟨x,hx,h⟩)
    ·exact .inl h
    ·exact .inr ⟨r,by simp,h⟩
    ·exact .inr ⟨x,FO _ hx,h⟩
   ·rintro (h|⟨x,hx,h⟩)
    ·exact .inl (.inl h)
    ·rcases List.mem_cons.1 hx with rfl|hx
     ·exact .inl (.inr h)
     ·exact .inr ⟨x,hx,h⟩
 intro rows hr;obtain⟨q1,q2,q3⟩:=this rows [] hr (by simp[O9]) List.Pairwise.nil;exact⟨q1,q2,fun f=>by rw[show Tq ts nm rows=rows.foldl (fun o r=>OE o (nm,r.map (Lx ts))) []from rfl,q3 f];simp⟩
theorem JiK:∀{l:List Fc},O9 l→T9 l l=true
 | [],_=>rfl
 | a::l,h=>by
  unfold T9;rw[(Eb (h a Fj) (h a Fj)).2 rfl,JiK fun x hx=>h x (FO _ hx)];rfl
theorem JqW {r:Rl}{first:Int}{M:Bp}{dq:Option (Nat×List (List Int))}{l delta out:List Fc}(hG:RG r)(hok:OL r first)(hT:LaidT ts M l)(hlm:O9 l)(hdm:O9 delta)(hts:ts.length≤60000)(hd:∀i,Fq i=first→∀args,fsT ts dq args↔((Le r.body i).name,args)∈delta)(hdr:∀x,dq=some x→∀r∈x.2,r.length=x.1∧∀n∈r,1≤n∧n≤(ts.length:Int))(hlen:∀nm x,(dq=some x∨K8 M nm=some x)→x.1≤4∧x.2.length≤1000000)(hw:Dj r l first delta=some out): SomeB r dq (fun nm=>K8 M nm)∧O9 out∧(LM r first dq (fun nm=>K8 M nm) (-1) ts).rows.length≤4000∧TsGood (LM r first dq (fun nm=>K8 M nm) (-1) ts).ts∧(LM r first dq (fun nm=>K8 M nm) (-1) ts).ts.length≤ts.length+80∧ (∀x∈(LM r first dq (fun nm=>K8 M nm) (-1) ts).rows,∀n∈x,1≤n∧n≤((LM r first dq (fun nm=>K8 M nm) (-1) ts).ts.length:Int))∧Tq (LM r first dq (fun nm=>K8 M nm) (-1) ts).ts r.head.name (LM r first dq (fun nm=>K8 M nm) (-1) ts).rows=out:=by
 obtain⟨g1,g2,g3,g4,g5⟩:=Np hG
 have hR:RowsIn ts dq (fun nm=>K8 M nm):=⟨fun nm x hx r hr=>by
  rcases hx with hx|hx
  ·exact hdr x hx r hr
  ·exact hT.rng nm x hx r hr⟩
 have hB:SomeB r dq (fun nm=>K8 M nm):=⟨g4,g5,g3,fun t ht hk=>(g1 t ht hk).2,fun l hl t ht hk=>⟨(g2 l hl t ht hk).2,(g2 l hl t ht hk).1⟩,fun nm x hx=>(hlen nm x (.inr hx)).1,fun nm x hx=>⟨(hlen nm x hx).2,fun r hr=>by
  have:=hR.rl nm x hx r hr;exact⟨this.1,fun n hn=>by have:=this.2 n hn;omega⟩⟩⟩
 have hgm:∀t∈r.head.args,t.kind≠1→Ll (Lc t)=true:=fun t ht hk=>(g1 t ht hk).1;obtain⟨⟨y,s1⟩,s2,s3,s4,s5⟩:=Jt4 (first:=first) (most:=-1) hB hgm hR hok hts hT.good;have s5:=s5 rfl
 have hfk:∀i,Fq i=first→i<r.body.length→(Le r.body i).kind=1:=fun i hi hl=>by
  have:=hok.2.2.2 (by rw[←hi];exact Int.natCast_nonneg i);rw[←hi]at this;exact this
 obtain⟨o1,o2,o3,o4⟩:=JtU hw hok.1 hlm hdm hgm (fun l hl t ht hk=>(g2 l hl t ht hk).1) hfk
 have same:∀h,AQ r (fun i=>fsT ts (if Fq i=first then dq else K8 M (Le r.body i).name)) h↔AQ r (fun i args=>((Le r.body i).name,args)∈(if Fq i=first then delta else l)) h:=by
  intro h
  have e:∀i args,fsT ts (if Fq i=first then dq else K8 M (Le r.body i).name) args↔((Le r.body i).name,args)∈(if Fq i=first then delta else l):=by
   intro i args;by_cases hi:Fq i=first
   ·rw[if_pos hi,if_pos hi];exact hd i hi args
   ·rw[if_neg hi,if_neg hi];exact hT.mem _ args
  have e2:(fun i=>fsT ts (if Fq i=first then dq else K8 M (Le r.body i).name))=(fun i args=>((Le r.body i).name,args)∈(if Fq i=first then delta else l)):=by
   funext i args;exact propext (e i args)
  rw[e2]
 obtain⟨f1,f2,f3⟩:=Jqe s2 r.head.name _ s3
 have hmem:∀f,f∈Tq (LM r first dq (fun nm=>K8 M nm) (-1) ts).ts r.head.name (LM r first dq (fun nm=>K8 M nm) (-1) ts).rows↔f∈out:=by
  intro f;rw[f3 f,o4 f];constructor
  ·rintro⟨x,hx,rfl⟩;exact⟨_,(same _).1 (s4 _ (List.mem_map.2 ⟨x,hx,rfl⟩)),rfl⟩
  ·rintro⟨h,hh,rfl⟩;obtain⟨x,hx,rfl⟩:=List.mem_map.1 (s5 h ((same h).2 hh));exact⟨x,hx,rfl⟩
 have hnd:(LM r first dq (fun nm=>K8 M nm) (-1) ts).rows.Nodup:=E9 _ _ _ _ _ List.nodup_nil;have hnd2:=Jiu s2 hnd s3
 have hle:(LM r first dq (fun nm=>K8 M nm) (-1) ts).rows.length≤4000:=by
  have:((LM r first dq (fun nm=>K8 M nm) (-1) ts).rows.map fun x=>x.map (Lx (LM r first dq (fun nm=>K8 M nm) (-1) ts).ts)).length≤(out.map Prod.snd).length:=by
   refine ES hnd2 fun c hc=>?_;obtain⟨x,hx,rfl⟩:=List.mem_map.1 hc;exact List.mem_map.2 ⟨_,(hmem _).1 ((f3 _).2 ⟨x,hx,rfl⟩),rfl⟩
  rw[F9,F9]at this;omega
 have htl:(LM r first dq (fun nm=>K8 M nm) (-1) ts).ts.length≤ts.length+80:=by
  have h1:=Qv (E:=Bb r first dq (fun nm=>K8 M nm) (-1)) (ts0:=Bj ts r.body) (cs:=NI r) (fun t ht hk=>List.mem_map.2 ⟨t,List.mem_append_left _ ht,rfl⟩) (fun l hl t ht hk=>List.mem_map.2 ⟨t,List.mem_append_right _ (List.mem_flatMap.2 ⟨l,hl,ht⟩),rfl⟩) (LQ r first).1.length 0 [] ⟨Bj ts r.body,[],[]⟩ (TsIn.refl _ _);have h2:=h1.len;have h3:=Jm8 g4;have h4:=MN (ts:=ts) (n:=5) g4.args;have h5:=g4.body;show (OW (Bb r first dq (fun nm=>K8 M nm) (-1)) (LQ r first).1.length 0 [] ⟨Bj ts r.body,[],[]⟩).ts.length≤_;omega
 exact⟨hB,o1,hle,s2,htl,s3,JlV f2 o2 hmem⟩
theorem Jtp (C:Codes tab)(I:Ib tab)(P:SL tab){r:Rl}{xs:List V}{sets:List Nat→Option (Nat×List (List Int))}{sty sfn tb mb:Nat}{sv tv:V}{O:Fw}(hb:SomeB r none sets)(hsl:L9 [(41,Jg,none)] sty=some (sfn,none))(hr:RlC O w r xs)(hT:TabW tb mb tv S ts w)(hst:StoreAt tab O w sfn sv sets)(hO:∀x,O x→x<w.next∧¬S x∧x≠tb∧x≠mb)(hts:ts.length≤60000)(hrl:OL r (-1)→(LM r (-1) none sets (-1) ts).rows.length≤1000000)(h1:¬OL r (-1)→∀w',Frm (fun _=>False) w w'→K .nilslice w')(h2:OL r (-1)→∀v w' tv' S' cs S1 T1,TabW tb mb tv' S' (LM r (-1) none sets (-1) ts).ts w'→Frm (fun x=>S x∨x=tb∨x=mb) w w'→(∀x,S' x→S x∨w.next≤x)→Rel.ListOf w.next w' v (LM r (-1) none sets (-1) ts).rows cs S1 T1→(∀x,S1 x∨T1 x→¬S' x)→Rel.Rise (LM r (-1) none sets (-1) ts).rows∧(∀x∈(LM r (-1) none sets (-1) ts).rows,x.length=r.head.args.length)→K v w'): WF tab Gm [.agg xs,.ptr tb 0,.iface sty sv] w K:=by
 refine Ld C.Y8 rfl ?_;have hxl:=hr.one;obtain⟨w1,e1,c1,r1,m1⟩:=Oe w xs;have k4:w1.load w.next 0 4=some xs:=c1.all hxl.1;have hcx:V.cells (.agg xs)=xs:=rfl;refine Fz (by simp only[go_sem,K5,ZW,Hx,hcx,e1,k4];rfl) ?_;refine K9 Ff Fe ?_;have hS:=hT.s;refine JpG C I P hb hsl rfl (hr.frm r1 fun _ _ h=>h) (hT.step0 r1) (fun R w' g hd nm K hK=>hst R w' (r1.no.tr g) hd nm K hK) (show SetQ O w1 .nilptr none from rfl) (fun x hx=>⟨by have:=(hO x hx).1;omega,(hO x hx).2⟩) hts hrl (fun hno w2 g2=>?_) fun hok v w2 tv2 S2 cs S1 T1 q1 q2 q3 q4 q5 q6=>?_
 ·refine K6 1000 Fe ?_;refine K7 ⟨_,by simp only[go_sem,K5,ZW];rfl,?_⟩;exact h1 hno w2 (r1.tr g2)
 ·refine K6 1000 Fe ?_;refine K7 ⟨_,by simp only[go_sem,K5,ZW];rfl,?_⟩;exact h2 hok v w2 tv2 S2 cs S1 T1 q1 (r1.no.tr q2) (fun x hx=>by rcases q3 x hx with h|h;exact .inl h;right;omega) (q4.weaken Fh) q5 q6
end
section
open Go.AE Delphi Val
variable {tab:Tab}
theorem Job {r:Rl}{M:Bp}{dq:Option (Nat×List (List Int))}{l:List Fc}(hG:RG r)(hT:LaidT ts M l)(hts:ts.length≤60000)(hdr:∀x,dq=some x→∀r∈x.2,r.length=x.1∧∀n∈r,1≤n∧n≤(ts.length:Int))(hlen:∀nm x,(dq=some x∨K8 M nm=some x)→x.1≤4∧x.2.length≤1000000):SomeB r dq (fun nm=>K8 M nm):=by
 obtain⟨g1,g2,g3,g4,g5⟩:=Np hG;refine⟨g4,g5,g3,fun t ht hk=>(g1 t ht hk).2,fun l hl t ht hk=>⟨(g2 l hl t ht hk).2,(g2 l hl t ht hk).1⟩,fun nm x hx=>(hlen nm x (.inr hx)).1,fun nm x hx=>⟨(hlen nm x hx).2,fun r hr=>?_⟩⟩;rcases hx with hx|hx
 ·have:=hdr x hx r hr;exact⟨this.1,fun n hn=>by have:=this.2 n hn;omega⟩
 ·have:=hT.rng nm x hx r hr;exact⟨this.1,fun n hn=>by have:=this.2 n hn;omega⟩
theorem okPl_safe {r:Rl}:OL r (-1)↔BD r=true:=⟨fun h=>h.1,fun h=>⟨h,by decide,by omega,fun h0=>absurd h0 (by decide)⟩⟩
def Df (sm:Nat) (Sf:List Nat→Fw) (x:Nat):Prop:=x=sm∨∃n,Sf n x
theorem JkV (C:Codes tab){B sm tb mb b5:Nat}{w0:AW}{S0 O:Fw}{M:Bp}{MV:List (List Nat×V)}{Sf:List Nat→Fw}(h:LaidS B sm tb mb b5 w0 w S0 S M MV Sf)(ho:∀x,Df sm Sf x→O x)(hO:∀x,O x→x<w.next):StoreAt tab O w Jg (.agg [.map sm]) (fun nm=>K8 M nm):=by
 intro R w' g hd nm K hK;refine JoS C (h.lw.pm.frm g (hd _ (ho _ (.inl rfl)))) fun w2 g2=>hK w2 _ g2 ?_;have gn:=g.next;have gn2:=g2.next;show SetQ O w2 ((K8 MV nm).getD .nilptr) (K8 M nm);cases hg:K8 M nm with
 | none=>rw[h.lw.key nm hg];rfl
 | some x =>
  obtain⟨p,hp,hs⟩:=h.lw.set nm x hg;rw[hp];show SetQ O w2 p (some x);have h1:SetQ (Sf nm) w2 p (some x):=(hs.frm g fun y hy=>hd _ (ho _ (.inr ⟨nm,hy⟩))).frm g2 fun _ _ h=>h;exact h1.mono (fun y hy=>ho _ (.inr ⟨nm,hy⟩)) fun y hy=>by have:=hO y hy;omega
theorem Joc:L9 [(41,Jg,none)] 41=some (Jg,none):=rfl
def bgT13:List Nat:=[112,40,88,41,32,58,45,32,113,40,88,41,44,32,33,114,40,88,41,46]
def DY:Rl:=⟨⟨1,[112],[⟨1,[88],0⟩]⟩,[⟨1,[113],[⟨1,[88],0⟩]⟩,⟨2,[114],[⟨1,[88],0⟩]⟩]⟩
theorem JlJ:(IV (bgT13.take 1200)).1=[DY]:=by decide +kernel
def DW:Fc:=([113],[⟨3,[],5⟩])
def DX:Bp:=[([113],(1,[[1]]))]
def CF:List Tk:=[⟨3,[],5⟩]
theorem JlI:LC [] [DW]=(CF,DX):=by decide +kernel
theorem Jra:BD DY=true:=by decide +kernel
theorem bg13_some:(LM DY (-1) none (fun nm=>K8 DX nm) (-1) CF).rows=[[1]]∧(LM DY (-1) none (fun nm=>K8 DX nm) (-1) CF).ts=CF:=by decide +kernel
theorem JpP (C:Codes tab)(I:Ib tab)(P:SL tab){aw:AW}(h:∀w,Frm (fun _=>False) aw w→K (.bool true) w):WF tab Gk [] aw K:=by
 refine Ld C.YX rfl ?_;refine Fz (by simp only[go_sem,K5,YW,Hj];rfl) ?_;refine K9 Ff Fe ?_;refine new_ok C fun w1 ht1 r1=>?_;have hp1:eqV .ptr (.ptr (aw.next+1) 0) .nilptr=some false:=rfl;obtain⟨w2,e2,c2,r2,m2⟩:=Oe w1 [V.int .i64 3,.str [],.int .i64 5];obtain⟨w3,e3,c3,r3,m3⟩:=Oe w2 [V.str [113],.slice w1.next 0 1 (.known 1)];have r13:=r2.tr r3;have hov1:over [V.int .i64 0,.str [],.int .i64 0] 0 [V.int .i64 3]=some [V.int .i64 3,.str [],.int .i64 0]:=rfl;refine Fz (by simp only[go_sem,K5,Hi,hp1,Lg,Lj,over,Lr,V.cells,FC,FD,e2,e3];rfl) ?_;refine K9 Ff Fe ?_;have hfc:FcC (fun x=>x=w1.next) w3 DW [.str [113],.slice w1.next 0 1 (.known 1)]:=⟨_,rfl,.blk rfl Fh (c2.frm r3 fun h=>h).get (.inl rfl) Fj rfl (FH _)⟩;have hF:Fcs (fun x=>x=w1.next∨x=w2.next) w3 (.slice w2.next 0 1 (.known 1)) [DW]:=⟨[[.str [113],.slice w1.next 0 1 (.known 1)]],.blk (.inr rfl) c3.lt c3.get (.inl rfl) Fj rfl (FH _),.cons (by obtain⟨v,q1,q2⟩:=hfc;exact⟨v,q1,q2.mono fun _ h=> .inl h⟩) .nil⟩
 have hFL:FcsL [DW]:=by
  refine⟨by simp,fun f hf=>?_,fun f hf g hg _=>?_⟩
  ·simp only[FJ,F3,or_false]at hf;subst hf;refine⟨by decide,by decide,fun t ht=>?_⟩;simp only[DW,FJ,F3,or_false]at ht;subst ht;exact⟨by simp,by simp⟩
  ·simp only[FJ,F3,or_false]at hf hg;rw[hf,hg]
 have ht3:=ht1.step0 r13;have htb:=ht1.a.lt;refine Jlo C P hF hFL (fun x hx=>⟨by omega,fun h=>h,by omega,by omega⟩) ht3 Fj fun w4 sm b5 tv4 S4 MV Sf t4 L4 hsm=>?_;rw[JlI]at t4 L4;simp only at t4 L4;have n4:=L4.f.next
 have fw4:Frm (fun _=>False) aw w4:=(r1.tr r13).trans L4.f (fun _ _ h=>h) fun x hx h=>by
  rcases h with h|h|h
  ·exact h
  ·omega
  ·omega
 obtain⟨w5,s5,c5,r5,n5⟩:=Oj w4 (zs:=[V.nilmap]) (vs:=[V.map sm]) rfl rfl;have hcm:V.cells (.agg [.map sm])=[V.map sm]:=rfl;refine Fz (by simp only[go_sem,K5,s5,hcm,FC,FD];rfl) ?_;refine K9 Ff Fe ?_;refine Jl5 C (s:=bgT13) (by decide) fun w6 rv T6 rs hrs q1 q2 q3=>?_;rw[JlJ]at hrs;subst hrs;obtain⟨b,o,c,xs,e,hT6,hb6,hxs,a4,hp⟩:=Jwo q1 (i:=0) (r:=DY) rfl;subst e;have g46:=r5.tr q2;have n6:=g46.next;have k5:w6.load w4.next 0 1=some [.map sm]:=CB.ld (c5.frm q2 fun h=>h) 0 1 _ rfl;have a4:w6.load b o 4=some xs:=by rwa [Nat.zero_mul,KF]at a4
 refine Fz (by simp only[go_sem,K5,Hh,a4,k5,FC,FD];rfl) ?_;refine K9 Ff Fe ?_;have hG:RG DY:=(R4 (bgT13.take 1200)).1 DY (by rw[JlJ];simp)
 have hLT:LaidT CF DX [DW]:=by
  have:=(RO (ts:=[]) ⟨List.nodup_nil,by simp⟩ hFL (fun f hf=>by
   simp only[FJ,F3,or_false]at hf;subst hf;intro c hc;simp only[DW,FJ,F3,or_false]at hc;subst hc;decide)).2
  rw[JlI]at this;exact this
 have hlen:∀(nm:List Nat) (x:Nat×List (List Int)),(none=some x∨K8 DX nm=some x)→x.1≤4∧x.2.length≤1000000:=by
  rintro nm x (h|h)
  ·cases h
  ·unfold DX at h;simp only[K8]at h;split at h
   ·cases h;simp
   ·cases h
 have hsb:=Job (dq:=none) hG hLT (by simp[CF]) (fun x h=>by cases h) hlen;have t6:=t4.step0 g46;have L6:LaidS (w3.next+1) sm (aw.next+1) aw.next b5 w3 w6 (fun _=>False) S4 DX MV Sf:=⟨L4.lw.frm g46 (fun h=>h) fun _ _ _ h=>h,L4.box.frm g46 fun h=>h,L4.sd,L4.ss,L4.ne,L4.f.trans g46 (fun _ _ h=>h) fun _ _ h=>h.elim,L4.s⟩;have hsml:=L4.lw.pm.lt
 have hO:∀x,(Df sm Sf x∨T6 x)→x<w6.next∧¬S4 x∧x≠aw.next+1∧x≠aw.next:=by
  rintro x ((rfl|⟨n,hn⟩)|hx)
  ·exact⟨by omega,fun hs=>(L4.ss _ hs).1 rfl,by omega,by omega⟩
  ·have h1:=L4.sd n x hn;have h2:=L4.lw.lo n x hn;exact⟨by omega,h1.1,h1.2.1,h1.2.2.1⟩
  ·have h1:=q3 x hx;exact⟨h1.2,fun hs=>by have:=(t4.s x hs).1;omega,by omega,by omega⟩
 refine Jtp (O:=fun x=>Df sm Sf x∨T6 x) C I P hsb Joc (by obtain⟨v,u,e1,e2,e3⟩:=hxs;exact⟨v,u,e1,e2.mono fun _ h=> .inr h,C8 e3 fun _ h=> .inr h⟩) t6 (JkV C L6 (fun _ h=> .inl h) fun x hx=>(hO x hx).1) hO (by simp[CF]) (fun _=>by rw[bg13_some.1];simp) (fun hno=>absurd (okPl_safe.2 Jra) hno) fun _ v w7 tv7 S7 cs S8 T8 t7 g7 s7 hL7 hd7 _=>?_;rw[bg13_some.2]at t7;rw[bg13_some.1]at hL7;have n7:=g7.next
 have fw7:Frm (fun _=>False) aw w7:=(fw4.tr g46).trans g7 (fun _ _ h=>h) fun x hx h=>by
  rcases h with h|h|h
  ·rcases L4.s x h with h|h
   ·exact h
   ·omega
  ·omega
  ·omega
 obtain⟨K1,K2,K3,K4⟩:=hL7;obtain⟨rv7,hcs,hr7⟩:=K2.at (i:=0) (l:=[1]) rfl;have K1r:=K1.rd;rcases K1r.inv with⟨_,h0,_⟩|⟨b7,o7,c7,rfl,hB7⟩
 ·cases h0
 have l7:w7.load b7 o7 1=some [rv7]:=hB7.cell Fj hcs;obtain⟨rb,rc,rfl,l8⟩:=Dh hr7 (i:=0) (n:=1) rfl;have l7:w7.load b7 o7 1=some [.slice rb 0 1 rc]:=l7;have l8:w7.load rb 0 1=some [.int .i64 1]:=l8;refine Fz (by simp only[go_sem,K5,Hg];rfl) ?_;refine Bo ?_;refine LU 100 (by simp only[go_sem,K5,l7,l8,Lg,Lj,over,Lr,V.cells,FC,FD];rfl) ?_;refine BJ Ff Fe ?_;refine Nu (c:=⟨3,[],5⟩) C t7 (by simp[CF]) ⟨by simp,by simp⟩ fun w8 tv8 S9 t8 g8 s8=>?_;have n8:=g8.next;have hid:(idT CF ⟨3,[],5⟩).1=1:=by decide
 rw[hid]
 have fw8:Frm (fun _=>False) aw w8:=fw7.trans g8 (fun _ _ h=>h) fun x hx h=>by
  rcases h with h|h|h
  ·rcases s7 x h with h|h
   ·rcases L4.s x h with h|h
    ·exact h
    ·omega
   ·omega
  ·omega
  ·omega
 have d8:∀x,(S8 x∨T8 x)→¬(S7 x∨x=aw.next+1∨x=aw.next):=fun x hx h=>by
  have hlo:w6.next≤x:=hx.elim (fun h=>(K3 x h).1) fun h=>(K4 x h).1;rcases h with h|h|h
  ·exact hd7 x hx h
  ·omega
  ·omega
 have l9:w8.load b7 o7 1=some [.slice rb 0 1 rc]:=by
  have:=K1r.frm g8 fun x hx=>d8 x (.inl hx);rcases this.inv with⟨h0,_⟩|⟨b',o',c',e',hB'⟩
  ·cases h0
  ·cases e';exact hB'.cell Fj hcs
 have l10:w8.load rb 0 1=some [.int .i64 1]:=by
  obtain⟨rb',rc',e',q⟩:=Dh (hr7.frm g8 fun x hx=>d8 x (.inr hx)) (i:=0) (n:=1) rfl;cases e';exact q
 refine LU 100 Fe ?_;refine O1 ⟨(show LF _ _ [(13,18),(15,18)]from by simp only[go_sem,K5,LF,chk,List.reverse_cons,List.reverse_nil,O8,O6,O4,O5,List.getElem?_nil,false_or,or_true,or_false,exists_eq',FQ,Prod.mk.injEq,Bool.true_eq_false,FM,and_true,true_and,implies_true,l7,l8,l9,l10]),?_⟩;refine K6 1000 Fe ?_;refine K7 ⟨_,by simp only[go_sem,K5,YW];rfl,?_⟩;exact h w8 fw8
end
section
open Go.AE Delphi Val
variable {tab:Tab}
theorem Jmo {s:List Nat}(h:BO s=true):s.length≤16∧∀c∈s,c<256:=by
 unfold BO at h;simp only[FT,decide_eq_true_eq]at h;refine⟨h.2.2,?_⟩
 have:∀(t:List Nat) (i:Nat),BN i t=true→∀c∈t,c<256:=by
  intro t;induction t with
  | nil=>intro i _ c hc;simp at hc
  | cons x t ih =>
   intro i h c hc;unfold BN at h;simp only[FT]at h;rcases List.mem_cons.1 hc with rfl|hc
   ·have:=h.1;unfold okc at this;simp only[Bool.or_eq_true,FT,decide_eq_true_eq]at this;omega
   ·exact ih (i+1) h.2 c hc
 exact this s 0 h.1
theorem JtB {t:Tk}(h:Ll t=true):TkOk t:=by
 unfold Ll at h;split at h
 ·simp only[FT,decide_eq_true_eq]at h;exact⟨by rw[h.1];simp,fun c hc=>by rw[h.1]at hc;simp at hc⟩
 ·split at h
  ·simp only[FT,decide_eq_true_eq]at h;obtain⟨h1,h2⟩:=Jmo h.2;exact⟨by omega,h2⟩
  ·cases h
theorem JkG {n:Nat}(hn:n≤1000)(l:List Fc):O9 (OP n l)∧FcsL (OP n l):=by
 have:∀(l o:List Fc),((∀f∈o,I6 f=true)∧∀f∈o,∀g∈o,f.1=g.1→f.2.length=g.2.length)→(∀f∈l.foldl (IC n) o,I6 f=true)∧∀f∈l.foldl (IC n) o,∀g∈l.foldl (IC n) o,f.1=g.1→f.2.length=g.2.length:=by
  intro l;induction l with
  | nil=>intro o h;exact h
  | cons x l ih =>
   intro o h;rw[Ku];refine ih _ ?_;unfold IC;split
   ·rename_i hc;obtain⟨_,hc⟩:=hc;rw[FT]at hc
    have har:∀g∈o,g.1=(BL x).1→g.2.length=(BL x).2.length:=by
     intro g hg he;have:=List.all_eq_true.1 hc.2 g hg;simp only[Bool.or_eq_true,Bool.not_eq_true',decide_eq_false_iff_not,decide_eq_true_eq]at this;exact this.resolve_left fun h=>h he
    refine⟨fun f hf=>?_,fun f hf g hg he=>?_⟩
    ·rcases List.mem_append.1 hf with hf|hf
     ·exact h.1 f hf
     ·simp only[FJ,F3,or_false]at hf;subst hf;exact hc.1
    ·rcases List.mem_append.1 hf with hf|hf<;>rcases List.mem_append.1 hg with hg|hg
     ·exact h.2 f hf g hg he
     ·simp only[FJ,F3,or_false]at hg;subst hg;exact har f hf he
     ·simp only[FJ,F3,or_false]at hf;subst hf;exact (har g hg he.symm).symm
     ·simp only[FJ,F3,or_false]at hf hg;rw[hf,hg]
   ·exact h
 obtain⟨h1,h2⟩:=this l [] ⟨by simp,by simp⟩
 have hm:∀f∈OP n l,(∀t∈f.2,Ll t=true)∧BO f.1=true∧f.2.length≤4:=fun f hf=>by
  have:=h1 f hf;unfold I6 at this;simp only[FT,List.all_eq_true,decide_eq_true_eq]at this;exact⟨this.1,this.2.1,this.2.2⟩
 refine⟨fun f hf t ht=>(hm f hf).1 t ht,⟨by have:=Mf n l;omega,fun f hf=>⟨(hm f hf).2.2,(Jmo (hm f hf).2.1).1,fun t ht=>JtB ((hm f hf).1 t ht)⟩,h2⟩⟩
theorem JnE {l:List Fc}(hl:FcsL l):∀(nm:List Nat) (x:Nat×List (List Int)),K8 (LC ts l).2 nm=some x→x.1≤4∧x.2.length≤1000000:=by
 intro nm x hx;obtain⟨hp,_⟩:=Ap (ts:=ts) hl;obtain⟨g,hg,_,h2⟩:=hp.ar nm x hx;have:=hp.len nm x hx;have h3:=(hl.ok g hg).1;have h4:=hl.len;exact⟨by omega,by omega⟩
theorem JtS {l:List Rl}(h:RdL (RlC T) T w v 4 l){i:Nat}{t:Rl}(hi:l[i]? = some t):∃b o c xs,v = .slice b o l.length c∧RlC T w t xs∧∀(R:Fw) (w':AW),Frm R w w'→(∀x,T x→¬R x)→(∀j k,j+k≤4→w'.load b (o+i*4+j) k=some ((xs.drop j).take k))∧w'.load b (o+i*4) 4=some xs∧RlC T w' t xs:=by
 have hlt:i<l.length:=(List.getElem?_eq_some_iff.1 hi).1;obtain⟨xss,h1,h2⟩:=h;obtain⟨xs,h3,h4⟩:=Nj (sz:=4) (fun a xs h=>h.one.1) h2 hi;have hx4:=h3.one.1;rcases h1.inv with⟨_,q2,_⟩|⟨b,o,c,rfl,_⟩
 ·omega
 ·refine⟨b,o,c,xs,rfl,h3,fun R w' g hd=>?_⟩;have h1':=h1.frm g hd;rcases h1'.inv with⟨q,_⟩|⟨b',o',c',e',hB⟩
  ·cases q
  cases e';have hle:(i+1)*4≤l.length*4:=Nat.mul_le_mul_right _ hlt
  have part:∀j k,j+k≤4→w'.load b (o+i*4+j) k=some ((xs.drop j).take k):=fun j k hjk=>by
   rw[Kj,hB.load (i*4+j) k Fh,←h4,List.drop_take,List.take_take,KD Fh,List.drop_drop]
  refine⟨part,?_,h3.frm g hd⟩;have:=part 0 4 Fh;rw[KF,FZ,FX Fh]at this;exact this
end
section
open Go.AE Delphi Val
abbrev FP:Type:=List Nat×List (Int×List Nat×Int×Unit)×Unit
def tkP (p:Int×List Nat×Int×Unit):Tk:=⟨p.1,p.2.1,p.2.2.1⟩
def fcP (p:FP):Fc:=(p.1,p.2.1.map tkP)
theorem Juk {aw:AW}:∀{l:List (Int×List Nat×Int×Unit)} {xss:List (List V)},All2 (TmR aw) l xss→xss.flatten=O0 (l.map tkP)∧∀t∈l.map tkP,∀c∈t.s,c<256
 | [],_,.nil=>⟨rfl,by simp⟩
 | p::l,_,.cons ⟨_,_,e1,⟨h1,_⟩,_,_,e2,⟨h2,hb,_⟩,_,_,e3,⟨h3,_⟩,e4⟩ h=>by
  obtain⟨g1,g2⟩:=Juk h;subst e1 e2 e3 h1 h2 h3 e4;refine⟨by rw[List.flatten_cons,g1];rfl,?_⟩;intro t ht;rcases List.mem_cons.1 (by simpa using ht:t∈tkP p::l.map tkP)with rfl|h
  ·exact hb
  ·exact g2 t h
variable {aw:AW}
theorem Jmk {α:Type}{rel:AW→α→List V→Prop}{l:List α}{x:V}{esz:Nat}(h:DL rel aw l [x])(hsz:∀{xss:List (List V)},All2 (rel aw) l xss→xss.flatten.length=l.length*esz):∃xss,Rd (fun b=>b<aw.next) aw x esz l.length xss.flatten∧All2 (rel aw) l xss∧l.length≤maxLen:=by
 rcases h with⟨h1,rfl⟩|⟨b,c,xss,h1,hb,hg,ha,hl,hc⟩
 ·cases h1;exact⟨[],.nil,.nil,Nat.zero_le _⟩
 ·cases h1;have hz:=hsz ha;exact⟨xss,.blk hb hb hg (.inr (.inr (.inl rfl))) Fh (by rw[FZ,FX Fh]) (Jm2 hc),ha,hl⟩
theorem Jw0 {p:FP}{xs:List V}(h:DU aw p xs):FcC (fun b=>b<aw.next) aw (fcP p) xs∧(∀c∈p.1,c<256)∧∀t∈(fcP p).2,∀c∈t.s,c<256:=by
 obtain⟨x1,x2,rfl,⟨rfl,hn,_⟩,y1,y2,rfl,h2,rfl⟩:=h
 have hy:∃v,y1=[v]:=by
  rcases h2 with⟨rfl,_⟩|⟨b,c,xss,rfl,_⟩<;>exact⟨_,rfl⟩
 obtain⟨v,rfl⟩:=hy;obtain⟨xss,h3,h5,h4⟩:=Jmk h2 GI;obtain⟨g1,g2⟩:=Juk h5;rw[g1]at h3;refine⟨⟨v,rfl,?_⟩,hn,g2⟩;have e:(fcP p).2.length=p.2.1.length:=F9 ..;rw[e];exact h3
theorem Jue {aw:AW}:∀{l:List FP} {xss:List (List V)},All2 (DU aw) l xss→All2 (FcC (fun b=>b<aw.next) aw) (l.map fcP) xss∧(∀f∈l.map fcP,∀c∈f.1,c<256)∧∀f∈l.map fcP,∀t∈f.2,∀c∈t.s,c<256
 | [],_,.nil=>⟨.nil,by simp,by simp⟩
 | x::l,_,.cons h1 h=>by
  obtain⟨g1,g2,g3⟩:=Jue h;obtain⟨k1,k2,k3⟩:=Jw0 h1;refine⟨.cons k1 g1,fun f hf=>?_,fun f hf=>?_⟩
  ·rcases List.mem_cons.1 hf with rfl|hf
   ·exact k2
   ·exact g2 f hf
  ·rcases List.mem_cons.1 hf with rfl|hf
   ·exact k3
   ·exact g3 f hf
theorem CW {l:List FP}{x:V}(h:DL DU aw l [x]):Fcs (fun b=>b<aw.next) aw x (l.map fcP)∧(l.map fcP).length≤9223372036854775807∧(∀f∈l.map fcP,∀c∈f.1,c<256)∧∀f∈l.map fcP,∀t∈f.2,∀c∈t.s,c<256:=by
 obtain⟨xss,h1,h2,h3⟩:=Jmk h JkK;obtain⟨g1,g2,g3⟩:=Jue h2;refine⟨⟨xss,by rw[F9];exact h1,g1⟩,by rw[F9];exact (by simpa[maxLen]using h3),g2,g3⟩
end
section
open Go.AE Delphi Val
variable {tab:Tab}
theorem Jl1 (C:Codes tab)(I:Ib tab)(P:SL tab){r:Rl}{a:Int}{xs:List V}{dq:Option (Nat×List (List Int))}{sets:List Nat→Option (Nat×List (List Int))}{sty sfn tb mb:Nat}{sv dp tv:V}{O:Fw}(hb:SomeB r dq sets)(hsl:L9 [(41,Jg,none)] sty=some (sfn,none))(hdv:dp.cells=[dp])(hr:RlC O w r xs)(hT:TabW tb mb tv S ts w)(hst:StoreAt tab O w sfn sv sets)(hd:SetQ O w dp dq)(hO:∀x,O x→x<w.next∧¬S x∧x≠tb∧x≠mb)(hts:ts.length≤60000)(hrl:0≤a→OL r a→(LM r a dq sets (-1) ts).rows.length≤1000000)(h1:(a<0∨¬OL r a)→∀w',Frm (fun _=>False) w w'→K .nilslice w')(h2:0≤a→OL r a→∀v w' tv' S' cs S1 T1,TabW tb mb tv' S' (LM r a dq sets (-1) ts).ts w'→Frm (fun x=>S x∨x=tb∨x=mb) w w'→(∀x,S' x→S x∨w.next≤x)→Rel.ListOf w.next w' v (LM r a dq sets (-1) ts).rows cs S1 T1→(∀x,S1 x∨T1 x→¬S' x)→Rel.Rise (LM r a dq sets (-1) ts).rows∧(∀x∈(LM r a dq sets (-1) ts).rows,x.length=r.head.args.length)→K v w'): WF tab VM [.agg xs,.ptr tb 0,.iface sty sv,.int .i64 a,dp] w K:=by
 refine Ld C.Xi rfl ?_;have hxl:=hr.one;obtain⟨w1,e1,c1,r1,m1⟩:=Oe w xs;have k4:w1.load w.next 0 4=some xs:=c1.all hxl.1;have hcx:V.cells (.agg xs)=xs:=rfl;by_cases ha:a<0
 ·refine Fz (by simp only[go_sem,K5,J0,HK,hcx,e1,ha];rfl) ?_;refine K7 ⟨_,by simp only[go_sem,K5,J0];rfl,?_⟩;exact h1 (.inl ha) w1 r1
 refine Fz (by simp only[go_sem,K5,J0,HL,hcx,e1,k4,ha];rfl) ?_;refine K9 Ff Fe ?_;refine JpG C I P hb hsl hdv (hr.frm r1 fun _ _ h=>h) (hT.step0 r1) (fun R w' g hd nm K hK=>hst R w' (r1.no.tr g) hd nm K hK) (hd.frm r1 fun _ _ h=>h) (fun x hx=>⟨by have:=(hO x hx).1;omega,(hO x hx).2⟩) hts (hrl Fh) (fun hno w2 g2=>?_) fun hok v w2 tv2 S2 cs S1 T1 q1 q2 q3 q4 q5 q6=>?_
 ·refine K6 1000 Fe ?_;refine K7 ⟨_,by simp only[go_sem,K5,J0];rfl,?_⟩;exact h1 (.inr hno) w2 (r1.tr g2)
 ·refine K6 1000 Fe ?_;refine K7 ⟨_,by simp only[go_sem,K5,J0];rfl,?_⟩;exact h2 Fh hok v w2 tv2 S2 cs S1 T1 q1 (r1.no.tr q2) (fun x hx=>by rcases q3 x hx with h|h;exact .inl h;right;omega) (q4.weaken Fh) q5 q6
structure JdF (f:Fr) (rv fv dv:V) (a:Int) (i:Nat):Prop where
 f1:f.get 1=some fv
 f2:f.get 2=some dv
 f3:f.get 3=some (.int .i64 a)
 f10:f.get 10=some rv
 f11:f.get 11=some (.int .i64 (Fq i))
def ofF (l:Lt) (ds:List Fc):List Fc:=ds.filter fun f=>decide (f.1=l.name)&&decide (f.2.length=l.args.length)
theorem QS (l:Lt)(ds:List Fc)(f:Fc):ofF l (ds++[f])=ofF l ds++if f.1=l.name∧f.2.length=l.args.length then [f]else []:=by
 unfold ofF;rw[List.filter_append]
 congr 1
 by_cases h:f.1=l.name∧f.2.length=l.args.length
 ·rw[if_pos h];simp[h.1,h.2]
 ·rw[if_neg h];simp only[List.filter_cons,List.filter_nil,FT,decide_eq_true_eq];rw[if_neg h]
theorem Jvb (C:Codes tab){fv dv lv tp st:V}{a:Int}{i lb:Nat}{l:Lt}{ds:List Fc}{f:Fr}{sk:List SI}{Q:Fr→AW→Prop}(hd:Fcs T w dv ds)(hT:∀x,T x→x<w.next)(hdl:ds.length≤1000)(hd4:∀x∈ds,x.2.length≤1000)(hal:l.args.length≤1000)(hl:CB w lb [.int .i64 (Fq l.kind),.str l.name,lv])(hlv:lenV lv=some l.args.length)(hF:JdF f rv fv dv a i)(f12:f.get 12=some tp)(f13:f.get 13=some st)(f14:f.get 14=some (.ptr lb 0))(f15:f.get 15=some .nilslice)(f16:f.get 16=some (.int .i64 (Fq 0)))(h:∀f' w' ov S,JdF f' rv fv dv a i→f'.get 12=some tp→f'.get 13=some st→f'.get 14=some (.ptr lb 0)→f'.get 15=some ov→Fcs S w' ov (ofF l ds)→Frm (fun _=>False) w w'→(∀x,S x→(w.next≤x∨T x)∧x<w'.next)→WS tab sk f' w' Q): WS tab (.code (.loop Zj) :: .endB 2::sk) f w Q:=by
 have hdv:=hd.lenV;have hlb:=hl.lt
 refine LK (fun q f w1=>∃m ov S,JdF f rv fv dv a i∧f.get 12=some tp∧f.get 13=some st∧f.get 14=some (.ptr lb 0)∧f.get 15=some ov∧f.get 16=some (.int .i64 (Fq m))∧FcsB S T w1 ov (ofF l (ds.take m))∧(∀x,S x→w.next≤x∧x<w1.next)∧Frm (fun _=>False) w w1∧m≤ds.length∧q=ds.length-m)
  (fun f w1=>∃ov S,JdF f rv fv dv a i∧f.get 12=some tp∧f.get 13=some st∧f.get 14=some (.ptr lb 0)∧f.get 15=some ov∧Fcs S w1 ov (ofF l ds)∧Frm (fun _=>False) w w1∧(∀x,S x→(w.next≤x∨T x)∧x<w1.next)) ?_ ?_ ds.length
  ⟨0,.nilslice,fun _=>False,hF,f12,f13,f14,f15,f16,FcsB.nil,fun _ h=>h.elim,Frm.refl _,Nat.zero_le _,rfl⟩
 ·rintro q f w1 ⟨m,ov,S,⟨f1,f2,f3,f10,f11⟩,f12,f13,f14,f15,f16,hB,hS,g,hm,rfl⟩ ih out;have n1:=g.next;by_cases hlt:m<ds.length
  case neg =>
   obtain rfl:m=ds.length:=Fh;rw[List.take_length]at hB;refine Lb 1000 (by simp only[go_sem,Zj,f2,f16,hdv,hlt];rfl) ?_
   exact out _ _ _ ⟨ov,fun x=>S x∨T x,⟨(Fg f1),(Fg f2),(Fg f3),(Fg f10),(Fg f11)⟩,(Fg f12),(Fg f13),(Fg f14),(Fg f15),hB.rd (fun _ h=> .inl h) fun _ h=> .inr h,g,fun x hx=>by
    rcases hx with hx|hx
    ·exact⟨.inl (hS x hx).1,(hS x hx).2⟩
    ·exact⟨.inr hx,by have:=hT x hx;omega⟩⟩ rfl
  obtain⟨x,hx⟩:∃x,ds[m]? = some x:=⟨_,FB hlt⟩;have hdw:=hd.frm g fun _ _ h=>h;obtain⟨b,o,c,xv,rfl,_,_,l2,l0,l1,hxa⟩:=Sw hdw hx;have hxl:=hxa.lenV;have hx4:=hd4 x (FI hx);have hlw:=hl.frm g fun h=>h;have k1:w1.load lb 1 1=some [.str l.name]:=CB.ld hlw 1 1 _ rfl;have k2:w1.load lb 2 1=some [lv]:=CB.ld hlw 2 1 _ rfl;have hwr:KZ .i64 (Fq m+1)=Fq (m+1):=Lh Fh;have hm2:Fq m<Fq ds.length:=by show (m:Int)<ds.length;omega
  by_cases hn:x.1=l.name
  ·have hne:Oi BinOp.eql x.1 l.name=some (.bool true):=by
    simp only[Oi];rw[hn,eqL_iff.2 rfl]
   by_cases hw:x.2.length=l.args.length
   ·have e:ofF l (ds.take (m+1))=ofF l (ds.take m)++[x]:=by rw[O7 hx,QS,if_pos ⟨hn,hw⟩]
    have hwb:(Fq x.2.length==Fq l.args.length)=true:=by rw[hw];exact beq_self_eq_true _
    have hfcC:FcC T w1 x [.str x.1,xv]:=⟨xv,rfl,hxa⟩;obtain⟨v',w5,S5,u1,u2,u3,u4⟩:=hB.push hfcC (fun x hx=>by have:=hS x hx;omega) (fun x hx=>⟨fun hs=>by have:=hS x hs;have:=hT x hx;omega,by have:=hT x hx;omega⟩) (fun x hx=>⟨fun hs=>by have:=hS x hs;have:=hT x hx;omega,by have:=hT x hx;omega⟩) (by have:=Km (fun f:Fc=>decide (f.1=l.name)&&decide (f.2.length=l.args.length)) (ds.take m);rw[FU]at this;unfold ofF;omega);have hel:(w1.fresh [V.str x.1,xv]).elems 2 (.slice w1.next 0 1 (.known 1))=some (1,[V.str x.1,xv]):=Tj Fh rfl;have hcc:V.cells (.agg [V.str x.1,xv])=[V.str x.1,xv]:=rfl;have hov2:over [V.str [],V.nilslice] 0 [V.str x.1,xv]=some [V.str x.1,xv]:=rfl;refine Fz (by simp only[go_sem,K5,Zj,YR,G6,f2,f14,f15,f16,hdv,hlt,l0,l1,l2,k1,k2,hne,hxl,hlv,hwb,hcc,Lg,Lj,hov2,FC,FD,hel,u1,hwr];rfl) ?_;have hn5:=u3.next;refine ih _ _ _ Fh ⟨m+1,v',S5,⟨(Fg f1),(Fg f2),(Fg f3),(Fg f10),(Fg f11)⟩,(Fg f12),(Fg f13),(Fg f14),Fb,Fb,?_,fun y hy=>?_,g.trans u3 (fun _ _ h=>h) fun y hy h=>by have:=(hS y h).1;omega,by omega,rfl⟩
    ·rw[e];obtain⟨xss,q1,q2⟩:=u2;exact⟨xss,q1,q2.imp fun _ _ h=>by obtain⟨v,h1,h2⟩:=h;exact⟨v,h1,h2.mono fun _ h=>h.elim id id⟩⟩
    ·refine⟨?_,(u4 y hy).1⟩;rcases (u4 y hy).2 with h1|h1
     ·exact (hS y h1).1
     ·omega
   ·have e:ofF l (ds.take (m+1))=ofF l (ds.take m):=by rw[O7 hx,QS,if_neg fun h=>hw h.2,Kc]
    have hwb:(Fq x.2.length==Fq l.args.length)=false:=beq_eq_false_iff_ne.2 fun h=>hw (Int.ofNat.inj h);refine Fz (by simp only[go_sem,K5,Zj,YR,f2,f14,f15,f16,hdv,hlt,l0,l1,k1,k2,hne,hxl,hlv,hwb,hwr];rfl) ?_;exact ih _ _ _ Fh ⟨m+1,ov,S,⟨(Fg f1),(Fg f2),(Fg f3),(Fg f10),(Fg f11)⟩,(Fg f12),(Fg f13),(Fg f14),(Fg f15),Fb,by rw[e];exact hB,hS,g,by omega,rfl⟩
  ·have hne:Oi BinOp.eql x.1 l.name=some (.bool false):=by
    simp only[Oi];cases he:eqL x.1 l.name with
    | true=>exact absurd (eqL_iff.1 he) hn
    | false=>rfl
   have e:ofF l (ds.take (m+1))=ofF l (ds.take m):=by rw[O7 hx,QS,if_neg fun h=>hn h.1,Kc]
   refine Fz (by simp only[go_sem,K5,Zj,YR,f2,f14,f15,f16,hdv,hlt,l0,k1,hne,hwr];rfl) ?_;exact ih _ _ _ Fh ⟨m+1,ov,S,⟨(Fg f1),(Fg f2),(Fg f3),(Fg f10),(Fg f11)⟩,(Fg f12),(Fg f13),(Fg f14),(Fg f15),Fb,by rw[e];exact hB,hS,g,by omega,rfl⟩
 ·rintro f w1 ⟨ov,S,hF,f12,f13,f14,f15,hB,g,hS⟩;exact h f w1 ov S hF f12 f13 f14 f15 hB g hS
end
section
open Go.AE Delphi Val
variable {tab:Tab}
variable {M:Bp}
theorem JrL {y:List Tk}{l:List Fc}(h:LaidT ts M l)(hg:TsGood (ts++y)):LaidT (ts++y) M l:=
 ⟨hg,fun nm args=>(Jnp fun x hx r hr n hn=>(h.rng nm x hx r hr).2 n hn).trans (h.mem nm args),fun nm x hx r hr=>by
  have:=h.rng nm x hx r hr;refine⟨this.1,fun n hn=>?_⟩;have:=this.2 n hn;rw[FE];omega⟩
def dqF (M:Bp) (l:Lt):Nat×List (List Int):=(K8 M l.name).getD (l.args.length,[])
variable {ds:List Fc}
theorem Jv1 {l:Lt}(h:LaidT ts M ds)(args:List Tk):fsT ts (some (dqF M l)) args↔(l.name,args)∈ds:=by
 rw[←h.mem];unfold dqF fsT;cases hg:K8 M l.name with
 | none =>
  constructor
  ·rintro⟨x,r,h1,h2,_⟩;cases h1;cases h2
  ·rintro⟨x,r,h1,_⟩;cases h1
 | some x=>exact Iff.rfl
theorem Js0 {l:Lt}(h:LaidT ts M ds):∀x,some (dqF M l)=some x→∀r∈x.2,r.length=x.1∧∀n∈r,1≤n∧n≤(ts.length:Int):=by
 rintro x ⟨⟩ r hr;unfold dqF at hr ⊢;cases hg:K8 M l.name with
 | none=>rw[hg]at hr;cases hr
 | some x=>rw[hg]at hr;exact h.rng _ x hg r hr
variable {xb:V} {l:List Lt}
theorem Jo3 {n:Nat}{t:Lt}(h:RdL (LtC T) T w xb 3 l)(ht:l[n]? = some t):∃b o c lv,xb = .slice b o l.length c∧w.load b (o+n*3) 1=some [.int .i64 (Fq t.kind)]∧w.load b (o+n*3) 3=some [.int .i64 (Fq t.kind),.str t.name,lv]∧Rd T w lv 3 t.args.length (L8 t.args):=by
 obtain⟨b,o,c,xs,rfl,la,lv,rfl,hl⟩:=CJ h ht;refine⟨b,o,c,lv,rfl,?_,la,hl⟩;rcases RdL.inv h (fun a xs h=>h.one.1)with⟨hh,_⟩|⟨b',o',c',hh,_,_,_,hat⟩
 ·cases hh
 ·cases hh;obtain⟨xs,⟨zv',e,_⟩,hl⟩:=hat n t ht;have:=hl 0 1 Fh;rw[e]at this;exact this
theorem Jl3 {n:Nat}{t:Lt}(h:l[n]? = some t):Le l n=t:=by
 unfold Le;rw[h];rfl
variable {O:Fw} {sets:List Nat→Option (Nat×List (List Int))}
theorem StoreAt.mono {O':Fw}{sfn:Nat}{sv:V}(h:StoreAt tab O w sfn sv sets)(h1:∀x,O x→O' x)(h2:∀x,O' x→x<w.next):StoreAt tab O' w sfn sv sets:=by
 intro R w' g hd nm K hK;refine h R w' g (fun x hx=>hd x (h1 x hx)) nm K fun w2 p g2 hq=>hK w2 p g2 (hq.mono h1 fun x hx=>?_);have:=h2 x hx;have:=g.next;have:=g2.next;omega
theorem StoreAt.frm {R0:Fw}{w1:AW}{sfn:Nat}{sv:V}(h:StoreAt tab O w sfn sv sets)(g:Frm R0 w w1)(hd:∀x,O x→¬R0 x):StoreAt tab O w1 sfn sv sets:=
 fun R w' g' hd' nm K hK=>h (fun x=>R0 x∨R x) w' (g.trans g' (fun _ _ h=> .inl h) fun _ _ h=> .inr h) (fun x hx hh=>hh.elim (hd x hx) (hd' x hx)) nm K hK
structure JdW (tab:Tab) (O S:Fw) (r:Rl) (ts:List Tk) (M:Bp) (b o i tb mb sm sb:Nat) (tv hv xb:V) (w:AW):Prop where
 rl:∀(R:Fw) (w':AW),Frm R w w'→(∀x,O x→¬R x)→(∀j k,j+k≤4→w'.load b (o+i*4+j) k=some ((([V.int .i64 (Fq r.head.kind),.str r.head.name,hv,xb]:List V).drop j).take k))∧RlC O w' r [.int .i64 (Fq r.head.kind),.str r.head.name,hv,xb]
 tw:TabW tb mb tv S ts w
 sa:StoreAt tab O w Jg (.agg [.map sm]) (fun nm=>K8 M nm)
 bx:CB w sb [.map sm]
 o:∀x,O x→x<w.next∧¬S x∧x≠tb∧x≠mb
 ob:¬S sb∧sb≠tb∧sb≠mb
variable {b o i tb mb sm sb:Nat} {tv hv:V}
theorem JdW.st {r:Rl}{w':AW}(h:JdW tab O S r ts M b o i tb mb sm sb tv hv xb w)(g:Frm (fun _=>False) w w'):JdW tab O S r ts M b o i tb mb sm sb tv hv xb w':=
 ⟨fun R w2 g2 hd=>h.rl R w2 (g.no.tr g2) hd,h.tw.step0 g,h.sa.frm g fun _ _ h=>h,h.bx.frm g fun h=>h,fun x hx=>⟨by have:=(h.o x hx).1;have:=g.next;omega,(h.o x hx).2⟩,h.ob⟩
theorem JdW.a4 {r:Rl}(h:JdW tab O S r ts M b o i tb mb sm sb tv hv xb w):w.load b (o+i*4) 4=some [V.int .i64 (Fq r.head.kind),.str r.head.name,hv,xb]:=
 (h.rl (fun _=>False) w (Frm.refl _) fun _ _ h=>h).1 0 4 Fh
theorem JdW.more {O':Fw}{r:Rl}(h:JdW tab O S r ts M b o i tb mb sm sb tv hv xb w)(ho:∀x,O x→O' x)(hn:∀x,O' x→x<w.next∧¬S x∧x≠tb∧x≠mb):JdW tab O' S r ts M b o i tb mb sm sb tv hv xb w:=
 ⟨fun R w2 g2 hd=>by
  obtain⟨h1,v,u,h2,h3,h4⟩:=h.rl R w2 g2 fun x hx=>hd x (ho x hx);exact⟨h1,v,u,h2,h3.mono ho,C8 h4 ho⟩,h.tw,h.sa.mono ho fun x hx=>(hn x hx).1,h.bx,hn,h.ob⟩
abbrev Ag (K:V→AW→Prop):Fr→AW→Prop:=fun f w=>∃vs,Ox f w Zl.results=some vs∧K (Oy vs) w
variable {sk:List SI} {Q:Fr→AW→Prop}
theorem JnC (C:Codes tab)(I:Ib tab)(P:SL tab){r:Rl}{fs:List Fc}{nl:Nat}{c:Cap}{a:Int}{fv dv:V}{f:Fr}(hW:JdW tab O S r ts M b o i tb mb sm sb tv hv xb w)(hG:RG r)(hLT:LaidT ts M fs)(hts:ts.length≤60000)(hln:∀nm x,K8 M nm=some x→x.1≤4∧x.2.length≤1000000)(hF:JdF f (.slice b o nl c) fv dv a i)(f12:f.get 12=some (.ptr tb 0))(f13:f.get 13=some (.ptr sb 0))(hil:i<nl)(hbad:a<0∨¬OL r a)(h:∀f' w',JdF f' (.slice b o nl c) fv dv a i→Frm (fun _=>False) w w'→WS tab (.code (.exit 1)::sk) f' w' Q): WS tab (.code V3::sk) f w Q:=by
 obtain⟨f1,f2,f3,f10,f11⟩:=hF;have a4:=hW.a4;have a6:w.load sb 0 1=some [.map sm]:=hW.bx.all rfl;refine Fz (by simp only[go_sem,K5,V3];rfl) ?_;refine Bo ?_;refine LU 100 (by simp only[go_sem,K5,f3,f10,f11,f12,f13,hil,a4,a6];rfl) ?_;refine BJ Ff Fe ?_;refine Rel.new_ok C (width:=1) Fh fun w7 hs7 g7 n7=>?_;have hW7:=hW.st g7;have a47:=hW7.a4;have a67:w7.load sb 0 1=some [.map sm]:=hW7.bx.all rfl
 have hOl:∀x,(O x∨x=w.next)→x<w7.next∧¬S x∧x≠tb∧x≠mb:=fun x hx=>by
  rcases hx with hx|rfl
  ·exact hW7.o x hx
  ·have h1:=hW.tw.a.lt;have h2:=hW.tw.m.lt;exact⟨by omega,fun h=>by have:=(hW.tw.s _ h).1;omega,by omega,by omega⟩
 have hW8:=hW7.more (fun _ h=> .inl h) hOl;refine LU 100 (by simp only[go_sem,K5,f3];rfl) ?_;refine BJ Ff Fe ?_;refine Jl1 (dq:=some (1,[])) C I P (Job (dq:=some (1,[])) hG hLT hts (fun x h=>by cases h;simp) fun nm x h=>h.elim (fun h=>by cases h;simp) (hln nm x)) Joc rfl ((hW8.rl _ _ (Frm.refl _) fun _ _ h=>h).2) hW8.tw hW8.sa (SetQ.mono (show SetQ (fun b=>b=w.next) w7 (.ptr w.next 0) (some (1,[]))from hs7) (fun x hx=> .inr hx) fun x hx=>(hOl x hx).1) hOl hts (fun h0 hok=>absurd hok (hbad.resolve_left Fh)) (fun _ w8 g8=>?_) (fun h0 hok=>absurd hok (hbad.resolve_left Fh));refine LU 100 Fe ?_;refine O1 ⟨(show LF _ _ [(3,8),(5,8)]from by simp only[go_sem,K5,LF,chk,List.reverse_cons,List.reverse_nil,O8,O6,O4,O5,List.getElem?_nil,false_or,or_true,or_false,exists_eq',FQ,Prod.mk.injEq,Bool.true_eq_false,FM,and_true,true_and,implies_true,a4,a47,a6,a67,f13]),?_⟩;refine Lb 1000 (by simp only[go_sem];rfl) ?_;exact h _ _ ⟨(Fg f1),(Fg f2),(Fg f3),(Fg f10),(Fg f11)⟩ (g7.tr g8)
theorem Jwd (C:Codes tab)(I:Ib tab)(P:SL tab){Tw:Fw}{r:Rl}{dq:Nat×List (List Int)}{want:List Fc}{nl:Nat}{c:Cap}{a:Int}{fv dv dp wv:V}{f:Fr}(hW:JdW tab O S r ts M b o i tb mb sm sb tv hv xb w)(hB:SomeB r (some dq) (fun nm=>K8 M nm))(hts:ts.length≤50000)(hh4:r.head.args.length≤4)(h0:0≤a)(hok:OL r a)(hdp:dp.cells=[dp])(hdq:SetQ O w dp (some dq))(hwv:Fcs Tw w wv want)(hTw:∀x,Tw x→¬S x∧x≠tb∧x≠mb)(hOM:O9 want)(hrl:(LM r a (some dq) (fun nm=>K8 M nm) (-1) ts).rows.length≤4000)(hTg:TsGood (LM r a (some dq) (fun nm=>K8 M nm) (-1) ts).ts)(htl:(LM r a (some dq) (fun nm=>K8 M nm) (-1) ts).ts.length≤ts.length+80)(hrg:∀x∈(LM r a (some dq) (fun nm=>K8 M nm) (-1) ts).rows,∀n∈x,1≤n∧n≤((LM r a (some dq) (fun nm=>K8 M nm) (-1) ts).ts.length:Int))(hfacts:Tq (LM r a (some dq) (fun nm=>K8 M nm) (-1) ts).ts r.head.name (LM r a (some dq) (fun nm=>K8 M nm) (-1) ts).rows=want)(hF:JdF f (.slice b o nl c) fv dv a i)(f12:f.get 12=some (.ptr tb 0))(f13:f.get 13=some (.ptr sb 0))(f17:f.get 17=some wv)(f19:f.get 19=some dp)(hil:i<nl)(h:∀f' w',JdF f' (.slice b o nl c) fv dv a i→Frm (fun x=>S x∨x=tb∨x=mb) w w'→WS tab sk f' w' Q): WS tab (.code YS::sk) f w Q:=by
 obtain⟨f1,f2,f3,f10,f11⟩:=hF;obtain⟨a4,hxs⟩:=hW.rl (fun _=>False) w (Frm.refl _) fun _ _ h=>h;have a4:=hW.a4;have a6:w.load sb 0 1=some [.map sm]:=hW.bx.all rfl;refine Fz (by simp only[go_sem,K5,YS,f3,f10,f11,f12,f13,f19,hil,a4,a6];rfl) ?_;refine K9 Ff Fe ?_;refine Jl1 C I P hB Joc hdp hxs hW.tw hW.sa hdq hW.o Fh (fun _ _=>by omega) (fun hno=>absurd hok (hno.resolve_left Fh)) fun _ _ v w6 tv6 S6 cs S7 T7 t6 g6 s6 hL6 hd6 hrw=>?_;generalize LM r a (some dq) (fun nm=>K8 M nm) (-1) ts=sj at t6 hL6 hrl hTg htl hrg hfacts hrw;obtain⟨hrise,hwid⟩:=hrw;obtain⟨hfl1,hfl2⟩:=JkJ sj.ts r.head.name sj.rows;have hfl2:=hfl2 1000 fun x hx=>by rw[hwid x hx];omega
 rw[hfacts]at hfl1 hfl2
 have hOR:∀x,O x→¬(S x∨x=tb∨x=mb):=fun x hx h=>by
  have:=hW.o x hx;rcases h with h|h|h
  ·exact this.2.1 h
  ·exact this.2.2.1 h
  ·exact this.2.2.2 h
 obtain⟨pt6,hxs6⟩:=hW.rl _ w6 g6 hOR;have a1:w6.load b (o+i*4+1) 1=some [.str r.head.name]:=pt6 1 1 Fh;have hrd:=JrP hL6;refine Fz (by simp only[go_sem,K5,G9];rfl) ?_;refine K9 Ff Fe ?_;refine Jvc (wd:=r.head.args.length) C hrd hrise hwid Fh Fh ?_;refine Fz (by simp only[go_sem,K5,f10,f11,f12,hil,a1];rfl) ?_;refine K9 Ff Fe ?_;refine Jtb C hrd (fun x hx=>?_) t6 Fh hrg (fun x hx=>by rw[hwid x hx];omega) Fh fun w8 v8 hF8 g8=>?_
 ·rcases hx with hx|hx
  ·have:=(hL6.2.2.1 x hx).2.1;omega
  ·have:=(hL6.2.2.2 x hx).2;omega
 rw[hfacts]at hF8;refine Fz (by simp only[go_sem,K5,f17];rfl) ?_;refine K9 Ff Fe ?_
 refine JtP C hF8 (((hwv.frm g6 fun x hx h=>by
  have:=hTw x hx;rcases h with h|h|h
  ·exact this.1 h
  ·exact this.2.1 h
  ·exact this.2.2 h).frm g8 fun _ _ h=>h)) Fh hfl2 hfl2 fun w9 g9=>?_
 rw[JiK hOM];refine Lb 1000 Fe ?_;exact h _ _ ⟨(Fg f1),(Fg f2),(Fg f3),(Fg f10),(Fg f11)⟩ (g6.tr (g8.tr g9).no)
end
section
open Go.AE Delphi Val
variable {tab:Tab}
variable {ds:List Fc}
theorem Jva {l:Lt}{f:Fc}(h:f∈ofF l ds):f∈ds∧f.1=l.name∧f.2.length=l.args.length:=by
 unfold ofF at h;obtain⟨h1,h2⟩:=List.mem_filter.1 h;simp only[FT,decide_eq_true_eq]at h2;exact⟨h1,h2⟩
theorem Ju2 (C:Codes tab)(I:Ib tab)(P:SL tab){O Tf Td:Fw}{r:Rl}{M:Bp}{fs:List Fc}{nl b o i tb mb sm sb n:Nat}{c:Cap}{tv hv xb fv dv:V}{f:Fr}{sk:List SI}{t:Lt}(hW:JdW tab O S r ts M b o i tb mb sm sb tv hv xb w)(hG:RG r)(hLT:LaidT ts M fs)(hts:ts.length≤200)(hln:∀nm x,K8 M nm=some x→x.1≤4∧x.2.length≤1000000)(hFM:O9 fs)(hfl:fs.length≤25)(hfx:∀f∈fs,f.2.length≤1000)(hDM:O9 ds)(hDL:FcsL ds)(hdl:ds.length≤10)(hcs:BD r=true)(ht:r.body[n]? = some t)(hk:t.kind=1)(hf:Fcs Tf w fv fs)(hTf:∀x,Tf x→x<w.next)(hd:Fcs Td w dv ds)(hTd:∀x,Td x→x<w.next∧¬S x∧x≠tb∧x≠mb)(hF:JdF f (.slice b o nl c) fv dv (Fq n) i)(f12:f.get 12=some (.ptr tb 0))(f13:f.get 13=some (.ptr sb 0))(hil:i<nl)(hret:∀w',Frm (fun _=>False) w w'→K (.bool true) w')(h:∀f' w',JdF f' (.slice b o nl c) fv dv (Fq n) i→Frm (fun x=>S x∨x=tb∨x=mb) w w'→WS tab sk f' w' (Ag K)): WS tab (.code YT::sk) f w (Ag K):=by
 have hF0:=hF;obtain⟨f1,f2,f3,f10,f11⟩:=hF;obtain⟨l1,l2,l3,l4,l5⟩:=Np hG;obtain⟨pt,hxs⟩:=hW.rl (fun _=>False) w (Frm.refl _) fun _ _ h=>h;have pt3:w.load b (o+i*4+3) 1=some [xb]:=pt 3 1 Fh;have hnl:n<r.body.length:=(List.getElem?_eq_some_iff.1 ht).1;have htm:=FI ht;have hta:=l4.args t htm;have hb7:=l4.body;have htb:=hW.tw.a.lt;have hmb:=hW.tw.m.lt;have hSl:∀x,S x→x<w.next:=fun x hx=>(hW.tw.s x hx).1;obtain⟨v0,u0,hxe,hxh,hxb⟩:=hxs;cases hxe;obtain⟨lb,lo,lc,lv,rfl,k0,k3,hlr⟩:=Jo3 hxb ht;have hlvl:=hlr.lenV;have hone:Lv [V.int .i64 (Fq t.kind),V.str t.name,lv]=true:=by rcases hlr.inv with⟨h,_⟩|⟨_,_,_,h,_⟩<;>rw[h]<;>rfl
 obtain⟨w1,s1,c1,r1,m1⟩:=Oj w (zs:=[V.int .i64 0,V.str [],V.nilslice]) (vs:=[V.int .i64 (Fq t.kind),V.str t.name,lv]) rfl hone;have hcc:V.cells (.agg [V.int .i64 (Fq t.kind),V.str t.name,lv])=[V.int .i64 (Fq t.kind),V.str t.name,lv]:=rfl;refine Fz (by simp only[go_sem,K5,YT,f3,f10,f11,hil,pt3,hnl,k3,hcc,s1,FC,FD];rfl) ?_;refine Jvb (l:=t) (tp:=.ptr tb 0) (st:=.ptr sb 0) C (hd.frm r1 fun _ _ h=>h) (fun x hx=>by have:=(hTd x hx).1;omega) Fh (fun x hx=>by have:=(hDL.ok x hx).1;omega) Fh c1 hlvl ⟨(Fg f1),(Fg f2),(Fg f3),(Fg f10),(Fg f11)⟩ (Fg f12) (Fg f13) Fb Fb Fb fun f2' w2 ov So hF2 f12 f13 f14 f15 hov g2 hSo=>?_;have hF2':=hF2;obtain⟨f1,f2,f3,f10,f11⟩:=hF2;have n1:=r1.next;have n2:=g2.next;have g02:=r1.tr g2;have hW2:=hW.st g02;have a42:=hW2.a4;have hof:=fun {f:Fc} (h:f∈ofF t ds)=>Jva h;have hofl:(ofF t ds).length≤10:=by have:=Km (fun f:Fc=>decide (f.1=t.name)&&decide (f.2.length=t.args.length)) ds;unfold ofF;omega
 have hoM:O9 (ofF t ds):=fun x hx=>hDM x (hof hx).1;have hoL:FcsL (ofF t ds):=⟨by omega,fun x hx=>hDL.ok x (hof hx).1,fun x hx y hy _=>by rw[(hof hx).2.2,(hof hy).2.2]⟩;generalize hofd:ofF t ds=od at hov hofl hoM hoL;have hRB:RuleB r:=⟨l4,fun l hl=>⟨by have:=l4.args l hl;omega,fun h1 h2=>(l3 l hl h1 h2).2.2⟩⟩;refine Fz (by simp only[go_sem,K5,Hb,f1,f3,f10,f11,f15,hil,a42];rfl) ?_;refine K9 Ff Fe ?_;refine JtV (delta:=od) C (hW2.rl _ _ (Frm.refl _) fun _ _ h=>h).2 (hf.frm g02 fun _ _ h=>h) hov hRB Fh hfx Fh (fun hno w3 g3=>?_) fun want hwant w3 wv hwv _ g3=>?_
 ·refine Fz (by simp only[go_sem,K5,G7];rfl) ?_;refine K7 ⟨_,by simp only[go_sem,K5,Zl];rfl,?_⟩;exact hret _ (g02.tr g3)
 have g03:=g02.tr g3;have n3:=g3.next;have hW3:=hW.st g03;have c13:=c1.frm (g2.tr g3) fun h=>h;have a31:w3.load w.next 1 1=some [.str t.name]:=CB.ld c13 1 1 _ rfl;have hov3:=hov.frm g3 fun _ _ h=>h
 have hSo3:∀x,So x→x<w3.next∧¬S x∧x≠tb∧x≠mb:=fun x hx=>by
  obtain⟨h1,h2⟩:=hSo x hx;rcases h1 with h1|h1
  ·exact⟨by omega,fun hs=>by have:=hSl x hs;omega,by omega,by omega⟩
  ·exact⟨by omega,(hTd x h1).2⟩
 refine Fz (by simp only[go_sem,K5,Ha];rfl) ?_;refine Bo ?_;refine LU 100 (by simp only[go_sem,K5,f12,f14,f15];rfl) ?_;refine BJ Ff Fe ?_;refine Jlo C P hov3 hoL hSo3 hW3.tw Fh fun w4 sm2 b52 tv4 S4 MV2 Sx2 t4 L4 hsm2=>?_;obtain⟨⟨y,hy⟩,hLT2⟩:=RO hLT.good hoL hoM;have hLl:=(Ap (ts:=ts) hoL).2;have hln2:=JnE (ts:=ts) hoL;have hpa:=(Ap (ts:=ts) hoL).1.ar;generalize LC ts od=ld at t4 L4 hLT2 hLl hln2 hpa hy;obtain⟨ts2,M2⟩:=ld;simp only at t4 L4 hLT2 hLl hln2 hpa hy;subst hy;have hLT':LaidT (ts++y) M fs:=JrL hLT hLT2.good;have n4:=L4.f.next;have g34:=L4.f
 have g14:∀x,w.next≤x→x<w3.next→¬(S x∨x=tb∨x=mb):=fun x h1 h2 h=>by
  rcases h with h|h|h
  ·have:=hSl x h;omega
  ·omega
  ·omega
 have c14:=c13.frm g34 (g14 _ (FH _) Fh);have a41:w4.load w.next 1 1=some [.str t.name]:=CB.ld c14 1 1 _ rfl;have look:=L4.lw.pm.look BB .nilptr t.name
 have hlk:w4.lookV (.scalar .str) .nilptr (.map sm2) (.str t.name)=some ((K8 MV2 t.name).getD .nilptr,(K8 MV2 t.name).isSome):=by
  rw[look];cases K8 MV2 t.name<;>rfl
 have hpv2:Cj [V.map sm2] 0 1 false=some (.map sm2):=rfl;refine LU 100 (by simp only[go_sem,K5,f14,a41,hlk,hpv2,valOf];rfl) ?_;refine O1 ⟨(show LF _ _ [(5,2)]from by simp only[go_sem,K5,LF,chk,List.reverse_cons,List.reverse_nil,O8,O6,O4,O5,List.getElem?_nil,false_or,or_true,or_false,exists_eq',FQ,Prod.mk.injEq,Bool.true_eq_false,FM,and_true,true_and,implies_true,a31,a41,f14]),?_⟩
 have hq:∀nm x,(some (dqF M2 t)=some x∨K8 M nm=some x)→x.1≤4∧x.2.length≤1000000:=by
  rintro nm x (e|hx)
  ·rw[←FY e];unfold dqF;cases hg:K8 M2 t.name with
   | none=>exact⟨hG.2.ls t htm,by simp⟩
   | some x=>exact hln2 _ _ hg
  ·exact hln nm x hx
 have hlit:=Jl3 ht;have hok:OL r (Fq n):=⟨hcs,by have:(0:Int)≤Fq n:=Int.natCast_nonneg n;omega,by show (n:Int)<r.body.length;omega,fun _=>by rw[show (Fq n).toNat=n from rfl,hlit];exact hk⟩;have h0n:(0:Int)≤Fq n:=Int.natCast_nonneg n;have htl:(ts++y).length≤240:=Fh
 have hOR:∀x,O x→¬(S x∨x=tb∨x=mb):=fun x hx h=>by
  have:=hW.o x hx;rcases h with h|h|h
  ·exact this.2.1 h
  ·exact this.2.2.1 h
  ·exact this.2.2.2 h
 have hS4:∀x,S4 x→S x∨w3.next≤x:=L4.s;have hbl:=hW.bx.lt
 have hW4:JdW tab O S4 r (ts++y) M b o i tb mb sm sb tv4 hv (.slice lb lo r.body.length lc) w4:=by
  refine⟨fun R w' g hd=>hW3.rl (fun x=>(S x∨x=tb∨x=mb)∨R x) w' (g34.trans g (fun _ _ h=> .inl h) fun _ _ h=> .inr h) fun x hx hh=>hh.elim (hOR x hx) (hd x hx),t4,hW3.sa.frm g34 hOR,hW3.bx.frm g34 fun h=>?_,fun x hx=>?_,fun h=>?_,hW.ob.2⟩
  ·rcases h with h|h|h
   ·exact hW.ob.1 h
   ·exact hW.ob.2.1 h
   ·exact hW.ob.2.2 h
  ·have:=hW.o x hx;refine⟨by omega,fun h=>?_,this.2.2⟩;rcases hS4 x h with h|h
   ·exact this.2.1 h
   ·omega
  ·rcases hS4 _ h with h|h
   ·exact hW.ob.1 h
   ·omega
 have fin:∀(f':Fr) (w5:AW) (dp:V) (Od:Fw),Frm (fun _=>False) w4 w5→SetQ Od w5 dp (some (dqF M2 t))→dp.cells=[dp]→(∀x,Od x→x<w5.next∧¬S4 x∧x≠tb∧x≠mb)→JdF f' (.slice b o nl c) fv dv (Fq n) i→f'.get 12=some (.ptr tb 0)→f'.get 13=some (.ptr sb 0)→f'.get 17=some wv→f'.get 19=some dp→WS tab (.code YS::sk) f' w5 (Ag K):=by
  intro f' w5 dp Od g5 hq5 hdp hOd hF' f12' f13' f17 f19;have n5:=g5.next;have hU:∀x,(O x∨Od x)→x<w5.next∧¬S4 x∧x≠tb∧x≠mb:=fun x hx=>hx.elim (fun h=>(hW4.st g5).o x h) (hOd x);have hW5:=(hW4.st g5).more (O':=fun x=>O x∨Od x) (fun _ h=> .inl h) hU;obtain⟨hB,hOM,hrl,hTg,htl',hrg,hfacts⟩:=JqW (dq:=some (dqF M2 t)) (delta:=od) hG hok hLT' hFM hoM Fh (fun j hj args=>by rw[Int.ofNat.inj hj,hlit];exact Jv1 hLT2 args) (Js0 hLT2) hq hwant;refine Jwd C I P hW5 hB Fh l5 h0n hok hdp (hq5.mono (fun _ h=> .inr h) fun x hx=>(hU x hx).1) (((hwv.frm g34 fun x hx h=>g14 x Fh hx.2 h).frm g5 fun _ _ h=>h)) (fun x hx=>⟨fun hs=>?_,by omega,by omega⟩) hOM hrl hTg htl' hrg hfacts hF' f12' f13' f17 f19 hil fun f6 w6 hF6 g6=>h f6 w6 hF6 ?_
  ·rcases hS4 x hs with hs|hs
   ·have:=hSl x hs;omega
   ·omega
  ·refine ((g03.no.tr g34).tr g5.no).trans g6 (fun _ _ h=>h) fun x hx h=>?_;rcases h with h|h
   ·rcases hS4 x h with h|h
    ·exact .inl h
    ·omega
   ·exact .inr h
 have a42':w4.load w.next 2 1=some [lv]:=CB.ld c14 2 1 _ rfl;cases hg:K8 M2 t.name with
 | none =>
  rw[L4.lw.key _ hg];have he:eqV .ptr .nilptr .nilptr=some true:=rfl;refine Fz (by simp only[go_sem,K5,G8,f14,a42',hlvl,he,Option.getD_none];rfl) ?_;refine K9 Ff Fe ?_;refine Rel.new_ok C (hG.2.ls t htm) fun w5 hs5 g5 n5=>?_;refine Lb 1000 Fe ?_;refine fin _ w5 (.ptr w4.next 0) (fun x=>x=w4.next) g5 ?_ rfl (fun x hx=>?_) ⟨(Fg f1),(Fg f2),(Fg f3),(Fg f10),(Fg f11)⟩ (Fg f12) (Fg f13) Fb Fb
  ·show Rel.SetOf _ w5 _ (dqF M2 t).1 (dqF M2 t).2;unfold dqF;rw[hg];exact hs5
  ·subst hx;exact⟨by omega,fun h=>by have:=(t4.s _ h).1;omega,by omega,by omega⟩
 | some x =>
  obtain⟨p,hp,hs⟩:=L4.lw.set _ _ hg;rw[hp];obtain⟨bp,e⟩:∃bp,p = .ptr bp 0:=by obtain⟨bp,_,_,_,_,e,_⟩:=hs;exact⟨bp,e⟩
  subst e;have he:eqV .ptr (.ptr bp 0) .nilptr=some false:=rfl;refine Lb 1000 (by simp only[go_sem,K5,he,Option.getD_some];rfl) ?_;refine fin _ w4 (.ptr bp 0) (Sx2 t.name) (Frm.refl _) ?_ rfl (fun x hx=>?_) ⟨(Fg f1),(Fg f2),(Fg f3),(Fg f10),(Fg f11)⟩ (Fg f12) (Fg f13) Fb Fb
  ·show Rel.SetOf _ w4 _ (dqF M2 t).1 (dqF M2 t).2;unfold dqF;rw[hg];exact hs
  ·have h1:=L4.sd _ x hx;have h2:=L4.lw.lo _ x hx;exact⟨by omega,h1.1,h1.2.1,h1.2.2.1⟩
end
end Go.Proofs.YtegdcbdicpfbpaaGreatDoor
