/- A part of the proof. -/
import Derived.Test.YtegdcbdicpfbpaaDoorJhQ
import Derived.Test.YtegdcbdicpfbpaaDoorJhI
import Derived.Test.YtegdcbdicpfbpaaDoorJhJ
import Derived.HandedShaped
import Derived.Stop.Joined
set_option linter.unusedVariables false
set_option maxRecDepth 10000
set_option linter.unusedSimpArgs false
namespace Go.Proofs.YtegdcbdicpfbpaaDoor
open Go.AE Delphi Val
variable {tab:Tab}
theorem JgY (M:Jbh)(f:Fc):HE (JaE M f) f.1=some (P8 M f):=by
 unfold P8 JaE;cases hg:HE M f.1 with
 | none=>simp only;rw[HT];rfl
 | some x=>simp only;rw[hg];rfl
theorem JoD (C:Codes tab)(P:JdJ tab){T S:Fw}{tb mb:Nat}{lv tv:V}{ts:List Tk}{l:List Fc}{aw:AW}{K:V→AW→Prop}(hx:Fcs T aw lv l)(hl:FcsL l)(hT:∀x,T x→x<aw.next∧¬S x∧x≠tb∧x≠mb)(ht:TabW tb mb tv S ts aw)(hts:ts.length≤20000)(h:∀w sm b5 tv' S' MV Sf,TabW tb mb tv' S' (HX ts l).1 w→LaidS (aw.next+1) sm tb mb b5 aw w S S' (HX ts l).2 MV Sf→aw.next≤sm→K (.agg [.map sm]) w):WF tab VX [.ptr tb 0,lv] aw K:=by
 refine HL C.Yy rfl ?_;have hlv:=hx.lenV;have htb:=ht.a.lt;have hmb:=ht.m.lt;have hSl:∀x,S x→x<aw.next:=fun x hx=>(ht.s x hx).1;obtain⟨w1,e1,c1,r1,m1⟩:=PU aw [V.nilmap];have cm:PM (w1.new (.map [] 0)) w1.next ([]:List (List Nat×V)):=MB.new w1;have fm:Frm (fun _=>False) w1 (w1.new (.map [] 0)):=Ja4 w1;have nm1:(w1.new (.map [] 0)).next=w1.next+1:=rfl;generalize hw2:w1.new (.map [] 0)=w2 at cm fm nm1;obtain⟨w3,s3,c3,r3,n3⟩:=PE w2 (zs:=[V.nilmap]) (vs:=[V.map w1.next]) rfl rfl;have f01:=r1.tr (fm.tr r3);have hov:over [V.nilmap] 0 [V.map w1.next]=some [V.map w1.next]:=rfl;have hll:=hl.len;refine Fz (by simp only[go_sem,HA,simprocAttr,ZF,UF,e1,hw2,HI,HQ,JbQ,hov,FC,FD,s3];rfl) ?_;have n1:=r1.next
 refine H7 (fun q f w=>∃i tv' S' MV Sf,LdF f tb lv w2.next i aw.next∧TabW tb mb tv' S' (HX ts (l.take i)).1 w∧LaidS (aw.next+1) w1.next tb mb w2.next aw w S S' (HX ts (l.take i)).2 MV Sf∧CB w aw.next [.nilmap]∧(∀n y,Sf n y→w2.next<y)∧(∀y,S' y→y≠aw.next)∧i≤l.length∧q=l.length-i)
  (fun f w=>∃tv' S' MV Sf,f.get 4=some (.ptr aw.next 0)∧f.get 5=some (.ptr w2.next 0)∧TabW tb mb tv' S' (HX ts l).1 w∧LaidS (aw.next+1) w1.next tb mb w2.next aw w S S' (HX ts l).2 MV Sf∧CB w aw.next [.nilmap]∧(∀n y,Sf n y→w2.next<y)∧(∀y,S' y→y≠aw.next)) ?_ ?_ l.length
  ⟨0,tv,S,[],fun _ _=>False,⟨Fb,Fb,Fb,Fb,Fb⟩,ht.step0 f01,⟨⟨cm.frm r3 fun h=>h,fun nm h=>rfl,fun nm x h=>by simp[HX,HE]at h,fun _ _ _ h=>h.elim,fun _ _ h=>h.elim⟩,c3,fun _ _ h=>h.elim,fun x hx=>by have:=hSl x hx;exact⟨by omega,by omega⟩,⟨by omega,by omega,by omega,by omega,by omega⟩,f01.no,fun x hx=> .inl hx⟩,(c1.frm (fm.tr r3) fun h=>h),fun _ _ h=>h.elim,fun y hy=>by have:=hSl y hy;omega,Nat.zero_le _,rfl⟩
 ·rintro q f w ⟨i,tv',S',MV,Sf,⟨f0,f1,f4,f5,f6⟩,htw,hLw,hbx,hSf,hSa,hi,rfl⟩ ih out;by_cases hil:i<l.length
  case neg =>
   obtain rfl:i=l.length:=Fh;rw[List.take_length]at htw hLw;refine HF 1000 (by simp only[go_sem,simprocAttr,ZE,f1,f6,hlv,hil];rfl) ?_;exact out _ _ _ ⟨tv',S',MV,Sf,(Fg f4),(Fg f5),htw,hLw,hbx,hSf,hSa⟩ rfl
  obtain⟨fc,hfc⟩:∃fc,l[i]? = some fc:=⟨_,FB hil⟩;have hfm:=FI hfc;obtain⟨ha4,hn16,hok⟩:=hl.ok fc hfm;have hpi:LaidP (l.take i) (HX ts (l.take i)).2∧(HX ts (l.take i)).1.length≤ts.length+4*(l.take i).length:=JgZ ⟨by rw[FT];omega,fun f hf=>hl.ok f (List.mem_of_mem_take hf),fun f hf g hg=>hl.ar f (List.mem_of_mem_take hf) g (List.mem_of_mem_take hg)⟩;have hit:(l.take i).length=i:=by rw[FT];omega
  rw[hit]at hpi
  have hTR:∀x,T x→¬(S x∨x=tb∨x=mb):=fun x hx h=>by
   obtain⟨_,h1,h2,h3⟩:=hT x hx;rcases h with h|h|h
   ·exact h1 h
   ·exact h2 h
   ·exact h3 h
  have gn:=hLw.f.next
  have hTw:∀{w':AW} {S2:Fw},w.next≤w'.next→(∀x,S2 x→S x∨aw.next≤x)→∀x,T x→x<w'.next∧¬S2 x∧x≠tb∧x≠mb:=fun hn hs x hx=>by
   obtain⟨h0,h1,h2,h3⟩:=hT x hx;exact⟨by omega,fun hh=>by rcases hs x hh with h|h;exact h1 h;omega,h2,h3⟩
  have hxw:=hx.frm hLw.f hTR;obtain⟨b,o,c,xv,rfl,_,_,l2,l0,l1,hxa⟩:=Jf0 hxw hfc;have hxl:=hxa.lenV;have look:=hLw.lw.pm.look Px .nilptr fc.1;have k0:w.load w2.next 0 1=some [.map w1.next]:=CB.ld hLw.box 0 1 _ rfl;have hwr:IntKind.wrap .i64 (Int.ofNat i+1)=Int.ofNat (i+1):=HJ Fh;have hb5:=hLw.box.lt;have esn:HX ts (l.take (i+1))=Jct (HX ts (l.take i)) fc:=by rw[PK hfc,Jd2]
  have hx1:(P8 (HX ts (l.take i)).2 fc).1=fc.2.length∧(P8 (HX ts (l.take i)).2 fc).2.length≤i:=by
   unfold P8 JaE;cases hg:HE (HX ts (l.take i)).2 fc.1 with
   | none=>simp only;rw[HT];exact⟨rfl,Nat.zero_le _⟩
   | some x =>
    simp only;rw[hg];obtain⟨g,hgm,hgn,hga⟩:=hpi.1.ar _ _ hg;refine⟨?_,by have:=hpi.1.len _ _ hg;rw[hit]at this;exact this⟩;show x.1=_;rw[hga];exact hl.ar g (List.mem_of_mem_take hgm) fc hfm hgn
  have rest:∀(fr:Fr) (w4:AW) (MV4:List (List Nat×V)) (Sf4:List Nat→Fw),LdF fr tb (.slice b o l.length c) w2.next i aw.next→fr.get 7=some .nilslice→fr.get 8=some (.int .i64 (Int.ofNat 0))→w.next≤w4.next→TabW tb mb tv' S' (HX ts (l.take i)).1 w4→LaidS (aw.next+1) w1.next tb mb w2.next aw w4 S S' (JaE (HX ts (l.take i)).2 fc) MV4 Sf4→CB w4 aw.next [.nilmap]→(∀n y,Sf4 n y→w2.next<y)→WS tab (.code (.loop ZD) :: .endB 2 :: .code Yx :: .endB 1 :: .code (.region [⟨some 15,none,.mov (.tmp 6)⟩,⟨some 16,none,.bin .add (.tmp 15) (.const (.int .i64 1))⟩,⟨some 6,none,.mov (.tmp 16)⟩]) :: .code (.loop ZE) :: .endB 0::[.code (.seq (.region [⟨some 73,none,.load 1 true (.tmp 5)⟩,⟨none,none,.store 1 (.tmp 4) (.tmp 73)⟩]) .ret)]) fr w4 (fun fr' aw'=>∃vs,PV fr' aw' ZF.results=some vs∧K (Ph vs) aw'):=by
   intro fr w4 MV4 Sf4 hF4 h7 h8 hn4 ht4 hL4 hb4 hSf4;have hx4:=hx.frm hL4.f hTR;refine Jnr (i:=i) C hx4 hfc (hTw hn4 fun x hx=>hLw.s x hx) ht4 Fh Fh hok hF4 h7 h8 fun f5 w5 rv R tv5 S5 hF5 g7 hrv t5 g5 s5 hR5=>?_;have n5:=g5.next;have hn4':=hL4.f.next
   have d5:∀n x,Sf4 n x→¬(S' x∨x=tb∨x=mb):=fun n x hx h=>by
    obtain⟨h1,h2,h3,_⟩:=hL4.sd n x hx;rcases h with h|h|h
    ·exact h1 h
    ·exact h2 h
    ·exact h3 h
   have hL5:LaidS (aw.next+1) w1.next tb mb w2.next aw w5 S S5 (JaE (HX ts (l.take i)).2 fc) MV4 Sf4:=by
    refine⟨hL4.lw.frm g5 (fun h=>?_) d5,hL4.box.frm g5 (fun h=>?_),fun n x hx=>⟨fun hs=>?_,(hL4.sd n x hx).2⟩,fun x hx=>?_,hL4.ne,?_,fun x hx=>?_⟩
    ·rcases h with h|h|h
     ·exact (hL4.ss _ h).1 rfl
     ·exact hL4.ne.1 h
     ·exact hL4.ne.2.1 h
    ·rcases h with h|h|h
     ·exact (hL4.ss _ h).2 rfl
     ·exact hL4.ne.2.2.1 h
     ·exact hL4.ne.2.2.2.1 h
    ·rcases s5 x hs with h|h
     ·exact (hL4.sd n x hx).1 h
     ·have:=(hL4.lw.lo n x hx).2.1;omega
    ·rcases s5 x hx with h|h
     ·exact hL4.ss x h
     ·have:=hL4.box.lt;have:=hL4.lw.pm.lt;exact⟨by omega,by omega⟩
    ·refine hL4.f.trans g5 (fun _ _ h=>h) fun x hx h=>?_;rcases h with h|h|h
     ·rcases hLw.s x h with h|h
      ·exact .inl h
      ·omega
     ·exact .inr (.inl h)
     ·exact .inr (.inr h)
    ·rcases s5 x hx with h|h
     ·exact hLw.s x h
     ·right;omega
   have hb5':=hb4.frm g5 (fun h=>by
    rcases h with h|h|h
    ·exact hSa _ h rfl
    ·omega
    ·omega)
   have hrl:=(Jb2 (HX ts (l.take i)).1 fc.2).1;have hxw5:=hx.frm hL5.f hTR;refine Jnq (x:=P8 (HX ts (l.take i)).2 fc) C P hxw5 hfc (fun y hy=>⟨by have:=(hT y hy).1;omega,fun n hs=>by have:=(hL5.lw.lo n y hs).1;have:=(hT y hy).1;omega⟩) t5 hL5 (JgY _ _) hrv (by rw[hrl,hx1.1]) Fh ⟨hb5'.lt,fun n hs=>by have:=(hL5.lw.lo n _ hs).1;omega⟩ Fh Fh hF5 g7 fun f6 w6 Sf6 hF6 t6 hL6 g6 s6=>?_;obtain⟨p0,p1,p4,p5,p6⟩:=hF6;have n6:=g6.next;refine Fz (by simp only[go_sem,HA,simprocAttr,p6,hwr];rfl) ?_;refine ih _ _ _ Fh ⟨i+1,tv5,S5,MV4,Sf6,⟨(by simp only[go_sem,HA,simprocAttr,p0]<;>rfl),(by simp only[go_sem,HA,simprocAttr,p1]<;>rfl),(by simp only[go_sem,HA,simprocAttr,p4]<;>rfl),(by simp only[go_sem,HA,simprocAttr,p5]<;>rfl),Fb⟩,?_,?_,hb5'.frm g6 (fun hs=>by have:=(hL5.lw.lo _ _ hs).1;omega),fun n y hy=>?_,fun y hy=>?_,by omega,rfl⟩
   ·rw[esn];exact t6
   ·rw[esn];exact hL6
   ·rcases s6 n y hy with h|h
    ·exact hSf4 n y h
    ·have:=hL4.box.lt;omega
   ·rcases s5 y hy with h|h
    ·exact hSa y h
    ·have:=hb4.lt;omega
  cases hg:HE (HX ts (l.take i)).2 fc.1 with
  | some x =>
   have e0:JaE (HX ts (l.take i)).2 fc=(HX ts (l.take i)).2:=by unfold JaE;rw[hg]
   obtain⟨p,hp,hset⟩:=hLw.lw.set _ _ hg;obtain⟨bp,rfl,_⟩:=SetOf.ptr hset;rw[hp]at look;have look:w.lookV (.scalar .str) .nilptr (.map w1.next) (.str fc.1)=some (.ptr bp 0,true):=look;have hpn:eqV .ptr (.ptr bp 0) .nilptr=some false:=rfl;refine Fz (by simp only[go_sem,HA,simprocAttr,ZE,WL,f1,f5,f6,hlv,hil,k0,l0,look,hpn];rfl) ?_;exact rest _ w MV Sf ⟨(Fg f0),(Fg f1),(Fg f4),(Fg f5),(Fg f6)⟩ Fb Fb (FH _) htw (by rw[e0];exact hLw) hbx hSf
  | none =>
   have e0:JaE (HX ts (l.take i)).2 fc=Pj (HX ts (l.take i)).2 fc.1 (fc.2.length,[]):=by unfold JaE;rw[hg]
   have hmn:=hLw.lw.key _ hg;rw[hmn]at look;have look:w.lookV (.scalar .str) .nilptr (.map w1.next) (.str fc.1)=some (.nilptr,false):=look;have hpn:eqV .ptr .nilptr .nilptr=some true:=rfl;refine Fz (by simp only[go_sem,HA,simprocAttr,ZE,WL,f1,f5,f6,hlv,hil,k0,l0,look,hpn,UD];rfl) ?_;refine Pp ?_;refine H0 100 (by simp only[go_sem,HA,simprocAttr,f1,f5,f6,hil,k0,l0,l1,hxl];rfl) ?_;refine PD Ff Fe ?_;refine Rel.new_ok C ha4 fun w4 hset g4 n4=>?_;have k0':w4.load w2.next 0 1=some [.map w1.next]:=CB.ld (hLw.box.frm g4 fun h=>h) 0 1 _ rfl
   have l0':w4.load b (o+i*2) 1=some [.str fc.1]:=by
    obtain⟨b',o',c',xv',e',_,_,_,q0,_,_⟩:=Jf0 (hxw.frm g4 fun _ _ h=>h) hfc;cases e';exact q0
   obtain⟨w5,u1,u2,u3,u4⟩:=(hLw.lw.pm.frm g4 fun h=>h).put Px fc.1 (.ptr w.next 0)
   have hMp:∀n,HE (Pj MV fc.1 (V.ptr w.next 0)) n=if n=fc.1 then some (.ptr w.next 0)else HE MV n:=fun n=>by
    by_cases he:n=fc.1
    ·rw[if_pos he,he,HT]
    ·rw[if_neg he,Pi _ _ _ _ he]
   have hsml:=hLw.lw.pm.lt;have g45:Frm (fun y=>y=w1.next) w w5:=g4.no.tr u3
   have hup:=hLw.lw.upd (nm:=fc.1) (x:=(fc.2.length,[])) g45 u2 hMp (hset.frm u3 fun x hx e=>by omega) (fun n y _ hy e=>(hLw.lw.lo n y hy).2.2 e) (fun y hy=>by
    subst hy;exact⟨by omega,by omega,by omega,fun n _ hs=>by have:=(hLw.lw.lo n _ hs).2.1;omega⟩)
   refine H0 100 (by simp only[go_sem,HA,simprocAttr,f1,f6,hil,u1];rfl) ?_;refine Pr ⟨(show HW _ _ [(1,13),(6,13)]from by simp only[go_sem,HA,simprocAttr,HW,chk,List.reverse_cons,List.reverse_nil,Pk,Pv,Pt,Pu,List.getElem?_nil,false_or,or_true,or_false,exists_eq',FP,Prod.mk.injEq,Bool.true_eq_false,FM,and_true,true_and,implies_true,k0,k0',l0,l0']),?_⟩;have hn5:=g45.next;have hn5':=u3.next;have hSS:=htw.s;refine HB 1000 Fe ?_;refine rest _ w5 _ _ ⟨(Fg f0),(Fg f1),(Fg f4),(Fg f5),(Fg f6)⟩ Fb Fb Fh (htw.step g45 (fun e=>by omega) (fun e=>by omega) fun x hx e=>(hLw.ss x hx).1 e) ⟨by rw[e0];exact hup,hLw.box.frm g45 (fun e=>by have:=hLw.ne;omega),fun n x hx=>?_,hLw.ss,hLw.ne,?_,hLw.s⟩ (hbx.frm g45 fun e=>by omega) fun n y hy=>?_
   ·by_cases he:n=fc.1
    ·rw[if_pos he]at hx;exact⟨fun hs=>by have:=(hSS x hs).1;omega,by omega,by omega,by omega⟩
    ·rw[if_neg he]at hx;exact hLw.sd n x hx
   ·exact hLw.f.trans g45 (fun _ _ h=>h) fun x hx e=>by omega
   ·by_cases he:n=fc.1
    ·rw[if_pos he]at hy;omega
    ·rw[if_neg he]at hy;exact hSf n y hy
 ·rintro f w ⟨tv',S',MV,Sf,f4,f5,htw,hLw,hbx,hSf,hSa⟩;have k0:w.load w2.next 0 1=some [.map w1.next]:=CB.ld hLw.box 0 1 _ rfl;have st:=hbx.setAll (vs:=[V.map w1.next]) rfl rfl;have c4:=H3 (l:=[V.map w1.next]) hbx.lt;have g4:Frm (fun x=>x=aw.next) w (w.put aw.next [V.map w1.next]):=HO;have k4:(w.put aw.next [V.map w1.next]).load aw.next 0 1=some [.map w1.next]:=CB.ld c4 0 1 _ rfl;have hcm:V.cells (.agg [.map w1.next])=[V.map w1.next]:=rfl;refine Fz (by simp only[go_sem,HA,simprocAttr,f4,f5,k0,FC,FD,st,hcm];rfl) ?_;refine HC ⟨_,by simp only[go_sem,HA,simprocAttr,ZF,f4,k4];rfl,?_⟩;have d4:∀n x,Sf n x→¬x=aw.next:=fun n x hx e=>by have:=(hLw.lw.lo n x hx).1;omega
  refine h _ w1.next w2.next tv' S' MV Sf (htw.step g4 Fh Fh fun x hx e=>hSa x hx e) ⟨hLw.lw.frm g4 Fh d4,hLw.box.frm g4 Fh,hLw.sd,hLw.ss,hLw.ne,?_,hLw.s⟩ Fh;exact hLw.f.trans g4 (fun _ _ h=>h) fun x hx e=>by omega
section
open Go.AE Delphi Val
variable {tab:Tab}
def RowsRd (T:Fw) (w:AW) (v:V) (rows:Fy):Prop:=∃cs,Rd T w v 1 rows.length cs∧Rel.RowsV T w cs rows
variable {T:Fw} {w:AW} {v:V} {rows:Fy}
theorem RowsRd.frm {R:Fw}{w':AW}(h:RowsRd T w v rows)(g:Frm R w w')(hd:∀x,T x→¬R x):RowsRd T w' v rows:=by
 obtain⟨cs,h1,h2⟩:=h;exact⟨cs,h1.frm g hd,h2.frm g hd⟩
theorem RowsRd.lenV (h:RowsRd T w v rows):lenV v=some rows.length:=by obtain⟨cs,h1,h2⟩:=h;exact h1.lenV
theorem RowsRd.at (h:RowsRd T w v rows){i:Nat}{r:List Int}(hi:rows[i]? = some r):∃b o c rv,v = .slice b o rows.length c∧w.load b (o+i*1) 1=some [rv]∧Rel.RowV T w rv r:=by
 obtain⟨cs,h1,h2⟩:=h;obtain⟨rv,h3,h4⟩:=h2.at hi;have hlt:i<rows.length:=(List.getElem?_eq_some_iff.1 hi).1;rcases h1.inv with⟨_,h0,_⟩|⟨b,o,c,rfl,hB⟩
 ·omega
 ·exact⟨b,o,c,rv,rfl,by rw[Kz];exact hB.cell Fh h3,h4⟩
end
section
open Go.AE Delphi Val
variable {ts:List Tk}
theorem JkH (hg:TsGood ts):∀(args:List Tk),(∀c∈args,HY c=true)→∃y,(HS ts args).2=ts++y∧TsGood (HS ts args).2∧(∀n∈(HS ts args).1,1≤n∧n≤((HS ts args).2.length:Int))∧(HS ts args).1.map (Jag (HS ts args).2)=args:=by
 intro args hm
 suffices h:∀k,k≤args.length→∃y,(HS ts (args.take k)).2=ts++y∧TsGood (HS ts (args.take k)).2∧(∀n∈(HS ts (args.take k)).1,1≤n∧n≤((HS ts (args.take k)).2.length:Int))∧(HS ts (args.take k)).1.map (Jag (HS ts (args.take k)).2)=args.take k by
  have:=h args.length (FH _)
  rwa [List.take_length]at this
 intro k;induction k with
 | zero=>intro _;exact⟨[],by simp[HS],by simpa[HS]using hg,by simp[HS],by simp[HS]⟩
 | succ k ih =>
  intro hk;obtain⟨y,h1,h2,h3,h4⟩:=ih Fh;obtain⟨c,hc⟩:∃c,args[k]? = some c:=⟨_,FB Fh⟩;rw[PK hc,Jfc];obtain⟨z,i1,i2,i3,i4⟩:=Jh8 (ts:=(HS ts (args.take k)).2) (hm c (FI hc));have hg2:=h2.id c;unfold JcK;simp only;have hle:((HS ts (args.take k)).2.length:Int)≤((idT (HS ts (args.take k)).2 c).2.length:Int):=by rw[i1,FE];omega
  refine⟨y++z,by rw[i1,h1,F5],hg2,fun n hn=>?_,?_⟩
  ·rcases List.mem_append.1 hn with hn|hn
   ·have:=h3 n hn;exact⟨this.1,by omega⟩
   ·simp only[FJ,FZ,or_false]at hn;subst hn;exact⟨by show (1:Int)≤((_:Nat):Int);omega,by show ((_:Nat):Int)≤_;omega⟩
  ·rw[List.map_append,Kt,Ku,i4]
   congr 1
   refine (List.map_congr_left fun n hn=>?_).trans h4;have:=h3 n hn;rw[i1];exact Jcz this.1 this.2
structure LaidT (ts:List Tk) (M:Jbh) (l:List Fc):Prop where
 good:TsGood ts
 mem:∀nm args,fsT ts (HE M nm) args↔(nm,args)∈l
 rng:∀nm x,HE M nm=some x→∀r∈x.2,r.length=x.1∧∀n∈r,1≤n∧n≤(ts.length:Int)
variable {y:List Tk}
theorem JlM {q:Option (Nat×List (List Int))}(hq:∀x,q=some x→∀r∈x.2,∀n∈r,1≤n∧n≤(ts.length:Int)){args:List Tk}:fsT (ts++y) q args↔fsT ts q args:=by
 unfold fsT
 have e:∀x,q=some x→∀r∈x.2,r.map (Jag (ts++y))=r.map (Jag ts):=fun x hx r hr=>List.map_congr_left fun n hn=>by
  have:=hq x hx r hr n hn;exact Jcz this.1 this.2
 constructor
 ·rintro⟨x,r,h1,h2,h3⟩;exact⟨x,r,h1,h2,by rw[h3,e x h1 r h2]⟩
 ·rintro⟨x,r,h1,h2,h3⟩;exact⟨x,r,h1,h2,by rw[h3,e x h1 r h2]⟩
variable {l:List Fc}
theorem LaidT.ext {M:Jbh}(h:LaidT ts M l)(hg:TsGood (ts++y)):LaidT (ts++y) M l:=
 ⟨hg,fun nm args=>by rw[JlM fun x hx r hr n hn=>(h.rng nm x hx r hr).2 n hn];exact h.mem nm args,fun nm x hx r hr=>⟨(h.rng nm x hx r hr).1,fun n hn=>by
  have:=(h.rng nm x hx r hr).2 n hn;rw[FE];exact⟨this.1,by omega⟩⟩⟩
theorem JlV (hg:TsGood ts)(hl:FcsL l)(hm:Jqb l):(∃y,(HX ts l).1=ts++y)∧LaidT (HX ts l).1 (HX ts l).2 l:=by
 suffices h:∀i,i≤l.length→(∃y,(HX ts (l.take i)).1=ts++y)∧LaidT (HX ts (l.take i)).1 (HX ts (l.take i)).2 (l.take i)by
  have:=h l.length (FH _)
  rwa [List.take_length]at this
 intro i;induction i with
 | zero=>intro _;exact⟨⟨[],by simp[HX]⟩,by simpa[HX]using hg,fun nm args=>by simp[HX,HE,fsT],fun nm x hx=>by simp[HX,HE]at hx⟩
 | succ i ih =>
  intro hi;obtain⟨⟨y,hy⟩,hT⟩:=ih Fh;obtain⟨fc,hfc⟩:∃fc,l[i]? = some fc:=⟨_,FB Fh⟩;have hfm:=FI hfc;obtain⟨hp,_⟩:LaidP (l.take i) (HX ts (l.take i)).2∧_:=JgZ (ts:=ts) ⟨by rw[FT];have:=hl.len;omega,fun f hf=>hl.ok f (List.mem_of_mem_take hf),fun f hf g hg=>hl.ar f (List.mem_of_mem_take hf) g (List.mem_of_mem_take hg)⟩;rw[PK hfc,Jd2];generalize HX ts (l.take i)=s at hy hT hp;obtain⟨ts1,M⟩:=s;simp only at hy hT hp;obtain⟨z,j1,j2,j3,j4⟩:=JkH hT.good fc.2 (hm fc hfm);have hx:=JgY M fc;have hrl:=(Jb2 ts1 fc.2).1;unfold Jct;simp only
  have hold:∀r,r∈(P8 M fc).2↔∃x,HE M fc.1=some x∧r∈x.2:=by
   intro r;unfold P8 JaE;cases hg:HE M fc.1 with
   | none=>simp only;rw[HT];simp
   | some x=>simp only;rw[hg];simp
  have hwd:(P8 M fc).1=fc.2.length:=by
   unfold P8 JaE;cases hg:HE M fc.1 with
   | none=>simp only;rw[HT];rfl
   | some x =>
    simp only;rw[hg];obtain⟨g,hgm,hgn,hga⟩:=hp.ar _ _ hg;show x.1=_;rw[hga];exact hl.ar g (List.mem_of_mem_take hgm) fc hfm hgn
  have hne:∀nm,nm≠fc.1→HE (Pj (JaE M fc) fc.1 ((P8 M fc).1,Jbi (P8 M fc).2 (HS ts1 fc.2).1)) nm=HE M nm:=by
   intro nm h;rw[Pi _ _ _ _ h];unfold JaE;cases hg:HE M fc.1 with
   | none=>simp only;rw[Pi _ _ _ _ h]
   | some x=>rfl
  have e1:∀nm x,HE M nm=some x→∀r∈x.2,∀n∈r,1≤n∧n≤(ts1.length:Int):=fun nm x hx r hr=>(hT.rng nm x hx r hr).2;refine⟨⟨y++z,by rw[j1,hy,F5]⟩,j2,fun nm args=>?_,fun nm x hx' r hr=>?_⟩
  ·rw[F9];by_cases he:nm=fc.1
   ·subst he;rw[HT]
    have:fsT (HS ts1 fc.2).2 (some ((P8 M fc).1,Jbi (P8 M fc).2 (HS ts1 fc.2).1)) args↔(fsT ts1 (HE M fc.1) args∨args=fc.2):=by
     constructor
     ·rintro⟨x,r,h1,h2,h3⟩;cases h1;rcases mem_addR.1 h2 with h2|rfl
      ·obtain⟨x,hx1,hx2⟩:=(hold r).1 h2;left;refine⟨x,r,hx1,hx2,?_⟩;rw[h3,j1];refine List.map_congr_left fun n hn=>?_;have:=e1 _ _ hx1 r hx2 n hn;exact Jcz this.1 this.2
      ·exact .inr (h3.trans j4)
     ·rintro (⟨x,r,h1,h2,h3⟩|rfl)
      ·refine⟨_,r,rfl,mem_addR.2 (.inl ((hold r).2 ⟨x,h1,h2⟩)),?_⟩;rw[h3,j1];refine (List.map_congr_left fun n hn=>?_).symm;have:=e1 _ _ h1 r h2 n hn;exact Jcz this.1 this.2
      ·exact⟨_,_,rfl,mem_addR.2 (.inr rfl),j4.symm⟩
    rw[this,hT.mem];simp only[FJ,FZ,or_false];constructor
    ·rintro (h|rfl)
     ·exact .inl h
     ·exact .inr rfl
    ·rintro (h|h)
     ·exact .inl h
     ·exact .inr (congrArg Prod.snd h)
   ·rw[hne nm he,j1,JlM (e1 nm),hT.mem];constructor
    ·exact .inl
    ·rintro (h|h)
     ·exact h
     ·simp only[FJ,FZ,or_false]at h;exact absurd (congrArg Prod.fst h) he
  ·have hle:(ts1.length:Int)≤((HS ts1 fc.2).2.length:Int):=by rw[j1,FE];omega
   by_cases he:nm=fc.1
   ·subst he;rw[HT]at hx';cases hx';rcases mem_addR.1 hr with hr|rfl
    ·obtain⟨x,hx1,hx2⟩:=(hold r).1 hr;have:=hT.rng _ _ hx1 r hx2;refine⟨?_,fun n hn=>⟨(this.2 n hn).1,by have:=(this.2 n hn).2;omega⟩⟩;show r.length=(P8 M fc).1;rw[this.1,hwd];obtain⟨g,hgm,hgn,hga⟩:=hp.ar _ _ hx1;rw[hga];exact hl.ar g (List.mem_of_mem_take hgm) fc hfm hgn
    ·exact⟨by show _=(P8 M fc).1;rw[hwd,hrl],j3⟩
   ·rw[hne nm he]at hx';have:=hT.rng _ _ hx' r hr;exact⟨this.1,fun n hn=>⟨(this.2 n hn).1,by have:=(this.2 n hn).2;omega⟩⟩
theorem Jl1 {s:List Nat}(h:Je5 s):Jba s=true∧s.length≤16:=by
 obtain⟨c,t,rfl,h1,h2,h3⟩:=h
 have hall:∀(t:List Nat) (i:Nat),0<i→(∀x∈t,H9 x=true)→Jap i t=true:=by
  intro t;induction t with
  | nil=>intro i _ _;rfl
  | cons x t ih =>
   intro i hi h;unfold Jap;rw[ih (i+1) Fh fun y hy=>h y (FO _ hy),Bool.and_true];have:=h x Fj;unfold H9 JaI H1 at this;unfold okc;rw[decide_eq_true (show i≠0 by omega),Bool.true_and];exact this
 refine⟨?_,h3⟩;unfold Jba Jap;rw[hall t 1 Fh fun x hx=>h2 x (FO _ hx),Bool.and_true]
 have e1:okc 0 c=true:=by
  unfold okc;unfold JaI at h1;rw[h1];rfl
 rw[e1,Bool.true_and,decide_eq_true h3,decide_eq_true (by simp:1≤(c::t).length)];rfl
theorem JkS {c:Nat}(h:H9 c=true):c<256:=by
 unfold H9 JaI H1 at h;simp only[Bool.or_eq_true,FQ,decide_eq_true_eq]at h;omega
theorem Jmz {t:Tm}(hw:TmW t)(hx:TmX JaV t)(hk:t.kind≠1):HY (H2 t)=true∧TkOk (H2 t):=by
 rcases hw with⟨h1,_⟩|⟨h1,h2⟩|⟨h1,h2,h3⟩
 ·exact absurd h1 hk
 ·have hn:=hx.2.1 h1;obtain⟨w1,w2⟩:=Jl1 hn;refine⟨?_,⟨by show t.name.length≤9223372036854775807;omega,fun c hc=>?_⟩⟩
  ·unfold HY H2;simp only[h1,h2,w1];rfl
  ·obtain⟨c0,t0,e,_,h5,_⟩:=hn;exact JkS (h5 c hc)
 ·refine⟨?_,⟨by show t.name.length≤9223372036854775807;rw[h2];simp,fun c hc=>by have hc:c∈t.name:=hc;rw[h2]at hc;simp at hc⟩⟩;unfold HY H2;simp only[h1,h2];have a1 : -2147483648≤t.num:=Fh;have a2:t.num≤2147483648:=Fh;simp[a1,a2]
theorem JpJ {r:Rl}(h:RG r):(∀t∈r.head.args,t.kind≠1→HY (H2 t)=true∧TkOk (H2 t))∧(∀l∈r.body,∀t∈l.args,t.kind≠1→HY (H2 t)=true∧TkOk (H2 t))∧(∀l∈r.body,l.kind≠1→l.kind≠2→3≤l.kind∧l.kind≤6∧l.args.length=2)∧RBr r∧r.head.args.length≤4:=by
 obtain⟨hx,hl⟩:=h;refine⟨fun t ht hk=>Jmz (hx.w.ht t ht) (hx.tm t ht) hk,fun l hlm t ht hk=>Jmz ((hx.bd l hlm).w.tm t ht) ((hx.bd l hlm).tm t ht) hk,fun l hlm h1 h2=>?_,⟨by have:=hl.hd;omega,by have:=hl.bd;omega,fun l hlm=>by have:l.args.length≤4:=hl.ls l hlm;omega⟩,hl.hd⟩;rcases (hx.bd l hlm).w.kind with h3|h3
 ·rcases h3 with h3|h3
  ·exact absurd h3 h1
  ·exact absurd h3 h2
 ·exact⟨h3.1,h3.2.1,h3.2.2.1⟩
end
section
open Go.AE Delphi Val
variable {tab:Tab}
theorem Jnn (C:Codes tab)(I:Jda tab)(P:JdJ tab){r:Rl}{xs:List V}{sets:List Nat→Option (Nat×List (List Int))}{sty sfn tb mb:Nat}{sv tv:V}{O S:Fw}{ts:List Tk}{w:AW}{K:V→AW→Prop}(hb:SomeB r none sets)(hsl:H8 [(44,Jt,none)] sty=some (sfn,none))(hr:RlC O w r xs)(hT:TabW tb mb tv S ts w)(hst:JeY tab O w sfn sv sets)(hO:∀x,O x→x<w.next∧¬S x∧x≠tb∧x≠mb)(hts:ts.length≤60000)(hrl:Jbl r (-1)→(JbG r (-1) none sets (-1) ts).rows.length≤1000000)(h1:¬Jbl r (-1)→∀w',Frm (fun _=>False) w w'→K .nilslice w')(h2:Jbl r (-1)→∀v w' tv' S' cs S1 T1,TabW tb mb tv' S' (JbG r (-1) none sets (-1) ts).ts w'→Frm (fun x=>S x∨x=tb∨x=mb) w w'→(∀x,S' x→S x∨w.next≤x)→Rel.ListOf w.next w' v (JbG r (-1) none sets (-1) ts).rows cs S1 T1→(∀x,S1 x∨T1 x→¬S' x)→Rel.Rise (JbG r (-1) none sets (-1) ts).rows∧(∀x∈(JbG r (-1) none sets (-1) ts).rows,x.length=r.head.args.length)→K v w'): WF tab VW [.agg xs,.ptr tb 0,.iface sty sv] w K:=by
 refine HL C.Yw rfl ?_;have hxl:=hr.one;obtain⟨w1,e1,c1,r1,m1⟩:=PU w xs;have k4:w1.load w.next 0 4=some xs:=c1.all hxl.1;have hcx:V.cells (.agg xs)=xs:=rfl;refine Fz (by simp only[go_sem,HA,simprocAttr,ZC,UC,hcx,e1,k4];rfl) ?_;refine HD Ff Fe ?_;have hS:=hT.s;refine JoV C I P hb hsl rfl (hr.frm r1 fun _ _ h=>h) (hT.step0 r1) (fun R w' g hd nm K hK=>hst R w' (r1.no.tr g) hd nm K hK) (show SetQ O w1 .nilptr none from rfl) (fun x hx=>⟨by have:=(hO x hx).1;omega,(hO x hx).2⟩) hts hrl (fun hno w2 g2=>?_) fun hok v w2 tv2 S2 cs S1 T1 q1 q2 q3 q4 q5 q6=>?_
 ·refine HB 1000 Fe ?_;refine HC ⟨_,by simp only[go_sem,HA,simprocAttr,ZC];rfl,?_⟩;exact h1 hno w2 (r1.tr g2)
 ·refine HB 1000 Fe ?_;refine HC ⟨_,by simp only[go_sem,HA,simprocAttr,ZC];rfl,?_⟩;exact h2 hok v w2 tv2 S2 cs S1 T1 q1 (r1.no.tr q2) (fun x hx=>by rcases q3 x hx with h|h;exact .inl h;right;omega) (q4.weaken Fh) q5 q6
end
section
open Go.AE Delphi Val
variable {tab:Tab}
theorem JnR {r:Rl}{ts:List Tk}{M:Jbh}{dq:Option (Nat×List (List Int))}{l:List Fc}(hG:RG r)(hT:LaidT ts M l)(hts:ts.length≤60000)(hdr:∀x,dq=some x→∀r∈x.2,r.length=x.1∧∀n∈r,1≤n∧n≤(ts.length:Int))(hlen:∀nm x,(dq=some x∨HE M nm=some x)→x.1≤4∧x.2.length≤1000000):SomeB r dq (fun nm=>HE M nm):=by
 obtain⟨g1,g2,g3,g4,g5⟩:=JpJ hG;refine⟨g4,g5,g3,fun t ht hk=>(g1 t ht hk).2,fun l hl t ht hk=>⟨(g2 l hl t ht hk).2,(g2 l hl t ht hk).1⟩,fun nm x hx=>(hlen nm x (.inr hx)).1,fun nm x hx=>⟨(hlen nm x hx).2,fun r hr=>?_⟩⟩;rcases hx with hx|hx
 ·have:=hdr x hx r hr;exact⟨this.1,fun n hn=>by have:=this.2 n hn;omega⟩
 ·have:=hT.rng nm x hx r hr;exact⟨this.1,fun n hn=>by have:=this.2 n hn;omega⟩
theorem okPl_safe {r:Rl}:Jbl r (-1)↔JbZ r=true:=⟨fun h=>h.1,fun h=>⟨h,by decide,by omega,fun h0=>absurd h0 (by decide)⟩⟩
def Jj3 (sm:Nat) (Sf:List Nat→Fw) (x:Nat):Prop:=x=sm∨∃n,Sf n x
theorem JkK (C:Codes tab){B sm tb mb b5:Nat}{w0 w:AW}{S0 S O:Fw}{M:Jbh}{MV:List (List Nat×V)}{Sf:List Nat→Fw}(h:LaidS B sm tb mb b5 w0 w S0 S M MV Sf)(ho:∀x,Jj3 sm Sf x→O x)(hO:∀x,O x→x<w.next):JeY tab O w Jt (.agg [.map sm]) (fun nm=>HE M nm):=by
 intro R w' g hd nm K hK;refine Jjp C (h.lw.pm.frm g (hd _ (ho _ (.inl rfl)))) fun w2 g2=>hK w2 _ g2 ?_;have gn:=g.next;have gn2:=g2.next;show SetQ O w2 ((HE MV nm).getD .nilptr) (HE M nm);cases hg:HE M nm with
 | none=>rw[h.lw.key nm hg];rfl
 | some x =>
  obtain⟨p,hp,hs⟩:=h.lw.set nm x hg;rw[hp];show SetQ O w2 p (some x);have h1:SetQ (Sf nm) w2 p (some x):=(hs.frm g fun y hy=>hd _ (ho _ (.inr ⟨nm,hy⟩))).frm g2 fun _ _ h=>h;exact h1.mono (fun y hy=>ho _ (.inr ⟨nm,hy⟩)) fun y hy=>by have:=hO y hy;omega
theorem JpL:H8 [(44,Jt,none)] 44=some (Jt,none):=rfl
def bgT13:List Nat:=[112,40,88,41,32,58,45,32,113,40,88,41,44,32,33,114,40,88,41,46]
def JdR:Rl:=⟨⟨1,[112],[⟨1,[88],0⟩]⟩,[⟨1,[113],[⟨1,[88],0⟩]⟩,⟨2,[114],[⟨1,[88],0⟩]⟩]⟩
theorem JgI:(JaB (bgT13.take 1200)).1=[JdR]:=by decide +kernel
def JdP:Fc:=([113],[⟨3,[],5⟩])
def JdQ:Jbh:=[([113],(1,[[1]]))]
def JbX:List Tk:=[⟨3,[],5⟩]
theorem JgH:HX [] [JdP]=(JbX,JdQ):=by decide +kernel
theorem Jlo:JbZ JdR=true:=by decide +kernel
theorem bg13_some:(JbG JdR (-1) none (fun nm=>HE JdQ nm) (-1) JbX).rows=[[1]]∧(JbG JdR (-1) none (fun nm=>HE JdQ nm) (-1) JbX).ts=JbX:=by decide +kernel
theorem Jj7 (C:Codes tab)(I:Jda tab)(P:JdJ tab){aw:AW}{K:V→AW→Prop}(h:∀w,Frm (fun _=>False) aw w→K (.bool true) w):WF tab VU [] aw K:=by
 refine HL C.Yr rfl ?_;refine Fz (by simp only[go_sem,HA,simprocAttr,Yq,UA];rfl) ?_;refine HD Ff Fe ?_;refine new_ok C fun w1 ht1 r1=>?_;have hp1:eqV .ptr (.ptr (aw.next+1) 0) .nilptr=some false:=rfl;obtain⟨w2,e2,c2,r2,m2⟩:=PU w1 [V.int .i64 3,.str [],.int .i64 5];obtain⟨w3,e3,c3,r3,m3⟩:=PU w2 [V.str [113],.slice w1.next 0 1 (.known 1)];have r13:=r2.tr r3;have hov1:over [V.int .i64 0,.str [],.int .i64 0] 0 [V.int .i64 3]=some [V.int .i64 3,.str [],.int .i64 0]:=rfl;refine Fz (by simp only[go_sem,HA,simprocAttr,Uz,hp1,HI,HQ,over,HN,V.cells,FC,FD,e2,e3];rfl) ?_;refine HD Ff Fe ?_;have hfc:FcC (fun x=>x=w1.next) w3 JdP [.str [113],.slice w1.next 0 1 (.known 1)]:=⟨_,rfl,.blk rfl Fh (c2.frm r3 fun h=>h).get (.inl rfl) Fj rfl (FH _)⟩;have hF:Fcs (fun x=>x=w1.next∨x=w2.next) w3 (.slice w2.next 0 1 (.known 1)) [JdP]:=⟨[[.str [113],.slice w1.next 0 1 (.known 1)]],.blk (.inr rfl) c3.lt c3.get (.inl rfl) Fj rfl (FH _),.cons (by obtain⟨v,q1,q2⟩:=hfc;exact⟨v,q1,q2.mono fun _ h=> .inl h⟩) .nil⟩
 have hFL:FcsL [JdP]:=by
  refine⟨by simp,fun f hf=>?_,fun f hf g hg _=>?_⟩
  ·simp only[FJ,FZ,or_false]at hf;subst hf;refine⟨by decide,by decide,fun t ht=>?_⟩;simp only[JdP,FJ,FZ,or_false]at ht;subst ht;exact⟨by simp,by simp⟩
  ·simp only[FJ,FZ,or_false]at hf hg;rw[hf,hg]
 have ht3:=ht1.step0 r13;have htb:=ht1.a.lt;refine JoD C P hF hFL (fun x hx=>⟨by omega,fun h=>h,by omega,by omega⟩) ht3 Fj fun w4 sm b5 tv4 S4 MV Sf t4 L4 hsm=>?_;rw[JgH]at t4 L4;simp only at t4 L4;have n4:=L4.f.next
 have fw4:Frm (fun _=>False) aw w4:=(r1.tr r13).trans L4.f (fun _ _ h=>h) fun x hx h=>by
  rcases h with h|h|h
  ·exact h
  ·omega
  ·omega
 obtain⟨w5,s5,c5,r5,n5⟩:=PE w4 (zs:=[V.nilmap]) (vs:=[V.map sm]) rfl rfl;have hcm:V.cells (.agg [.map sm])=[V.map sm]:=rfl;refine Fz (by simp only[go_sem,HA,simprocAttr,s5,hcm,FC,FD];rfl) ?_;refine HD Ff Fe ?_;refine JlY C (s:=bgT13) (by decide) fun w6 rv T6 rs hrs q1 q2 q3=>?_;rw[JgI]at hrs;subst hrs;obtain⟨b,o,c,xs,e,hT6,hb6,hxs,a4,hp⟩:=JpK q1 (i:=0) (r:=JdR) rfl;subst e;have g46:=r5.tr q2;have n6:=g46.next;have k5:w6.load w4.next 0 1=some [.map sm]:=CB.ld (c5.frm q2 fun h=>h) 0 1 _ rfl;have a4:w6.load b o 4=some xs:=by rwa [Nat.zero_mul,KC]at a4
 refine Fz (by simp only[go_sem,HA,simprocAttr,Uy,a4,k5,FC,FD];rfl) ?_;refine HD Ff Fe ?_;have hG:RG JdR:=(Jk3 (bgT13.take 1200)).1 JdR (by rw[JgI];simp)
 have hLT:LaidT JbX JdQ [JdP]:=by
  have:=(JlV (ts:=[]) ⟨List.nodup_nil,by simp⟩ hFL (fun f hf=>by
   simp only[FJ,FZ,or_false]at hf;subst hf;intro c hc;simp only[JdP,FJ,FZ,or_false]at hc;subst hc;decide)).2
  rw[JgH]at this;exact this
 have hlen:∀(nm:List Nat) (x:Nat×List (List Int)),(none=some x∨HE JdQ nm=some x)→x.1≤4∧x.2.length≤1000000:=by
  rintro nm x (h|h)
  ·cases h
  ·unfold JdQ at h;simp only[HE]at h;split at h
   ·cases h;simp
   ·cases h
 have hsb:=JnR (dq:=none) hG hLT (by simp[JbX]) (fun x h=>by cases h) hlen;have t6:=t4.step0 g46;have L6:LaidS (w3.next+1) sm (aw.next+1) aw.next b5 w3 w6 (fun _=>False) S4 JdQ MV Sf:=⟨L4.lw.frm g46 (fun h=>h) fun _ _ _ h=>h,L4.box.frm g46 fun h=>h,L4.sd,L4.ss,L4.ne,L4.f.trans g46 (fun _ _ h=>h) fun _ _ h=>h.elim,L4.s⟩;have hsml:=L4.lw.pm.lt
 have hO:∀x,(Jj3 sm Sf x∨T6 x)→x<w6.next∧¬S4 x∧x≠aw.next+1∧x≠aw.next:=by
  rintro x ((rfl|⟨n,hn⟩)|hx)
  ·exact⟨by omega,fun hs=>(L4.ss _ hs).1 rfl,by omega,by omega⟩
  ·have h1:=L4.sd n x hn;have h2:=L4.lw.lo n x hn;exact⟨by omega,h1.1,h1.2.1,h1.2.2.1⟩
  ·have h1:=q3 x hx;exact⟨h1.2,fun hs=>by have:=(t4.s x hs).1;omega,by omega,by omega⟩
 refine Jnn (O:=fun x=>Jj3 sm Sf x∨T6 x) C I P hsb JpL (by obtain⟨v,u,e1,e2,e3⟩:=hxs;exact⟨v,u,e1,e2.mono fun _ h=> .inr h,Jcd e3 fun _ h=> .inr h⟩) t6 (JkK C L6 (fun _ h=> .inl h) fun x hx=>(hO x hx).1) hO (by simp[JbX]) (fun _=>by rw[bg13_some.1];simp) (fun hno=>absurd (okPl_safe.2 Jlo) hno) fun _ v w7 tv7 S7 cs S8 T8 t7 g7 s7 hL7 hd7 _=>?_;rw[bg13_some.2]at t7;rw[bg13_some.1]at hL7;have n7:=g7.next
 have fw7:Frm (fun _=>False) aw w7:=(fw4.tr g46).trans g7 (fun _ _ h=>h) fun x hx h=>by
  rcases h with h|h|h
  ·rcases L4.s x h with h|h
   ·exact h
   ·omega
  ·omega
  ·omega
 obtain⟨K1,K2,K3,K4⟩:=hL7;obtain⟨rv7,hcs,hr7⟩:=K2.at (i:=0) (l:=[1]) rfl;have K1r:=K1.rd;rcases K1r.inv with⟨_,h0,_⟩|⟨b7,o7,c7,rfl,hB7⟩
 ·cases h0
 have l7:w7.load b7 o7 1=some [rv7]:=hB7.cell Fj hcs;obtain⟨rb,rc,rfl,l8⟩:=JiE hr7 (i:=0) (n:=1) rfl;have l7:w7.load b7 o7 1=some [.slice rb 0 1 rc]:=l7;have l8:w7.load rb 0 1=some [.int .i64 1]:=l8;refine Fz (by simp only[go_sem,HA,simprocAttr,Ux];rfl) ?_;refine Pp ?_;refine H0 100 (by simp only[go_sem,HA,simprocAttr,l7,l8,HI,HQ,over,HN,V.cells,FC,FD];rfl) ?_;refine PD Ff Fe ?_;refine Jdy (c:=⟨3,[],5⟩) C t7 (by simp[JbX]) ⟨by simp,by simp⟩ fun w8 tv8 S9 t8 g8 s8=>?_;have n8:=g8.next;have hid:(idT JbX ⟨3,[],5⟩).1=1:=by decide
 rw[hid]
 have fw8:Frm (fun _=>False) aw w8:=fw7.trans g8 (fun _ _ h=>h) fun x hx h=>by
  rcases h with h|h|h
  ·rcases s7 x h with h|h
   ·rcases L4.s x h with h|h
    ·exact h
    ·omega
   ·omega
  ·omega
  ·omega
 have d8:∀x,(S8 x∨T8 x)→¬(S7 x∨x=aw.next+1∨x=aw.next):=fun x hx h=>by
  have hlo:w6.next≤x:=hx.elim (fun h=>(K3 x h).1) fun h=>(K4 x h).1;rcases h with h|h|h
  ·exact hd7 x hx h
  ·omega
  ·omega
 have l9:w8.load b7 o7 1=some [.slice rb 0 1 rc]:=by
  have:=K1r.frm g8 fun x hx=>d8 x (.inl hx);rcases this.inv with⟨h0,_⟩|⟨b',o',c',e',hB'⟩
  ·cases h0
  ·cases e';exact hB'.cell Fj hcs
 have l10:w8.load rb 0 1=some [.int .i64 1]:=by
  obtain⟨rb',rc',e',q⟩:=JiE (hr7.frm g8 fun x hx=>d8 x (.inr hx)) (i:=0) (n:=1) rfl;cases e';exact q
 refine H0 100 Fe ?_;refine Pr ⟨(show HW _ _ [(13,18),(15,18)]from by simp only[go_sem,HA,simprocAttr,HW,chk,List.reverse_cons,List.reverse_nil,Pk,Pv,Pt,Pu,List.getElem?_nil,false_or,or_true,or_false,exists_eq',FP,Prod.mk.injEq,Bool.true_eq_false,FM,and_true,true_and,implies_true,l7,l8,l9,l10]),?_⟩;refine HB 1000 Fe ?_;refine HC ⟨_,by simp only[go_sem,HA,simprocAttr,Yq];rfl,?_⟩;exact h w8 fw8
end
section
open Go.AE Delphi Val
variable {tab:Tab}
end
section
open Go.AE Delphi Val
end
section
open Go.AE Delphi Val
variable {tab:Tab}
def Jeh (t:Tk):Tm:=⟨t.k.toNat,t.s,t.n⟩
theorem Jmy {t:Tk}(h:HY t=true):tmC (Jeh t)=tkC t∧H2 (Jeh t)=t∧(Jeh t).kind≠1:=by
 have hk:t.k=3∨t.k=2:=by
  unfold HY at h;split at h
  ·exact .inl ‹_›
  ·split at h
   ·exact .inr ‹_›
   ·cases h
 obtain⟨k,s,n⟩:=t;rcases hk with hk|hk<;>simp only at hk<;>subst hk<;>exact⟨rfl,rfl,by simp only[Jeh];decide⟩
abbrev JhK (K:V→AW→Prop):Fr→AW→Prop:=fun fr' aw'=>∃vs,PV fr' aw' Jj.results=some vs∧K (Ph vs) aw'
theorem JlT (C:Codes tab){tb mb vb lb pb qb kk:Nat}{tv av:V}{S O:Fw}{ts:List Tk}{M:Vm}{A B:Tm}{p q:Tk}{sure:Bool}{w0 w:AW}{f:Fr}(hk:3≤kk∧kk≤6)(hT:TabW tb mb tv S ts w)(hM:SM w vb M)(hL:CB w lb [.int .i64 (Int.ofNat kk),.str [],av])(hA:Rd O w av 3 2 (Pl [A,B]))(hO:∀x,O x→x<w.next)(hp:CB w pb (tkC p))(hq:CB w qb (tkC q))(hts:ts.length≤1000)(hMv:∀n,(Pb M n).natAbs≤1000)(h1:sure=true→H6 M ts A=some p∧H6 M ts B=some q)(h2:sure=false→H6 M ts A=none∨H6 M ts B=none)(hw:Frm (fun _=>False) w0 w)(f0:f.get 0=some (.int .i64 (Int.ofNat kk)))(f18:f.get 18=some (.ptr tb 0))(f19:f.get 19=some (.map vb))(f20:f.get 20=some (.ptr lb 0))(f21:f.get 21=some (.ptr pb 0))(f22:f.get 22=some (.ptr qb 0))(f23:f.get 23=some (.bool sure)): WS tab [.code ZB] f w (JhK fun v aw'=>v = .bool true∧Frm (fun _=>False) w0 aw'):=by
 have l3:w.load lb 0 3=some [.int .i64 (Int.ofNat kk),.str [],av]:=hL.all rfl;refine Fz (by simp only[go_sem,HA,simprocAttr,ZB,f18,f19,f20,l3];rfl) ?_;refine HD Ff Fe ?_;refine Jh6 (nm:=[]) (a:=A) (b:=B) C hT hM ⟨av,rfl,hA⟩ hO hk Fh (fun n=>by have:=hMv n;omega) fun w2 g2=>?_;have p3:w2.load pb 0 3=some (tkC p):=(hp.frm g2 fun h=>h).all rfl;have q3:w2.load qb 0 3=some (tkC q):=(hq.frm g2 fun h=>h).all rfl;cases sure with
 | false =>
  have e:Jc2 kk (H6 M ts A) (H6 M ts B)=(false,false):=by
   rcases h2 rfl with h|h
   ·rw[h];rfl
   ·rw[h];cases H6 M ts A<;>rfl
  rw[e];have hb:eqV .bool (.bool false) (.bool false)=some true:=rfl;refine Fz (by simp only[go_sem,HA,simprocAttr,WJ,f23,hb];rfl) ?_;refine HC ⟨_,by simp only[go_sem,HA,simprocAttr,Jj];rfl,?_⟩;exact⟨rfl,hw.tr g2⟩
 | true =>
  obtain⟨e1,e2⟩:=h1 rfl;have e:Jc2 kk (H6 M ts A) (H6 M ts B)=(P4 kk p q,true):=by rw[e1,e2];rfl
  rw[e];have hb:eqV .bool (.bool true) (.bool true)=some true:=rfl;refine Fz (by simp only[go_sem,HA,simprocAttr,WJ,f0,f21,f22,f23,hb,p3,q3];rfl) ?_;refine HD Ff Fe ?_;refine Jmg C fun w3 g3=>?_;have hb2:eqV .bool (.bool (P4 kk p q)) (.bool (P4 kk p q))=some true:=by cases P4 kk p q<;>rfl
  refine Fz (by simp only[go_sem,HA,simprocAttr,hb2,f23];rfl) ?_;refine HC ⟨_,by simp only[go_sem,HA,simprocAttr,Jj];rfl,?_⟩;exact⟨rfl,(hw.tr g2).tr g3⟩
def varX:Tm:=⟨1,[88],0⟩
def varY:Tm:=⟨1,[89],0⟩
theorem Jpx (C:Codes tab) {tb mb vb lb sb pb qb xb yb kk:Nat} {tv:V} {S:Nat→Prop} {ts:List Tk} {M:Vm} {a b x y:Tk} {va vb' known:Bool} {w0 w:AW} {f:Fr} (hk:3≤kk∧kk≤6)
  (ha:HY a=true) (hb:HY b=true) (hT:TabW tb mb tv S ts w) (hM:SM w vb M) (hL:CB w lb [.int .i64 (Int.ofNat kk),.str [],.slice sb 0 2 (.known 2)]) (hA:CB w sb (tkC a++tkC b)) (hp:CB w pb (tkC a)) (hq:CB w qb (tkC b)) (hx:CB w xb (tkC x)) (hy:CB w yb (tkC y)) (hts:ts.length≤1000) (hMv:∀n,(Pb M n).natAbs≤1000)
  (hX:H6 M ts varX=if known then some x else none) (hY:H6 M ts varY=some y) (hw:Frm (fun _=>False) w0 w) (hn0:w0.next≤sb∧w0.next≤pb∧w0.next≤qb)
  (hd:sb≠lb∧sb≠pb∧sb≠qb∧sb≠xb∧sb≠yb∧pb≠qb∧pb≠lb∧qb≠lb∧pb≠yb∧tb≠sb∧tb≠pb∧tb≠qb∧mb≠sb∧mb≠pb∧mb≠qb∧vb≠sb∧vb≠pb∧vb≠qb) (hS:∀z,S z→z≠sb∧z≠pb∧z≠qb)
  (f0:f.get 0=some (.int .i64 (Int.ofNat kk))) (f5:f.get 5=some (.bool va)) (f6:f.get 6=some (.bool vb')) (f7:f.get 7=some (.bool known)) (f11:f.get 11=some (.ptr xb 0)) (f12:f.get 12=some (.ptr yb 0)) (f18:f.get 18=some (.ptr tb 0)) (f19:f.get 19=some (.map vb)) (f20:f.get 20=some (.ptr lb 0)) (f21:f.get 21=some (.ptr pb 0)) (f22:f.get 22=some (.ptr qb 0)) (f23:f.get 23=some (.bool true)) :
  WS tab [.code (.seq (.seq (.region [⟨some 73,none,.mov (.tmp 5)⟩]) (.cond (.tmp 73) WI .skip)) (.seq (.seq (.region [⟨some 80,none,.mov (.tmp 6)⟩]) (.cond (.tmp 80) Yn .skip)) ZB))] f w (JhK fun v aw'=>v = .bool true∧Frm (fun _=>False) w0 aw'):=by
 obtain ⟨d1,d2,d3,d4,d5,d6,d7,d8,d9,d10,d11,d12,d13,d14,d15,d16,d17,d18⟩:=hd
 obtain ⟨ma,ta,na⟩:=Jmy ha
 obtain ⟨mB,tB,nB⟩:=Jmy hb
 have wa:H6 M ts (Jeh a)=some a:=by unfold H6;rw [if_neg na,ta]
 have wb:H6 M ts (Jeh b)=some b:=by unfold H6;rw [if_neg nB,tB]
 have second:∀(f:Fr) (w:AW) (A:Tm) (p:Tk) (sure:Bool),TabW tb mb tv S ts w→SM w vb M→CB w lb [.int .i64 (Int.ofNat kk),.str [],.slice sb 0 2 (.known 2)]→CB w sb (tmC A++tkC b)→CB w pb (tkC p)→CB w qb (tkC b)→CB w yb (tkC y)→Frm (fun _=>False) w0 w→
   (sure=true→H6 M ts A=some p)→(sure=false→H6 M ts A=none)→f.get 0=some (.int .i64 (Int.ofNat kk))→f.get 6=some (.bool vb')→f.get 12=some (.ptr yb 0)→f.get 18=some (.ptr tb 0)→f.get 19=some (.map vb)→f.get 20=some (.ptr lb 0)→f.get 21=some (.ptr pb 0)→f.get 22=some (.ptr qb 0)→f.get 23=some (.bool sure)→
   WS tab [.code (.seq (.seq (.region [⟨some 80,none,.mov (.tmp 6)⟩]) (.cond (.tmp 80) Yn .skip)) ZB)] f w (JhK fun v aw'=>v = .bool true∧Frm (fun _=>False) w0 aw'):=by
  intro f w A p sure hT hM hL hA hp hq hy hw h1 h2 f0 f6 f12 f18 f19 f20 f21 f22 f23
  have hlt:=hA.lt
  cases vb' with
  | false =>
   refine HF 7 (by simp only [go_sem,HA,simprocAttr,f6];rfl) ?_
   refine JlT (A:=A) (B:=Jeh b) (p:=p) (q:=b) (O:=fun z=>z=sb) C hk hT hM hL (.blk rfl hA.lt hA.get (.inl rfl) (by simp [tmC,tkC]) ?_ (Nat.le_refl _)) (fun z hz=>by omega) hp hq hts hMv (fun h=>⟨h1 h,wb⟩) (fun h=> .inl (h2 h)) hw (by simp only [go_sem,HA,simprocAttr,f0]<;>rfl) (by simp only [go_sem,HA,simprocAttr,f18]<;>rfl) (by simp only [go_sem,HA,simprocAttr,f19]<;>rfl) (by simp only [go_sem,HA,simprocAttr,f20]<;>rfl) (by simp only [go_sem,HA,simprocAttr,f21]<;>rfl) (by simp only [go_sem,HA,simprocAttr,f22]<;>rfl) (by simp only [go_sem,HA,simprocAttr,f23]<;>rfl)
   show tmC A++(tmC (Jeh b)++[])=_
   rw [List.append_nil,mB];rfl
  | true =>
   have l2:w.load lb 2 1=some [.slice sb 0 2 (.known 2)]:=CB.ld hL 2 1 _ rfl
   have ly:w.load yb 0 3=some (tkC y):=hy.all rfl
   have s1:w.store sb 3 [.int .i64 1,.str [89],.int .i64 0]=some (w.put sb (tmC A++tmC varY)):=JcR hA rfl rfl
   have g1:Frm (fun z=>z=sb) w (w.put sb (tmC A++tmC varY)):=HO
   have c1:=H3 (l:=tmC A++tmC varY) hA.lt
   obtain ⟨w1,e1⟩:∃w1,w1=w.put sb (tmC A++tmC varY):=⟨_,rfl⟩
   rw [←e1] at s1 g1 c1
   have ly1:w1.load yb 0 3=some (tkC y):=(hy.frm g1 fun e=>d5 e.symm).all rfl
   have hq1:=hq.frm g1 fun e=>d3 e.symm
   have s2:w1.store qb 0 (tkC y)=some (w1.put qb (tkC y)):=hq1.setAll rfl rfl
   have g2:Frm (fun z=>z=qb) w1 (w1.put qb (tkC y)):=HO
   have c2:=H3 (l:=tkC y) hq1.lt
   obtain ⟨w2,e2⟩:∃w2,w2=w1.put qb (tkC y):=⟨_,rfl⟩
   rw [←e2] at s2 g2 c2
   have g02:Frm (fun _=>False) w0 w2:=(hw.trans g1 (fun _ _ h=>h) fun z hz e=>by omega).trans g2 (fun _ _ h=>h) fun z hz e=>by omega
   refine HF 18 (by simp only [go_sem,HA,simprocAttr,Yn,f6,f12,f20,f22,l2,HI,HQ,over,HN,V.cells,List.length_cons,List.length_nil,s1,ly1,Jbg,s2];rfl) ?_
   refine JlT (A:=A) (B:=varY) (p:=p) (q:=y) (O:=fun z=>z=sb) C hk ((hT.step g1 d10 d13 fun z hz=>(hS z hz).1).step g2 d12 d15 fun z hz=>(hS z hz).2.2) ((hM.frm g1 d16).frm g2 d18) ((hL.frm g1 fun e=>d1 e.symm).frm g2 fun e=>d8 e.symm) (.blk rfl (c1.frm g2 d3).lt (c1.frm g2 d3).get (.inl rfl) (by simp [tmC]) ?_ (Nat.le_refl _)) (fun z hz=>by have:=(c1.frm g2 d3).lt;omega) ((hp.frm g1 fun e=>d2 e.symm).frm g2 d6) c2 hts hMv (fun h=>⟨h1 h,hY⟩) (fun h=> .inl (h2 h)) g02 (by simp only [go_sem,HA,simprocAttr,f0]<;>rfl) (by simp only [go_sem,HA,simprocAttr,f18]<;>rfl) (by simp only [go_sem,HA,simprocAttr,f19]<;>rfl) (by simp only [go_sem,HA,simprocAttr,f20]<;>rfl) (by simp only [go_sem,HA,simprocAttr,f21]<;>rfl) (by simp only [go_sem,HA,simprocAttr,f22]<;>rfl) (by simp only [go_sem,HA,simprocAttr,f23]<;>rfl)
   show tmC A++(tmC varY++[])=_
   rw [List.append_nil];rfl
 cases va with
 | false =>
  refine HF 7 (by simp only [go_sem,HA,simprocAttr,f5];rfl) ?_
  refine second _ w (Jeh a) a true hT hM hL (by rw [ma];exact hA) hp hq hy hw (fun _=>wa) (fun h=>by cases h) (by simp only [go_sem,HA,simprocAttr,f0]<;>rfl) (by simp only [go_sem,HA,simprocAttr,f6]<;>rfl) (by simp only [go_sem,HA,simprocAttr,f12]<;>rfl) (by simp only [go_sem,HA,simprocAttr,f18]<;>rfl) (by simp only [go_sem,HA,simprocAttr,f19]<;>rfl) (by simp only [go_sem,HA,simprocAttr,f20]<;>rfl) (by simp only [go_sem,HA,simprocAttr,f21]<;>rfl) (by simp only [go_sem,HA,simprocAttr,f22]<;>rfl) (by simp only [go_sem,HA,simprocAttr,f23]<;>rfl)
 | true =>
  have hlt:=hA.lt
  have l2:w.load lb 2 1=some [.slice sb 0 2 (.known 2)]:=CB.ld hL 2 1 _ rfl
  have s1:w.store sb 0 [.int .i64 1,.str [88],.int .i64 0]=some (w.put sb (tmC varX++tkC b)):=JcR hA rfl rfl
  have g1:Frm (fun z=>z=sb) w (w.put sb (tmC varX++tkC b)):=HO
  have c1:=H3 (l:=tmC varX++tkC b) hA.lt
  obtain ⟨w1,e1⟩:∃w1,w1=w.put sb (tmC varX++tkC b):=⟨_,rfl⟩
  rw [←e1] at s1 g1 c1
  have lx1:w1.load xb 0 3=some (tkC x):=(hx.frm g1 fun e=>d4 e.symm).all rfl
  have hp1:=hp.frm g1 fun e=>d2 e.symm
  have s2:w1.store pb 0 (tkC x)=some (w1.put pb (tkC x)):=hp1.setAll rfl rfl
  have g2:Frm (fun z=>z=pb) w1 (w1.put pb (tkC x)):=HO
  have c2:=H3 (l:=tkC x) hp1.lt
  obtain ⟨w2,e2⟩:∃w2,w2=w1.put pb (tkC x):=⟨_,rfl⟩
  rw [←e2] at s2 g2 c2
  have g02:Frm (fun _=>False) w0 w2:=(hw.trans g1 (fun _ _ h=>h) fun z hz e=>by omega).trans g2 (fun _ _ h=>h) fun z hz e=>by omega
  refine HF 23 (by simp only [go_sem,HA,simprocAttr,WI,f5,f7,f11,f20,f21,l2,HI,HQ,over,HN,V.cells,List.length_cons,List.length_nil,s1,lx1,Jbg,s2];rfl) ?_
  refine second _ w2 varX x known ((hT.step g1 d10 d13 fun z hz=>(hS z hz).1).step g2 d11 d14 fun z hz=>(hS z hz).2.1) ((hM.frm g1 d16).frm g2 d17) ((hL.frm g1 fun e=>d1 e.symm).frm g2 fun e=>d7 e.symm) (c1.frm g2 d2) c2 ((hq.frm g1 fun e=>d3 e.symm).frm g2 fun e=>d6 e.symm) ((hy.frm g1 fun e=>d5 e.symm).frm g2 fun e=>d9 e.symm) g02 (fun h=>by rw [hX,if_pos h]) (fun h=>by rw [hX,if_neg (by rw [h];simp)]) (by simp only [go_sem,HA,simprocAttr,f0]<;>rfl) (by simp only [go_sem,HA,simprocAttr,f6]<;>rfl) (by simp only [go_sem,HA,simprocAttr,f12]<;>rfl) (by simp only [go_sem,HA,simprocAttr,f18]<;>rfl) (by simp only [go_sem,HA,simprocAttr,f19]<;>rfl) (by simp only [go_sem,HA,simprocAttr,f20]<;>rfl) (by simp only [go_sem,HA,simprocAttr,f21]<;>rfl) (by simp only [go_sem,HA,simprocAttr,f22]<;>rfl) (by simp only [go_sem,HA,simprocAttr,f7]<;>rfl)
end
section
open Go.AE Delphi Val
variable {tab:Tab}
variable {ts:List Tk}
theorem Jh7 (hg:TsGood ts){c:Tk}(hm:HY c=true):∃y,(idT ts c).2=ts++y∧TsGood (idT ts c).2∧(idT ts c).2.length≤ts.length+1∧1≤(idT ts c).1∧(idT ts c).1≤(idT ts c).2.length∧Jag (idT ts c).2 (Int.ofNat (idT ts c).1)=c:=by
 obtain⟨y,h1,h2,h3,h4⟩:=Jh8 (ts:=ts) hm;exact⟨y,h1,hg.id c,Je4 ts c,h2,h3,h4⟩
variable {known:Bool}
theorem JlU (C:Codes tab){tb mb vb ab bb xb yb kk:Nat}{tv:V}{S:Fw}{M:Vm}{a b x y:Tk}{va vb':Bool}{w0 w:AW}{f:Fr}(hk:3≤kk∧kk≤6)(ha:HY a=true)(hb:HY b=true)(hT:TabW tb mb tv S ts w)(hM:SM w vb M)(hab:CB w ab (tkC a))(hbb:CB w bb (tkC b))(hx:CB w xb (tkC x))(hy:CB w yb (tkC y))(hts:ts.length≤1000)(hMv:∀n,(Pb M n).natAbs≤1000)(hX:H6 M ts varX=if known then some x else none)(hY:H6 M ts varY=some y)(hw:Frm (fun _=>False) w0 w)(f0:f.get 0=some (.int .i64 (Int.ofNat kk)))(f5:f.get 5=some (.bool va))(f6:f.get 6=some (.bool vb'))(f7:f.get 7=some (.bool known))(f9:f.get 9=some (.ptr ab 0))(f10:f.get 10=some (.ptr bb 0))(f11:f.get 11=some (.ptr xb 0))(f12:f.get 12=some (.ptr yb 0))(f18:f.get 18=some (.ptr tb 0))(f19:f.get 19=some (.map vb)): WS tab [.code WK] f w (JhK fun v aw'=>v = .bool true∧Frm (fun _=>False) w0 aw'):=by
 have la:w.load ab 0 3=some (tkC a):=hab.all rfl;have lb:w.load bb 0 3=some (tkC b):=hbb.all rfl;obtain⟨w1,e1,c1,r1,m1⟩:=PU w (tkC a++tkC b);obtain⟨w2,s2,c2,r2,n2⟩:=PE w1 (zs:=[V.int .i64 0,V.str [],V.nilslice]) (vs:=[.int .i64 (Int.ofNat kk),.str [],.slice w.next 0 2 (.known 2)]) rfl rfl;have hov1:over [V.int .i64 0,V.str [],V.int .i64 0,V.int .i64 0,V.str [],V.int .i64 0] 0 (tkC a)=some [.int .i64 a.k,.str a.s,.int .i64 a.n,V.int .i64 0,V.str [],V.int .i64 0]:=rfl;have hov2:over [V.int .i64 a.k,.str a.s,.int .i64 a.n,V.int .i64 0,V.str [],V.int .i64 0] 3 (tkC b)=some [.int .i64 a.k,.str a.s,.int .i64 a.n,.int .i64 b.k,.str b.s,.int .i64 b.n]:=rfl;have e1:w.fresh [V.int .i64 a.k,.str a.s,.int .i64 a.n,.int .i64 b.k,.str b.s,.int .i64 b.n]=w1:=e1;have hca:V.cells (.agg (tkC a))=tkC a:=rfl;have hcb:V.cells (.agg (tkC b))=tkC b:=rfl;have hov3:over [V.int .i64 0,V.str [],V.nilslice] 0 [V.int .i64 (Int.ofNat kk)]=some [.int .i64 (Int.ofNat kk),.str [],.nilslice]:=rfl;have hov4:over [V.int .i64 (Int.ofNat kk),.str [],.nilslice] 2 [V.slice w.next 0 2 (.known 2)]=some [.int .i64 (Int.ofNat kk),.str [],.slice w.next 0 2 (.known 2)]:=rfl;have r02:=r1.tr r2;have la2:w2.load ab 0 3=some (tkC a):=(hab.frm r02 fun h=>h).all rfl;have lb2:w2.load bb 0 3=some (tkC b):=(hbb.frm r02 fun h=>h).all rfl;have hci:V.cells (.int .i64 (Int.ofNat kk))=[.int .i64 (Int.ofNat kk)]:=rfl;have hcs:V.cells (.slice w.next 0 2 (.known 2))=[.slice w.next 0 2 (.known 2)]:=rfl;have hcg:V.cells (.agg [.int .i64 (Int.ofNat kk),.str [],.slice w.next 0 2 (.known 2)])=[.int .i64 (Int.ofNat kk),.str [],.slice w.next 0 2 (.known 2)]:=rfl;refine Fz (by simp only[go_sem,HA,simprocAttr,WK,f0,f9,f10,la,lb,HI,HQ,hca,hcb,hov1,hov2,hov3,hov4,hci,hcs,hcg,Jbg,FC,FD,e1,s2,Uv];rfl) ?_;obtain⟨w3,e3,c3,r3,m3⟩:=PU w2 [V.int .i64 0,V.str [],V.int .i64 0];obtain⟨w4,e4,c4,r4,m4⟩:=PU w3 [V.int .i64 0,V.str [],V.int .i64 0];have c3:=c3.frm r4 fun h=>h;have s5:w4.store w2.next 0 (tkC a)=some (w4.put w2.next (tkC a)):=c3.setAll rfl rfl;have g5:Frm (fun z=>z=w2.next) w4 (w4.put w2.next (tkC a)):=HO;have c5:=H3 (l:=tkC a) c3.lt;have c4:=c4.frm g5 Fh;obtain⟨w5,e5⟩:∃w5,w5=w4.put w2.next (tkC a):=⟨_,rfl⟩;have hn5:w5.next=w4.next:=by rw[e5];rfl
 rw[←e5]at s5 g5 c5 c4;have s6:w5.store w3.next 0 (tkC b)=some (w5.put w3.next (tkC b)):=c4.setAll rfl rfl;have g6:Frm (fun z=>z=w3.next) w5 (w5.put w3.next (tkC b)):=HO;have c6:=H3 (l:=tkC b) c4.lt;have c5:=c5.frm g6 Fh;obtain⟨w6,e6⟩:∃w6,w6=w5.put w3.next (tkC b):=⟨_,rfl⟩;have hn6:w6.next=w5.next:=by rw[e6];rfl
 rw[←e6]at s6 g6 c6 c5;have la3:w3.load ab 0 3=some (tkC a):=((hab.frm r02 fun h=>h).frm r3 fun h=>h).all rfl;have lb3:w3.load bb 0 3=some (tkC b):=((hbb.frm r02 fun h=>h).frm r3 fun h=>h).all rfl;have r04:=(r02.tr r3).tr r4;have la4:w4.load ab 0 3=some (tkC a):=(hab.frm r04 fun h=>h).all rfl;have lb4:w4.load bb 0 3=some (tkC b):=(hbb.frm r04 fun h=>h).all rfl;have hbl:=hbb.lt;have hal:=hab.lt;have n02:=r02.next;have lb5:w5.load bb 0 3=some (tkC b):=((hbb.frm r04 fun h=>h).frm g5 Fh).all rfl;refine Pp ?_;refine H0 100 (by simp only[go_sem,HA,simprocAttr,f9,f10,la2,lb2,e3,e4,Jbg,s5,s6];rfl) ?_;refine Pr ⟨(show HW _ _ [(0,2),(0,3),(1,2),(1,3),(1,4)]from by simp only[go_sem,HA,simprocAttr,HW,chk,List.reverse_cons,List.reverse_nil,Pk,Pv,Pt,Pu,List.getElem?_nil,false_or,or_true,or_false,exists_eq',FP,Prod.mk.injEq,Bool.true_eq_false,FM,and_true,true_and,implies_true,f9,f10,la2,la3,la4,lb2,lb3,lb4,lb5]),?_⟩;have g46:Frm (fun _=>False) w w6:=(r04.trans g5 (fun _ _ h=>h) fun z hz e=>by have:=r3.next;have:=r2.next;have:=r1.next;omega).trans g6 (fun _ _ h=>h) fun z hz e=>by have:=r3.next;have:=r2.next;have:=r1.next;omega
 have r26:Frm (fun _=>False) w2 w6:=((r3.tr r4).trans g5 (fun _ _ h=>h) fun z hz e=>by omega).trans g6 (fun _ _ h=>h) fun z hz e=>by omega
 have hxl:=hx.lt;have hyl:=hy.lt;have htb:=hT.a.lt;have hmb:=hT.m.lt;have hvb:=hM.lt;have hSS:=hT.s;have gw:=hw.next;have nn1:=r1.next;have nn3:=r3.next;refine Jpx (a:=a) (b:=b) (x:=x) (y:=y) (sb:=w.next) (lb:=w1.next) (pb:=w2.next) (qb:=w3.next) C hk ha hb (hT.step0 g46) (hM.frm g46 fun h=>h) (c2.frm r26 fun h=>h) ((c1.frm r2 fun h=>h).frm r26 fun h=>h) c5 c6 (hx.frm g46 fun h=>h) (hy.frm g46 fun h=>h) hts hMv hX hY (hw.tr g46) ⟨by omega,by omega,by omega⟩ ⟨by omega,by omega,by omega,by omega,by omega,by omega,by omega,by omega,by omega,by omega,by omega,by omega,by omega,by omega,by omega,by omega,by omega,by omega⟩ (fun z hz=>by have:=(hSS z hz).1;exact⟨by omega,by omega,by omega⟩) (Fg f0) (Fg f5) (Fg f6) (Fg f7) (Fg f11) (Fg f12) (Fg f18) (Fg f19) Fb Fb Fb Fb
theorem Jhg (C:Codes tab)(I:Jda tab)(P:JdJ tab){k:Int}{a b x y:Tk}{va vb:Bool}{aw:AW}(ha:TkOk a)(hb:TkOk b)(hx:TkOk x)(hy:TkOk y): WF tab Hq [.int .i64 k,.agg (tkC a),.agg (tkC b),.agg (tkC x),.agg (tkC y),.bool va,.bool vb,.bool known] aw (fun v aw'=>v = .bool true∧Frm (fun _=>False) aw aw'):=by
 refine HL C.Yp rfl ?_;obtain⟨w1,e1,c1,r1,m1⟩:=PU aw (tkC a);obtain⟨w2,e2,c2,r2,m2⟩:=PU w1 (tkC b);obtain⟨w3,e3,c3,r3,m3⟩:=PU w2 (tkC x);obtain⟨w4,e4,c4,r4,m4⟩:=PU w3 (tkC y);have hca:V.cells (.agg (tkC a))=tkC a:=rfl;have hcb:V.cells (.agg (tkC b))=tkC b:=rfl;have hcx:V.cells (.agg (tkC x))=tkC x:=rfl;have hcy:V.cells (.agg (tkC y))=tkC y:=rfl;have r04:=((r1.tr r2).tr r3).tr r4;have c1:=c1.frm ((r2.tr r3).tr r4) fun h=>h;have c2:=c2.frm (r3.tr r4) fun h=>h;have c3:=c3.frm r4 fun h=>h;refine Fz (by simp only[go_sem,HA,simprocAttr,Jj,hca,hcb,hcx,hcy,e1,e2,e3,e4];rfl) ?_;refine HD Ff Fe ?_;refine Jj7 C I P fun w5 r5=>?_;have f05:=r04.tr r5;have stay:∀{w:AW},Frm (fun _=>False) w5 w→CB w aw.next (tkC a)∧CB w w1.next (tkC b)∧CB w w2.next (tkC x)∧CB w w3.next (tkC y):=fun g=>⟨(c1.frm r5 fun h=>h).frm g fun h=>h,(c2.frm r5 fun h=>h).frm g fun h=>h,(c3.frm r5 fun h=>h).frm g fun h=>h,(c4.frm r5 fun h=>h).frm g fun h=>h⟩;have out:∀{w:AW},Frm (fun _=>False) w5 w→(fun (v:V) (aw':AW)=>v = .bool true∧Frm (fun _=>False) aw aw') (.bool true) w:=fun g=>⟨rfl,f05.tr g⟩;by_cases hk3:k<3
 ·refine Fz (by simp only[go_sem,HA,simprocAttr,Yo,hk3,JY];rfl) ?_;refine HC ⟨_,by simp only[go_sem,HA,simprocAttr,Jj];rfl,?_⟩;exact out (Frm.refl _)
 by_cases hk6:k>6
 ·refine Fz (by simp only[go_sem,HA,simprocAttr,Yo,hk3,hk6,JY];rfl) ?_;refine HC ⟨_,by simp only[go_sem,HA,simprocAttr,Jj];rfl,?_⟩;exact out (Frm.refl _)
 obtain⟨s1,s2,s3,s4⟩:=stay (Frm.refl w5);have l1:w5.load aw.next 0 3=some (tkC a):=s1.all rfl;refine Fz (by simp only[go_sem,HA,simprocAttr,Yo,hk3,hk6,l1];rfl) ?_;refine HD Ff Fe ?_;refine JcM C ha fun w6 g6=>?_;cases hma:HY a with
 | false =>
  refine Fz (by simp only[go_sem,HA,simprocAttr,JY];rfl) ?_;refine HC ⟨_,by simp only[go_sem,HA,simprocAttr,Jj];rfl,?_⟩;exact out g6
 | true =>
 obtain⟨s1,s2,s3,s4⟩:=stay g6;have l2:w6.load w1.next 0 3=some (tkC b):=s2.all rfl;refine Fz (by simp only[go_sem,HA,simprocAttr,l2];rfl) ?_;refine HD Ff Fe ?_;refine JcM C hb fun w7 g7=>?_;have g57:=g6.tr g7;cases hmb:HY b with
 | false =>
  refine Fz (by simp only[go_sem,HA,simprocAttr,JY];rfl) ?_;refine HC ⟨_,by simp only[go_sem,HA,simprocAttr,Jj];rfl,?_⟩;exact out g57
 | true =>
 obtain⟨s1,s2,s3,s4⟩:=stay g57;have l3:w7.load w2.next 0 3=some (tkC x):=s3.all rfl;refine Fz (by simp only[go_sem,HA,simprocAttr,l3];rfl) ?_;refine HD Ff Fe ?_;refine JcM C hx fun w8 g8=>?_;have g58:=g57.tr g8;cases hmx:HY x with
 | false =>
  refine Fz (by simp only[go_sem,HA,simprocAttr,JY];rfl) ?_;refine HC ⟨_,by simp only[go_sem,HA,simprocAttr,Jj];rfl,?_⟩;exact out g58
 | true =>
 obtain⟨s1,s2,s3,s4⟩:=stay g58;have l4:w8.load w3.next 0 3=some (tkC y):=s4.all rfl;refine Fz (by simp only[go_sem,HA,simprocAttr,l4];rfl) ?_;refine HD Ff Fe ?_;refine JcM C hy fun w9 g9=>?_;have g59:=g58.tr g9;cases hmy:HY y with
 | false =>
  refine Fz (by simp only[go_sem,HA,simprocAttr,JY];rfl) ?_;refine HC ⟨_,by simp only[go_sem,HA,simprocAttr,Jj];rfl,?_⟩;exact out g59
 | true =>
 refine HB 1000 Fe ?_;refine HD Ff Fe ?_;refine new_ok C fun w10 ht10 g10=>?_;have g510:=g59.tr g10;obtain⟨s1,s2,s3,s4⟩:=stay g510;have htb:=ht10.a.lt;have cm:SM (w10.new (.map [] 0)) w10.next ([]:Vm):=MB.new w10;have fm:Frm (fun _=>False) w10 (w10.new (.map [] 0)):=Ja4 w10;have nm1:(w10.new (.map [] 0)).next=w10.next+1:=rfl;generalize hw11:w10.new (.map [] 0)=w11 at cm fm nm1;have l5:w11.load w3.next 0 3=some (tkC y):=(s4.frm fm fun h=>h).all rfl;refine Fz (by simp only[go_sem,HA,simprocAttr,Uw,hw11,l5];rfl) ?_;refine HD Ff Fe ?_;obtain⟨y1,i1,i2,i3,i4,i5,i6⟩:=Jh7 (ts:=[]) ⟨List.nodup_nil,by simp⟩ hmy;refine Jdy (c:=y) C (ht10.step0 fm) Fj hy fun w12 tv12 S12 t12 g12 h12=>?_;have hn12:=g12.next
 have cm:=cm.frm g12 (fun h=>by
  rcases h with h|h|h
  ·exact h
  ·omega
  ·omega)
 obtain⟨w13,p1,p2,p3,p4⟩:=cm.put Px [89] (Int.ofNat (idT [] y).1);have hS12:∀z,S12 z→w11.next≤z∧z<w12.next:=fun z hz=>⟨by rcases h12 z hz with h|h;exact h.elim;exact h,(t12.s z hz).1⟩;have t13:TabW (w9.next+1) w9.next tv12 S12 (idT [] y).2 w13:=t12.step p3 Fh Fh fun z hz e=>by have:=(hS12 z hz).1;omega
 have f1113:Frm (fun z=>z=w9.next+1∨z=w9.next∨z=w10.next) w11 w13:=g12.trans p3 (fun z hz h=>by rcases h with h|h|h;exact h.elim;exact .inl h;exact .inr (.inl h)) fun z hz h=> .inr (.inr h)
 have f513:Frm (fun _=>False) w5 w13:=(g510.tr fm).trans f1113 (fun _ _ h=>h) fun z hz h=>by
  have:=g59.next;rcases h with h|h|h
  ·omega
  ·omega
  ·have:=g510.next;omega
 have kNat:∃kk:Nat,k=Int.ofNat kk:=⟨k.toNat,by show k=((k.toNat:Nat):Int);omega⟩;obtain⟨kk,rfl⟩:=kNat
 have hkk:3≤kk∧kk≤6:=by
  have h1:¬((kk:Int)<3):=hk3;have h2:¬((kk:Int)>6):=hk6;omega
 have hMY:∀(M:Vm),HE M [89]=some (Int.ofNat (idT [] y).1)→∀z,H6 M ((idT [] y).2++z) varY=some y:=by
  intro M h z;unfold H6;have e:varY.kind=1:=rfl;rw[if_pos e];show (HE M [89]).map _=_;rw[h];show some (Jag _ _)=_;rw[Jcz (by show (1:Int)≤((_:Nat):Int);omega) (by show ((_:Nat):Int)≤_;omega),i6]
 cases known with
 | false =>
  obtain⟨s1,s2,s3,s4⟩:=stay f513;refine HF 11 (by simp only[go_sem,HA,simprocAttr,p1];rfl) ?_;refine JlU (x:=x) (y:=y) (known:=false) (M:=Pj [] [89] (Int.ofNat (idT [] y).1)) C hkk hma hmb t13 p2 s1 s2 s3 s4 (by simp at i3;omega) (fun n=>?_) ?_ ?_ (f05.tr f513) Fb Fb Fb Fb Fb Fb Fb Fb Fb Fb
  ·rw[JeV];split
   ·show (idT [] y).1≤1000;simp at i3;omega
   ·simp[Pb,HE]
  ·rfl
  ·have:=hMY (Pj [] [89] (Int.ofNat (idT [] y).1)) (HT _ _ _) []
   rwa [Kb]at this
 | true =>
  obtain⟨s1,s2,s3,s4⟩:=stay f513;have l6:w13.load w2.next 0 3=some (tkC x):=s3.all rfl;refine Fz (by simp only[go_sem,HA,simprocAttr,p1,Uu,l6];rfl) ?_;refine HD Ff Fe ?_;obtain⟨y2,j1,j2,j3,j4,j5,j6⟩:=Jh7 (ts:=(idT [] y).2) i2 hmx;refine Jdy (c:=x) C t13 (by simp at i3;omega) hx fun w14 tv14 S14 t14 g14 h14=>?_;have hn14:=g14.next
  have hmap:∀z,(S12 z∨z=w9.next+1∨z=w9.next)→z≠w10.next:=fun z h=>by
   rcases h with h|h|h
   ·have:=(hS12 z h).1;omega
   ·omega
   ·omega
  have p2':=p2.frm g14 (fun h=>hmap _ h rfl);obtain⟨w15,q1,q2,q3,q4⟩:=p2'.put Px [88] (Int.ofNat (idT (idT [] y).2 x).1)
  have t15:TabW (w9.next+1) w9.next tv14 S14 (idT (idT [] y).2 x).2 w15:=t14.step q3 Fh Fh fun z hz e=>by
   rcases h14 z hz with h|h
   ·exact hmap z (.inl h) e
   ·have:=p2.lt;omega
  have f1315:Frm (fun z=>w5.next≤z) w13 w15:=g14.trans q3 (fun z hz h=>by
   have:=g59.next;have:=g510.next;rcases h with h|h|h
   ·have:=(hS12 z h).1;omega
   ·omega
   ·omega) fun z hz h=>by have:=g510.next;omega
  have f515:Frm (fun _=>False) w5 w15:=f513.trans f1315 (fun _ _ h=>h) fun z hz h=>by omega
  obtain⟨s1,s2,s3,s4⟩:=stay f515;refine HF 2 (by simp only[go_sem,HA,simprocAttr,q1];rfl) ?_;refine JlU (x:=x) (y:=y) (known:=true) (M:=Pj (Pj [] [89] (Int.ofNat (idT [] y).1)) [88] (Int.ofNat (idT (idT [] y).2 x).1)) C hkk hma hmb t15 q2 s1 s2 s3 s4 (by simp at i3;omega) (fun n=>?_) ?_ ?_ (f05.tr f515) Fb Fb Fb Fb Fb Fb Fb Fb Fb Fb
  ·simp at i3;rw[JeV];split
   ·show (idT (idT [] y).2 x).1≤1000;omega
   ·rw[JeV];split
    ·show (idT [] y).1≤1000;omega
    ·simp[Pb,HE]
  ·unfold H6;have e:varX.kind=1:=rfl;rw[if_pos e];show (HE _ [88]).map _=_;rw[HT];show some (Jag _ _)=_;rw[j6];rfl
  ·have:=hMY (Pj (Pj [] [89] (Int.ofNat (idT [] y).1)) [88] (Int.ofNat (idT (idT [] y).2 x).1)) (by rw[Pi _ _ _ _ (by decide)];exact HT _ _ _) y2;rw[←j1]at this;exact this
end
end Go.Proofs.YtegdcbdicpfbpaaDoor
namespace Go.AE
open Go.RowKit Go.ChangeShapes
variable [Globs]
end Go.AE
namespace Go
variable {H:Type} {enc:TypeId×Value→H}
theorem JeP {a:Assume}{C:Checked}{os:Os}{f:FuncId}{fn:Func}{s:ChangeSpec}{conds:List PathCond}{apart fresh handsOn again:Bool}{X:World→Array Value→Prop}(hX:∀(w w':World) (args:Array Value),w.heap=w'.heap→X w args→X w' args)(own:ownKnob C.prog.godebug=none)(started:os.Started)(noInit:C.prog.inits.idxOf? f=none)(hfn:C.prog.funcs[f]? = some fn)(witness:∃(w:World) (tape:Tape) (i:Input),w.os=os∧(w.forCall tape i).Shaped C.prog∧i.vars=[]∧Input.okWide C.prog (w.forCall tape i) .any w.heap.size f i∧ ((s.pre enc C.prog fn conds apart (w.forCall tape i).memory i.args∧X (w.forCall tape i).memory i.args)∧sizedMet enc C.prog fn (OpenSpec.ofChange s) apart (w.forCall tape i).memory i.args)∧a.holds C.prog (lone (Frame.enter C.prog f i.args .normal) [] (w.forCall tape i)))(contract:∀(W:World) (base:Nat) (args:Array Value) (ds gs:List (DataW H)) (before:List MemPlace), (∀(j:Nat) t v,fn.params[j]? = some t→args[j]? = some v→Value.okWide C.prog W .any base t v)→ DataW.Whole enc C.prog fn.params.toList s.vars apart W args.toList ds gs before→ conds.all (PathCond.test C.prog ⟨fn.params.toList,ds,s.plain.varTypes C.prog,gs⟩)=true→ (DataW.weightsEach C.prog (fn.params.toList++s.plain.varTypes C.prog) (ds++gs)).all (·≤reachBytes)=true→X W args→ W.ShapedOpen C.prog→ a.holds C.prog (lone (Frame.enter C.prog f args .normal) [] W)→ Calls C.prog f args W fun e W'=>∃v,e = .returned v∧s.post enc C.prog fn apart fresh handsOn again W args v W'): ReturnsInHanded a C os f .any (fun w args=>(s.pre enc C.prog fn conds apart w args∧X w args)∧sizedMet enc C.prog fn (OpenSpec.ofChange s) apart w args) (s.post enc C.prog fn apart fresh handsOn again):=by
 refine returnsInHanded_of_calls own started noInit witness ?_;intro w tape i _ hsh _ hok hpre hholds;obtain⟨_,_,_,fn',hfn',_,_,_,_,hval⟩:=hok;have e:fn'=fn:=FX (hfn'.symm.trans hfn);subst e;obtain⟨⟨⟨ds,gs,before,hw,hc⟩,hx⟩,hz⟩:=hpre;have hw':=DataW.Whole.of_heap (w':=w.forCall tape i) (by rfl) hw;refine (contract (w.forCall tape i) w.heap.size i.args ds gs before hval hw' hc (hz.weights hw) (hX _ _ _ (by rfl) hx) hsh hholds).mono fun e W' ⟨v,he,hp⟩=>?_;subst he;exact ChangeSpec.post_blind hp
end Go
