/- A part of the proof. -/
import Derived.Test.YtegdcbdicpfbpaaDoorJxQ
open Int renaming ofNat → Fq
open Go.IntKind renaming wrap → KX
set_option linter.unusedVariables false
set_option maxRecDepth 10000
set_option linter.unusedSimpArgs false
namespace Go.Proofs.YtegdcbdicpfbpaaDoor
open Go.AE Delphi Val
variable {tab:Tab}
variable {w:AW} {MV:List (List Nat×V)} {Sf:List Nat→Fw} {x:Nat×List (List Int)}
theorem LaidW.upd {B sm:Nat}{w':AW}{M:Le}{MV':List (List Nat×V)}{R S':Fw}{nm:List Nat}{p:V}(h:LaidW B sm w M MV Sf)(g:Frm R w w')(hpm:PM w' sm MV')(hmv:∀n,Hr MV' n=if n=nm then some p else Hr MV n)(hset:Rel.SetOf S' w' p x.1 x.2)(hR:∀n y,n≠nm→Sf n y→¬R y)(hS':∀y,S' y→B≤y∧y<w'.next∧y≠sm∧∀n,n≠nm→¬Sf n y):LaidW B sm w' (Pe M nm x) MV' (fun n y=>if n=nm then S' y else Sf n y):=by
 refine⟨hpm,fun n hn=>?_,fun n y hn=>?_,fun n n' y h1 h2=>?_,fun n y hy=>?_⟩
 ·rw[hmv];by_cases he:n=nm
  ·subst he;rw[HD]at hn;cases hn
  ·rw[if_neg he];rw[HX _ _ _ _ he]at hn;exact h.key n hn
 ·by_cases he:n=nm
  ·subst he;rw[HD]at hn;cases hn;refine⟨p,by rw[hmv,if_pos rfl],?_⟩;simp only[if_true];exact hset
  ·rw[HX _ _ _ _ he]at hn;obtain⟨q,h1,h2⟩:=h.set n y hn;refine⟨q,by rw[hmv,if_neg he];exact h1,?_⟩;simp only[if_neg he];exact h2.frm g fun z hz=>hR n z he hz
 ·by_cases he:n=nm<;>by_cases he':n'=nm
  ·rw[he,he']
  ·simp only[if_pos he]at h1;simp only[if_neg he']at h2;exact absurd h2 ((hS' y h1).2.2.2 n' he')
  ·simp only[if_neg he]at h1;simp only[if_pos he']at h2;exact absurd h1 ((hS' y h2).2.2.2 n he)
  ·simp only[if_neg he]at h1;simp only[if_neg he']at h2;exact h.dis n n' y h1 h2
 ·by_cases he:n=nm
  ·simp only[if_pos he]at hy;have:=hS' y hy;exact⟨this.1,this.2.1,this.2.2.1⟩
  ·simp only[if_neg he]at hy;obtain⟨h1,h2,h3⟩:=h.lo n y hy;have:=g.next;exact⟨h1,by omega,h3⟩
structure FcsL (l:List Fc):Prop where
 len:l.length≤1000
 ok:∀f∈l,f.2.length≤4∧f.1.length≤16∧∀t∈f.2,TkOk t
 ar:∀f∈l,∀g∈l,f.1=g.1→f.2.length=g.2.length
structure LaidS (B sm tb mb b5:Nat) (w0 w:AW) (S0 S:Fw) (M:Le) (MV:List (List Nat×V)) (Sf:List Nat→Fw):Prop where
 lw:LaidW B sm w M MV Sf
 box:CB w b5 [.map sm]
 sd:∀n x,Sf n x→¬S x∧x≠tb∧x≠mb∧x≠b5
 ss:∀x,S x→x≠sm∧x≠b5
 ne:sm≠tb∧sm≠mb∧b5≠tb∧b5≠mb∧sm≠b5
 f:Frm (fun x=>S0 x∨x=tb∨x=mb) w0 w
 s:∀x,S x→S0 x∨w0.next≤x
structure LaidP (l:List Fc) (M:Le):Prop where
 ar:∀nm x,Hr M nm=some x→∃g∈l,g.1=nm∧x.1=g.2.length
 len:∀nm x,Hr M nm=some x→x.2.length≤l.length
variable {ts:List Tk} {l:List Fc}
theorem Cy (hl:FcsL l):LaidP l (HO ts l).2∧(HO ts l).1.length≤ts.length+4*l.length:=by
 suffices h:∀i,i≤l.length→LaidP (l.take i) (HO ts (l.take i)).2∧(HO ts (l.take i)).1.length≤ts.length+4*i by
  have:=h l.length (FH _)
  rwa [List.take_length]at this
 intro i;induction i with
 | zero=>intro _;exact⟨⟨fun nm x h=>by simp[HO,Hr]at h,fun nm x h=>by simp[HO,Hr]at h⟩,by simp[HO]⟩
 | succ i ih =>
  intro hi;obtain⟨h1,h2⟩:=ih Fh;obtain⟨fc,hfc⟩:∃fc,l[i]? = some fc:=⟨_,FB Fh⟩;have hfm:=FI hfc;rw[PF hfc,AC];have hil:(l.take i).length=i:=by rw[FT];omega
  have hx:(P6 (HO ts (l.take i)).2 fc).1=fc.2.length∧(P6 (HO ts (l.take i)).2 fc).2.length≤i:=by
   unfold P6 Ll;cases hg:Hr (HO ts (l.take i)).2 fc.1 with
   | none =>
    simp only;rw[HD];exact⟨rfl,Nat.zero_le _⟩
   | some x =>
    simp only;rw[hg];obtain⟨g,hgm,hgn,hga⟩:=h1.ar _ _ hg;refine⟨?_,by have:=h1.len _ _ hg;rw[hil]at this;exact this⟩;show x.1=_;rw[hga];exact hl.ar g (List.mem_of_mem_take hgm) fc hfm hgn
  have h0:∀nm x,nm≠fc.1→Hr (Ll (HO ts (l.take i)).2 fc) nm=some x→Hr (HO ts (l.take i)).2 nm=some x:=by
   intro nm x hne h;unfold Ll at h;cases hg:Hr (HO ts (l.take i)).2 fc.1 with
   | none=>rw[hg]at h;simp only at h;rwa [HX _ _ _ _ hne]at h
   | some y=>rw[hg]at h;exact h
  refine⟨⟨fun nm x h=>?_,fun nm x h=>?_⟩,?_⟩
  ·by_cases he:nm=fc.1
   ·subst he;unfold Tg at h;simp only at h;rw[HD]at h;cases h;exact⟨fc,by simp,rfl,hx.1⟩
   ·unfold Tg at h;simp only at h;rw[HX _ _ _ _ he]at h;obtain⟨g,h3,h4,h5⟩:=h1.ar _ _ (h0 nm x he h);exact⟨g,List.mem_append_left _ h3,h4,h5⟩
  ·rw[FE,hil,Ka];by_cases he:nm=fc.1
   ·subst he;unfold Tg at h;simp only at h;rw[HD]at h;cases h;show (Lb _ _).length≤_;have h6:=hx.2;unfold Lb;split
    ·omega
    ·rw[QP];omega
   ·unfold Tg at h;simp only at h;rw[HX _ _ _ _ he]at h;have:=h1.len _ _ (h0 nm x he h);rw[hil]at this;omega
  ·have:=(Ib (HO ts (l.take i)).1 fc.2).2;have h7:=(hl.ok fc hfm).1;show (HI (HO ts (l.take i)).1 fc.2).2.length≤_;omega
theorem SetOf.ptr {S:Fw}{p:V}{n:Nat}{rows:Fy}(h:Rel.SetOf S w p n rows):∃b,p = .ptr b 0∧n≤4∧∀x,S x→x<w.next:=by
 obtain⟨bp,lv,cs,S0,T,rfl,h⟩:=h;exact⟨bp,rfl,h.w4,h.hS⟩
theorem Jot (C:Codes tab)(P:O0 tab){B sm tb mb b5 b4 i:Nat}{T S0 S R:Fw}{lv tv rv:V}{fc:Fc}{M:Le}{row:List Int}{w0:AW}{f:Fr}{st:List SI}{Q:Fr→AW→Prop}(hx:Fcs T w lv l)(hfc:l[i]? = some fc)(hT:∀y,T y→y<w.next∧∀n,¬Sf n y)(ht:TabW tb mb tv S ts w)(hL:LaidS B sm tb mb b5 w0 w S0 S M MV Sf)(hg:Hr M fc.1=some x)(hr:Rel.RowV R w rv row)(hrl:row.length=x.1)(hxl:x.2.length≤1000000)(hb4:b4<w.next∧∀n,¬Sf n b4)(hw0:w0.next≤B)(hBw:B≤w.next)(hF:LdF f tb lv b5 i b4)(f7:f.get 7=some rv)(h:∀f' w' Sf',LdF f' tb lv b5 i b4→TabW tb mb tv S ts w'→LaidS B sm tb mb b5 w0 w' S0 S (Pe M fc.1 (x.1,Lb x.2 row)) MV Sf'→Frm (fun y=>Sf fc.1 y) w w'→(∀n y,Sf' n y→Sf n y∨w.next≤y)→WS tab st f' w' Q): WS tab (.code Yr::st) f w Q:=by
 obtain⟨f0,f1,f4,f5,f6⟩:=hF;have hil:i<l.length:=(List.getElem?_eq_some_iff.1 hfc).1;obtain⟨b,o,c,xv,rfl,_,_,l2,l0,l1,hxa⟩:=Dm hx hfc;obtain⟨p,hp,hset⟩:=hL.lw.set fc.1 x hg;obtain⟨bp,rfl,hw4,hSn⟩:=SetOf.ptr hset;have look:=hL.lw.pm.look Px .nilptr fc.1;rw[hp]at look;have look:w.lookV (.scalar .str) .nilptr (.map sm) (.str fc.1)=some (.ptr bp 0,true):=look;have k0:w.load b5 0 1=some [.map sm]:=CB.ld hL.box 0 1 _ rfl;refine Fz (by simp only[go_sem,Hn,Yr,f1,f5,f6,f7,k0,hil,l0,look];rfl) ?_;refine Hq Ff Fe ?_
 have same:∀n,Hr MV n=if n=fc.1 then some (.ptr bp 0)else Hr MV n:=fun n=>by
  by_cases he:n=fc.1
  ·rw[if_pos he,he,hp]
  ·rw[if_neg he]
 have hsm:=hL.lw.pm.lt;refine Rel.add_ok C P hset hr hxl Fh (fun hn=>?_) fun hw hn w2 So2 g1 g2 g3=>?_
 ·have e:Lb x.2 row=x.2:=by
   unfold Lb;rw[if_pos];exact Classical.byContradiction fun hc=>hn ⟨hrl,hc⟩
  rw[e]at h
  have hu:=hL.lw.upd (nm:=fc.1) (x:=(x.1,x.2)) (Frm.refl (S:=fun _=>False) w) hL.lw.pm same hset (fun _ _ _ _ h=>h) (fun y hy=>by
   have:=hL.lw.lo fc.1 y hy;exact⟨this.1,this.2.1,this.2.2,fun n hne hy'=>hne (hL.lw.dis n fc.1 y hy' hy)⟩)
  refine Hs 1 Fe ?_;refine h _ _ _ ⟨(Fg f0),(Fg f1),(Fg f4),(Fg f5),(Fg f6)⟩ ht ⟨hu,hL.box,fun n y hy=>?_,hL.ss,hL.ne,hL.f,hL.s⟩ (Frm.refl _) fun n y hy=>?_
  ·by_cases he:n=fc.1
   ·rw[if_pos he]at hy;exact hL.sd _ y hy
   ·rw[if_neg he]at hy;exact hL.sd _ y hy
  ·by_cases he:n=fc.1
   ·rw[if_pos he]at hy;rw[he];exact .inl hy
   ·rw[if_neg he]at hy;exact .inl hy
 ·have e:Lb x.2 row=Rel.insR x.2 row:=by unfold Lb;rw[if_neg hn]
  rw[e]at h;have hnS:∀y,Sf fc.1 y→y<w.next:=fun y hy=>(hL.lw.lo fc.1 y hy).2.1;have hpm:PM w2 sm MV:=hL.lw.pm.frm g2 fun hh=>(hL.lw.lo fc.1 sm hh).2.2 rfl
  have hu:=hL.lw.upd (nm:=fc.1) (x:=(x.1,Rel.insR x.2 row)) g2 hpm same g1 (fun n y hne hy hh=>hne (hL.lw.dis n fc.1 y hy hh)) (fun y hy=>by
   rcases (g3 y hy).2 with h1|h1
   ·have:=hL.lw.lo fc.1 y h1;exact⟨this.1,(g3 y hy).1,this.2.2,fun n hne hy'=>hne (hL.lw.dis n fc.1 y hy' h1)⟩
   ·exact⟨by omega,(g3 y hy).1,by omega,fun n _ hy'=>by have:=(hL.lw.lo n y hy').2.1;omega⟩)
  have t2:=ht.step g2 (fun hh=>(hL.sd _ _ hh).2.1 rfl) (fun hh=>(hL.sd _ _ hh).2.2.1 rfl) fun y hy hh=>(hL.sd _ y hh).1 hy;have hSS:=ht.s;have htb:=ht.a.lt;have hmb:=ht.m.lt;have hbx:=hL.box.lt;refine Hs 1 Fe ?_;refine h _ _ _ ⟨(Fg f0),(Fg f1),(Fg f4),(Fg f5),(Fg f6)⟩ t2 ⟨hu,hL.box.frm g2 fun hh=>(hL.sd _ _ hh).2.2.2 rfl,fun n y hy=>?_,hL.ss,hL.ne,?_,hL.s⟩ g2 fun n y hy=>?_
  ·by_cases he:n=fc.1
   ·rw[if_pos he]at hy;rcases (g3 y hy).2 with h1|h1
    ·exact hL.sd _ y h1
    ·exact⟨fun hs=>by have:=(hSS y hs).1;omega,by omega,by omega,by omega⟩
   ·rw[if_neg he]at hy;exact hL.sd _ y hy
  ·exact hL.f.trans g2 (fun _ _ h=>h) fun y hy hh=>by have:=(hL.lw.lo fc.1 y hh).1;omega
  ·by_cases he:n=fc.1
   ·rw[if_pos he]at hy;rcases (g3 y hy).2 with h1|h1
    ·rw[he];exact .inl h1
    ·exact .inr h1
   ·rw[if_neg he]at hy;exact .inl hy
section
open Go.AE Delphi Val
variable {tab:Tab}
theorem RV (M:Le)(f:Fc):Hr (Ll M f) f.1=some (P6 M f):=by
 unfold P6 Ll;cases hg:Hr M f.1 with
 | none=>simp only;rw[HD];rfl
 | some x=>simp only;rw[hg];rfl
theorem JkF (C:Codes tab)(P:O0 tab){T S:Fw}{tb mb:Nat}{lv tv:V}{aw:AW}{K:V→AW→Prop}(hx:Fcs T aw lv l)(hl:FcsL l)(hT:∀x,T x→x<aw.next∧¬S x∧x≠tb∧x≠mb)(ht:TabW tb mb tv S ts aw)(hts:ts.length≤20000)(h:∀w sm b5 tv' S' MV Sf,TabW tb mb tv' S' (HO ts l).1 w→LaidS (aw.next+1) sm tb mb b5 aw w S S' (HO ts l).2 MV Sf→aw.next≤sm→K (.agg [.map sm]) w):WF tab Wi [.ptr tb 0,lv] aw K:=by
 refine Hy C.Ys rfl ?_;have hlv:=hx.lenV;have htb:=ht.a.lt;have hmb:=ht.m.lt;have hSl:∀x,S x→x<aw.next:=fun x hx=>(ht.s x hx).1;obtain⟨w1,e1,c1,r1,m1⟩:=Lc aw [V.nilmap];have cm:PM (w1.new (.map [] 0)) w1.next ([]:List (List Nat×V)):=MB.new w1;have fm:Frm (fun _=>False) w1 (w1.new (.map [] 0)):=Te w1;have nm1:(w1.new (.map [] 0)).next=w1.next+1:=rfl;generalize hw2:w1.new (.map [] 0)=w2 at cm fm nm1;obtain⟨w3,s3,c3,r3,n3⟩:=PA w2 (zs:=[V.nilmap]) (vs:=[V.map w1.next]) rfl rfl;have f01:=r1.tr (fm.tr r3);have hov:over [V.nilmap] 0 [V.map w1.next]=some [V.map w1.next]:=rfl;have hll:=hl.len;refine Fz (by simp only[go_sem,Hn,Zx,Uu,e1,hw2,Hw,HF,Sq,hov,FC,FD,s3];rfl) ?_;have n1:=r1.next
 refine HT (fun q f w=>∃i tv' S' MV Sf,LdF f tb lv w2.next i aw.next∧TabW tb mb tv' S' (HO ts (l.take i)).1 w∧LaidS (aw.next+1) w1.next tb mb w2.next aw w S S' (HO ts (l.take i)).2 MV Sf∧CB w aw.next [.nilmap]∧(∀n y,Sf n y→w2.next<y)∧(∀y,S' y→y≠aw.next)∧i≤l.length∧q=l.length-i)
  (fun f w=>∃tv' S' MV Sf,f.get 4=some (.ptr aw.next 0)∧f.get 5=some (.ptr w2.next 0)∧TabW tb mb tv' S' (HO ts l).1 w∧LaidS (aw.next+1) w1.next tb mb w2.next aw w S S' (HO ts l).2 MV Sf∧CB w aw.next [.nilmap]∧(∀n y,Sf n y→w2.next<y)∧(∀y,S' y→y≠aw.next)) ?_ ?_ l.length
  ⟨0,tv,S,[],fun _ _=>False,⟨Fb,Fb,Fb,Fb,Fb⟩,ht.step0 f01,⟨⟨cm.frm r3 fun h=>h,fun nm h=>rfl,fun nm x h=>by simp[HO,Hr]at h,fun _ _ _ h=>h.elim,fun _ _ h=>h.elim⟩,c3,fun _ _ h=>h.elim,fun x hx=>by have:=hSl x hx;exact⟨by omega,by omega⟩,⟨by omega,by omega,by omega,by omega,by omega⟩,f01.no,fun x hx=> .inl hx⟩,(c1.frm (fm.tr r3) fun h=>h),fun _ _ h=>h.elim,fun y hy=>by have:=hSl y hy;omega,Nat.zero_le _,rfl⟩
 ·rintro q f w ⟨i,tv',S',MV,Sf,⟨f0,f1,f4,f5,f6⟩,htw,hLw,hbx,hSf,hSa,hi,rfl⟩ ih out;by_cases hil:i<l.length
  case neg =>
   obtain rfl:i=l.length:=Fh;rw[List.take_length]at htw hLw;refine Hs 1000 (by simp only[go_sem,Zw,f1,f6,hlv,hil];rfl) ?_;exact out _ _ _ ⟨tv',S',MV,Sf,(Fg f4),(Fg f5),htw,hLw,hbx,hSf,hSa⟩ rfl
  obtain⟨fc,hfc⟩:∃fc,l[i]? = some fc:=⟨_,FB hil⟩;have hfm:=FI hfc;obtain⟨ha4,hn16,hok⟩:=hl.ok fc hfm;have hpi:LaidP (l.take i) (HO ts (l.take i)).2∧(HO ts (l.take i)).1.length≤ts.length+4*(l.take i).length:=Cy ⟨by rw[FT];omega,fun f hf=>hl.ok f (List.mem_of_mem_take hf),fun f hf g hg=>hl.ar f (List.mem_of_mem_take hf) g (List.mem_of_mem_take hg)⟩;have hit:(l.take i).length=i:=by rw[FT];omega
  rw[hit]at hpi
  have hTR:∀x,T x→¬(S x∨x=tb∨x=mb):=fun x hx h=>by
   obtain⟨_,h1,h2,h3⟩:=hT x hx;rcases h with h|h|h
   ·exact h1 h
   ·exact h2 h
   ·exact h3 h
  have gn:=hLw.f.next
  have hTw:∀{w':AW} {S2:Fw},w.next≤w'.next→(∀x,S2 x→S x∨aw.next≤x)→∀x,T x→x<w'.next∧¬S2 x∧x≠tb∧x≠mb:=fun hn hs x hx=>by
   obtain⟨h0,h1,h2,h3⟩:=hT x hx;exact⟨by omega,fun hh=>by rcases hs x hh with h|h;exact h1 h;omega,h2,h3⟩
  have hxw:=hx.frm hLw.f hTR;obtain⟨b,o,c,xv,rfl,_,_,l2,l0,l1,hxa⟩:=Dm hxw hfc;have hxl:=hxa.lenV;have look:=hLw.lw.pm.look Px .nilptr fc.1;have k0:w.load w2.next 0 1=some [.map w1.next]:=CB.ld hLw.box 0 1 _ rfl;have hwr:KX .i64 (Fq i+1)=Fq (i+1):=Hv Fh;have hb5:=hLw.box.lt;have esn:HO ts (l.take (i+1))=Tg (HO ts (l.take i)) fc:=by rw[PF hfc,AC]
  have hx1:(P6 (HO ts (l.take i)).2 fc).1=fc.2.length∧(P6 (HO ts (l.take i)).2 fc).2.length≤i:=by
   unfold P6 Ll;cases hg:Hr (HO ts (l.take i)).2 fc.1 with
   | none=>simp only;rw[HD];exact⟨rfl,Nat.zero_le _⟩
   | some x =>
    simp only;rw[hg];obtain⟨g,hgm,hgn,hga⟩:=hpi.1.ar _ _ hg;refine⟨?_,by have:=hpi.1.len _ _ hg;rw[hit]at this;exact this⟩;show x.1=_;rw[hga];exact hl.ar g (List.mem_of_mem_take hgm) fc hfm hgn
  have rest:∀(fr:Fr) (w4:AW) (MV4:List (List Nat×V)) (Sf4:List Nat→Fw),LdF fr tb (.slice b o l.length c) w2.next i aw.next→fr.get 7=some .nilslice→fr.get 8=some (.int .i64 (Fq 0))→w.next≤w4.next→TabW tb mb tv' S' (HO ts (l.take i)).1 w4→LaidS (aw.next+1) w1.next tb mb w2.next aw w4 S S' (Ll (HO ts (l.take i)).2 fc) MV4 Sf4→CB w4 aw.next [.nilmap]→(∀n y,Sf4 n y→w2.next<y)→WS tab (.code (.loop Zv) :: .endB 2 :: .code Yr :: .endB 1 :: .code (.region [⟨some 15,none,.mov (.tmp 6)⟩,⟨some 16,none,.bin .add (.tmp 15) (.const (.int .i64 1))⟩,⟨some 6,none,.mov (.tmp 16)⟩]) :: .code (.loop Zw) :: .endB 0::[.code (.seq (.region [⟨some 73,none,.load 1 true (.tmp 5)⟩,⟨none,none,.store 1 (.tmp 4) (.tmp 73)⟩]) .ret)]) fr w4 (fun fr' aw'=>∃vs,PQ fr' aw' Zx.results=some vs∧K (H7 vs) aw'):=by
   intro fr w4 MV4 Sf4 hF4 h7 h8 hn4 ht4 hL4 hb4 hSf4;have hx4:=hx.frm hL4.f hTR;refine Jov (i:=i) C hx4 hfc (hTw hn4 fun x hx=>hLw.s x hx) ht4 Fh Fh hok hF4 h7 h8 fun f5 w5 rv R tv5 S5 hF5 g7 hrv t5 g5 s5 hR5=>?_;have n5:=g5.next;have hn4':=hL4.f.next
   have d5:∀n x,Sf4 n x→¬(S' x∨x=tb∨x=mb):=fun n x hx h=>by
    obtain⟨h1,h2,h3,_⟩:=hL4.sd n x hx;rcases h with h|h|h
    ·exact h1 h
    ·exact h2 h
    ·exact h3 h
   have hL5:LaidS (aw.next+1) w1.next tb mb w2.next aw w5 S S5 (Ll (HO ts (l.take i)).2 fc) MV4 Sf4:=by
    refine⟨hL4.lw.frm g5 (fun h=>?_) d5,hL4.box.frm g5 (fun h=>?_),fun n x hx=>⟨fun hs=>?_,(hL4.sd n x hx).2⟩,fun x hx=>?_,hL4.ne,?_,fun x hx=>?_⟩
    ·rcases h with h|h|h
     ·exact (hL4.ss _ h).1 rfl
     ·exact hL4.ne.1 h
     ·exact hL4.ne.2.1 h
    ·rcases h with h|h|h
     ·exact (hL4.ss _ h).2 rfl
     ·exact hL4.ne.2.2.1 h
     ·exact hL4.ne.2.2.2.1 h
    ·rcases s5 x hs with h|h
     ·exact (hL4.sd n x hx).1 h
     ·have:=(hL4.lw.lo n x hx).2.1;omega
    ·rcases s5 x hx with h|h
     ·exact hL4.ss x h
     ·have:=hL4.box.lt;have:=hL4.lw.pm.lt;exact⟨by omega,by omega⟩
    ·refine hL4.f.trans g5 (fun _ _ h=>h) fun x hx h=>?_;rcases h with h|h|h
     ·rcases hLw.s x h with h|h
      ·exact .inl h
      ·omega
     ·exact .inr (.inl h)
     ·exact .inr (.inr h)
    ·rcases s5 x hx with h|h
     ·exact hLw.s x h
     ·right;omega
   have hb5':=hb4.frm g5 (fun h=>by
    rcases h with h|h|h
    ·exact hSa _ h rfl
    ·omega
    ·omega)
   have hrl:=(Ib (HO ts (l.take i)).1 fc.2).1;have hxw5:=hx.frm hL5.f hTR;refine Jot (x:=P6 (HO ts (l.take i)).2 fc) C P hxw5 hfc (fun y hy=>⟨by have:=(hT y hy).1;omega,fun n hs=>by have:=(hL5.lw.lo n y hs).1;have:=(hT y hy).1;omega⟩) t5 hL5 (RV _ _) hrv (by rw[hrl,hx1.1]) Fh ⟨hb5'.lt,fun n hs=>by have:=(hL5.lw.lo n _ hs).1;omega⟩ Fh Fh hF5 g7 fun f6 w6 Sf6 hF6 t6 hL6 g6 s6=>?_;obtain⟨p0,p1,p4,p5,p6⟩:=hF6;have n6:=g6.next;refine Fz (by simp only[go_sem,Hn,p6,hwr];rfl) ?_;refine ih _ _ _ Fh ⟨i+1,tv5,S5,MV4,Sf6,⟨(by simp only[go_sem,Hn,p0]<;>rfl),(by simp only[go_sem,Hn,p1]<;>rfl),(by simp only[go_sem,Hn,p4]<;>rfl),(by simp only[go_sem,Hn,p5]<;>rfl),Fb⟩,?_,?_,hb5'.frm g6 (fun hs=>by have:=(hL5.lw.lo _ _ hs).1;omega),fun n y hy=>?_,fun y hy=>?_,by omega,rfl⟩
   ·rw[esn];exact t6
   ·rw[esn];exact hL6
   ·rcases s6 n y hy with h|h
    ·exact hSf4 n y h
    ·have:=hL4.box.lt;omega
   ·rcases s5 y hy with h|h
    ·exact hSa y h
    ·have:=hb4.lt;omega
  cases hg:Hr (HO ts (l.take i)).2 fc.1 with
  | some x =>
   have e0:Ll (HO ts (l.take i)).2 fc=(HO ts (l.take i)).2:=by unfold Ll;rw[hg]
   obtain⟨p,hp,hset⟩:=hLw.lw.set _ _ hg;obtain⟨bp,rfl,_⟩:=SetOf.ptr hset;rw[hp]at look;have look:w.lookV (.scalar .str) .nilptr (.map w1.next) (.str fc.1)=some (.ptr bp 0,true):=look;have hpn:eqV .ptr (.ptr bp 0) .nilptr=some false:=rfl;refine Fz (by simp only[go_sem,Hn,Zw,Wx,f1,f5,f6,hlv,hil,k0,l0,look,hpn];rfl) ?_;exact rest _ w MV Sf ⟨(Fg f0),(Fg f1),(Fg f4),(Fg f5),(Fg f6)⟩ Fb Fb (FH _) htw (by rw[e0];exact hLw) hbx hSf
  | none =>
   have e0:Ll (HO ts (l.take i)).2 fc=Pe (HO ts (l.take i)).2 fc.1 (fc.2.length,[]):=by unfold Ll;rw[hg]
   have hmn:=hLw.lw.key _ hg;rw[hmn]at look;have look:w.lookV (.scalar .str) .nilptr (.map w1.next) (.str fc.1)=some (.nilptr,false):=look;have hpn:eqV .ptr .nilptr .nilptr=some true:=rfl;refine Fz (by simp only[go_sem,Hn,Zw,Wx,f1,f5,f6,hlv,hil,k0,l0,look,hpn,Us];rfl) ?_;refine Pg ?_;refine HQ 100 (by simp only[go_sem,Hn,f1,f5,f6,hil,k0,l0,l1,hxl];rfl) ?_;refine Pp Ff Fe ?_;refine Rel.new_ok C ha4 fun w4 hset g4 n4=>?_;have k0':w4.load w2.next 0 1=some [.map w1.next]:=CB.ld (hLw.box.frm g4 fun h=>h) 0 1 _ rfl
   have l0':w4.load b (o+i*2) 1=some [.str fc.1]:=by
    obtain⟨b',o',c',xv',e',_,_,_,q0,_,_⟩:=Dm (hxw.frm g4 fun _ _ h=>h) hfc;cases e';exact q0
   obtain⟨w5,u1,u2,u3,u4⟩:=(hLw.lw.pm.frm g4 fun h=>h).put Px fc.1 (.ptr w.next 0)
   have hMp:∀n,Hr (Pe MV fc.1 (V.ptr w.next 0)) n=if n=fc.1 then some (.ptr w.next 0)else Hr MV n:=fun n=>by
    by_cases he:n=fc.1
    ·rw[if_pos he,he,HD]
    ·rw[if_neg he,HX _ _ _ _ he]
   have hsml:=hLw.lw.pm.lt;have g45:Frm (fun y=>y=w1.next) w w5:=g4.no.tr u3
   have hup:=hLw.lw.upd (nm:=fc.1) (x:=(fc.2.length,[])) g45 u2 hMp (hset.frm u3 fun x hx e=>by omega) (fun n y _ hy e=>(hLw.lw.lo n y hy).2.2 e) (fun y hy=>by
    subst hy;exact⟨by omega,by omega,by omega,fun n _ hs=>by have:=(hLw.lw.lo n _ hs).2.1;omega⟩)
   refine HQ 100 (by simp only[go_sem,Hn,f1,f6,hil,u1];rfl) ?_;refine Pk ⟨(show HP _ _ [(1,13),(6,13)]from by simp only[go_sem,Hn,HP,chk,List.reverse_cons,List.reverse_nil,H9,Po,Pm,Pn,List.getElem?_nil,false_or,or_true,or_false,exists_eq',FP,Prod.mk.injEq,Bool.true_eq_false,FM,and_true,true_and,implies_true,k0,k0',l0,l0']),?_⟩;have hn5:=g45.next;have hn5':=u3.next;have hSS:=htw.s;refine Ho 1000 Fe ?_;refine rest _ w5 _ _ ⟨(Fg f0),(Fg f1),(Fg f4),(Fg f5),(Fg f6)⟩ Fb Fb Fh (htw.step g45 (fun e=>by omega) (fun e=>by omega) fun x hx e=>(hLw.ss x hx).1 e) ⟨by rw[e0];exact hup,hLw.box.frm g45 (fun e=>by have:=hLw.ne;omega),fun n x hx=>?_,hLw.ss,hLw.ne,?_,hLw.s⟩ (hbx.frm g45 fun e=>by omega) fun n y hy=>?_
   ·by_cases he:n=fc.1
    ·rw[if_pos he]at hx;exact⟨fun hs=>by have:=(hSS x hs).1;omega,by omega,by omega,by omega⟩
    ·rw[if_neg he]at hx;exact hLw.sd n x hx
   ·exact hLw.f.trans g45 (fun _ _ h=>h) fun x hx e=>by omega
   ·by_cases he:n=fc.1
    ·rw[if_pos he]at hy;omega
    ·rw[if_neg he]at hy;exact hSf n y hy
 ·rintro f w ⟨tv',S',MV,Sf,f4,f5,htw,hLw,hbx,hSf,hSa⟩;have k0:w.load w2.next 0 1=some [.map w1.next]:=CB.ld hLw.box 0 1 _ rfl;have st:=hbx.setAll (vs:=[V.map w1.next]) rfl rfl;have c4:=H1 (l:=[V.map w1.next]) hbx.lt;have g4:Frm (fun x=>x=aw.next) w (w.put aw.next [V.map w1.next]):=HN;have k4:(w.put aw.next [V.map w1.next]).load aw.next 0 1=some [.map w1.next]:=CB.ld c4 0 1 _ rfl;have hcm:V.cells (.agg [.map w1.next])=[V.map w1.next]:=rfl;refine Fz (by simp only[go_sem,Hn,f4,f5,k0,FC,FD,st,hcm];rfl) ?_;refine Hp ⟨_,by simp only[go_sem,Hn,Zx,f4,k4];rfl,?_⟩;have d4:∀n x,Sf n x→¬x=aw.next:=fun n x hx e=>by have:=(hLw.lw.lo n x hx).1;omega
  refine h _ w1.next w2.next tv' S' MV Sf (htw.step g4 Fh Fh fun x hx e=>hSa x hx e) ⟨hLw.lw.frm g4 Fh d4,hLw.box.frm g4 Fh,hLw.sd,hLw.ss,hLw.ne,?_,hLw.s⟩ Fh;exact hLw.f.trans g4 (fun _ _ h=>h) fun x hx e=>by omega
end
section
open Go.AE Delphi Val
variable {tab:Tab}
def RowsRd (T:Fw) (w:AW) (v:V) (rows:Fy):Prop:=∃cs,Rd T w v 1 rows.length cs∧Rel.RowsV T w cs rows
variable {T:Fw} {v:V} {rows:Fy}
theorem RowsRd.frm {R:Fw}{w':AW}(h:RowsRd T w v rows)(g:Frm R w w')(hd:∀x,T x→¬R x):RowsRd T w' v rows:=by
 obtain⟨cs,h1,h2⟩:=h;exact⟨cs,h1.frm g hd,h2.frm g hd⟩
theorem RowsRd.lenV (h:RowsRd T w v rows):lenV v=some rows.length:=by obtain⟨cs,h1,h2⟩:=h;exact h1.lenV
theorem RowsRd.at (h:RowsRd T w v rows){i:Nat}{r:List Int}(hi:rows[i]? = some r):∃b o c rv,v = .slice b o rows.length c∧w.load b (o+i*1) 1=some [rv]∧Rel.RowV T w rv r:=by
 obtain⟨cs,h1,h2⟩:=h;obtain⟨rv,h3,h4⟩:=h2.at hi;have hlt:i<rows.length:=(List.getElem?_eq_some_iff.1 hi).1;rcases h1.inv with⟨_,h0,_⟩|⟨b,o,c,rfl,hB⟩
 ·omega
 ·exact⟨b,o,c,rv,rfl,by rw[KA];exact hB.cell Fh h3,h4⟩
theorem JmT {N:Nat}{cs:List V}{S:Fw}(h:Rel.ListOf N w v rows cs S T):RowsRd (fun x=>S x∨T x) w v rows:=⟨cs,h.1.rd.mono fun _ h=> .inl h,h.2.1.mono fun _ h=> .inr h⟩
end
section
open Go.AE Delphi Val
theorem JlB (hg:TsGood ts):∀(args:List Tk),(∀c∈args,HV c=true)→∃y,(HI ts args).2=ts++y∧TsGood (HI ts args).2∧(∀n∈(HI ts args).1,1≤n∧n≤((HI ts args).2.length:Int))∧(HI ts args).1.map (H3 (HI ts args).2)=args:=by
 intro args hm
 suffices h:∀k,k≤args.length→∃y,(HI ts (args.take k)).2=ts++y∧TsGood (HI ts (args.take k)).2∧(∀n∈(HI ts (args.take k)).1,1≤n∧n≤((HI ts (args.take k)).2.length:Int))∧(HI ts (args.take k)).1.map (H3 (HI ts (args.take k)).2)=args.take k by
  have:=h args.length (FH _)
  rwa [List.take_length]at this
 intro k;induction k with
 | zero=>intro _;exact⟨[],by simp[HI],by simpa[HI]using hg,by simp[HI],by simp[HI]⟩
 | succ k ih =>
  intro hk;obtain⟨y,h1,h2,h3,h4⟩:=ih Fh;obtain⟨c,hc⟩:∃c,args[k]? = some c:=⟨_,FB Fh⟩;rw[PF hc,Ny];obtain⟨z,i1,i2,i3,i4⟩:=QM (ts:=(HI ts (args.take k)).2) (hm c (FI hc));have hg2:=h2.id c;unfold BI;simp only;have hle:((HI ts (args.take k)).2.length:Int)≤((idT (HI ts (args.take k)).2 c).2.length:Int):=by rw[i1,FE];omega
  refine⟨y++z,by rw[i1,h1,F5],hg2,fun n hn=>?_,?_⟩
  ·rcases List.mem_append.1 hn with hn|hn
   ·have:=h3 n hn;exact⟨this.1,by omega⟩
   ·simp only[FJ,FZ,or_false]at hn;subst hn;exact⟨by show (1:Int)≤((_:Nat):Int);omega,by show ((_:Nat):Int)≤_;omega⟩
  ·rw[List.map_append,Ku,Kv,i4]
   congr 1
   refine (List.map_congr_left fun n hn=>?_).trans h4;have:=h3 n hn;rw[i1];exact Bv this.1 this.2
structure LaidT (ts:List Tk) (M:Le) (l:List Fc):Prop where
 good:TsGood ts
 mem:∀nm args,fsT ts (Hr M nm) args↔(nm,args)∈l
 rng:∀nm x,Hr M nm=some x→∀r∈x.2,r.length=x.1∧∀n∈r,1≤n∧n≤(ts.length:Int)
variable {y:List Tk}
theorem JmJ {q:Option (Nat×List (List Int))}(hq:∀x,q=some x→∀r∈x.2,∀n∈r,1≤n∧n≤(ts.length:Int)){args:List Tk}:fsT (ts++y) q args↔fsT ts q args:=by
 unfold fsT
 have e:∀x,q=some x→∀r∈x.2,r.map (H3 (ts++y))=r.map (H3 ts):=fun x hx r hr=>List.map_congr_left fun n hn=>by
  have:=hq x hx r hr n hn;exact Bv this.1 this.2
 constructor
 ·rintro⟨x,r,h1,h2,h3⟩;exact⟨x,r,h1,h2,by rw[h3,e x h1 r h2]⟩
 ·rintro⟨x,r,h1,h2,h3⟩;exact⟨x,r,h1,h2,by rw[h3,e x h1 r h2]⟩
theorem LaidT.ext {M:Le}(h:LaidT ts M l)(hg:TsGood (ts++y)):LaidT (ts++y) M l:=
 ⟨hg,fun nm args=>by rw[JmJ fun x hx r hr n hn=>(h.rng nm x hx r hr).2 n hn];exact h.mem nm args,fun nm x hx r hr=>⟨(h.rng nm x hx r hr).1,fun n hn=>by
  have:=(h.rng nm x hx r hr).2 n hn;rw[FE];exact⟨this.1,by omega⟩⟩⟩
theorem RX (hg:TsGood ts)(hl:FcsL l)(hm:Jql l):(∃y,(HO ts l).1=ts++y)∧LaidT (HO ts l).1 (HO ts l).2 l:=by
 suffices h:∀i,i≤l.length→(∃y,(HO ts (l.take i)).1=ts++y)∧LaidT (HO ts (l.take i)).1 (HO ts (l.take i)).2 (l.take i)by
  have:=h l.length (FH _)
  rwa [List.take_length]at this
 intro i;induction i with
 | zero=>intro _;exact⟨⟨[],by simp[HO]⟩,by simpa[HO]using hg,fun nm args=>by simp[HO,Hr,fsT],fun nm x hx=>by simp[HO,Hr]at hx⟩
 | succ i ih =>
  intro hi;obtain⟨⟨y,hy⟩,hT⟩:=ih Fh;obtain⟨fc,hfc⟩:∃fc,l[i]? = some fc:=⟨_,FB Fh⟩;have hfm:=FI hfc;obtain⟨hp,_⟩:LaidP (l.take i) (HO ts (l.take i)).2∧_:=Cy (ts:=ts) ⟨by rw[FT];have:=hl.len;omega,fun f hf=>hl.ok f (List.mem_of_mem_take hf),fun f hf g hg=>hl.ar f (List.mem_of_mem_take hf) g (List.mem_of_mem_take hg)⟩;rw[PF hfc,AC];generalize HO ts (l.take i)=s at hy hT hp;obtain⟨ts1,M⟩:=s;simp only at hy hT hp;obtain⟨z,j1,j2,j3,j4⟩:=JlB hT.good fc.2 (hm fc hfm);have hx:=RV M fc;have hrl:=(Ib ts1 fc.2).1;unfold Tg;simp only
  have hold:∀r,r∈(P6 M fc).2↔∃x,Hr M fc.1=some x∧r∈x.2:=by
   intro r;unfold P6 Ll;cases hg:Hr M fc.1 with
   | none=>simp only;rw[HD];simp
   | some x=>simp only;rw[hg];simp
  have hwd:(P6 M fc).1=fc.2.length:=by
   unfold P6 Ll;cases hg:Hr M fc.1 with
   | none=>simp only;rw[HD];rfl
   | some x =>
    simp only;rw[hg];obtain⟨g,hgm,hgn,hga⟩:=hp.ar _ _ hg;show x.1=_;rw[hga];exact hl.ar g (List.mem_of_mem_take hgm) fc hfm hgn
  have hne:∀nm,nm≠fc.1→Hr (Pe (Ll M fc) fc.1 ((P6 M fc).1,Lb (P6 M fc).2 (HI ts1 fc.2).1)) nm=Hr M nm:=by
   intro nm h;rw[HX _ _ _ _ h];unfold Ll;cases hg:Hr M fc.1 with
   | none=>simp only;rw[HX _ _ _ _ h]
   | some x=>rfl
  have e1:∀nm x,Hr M nm=some x→∀r∈x.2,∀n∈r,1≤n∧n≤(ts1.length:Int):=fun nm x hx r hr=>(hT.rng nm x hx r hr).2;refine⟨⟨y++z,by rw[j1,hy,F5]⟩,j2,fun nm args=>?_,fun nm x hx' r hr=>?_⟩
  ·rw[F9];by_cases he:nm=fc.1
   ·subst he;rw[HD]
    have:fsT (HI ts1 fc.2).2 (some ((P6 M fc).1,Lb (P6 M fc).2 (HI ts1 fc.2).1)) args↔(fsT ts1 (Hr M fc.1) args∨args=fc.2):=by
     constructor
     ·rintro⟨x,r,h1,h2,h3⟩;cases h1;rcases mem_addR.1 h2 with h2|rfl
      ·obtain⟨x,hx1,hx2⟩:=(hold r).1 h2;left;refine⟨x,r,hx1,hx2,?_⟩;rw[h3,j1];refine List.map_congr_left fun n hn=>?_;have:=e1 _ _ hx1 r hx2 n hn;exact Bv this.1 this.2
      ·exact .inr (h3.trans j4)
     ·rintro (⟨x,r,h1,h2,h3⟩|rfl)
      ·refine⟨_,r,rfl,mem_addR.2 (.inl ((hold r).2 ⟨x,h1,h2⟩)),?_⟩;rw[h3,j1];refine (List.map_congr_left fun n hn=>?_).symm;have:=e1 _ _ h1 r h2 n hn;exact Bv this.1 this.2
      ·exact⟨_,_,rfl,mem_addR.2 (.inr rfl),j4.symm⟩
    rw[this,hT.mem];simp only[FJ,FZ,or_false];constructor
    ·rintro (h|rfl)
     ·exact .inl h
     ·exact .inr rfl
    ·rintro (h|h)
     ·exact .inl h
     ·exact .inr (congrArg Prod.snd h)
   ·rw[hne nm he,j1,JmJ (e1 nm),hT.mem];constructor
    ·exact .inl
    ·rintro (h|h)
     ·exact h
     ·simp only[FJ,FZ,or_false]at h;exact absurd (congrArg Prod.fst h) he
  ·have hle:(ts1.length:Int)≤((HI ts1 fc.2).2.length:Int):=by rw[j1,FE];omega
   by_cases he:nm=fc.1
   ·subst he;rw[HD]at hx';cases hx';rcases mem_addR.1 hr with hr|rfl
    ·obtain⟨x,hx1,hx2⟩:=(hold r).1 hr;have:=hT.rng _ _ hx1 r hx2;refine⟨?_,fun n hn=>⟨(this.2 n hn).1,by have:=(this.2 n hn).2;omega⟩⟩;show r.length=(P6 M fc).1;rw[this.1,hwd];obtain⟨g,hgm,hgn,hga⟩:=hp.ar _ _ hx1;rw[hga];exact hl.ar g (List.mem_of_mem_take hgm) fc hfm hgn
    ·exact⟨by show _=(P6 M fc).1;rw[hwd,hrl],j3⟩
   ·rw[hne nm he]at hx';have:=hT.rng _ _ hx' r hr;exact⟨this.1,fun n hn=>⟨(this.2 n hn).1,by have:=(this.2 n hn).2;omega⟩⟩
variable {r:List Int}
theorem JlN {rows:Fy}(h:rows.Nodup)(hn:r∉rows):(Rel.insR rows r).Nodup:=by
 unfold Rel.insR;have h1:(rows.take (Rel.posn rows r)++rows.drop (Rel.posn rows r)).Nodup:=by rw[List.take_append_drop];exact h
 rw[List.nodup_append]at h1;obtain⟨a1,a2,a3⟩:=h1;have n1:r∉rows.take (Rel.posn rows r):=fun hh=>hn (List.mem_of_mem_take hh);have n2:r∉rows.drop (Rel.posn rows r):=fun hh=>hn (List.mem_of_mem_drop hh);rw[F5,List.nodup_append];refine⟨a1,List.nodup_cons.2 ⟨n2,a2⟩,?_⟩;rintro a ha b hb rfl;rcases List.mem_cons.1 hb with rfl|hb
 ·exact n1 ha
 ·exact a3 a ha a hb rfl
theorem JlM {rows:Fy}(h:rows.Nodup):(Lb rows r).Nodup:=by
 unfold Lb;split
 ·exact h
 ·rename_i hn;exact JlN h hn
theorem NG {rec:Vm→JS→JS}(h:∀M s,s.rows.Nodup→(rec M s).rows.Nodup)(l:Lt)(M:Vm):∀(rows:Fy) (s:JS),s.rows.Nodup→(Pd rec l M rows s).rows.Nodup
 | [],s,hs=>hs
 | r::rows,s,hs=>by
  unfold Pd;rw[Kt];refine NG h l M rows _ ?_;split
  ·exact h _ _ hs
  ·exact hs
theorem Cr (E:JE):∀(n k:Nat) (M:Vm) (s:JS),s.rows.Nodup→(Pv E n k M s).rows.Nodup
 | 0,k,M,s,h=>by
  unfold Pv;split
  ·exact h
  ·exact JlM h
 | n+1,k,M,s,h=>by
  unfold Pv;split
  ·exact h
  ·unfold goJ;split
   ·exact NG (fun M s hs=>Cr E n (k+1) M s hs) _ _ _ _ h
   split
   ·split
    ·exact h
    ·exact Cr E n (k+1) _ _ h
   ·split
    ·exact Cr E n (k+1) _ _ h
    ·exact h
theorem Ni {ts:List Tk}(hg:TsGood ts):∀{rows:Fy},rows.Nodup→(∀r∈rows,∀n∈r,1≤n∧n≤(ts.length:Int))→(rows.map fun r=>r.map (H3 ts)).Nodup
 | [],_,_=>by simp
 | r::rows,h,hr=>by
  obtain⟨h1,h2⟩:=List.nodup_cons.1 h;rw[Ku,List.nodup_cons];refine⟨fun hm=>?_,Ni hg h2 fun x hx=>hr x (FO _ hx)⟩;obtain⟨x,hx,he⟩:=List.mem_map.1 hm
  have:∀(a b:List Int),(∀n∈a,1≤n∧n≤(ts.length:Int))→(∀n∈b,1≤n∧n≤(ts.length:Int))→a.map (H3 ts)=b.map (H3 ts)→a=b:=by
   intro a;induction a with
   | nil=>intro b _ _ h;cases b with|nil=>rfl|cons _ _=>simp at h
   | cons n a ih =>
    intro b ha hb h;cases b with
    | nil=>simp at h
    | cons m b =>
     simp only[Ku,List.cons.injEq]at h;have hm:=hb m Fj;rw[Eh hg hm.1 hm.2 h.1,ih b (fun k hk=>ha k (FO _ hk)) (fun k hk=>hb k (FO _ hk)) h.2]
  rw[this x r (hr x (FO _ hx)) (hr r Fj) he]at hx;exact h1 hx
theorem JmW {s:List Nat}(h:SV s):BD s=true∧s.length≤16:=by
 obtain⟨c,t,rfl,h1,h2,h3⟩:=h
 have hall:∀(t:List Nat) (i:Nat),0<i→(∀x∈t,HZ x=true)→Ls i t=true:=by
  intro t;induction t with
  | nil=>intro i _ _;rfl
  | cons x t ih =>
   intro i hi h;unfold Ls;rw[ih (i+1) Fh fun y hy=>h y (FO _ hy),Bool.and_true];have:=h x Fj;unfold HZ OB HS at this;unfold okc;rw[decide_eq_true (show i≠0 by omega),Bool.true_and];exact this
 refine⟨?_,h3⟩;unfold BD Ls;rw[hall t 1 Fh fun x hx=>h2 x (FO _ hx),Bool.and_true]
 have e1:okc 0 c=true:=by
  unfold okc;unfold OB at h1;rw[h1];rfl
 rw[e1,Bool.true_and,decide_eq_true h3,decide_eq_true (by simp:1≤(c::t).length)];rfl
theorem JlL {c:Nat}(h:HZ c=true):c<256:=by
 unfold HZ OB HS at h;simp only[Bool.or_eq_true,FQ,decide_eq_true_eq]at h;omega
theorem Jnt {t:Tm}(hw:TmW t)(hx:TmX P7 t)(hk:t.kind≠1):HV (Hz t)=true∧TkOk (Hz t):=by
 rcases hw with⟨h1,_⟩|⟨h1,h2⟩|⟨h1,h2,h3⟩
 ·exact absurd h1 hk
 ·have hn:=hx.2.1 h1;obtain⟨w1,w2⟩:=JmW hn;refine⟨?_,⟨by show t.name.length≤9223372036854775807;omega,fun c hc=>?_⟩⟩
  ·unfold HV Hz;simp only[h1,h2,w1];rfl
  ·obtain⟨c0,t0,e,_,h5,_⟩:=hn;exact JlL (h5 c hc)
 ·refine⟨?_,⟨by show t.name.length≤9223372036854775807;rw[h2];simp,fun c hc=>by have hc:c∈t.name:=hc;rw[h2]at hc;simp at hc⟩⟩;unfold HV Hz;simp only[h1,h2];have a1 : -2147483648≤t.num:=Fh;have a2:t.num≤2147483648:=Fh;simp[a1,a2]
theorem Jnb {r:Rl}(h:RG r):(∀t∈r.head.args,t.kind≠1→HV (Hz t)=true∧TkOk (Hz t))∧(∀l∈r.body,∀t∈l.args,t.kind≠1→HV (Hz t)=true∧TkOk (Hz t))∧(∀l∈r.body,l.kind≠1→l.kind≠2→3≤l.kind∧l.kind≤6∧l.args.length=2)∧RBr r∧r.head.args.length≤4:=by
 obtain⟨hx,hl⟩:=h;refine⟨fun t ht hk=>Jnt (hx.w.ht t ht) (hx.tm t ht) hk,fun l hlm t ht hk=>Jnt ((hx.bd l hlm).w.tm t ht) ((hx.bd l hlm).tm t ht) hk,fun l hlm h1 h2=>?_,⟨by have:=hl.hd;omega,by have:=hl.bd;omega,fun l hlm=>by have:l.args.length≤4:=hl.ls l hlm;omega⟩,hl.hd⟩;rcases (hx.bd l hlm).w.kind with h3|h3
 ·rcases h3 with h3|h3
  ·exact absurd h3 h1
  ·exact absurd h3 h2
 ·exact⟨h3.1,h3.2.1,h3.2.2.1⟩
end
section
open Go.AE Delphi Val
variable {tab:Tab}
theorem QU (C:Codes tab)(I:Bi tab)(P:O0 tab){r:Rl}{xs:List V}{sets:List Nat→Option (Nat×List (List Int))}{sty sfn tb mb:Nat}{sv tv:V}{O S:Fw}{K:V→AW→Prop}(hb:SomeB r none sets)(hsl:HY [(44,Jo,none)] sty=some (sfn,none))(hr:RlC O w r xs)(hT:TabW tb mb tv S ts w)(hst:Dc tab O w sfn sv sets)(hO:∀x,O x→x<w.next∧¬S x∧x≠tb∧x≠mb)(hts:ts.length≤60000)(hrl:La r (-1)→(Pw r (-1) none sets (-1) ts).rows.length≤1000000)(h1:¬La r (-1)→∀w',Frm (fun _=>False) w w'→K .nilslice w')(h2:La r (-1)→∀v w' tv' S' cs S1 T1,TabW tb mb tv' S' (Pw r (-1) none sets (-1) ts).ts w'→Frm (fun x=>S x∨x=tb∨x=mb) w w'→(∀x,S' x→S x∨w.next≤x)→Rel.ListOf w.next w' v (Pw r (-1) none sets (-1) ts).rows cs S1 T1→(∀x,S1 x∨T1 x→¬S' x)→Rel.Rise (Pw r (-1) none sets (-1) ts).rows∧(∀x∈(Pw r (-1) none sets (-1) ts).rows,x.length=r.head.args.length)→K v w'): WF tab Wh [.agg xs,.ptr tb 0,.iface sty sv] w K:=by
 refine Hy C.Yq rfl ?_;have hxl:=hr.one;obtain⟨w1,e1,c1,r1,m1⟩:=Lc w xs;have k4:w1.load w.next 0 4=some xs:=c1.all hxl.1;have hcx:V.cells (.agg xs)=xs:=rfl;refine Fz (by simp only[go_sem,Hn,Zu,Ur,hcx,e1,k4];rfl) ?_;refine Hq Ff Fe ?_;have hS:=hT.s;refine Jp7 C I P hb hsl rfl (hr.frm r1 fun _ _ h=>h) (hT.step0 r1) (fun R w' g hd nm K hK=>hst R w' (r1.no.tr g) hd nm K hK) (show SetQ O w1 .nilptr none from rfl) (fun x hx=>⟨by have:=(hO x hx).1;omega,(hO x hx).2⟩) hts hrl (fun hno w2 g2=>?_) fun hok v w2 tv2 S2 cs S1 T1 q1 q2 q3 q4 q5 q6=>?_
 ·refine Ho 1000 Fe ?_;refine Hp ⟨_,by simp only[go_sem,Hn,Zu];rfl,?_⟩;exact h1 hno w2 (r1.tr g2)
 ·refine Ho 1000 Fe ?_;refine Hp ⟨_,by simp only[go_sem,Hn,Zu];rfl,?_⟩;exact h2 hok v w2 tv2 S2 cs S1 T1 q1 (r1.no.tr q2) (fun x hx=>by rcases q3 x hx with h|h;exact .inl h;right;omega) (q4.weaken Fh) q5 q6
end
section
open Go.AE Delphi Val
variable {tab:Tab}
theorem EH {r:Rl}{M:Le}{dq:Option (Nat×List (List Int))}(hG:RG r)(hT:LaidT ts M l)(hts:ts.length≤60000)(hdr:∀x,dq=some x→∀r∈x.2,r.length=x.1∧∀n∈r,1≤n∧n≤(ts.length:Int))(hlen:∀nm x,(dq=some x∨Hr M nm=some x)→x.1≤4∧x.2.length≤1000000):SomeB r dq (fun nm=>Hr M nm):=by
 obtain⟨g1,g2,g3,g4,g5⟩:=Jnb hG;refine⟨g4,g5,g3,fun t ht hk=>(g1 t ht hk).2,fun l hl t ht hk=>⟨(g2 l hl t ht hk).2,(g2 l hl t ht hk).1⟩,fun nm x hx=>(hlen nm x (.inr hx)).1,fun nm x hx=>⟨(hlen nm x hx).2,fun r hr=>?_⟩⟩;rcases hx with hx|hx
 ·have:=hdr x hx r hr;exact⟨this.1,fun n hn=>by have:=this.2 n hn;omega⟩
 ·have:=hT.rng nm x hx r hr;exact⟨this.1,fun n hn=>by have:=this.2 n hn;omega⟩
theorem okPl_safe {r:Rl}:La r (-1)↔LF r=true:=⟨fun h=>h.1,fun h=>⟨h,by decide,by omega,fun h0=>absurd h0 (by decide)⟩⟩
def I4 (sm:Nat) (Sf:List Nat→Fw) (x:Nat):Prop:=x=sm∨∃n,Sf n x
theorem Rh (C:Codes tab){B sm tb mb b5:Nat}{w0:AW}{S0 S O:Fw}{M:Le}(h:LaidS B sm tb mb b5 w0 w S0 S M MV Sf)(ho:∀x,I4 sm Sf x→O x)(hO:∀x,O x→x<w.next):Dc tab O w Jo (.agg [.map sm]) (fun nm=>Hr M nm):=by
 intro R w' g hd nm K hK;refine Jki C (h.lw.pm.frm g (hd _ (ho _ (.inl rfl)))) fun w2 g2=>hK w2 _ g2 ?_;have gn:=g.next;have gn2:=g2.next;show SetQ O w2 ((Hr MV nm).getD .nilptr) (Hr M nm);cases hg:Hr M nm with
 | none=>rw[h.lw.key nm hg];rfl
 | some x =>
  obtain⟨p,hp,hs⟩:=h.lw.set nm x hg;rw[hp];show SetQ O w2 p (some x);have h1:SetQ (Sf nm) w2 p (some x):=(hs.frm g fun y hy=>hd _ (ho _ (.inr ⟨nm,hy⟩))).frm g2 fun _ _ h=>h;exact h1.mono (fun y hy=>ho _ (.inr ⟨nm,hy⟩)) fun y hy=>by have:=hO y hy;omega
theorem Jnk:HY [(44,Jo,none)] 44=some (Jo,none):=rfl
def bgT13:List Nat:=[112,40,88,41,32,58,45,32,113,40,88,41,44,32,33,114,40,88,41,46]
def TR:Rl:=⟨⟨1,[112],[⟨1,[88],0⟩]⟩,[⟨1,[113],[⟨1,[88],0⟩]⟩,⟨2,[114],[⟨1,[88],0⟩]⟩]⟩
theorem QH:(OE (bgT13.take 1200)).1=[TR]:=by decide +kernel
def TP:Fc:=([113],[⟨3,[],5⟩])
def TQ:Le:=[([113],(1,[[1]]))]
def BA:List Tk:=[⟨3,[],5⟩]
theorem QG:HO [] [TP]=(BA,TQ):=by decide +kernel
theorem Jmh:LF TR=true:=by decide +kernel
theorem bg13_some:(Pw TR (-1) none (fun nm=>Hr TQ nm) (-1) BA).rows=[[1]]∧(Pw TR (-1) none (fun nm=>Hr TQ nm) (-1) BA).ts=BA:=by decide +kernel
theorem Jk4 (C:Codes tab)(I:Bi tab)(P:O0 tab){aw:AW}{K:V→AW→Prop}(h:∀w,Frm (fun _=>False) aw w→K (.bool true) w):WF tab VF [] aw K:=by
 refine Hy C.Yj rfl ?_;refine Fz (by simp only[go_sem,Hn,Yi,Up];rfl) ?_;refine Hq Ff Fe ?_;refine new_ok C fun w1 ht1 r1=>?_;have hp1:eqV .ptr (.ptr (aw.next+1) 0) .nilptr=some false:=rfl;obtain⟨w2,e2,c2,r2,m2⟩:=Lc w1 [V.int .i64 3,.str [],.int .i64 5];obtain⟨w3,e3,c3,r3,m3⟩:=Lc w2 [V.str [113],.slice w1.next 0 1 (.known 1)];have r13:=r2.tr r3;have hov1:over [V.int .i64 0,.str [],.int .i64 0] 0 [V.int .i64 3]=some [V.int .i64 3,.str [],.int .i64 0]:=rfl;refine Fz (by simp only[go_sem,Hn,Uo,hp1,Hw,HF,over,HC,V.cells,FC,FD,e2,e3];rfl) ?_;refine Hq Ff Fe ?_;have hfc:FcC (fun x=>x=w1.next) w3 TP [.str [113],.slice w1.next 0 1 (.known 1)]:=⟨_,rfl,.blk rfl Fh (c2.frm r3 fun h=>h).get (.inl rfl) Fj rfl (FH _)⟩;have hF:Fcs (fun x=>x=w1.next∨x=w2.next) w3 (.slice w2.next 0 1 (.known 1)) [TP]:=⟨[[.str [113],.slice w1.next 0 1 (.known 1)]],.blk (.inr rfl) c3.lt c3.get (.inl rfl) Fj rfl (FH _),.cons (by obtain⟨v,q1,q2⟩:=hfc;exact⟨v,q1,q2.mono fun _ h=> .inl h⟩) .nil⟩
 have hFL:FcsL [TP]:=by
  refine⟨by simp,fun f hf=>?_,fun f hf g hg _=>?_⟩
  ·simp only[FJ,FZ,or_false]at hf;subst hf;refine⟨by decide,by decide,fun t ht=>?_⟩;simp only[TP,FJ,FZ,or_false]at ht;subst ht;exact⟨by simp,by simp⟩
  ·simp only[FJ,FZ,or_false]at hf hg;rw[hf,hg]
 have ht3:=ht1.step0 r13;have htb:=ht1.a.lt;refine JkF C P hF hFL (fun x hx=>⟨by omega,fun h=>h,by omega,by omega⟩) ht3 Fj fun w4 sm b5 tv4 S4 MV Sf t4 L4 hsm=>?_;rw[QG]at t4 L4;simp only at t4 L4;have n4:=L4.f.next
 have fw4:Frm (fun _=>False) aw w4:=(r1.tr r13).trans L4.f (fun _ _ h=>h) fun x hx h=>by
  rcases h with h|h|h
  ·exact h
  ·omega
  ·omega
 obtain⟨w5,s5,c5,r5,n5⟩:=PA w4 (zs:=[V.nilmap]) (vs:=[V.map sm]) rfl rfl;have hcm:V.cells (.agg [.map sm])=[V.map sm]:=rfl;refine Fz (by simp only[go_sem,Hn,s5,hcm,FC,FD];rfl) ?_;refine Hq Ff Fe ?_;refine RZ C (s:=bgT13) (by decide) fun w6 rv T6 rs hrs q1 q2 q3=>?_;rw[QH]at hrs;subst hrs;obtain⟨b,o,c,xs,e,hT6,hb6,hxs,a4,hp⟩:=Jq0 q1 (i:=0) (r:=TR) rfl;subst e;have g46:=r5.tr q2;have n6:=g46.next;have k5:w6.load w4.next 0 1=some [.map sm]:=CB.ld (c5.frm q2 fun h=>h) 0 1 _ rfl;have a4:w6.load b o 4=some xs:=by rwa [Nat.zero_mul,KD]at a4
 refine Fz (by simp only[go_sem,Hn,Un,a4,k5,FC,FD];rfl) ?_;refine Hq Ff Fe ?_;have hG:RG TR:=(NQ (bgT13.take 1200)).1 TR (by rw[QH];simp)
 have hLT:LaidT BA TQ [TP]:=by
  have:=(RX (ts:=[]) ⟨List.nodup_nil,by simp⟩ hFL (fun f hf=>by
   simp only[FJ,FZ,or_false]at hf;subst hf;intro c hc;simp only[TP,FJ,FZ,or_false]at hc;subst hc;decide)).2
  rw[QG]at this;exact this
 have hlen:∀(nm:List Nat) (x:Nat×List (List Int)),(none=some x∨Hr TQ nm=some x)→x.1≤4∧x.2.length≤1000000:=by
  rintro nm x (h|h)
  ·cases h
  ·unfold TQ at h;simp only[Hr]at h;split at h
   ·cases h;simp
   ·cases h
 have hsb:=EH (dq:=none) hG hLT (by simp[BA]) (fun x h=>by cases h) hlen;have t6:=t4.step0 g46;have L6:LaidS (w3.next+1) sm (aw.next+1) aw.next b5 w3 w6 (fun _=>False) S4 TQ MV Sf:=⟨L4.lw.frm g46 (fun h=>h) fun _ _ _ h=>h,L4.box.frm g46 fun h=>h,L4.sd,L4.ss,L4.ne,L4.f.trans g46 (fun _ _ h=>h) fun _ _ h=>h.elim,L4.s⟩;have hsml:=L4.lw.pm.lt
 have hO:∀x,(I4 sm Sf x∨T6 x)→x<w6.next∧¬S4 x∧x≠aw.next+1∧x≠aw.next:=by
  rintro x ((rfl|⟨n,hn⟩)|hx)
  ·exact⟨by omega,fun hs=>(L4.ss _ hs).1 rfl,by omega,by omega⟩
  ·have h1:=L4.sd n x hn;have h2:=L4.lw.lo n x hn;exact⟨by omega,h1.1,h1.2.1,h1.2.2.1⟩
  ·have h1:=q3 x hx;exact⟨h1.2,fun hs=>by have:=(t4.s x hs).1;omega,by omega,by omega⟩
 refine QU (O:=fun x=>I4 sm Sf x∨T6 x) C I P hsb Jnk (by obtain⟨v,u,e1,e2,e3⟩:=hxs;exact⟨v,u,e1,e2.mono fun _ h=> .inr h,TD e3 fun _ h=> .inr h⟩) t6 (Rh C L6 (fun _ h=> .inl h) fun x hx=>(hO x hx).1) hO (by simp[BA]) (fun _=>by rw[bg13_some.1];simp) (fun hno=>absurd (okPl_safe.2 Jmh) hno) fun _ v w7 tv7 S7 cs S8 T8 t7 g7 s7 hL7 hd7 _=>?_;rw[bg13_some.2]at t7;rw[bg13_some.1]at hL7;have n7:=g7.next
 have fw7:Frm (fun _=>False) aw w7:=(fw4.tr g46).trans g7 (fun _ _ h=>h) fun x hx h=>by
  rcases h with h|h|h
  ·rcases L4.s x h with h|h
   ·exact h
   ·omega
  ·omega
  ·omega
 obtain⟨K1,K2,K3,K4⟩:=hL7;obtain⟨rv7,hcs,hr7⟩:=K2.at (i:=0) (l:=[1]) rfl;have K1r:=K1.rd;rcases K1r.inv with⟨_,h0,_⟩|⟨b7,o7,c7,rfl,hB7⟩
 ·cases h0
 have l7:w7.load b7 o7 1=some [rv7]:=hB7.cell Fj hcs;obtain⟨rb,rc,rfl,l8⟩:=Mm hr7 (i:=0) (n:=1) rfl;have l7:w7.load b7 o7 1=some [.slice rb 0 1 rc]:=l7;have l8:w7.load rb 0 1=some [.int .i64 1]:=l8;refine Fz (by simp only[go_sem,Hn,Um];rfl) ?_;refine Pg ?_;refine HQ 100 (by simp only[go_sem,Hn,l7,l8,Hw,HF,over,HC,V.cells,FC,FD];rfl) ?_;refine Pp Ff Fe ?_;refine Dq (c:=⟨3,[],5⟩) C t7 (by simp[BA]) ⟨by simp,by simp⟩ fun w8 tv8 S9 t8 g8 s8=>?_;have n8:=g8.next;have hid:(idT BA ⟨3,[],5⟩).1=1:=by decide
 rw[hid]
 have fw8:Frm (fun _=>False) aw w8:=fw7.trans g8 (fun _ _ h=>h) fun x hx h=>by
  rcases h with h|h|h
  ·rcases s7 x h with h|h
   ·rcases L4.s x h with h|h
    ·exact h
    ·omega
   ·omega
  ·omega
  ·omega
 have d8:∀x,(S8 x∨T8 x)→¬(S7 x∨x=aw.next+1∨x=aw.next):=fun x hx h=>by
  have hlo:w6.next≤x:=hx.elim (fun h=>(K3 x h).1) fun h=>(K4 x h).1;rcases h with h|h|h
  ·exact hd7 x hx h
  ·omega
  ·omega
 have l9:w8.load b7 o7 1=some [.slice rb 0 1 rc]:=by
  have:=K1r.frm g8 fun x hx=>d8 x (.inl hx);rcases this.inv with⟨h0,_⟩|⟨b',o',c',e',hB'⟩
  ·cases h0
  ·cases e';exact hB'.cell Fj hcs
 have l10:w8.load rb 0 1=some [.int .i64 1]:=by
  obtain⟨rb',rc',e',q⟩:=Mm (hr7.frm g8 fun x hx=>d8 x (.inr hx)) (i:=0) (n:=1) rfl;cases e';exact q
 refine HQ 100 Fe ?_;refine Pk ⟨(show HP _ _ [(13,18),(15,18)]from by simp only[go_sem,Hn,HP,chk,List.reverse_cons,List.reverse_nil,H9,Po,Pm,Pn,List.getElem?_nil,false_or,or_true,or_false,exists_eq',FP,Prod.mk.injEq,Bool.true_eq_false,FM,and_true,true_and,implies_true,l7,l8,l9,l10]),?_⟩;refine Ho 1000 Fe ?_;refine Hp ⟨_,by simp only[go_sem,Hn,Yi];rfl,?_⟩;exact h w8 fw8
end
section
open Go.AE Delphi Val
theorem Jl3 {r:Rl}{M:Le}{fs:List Fc}(hG:RG r)(hs:LF r=true)(hT:LaidT ts M fs)(hts:ts.length≤60000)(hlen:∀nm x,Hr M nm=some x→x.1≤4∧x.2.length≤1000000){L:List (List Tk)}(hL:L.Nodup)(hm:∀h,IY r (fun i args=>((HA r.body i).name,args)∈fs) h↔h∈L): (Pw r (-1) none (fun nm=>Hr M nm) (-1) ts).rows.length=L.length:=by
 obtain⟨g1,g2,g3,g4,g5⟩:=Jnb hG;have hl:∀nm x,(none=some x∨Hr M nm=some x)→x.1≤4∧x.2.length≤1000000:=fun nm x h=>h.elim (fun h=>by cases h) (hlen nm x);have hB:=EH (dq:=none) hG hT hts (fun x h=>by cases h) hl;have hR:RowsIn ts none (fun nm=>Hr M nm):=⟨fun nm x hx r hr=>hx.elim (fun h=>by cases h) fun hx=>hT.rng nm x hx r hr⟩;obtain⟨_,s2,s3,s4,s5⟩:=JoZ (first:=-1) (most:=-1) hB (fun t ht hk=>(g1 t ht hk).1) hR (okPl_safe.2 hs) hts hT.good;have s5:=s5 rfl;have hnd:(Pw r (-1) none (fun nm=>Hr M nm) (-1) ts).rows.Nodup:=Cr _ _ _ _ _ List.nodup_nil;have hnd2:(LZ (Pw r (-1) none (fun nm=>Hr M nm) (-1) ts)).Nodup:=Ni s2 hnd s3
 have e:(fun i=>fsT ts (if Fq i = -1 then none else Hr M (HA r.body i).name))=fun i args=>((HA r.body i).name,args)∈fs:=by
  funext i args
  rw[if_neg (by have:=Int.natCast_nonneg i;show ¬(i:Int) = -1;omega)];exact propext (hT.mem _ args)
 rw[e]at s4 s5;have h1:=Ig hnd2 fun c hc=>(hm c).1 (s4 c hc);have h2:=Ig hL fun c hc=>s5 c ((hm c).2 hc);unfold LZ at h1 h2;rw[F7]at h1 h2;omega
def vX:Tm:=⟨1,[88],0⟩
def vY:Tm:=⟨1,[89],0⟩
def laX:Lt:=⟨1,[97],[vX]⟩
def lbX:Lt:=⟨1,[98],[vX]⟩
def lbY:Lt:=⟨1,[98],[vY]⟩
def crC:Rl:=⟨⟨1,[99],[vX,vY]⟩,[laX,lbY]⟩
def crD:Rl:=⟨⟨1,[100],[vX,vY]⟩,[laX,lbY,⟨5,[],[vX,vY]⟩]⟩
def crE:Rl:=⟨⟨1,[101],[vX]⟩,[laX,lbX]⟩
def crF:Rl:=⟨⟨1,[102],[vX]⟩,[laX,⟨2,[98],[vX]⟩]⟩
def crT:List Nat:=[99,40,88,44,32,89,41,32,58,45,32,97,40,88,41,44,32,98,40,89,41,46,32,100,40,88,44,32,89,41,32,58,45,32,97,40,88,41,44,32,98,40,89,41,44,32,88,32,60,32,89,46,32,101,40,88,41,32,58,45,32,97,40,88,41,44,32,98,40,88,41,46,32,102,40,88,41,32,58,45,32,97,40,88,41,44,32,33,98,40,88,41,46]
theorem Jpz:(OE (crT.take 1200)).1=[crC,crD,crE,crF]:=by decide +kernel
theorem Iz:∀r∈[crC,crD,crE,crF],LF r=true:=by decide +kernel
def tkI (k:Int):Tk:=⟨3,[],k⟩
theorem IJ {a b:Int}(h:tkI a=tkI b):a=b:=by cases h;rfl
def fsX (n m:Nat):List Fc:=(List.range n).map (fun i=>([97],[tkI (Fq i)]))++(List.range m).map (fun k=>([98],[tkI (Fq (2*k))]))
variable {n m:Nat}
theorem fsX_a {l:List Tk}:(([97],l):Fc)∈fsX n m↔∃i,i<n∧l=[tkI (Fq i)]:=by
 unfold fsX;simp only[F9,Kc,List.mem_range,Prod.mk.injEq];constructor
 ·rintro (⟨i,h,_,e⟩|⟨k,_,e,_⟩)
  ·exact⟨i,h,e.symm⟩
  ·cases e
 ·rintro⟨i,h,e⟩;exact .inl ⟨i,h,trivial,e.symm⟩
theorem fsX_b {l:List Tk}:(([98],l):Fc)∈fsX n m↔∃k,k<m∧l=[tkI (Fq (2*k))]:=by
 unfold fsX;simp only[F9,Kc,List.mem_range,Prod.mk.injEq];constructor
 ·rintro (⟨i,_,e,_⟩|⟨k,h,_,e⟩)
  ·cases e
  ·exact⟨k,h,e.symm⟩
 ·rintro⟨k,h,e⟩;exact .inr ⟨k,h,trivial,e.symm⟩
def Ol (n m:Nat):List (Nat×Nat):=(List.range n).flatMap fun i=>(List.range m).map fun k=>(i,k)
variable {p:Nat×Nat}
theorem pairsN_mem:p∈Ol n m↔p.1<n∧p.2<m:=by
 obtain⟨i,k⟩:=p;unfold Ol;simp only[List.mem_flatMap,List.mem_range,Kc,Prod.mk.injEq];constructor
 ·rintro⟨i',h1,k',h2,rfl,rfl⟩;exact⟨h1,h2⟩
 ·rintro⟨h1,h2⟩;exact⟨i,h1,k,h2,rfl,rfl⟩
def BJ (p:Nat×Nat):List Tk:=[tkI (Fq p.1),tkI (Fq (2*p.2))]
def BP (i:Nat):List Tk:=[tkI (Fq i)]
def BO (m i:Nat):Bool:=(List.range m).any fun k=>i==2*k
theorem hitN_iff {i:Nat}:BO m i=true↔∃k,k<m∧i=2*k:=by
 unfold BO;rw[List.any_eq_true];simp only[List.mem_range,beq_iff_eq]
def crL (n m:Nat):Nat→List (List Tk)
 | 0=>(Ol n m).map BJ
 | 1=>((Ol n m).filter fun p=>decide (p.1<2*p.2)).map BJ
 | 2=>((List.range n).filter fun i=>BO m i).map BP
 | _=>((List.range n).filter fun i=>!BO m i).map BP
def crR:Nat→Rl
 | 0=>crC
 | 1=>crD
 | 2=>crE
 | _=>crF
theorem Qp {q:Nat×Nat}(h:BJ p=BJ q):p=q:=by
 unfold BJ at h;simp only[List.cons.injEq,and_true]at h;have h1:=Int.ofNat.inj (IJ h.1);have h2:=Int.ofNat.inj (IJ h.2);exact Prod.ext h1 Fh
theorem SK {α β:Type}{f:α→β}(hf:∀a b,f a=f b→a=b):∀{l:List α},l.Nodup→(l.map f).Nodup
 | [],_=>List.nodup_nil
 | a::l,h=>by
  rw[List.nodup_cons]at h;rw[Ku,List.nodup_cons];refine⟨fun hm=>?_,SK hf h.2⟩;obtain⟨b,hb,e⟩:=List.mem_map.1 hm;exact h.1 (hf _ _ e▸hb)
theorem Eb (m:Nat):∀n,(Ol n m).Nodup
 | 0=>by simp[Ol]
 | n+1=>by
  have e:Ol (n+1) m=Ol n m++(List.range m).map fun k=>(n,k):=by
   unfold Ol;rw[List.range_succ,List.flatMap_append];simp
  rw[e,List.nodup_append];refine⟨Eb m n,SK (fun a b h=>by cases h;rfl) List.nodup_range,fun p hp q hq he=>?_⟩;subst he;obtain⟨k,_,rfl⟩:=List.mem_map.1 hq;have:=(pairsN_mem.1 hp).1;omega
theorem JqC (n m k:Nat):(crL n m k).Nodup:=by
 have h1:∀a b,BP a=BP b→a=b:=fun a b h=>by
  unfold BP at h;simp only[List.cons.injEq,and_true]at h;exact Int.ofNat.inj (IJ h)
 unfold crL;split
 ·exact SK (fun _ _ h=>Qp h) (Eb m n)
 ·exact SK (fun _ _ h=>Qp h) ((Eb m n).filter _)
 ·exact SK h1 (List.nodup_range.filter _)
 ·exact SK h1 (List.nodup_range.filter _)
def sgN (i j:Nat):Sg:=fun v=>if v=[88]then tkI (Fq i)else tkI (Fq j)
theorem Sy {a b:Tk}(h:[a]=[b]):a=b:=by cases h;rfl
theorem crH (n m k:Nat)(hk:k<4)(h:List Tk):IY (crR k) (fun i args=>((HA (crR k).body i).name,args)∈fsX n m) h↔h∈crL n m k:=by
 match k,hk with
 | 0,_ =>
  constructor
  ·rintro⟨σ,hs,rfl⟩;have h0:(([97],[σ [88]]):Fc)∈fsX n m:=hs 0 (by decide);have h1:(([98],[σ [89]]):Fc)∈fsX n m:=hs 1 (by decide);obtain⟨i,hi,e0⟩:=fsX_a.1 h0;obtain⟨j,hj,e1⟩:=fsX_b.1 h1;show [σ [88],σ [89]]∈(Ol n m).map BJ;rw[Sy e0,Sy e1];exact List.mem_map.2 ⟨(i,j),pairsN_mem.2 ⟨hi,hj⟩,rfl⟩
  ·intro hm;obtain⟨⟨i,j⟩,hp,rfl⟩:=List.mem_map.1 (show h∈(Ol n m).map BJ from hm);obtain⟨hi,hj⟩:=pairsN_mem.1 hp;refine⟨sgN i (2*j),fun q hq=>?_,rfl⟩
   match q,hq with
   | 0,_=>exact fsX_a.2 ⟨i,hi,rfl⟩
   | 1,_=>exact fsX_b.2 ⟨j,hj,rfl⟩
 | 1,_ =>
  constructor
  ·rintro⟨σ,hs,rfl⟩;have h0:(([97],[σ [88]]):Fc)∈fsX n m:=hs 0 (by decide);have h1:(([98],[σ [89]]):Fc)∈fsX n m:=hs 1 (by decide);have h2:OX 5 (σ [88]) (σ [89])=true:=hs 2 (by decide);obtain⟨i,hi,e0⟩:=fsX_a.1 h0;obtain⟨j,hj,e1⟩:=fsX_b.1 h1;show [σ [88],σ [89]]∈((Ol n m).filter fun p=>decide (p.1<2*p.2)).map BJ;rw[Sy e0,Sy e1]at h2 ⊢;have h3:decide ((i:Int)<((2*j:Nat):Int))=true:=h2;have h4:=of_decide_eq_true h3;exact List.mem_map.2 ⟨(i,j),List.mem_filter.2 ⟨pairsN_mem.2 ⟨hi,hj⟩,decide_eq_true (by show i<2*j;omega)⟩,rfl⟩
  ·intro hm;obtain⟨⟨i,j⟩,hp,rfl⟩:=List.mem_map.1 (show h∈((Ol n m).filter fun p=>decide (p.1<2*p.2)).map BJ from hm);obtain⟨hp,hlt⟩:=List.mem_filter.1 hp;have hlt:i<2*j:=of_decide_eq_true hlt;obtain⟨hi,hj⟩:=pairsN_mem.1 hp;refine⟨sgN i (2*j),fun q hq=>?_,rfl⟩
   match q,hq with
   | 0,_=>exact fsX_a.2 ⟨i,hi,rfl⟩
   | 1,_=>exact fsX_b.2 ⟨j,hj,rfl⟩
   | 2,_ =>
    show OX 5 (tkI (Fq i)) (tkI (Fq (2*j)))=true;show decide ((i:Int)<((2*j:Nat):Int))=true;exact decide_eq_true Fh
 | 2,_ =>
  constructor
  ·rintro⟨σ,hs,rfl⟩;have h0:(([97],[σ [88]]):Fc)∈fsX n m:=hs 0 (by decide);have h1:(([98],[σ [88]]):Fc)∈fsX n m:=hs 1 (by decide);obtain⟨i,hi,e0⟩:=fsX_a.1 h0;obtain⟨j,hj,e1⟩:=fsX_b.1 h1;have e:=Sy (e0.symm.trans e1);have e:=Int.ofNat.inj (IJ e);show [σ [88]]∈((List.range n).filter fun i=>BO m i).map BP;rw[e0];exact List.mem_map.2 ⟨i,List.mem_filter.2 ⟨List.mem_range.2 hi,hitN_iff.2 ⟨j,hj,e⟩⟩,rfl⟩
  ·intro hm;obtain⟨i,hp,rfl⟩:=List.mem_map.1 (show h∈((List.range n).filter fun i=>BO m i).map BP from hm);obtain⟨hi,hh⟩:=List.mem_filter.1 hp;obtain⟨j,hj,e⟩:=hitN_iff.1 hh;refine⟨sgN i i,fun q hq=>?_,rfl⟩
   match q,hq with
   | 0,_=>exact fsX_a.2 ⟨i,List.mem_range.1 hi,rfl⟩
   | 1,_=>exact fsX_b.2 ⟨j,hj,by rw[←e];rfl⟩
 | 3,_ =>
  constructor
  ·rintro⟨σ,hs,rfl⟩;have h0:(([97],[σ [88]]):Fc)∈fsX n m:=hs 0 (by decide);have h1:¬(([98],[σ [88]]):Fc)∈fsX n m:=hs 1 (by decide);obtain⟨i,hi,e0⟩:=fsX_a.1 h0;show [σ [88]]∈((List.range n).filter fun i=>!BO m i).map BP;rw[e0]at h1 ⊢;refine List.mem_map.2 ⟨i,List.mem_filter.2 ⟨List.mem_range.2 hi,?_⟩,rfl⟩;cases hh:BO m i with
   | false=>rfl
   | true =>
    obtain⟨j,hj,e⟩:=hitN_iff.1 hh;exact absurd (fsX_b.2 ⟨j,hj,by rw[e]⟩) h1
  ·intro hm;obtain⟨i,hp,rfl⟩:=List.mem_map.1 (show h∈((List.range n).filter fun i=>!BO m i).map BP from hm);obtain⟨hi,hh⟩:=List.mem_filter.1 hp;refine⟨sgN i i,fun q hq=>?_,rfl⟩
   match q,hq with
   | 0,_=>exact fsX_a.2 ⟨i,List.mem_range.1 hi,rfl⟩
   | 1,_ =>
    show ¬(([98],[tkI (Fq i)]):Fc)∈fsX n m;intro hb;obtain⟨j,hj,e⟩:=fsX_b.1 hb;have e:=Int.ofNat.inj (IJ (Sy e));rw[hitN_iff.2 ⟨j,hj,e⟩]at hh;cases hh
def Lj (m:Nat) (i:Nat):Nat:=((List.range m).filter fun k=>decide (i<2*k)).length
def Pz (m:Nat) (i:Nat):Nat:=((List.range m).filter fun k=>decide (i=2*k)).length
def K7 (f:Nat→Nat):Nat→Nat
 | 0=>0
 | n+1=>K7 f n+f n
def crW (n m:Nat):Nat→Nat
 | 0=>n*m
 | 1=>K7 (Lj m) n
 | 2=>K7 (Pz m) n
 | _=>n-K7 (Pz m) n
theorem Jmx:∀n,n<21→∀m,m<21→(crL n m 0).length=crW n m 0∧(crL n m 1).length=crW n m 1∧(crL n m 2).length=crW n m 2∧(crL n m 3).length=crW n m 3∧K7 (Pz m) n≤n:=by decide +kernel
theorem Ri (k i:Nat):Lj (k+1) i=Lj k i+if i<2*k then 1 else 0:=by
 unfold Lj;rw[List.range_succ,List.filter_append,FE];by_cases h:i<2*k
 ·rw[if_pos h];simp[h]
 ·rw[if_neg h];simp[h]
theorem Ay (k i:Nat):Pz (k+1) i=Pz k i+if i=2*k then 1 else 0:=by
 unfold Pz;rw[List.range_succ,List.filter_append,FE];by_cases h:i=2*k
 ·rw[if_pos h];simp[h]
 ·rw[if_neg h];simp[h]
end
section
open Go.AE Delphi Val
variable {tab:Tab}
theorem Jou (hl:FcsL l):∀(nm:List Nat) (x:Nat×List (List Int)),Hr (HO ts l).2 nm=some x→x.1≤4∧x.2.length≤1000000:=by
 intro nm x hx;obtain⟨hp,_⟩:=Cy (ts:=ts) hl;obtain⟨g,hg,_,h2⟩:=hp.ar nm x hx;have:=hp.len nm x hx;have h3:=(hl.ok g hg).1;have h4:=hl.len;exact⟨by omega,by omega⟩
theorem JoR {T:Fw}{v:V}{l:List Rl}(h:RdL (RlC T) T w v 4 l){i:Nat}{t:Rl}(hi:l[i]? = some t):∃b o c xs,v = .slice b o l.length c∧RlC T w t xs∧∀(R:Fw) (w':AW),Frm R w w'→(∀x,T x→¬R x)→(∀j k,j+k≤4→w'.load b (o+i*4+j) k=some ((xs.drop j).take k))∧w'.load b (o+i*4) 4=some xs∧RlC T w' t xs:=by
 have hlt:i<l.length:=(List.getElem?_eq_some_iff.1 hi).1;obtain⟨xss,h1,h2⟩:=h;obtain⟨xs,h3,h4⟩:=Dk (sz:=4) (fun a xs h=>h.one.1) h2 hi;have hx4:=h3.one.1;rcases h1.inv with⟨_,q2,_⟩|⟨b,o,c,rfl,_⟩
 ·omega
 ·refine⟨b,o,c,xs,rfl,h3,fun R w' g hd=>?_⟩;have h1':=h1.frm g hd;rcases h1'.inv with⟨q,_⟩|⟨b',o',c',e',hB⟩
  ·cases q
  cases e';have hle:(i+1)*4≤l.length*4:=Nat.mul_le_mul_right _ hlt
  have part:∀j k,j+k≤4→w'.load b (o+i*4+j) k=some ((xs.drop j).take k):=fun j k hjk=>by
   rw[Ki,hB.load (i*4+j) k Fh,←h4,List.drop_take,List.take_take,KC Fh,List.drop_drop]
  refine⟨part,?_,h3.frm g hd⟩;have:=part 0 4 Fh;rw[KD,FY,FW Fh]at this;exact this
end
section
open Go.AE Delphi Val
variable {tab:Tab}
theorem JmZ (C:Codes tab){k:Int}{aw:AW}{K:V→AW→Prop}(h:∀w,Frm (fun _=>False) aw w→K (.agg (tkC (tkI k))) w):WF tab We [.int .i64 k] aw K:=by
 refine Hy C.Yl rfl ?_;obtain⟨w1,s1,c1,r1,m1⟩:=PA aw (zs:=[V.int .i64 0,V.str [],V.int .i64 0]) (vs:=tkC (tkI k)) rfl rfl;have hov1:over [V.int .i64 0,V.str [],V.int .i64 0] 0 [V.int .i64 3]=some [V.int .i64 3,.str [],.int .i64 0]:=rfl;have hov2:over [V.int .i64 3,V.str [],V.int .i64 0] 2 [V.int .i64 k]=some (tkC (tkI k)):=rfl;have hcc:V.cells (.agg (tkC (tkI k)))=tkC (tkI k):=rfl;have l3:w1.load aw.next 0 3=some (tkC (tkI k)):=c1.all rfl;refine Fz (by simp only[go_sem,Hn,Yk,Hw,HF,hov1,hov2,hcc,Bg,s1,FC,FD];rfl) ?_;refine Hp ⟨_,by simp only[go_sem,Hn,Yk,l3];rfl,?_⟩;exact h w1 r1
structure CxF (f:Fr) (n m:Nat):Prop where
 f0:f.get 0=some (.int .i64 (Fq n))
 f1:f.get 1=some (.int .i64 (Fq m))
theorem Mh {a b:Nat}(h:a*b≤9223372036854775807):KX .i64 (Fq a*Fq b)=Fq (a*b):=by
 have e:Fq a*Fq b=Fq (a*b):=rfl;rw[e];exact Oq (by have:=Int.natCast_nonneg (a*b);show _≤((a*b:Nat):Int);omega) (by show ((a*b:Nat):Int)≤_;omega)
theorem Q4 {S U:Fw}{v:V}{nm:List Nat}{k:Int}(hB:FcsB S U w v l)(hS:∀x,S x→x<w.next)(hU:∀x,U x→¬S x∧x<w.next)(hl:l.length≤1000): ∃v' w5 S',((w.fresh (tkC (tkI k))).fresh [V.str nm,.slice w.next 0 1 (.known 1)]).appendV 2 40 v 1 [V.str nm,.slice w.next 0 1 (.known 1)]=some (v',w5)∧FcsB S' (fun x=>U x∨x=w.next) w5 v' (l++[(nm,[tkI k])])∧Frm S w w5∧w.next<w5.next∧(∀x,S' x→x<w5.next∧x≠w.next∧(S x∨w.next≤x)):=by
 have c1:=Ph w (tkC (tkI k));have r1:=HJ (S:=fun _=>False) w (tkC (tkI k));obtain⟨w1,e1⟩:∃w1,w1=w.fresh (tkC (tkI k)):=⟨_,rfl⟩;have n1:w1.next=w.next+1:=by rw[e1];rfl
 rw[←e1]at c1 r1 ⊢;have hfc:FcC (fun x=>x=w.next) w1 (nm,[tkI k]) [.str nm,.slice w.next 0 1 (.known 1)]:=⟨_,rfl,.blk rfl Fh c1.get (.inl rfl) (by simp[Bg]) rfl (FH _)⟩;have hB1:=hB.frm r1 (fun _ _ h=>h) fun _ _ h=>h;obtain⟨v',w5,S5,u1,u2,u3,u4⟩:=hB1.push hfc (fun x hx=>by have:=hS x hx;omega) (fun x hx=>⟨(hU x hx).1,by have:=(hU x hx).2;omega⟩) (fun x hx=>⟨fun hs=>by have:=hS x hs;omega,by omega⟩) Fh;refine⟨v',w5,S5,u1,u2,r1.no.tr u3,by have:=u3.next;omega,fun x hx=>?_⟩;obtain⟨h1,h2⟩:=u4 x hx;rcases h2 with h2|h2
 ·exact⟨h1,by have:=hS x h2;omega,.inl h2⟩
 ·exact⟨h1,by omega,.inr Fh⟩
def fsA (n:Nat):List Fc:=(List.range n).map (fun i=>([97],[tkI (Fq i)]))
def fsB (m:Nat):List Fc:=(List.range m).map (fun k=>([98],[tkI (Fq (2*k))]))
theorem Joh (n:Nat):fsA (n+1)=fsA n++[([97],[tkI (Fq n)])]:=by unfold fsA;rw[List.range_succ,List.map_append];rfl
theorem Joi (n:Nat):fsB (n+1)=fsB n++[([98],[tkI (Fq (2*n))])]:=by unfold fsB;rw[List.range_succ,List.map_append];rfl
theorem JqH (n m:Nat):fsX n m=fsA n++fsB m:=rfl
theorem Jn1 (C:Codes tab){n m:Nat}{f:Fr}{st:List SI}{Q:Fr→AW→Prop}(hn:n≤20)(hm:m≤20)(hF:CxF f n m)(h:∀f' w' v S,CxF f' n m→f'.get 6=some v→Fcs S w' v (fsX n m)→Frm (fun _=>False) w w'→(∀x,S x→w.next≤x∧x<w'.next)→WS tab (.code Ww::st) f' w' Q): WS tab (.code Yg::st) f w Q:=by
 obtain⟨f0,f1⟩:=hF;refine Fz (by simp only[go_sem,Hn,Yg];rfl) ?_
 refine HT (fun q f w1=>∃i v S U,CxF f n m∧f.get 6=some v∧f.get 7=some (.int .i64 (Fq i))∧FcsB S U w1 v (fsA i)∧(∀x,S x→w.next≤x∧x<w1.next∧¬U x)∧(∀x,U x→w.next≤x∧x<w1.next)∧Frm (fun _=>False) w w1∧i≤n∧q=n-i)
  (fun f w1=>∃v S U,CxF f n m∧f.get 6=some v∧FcsB S U w1 v (fsA n)∧(∀x,S x→w.next≤x∧x<w1.next∧¬U x)∧(∀x,U x→w.next≤x∧x<w1.next)∧Frm (fun _=>False) w w1) ?_ ?_ n
  ⟨0,.nilslice,fun _=>False,fun _=>False,⟨(Fg f0),(Fg f1)⟩,Fb,Fb,FcsB.nil,fun _ h=>h.elim,fun _ h=>h.elim,Frm.refl _,Nat.zero_le _,rfl⟩
 ·rintro q f w1 ⟨i,v,S,U,⟨f0,f1⟩,f6,f7,hB,hS,hU,g,hi,rfl⟩ ih out;by_cases hlt:i<n
  case neg =>
   obtain rfl:i=n:=Fh;refine Hs 1000 (by simp only[go_sem,Wu,f0,f7,hlt];rfl) ?_;exact out _ _ _ ⟨v,S,U,⟨(Fg f0),(Fg f1)⟩,(Fg f6),hB,hS,hU,g⟩ rfl
  refine Fz (by simp only[go_sem,Hn,Wu,Ud,f0,f6,f7,hlt];rfl) ?_;refine Hq Ff Fe ?_;refine JmZ C fun w2 g2=>?_;have n1:=g.next;have n2:=g2.next;have hB2:=hB.frm g2 (fun _ _ h=>h) fun _ _ h=>h;obtain⟨v',w5,S5,u1,u2,u3,u5,u4⟩:=Q4 (nm:=[97]) (k:=Fq i) hB2 (fun x hx=>by have:=hS x hx;omega) (fun x hx=>⟨fun hs=>(hS x hs).2.2 hx,by have:=hU x hx;omega⟩) (by unfold fsA;simp;omega);have hov1:over [V.int .i64 0,V.str [],V.int .i64 0] 0 (tkC (tkI (Fq i)))=some (tkC (tkI (Fq i))):=rfl;have hcc:V.cells (.agg (tkC (tkI (Fq i))))=tkC (tkI (Fq i)):=rfl;have hcc2:V.cells (.agg [V.str [97],.slice w2.next 0 1 (.known 1)])=[V.str [97],.slice w2.next 0 1 (.known 1)]:=rfl;have hel:((w2.fresh (tkC (tkI (Fq i)))).fresh [V.str [97],.slice w2.next 0 1 (.known 1)]).elems 2 (.slice (w2.fresh (tkC (tkI (Fq i)))).next 0 1 (.known 1))=some (1,[V.str [97],.slice w2.next 0 1 (.known 1)]):=Pl Fh rfl;have hov2:over [V.str [],V.nilslice] 0 [V.str [97]]=some [V.str [97],V.nilslice]:=rfl;have hov3:over [V.str [97],V.nilslice] 1 [V.slice w2.next 0 1 (.known 1)]=some [V.str [97],V.slice w2.next 0 1 (.known 1)]:=rfl;have hov4:over [V.str [],V.nilslice] 0 [V.str [97],V.slice w2.next 0 1 (.known 1)]=some [V.str [97],V.slice w2.next 0 1 (.known 1)]:=rfl;have hwr:KX .i64 (Fq i+1)=Fq (i+1):=Hv Fh;refine Fz (by simp only[go_sem,Hn,Hw,HF,hov1,hcc,Bg,hov2,hov3,hov4,hcc2,FC,FD,hel,u1,f6,f7,hwr];rfl) ?_;have n5:=u3.next;refine ih _ _ _ Fh ⟨i+1,v',S5,fun x=>U x∨x=w2.next,⟨(Fg f0),(Fg f1)⟩,Fb,Fb,by rw[Joh];exact u2,fun x hx=>?_,fun x hx=>?_,(g.tr g2).trans u3 (fun _ _ h=>h) fun x hx h=>by have:=(hS x h).1;omega,by omega,rfl⟩
  ·obtain⟨h1,h2,h3⟩:=u4 x hx;refine⟨by rcases h3 with h3|h3;exact (hS x h3).1;omega,h1,fun hh=>?_⟩;rcases hh with hh|hh
   ·rcases h3 with h3|h3
    ·exact (hS x h3).2.2 hh
    ·have:=hU x hh;omega
   ·exact h2 hh
  ·rcases hx with hx|hx
   ·have:=hU x hx;exact⟨this.1,by omega⟩
   ·exact⟨by omega,by omega⟩
 ·rintro f w1 ⟨v,S,U,⟨f0,f1⟩,f6,hB,hS,hU,g⟩;refine Ho 1000 Fe ?_
  refine HT (fun q f w1=>∃i v S U,CxF f n m∧f.get 6=some v∧f.get 8=some (.int .i64 (Fq i))∧FcsB S U w1 v (fsA n++fsB i)∧(∀x,S x→w.next≤x∧x<w1.next∧¬U x)∧(∀x,U x→w.next≤x∧x<w1.next)∧Frm (fun _=>False) w w1∧i≤m∧q=m-i)
   (fun f w1=>∃v S U,CxF f n m∧f.get 6=some v∧FcsB S U w1 v (fsX n m)∧(∀x,S x→w.next≤x∧x<w1.next∧¬U x)∧(∀x,U x→w.next≤x∧x<w1.next)∧Frm (fun _=>False) w w1) ?_ ?_ m
   ⟨0,v,S,U,⟨(Fg f0),(Fg f1)⟩,(Fg f6),Fb,by rw[show fsB 0=[]from rfl,Kb];exact hB,hS,hU,g,Nat.zero_le _,rfl⟩
  ·rintro q f w1 ⟨i,v,S,U,⟨f0,f1⟩,f6,f8,hB,hS,hU,g,hi,rfl⟩ ih out;by_cases hlt:i<m
   case neg =>
    obtain rfl:i=m:=Fh;rw[←JqH]at hB;refine Hs 1000 (by simp only[go_sem,Wv,f1,f8,hlt];rfl) ?_;exact out _ _ _ ⟨v,S,U,⟨(Fg f0),(Fg f1)⟩,(Fg f6),hB,hS,hU,g⟩ rfl
   have hmul:KX .i64 (2*Fq i)=Fq (2*i):=Mh (a:=2) Fh;refine Fz (by simp only[go_sem,Hn,Wv,Ue,f1,hmul,f6,f8,hlt];rfl) ?_;refine Hq Ff Fe ?_;refine JmZ C fun w2 g2=>?_;have n1:=g.next;have n2:=g2.next;have hB2:=hB.frm g2 (fun _ _ h=>h) fun _ _ h=>h;obtain⟨v',w5,S5,u1,u2,u3,u5,u4⟩:=Q4 (nm:=[98]) (k:=Fq (2*i)) hB2 (fun x hx=>by have:=hS x hx;omega) (fun x hx=>⟨fun hs=>(hS x hs).2.2 hx,by have:=hU x hx;omega⟩) (by unfold fsA fsB;simp;omega);have hov1:over [V.int .i64 0,V.str [],V.int .i64 0] 0 (tkC (tkI (Fq (2*i))))=some (tkC (tkI (Fq (2*i)))):=rfl;have hcc:V.cells (.agg (tkC (tkI (Fq (2*i)))))=tkC (tkI (Fq (2*i))):=rfl;have hcc2:V.cells (.agg [V.str [98],.slice w2.next 0 1 (.known 1)])=[V.str [98],.slice w2.next 0 1 (.known 1)]:=rfl;have hel:((w2.fresh (tkC (tkI (Fq (2*i))))).fresh [V.str [98],.slice w2.next 0 1 (.known 1)]).elems 2 (.slice (w2.fresh (tkC (tkI (Fq (2*i))))).next 0 1 (.known 1))=some (1,[V.str [98],.slice w2.next 0 1 (.known 1)]):=Pl Fh rfl;have hov2:over [V.str [],V.nilslice] 0 [V.str [98]]=some [V.str [98],V.nilslice]:=rfl;have hov3:over [V.str [98],V.nilslice] 1 [V.slice w2.next 0 1 (.known 1)]=some [V.str [98],V.slice w2.next 0 1 (.known 1)]:=rfl;have hov4:over [V.str [],V.nilslice] 0 [V.str [98],V.slice w2.next 0 1 (.known 1)]=some [V.str [98],V.slice w2.next 0 1 (.known 1)]:=rfl;have hwr:KX .i64 (Fq i+1)=Fq (i+1):=Hv Fh;refine Fz (by simp only[go_sem,Hn,Hw,HF,hov1,hcc,Bg,hov2,hov3,hov4,hcc2,FC,FD,hel,u1,f6,f8,hwr];rfl) ?_;have n5:=u3.next;refine ih _ _ _ Fh ⟨i+1,v',S5,fun x=>U x∨x=w2.next,⟨(Fg f0),(Fg f1)⟩,Fb,Fb,by rw[Joi,←F5];exact u2,fun x hx=>?_,fun x hx=>?_,(g.tr g2).trans u3 (fun _ _ h=>h) fun x hx h=>by have:=(hS x h).1;omega,by omega,rfl⟩
   ·obtain⟨h1,h2,h3⟩:=u4 x hx;refine⟨by rcases h3 with h3|h3;exact (hS x h3).1;omega,h1,fun hh=>?_⟩;rcases hh with hh|hh
    ·rcases h3 with h3|h3
     ·exact (hS x h3).2.2 hh
     ·have:=hU x hh;omega
    ·exact h2 hh
   ·rcases hx with hx|hx
    ·have:=hU x hx;exact⟨this.1,by omega⟩
    ·exact⟨by omega,by omega⟩
  ·rintro f w1 ⟨v,S,U,⟨f0,f1⟩,f6,hB,hS,hU,g⟩
   exact h f w1 v (fun x=>S x∨U x) ⟨f0,f1⟩ f6 (hB.rd (fun _ h=> .inl h) fun _ h=> .inr h) g fun x hx=>by
    rcases hx with hx|hx
    ·have:=hS x hx;exact⟨this.1,this.2.1⟩
    ·exact hU x hx
end
section
open Go.AE Delphi Val
variable {tab:Tab}
structure Cx2 (f:Fr) (n m:Nat) (fv rv:V):Prop where
 f0:f.get 0=some (.int .i64 (Fq n))
 f1:f.get 1=some (.int .i64 (Fq m))
 f6:f.get 6=some fv
 f9:f.get 9=some rv
theorem Et (m i:Nat):Lj m i≤m:=by
 unfold Lj;have:=Kl (fun k=>decide (i<2*k)) (List.range m)
 rwa [List.length_range]at this
theorem A8 (m i:Nat):Pz m i≤m:=by
 unfold Pz;have:=Kl (fun k=>decide (i=2*k)) (List.range m)
 rwa [List.length_range]at this
theorem II {f:Nat→Nat}{m:Nat}(h:∀i,f i≤m):∀n,K7 f n≤n*m
 | 0=>by simp[K7]
 | n+1=>by
  have:=II h n;have:=h n;unfold K7;rw[Nat.succ_mul];omega
variable {n m:Nat}
theorem Jn0 (C:Codes tab){fv rv:V}{f:Fr}{st:List SI}{Q:Fr→AW→Prop}(hn:n≤20)(hm:m≤20)(hF:Cx2 f n m fv rv)(f10:f.get 10=some (.int .i64 (Fq 0)))(f11:f.get 11=some (.int .i64 (Fq 0)))(f12:f.get 12=some (.int .i64 (Fq 0)))(h:∀f',Cx2 f' n m fv rv→f'.get 10=some (.int .i64 (Fq (crW n m 1)))→f'.get 11=some (.int .i64 (Fq (crW n m 2)))→WS tab st f' w Q): WS tab (.code (.loop Ye) :: .endB 4::st) f w Q:=by
 refine HT (fun q f w1=>∃i,Cx2 f n m fv rv∧f.get 10=some (.int .i64 (Fq (K7 (Lj m) i)))∧f.get 11=some (.int .i64 (Fq (K7 (Pz m) i)))∧f.get 12=some (.int .i64 (Fq i))∧w1=w∧i≤n∧q=n-i)
  (fun f w1=>Cx2 f n m fv rv∧f.get 10=some (.int .i64 (Fq (crW n m 1)))∧f.get 11=some (.int .i64 (Fq (crW n m 2)))∧w1=w) ?_ ?_ n ⟨0,hF,f10,f11,f12,rfl,Nat.zero_le _,rfl⟩
 ·rintro q f w1 ⟨i,⟨f0,f1,f6,f9⟩,f10,f11,f12,rfl,hi,rfl⟩ ih out;by_cases hlt:i<n
  case neg =>
   obtain rfl:i=n:=Fh;refine Hs 1000 (by simp only[go_sem,Ye,f0,f12,hlt];rfl) ?_;exact out _ _ _ ⟨⟨(Fg f0),(Fg f1),(Fg f6),(Fg f9)⟩,(Fg f10),(Fg f11),rfl⟩ rfl
  have hsl:=II (Et m) i;have hsb:=II (A8 m) i;have him:i*m≤400:=Nat.mul_le_mul (show i≤20 by omega) hm;refine Fz (by simp only[go_sem,Hn,Ye,Uh,f0,f12,hlt];rfl) ?_
  refine HT (fun q f w2=>∃k,Cx2 f n m fv rv∧f.get 10=some (.int .i64 (Fq (K7 (Lj m) i+Lj k i)))∧f.get 11=some (.int .i64 (Fq (K7 (Pz m) i+Pz k i)))∧f.get 12=some (.int .i64 (Fq i))∧f.get 13=some (.int .i64 (Fq k))∧w2=w1∧k≤m∧q=m-k)
   (fun f w2=>Cx2 f n m fv rv∧f.get 10=some (.int .i64 (Fq (K7 (Lj m) (i+1))))∧f.get 11=some (.int .i64 (Fq (K7 (Pz m) (i+1))))∧f.get 12=some (.int .i64 (Fq i))∧w2=w1) ?_ ?_ m ⟨0,⟨(Fg f0),(Fg f1),(Fg f6),(Fg f9)⟩,(Fg f10),(Fg f11),(Fg f12),Fb,rfl,Nat.zero_le _,rfl⟩
  ·rintro q f w2 ⟨k,⟨f0,f1,f6,f9⟩,f10,f11,f12,f13,rfl,hk,rfl⟩ ih2 out2;by_cases hkm:k<m
   case neg =>
    obtain rfl:k=m:=Fh;refine Hs 1000 (by simp only[go_sem,Zt,f1,f13,hkm];rfl) ?_;exact out2 _ _ _ ⟨⟨(Fg f0),(Fg f1),(Fg f6),(Fg f9)⟩,(Fg f10),(Fg f11),(Fg f12),rfl⟩ rfl
   have hmul:KX .i64 (2*Fq k)=Fq (2*k):=Mh (a:=2) Fh;have hl1:=Et k i;have hb1:=A8 k i;have hw10:KX .i64 (Fq (K7 (Lj m) i+Lj k i)+1)=Fq (K7 (Lj m) i+Lj k i+1):=Hv Fh;have hw11:KX .i64 (Fq (K7 (Pz m) i+Pz k i)+1)=Fq (K7 (Pz m) i+Pz k i+1):=Hv Fh;have hwr:KX .i64 (Fq k+1)=Fq (k+1):=Hv Fh;by_cases hl:i<2*k
   ·have he:¬i=2*k:=Fh;have heb:(Fq i==Fq (2*k))=false:=beq_eq_false_iff_ne.2 fun h=>he (Int.ofNat.inj h);have e1:Lj (k+1) i=Lj k i+1:=by rw[Ri,if_pos hl]
    have e2:Pz (k+1) i=Pz k i:=by rw[Ay,if_neg he];rfl
    refine Fz (by simp only[go_sem,Hn,Zt,Yd,Uf,f1,f10,f12,f13,hkm,hmul,hl,heb,he,hw10,hwr];rfl) ?_;exact ih2 _ _ _ Fh ⟨k+1,⟨(Fg f0),(Fg f1),(Fg f6),(Fg f9)⟩,by rw[e1,←Ki];exact Fb,by rw[e2];exact (Fg f11),(Fg f12),Fb,rfl,by omega,rfl⟩
   ·have e1:Lj (k+1) i=Lj k i:=by rw[Ri,if_neg hl];rfl
    by_cases he:i=2*k
    ·have heb:(Fq i==Fq (2*k))=true:=by rw[he];exact beq_self_eq_true _
     have e2:Pz (k+1) i=Pz k i+1:=by rw[Ay,if_pos he]
     refine Fz (by simp only[go_sem,Hn,Zt,Yd,Ug,f1,f11,f12,f13,hkm,hmul,hl,heb,hw11,hwr];rfl) ?_;exact ih2 _ _ _ Fh ⟨k+1,⟨(Fg f0),(Fg f1),(Fg f6),(Fg f9)⟩,by rw[e1];exact (Fg f10),by rw[e2,←Ki];exact Fb,(Fg f12),Fb,rfl,by omega,rfl⟩
    ·have heb:(Fq i==Fq (2*k))=false:=beq_eq_false_iff_ne.2 fun h=>he (Int.ofNat.inj h);have e2:Pz (k+1) i=Pz k i:=by rw[Ay,if_neg he];rfl
     refine Fz (by simp only[go_sem,Hn,Zt,Yd,f1,f12,f13,hkm,hmul,hl,heb,he,hwr];rfl) ?_;exact ih2 _ _ _ Fh ⟨k+1,⟨(Fg f0),(Fg f1),(Fg f6),(Fg f9)⟩,by rw[e1];exact (Fg f10),by rw[e2];exact (Fg f11),(Fg f12),Fb,rfl,by omega,rfl⟩
  ·rintro f w2 ⟨⟨f0,f1,f6,f9⟩,f10,f11,f12,rfl⟩;have hwr:KX .i64 (Fq i+1)=Fq (i+1):=Hv Fh;refine Fz (by simp only[go_sem,Hn,f12,hwr];rfl) ?_;exact ih _ _ _ Fh ⟨i+1,⟨(Fg f0),(Fg f1),(Fg f6),(Fg f9)⟩,(Fg f10),(Fg f11),Fb,rfl,by omega,rfl⟩
 ·rintro f w1 ⟨hF,f10,f11,rfl⟩;exact h f hF f10 f11
theorem Jq7 (hn:n≤20)(hm:m≤20):FcsL (fsX n m):=by
 refine⟨by unfold fsX;simp;omega,fun f hf=>?_,fun f hf g hg _=>?_⟩
 ·obtain⟨nm,l⟩:=f
  have e:(nm=[97]∨nm=[98])∧∃k,l=[tkI k]:=by
   unfold fsX at hf;rcases List.mem_append.1 hf with hf|hf
   ·obtain⟨i,_,e⟩:=List.mem_map.1 hf;cases e;exact⟨.inl rfl,_,rfl⟩
   ·obtain⟨i,_,e⟩:=List.mem_map.1 hf;cases e;exact⟨.inr rfl,_,rfl⟩
  obtain⟨e1,k,rfl⟩:=e;refine⟨by simp,by rcases e1 with rfl|rfl<;>simp,fun t ht=>?_⟩;simp only[FJ,FZ,or_false]at ht;subst ht;exact⟨by simp[tkI],by simp[tkI]⟩
 ·have e:∀f∈fsX n m,f.2.length=1:=fun f hf=>by
   unfold fsX at hf;rcases List.mem_append.1 hf with hf|hf
   ·obtain⟨i,_,e⟩:=List.mem_map.1 hf;cases e;rfl
   ·obtain⟨i,_,e⟩:=List.mem_map.1 hf;cases e;rfl
  rw[e f hf,e g hg]
theorem Jq8 (hn:n≤20)(hm:m≤20):Jql (fsX n m):=by
 intro f hf t ht
 have tk:∀k:Nat,k≤100→HV (tkI (Fq k))=true:=fun k hk=>by
  have h1:(-2147483648:Int)≤Fq k:=by have:=Int.natCast_nonneg k;show (-2147483648:Int)≤(k:Int);omega
  have h2:Fq k≤2147483648:=by show (k:Int)≤2147483648;omega
  show (decide (([]:List Nat)=[])&&(decide (-2147483648≤Fq k)&&decide (Fq k≤2147483648)))=true;rw[decide_eq_true h1,decide_eq_true h2];rfl
 unfold fsX at hf;rcases List.mem_append.1 hf with hf|hf
 ·obtain⟨i,hi,e⟩:=List.mem_map.1 hf;cases e;simp only[FJ,FZ,or_false]at ht;subst ht;have:=List.mem_range.1 hi;exact tk i Fh
 ·obtain⟨i,hi,e⟩:=List.mem_map.1 hf;cases e;simp only[FJ,FZ,or_false]at ht;subst ht;have:=List.mem_range.1 hi;exact tk (2*i) Fh
theorem JnX {i:Nat}{M:Le}(hn:n≤20)(hm:m≤20)(hi:i<4)(hG:RG (crR i))(hT:LaidT ts M (fsX n m))(hts:ts.length≤60000)(hlen:∀nm x,Hr M nm=some x→x.1≤4∧x.2.length≤1000000):(Pw (crR i) (-1) none (fun nm=>Hr M nm) (-1) ts).rows.length=crW n m i:=by
 have hsf:LF (crR i)=true:=by
  match i,hi with
  | 0,_=>exact Iz _ (by decide)
  | 1,_=>exact Iz _ (by decide)
  | 2,_=>exact Iz _ (by decide)
  | 3,_=>exact Iz _ (by decide)
 have e:=Jl3 hG hsf hT hts hlen (JqC n m i) (crH n m i hi);obtain⟨c0,c1,c2,c3,_⟩:=Jmx n Fh m Fh;rw[e]
 match i,hi with
 | 0,_=>exact c0
 | 1,_=>exact c1
 | 2,_=>exact c2
 | 3,_=>exact c3
theorem Jmw {i:Nat}(hn:n≤20)(hm:m≤20)(hi:i<4):crW n m i≤400:=by
 have hnm:n*m≤20*20:=Nat.mul_le_mul hn hm
 match i,hi with
 | 0,_=>show n*m≤400;omega
 | 1,_=>have:=II (Et m) n;show K7 (Lj m) n≤400;omega
 | 2,_=>have:=II (A8 m) n;show K7 (Pz m) n≤400;omega
 | 3,_=>show n-K7 (Pz m) n≤400;omega
abbrev CxK (K:V→AW→Prop):Fr→AW→Prop:=fun f w=>∃vs,PQ f w Jv.results=some vs∧K (H7 vs) w
theorem Jn2 (C:Codes tab)(I:Bi tab)(P:O0 tab){T Sf:Fw}{wb b o:Nat}{c:Cap}{fv:V}{rs:List Rl}{f:Fr}{K:V→AW→Prop}(hn:n≤20)(hm:m≤20)(hrs:rs=[crC,crD,crE,crF])(hG:∀r∈rs,RG r)(hq2:RdL (RlC T) T w (.slice b o rs.length c) 4 rs)(hTl:∀x,T x→x<w.next)(hF:Fcs Sf w fv (fsX n m))(hSf:∀x,Sf x→x<w.next)(hwb:CB w wb [.int .i64 (Fq (crW n m 0)),.int .i64 (Fq (crW n m 1)),.int .i64 (Fq (crW n m 2)),.int .i64 (Fq (crW n m 3))])(f6:f.get 6=some fv)(f9:f.get 9=some (.slice b o rs.length c))(f14:f.get 14=some (.slice wb 0 4 (.known 4)))(f15:f.get 15=some (.int .i64 (Fq 0)))(h:∀f' w',Frm (fun _=>False) w w'→WS tab [.code (.seq (.region [⟨some 4,none,.mov (.const (.bool true))⟩]) .ret)] f' w' (CxK K)): WS tab [.code (.loop Yf),.endB 8,.code (.seq (.region [⟨some 4,none,.mov (.const (.bool true))⟩]) .ret)] f w (CxK K):=by
 have h4:rs.length=4:=by rw[hrs];rfl
 have hlv:=TC hq2;have hFL:=Jq7 hn hm;have hFM:=Jq8 hn hm;have hfl:(fsX n m).length≤40:=by unfold fsX;simp;omega
 have hwbl:=hwb.lt;refine HT (fun q f w1=>∃i,f.get 6=some fv∧f.get 9=some (.slice b o rs.length c)∧f.get 14=some (.slice wb 0 4 (.known 4))∧f.get 15=some (.int .i64 (Fq i))∧Frm (fun _=>False) w w1∧i≤4∧q=4-i) (fun f w1=>Frm (fun _=>False) w w1) ?_ ?_ 4 ⟨0,f6,f9,f14,f15,Frm.refl _,Nat.zero_le _,rfl⟩
 ·rintro q f w1 ⟨i,f6,f9,f14,f15,g,hi,rfl⟩ ih out;by_cases hlt:i<4
  case neg =>
   refine Hs 1000 (by simp only[go_sem,Yf,f15,hlt];rfl) ?_;exact out _ _ _ g rfl
  have hil:i<rs.length:=Fh;obtain⟨r,hr⟩:∃r,rs[i]? = some r:=⟨_,FB hil⟩;have hrm:=FI hr;have hGr:=hG r hrm;have hsf:LF r=true:=Iz r (by rw[←hrs];exact hrm)
  have hri:r=crR i:=by
   rw[hrs]at hr
   match i,hlt,hr with
   | 0,_,hr=>cases hr;rfl
   | 1,_,hr=>cases hr;rfl
   | 2,_,hr=>cases hr;rfl
   | 3,_,hr=>cases hr;rfl
  obtain⟨b',o',c',xs,e,hxs0,stay⟩:=JoR hq2 hr;cases e;have stay:=fun (w':AW) (g':Frm (fun _=>False) w w')=>stay (fun _=>False) w' g' fun _ _ h=>h
  have hwl:∀(R:Fw) (w':AW),Frm R w w'→¬R wb→w'.load wb (0+i*1) 1=some [.int .i64 (Fq (crW n m i))]:=fun R w' g' hR=>by
   have hc:=hwb.frm g' hR;rw[FU,KA]
   match i,hlt with
   | 0,_=>exact CB.ld hc 0 1 _ rfl
   | 1,_=>exact CB.ld hc 1 1 _ rfl
   | 2,_=>exact CB.ld hc 2 1 _ rfl
   | 3,_=>exact CB.ld hc 3 1 _ rfl
  have n1:=g.next;have hwr:KX .i64 (Fq i+1)=Fq (i+1):=Hv Fh;refine Fz (by simp only[go_sem,Hn,Yf,Uj,f15,hlt];rfl) ?_;refine Hq Ff Fe ?_;refine new_ok C fun w4 ht4 g4=>?_;have n4:=g4.next;have hT4l:=ht4.a.lt;have g24:=g.tr g4;obtain⟨_,a44,hxs4⟩:=stay w4 g24;have b44:=hwl _ _ g24 fun h=>h;refine Fz (by simp only[go_sem,Hn,Ui];rfl) ?_;refine Pg ?_;refine HQ 100 (by simp only[go_sem,Hn,f6,f9,f15,hil,a44];rfl) ?_;refine Pp Ff Fe ?_;refine JkF C P (hF.frm g24 fun _ _ h=>h) hFL (fun x hx=>⟨by have:=hSf x hx;omega,fun h=>h,by have:=hSf x hx;omega,by have:=hSf x hx;omega⟩) ht4 Fj fun w5 sm b5 tv5 S5 MV Sx t5 L5 hsm=>?_;have hLT:=(RX (ts:=[]) ⟨List.nodup_nil,by simp⟩ hFL hFM).2;have hLl:=(Cy (ts:=[]) hFL).2;have hln:=Jou (ts:=[]) hFL;generalize HO [] (fsX n m)=ld at t5 L5 hLT hLl hln;obtain⟨ts,M⟩:=ld;simp only at t5 L5 hLT hLl hln;simp only[FD,FU]at hLl;have n5:=L5.f.next
  have g5:Frm (fun _=>False) w1 w5:=g4.trans L5.f (fun _ _ h=>h) fun x hx h=>by
   rcases h with h|h|h
   ·exact h
   ·omega
   ·omega
  have g25:=g.tr g5;obtain⟨pt5,a45,hxs5⟩:=stay w5 g25;have b45:=hwl _ _ g25 fun h=>h;have hsml:=L5.lw.pm.lt;have n25:=g25.next
  have hO:∀x,(I4 sm Sx x∨T x)→x<w5.next∧¬S5 x∧x≠w1.next+1∧x≠w1.next:=by
   rintro x ((rfl|⟨n,hn⟩)|hx)
   ·exact⟨by omega,fun hs=>(L5.ss _ hs).1 rfl,L5.ne.1,L5.ne.2.1⟩
   ·have h1:=L5.sd n x hn;have h2:=L5.lw.lo n x hn;exact⟨by omega,h1.1,h1.2.1,h1.2.2.1⟩
   ·have h1:=hTl x hx;refine⟨by omega,fun hs=>?_,by omega,by omega⟩;rcases L5.s x hs with h|h
    ·exact h
    ·omega
  have hlen:∀(nm:List Nat) (x:Nat×List (List Int)),(none=some x∨Hr M nm=some x)→x.1≤4∧x.2.length≤1000000:=fun nm x h=>h.elim (fun h=>by cases h) (hln nm x);have hsb:=EH (dq:=none) hGr hLT Fh (fun x h=>by cases h) hlen;have hcount:(Pw r (-1) none (fun nm=>Hr M nm) (-1) ts).rows.length=crW n m i:=by rw[hri]at hGr ⊢;exact JnX hn hm hlt hGr hLT Fh hln
  have hle:=Jmw hn hm hlt;refine HQ 100 Fe ?_;refine Pp Ff Fe ?_;refine QU (O:=fun x=>I4 sm Sx x∨T x) C I P hsb Jnk (by obtain⟨v,u,e1,e2,e3⟩:=hxs5;exact⟨v,u,e1,e2.mono fun _ h=> .inr h,TD e3 fun _ h=> .inr h⟩) t5 (Rh C L5 (fun _ h=> .inl h) fun x hx=>(hO x hx).1) hO Fh (fun hok=>by omega) (fun hno w6 g6=>absurd (okPl_safe.2 hsf) hno) fun hok v w6 tv6 S6 cs S7 T7 t6 g6 s6 hL6 hd6 hrw=>?_;generalize Pw r (-1) none (fun nm=>Hr M nm) (-1) ts=sj at t6 hL6 hcount hrw;have hvl:=(JmT hL6).lenV;rw[hcount]at hvl;have n6:=g6.next
  have g6':Frm (fun _=>False) w1 w6:=g5.trans g6 (fun _ _ h=>h) fun x hx h=>by
   rcases h with h|h|h
   ·rcases L5.s x h with h|h
    ·exact h
    ·omega
   ·omega
   ·omega
  have g26:=g.tr g6';obtain⟨pt6,a46,hxs6⟩:=stay w6 g26;have b46:=hwl _ _ g26 fun h=>h;have hne:(Fq (crW n m i) != Fq (crW n m i))=false:=Fj;refine HQ 100 (by simp only[go_sem,Hn,hvl,f14,f15,hlt,b46,hne];rfl) ?_;refine Pk ⟨(show HP _ _ [(3,7),(14,7),(14,9)]from by simp only[go_sem,Hn,HP,chk,List.reverse_cons,List.reverse_nil,H9,Po,Pm,Pn,List.getElem?_nil,false_or,or_true,or_false,exists_eq',FP,Prod.mk.injEq,Bool.true_eq_false,FM,and_true,true_and,implies_true,a44,a45,b44,b45,b46,f14,f15,hlt]),?_⟩;refine Fz (by simp only[go_sem,Hn,f15,hwr];rfl) ?_;exact ih _ _ _ Fh ⟨i+1,(Fg f6),(Fg f9),(Fg f14),Fb,g26,by omega,rfl⟩
 ·rintro f w1 g;exact h f w1 g
end
end Go.Proofs.YtegdcbdicpfbpaaDoor
