/- A part of the proof. -/
import Derived.Test.YtegdcbdicpfbpaaGreatDoorJrU
import Derived.Test.YtegdcbdicpfbpaaGreatDoorJrI
import Derived.Test.YtegdcbdicpfbpaaGreatDoorJrK
import Derived.HandedShaped
import Derived.Stop.Joined
set_option linter.unusedVariables false
set_option maxRecDepth 10000
set_option linter.unusedSimpArgs false
namespace Go.Proofs.YtegdcbdicpfbpaaGreatDoor
open Go.AE Delphi Val
variable {tab:Tab}
variable {ts:List Tk}
theorem JpP (hg:TsGood ts)(nm:List Nat):∀(rows:Fy),(∀r∈rows,∀n∈r,1≤n∧n≤(ts.length:Int))→JdW (JcS ts nm rows)∧Je4 (JcS ts nm rows)∧∀f,f∈JcS ts nm rows↔∃r∈rows,f=(nm,r.map (Jbq ts)):=by
 have hm:∀r:List Int,(∀n∈r,1≤n∧n≤(ts.length:Int))→JeE (nm,r.map (Jbq ts)):=fun r hr c hc=>by
  obtain⟨n,hn,rfl⟩:=List.mem_map.1 hc;have:=hr n hn;exact hg.may _ (JiM this.1 this.2)
 have:∀(rows:Fy) (o:List Fc),(∀r∈rows,∀n∈r,1≤n∧n≤(ts.length:Int))→JdW o→Je4 o→JdW (rows.foldl (fun o r=>JcF o (nm,r.map (Jbq ts))) o)∧Je4 (rows.foldl (fun o r=>JcF o (nm,r.map (Jbq ts))) o)∧∀f,f∈rows.foldl (fun o r=>JcF o (nm,r.map (Jbq ts))) o↔(f∈o∨∃r∈rows,f=(nm,r.map (Jbq ts))):=by
  intro rows;induction rows with
  | nil=>intro o _ h1 h2;exact⟨h1,h2,fun f=>by simp⟩
  | cons r rows ih =>
   intro o hr h1 h2;have hmr:=hm r (hr r Fj);obtain⟨q1,q2,q3⟩:=ih (JcF o (nm,r.map (Jbq ts))) (fun x hx=>hr x (FO _ hx)) (Jmu h1 hmr) (Jlg h1 hmr h2);rw[Ku];refine⟨q1,q2,fun f=>?_⟩;rw[q3 f,Jmv h1 hmr];constructor
   ·rintro ((h|h)|⟨x,hx,h⟩)
    ·exact .inl h
    ·exact .inr ⟨r,by simp,h⟩
    ·exact .inr ⟨x,FO _ hx,h⟩
   ·rintro (h|⟨x,hx,h⟩)
    ·exact .inl (.inl h)
    ·rcases List.mem_cons.1 hx with rfl|hx
     ·exact .inl (.inr h)
     ·exact .inr ⟨x,hx,h⟩
 intro rows hr;obtain⟨q1,q2,q3⟩:=this rows [] hr (by simp[JdW]) List.Pairwise.nil;exact⟨q1,q2,fun f=>by rw[show JcS ts nm rows=rows.foldl (fun o r=>JcF o (nm,r.map (Jbq ts))) []from rfl,q3 f];simp⟩
theorem Jin:∀{l:List Fc},JdW l→JcW l l=true
 | [],_=>rfl
 | a::l,h=>by
  unfold JcW;rw[(Jfa (h a Fj) (h a Fj)).2 rfl,Jin fun x hx=>h x (FO _ hx)];rfl
theorem Jqx {r:Rl}{first:Int}{M:Jd6}{dq:Option (Nat×List (List Int))}{l delta out:List Fc}(hG:RG r)(hok:Jdq r first)(hT:LaidT ts M l)(hlm:JdW l)(hdm:JdW delta)(hts:ts.length≤60000)(hd:∀i,Int.ofNat i=first→∀args,fsT ts dq args↔((Ja8 r.body i).name,args)∈delta)(hdr:∀x,dq=some x→∀r∈x.2,r.length=x.1∧∀n∈r,1≤n∧n≤(ts.length:Int))(hlen:∀nm x,(dq=some x∨Ja1 M nm=some x)→x.1≤4∧x.2.length≤1000000)(hw:JgK r l first delta=some out): SomeB r dq (fun nm=>Ja1 M nm)∧JdW out∧(JbV r first dq (fun nm=>Ja1 M nm) (-1) ts).rows.length≤4000∧TsGood (JbV r first dq (fun nm=>Ja1 M nm) (-1) ts).ts∧(JbV r first dq (fun nm=>Ja1 M nm) (-1) ts).ts.length≤ts.length+80∧ (∀x∈(JbV r first dq (fun nm=>Ja1 M nm) (-1) ts).rows,∀n∈x,1≤n∧n≤((JbV r first dq (fun nm=>Ja1 M nm) (-1) ts).ts.length:Int))∧JcS (JbV r first dq (fun nm=>Ja1 M nm) (-1) ts).ts r.head.name (JbV r first dq (fun nm=>Ja1 M nm) (-1) ts).rows=out:=by
 obtain⟨g1,g2,g3,g4,g5⟩:=JnF hG
 have hR:RowsIn ts dq (fun nm=>Ja1 M nm):=⟨fun nm x hx r hr=>by
  rcases hx with hx|hx
  ·exact hdr x hx r hr
  ·exact hT.rng nm x hx r hr⟩
 have hB:SomeB r dq (fun nm=>Ja1 M nm):=⟨g4,g5,g3,fun t ht hk=>(g1 t ht hk).2,fun l hl t ht hk=>⟨(g2 l hl t ht hk).2,(g2 l hl t ht hk).1⟩,fun nm x hx=>(hlen nm x (.inr hx)).1,fun nm x hx=>⟨(hlen nm x hx).2,fun r hr=>by
  have:=hR.rl nm x hx r hr;exact⟨this.1,fun n hn=>by have:=this.2 n hn;omega⟩⟩⟩
 have hgm:∀t∈r.head.args,t.kind≠1→Jbd (Jbb t)=true:=fun t ht hk=>(g1 t ht hk).1;obtain⟨⟨y,s1⟩,s2,s3,s4,s5⟩:=JtH (first:=first) (most:=-1) hB hgm hR hok hts hT.good;have s5:=s5 rfl
 have hfk:∀i,Int.ofNat i=first→i<r.body.length→(Ja8 r.body i).kind=1:=fun i hi hl=>by
  have:=hok.2.2.2 (by rw[←hi];exact Int.natCast_nonneg i);rw[←hi]at this;exact this
 obtain⟨o1,o2,o3,o4⟩:=Jty hw hok.1 hlm hdm hgm (fun l hl t ht hk=>(g2 l hl t ht hk).1) hfk
 have same:∀h,Ji5 r (fun i=>fsT ts (if Int.ofNat i=first then dq else Ja1 M (Ja8 r.body i).name)) h↔Ji5 r (fun i args=>((Ja8 r.body i).name,args)∈(if Int.ofNat i=first then delta else l)) h:=by
  intro h
  have e:∀i args,fsT ts (if Int.ofNat i=first then dq else Ja1 M (Ja8 r.body i).name) args↔((Ja8 r.body i).name,args)∈(if Int.ofNat i=first then delta else l):=by
   intro i args;by_cases hi:Int.ofNat i=first
   ·rw[if_pos hi,if_pos hi];exact hd i hi args
   ·rw[if_neg hi,if_neg hi];exact hT.mem _ args
  have e2:(fun i=>fsT ts (if Int.ofNat i=first then dq else Ja1 M (Ja8 r.body i).name))=(fun i args=>((Ja8 r.body i).name,args)∈(if Int.ofNat i=first then delta else l)):=by
   funext i args;exact propext (e i args)
  rw[e2]
 obtain⟨f1,f2,f3⟩:=JpP s2 r.head.name _ s3
 have hmem:∀f,f∈JcS (JbV r first dq (fun nm=>Ja1 M nm) (-1) ts).ts r.head.name (JbV r first dq (fun nm=>Ja1 M nm) (-1) ts).rows↔f∈out:=by
  intro f;rw[f3 f,o4 f];constructor
  ·rintro⟨x,hx,rfl⟩;exact⟨_,(same _).1 (s4 _ (List.mem_map.2 ⟨x,hx,rfl⟩)),rfl⟩
  ·rintro⟨h,hh,rfl⟩;obtain⟨x,hx,rfl⟩:=List.mem_map.1 (s5 h ((same h).2 hh));exact⟨x,hx,rfl⟩
 have hnd:(JbV r first dq (fun nm=>Ja1 M nm) (-1) ts).rows.Nodup:=JfC _ _ _ _ _ List.nodup_nil;have hnd2:=Jh6 s2 hnd s3
 have hle:(JbV r first dq (fun nm=>Ja1 M nm) (-1) ts).rows.length≤4000:=by
  have:((JbV r first dq (fun nm=>Ja1 M nm) (-1) ts).rows.map fun x=>x.map (Jbq (JbV r first dq (fun nm=>Ja1 M nm) (-1) ts).ts)).length≤(out.map Prod.snd).length:=by
   refine JeO hnd2 fun c hc=>?_;obtain⟨x,hx,rfl⟩:=List.mem_map.1 hc;exact List.mem_map.2 ⟨_,(hmem _).1 ((f3 _).2 ⟨x,hx,rfl⟩),rfl⟩
  rw[F9,F9]at this;omega
 have htl:(JbV r first dq (fun nm=>Ja1 M nm) (-1) ts).ts.length≤ts.length+80:=by
  have h1:=JjK (E:=Jc7 r first dq (fun nm=>Ja1 M nm) (-1)) (ts0:=Jdh ts r.body) (cs:=JpA r) (fun t ht hk=>List.mem_map.2 ⟨t,List.mem_append_left _ ht,rfl⟩) (fun l hl t ht hk=>List.mem_map.2 ⟨t,List.mem_append_right _ (List.mem_flatMap.2 ⟨l,hl,ht⟩),rfl⟩) (Jby r first).1.length 0 [] ⟨Jdh ts r.body,[],[]⟩ (TsIn.refl _ _);have h2:=h1.len;have h3:=JmL g4;have h4:=JhA (ts:=ts) (n:=5) g4.args;have h5:=g4.body;show (Jce (Jc7 r first dq (fun nm=>Ja1 M nm) (-1)) (Jby r first).1.length 0 [] ⟨Jdh ts r.body,[],[]⟩).ts.length≤_;omega
 exact⟨hB,o1,hle,s2,htl,s3,Jlz f2 o2 hmem⟩
theorem Jne (C:Codes tab)(I:JgB tab)(P:Jhe tab){r:Rl}{xs:List V}{sets:List Nat→Option (Nat×List (List Int))}{sty sfn tb mb:Nat}{sv tv:V}{O S:Fw}{w:AW}{K:V→AW→Prop}(hb:SomeB r none sets)(hsl:JbF [(41,Js,none)] sty=some (sfn,none))(hr:RlC O w r xs)(hT:TabW tb mb tv S ts w)(hst:JiS tab O w sfn sv sets)(hO:∀x,O x→x<w.next∧¬S x∧x≠tb∧x≠mb)(hts:ts.length≤60000)(hrl:Jdq r (-1)→(JbV r (-1) none sets (-1) ts).rows.length≤1000000)(h1:¬Jdq r (-1)→∀w',Frm (fun _=>False) w w'→K .nilslice w')(h2:Jdq r (-1)→∀v w' tv' S' cs S1 T1,TabW tb mb tv' S' (JbV r (-1) none sets (-1) ts).ts w'→Frm (fun x=>S x∨x=tb∨x=mb) w w'→(∀x,S' x→S x∨w.next≤x)→Rel.ListOf w.next w' v (JbV r (-1) none sets (-1) ts).rows cs S1 T1→(∀x,S1 x∨T1 x→¬S' x)→Rel.Rise (JbV r (-1) none sets (-1) ts).rows∧(∀x∈(JbV r (-1) none sets (-1) ts).rows,x.length=r.head.args.length)→K v w'): WF tab VB [.agg xs,.ptr tb 0,.iface sty sv] w K:=by
 refine Ja7 C.Y0 rfl ?_;have hxl:=hr.one;obtain⟨w1,e1,c1,r1,m1⟩:=Jb8 w xs;have k4:w1.load w.next 0 4=some xs:=c1.all hxl.1;have hcx:V.cells (.agg xs)=xs:=rfl;refine Fz (by simp only[go_sem,JaX,simprocAttr,ZS,Hm,hcx,e1,k4];rfl) ?_;refine Ja0 Ff Fe ?_;have hS:=hT.s;refine Ju0 C I P hb hsl rfl (hr.frm r1 fun _ _ h=>h) (hT.step0 r1) (fun R w' g hd nm K hK=>hst R w' (r1.no.tr g) hd nm K hK) (show SetQ O w1 .nilptr none from rfl) (fun x hx=>⟨by have:=(hO x hx).1;omega,(hO x hx).2⟩) hts hrl (fun hno w2 g2=>?_) fun hok v w2 tv2 S2 cs S1 T1 q1 q2 q3 q4 q5 q6=>?_
 ·refine JaY 1000 Fe ?_;refine JaZ ⟨_,by simp only[go_sem,JaX,simprocAttr,ZS];rfl,?_⟩;exact h1 hno w2 (r1.tr g2)
 ·refine JaY 1000 Fe ?_;refine JaZ ⟨_,by simp only[go_sem,JaX,simprocAttr,ZS];rfl,?_⟩;exact h2 hok v w2 tv2 S2 cs S1 T1 q1 (r1.no.tr q2) (fun x hx=>by rcases q3 x hx with h|h;exact .inl h;right;omega) (q4.weaken Fh) q5 q6
section
open Go.AE Delphi Val
variable {tab:Tab}
theorem JnN {r:Rl}{M:Jd6}{dq:Option (Nat×List (List Int))}{l:List Fc}(hG:RG r)(hT:LaidT ts M l)(hts:ts.length≤60000)(hdr:∀x,dq=some x→∀r∈x.2,r.length=x.1∧∀n∈r,1≤n∧n≤(ts.length:Int))(hlen:∀nm x,(dq=some x∨Ja1 M nm=some x)→x.1≤4∧x.2.length≤1000000):SomeB r dq (fun nm=>Ja1 M nm):=by
 obtain⟨g1,g2,g3,g4,g5⟩:=JnF hG;refine⟨g4,g5,g3,fun t ht hk=>(g1 t ht hk).2,fun l hl t ht hk=>⟨(g2 l hl t ht hk).2,(g2 l hl t ht hk).1⟩,fun nm x hx=>(hlen nm x (.inr hx)).1,fun nm x hx=>⟨(hlen nm x hx).2,fun r hr=>?_⟩⟩;rcases hx with hx|hx
 ·have:=hdr x hx r hr;exact⟨this.1,fun n hn=>by have:=this.2 n hn;omega⟩
 ·have:=hT.rng nm x hx r hr;exact⟨this.1,fun n hn=>by have:=this.2 n hn;omega⟩
theorem okPl_safe {r:Rl}:Jdq r (-1)↔Jc0 r=true:=⟨fun h=>h.1,fun h=>⟨h,by decide,by omega,fun h0=>absurd h0 (by decide)⟩⟩
def Jkf (sm:Nat) (Sf:List Nat→Fw) (x:Nat):Prop:=x=sm∨∃n,Sf n x
theorem JkA (C:Codes tab){B sm tb mb b5:Nat}{w0 w:AW}{S0 S O:Fw}{M:Jd6}{MV:List (List Nat×V)}{Sf:List Nat→Fw}(h:LaidS B sm tb mb b5 w0 w S0 S M MV Sf)(ho:∀x,Jkf sm Sf x→O x)(hO:∀x,O x→x<w.next):JiS tab O w Js (.agg [.map sm]) (fun nm=>Ja1 M nm):=by
 intro R w' g hd nm K hK;refine Jot C (h.lw.pm.frm g (hd _ (ho _ (.inl rfl)))) fun w2 g2=>hK w2 _ g2 ?_;have gn:=g.next;have gn2:=g2.next;show SetQ O w2 ((Ja1 MV nm).getD .nilptr) (Ja1 M nm);cases hg:Ja1 M nm with
 | none=>rw[h.lw.key nm hg];rfl
 | some x =>
  obtain⟨p,hp,hs⟩:=h.lw.set nm x hg;rw[hp];show SetQ O w2 p (some x);have h1:SetQ (Sf nm) w2 p (some x):=(hs.frm g fun y hy=>hd _ (ho _ (.inr ⟨nm,hy⟩))).frm g2 fun _ _ h=>h;exact h1.mono (fun y hy=>ho _ (.inr ⟨nm,hy⟩)) fun y hy=>by have:=hO y hy;omega
theorem JrW:JbF [(41,Js,none)] 41=some (Js,none):=rfl
def bgT13:List Nat:=[112,40,88,41,32,58,45,32,113,40,88,41,44,32,33,114,40,88,41,46]
def Jhm:Rl:=⟨⟨1,[112],[⟨1,[88],0⟩]⟩,[⟨1,[113],[⟨1,[88],0⟩]⟩,⟨2,[114],[⟨1,[88],0⟩]⟩]⟩
theorem Jln:(JdD (bgT13.take 1200)).1=[Jhm]:=by decide +kernel
def Jhk:Fc:=([113],[⟨3,[],5⟩])
def Jhl:Jd6:=[([113],(1,[[1]]))]
def Je7:List Tk:=[⟨3,[],5⟩]
theorem Jlm:Jbu [] [Jhk]=(Je7,Jhl):=by decide +kernel
theorem JqL:Jc0 Jhm=true:=by decide +kernel
theorem bg13_some:(JbV Jhm (-1) none (fun nm=>Ja1 Jhl nm) (-1) Je7).rows=[[1]]∧(JbV Jhm (-1) none (fun nm=>Ja1 Jhl nm) (-1) Je7).ts=Je7:=by decide +kernel
theorem Jpp (C:Codes tab)(I:JgB tab)(P:Jhe tab){aw:AW}{K:V→AW→Prop}(h:∀w,Frm (fun _=>False) aw w→K (.bool true) w):WF tab Gb [] aw K:=by
 refine Ja7 C.YP rfl ?_;refine Fz (by simp only[go_sem,JaX,simprocAttr,YO,G8];rfl) ?_;refine Ja0 Ff Fe ?_;refine new_ok C fun w1 ht1 r1=>?_;have hp1:eqV .ptr (.ptr (aw.next+1) 0) .nilptr=some false:=rfl;obtain⟨w2,e2,c2,r2,m2⟩:=Jb8 w1 [V.int .i64 3,.str [],.int .i64 5];obtain⟨w3,e3,c3,r3,m3⟩:=Jb8 w2 [V.str [113],.slice w1.next 0 1 (.known 1)];have r13:=r2.tr r3;have hov1:over [V.int .i64 0,.str [],.int .i64 0] 0 [V.int .i64 3]=some [V.int .i64 3,.str [],.int .i64 0]:=rfl;refine Fz (by simp only[go_sem,JaX,simprocAttr,G7,hp1,Ja4,Jbe,over,Jbh,V.cells,FC,FD,e2,e3];rfl) ?_;refine Ja0 Ff Fe ?_;have hfc:FcC (fun x=>x=w1.next) w3 Jhk [.str [113],.slice w1.next 0 1 (.known 1)]:=⟨_,rfl,.blk rfl Fh (c2.frm r3 fun h=>h).get (.inl rfl) Fj rfl (FH _)⟩;have hF:Fcs (fun x=>x=w1.next∨x=w2.next) w3 (.slice w2.next 0 1 (.known 1)) [Jhk]:=⟨[[.str [113],.slice w1.next 0 1 (.known 1)]],.blk (.inr rfl) c3.lt c3.get (.inl rfl) Fj rfl (FH _),.cons (by obtain⟨v,q1,q2⟩:=hfc;exact⟨v,q1,q2.mono fun _ h=> .inl h⟩) .nil⟩
 have hFL:FcsL [Jhk]:=by
  refine⟨by simp,fun f hf=>?_,fun f hf g hg _=>?_⟩
  ·simp only[FJ,F3,or_false]at hf;subst hf;refine⟨by decide,by decide,fun t ht=>?_⟩;simp only[Jhk,FJ,F3,or_false]at ht;subst ht;exact⟨by simp,by simp⟩
  ·simp only[FJ,F3,or_false]at hf hg;rw[hf,hg]
 have ht3:=ht1.step0 r13;have htb:=ht1.a.lt;refine JoU C P hF hFL (fun x hx=>⟨by omega,fun h=>h,by omega,by omega⟩) ht3 Fj fun w4 sm b5 tv4 S4 MV Sf t4 L4 hsm=>?_;rw[Jlm]at t4 L4;simp only at t4 L4;have n4:=L4.f.next
 have fw4:Frm (fun _=>False) aw w4:=(r1.tr r13).trans L4.f (fun _ _ h=>h) fun x hx h=>by
  rcases h with h|h|h
  ·exact h
  ·omega
  ·omega
 obtain⟨w5,s5,c5,r5,n5⟩:=Jb1 w4 (zs:=[V.nilmap]) (vs:=[V.map sm]) rfl rfl;have hcm:V.cells (.agg [.map sm])=[V.map sm]:=rfl;refine Fz (by simp only[go_sem,JaX,simprocAttr,s5,hcm,FC,FD];rfl) ?_;refine Ja0 Ff Fe ?_;refine JlI C (s:=bgT13) (by decide) fun w6 rv T6 rs hrs q1 q2 q3=>?_;rw[Jln]at hrs;subst hrs;obtain⟨b,o,c,xs,e,hT6,hb6,hxs,a4,hp⟩:=JvW q1 (i:=0) (r:=Jhm) rfl;subst e;have g46:=r5.tr q2;have n6:=g46.next;have k5:w6.load w4.next 0 1=some [.map sm]:=CB.ld (c5.frm q2 fun h=>h) 0 1 _ rfl;have a4:w6.load b o 4=some xs:=by rwa [Nat.zero_mul,KF]at a4
 refine Fz (by simp only[go_sem,JaX,simprocAttr,G6,a4,k5,FC,FD];rfl) ?_;refine Ja0 Ff Fe ?_;have hG:RG Jhm:=(JhQ (bgT13.take 1200)).1 Jhm (by rw[Jln];simp)
 have hLT:LaidT Je7 Jhl [Jhk]:=by
  have:=(JlG (ts:=[]) ⟨List.nodup_nil,by simp⟩ hFL (fun f hf=>by
   simp only[FJ,F3,or_false]at hf;subst hf;intro c hc;simp only[Jhk,FJ,F3,or_false]at hc;subst hc;decide)).2
  rw[Jlm]at this;exact this
 have hlen:∀(nm:List Nat) (x:Nat×List (List Int)),(none=some x∨Ja1 Jhl nm=some x)→x.1≤4∧x.2.length≤1000000:=by
  rintro nm x (h|h)
  ·cases h
  ·unfold Jhl at h;simp only[Ja1]at h;split at h
   ·cases h;simp
   ·cases h
 have hsb:=JnN (dq:=none) hG hLT (by simp[Je7]) (fun x h=>by cases h) hlen;have t6:=t4.step0 g46;have L6:LaidS (w3.next+1) sm (aw.next+1) aw.next b5 w3 w6 (fun _=>False) S4 Jhl MV Sf:=⟨L4.lw.frm g46 (fun h=>h) fun _ _ _ h=>h,L4.box.frm g46 fun h=>h,L4.sd,L4.ss,L4.ne,L4.f.trans g46 (fun _ _ h=>h) fun _ _ h=>h.elim,L4.s⟩;have hsml:=L4.lw.pm.lt
 have hO:∀x,(Jkf sm Sf x∨T6 x)→x<w6.next∧¬S4 x∧x≠aw.next+1∧x≠aw.next:=by
  rintro x ((rfl|⟨n,hn⟩)|hx)
  ·exact⟨by omega,fun hs=>(L4.ss _ hs).1 rfl,by omega,by omega⟩
  ·have h1:=L4.sd n x hn;have h2:=L4.lw.lo n x hn;exact⟨by omega,h1.1,h1.2.1,h1.2.2.1⟩
  ·have h1:=q3 x hx;exact⟨h1.2,fun hs=>by have:=(t4.s x hs).1;omega,by omega,by omega⟩
 refine Jne (O:=fun x=>Jkf sm Sf x∨T6 x) C I P hsb JrW (by obtain⟨v,u,e1,e2,e3⟩:=hxs;exact⟨v,u,e1,e2.mono fun _ h=> .inr h,JeV e3 fun _ h=> .inr h⟩) t6 (JkA C L6 (fun _ h=> .inl h) fun x hx=>(hO x hx).1) hO (by simp[Je7]) (fun _=>by rw[bg13_some.1];simp) (fun hno=>absurd (okPl_safe.2 JqL) hno) fun _ v w7 tv7 S7 cs S8 T8 t7 g7 s7 hL7 hd7 _=>?_;rw[bg13_some.2]at t7;rw[bg13_some.1]at hL7;have n7:=g7.next
 have fw7:Frm (fun _=>False) aw w7:=(fw4.tr g46).trans g7 (fun _ _ h=>h) fun x hx h=>by
  rcases h with h|h|h
  ·rcases L4.s x h with h|h
   ·exact h
   ·omega
  ·omega
  ·omega
 obtain⟨K1,K2,K3,K4⟩:=hL7;obtain⟨rv7,hcs,hr7⟩:=K2.at (i:=0) (l:=[1]) rfl;have K1r:=K1.rd;rcases K1r.inv with⟨_,h0,_⟩|⟨b7,o7,c7,rfl,hB7⟩
 ·cases h0
 have l7:w7.load b7 o7 1=some [rv7]:=hB7.cell Fj hcs;obtain⟨rb,rc,rfl,l8⟩:=JfP hr7 (i:=0) (n:=1) rfl;have l7:w7.load b7 o7 1=some [.slice rb 0 1 rc]:=l7;have l8:w7.load rb 0 1=some [.int .i64 1]:=l8;refine Fz (by simp only[go_sem,JaX,simprocAttr,G5];rfl) ?_;refine JbM ?_;refine Jbn 100 (by simp only[go_sem,JaX,simprocAttr,l7,l8,Ja4,Jbe,over,Jbh,V.cells,FC,FD];rfl) ?_;refine Jb4 Ff Fe ?_;refine Jky (c:=⟨3,[],5⟩) C t7 (by simp[Je7]) ⟨by simp,by simp⟩ fun w8 tv8 S9 t8 g8 s8=>?_;have n8:=g8.next;have hid:(idT Je7 ⟨3,[],5⟩).1=1:=by decide
 rw[hid]
 have fw8:Frm (fun _=>False) aw w8:=fw7.trans g8 (fun _ _ h=>h) fun x hx h=>by
  rcases h with h|h|h
  ·rcases s7 x h with h|h
   ·rcases L4.s x h with h|h
    ·exact h
    ·omega
   ·omega
  ·omega
  ·omega
 have d8:∀x,(S8 x∨T8 x)→¬(S7 x∨x=aw.next+1∨x=aw.next):=fun x hx h=>by
  have hlo:w6.next≤x:=hx.elim (fun h=>(K3 x h).1) fun h=>(K4 x h).1;rcases h with h|h|h
  ·exact hd7 x hx h
  ·omega
  ·omega
 have l9:w8.load b7 o7 1=some [.slice rb 0 1 rc]:=by
  have:=K1r.frm g8 fun x hx=>d8 x (.inl hx);rcases this.inv with⟨h0,_⟩|⟨b',o',c',e',hB'⟩
  ·cases h0
  ·cases e';exact hB'.cell Fj hcs
 have l10:w8.load rb 0 1=some [.int .i64 1]:=by
  obtain⟨rb',rc',e',q⟩:=JfP (hr7.frm g8 fun x hx=>d8 x (.inr hx)) (i:=0) (n:=1) rfl;cases e';exact q
 refine Jbn 100 Fe ?_;refine JbO ⟨(show Jbg _ _ [(13,18),(15,18)]from by simp only[go_sem,JaX,simprocAttr,Jbg,chk,List.reverse_cons,List.reverse_nil,JbE,JbR,JbP,JbQ,List.getElem?_nil,false_or,or_true,or_false,exists_eq',FQ,Prod.mk.injEq,Bool.true_eq_false,FM,and_true,true_and,implies_true,l7,l8,l9,l10]),?_⟩;refine JaY 1000 Fe ?_;refine JaZ ⟨_,by simp only[go_sem,JaX,simprocAttr,YO];rfl,?_⟩;exact h w8 fw8
end
section
open Go.AE Delphi Val
variable {tab:Tab}
variable {s:List Nat}
theorem Jl2 (h:Jc5 s=true):s.length≤16∧∀c∈s,c<256:=by
 unfold Jc5 at h;simp only[FT,decide_eq_true_eq]at h;refine⟨h.2.2,?_⟩
 have:∀(t:List Nat) (i:Nat),Jc4 i t=true→∀c∈t,c<256:=by
  intro t;induction t with
  | nil=>intro i _ c hc;simp at hc
  | cons x t ih =>
   intro i h c hc;unfold Jc4 at h;simp only[FT]at h;rcases List.mem_cons.1 hc with rfl|hc
   ·have:=h.1;unfold okc at this;simp only[Bool.or_eq_true,FT,decide_eq_true_eq]at this;omega
   ·exact ih (i+1) h.2 c hc
 exact this s 0 h.1
theorem Jtf {t:Tk}(h:Jbd t=true):TkOk t:=by
 unfold Jbd at h;split at h
 ·simp only[FT,decide_eq_true_eq]at h;exact⟨by rw[h.1];simp,fun c hc=>by rw[h.1]at hc;simp at hc⟩
 ·split at h
  ·simp only[FT,decide_eq_true_eq]at h;obtain⟨h1,h2⟩:=Jl2 h.2;exact⟨by omega,h2⟩
  ·cases h
theorem JpC {n:Nat}(hn:n≤1000)(l:List Fc):JdW (Jcc n l)∧FcsL (Jcc n l):=by
 have:∀(l o:List Fc),((∀f∈o,Jgt f=true)∧∀f∈o,∀g∈o,f.1=g.1→f.2.length=g.2.length)→(∀f∈l.foldl (JeL n) o,Jgt f=true)∧∀f∈l.foldl (JeL n) o,∀g∈l.foldl (JeL n) o,f.1=g.1→f.2.length=g.2.length:=by
  intro l;induction l with
  | nil=>intro o h;exact h
  | cons x l ih =>
   intro o h;rw[Ku];refine ih _ ?_;unfold JeL;split
   ·rename_i hc;obtain⟨_,hc⟩:=hc;rw[FT]at hc
    have har:∀g∈o,g.1=(Jc1 x).1→g.2.length=(Jc1 x).2.length:=by
     intro g hg he;have:=List.all_eq_true.1 hc.2 g hg;simp only[Bool.or_eq_true,Bool.not_eq_true',decide_eq_false_iff_not,decide_eq_true_eq]at this;exact this.resolve_left fun h=>h he
    refine⟨fun f hf=>?_,fun f hf g hg he=>?_⟩
    ·rcases List.mem_append.1 hf with hf|hf
     ·exact h.1 f hf
     ·simp only[FJ,F3,or_false]at hf;subst hf;exact hc.1
    ·rcases List.mem_append.1 hf with hf|hf<;>rcases List.mem_append.1 hg with hg|hg
     ·exact h.2 f hf g hg he
     ·simp only[FJ,F3,or_false]at hg;subst hg;exact har f hf he
     ·simp only[FJ,F3,or_false]at hf;subst hf;exact (har g hg he.symm).symm
     ·simp only[FJ,F3,or_false]at hf hg;rw[hf,hg]
   ·exact h
 obtain⟨h1,h2⟩:=this l [] ⟨by simp,by simp⟩
 have hm:∀f∈Jcc n l,(∀t∈f.2,Jbd t=true)∧Jc5 f.1=true∧f.2.length≤4:=fun f hf=>by
  have:=h1 f hf;unfold Jgt at this;simp only[FT,List.all_eq_true,decide_eq_true_eq]at this;exact⟨this.1,this.2.1,this.2.2⟩
 refine⟨fun f hf t ht=>(hm f hf).1 t ht,⟨by have:=Jij n l;omega,fun f hf=>⟨(hm f hf).2.2,(Jl2 (hm f hf).2.1).1,fun t ht=>Jtf ((hm f hf).1 t ht)⟩,h2⟩⟩
theorem Js6 {l:List Fc}(hl:FcsL l):∀(nm:List Nat) (x:Nat×List (List Int)),Ja1 (Jbu ts l).2 nm=some x→x.1≤4∧x.2.length≤1000000:=by
 intro nm x hx;obtain⟨hp,_⟩:=JgE (ts:=ts) hl;obtain⟨g,hg,_,h2⟩:=hp.ar nm x hx;have:=hp.len nm x hx;have h3:=(hl.ok g hg).1;have h4:=hl.len;exact⟨by omega,by omega⟩
theorem Jtw {T:Fw}{w:AW}{v:V}{l:List Rl}(h:RdL (RlC T) T w v 4 l){i:Nat}{t:Rl}(hi:l[i]? = some t):∃b o c xs,v = .slice b o l.length c∧RlC T w t xs∧∀(R:Fw) (w':AW),Frm R w w'→(∀x,T x→¬R x)→(∀j k,j+k≤4→w'.load b (o+i*4+j) k=some ((xs.drop j).take k))∧w'.load b (o+i*4) 4=some xs∧RlC T w' t xs:=by
 have hlt:i<l.length:=(List.getElem?_eq_some_iff.1 hi).1;obtain⟨xss,h1,h2⟩:=h;obtain⟨xs,h3,h4⟩:=Ji2 (sz:=4) (fun a xs h=>h.one.1) h2 hi;have hx4:=h3.one.1;rcases h1.inv with⟨_,q2,_⟩|⟨b,o,c,rfl,_⟩
 ·omega
 ·refine⟨b,o,c,xs,rfl,h3,fun R w' g hd=>?_⟩;have h1':=h1.frm g hd;rcases h1'.inv with⟨q,_⟩|⟨b',o',c',e',hB⟩
  ·cases q
  cases e';have hle:(i+1)*4≤l.length*4:=Nat.mul_le_mul_right _ hlt
  have part:∀j k,j+k≤4→w'.load b (o+i*4+j) k=some ((xs.drop j).take k):=fun j k hjk=>by
   rw[Kj,hB.load (i*4+j) k Fh,←h4,List.drop_take,List.take_take,KD Fh,List.drop_drop]
  refine⟨part,?_,h3.frm g hd⟩;have:=part 0 4 Fh;rw[KF,FZ,FX Fh]at this;exact this
structure JrF (f:Fr) (rv fv:V) (i:Nat):Prop where
 f1:f.get 1=some fv
 f6:f.get 6=some rv
 f7:f.get 7=some (.int .i64 (Int.ofNat i))
theorem Jnd (C:Codes tab)(I:JgB tab)(P:Jhe tab){T0:Fw}{facts:List Fc}{fv0:V}{aw:AW}(hs:∀x∈s,x<256)(hx0:Fcs T0 aw fv0 facts)(hT0:∀x,T0 x→x<aw.next)(hfl0:facts.length≤9223372036854775807)(hnb:∀f∈facts,∀c∈f.1,c<256)(htb:∀f∈facts,∀t∈f.2,∀c∈t.s,c<256): WF tab JaK [.str s,fv0] aw (fun v aw'=>v = .bool true∧Frm (fun _=>False) aw aw'):=by
 refine Ja7 C.YN rfl ?_;refine Fz (by simp only[go_sem,JaX,simprocAttr,ZN];rfl) ?_;refine Ja0 Ff Fe ?_;refine Jpp C I P fun w0 g0=>?_;refine Fz (by simp only[go_sem,JaX,simprocAttr,G4];rfl) ?_;refine Ja0 Ff Fe ?_;refine JlI C hs fun w1 rv T rs hrs q1 g1 q3=>?_;have hG:∀r∈rs,RG r:=by rw[hrs];exact (JhQ _).1
 have hRl:rs.length≤30:=by rw[hrs];exact (JhQ _).2
 clear hrs;have g01:=g0.tr g1;have n01:=g01.next;refine Fz (by simp only[go_sem,JaX,simprocAttr,G3];rfl) ?_;refine Ja0 Ff Fe ?_;refine JsA (n:=25) C (hx0.frm g01 fun _ _ h=>h) (fun x hx=>FK (hT0 x hx) n01) hfl0 Fh hnb htb fun w2 fv Sf hF g2 hSf=>?_;obtain⟨hFM,hFL⟩:=JpC (n:=25) Fh facts;have hFlen:=Jij 25 facts;generalize Jcc 25 facts=fs at hF hFM hFL hFlen;have g02:=g01.tr g2;have hq2:RdL (RlC T) T w2 rv 4 rs:=q1.frm (fun _ _ h=>h.frm g2 fun _ _ h=>h) g2 fun _ _ h=>h;have n12:=g2.next;have hlv:=Jey q1;have hTl:∀x,T x→x<w2.next:=fun x hx=>by have:=(q3 x hx).2;omega
 have hfx4:∀f∈fs,f.2.length≤1000:=fun f hf=>by have:=(hFL.ok f hf).1;omega
 refine JaY 1000 Fe ?_;refine Jba (fun q f w=>∃i,JrF f rv fv i∧Frm (fun _=>False) w2 w∧i≤rs.length∧q=rs.length-i) (fun f w=>Frm (fun _=>False) w2 w) ?_ ?_ rs.length ⟨0,⟨Fb,Fb,Fb⟩,Frm.refl _,Nat.zero_le _,rfl⟩
 ·rintro q f w ⟨i,⟨f1,f6,f7⟩,g,hi,rfl⟩ ih out;by_cases hil:i<rs.length
  case neg =>
   refine Ja2 1000 (by simp only[go_sem,simprocAttr,YM,f6,f7,hlv,hil];rfl) ?_;exact out _ _ _ g rfl
  by_cases hi6:i<6
  case neg =>
   refine Ja2 1000 (by simp only[go_sem,simprocAttr,YM,f6,f7,hlv,hil,hi6];rfl) ?_;exact out _ _ _ g rfl
  obtain⟨r,hr⟩:∃r,rs[i]? = some r:=⟨_,FB hil⟩;have hGr:=hG r (FI hr);obtain⟨l1,l2,l3,l4,l5⟩:=JnF hGr;have hqw:∀{w':AW},Frm (fun _=>False) w2 w'→RdL (RlC T) T w' rv 4 rs:=fun g'=>hq2.frm (fun _ _ h=>h.frm g' fun _ _ h=>h) g' fun _ _ h=>h;obtain⟨b,o,c,xs,rfl,hxs0,stay⟩:=Jtw hq2 hr;have stay:=fun (w':AW) (g':Frm (fun _=>False) w2 w')=>stay (fun _=>False) w' g' fun _ _ h=>h;obtain⟨_,a4,hxs⟩:=stay w g;have hwr:IntKind.wrap .i64 (Int.ofNat i+1)=Int.ofNat (i+1):=Ja3 Fh;have gn:=g.next;have hRB:RuleB r:=⟨l4,fun l hl=>⟨by have:=l4.args l hl;omega,fun h1 h2=>(l3 l hl h1 h2).2.2⟩⟩;refine Fz (by simp only[go_sem,JaX,simprocAttr,YM,G2,f1,f6,f7,hlv,hil,hi6,a4];rfl) ?_;refine Ja0 Ff Fe ?_;refine Jtz (T3:=fun _=>False) (delta:=[]) C hxs (hF.frm g fun _ _ h=>h) ⟨[],.nil,.nil⟩ hRB Fh hfx4 Fj (fun hno w3 g3=>?_) fun want hwant w3 wv hwv _ g3=>?_
  ·refine Fz (by simp only[go_sem,JaX,simprocAttr,GY];rfl) ?_;refine JaZ ⟨_,by simp only[go_sem,JaX,simprocAttr,ZN];rfl,?_⟩;exact⟨rfl,(g02.tr g).tr g3⟩
  have n3:=g3.next;refine JaY 1000 Fe ?_;refine Ja0 Ff Fe ?_;refine new_ok C fun w4 ht4 g4=>?_;have n4:=g4.next;have hT4l:=ht4.a.lt;have g24:=(g.tr g3).tr g4;obtain⟨_,a44,hxs4⟩:=stay w4 g24;refine Fz (by simp only[go_sem,JaX,simprocAttr,G1];rfl) ?_;refine JbM ?_;refine Jbn 100 (by simp only[go_sem,JaX,simprocAttr,f1,f6,f7,hil,a44];rfl) ?_;refine Jb4 Ff Fe ?_;refine JoU C P (hF.frm g24 fun _ _ h=>h) hFL (fun x hx=>⟨by have:=hSf x hx;omega,fun h=>h,by have:=hSf x hx;omega,by have:=hSf x hx;omega⟩) ht4 Fj fun w5 sm b5 tv5 S5 MV Sx t5 L5 hsm=>?_;have hLT:=(JlG (ts:=[]) ⟨List.nodup_nil,by simp⟩ hFL hFM).2;have hLl:=(JgE (ts:=[]) hFL).2;have hln:=Js6 (ts:=[]) hFL;generalize Jbu [] fs=ld at t5 L5 hLT hLl hln;obtain⟨ts,M⟩:=ld;simp only at t5 L5 hLT hLl hln;simp only[FD,FV]at hLl;have n5:=L5.f.next
  have g5:Frm (fun _=>False) w3 w5:=g4.trans L5.f (fun _ _ h=>h) fun x hx h=>by
   rcases h with h|h|h
   ·exact h
   ·omega
   ·omega
  have g25:=(g.tr g3).tr g5;obtain⟨pt5,a45,hxs5⟩:=stay w5 g25;have hsml:=L5.lw.pm.lt;have hTs:∀x,T x→x<w2.next:=hTl;have n25:=g25.next
  have hO:∀x,(Jkf sm Sx x∨T x)→x<w5.next∧¬S5 x∧x≠w3.next+1∧x≠w3.next:=by
   rintro x ((rfl|⟨n,hn⟩)|hx)
   ·exact⟨by omega,fun hs=>(L5.ss _ hs).1 rfl,L5.ne.1,L5.ne.2.1⟩
   ·have h1:=L5.sd n x hn;have h2:=L5.lw.lo n x hn;exact⟨by omega,h1.1,h1.2.1,h1.2.2.1⟩
   ·have h1:=hTs x hx;refine⟨by omega,fun hs=>?_,by omega,by omega⟩;rcases L5.s x hs with h|h
    ·exact h
    ·omega
  have hlen:∀(nm:List Nat) (x:Nat×List (List Int)),(none=some x∨Ja1 M nm=some x)→x.1≤4∧x.2.length≤1000000:=fun nm x h=>h.elim (fun h=>by cases h) (hln nm x);have hsb:=JnN (dq:=none) hGr hLT Fh (fun x h=>by cases h) hlen;have hfin:Jdq r (-1)→_:=fun hok=>Jqx (dq:=none) (delta:=[]) hGr hok hLT hFM (by simp[JdW]) Fh (fun i hi=>by have:Int.ofNat i = -1:=hi;cases this) (fun x h=>by cases h) hlen hwant;refine Jbn 100 Fe ?_;refine Jb4 Ff Fe ?_;refine Jne (O:=fun x=>Jkf sm Sx x∨T x) C I P hsb JrW (by obtain⟨v,u,e1,e2,e3⟩:=hxs5;exact⟨v,u,e1,e2.mono fun _ h=> .inr h,JeV e3 fun _ h=> .inr h⟩) t5 (JkA C L5 (fun _ h=> .inl h) fun x hx=>(hO x hx).1) hO Fh (fun hok=>by have:=(hfin hok).2.2.1;omega) (fun hno w6 g6=>?_) fun hok v w6 tv6 S6 cs S7 T7 t6 g6 s6 hL6 hd6 hrw=>?_
  ·-- the rule is not safe
   have hcs:Jc0 r=false:=by
    cases hc:Jc0 r with
    | false=>rfl
    | true=>exact absurd (okPl_safe.2 hc) hno
   obtain⟨pt6,a46,hxs6⟩:=stay w6 (g25.tr g6);refine Jbn 100 Fe ?_;refine JbO ⟨(show Jbg _ _ [(3,7)]from by simp only[go_sem,JaX,simprocAttr,Jbg,chk,List.reverse_cons,List.reverse_nil,JbE,JbR,JbP,JbQ,List.getElem?_nil,false_or,or_true,or_false,exists_eq',FQ,Prod.mk.injEq,Bool.true_eq_false,FM,and_true,true_and,implies_true,a44,a45]),?_⟩;refine Fz (by simp only[go_sem,JaX,simprocAttr,VU,f6,f7,hil,a46];rfl) ?_;refine Ja0 Ff Fe ?_;refine JnI C hxs6 l4.big fun w7 g7=>?_;rw[hcs];have hl0:lenV V.nilslice=some 0:=rfl;refine Fz (by simp only[go_sem,JaX,simprocAttr,GZ,hl0,f7,hwr];rfl) ?_;exact ih _ _ _ Fh ⟨i+1,⟨(Fg f1),(Fg f6),Fb⟩,(g25.tr g6).tr g7,by omega,rfl⟩
  ·obtain⟨_,hOM,hrl,hTg,htl,hrg,hfacts⟩:=hfin hok;generalize JbV r (-1) none (fun nm=>Ja1 M nm) (-1) ts=sj at t6 hL6 hrl hTg htl hrg hfacts hrw;obtain⟨hrise,hwid⟩:=hrw;have hh4:=l5;obtain⟨hfl1,hfl2⟩:=Jko sj.ts r.head.name sj.rows;have hfl2:=hfl2 1000 fun x hx=>by rw[hwid x hx];omega
   rw[hfacts]at hfl1 hfl2;have n6:=g6.next
   have g6':Frm (fun _=>False) w3 w6:=g5.trans g6 (fun _ _ h=>h) fun x hx h=>by
    rcases h with h|h|h
    ·rcases L5.s x h with h|h
     ·exact h
     ·omega
    ·omega
    ·omega
   have g26:=(g.tr g3).tr g6';obtain⟨pt6,a46,hxs6⟩:=stay w6 g26;refine Jbn 100 Fe ?_;refine JbO ⟨(show Jbg _ _ [(3,7)]from by simp only[go_sem,JaX,simprocAttr,Jbg,chk,List.reverse_cons,List.reverse_nil,JbE,JbR,JbP,JbQ,List.getElem?_nil,false_or,or_true,or_false,exists_eq',FQ,Prod.mk.injEq,Bool.true_eq_false,FM,and_true,true_and,implies_true,a44,a45]),?_⟩;refine Fz (by simp only[go_sem,JaX,simprocAttr,VU,f6,f7,hil,a46];rfl) ?_;refine Ja0 Ff Fe ?_;refine JnI C hxs6 l4.big fun w7 g7=>?_;rw[hok.1];have g27:=g26.tr g7;obtain⟨pt7,a47,hxs7⟩:=stay w7 g27;have hrd:=(Jrq hL6).frm g7 fun _ _ h=>h;have hset:=hL6;refine Fz (by simp only[go_sem,JaX,simprocAttr,G0];rfl) ?_;refine Ja0 Ff Fe ?_;refine JuL (wd:=r.head.args.length) C hrd hrise hwid Fh Fh ?_
   have a1:w7.load b (o+i*4+1) 1=some [.str r.head.name]:=by
    have:=pt7 1 1 Fh;obtain⟨v',u',e1,_,_⟩:=hxs7;rw[e1]at this;exact this
   refine Fz (by simp only[go_sem,JaX,simprocAttr,f6,f7,hil,a1];rfl) ?_;refine Ja0 Ff Fe ?_;have n7:=g7.next;refine JsP C hrd (fun x hx=>?_) (t6.step0 g7) Fh hrg (fun x hx=>by rw[hwid x hx];omega) Fh fun w8 v8 hF8 g8=>?_
   ·rcases hx with hx|hx
    ·have:=(hL6.2.2.1 x hx).2.1;omega
    ·have:=(hL6.2.2.2 x hx).2;omega
   rw[hfacts]at hF8;have g68:=g7.tr g8;refine JaY 1000 Fe ?_;refine Ja0 Ff Fe ?_;refine Jtt C hF8 (((hwv.frm g6' fun _ _ h=>h).frm g68 fun _ _ h=>h)) Fh hfl2 hfl2 fun w9 g9=>?_;rw[Jin hOM];refine Fz (by simp only[go_sem,JaX,simprocAttr,f7,hwr];rfl) ?_;exact ih _ _ _ Fh ⟨i+1,⟨(Fg f1),(Fg f6),Fb⟩,(g26.tr g68).tr g9,by omega,rfl⟩
 ·rintro f w g;refine JaY 1000 Fe ?_;refine JaZ ⟨_,by simp only[go_sem,JaX,simprocAttr,ZN];rfl,?_⟩;exact⟨rfl,g02.tr g⟩
end
section
open Go.AE Delphi Val
abbrev FP:Type:=List Nat×List (Int×List Nat×Int×Unit)×Unit
def tkP (p:Int×List Nat×Int×Unit):Tk:=⟨p.1,p.2.1,p.2.2.1⟩
def fcP (p:FP):Fc:=(p.1,p.2.1.map tkP)
theorem JtX {aw:AW}:∀{l:List (Int×List Nat×Int×Unit)} {xss:List (List V)},All2 (TmR aw) l xss→xss.flatten=JcY (l.map tkP)∧∀t∈l.map tkP,∀c∈t.s,c<256
 | [],_,.nil=>⟨rfl,by simp⟩
 | p::l,_,.cons ⟨_,_,e1,⟨h1,_⟩,_,_,e2,⟨h2,hb,_⟩,_,_,e3,⟨h3,_⟩,e4⟩ h=>by
  obtain⟨g1,g2⟩:=JtX h;subst e1 e2 e3 h1 h2 h3 e4;refine⟨by rw[List.flatten_cons,g1];rfl,?_⟩;intro t ht;rcases List.mem_cons.1 (by simpa using ht:t∈tkP p::l.map tkP)with rfl|h
  ·exact hb
  ·exact g2 t h
variable {aw:AW}
theorem JlY {α:Type}{rel:AW→α→List V→Prop}{l:List α}{x:V}{esz:Nat}(h:JgW rel aw l [x])(hsz:∀{xss:List (List V)},All2 (rel aw) l xss→xss.flatten.length=l.length*esz):∃xss,Rd (fun b=>b<aw.next) aw x esz l.length xss.flatten∧All2 (rel aw) l xss∧l.length≤maxLen:=by
 rcases h with⟨h1,rfl⟩|⟨b,c,xss,h1,hb,hg,ha,hl,hc⟩
 ·cases h1;exact⟨[],.nil,.nil,Nat.zero_le _⟩
 ·cases h1;have hz:=hsz ha;exact⟨xss,.blk hb hb hg (.inr (.inr (.inl rfl))) Fh (by rw[FZ,FX Fh]) (JmF hc),ha,hl⟩
theorem Jwy {p:FP}{xs:List V}(h:JiQ aw p xs):FcC (fun b=>b<aw.next) aw (fcP p) xs∧(∀c∈p.1,c<256)∧∀t∈(fcP p).2,∀c∈t.s,c<256:=by
 obtain⟨x1,x2,rfl,⟨rfl,hn,_⟩,y1,y2,rfl,h2,rfl⟩:=h
 have hy:∃v,y1=[v]:=by
  rcases h2 with⟨rfl,_⟩|⟨b,c,xss,rfl,_⟩<;>exact⟨_,rfl⟩
 obtain⟨v,rfl⟩:=hy;obtain⟨xss,h3,h5,h4⟩:=JlY h2 Jka;obtain⟨g1,g2⟩:=JtX h5;rw[g1]at h3;refine⟨⟨v,rfl,?_⟩,hn,g2⟩;have e:(fcP p).2.length=p.2.1.length:=F9 ..;rw[e];exact h3
theorem JtR {aw:AW}:∀{l:List FP} {xss:List (List V)},All2 (JiQ aw) l xss→All2 (FcC (fun b=>b<aw.next) aw) (l.map fcP) xss∧(∀f∈l.map fcP,∀c∈f.1,c<256)∧∀f∈l.map fcP,∀t∈f.2,∀c∈t.s,c<256
 | [],_,.nil=>⟨.nil,by simp,by simp⟩
 | x::l,_,.cons h1 h=>by
  obtain⟨g1,g2,g3⟩:=JtR h;obtain⟨k1,k2,k3⟩:=Jwy h1;refine⟨.cons k1 g1,fun f hf=>?_,fun f hf=>?_⟩
  ·rcases List.mem_cons.1 hf with rfl|hf
   ·exact k2
   ·exact g2 f hf
  ·rcases List.mem_cons.1 hf with rfl|hf
   ·exact k3
   ·exact g3 f hf
theorem Jhw {l:List FP}{x:V}(h:JgW JiQ aw l [x]):Fcs (fun b=>b<aw.next) aw x (l.map fcP)∧(l.map fcP).length≤9223372036854775807∧(∀f∈l.map fcP,∀c∈f.1,c<256)∧∀f∈l.map fcP,∀t∈f.2,∀c∈t.s,c<256:=by
 obtain⟨xss,h1,h2,h3⟩:=JlY h Jkp;obtain⟨g1,g2,g3⟩:=JtR h2;refine⟨⟨xss,by rw[F9];exact h1,g1⟩,by rw[F9];exact (by simpa[maxLen]using h3),g2,g3⟩
end
end Go.Proofs.YtegdcbdicpfbpaaGreatDoor
namespace Go.AE
open Go.RowKit Go.ChangeShapes
variable [Globs]
omit [Globs] in
theorem JmF {n esz:Nat}{c:Cap}(h:Jpk n c):Jib esz n c:=by
 cases c with
 | known k=>exact h
 | upTo z=>exact .inr h
end Go.AE
namespace Go
variable {H:Type} {enc:TypeId×Value→H}
theorem JiE {a:Assume}{C:Checked}{os:Os}{f:FuncId}{fn:Func}{s:ChangeSpec}{conds:List PathCond}{apart fresh handsOn again:Bool}{X:World→Array Value→Prop}(hX:∀(w w':World) (args:Array Value),w.heap=w'.heap→X w args→X w' args)(own:ownKnob C.prog.godebug=none)(started:os.Started)(noInit:C.prog.inits.idxOf? f=none)(hfn:C.prog.funcs[f]? = some fn)(witness:∃(w:World) (tape:Tape) (i:Input),w.os=os∧(w.forCall tape i).Shaped C.prog∧i.vars=[]∧Input.okWide C.prog (w.forCall tape i) .any w.heap.size f i∧ ((s.pre enc C.prog fn conds apart (w.forCall tape i).memory i.args∧X (w.forCall tape i).memory i.args)∧sizedMet enc C.prog fn (OpenSpec.ofChange s) apart (w.forCall tape i).memory i.args)∧a.holds C.prog (lone (Frame.enter C.prog f i.args .normal) [] (w.forCall tape i)))(contract:∀(W:World) (base:Nat) (args:Array Value) (ds gs:List (DataW H)) (before:List MemPlace), (∀(j:Nat) t v,fn.params[j]? = some t→args[j]? = some v→Value.okWide C.prog W .any base t v)→ DataW.Whole enc C.prog fn.params.toList s.vars apart W args.toList ds gs before→ conds.all (PathCond.test C.prog ⟨fn.params.toList,ds,s.plain.varTypes C.prog,gs⟩)=true→ (DataW.weightsEach C.prog (fn.params.toList++s.plain.varTypes C.prog) (ds++gs)).all (·≤reachBytes)=true→X W args→ W.ShapedOpen C.prog→ a.holds C.prog (lone (Frame.enter C.prog f args .normal) [] W)→ Calls C.prog f args W fun e W'=>∃v,e = .returned v∧s.post enc C.prog fn apart fresh handsOn again W args v W'): ReturnsInHanded a C os f .any (fun w args=>(s.pre enc C.prog fn conds apart w args∧X w args)∧sizedMet enc C.prog fn (OpenSpec.ofChange s) apart w args) (s.post enc C.prog fn apart fresh handsOn again):=by
 refine returnsInHanded_of_calls own started noInit witness ?_;intro w tape i _ hsh _ hok hpre hholds;obtain⟨_,_,_,fn',hfn',_,_,_,_,hval⟩:=hok;have e:fn'=fn:=FY (hfn'.symm.trans hfn);subst e;obtain⟨⟨⟨ds,gs,before,hw,hc⟩,hx⟩,hz⟩:=hpre;have hw':=DataW.Whole.of_heap (w':=w.forCall tape i) (by rfl) hw;refine (contract (w.forCall tape i) w.heap.size i.args ds gs before hval hw' hc (hz.weights hw) (hX _ _ _ (by rfl) hx) hsh hholds).mono fun e W' ⟨v,he,hp⟩=>?_;subst he;exact ChangeSpec.post_blind hp
end Go
