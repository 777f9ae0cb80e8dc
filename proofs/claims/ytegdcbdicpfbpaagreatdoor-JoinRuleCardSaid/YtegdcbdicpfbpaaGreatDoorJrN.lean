/- A part of the proof. -/
import Derived.Test.YtegdcbdicpfbpaaGreatDoorJrM
set_option linter.unusedVariables false
set_option maxRecDepth 10000
set_option linter.unusedSimpArgs false
namespace Go.Proofs.YtegdcbdicpfbpaaGreatDoor
open Go.AE Delphi Val
variable {tab:Tab}
abbrev Bn:=List Nat×Tk
def bnC (b:Bn):List V:=.str b.1::tkC b.2
theorem JiX (b:Bn):(bnC b).length=4:=rfl
def JdA (l:List Bn):List V:=l.flatMap bnC
variable {T:Fw}
theorem Jvt {w:AW}{v:V}{l:List Bn}(h:Rd T w v 4 l.length (JdA l)){i:Nat}{t:Bn}(hi:l[i]? = some t):∃b o c,v = .slice b o l.length c∧T b∧b<w.next∧w.load b (o+i*4) 4=some (bnC t)∧w.load b (o+i*4) 1=some [.str t.1]∧w.load b (o+i*4+1) 3=some (tkC t.2):=by
 have hlt:i<l.length:=(List.getElem?_eq_some_iff.1 hi).1;rcases h.inv with⟨_,q2,_⟩|⟨b,o,c,rfl,hB⟩
 ·omega
 ·refine⟨b,o,c,rfl,hB.own,hB.lt,?_,?_,?_⟩
  ·rw[hB.load (i*4) 4 Fh];have h2:=Jer JiX (i:=i) (j:=0) (k:=4) hi Fh;rw[FV]at h2;exact congrArg some h2
  ·rw[hB.load (i*4) 1 Fh];have h2:=Jer JiX (i:=i) (j:=0) (k:=1) hi Fh;rw[FV]at h2;exact congrArg some h2
  ·rw[Kj,hB.load (i*4+1) 3 Fh];have h2:=Jer JiX (i:=i) (j:=1) (k:=3) hi Fh;rw[FV]at h2;exact congrArg some h2
def Jca (nm:List Nat):List Bn→Option Tk
 | []=>none
 | b::r=>if eqL b.1 nm then some b.2 else Jca nm r
def Jda (t:Tm) (bs:List Bn):Option Tk:=if t.kind=1 then Jca t.name bs else some (Jbb t)
def Jr6:Option Tk→V
 | some t=> .tuple [.agg (tkC t),.bool true]
 | none=> .tuple [.agg (tkC ⟨0,[],0⟩),.bool false]
variable {bs:List Bn} {aw:AW} {K:V→AW→Prop}
theorem JgL (C:Codes tab){t:Tm}{bv:V}(hb:Rd T aw bv 4 bs.length (JdA bs))(hn:bs.length≤1000000)(h:∀w,Frm (fun _=>False) aw w→K (Jr6 (Jda t bs)) w):WF tab ZI [.agg (tmC t),bv] aw K:=by
 refine Ja7 C.XK rfl ?_;obtain⟨w1,e1,c1,r1,m1⟩:=Jb8 aw (tmC t);obtain⟨w2,e2,c2,r2,m2⟩:=Jb8 w1 [V.int .i64 0,V.str [],V.int .i64 0];have c1:=c1.frm r2 fun h=>h;have f02:=r1.tr r2;have a0:w2.load aw.next 0 1=some [.int .i64 (Int.ofNat t.kind)]:=CB.ld c1 0 1 _ rfl
 have fin:∀w,Frm (fun _=>False) w2 w→∀u:Tk,∃w3,w.store w1.next 0 (tkC u)=some w3∧w3.load w1.next 0 3=some (tkC u)∧Frm (fun _=>False) aw w3:=fun w g u =>
  ⟨_,(c2.frm g fun h=>h).setAll (vs:=tkC u) rfl rfl,(Jbx (l:=tkC u) (c2.frm g fun h=>h).lt).all (n:=3) rfl,(f02.tr g).out (by have:=r1.next;omega) rfl⟩
 have hbv:=hb.lenV;have hc1:V.cells (.agg (tmC t))=tmC t:=rfl;by_cases hk:t.kind=1
 case neg =>
  have e:Jda t bs=some (Jbb t):=if_neg hk;rw[e]at h;have a3:w2.load aw.next 0 3=some (tkC (Jbb t)):=c1.all rfl;obtain⟨w3,s3,k3,f3⟩:=fin w2 (Frm.refl _) (Jbb t);refine Fz (by simp only[go_sem,JaX,simprocAttr,J6,Ph,hc1,e1,e2,a0,hk,a3,JcA,s3];rfl) ?_;refine JaZ ⟨_,by simp only[go_sem,JaX,simprocAttr,J6,k3];rfl,?_⟩;exact h w3 f3
 have e:Jda t bs=Jca t.name bs:=if_pos hk;rw[e]at h;rw[hk]at a0;refine Fz (by simp only[go_sem,JaX,simprocAttr,J6,Pj,hc1,e1,e2,a0];rfl) ?_;refine Jba (fun n f w=>∃i,f.get 1=some bv∧f.get 2=some (.ptr aw.next 0)∧f.get 4=some (.ptr w1.next 0)∧f.get 6=some (.int .i64 (Int.ofNat i))∧w=w2∧Jca t.name bs=Jca t.name (bs.drop i)∧i≤bs.length∧n=bs.length-i) (fun f w=>f.get 4=some (.ptr w1.next 0)∧w=w2∧Jca t.name bs=none) ?_ ?_ bs.length ⟨0,Fb,Fb,Fb,Fb,rfl,rfl,Nat.zero_le _,rfl⟩
 ·rintro n f w ⟨i,f1,f2,f4,f6,rfl,hL,hi,rfl⟩ ih out;by_cases hlt:i<bs.length
  case neg =>
   obtain rfl:i=bs.length:=Fh;rw[List.drop_length]at hL;refine Ja2 1000 (by simp only[go_sem,simprocAttr,XJ,f1,f6,hbv,hlt];rfl) ?_;exact out _ _ _ ⟨(Fg f4),rfl,hL⟩ rfl
  obtain⟨u,hu⟩:∃t,bs[i]? = some t:=⟨_,FB hlt⟩;have hd:bs.drop i=u::bs.drop (i+1):=by rw[FL hlt];rw[FB hlt]at hu;cases hu;rfl
  rw[hd]at hL;have hL:Jca t.name bs=if eqL u.1 t.name then some u.2 else Jca t.name (bs.drop (i+1)):=hL;obtain⟨b,o,c,rfl,_,_,_,l0,l1⟩:=Jvt (hb.frm f02 fun _ _ h=>h) hu;have a1:w.load aw.next 1 1=some [.str t.name]:=CB.ld c1 1 1 _ rfl;have hwr:IntKind.wrap .i64 (Int.ofNat i+1)=Int.ofNat (i+1):=Ja3 Fh;have heq:Jck BinOp.eql u.1 t.name=some (.bool (eqL u.1 t.name)):=rfl;cases hs:eqL u.1 t.name with
  | true =>
   rw[hs]at heq hL;have hL:Jca t.name bs=some u.2:=hL;rw[hL]at h;obtain⟨w3,s3,k3,f3⟩:=fin w (Frm.refl _) u.2;refine Fz (by simp only[go_sem,JaX,simprocAttr,XJ,Ur,Pi,f1,f2,f4,f6,hbv,hlt,l0,l1,a1,heq,JcA,s3];rfl) ?_;refine JaZ ⟨_,by simp only[go_sem,JaX,simprocAttr,J6,f4,k3];rfl,?_⟩;exact h w3 f3
  | false =>
   rw[hs]at heq hL;have hL:Jca t.name bs=Jca t.name (bs.drop (i+1)):=hL;refine Fz (by simp only[go_sem,JaX,simprocAttr,XJ,Ur,f1,f2,f6,hbv,hlt,l0,a1,heq,hwr];rfl) ?_;exact ih _ _ _ Fh ⟨i+1,(Fg f1),(Fg f2),(Fg f4),Fb,rfl,hL,by omega,rfl⟩
 ·rintro f w ⟨f4,rfl,hL⟩;rw[hL]at h;obtain⟨w3,s3,k3,f3⟩:=fin w (Frm.refl _) ⟨0,[],0⟩;have s3:w.store w1.next 0 [.int .i64 0,.str [],.int .i64 0]=some w3:=s3;have k3:w3.load w1.next 0 3=some [.int .i64 0,.str [],.int .i64 0]:=k3;refine Fz (by simp only[go_sem,JaX,simprocAttr,f4,Ja4,Jbe,over,Jbh,FC,FD,s3];rfl) ?_;refine JaZ ⟨_,by simp only[go_sem,JaX,simprocAttr,J6,f4,k3];rfl,?_⟩;exact h w3 f3
def JcT (k:Nat) (a b:Tk):Bool:=if k=3 then JbW a b else if k=4 then !JbW a b else if k=5 then JbL a b else !JbL b a
theorem JrM (C:Codes tab){k:Nat}{a b:Tk}(h:∀w,Frm (fun _=>False) aw w→K (.bool (JcT k a b)) w):WF tab Gv [.int .i64 (Int.ofNat k),.agg (tkC a),.agg (tkC b)] aw K:=by
 refine Ja7 C.XO rfl ?_;obtain⟨w1,e1,c1,r1,m1⟩:=Jb8 aw (tkC a);obtain⟨w2,e2,c2,r2,m2⟩:=Jb8 w1 (tkC b);have c1:=c1.frm r2 fun h=>h;have f02:=r1.tr r2;have a3:w2.load aw.next 0 3=some (tkC a):=c1.all rfl;have b3:w2.load w1.next 0 3=some (tkC b):=c2.all rfl;have hc1:V.cells (.agg (tkC a))=tkC a:=rfl;have hc2:V.cells (.agg (tkC b))=tkC b:=rfl;by_cases h3:k=3
 ·subst h3;have e:JcT 3 a b=JbW a b:=rfl;rw[e]at h;have hk3:(Int.ofNat 3==(3:Int))=true:=rfl;refine Fz (by simp only[go_sem,JaX,simprocAttr,Jw,Po,hc1,hc2,e1,e2,a3,b3,hk3];rfl) ?_;refine Ja0 Ff Fe ?_;refine JkM C fun w3 g3=>?_;refine JaY 1000 Fe ?_;refine JaZ ⟨_,by simp only[go_sem,JaX,simprocAttr,Jw];rfl,?_⟩;exact h w3 (f02.tr g3)
 by_cases h4:k=4
 ·subst h4;have e:JcT 4 a b = !JbW a b:=rfl;rw[e]at h;refine Fz (by simp only[go_sem,JaX,simprocAttr,Jw,XN,Pn,hc1,hc2,e1,e2,a3,b3];rfl) ?_;refine Ja0 Ff Fe ?_;refine JkM C fun w3 g3=>?_;have h:=h w3 (f02.tr g3);refine JaY 1000 Fe ?_;refine JaZ ⟨_,by simp only[go_sem,JaX,simprocAttr,Jw];rfl,?_⟩;exact h
 by_cases h5:k=5
 ·subst h5;have e:JcT 5 a b=JbL a b:=rfl;rw[e]at h;refine Fz (by simp only[go_sem,JaX,simprocAttr,Jw,XN,Ut,Pm,hc1,hc2,e1,e2,a3,b3];rfl) ?_;refine Ja0 Ff Fe ?_;refine Jj4 C fun w3 g3=>?_;refine JaY 1000 Fe ?_;refine JaZ ⟨_,by simp only[go_sem,JaX,simprocAttr,Jw];rfl,?_⟩;exact h w3 (f02.tr g3)
 have e:JcT k a b = !JbL b a:=by unfold JcT;rw[if_neg h3,if_neg h4,if_neg h5]
 rw[e]at h;refine Fz (by simp only[go_sem,JaX,simprocAttr,Jw,XN,Ut,Pp,hc1,hc2,e1,e2,a3,b3,h3,h4,h5];rfl) ?_;refine Ja0 Ff Fe ?_;refine Jj4 C fun w3 g3=>?_;have h:=h w3 (f02.tr g3);refine JaY 1000 Fe ?_;refine JaZ ⟨_,by simp only[go_sem,JaX,simprocAttr,Jw];rfl,?_⟩;exact h
theorem JqO {S:Fw}{w:AW}{v:V}{esz n:Nat}{cs:List V}(h:Buf S w v esz n cs):V.one v=true∧v.cells=[v]:=by
 rcases h.rd.inv with⟨rfl,_⟩|⟨_,_,_,rfl,_⟩<;>exact⟨rfl,rfl⟩
def JbU (t:Tm) (bs:List Bn):Tk:=(Jda t bs).getD ⟨0,[],0⟩
def Jcl (l:Lt) (bs:List Bn):Fc:=(l.name,l.args.map fun t=>JbU t bs)
def Jhc (t:Tm) (bs:List Bn):Bool:=(Jda t bs).isSome
theorem JgO (t:Tm)(bs:List Bn):Jr6 (Jda t bs) = .tuple [.agg (tkC (JbU t bs)),.bool (Jhc t bs)]:=by
 unfold JbU Jhc;cases Jda t bs<;>rfl
theorem Jj9 (l:List Tk)(t:Tk):JcY (l++[t])=JcY l++tkC t:=by simp[JcY]
theorem JkN (C:Codes tab){T':Fw}{l:Lt}{xs:List V}{bv:V}(hx:LtC T aw l xs)(hb:Rd T' aw bv 4 bs.length (JdA bs))(hn:bs.length≤1000000)(ha:l.args.length≤1000)(h:∀w ys S,FcC S w (Jcl l bs) ys→Frm (fun _=>False) aw w→(∀x,S x→aw.next≤x∧x<w.next)→K (.agg ys) w):WF tab VF [.agg xs,bv] aw K:=by
 refine Ja7 C.Xq rfl ?_;obtain⟨xv,rfl,hx⟩:=hx;obtain⟨w1,e1,c1,r1,m1⟩:=Jb8 aw [.int .i64 (Int.ofNat l.kind),.str l.name,xv];obtain⟨w2,e2,c2,r2,m2⟩:=Jb8 w1 [V.str [],V.nilslice];obtain⟨w3,s3,c3,r3,m3⟩:=Jb1 w2 (zs:=[V.str [],V.nilslice]) (vs:=[V.str l.name,V.nilslice]) rfl rfl;have f02:=r1.tr r2;have f03:=f02.tr r3;have c1:=c1.frm (r2.tr r3) fun h=>h;have c2:=c2.frm r3 fun h=>h;have a1:(w1.fresh [V.str [],V.nilslice]).load aw.next 1 1=some [.str l.name]:=by rw[e2];exact CB.ld ((fun c=>c) (show CB w2 aw.next _ from by have:=(JbA aw [V.int .i64 (Int.ofNat l.kind),.str l.name,xv]);rw[e1]at this;exact this.frm r2 fun h=>h)) 1 1 _ rfl
 have a1:w2.load aw.next 1 1=some [.str l.name]:=by rw[←e2];exact a1
 have hxv:=hx.lenV;have hov1:over [V.str [],V.nilslice] 0 [V.str l.name]=some [V.str l.name,V.nilslice]:=rfl;refine Fz (by simp only[go_sem,JaX,simprocAttr,Xp,H0,e1,e2,a1,Ja4,Jbe,hov1,FC,FD,s3];rfl) ?_
 refine Jba (fun n f w=>∃i v S,f.get 1=some bv∧f.get 2=some (.ptr aw.next 0)∧f.get 4=some (.ptr w1.next 0)∧f.get 5=some (.ptr w2.next 0)∧f.get 6=some (.int .i64 (Int.ofNat i))∧Frm (fun b=>b=w2.next) w3 w∧CB w w2.next [V.str l.name,v]∧Buf S w v 3 i (JcY ((l.args.take i).map fun t=>JbU t bs))∧(∀x,S x→w3.next≤x∧x<w.next)∧i≤l.args.length∧n=l.args.length-i)
  (fun f w=>∃v S,f.get 4=some (.ptr w1.next 0)∧f.get 5=some (.ptr w2.next 0)∧Frm (fun b=>b=w2.next) w3 w∧CB w w2.next [V.str l.name,v]∧Buf S w v 3 l.args.length (JcY (l.args.map fun t=>JbU t bs))∧(∀x,S x→w3.next≤x∧x<w.next)) ?_ ?_ l.args.length
  ⟨0,.nilslice,fun _=>False,Fb,Fb,Fb,Fb,Fb,Frm.refl _,c3,.nil,fun _ h=>h.elim,Nat.zero_le _,rfl⟩
 ·rintro n f w ⟨i,v,S,f1,f2,f4,f5,f6,g,hc,hB,hS,hi,rfl⟩ ih out;have n12:=r1.next;have n23:=r2.next;have g0:=g.next;have c1w:=c1.frm g Fh;have a2:w.load aw.next 2 1=some [xv]:=CB.ld c1w 2 1 _ rfl;by_cases hlt:i<l.args.length
  case neg =>
   obtain rfl:i=l.args.length:=Fh;rw[List.take_length]at hB;refine Ja2 1000 (by simp only[go_sem,simprocAttr,Uh,f2,f6,a2,hxv,hlt];rfl) ?_;exact out _ _ _ ⟨v,S,(Fg f4),(Fg f5),g,hc,hB,hS⟩ rfl
  obtain⟨t,ht⟩:∃t,l.args[i]? = some t:=⟨_,FB hlt⟩;have htk:l.args.take (i+1)=l.args.take i++[t]:=by rw[List.take_add_one,ht];rfl
  have hT0:∀x,(T x∧x<aw.next)→¬x=w2.next:=fun x hx=>by omega
  have f0w:Frm (fun _=>False) aw w:=f03.trans g (fun _ _ h=>h) (fun x hx he=>by omega);obtain⟨b,o,c,rfl,_,_,a3,_⟩:=Jd5 (hx.frm f0w fun _ _ h=>h) ht;have hwr:IntKind.wrap .i64 (Int.ofNat i+1)=Int.ofNat (i+1):=Ja3 Fh;refine Fz (by simp only[go_sem,JaX,simprocAttr,Uh,HZ,f1,f2,f6,a2,hxv,hlt,a3];rfl) ?_;refine Ja0 Ff Fe ?_;refine JgL C (t:=t) (hb.frm f0w fun _ _ h=>h) hn fun w4 g4=>?_;rw[JgO];obtain⟨w5,s5,c5,r5,n5⟩:=Jb1 w4 (zs:=[V.int .i64 0,V.str [],V.int .i64 0]) (vs:=tkC (JbU t bs)) rfl rfl;have g5:Frm (fun _=>False) w w5:=g4.tr r5;have hB5:=hB.frm g5 fun _ _ h=>h;have hc5:=hc.frm g5 fun h=>h;have n45:=g5.next;have b1:w5.load w2.next 1 1=some [v]:=CB.ld hc5 1 1 _ rfl;have k3:w5.load w4.next 0 3=some (tkC (JbU t bs)):=c5.all rfl;have hcc:V.cells (.agg (tkC (JbU t bs)))=tkC (JbU t bs):=rfl;obtain⟨v',w6,S6,u1,u2,u3,u4⟩:=hB5.push (news:=tkC (JbU t bs)) (bytes:=32) (fun b hb=>by have:=(hS b hb).2;omega) Fh rfl rfl Fh Fh;have hov:over [V.int .i64 0,V.str [],V.int .i64 0] 0 (tkC (JbU t bs))=some (tkC (JbU t bs)):=rfl;have hel:(w5.fresh (tkC (JbU t bs))).elems 3 (.slice w5.next 0 1 (.known 1))=some (1,tkC (JbU t bs)):=JbH Fh rfl;have hc6:=hc5.frm u3 fun h=>by have:=(hS _ h).1;have:=g.next;have:w3.next=w2.next+1:=m3;omega
  have hne:∀x,S6 x→x≠w2.next:=fun x hx=>by
   rcases (u4 x hx).2 with h|h
   ·have:=(hS x h).1;have:w3.next=w2.next+1:=m3;omega
   ·have:w3.next=w2.next+1:=m3;have:=g.next;omega
  obtain⟨hvone,hvc⟩:=JqO u2;have st7:=hc6.set (i:=1) (v:=v') Fj hvone;have fst:Frm (fun b=>b=w2.next) w6 (w6.put w2.next ([V.str l.name,v].set 1 v')):=Jbj;refine Fz (by simp only[go_sem,JaX,simprocAttr,HY,JcA,s5,f5,b1,k3,hcc,Ja4,Jbe,hov,hel,u1,hvc,st7,f6,hwr,FC,FD];rfl) ?_;refine ih _ _ _ Fh ⟨i+1,v',S6,(Fg f1),(Fg f2),(Fg f4),(Fg f5),Fb,?_,Jbx (FK (by have:w3.next=w2.next+1:=m3;have:=g.next;omega) u3.next),?_,?_,by omega,rfl⟩
  ·exact ((g.trans g5 (fun _ _ h=>h) (fun _ _ h=>h.elim)).trans u3 (fun _ _ h=>h) (fun x hx h=>by have:=(hS x h).1;omega)).trans fst (fun _ _ h=>h) (fun _ _ h=>h)
  ·rw[htk,List.map_append,Kv,Kw,Jj9];exact u2.frm fst fun x hx h=>hne x hx h
  ·intro x hx;refine⟨?_,(u4 x hx).1⟩;rcases (u4 x hx).2 with h|h
   ·exact (hS x h).1
   ·have:=g.next;omega
 ·rintro f w ⟨v,S,f4,f5,g,hc,hB,hS⟩;have n12:=r1.next;have n23:=r2.next;have g0:=g.next;have hc2:=c2.frm g (by have:w2.next=w1.next+1:=m2;omega);have b2:w.load w2.next 0 2=some [V.str l.name,v]:=hc.all rfl;obtain⟨hvone,hvc⟩:=JqO hB;have hst:=hc2.setAll (vs:=[V.str l.name,v]) rfl (by simp only[Jbf,hvone];rfl);have hrl:=(Jbx (l:=[V.str l.name,v]) hc2.lt).all (n:=2) rfl;have pf:Frm (fun b=>b=w1.next) w (w.put w1.next [V.str l.name,v]):=Jbj;refine Fz (by simp only[go_sem,JaX,simprocAttr,f4,f5,b2,hst,FC,FD];rfl) ?_;refine JaZ ⟨_,by simp only[go_sem,JaX,simprocAttr,Xp,f4,hrl];rfl,?_⟩;refine h _ _ S ⟨v,rfl,?_⟩ ?_ fun x hx=>?_
  ·have:=(hB.frm pf fun x hx h=>by have:=(hS x hx).1;have:w3.next=w2.next+1:=m3;omega).rd;have e:(Jcl l bs).2.length=l.args.length:=F9 ..;rw[e];exact this
  ·exact (f03.trans g (fun _ _ h=>h) (fun x hx he=>by omega)).out Fh rfl
  ·have:=hS x hx;have:w3.next=w2.next+1:=m3;show _∧x<w.next;omega
section
open Go.AE Delphi Val
variable {tab:Tab}
def Jdg:List Tm→List Tk→List Bn→Option (List Bn)
 | t::ts,c::cs,bs=>match Jda t bs with
  | none=>Jdg ts cs (bs++[(t.name,c)])
  | some u=>if JbW u c then Jdg ts cs bs else none
 | _,_,bs=>some bs
def JfY (l:Lt) (f:Fc) (bs:List Bn):Option (List Bn):=if eqL l.name f.1=true∧l.args.length=f.2.length then Jdg l.args f.2 bs else none
theorem Jss (l:List Bn)(t:Bn):JdA (l++[t])=JdA l++bnC t:=by simp[JdA]
theorem JoD:∀l:List Bn,Jbf (JdA l)=true
 | []=>rfl
 | b::l=>by
  show Jbf (bnC b++JdA l)=true;have:=JoD l;simp only[bnC,tkC,List.cons_append,List.nil_append,Jbf,V.one];exact this
theorem Juh (l:List Bn):(JdA l).length=l.length*4:=by
 induction l with
 | nil=>rfl
 | cons b l ih =>
  show (bnC b++JdA l).length=_;rw[FE,ih,JiX,FC];omega
theorem JuV (C:Codes tab){T' T'':Fw}{l:Lt}{fc:Fc}{xs ys:List V}{bv:V}(hx:LtC T aw l xs)(hy:FcC T' aw fc ys)(hb:Rd T'' aw bv 4 bs.length (JdA bs))(hn:bs.length≤1000)(ha:l.args.length≤1000)(h1:JfY l fc bs=none→∀v w,Frm (fun _=>False) aw w→K (.tuple [v,.bool false]) w)(h2:∀o,JfY l fc bs=some o→∀v w S,Bt S w v 4 o.length (JdA o)→Frm (fun _=>False) aw w→(∀x,S x→aw.next≤x∧x<w.next)→K (.tuple [v,.bool true]) w):WF tab Gl [.agg xs,.agg ys,bv] aw K:=by
 refine Ja7 C.Xj rfl ?_;obtain⟨xv,rfl,hx⟩:=hx;obtain⟨yv,rfl,hy⟩:=hy;obtain⟨nm,cs⟩:=fc;simp only at hy;obtain⟨w1,e1,c1,r1,m1⟩:=Jb8 aw [.int .i64 (Int.ofNat l.kind),.str l.name,xv];obtain⟨w2,e2,c2,r2,m2⟩:=Jb8 w1 [.str nm,yv];have c1:=c1.frm r2 fun h=>h;have f02:=r1.tr r2;have a1:w2.load aw.next 1 1=some [.str l.name]:=CB.ld c1 1 1 _ rfl;have a2:w2.load aw.next 2 1=some [xv]:=CB.ld c1 2 1 _ rfl;have b0:w2.load w1.next 0 1=some [.str nm]:=CB.ld c2 0 1 _ rfl;have b1:w2.load w1.next 1 1=some [yv]:=CB.ld c2 1 1 _ rfl;have hxv:=hx.lenV;have hyv:=hy.lenV;have hneq:Jck BinOp.neq l.name nm=some (.bool (!eqL l.name nm)):=rfl;by_cases hnm:eqL l.name nm=true
 case neg =>
  have hf:eqL l.name nm=false:=by simpa using hnm
  rw[hf]at hneq;have hneq:Jck BinOp.neq l.name nm=some (.bool true):=hneq;have h1:=h1 (if_neg fun h=>hnm h.1);refine Fz (by simp only[go_sem,JaX,simprocAttr,JC,Xi,Uc,e1,e2,a1,b0,hneq];rfl) ?_;refine JaZ ⟨_,by simp only[go_sem,JaX,simprocAttr,JC];rfl,?_⟩;exact h1 bv w2 f02
 rw[hnm]at hneq;have hneq:Jck BinOp.neq l.name nm=some (.bool false):=hneq;by_cases hlen:l.args.length=cs.length
 case neg =>
  have h1:=h1 (if_neg fun h=>hlen h.2);refine Fz (by simp only[go_sem,JaX,simprocAttr,JC,Xi,Uc,e1,e2,a1,a2,b0,b1,hneq,hxv,hyv,hlen];rfl) ?_;refine JaZ ⟨_,by simp only[go_sem,JaX,simprocAttr,JC];rfl,?_⟩;exact h1 bv w2 f02
 have hfit:JfY l (nm,cs) bs=Jdg l.args cs bs:=if_pos ⟨hnm,hlen⟩;rw[hfit]at h1 h2;have hyv:lenV yv=some l.args.length:=by rw[hlen];exact hyv
 obtain⟨v0,w3,S0,u1,u2,u3,u4⟩:=(Bt.nil (S:=fun _=>False) (w:=w2) (esz:=4)).addN (news:=JdA bs) (k:=bs.length) (bytes:=48) Fh (Juh bs) (JoD bs) Fh Fh;have hel:w2.elems 4 bv=some (bs.length,JdA bs):=(hb.frm f02 fun _ _ h=>h).elems;rw[FV,List.nil_append]at u2;refine Fz (by simp only[go_sem,JaX,simprocAttr,JC,Xi,HQ,e1,e2,a1,a2,b0,b1,hneq,hxv,hyv,hel,u1];rfl) ?_
 refine Jba (fun n f w=>∃i v S o,f.get 2=some bv∧f.get 3=some (.ptr aw.next 0)∧f.get 4=some (.ptr w1.next 0)∧f.get 8=some v∧f.get 9=some (.int .i64 (Int.ofNat i))∧Frm (fun _=>False) w2 w∧Bt S w v 4 o.length (JdA o)∧(∀x,S x→w2.next≤x∧x<w.next)∧Jdg l.args cs bs=Jdg (l.args.drop i) (cs.drop i) o∧o.length≤1000+i∧i≤l.args.length∧n=l.args.length-i)
  (fun f w=>∃v S o,f.get 8=some v∧Frm (fun _=>False) w2 w∧Bt S w v 4 o.length (JdA o)∧(∀x,S x→w2.next≤x∧x<w.next)∧Jdg l.args cs bs=some o) ?_ ?_ l.args.length
  ⟨0,v0,S0,bs,Fb,Fb,Fb,Fb,Fb,u3,u2,fun x hx=>⟨((u4 x hx).2.resolve_left fun h=>h),(u4 x hx).1⟩,rfl,by omega,Nat.zero_le _,rfl⟩
 ·rintro n f w ⟨i,v,S,o,f2,f3,f4,f8,f9,g,hB,hS,hL,ho,hi,rfl⟩ ih out;have c1w:=c1.frm g fun h=>h;have c2w:=c2.frm g fun h=>h;have a1:w.load aw.next 1 1=some [.str l.name]:=CB.ld c1w 1 1 _ rfl;have a2:w.load aw.next 2 1=some [xv]:=CB.ld c1w 2 1 _ rfl;have b1:w.load w1.next 1 1=some [yv]:=CB.ld c2w 1 1 _ rfl;by_cases hlt:i<l.args.length
  case neg =>
   obtain rfl:i=l.args.length:=Fh;rw[List.drop_length]at hL;have hL:Jdg l.args cs bs=some o:=by rw[hL];rfl
   refine Ja2 1000 (by simp only[go_sem,simprocAttr,Ud,f3,f9,a2,hxv,hlt];rfl) ?_;exact out _ _ _ ⟨v,S,o,(Fg f8),g,hB,hS,hL⟩ rfl
  have hlt2:i<cs.length:=Fh;obtain⟨t,ht⟩:∃t,l.args[i]? = some t:=⟨_,FB hlt⟩;obtain⟨u,hu⟩:∃t,cs[i]? = some t:=⟨_,FB hlt2⟩;have hda:l.args.drop i=t::l.args.drop (i+1):=by rw[FL hlt];rw[FB hlt]at ht;cases ht;rfl
  have hdb:cs.drop i=u::cs.drop (i+1):=by rw[FL hlt2];rw[FB hlt2]at hu;cases hu;rfl
  rw[hda,hdb]at hL;have f0w:=f02.tr g;have hxw:=hx.frm f0w fun _ _ h=>h;have hyw:=hy.frm f0w fun _ _ h=>h;obtain⟨b,o',c,rfl,_,_,a3,_,an⟩:=Jd5 hxw ht;obtain⟨b',o'',c',rfl,_,_,b3⟩:=JfU hyw hu;have hwr:IntKind.wrap .i64 (Int.ofNat i+1)=Int.ofNat (i+1):=Ja3 Fh;refine Fz (by simp only[go_sem,JaX,simprocAttr,Ud,HP,f3,f8,f9,a2,hxv,hlt,a3];rfl) ?_;refine Ja0 Ff Fe ?_;refine JgL C (t:=t) hB.rd Fh fun w4 g4=>?_;rw[JgO];obtain⟨w5,s5,c5,r5,n5⟩:=Jb1 w4 (zs:=[V.int .i64 0,V.str [],V.int .i64 0]) (vs:=tkC (JbU t o)) rfl rfl;have g5:Frm (fun _=>False) w w5:=g4.tr r5;have hlt2':i<l.args.length:=hlt;have a2':w5.load aw.next 2 1=some [.slice b o' l.args.length c]:=CB.ld (c1w.frm g5 fun h=>h) 2 1 _ rfl;have b1':w5.load w1.next 1 1=some [.slice b' o'' cs.length c']:=CB.ld (c2w.frm g5 fun h=>h) 1 1 _ rfl;obtain⟨_,_,_,he,_,_,_,_,an'⟩:=Jd5 (hxw.frm g5 fun _ _ h=>h) ht;cases he;obtain⟨_,_,_,he,_,_,b3'⟩:=JfU (hyw.frm g5 fun _ _ h=>h) hu;cases he;have k3:w5.load w4.next 0 3=some (tkC (JbU t o)):=c5.all rfl;have n45:=g5.next;cases hw:Jda t o with
  | none =>
   have hwb:Jhc t o=false:=by unfold Jhc;rw[hw];rfl
   have hL:Jdg l.args cs bs=Jdg (l.args.drop (i+1)) (cs.drop (i+1)) (o++[(t.name,u)]):=by
    rw[hL];simp only[Jdg,hw]
   have hB5:=hB.frm g5 fun _ _ h=>h;obtain⟨v',w6,S6,u1,u2,u3,u4⟩:=hB5.push (news:=bnC (t.name,u)) (bytes:=48) (fun b hb=>by have:=(hS b hb).2;omega) Fh rfl rfl Fh Fh;have u1:(w5.fresh (V.str t.name::tkC u)).appendV 4 48 v 1 (V.str t.name::tkC u)=some (v',w6):=u1;have hov1:over [V.str [],V.int .i64 0,V.str [],V.int .i64 0] 0 [V.str t.name]=some [V.str t.name,V.int .i64 0,V.str [],V.int .i64 0]:=rfl;have hov2:over [V.str t.name,V.int .i64 0,V.str [],V.int .i64 0] 1 (tkC u)=some (V.str t.name::tkC u):=rfl;have hov3:over [V.str [],V.int .i64 0,V.str [],V.int .i64 0] 0 (V.str t.name::tkC u)=some (V.str t.name::tkC u):=rfl;have hel:(w5.fresh (V.str t.name::tkC u)).elems 4 (.slice w5.next 0 1 (.known 1))=some (1,V.str t.name::tkC u):=JbH Fh rfl;have hcc:V.cells (.agg (tkC u))=tkC u:=rfl;have hcl:(V.str t.name::tkC u).length=4:=rfl;have hcc4:V.cells (.agg (V.str t.name::tkC u))=V.str t.name::tkC u:=rfl;refine Fz (by simp only[go_sem,JaX,simprocAttr,HM,JcA,s5,hwb,f3,f4,f8,f9,a2',b1',hlt,hlt2,an',b3',Ja4,Jbe,hcc,hcc4,hov1,hov2,hov3,hel,u1,FC,FD,hwr];rfl) ?_;refine ih _ _ _ Fh ⟨i+1,v',S6,o++[(t.name,u)],(Fg f2),(Fg f3),(Fg f4),Fb,Fb,(g.tr g5).trans u3 (fun _ _ h=>h) (fun x hx h=>by have:=(hS x h).1;omega),?_,fun x hx=>?_,hL,by rw[FE];simp;omega,by omega,rfl⟩
   ·rw[Jss,FE];exact u2
   ·refine⟨?_,(u4 x hx).1⟩;rcases (u4 x hx).2 with h|h
    ·exact (hS x h).1
    ·have:=g.next;omega
  | some q =>
   have hwb:Jhc t o=true:=by unfold Jhc;rw[hw];rfl
   have hwd:JbU t o=q:=by unfold JbU;rw[hw];rfl
   rw[hwd]at s5 k3;rw[hwd]
   have hL:Jdg l.args cs bs=if JbW q u then Jdg (l.args.drop (i+1)) (cs.drop (i+1)) o else none:=by
    rw[hL];simp only[Jdg,hw]
   refine Fz (by simp only[go_sem,JaX,simprocAttr,HO,JcA,s5,hwb,f4,f9,b1',hlt2,b3',k3];rfl) ?_;refine Ja0 Ff Fe ?_;refine JkM C fun w6 g6=>?_;have g6:=g5.tr g6;cases hs:JbW q u with
   | false =>
    rw[hs]at hL;have h1:=h1 hL;refine Fz (by simp only[go_sem,JaX,simprocAttr,HN,f2];rfl) ?_;refine JaZ ⟨_,by simp only[go_sem,JaX,simprocAttr,JC];rfl,?_⟩;exact h1 bv w6 (f0w.tr g6)
   | true =>
    rw[hs]at hL;have hL:Jdg l.args cs bs=Jdg (l.args.drop (i+1)) (cs.drop (i+1)) o:=hL;refine Fz (by simp only[go_sem,JaX,simprocAttr,f9,hwr];rfl) ?_;exact ih _ _ _ Fh ⟨i+1,v,S,o,(Fg f2),(Fg f3),(Fg f4),(Fg f8),Fb,g.tr g6,hB.frm g6 fun _ _ h=>h,fun x hx=>⟨(hS x hx).1,by have:=(hS x hx).2;have:=g6.next;omega⟩,hL,by omega,by omega,rfl⟩
 ·rintro f w ⟨v,S,o,f8,g,hB,hS,hL⟩;refine Fz (by simp only[go_sem,JaX,simprocAttr,f8];rfl) ?_;refine JaZ ⟨_,by simp only[go_sem,JaX,simprocAttr,JC];rfl,?_⟩;exact h2 o hL v w S hB (f02.tr g) fun x hx=>⟨by have:=(hS x hx).1;have:=r1.next;have:=r2.next;omega,(hS x hx).2⟩
end
section
open Go.AE Delphi Val
variable {tab:Tab}
variable {w:AW} {cs:List V}
theorem JtT {b o n esz k:Nat}{c:Cap}(h:RdB T w b o n esz c cs)(hn:0<n)(hk:k≤n): ∃o',(∀w':AW,w'.sliceW esz b o n c none (some k) (some k)=some (.slice b o' k (.known k)))∧w.elems esz (.slice b o' k (.known k))=some (k,cs.take (k*esz))∧(k≠0→o'=o):=by
 have hel:∀o',(k≠0→o'=o)→w.elems esz (.slice b o' k (.known k))=some (k,cs.take (k*esz)):=by
  intro o' ho;cases k with
  | zero=>simp[AW.elems]
  | succ k =>
   have:=h.load 0 ((k+1)*esz) (by rw[FV];exact Nat.mul_le_mul_right _ hk);rw[FZ,KF]at this;rw[ho Fh];simp only[AW.elems,this]
 have hf:=h.fit;cases c with
 | known m =>
  have hf:n≤m:=hf;refine⟨o,fun w'=>?_,hel o fun _=>rfl,fun _=>rfl⟩;simp only[AW.sliceW,Jdn,Option.getD_some,Option.getD_none,Nat.sub_zero,Option.isSome_some,implies_true,Nat.zero_mul,KF,ite_self];rw[if_pos (by simp;omega)]
 | upTo z =>
  refine⟨o,fun w'=>?_,hel o fun _=>rfl,fun _=>rfl⟩;simp only[AW.sliceW,Jdn,Option.getD_some,Option.getD_none,Nat.sub_zero,Option.isSome_some,Nat.zero_mul,KF];rw[if_pos (by simp;omega)]
theorem JtU {b o n esz k:Nat}{c:Cap}(h:RdB T w b o n esz c cs)(hl:cs.length=n*esz)(hn:0<n)(hk:k≤n): ∃v,(∀w':AW,w'.sliceW esz b o n c (some k) none none=some v)∧w.elems esz v=some (n-k,cs.drop (k*esz))∧(∃o' c',v = .slice b o' (n-k) c'):=by
 have hle:k*esz≤n*esz:=Nat.mul_le_mul_right _ hk
 have hel:∀o' c',(k<n→o'=o+k*esz)→w.elems esz (.slice b o' (n-k) c')=some (n-k,cs.drop (k*esz)):=by
  intro o' c' ho;by_cases hkn:k=n
  ·subst hkn;rw[Nat.sub_self,List.drop_eq_nil_of_le Fh];rfl
  ·obtain⟨m,hm⟩:∃m,n-k=m+1:=⟨n-k-1,by omega⟩;have h2:=h.load (k*esz) ((n-k)*esz) (by rw[←Nat.add_mul];exact Nat.mul_le_mul_right _ Fh);rw[FX (by rw[Ki,hl,Nat.sub_mul];omega)]at h2;rw[ho Fh];rw[hm]at h2 ⊢;simp only[AW.elems,h2]
 have hf:=h.fit;cases c with
 | known m =>
  have hf:n≤m:=hf;refine⟨_,fun w'=>?_,hel (if m=k then o else o+k*esz) (.known (m-k)) (fun hkn=>if_neg Fh),_,_,rfl⟩;simp only[AW.sliceW,Jdn,Option.getD_some,Option.getD_none];rw[if_pos ⟨FH _,hf,hk,by simp⟩]
 | upTo z =>
  have hz:z=esz:=by rcases hf with h|h;exact h;omega
  refine⟨_,fun w'=>?_,hel _ (.upTo esz) (fun _=>rfl),_,_,rfl⟩;simp only[AW.sliceW,Jdn,Option.getD_some,Option.getD_none];rw[if_pos ⟨FH _,hk,hz⟩]
variable {l:List Fc}
theorem Fcs.mono {T':Fw}{v:V}(h:Fcs T w v l)(ht:∀x,T x→T' x):Fcs T' w v l:=by
 obtain⟨xss,h1,h2⟩:=h;refine⟨xss,h1.mono ht,All2.imp (fun a xs h=>?_) h2⟩;obtain⟨xv,q1,q2⟩:=h;exact⟨xv,q1,q2.mono ht⟩
def JcH (l:List Fc) (f:Fc):Nat:=(l.takeWhile fun x=>JbJ x f).length
def Je5 (l:List Fc) (f:Fc):Bool:=match l[JcH l f]? with|some x=>Jcm x f|none=>false
def JcF (l:List Fc) (f:Fc):List Fc:=if Je5 l f then l else l.take (JcH l f)++f::l.drop (JcH l f)
theorem JiK {α:Type}{p:α→Bool}:∀{l:List α} {k:Nat},k≤l.length→(∀j x,j<k→l[j]? = some x→p x=true)→(∀x,l[k]? = some x→p x=false)→(l.takeWhile p).length=k
 | [],k,hk,_,_=>by simp at hk;subst hk;rfl
 | a::l,0,_,_,h=>by rw[List.takeWhile_cons_of_neg (by simp[h a rfl])];rfl
 | a::l,k+1,hk,h1,h2=>by
  rw[List.takeWhile_cons_of_pos (h1 0 a Fh rfl),FC,JiK (k:=k) (by simpa using hk) (fun j x hj hx=>h1 (j+1) x Fh (by simpa using hx)) fun x hx=>h2 x (by simpa using hx)]
theorem Jkh {α β:Type}{r:α→β→Prop}:∀{l:List α} {m:List β} (n:Nat),All2 r l m→All2 r (l.take n) (m.take n)
 | _,_,0,_=> .nil
 | _,_,n+1,.nil=> .nil
 | _,_,n+1,.cons h1 h2=> .cons h1 (Jkh n h2)
theorem Jkg {α β:Type}{r:α→β→Prop}:∀{l:List α} {m:List β} (n:Nat),All2 r l m→All2 r (l.drop n) (m.drop n)
 | _,_,0,h=>h
 | _,_,n+1,.nil=> .nil
 | _,_,n+1,.cons h1 h2=>Jkg n h2
theorem Jli {α β:Type}{r:α→β→Prop}:∀{l:List α} {m:List β} {l':List α} {m':List β},All2 r l m→All2 r l' m'→All2 r (l++l') (m++m')
 | _,_,_,_,.nil,h=>h
 | _,_,_,_,.cons h1 h2,h=> .cons h1 (Jli h2 h)
theorem Jhj {α β:Type}{r q:α→β→Prop}{l:List α}{m:List β}(h:All2 r l m)(hq:∀a b,r a b→q a b):All2 q l m:=All2.imp hq h
theorem Jkt {α:Type}{r:α→List V→Prop}{sz:Nat}(hsz:∀a xs,r a xs→xs.length=sz):∀{l:List α} {xss:List (List V)} (n:Nat),All2 r l xss→(xss.take n).flatten=xss.flatten.take (n*sz)∧(xss.drop n).flatten=xss.flatten.drop (n*sz)
 | _,_,0,_=>by simp
 | _,_,n+1,.nil=>by simp
 | a::l,x::m,n+1,.cons h1 h2=>by
  obtain⟨q1,q2⟩:=Jkt hsz n h2;have hx:=hsz _ _ h1;have e:(n+1)*sz=x.length+n*sz:=by rw[hx,Nat.add_mul,Nat.one_mul,KA]
  refine⟨?_,?_⟩
  ·rw[List.take_succ_cons,List.flatten_cons,List.flatten_cons,q1,e,List.take_length_add_append]
  ·rw[List.drop_succ_cons,List.flatten_cons,q2,e,List.drop_length_add_append]
theorem Jpd (C:Codes tab){T':Fw}{f:Fc}{lv:V}{ys:List V}(hx:Fcs T aw lv l)(hnil:l=[]→lv = .nilslice)(hy:FcC T' aw f ys)(hl:l.length≤1000000)(hlx:∀x∈l,x.2.length≤1000)(hly:f.2.length≤1000)(h:∀w v,Fcs (fun x=>T x∨T' x∨(aw.next≤x∧x<w.next)) w v (JcF l f)→(JcF l f=[]→v = .nilslice)→Frm (fun _=>False) aw w→K (.tuple [v,.bool (!Je5 l f)]) w):WF tab VE [lv,.agg ys] aw K:=by
 refine Ja7 C.Xo rfl ?_;obtain⟨yl,yo⟩:=hy.one;obtain⟨w1,e1,c1,r1,m1⟩:=Jb8 aw ys;have hc1:V.cells (.agg ys)=ys:=rfl;have hlv:=hx.lenV;refine Fz (by simp only[go_sem,JaX,simprocAttr,J2,hc1,e1];rfl) ?_
 refine Jba (fun n fr w=>∃i,fr.get 0=some lv∧fr.get 3=some (.ptr aw.next 0)∧fr.get 6=some (.int .i64 (Int.ofNat i))∧Frm (fun _=>False) w1 w∧(∀j x,j<i→l[j]? = some x→JbJ x f=true)∧i≤l.length∧n=l.length-i)
  (fun fr w=>fr.get 0=some lv∧fr.get 3=some (.ptr aw.next 0)∧fr.get 6=some (.int .i64 (Int.ofNat (JcH l f)))∧Frm (fun _=>False) w1 w) ?_ ?_ l.length ⟨0,Fb,Fb,Fb,Frm.refl _,fun j x hj=>by omega,Nat.zero_le _,rfl⟩
 ·rintro n fr w ⟨i,f0,f3,f6,g,hL,hi,rfl⟩ ih out;by_cases hlt:i<l.length
  case neg =>
   have hk:JcH l f=i:=JiK hi hL fun x hx=>by rw[List.getElem?_eq_none Fh]at hx;cases hx
   refine Ja2 1000 (by simp only[go_sem,simprocAttr,Uf,f0,f6,hlv,hlt];rfl) ?_;exact out _ _ _ ⟨(Fg f0),(Fg f3),by rw[hk];exact (Fg f6),g⟩ rfl
  obtain⟨t,ht⟩:∃t,l[i]? = some t:=⟨_,FB hlt⟩;have f0w:=r1.tr g;have a0:=(c1.frm g fun h=>h).all yl;obtain⟨b,o,c,xv,rfl,_,_,la,_,_,hxv⟩:=Jd2 (hx.frm f0w fun _ _ h=>h) ht;have hwr:IntKind.wrap .i64 (Int.ofNat i+1)=Int.ofNat (i+1):=Ja3 Fh;refine Fz (by simp only[go_sem,JaX,simprocAttr,Uf,f0,f3,f6,hlv,hlt,la,a0];rfl) ?_;refine Ja0 Ff Fe ?_;refine JiF C (x:=t) (y:=f) (T:=T) ⟨xv,rfl,hxv⟩ (hy.frm f0w fun _ _ h=>h) (hlx t (FI ht)) fun w2 g2=>?_;cases hs:JbJ t f with
  | true =>
   refine Fz (by simp only[go_sem,JaX,simprocAttr,f6,hwr];rfl) ?_
   exact ih _ _ _ Fh ⟨i+1,(Fg f0),(Fg f3),Fb,g.tr g2,fun j x hj hx=>by
    rcases Nat.lt_succ_iff_lt_or_eq.1 hj with hj|rfl
    ·exact hL j x hj hx
    ·rw[ht]at hx;cases hx;exact hs,by omega,rfl⟩
  | false =>
   have hk:JcH l f=i:=JiK hi hL fun x hx=>by rw[ht]at hx;cases hx;exact hs
   refine Ja2 1000 (by simp only[go_sem,simprocAttr];rfl) ?_;exact out _ _ _ ⟨(Fg f0),(Fg f3),by rw[hk];exact (Fg f6),g.tr g2⟩ rfl
 rintro fr w ⟨f0,f3,f6,g⟩;have f0w:=r1.tr g;have cw:=c1.frm g fun h=>h;have a0:=cw.all yl;have hkl:JcH l f≤l.length:=by unfold JcH;exact (List.takeWhile_sublist _).length_le
 have hyw:=hy.frm f0w fun _ _ h=>h;have hxw:=hx.frm f0w fun _ _ h=>h
 have put:Je5 l f=false→∀fr' w',fr'.get 0=some lv→fr'.get 3=some (.ptr aw.next 0)→fr'.get 6=some (.int .i64 (Int.ofNat (JcH l f)))→Frm (fun _=>False) w w'→WS tab [.code Xn] fr' w' (fun fr' aw'=>∃vs,Jcv fr' aw' J2.results=some vs∧K (JbT vs) aw'):=by
  intro hA fr w' f0 f3 f6 g';have hF:JcF l f=l.take (JcH l f)++f::l.drop (JcH l f):=by unfold JcF;rw[hA];rfl
  rw[hF,hA]at h;have f0w:=f0w.tr g';have cw:=cw.frm g' fun h=>h;have a0:=cw.all yl;have hyw:=hyw.frm g' fun _ _ h=>h;have hxw:=hxw.frm g' fun _ _ h=>h;have n0:=f0w.next;obtain⟨xss,q1,q2⟩:=hxw;have hl2:=q1.len;generalize hk:JcH l f=k at *
  have hov:over [V.str [],V.nilslice] 0 ys=some ys:=by
   have:=Jew [] [V.str [],V.nilslice] [] ys (by rw[yl];rfl);simpa using this
  have hcc:V.cells (.agg ys)=ys:=rfl;rcases q1.inv with⟨rfl,h0,hcs⟩|⟨b,o,c,rfl,hB⟩
  ·have hl0:l=[]:=List.length_eq_zero_iff.1 h0;subst hl0;have hk0:k=0:=by simpa using hkl
   subst hk0;have c2:=JbA w' ys;have r2:=Jbc (S:=fun _=>False) w' ys;obtain⟨w2,e2⟩:∃w2,w2=w'.fresh ys:=⟨_,rfl⟩;rw[←e2]at c2 r2;have ap1:w2.appendV 2 40 (.slice w'.next 0 1 (.known 1)) 0 []=some (.slice w'.next 0 1 (.known 1),w2):=rfl;have hel1:w2.elems 2 (.slice w'.next 0 1 (.known 1))=some (1,ys):=by rw[e2];exact JbH Fh (by rw[yl])
   have ap2:w2.appendV 2 40 .nilslice 1 ys=some (.slice w2.next 0 1 (.upTo 2),w2.fresh ys):=rfl;have c3:=JbA w2 ys;have r3:=Jbc (S:=fun _=>False) w2 ys;have hy3:=(hyw.frm r2 fun _ _ h=>h).frm r3 fun _ _ h=>h;have hfin:=h (w2.fresh ys) (.slice w2.next 0 1 (.upTo 2)) ⟨[ys],.blk (.inr (.inr ⟨by have:=r2.next;omega,c3.lt⟩)) c3.lt c3.get (.inl rfl) (by rw[yl];decide) (by show ([ys].flatten)=_;rw[FZ,FX (by rw[yl];decide)];simp) (.inl rfl),.cons (by obtain⟨xv,z1,z2⟩:=hy3;exact⟨xv,z1,z2.mono fun x hx=> .inr (.inl hx)⟩) .nil⟩ Fj ((f0w.tr r2).tr r3);have e2':w'.fresh ys=w2:=e2.symm;have hnl:w2.elems 2 V.nilslice=some (0,[]):=rfl;refine Fz (by simp only[go_sem,JaX,simprocAttr,Xn];rfl) ?_;refine JbM ?_;refine Jbn 100 (by simp only[go_sem,JaX,simprocAttr,f0,f3,f6,a0,Ja4,Jbe,hcc,hov,yl,FC,FD,e2',hnl,ap1,hel1,ap2,Option.isSome_none,Option.isSome_some,implies_true,FM,false_implies];rfl) ?_;refine JbO ⟨(show Jbg _ _ [(3,5),(3,9),(8,5)]from by simp only[go_sem,JaX,simprocAttr,Jbg,chk,List.reverse_cons,List.reverse_nil,JbE,JbR,JbP,JbQ,List.getElem?_nil,false_or,or_true,or_false,exists_eq',FQ,Prod.mk.injEq,Bool.true_eq_false,FM,and_true,true_and,implies_true,f0,f3,f6,Option.isSome_none,Option.isSome_some,implies_true,FM,false_implies,if_true]),?_⟩;refine JaY 1000 Fe ?_;refine JaZ ⟨_,by simp only[go_sem,JaX,simprocAttr,J2];rfl,?_⟩;exact hfin
  ·have hn0:0<l.length:=by
    rcases Nat.eq_zero_or_pos l.length with h0|h0
    ·have:=hnil (List.length_eq_zero_iff.1 h0);cases this
    ·exact h0
   obtain⟨o1,s1,k1,_⟩:=JtT hB hn0 hkl;obtain⟨v2,s2,k2,o2,c2',hv2⟩:=JtU hB hl2 hn0 hkl;subst hv2;have c2:=JbA w' ys;have r2:=Jbc (S:=fun _=>False) w' ys;obtain⟨w2,e2⟩:∃w2,w2=w'.fresh ys:=⟨_,rfl⟩;rw[←e2]at c2 r2;have e2':w'.fresh ys=w2:=e2.symm;have hq2:=(q1.frm r2 fun _ _ h=>h)
   have k2':w2.elems 2 (.slice b o2 (l.length-k) c2')=some (l.length-k,xss.flatten.drop (k*2)):=by
    rcases hq2.inv with⟨hh,_⟩|⟨b',o',c',hh,hB2⟩
    ·cases hh
    ·cases hh;obtain⟨v3,s3,k3,_⟩:=JtU hB2 hl2 hn0 hkl;have:=(s3 w2).symm.trans (s2 w2);cases this;exact k3
   have ldl:(xss.flatten.drop (k*2)).length=(l.length-k)*2:=by rw[Ki,hl2];omega
   obtain⟨vi,w3,ap1,hrd,fr3⟩:=Jit (n:=1) (esz:=2) (bytes:=40) c2 (by rw[yl]) Fh ldl Fh Fh;have heli:=hrd.elems;have hlen1:1+(l.length-k)=(l.length-k)+1:=Fh
   have k1':w3.elems 2 (.slice b o1 k (.known k))=some (k,xss.flatten.take (k*2)):=by
    rcases (hq2.frm fr3 fun _ _ h=>h).inv with⟨hh,_⟩|⟨b',o',c',hh,hB2⟩
    ·cases hh
    ·cases hh;obtain⟨o3,s3,k3,_⟩:=JtT hB2 hn0 hkl;have:=(s3 w2).symm.trans (s1 w2);cases this;exact k3
   have ap2:w3.appendV 2 40 (.slice b o1 k (.known k)) (1+(l.length-k)) (ys++xss.flatten.drop (k*2))=some (.slice w3.next 0 (k+(1+(l.length-k))) (.upTo 2),w3.fresh (xss.flatten.take (k*2)++(ys++xss.flatten.drop (k*2)))):=by
    rw[hlen1];show (if _∧_∧k≤k then _ else none)=_;rw[if_pos ⟨by omega,by omega,FH _⟩,if_neg Fh,k1']
   have c4:=JbA w3 (xss.flatten.take (k*2)++(ys++xss.flatten.drop (k*2)));have r4:=Jbc (S:=fun _=>False) w3 (xss.flatten.take (k*2)++(ys++xss.flatten.drop (k*2)));have Jb9:=(r2.tr fr3).tr r4;obtain⟨t1,t2⟩:=Jkt (fun a xs h=>(FcC.one h).1) k q2;have tlen:(xss.flatten.take (k*2)).length=k*2:=by rw[FU,hl2];omega
   have hfin:=h (w3.fresh (xss.flatten.take (k*2)++(ys++xss.flatten.drop (k*2)))) (.slice w3.next 0 (k+(1+(l.length-k))) (.upTo 2)) ⟨xss.take k++ys::xss.drop k,?_,?_⟩ Fj (f0w.tr Jb9)
   ·refine Fz (by simp only[go_sem,JaX,simprocAttr,Xn];rfl) ?_;refine JbM ?_;refine Jbn 100 (by simp only[go_sem,JaX,simprocAttr,f0,f3,f6,a0,Ja4,Jbe,hcc,hov,yl,FC,FD,s1,e2',s2,k2',ap1,heli,ap2];rfl) ?_;refine JbO ⟨(show Jbg _ _ [(3,5),(3,9),(8,5)]from by simp only[go_sem,JaX,simprocAttr,Jbg,chk,List.reverse_cons,List.reverse_nil,JbE,JbR,JbP,JbQ,List.getElem?_nil,false_or,or_true,or_false,exists_eq',FQ,Prod.mk.injEq,Bool.true_eq_false,FM,and_true,true_and,implies_true,f0,f3,f6,s1,s2]),?_⟩;refine JaY 1000 Fe ?_;refine JaZ ⟨_,by simp only[go_sem,JaX,simprocAttr,J2];rfl,?_⟩;exact hfin
   ·have el:(l.take k++f::l.drop k).length=k+(1+(l.length-k)):=by simp;omega
    rw[el];refine .blk (.inr (.inr ⟨by have:=r2.next;have:=fr3.next;omega,c4.lt⟩)) c4.lt c4.get (.inl rfl) ?_ ?_ (.inl rfl)
    ·simp only[FE,tlen,yl,ldl];omega
    ·rw[FZ,FX (l:=xss.flatten.take (k*2)++(ys++xss.flatten.drop (k*2))) (by rw[FE,FE,tlen,yl,ldl];omega),List.flatten_append,List.flatten_cons,t1,t2]
   ·refine Jli (Jkh k ?_) (.cons ?_ (Jkg k ?_))
    ·exact All2.imp (fun a xs h=>by obtain⟨xv,z1,z2⟩:=h;exact⟨xv,z1,(z2.frm Jb9 fun _ _ h=>h).mono fun x hx=> .inl hx⟩) q2
    ·obtain⟨xv,z1,z2⟩:=hyw;exact⟨xv,z1,(z2.frm Jb9 fun _ _ h=>h).mono fun x hx=> .inr (.inl hx)⟩
    ·exact All2.imp (fun a xs h=>by obtain⟨xv,z1,z2⟩:=h;exact⟨xv,z1,(z2.frm Jb9 fun _ _ h=>h).mono fun x hx=> .inl hx⟩) q2
 cases hat:l[JcH l f]? with
 | none =>
  have hA:Je5 l f=false:=by unfold Je5;rw[hat]
  have hlt:¬JcH l f<l.length:=by have:=List.getElem?_eq_none_iff.1 hat;omega
  refine Ja2 30 (by simp only[go_sem,JaX,simprocAttr,Ug,f0,f6,hlv,hlt];rfl) ?_;exact put hA _ _ (Fg f0) (Fg f3) (Fg f6) (Frm.refl _)
 | some t =>
  have hlt:JcH l f<l.length:=(List.getElem?_eq_some_iff.1 hat).1;have hA:Je5 l f=Jcm t f:=by unfold Je5;rw[hat]
  obtain⟨b,o,c,xv,rfl,_,_,la,_,_,hxv⟩:=Jd2 hxw hat;refine Fz (by simp only[go_sem,JaX,simprocAttr,Ug,f0,f3,f6,hlv,hlt,la,a0];rfl) ?_;refine Ja0 Ff Fe ?_;refine Jlc C (x:=t) (y:=f) (T:=T) ⟨xv,rfl,hxv⟩ hyw (hlx t (FI hat)) hly fun w2 g2=>?_;cases hs:Jcm t f with
  | true =>
   rw[hs]at hA;have hF:JcF l f=l:=by unfold JcF;rw[hA];rfl
   rw[hF,hA]at h;refine Fz (by simp only[go_sem,JaX,simprocAttr,HX,f0];rfl) ?_;refine JaZ ⟨_,by simp only[go_sem,JaX,simprocAttr,J2];rfl,?_⟩;exact h w2 _ (Fcs.mono (Fcs.frm hxw g2 fun _ _ h=>h) fun x hx=> .inl hx) hnil (f0w.tr g2)
  | false =>
   rw[hs]at hA;refine Ja2 10 Fe ?_;exact put hA _ _ (Fg f0) (Fg f3) (Fg f6) g2
end
section
open Go.AE Delphi Val
variable {tab:Tab}
def JfD (facts:List Fc) (bs:List Bn) (l:Lt):Bool :=
 if l.kind=1 then true
 else if l.kind=2 then !(facts.any fun x=>Jcm x (Jcl l bs))
 else match l.args with
  | [a,b]=>JcT l.kind (JbU a bs) (JbU b bs)
  | _=>false
def Jdd (r:Rl) (facts:List Fc) (bs:List Bn):Bool:=r.body.all (JfD facts bs)
structure LtB (l:Lt):Prop where
 ar:l.args.length≤1000
 two:l.kind≠1→l.kind≠2→l.args.length=2
theorem Jqw (C:Codes tab){T2 T3:Fw}{r:Rl}{facts:List Fc}{xs:List V}{fv bv:V}(hx:RlC T aw r xs)(hf:Fcs T2 aw fv facts)(hb:Rd T3 aw bv 4 bs.length (JdA bs))(hbl:r.body.length≤1000)(hlt:∀l∈r.body,LtB l)(hfl:facts.length≤1000000)(hfx:∀x∈facts,x.2.length≤1000)(hn:bs.length≤1000000)(h:∀w,Frm (fun _=>False) aw w→K (.bool (Jdd r facts bs)) w):WF tab Gm [.agg xs,fv,bv] aw K:=by
 refine Ja7 C.Xm rfl ?_;obtain⟨xl,xo⟩:=hx.one;obtain⟨xv,xb,rfl,hxh,hxb⟩:=hx;obtain⟨w1,e1,c1,r1,m1⟩:=Jb8 aw [.int .i64 (Int.ofNat r.head.kind),.str r.head.name,xv,xb];have hbv:lenV xb=some r.body.length:=by obtain⟨xss,q1,_⟩:=hxb;exact q1.lenV
 refine Fz (by simp only[go_sem,JaX,simprocAttr,Zo,e1];rfl) ?_
 refine Jba (fun n f w=>∃i,f.get 1=some fv∧f.get 2=some bv∧f.get 3=some (.ptr aw.next 0)∧f.get 7=some (.int .i64 (Int.ofNat i))∧Frm (fun _=>False) w1 w∧Jdd r facts bs=(r.body.drop i).all (JfD facts bs)∧i≤r.body.length∧n=r.body.length-i)
  (fun f w=>Frm (fun _=>False) w1 w∧Jdd r facts bs=true) ?_ ?_ r.body.length ⟨0,Fb,Fb,Fb,Fb,Frm.refl _,rfl,Nat.zero_le _,rfl⟩
 ·rintro n f w ⟨i,f1,f2,f3,f7,g,hL,hi,rfl⟩ ih out;have b3:=CB.ld (c1.frm g fun h=>h) 3 1 _ rfl;by_cases hil:i<r.body.length
  case neg =>
   obtain rfl:i=r.body.length:=Fh;rw[List.drop_length]at hL;refine Ja2 1000 (by simp only[go_sem,simprocAttr,-Int.reduceOfNat,ZY,f3,f7,b3,hbv,hil];rfl) ?_;exact out _ _ _ ⟨g,hL⟩ rfl
  obtain⟨t,ht⟩:∃t,r.body[i]? = some t:=⟨_,FB hil⟩;have hd:r.body.drop i=t::r.body.drop (i+1):=by rw[FL hil];rw[FB hil]at ht;cases ht;rfl
  rw[hd,List.all_cons]at hL;have htb:=hlt t (FI ht);have f0w:=r1.tr g;have hwr:IntKind.wrap .i64 (Int.ofNat i+1)=Int.ofNat (i+1):=Ja3 Fh;obtain⟨b,o,c,ys,rfl,la,ha⟩:=JfN (hxb.frm (fun _ _ h=>h.frm f0w fun _ _ h=>h) f0w fun _ _ h=>h) ht;obtain⟨yl,yo⟩:=ha.one;obtain⟨zv,rfl,hz⟩:=ha;obtain⟨w2,s2,c2,r2,n2⟩:=Jb1 w (zs:=[V.int .i64 0,V.str [],V.nilslice]) (vs:=[.int .i64 (Int.ofNat t.kind),.str t.name,zv]) rfl yo;have f02:=f0w.tr r2;have g2:=g.tr r2;obtain⟨kk,hkk⟩:∃kk,kk=t.kind:=⟨_,rfl⟩;rw[←hkk]at la s2 c2;have k0:=CB.ld c2 0 1 _ rfl;have hz2:=hz.frm r2 fun _ _ h=>h;by_cases h1:kk=1
  ·subst h1;have e:JfD facts bs t=true:=if_pos hkk.symm;rw[e,Bool.true_and]at hL;refine Fz (by simp only[go_sem,JaX,simprocAttr,-Int.reduceOfNat,ZY,Xl,Xk,f1,f2,f3,f7,b3,hbv,hil,la,FC,FD,s2,k0,hwr];rfl) ?_;exact ih _ _ _ Fh ⟨i+1,(by simp only[go_sem,JaX,simprocAttr,-Int.reduceOfNat,f1]<;>rfl),(by simp only[go_sem,JaX,simprocAttr,-Int.reduceOfNat,f2]<;>rfl),(by simp only[go_sem,JaX,simprocAttr,-Int.reduceOfNat,f3]<;>rfl),(by simp only[go_sem,JaX,simprocAttr,-Int.reduceOfNat]<;>rfl),g2,hL,by omega,rfl⟩
  by_cases h2:kk=2
  ·subst h2;have e:JfD facts bs t = !(facts.any fun x=>Jcm x (Jcl t bs)):=by unfold JfD;rw[if_neg Fh,if_pos hkk.symm]
   rw[e]at hL;have k3:w2.load w.next 0 3=some [.int .i64 (Int.ofNat 2),.str t.name,zv]:=c2.all rfl;refine Fz (by simp only[go_sem,JaX,simprocAttr,-Int.reduceOfNat,ZY,Xl,Xk,Ue,HV,f1,f2,f3,f7,b3,hbv,hil,la,FC,FD,s2,k0,k3];rfl) ?_;refine Ja0 (by simp only[go_sem,JaX,simprocAttr,-Int.reduceOfNat]) (by simp only[go_sem,JaX,simprocAttr,-Int.reduceOfNat];rfl) ?_;refine JkN C (l:=t) (T:=T) ⟨zv,by rw[←hkk],hz2⟩ (hb.frm f02 fun _ _ h=>h) hn htb.ar fun w3 gs S q1 q2 q3=>?_;refine JaY 1000 Fe ?_;refine Ja0 Ff Fe ?_;refine JuW C (y:=Jcl t bs) (hf.frm (f02.tr q2) fun _ _ h=>h) q1 hfl hfx (by show (t.args.map _).length≤_;rw[F9];exact htb.ar) fun w4 q4=>?_;have g4:=(g2.tr q2).tr q4;cases hs:facts.any fun x=>Jcm x (Jcl t bs)with
   | true =>
    rw[hs]at hL;have hL:Jdd r facts bs=false:=hL;rw[hL]at h;refine Fz (by simp only[go_sem,JaX,simprocAttr,HR];rfl) ?_;refine JaZ ⟨_,by simp only[go_sem,JaX,simprocAttr,Zo];rfl,?_⟩;exact h w4 (r1.tr g4)
   | false =>
    rw[hs,Bool.not_false,Bool.true_and]at hL;refine Fz (by simp only[go_sem,JaX,simprocAttr,f7,hwr];rfl) ?_;exact ih _ _ _ Fh ⟨i+1,(Fg f1),(Fg f2),(Fg f3),Fb,g4,hL,by omega,rfl⟩
  ·have ht2:t.args.length=2:=htb.two Fh Fh
   obtain⟨a,d,had⟩:∃a b,t.args=[a,b]:=by
    match hh:t.args,ht2 with
    | [a,b],_=>exact⟨a,b,rfl⟩
   have e:JfD facts bs t=JcT kk (JbU a bs) (JbU d bs):=by unfold JfD;rw[if_neg Fh,if_neg Fh,had,hkk]
   rw[e]at hL;obtain⟨b5,o5,c5,rfl,_,_,ta,_⟩:=Jd5 hz2 (i:=0) (t:=a) (by rw[had];rfl);rw[Nat.zero_mul,KF]at ta;rw[ht2]at la s2 c2;have k2:=CB.ld c2 2 1 _ rfl;refine Fz (by simp only[go_sem,JaX,simprocAttr,ZY,Xl,Xk,Ue,HW,f1,f2,f3,f7,b3,hbv,hil,la,FC,FD,s2,k0,k2,h1,h2,ta];rfl) ?_;refine Ja0 Ff Fe ?_;refine JgL C (t:=a) (hb.frm f02 fun _ _ h=>h) hn fun w3 g3=>?_;rw[JgO];obtain⟨w4,s4,c4,r4,n4⟩:=Jb1 w3 (zs:=[V.int .i64 0,V.str [],V.int .i64 0]) (vs:=tkC (JbU a bs)) rfl rfl;have g24:=g3.tr r4;have k2':=CB.ld (c2.frm g24 fun h=>h) 2 1 _ rfl;have f04:=f02.tr g24;obtain⟨_,_,_,he,_,_,tb,_⟩:=Jd5 (hz2.frm g24 fun _ _ h=>h) (i:=1) (t:=d) (by rw[had];rfl);cases he;have tb:w4.load b5 (o5+3) 3=some (tmC d):=tb;refine Fz (by simp only[go_sem,JaX,simprocAttr,HU,f2,JcA,s4,k2',tb];rfl) ?_;refine Ja0 Ff Fe ?_;refine JgL C (t:=d) (hb.frm f04 fun _ _ h=>h) hn fun w5 g5=>?_;rw[JgO];obtain⟨w6,s6,c6,r6,n6⟩:=Jb1 w5 (zs:=[V.int .i64 0,V.str [],V.int .i64 0]) (vs:=tkC (JbU d bs)) rfl rfl;have g46:=g5.tr r6;have k0':=CB.ld ((c2.frm g24 fun h=>h).frm g46 fun h=>h) 0 1 _ rfl;have ka:w6.load w3.next 0 3=some (tkC (JbU a bs)):=(c4.frm g46 fun h=>h).all rfl;have kb:w6.load w5.next 0 3=some (tkC (JbU d bs)):=c6.all rfl;refine Fz (by simp only[go_sem,JaX,simprocAttr,HT,JcA,s6,k0',ka,kb];rfl) ?_;refine Ja0 Ff Fe ?_;refine JrM C (k:=kk) fun w7 g7=>?_;have g27:=((g2.tr g24).tr g46).tr g7;cases hs:JcT kk (JbU a bs) (JbU d bs)with
   | false =>
    rw[hs]at hL;have hL:Jdd r facts bs=false:=hL;rw[hL]at h;refine Fz (by simp only[go_sem,JaX,simprocAttr,HS];rfl) ?_;refine JaZ ⟨_,by simp only[go_sem,JaX,simprocAttr,Zo];rfl,?_⟩;exact h w7 (r1.tr g27)
   | true =>
    rw[hs,Bool.true_and]at hL;refine Fz (by simp only[go_sem,JaX,simprocAttr,f7,hwr];rfl) ?_;exact ih _ _ _ Fh ⟨i+1,(Fg f1),(Fg f2),(Fg f3),Fb,g27,hL,by omega,rfl⟩
 ·rintro f w ⟨g,hL⟩;rw[hL]at h;refine JaY 1000 Fe ?_;refine JaZ ⟨_,by simp only[go_sem,JaX,simprocAttr,Zo];rfl,?_⟩;exact h w (r1.tr g)
end
section
open Go.AE Delphi Val
variable {tab:Tab}
structure WysB (N:Nat) (w:AW) (v:V) (ways:List (List Bn)) (S T:Fw) (cs:List V):Prop where
 b:Buf S w v 1 ways.length cs
 len:cs.length=ways.length
 at':∀(i:Nat) x bs,cs[i]? = some x→ways[i]? = some bs→Rd T w x 4 bs.length (JdA bs)
 s:∀x,S x→N≤x∧x<w.next
 t:∀x,T x→N≤x∧x<w.next∧¬S x
def Wys (N:Nat) (w:AW) (v:V) (ways:List (List Bn)):Prop:=∃S T cs,WysB N w v ways S T cs
variable {N:Nat} {w:AW} {v:V} {ways:List (List Bn)}
theorem Wys.frm {w':AW}(h:Wys N w v ways)(g:Frm (fun _=>False) w w'):Wys N w' v ways:=by
 obtain⟨S,T,cs,h⟩:=h;have n:=g.next;exact⟨S,T,cs,h.b.frm g fun _ _ h=>h,h.len,fun i x bs h1 h2=>(h.at' i x bs h1 h2).frm g fun _ _ h=>h,fun x hx=>⟨(h.s x hx).1,by have:=(h.s x hx).2;omega⟩,fun x hx=>⟨(h.t x hx).1,by have:=(h.t x hx).2.1;omega,(h.t x hx).2.2⟩⟩
theorem Wys.lenV (h:Wys N w v ways):lenV v=some ways.length:=by
 obtain⟨S,T,cs,h⟩:=h;exact h.b.lenV
theorem Wys.nil:Wys N w .nilslice []:=⟨fun _=>False,fun _=>False,[],.nil,rfl,fun i x bs h=>by simp at h,fun _ h=>h.elim,fun _ h=>h.elim⟩
variable {i:Nat}
theorem Wys.at (h:Wys N w v ways)(hi:ways[i]? = some bs):∃b o c bv T,v = .slice b o ways.length c∧w.load b (o+i*1) 1=some [bv]∧Rd T w bv 4 bs.length (JdA bs):=by
 obtain⟨S,T,cs,h⟩:=h;have hlt:i<ways.length:=(List.getElem?_eq_some_iff.1 hi).1;have hlc:i<cs.length:=by rw[h.len];exact hlt
 have hb:=h.b;rcases hb.inv with⟨_,h0,_⟩|⟨b,rfl,_⟩
 ·omega
 ·exact⟨b,0,_,cs[i],T,rfl,hb.load1 (FB hlc),h.at' i _ _ (FB hlc) hi⟩
theorem JrL {esz n:Nat}{cs:List V}(h:Rd T w v esz n cs):v.one=true∧v.cells=[v]:=by
 rcases h.inv with⟨rfl,_⟩|⟨_,_,_,rfl,_⟩<;>exact⟨rfl,rfl⟩
theorem Wys.push {wa:AW}{bv:V}{Tb:Fw}(h:Wys N wa v ways)(g:Frm (fun _=>False) wa w)(hb:Rd Tb w bv 4 bs.length (JdA bs))(hT:∀x,Tb x→wa.next≤x∧x<w.next)(hN:N≤wa.next)(hl:ways.length≤1000000): ∃v' w',(w.fresh [bv]).appendV 1 24 v 1 [bv]=some (v',w')∧Wys N w' v' (ways++[bs])∧Frm (fun x=>N≤x) w w':=by
 obtain⟨S,T,cs,h⟩:=h;have n:=g.next;obtain⟨v',w',S',q1,q2,q3,q4⟩:=(h.b.frm g fun _ _ h=>h).push (news:=[bv]) (bytes:=24) (fun x hx=>by have:=(h.s x hx).2;omega) Fh rfl (by simp only[Jbf,(JrL hb).1]) Fh Fh;have n':=q3.next;have hS':∀x,S' x→S x∨w.next≤x:=fun x hx=>(q4 x hx).2;refine⟨v',w',q1,⟨S',fun x=>T x∨Tb x,cs++[bv],by rw[FE];exact q2,by rw[FE,FE,h.len];rfl,?_,fun x hx=>?_,fun x hx=>?_⟩,q3.mono fun x _ hx=>(h.s x hx).1⟩
 ·intro i x bs' h1 h2;by_cases hi:i<cs.length
  ·rw[F5 hi]at h1;rw[F5 (by rw[←h.len];exact hi)]at h2;exact (((h.at' i x bs' h1 h2).frm g fun _ _ h=>h).frm q3 fun y hy hs=>(h.t y hy).2.2 hs).mono fun y hy=> .inl hy
  ·have hic:i=cs.length:=by
    have:=(List.getElem?_eq_some_iff.1 h1).1;rw[FE]at this;simp at this;omega
   subst hic;rw[F4 (FH _),Nat.sub_self]at h1;rw[h.len,F4 (FH _),Nat.sub_self]at h2;simp only[Kg,FQ]at h1 h2;subst h1 h2;exact (hb.frm q3 fun y hy hs=>by have:=(h.s y hs).2;have:=(hT y hy).1;omega).mono fun y hy=> .inr hy
 ·refine⟨?_,(q4 x hx).1⟩;rcases hS' x hx with h1|h1
  ·exact (h.s x h1).1
  ·omega
 ·rcases hx with hx|hx
  ·refine⟨(h.t x hx).1,by have:=(h.t x hx).2.1;omega,fun hs=>?_⟩;rcases hS' x hs with h1|h1
   ·exact (h.t x hx).2.2 h1
   ·have:=(h.t x hx).2.1;omega
  ·refine⟨by have:=(hT x hx).1;omega,by have:=(hT x hx).2;omega,fun hs=>?_⟩;rcases hS' x hs with h1|h1
   ·have:=(h.s x h1).2;have:=(hT x hx).1;omega
   ·have:=(hT x hx).2;omega
theorem JjH:∀{ts:List Tm} {cs:List Tk} {bs o:List Bn},Jdg ts cs bs=some o→o.length≤bs.length+ts.length
 | [],cs,bs,o,h=>by
  have:Jdg [] cs bs=some bs:=by cases cs<;>rfl
  rw[this]at h;cases h;simp
 | t::ts,[],bs,o,h=>by
  have h:some bs=some o:=h;cases h;simp
 | t::ts,c::cs,bs,o,h=>by
  simp only[Jdg]at h;split at h
  ·have:=JjH h;simp only[FE,FC,FD]at this ⊢;omega
  ·split at h
   ·have:=JjH h;simp only[FC];omega
   ·cases h
theorem JsR {l:Lt}{f:Fc}{o:List Bn}(h:JfY l f bs=some o):o.length≤bs.length+l.args.length:=by
 unfold JfY at h;split at h
 ·exact JjH h
 ·cases h
def JdQ (l:Lt) (ov:List Fc) (b:List Bn):List (List Bn):=ov.filterMap fun f=>JfY l f b
def Jcs (l:Lt) (ov:List Fc) (ways:List (List Bn)):List (List Bn):=ways.flatMap fun b=>JdQ l ov b
theorem Jbz {α:Type}{l:List α}{t:α}(h:l[i]? = some t):l.take (i+1)=l.take i++[t]:=by rw[List.take_add_one,h];rfl
structure RwF (f:Fr) (p:Nat) (fv dv:V) (a i:Int) (wv:V):Prop where
 f1:f.get 1=some fv
 f2:f.get 2=some (.int .i64 a)
 f3:f.get 3=some dv
 f4:f.get 4=some (.ptr p 0)
 f11:f.get 11=some (.int .i64 i)
 f10:f.get 10=some wv
theorem JtB (C:Codes tab){T2:Fw}{l:Lt}{b:List Bn}{ov:List Fc}{bodyN w0 p:Nat}{xb nv ovv fv dv:V}{a:Int}{wb wo:Nat}{wc:Cap}{nx:List (List Bn)}{f:Fr}{st:List SI}{Q:Fr→AW→Prop}(hN:N≤aw.next)(hF:RwF f p fv dv a (Int.ofNat i) (.slice wb wo ways.length wc))(f12:f.get 12=some ovv)(f13:f.get 13=some nv)(f14:f.get 14=some (.int .i64 (Int.ofNat w0)))(f15:f.get 15=some (.int .i64 (Int.ofNat 0)))(hp:p<N)(hb3:∀w,Frm (fun x=>N≤x) aw w→w.load p 3 1=some [xb])(hlit:∀w,Frm (fun x=>N≤x) aw w→∃b o c xs,xb = .slice b o bodyN c∧w.load b (o+i*3) 3=some xs∧LtC T w l xs)(hi:i<bodyN)(hov:∀w,Frm (fun x=>N≤x) aw w→Fcs T2 w ovv ov)(hw0:w0<ways.length)(hway:∀w,Frm (fun x=>N≤x) aw w→∃bv T3,w.load wb (wo+w0*1) 1=some [bv]∧Rd T3 w bv 4 b.length (JdA b))(hla:l.args.length≤1000)(hbl:b.length≤1000)(hol:ov.length≤100000)(hnx:Wys N aw nv nx)(hnl:nx.length≤4000)(h:∀f' w' nv',RwF f' p fv dv a (Int.ofNat i) (.slice wb wo ways.length wc)→f'.get 12=some ovv→f'.get 13=some nv'→f'.get 14=some (.int .i64 (Int.ofNat w0))→Wys N w' nv' (nx++JdQ l ov b)→Frm (fun x=>N≤x) aw w'→WS tab st f' w' Q): WS tab (.code (.loop YV) :: .endB 4::st) f aw Q:=by
 refine Jba (fun n f w=>∃k nv,RwF f p fv dv a (Int.ofNat i) (.slice wb wo ways.length wc)∧f.get 12=some ovv∧f.get 13=some nv∧f.get 14=some (.int .i64 (Int.ofNat w0))∧f.get 15=some (.int .i64 (Int.ofNat k))∧Wys N w nv (nx++JdQ l (ov.take k) b)∧Frm (fun x=>N≤x) aw w∧k≤ov.length∧n=ov.length-k)
  (fun f w=>∃nv,RwF f p fv dv a (Int.ofNat i) (.slice wb wo ways.length wc)∧f.get 12=some ovv∧f.get 13=some nv∧f.get 14=some (.int .i64 (Int.ofNat w0))∧Wys N w nv (nx++JdQ l ov b)∧Frm (fun x=>N≤x) aw w) ?_ ?_ ov.length
  ⟨0,nv,hF,f12,f13,f14,f15,by rw[List.take_zero];simpa[JdQ]using hnx,Frm.refl _,Nat.zero_le _,rfl⟩
 ·rintro n f w ⟨k,nv,⟨f1,f2,f3,f4,f11,f10⟩,f12,f13,f14,f15,hW,g,hk,rfl⟩ ih out;have hovw:=hov w g;have hlv:=hovw.lenV;by_cases hlt:k<ov.length
  case neg =>
   obtain rfl:k=ov.length:=Fh;rw[List.take_length]at hW;refine Ja2 1000 (by simp only[go_sem,simprocAttr,YV,f12,f15,hlv,hlt];rfl) ?_;exact out _ _ _ ⟨nv,⟨(Fg f1),(Fg f2),(Fg f3),(Fg f4),(Fg f11),(Fg f10)⟩,(Fg f12),(Fg f13),(Fg f14),hW,g⟩ rfl
  obtain⟨t,ht⟩:∃t,ov[k]? = some t:=⟨_,FB hlt⟩;have b3:=hb3 w g;obtain⟨lb,lo,lc,xs,rfl,la,hl⟩:=hlit w g;obtain⟨bv,T3,wl,hbv⟩:=hway w g;obtain⟨fb,fo,fc,fxv,rfl,_,_,lf,_,_,hfx⟩:=Jd2 hovw ht;have hwr:IntKind.wrap .i64 (Int.ofNat k+1)=Int.ofNat (k+1):=Ja3 Fh
  have htk:JdQ l (ov.take (k+1)) b=JdQ l (ov.take k) b++(match JfY l t b with|some o=>[o]|none=>[]):=by
   rw[Jbz ht];unfold JdQ;rw[List.filterMap_append,List.filterMap_cons];cases JfY l t b<;>rfl
  have hfl:(JdQ l (ov.take k) b).length≤100000:=by
   unfold JdQ;have:=List.length_filterMap_le (fun f=>JfY l f b) (ov.take k);rw[FU]at this;omega
  refine Fz (by simp only[go_sem,JaX,simprocAttr,YV,Hg,f1,f2,f3,f4,f11,f10,f12,f14,f15,hlv,hlt,b3,la,hi,lf,hw0,wl];rfl) ?_;refine Ja0 Ff Fe ?_;refine JuV C (fc:=t) (T':=T2) hl ⟨fxv,rfl,hfx⟩ hbv hbl hla ?_ ?_
  ·intro hn v w2 g2;rw[hn,Kc]at htk;refine Fz (by simp only[go_sem,JaX,simprocAttr,f15,hwr];rfl) ?_;exact ih _ _ _ Fh ⟨k+1,nv,⟨(Fg f1),(Fg f2),(Fg f3),(Fg f4),(Fg f11),(Fg f10)⟩,(Fg f12),(Fg f13),(Fg f14),Fb,by rw[htk];exact hW.frm g2,g.trans g2 (fun _ _ h=>h) (fun _ _ h=>h.elim),by omega,rfl⟩
  ·intro o hn v w2 S q1 g2 q3;rw[hn]at htk;have htk:JdQ l (ov.take (k+1)) b=JdQ l (ov.take k) b++[o]:=htk;obtain⟨v',w3,u1,u2,u3⟩:=hW.push g2 q1.rd q3 (by have:=g.next;omega) (by rw[FE];omega);have hel:(w2.fresh [v]).elems 1 (.slice w2.next 0 1 (.known 1))=some (1,[v]):=JbH Fh rfl;have hvc:v.cells=[v]:=(JrL q1.rd).2;have hov0:over [V.nilslice] 0 [v]=some [v]:=rfl;refine Fz (by simp only[go_sem,JaX,simprocAttr,Hf,f13,Ja4,Jbe,hvc,hov0,FC,FD,hel,u1,f15,hwr];rfl) ?_;exact ih _ _ _ Fh ⟨k+1,v',⟨(Fg f1),(Fg f2),(Fg f3),(Fg f4),(Fg f11),(Fg f10)⟩,(Fg f12),Fb,(Fg f14),Fb,by rw[htk,←F6];exact u2,(g.trans g2 (fun _ _ h=>h) (fun _ _ h=>h.elim)).trans u3 (fun _ _ h=>h) (fun _ _ h=>h),by omega,rfl⟩
 ·rintro f w ⟨nv,hF,f12,f13,f14,hW,g⟩;exact h f w nv hF f12 f13 f14 hW g
end
section
open Go.AE Delphi Val
variable {tab:Tab}
def WysR (w:AW) (v:V) (ways:List (List Bn)):Prop:=∃T cs,Rd T w v 1 ways.length cs∧(cs.length=ways.length)∧∀(i:Nat) x bs,cs[i]? = some x→ways[i]? = some bs→Rd T w x 4 bs.length (JdA bs)
variable {w:AW} {v:V} {ways:List (List Bn)}
theorem Wys.r {N:Nat}(h:Wys N w v ways):WysR w v ways:=by
 obtain⟨S,T,cs,h⟩:=h;exact⟨fun x=>S x∨T x,cs,h.b.rd.mono fun x hx=> .inl hx,h.len,fun i x bs h1 h2=>(h.at' i x bs h1 h2).mono fun y hy=> .inr hy⟩
theorem WysR.frm {w':AW}(h:WysR w v ways)(g:Frm (fun _=>False) w w'):WysR w' v ways:=by
 obtain⟨T,cs,h1,h2,h3⟩:=h;exact⟨T,cs,h1.frm g fun _ _ h=>h,h2,fun i x bs q1 q2=>(h3 i x bs q1 q2).frm g fun _ _ h=>h⟩
theorem WysR.lenV (h:WysR w v ways):lenV v=some ways.length:=by
 obtain⟨T,cs,h,_⟩:=h;exact h.lenV
theorem WysR.at (h:WysR w v ways){i:Nat}(hi:ways[i]? = some bs):∃b o c bv T,v = .slice b o ways.length c∧w.load b (o+i*1) 1=some [bv]∧Rd T w bv 4 bs.length (JdA bs):=by
 obtain⟨T,cs,h1,h2,h3⟩:=h;have hlt:i<ways.length:=(List.getElem?_eq_some_iff.1 hi).1;have hlc:i<cs.length:=by rw[h2];exact hlt
 rcases h1.inv with⟨_,h0,_⟩|⟨b,o,c,rfl,hB⟩
 ·omega
 ·refine⟨b,o,c,cs[i],T,rfl,?_,h3 i _ _ (FB hlc) hi⟩;rw[KC];exact hB.cell Fh (FB hlc)
theorem Jra (l:Lt)(ov:List Fc)(ways:List (List Bn))(b:List Bn):Jcs l ov (ways++[b])=Jcs l ov ways++JdQ l ov b:=by simp[Jcs]
theorem Jrb (l:Lt)(ov:List Fc)(ways:List (List Bn))(k:Nat):(Jcs l ov (ways.take k)).length≤(Jcs l ov ways).length:=by
 have:Jcs l ov ways=Jcs l ov (ways.take k)++Jcs l ov (ways.drop k):=by
  unfold Jcs;rw[←List.flatMap_append,List.take_append_drop]
 rw[this,FE];omega
abbrev RwK (K:V→AW→Prop):Fr→AW→Prop:=fun fr' aw'=>∃vs,Jcv fr' aw' Zi.results=some vs∧K (JbT vs) aw'
theorem JuX (C:Codes tab){T2:Fw}{l:Lt}{ov:List Fc}{body:List Lt}{i p:Nat}{xb ovv wv fv dv:V}{a:Int}{f:Fr}{st:List SI}(hF:RwF f p fv dv a (Int.ofNat i) wv)(f12:f.get 12=some ovv)(f13:f.get 13=some .nilslice)(f14:f.get 14=some (.int .i64 (Int.ofNat 0)))(hp:p<aw.next)(hb3:∀w,Frm (fun _=>False) aw w→w.load p 3 1=some [xb])(hbody:RdL (LtC T) T aw xb 3 body)(hi:body[i]? = some l)(hov:Fcs T2 aw ovv ov)(hw:WysR aw wv ways)(hla:l.args.length≤1000)(hbl:∀b∈ways,b.length≤1000)(hol:ov.length≤100000)(hwl:ways.length≤4000)(hbad:4000<(Jcs l ov ways).length→∀w,Frm (fun _=>False) aw w→K (.tuple [.nilslice,.bool false]) w)(h:(Jcs l ov ways).length≤4000→∀f' w' nv',RwF f' p fv dv a (Int.ofNat i) wv→f'.get 13=some nv'→Wys aw.next w' nv' (Jcs l ov ways)→Frm (fun _=>False) aw w'→WS tab st f' w' (RwK K)): WS tab (.code (.loop ZQ) :: .endB 2::st) f aw (RwK K):=by
 have hil:i<body.length:=(List.getElem?_eq_some_iff.1 hi).1;have down:∀{w},Frm (fun x=>aw.next≤x) aw w→Frm (fun _=>False) aw w:=fun g=>g.mono fun x hx h=>by omega
 refine Jba (fun n f w=>∃k nv,RwF f p fv dv a (Int.ofNat i) wv∧f.get 12=some ovv∧f.get 13=some nv∧f.get 14=some (.int .i64 (Int.ofNat k))∧Wys aw.next w nv (Jcs l ov (ways.take k))∧(Jcs l ov (ways.take k)).length≤4000∧Frm (fun x=>aw.next≤x) aw w∧k≤ways.length∧n=ways.length-k)
  (fun f w=>∃nv,RwF f p fv dv a (Int.ofNat i) wv∧f.get 13=some nv∧Wys aw.next w nv (Jcs l ov ways)∧(Jcs l ov ways).length≤4000∧Frm (fun x=>aw.next≤x) aw w) ?_ ?_ ways.length
  ⟨0,.nilslice,hF,f12,f13,f14,by rw[List.take_zero];exact Wys.nil,by simp[Jcs],Frm.refl _,Nat.zero_le _,rfl⟩
 ·rintro n f w ⟨k,nv,hF,f12,f13,f14,hW,hle,g,hk,rfl⟩ ih out;obtain⟨f1,f2,f3,f4,f11,f10⟩:=hF;have hwlv:=hw.lenV;by_cases hlt:k<ways.length
  case neg =>
   obtain rfl:k=ways.length:=Fh;rw[List.take_length]at hW hle;refine Ja2 1000 (by simp only[go_sem,simprocAttr,ZQ,f10,f14,hwlv,hlt];rfl) ?_;exact out _ _ _ ⟨nv,⟨(Fg f1),(Fg f2),(Fg f3),(Fg f4),(Fg f11),(Fg f10)⟩,(Fg f13),hW,hle,g⟩ rfl
  obtain⟨b,hb⟩:∃t,ways[k]? = some t:=⟨_,FB hlt⟩;have htk:Jcs l ov (ways.take (k+1))=Jcs l ov (ways.take k)++JdQ l ov b:=by rw[Jbz hb,Jra]
  have hwr:IntKind.wrap .i64 (Int.ofNat k+1)=Int.ofNat (k+1):=Ja3 Fh;obtain⟨wb,wo,wc,bv,T3,rfl,_,_⟩:=hw.at hb;obtain⟨lb,lo,lc,xs,rfl,_,_⟩:=JfN hbody hi;refine Fz (by simp only[go_sem,JaX,simprocAttr,ZQ,Hi,f10,f14,hwlv,hlt];rfl) ?_;have gt:∀{w'},Frm (fun x=>aw.next≤x) w w'→Frm (fun _=>False) aw w':=fun g'=>down (g.trans g' (fun _ _ h=>h) fun _ _ h=>h)
  have hlit0:∀w',Frm (fun x=>aw.next≤x) w w'→∃b o c xs',V.slice lb lo body.length lc = .slice b o body.length c∧w'.load b (o+i*3) 3=some xs'∧LtC T w' l xs':=fun w' g'=>by
   have f:=gt g';obtain⟨b,o,c,xs',e,q1,q2⟩:=JfN (hbody.frm (fun _ _ h=>h.frm f fun _ _ h=>h) f fun _ _ h=>h) hi;exact⟨b,o,c,xs',e,q1,q2⟩
  refine JtB C (l:=l) (b:=b) (ov:=ov) (ways:=ways) (T:=T) (T2:=T2) (bodyN:=body.length) (i:=i) (w0:=k) (N:=aw.next) (p:=p) (xb:=.slice lb lo body.length lc) (nv:=nv) (nx:=Jcs l ov (ways.take k)) (ovv:=ovv) (wb:=wb) (wo:=wo) (wc:=wc) g.next ⟨(Fg f1),(Fg f2),(Fg f3),(Fg f4),(Fg f11),(Fg f10)⟩ (Fg f12) (Fg f13) (Fg f14) Fb hp ?_ ?_ hil ?_ hlt ?_ hla (hbl b (FI hb)) hol hW hle ?_
  ·intro w' g';exact hb3 w' (gt g')
  ·exact hlit0
  ·intro w' g';exact hov.frm (gt g') fun _ _ h=>h
  ·intro w' g';obtain⟨b,o,c,bv',T',e,q1,q2⟩:=(hw.frm (gt g')).at hb;cases e;exact⟨bv',T',q1,q2⟩
  ·intro f' w' nv' hF' f12' f13' f14' hW' g';obtain⟨f1,f2,f3,f4,f11,f10⟩:=hF';rw[←htk]at hW';have hlv:=hW'.lenV;have gg:=g.trans g' (fun _ _ h=>h) fun _ _ h=>h;by_cases hbig:4000<(Jcs l ov (ways.take (k+1))).length
   ·refine Fz (by simp only[go_sem,JaX,simprocAttr,f13',hlv,hbig,Hh];rfl) ?_;refine JaZ ⟨_,by simp only[go_sem,JaX,simprocAttr,Zi];rfl,?_⟩;exact hbad (FK hbig (Jrb _ _ _ _)) w' (down gg)
   ·refine Fz (by simp only[go_sem,JaX,simprocAttr,f13',f14',hlv,hbig,hwr];rfl) ?_;exact ih _ _ _ Fh ⟨k+1,nv',⟨(Fg f1),(Fg f2),(Fg f3),(Fg f4),(Fg f11),(Fg f10)⟩,(by simp only[go_sem,JaX,simprocAttr,f12']<;>rfl),(by simp only[go_sem,JaX,simprocAttr,f13']<;>rfl),Fb,hW',by omega,gg,by omega,rfl⟩
 ·rintro f w ⟨nv,hF,f13,hW,hle,g⟩;exact h hle f w nv hF f13 hW (down g)
end
section
open Go.AE Delphi Val
variable {tab:Tab}
def Jds (facts delta:List Fc) (a:Int):List Lt→Nat→List (List Bn)→Option (List (List Bn))
 | [],_,ws=>some ws
 | l::ls,i,ws=>if l.kind=1 then (if 4000<(Jcs l (if Int.ofNat i=a then delta else facts) ws).length then none else Jds facts delta a ls (i+1) (Jcs l (if Int.ofNat i=a then delta else facts) ws))else Jds facts delta a ls (i+1) ws
def Jco (r:Rl) (facts:List Fc) (ws:List (List Bn)):List Fc:=ws.foldl (fun o b=>if Jdd r facts b then JcF o (Jcl r.head b)else o) []
def JgK (r:Rl) (facts:List Fc) (a:Int) (delta:List Fc):Option (List Fc):=(Jds facts delta a r.body 0 [[]]).map (Jco r facts)
theorem JhH {l:List Fc}{f x:Fc}(h:x∈JcF l f):x∈l∨x=f:=by
 unfold JcF at h;split at h
 ·exact .inl h
 ·rcases List.mem_append.1 h with h|h
  ·exact .inl (List.mem_of_mem_take h)
  ·rcases List.mem_cons.1 h with h|h
   ·exact .inr h
   ·exact .inl (List.mem_of_mem_drop h)
theorem Jjx (l:List Fc)(f:Fc):(JcF l f).length≤l.length+1:=by
 unfold JcF;split
 ·omega
 ·simp only[FE,FU,FC,Ki];omega
theorem Juu {l:Lt}{ov:List Fc}{ways:List (List Bn)}{n:Nat}(h:∀b∈ways,b.length≤n):∀b∈Jcs l ov ways,b.length≤n+l.args.length:=by
 intro b hb;unfold Jcs at hb;obtain⟨c,hc,hb⟩:=List.mem_flatMap.1 hb;unfold JdQ at hb;obtain⟨f,_,hf⟩:=List.mem_filterMap.1 hb;have:=JsR hf;have:=h c hc;omega
structure RuleB (r:Rl):Prop where
 br:RBr r
 lt:∀l∈r.body,LtB l
theorem Jtz (C:Codes tab){T2 T3:Fw}{r:Rl}{facts delta:List Fc}{a:Int}{xs:List V}{fv dv:V}(hx:RlC T aw r xs)(hf:Fcs T2 aw fv facts)(hd:Fcs T3 aw dv delta)(hr:RuleB r)(hfl:facts.length≤100000)(hfx:∀x∈facts,x.2.length≤1000)(hdl:delta.length≤100000)(h0:JgK r facts a delta=none→∀w,Frm (fun _=>False) aw w→K (.tuple [.nilslice,.bool false]) w)(h1:∀rows,JgK r facts a delta=some rows→∀w v,Fcs (fun x=>aw.next≤x∧x<w.next) w v rows→(rows=[]→v = .nilslice)→Frm (fun _=>False) aw w→K (.tuple [v,.bool true]) w): WF tab Gd [.agg xs,fv,.int .i64 a,dv] aw K:=by
 refine Ja7 C.YX rfl ?_;obtain⟨xl,xo⟩:=hx.one;have hx0:=hx;obtain⟨xv,xb,rfl,hxh,hxb⟩:=hx;obtain⟨w1,e1,c1,r1,m1⟩:=Jb8 aw [.int .i64 (Int.ofNat r.head.kind),.str r.head.name,xv,xb];have hbv:lenV xb=some r.body.length:=by obtain⟨xss,q1,_⟩:=hxb;exact q1.lenV
 have hb7:=hr.br.body;have c2:=JbA w1 [V.nilslice];have r2:=Jbc (S:=fun _=>False) w1 [V.nilslice];obtain⟨w2,e2⟩:∃w2,w2=w1.fresh [V.nilslice]:=⟨_,rfl⟩;rw[←e2]at c2 r2;have e2':w1.fresh [V.nilslice]=w2:=e2.symm;have f02:=r1.tr r2;have c1':=c1.frm r2 fun h=>h;have hov:over [V.nilslice] 0 [V.nilslice]=some [V.nilslice]:=rfl;have hvc:V.cells .nilslice=[V.nilslice]:=rfl
 have hw0:WysR w2 (.slice w1.next 0 1 (.known 1)) [[]]:=by
  refine⟨fun x=>x=w1.next,[.nilslice],.blk rfl c2.lt c2.get (.inl rfl) Fj Fj (FH _),rfl,?_⟩;intro i x bs q1 q2
  match i,q1,q2 with
  | 0,q1,q2 =>
   simp only[Kg,FQ]at q1 q2;subst q1 q2;exact .nil
  | i+1,q1,q2=>simp at q1
 refine Fz (by simp only[go_sem,JaX,simprocAttr,Zi,e1,hvc,Ja4,Jbe,hov,FC,FD,e2'];rfl) ?_
 refine Jba (fun n f w=>∃i wv ways,RwF f aw.next fv dv a (Int.ofNat i) wv∧WysR w wv ways∧Jds facts delta a r.body 0 [[]]=Jds facts delta a (r.body.drop i) i ways∧(∀b∈ways,b.length≤5*i)∧ways.length≤4000∧Frm (fun _=>False) w2 w∧i≤r.body.length∧n=r.body.length-i)
  (fun f w=>∃i wv ways,RwF f aw.next fv dv a i wv∧WysR w wv ways∧Jds facts delta a r.body 0 [[]]=some ways∧(∀b∈ways,b.length≤50)∧ways.length≤4000∧Frm (fun _=>False) w2 w) ?_ ?_ r.body.length
  ⟨0,_,[[]],⟨Fb,Fb,Fb,Fb,Fb,Fb⟩,hw0,rfl,by simp,by simp,Frm.refl _,Nat.zero_le _,rfl⟩
 ·rintro n f w ⟨i,wv,ways,⟨f1,f2,f3,f4,f11,f10⟩,hW,hL,hbd,hwl,g,hi,rfl⟩ ih out;have cw:=c1'.frm g fun h=>h;have b3:=CB.ld cw 3 1 _ rfl;by_cases hil:i<r.body.length
  case neg =>
   obtain rfl:i=r.body.length:=Fh;rw[List.drop_length]at hL;refine Ja2 1000 (by simp only[go_sem,simprocAttr,ZR,f4,f11,b3,hbv,hil];rfl) ?_;exact out _ _ _ ⟨_,wv,ways,⟨(Fg f1),(Fg f2),(Fg f3),(Fg f4),(Fg f11),(Fg f10)⟩,hW,hL,fun b hb=>by have:=hbd b hb;omega,hwl,g⟩ rfl
  obtain⟨t,ht⟩:∃t,r.body[i]? = some t:=⟨_,FB hil⟩;have hdr:r.body.drop i=t::r.body.drop (i+1):=by rw[FL hil];rw[FB hil]at ht;cases ht;rfl
  rw[hdr]at hL;have hwr:IntKind.wrap .i64 (Int.ofNat i+1)=Int.ofNat (i+1):=Ja3 Fh;have f0w:=f02.tr g;have hbw:=hxb.frm (fun _ _ h=>h.frm f0w fun _ _ h=>h) f0w fun _ _ h=>h;obtain⟨lb,lo,lc,ys,rfl,la,ha⟩:=JfN hbw ht;obtain⟨zv,rfl,hz⟩:=ha
  have hk0:w.load lb (lo+i*3) 1=some [.int .i64 (Int.ofNat t.kind)]:=by
   rcases RdL.inv hbw (fun a xs h=>h.one.1)with⟨hh,_⟩|⟨b',o',c',hh,_,_,_,hat⟩
   ·cases hh
   ·cases hh;obtain⟨xs,⟨zv',e,_⟩,hl⟩:=hat i t ht;have:=hl 0 1 Fh;rw[e]at this;exact this
  by_cases hk:t.kind=1
  case neg =>
   have hL:Jds facts delta a r.body 0 [[]]=Jds facts delta a (r.body.drop (i+1)) (i+1) ways:=by
    rw[hL];exact if_neg hk
   have hkd:¬Int.ofNat t.kind=1:=fun h=>hk (Int.ofNat.inj h);refine Fz (by simp only[go_sem,JaX,simprocAttr,ZR,YW,f4,f11,b3,hbv,hil,hk0,hk,hwr];rfl) ?_;exact ih _ _ _ Fh ⟨i+1,wv,ways,⟨(Fg f1),(Fg f2),(Fg f3),(Fg f4),Fb,(Fg f10)⟩,hW,hL,fun b hb=>by have:=hbd b hb;omega,hwl,g,by omega,rfl⟩
  have hta:=hr.br.args t (FI ht);have n1:aw.next<w.next:=by have:=r1.next;have:=r2.next;have:=g.next;omega
  rw[hk]at hk0
  have step:∀(ov:List Fc) (T4:Fw) (ovv:V) (f':Fr),ov=(if Int.ofNat i=a then delta else facts)→Fcs T4 w ovv ov→ov.length≤100000→RwF f' aw.next fv dv a (Int.ofNat i) wv→f'.get 12=some ovv→f'.get 13=some .nilslice→f'.get 14=some (.int .i64 (Int.ofNat 0))→∀st,(∀f2 w2' ways',Jds facts delta a r.body 0 [[]]=Jds facts delta a (r.body.drop (i+1)) (i+1) ways'→(∀b∈ways',b.length≤5*(i+1))→ways'.length≤4000→Frm (fun _=>False) w w2'→∀nv,WysR w2' nv ways'→f2.get 13=some nv→RwF f2 aw.next fv dv a (Int.ofNat i) wv→WS tab st f2 w2' (RwK K))→WS tab (.code (.loop ZQ) :: .endB 2::st) f' w (RwK K):=by
   intro ov T4 ovv f' hov hovw hovl hF' f12 f13 f14 st hst;refine JuX C (l:=t) (ov:=ov) hF' f12 f13 f14 n1 (fun w' g'=>CB.ld (cw.frm g' fun h=>h) 3 1 _ rfl) hbw ht hovw hW Fh (fun b hb=>by have:=hbd b hb;omega) hovl hwl ?_ ?_
   ·intro hbig w' g';refine h0 ?_ w' (f0w.tr g');unfold JgK;rw[hL];simp only[Jds,if_pos hk];rw[←hov,if_pos hbig];rfl
   ·intro hsm f2 w' nv' hF2 f13 hW' g';refine hst f2 w' _ ?_ (fun b hb=>by have:=Juu hbd b hb;omega) hsm g' nv' hW'.r f13 hF2;rw[hL];simp only[Jds,if_pos hk];rw[←hov,if_neg Fh]
  by_cases hia:Int.ofNat i=a
  ·have hia':(Int.ofNat i==a)=true:=by rw[hia];exact beq_self_eq_true a
   refine Fz (by simp only[go_sem,JaX,simprocAttr,ZR,YW,VV,He,f1,f2,f3,f4,f11,b3,hbv,hil,hk0,hia'];rfl) ?_;refine step delta T3 dv _ (if_pos hia).symm (hd.frm f0w fun _ _ h=>h) hdl ⟨(Fg f1),(Fg f2),(Fg f3),(Fg f4),(Fg f11),(Fg f10)⟩ Fb Fb Fb _ ?_;intro f5 w5 ways5 hL5 hb5 hl5 g5 nv hW5 f13 ⟨f1,f2,f3,f4,f11,f10⟩;refine Fz (by simp only[go_sem,JaX,simprocAttr,f13,f11,hwr];rfl) ?_;exact ih _ _ _ Fh ⟨i+1,nv,ways5,⟨(Fg f1),(Fg f2),(Fg f3),(Fg f4),Fb,Fb⟩,hW5,hL5,hb5,hl5,g.tr g5,by omega,rfl⟩
  ·have hia':(Int.ofNat i==a)=false:=beq_eq_false_iff_ne.2 hia;refine Fz (by simp only[go_sem,JaX,simprocAttr,ZR,YW,VV,f1,f2,f4,f11,b3,hbv,hil,hk0,hia'];rfl) ?_;refine step facts T2 fv _ (if_neg hia).symm (hf.frm f0w fun _ _ h=>h) hfl ⟨(Fg f1),(Fg f2),(Fg f3),(Fg f4),(Fg f11),(Fg f10)⟩ Fb Fb Fb _ ?_;intro f5 w5 ways5 hL5 hb5 hl5 g5 nv hW5 f13 ⟨f1,f2,f3,f4,f11,f10⟩;refine Fz (by simp only[go_sem,JaX,simprocAttr,f13,f11,hwr];rfl) ?_;exact ih _ _ _ Fh ⟨i+1,nv,ways5,⟨(Fg f1),(Fg f2),(Fg f3),(Fg f4),Fb,Fb⟩,hW5,hL5,hb5,hl5,g.tr g5,by omega,rfl⟩
 ·rintro f w ⟨i,wv,ways,⟨f1,f2,f3,f4,f11,f10⟩,hW,hL,hbd,hwl,g⟩;have f0w:=f02.tr g;have hwlv:=hW.lenV;have hrow:JgK r facts a delta=some (Jco r facts ways):=by unfold JgK;rw[hL];rfl
  have h1:=h1 _ hrow;have n1:aw.next≤w.next:=f0w.next;refine Fz (by simp only[go_sem,JaX,simprocAttr,Hl];rfl) ?_
  refine Jba (fun n f w2=>∃k v,f.get 1=some fv∧f.get 4=some (.ptr aw.next 0)∧f.get 10=some wv∧f.get 18=some v∧f.get 19=some (.int .i64 (Int.ofNat k))∧Fcs (fun x=>aw.next≤x∧x<w2.next) w2 v (Jco r facts (ways.take k))∧(Jco r facts (ways.take k)=[]→v = .nilslice)∧(Jco r facts (ways.take k)).length≤k∧(∀x∈Jco r facts (ways.take k),x.2.length≤1000)∧Frm (fun _=>False) w w2∧k≤ways.length∧n=ways.length-k)
   (fun f w2=>∃v,f.get 18=some v∧Fcs (fun x=>aw.next≤x∧x<w2.next) w2 v (Jco r facts ways)∧(Jco r facts ways=[]→v = .nilslice)∧Frm (fun _=>False) w w2) ?_ ?_ ways.length
   ⟨0,.nilslice,(Fg f1),(Fg f4),(Fg f10),Fb,Fb,⟨[],.nil,.nil⟩,fun _=>rfl,by simp[Jco],by simp[Jco],Frm.refl _,Nat.zero_le _,rfl⟩
  ·rintro n f w2 ⟨k,v,f1,f4,f10,f18,f19,hO,hOn,hOl,hOx,g2,hk,rfl⟩ ih out;by_cases hlt:k<ways.length
   case neg =>
    obtain rfl:k=ways.length:=Fh;rw[List.take_length]at hO hOn;refine Ja2 1000 (by simp only[go_sem,simprocAttr,VW,f10,f19,hwlv,hlt];rfl) ?_;exact out _ _ _ ⟨v,(Fg f18),hO,hOn,g2⟩ rfl
   obtain⟨b,hb⟩:∃t,ways[k]? = some t:=⟨_,FB hlt⟩;have hbl:=hbd b (FI hb);have hwr:IntKind.wrap .i64 (Int.ofNat k+1)=Int.ofNat (k+1):=Ja3 Fh
   have hrs:Jco r facts (ways.take (k+1))=if Jdd r facts b then JcF (Jco r facts (ways.take k)) (Jcl r.head b)else Jco r facts (ways.take k):=by
    rw[Jbz hb];unfold Jco;rw[List.foldl_append];rfl
   have f2w:=f0w.tr g2;obtain⟨wb,wo,wc,bv,T5,rfl,wl,hbv⟩:=(hW.frm g2).at hb;have cw:=c1'.frm (g.tr g2) fun h=>h;have k4:w2.load aw.next 0 4=some [.int .i64 (Int.ofNat r.head.kind),.str r.head.name,xv,xb]:=cw.all rfl;refine Fz (by simp only[go_sem,JaX,simprocAttr,VW,Hk,f1,f4,f10,f19,hwlv,hlt,k4,wl];rfl) ?_;refine Ja0 Ff Fe ?_;refine Jqw C (r:=r) (T:=T) (hx0.frm f2w fun _ _ h=>h) (hf.frm f2w fun _ _ h=>h) hbv Fh hr.lt Fh hfx Fh fun w3 g3=>?_;cases hs:Jdd r facts b with
   | false =>
    rw[hs]at hrs;have hrs:Jco r facts (ways.take (k+1))=Jco r facts (ways.take k):=hrs;have n3:=g3.next;refine Fz (by simp only[go_sem,JaX,simprocAttr,f19,hwr];rfl) ?_;exact ih _ _ _ Fh ⟨k+1,v,(Fg f1),(Fg f4),(Fg f10),(Fg f18),Fb,by rw[hrs];exact (Fcs.frm hO g3 fun _ _ h=>h).mono fun x hx=>⟨hx.1,by omega⟩,by rw[hrs];exact hOn,by rw[hrs];omega,by rw[hrs];exact hOx,g2.tr g3,by omega,rfl⟩
   | true =>
    rw[hs]at hrs;have hrs:Jco r facts (ways.take (k+1))=JcF (Jco r facts (ways.take k)) (Jcl r.head b):=hrs;have f3w:=f2w.tr g3;obtain⟨_,_,_,bv',T6,he,wl',hbv'⟩:=(hW.frm (g2.tr g3)).at hb;cases he;have k3:w3.load aw.next 0 3=some [.int .i64 (Int.ofNat r.head.kind),.str r.head.name,xv]:=by rw[(cw.frm g3 fun h=>h).load];rfl
    refine Fz (by simp only[go_sem,JaX,simprocAttr,Hj,f4,f10,f18,f19,hlt,k3,wl'];rfl) ?_;refine Ja0 Ff Fe ?_;refine JkN C (l:=r.head) (T:=T) ⟨xv,rfl,hxh.frm f3w fun _ _ h=>h⟩ hbv' Fh (by have:=hr.br.head;omega) fun w4 gs S q1 q2 q3=>?_;have g4:=(g2.tr g3).tr q2;have n4:=g4.next;have n3:=g3.next;have n34:=q2.next;have n2:=g2.next;have hgl:(Jcl r.head b).2.length≤1000:=by show (r.head.args.map _).length≤_;rw[F9];have:=hr.br.head;omega
    refine JaY 1000 Fe ?_;refine Ja0 Ff Fe ?_;refine Jpd C (Fcs.frm hO (g3.tr q2) fun _ _ h=>h) hOn q1 Fh hOx hgl fun w5 v' p1 p2 p3=>?_;have n5:=p3.next;rw[←hrs]at p1 p2;refine Fz (by simp only[go_sem,JaX,simprocAttr,f19,hwr];rfl) ?_;refine ih _ _ _ Fh ⟨k+1,v',(Fg f1),(Fg f4),(Fg f10),Fb,Fb,Fcs.mono p1 fun x hx=>?_,p2,?_,?_,g4.tr p3,by omega,rfl⟩
    ·rcases hx with hx|hx|hx
     ·exact⟨hx.1,by omega⟩
     ·have:=q3 x hx;exact⟨by omega,by omega⟩
     ·exact⟨by omega,hx.2⟩
    ·rw[hrs];have:=Jjx (Jco r facts (ways.take k)) (Jcl r.head b);omega
    ·rw[hrs];intro x hx;rcases JhH hx with hx|rfl
     ·exact hOx x hx
     ·exact hgl
  ·rintro f w2 ⟨v,f18,hO,hOn,g2⟩;refine Fz (by simp only[go_sem,JaX,simprocAttr,f18];rfl) ?_;refine JaZ ⟨_,by simp only[go_sem,JaX,simprocAttr,Zi];rfl,?_⟩;exact h1 w2 v hO hOn (f0w.tr g2)
end
end Go.Proofs.YtegdcbdicpfbpaaGreatDoor
