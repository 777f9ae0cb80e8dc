/- A part of the proof. -/
import Derived.Test.YtegdcbdicpfbpaaGreatDoorJrL
set_option linter.unusedVariables false
set_option maxRecDepth 10000
set_option linter.unusedSimpArgs false
namespace Go.AE
theorem Fb {p:Prop} (h:p:=by simp only [go_sem,JaX,simprocAttr]<;>rfl):p:=h
theorem Fe {p:Prop} (h:p:=by simp only [go_sem,JaX,simprocAttr];rfl):p:=h
theorem Ff {p:Prop} (h:p:=by simp only [go_sem,JaX,simprocAttr]):p:=h
theorem Fg {α:Type} {a b c:α} (f:b=c) (h:a=b:=by first|(simp only [go_sem,JaX,simprocAttr];done)|rfl):a=c:=h.trans f
end Go.AE
namespace Delphi
def Jcw (out:Fx) (t:Tm):Fx:=if t.kind=1∧t.name∉out then out++[t.name]else out
def JbZ (l:List Tm):Fx:=l.foldl Jcw []
theorem Jpn (out:Fx)(t:Tm):(Jcw out t).length≤out.length+1:=by
 unfold Jcw;split<;>simp
theorem JfK (l:List Tm):(JbZ l).length≤l.length:=by
 have:∀(l:List Tm) (out:Fx),(l.foldl Jcw out).length≤out.length+l.length:=by
  intro l;induction l with
  | nil=>intro out;simp
  | cons t l ih =>
   intro out;rw[Ku,FC];have:=ih (Jcw out t);have:=Jpn out t;omega
 simpa[JbZ]using this l []
end Delphi
namespace Go.Proofs.YtegdcbdicpfbpaaGreatDoor
open Go.AE Delphi
variable {tab:Tab}
variable {T:Fw} {w:AW} {v:V} {l:List Tm} {i:Nat}
theorem Jd5 (h:Rd T w v 3 l.length (JbY l)){t:Tm}(hi:l[i]? = some t):∃b o c,v = .slice b o l.length c∧T b∧b<w.next∧w.load b (o+i*3) 3=some (tmC t)∧w.load b (o+i*3) 1=some [.int .i64 (Int.ofNat t.kind)]∧w.load b (o+i*3+1) 1=some [.str t.name]:=by
 have hlt:i<l.length:=(List.getElem?_eq_some_iff.1 hi).1;rcases h.inv with⟨_,q2,_⟩|⟨b,o,c,rfl,hB⟩
 ·omega
 ·have part:∀j k,j+k≤3→w.load b (o+i*3+j) k=some (((tmC t).drop j).take k):=by
   intro j k hjk;rw[Kj,hB.load (i*3+j) k Fh];have h2:=Jer Jdf (i:=i) (j:=j) (k:=k) hi hjk;rw[FV]at h2;exact congrArg some h2
  exact⟨b,o,c,rfl,hB.own,hB.lt,part 0 3 Fh,part 0 1 Fh,part 1 1 Fh⟩
theorem Jfs {l:List Lt}(h:RdL (LtC T) T w v 3 l){t:Lt}(hi:l[i]? = some t):∃b o c u,v = .slice b o l.length c∧T b∧b<w.next∧w.load b (o+i*3) 3=some [.int .i64 (Int.ofNat t.kind),.str t.name,u]∧w.load b (o+i*3) 1=some [.int .i64 (Int.ofNat t.kind)]∧w.load b (o+i*3+1) 1=some [.str t.name]∧w.load b (o+i*3+2) 1=some [u]∧Rd T w u 3 t.args.length (JbY t.args):=by
 have hlt:i<l.length:=(List.getElem?_eq_some_iff.1 hi).1;rcases h.inv (fun a xs hx=>(LtC.one hx).1)with⟨_,q2⟩|⟨b,o,c,rfl,hT,hb,_,hat⟩
 ·rw[q2]at hlt;simp at hlt
 ·obtain⟨xs,⟨u,rfl,hu⟩,hp⟩:=hat i t hi;exact⟨b,o,c,u,rfl,hT,hb,hp 0 3 Fh,hp 0 1 Fh,hp 1 1 Fh,hp 2 1 Fh,hu⟩
theorem JvW {l:List Rl}(h:RdL (RlC T) T w v 4 l){r:Rl}(hi:l[i]? = some r):∃b o c xs,v = .slice b o l.length c∧T b∧b<w.next∧RlC T w r xs∧w.load b (o+i*4) 4=some xs∧∀j k,j+k≤4→w.load b (o+i*4+j) k=some ((xs.drop j).take k):=by
 have hlt:i<l.length:=(List.getElem?_eq_some_iff.1 hi).1;rcases h.inv (fun a xs hx=>(RlC.one hx).1)with⟨_,q2⟩|⟨b,o,c,rfl,hT,hb,_,hat⟩
 ·rw[q2]at hlt;simp at hlt
 ·obtain⟨xs,hx,hp⟩:=hat i r hi;have hl:=hx.one.1;have:=hp 0 4 Fh;rw[FZ,FX Fh]at this;exact⟨b,o,c,xs,rfl,hT,hb,hx,this,hp⟩
theorem Jey {α:Type}{r:AW→α→List V→Prop}{esz:Nat}{l:List α}(h:RdL r T w v esz l):lenV v=some l.length:=by
 obtain⟨xss,h1,_⟩:=h;exact h1.lenV
def JbC (l:Fx):List V:=l.map V.str
theorem JrY (l:Fx):(JbC l).length=l.length:=by simp[JbC]
abbrev SM:=MB (α:=List Nat) (β:=Int) V.str (V.int .i64)
def Seen (M:List (List Nat×Int)) (out:Fx) (i:Nat):Prop:=∀x,(Ja1 M x=none↔x∉out)∧∀c,Ja1 M x=some c→1≤c∧c≤i
def Jwv (T:Fw) (aw:AW) (lv:V) (l:List Tm) (q:Nat) (f:Fr) (w:AW):Prop :=
 ∃i bm M out ov S,f.get 3=some ov∧f.get 4=some (.map bm)∧f.get 8=some lv∧f.get 9=some (.int .i64 (Int.ofNat l.length))∧f.get 10=some (.int .i64 (Int.ofNat i))∧i≤l.length∧q=l.length-i∧
  SM w bm M∧aw.next≤bm∧Seen M out i∧JbZ l=(l.drop i).foldl Jcw out∧out.length≤i∧Bt S w ov 1 out.length (JbC out)∧(∀x,S x→aw.next≤x∧x<w.next∧x≠bm)∧Frm (fun _=>False) aw w
def Jww (aw:AW) (l:List Tm) (f:Fr) (w:AW):Prop:=∃ov S,f.get 3=some ov∧Bt S w ov 1 (JbZ l).length (JbC (JbZ l))∧(∀x,S x→aw.next≤x∧x<w.next)∧Frm (fun _=>False) aw w
theorem Jha (C:Codes tab){aw:AW}{lv:V}{K:V→AW→Prop}(hl:Rd T aw lv 3 l.length (JbY l))(hn:l.length≤100000)(h:∀v w S,Bt S w v 1 (JbZ l).length (JbC (JbZ l))→Frm (fun _=>False) aw w→(∀x,S x→aw.next≤x∧x<w.next)→K v w):WF tab Zg [lv] aw K:=by
 refine Ja7 C.Wg rfl ?_;have hlv:=hl.lenV;refine Fz (by simp only[go_sem,JaX,simprocAttr,Wf,P9,hlv];rfl) ?_;refine Jba (Jwv T aw lv l) (Jww aw l) ?_ ?_ l.length ⟨0,aw.next,[],[],.nilslice,fun _=>False,Fb,Fb,Fb,Fb,Fb,by omega,by omega,MB.new aw,FH _,fun x=>⟨by simp[Ja1],fun c hc=>by simp[Ja1]at hc⟩,rfl,by simp,.nil,fun _ h=>h.elim,Jev aw⟩
 ·rintro q f w ⟨i,bm,M,out,ov,S,f3,f4,f8,f9,f10,hi,rfl,hM,hbm,hseen,hfold,hol,hb,hS,hf⟩ ih exit;by_cases hlt:i<l.length
  case neg =>
   rw[List.drop_eq_nil_of_le (by omega:l.length≤i)]at hfold;have hfold:JbZ l=out:=hfold;refine Ja2 1000 (by simp only[go_sem,simprocAttr,Yl,f9,f10,hlt];rfl) ?_;exact exit _ _ _ ⟨ov,S,(Fg f3),by rw[hfold];exact hb,fun x hx=>⟨(hS x hx).1,(hS x hx).2.1⟩,hf⟩ rfl
  obtain⟨t,ht⟩:∃t,l[i]? = some t:=⟨_,FB hlt⟩;obtain⟨b,o,c,rfl,hTb,hbl,a3,a1,a2⟩:=Jd5 (hl.frm hf fun _ _ h=>h) ht
  have hd:l.drop i=t::l.drop (i+1):=by
   rw[FL hlt];rw[FB hlt]at ht;rw[FY ht]
  rw[hd,Ku]at hfold;have hwr:IntKind.wrap .i64 (Int.ofNat i+1)=Int.ofNat (i+1):=Ja3 Fh;obtain⟨w2,s2,c2,r2,n2⟩:=Jb1 w (zs:=[V.int .i64 0,V.str [],V.int .i64 0]) (vs:=tmC t) rfl rfl;have k0:w2.load w.next 0 1=some [.int .i64 (Int.ofNat t.kind)]:=by rw[c2.load];rfl
  have k1:w2.load w.next 1 1=some [.str t.name]:=by rw[c2.load];rfl
  have hM2:=hM.frm r2 fun h=>h;have hb2:=hb.frm r2 fun _ _ h=>h;have hf2:=hf.tr r2;have nw:=hf.next;by_cases hk:t.kind=1
  case neg =>
   have he:Jcw out t=out:=if_neg fun h=>hk h.1;rw[he]at hfold;refine Fz (by simp only[go_sem,JaX,simprocAttr,Yl,We,f3,f4,f8,f9,f10,hlt,a3,s2,Jdf,k0,hk,hwr];rfl) ?_;exact ih _ _ _ Fh ⟨i+1,bm,M,out,ov,S,(by simp only[go_sem,JaX,simprocAttr,-Int.reduceOfNat,f3]<;>rfl),(by simp only[go_sem,JaX,simprocAttr,-Int.reduceOfNat,f4]<;>rfl),(by simp only[go_sem,JaX,simprocAttr,-Int.reduceOfNat,f8]<;>rfl),(by simp only[go_sem,JaX,simprocAttr,-Int.reduceOfNat,f9]<;>rfl),(by simp only[go_sem,JaX,simprocAttr,-Int.reduceOfNat]<;>rfl),by omega,rfl,hM2,hbm,fun x=>⟨(hseen x).1,fun c hc=>by have:=(hseen x).2 c hc;omega⟩,hfold,by omega,hb2,fun x hx=>by have:=hS x hx;exact⟨this.1,by omega,this.2.2⟩,hf2⟩
  obtain⟨n,hn0,hn1,hgn⟩:∃n:Nat,n≤i∧(n=0↔t.name∉out)∧Jix (V.int .i64) (V.int .i64 0) (Ja1 M t.name)=(V.int .i64 (Int.ofNat n),decide (n≠0)):=by
   cases hg:Ja1 M t.name with
   | none=>exact⟨0,by omega,by simp[(hseen t.name).1.1 hg],rfl⟩
   | some c =>
    have hc:=(hseen t.name).2 c hg;have hin:¬t.name∉out:=fun h=>by have:=(hseen t.name).1.2 h;rw[this]at hg;cases hg
    refine⟨c.toNat,by omega,⟨fun h=>by omega,fun h=>absurd h hin⟩,?_⟩;have e1:Int.ofNat c.toNat=c:=by simp;omega
    have e2:decide (c.toNat≠0)=true:=decide_eq_true Fh;show (V.int .i64 c,true)=_;rw[e1,e2]
  have look:=hM2.look Jci (.int .i64 0) t.name;rw[hgn]at look;obtain⟨w3,p3,hM3,r3,n3⟩:=hM2.put Jci t.name (Int.ofNat (n+1));have hw3:IntKind.wrap .i64 (Int.ofNat n+1)=Int.ofNat (n+1):=Ja3 Fh;have k3:w3.load w.next 1 1=some [.str t.name]:=by rw[(c2.frm r3 (by have:=hM.lt;omega)).load];rfl
  have look3:=hM3.look Jci (.int .i64 0) t.name;rw[Jbi]at look3;simp only[Jix]at look3;have hb3:=hb2.frm r3 fun x hx he=>(hS x hx).2.2 he;have hf3:Frm (fun _=>False) aw w3:=hf2.trans r3 (fun _ _ h=>h) (by rintro x hx rfl;omega)
  have seen3:∀out',(∀x,x∈out'↔x∈out∨x=t.name)→Seen (Jb5 M t.name (Int.ofNat (n+1))) out' (i+1):=by
   intro out' ho x;by_cases hx:x=t.name
   ·subst hx;rw[Jbi];refine⟨⟨fun h=>(by cases h),fun h=>absurd ((ho t.name).2 (.inr rfl)) h⟩,fun c hc=>?_⟩;cases hc;constructor
    ·show (1:Int)≤((n+1:Nat):Int);omega
    ·show ((n+1:Nat):Int)≤_;omega
   ·rw[JbD _ _ _ _ hx];refine⟨?_,fun c hc=>by have:=(hseen x).2 c hc;omega⟩;rw[(hseen x).1,ho x];simp[hx]
  by_cases hn:n=0
  ·have hno:=hn1.1 hn;have he:Jcw out t=out++[t.name]:=if_pos ⟨hk,hno⟩;rw[he]at hfold;subst hn;have hS3:∀b,S b→b<w3.next:=fun b hb=>by have:=(hS b hb).2;omega
   obtain⟨v',w5,S5,u1,u2,u3,u4⟩:=hb3.push (news:=[V.str t.name]) (bytes:=16) hS3 Fh rfl rfl Fh Fh;have b4:=JbH (w:=w3) (esz:=1) (n:=1) (cs:=[V.str t.name]) (c:=.known 1) Fh rfl;have hov:over [V.str []] 0 [V.str t.name]=some [V.str t.name]:=rfl;refine Fz (by simp only[go_sem,JaX,simprocAttr,-Int.reduceOfNat,Yl,We,UR,UQ,P8,f3,f4,f8,f9,f10,hlt,a3,s2,Jdf,k0,k1,k3,hk,hwr,look,hw3,p3,look3,Ja4,Jbe,hov,u1,b4,FC,FD];rfl) ?_;refine ih _ _ _ Fh ⟨i+1,bm,_,out++[t.name],v',S5,(by simp only[go_sem,JaX,simprocAttr,-Int.reduceOfNat]<;>rfl),(by simp only[go_sem,JaX,simprocAttr,-Int.reduceOfNat,f4]<;>rfl),(by simp only[go_sem,JaX,simprocAttr,-Int.reduceOfNat,f8]<;>rfl),(by simp only[go_sem,JaX,simprocAttr,-Int.reduceOfNat,f9]<;>rfl),(by simp only[go_sem,JaX,simprocAttr,-Int.reduceOfNat]<;>rfl),by omega,rfl,hM3.frm u3 fun h=>(hS _ h).2.2 rfl,hbm,seen3 _ Fj,hfold,by simp;omega,?_,fun x hx=>?_,hf3.trans u3 (fun _ _ h=>h) fun x hx h=>by have:=(hS x h).1;omega⟩
   ·rw[FE,Kb];have:JbC (out++[t.name])=JbC out++[V.str t.name]:=by simp[JbC]
    rw[this];exact u2
   ·obtain⟨m1,m2⟩:=u4 x hx;have:=hM.lt;rcases m2 with m2|m2
    ·exact⟨(hS x m2).1,m1,(hS x m2).2.2⟩
    ·exact⟨by omega,m1,by omega⟩
  ·have hin:t.name∈out:=Classical.byContradiction fun h=>hn (hn1.2 h);have he:Jcw out t=out:=if_neg fun h=>h.2 hin;rw[he]at hfold;have hne:¬n+1=1:=Fh;refine Fz (by simp only[go_sem,JaX,simprocAttr,Yl,We,UR,UQ,f3,f4,f8,f9,f10,hlt,a3,s2,Jdf,k0,k1,k3,hk,hwr,look,hw3,p3,look3,hne];rfl) ?_;exact ih _ _ _ Fh ⟨i+1,bm,_,out,ov,S,(Fg f3),(Fg f4),(Fg f8),(Fg f9),Fb,by omega,rfl,hM3,hbm,seen3 _ (fun x=>⟨.inl,fun h=>h.elim id fun h=>h▸hin⟩),hfold,by omega,hb3,fun x hx=>by have:=hS x hx;exact⟨this.1,by omega,this.2.2⟩,hf3⟩
 ·rintro f w ⟨ov,S,f3,hb,hS,hf⟩;refine Fz (by simp only[go_sem,JaX,simprocAttr,f3];rfl) ?_;refine JaZ ⟨_,by simp only[go_sem,JaX,simprocAttr,Wf];rfl,?_⟩;exact h ov w S hb hf hS
section
open Go.AE Delphi Val
variable {tab:Tab}
def Jbb (t:Tm):Tk:=⟨Int.ofNat t.kind,t.name,t.num⟩
theorem Jr2 (t:Tm):tmC t=tkC (Jbb t):=rfl
theorem Ju5 (l:List Tm):JbY l=JcY (l.map Jbb):=by
 unfold JbY JcY;rw[List.flatMap_map];rfl
def FtC (T:Fw) (w:AW) (f:List Nat×List Tm) (xs:List V):Prop:=∃v,xs=[.str f.1,v]∧Rd T w v 3 f.2.length (JbY f.2)
variable {f:List Nat×List Tm} {xs:List V}
theorem FtC.frm {S:Fw}{w':AW}(h:FtC T w f xs)(hf:Frm S w w')(hd:∀x,T x→¬S x):FtC T w' f xs:=by
 obtain⟨v,h1,h2⟩:=h;exact⟨v,h1,h2.frm hf hd⟩
theorem FtC.one (h:FtC T w f xs):xs.length=2∧Jbf xs=true:=by
 obtain⟨v,rfl,h2⟩:=h;refine⟨rfl,?_⟩;rcases h2.inv with⟨rfl,_⟩|⟨_,_,_,rfl,_⟩<;>rfl
end
end Go.Proofs.YtegdcbdicpfbpaaGreatDoor
namespace Delphi
def JdH (r:Rl):Fx:=r.body.foldl (fun acc l=>if l.kind=1 then acc else acc++JbZ l.args) (JbZ r.head.args)
def Jcy (r:Rl):Fx:=r.body.foldl (fun acc l=>if l.kind=1 then acc++JbZ l.args else acc) []
def Jc0 (r:Rl):Bool:=(JdH r).all fun v=>decide (v∈Jcy r)
structure RBd (r:Rl):Prop where
 head:r.head.args.length≤1000
 body:r.body.length≤1000
 args:∀l∈r.body,l.args.length≤1000
end Delphi
namespace Go.Proofs.YtegdcbdicpfbpaaGreatDoor
open Go.AE Delphi
variable {tab:Tab}
variable {M:List (List Nat×Int)} {i:Nat}
theorem JgN {out:Fx}(h:Seen M out i)(k:List Nat):∃n:Nat,n≤i∧(n=0↔k∉out)∧Jix (V.int .i64) (V.int .i64 0) (Ja1 M k)=(V.int .i64 (Int.ofNat n),decide (n≠0)):=by
 cases hg:Ja1 M k with
 | none=>exact⟨0,by omega,by simp[(h k).1.1 hg],rfl⟩
 | some c =>
  have hc:=(h k).2 c hg;have hin:¬k∉out:=fun hh=>by have:=(h k).1.2 hh;rw[this]at hg;cases hg
  refine⟨c.toNat,by omega,⟨fun h=>by omega,fun h=>absurd h hin⟩,?_⟩;have e1:Int.ofNat c.toNat=c:=by simp;omega
  have e2:decide (c.toNat≠0)=true:=decide_eq_true Fh;show (V.int .i64 c,true)=_;rw[e1,e2]
theorem Jj6 {out out':Fx}{n:Nat}{k:List Nat}(h:Seen M out i)(hn:n≤i)(ho:∀x,x∈out'↔x∈out∨x=k):Seen (Jb5 M k (Int.ofNat (n+1))) out' (i+1):=by
 intro x;by_cases hx:x=k
 ·subst hx;rw[Jbi];refine⟨⟨fun h=>(by cases h),fun h=>absurd ((ho x).2 (.inr rfl)) h⟩,fun c hc=>?_⟩;cases hc;constructor
  ·show (1:Int)≤((n+1:Nat):Int);omega
  ·show ((n+1:Nat):Int)≤_;omega
 ·rw[JbD _ _ _ _ hx];refine⟨?_,fun c hc=>by have:=(h x).2 c hc;omega⟩;rw[(h x).1,ho x];simp[hx]
theorem Jph {T:Fw}{w:AW}{v:V}{l:Fx}(h:Rd T w v 1 l.length (JbC l)){s:List Nat}(hi:l[i]? = some s):∃b o c,v = .slice b o l.length c∧T b∧b<w.next∧w.load b (o+i*1) 1=some [.str s]:=by
 have hlt:i<l.length:=(List.getElem?_eq_some_iff.1 hi).1;rcases h.inv with⟨_,q2,_⟩|⟨b,o,c,rfl,hB⟩
 ·omega
 ·refine⟨b,o,c,rfl,hB.own,hB.lt,hB.cell Fh ?_⟩;simp only[JbC,F7,KC,hi,Option.map_some]
def Jsb (a:AW) (bm:Nat) (lv:V) (vs bnd:Fx) (N:Nat) (f0:Fr) (q:Nat) (f:Fr) (w:AW):Prop :=
 ∃j M bnd',f.get 3=some (.map bm)∧f.get 33=some lv∧f.get 34=some (.int .i64 (Int.ofNat vs.length))∧f.get 35=some (.int .i64 (Int.ofNat j))∧(∀y,y=1∨y=2∨y=4∨y=17∨y=18∨y=19→f.get y=f0.get y)∧j≤vs.length∧q=vs.length-j∧
  SM w bm M∧Seen M bnd' (N+j)∧(∀x,x∈bnd'↔x∈bnd∨x∈vs.take j)∧Frm (fun b=>b=bm) a w∧w.next=a.next
def Jve (a:AW) (bm:Nat) (vs bnd:Fx) (N:Nat) (f0:Fr) (f:Fr) (w:AW):Prop :=
 ∃M bnd',f.get 3=some (.map bm)∧(∀y,y=1∨y=2∨y=4∨y=17∨y=18∨y=19→f.get y=f0.get y)∧SM w bm M∧Seen M bnd' (N+vs.length)∧(∀x,x∈bnd'↔x∈bnd∨x∈vs)∧Frm (fun b=>b=bm) a w∧w.next=a.next
theorem Jsx {T:Fw}{a w:AW}{bm:Nat}{lv:V}{vs bnd:Fx}{N:Nat}{f0 f:Fr}{q:Nat}{s:List SI}{Q:Fr→AW→Prop}(hl:Rd T a lv 1 vs.length (JbC vs))(hT:∀x,T x→x≠bm)(hN:N+vs.length≤1000000000)(hI:Jsb a bm lv vs bnd N f0 q f w)(ih:∀n' f' w',n'<q→Jsb a bm lv vs bnd N f0 n' f' w'→WS tab (.code (.loop ZA) :: .endB 2::s) f' w' Q)(out:∀s' f' w',Jve a bm vs bnd N f0 f' w'→JdS 2 s'=some s→WS tab (.code (.exit 2)::s') f' w' Q):WS tab (.code ZA :: .code (.loop ZA) :: .endB 2::s) f w Q:=by
 obtain⟨j,M,bnd',f3,f33,f34,f35,hold,hj,rfl,hM,hseen,hbnd,hf,hn⟩:=hI;by_cases hlt:j<vs.length
 case neg =>
  have:j=vs.length:=Fh;subst this;rw[List.take_length]at hbnd;refine Ja2 1000 (by simp only[go_sem,simprocAttr,ZA,f34,f35,hlt];rfl) ?_;refine out _ _ _ ⟨M,bnd',(Fg f3),?_,hM,hseen,hbnd,hf,hn⟩ rfl;rintro y hy;rw[←hold y hy];rcases hy with rfl|rfl|rfl|rfl|rfl|rfl<;>exact Fb
 obtain⟨v,hv⟩:∃v,vs[j]? = some v:=⟨_,FB hlt⟩;obtain⟨b,o,c,rfl,hTb,hbl,a1⟩:=Jph (hl.frm hf fun x hx he=>hT x hx he) hv;obtain⟨n,hn0,hn1,hgn⟩:=JgN hseen v;have look:=hM.look Jci (.int .i64 0) v;rw[hgn]at look;obtain⟨w3,p3,hM3,r3,n3⟩:=hM.put Jci v (Int.ofNat (n+1));have hw3:IntKind.wrap .i64 (Int.ofNat n+1)=Int.ofNat (n+1):=Ja3 Fh;have hwr:IntKind.wrap .i64 (Int.ofNat j+1)=Int.ofNat (j+1):=Ja3 Fh;refine Fz (by simp only[go_sem,JaX,simprocAttr,ZA,PY,PX,f3,f33,f34,f35,hlt,a1,look,hw3,p3,hwr];rfl) ?_;refine ih _ _ _ Fh ⟨j+1,_,v::bnd',(Fg f3),(Fg f33),(Fg f34),Fb,?_,by omega,rfl,hM3,Jj6 hseen hn0 (by intro x;simp[or_comm]),fun x=>?_,hf.tr r3,n3.trans hn⟩
 ·rintro y hy;rw[←hold y hy];rcases hy with rfl|rfl|rfl|rfl|rfl|rfl<;>exact Fb
 ·have ht:vs.take (j+1)=vs.take j++[v]:=by
   rw[List.take_add_one,hv];rfl
  rw[FJ,hbnd,ht,Ka,Ko];constructor
  ·rintro (h|h|h)
   ·exact .inr (.inr h)
   ·exact .inl h
   ·exact .inr (.inl h)
  ·rintro (h|h|h)
   ·exact .inr (.inl h)
   ·exact .inr (.inr h)
   ·exact .inl h
end Go.Proofs.YtegdcbdicpfbpaaGreatDoor
namespace Delphi
def JcD (acc:Fx) (l:Lt):Fx:=if l.kind=1 then acc else acc++JbZ l.args
def Jjz (acc:Fx) (l:Lt):Fx:=if l.kind=1 then acc++JbZ l.args else acc
theorem JnB (r:Rl):JdH r=r.body.foldl JcD (JbZ r.head.args):=rfl
theorem JrI (r:Rl):Jcy r=r.body.foldl Jjz []:=rfl
end Delphi
namespace Go.Proofs.YtegdcbdicpfbpaaGreatDoor
open Go.AE Delphi
variable {tab:Tab}
structure SF (f:Fr) (n1 bm:Nat) (nv uv:V) (n i:Nat):Prop where
 f1:f.get 1=some (.ptr n1 0)
 f3:f.get 3=some (.map bm)
 f4:f.get 4=some nv
 f17:f.get 17=some uv
 f18:f.get 18=some (.int .i64 (Int.ofNat n))
 f19:f.get 19=some (.int .i64 (Int.ofNat i))
structure SW (aw w:AW) (bm:Nat) (M:List (List Nat×Int)) (bnd bl:Fx) (N:Nat) (nv:V) (nd:Fx) (S:Fw):Prop where
 mp:SM w bm M
 seen:Seen M bnd N
 same:∀x,x∈bnd↔x∈bl
 need:Bt S w nv 1 nd.length (JbC nd)
 frm:Frm (fun _=>False) aw w
 hbm:aw.next≤bm
 sep:∀x,S x→aw.next≤x∧x<w.next∧x≠bm
def Jse (aw:AW) (n1 bm:Nat) (uv:V) (r:Rl) (q:Nat) (f:Fr) (w:AW):Prop :=
 ∃i M bnd bl N nv nd S,SF f n1 bm nv uv r.body.length i∧SW aw w bm M bnd bl N nv nd S∧i≤r.body.length∧q=r.body.length-i∧JdH r=(r.body.drop i).foldl JcD nd∧Jcy r=(r.body.drop i).foldl Jjz bl∧N≤1000*i∧nd.length≤1000*(i+1)
def Jvj (aw:AW) (bm:Nat) (r:Rl) (f:Fr) (w:AW):Prop :=
 ∃M bnd N nv S,f.get 3=some (.map bm)∧f.get 4=some nv∧SW aw w bm M bnd (Jcy r) N nv (JdH r) S∧N≤1000000
theorem JrX (a b:Fx):JbC (a++b)=JbC a++JbC b:=by simp[JbC]
theorem JrZ (a:Fx):Jbf (JbC a)=true:=by rw[JeB];intro v hv;simp only[JbC,Ke]at hv;obtain⟨x,_,rfl⟩:=hv;rfl
theorem JrS (C:Codes tab){T:Fw}{aw w:AW}{n1 bm:Nat}{uv:V}{r:Rl}{q:Nat}{f:Fr}{s:List SI}{Q:Fr→AW→Prop}(hu:RdL (LtC T) T aw uv 3 r.body)(hbd:RBd r)(hI:Jse aw n1 bm uv r q f w)(ih:∀n' f' w',n'<q→Jse aw n1 bm uv r n' f' w'→WS tab (.code (.loop J9) :: .endB 0::s) f' w' Q)(out:∀s' f' w',Jvj aw bm r f' w'→JdS 0 s'=some s→WS tab (.code (.exit 0)::s') f' w' Q):WS tab (.code J9 :: .code (.loop J9) :: .endB 0::s) f w Q:=by
 obtain⟨i,M,bnd,bl,N,nv,nd,S,⟨f1,f3,f4,f17,f18,f19⟩,hA,hi,rfl,hnd,hbl,hN,hndl⟩:=hI;by_cases hlt:i<r.body.length
 case neg =>
  rw[List.drop_eq_nil_of_le (by omega:r.body.length≤i)]at hnd hbl;have hnd:JdH r=nd:=hnd;have hbl:Jcy r=bl:=hbl;refine Ja2 1000 (by simp only[go_sem,simprocAttr,J9,f18,f19,hlt];rfl) ?_;exact out _ _ _ ⟨M,bnd,N,nv,S,(Fg f3),(Fg f4),by rw[hnd,hbl];exact hA,by have:=hbd.body;have:N≤1000*1000:=Kk hN (Nat.mul_le_mul_left _ Fh);omega⟩ rfl
 obtain⟨t,ht⟩:∃t,r.body[i]? = some t:=⟨_,FB hlt⟩
 have hd:r.body.drop i=t::r.body.drop (i+1):=by
  rw[FL hlt];rw[FB hlt]at ht;rw[FY ht]
 have hargs:=hbd.args t (FI ht);rw[hd,Ku]at hnd hbl;have hwr:IntKind.wrap .i64 (Int.ofNat i+1)=Int.ofNat (i+1):=Ja3 (by have:=hbd.body;omega);obtain⟨b,o,c,u,rfl,hTb,hbb,a3,a0,_,_,hru⟩:=Jfs (hu.frm (fun _ _ h=>h.frm hA.frm fun _ _ h=>h) hA.frm fun _ _ h=>h) ht;have hone:Jbf [V.int .i64 (Int.ofNat t.kind),.str t.name,u]=true:=by rcases hru.inv with⟨rfl,_⟩|⟨_,_,_,rfl,_⟩<;>rfl
 obtain⟨w2,s2,c2,r2,n2⟩:=Jb1 w (zs:=[V.int .i64 0,V.str [],V.nilslice]) (vs:=[V.int .i64 (Int.ofNat t.kind),.str t.name,u]) rfl hone;have k0:w2.load w.next 0 1=some [.int .i64 (Int.ofNat t.kind)]:=by rw[c2.load];rfl
 have k2:w2.load w.next 2 1=some [u]:=by rw[c2.load];rfl
 have nw:=hA.frm.next;have hvl:=JfK t.args;by_cases hk:t.kind=1
 case neg =>
  have e1:JcD nd t=nd++JbZ t.args:=if_neg hk;have e2:Jjz bl t=bl:=if_neg hk;rw[e1]at hnd;rw[e2]at hbl;refine Fz (by simp only[go_sem,JaX,simprocAttr,J9,UG,PW,f4,f17,f18,f19,hlt,a3,s2,k0,k2,hk,FC,FD];rfl) ?_;refine Ja0 Ff Fe ?_;refine Jha C (hru.frm r2 fun _ _ h=>h) Fh fun v w3 S3 q1 q2 q3=>?_;have r3:=r2.tr q2;have need3:=hA.need.frm r3 fun _ _ h=>h;have hel:=q1.rd.elems;obtain⟨v',w4,S4,u1,u2,u3,u4⟩:=need3.addN (news:=JbC (JbZ t.args)) (k:=(JbZ t.args).length) (bytes:=16) Fh (by rw[JrY];omega) (JrZ _) (by have:=hbd.body;omega) (by have:=hbd.body;omega);have hM3:=(hA.mp.frm r3 fun h=>h).frm u3 fun h=>(hA.sep _ h).2.2 rfl;have n3:=r3.next;refine Fz (by simp only[go_sem,JaX,simprocAttr,f1,f3,f4,f17,f18,f19,hel,u1,hwr];rfl) ?_;refine ih _ _ _ Fh ⟨i+1,M,bnd,bl,N,v',nd++JbZ t.args,S4,⟨(Fg f1),(Fg f3),Fb,(Fg f17),(Fg f18),Fb⟩,⟨hM3,hA.seen,hA.same,by rw[FE,JrX];exact u2,(hA.frm.tr r3).trans u3 (fun _ _ h=>h) (fun x hx h=>by have:=(hA.sep x h).1;omega),hA.hbm,fun x hx=>?_⟩,by omega,rfl,hnd,hbl,by omega,by rw[FE];omega⟩;obtain⟨m1,m2⟩:=u4 x hx;have:=hA.mp.lt;rcases m2 with m2|m2
  ·exact⟨(hA.sep x m2).1,m1,(hA.sep x m2).2.2⟩
  ·exact⟨by omega,m1,by omega⟩
 ·have e1:JcD nd t=nd:=if_pos hk;have e2:Jjz bl t=bl++JbZ t.args:=if_pos hk;rw[e1]at hnd;rw[e2]at hbl;rw[hk]at a3 s2 k0;refine Fz (by simp only[go_sem,JaX,simprocAttr,-Int.reduceOfNat,J9,UG,PZ,f17,f18,f19,hlt,a3,s2,k0,k2,FC,FD];rfl) ?_;refine Ja0 (by simp only[go_sem,JaX,simprocAttr,-Int.reduceOfNat]) (by simp only[go_sem,JaX,simprocAttr,-Int.reduceOfNat];rfl) ?_;refine Jha C (hru.frm r2 fun _ _ h=>h) Fh fun v w3 S3 q1 q2 q3=>?_;have r3:=r2.tr q2;have n3:=r3.next;have hlv:=q1.lenV;have hM3:=hA.mp.frm r3 fun h=>h;have hbmw:=hA.mp.lt;refine Fz (by simp only[go_sem,JaX,simprocAttr,hlv];rfl) ?_
  refine Jba (Jsb w3 bm v (JbZ t.args) bnd N f) (Jve w3 bm (JbZ t.args) bnd N f) (fun n f w hI ih out=>Jsx q1.rd (fun x hx he=>by have:=(q3 x hx).1;omega) (by have:=hbd.body;omega) hI ih out) ?_ (JbZ t.args).length
   ⟨0,M,bnd,(Fg f3),Fb,Fb,Fb,?_,by omega,rfl,hM3,hA.seen,by simp,Frm.refl _,rfl⟩
  ·rintro f' w4 ⟨M',bnd',g3,hold,hM4,hs4,hb4,hf4,hn4⟩;have g1:=(hold 1 Fj).trans f1;have g4:=(hold 4 Fj).trans f4;have g17:=(hold 17 Fj).trans f17;have g18:=(hold 18 Fj).trans f18;have g19:=(hold 19 Fj).trans f19;refine Fz (by simp only[go_sem,JaX,simprocAttr,g19,hwr];rfl) ?_;exact ih _ _ _ Fh ⟨i+1,M',bnd',bl++JbZ t.args,N+(JbZ t.args).length,nv,nd,S,⟨(Fg g1),(Fg g3),(Fg g4),(Fg g17),(Fg g18),Fb⟩,⟨hM4,hs4,fun x=>by rw[hb4,hA.same,Ka],(hA.need.frm r3 fun _ _ h=>h).frm hf4 fun x hx he=>(hA.sep x hx).2.2 he,(hA.frm.tr r3).trans hf4 (fun _ _ h=>h) (by rintro x hx rfl;have:=hA.hbm;omega),hA.hbm,fun x hx=>by have:=hA.sep x hx;exact⟨this.1,by omega,this.2.2⟩⟩,by omega,rfl,hnd,hbl,by omega,by omega⟩
  ·rintro y hy;rcases hy with rfl|rfl|rfl|rfl|rfl|rfl<;>exact Fb
def NdI (aw:AW) (bm:Nat) (nv:V) (nd bl:Fx) (w0:AW) (q:Nat) (f:Fr) (w:AW):Prop :=
 ∃j,f.get 3=some (.map bm)∧f.get 45=some nv∧f.get 46=some (.int .i64 (Int.ofNat nd.length))∧f.get 47=some (.int .i64 (Int.ofNat j))∧j≤nd.length∧q=nd.length-j∧(∀x∈nd.take j,x∈bl)∧w=w0
theorem JuY (C:Codes tab){T:Fw}{aw:AW}{xs:List V}{r:Rl}{K:V→AW→Prop}(hr:RlC T aw r xs)(hbd:RBd r)(h:∀w,Frm (fun _=>False) aw w→K (.bool (Jc0 r)) w):WF tab GB [.agg xs] aw K:=by
 refine Ja7 C.X8 rfl ?_;have hone:=hr.one;obtain⟨v,u,rfl,hv,hu⟩:=hr;have cb:=JbA aw [V.int .i64 (Int.ofNat r.head.kind),.str r.head.name,v,u];have ff:=Jbc (S:=fun _=>False) aw [V.int .i64 (Int.ofNat r.head.kind),.str r.head.name,v,u];generalize hw1:aw.fresh [V.int .i64 (Int.ofNat r.head.kind),.str r.head.name,v,u]=w1 at cb ff;have n1:w1.next=aw.next+1:=by rw[←hw1];rfl
 have fm:=Jev (S:=fun _=>False) w1;have cb2:=cb.frm fm fun h=>h;have l2:(w1.new (.map [] 0)).load aw.next 2 1=some [v]:=by rw[cb2.load];rfl
 have f02:=ff.tr fm;refine Fz (by simp only[go_sem,JaX,simprocAttr,Yi,P2,hw1,l2];rfl) ?_;refine Ja0 Ff Fe ?_;refine Jha C (hv.frm f02 fun _ _ h=>h) (by have:=hbd.head;omega) fun nv w3 S3 q1 q2 q3=>?_;have cb3:=cb2.frm q2 fun h=>h;have l3:w3.load aw.next 3 1=some [u]:=by rw[cb3.load];rfl
 have f03:=f02.tr q2;have hlv:=Jey hu;have nn:(w1.new (.map [] 0)).next=w1.next+1:=rfl;have hvl:=JfK r.head.args;have hM:SM w3 w1.next ([]:List (List Nat×Int)):=(MB.new w1).frm q2 fun h=>h;refine Fz (by simp only[go_sem,JaX,simprocAttr,P1,l3,hlv];rfl) ?_
 refine Jba (Jse aw aw.next w1.next u r) (Jvj aw w1.next r) (fun n f w hI ih out=>JrS C hu hbd hI ih out) ?_ r.body.length
  ⟨0,[],[],[],0,nv,JbZ r.head.args,S3,⟨Fb,Fb,Fb,Fb,Fb,Fb⟩,⟨hM,fun x=>⟨by simp[Ja1],fun c hc=>by simp[Ja1]at hc⟩,fun x=>Iff.rfl,q1,f03,by omega,fun x hx=>by have:=q3 x hx;exact⟨by omega,by omega,by omega⟩⟩,by omega,rfl,rfl,rfl,by omega,by have:=hbd.head;omega⟩
 rintro f w ⟨M,bnd,N,nv',S,f3,f4,hA,hN⟩;have hln:=hA.need.lenV;refine Fz (by simp only[go_sem,JaX,simprocAttr,f4,hln];rfl) ?_;refine Jba (NdI aw w1.next nv' (JdH r) (Jcy r) w) (fun f' w'=>w'=w∧∀x∈JdH r,x∈Jcy r) ?_ ?_ (JdH r).length ⟨0,(Fg f3),Fb,Fb,Fb,by omega,rfl,by simp,rfl⟩
 ·rintro q f w' ⟨j,f3,f45,f46,f47,hj,rfl,hall,rfl⟩ ih exit;by_cases hlt:j<(JdH r).length
  case neg =>
   rw[FX Fh]at hall;refine Ja2 1000 (by simp only[go_sem,simprocAttr,X7,f46,f47,hlt];rfl) ?_;exact exit _ _ _ ⟨rfl,hall⟩ rfl
  obtain⟨x,hx⟩:∃v,(JdH r)[j]? = some v:=⟨_,FB hlt⟩;obtain⟨b,o,c,rfl,_,hbl,a1⟩:=Jph hA.need.rd hx;obtain⟨n,hn0,hn1,hgn⟩:=JgN hA.seen x;have look:=hA.mp.look Jci (.int .i64 0) x;rw[hgn]at look
  have hwr:IntKind.wrap .i64 (Int.ofNat j+1)=Int.ofNat (j+1):=by
   have:(JdH r).length<9223372036854775807:=by
    have:=hA.need.rd;rcases hA.need.rd.inv with⟨h1,_⟩|⟨b',o',c',h1,hB⟩
    ·cases h1
    ·have h3:∀(l:List Lt) (acc:Fx),(∀l'∈l,l'.args.length≤1000)→(l.foldl JcD acc).length≤acc.length+1000*l.length:=by
      intro l;induction l with
      | nil=>intro acc _;simp
      | cons t l ih =>
       intro acc hl;have h4:=ih (JcD acc t) fun l' hl'=>hl l' (by simp[hl'])
       have h5:(JcD acc t).length≤acc.length+1000:=by
        unfold JcD;split
        ·omega
        ·have:=JfK t.args;have:=hl t Fj;rw[FE];omega
       rw[Ku,FC];omega
     have h4:=h3 r.body (JbZ r.head.args) hbd.args;rw[←JnB]at h4;have:=hbd.head;have:=hbd.body;omega
   exact Ja3 Fh
  by_cases hz:n=0
  ·have hno:x∉Jcy r:=fun h=>hn1.1 hz ((hA.same x).2 h)
   have hs:Jc0 r=false:=by
    unfold Jc0;rw[List.all_eq_false];exact⟨x,FI hx,by simpa using hno⟩
   subst hz;refine Fz (by simp only[go_sem,JaX,simprocAttr,X7,UI,UH,P0,f3,f45,f46,f47,hlt,a1,look];rfl) ?_;refine JaZ ⟨_,by simp only[go_sem,JaX,simprocAttr,Yi];rfl,?_⟩;have:=h w' hA.frm;rw[hs]at this;exact this
  ·refine Fz (by simp only[go_sem,JaX,simprocAttr,X7,UI,UH,f3,f45,f46,f47,hlt,a1,look,hz,hwr];rfl) ?_;refine ih _ _ _ Fh ⟨j+1,(Fg f3),(Fg f45),(Fg f46),Fb,by omega,rfl,fun y hy=>?_,rfl⟩;have ht:(JdH r).take (j+1)=(JdH r).take j++[x]:=by rw[List.take_add_one,hx];rfl
   rw[ht,Ka,Ko]at hy;rcases hy with hy|rfl
   ·exact hall y hy
   ·exact (hA.same y).1 (Classical.byContradiction fun hc=>hz (hn1.2 hc))
 ·rintro f w' ⟨rfl,hall⟩
  have hs:Jc0 r=true:=by
   unfold Jc0;rw[List.all_eq_true];intro x hx;simpa using hall x hx
  refine JaY 1000 Fe ?_;refine JaZ ⟨_,by simp only[go_sem,JaX,simprocAttr,Yi];rfl,?_⟩;have:=h w' hA.frm;rw[hs]at this;exact this
end Go.Proofs.YtegdcbdicpfbpaaGreatDoor
namespace Delphi
variable {v:List Nat}
theorem JgG {l:List Tm}:v∈JbZ l↔∃t∈l,t.kind=1∧t.name=v:=by
 have:∀(l:List Tm) (out:Fx),v∈l.foldl Jcw out↔v∈out∨∃t∈l,t.kind=1∧t.name=v:=by
  intro l;induction l with
  | nil=>intro out;simp
  | cons t l ih =>
   intro out;rw[Ku,ih]
   have h:v∈Jcw out t↔v∈out∨(t.kind=1∧t.name=v):=by
    unfold Jcw;split
    ·rename_i hc;rw[Ka,Ko];exact⟨fun h=>h.imp (fun h=>h) fun h=>⟨hc.1,h.symm⟩,fun h=>h.imp (fun h=>h) fun h=>h.2.symm⟩
    ·rename_i hc;refine⟨.inl,fun h=>h.elim (fun h=>h) ?_⟩;rintro⟨h1,rfl⟩;exact Classical.byContradiction fun hn=>hc ⟨h1,hn⟩
   rw[h];simp only[FJ,exists_eq_or_imp,or_assoc]
 simpa[JbZ]using this l []
theorem Jnl {v:List Nat}:∀(l:List Lt) (acc:Fx),v∈l.foldl Jjz acc↔v∈acc∨∃x∈l,x.kind=1∧∃t∈x.args,t.kind=1∧t.name=v
 | [],acc=>by simp
 | x::l,acc=>by
  rw[Ku,Jnl l]
  have h:v∈Jjz acc x↔v∈acc∨(x.kind=1∧∃t∈x.args,t.kind=1∧t.name=v):=by
   unfold Jjz;split
   ·rename_i hc;rw[Ka,JgG];exact⟨fun h=>h.imp (fun h=>h) fun h=>⟨hc,h⟩,fun h=>h.imp (fun h=>h) fun h=>h.2⟩
   ·rename_i hc;exact⟨.inl,fun h=>h.elim (fun h=>h) fun h=>absurd h.1 hc⟩
  rw[h];simp only[FJ,exists_eq_or_imp,or_assoc]
theorem JlK {v:List Nat}:∀(l:List Lt) (acc:Fx),v∈l.foldl JcD acc↔v∈acc∨∃x∈l,x.kind≠1∧∃t∈x.args,t.kind=1∧t.name=v
 | [],acc=>by simp
 | x::l,acc=>by
  rw[Ku,JlK l]
  have h:v∈JcD acc x↔v∈acc∨(x.kind≠1∧∃t∈x.args,t.kind=1∧t.name=v):=by
   unfold JcD;split
   ·rename_i hc;exact⟨.inl,fun h=>h.elim (fun h=>h) fun h=>absurd hc h.1⟩
   ·rename_i hc;rw[Ka,JgG];exact⟨fun h=>h.imp (fun h=>h) fun h=>⟨hc,h⟩,fun h=>h.imp (fun h=>h) fun h=>h.2⟩
  rw[h];simp only[FJ,exists_eq_or_imp,or_assoc]
theorem mem_rBound {r:Rl}:v∈Jcy r↔∃x∈r.body,x.kind=1∧∃t∈x.args,t.kind=1∧t.name=v:=by
 rw[JrI,Jnl];simp
theorem mem_rNeed {r:Rl}:v∈JdH r↔(∃t∈r.head.args,t.kind=1∧t.name=v)∨∃x∈r.body,x.kind≠1∧∃t∈x.args,t.kind=1∧t.name=v:=by
 rw[JnB,JlK,JgG]
end Delphi
namespace Go.Proofs.YtegdcbdicpfbpaaGreatDoor
open Go.AE Delphi
variable {tab:Tab}
theorem Jfk {α:Type}{l:List α}{i:Nat}{x:α}(h:l[i]? = some x):l.take (i+1)=l.take i++[x]:=by rw[List.take_add_one,h];rfl
def BnI (n2:Nat) (v:List Nat) (r:Rl) (w0:AW) (q:Nat) (f:Fr) (w:AW):Prop :=
 ∃i,f.get 1=some (.str v)∧f.get 2=some (.ptr n2 0)∧f.get 5=some (.int .i64 (Int.ofNat i))∧i≤r.body.length∧q=r.body.length-i∧(∀x∈r.body.take i,x.kind=1→∀t∈x.args,¬(t.kind=1∧t.name=v))∧w=w0
def BkI (n2 i:Nat) (v:List Nat) (r:Rl) (x:Lt) (w0:AW) (q:Nat) (f:Fr) (w:AW):Prop :=
 ∃k,f.get 1=some (.str v)∧f.get 2=some (.ptr n2 0)∧f.get 5=some (.int .i64 (Int.ofNat i))∧f.get 6=some (.int .i64 (Int.ofNat k))∧k≤x.args.length∧q=x.args.length-k∧(∀t∈x.args.take k,¬(t.kind=1∧t.name=v))∧w=w0
theorem JmA (C:Codes tab){T:Fw}{aw:AW}{xs:List V}{r:Rl}{v:List Nat}{K:V→AW→Prop}(hr:RlC T aw r xs)(hbd:RBd r)(h:∀w,Frm (fun _=>False) aw w→K (.bool (decide (v∈Jcy r))) w):WF tab Gp [.agg xs,.str v] aw K:=by
 refine Ja7 C.Xv rfl ?_;obtain⟨hv,u,rfl,_,hu⟩:=hr;have cb:=JbA aw [V.int .i64 (Int.ofNat r.head.kind),.str r.head.name,hv,u];have ff:=Jbc (S:=fun _=>False) aw [V.int .i64 (Int.ofNat r.head.kind),.str r.head.name,hv,u];have hu1:RdL (LtC T) T (aw.fresh [V.int .i64 (Int.ofNat r.head.kind),.str r.head.name,hv,u]) u 3 r.body:=hu.frm (fun _ _ h=>h.frm ff fun _ _ h=>h) ff fun _ _ h=>h;generalize hw1:aw.fresh [V.int .i64 (Int.ofNat r.head.kind),.str r.head.name,hv,u]=w1 at cb ff hu1;have l3:w1.load aw.next 3 1=some [u]:=by rw[cb.load];rfl
 have hlv:=Jey hu;refine Fz (by simp only[go_sem,JaX,simprocAttr,Z0,hw1];rfl) ?_;refine Jba (BnI aw.next v r w1) (fun f w=>w=w1∧v∉Jcy r) ?_ ?_ r.body.length ⟨0,Fb,Fb,Fb,by omega,rfl,by simp,rfl⟩
 ·rintro q f w ⟨i,f1,f2,f5,hi,rfl,hno,rfl⟩ ih exit;by_cases hlt:i<r.body.length
  case neg =>
   rw[FX Fh]at hno;refine Ja2 1000 (by simp only[go_sem,simprocAttr,Ul,f2,f5,l3,hlv,hlt];rfl) ?_;refine exit _ _ _ ⟨rfl,fun hm=>?_⟩ rfl;obtain⟨x,hx,h1,t,ht,h2⟩:=mem_rBound.1 hm;exact hno x hx h1 t ht h2
  obtain⟨x,hx⟩:∃t,r.body[i]? = some t:=⟨_,FB hlt⟩;have hargs:=hbd.args x (FI hx);obtain⟨b,o,c,xu,rfl,_,_,_,a0,_,a2,hru⟩:=Jfs hu1 hx;have hwr:IntKind.wrap .i64 (Int.ofNat i+1)=Int.ofNat (i+1):=Ja3 (by have:=hbd.body;omega);have hxl:=hru.lenV;refine Fz (by simp only[go_sem,JaX,simprocAttr,Ul,f2,f5,l3,hlv,hlt];rfl) ?_;refine Jba (BkI aw.next i v r x w) (fun f' w'=>f'.get 1=some (.str v)∧f'.get 2=some (.ptr aw.next 0)∧f'.get 5=some (.int .i64 (Int.ofNat i))∧w'=w∧(x.kind=1→∀t∈x.args,¬(t.kind=1∧t.name=v))) ?_ ?_ x.args.length ⟨0,(Fg f1),(Fg f2),(Fg f5),Fb,by omega,rfl,by simp,rfl⟩
  ·rintro q f w' ⟨k,f1,f2,f5,f6,hk,rfl,hnk,rfl⟩ ih2 exit2;by_cases hk1:x.kind=1
   case neg =>
    refine Ja2 1000 (by simp only[go_sem,simprocAttr,Zr,f2,f5,l3,hlt,a0,hk1];rfl) ?_;exact exit2 _ _ _ ⟨(Fg f1),(Fg f2),(Fg f5),rfl,fun h=>absurd h hk1⟩ rfl
   rw[hk1]at a0;by_cases hkl:k<x.args.length
   case neg =>
    rw[FX Fh]at hnk;refine Ja2 1000 (by simp only[go_sem,simprocAttr,Zr,f2,f5,f6,l3,hlt,a0,a2,hxl,hkl];rfl) ?_;exact exit2 _ _ _ ⟨(Fg f1),(Fg f2),(Fg f5),rfl,fun _=>hnk⟩ rfl
   obtain⟨t,ht⟩:∃t,x.args[k]? = some t:=⟨_,FB hkl⟩;obtain⟨b2,o2,c2,rfl,_,_,_,t0,t1⟩:=Jd5 hru ht;have hwk:IntKind.wrap .i64 (Int.ofNat k+1)=Int.ofNat (k+1):=Ja3 Fh
   have next:¬(t.kind=1∧t.name=v)→∀y∈x.args.take (k+1),¬(y.kind=1∧y.name=v):=by
    intro hn y hy;rw[Jfk ht,Ka,Ko]at hy;rcases hy with hy|rfl
    ·exact hnk y hy
    ·exact hn
   by_cases ht1:t.kind=1
   case neg =>
    refine Fz (by simp only[go_sem,JaX,simprocAttr,Zr,Xu,f1,f2,f5,f6,l3,hlt,a0,a2,hxl,hkl,t0,ht1,hwk];rfl) ?_;exact ih2 _ _ _ Fh ⟨k+1,(Fg f1),(Fg f2),(Fg f5),Fb,by omega,rfl,next fun h=>ht1 h.1,rfl⟩
   rw[ht1]at t0;by_cases htv:t.name=v
   ·have e:eqL t.name v=true:=eqL_iff.2 htv;have hm:v∈Jcy r:=mem_rBound.2 ⟨x,FI hx,hk1,t,FI ht,ht1,htv⟩;refine Fz (by simp only[go_sem,JaX,simprocAttr,Zr,Xu,H9,f1,f2,f5,f6,l3,hlt,a0,a2,hxl,hkl,t0,t1,Jck,e];rfl) ?_;refine JaZ ⟨_,by simp only[go_sem,JaX,simprocAttr,Z0];rfl,?_⟩;have:=h w' ff;rw[decide_eq_true hm]at this;exact this
   ·have e:eqL t.name v=false:=by
     cases hc:eqL t.name v with
     | false=>rfl
     | true=>exact absurd (eqL_iff.1 hc) htv
    refine Fz (by simp only[go_sem,JaX,simprocAttr,Zr,Xu,f1,f2,f5,f6,l3,hlt,a0,a2,hxl,hkl,t0,t1,Jck,e,hwk];rfl) ?_;exact ih2 _ _ _ Fh ⟨k+1,(Fg f1),(Fg f2),(Fg f5),Fb,by omega,rfl,next fun h=>htv h.2,rfl⟩
  ·rintro f w' ⟨f1,f2,f5,rfl,hnx⟩;refine Fz (by simp only[go_sem,JaX,simprocAttr,f5,hwr];rfl) ?_;refine ih _ _ _ Fh ⟨i+1,(Fg f1),(Fg f2),Fb,by omega,rfl,fun y hy=>?_,rfl⟩;rw[Jfk hx,Ka,Ko]at hy;rcases hy with hy|rfl
   ·exact hno y hy
   ·exact hnx
 ·rintro f w ⟨rfl,hno⟩;refine JaY 1000 Fe ?_;refine JaZ ⟨_,by simp only[go_sem,JaX,simprocAttr,Z0];rfl,?_⟩;have:=h w ff;rw[decide_eq_false hno]at this;exact this
section
open Go.AE Delphi
variable {tab:Tab}
theorem Jit {w:AW}{b n k esz bytes:Nat}{cs news:List V}(h:CB w b cs)(hl:cs.length=n*esz)(hn:0<n)(hk:news.length=k*esz)(hb:(n+k)*bytes≤70368744177664)(hb':n+k≤70368744177664): ∃v' w',w.appendV esz bytes (.slice b 0 n (.known n)) k news=some (v',w')∧Rd (fun x=>x=b∨(w.next≤x∧x<w'.next)) w' v' esz (n+k) (cs++news)∧Frm (fun _=>False) w w':=by
 have rd0:Rd (fun x=>x=b) w (.slice b 0 n (.known n)) esz n cs:=.blk rfl h.lt h.get (.inl rfl) Fh (by rw[FZ,FX Fh]) (FH _);cases k with
 | zero =>
  have:news=[]:=List.length_eq_zero_iff.1 (by simpa using hk);subst this;refine⟨.slice b 0 n (.known n),w,if_pos (FH _),?_,Frm.refl _⟩;rw[Kc,KF];exact rd0.mono fun x hx=> .inl hx
 | succ k =>
  have hel:=rd0.elems;refine⟨.slice w.next 0 (n+(k+1)) (.upTo esz),w.fresh (cs++news),?_,?_,Jbc _ _⟩
  ·show (if (n+(k+1))*bytes≤70368744177664∧n+(k+1)≤70368744177664∧n≤n then _ else none)=_;rw[if_pos ⟨hb,hb',FH _⟩,if_neg Fh,hel]
  ·have c:=JbA w (cs++news);have hlen:(cs++news).length=(n+(k+1))*esz:=by rw[FE,hl,hk,←Nat.add_mul]
   exact .blk (.inr ⟨FH _,c.lt⟩) c.lt c.get (.inl rfl) Fh (by rw[FZ,FX Fh]) (.inl rfl)
def Jb9 (r:Rl):List Lt:=r.head::r.body
def Jhd (r:Rl) (i:Nat) (x:Lt) (t:Tm):Prop:=t.kind=1∧(i=0∨x.kind≠1)∧t.name∉Jcy r
def SaI (n1:Nat) (lv:V) (r:Rl) (a0:AW) (q:Nat) (f:Fr) (w:AW):Prop :=
 ∃i,f.get 1=some (.ptr n1 0)∧f.get 3=some lv∧f.get 4=some (.int .i64 (Int.ofNat i))∧i≤(Jb9 r).length∧q=(Jb9 r).length-i∧(∀j x,j<i→(Jb9 r)[j]? = some x→∀t∈x.args,¬Jhd r j x t)∧Frm (fun _=>False) a0 w
def SkI (n1:Nat) (lv:V) (r:Rl) (i:Nat) (x:Lt) (a0:AW) (q:Nat) (f:Fr) (w:AW):Prop :=
 ∃k,f.get 1=some (.ptr n1 0)∧f.get 3=some lv∧f.get 4=some (.int .i64 (Int.ofNat i))∧f.get 5=some (.int .i64 (Int.ofNat k))∧k≤x.args.length∧q=x.args.length-k∧(∀t∈x.args.take k,¬Jhd r i x t)∧Frm (fun _=>False) a0 w
variable {r:Rl}
theorem JnJ {i:Nat}{x:Lt}{t:Tm}(hx:(Jb9 r)[i]? = some x)(ht:t∈x.args)(hb:Jhd r i x t):Jc0 r=false:=by
 unfold Jc0;rw[List.all_eq_false];refine⟨t.name,mem_rNeed.2 ?_,by simpa using hb.2.2⟩;cases i with
 | zero=>simp[Jb9]at hx;subst hx;exact .inl ⟨t,ht,hb.1,rfl⟩
 | succ i =>
  have hx':r.body[i]? = some x:=by simpa[Jb9]using hx
  exact .inr ⟨x,FI hx',hb.2.1.resolve_left Fh,t,ht,hb.1,rfl⟩
theorem JrR (h:∀j x,j<(Jb9 r).length→(Jb9 r)[j]? = some x→∀t∈x.args,¬Jhd r j x t):Jc0 r=true:=by
 unfold Jc0;rw[List.all_eq_true];intro v hv;rw[decide_eq_true_iff];refine Classical.byContradiction fun hn=>?_;rcases mem_rNeed.1 hv with⟨t,ht,h1,rfl⟩|⟨x,hx,hk,t,ht,h1,rfl⟩
 ·exact h 0 r.head (by simp[Jb9]) rfl t ht ⟨h1,.inl rfl,hn⟩
 ·obtain⟨i,hi⟩:=List.mem_iff_getElem?.1 hx;have hlt:=(List.getElem?_eq_some_iff.1 hi).1;exact h (i+1) x (by simp[Jb9];omega) (by simpa[Jb9]using hi) t ht ⟨h1,.inr hk,hn⟩
theorem JnI (C:Codes tab){T:Fw}{aw:AW}{xs:List V}{K:V→AW→Prop}(hr:RlC T aw r xs)(hbd:RBd r)(h:∀w,Frm (fun _=>False) aw w→K (.bool (Jc0 r)) w):WF tab Ge [.agg xs] aw K:=by
 refine Ja7 C.Y3 rfl ?_;have hr0:=hr;obtain⟨hv,u,rfl,hh,hu⟩:=hr;have cb:=JbA aw [V.int .i64 (Int.ofNat r.head.kind),.str r.head.name,hv,u];have ff:=Jbc (S:=fun _=>False) aw [V.int .i64 (Int.ofNat r.head.kind),.str r.head.name,hv,u];generalize hw1:aw.fresh [V.int .i64 (Int.ofNat r.head.kind),.str r.head.name,hv,u]=w1 at cb ff;have l0:w1.load aw.next 0 3=some [V.int .i64 (Int.ofNat r.head.kind),.str r.head.name,hv]:=by rw[cb.load];rfl
 have hone:=hr0.one;have hov:over [V.int .i64 0,V.str [],V.nilslice] 0 [V.int .i64 (Int.ofNat r.head.kind),.str r.head.name,hv]=some [V.int .i64 (Int.ofNat r.head.kind),.str r.head.name,hv]:=rfl;have cb1:=JbA w1 [V.int .i64 (Int.ofNat r.head.kind),.str r.head.name,hv];have ff1:=Jbc (S:=fun _=>False) w1 [V.int .i64 (Int.ofNat r.head.kind),.str r.head.name,hv];have cb01:=cb.frm ff1 fun h=>h;generalize hw2:w1.fresh [V.int .i64 (Int.ofNat r.head.kind),.str r.head.name,hv]=w2 at cb1 ff1 cb01;have l3:w2.load aw.next 3 1=some [u]:=by rw[cb01.load];rfl
 have f02:=ff.tr ff1;obtain⟨xss,hrd,hall⟩:=hu.frm (fun _ _ h=>h.frm f02 fun _ _ h=>h) f02 fun _ _ h=>h;have hel:=hrd.elems;obtain⟨lv,w3,u1,u2,u3⟩:=Jit (bytes:=48) cb1 (n:=1) (esz:=3) rfl Fh hrd.len (by have:=hbd.body;omega) (by have:=hbd.body;omega);have f03:=f02.tr u3;have cb3:=cb01.frm u3 fun h=>h
 have hL:RdL (LtC T) (fun x=>x=w1.next∨(w2.next≤x∧x<w3.next)) w3 lv 3 (Jb9 r):=by
  refine⟨[V.int .i64 (Int.ofNat r.head.kind),.str r.head.name,hv]::xss,?_,.cons ⟨hv,rfl,hh.frm f03 fun _ _ h=>h⟩ (hall.imp fun _ _ h=>h.frm u3 fun _ _ h=>h)⟩;have e:1+r.body.length=(Jb9 r).length:=by simp[Jb9];omega
  rw[e]at u2;exact u2
 have hlv:=Jey hL;have hRl:RlC T w3 r [V.int .i64 (Int.ofNat r.head.kind),.str r.head.name,hv,u]:=hr0.frm f03 fun _ _ h=>h;have hal:(Jb9 r).length≤1001:=by have:=hbd.body;simp[Jb9];omega
 have lit:∀{w:AW} {i:Nat} {x:Lt},Frm (fun _=>False) w3 w→(Jb9 r)[i]? = some x→∃b o c xu,lv = .slice b o (Jb9 r).length c∧w.load b (o+i*3) 1=some [.int .i64 (Int.ofNat x.kind)]∧w.load b (o+i*3+2) 1=some [xu]∧Rd T w xu 3 x.args.length (JbY x.args):=by
  intro w i x hf hx;have hL':RdL (LtC T) (fun x=>x=w1.next∨(w2.next≤x∧x<w3.next)) w lv 3 (Jb9 r):=hL.frm (fun _ _ h=>h.frm hf fun _ _ h=>h) hf fun _ _ h=>h;have hlt:i<(Jb9 r).length:=(List.getElem?_eq_some_iff.1 hx).1;rcases hL'.inv (fun a xs hx=>(LtC.one hx).1)with⟨_,q2⟩|⟨b,o,c,rfl,_,_,_,hat⟩
  ·rw[q2]at hlt;simp at hlt
  ·obtain⟨xs,⟨xu,rfl,hxu⟩,hp⟩:=hat i x hx;exact⟨b,o,c,xu,rfl,hp 0 1 Fh,hp 2 1 Fh,hxu⟩
 have argl:∀{i:Nat} {x:Lt},(Jb9 r)[i]? = some x→x.args.length≤1000:=by
  intro i x hx;cases i with
  | zero=>simp[Jb9]at hx;subst hx;exact hbd.head
  | succ i=>exact hbd.args x (FI (by simpa[Jb9]using hx))
 refine Fz (by simp only[go_sem,JaX,simprocAttr,Zk,Hq,hw1,hw2,l0,l3,Ja4,Jbe,hov,hel,u1,FC,FD];rfl) ?_;refine Jba (SaI aw.next lv r w3) (fun f w=>Frm (fun _=>False) w3 w∧Jc0 r=true) ?_ ?_ (Jb9 r).length ⟨0,Fb,Fb,Fb,by omega,rfl,fun j x hj=>by omega,Frm.refl _⟩
 ·rintro q f w ⟨i,f1,f3,f4,hi,rfl,hno,hf⟩ ih exit;by_cases hlt:i<(Jb9 r).length
  case neg =>
   have:i=(Jb9 r).length:=Fh;subst this;refine Ja2 1000 (by simp only[go_sem,simprocAttr,VZ,f3,f4,hlv,hlt];rfl) ?_;exact exit _ _ _ ⟨hf,JrR hno⟩ rfl
  obtain⟨x,hx⟩:∃t,(Jb9 r)[i]? = some t:=⟨_,FB hlt⟩;have hargs:=argl hx;have hwr:IntKind.wrap .i64 (Int.ofNat i+1)=Int.ofNat (i+1):=Ja3 Fh;refine Fz (by simp only[go_sem,JaX,simprocAttr,VZ,f3,f4,hlv,hlt];rfl) ?_;refine Jba (SkI aw.next lv r i x w3) (fun f' w'=>f'.get 1=some (.ptr aw.next 0)∧f'.get 3=some lv∧f'.get 4=some (.int .i64 (Int.ofNat i))∧Frm (fun _=>False) w3 w'∧∀t∈x.args,¬Jhd r i x t) ?_ ?_ x.args.length ⟨0,(Fg f1),(Fg f3),(Fg f4),Fb,by omega,rfl,by simp,hf⟩
  ·rintro q f w' ⟨k,f1,f3,f4,f5,hk,rfl,hnk,hf'⟩ ih2 exit2;obtain⟨b,o,c,xu,rfl,a0,a2,hru⟩:=lit hf' hx;have hxl:=hru.lenV;by_cases hkl:k<x.args.length
   case neg =>
    rw[FX Fh]at hnk;refine Ja2 1000 (by simp only[go_sem,simprocAttr,Zj,f3,f4,f5,hlt,a2,hxl,hkl];rfl) ?_;exact exit2 _ _ _ ⟨(Fg f1),(Fg f3),(Fg f4),hf',hnk⟩ rfl
   obtain⟨t,ht⟩:∃t,x.args[k]? = some t:=⟨_,FB hkl⟩;obtain⟨b2,o2,c2,rfl,_,_,_,t0,t1⟩:=Jd5 hru ht;have hwk:IntKind.wrap .i64 (Int.ofNat k+1)=Int.ofNat (k+1):=Ja3 Fh
   have next:¬Jhd r i x t→∀y∈x.args.take (k+1),¬Jhd r i x y:=by
    intro hn y hy;rw[Jfk ht,Ka,Ko]at hy;rcases hy with hy|rfl
    ·exact hnk y hy
    ·exact hn
   by_cases ht1:t.kind=1
   case neg =>
    refine Fz (by simp only[go_sem,JaX,simprocAttr,Zj,ZW,f1,f3,f4,f5,hlt,a2,hxl,hkl,t0,ht1,hwk];rfl) ?_;exact ih2 _ _ _ Fh ⟨k+1,(Fg f1),(Fg f3),(Fg f4),Fb,by omega,rfl,next fun h=>ht1 h.1,hf'⟩
   rw[ht1]at t0;have la:=(cb3.frm hf' fun h=>h).all (n:=4) rfl;have called:∀{w5:AW},Frm (fun _=>False) w' w5→Frm (fun _=>False) w3 w5:=fun h=>hf'.tr h;by_cases hi0:i=0
   ·subst hi0;refine Fz (by simp only[go_sem,JaX,simprocAttr,Zj,ZW,f1,f3,f4,f5,hlt,a2,hxl,hkl,t0,t1,la];rfl) ?_;refine Ja0 Ff Fe ?_;refine JmA C (hRl.frm hf' fun _ _ h=>h) hbd fun w5 v1=>?_;by_cases hm:t.name∈Jcy r
    ·rw[decide_eq_true hm];refine Fz (by simp only[go_sem,JaX,simprocAttr,f5,hwk];rfl) ?_;exact ih2 _ _ _ Fh ⟨k+1,(Fg f1),(Fg f3),(Fg f4),Fb,by omega,rfl,next fun h=>h.2.2 hm,called v1⟩
    ·rw[decide_eq_false hm];refine Fz (by simp only[go_sem,JaX,simprocAttr,VY];rfl) ?_;refine JaZ ⟨_,by simp only[go_sem,JaX,simprocAttr,Zk];rfl,?_⟩;have:=h w5 (f03.tr (called v1));rw[JnJ hx (FI ht) ⟨ht1,.inl rfl,hm⟩]at this;exact this
   ·by_cases hk1:x.kind=1
    ·rw[hk1]at a0;refine Fz (by simp only[go_sem,JaX,simprocAttr,Zj,ZW,f1,f3,f4,f5,hlt,a0,a2,hxl,hkl,t0,hi0,hwk];rfl) ?_;exact ih2 _ _ _ Fh ⟨k+1,(Fg f1),(Fg f3),(Fg f4),Fb,by omega,rfl,next fun h=>h.2.1.elim hi0 fun h=>h hk1,hf'⟩
    ·refine Fz (by simp only[go_sem,JaX,simprocAttr,Zj,ZW,f1,f3,f4,f5,hlt,a0,a2,hxl,hkl,t0,t1,hi0,hk1,la];rfl) ?_;refine Ja0 Ff Fe ?_;refine JmA C (hRl.frm hf' fun _ _ h=>h) hbd fun w5 v1=>?_;by_cases hm:t.name∈Jcy r
     ·rw[decide_eq_true hm];refine Fz (by simp only[go_sem,JaX,simprocAttr,f5,hwk];rfl) ?_;exact ih2 _ _ _ Fh ⟨k+1,(Fg f1),(Fg f3),(Fg f4),Fb,by omega,rfl,next fun h=>h.2.2 hm,called v1⟩
     ·rw[decide_eq_false hm];refine Fz (by simp only[go_sem,JaX,simprocAttr,VY];rfl) ?_;refine JaZ ⟨_,by simp only[go_sem,JaX,simprocAttr,Zk];rfl,?_⟩;have:=h w5 (f03.tr (called v1));rw[JnJ hx (FI ht) ⟨ht1,.inr hk1,hm⟩]at this;exact this
  ·rintro f w' ⟨f1,f3,f4,hf',hnx⟩;refine Fz (by simp only[go_sem,JaX,simprocAttr,f4,hwr];rfl) ?_;refine ih _ _ _ Fh ⟨i+1,(Fg f1),(Fg f3),Fb,by omega,rfl,fun j y hj hy=>?_,hf'⟩;by_cases hji:j=i
   ·subst hji;rw[hx]at hy;cases hy;exact hnx
   ·exact hno j y Fh hy
 ·rintro f w ⟨hf,hs⟩;refine JaY 1000 Fe ?_;refine JaZ ⟨_,by simp only[go_sem,JaX,simprocAttr,Zk];rfl,?_⟩;have:=h w (f03.tr hf);rw[hs]at this;exact this
end
end Go.Proofs.YtegdcbdicpfbpaaGreatDoor
namespace Delphi
open Go.AE
structure Fa where
 name:List Nat
 args:List (Int×List Nat×Int×Unit)
abbrev Ps:=List (List Nat×Int)
end Delphi
namespace Go.Proofs.YtegdcbdicpfbpaaGreatDoor
open Go.AE Delphi
variable {tab:Tab}
def FaC (T:Fw) (w:AW) (f:Fa) (xs:List V):Prop:=∃v,xs=[.str f.name,v]∧∃cs,Rd T w v 3 f.args.length cs
variable {xs:List V}
theorem FaC.frm {T S:Fw}{w w':AW}{l:Fa}(h:FaC T w l xs)(hf:Frm S w w')(hd:∀x,T x→¬S x):FaC T w' l xs:=by
 obtain⟨v,h1,cs,h2⟩:=h;exact⟨v,h1,cs,h2.frm hf hd⟩
theorem FaC.one {T:Fw}{w:AW}{l:Fa}(h:FaC T w l xs):xs.length=2∧Jbf xs=true:=by
 obtain⟨v,rfl,cs,h2⟩:=h;refine⟨rfl,?_⟩;rcases h2.inv with⟨rfl,_⟩|⟨_,_,_,rfl,_⟩<;>rfl
end Go.Proofs.YtegdcbdicpfbpaaGreatDoor
namespace Delphi
def st0:Ps×Bool:=([],true)
end Delphi
namespace Go.Proofs.YtegdcbdicpfbpaaGreatDoor
open Go.AE Delphi
variable {tab:Tab}
theorem Al.cut {T:Fw}{w:AW}{b:Nat}{sh:Share}(h:Al T w b sh):Al (fun x=>T x∧x<w.next) w b sh:=by
 rcases h with rfl|rfl|rfl|⟨f,F,rfl,h1,h2,h3⟩
 ·exact .inl rfl
 ·exact .inr (.inl rfl)
 ·exact .inr (.inr (.inl rfl))
 ·exact .inr (.inr (.inr ⟨f,F,rfl,⟨h1,h2⟩,h2,h3⟩))
theorem Rd.cut {T:Fw}{w:AW}{v:V}{esz n:Nat}{cs:List V}(h:Rd T w v esz n cs):Rd (fun x=>T x∧x<w.next) w v esz n cs:=by
 cases h with
 | nil=>exact .nil
 | blk hT hb hx ha hl hcs hc=>exact .blk ⟨hT,hb⟩ hb hx (Al.cut ha) hl hcs hc
end Go.Proofs.YtegdcbdicpfbpaaGreatDoor
namespace Delphi
open Go.AE
theorem aget_app:∀(L:Ps) (k:List Nat) (M:Ps),Ja1 (L++M) k=(match Ja1 L k with|some v=>some v|none=>Ja1 M k)
 | [],k,M=>rfl
 | (a,b)::L,k,M=>by
  by_cases hk:k=a
  ·simp[Ja1,hk]
  ·simp only[List.cons_append,Ja1,if_neg hk,aget_app L k M]
end Delphi
namespace Go.Proofs.YtegdcbdicpfbpaaGreatDoor
open Go.AE Delphi
variable {tab:Tab}
def JwA (L:Ps):List V:=L.map fun p=>V.str p.1
def JwD (L:Ps):List V:=L.map fun p=>V.int .i64 p.2
structure NW (aw w:AW) (nv wv:V) (L:Ps) (S1 S2:Fw):Prop where
 a:Bt S1 w nv 1 L.length (JwA L)
 b:Bt S2 w wv 1 L.length (JwD L)
 s1:∀x,S1 x→aw.next≤x∧x<w.next∧¬S2 x
 s2:∀x,S2 x→aw.next≤x∧x<w.next
 frm:Frm (fun _=>False) aw w
theorem NW.ext {aw w w2:AW}{nv wv:V}{L:Ps}{S1 S2:Fw}(h:NW aw w nv wv L S1 S2)(hf:Frm (fun _=>False) w w2):NW aw w2 nv wv L S1 S2:=
 ⟨h.a.frm hf fun _ _ h=>h,h.b.frm hf fun _ _ h=>h,fun x hx=>by have h1:=h.s1 x hx;have:=hf.next;exact⟨by omega,by omega,h1.2.2⟩,fun x hx=>by have h1:=h.s2 x hx;have:=hf.next;exact⟨by omega,by omega⟩,h.frm.tr hf⟩
section
open Go.AE Delphi
variable {tab:Tab}
structure LV (T:Fw) (aw w:AW) (lv:V) (r:Rl) (S1 S2 Tl:Fw):Prop where
 rd:∃xss,Rd Tl w lv 3 (Jb9 r).length xss.flatten∧All2 (LtC T aw) (Jb9 r) xss
 sep:∀x,Tl x→x<w.next∧¬S1 x∧¬S2 x
theorem LV.at {T:Fw}{aw w:AW}{lv:V}{r:Rl}{S1 S2 Tl:Fw}(h:LV T aw w lv r S1 S2 Tl){i:Nat}{x:Lt}(hx:(Jb9 r)[i]? = some x):∃b o c u,lv = .slice b o (Jb9 r).length c∧w.load b (o+i*3) 1=some [.int .i64 (Int.ofNat x.kind)]∧w.load b (o+i*3+1) 1=some [.str x.name]∧w.load b (o+i*3+2) 1=some [u]∧lenV u=some x.args.length:=by
 obtain⟨xss,h1,h2⟩:=h.rd;have hlt:i<(Jb9 r).length:=(List.getElem?_eq_some_iff.1 hx).1;have h3:RdL (fun _=>LtC T aw) Tl w lv 3 (Jb9 r):=⟨xss,h1,h2⟩;rcases h3.inv (fun a xs hx=>(LtC.one hx).1)with⟨_,q2⟩|⟨b,o,c,rfl,_,_,_,hat⟩
 ·rw[q2]at hlt;simp at hlt
 ·obtain⟨xs,⟨u,rfl,hu⟩,hp⟩:=hat i x hx;exact⟨b,o,c,u,rfl,hp 0 1 Fh,hp 1 1 Fh,hp 2 1 Fh,hu.lenV⟩
end
section
open Go.AE Delphi
variable {tab:Tab}
end
end Go.Proofs.YtegdcbdicpfbpaaGreatDoor
namespace Delphi
def Jsu (rules:List Rl) (nm:List Nat):Prop:=∃r∈rules,r.head.name=nm
instance (rules:List Rl) (nm:List Nat):Decidable (Jsu rules nm):=List.decidableBEx _ rules
end Delphi
namespace Go.Proofs.YtegdcbdicpfbpaaGreatDoor
open Go.AE Delphi
variable {tab:Tab}
end Go.Proofs.YtegdcbdicpfbpaaGreatDoor
namespace Delphi
structure RBr (r:Rl):Prop where
 head:r.head.args.length≤5
 body:r.body.length≤7
 args:∀l∈r.body,l.args.length≤5
theorem RBr.big {r:Rl}(h:RBr r):RBd r:=⟨by have:=h.head;omega,by have:=h.body;omega,fun l hl=>by have:=h.args l hl;omega⟩
end Delphi
namespace Go.Proofs.YtegdcbdicpfbpaaGreatDoor
open Go.AE Delphi
variable {tab:Tab}
variable {s:List Nat} {K:V→AW→Prop}
theorem JoV (C:Codes tab){n:Nat}{aw:AW}(h:K (.str (s.take n)) aw):WF tab ZH [.str s,.int .i64 (Int.ofNat n)] aw K:=by
 refine Ja7 C.ZX rfl ?_;by_cases hl:n<s.length
 ·have h1:n≤s.length:=Fh;refine Fz (by simp only[go_sem,JaX,simprocAttr,Jt,hl,h1,Nat.zero_le,FZ,Nat.sub_zero];rfl) ?_;refine JaZ ⟨_,by simp only[go_sem,JaX,simprocAttr,Jt];rfl,?_⟩;exact h
 ·refine Fz (by simp only[go_sem,JaX,simprocAttr,Jt,hl];rfl) ?_;refine JaZ ⟨_,by simp only[go_sem,JaX,simprocAttr,Jt];rfl,?_⟩;rw[FX Fh]at h;exact h
theorem JlI (C:Codes tab){aw:AW}(hb:∀x∈s,x<256)(h:∀w v T rs,rs=(JdD (s.take 1200)).1→RdL (RlC T) T w v 4 rs→Frm (fun _=>False) aw w→(∀x,T x→aw.next≤x∧x<w.next)→K v w):WF tab Vz [.str s] aw K:=by
 refine Ja7 C.YR rfl ?_;refine Fz (by simp only[go_sem,JaX,simprocAttr,YQ,G9];rfl) ?_;refine Ja0 Ff Fe ?_;refine JoV C (n:=1200) ?_;refine JaY 1000 Fe ?_;refine Ja0 Ff Fe ?_;refine Jop C (by rw[FU];omega) (fun x hx=>hb x (List.mem_of_mem_take hx)) fun w v T h1 h2 h3=>?_;refine JaY 1000 Fe ?_;refine JaZ ⟨_,by simp only[go_sem,JaX,simprocAttr,YQ];rfl,?_⟩;exact h w v T _ rfl h1 h2 h3
section
open Go.AE Delphi Val
variable {tab:Tab}
theorem Jjt (t:Tk):JbW t t=true:=by simp[JbW,Jwx]
theorem JfN {T:Fw}{w:AW}{v:V}{l:List Lt}(h:RdL (LtC T) T w v 3 l){i:Nat}{t:Lt}(hi:l[i]? = some t):∃b o c xs,v = .slice b o l.length c∧w.load b (o+i*3) 3=some xs∧LtC T w t xs:=by
 have hlt:i<l.length:=(List.getElem?_eq_some_iff.1 hi).1;obtain⟨xss,h1,h2⟩:=h;obtain⟨xs,h3,h4⟩:=Ji2 (sz:=3) (fun a xs h=>h.one.1) h2 hi;rcases h1.inv with⟨_,q2,_⟩|⟨b,o,c,rfl,hB⟩
 ·omega
 ·refine⟨b,o,c,xs,rfl,?_,h3⟩;rw[hB.load (i*3) 3 Fh];exact congrArg some h4
end
section
open Go.AE Delphi Val
variable {tab:Tab}
end
section
open Go.AE Delphi Val
variable {tab:Tab}
abbrev Fc:=List Nat×List Tk
def Jbw:List Tk→List Tk→Bool
 | a::aas,b::bs=>if JbW a b then Jbw aas bs else JbL a b
 | aas,bs=>decide (aas.length<bs.length)
def JbJ (a b:Fc):Bool:=if eqL a.1 b.1 then Jbw a.2 b.2 else Jb2 a.1 b.1
def Jcm (a b:Fc):Bool:=!JbJ a b && !JbJ b a
def FcC (T:Fw) (w:AW) (f:Fc) (xs:List V):Prop:=∃v,xs=[.str f.1,v]∧Rd T w v 3 f.2.length (JcY f.2)
variable {T:Fw} {w:AW} {xs:List V}
theorem FcC.frm {S:Fw}{w':AW}{f:Fc}(h:FcC T w f xs)(hf:Frm S w w')(hd:∀x,T x→¬S x):FcC T w' f xs:=by
 obtain⟨v,h1,h2⟩:=h;exact⟨v,h1,h2.frm hf hd⟩
theorem FcC.one {f:Fc}(h:FcC T w f xs):xs.length=2∧Jbf xs=true:=by
 obtain⟨v,rfl,h2⟩:=h;refine⟨rfl,?_⟩;rcases h2.inv with⟨rfl,_⟩|⟨_,_,_,rfl,_⟩<;>rfl
abbrev Fcs (T:Fw) (w:AW) (v:V) (l:List Fc):Prop:=RdL (FcC T) T w v 2 l
variable {v:V} {l:List Fc}
theorem Fcs.frm {S:Fw}{w':AW}(h:Fcs T w v l)(hf:Frm S w w')(hd:∀x,T x→¬S x):Fcs T w' v l:=RdL.frm h (fun _ _ h=>h.frm hf hd) hf hd
theorem Fcs.lenV (h:Fcs T w v l):lenV v=some l.length:=by obtain⟨_,h,_⟩:=h;exact h.lenV
theorem Jd2 (h:Fcs T w v l){i:Nat}{t:Fc}(hi:l[i]? = some t):∃b o c xv,v = .slice b o l.length c∧T b∧b<w.next∧w.load b (o+i*2) 2=some [.str t.1,xv]∧w.load b (o+i*2) 1=some [.str t.1]∧w.load b (o+i*2+1) 1=some [xv]∧Rd T w xv 3 t.2.length (JcY t.2):=by
 have hlt:i<l.length:=(List.getElem?_eq_some_iff.1 hi).1;rcases RdL.inv h (fun a xs h=>h.one.1)with⟨_,rfl⟩|⟨b,o,c,rfl,h1,h2,_,hat⟩
 ·simp at hlt
 ·obtain⟨xs,hx,hl⟩:=hat i t hi;obtain⟨xv,rfl,hx⟩:=hx;exact⟨b,o,c,xv,rfl,h1,h2,hl 0 2 Fh,hl 0 1 Fh,hl 1 1 Fh,hx⟩
variable {T':Fw} {y:Fc} {ys:List V} {aw:AW}
theorem JiF (C:Codes tab){x:Fc}(hx:FcC T aw x xs)(hy:FcC T' aw y ys)(hlx:x.2.length≤1000)(h:∀w,Frm (fun _=>False) aw w→K (.bool (JbJ x y)) w):WF tab YC [.agg xs,.agg ys] aw K:=by
 refine Ja7 C.XQ rfl ?_;obtain⟨nm,aas⟩:=x;obtain⟨nm',bs⟩:=y;obtain⟨xv,rfl,hx⟩:=hx;obtain⟨yv,rfl,hy⟩:=hy;obtain⟨w1,e1,c1,r1,m1⟩:=Jb8 aw [.str nm,xv];obtain⟨w2,e2,c2,r2,m2⟩:=Jb8 w1 [.str nm',yv];have c1:=c1.frm r2 fun h=>h;have f02:=r1.tr r2;have a0:=CB.ld c1 0 1 _ rfl;have b0:=CB.ld c2 0 1 _ rfl;have hxv:=hx.lenV;have hyv:=hy.lenV;simp only at hxv hyv hx hy hlx;have hsn:Jck BinOp.neq nm nm'=some (.bool (!eqL nm nm')):=rfl;by_cases hnm:eqL nm nm'=true
 case neg =>
  have hf:eqL nm nm'=false:=by simpa using hnm
  have hls:Jck BinOp.lss nm nm'=some (.bool (Jb2 nm nm')):=rfl;rw[hf]at hsn;have hsn:Jck BinOp.neq nm nm'=some (.bool true):=hsn;have hfl:JbJ (nm,aas) (nm',bs)=Jb2 nm nm':=if_neg (by simp only;rw[hf];simp);rw[hfl]at h;refine Fz (by simp only[go_sem,JaX,simprocAttr,J7,Uu,Pq,e1,e2,a0,b0,hsn,hls];rfl) ?_;refine JaZ ⟨_,by simp only[go_sem,JaX,simprocAttr,J7];rfl,?_⟩;exact h w2 f02
 rw[hnm]at hsn;have hsn:Jck BinOp.neq nm nm'=some (.bool false):=hsn;have hfl:JbJ (nm,aas) (nm',bs)=Jbw aas bs:=if_pos hnm;rw[hfl]at h;refine Fz (by simp only[go_sem,JaX,simprocAttr,J7,Uu,e1,e2,a0,b0,hsn];rfl) ?_;refine Jba (fun n f w=>∃i,f.get 2=some (.ptr aw.next 0)∧f.get 3=some (.ptr w1.next 0)∧f.get 5=some (.int .i64 (Int.ofNat i))∧Frm (fun _=>False) w2 w∧Jbw aas bs=Jbw (aas.drop i) (bs.drop i)∧i≤aas.length∧i≤bs.length∧n=aas.length-i) (fun f w=>f.get 2=some (.ptr aw.next 0)∧f.get 3=some (.ptr w1.next 0)∧Frm (fun _=>False) w2 w∧Jbw aas bs=decide (aas.length<bs.length)) ?_ ?_ aas.length ⟨0,Fb,Fb,Fb,Frm.refl _,rfl,Nat.zero_le _,Nat.zero_le _,rfl⟩
 ·rintro n f w ⟨i,f2,f3,f5,g,hL,hi,hi',rfl⟩ ih out;have a1:=CB.ld (c1.frm g fun h=>h) 1 1 _ rfl;have b1:=CB.ld (c2.frm g fun h=>h) 1 1 _ rfl;by_cases hlt:i<aas.length
  case neg =>
   obtain rfl:i=aas.length:=Fh;rw[List.drop_length]at hL
   have hL:Jbw aas bs=decide (aas.length<bs.length):=by
    rw[hL];show decide (([]:List Tk).length<_)=_;rw[Ki,FD];exact decide_eq_decide.2 Fh
   refine Ja2 1000 (by simp only[go_sem,simprocAttr,XP,f2,f3,f5,a1,b1,hxv,hyv,hlt];rfl) ?_;exact out _ _ _ ⟨(Fg f2),(Fg f3),g,hL⟩ rfl
  by_cases hlt2:i<bs.length
  case neg =>
   obtain rfl:i=bs.length:=Fh;rw[List.drop_length]at hL
   have hL:Jbw aas bs=decide (aas.length<bs.length):=by
    rw[hL];cases hd:aas.drop bs.length with
    | nil=>simp[Jbw];omega
    | cons a l=>simp[Jbw];omega
   refine Ja2 1000 (by simp only[go_sem,simprocAttr,XP,f2,f3,f5,a1,b1,hxv,hyv,hlt,hlt2];rfl) ?_;exact out _ _ _ ⟨(Fg f2),(Fg f3),g,hL⟩ rfl
  obtain⟨t,ht⟩:∃t,aas[i]? = some t:=⟨_,FB hlt⟩;obtain⟨u,hu⟩:∃t,bs[i]? = some t:=⟨_,FB hlt2⟩;have hda:aas.drop i=t::aas.drop (i+1):=by rw[FL hlt];rw[FB hlt]at ht;cases ht;rfl
  have hdb:bs.drop i=u::bs.drop (i+1):=by rw[FL hlt2];rw[FB hlt2]at hu;cases hu;rfl
  have hL2:Jbw aas bs=if JbW t u then Jbw (aas.drop (i+1)) (bs.drop (i+1))else JbL t u:=by rw[hL,hda,hdb];rfl
  have f0w:=f02.tr g;have hxw:=hx.frm f0w fun _ _ h=>h;have hyw:=hy.frm f0w fun _ _ h=>h;obtain⟨b,o,c,rfl,_,_,a3⟩:=JfU hxw ht;obtain⟨b',o',c',rfl,_,_,b3⟩:=JfU hyw hu;have hwr:IntKind.wrap .i64 (Int.ofNat i+1)=Int.ofNat (i+1):=Ja3 Fh;refine Fz (by simp only[go_sem,JaX,simprocAttr,XP,Pt,f2,f3,f5,a1,b1,hxv,hyv,hlt,hlt2,a3,b3];rfl) ?_;refine Ja0 Ff Fe ?_;refine JkM C (a:=t) (b:=u) fun w' g'=>?_;cases hs:JbW t u with
  | true =>
   rw[hs,if_pos rfl]at hL2;refine Fz (by simp only[go_sem,JaX,simprocAttr,f5,hwr];rfl) ?_;exact ih _ _ _ Fh ⟨i+1,(Fg f2),(Fg f3),Fb,g.tr g',hL2,by omega,by omega,rfl⟩
  | false =>
   rw[hs,if_neg Fj]at hL2;have a1:=CB.ld (c1.frm (g.tr g') fun h=>h) 1 1 _ rfl;have b1:=CB.ld (c2.frm (g.tr g') fun h=>h) 1 1 _ rfl;obtain⟨_,_,_,he,_,_,a3⟩:=JfU (hxw.frm g' fun _ _ h=>h) ht;cases he;obtain⟨_,_,_,he,_,_,b3⟩:=JfU (hyw.frm g' fun _ _ h=>h) hu;cases he;refine Fz (by simp only[go_sem,JaX,simprocAttr,Pr,f2,f3,f5,a1,b1,hlt,hlt2,a3,b3];rfl) ?_;refine Ja0 Ff Fe ?_;refine Jj4 C (a:=t) (b:=u) fun w3 g3=>?_;refine JaY 1000 Fe ?_;refine JaZ ⟨_,by simp only[go_sem,JaX,simprocAttr,J7];rfl,?_⟩;rw[hL2]at h;exact h w3 ((f0w.tr g').tr g3)
 ·rintro f w ⟨f2,f3,g,hL⟩;have a1:=CB.ld (c1.frm g fun h=>h) 1 1 _ rfl;have b1:=CB.ld (c2.frm g fun h=>h) 1 1 _ rfl;rw[hL]at h;have h:=h w (f02.tr g);refine Fz (by simp only[go_sem,JaX,simprocAttr,Pu,f2,f3,a1,b1,hxv,hyv];rfl) ?_;refine JaZ ⟨_,by simp only[go_sem,JaX,simprocAttr,J7];rfl,?_⟩;exact h
theorem Jlc (C:Codes tab){x:Fc}(hx:FcC T aw x xs)(hy:FcC T' aw y ys)(hlx:x.2.length≤1000)(hly:y.2.length≤1000)(h:∀w,Frm (fun _=>False) aw w→K (.bool (Jcm x y)) w):WF tab Yz [.agg xs,.agg ys] aw K:=by
 refine Ja7 C.Xw rfl ?_;obtain⟨xl,xo⟩:=hx.one;obtain⟨yl,yo⟩:=hy.one;obtain⟨w1,e1,c1,r1,m1⟩:=Jb8 aw xs;obtain⟨w2,e2,c2,r2,m2⟩:=Jb8 w1 ys;have c1:=c1.frm r2 fun h=>h;have f02:=r1.tr r2;have a0:=c1.all xl;have b0:=c2.all yl;have hc1:V.cells (.agg xs)=xs:=rfl;have hc2:V.cells (.agg ys)=ys:=rfl;refine Fz (by simp only[go_sem,JaX,simprocAttr,Z1,Pa,hc1,hc2,e1,e2,a0,b0];rfl) ?_;refine Ja0 Ff Fe ?_;refine JiF C (hx.frm f02 fun _ _ h=>h) (hy.frm f02 fun _ _ h=>h) hlx fun w3 g3=>?_;cases hl:JbJ x y with
 | true =>
  have e:Jcm x y=false:=by unfold Jcm;rw[hl];rfl
  rw[e]at h;refine JaY 1000 Fe ?_;refine JaZ ⟨_,by simp only[go_sem,JaX,simprocAttr,Z1];rfl,?_⟩;exact h w3 (f02.tr g3)
 | false =>
  have e:Jcm x y = !JbJ y x:=by unfold Jcm;rw[hl];rfl
  rw[e]at h;have a0:=(c1.frm g3 fun h=>h).all xl;have b0:=(c2.frm g3 fun h=>h).all yl;have f03:=f02.tr g3;refine Fz (by simp only[go_sem,JaX,simprocAttr,a0,b0];rfl) ?_;refine Ja0 Ff Fe ?_;refine JiF C (hy.frm f03 fun _ _ h=>h) (hx.frm f03 fun _ _ h=>h) hly fun w4 g4=>?_;have h:=h w4 (f03.tr g4);refine JaY 1000 Fe ?_;refine JaZ ⟨_,by simp only[go_sem,JaX,simprocAttr,Z1];rfl,?_⟩;exact h
theorem JuW (C:Codes tab){lv:V}(hx:Fcs T aw lv l)(hy:FcC T' aw y ys)(hl:l.length≤1000000)(hlx:∀x∈l,x.2.length≤1000)(hly:y.2.length≤1000)(h:∀w,Frm (fun _=>False) aw w→K (.bool (l.any fun x=>Jcm x y)) w):WF tab Gu [lv,.agg ys] aw K:=by
 refine Ja7 C.XM rfl ?_;obtain⟨yl,yo⟩:=hy.one;obtain⟨w1,e1,c1,r1,m1⟩:=Jb8 aw ys;have hc1:V.cells (.agg ys)=ys:=rfl;have hlv:=hx.lenV;refine Fz (by simp only[go_sem,JaX,simprocAttr,Z4,hc1,e1];rfl) ?_;refine Jba (fun n f w=>∃i,f.get 0=some lv∧f.get 3=some (.ptr aw.next 0)∧f.get 5=some (.int .i64 (Int.ofNat i))∧Frm (fun _=>False) w1 w∧((l.any fun x=>Jcm x y)=(l.drop i).any fun x=>Jcm x y)∧i≤l.length∧n=l.length-i) (fun f w=>Frm (fun _=>False) w1 w∧(l.any fun x=>Jcm x y)=false) ?_ ?_ l.length ⟨0,Fb,Fb,Fb,Frm.refl _,rfl,Nat.zero_le _,rfl⟩
 ·rintro n f w ⟨i,f0,f3,f5,g,hL,hi,rfl⟩ ih out;by_cases hlt:i<l.length
  case neg =>
   obtain rfl:i=l.length:=Fh;rw[List.drop_length]at hL;refine Ja2 1000 (by simp only[go_sem,simprocAttr,Us,f0,f5,hlv,hlt];rfl) ?_;exact out _ _ _ ⟨g,hL⟩ rfl
  obtain⟨t,ht⟩:∃t,l[i]? = some t:=⟨_,FB hlt⟩;have hd:l.drop i=t::l.drop (i+1):=by rw[FL hlt];rw[FB hlt]at ht;cases ht;rfl
  rw[hd,List.any_cons]at hL;have f0w:=r1.tr g;have a0:=(c1.frm g fun h=>h).all yl;obtain⟨b,o,c,xv,rfl,_,_,la,_,_,hxv⟩:=Jd2 (hx.frm f0w fun _ _ h=>h) ht;have hwr:IntKind.wrap .i64 (Int.ofNat i+1)=Int.ofNat (i+1):=Ja3 Fh;refine Fz (by simp only[go_sem,JaX,simprocAttr,Us,Pl,f0,f3,f5,hlv,hlt,la,a0];rfl) ?_;refine Ja0 Ff Fe ?_;refine Jlc C (x:=t) (y:=y) (T:=T) ⟨xv,rfl,hxv⟩ (hy.frm f0w fun _ _ h=>h) (hlx t (FI ht)) hly fun w2 g2=>?_;cases hs:Jcm t y with
  | true =>
   rw[hs,Bool.true_or]at hL;rw[hL]at h;refine Fz (by simp only[go_sem,JaX,simprocAttr,Pk];rfl) ?_;refine JaZ ⟨_,by simp only[go_sem,JaX,simprocAttr,Z4];rfl,?_⟩;exact h w2 (f0w.tr g2)
  | false =>
   rw[hs,Bool.false_or]at hL;refine Fz (by simp only[go_sem,JaX,simprocAttr,f5,hwr];rfl) ?_;exact ih _ _ _ Fh ⟨i+1,(Fg f0),(Fg f3),Fb,g.tr g2,hL,by omega,rfl⟩
 ·rintro f w ⟨g,hL⟩;rw[hL]at h;refine JaY 1000 Fe ?_;refine JaZ ⟨_,by simp only[go_sem,JaX,simprocAttr,Z4];rfl,?_⟩;exact h w (r1.tr g)
def JcW:List Fc→List Fc→Bool
 | a::aas,b::bs=>Jcm a b&&JcW aas bs
 | [],[]=>true
 | _,_=>false
theorem Jjb:∀{a b:List Fc},JcW a b=true→a.length=b.length
 | [],[],_=>rfl
 | [],_::_,h=>by simp[JcW]at h
 | _::_,[],h=>by simp[JcW]at h
 | a::aas,b::bs,h=>by
  simp only[JcW,FT]at h;rw[FC,FC,Jjb h.2]
theorem Jtt (C:Codes tab){m:List Fc}{lv mv:V}(hx:Fcs T aw lv l)(hy:Fcs T' aw mv m)(hl:l.length≤1000000)(hlx:∀x∈l,x.2.length≤1000)(hly:∀x∈m,x.2.length≤1000)(h:∀w,Frm (fun _=>False) aw w→K (.bool (JcW l m)) w):WF tab Gg [lv,mv] aw K:=by
 refine Ja7 C.Y6 rfl ?_;have hlv:=hx.lenV;have hmv:=hy.lenV;by_cases hz:l.length=m.length
 case neg =>
  have e:JcW l m=false:=by
   cases hc:JcW l m with
   | false=>rfl
   | true=>exact absurd (Jjb hc) hz
  rw[e]at h;refine Fz (by simp only[go_sem,JaX,simprocAttr,JZ,V4,Ht,hlv,hmv,hz];rfl) ?_;refine JaZ ⟨_,by simp only[go_sem,JaX,simprocAttr,JZ];rfl,?_⟩;exact h aw (Frm.refl _)
 have hmv:lenV mv=some l.length:=by rw[hz];exact hmv
 refine Fz (by simp only[go_sem,JaX,simprocAttr,JZ,V4,hlv,hmv];rfl) ?_;refine Jba (fun n f w=>∃i,f.get 0=some lv∧f.get 1=some mv∧f.get 5=some (.int .i64 (Int.ofNat i))∧Frm (fun _=>False) aw w∧JcW l m=JcW (l.drop i) (m.drop i)∧i≤l.length∧n=l.length-i) (fun f w=>Frm (fun _=>False) aw w∧JcW l m=true) ?_ ?_ l.length ⟨0,Fb,Fb,Fb,Frm.refl _,rfl,Nat.zero_le _,rfl⟩
 ·rintro n f w ⟨i,f0,f1,f5,g,hL,hi,rfl⟩ ih out;by_cases hlt:i<l.length
  case neg =>
   obtain rfl:i=l.length:=Fh;rw[List.drop_length,hz,List.drop_length]at hL;refine Ja2 1000 (by simp only[go_sem,simprocAttr,V3,f0,f5,hlv,hlt];rfl) ?_;exact out _ _ _ ⟨g,hL⟩ rfl
  have hlt2:i<m.length:=Fh;obtain⟨t,ht⟩:∃t,l[i]? = some t:=⟨_,FB hlt⟩;obtain⟨u,hu⟩:∃t,m[i]? = some t:=⟨_,FB hlt2⟩;have hda:l.drop i=t::l.drop (i+1):=by rw[FL hlt];rw[FB hlt]at ht;cases ht;rfl
  have hdb:m.drop i=u::m.drop (i+1):=by rw[FL hlt2];rw[FB hlt2]at hu;cases hu;rfl
  rw[hda,hdb]at hL;have hL:JcW l m=(Jcm t u&&JcW (l.drop (i+1)) (m.drop (i+1))):=hL;obtain⟨b,o,c,xv,rfl,_,_,la,_,_,hxv⟩:=Jd2 (hx.frm g fun _ _ h=>h) ht;obtain⟨b',o',c',yv,rfl,_,_,lb,_,_,hyv⟩:=Jd2 (hy.frm g fun _ _ h=>h) hu;have hwr:IntKind.wrap .i64 (Int.ofNat i+1)=Int.ofNat (i+1):=Ja3 Fh;refine Fz (by simp only[go_sem,JaX,simprocAttr,V3,Hv,f0,f1,f5,hlv,hlt,hlt2,la,lb];rfl) ?_;refine Ja0 Ff Fe ?_;refine Jlc C (x:=t) (y:=u) (T:=T) (T':=T') ⟨xv,rfl,hxv⟩ ⟨yv,rfl,hyv⟩ (hlx t (FI ht)) (hly u (FI hu)) fun w2 g2=>?_;cases hs:Jcm t u with
  | false =>
   rw[hs,Bool.false_and]at hL;rw[hL]at h;refine Fz (by simp only[go_sem,JaX,simprocAttr,Hu];rfl) ?_;refine JaZ ⟨_,by simp only[go_sem,JaX,simprocAttr,JZ];rfl,?_⟩;exact h w2 (g.tr g2)
  | true =>
   rw[hs,Bool.true_and]at hL;refine Fz (by simp only[go_sem,JaX,simprocAttr,f5,hwr];rfl) ?_;exact ih _ _ _ Fh ⟨i+1,(Fg f0),(Fg f1),Fb,g.tr g2,hL,by omega,rfl⟩
 ·rintro f w ⟨g,hL⟩;rw[hL]at h;refine JaY 1000 Fe ?_;refine JaZ ⟨_,by simp only[go_sem,JaX,simprocAttr,JZ];rfl,?_⟩;exact h w g
end
end Go.Proofs.YtegdcbdicpfbpaaGreatDoor
