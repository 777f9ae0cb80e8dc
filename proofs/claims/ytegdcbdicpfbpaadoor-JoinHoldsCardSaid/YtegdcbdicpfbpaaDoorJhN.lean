/- A part of the proof. -/
import Derived.Test.YtegdcbdicpfbpaaDoorJhM
import Derived.Test.YtegdcbdicpfbpaaDoorJhI
set_option linter.unusedVariables false
set_option maxRecDepth 10000
set_option linter.unusedSimpArgs false
namespace Go.Proofs.YtegdcbdicpfbpaaDoor
open Go.AE Delphi Val
variable {tab:Tab}
section
variable {α β:Type} [DecidableEq α]
def Jew:List (α×β)→α→List (α×β)
 | [],_=>[]
 | (a,b)::l,k=>if k=a then l else (a,b)::Jew l k
variable {ke:α→V} {ve:β→V} {t:KeyTy}
theorem JgR (hk:KeyE t ke){k:α}:∀{M:List (α×β)} {es:List (V×V×Nat)} (i:Nat),All2 (Jhx ke ve) M es→∀v,HE M k=some v→∃j n,PX t (ke k) es i=some (some (i+j,ve v,n))∧All2 (Jhx ke ve) (Jew M k) (es.eraseIdx j)
 | [],_,i,.nil=>fun v h=>by simp[HE]at h
 | (a,b)::M,(x,y,n)::es,i,.cons h1 h2=>by
  intro v hv;obtain⟨q1,q2⟩:=h1;simp only at q1 q2;subst q1;subst q2;by_cases h:k=a
  ·subst h;simp only[HE,if_true,FP]at hv;subst hv;refine⟨0,n,by simp only[PX,hk.eq,decide_true,KC],?_⟩;simp only[Jew,if_true,List.eraseIdx_cons_zero];exact h2
  ·simp only[HE,if_neg h]at hv;obtain⟨j,m,s1,s2⟩:=JgR hk (k:=k) (i+1) h2 v hv;refine⟨j+1,m,?_,?_⟩
   ·simp only[PX,hk.eq,decide_eq_false h];rw[s1];congr 3;omega
   ·simp only[Jew,if_neg h,List.eraseIdx_cons_succ];exact .cons ⟨rfl,rfl⟩ s2
theorem JpA (hk:KeyE t ke){w:AW}{b:Nat}{M:List (α×β)}{k:α}{v:β}(h:MB ke ve w b M)(hv:HE M k=some v):∃es ck j n,w.entries (.map b)=some (some b,es,ck)∧PX t (ke k) es 0=some (some (j,ve v,n))∧MB ke ve (w.turn b (.map (es.eraseIdx j) ck)) b (Jew M k)∧Frm (fun x=>x=b) w (w.turn b (.map (es.eraseIdx j) ck)):=by
 obtain⟨es,ck,h1,h2⟩:=h.get;obtain⟨j,n,s1,s2⟩:=JgR hk 0 h2 v hv;rw[FU]at s1;exact⟨es,ck,j,n,by simp only[AW.entries,h1],s1,⟨h.lt,_,_,T.get_put_same,s2⟩,JeL⟩
end
variable {K:V→AW→Prop}
theorem JnX (C:Codes tab){S:Fw}{p:V}{width:Nat}{rows:Fy}{aw:AW}(hs:Rel.SetOf S aw p width rows)(h:K (.int .i64 (Int.ofNat width)) aw):WF tab Ym [p] aw K:=by
 refine HL C.Z8 rfl ?_;obtain⟨bp,lv,cs,S0,T,rfl,hs⟩:=hs;have hp:eqV .ptr (.ptr bp 0) .nilptr=some false:=rfl;have e0:=hs.load0;refine Fz (by simp only[go_sem,HA,simprocAttr,Zv,VK,hp,e0];rfl) ?_;refine HC ⟨_,by simp only[go_sem,HA,simprocAttr,Zv];rfl,?_⟩;exact h
theorem Jjq (C:Codes tab){aw:AW}(h:K (.int .i64 (-1)) aw):WF tab Ym [.nilptr] aw K:=by
 refine HL C.Z8 rfl ?_;have hp:eqV .ptr .nilptr .nilptr=some true:=rfl;refine Fz (by simp only[go_sem,HA,simprocAttr,Zv,VK,Hh,hp];rfl) ?_;refine HC ⟨_,by simp only[go_sem,HA,simprocAttr,Zv];rfl,?_⟩;exact h
section
open Go.AE Delphi Val
variable {tab:Tab}
def idT (ts:List Tk) (c:Tk):Nat×List Tk:=if HY c=true then (if c∈ts then (Ja5 ts c,ts)else (ts.length+1,ts++[c]))else (0,ts)
theorem Je4 (ts:List Tk)(c:Tk):(idT ts c).2.length≤ts.length+1:=by
 unfold idT;split
 ·split
  ·simp only;omega
  ·simp
 ·simp only;omega
def Pb (M:List (List Nat×Int)) (nm:List Nat):Int:=(HE M nm).getD 0
def Jck (M:List (List Nat×Int)) (s:List Int×List Tk) (x:Tm):List Int×List Tk:=if x.kind=1 then (s.1++[Pb M x.name],s.2)else (s.1++[Int.ofNat (idT s.2 (H2 x)).1],(idT s.2 (H2 x)).2)
def HZ (M:List (List Nat×Int)) (ts:List Tk) (l:List Tm):List Int×List Tk:=l.foldl (Jck M) ([],ts)
theorem Jg9 (M:List (List Nat×Int))(ts:List Tk)(l:List Tm)(x:Tm):HZ M ts (l++[x])=Jck M (HZ M ts l) x:=by unfold HZ;rw[List.foldl_append];rfl
theorem JiD (M:List (List Nat×Int)):∀(l:List Tm) (s:List Int×List Tk),(l.foldl (Jck M) s).1.length=s.1.length+l.length∧(l.foldl (Jck M) s).2.length≤s.2.length+l.length
 | [],s=>⟨rfl,FH _⟩
 | x::l,s=>by
  obtain⟨h1,h2⟩:=JiD M l (Jck M s x);have:=Je4 s.2 (H2 x)
  have e:(Jck M s x).1.length=s.1.length+1∧(Jck M s x).2.length≤s.2.length+1:=by
   unfold Jck;split
   ·simp
   ·exact⟨by simp,this⟩
  rw[Kr,h1,FC];constructor
  ·omega
  ·omega
theorem Jcg (M:List (List Nat×Int))(ts:List Tk)(l:List Tm):(HZ M ts l).1.length=l.length∧(HZ M ts l).2.length≤ts.length+l.length:=by
 have:=JiD M l ([],ts);simpa[HZ]using this
variable {ts:List Tk}
theorem Jdy (C:Codes tab){tb mb:Nat}{v:V}{S:Fw}{c:Tk}{aw:AW}(hT:TabW tb mb v S ts aw)(hlen:ts.length≤100000)(hc:TkOk c)(h:∀w v' S',TabW tb mb v' S' (idT ts c).2 w→Frm (fun x=>S x∨x=tb∨x=mb) aw w→(∀x,S' x→S x∨aw.next≤x)→K (.int .i64 (Int.ofNat (idT ts c).1)) w):WF tab JJ [.ptr tb 0,.agg (tkC c)] aw K:=by
 refine Val.id_ok C hT hlen hc ?_ ?_ ?_
 ·intro hm w g;have e:idT ts c=(0,ts):=if_neg (by rw[hm];simp);rw[e]at h;exact h w v S (hT.step0 g) (g.mono fun _ _ h=>h.elim) fun x hx=> .inl hx
 ·intro hm hmem w g;have e:idT ts c=(Ja5 ts c,ts):=by unfold idT;rw[if_pos hm,if_pos hmem]
  rw[e]at h;exact h w v S (hT.step0 g) (g.mono fun _ _ h=>h.elim) fun x hx=> .inl hx
 ·intro hm hmem w v' S' q1 q2 q3;have e:idT ts c=(ts.length+1,ts++[c]):=by unfold idT;rw[if_pos hm,if_neg hmem]
  rw[e]at h;exact h w v' S' q1 q2 q3
theorem Jj0 {α:Type}(a:List α)(x y:α)(b:List α):(a++x::b).set a.length y=a++y::b:=by
 rw[List.set_append_right _ _ (FH _),Nat.sub_self];rfl
theorem JiF (C:Codes tab){tb mb jb vb:Nat}{tv:V}{S O:Fw}{M:List (List Nat×Int)}{l:Lt}{xs cells:List V}{aw:AW}(hT:TabW tb mb tv S ts aw)(hO:∀x,O x→x<aw.next∧¬S x∧x≠tb∧x≠mb)(hj:CB aw jb cells)(hjO:O jb)(h4:HN 1 (cells.drop 4)=some [.ptr tb 0])(h12:HN 1 (cells.drop 12)=some [.map vb])(hM:SM aw vb M)(hvO:O vb)(hx:LtC O aw l xs)(hal:l.args.length≤10)(hok:∀t∈l.args,t.kind≠1→TkOk (H2 t))(hts:ts.length+l.args.length≤90000)(h:∀w v tv' S' R,Rel.RowV R w v (HZ M ts l.args).1→TabW tb mb tv' S' (HZ M ts l.args).2 w→Frm (fun x=>S x∨x=tb∨x=mb) aw w→(∀x,S' x→S x∨aw.next≤x)→(∀x,R x→aw.next≤x∧x<w.next∧¬S' x)→K v w):WF tab Yg [.ptr jb 0,.agg xs] aw K:=by
 refine HL C.Xz rfl ?_;obtain⟨xl,xo⟩:=hx.one;obtain⟨xv,rfl,hx⟩:=hx;obtain⟨w1,e1,c1,r1,m1⟩:=PU aw [.int .i64 (Int.ofNat l.kind),.str l.name,xv];have a2:=CB.ld c1 2 1 _ rfl;have hxv:=hx.lenV
 have e2:(List.replicate l.args.length [V.int .i64 0]).flatten=List.replicate l.args.length (V.int .i64 0):=by
  induction l.args.length with
  | zero=>rfl
  | succ n ih=>rw[List.replicate_succ,List.flatten_cons,ih,List.replicate_succ];rfl
 obtain⟨w2,e3,c2,r2,m2⟩:=PU w1 (List.replicate l.args.length (V.int .i64 0));have hc1:l.args.length≤70368744177664:=Fh;have hc2:l.args.length*8≤70368744177664:=Fh;have a2':=CB.ld (c1.frm r2 fun h=>h) 2 1 _ rfl;refine Fz (by simp only[go_sem,HA,simprocAttr,Xy,G4,e1,a2,a2',hxv,e2,e3,hc1,hc2,FH];rfl) ?_;have f02:=r1.tr r2;have n1:=r1.next
 refine H7 (fun n f w=>∃i tv' S',f.get 0=some (.ptr jb 0)∧f.get 5=some (.slice w1.next 0 l.args.length (.known l.args.length))∧f.get 13=some xv∧f.get 14=some (.int .i64 (Int.ofNat l.args.length))∧f.get 15=some (.int .i64 (Int.ofNat i))∧TabW tb mb tv' S' (HZ M ts (l.args.take i)).2 w∧Frm (fun x=>S x∨x=tb∨x=mb) aw w∧(∀x,S' x→S x∨aw.next≤x)∧CB w w1.next (Rel.rowC (HZ M ts (l.args.take i)).1++List.replicate (l.args.length-i) (V.int .i64 0))∧¬S' w1.next∧i≤l.args.length∧n=l.args.length-i)
  (fun f w=>∃tv' S',f.get 5=some (.slice w1.next 0 l.args.length (.known l.args.length))∧TabW tb mb tv' S' (HZ M ts l.args).2 w∧Frm (fun x=>S x∨x=tb∨x=mb) aw w∧(∀x,S' x→S x∨aw.next≤x)∧CB w w1.next (Rel.rowC (HZ M ts l.args).1)∧¬S' w1.next) ?_ ?_ l.args.length
  ⟨0,tv,S,Fb,Fb,Fb,Fb,Fb,hT.step0 f02,f02.mono fun _ _ h=>h.elim,fun x hx=> .inl hx,c2,fun hs=>by have:=(hT.s _ hs).1;omega,Nat.zero_le _,rfl⟩
 ·rintro n f w ⟨i,tv',S',f0,f5,f13,f14,f15,hTw,g,hS',hc,hnS,hi,rfl⟩ ih out;by_cases hil:i<l.args.length
  case neg =>
   obtain rfl:i=l.args.length:=Fh;rw[List.take_length]at hTw hc;rw[Nat.sub_self,List.replicate_zero,Kb]at hc;refine HF 1000 (by simp only[go_sem,simprocAttr,Xx,f14,f15,hil];rfl) ?_;exact out _ _ _ ⟨tv',S',(Fg f5),hTw,g,hS',hc,hnS⟩ rfl
  obtain⟨t,ht⟩:∃t,l.args[i]? = some t:=⟨_,FB hil⟩;have hwr:IntKind.wrap .i64 (Int.ofNat i+1)=Int.ofNat (i+1):=HJ Fh;have htk:=PK ht
  have hOw:∀x,O x→¬(S x∨x=tb∨x=mb):=fun x hx h=>by
   obtain⟨_,h1,h2,h3⟩:=hO x hx;rcases h with h|h|h
   ·exact h1 h
   ·exact h2 h
   ·exact h3 h
  obtain⟨b,o,c,rfl,_,_,la,_⟩:=JdG (hx.frm g hOw) ht;have hjw:=hj.frm g (hOw jb hjO);have hMw:SM w vb M:=hM.frm g (hOw vb hvO);obtain⟨w3,s3,c3,r3,n3⟩:=PE w (zs:=[V.int .i64 0,V.str [],V.int .i64 0]) (vs:=tmC t) rfl rfl;have k0:w3.load w.next 0 1=some [.int .i64 (Int.ofNat t.kind)]:=CB.ld c3 0 1 _ rfl;have k1:w3.load w.next 1 1=some [.str t.name]:=CB.ld c3 1 1 _ rfl;have k3:w3.load w.next 0 3=some (tmC t):=c3.all rfl;have j12:w3.load jb 12 1=some [.map vb]:=CB.ld (hjw.frm r3 fun h=>h) 12 1 _ h12;have look:=(hMw.frm r3 fun h=>h).look Px (.int .i64 0) t.name
  have hlk:w3.lookV (.scalar .str) (.int .i64 0) (.map vb) (.str t.name)=some (.int .i64 (Pb M t.name),(HE M t.name).isSome):=by
   rw[look];unfold Pb;cases HE M t.name<;>rfl
  have hc3:=hc.frm r3 fun h=>h;have hlen:=(Jcg M ts (l.args.take i)).1;rw[FT,KA hi]at hlen;have hrl:(Rel.rowC (HZ M ts (l.args.take i)).1).length=i:=by unfold Rel.rowC;rw[F7,hlen]
  obtain⟨m,hm⟩:∃m,l.args.length-i=m+1:=⟨l.args.length-i-1,by omega⟩;have hm':l.args.length-(i+1)=m:=Fh;rw[hm,List.replicate_succ]at hc3;have st:=hc3.set (i:=i) (v:=.int .i64 (Pb M t.name)) (by rw[FE,hrl,FC];omega) rfl
  have sm:(Rel.rowC (HZ M ts (l.args.take i)).1++V.int .i64 0::List.replicate m (V.int .i64 0)).set i (.int .i64 (Pb M t.name))=Rel.rowC (HZ M ts (l.args.take i)).1++V.int .i64 (Pb M t.name)::List.replicate m (V.int .i64 0):=by
   have:=Jj0 (Rel.rowC (HZ M ts (l.args.take i)).1) (V.int .i64 0) (.int .i64 (Pb M t.name)) (List.replicate m (V.int .i64 0))
   rwa [hrl]at this
  rw[sm]at st;have c4:=H3 (l:=Rel.rowC (HZ M ts (l.args.take i)).1++V.int .i64 (Pb M t.name)::List.replicate m (V.int .i64 0)) hc3.lt;have fr4:Frm (fun x=>x=w1.next) w3 (w3.put w1.next (Rel.rowC (HZ M ts (l.args.take i)).1++V.int .i64 (Pb M t.name)::List.replicate m (V.int .i64 0))):=HO;obtain⟨w4,e4⟩:∃w4,w4=w3.put w1.next (Rel.rowC (HZ M ts (l.args.take i)).1++V.int .i64 (Pb M t.name)::List.replicate m (V.int .i64 0)):=⟨_,rfl⟩;rw[←e4]at st c4 fr4;have g0:=g.next;have n2:=r2.next;have hjn:jb≠w1.next:=by have:=(hO jb hjO).1;omega
  have htbn:tb≠w1.next:=by have:=hT.a.lt;omega
  have hmbn:mb≠w1.next:=by have:=hT.m.lt;omega
  have hT4:TabW tb mb tv' S' (HZ M ts (l.args.take i)).2 w4:=(hTw.step0 r3).step fr4 htbn hmbn fun x hx h=>by subst h;exact hnS hx
  have g4:Frm (fun x=>S x∨x=tb∨x=mb) aw w4:=(g.trans r3 (fun _ _ h=>h) fun _ _ h=>h.elim).trans fr4 (fun _ _ h=>h) fun x hx h=>by omega
  have k0':w4.load w.next 0 1=some [.int .i64 (Int.ofNat t.kind)]:=CB.ld (c3.frm fr4 (by have:=hc.lt;omega)) 0 1 _ rfl;have k3':w4.load w.next 0 3=some (tmC t):=(c3.frm fr4 (by have:=hc.lt;omega)).all rfl;by_cases hk:t.kind=1
  ·have e:HZ M ts (l.args.take (i+1))=((HZ M ts (l.args.take i)).1++[Pb M t.name],(HZ M ts (l.args.take i)).2):=by
    rw[htk,Jg9];exact if_pos hk
   rw[hk]at k0';have htl:(tmC t).length=3:=rfl;refine Fz (by simp only[go_sem,HA,simprocAttr,Xx,VE,VD,f0,f5,f13,f14,f15,hil,la,htl,s3,k1,j12,hlk,FU,Kz,FC,FD,st,k0',hwr];rfl) ?_;refine ih _ _ _ Fh ⟨i+1,tv',S',(Fg f0),(Fg f5),(Fg f13),(Fg f14),Fb,by rw[e];exact hT4,g4,hS',?_,hnS,by omega,rfl⟩;rw[e,hm'];have e5:Rel.rowC ((HZ M ts (l.args.take i)).1++[Pb M t.name])++List.replicate m (V.int .i64 0)=Rel.rowC (HZ M ts (l.args.take i)).1++V.int .i64 (Pb M t.name)::List.replicate m (V.int .i64 0):=by unfold Rel.rowC;rw[List.map_append,F5];rfl
   rw[e5];exact c4
  ·have e:HZ M ts (l.args.take (i+1))=((HZ M ts (l.args.take i)).1++[Int.ofNat (idT (HZ M ts (l.args.take i)).2 (H2 t)).1],(idT (HZ M ts (l.args.take i)).2 (H2 t)).2):=by
    rw[htk,Jg9];exact if_neg hk
   have htl:(tmC t).length=3:=rfl;have j4:w4.load jb 4 1=some [.ptr tb 0]:=CB.ld ((hjw.frm r3 fun h=>h).frm fr4 hjn) 4 1 _ h4;have htsl:=(Jcg M ts (l.args.take i)).2;rw[FT,KA hi]at htsl;refine Fz (by simp only[go_sem,HA,simprocAttr,Xx,VE,VD,G3,f0,f5,f13,f14,f15,hil,la,htl,s3,k1,j12,hlk,FU,Kz,FC,FD,st,k0',hk,j4,k3'];rfl) ?_;refine HD Ff Fe ?_;rw[Jmx];refine Jdy C hT4 Fh (hok t (FI ht) hk) fun w5 tv5 S5 q1 q2 q3=>?_
   have hw1n:¬(S' w1.next∨w1.next=tb∨w1.next=mb):=by
    rintro (h|h|h)
    ·exact hnS h
    ·exact htbn h.symm
    ·exact hmbn h.symm
   have c5:=c4.frm q2 hw1n;have n45:=q2.next;have st5:=c5.set (i:=i) (v:=.int .i64 (Int.ofNat (idT (HZ M ts (l.args.take i)).2 (H2 t)).1)) (by rw[FE,hrl,FC];omega) rfl
   have sm5:(Rel.rowC (HZ M ts (l.args.take i)).1++V.int .i64 (Pb M t.name)::List.replicate m (V.int .i64 0)).set i (.int .i64 (Int.ofNat (idT (HZ M ts (l.args.take i)).2 (H2 t)).1))=Rel.rowC (HZ M ts (l.args.take i)).1++V.int .i64 (Int.ofNat (idT (HZ M ts (l.args.take i)).2 (H2 t)).1)::List.replicate m (V.int .i64 0):=by
    have:=Jj0 (Rel.rowC (HZ M ts (l.args.take i)).1) (V.int .i64 (Pb M t.name)) (.int .i64 (Int.ofNat (idT (HZ M ts (l.args.take i)).2 (H2 t)).1)) (List.replicate m (V.int .i64 0))
    rwa [hrl]at this
   rw[sm5]at st5;have c6:=H3 (l:=Rel.rowC (HZ M ts (l.args.take i)).1++V.int .i64 (Int.ofNat (idT (HZ M ts (l.args.take i)).2 (H2 t)).1)::List.replicate m (V.int .i64 0)) c5.lt;have fr6:Frm (fun x=>x=w1.next) w5 (w5.put w1.next (Rel.rowC (HZ M ts (l.args.take i)).1++V.int .i64 (Int.ofNat (idT (HZ M ts (l.args.take i)).2 (H2 t)).1)::List.replicate m (V.int .i64 0))):=HO
   have hnS5:¬S5 w1.next:=fun h=>by
    rcases q3 _ h with h|h
    ·exact hnS h
    ·have:=c4.lt;omega
   refine Fz (by simp only[go_sem,HA,simprocAttr,f5,f15,hil,FU,Kz,FC,FD,st5,hwr];rfl) ?_;refine ih _ _ _ Fh ⟨i+1,tv5,S5,(Fg f0),(Fg f5),(Fg f13),(Fg f14),Fb,by rw[e];exact q1.step fr6 htbn hmbn fun x hx h=>by subst h;exact hnS5 hx,?_,?_,?_,hnS5,by omega,rfl⟩
   ·refine (g4.trans q2 (fun _ _ h=>h) fun x hx h=>?_).trans fr6 (fun _ _ h=>h) fun x hx h=>by omega
    rcases h with h|h|h
    ·exact (hS' x h).imp id fun h=>by omega
    ·exact .inr (.inl h)
    ·exact .inr (.inr h)
   ·intro x hx;rcases q3 x hx with h|h
    ·exact hS' x h
    ·exact .inr (by have:=g4.next;omega)
   ·rw[e,hm'];have e5:Rel.rowC ((HZ M ts (l.args.take i)).1++[Int.ofNat (idT (HZ M ts (l.args.take i)).2 (H2 t)).1])++List.replicate m (V.int .i64 0)=Rel.rowC (HZ M ts (l.args.take i)).1++V.int .i64 (Int.ofNat (idT (HZ M ts (l.args.take i)).2 (H2 t)).1)::List.replicate m (V.int .i64 0):=by unfold Rel.rowC;rw[List.map_append,F5];rfl
    rw[e5];exact c6
 ·rintro f w ⟨tv',S',f5,hTw,g,hS',hc,hnS⟩;refine Fz (by simp only[go_sem,HA,simprocAttr,f5];rfl) ?_;refine HC ⟨_,by simp only[go_sem,HA,simprocAttr,Xy];rfl,?_⟩;refine h w _ tv' S' (fun x=>x=w1.next) (.blk rfl hc.lt hc.get (.inl rfl) (Jcg M ts l.args).1) hTw g hS' ?_;rintro x rfl;exact⟨by omega,hc.lt,hnS⟩
end
section
open Go.AE Delphi Val
variable {tab:Tab}
variable {l:List Int}
theorem JiE {T:Fw}{w:AW}{v:V}(h:Rel.RowV T w v l){i:Nat}{n:Int}(hi:l[i]? = some n):∃b c,v = .slice b 0 l.length c∧w.load b (0+i*1) 1=some [.int .i64 n]:=by
 rcases h.inv with⟨_,rfl⟩|⟨b,c,rfl,_,hb,hx⟩
 ·simp at hi
 ·exact⟨b,c,rfl,Rel.row_load hx hi⟩
theorem JnM {T:Fw}{w:AW}{v:V}(h:Rel.RowV T w v l):lenV v=some l.length:=by
 rcases h.inv with⟨rfl,rfl⟩|⟨b,c,rfl,_⟩<;>rfl
abbrev Vm:=List (List Nat×Int)
def Pd:List Tm→List Int→Vm→Fx→(Vm×List (List Nat))×Bool
 | t::ts,n::ns,M,l2=>if t.kind≠1 then Pd ts ns M l2 else match HE M t.name with
  | some k=>if k=n then Pd ts ns M l2 else ((M,l2),false)
  | none=>Pd ts ns (Pj M t.name n) (l2++[t.name])
 | _,_,M,l2=>((M,l2),true)
theorem Jms (l:Fx)(s:List Nat):H5 (l++[s])=H5 l++[.str s]:=by simp[H5]
theorem Joh (C:Codes tab){jb vb:Nat}{O R:Fw}{M:Vm}{l:Lt}{row:List Int}{xs cells:List V}{rv:V}{aw:AW}(hj:CB aw jb cells)(hjv:jb≠vb)(h12:HN 1 (cells.drop 12)=some [.map vb])(hM:SM aw vb M)(hx:LtC O aw l xs)(hO:∀x,O x→x≠vb)(hr:Rel.RowV R aw rv row)(hR:∀x,R x→x≠vb)(hal:l.args.length≤10)(hrl:row.length=l.args.length)(h:∀w v S M' l2 ok,Pd l.args row M []=((M',l2),ok)→SM w vb M'→Bt S w v 1 l2.length (H5 l2)→Frm (fun x=>x=vb) aw w→(∀x,S x→aw.next≤x∧x<w.next)→K (.tuple [v,.bool ok]) w):WF tab Ug [.ptr jb 0,.agg xs,rv] aw K:=by
 refine HL C.XE rfl ?_;obtain⟨xl,xo⟩:=hx.one;obtain⟨xv,rfl,hx⟩:=hx;obtain⟨w1,e1,c1,r1,m1⟩:=PU aw [.int .i64 (Int.ofNat l.kind),.str l.name,xv];have a2:=CB.ld c1 2 1 _ rfl;have hxv:=hx.lenV;have hrv:=JnM hr;have hvl:=hM.lt;refine Fz (by simp only[go_sem,HA,simprocAttr,Z4,Hb,e1,a2,hxv];rfl) ?_
 refine H7 (fun n f w=>∃i v S M' l2,f.get 0=some (.ptr jb 0)∧f.get 2=some rv∧f.get 8=some v∧f.get 14=some xv∧f.get 15=some (.int .i64 (Int.ofNat l.args.length))∧f.get 16=some (.int .i64 (Int.ofNat i))∧SM w vb M'∧Bt S w v 1 l2.length (H5 l2)∧Frm (fun x=>x=vb) aw w∧(∀x,S x→aw.next≤x∧x<w.next)∧Pd l.args row M []=Pd (l.args.drop i) (row.drop i) M' l2∧l2.length≤i∧i≤l.args.length∧n=l.args.length-i)
  (fun f w=>∃v S M' l2,f.get 8=some v∧SM w vb M'∧Bt S w v 1 l2.length (H5 l2)∧Frm (fun x=>x=vb) aw w∧(∀x,S x→aw.next≤x∧x<w.next)∧Pd l.args row M []=((M',l2),true)) ?_ ?_ l.args.length
  ⟨0,.nilslice,fun _=>False,M,[],Fb,Fb,Fb,Fb,Fb,Fb,hM.frm r1 fun h=>h,.nil,r1.mono fun _ _ h=>h.elim,fun _ h=>h.elim,rfl,Nat.zero_le _,Nat.zero_le _,rfl⟩
 ·rintro n f w ⟨i,v,S,M',l2,f0,f2,f8,f14,f15,f16,hMw,hB,g,hS,hL,hl2,hi,rfl⟩ ih out;by_cases hil:i<l.args.length
  case neg =>
   obtain rfl:i=l.args.length:=Fh;rw[List.drop_length]at hL;have hL:Pd l.args row M []=((M',l2),true):=by rw[hL];cases row.drop l.args.length<;>rfl
   refine HF 1000 (by simp only[go_sem,simprocAttr,Zt,f15,f16,hil];rfl) ?_;exact out _ _ _ ⟨v,S,M',l2,(Fg f8),hMw,hB,g,hS,hL⟩ rfl
  have hir:i<row.length:=Fh;obtain⟨t,ht⟩:∃t,l.args[i]? = some t:=⟨_,FB hil⟩;obtain⟨u,hu⟩:∃t,row[i]? = some t:=⟨_,FB hir⟩;have hda:l.args.drop i=t::l.args.drop (i+1):=by rw[FL hil];rw[FB hil]at ht;cases ht;rfl
  have hdb:row.drop i=u::row.drop (i+1):=by rw[FL hir];rw[FB hir]at hu;cases hu;rfl
  rw[hda,hdb]at hL;have hwr:IntKind.wrap .i64 (Int.ofNat i+1)=Int.ofNat (i+1):=HJ Fh;have hxw:=hx.frm g hO;have hrw:=hr.frm g hR;obtain⟨b,o,c,rfl,_,_,la,_⟩:=JdG hxw ht;obtain⟨w3,s3,c3,r3,n3⟩:=PE w (zs:=[V.int .i64 0,V.str [],V.int .i64 0]) (vs:=tmC t) rfl rfl;have k0:w3.load w.next 0 1=some [.int .i64 (Int.ofNat t.kind)]:=CB.ld c3 0 1 _ rfl;have k1:w3.load w.next 1 1=some [.str t.name]:=CB.ld c3 1 1 _ rfl;have htl:(tmC t).length=3:=rfl;have g3:Frm (fun x=>x=vb) aw w3:=g.trans r3 (fun _ _ h=>h) fun _ _ h=>h.elim;have hM3:SM w3 vb M':=hMw.frm r3 fun h=>h;have hB3:=hB.frm r3 fun _ _ h=>h;have g0:=g.next;have n3':=r3.next;have hS3:∀x,S x→aw.next≤x∧x<w3.next:=fun x hx=>⟨(hS x hx).1,by have:=(hS x hx).2;omega⟩;by_cases hk:t.kind=1
  case neg =>
   have hL:Pd l.args row M []=Pd (l.args.drop (i+1)) (row.drop (i+1)) M' l2:=by rw[hL];exact if_pos hk
   refine Fz (by simp only[go_sem,HA,simprocAttr,Zt,Z3,f14,f15,f16,hil,la,htl,s3,k0,hk,hwr];rfl) ?_;exact ih _ _ _ Fh ⟨i+1,v,S,M',l2,(Fg f0),(Fg f2),(Fg f8),(Fg f14),(Fg f15),Fb,hM3,hB3,g3,hS3,hL,by omega,by omega,rfl⟩
  rw[hk]at k0
  have hL:Pd l.args row M []=(match HE M' t.name with
   | some k=>if k=u then Pd (l.args.drop (i+1)) (row.drop (i+1)) M' l2 else ((M',l2),false)
   | none=>Pd (l.args.drop (i+1)) (row.drop (i+1)) (Pj M' t.name u) (l2++[t.name])):=by rw[hL];exact if_neg fun h=>h hk
  have j12:w3.load jb 12 1=some [.map vb]:=CB.ld ((hj.frm g hjv).frm r3 fun h=>h) 12 1 _ h12;have look:=hM3.look Px (.int .i64 0) t.name;obtain⟨rb,rc,rfl,lr⟩:=JiE (hrw.frm r3 fun _ _ h=>h) hu;cases hag:HE M' t.name with
  | some k =>
   rw[hag]at look hL;have look:w3.lookV (.scalar .str) (.int .i64 0) (.map vb) (.str t.name)=some (.int .i64 k,true):=look;by_cases hku:k=u
   ·have hku':(k != u)=false:=by simp[hku]
    have hL:Pd l.args row M []=Pd (l.args.drop (i+1)) (row.drop (i+1)) M' l2:=by rw[hL];exact if_pos hku
    refine Fz (by simp only[go_sem,HA,simprocAttr,Zt,Z3,XD,XC,f0,f2,f14,f15,f16,hil,hir,la,htl,s3,k0,k1,j12,look,lr,hku',hwr];rfl) ?_;exact ih _ _ _ Fh ⟨i+1,v,S,M',l2,(Fg f0),(Fg f2),(Fg f8),(Fg f14),(Fg f15),Fb,hM3,hB3,g3,hS3,hL,by omega,by omega,rfl⟩
   ·have hku':(k != u)=true:=by simp[hku]
    have hL:Pd l.args row M []=((M',l2),false):=by rw[hL];exact if_neg hku
    refine Fz (by simp only[go_sem,HA,simprocAttr,Zt,Z3,XD,XC,G8,f0,f2,f8,f14,f15,f16,hil,hir,la,htl,s3,k0,k1,j12,look,lr,hku'];rfl) ?_;refine HC ⟨_,by simp only[go_sem,HA,simprocAttr,Z4];rfl,?_⟩;exact h w3 v S M' l2 false hL hM3 hB3 g3 hS3
  | none =>
   rw[hag]at look hL;have look:w3.lookV (.scalar .str) (.int .i64 0) (.map vb) (.str t.name)=some (.int .i64 0,false):=look;have hL:Pd l.args row M []=Pd (l.args.drop (i+1)) (row.drop (i+1)) (Pj M' t.name u) (l2++[t.name]):=hL;obtain⟨w4,p1,p2,p3,p4⟩:=hM3.put Px t.name u;have hvb4:w.next≠vb:=Fh;have k1':w4.load w.next 1 1=some [.str t.name]:=CB.ld (c3.frm p3 hvb4) 1 1 _ rfl;have hB4:=hB3.frm p3 fun x hx h=>by have:=(hS x hx).1;omega
   obtain⟨v',w5,S5,u1,u2,u3,u4⟩:=hB4.push (news:=[V.str t.name]) (bytes:=16) (fun b hb=>by have:=(hS3 b hb).2;omega) Fh rfl rfl Fh Fh;have hel:(w4.fresh [V.str t.name]).elems 1 (.slice w4.next 0 1 (.known 1))=some (1,[V.str t.name]):=PG Fh rfl;have hov:over [V.str []] 0 [V.str t.name]=some [V.str t.name]:=rfl;refine Fz (by simp only[go_sem,HA,simprocAttr,Zt,Z3,XD,XC,Ha,G9,f0,f2,f8,f14,f15,f16,hil,hir,la,htl,s3,k0,k1,j12,look,lr,p1,k1',HI,HQ,hov,FC,FD,hel,u1,hwr];rfl) ?_;have n5:=u3.next;refine ih _ _ _ Fh ⟨i+1,v',S5,Pj M' t.name u,l2++[t.name],(Fg f0),(Fg f2),Fb,(Fg f14),(Fg f15),Fb,p2.frm u3 fun h=>by have:=(hS _ h).1;omega,by rw[Jms,FE];exact u2,(g3.trans p3 (fun _ _ h=>h) fun _ _ h=>h).trans u3 (fun _ _ h=>h) (fun x hx h=>by have:=(hS x h).1;omega),fun x hx=>?_,hL,by rw[FE];simp;omega,by omega,rfl⟩;refine⟨?_,(u4 x hx).1⟩;rcases (u4 x hx).2 with h|h
   ·exact (hS x h).1
   ·omega
 ·rintro f w ⟨v,S,M',l2,f8,hMw,hB,g,hS,hL⟩;refine Fz (by simp only[go_sem,HA,simprocAttr,f8];rfl) ?_;refine HC ⟨_,by simp only[go_sem,HA,simprocAttr,Z4];rfl,?_⟩;exact h w v S M' l2 true hL hMw hB g hS
end
section
open Go.AE Delphi Val
variable {tab:Tab}
end
end Go.Proofs.YtegdcbdicpfbpaaDoor
namespace Delphi
theorem JdF {p:Nat→Bool}(l:List Nat):l.take (l.takeWhile p).length=l.takeWhile p:=by
 have:=(List.takeWhile_prefix (p:=p) (l:=l));exact (List.prefix_iff_eq_take.1 this).symm
def Jo8 (w:Wd):Prop:=∃u,(HK u).2≠0∧w.kind=(HK u).1∧w.text=u.take (HK u).2∧¬((HK u).1≠4∧16<(HK u).2)
theorem Jgh:∀(n at':Nat) (s:List Nat),s.length≤n→∀w∈(scan at' s).1,Jo8 w
 | n,at',s,hn=>by
  rw[JdD];split
  ·intro w hw;simp at hw
  ·rename_i c t hd;split
   ·intro w hw;simp at hw
   ·rename_i hbad;have hb:=Jcq false s;have hlen:(c::t).length=s.length-blk false s:=by rw[←hd];simp
    have hm:(HK (c::t)).2≠0:=fun he=>hbad (.inl he);have hl2:((c::t).drop (HK (c::t)).2).length<s.length:=by simp only[Kh,FC]at *;omega
    intro w hw;rcases List.mem_cons.1 hw with rfl|hw
    ·exact⟨c::t,hm,rfl,rfl,fun h=>hbad (.inr h)⟩
    ·match n,hn with
     | 0,hn=>simp only[FC]at hlen;omega
     | n+1,hn=>exact Jgh n _ _ Fh w hw
section
def Gap (g:List Nat):Prop:=∀(r:List Nat),blk false (g++r)=g.length+blk false r
theorem Gap.scan {g:List Nat}(h:Gap g)(n:Nat)(r:List Nat):scan n (g++r)=scan (n+g.length) r:=by
 have:=Jha n (g++r) g.length (by rw[List.drop_left];exact h r);rw[List.drop_left]at this;exact this
def Je5 (s:List Nat):Prop:=∃c t,s=c::t∧JaI c=true∧(∀x∈s,H9 x=true)∧s.length≤16
def JpN (s:List Nat):Prop:=∃c t,s=c::t∧JbS c=true∧(∀x∈s,PP x=true)∧s.length≤16
def Jpo (s:List Nat):Prop:=s.length≤16∧((s=[48])∨∃m c t,s=m++c::t∧(m=[]∨m=[45])∧H1 c=true∧c≠48∧∀x∈t,H1 x=true)
end
section
end
section
variable (fm:Int→List Nat)
def At (ws:List Wd) (k:Nat) (l:List Wd):Prop:=l <+: ws.drop k
variable {ws l:List Wd}
theorem At.head {k:Nat}{w:Wd}(h:At ws k (w::l)):ws[k]? = some w∧At ws (k+1) l:=by
 obtain⟨r,hr⟩:=h
 have hlt:k<ws.length:=by
  have:=congrArg List.length hr;simp at this;omega
 rw[FL hlt]at hr;rw[List.cons_append]at hr;injection hr with h1 h2
 exact⟨by rw[FB hlt,h1],r,h2⟩
theorem At.le {k:Nat}(h:At ws k l)(hk:k≤ws.length):k+l.length≤ws.length:=by
 have:=h.length_le;rw[Kh]at this;omega
def TmW (t:Tm):Prop:=(t.kind=1∧t.num=0)∨(t.kind=2∧t.num=0)∨(t.kind=3∧t.name=[]∧t.num.natAbs≤2147483648)
structure LtW (l:Lt):Prop where
 kind:(l.kind=1∨l.kind=2)∨(3≤l.kind∧l.kind≤6∧l.args.length=2∧l.name=[])
 tm:∀t∈l.args,TmW t
variable {fm}
end
section
variable {fm:Int→List Nat}
def Jqd (l:Lt):Prop:=l.args.length≤4
structure RlW (r:Rl):Prop where
 hk:r.head.kind=1
 ht:∀t∈r.head.args,TmW t
 bd:∀l∈r.body,LtW l
structure RlL (r:Rl):Prop where
 hd:r.head.args.length≤4
 bd:r.body.length≤6
 ls:∀l∈r.body,Jqd l
theorem Jk4 {ws:List Wd}{q:Nat}{l:List Rl}{k e:Nat}(h:e≠0):PQ ws q l k e=(l,k,e):=by
 cases q with
 | zero=>rfl
 | succ q=>simp only[PQ];rw[if_neg (fun hh=>h hh.1)]
end
section
variable (fm:Int→List Nat)
variable {fm}
def TmX (fm:Int→List Nat) (t:Tm):Prop:=(t.kind=1→JpN t.name)∧(t.kind=2→Je5 t.name)∧(t.kind=3→Jpo (fm t.num))
structure LtX (fm:Int→List Nat) (l:Lt):Prop where
 w:LtW l
 nm:l.kind=1∨l.kind=2→Je5 l.name
 tm:∀t∈l.args,TmX fm t
structure RlX (fm:Int→List Nat) (r:Rl):Prop where
 w:RlW r
 nm:Je5 r.head.name
 tm:∀t∈r.head.args,TmX fm t
 bd:∀l∈r.body,LtX fm l
end
section
open Go.AE
variable [Globs]
theorem Jfx:∀(n m:Nat),m≤n→(∀x∈JbB m,H1 x=true)∧(JbB m).foldl JfP 0=m∧∃c t,JbB m=c::t∧(m≠0→c≠48)
 | n,m,h=>by
  by_cases hs:m<10
  ·rw[JdY hs];refine⟨fun x hx=>?_,?_,48+m,[],rfl,fun h=>by omega⟩
   ·simp only[FJ,FZ,or_false]at hx;subst hx;simp only[H1,FQ,decide_eq_true_eq];omega
   ·simp only[Kr,List.foldl_nil,JfP];rw[if_neg Fh];omega
  ·match n,h with
   | 0,h=>omega
   | n+1,h =>
    obtain⟨h1,h2,c,t,h3,h4⟩:=Jfx n (m / 10) Fh;rw[JgN hs];refine⟨fun x hx=>?_,?_,c,t++[48+m % 10],by rw[h3];rfl,fun _=>h4 Fh⟩
    ·rcases List.mem_append.1 hx with hx|hx
     ·exact h1 x hx
     ·simp only[FJ,FZ,or_false]at hx;subst hx;simp only[H1,FQ,decide_eq_true_eq];omega
    ·rw[List.foldl_append,h2];simp only[Kr,List.foldl_nil,JfP];rw[if_neg Fh];omega
theorem JdX:∀(k m:Nat),m<10 ^ k→0<k→(JbB m).length≤k
 | 0,m,h,h0=>by omega
 | k+1,m,h,h0=>by
  by_cases hs:m<10
  ·rw[JdY hs];simp
  ·rw[JgN hs,FE,Ka]
   have hk:0<k:=by
    by_cases hk:k=0
    ·subst hk;simp at h;omega
    ·omega
   have:=JdX k (m / 10) (by rw[Nat.pow_succ]at h;omega) hk;omega
theorem JjE {n:Int}(hn:n.natAbs≤2147483648):Jpo (JaV n):=by
 cases n with
 | ofNat m =>
  have hn:m≤2147483648:=hn;obtain⟨h1,h2,c,t,h3,h4⟩:=Jfx m m (FH _);have hl:=JdX 10 m Fh Fh;refine⟨by show (JbB m).length≤16;omega,?_⟩;show JbB m=[48]∨_;by_cases h0:m=0
  ·subst h0;left;exact JdY Fh
  ·right;exact⟨[],c,t,by rw[List.nil_append];exact h3,.inl rfl,h1 c (by rw[h3];simp),h4 h0,fun x hx=>h1 x (by rw[h3];simp[hx])⟩
 | negSucc m =>
  have hn:m+1≤2147483648:=hn;obtain⟨h1,h2,c,t,h3,h4⟩:=Jfx (m+1) (m+1) (FH _);have hl:=JdX 10 (m+1) Fh Fh;refine⟨by show (45::JbB (m+1)).length≤16;rw[FC];omega,.inr ⟨[45],c,t,?_,.inr rfl,h1 c (by rw[h3];simp),h4 Fh,fun x hx=>h1 x (by rw[h3];simp[hx])⟩⟩;show 45::JbB (m+1)=_;rw[h3];rfl
structure WdG (w:Wd):Prop where
 lo:1≤w.kind
 hi:w.kind≤4
 nm:w.kind=1→Je5 w.text
 vr:w.kind=2→JpN w.text
omit [Globs] in
theorem Jpv {w:Wd}(h:Jo8 w):WdG w:=by
 obtain⟨u,h1,h2,h3,h4⟩:=h;cases u with
 | nil=>exact absurd rfl h1
 | cons c t =>
  have h16:w.kind≠4→w.text.length≤16:=by
   intro hk;rw[h3,FT];have:¬16<(HK (c::t)).2:=fun h=>h4 ⟨by rw[←h2];exact hk,h⟩;omega
  by_cases hs:JaI c=true
  ·have e:HK (c::t)=(1,((c::t).takeWhile H9).length):=by simp only[HK,hs,if_true]
   rw[e]at h2 h3;simp only at h2 h3;rw[JdF]at h3;have hn:H9 c=true:=by simp[H9,hs]
   refine⟨by omega,by omega,fun _=>⟨c,t.takeWhile H9,by rw[h3,List.takeWhile_cons_of_pos hn],hs,fun x hx=>?_,h16 Fh⟩,(fun h=>by omega)⟩;rw[h3]at hx;exact (List.all_eq_true.1 (List.all_takeWhile (p:=H9) (l:=c::t))) x hx
  ·by_cases hg:JbS c=true
   ·have e:HK (c::t)=(2,((c::t).takeWhile PP).length):=by simp only[HK,hs,hg,if_true,FM,if_false]
    rw[e]at h2 h3;simp only at h2 h3;rw[JdF]at h3;have hn:PP c=true:=by simp[PP,hg]
    refine⟨by omega,by omega,fun h=>by omega,fun _=>⟨c,t.takeWhile PP,by rw[h3,List.takeWhile_cons_of_pos hn],hg,fun x hx=>?_,h16 Fh⟩⟩;rw[h3]at hx;exact (List.all_eq_true.1 (List.all_takeWhile (p:=PP) (l:=c::t))) x hx
   ·have hk:w.kind=3∨w.kind=4:=by
     rw[h2];revert h1;simp only[HK,hs,hg,FM,if_false];split
     ·intro _;exact .inl rfl
     ·split
      ·intro _;exact .inr rfl
      ·intro h;exact absurd rfl h
    rcases hk with hk|hk
    ·exact⟨by omega,by omega,fun h=>by omega,fun h=>by omega⟩
    ·exact⟨by omega,by omega,fun h=>by omega,fun h=>by omega⟩
def TG (t:Tm):Prop:=TmW t∧TmX JaV t
variable {ws:List Wd} {k e:Nat}
theorem JgB (hw:∀w∈ws,WdG w)(h:(HP ws k e).2.2=0):TG (HP ws k e).1:=by
 unfold HP at h ⊢;cases hn:JaP ws k e with
 | none =>
  rw[hn]at h;simp only[Jai]at h;split at h
  ·omega
  ·contradiction
 | some w =>
  rw[hn]at h;simp only at h ⊢;obtain⟨_,_,hm⟩:=JfQ hn;have hg:=hw w (FI hm);by_cases h4:w.kind=4
  ·rw[if_pos h4]at h;simp at h
  ·rw[if_neg h4]at h ⊢;by_cases h1:w.kind=1
   ·rw[if_pos h1];exact⟨.inr (.inl ⟨rfl,rfl⟩),(fun h=>by cases h),(fun _=>hg.nm h1),(fun h=>by cases h)⟩
   ·rw[if_neg h1]at h ⊢;by_cases h2:w.kind=2
    ·rw[if_pos h2];exact⟨.inl ⟨rfl,rfl⟩,(fun _=>hg.vr h2),(fun h=>by cases h),(fun h=>by cases h)⟩
    ·rw[if_neg h2]at h ⊢;by_cases hb:2147483648<Jdp w.text
     ·rw[if_pos hb]at h;simp at h
     ·rw[if_neg hb];have ha:(if w.text.head? = some 45 then -(Jdp w.text:Int)else (Jdp w.text:Int)).natAbs≤2147483648:=by split<;>omega
      exact⟨.inr (.inr ⟨rfl,rfl,ha⟩),(fun h=>by cases h),(fun h=>by cases h),(fun _=>JjE ha)⟩
omit [Globs] in
theorem Jg6 {n:Nat}{l:List Tm}(h:e≠0):Jaf ws n l k e=(l,k,e):=by
 cases n with
 | zero=>rfl
 | succ n=>simp only[Jaf,if_neg h]
theorem JjV {ws:List Wd}(hw:∀w∈ws,WdG w):∀(n:Nat) (args:List Tm) (k e:Nat),(∀t∈args,TG t)→args.length≤4→(Jaf ws n args k e).2.2=0→(∀t∈(Jaf ws n args k e).1,TG t)∧(Jaf ws n args k e).1.length≤4
 | 0,args,k,e,h,hl,_=>⟨h,hl⟩
 | n+1,args,k,e,h,hl,he=>by
  by_cases h0:e=0
  case neg=>rw[Jg6 h0]at he;exact absurd he h0
  subst h0;simp only[Jaf,if_true]at he ⊢
  have hz:(if (HP ws k 0).2.2=0∧args.length=4 then 8 else (HP ws k 0).2.2)=0:=by
   by_cases hc:PA ws (HP ws k 0).2.1 [44]=true
   ·rw[if_pos hc]at he;by_cases hz:(if (HP ws k 0).2.2=0∧args.length=4 then 8 else (HP ws k 0).2.2)=0
    ·exact hz
    ·rw[Jg6 hz]at he;exact he
   ·rw[if_neg hc]at he;exact he
  have hr:(HP ws k 0).2.2=0∧args.length≠4:=by
   by_cases hc:(HP ws k 0).2.2=0∧args.length=4
   ·rw[if_pos hc]at hz;omega
   ·rw[if_neg hc]at hz;exact⟨hz,fun h=>hc ⟨hz,h⟩⟩
  have ht:=JgB hw hr.1
  have hall:∀t∈args++[(HP ws k 0).1],TG t:=by
   intro t hm;rcases List.mem_append.1 hm with hm|hm
   ·exact h t hm
   ·simp only[FJ,FZ,or_false]at hm;subst hm;exact ht
  have hl':(args++[(HP ws k 0).1]).length≤4:=by simp;omega
  split
  ·rename_i hc;rw[if_pos hc]at he;exact JjV hw n _ _ _ hall hl' he
  ·exact⟨hall,hl'⟩
structure AtG (l:Lt):Prop where
 kind:l.kind=1
 nm:Je5 l.name
 tm:∀t∈l.args,TG t
 four:l.args.length≤4
theorem Jgz (hw:∀w∈ws,WdG w)(h:(HR ws k e).2.2=0):AtG (HR ws k e).1:=by
 unfold HR at h ⊢;cases hn:JaP ws k e with
 | none =>
  rw[hn]at h;simp only[Jai]at h;split at h
  ·omega
  ·contradiction
 | some w =>
  rw[hn]at h;simp only at h ⊢;obtain⟨_,_,hm⟩:=JfQ hn;have hg:=hw w (FI hm);by_cases h1:w.kind=1
  ·rw[if_pos h1]at h ⊢;by_cases hs:PA ws (k+1) [40]=true
   ·rw[if_pos hs]at h ⊢;simp only at h ⊢;have he:=Jix h;obtain⟨q1,q2⟩:=JjV hw (ws.length+1) [] (k+2) e Fj Fj he;exact⟨rfl,hg.nm h1,q1,q2⟩
   ·rw[if_neg hs]at h ⊢;exact⟨rfl,hg.nm h1,by simp,by simp⟩
  ·rw[if_neg h1]at h;simp at h
structure LG (l:Lt):Prop where
 x:LtX JaV l
 four:l.args.length≤4
omit [Globs] in
theorem AtG.lit {l:Lt}(h:AtG l):LG l:=⟨⟨⟨.inl (.inl h.kind),fun t ht=>(h.tm t ht).1⟩,fun _=>h.nm,fun t ht=>(h.tm t ht).2⟩,h.four⟩
omit [Globs] in
theorem Jhi {s:List Nat}(h:PN s≠0):3≤PN s∧PN s≤6:=by
 unfold PN at h ⊢;split
 ·omega
 ·split
  ·omega
  ·split
   ·omega
   ·split
    ·omega
    ·rename_i h1 h2 h3 h4;rw[if_neg h1,if_neg h2,if_neg h3,if_neg h4]at h;exact absurd rfl h
theorem JpG (hw:∀w∈ws,WdG w)(h:(PH ws k e).2.2=0):LG (PH ws k e).1:=by
 unfold PH at h ⊢;by_cases h33:PA ws k [33]=true
 ·rw[if_pos h33]at h ⊢;simp only at h ⊢;have:=Jgz hw h;exact⟨⟨⟨.inl (.inr rfl),fun t ht=>(this.tm t ht).1⟩,fun _=>this.nm,fun t ht=>(this.tm t ht).2⟩,this.four⟩
 ·rw[if_neg h33]at h ⊢;by_cases h1:Jdh ws k=1∧Pg ws (k+1)=0
  ·rw[if_pos h1]at h ⊢;exact (Jgz hw h).lit
  ·rw[if_neg h1]at h ⊢;simp only at h ⊢;by_cases hc:(HP ws k e).2.2≠0∨Pg ws (HP ws k e).2.1=0
   ·rw[if_pos hc]at h;simp only[Jai]at h;split at h
    ·omega
    ·contradiction
   ·rw[if_neg hc]at h ⊢;simp only at h ⊢
    have ha0:(HP ws k e).2.2=0:=by
     by_cases hz:(HP ws k e).2.2=0
     ·exact hz
     ·exact absurd (.inl hz) hc
    have hz:Pg ws (HP ws k e).2.1≠0:=fun hz=>hc (.inr hz);have ha:=JgB hw ha0;have hb:=JgB hw h
    have hk:3≤Pg ws (HP ws k e).2.1∧Pg ws (HP ws k e).2.1≤6:=by
     unfold Pg at hz ⊢;split at hz
     ·split at hz
      ·rename_i h4;rw[if_pos h4];exact Jhi hz
      ·exact absurd rfl hz
     ·exact absurd rfl hz
    have hT:∀t∈[(HP ws k e).1,(HP ws ((HP ws k e).2.1+1) (HP ws k e).2.2).1],TG t:=by
     intro t ht;simp only[FJ,FZ,or_false]at ht;rcases ht with rfl|rfl
     ·exact ha
     ·exact hb
    refine⟨⟨⟨.inr ⟨hk.1,hk.2,rfl,rfl⟩,fun t ht=>(hT t ht).1⟩,fun h=>?_,fun t ht=>(hT t ht).2⟩,by simp⟩;simp only at h;omega
omit [Globs] in
theorem Jg7 {n:Nat}{l:List Lt}(h:e≠0):Pz ws n l k e=(l,k,e):=by
 cases n with
 | zero=>rfl
 | succ n=>simp only[Pz,if_neg h]
theorem JjW {ws:List Wd}(hw:∀w∈ws,WdG w):∀(n:Nat) (l:List Lt) (k e:Nat),(∀t∈l,LG t)→l.length≤6→(Pz ws n l k e).2.2=0→(∀t∈(Pz ws n l k e).1,LG t)∧(Pz ws n l k e).1.length≤6
 | 0,l,k,e,h,hl,_=>⟨h,hl⟩
 | n+1,l,k,e,h,hl,he=>by
  by_cases h0:e=0
  case neg=>rw[Jg7 h0]at he;exact absurd he h0
  subst h0;simp only[Pz,if_true]at he ⊢
  have hz:(if (PH ws k 0).2.2=0∧l.length=6 then 8 else (PH ws k 0).2.2)=0:=by
   by_cases hc:PA ws (PH ws k 0).2.1 [44]=true
   ·rw[if_pos hc]at he;by_cases hz:(if (PH ws k 0).2.2=0∧l.length=6 then 8 else (PH ws k 0).2.2)=0
    ·exact hz
    ·rw[Jg7 hz]at he;exact he
   ·rw[if_neg hc]at he;exact he
  have hr:(PH ws k 0).2.2=0∧l.length≠6:=by
   by_cases hc:(PH ws k 0).2.2=0∧l.length=6
   ·rw[if_pos hc]at hz;omega
   ·rw[if_neg hc]at hz;exact⟨hz,fun h=>hc ⟨hz,h⟩⟩
  have ht:=JpG hw hr.1
  have hall:∀t∈l++[(PH ws k 0).1],LG t:=by
   intro t hm;rcases List.mem_append.1 hm with hm|hm
   ·exact h t hm
   ·simp only[FJ,FZ,or_false]at hm;subst hm;exact ht
  have hl':(l++[(PH ws k 0).1]).length≤6:=by simp;omega
  split
  ·rename_i hc;rw[if_pos hc]at he;exact JjW hw n _ _ _ hall hl' he
  ·exact⟨hall,hl'⟩
def RG (r:Rl):Prop:=RlX JaV r∧RlL r
theorem Jmd (hw:∀w∈ws,WdG w)(h:(Pc ws k e).2.2=0):RG (Pc ws k e).1:=by
 unfold Pc at h ⊢;simp only at h ⊢;have he:=Jix h
 have hb:(HR ws k e).2.2=0∧(∀t∈(if PA ws (HR ws k e).2.1 [58,45]=true∧(HR ws k e).2.2=0 then Pz ws (ws.length+1) [] ((HR ws k e).2.1+1) (HR ws k e).2.2 else ([],(HR ws k e).2.1,(HR ws k e).2.2)).1,LG t)∧(if PA ws (HR ws k e).2.1 [58,45]=true∧(HR ws k e).2.2=0 then Pz ws (ws.length+1) [] ((HR ws k e).2.1+1) (HR ws k e).2.2 else ([],(HR ws k e).2.1,(HR ws k e).2.2)).1.length≤6:=by
  split at he
  ·rename_i hc;rw[if_pos hc];obtain⟨q1,q2⟩:=JjW hw (ws.length+1) [] ((HR ws k e).2.1+1) (HR ws k e).2.2 Fj Fj he;exact⟨hc.2,q1,q2⟩
  ·rename_i hc;rw[if_neg hc];exact⟨he,by simp,by simp⟩
 obtain⟨h0,hb1,hb2⟩:=hb;have ha:=Jgz hw h0;generalize (if PA ws (HR ws k e).2.1 [58,45]=true∧(HR ws k e).2.2=0 then Pz ws (ws.length+1) [] ((HR ws k e).2.1+1) (HR ws k e).2.2 else ([],(HR ws k e).2.1,(HR ws k e).2.2))=b at hb1 hb2;exact⟨⟨⟨ha.kind,fun t ht=>(ha.tm t ht).1,fun l hl=>(hb1 l hl).x.w⟩,ha.nm,fun t ht=>(ha.tm t ht).2,fun l hl=>(hb1 l hl).x⟩,ha.four,hb2,fun l hl=>(hb1 l hl).four⟩
theorem JiA {ws:List Wd}(hw:∀w∈ws,WdG w):∀(n:Nat) (l:List Rl) (k e:Nat),(∀t∈l,RG t)→l.length≤30→(PQ ws n l k e).2.2=0→(∀t∈(PQ ws n l k e).1,RG t)∧(PQ ws n l k e).1.length≤30
 | 0,l,k,e,h,hl,_=>⟨h,hl⟩
 | n+1,l,k,e,h,hl,he=>by
  by_cases hc:e=0∧k<ws.length
  case neg=>simp only[PQ,if_neg hc];exact⟨h,hl⟩
  simp only[PQ,if_pos hc]at he ⊢
  have hz:(if (Pc ws k e).2.2=0∧l.length=30 then 8 else (Pc ws k e).2.2)=0:=by
   by_cases hz:(if (Pc ws k e).2.2=0∧l.length=30 then 8 else (Pc ws k e).2.2)=0
   ·exact hz
   ·rw[Jk4 hz]at he;exact he
  have hr:(Pc ws k e).2.2=0∧l.length≠30:=by
   by_cases hc:(Pc ws k e).2.2=0∧l.length=30
   ·rw[if_pos hc]at hz;omega
   ·rw[if_neg hc]at hz;exact⟨hz,fun h=>hc ⟨hz,h⟩⟩
  have ht:=Jmd hw hr.1;refine JiA hw n _ _ _ (fun t hm=>?_) (by simp;omega) he;rcases List.mem_append.1 hm with hm|hm
  ·exact h t hm
  ·simp only[FJ,FZ,or_false]at hm;subst hm;exact ht
theorem Jk3 (s:List Nat):(∀r∈(JaB s).1,RG r)∧(JaB s).1.length≤30:=by
 unfold JaB;split
 ·simp
 ·have hw:∀w∈(scan 0 s).1,WdG w:=fun w hw=>Jpv (Jgh _ 0 s (FH _) w hw);have hG:=JiA hw ((scan 0 s).1.length+1) [] 0 0 Fj Fj;simp only;generalize PQ (scan 0 s).1 ((scan 0 s).1.length+1) [] 0 0=r at hG ⊢;by_cases he:Jai r.2.2 (if (scan 0 s).2=true then 0 else 4)=0
  ·rw[if_pos he]
   have h0:r.2.2=0:=by
    unfold Jai at he;split at he
    ·assumption
    ·exact he
   exact hG h0
  ·rw[if_neg he];simp
end
end Delphi
namespace Go.Proofs.YtegdcbdicpfbpaaDoor
open Go.AE Delphi Val
variable {tab:Tab}
section
open Go.AE Delphi Val
variable {tab:Tab}
theorem Jpg (a b:List Nat)(h:a.length+b.length≤100000000000000000):∃c,c=a++b∧Ja8 BinOp.add a b=some (.str c):=by
 refine⟨_,rfl,?_⟩;simp only[Ja8];rw[if_pos Fh]
end
section
open Go.AE Delphi Val
variable {tab:Tab}
def JcH (most:Int) (n:Nat):Bool:=decide (0≤most)&&decide (most<Int.ofNat n)
variable {cells:List V} {K:V→AW→Prop}
theorem Joq (C:Codes tab){jb width:Nat}{S:Fw}{op:V}{rows:Fy}{most:Int}{aw:AW}(hj:CB aw jb cells)(h13:HN 1 (cells.drop 13)=some [op])(h14:HN 1 (cells.drop 14)=some [.int .i64 most])(hs:Rel.SetOf S aw op width rows)(h:K (.bool (JcH most rows.length)) aw):WF tab Uf [.ptr jb 0] aw K:=by
 refine HL C.Xw rfl ?_;have j13:aw.load jb 13 1=some [op]:=CB.ld hj 13 1 _ h13;have j14:aw.load jb 14 1=some [.int .i64 most]:=CB.ld hj 14 1 _ h14;by_cases h0:0≤most
 ·have e:JcH most rows.length=decide (most<Int.ofNat rows.length):=by unfold JcH;rw[decide_eq_true h0,Bool.true_and]
  rw[e]at h;have hge:decide (most≥0)=true:=decide_eq_true h0;refine Fz (by simp only[go_sem,HA,simprocAttr,Zs,VC];rfl) ?_;refine Pp ?_;refine H0 100 (by simp only[go_sem,HA,simprocAttr,j14,hge,h0,j13];rfl) ?_;refine PD Ff Fe ?_;refine Rel.len_ok C hs ?_;refine H0 100 (by simp only[go_sem,HA,simprocAttr,j14];rfl) ?_;refine Pr ⟨(show HW _ _ [(14,10)]from by simp only[go_sem,HA,simprocAttr,HW,chk,List.reverse_cons,List.reverse_nil,Pk,Pv,Pt,Pu,List.getElem?_nil,false_or,or_true,or_false,exists_eq',FP,Prod.mk.injEq,Bool.true_eq_false,FM,and_true,true_and,implies_true,j14]),?_⟩;refine HB 1000 Fe ?_;refine HC ⟨_,by simp only[go_sem,HA,simprocAttr,Zs];rfl,?_⟩;exact h
 ·have e:JcH most rows.length=false:=by unfold JcH;rw[decide_eq_false h0,Bool.false_and]
  rw[e]at h;have hge:decide (most≥0)=false:=decide_eq_false h0;refine Fz (by simp only[go_sem,HA,simprocAttr,Zs,VC];rfl) ?_;refine Pp ?_;refine H0 100 (by simp only[go_sem,HA,simprocAttr,j14,hge,h0];rfl) ?_;refine Pr ⟨(show HW _ _ [(14,10)]from by simp only[go_sem,HA,simprocAttr,HW,chk,List.reverse_cons,List.reverse_nil,Pk,Pv,Pt,Pu,List.getElem?_nil,false_or,or_true,or_false,exists_eq',FP,Prod.mk.injEq,Bool.true_eq_false,FM,and_true,true_and,implies_true,j14,true_or]),?_⟩;refine HB 1000 Fe ?_;refine HC ⟨_,by simp only[go_sem,HA,simprocAttr,Zs];rfl,?_⟩;exact h
def Jbf (M:Vm) (l:Fx):List Nat:=l.flatMap fun v=>32::JaV (Pb M v)
def Jcc (M:Vm) (k:Nat) (l:Fx):List Nat:=JaV (Int.ofNat k)++Jbf M l
theorem Jif (M:Vm)(l:Fx)(v:List Nat):Jbf M (l++[v])=Jbf M l++32::JaV (Pb M v):=by simp[Jbf]
def Jda (tab:Tab):Prop:=∀n aw,-9223372036854775808≤n→n≤9223372036854775807→CallR tab Yk [.int .i64 n] aw (.str (JaV n)) aw
theorem JhY {n:Int}(h:n.natAbs≤100000):(JaV n).length≤16:=(JjE (n:=n) Fh).1
theorem Jfe (M:Vm)(hM:∀v,(Pb M v).natAbs≤100000):∀l:Fx,(Jbf M l).length≤17*l.length
 | []=>by simp[Jbf]
 | v::l=>by
  have h1:=Jfe M hM l;have h2:=JhY (hM v);have e:Jbf M (v::l)=32::JaV (Pb M v)++Jbf M l:=rfl;rw[e,FE,FC,FC];omega
theorem Jpy (C:Codes tab)(I:Jda tab){jb vb k:Nat}{O O2 O3:Fw}{M:Vm}{ncs:List V}{need:Fx}{nv:V}{nn:Nat}{aw:AW}(hj:CB aw jb cells)(h10:HN 1 (cells.drop 10)=some [nv])(h12:HN 1 (cells.drop 12)=some [.map vb])(hM:SM aw vb M)(hMv:∀v,(Pb M v).natAbs≤100000)(hn:Rd O2 aw nv 1 nn ncs)(hk:k<nn)(hnv:∃sv,ncs[k]? = some sv∧Rd O3 aw sv 1 need.length (H5 need))(hnl:need.length≤100)(h:K (.str (Jcc M k need)) aw)(hkn:k≤1000):WF tab Ue [.ptr jb 0,.int .i64 (Int.ofNat k)] aw K:=by
 refine HL C.Xv rfl ?_;have j10:aw.load jb 10 1=some [nv]:=CB.ld hj 10 1 _ h10;have j12:aw.load jb 12 1=some [.map vb]:=CB.ld hj 12 1 _ h12;obtain⟨sv,hsv,hsr⟩:=hnv;have hslv:=hsr.lenV;refine Fz (by simp only[go_sem,HA,simprocAttr,Xu];rfl) ?_;refine HD Ff Fe ?_;refine⟨_,_,I (Int.ofNat k) aw (by show (-9223372036854775808:Int)≤(k:Int);omega) (by show (k:Int)≤_;omega),?_⟩;rcases hn.inv with⟨_,h0,_⟩|⟨nb,no,nc,rfl,hB⟩
 ·omega
 have ln:aw.load nb (no+k*1) 1=some [sv]:=by rw[Kz];exact hB.cell Fh hsv
 refine Fz (by simp only[go_sem,HA,simprocAttr,G2,j10,hk,ln,hslv];rfl) ?_
 refine H7 (fun n f w=>∃i s,s=JaV (Int.ofNat k)++Jbf M (need.take i)∧f.get 0=some (.ptr jb 0)∧f.get 5=some (.str s)∧f.get 16=some sv∧f.get 17=some (.int .i64 (Int.ofNat need.length))∧f.get 18=some (.int .i64 (Int.ofNat i))∧w=aw∧i≤need.length∧n=need.length-i)
  (fun f w=>f.get 5=some (.str (Jcc M k need))∧w=aw) ?_ ?_ need.length ⟨0,JaV (Int.ofNat k),by simp[Jbf],Fb,Fb,Fb,Fb,Fb,rfl,Nat.zero_le _,rfl⟩
 ·rintro n f w ⟨i,s,hs,f0,f5,f16,f17,f18,rfl,hi,rfl⟩ ih out;by_cases hil:i<need.length
  case neg =>
   obtain rfl:i=need.length:=Fh;rw[List.take_length]at hs;refine HF 1000 (by simp only[go_sem,simprocAttr,VB,f17,f18,hil];rfl) ?_;exact out _ _ _ ⟨by rw[show Jcc M k need=s from hs.symm];exact (Fg f5),rfl⟩ rfl
  obtain⟨t,ht⟩:∃t,need[i]? = some t:=⟨_,FB hil⟩;have hwr:IntKind.wrap .i64 (Int.ofNat i+1)=Int.ofNat (i+1):=HJ Fh;have look:=hM.look Px (.int .i64 0) t
  have hlk:w.lookV (.scalar .str) (.int .i64 0) (.map vb) (.str t)=some (.int .i64 (Pb M t),(HE M t).isSome):=by
   rw[look];unfold Pb;cases HE M t<;>rfl
  rcases hsr.inv with⟨_,h0,_⟩|⟨sb,so,sc,rfl,hB2⟩
  ·omega
  have ls:w.load sb (so+i*1) 1=some [.str t]:=by rw[Kz];exact hB2.cell Fh (by unfold H5;rw[F6,ht];rfl)
  have hv:=hMv t;have hfl:=JhY hv;have hkl:=JhY (n:=Int.ofNat k) (by show (k:Int).natAbs≤_;omega);have htl:=Jfe M hMv (need.take i);rw[FT,KA hi]at htl;have hsl:s.length≤10000:=by rw[hs,FE];omega
  refine Fz (by simp only[go_sem,HA,simprocAttr,VB,G1,G0,f0,f5,f16,f17,f18,hil,ls,j12,hlk];rfl) ?_;refine HD Ff Fe ?_;refine⟨_,_,I (Pb M t) w Fh Fh,?_⟩;obtain⟨d1,hd1,e1⟩:=Jpg [32] (JaV (Pb M t)) (by simp only[FC,FD];omega);have hd1l:d1.length≤20:=by rw[hd1,FE];simp only[FC,FD];omega
  obtain⟨d2,hd2,e2⟩:=Jpg s d1 Fh;refine Fz (by simp only[go_sem,HA,simprocAttr,e1,e2,f18,hwr];rfl) ?_;refine ih _ _ _ Fh ⟨i+1,d2,?_,(Fg f0),Fb,(Fg f16),(Fg f17),Fb,rfl,by omega,rfl⟩;rw[PK ht,Jif,hd2,hd1,hs];simp only[F5];rfl
 ·rintro f w ⟨f5,rfl⟩;refine Fz (by simp only[go_sem,HA,simprocAttr,f5];rfl) ?_;refine HC ⟨_,by simp only[go_sem,HA,simprocAttr,Xu];rfl,?_⟩;exact h
end
section
open Go.AE Delphi Val
variable {tab:Tab}
def SetQ (S:Fw) (w:AW) (p:V) (q:Option (Nat×List (List Int))):Prop:=match q with
 | none=>p = .nilptr
 | some (width,rows)=>Rel.SetOf S w p width rows
variable {S:Fw} {q:Option (Nat×List (List Int))}
theorem SetQ.frm {R:Fw}{w w':AW}{p:V}(h:SetQ S w p q)(hf:Frm R w w')(hd:∀x,S x→¬R x):SetQ S w' p q:=by
 cases q with
 | none=>exact h
 | some x=>exact Rel.SetOf.frm h hf hd
variable {K:V→AW→Prop}
theorem JmB (C:Codes tab){p:V}{aw:AW}(hs:SetQ S aw p q)(h:K (.int .i64 (match q with|none=>-1|some x=>Int.ofNat x.1)) aw):WF tab Ym [p] aw K:=by
 cases q with
 | none =>
  have hs:p = .nilptr:=hs;subst hs;exact Jjq C h
 | some x=>exact JnX C hs h
def JgD (q:Option (Nat×List (List Int))) (n:Nat):Option (Nat×List (List Int)):=match q with
 | none=>none
 | some x=>if x.1=n then some x else none
theorem Jmm (C:Codes tab){jb sty sfn:Nat}{O S':Fw}{body:List Lt}{l:Lt}{i:Nat}{a:Int}{cells:List V}{xb dp sv:V}{dq:Option (Nat×List (List Int))}{sets:List Nat→Option (Nat×List (List Int))}{aw:AW}(hj:CB aw jb cells)(h3:HN 1 (cells.drop 3)=some [xb])(h5:HN 1 (cells.drop 5)=some [.iface sty sv])(hsl:H8 [(44,Jt,none)] sty=some (sfn,none))(h8:HN 1 (cells.drop 8)=some [.int .i64 a])(h9:HN 1 (cells.drop 9)=some [dp])(hb:RdL (LtC O) O aw xb 3 body)(hl:body[i]? = some l)(hd:SetQ S aw dp dq)(hst:∀(w:AW) (K:V→AW→Prop),Frm (fun _=>False) aw w→(∀w' p,Frm (fun _=>False) w w'→SetQ S' w' p (sets l.name)→K p w')→WF tab sfn [sv,.str l.name] w K)(hw4:∀x,sets l.name=some x→x.1≤4)(hi:i≤1000)(h:∀w p S1,Frm (fun _=>False) aw w→SetQ S1 w p (JgD (if Int.ofNat i=a then dq else sets l.name) l.args.length)→(∀x,S1 x→S x∨S' x)→K p w):WF tab WB [.ptr jb 0,.int .i64 (Int.ofNat i)] aw K:=by
 refine HL C.XA rfl ?_;have j3:aw.load jb 3 1=some [xb]:=CB.ld hj 3 1 _ h3;obtain⟨b,o,c,xs,rfl,la,hx⟩:=Jga hb hl;obtain⟨xv,rfl,hx⟩:=hx;have hil:i<body.length:=(List.getElem?_eq_some_iff.1 hl).1;have hxv:=hx.lenV;obtain⟨w1,s1,c1,r1,n1⟩:=PE aw (zs:=[V.int .i64 0,V.str [],V.nilslice]) (vs:=[.int .i64 (Int.ofNat l.kind),.str l.name,xv]) rfl (LtC.one ⟨xv,rfl,hx⟩).2;have hj1:=hj.frm r1 fun h=>h;have j9:w1.load jb 9 1=some [dp]:=CB.ld hj1 9 1 _ h9;have j8:w1.load jb 8 1=some [.int .i64 a]:=CB.ld hj1 8 1 _ h8;have j5:w1.load jb 5 1=some [.iface sty sv]:=CB.ld hj1 5 1 _ h5;have k1:w1.load aw.next 1 1=some [.str l.name]:=CB.ld c1 1 1 _ rfl
 have rest:∀(f:Fr) (w:AW) (p:V) (q:Option (Nat×List (List Int))) (S1:Fw),f.get 5=some (.ptr aw.next 0)→f.get 6=some p→Frm (fun _=>False) w1 w→SetQ S1 w p q→(∀x,S1 x→S x∨S' x)→q=(if Int.ofNat i=a then dq else sets l.name)→WS tab [.code VG] f w (fun fr' aw'=>∃vs,PV fr' aw' JV.results=some vs∧K (Ph vs) aw'):=by
  intro f w p q S1 f5 f6 g hq hS1 hqe;have k2:w.load aw.next 2 1=some [xv]:=CB.ld (c1.frm g fun h=>h) 2 1 _ rfl;rw[←hqe]at h;refine Fz (by simp only[go_sem,HA,simprocAttr,VG];rfl) ?_;refine Pp ?_;refine H0 100 (by simp only[go_sem,HA,simprocAttr,f6];rfl) ?_;refine PD Ff Fe ?_;refine JmB C hq ?_;refine H0 100 (by simp only[go_sem,HA,simprocAttr,f5,k2,hxv];rfl) ?_;refine Pr ⟨(show HW _ _ [(3,1)]from by simp only[go_sem,HA,simprocAttr,HW,chk,List.reverse_cons,List.reverse_nil,Pk,Pv,Pt,Pu,List.getElem?_nil,false_or,or_true,or_false,exists_eq',FP,Prod.mk.injEq,Bool.true_eq_false,FM,and_true,true_and,implies_true,k2]),?_⟩;cases q with
  | none =>
   have hq':p = .nilptr:=hq;have hne:((-1:Int) != Int.ofNat l.args.length)=true:=Fj;refine Fz (by simp only[go_sem,HA,simprocAttr,hne,VF];rfl) ?_;refine HC ⟨_,by simp only[go_sem,HA,simprocAttr,JV];rfl,?_⟩;exact h w _ S1 (r1.tr g) rfl hS1
  | some x =>
   by_cases hx1:x.1=l.args.length
   ·have hne:(Int.ofNat x.1 != Int.ofNat l.args.length)=false:=by rw[hx1];simp
    have e:JgD (some x) l.args.length=some x:=if_pos hx1;rw[e]at h;refine Fz (by simp only[go_sem,HA,simprocAttr,hne,f6];rfl) ?_;refine HC ⟨_,by simp only[go_sem,HA,simprocAttr,JV];rfl,?_⟩;exact h w _ S1 (r1.tr g) hq hS1
   ·have hne:(Int.ofNat x.1 != Int.ofNat l.args.length)=true:=by
     simp only[bne_iff_ne,ne_eq];exact fun h=>hx1 (Int.ofNat.inj h)
    have e:JgD (some x) l.args.length=none:=if_neg hx1;rw[e]at h;refine Fz (by simp only[go_sem,HA,simprocAttr,hne,VF];rfl) ?_;refine HC ⟨_,by simp only[go_sem,HA,simprocAttr,JV];rfl,?_⟩;exact h w _ S1 (r1.tr g) rfl hS1
 by_cases hia:Int.ofNat i=a
 ·have hia':(Int.ofNat i != a)=false:=by rw[hia];simp
  refine HF 37 (by simp only[go_sem,HA,simprocAttr,JV,VI,VH,j3,hil,la,FC,FD,s1,j9,j8,hia'];rfl) ?_;exact rest _ _ _ dq S Fb Fb (Frm.refl _) (hd.frm r1 fun _ _ h=>h) (fun x hx=> .inl hx) (if_pos hia).symm
 ·have hia':(Int.ofNat i != a)=true:=bne_iff_ne.2 hia;refine Fz (by simp only[go_sem,HA,simprocAttr,JV,VI,VH,G5,j3,hil,la,FC,FD,s1,j9,j8,hia',j5,k1,hsl];rfl) ?_;refine HD (by simp only[go_sem,HA,simprocAttr,hsl]) (by simp only[go_sem,HA,simprocAttr,hsl];rfl) ?_;refine hst w1 _ r1 fun w2 p g2 hq=>?_;refine HF 2 Fe ?_;exact rest _ _ p _ S' Fb Fb g2 hq (fun x hx=> .inr hx) (if_neg hia).symm
end
section
open Go.AE Delphi Val
variable {tab:Tab}
abbrev PM:=MB (α:=List Nat) (β:=V) V.str (fun v=>v)
theorem Jjp (C:Codes tab){mb:Nat}{M:List (List Nat×V)}{nm:List Nat}{aw:AW}{K:V→AW→Prop}(hM:PM aw mb M)(h:∀w,Frm (fun _=>False) aw w→K ((HE M nm).getD .nilptr) w):WF tab Jt [.agg [.map mb],.str nm] aw K:=by
 refine HL C.Wg rfl ?_;obtain⟨w1,e1,c1,r1,m1⟩:=PU aw [V.map mb];have a0:=CB.ld c1 0 1 _ rfl;have look:=(hM.frm r1 fun h=>h).look Px .nilptr nm
 have hlk:w1.lookV (.scalar .str) .nilptr (.map mb) (.str nm)=some ((HE M nm).getD .nilptr,(HE M nm).isSome):=by
  rw[look];cases HE M nm<;>rfl
 have hcc:V.cells (.agg [.map mb])=[V.map mb]:=rfl;refine Fz (by simp only[go_sem,HA,simprocAttr,-Int.reduceOfNat,Wf,hcc,e1,a0,hlk];rfl) ?_;refine HC ⟨_,by simp only[go_sem,HA,simprocAttr,-Int.reduceOfNat,Wf];rfl,?_⟩;exact h w1 r1
end
section
open Go.AE Delphi Val
variable {tab:Tab}
def zTk:Tk:=⟨0,[],0⟩
def Jag (ts:List Tk) (i:Int):Tk:=if i<1 then zTk else ts.getD (i.toNat-1) zTk
variable {ts:List Tk}
theorem JnU {i:Int}{t:Tk}(h1:∀k:Nat,i=Int.ofNat (k+1)→k<ts.length→ts[k]? = some t)(h2:i<1∨i>Int.ofNat ts.length→t=⟨0,[],0⟩):t=Jag ts i:=by
 unfold Jag;by_cases h:i<1
 ·rw[if_pos h];exact h2 (.inl h)
 ·rw[if_neg h];by_cases h3:i>Int.ofNat ts.length
  ·have h3':i>(ts.length:Int):=h3;rw[List.getD_eq_getElem?_getD,List.getElem?_eq_none Fh];exact h2 (.inr h3)
  ·have h3':¬i>(ts.length:Int):=h3;have:=h1 (i.toNat-1) (by show i=((i.toNat-1+1:Nat):Int);omega) Fh;rw[List.getD_eq_getElem?_getD,this];rfl
def H6 (M:Vm) (ts:List Tk) (t:Tm):Option Tk:=if t.kind=1 then (HE M t.name).map (Jag ts)else some (H2 t)
theorem JcR {w:AW}{b o:Nat}{l l' vs:List V}(h:CB w b l)(ho:over l o vs=some l')(h1:HM vs=true):w.store b o vs=some (w.put b l'):=
 Jcx h.get (.inl rfl:Shr (fun _=>True) w b .own) h1 ho
def Ja2 (c d:Tk):List V:=[.int .i64 c.k,.str c.s,.int .i64 c.n,.int .i64 d.k,.str d.s,.int .i64 d.n]
theorem Jf5 {i:Nat}(hi:i<2)(c d e:Tk):over (Ja2 c d) (0+i*3) (tkC e)=some (Ja2 (if i=0 then e else c) (if i=0 then d else e)):=by
 rcases (show i=0∨i=1 by omega)with rfl|rfl<;>rfl
structure HjF (f:Fr) (tb vb lb ab:Nat) (xv:V) (i:Nat):Prop where
 f1:f.get 1=some (.ptr tb 0)
 f2:f.get 2=some (.map vb)
 f3:f.get 3=some (.ptr lb 0)
 f8:f.get 8=some (.ptr ab 0)
 f30:f.get 30=some xv
 f31:f.get 31=some (.int .i64 (Int.ofNat 2))
 f32:f.get 32=some (.int .i64 (Int.ofNat i))
variable {K:V→AW→Prop}
theorem JjI (C:Codes tab){tb mb vb lb ab i:Nat}{tv xv:V}{S O:Fw}{M:Vm}{args:List Tm}{t:Tm}{c d:Tk}{f:Fr}{w:AW}{st:List SI}(hF:HjF f tb vb lb ab xv i)(hT:TabW tb mb tv S ts w)(hM:SM w vb M)(hx:Rd O w xv 3 2 (Pl args))(hal:args.length=2)(ht:args[i]? = some t)(hA:CB w ab (Ja2 c d))(htb:tb≠ab)(hvb:vb≠ab)(hmb:mb≠ab)(hOa:¬O ab)(hSa:¬S ab)(hlen:ts.length≤100000)(hMv:∀n,(Pb M n).natAbs≤100000)(bad:H6 M ts t=none→∀w',Frm (fun x=>x=ab) w w'→K (.tuple [.bool false,.bool false]) w')(good:∀f' w' u,H6 M ts t=some u→HjF f' tb vb lb ab xv (i+1)→CB w' ab (Ja2 (if i=0 then u else c) (if i=0 then d else u))→Frm (fun x=>x=ab) w w'→WS tab (.code (.loop JM) :: .endB 0::st) f' w' (fun fr' aw'=>∃vs,PV fr' aw' Ju.results=some vs∧K (Ph vs) aw')): WS tab (.code JM :: .code (.loop JM) :: .endB 0::st) f w (fun fr' aw'=>∃vs,PV fr' aw' Ju.results=some vs∧K (Ph vs) aw'):=by
 obtain⟨f1,f2,f3,f8,f30,f31,f32⟩:=hF;have hi:i<2:=by rw[←hal];exact (List.getElem?_eq_some_iff.1 ht).1
 rw[←hal]at hx;obtain⟨b,o,cc,rfl,_,_,la,_⟩:=JdG hx ht;have hi':i<args.length:=Fh;obtain⟨w1,s1,c1,r1,n1⟩:=PE w (zs:=[V.int .i64 0,V.str [],V.int .i64 0]) (vs:=tmC t) rfl rfl;have hA1:=hA.frm r1 fun h=>h;have htl:(tmC t).length=3:=rfl;have k3:w1.load w.next 0 3=some (tmC t):=c1.all rfl;have s2:w1.store ab (0+i*3) (tmC t)=some (w1.put ab (Ja2 (if i=0 then H2 t else c) (if i=0 then d else H2 t))):=JcR hA1 (Jf5 hi c d (H2 t)) rfl;have g2:Frm (fun x=>x=ab) w1 (w1.put ab (Ja2 (if i=0 then H2 t else c) (if i=0 then d else H2 t))):=HO;have c2:=H3 (l:=Ja2 (if i=0 then H2 t else c) (if i=0 then d else H2 t)) hA1.lt;obtain⟨w2,e2⟩:∃w2,w2=w1.put ab (Ja2 (if i=0 then H2 t else c) (if i=0 then d else H2 t)):=⟨_,rfl⟩;rw[←e2]at s2 g2 c2;have hlt:=hA.lt;have cb2:=c1.frm g2 Fh;have k0:w2.load w.next 0 1=some [.int .i64 (Int.ofNat t.kind)]:=CB.ld cb2 0 1 _ rfl;have k1:w2.load w.next 1 1=some [.str t.name]:=CB.ld cb2 1 1 _ rfl;have g02:Frm (fun x=>x=ab) w w2:=r1.no.tr g2;have hwr:IntKind.wrap .i64 (Int.ofNat i+1)=Int.ofNat (i+1):=HJ Fh;by_cases hk:t.kind=1
 ·have look:=((hM.frm r1 fun h=>h).frm g2 hvb).look Px (.int .i64 0) t.name;cases hg:HE M t.name with
  | none =>
   rw[hg]at look;have look:w2.lookV (.scalar .str) (.int .i64 0) (.map vb) (.str t.name)=some (.int .i64 0,false):=look;refine Fz (by simp only[go_sem,HA,simprocAttr,JM,YC,YB,WN,UH,f1,f2,f3,f8,f30,f31,f32,hi,hi',la,htl,s1,k3,s2,k0,hk,k1,look];rfl) ?_;refine HC ⟨_,by simp only[go_sem,HA,simprocAttr,Ju];rfl,?_⟩;exact bad (by unfold H6;rw[if_pos hk,hg];rfl) _ g02
  | some z =>
   rw[hg]at look;have look:w2.lookV (.scalar .str) (.int .i64 0) (.map vb) (.str t.name)=some (.int .i64 z,true):=look;have hz:=hMv t.name;unfold Pb at hz;rw[hg]at hz;have hz:z.natAbs≤100000:=hz;have hT2:=(hT.step0 r1).step g2 htb hmb fun x hx h=>by subst h;exact hSa hx
   refine Fz (by simp only[go_sem,HA,simprocAttr,JM,YC,YB,WN,UI,f1,f2,f3,f8,f30,f31,f32,hi,hi',la,htl,s1,k3,s2,k0,hk,k1,look];rfl) ?_;refine HD Ff Fe ?_;refine JoY C hT2 hlen ⟨by omega,by omega⟩ fun w3 u g3 hu1 hu2=>?_;have hu:=JnU hu1 hu2;have c3:=c2.frm g3 fun h=>h
   have hov:over (Ja2 (if i=0 then H2 t else c) (if i=0 then d else H2 t)) (0+i*3) (tkC u)=some (Ja2 (if i=0 then u else c) (if i=0 then d else u)):=by
    rw[Jf5 hi];rcases (show i=0∨i=1 by omega)with rfl|rfl<;>rfl
   have s4:=JcR c3 hov rfl;have g4:Frm (fun x=>x=ab) w3 (w3.put ab (Ja2 (if i=0 then u else c) (if i=0 then d else u))):=HO;have c4:=H3 (l:=Ja2 (if i=0 then u else c) (if i=0 then d else u)) c3.lt;obtain⟨w4,e4⟩:∃w4,w4=w3.put ab (Ja2 (if i=0 then u else c) (if i=0 then d else u)):=⟨_,rfl⟩;rw[←e4]at s4 g4 c4;refine Fz (by simp only[go_sem,HA,simprocAttr,f8,f32,hi,Jbg,s4,hwr];rfl) ?_;exact good _ _ u (by unfold H6;rw[if_pos hk,hg,hu];rfl) ⟨(Fg f1),(Fg f2),(Fg f3),(Fg f8),(Fg f30),(Fg f31),Fb⟩ c4 ((g02.tr g3.no).tr g4)
 ·refine Fz (by simp only[go_sem,HA,simprocAttr,JM,YC,YB,f1,f2,f3,f8,f30,f31,f32,hi,hi',la,htl,s1,k3,s2,k0,hk,hwr];rfl) ?_;exact good _ _ (H2 t) (if_neg hk) ⟨(Fg f1),(Fg f2),(Fg f3),(Fg f8),(Fg f30),(Fg f31),Fb⟩ c2 g02
def Jc2 (k:Nat):Option Tk→Option Tk→Bool×Bool
 | some a,some b=>(P4 k a b,true)
 | _,_=>(false,false)
theorem Jh6 (C:Codes tab){tb mb vb:Nat}{tv:V}{S O:Fw}{M:Vm}{k:Nat}{nm:List Nat}{a b:Tm}{xs:List V}{aw:AW}(hT:TabW tb mb tv S ts aw)(hM:SM aw vb M)(hx:LtC O aw ⟨k,nm,[a,b]⟩ xs)(hO:∀x,O x→x<aw.next)(hk:3≤k∧k≤6)(hlen:ts.length≤100000)(hMv:∀n,(Pb M n).natAbs≤100000)(h:∀w,Frm (fun _=>False) aw w→K (.tuple [.bool (Jc2 k (H6 M ts a) (H6 M ts b)).1,.bool (Jc2 k (H6 M ts a) (H6 M ts b)).2]) w):WF tab Wr [.agg xs,.ptr tb 0,.map vb] aw K:=by
 refine HL C.YE rfl ?_;obtain⟨xv,rfl,hx⟩:=hx;obtain⟨w1,e1,c1,r1,m1⟩:=PU aw [.int .i64 (Int.ofNat k),.str nm,xv];obtain⟨w2,e2,c2,r2,m2⟩:=PU w1 (Ja2 zTk zTk);have e2:w1.fresh [V.int .i64 0,V.str [],V.int .i64 0,V.int .i64 0,V.str [],V.int .i64 0]=w2:=e2;have hxv:=hx.lenV;have hxv:lenV xv=some 2:=hxv;have a0:=CB.ld c1 0 1 _ rfl;have a2:=CB.ld c1 2 1 _ rfl;have a2':=CB.ld (c1.frm r2 fun h=>h) 2 1 _ rfl;have hk3:¬(Int.ofNat k<3):=by show ¬((k:Int)<3);omega
 have hk6:¬(Int.ofNat k>6):=by show ¬((k:Int)>6);omega
 have hk3':¬k<3:=Fh;have hk6':¬6<k:=Fh;have e5:([.int .i64 (Int.ofNat k),.str nm,xv]:List V).length=3:=rfl;refine Fz (by simp only[go_sem,HA,simprocAttr,Ju,UP,UO,e1,a0,a2,a2',hk3,hk6,hk3',hk6',hxv,e2];rfl) ?_;have n1:=r1.next;have f02:=r1.tr r2;have htb:tb≠w1.next:=by have:=hT.a.lt;omega
 have hmb:mb≠w1.next:=by have:=hT.m.lt;omega
 have hvb:vb≠w1.next:=by have:=hM.lt;omega
 have hSa:¬S w1.next:=fun hs=>by have:=(hT.s _ hs).1;omega
 refine Jay ?_;have ha0:([a,b]:List Tm)[0]? = some a:=rfl;have ha1:([a,b]:List Tm)[1]? = some b:=rfl;have out:∀{w:AW},Frm (fun x=>x=w1.next) w2 w→Frm (fun _=>False) aw w:=fun g=>f02.trans g (fun _ _ h=>h) fun x hx h=>by omega
 refine JjI (S:=S) (O:=O) (i:=0) (xv:=xv) (lb:=aw.next) C ⟨Fb,Fb,Fb,Fb,Fb,Fb,Fb⟩ (hT.step0 f02) (hM.frm f02 fun h=>h) (hx.frm f02 fun _ _ h=>h) rfl ha0 c2 htb hvb hmb (fun h=>by have:=hO _ h;omega) hSa hlen hMv ?_ ?_
 ·intro hn w' g;rw[hn]at h;exact h w' (out g)
 ·intro f3 w3 u hu hF c3 g3;refine Jay ?_;refine JjI (S:=S) (O:=O) (i:=1) (xv:=xv) (lb:=aw.next) C hF ((hT.step0 f02).step g3 htb hmb fun x hx h=>by subst h;exact hSa hx) ((hM.frm f02 fun h=>h).frm g3 hvb) ((hx.frm f02 fun _ _ h=>h).frm g3 fun x hx h=>by have:=hO _ hx;omega) rfl ha1 c3 htb hvb hmb (fun h=>by have:=hO _ h;omega) hSa hlen hMv ?_ ?_
  ·intro hn w' g;rw[hu,hn]at h;exact h w' (out (g3.tr g))
  ·intro f4 w4 v hv hF c4 g4;rw[hu,hv]at h;have g24:=g3.tr g4;obtain⟨g1,g2,g3',g8,g30,g31,g32⟩:=hF;refine Jay ?_;have hnl:¬(Int.ofNat 2<Int.ofNat 2):=by decide
   refine Fz (by simp only[go_sem,HA,simprocAttr,JM,UN,g31,g32];rfl) ?_;have c5:CB w4 w1.next (Ja2 u v):=c4;have q1:w4.load w1.next 0 3=some (tkC u):=CB.ld c5 0 3 _ rfl;have q2:w4.load w1.next 3 3=some (tkC v):=CB.ld c5 3 3 _ rfl;obtain⟨w5,p1,d1,t1,o1⟩:=PU w4 [V.int .i64 0,V.str [],V.int .i64 0];obtain⟨w6,p2,d2,t2,o2⟩:=PU w5 [V.int .i64 0,V.str [],V.int .i64 0];have d1:=d1.frm t2 fun h=>h;have st1:=JcR d1 (o:=0) (vs:=tkC u) (l':=tkC u) rfl rfl;have fr1:Frm (fun x=>x=w4.next) w6 (w6.put w4.next (tkC u)):=HO;have d1':=H3 (l:=tkC u) d1.lt;have d2:=d2.frm fr1 Fh;obtain⟨w7,e7⟩:∃w7,w7=w6.put w4.next (tkC u):=⟨_,rfl⟩;rw[←e7]at st1 fr1 d1' d2;have st2:=JcR d2 (o:=0) (vs:=tkC v) (l':=tkC v) rfl rfl;have fr2:Frm (fun x=>x=w5.next) w7 (w7.put w5.next (tkC v)):=HO;have d2':=H3 (l:=tkC v) d2.lt;have d1':=d1'.frm fr2 Fh;obtain⟨w8,e8⟩:∃w8,w8=w7.put w5.next (tkC v):=⟨_,rfl⟩;rw[←e8]at st2 fr2 d2' d1';have c18:CB w8 aw.next [.int .i64 (Int.ofNat k),.str nm,xv]:=((((((c1.frm r2 fun h=>h).frm g24 Fh).frm t1 fun h=>h).frm t2 fun h=>h).frm fr1 (by have:=c4.lt;omega)).frm fr2 (by have:=c4.lt;omega));have b0:w8.load aw.next 0 1=some [.int .i64 (Int.ofNat k)]:=CB.ld c18 0 1 _ rfl;have u3:w8.load w4.next 0 3=some (tkC u):=d1'.all rfl;have v3:w8.load w5.next 0 3=some (tkC v):=d2'.all rfl;have g48:Frm (fun _=>False) w4 w8:=((t1.tr t2).trans fr1 (fun _ _ h=>h) fun x hx h=>by omega).trans fr2 (fun _ _ h=>h) fun x hx h=>by omega
   have g08:Frm (fun _=>False) aw w8:=(out g24).tr g48;have hh:∀w',Frm (fun _=>False) w8 w'→K (.tuple [.bool (P4 k u v),.bool true]) w':=fun w' g=>h w' (g08.tr g);refine Pp ?_;refine H0 100 (by simp only[go_sem,HA,simprocAttr,g8,q1,q2,p1,p2,Jbg,st1,st2];rfl) ?_;have c5:=c5.frm t1 fun h=>h;have q11:w5.load w1.next 0 3=some (tkC u):=CB.ld c5 0 3 _ rfl;have q12:w5.load w1.next 3 3=some (tkC v):=CB.ld c5 3 3 _ rfl;have c5:=c5.frm t2 fun h=>h;have q21:w6.load w1.next 0 3=some (tkC u):=CB.ld c5 0 3 _ rfl;have q22:w6.load w1.next 3 3=some (tkC v):=CB.ld c5 3 3 _ rfl;have c5:=c5.frm fr1 (by have:=c4.lt;omega);have q32:w7.load w1.next 3 3=some (tkC v):=CB.ld c5 3 3 _ rfl;refine Pr ⟨(show HW _ _ [(1,4),(1,5),(3,4),(3,5),(3,6)]from by simp only[go_sem,HA,simprocAttr,HW,chk,List.reverse_cons,List.reverse_nil,Pk,Pv,Pt,Pu,List.getElem?_nil,false_or,or_true,or_false,exists_eq',FP,Prod.mk.injEq,Bool.true_eq_false,FM,and_true,true_and,implies_true,q1,q11,q21,q2,q12,q22,q32]),?_⟩;by_cases h3:k=3
   ·subst h3;have e:P4 3 u v=P0 u v:=rfl;rw[e]at hh;refine Fz (by simp only[go_sem,HA,simprocAttr,ZH,UM,g3',b0,u3,v3];rfl) ?_;refine HD Ff Fe ?_;refine Jn1 C fun w9 g9=>?_;refine HB 1000 Fe ?_;refine HC ⟨_,by simp only[go_sem,HA,simprocAttr,Ju];rfl,?_⟩;exact hh w9 g9
   by_cases h4:k=4
   ·subst h4;have e:P4 4 u v = !P0 u v:=rfl;rw[e]at hh;refine Fz (by simp only[go_sem,HA,simprocAttr,ZH,YD,UL,g3',b0,u3,v3];rfl) ?_;refine HD Ff Fe ?_;refine Jn1 C fun w9 g9=>?_;have hh:=hh w9 g9;refine HB 1000 Fe ?_;refine HC ⟨_,by simp only[go_sem,HA,simprocAttr,Ju];rfl,?_⟩;exact hh
   by_cases h5:k=5
   ·subst h5;have e:P4 5 u v=PR u v:=rfl;rw[e]at hh;refine Fz (by simp only[go_sem,HA,simprocAttr,ZH,YD,WP,UJ,g3',b0,u3,v3];rfl) ?_;refine HD Ff Fe ?_;refine JjK C fun w9 g9=>?_;refine HB 1000 Fe ?_;refine HC ⟨_,by simp only[go_sem,HA,simprocAttr,Ju];rfl,?_⟩;exact hh w9 g9
   have e:P4 k u v = !PR v u:=by unfold P4;rw[if_neg h3,if_neg h4,if_neg h5]
   rw[e]at hh;refine Fz (by simp only[go_sem,HA,simprocAttr,ZH,YD,WP,UK,g3',b0,u3,v3,h3,h4,h5];rfl) ?_;refine HD Ff Fe ?_;refine JjK C fun w9 g9=>?_;have hh:=hh w9 g9;refine HB 1000 Fe ?_;refine HC ⟨_,by simp only[go_sem,HA,simprocAttr,Ju];rfl,?_⟩;exact hh
end
end Go.Proofs.YtegdcbdicpfbpaaDoor
namespace Delphi
def Jb7 (bd:Fx) (t:Tm):Bool:=decide (t.kind≠1∨t.name∈bd)
def Jb8 (bd:Fx) (l:Lt):Nat:=l.args.countP (Jb7 bd)
def Jaw (bd out:Fx) (t:Tm):Fx:=if t.kind=1∧t.name∉bd∧t.name∉out then out++[t.name]else out
def Jc3 (bd:Fx) (l:Lt):Fx:=l.args.foldl (Jaw bd) []
abbrev Po:=List Nat×List (List Nat)
def Lt.nil:Lt:=⟨0,[],[]⟩
def H4 (body:List Lt) (i:Nat):Lt:=(body[i]?).getD Lt.nil
def Jab (body:List Lt) (s:Po) (i:Nat):Po:=(s.1++[i],s.2++Jc3 s.2 (H4 body i))
def Jao (body:List Lt) (s:Po) (i:Nat):Bool:=decide (i<body.length∧i∉s.1∧((H4 body i).kind=1∨Jb8 s.2 (H4 body i)=(H4 body i).args.length))
abbrev Ky:=Bool×Nat×Nat
def PT (a b:Ky):Bool:=if a.1≠b.1 then b.1 else if a.2.1≠b.2.1 then decide (b.2.1<a.2.1)else decide (a.2.2<b.2.2)
def Jcb (body:List Lt) (s:Po) (i:Nat):Ky:=(decide ((H4 body i).kind=1),if (H4 body i).kind=1 then Jb8 s.2 (H4 body i)else 0,i)
def JcW (body:List Lt) (s:Po) (i:Nat):Prop:=Jao body s i=true∧∀j,Jao body s j=true→j≠i→PT (Jcb body s i) (Jcb body s j)=true
def Jhp (body:List Lt) (s:Po) (i:Nat):Bool:=Jao body s i&&(List.range body.length).all fun j=>!Jao body s j||decide (j=i)||PT (Jcb body s i) (Jcb body s j)
variable {body:List Lt} {s:Po} {i:Nat}
theorem Jfu (h:Jao body s i=true):i<body.length:=(of_decide_eq_true h).1
theorem bestB_iff:Jhp body s i=true↔JcW body s i:=by
 simp only[Jhp,JcW,FQ,List.all_eq_true,List.mem_range,Bool.or_eq_true,Bool.not_eq_true',decide_eq_true_eq];constructor
 ·rintro⟨h1,h2⟩;refine⟨h1,fun j hj hn=>?_⟩;rcases h2 j (Jfu hj)with (h|h)|h
  ·rw[hj]at h;cases h
  ·exact absurd h hn
  ·exact h
 ·rintro⟨h1,h2⟩;refine⟨h1,fun j hj=>?_⟩;by_cases hc:Jao body s j=true
  ·by_cases hn:j=i
   ·exact .inl (.inr hn)
   ·exact .inr (h2 j hc hn)
  ·exact .inl (.inl (by simpa using hc))
variable {a b:Ky}
theorem Jde:PT a b=true↔(a.1=false∧b.1=true)∨(a.1=b.1∧(b.2.1<a.2.1∨(a.2.1=b.2.1∧a.2.2<b.2.2))):=by
 obtain⟨a1,a2,a3⟩:=a;obtain⟨b1,b2,b3⟩:=b;simp only[PT];by_cases e:a2=b2
 ·subst e;cases a1<;>cases b1<;>simp
 ·cases a1<;>cases b1<;>simp[e]
theorem JkO (h:PT a b=true):PT b a=false:=by
 cases hc:PT b a with
 | false=>rfl
 | true =>
  rw[Jde]at h hc;rcases h with⟨h1,h2⟩|⟨h1,h2⟩<;>rcases hc with⟨h3,h4⟩|⟨h3,h4⟩
  ·rw[h2]at h3;cases h3
  ·rw[h1,h2]at h3;cases h3
  ·rw[h3,h4]at h1;cases h1
  ·omega
theorem Jff {c:Ky}(h:PT a b=true)(h':PT b c=true):PT a c=true:=by
 rw[Jde]at h h' ⊢;rcases h with⟨h1,h2⟩|⟨h1,h2⟩<;>rcases h' with⟨h3,h4⟩|⟨h3,h4⟩
 ·rw[h2]at h3;cases h3
 ·exact .inl ⟨h1,by rw[←h3];exact h2⟩
 ·exact .inl ⟨by rw[h1];exact h3,h4⟩
 ·exact .inr ⟨h1.trans h3,by omega⟩
theorem Jje (h:a.2.2≠b.2.2):PT a b=true∨PT b a=true:=by
 rw[Jde,Jde];rcases ha:a.1<;>rcases hb:b.1<;>simp<;>omega
theorem Jln {j:Nat}(h:JcW body s i)(h':JcW body s j):i=j:=by
 by_cases hn:i=j
 ·exact hn
 ·have h1:=h.2 j h'.1 fun e=>hn e.symm;have h2:=h'.2 i h.1 hn;rw[JkO h1]at h2;cases h2
def Jj8 (body:List Lt) (s:Po):Option Nat:=(List.range body.length).find? (Jhp body s)
theorem Jlm (h:JcW body s i):Jj8 body s=some i:=by
 unfold Jj8;cases hf:(List.range body.length).find? (Jhp body s)with
 | none =>
  rw[List.find?_eq_none]at hf;have:=hf i (List.mem_range.2 (Jfu h.1));exact absurd (bestB_iff.2 h) this
 | some j =>
  have:=List.find?_some hf;rw[Jln h (bestB_iff.1 this)]
def JbT (body:List Lt):Nat→Po→Po
 | 0,s=>s
 | n+1,s=>if s.1.length<body.length then (match Jj8 body s with|some i=>JbT body n (Jab body s i)|none=>s)else s
end Delphi
namespace Go.Proofs.YtegdcbdicpfbpaaDoor
open Go.AE Delphi
variable {tab:Tab}
section
open Go.AE Delphi
variable {tab:Tab}
end
section
open Go.AE Delphi
variable {tab:Tab}
end
end Go.Proofs.YtegdcbdicpfbpaaDoor
namespace Delphi
theorem Jji (bd out:Fx)(t:Tm):(Jaw bd out t).length≤out.length+1:=by
 unfold Jaw;split<;>simp
theorem Jfi (bd:Fx):∀(l:List Tm) (out:Fx),(l.foldl (Jaw bd) out).length≤out.length+l.length
 | [],out=>by simp
 | t::l,out=>by
  rw[Kr,FC];have:=Jfi bd l (Jaw bd out t);have:=Jji bd out t;omega
theorem JnD (bd:Fx)(l:Lt):(Jc3 bd l).length≤l.args.length:=by
 have:=Jfi bd l.args [];simpa[Jc3]using this
end Delphi
namespace Go.Proofs.YtegdcbdicpfbpaaDoor
open Go.AE Delphi
variable {tab:Tab}
end Go.Proofs.YtegdcbdicpfbpaaDoor
namespace Delphi
theorem Jli:∀(n:Nat) (l:List Nat),(∀i,i<n→i∈l)→n≤l.length
 | 0,l,_=>Nat.zero_le _
 | n+1,l,h=>by
  have h1:=h n Fh;have h2:=Jli n (l.erase n) fun i hi=>(List.mem_erase_of_ne Fh).2 (h i Fh);rw[List.length_erase_of_mem h1]at h2;have:0<l.length:=List.length_pos_of_mem h1;omega
structure PlInv (body:List Lt) (s:Po):Prop where
 lt:∀i∈s.1,i<body.length
 bnd:∀i∈s.1,(H4 body i).kind=1→∀t∈(H4 body i).args,t.kind=1→t.name∈s.2
 len:s.2.length≤5*s.1.length
variable {body:List Lt} {x:Lt}
theorem PJ {i:Nat}(h:body[i]? = some x):H4 body i=x:=by simp[H4,h]
theorem Jfh {bd:Fx}:∀(l:List Tm) (out:Fx) (v:List Nat),v∈l.foldl (Jaw bd) out↔v∈out∨(v∉bd∧∃t∈l,t.kind=1∧t.name=v)
 | [],out,v=>by simp
 | t::l,out,v=>by
  rw[Kr,Jfh l]
  have h:v∈Jaw bd out t↔v∈out∨(v∉bd∧t.kind=1∧t.name=v):=by
   unfold Jaw;split
   ·rename_i hc;rw[F9,Kn];constructor
    ·rintro (h|rfl)
     ·exact .inl h
     ·exact .inr ⟨hc.2.1,hc.1,rfl⟩
    ·rintro (h|⟨_,_,rfl⟩)
     ·exact .inl h
     ·exact .inr rfl
   ·rename_i hc;refine⟨.inl,?_⟩;rintro (h|⟨h1,h2,rfl⟩)
    ·exact h
    ·exact Classical.byContradiction fun hn=>hc ⟨h2,h1,hn⟩
  rw[h];simp only[FJ,exists_eq_or_imp];constructor
  ·rintro ((h|⟨h1,h2⟩)|⟨h1,h2⟩)
   ·exact .inl h
   ·exact .inr ⟨h1,.inl h2⟩
   ·exact .inr ⟨h1,.inr h2⟩
  ·rintro (h|⟨h1,h2|h2⟩)
   ·exact .inl (.inl h)
   ·exact .inl (.inr ⟨h1,h2⟩)
   ·exact .inr ⟨h1,h2⟩
variable {bd:Fx}
theorem mem_newV {v:List Nat}:v∈Jc3 bd x↔v∉bd∧∃t∈x.args,t.kind=1∧t.name=v:=by
 simp[Jc3,Jfh]
theorem PlInv.nil (body:List Lt):PlInv body ([],[]):=⟨by simp,by simp,by simp⟩
theorem PlInv.take {s:Po}{i:Nat}(h:PlInv body s)(hi:i<body.length)(ha:∀x∈body,x.args.length≤5):PlInv body (Jab body s i):=by
 obtain⟨x,hx⟩:∃x,body[i]? = some x:=⟨_,FB hi⟩;refine⟨fun j hj=>?_,fun j hj hk t ht h1=>?_,?_⟩
 ·simp only[Jab,F9,Kn]at hj;rcases hj with hj|rfl
  ·exact h.lt j hj
  ·exact hi
 ·simp only[Jab,F9,Kn]at hj ⊢;rcases hj with hj|rfl
  ·exact .inl (h.bnd j hj hk t ht h1)
  ·by_cases hm:t.name∈s.2
   ·exact .inl hm
   ·exact .inr (mem_newV.2 ⟨hm,t,ht,h1,rfl⟩)
 ·simp only[Jab,FE,Ka];have h1:=JnD s.2 (H4 body i);have h2:=ha x (FI hx);have h3:=h.len;rw[PJ hx]at h1 ⊢;omega
theorem bndN_full:Jb8 bd x=x.args.length↔∀t∈x.args,t.kind=1→t.name∈bd:=by
 rw[Jb8,List.countP_eq_length];constructor
 ·intro h t ht hk;exact (of_decide_eq_true (h t ht)).resolve_left fun hn=>hn hk
 ·intro h t ht;by_cases hk:t.kind=1
  ·exact decide_eq_true (.inr (h t ht hk))
  ·exact decide_eq_true (.inl hk)
theorem Joi:Jb8 bd x≤x.args.length:=List.countP_le_length
theorem Ji6 {r:Rl}{s:Po}(hs:JbZ r=true)(h:PlInv r.body s)(hl:s.1.length<r.body.length):∃i,Jao r.body s i=true:=by
 have hex:∃i,i<r.body.length∧i∉s.1:=Classical.byContradiction fun hn=>by
  have:=Jli r.body.length s.1 fun i hi=>Classical.byContradiction fun hc=>hn ⟨i,hi,hc⟩;omega
 by_cases hat:∃i,i<r.body.length∧i∉s.1∧(H4 r.body i).kind=1
 ·obtain⟨i,h1,h2,h3⟩:=hat;exact⟨i,decide_eq_true ⟨h1,h2,.inl h3⟩⟩
 ·obtain⟨i,h1,h2⟩:=hex;obtain⟨x,hx⟩:∃x,r.body[i]? = some x:=⟨_,FB h1⟩;refine⟨i,decide_eq_true ⟨h1,h2,.inr ?_⟩⟩;rw[PJ hx];have hk:x.kind≠1:=fun hk=>hat ⟨i,h1,h2,by rw[PJ hx];exact hk⟩;refine bndN_full.2 fun t ht h3=>?_;have hneed:t.name∈Ja6 r:=mem_rNeed.2 (.inr ⟨x,FI hx,hk,t,ht,h3,rfl⟩);have hb:t.name∈JbE r:=of_decide_eq_true (List.all_eq_true.1 hs _ hneed);obtain⟨y,hy,hyk,t2,ht2,hk2,hn2⟩:=mem_rBound.1 hb;obtain⟨j,hj⟩:=List.getElem?_of_mem hy;have hjl:j<r.body.length:=(List.getElem?_eq_some_iff.1 hj).1;have hjs:j∈s.1:=Classical.byContradiction fun hn=>hat ⟨j,hjl,hn,by rw[PJ hj];exact hyk⟩;rw[←hn2];have:=h.bnd j hjs (by rw[PJ hj];exact hyk) t2 (by rw[PJ hj];exact ht2) hk2;exact this
end Delphi
namespace Go.Proofs.YtegdcbdicpfbpaaDoor
open Go.AE Delphi
variable {tab:Tab}
def PZ (l:List Nat):List V:=l.map fun n=>V.int .i64 (Int.ofNat n)
def Ja0 (n:Nat) (l:List Nat):List V:=(List.range n).map fun i=>V.bool (decide (i∈l))
variable {i:Nat}
theorem Jfy {n:Nat}{l:List Nat}(h:i<n):(Ja0 n l)[i]? = some (V.bool (decide (i∈l))):=by
 simp[Ja0,F6,List.getElem?_range h]
structure PrS (a w:AW) (T:Fw) (r:Rl) (hv u:V) (n2 b9:Nat) (s:Po) (ov bv:V) (So Sb:Fw):Prop where
 frm:Frm (fun _=>False) a w
 lits:RdL (LtC T) T a u 3 r.body
 rule:CB w n2 [.int .i64 (Int.ofNat r.head.kind),.str r.head.name,hv,u]
 ord:Bt So w ov 1 s.1.length (PZ s.1)
 bnd:Bt Sb w bv 1 s.2.length (H5 s.2)
 done:CB w b9 (Ja0 r.body.length s.1)
 ge:a.next≤n2∧n2<b9
 sepO:∀x,So x→a.next≤x∧x<w.next∧x≠n2∧x≠b9∧¬Sb x
 sepB:∀x,Sb x→a.next≤x∧x<w.next∧x≠n2∧x≠b9
 inv:PlInv r.body s
variable {s:Po}
theorem PrS.ext {a w w2:AW}{T:Fw}{r:Rl}{hv u:V}{n2 b9:Nat}{ov bv:V}{So Sb:Fw}(h:PrS a w T r hv u n2 b9 s ov bv So Sb)(hf:Frm (fun _=>False) w w2):PrS a w2 T r hv u n2 b9 s ov bv So Sb:=
 have nx:=hf.next
 ⟨h.frm.tr hf,h.lits,h.rule.frm hf fun h=>h,h.ord.frm hf fun _ _ h=>h,h.bnd.frm hf fun _ _ h=>h,h.done.frm hf fun h=>h,h.ge,fun x hx=>by have h1:=h.sepO x hx;exact⟨h1.1,by omega,h1.2.2⟩,fun x hx=>by have h1:=h.sepB x hx;exact⟨h1.1,by omega,h1.2.2⟩,h.inv⟩
theorem PrS.lit {a w:AW}{T:Fw}{r:Rl}{hv u:V}{n2 b9:Nat}{ov bv:V}{So Sb:Fw}(h:PrS a w T r hv u n2 b9 s ov bv So Sb){t:Lt}(hi:r.body[i]? = some t): ∃b o c v,u = .slice b o r.body.length c∧w.load b (o+i*3) 3=some [.int .i64 (Int.ofNat t.kind),.str t.name,v]∧Rd T w v 3 t.args.length (Pl t.args):=by
 obtain⟨b,o,c,v,h1,_,_,h2,_,_,_,h3⟩:=JcT (h.lits.frm (fun _ _ hl=>hl.frm h.frm fun _ _ h=>h) h.frm fun _ _ h=>h) hi;exact⟨b,o,c,v,h1,h2,h3⟩
theorem Jir {body:List Lt}(h:¬(i<body.length∧i∉s.1∧((H4 body i).kind=1∨Jb8 s.2 (H4 body i)=(H4 body i).args.length))):Jao body s i=false:=decide_eq_false h
section
open Go.AE Delphi
variable {tab:Tab}
end
end Go.Proofs.YtegdcbdicpfbpaaDoor
