/- A part of the proof. -/
import Derived.Test.YtegdcbdicpfbpaaGreatDoorJrO
import Derived.Test.YtegdcbdicpfbpaaGreatDoorJrM
import Derived.Test.YtegdcbdicpfbpaaGreatDoorJrI
set_option linter.unusedVariables false
set_option maxRecDepth 10000
set_option linter.unusedSimpArgs false
namespace Go.Proofs.YtegdcbdicpfbpaaGreatDoor
open Go.AE Delphi Val
variable {tab:Tab}
def idT (ts:List Tk) (c:Tk):Nat×List Tk:=if Jbd c=true then (if c∈ts then (Jcr ts c,ts)else (ts.length+1,ts++[c]))else (0,ts)
theorem Jk2 (ts:List Tk)(c:Tk):(idT ts c).2.length≤ts.length+1:=by
 unfold idT;split
 ·split
  ·simp only;omega
  ·simp
 ·simp only;omega
def Jbt (M:List (List Nat×Int)) (nm:List Nat):Int:=(Ja1 M nm).getD 0
def JcO (M:List (List Nat×Int)) (s:List Int×List Tk) (x:Tm):List Int×List Tk:=if x.kind=1 then (s.1++[Jbt M x.name],s.2)else (s.1++[Int.ofNat (idT s.2 (Jbb x)).1],(idT s.2 (Jbb x)).2)
def Jbk (M:List (List Nat×Int)) (ts:List Tk) (l:List Tm):List Int×List Tk:=l.foldl (JcO M) ([],ts)
theorem JlT (M:List (List Nat×Int))(ts:List Tk)(l:List Tm)(x:Tm):Jbk M ts (l++[x])=JcO M (Jbk M ts l) x:=by unfold Jbk;rw[List.foldl_append];rfl
theorem JnG (M:List (List Nat×Int)):∀(l:List Tm) (s:List Int×List Tk),(l.foldl (JcO M) s).1.length=s.1.length+l.length∧(l.foldl (JcO M) s).2.length≤s.2.length+l.length
 | [],s=>⟨rfl,FH _⟩
 | x::l,s=>by
  obtain⟨h1,h2⟩:=JnG M l (JcO M s x);have:=Jk2 s.2 (Jbb x)
  have e:(JcO M s x).1.length=s.1.length+1∧(JcO M s x).2.length≤s.2.length+1:=by
   unfold JcO;split
   ·simp
   ·exact⟨by simp,this⟩
  rw[Ku,h1,FC];constructor
  ·omega
  ·omega
theorem Jfv (M:List (List Nat×Int))(ts:List Tk)(l:List Tm):(Jbk M ts l).1.length=l.length∧(Jbk M ts l).2.length≤ts.length+l.length:=by
 have:=JnG M l ([],ts);simpa[Jbk]using this
variable {ts:List Tk} {K:V→AW→Prop}
theorem Jky (C:Codes tab){tb mb:Nat}{v:V}{S:Fw}{c:Tk}{aw:AW}(hT:TabW tb mb v S ts aw)(hlen:ts.length≤100000)(hc:TkOk c)(h:∀w v' S',TabW tb mb v' S' (idT ts c).2 w→Frm (fun x=>S x∨x=tb∨x=mb) aw w→(∀x,S' x→S x∨aw.next≤x)→K (.int .i64 (Int.ofNat (idT ts c).1)) w):WF tab Zd [.ptr tb 0,.agg (tkC c)] aw K:=by
 refine Val.id_ok C hT hlen hc ?_ ?_ ?_
 ·intro hm w g;have e:idT ts c=(0,ts):=if_neg (by rw[hm];simp);rw[e]at h;exact h w v S (hT.step0 g) (g.mono fun _ _ h=>h.elim) fun x hx=> .inl hx
 ·intro hm hmem w g;have e:idT ts c=(Jcr ts c,ts):=by unfold idT;rw[if_pos hm,if_pos hmem]
  rw[e]at h;exact h w v S (hT.step0 g) (g.mono fun _ _ h=>h.elim) fun x hx=> .inl hx
 ·intro hm hmem w v' S' q1 q2 q3;have e:idT ts c=(ts.length+1,ts++[c]):=by unfold idT;rw[if_pos hm,if_neg hmem]
  rw[e]at h;exact h w v' S' q1 q2 q3
theorem Jpg {α:Type}(a:List α)(x y:α)(b:List α):(a++x::b).set a.length y=a++y::b:=by
 rw[List.set_append_right _ _ (FH _),Nat.sub_self];rfl
theorem JnH (C:Codes tab){tb mb jb vb:Nat}{tv:V}{S O:Fw}{M:List (List Nat×Int)}{l:Lt}{xs cells:List V}{aw:AW}(hT:TabW tb mb tv S ts aw)(hO:∀x,O x→x<aw.next∧¬S x∧x≠tb∧x≠mb)(hj:CB aw jb cells)(hjO:O jb)(h4:Jbh 1 (cells.drop 4)=some [.ptr tb 0])(h12:Jbh 1 (cells.drop 12)=some [.map vb])(hM:SM aw vb M)(hvO:O vb)(hx:LtC O aw l xs)(hal:l.args.length≤10)(hok:∀t∈l.args,t.kind≠1→TkOk (Jbb t))(hts:ts.length+l.args.length≤90000)(h:∀w v tv' S' R,Rel.RowV R w v (Jbk M ts l.args).1→TabW tb mb tv' S' (Jbk M ts l.args).2 w→Frm (fun x=>S x∨x=tb∨x=mb) aw w→(∀x,S' x→S x∨aw.next≤x)→(∀x,R x→aw.next≤x∧x<w.next∧¬S' x)→K v w):WF tab YF [.ptr jb 0,.agg xs] aw K:=by
 refine Ja7 C.Wm rfl ?_;obtain⟨xl,xo⟩:=hx.one;obtain⟨xv,rfl,hx⟩:=hx;obtain⟨w1,e1,c1,r1,m1⟩:=Jb8 aw [.int .i64 (Int.ofNat l.kind),.str l.name,xv];have a2:=CB.ld c1 2 1 _ rfl;have hxv:=hx.lenV
 have e2:(List.replicate l.args.length [V.int .i64 0]).flatten=List.replicate l.args.length (V.int .i64 0):=by
  induction l.args.length with
  | zero=>rfl
  | succ n ih=>rw[List.replicate_succ,List.flatten_cons,ih,List.replicate_succ];rfl
 obtain⟨w2,e3,c2,r2,m2⟩:=Jb8 w1 (List.replicate l.args.length (V.int .i64 0));have hc1:l.args.length≤70368744177664:=Fh;have hc2:l.args.length*8≤70368744177664:=Fh;have a2':=CB.ld (c1.frm r2 fun h=>h) 2 1 _ rfl;refine Fz (by simp only[go_sem,JaX,simprocAttr,Wl,Jae,e1,a2,a2',hxv,e2,e3,hc1,hc2,FH];rfl) ?_;have f02:=r1.tr r2;have n1:=r1.next
 refine Jba (fun n f w=>∃i tv' S',f.get 0=some (.ptr jb 0)∧f.get 5=some (.slice w1.next 0 l.args.length (.known l.args.length))∧f.get 13=some xv∧f.get 14=some (.int .i64 (Int.ofNat l.args.length))∧f.get 15=some (.int .i64 (Int.ofNat i))∧TabW tb mb tv' S' (Jbk M ts (l.args.take i)).2 w∧Frm (fun x=>S x∨x=tb∨x=mb) aw w∧(∀x,S' x→S x∨aw.next≤x)∧CB w w1.next (Rel.rowC (Jbk M ts (l.args.take i)).1++List.replicate (l.args.length-i) (V.int .i64 0))∧¬S' w1.next∧i≤l.args.length∧n=l.args.length-i)
  (fun f w=>∃tv' S',f.get 5=some (.slice w1.next 0 l.args.length (.known l.args.length))∧TabW tb mb tv' S' (Jbk M ts l.args).2 w∧Frm (fun x=>S x∨x=tb∨x=mb) aw w∧(∀x,S' x→S x∨aw.next≤x)∧CB w w1.next (Rel.rowC (Jbk M ts l.args).1)∧¬S' w1.next) ?_ ?_ l.args.length
  ⟨0,tv,S,Fb,Fb,Fb,Fb,Fb,hT.step0 f02,f02.mono fun _ _ h=>h.elim,fun x hx=> .inl hx,c2,fun hs=>by have:=(hT.s _ hs).1;omega,Nat.zero_le _,rfl⟩
 ·rintro n f w ⟨i,tv',S',f0,f5,f13,f14,f15,hTw,g,hS',hc,hnS,hi,rfl⟩ ih out;by_cases hil:i<l.args.length
  case neg =>
   obtain rfl:i=l.args.length:=Fh;rw[List.take_length]at hTw hc;rw[Nat.sub_self,List.replicate_zero,Kc]at hc;refine Ja2 1000 (by simp only[go_sem,simprocAttr,Wk,f14,f15,hil];rfl) ?_;exact out _ _ _ ⟨tv',S',(Fg f5),hTw,g,hS',hc,hnS⟩ rfl
  obtain⟨t,ht⟩:∃t,l.args[i]? = some t:=⟨_,FB hil⟩;have hwr:IntKind.wrap .i64 (Int.ofNat i+1)=Int.ofNat (i+1):=Ja3 Fh;have htk:=Jbz ht
  have hOw:∀x,O x→¬(S x∨x=tb∨x=mb):=fun x hx h=>by
   obtain⟨_,h1,h2,h3⟩:=hO x hx;rcases h with h|h|h
   ·exact h1 h
   ·exact h2 h
   ·exact h3 h
  obtain⟨b,o,c,rfl,_,_,la,_⟩:=Jd5 (hx.frm g hOw) ht;have hjw:=hj.frm g (hOw jb hjO);have hMw:SM w vb M:=hM.frm g (hOw vb hvO);obtain⟨w3,s3,c3,r3,n3⟩:=Jb1 w (zs:=[V.int .i64 0,V.str [],V.int .i64 0]) (vs:=tmC t) rfl rfl;have k0:w3.load w.next 0 1=some [.int .i64 (Int.ofNat t.kind)]:=CB.ld c3 0 1 _ rfl;have k1:w3.load w.next 1 1=some [.str t.name]:=CB.ld c3 1 1 _ rfl;have k3:w3.load w.next 0 3=some (tmC t):=c3.all rfl;have j12:w3.load jb 12 1=some [.map vb]:=CB.ld (hjw.frm r3 fun h=>h) 12 1 _ h12;have look:=(hMw.frm r3 fun h=>h).look Jci (.int .i64 0) t.name
  have hlk:w3.lookV (.scalar .str) (.int .i64 0) (.map vb) (.str t.name)=some (.int .i64 (Jbt M t.name),(Ja1 M t.name).isSome):=by
   rw[look];unfold Jbt;cases Ja1 M t.name<;>rfl
  have hc3:=hc.frm r3 fun h=>h;have hlen:=(Jfv M ts (l.args.take i)).1;rw[FU,KD hi]at hlen;have hrl:(Rel.rowC (Jbk M ts (l.args.take i)).1).length=i:=by unfold Rel.rowC;rw[F9,hlen]
  obtain⟨m,hm⟩:∃m,l.args.length-i=m+1:=⟨l.args.length-i-1,by omega⟩;have hm':l.args.length-(i+1)=m:=Fh;rw[hm,List.replicate_succ]at hc3;have st:=hc3.set (i:=i) (v:=.int .i64 (Jbt M t.name)) (by rw[FE,hrl,FC];omega) rfl
  have sm:(Rel.rowC (Jbk M ts (l.args.take i)).1++V.int .i64 0::List.replicate m (V.int .i64 0)).set i (.int .i64 (Jbt M t.name))=Rel.rowC (Jbk M ts (l.args.take i)).1++V.int .i64 (Jbt M t.name)::List.replicate m (V.int .i64 0):=by
   have:=Jpg (Rel.rowC (Jbk M ts (l.args.take i)).1) (V.int .i64 0) (.int .i64 (Jbt M t.name)) (List.replicate m (V.int .i64 0))
   rwa [hrl]at this
  rw[sm]at st;have c4:=Jbx (l:=Rel.rowC (Jbk M ts (l.args.take i)).1++V.int .i64 (Jbt M t.name)::List.replicate m (V.int .i64 0)) hc3.lt;have fr4:Frm (fun x=>x=w1.next) w3 (w3.put w1.next (Rel.rowC (Jbk M ts (l.args.take i)).1++V.int .i64 (Jbt M t.name)::List.replicate m (V.int .i64 0))):=Jbj;obtain⟨w4,e4⟩:∃w4,w4=w3.put w1.next (Rel.rowC (Jbk M ts (l.args.take i)).1++V.int .i64 (Jbt M t.name)::List.replicate m (V.int .i64 0)):=⟨_,rfl⟩;rw[←e4]at st c4 fr4;have g0:=g.next;have n2:=r2.next;have hjn:jb≠w1.next:=by have:=(hO jb hjO).1;omega
  have htbn:tb≠w1.next:=by have:=hT.a.lt;omega
  have hmbn:mb≠w1.next:=by have:=hT.m.lt;omega
  have hT4:TabW tb mb tv' S' (Jbk M ts (l.args.take i)).2 w4:=(hTw.step0 r3).step fr4 htbn hmbn fun x hx h=>by subst h;exact hnS hx
  have g4:Frm (fun x=>S x∨x=tb∨x=mb) aw w4:=(g.trans r3 (fun _ _ h=>h) fun _ _ h=>h.elim).trans fr4 (fun _ _ h=>h) fun x hx h=>by omega
  have k0':w4.load w.next 0 1=some [.int .i64 (Int.ofNat t.kind)]:=CB.ld (c3.frm fr4 (by have:=hc.lt;omega)) 0 1 _ rfl;have k3':w4.load w.next 0 3=some (tmC t):=(c3.frm fr4 (by have:=hc.lt;omega)).all rfl;by_cases hk:t.kind=1
  ·have e:Jbk M ts (l.args.take (i+1))=((Jbk M ts (l.args.take i)).1++[Jbt M t.name],(Jbk M ts (l.args.take i)).2):=by
    rw[htk,JlT];exact if_pos hk
   rw[hk]at k0';have htl:(tmC t).length=3:=rfl;refine Fz (by simp only[go_sem,JaX,simprocAttr,Wk,UV,UU,f0,f5,f13,f14,f15,hil,la,htl,s3,k1,j12,hlk,FV,KC,FC,FD,st,k0',hwr];rfl) ?_;refine ih _ _ _ Fh ⟨i+1,tv',S',(Fg f0),(Fg f5),(Fg f13),(Fg f14),Fb,by rw[e];exact hT4,g4,hS',?_,hnS,by omega,rfl⟩;rw[e,hm'];have e5:Rel.rowC ((Jbk M ts (l.args.take i)).1++[Jbt M t.name])++List.replicate m (V.int .i64 0)=Rel.rowC (Jbk M ts (l.args.take i)).1++V.int .i64 (Jbt M t.name)::List.replicate m (V.int .i64 0):=by unfold Rel.rowC;rw[List.map_append,F6];rfl
   rw[e5];exact c4
  ·have e:Jbk M ts (l.args.take (i+1))=((Jbk M ts (l.args.take i)).1++[Int.ofNat (idT (Jbk M ts (l.args.take i)).2 (Jbb t)).1],(idT (Jbk M ts (l.args.take i)).2 (Jbb t)).2):=by
    rw[htk,JlT];exact if_neg hk
   have htl:(tmC t).length=3:=rfl;have j4:w4.load jb 4 1=some [.ptr tb 0]:=CB.ld ((hjw.frm r3 fun h=>h).frm fr4 hjn) 4 1 _ h4;have htsl:=(Jfv M ts (l.args.take i)).2;rw[FU,KD hi]at htsl;refine Fz (by simp only[go_sem,JaX,simprocAttr,Wk,UV,UU,Jad,f0,f5,f13,f14,f15,hil,la,htl,s3,k1,j12,hlk,FV,KC,FC,FD,st,k0',hk,j4,k3'];rfl) ?_;refine Ja0 Ff Fe ?_;rw[Jr2];refine Jky C hT4 Fh (hok t (FI ht) hk) fun w5 tv5 S5 q1 q2 q3=>?_
   have hw1n:¬(S' w1.next∨w1.next=tb∨w1.next=mb):=by
    rintro (h|h|h)
    ·exact hnS h
    ·exact htbn h.symm
    ·exact hmbn h.symm
   have c5:=c4.frm q2 hw1n;have n45:=q2.next;have st5:=c5.set (i:=i) (v:=.int .i64 (Int.ofNat (idT (Jbk M ts (l.args.take i)).2 (Jbb t)).1)) (by rw[FE,hrl,FC];omega) rfl
   have sm5:(Rel.rowC (Jbk M ts (l.args.take i)).1++V.int .i64 (Jbt M t.name)::List.replicate m (V.int .i64 0)).set i (.int .i64 (Int.ofNat (idT (Jbk M ts (l.args.take i)).2 (Jbb t)).1))=Rel.rowC (Jbk M ts (l.args.take i)).1++V.int .i64 (Int.ofNat (idT (Jbk M ts (l.args.take i)).2 (Jbb t)).1)::List.replicate m (V.int .i64 0):=by
    have:=Jpg (Rel.rowC (Jbk M ts (l.args.take i)).1) (V.int .i64 (Jbt M t.name)) (.int .i64 (Int.ofNat (idT (Jbk M ts (l.args.take i)).2 (Jbb t)).1)) (List.replicate m (V.int .i64 0))
    rwa [hrl]at this
   rw[sm5]at st5;have c6:=Jbx (l:=Rel.rowC (Jbk M ts (l.args.take i)).1++V.int .i64 (Int.ofNat (idT (Jbk M ts (l.args.take i)).2 (Jbb t)).1)::List.replicate m (V.int .i64 0)) c5.lt;have fr6:Frm (fun x=>x=w1.next) w5 (w5.put w1.next (Rel.rowC (Jbk M ts (l.args.take i)).1++V.int .i64 (Int.ofNat (idT (Jbk M ts (l.args.take i)).2 (Jbb t)).1)::List.replicate m (V.int .i64 0))):=Jbj
   have hnS5:¬S5 w1.next:=fun h=>by
    rcases q3 _ h with h|h
    ·exact hnS h
    ·have:=c4.lt;omega
   refine Fz (by simp only[go_sem,JaX,simprocAttr,f5,f15,hil,FV,KC,FC,FD,st5,hwr];rfl) ?_;refine ih _ _ _ Fh ⟨i+1,tv5,S5,(Fg f0),(Fg f5),(Fg f13),(Fg f14),Fb,by rw[e];exact q1.step fr6 htbn hmbn fun x hx h=>by subst h;exact hnS5 hx,?_,?_,?_,hnS5,by omega,rfl⟩
   ·refine (g4.trans q2 (fun _ _ h=>h) fun x hx h=>?_).trans fr6 (fun _ _ h=>h) fun x hx h=>by omega
    rcases h with h|h|h
    ·exact (hS' x h).imp id fun h=>by omega
    ·exact .inr (.inl h)
    ·exact .inr (.inr h)
   ·intro x hx;rcases q3 x hx with h|h
    ·exact hS' x h
    ·exact .inr (by have:=g4.next;omega)
   ·rw[e,hm'];have e5:Rel.rowC ((Jbk M ts (l.args.take i)).1++[Int.ofNat (idT (Jbk M ts (l.args.take i)).2 (Jbb t)).1])++List.replicate m (V.int .i64 0)=Rel.rowC (Jbk M ts (l.args.take i)).1++V.int .i64 (Int.ofNat (idT (Jbk M ts (l.args.take i)).2 (Jbb t)).1)::List.replicate m (V.int .i64 0):=by unfold Rel.rowC;rw[List.map_append,F6];rfl
    rw[e5];exact c6
 ·rintro f w ⟨tv',S',f5,hTw,g,hS',hc,hnS⟩;refine Fz (by simp only[go_sem,JaX,simprocAttr,f5];rfl) ?_;refine JaZ ⟨_,by simp only[go_sem,JaX,simprocAttr,Wl];rfl,?_⟩;refine h w _ tv' S' (fun x=>x=w1.next) (.blk rfl hc.lt hc.get (.inl rfl) (Jfv M ts l.args).1) hTw g hS' ?_;rintro x rfl;exact⟨by omega,hc.lt,hnS⟩
section
open Go.AE Delphi Val
variable {tab:Tab}
variable {l:List Int}
theorem JfP {T:Fw}{w:AW}{v:V}(h:Rel.RowV T w v l){i:Nat}{n:Int}(hi:l[i]? = some n):∃b c,v = .slice b 0 l.length c∧w.load b (0+i*1) 1=some [.int .i64 n]:=by
 rcases h.inv with⟨_,rfl⟩|⟨b,c,rfl,_,hb,hx⟩
 ·simp at hi
 ·exact⟨b,c,rfl,Rel.row_load hx hi⟩
theorem JhT {T:Fw}{w:AW}{v:V}(h:Rel.RowV T w v l):lenV v=some l.length:=by
 rcases h.inv with⟨rfl,rfl⟩|⟨b,c,rfl,_⟩<;>rfl
abbrev Vm:=List (List Nat×Int)
def Jbr:List Tm→List Int→Vm→Fx→(Vm×List (List Nat))×Bool
 | t::ts,n::ns,M,l2=>if t.kind≠1 then Jbr ts ns M l2 else match Ja1 M t.name with
  | some k=>if k=n then Jbr ts ns M l2 else ((M,l2),false)
  | none=>Jbr ts ns (Jb5 M t.name n) (l2++[t.name])
 | _,_,M,l2=>((M,l2),true)
theorem Jr0 (l:Fx)(s:List Nat):JbC (l++[s])=JbC l++[.str s]:=by simp[JbC]
theorem Juf (C:Codes tab){jb vb:Nat}{O R:Fw}{M:Vm}{l:Lt}{row:List Int}{xs cells:List V}{rv:V}{aw:AW}(hj:CB aw jb cells)(hjv:jb≠vb)(h12:Jbh 1 (cells.drop 12)=some [.map vb])(hM:SM aw vb M)(hx:LtC O aw l xs)(hO:∀x,O x→x≠vb)(hr:Rel.RowV R aw rv row)(hR:∀x,R x→x≠vb)(hal:l.args.length≤10)(hrl:row.length=l.args.length)(h:∀w v S M' l2 ok,Jbr l.args row M []=((M',l2),ok)→SM w vb M'→Bt S w v 1 l2.length (JbC l2)→Frm (fun x=>x=vb) aw w→(∀x,S x→aw.next≤x∧x<w.next)→K (.tuple [v,.bool ok]) w):WF tab GF [.ptr jb 0,.agg xs,rv] aw K:=by
 refine Ja7 C.Wr rfl ?_;obtain⟨xl,xo⟩:=hx.one;obtain⟨xv,rfl,hx⟩:=hx;obtain⟨w1,e1,c1,r1,m1⟩:=Jb8 aw [.int .i64 (Int.ofNat l.kind),.str l.name,xv];have a2:=CB.ld c1 2 1 _ rfl;have hxv:=hx.lenV;have hrv:=JhT hr;have hvl:=hM.lt;refine Fz (by simp only[go_sem,JaX,simprocAttr,Yo,Jal,e1,a2,hxv];rfl) ?_
 refine Jba (fun n f w=>∃i v S M' l2,f.get 0=some (.ptr jb 0)∧f.get 2=some rv∧f.get 8=some v∧f.get 14=some xv∧f.get 15=some (.int .i64 (Int.ofNat l.args.length))∧f.get 16=some (.int .i64 (Int.ofNat i))∧SM w vb M'∧Bt S w v 1 l2.length (JbC l2)∧Frm (fun x=>x=vb) aw w∧(∀x,S x→aw.next≤x∧x<w.next)∧Jbr l.args row M []=Jbr (l.args.drop i) (row.drop i) M' l2∧l2.length≤i∧i≤l.args.length∧n=l.args.length-i)
  (fun f w=>∃v S M' l2,f.get 8=some v∧SM w vb M'∧Bt S w v 1 l2.length (JbC l2)∧Frm (fun x=>x=vb) aw w∧(∀x,S x→aw.next≤x∧x<w.next)∧Jbr l.args row M []=((M',l2),true)) ?_ ?_ l.args.length
  ⟨0,.nilslice,fun _=>False,M,[],Fb,Fb,Fb,Fb,Fb,Fb,hM.frm r1 fun h=>h,.nil,r1.mono fun _ _ h=>h.elim,fun _ h=>h.elim,rfl,Nat.zero_le _,Nat.zero_le _,rfl⟩
 ·rintro n f w ⟨i,v,S,M',l2,f0,f2,f8,f14,f15,f16,hMw,hB,g,hS,hL,hl2,hi,rfl⟩ ih out;by_cases hil:i<l.args.length
  case neg =>
   obtain rfl:i=l.args.length:=Fh;rw[List.drop_length]at hL;have hL:Jbr l.args row M []=((M',l2),true):=by rw[hL];cases row.drop l.args.length<;>rfl
   refine Ja2 1000 (by simp only[go_sem,simprocAttr,ZD,f15,f16,hil];rfl) ?_;exact out _ _ _ ⟨v,S,M',l2,(Fg f8),hMw,hB,g,hS,hL⟩ rfl
  have hir:i<row.length:=Fh;obtain⟨t,ht⟩:∃t,l.args[i]? = some t:=⟨_,FB hil⟩;obtain⟨u,hu⟩:∃t,row[i]? = some t:=⟨_,FB hir⟩;have hda:l.args.drop i=t::l.args.drop (i+1):=by rw[FL hil];rw[FB hil]at ht;cases ht;rfl
  have hdb:row.drop i=u::row.drop (i+1):=by rw[FL hir];rw[FB hir]at hu;cases hu;rfl
  rw[hda,hdb]at hL;have hwr:IntKind.wrap .i64 (Int.ofNat i+1)=Int.ofNat (i+1):=Ja3 Fh;have hxw:=hx.frm g hO;have hrw:=hr.frm g hR;obtain⟨b,o,c,rfl,_,_,la,_⟩:=Jd5 hxw ht;obtain⟨w3,s3,c3,r3,n3⟩:=Jb1 w (zs:=[V.int .i64 0,V.str [],V.int .i64 0]) (vs:=tmC t) rfl rfl;have k0:w3.load w.next 0 1=some [.int .i64 (Int.ofNat t.kind)]:=CB.ld c3 0 1 _ rfl;have k1:w3.load w.next 1 1=some [.str t.name]:=CB.ld c3 1 1 _ rfl;have htl:(tmC t).length=3:=rfl;have g3:Frm (fun x=>x=vb) aw w3:=g.trans r3 (fun _ _ h=>h) fun _ _ h=>h.elim;have hM3:SM w3 vb M':=hMw.frm r3 fun h=>h;have hB3:=hB.frm r3 fun _ _ h=>h;have g0:=g.next;have n3':=r3.next;have hS3:∀x,S x→aw.next≤x∧x<w3.next:=fun x hx=>⟨(hS x hx).1,by have:=(hS x hx).2;omega⟩;by_cases hk:t.kind=1
  case neg =>
   have hL:Jbr l.args row M []=Jbr (l.args.drop (i+1)) (row.drop (i+1)) M' l2:=by rw[hL];exact if_pos hk
   refine Fz (by simp only[go_sem,JaX,simprocAttr,ZD,Yn,f14,f15,f16,hil,la,htl,s3,k0,hk,hwr];rfl) ?_;exact ih _ _ _ Fh ⟨i+1,v,S,M',l2,(Fg f0),(Fg f2),(Fg f8),(Fg f14),(Fg f15),Fb,hM3,hB3,g3,hS3,hL,by omega,by omega,rfl⟩
  rw[hk]at k0
  have hL:Jbr l.args row M []=(match Ja1 M' t.name with
   | some k=>if k=u then Jbr (l.args.drop (i+1)) (row.drop (i+1)) M' l2 else ((M',l2),false)
   | none=>Jbr (l.args.drop (i+1)) (row.drop (i+1)) (Jb5 M' t.name u) (l2++[t.name])):=by rw[hL];exact if_neg fun h=>h hk
  have j12:w3.load jb 12 1=some [.map vb]:=CB.ld ((hj.frm g hjv).frm r3 fun h=>h) 12 1 _ h12;have look:=hM3.look Jci (.int .i64 0) t.name;obtain⟨rb,rc,rfl,lr⟩:=JfP (hrw.frm r3 fun _ _ h=>h) hu;cases hag:Ja1 M' t.name with
  | some k =>
   rw[hag]at look hL;have look:w3.lookV (.scalar .str) (.int .i64 0) (.map vb) (.str t.name)=some (.int .i64 k,true):=look;by_cases hku:k=u
   ·have hku':(k != u)=false:=by simp[hku]
    have hL:Jbr l.args row M []=Jbr (l.args.drop (i+1)) (row.drop (i+1)) M' l2:=by rw[hL];exact if_pos hku
    refine Fz (by simp only[go_sem,JaX,simprocAttr,ZD,Yn,Wq,Wp,f0,f2,f14,f15,f16,hil,hir,la,htl,s3,k0,k1,j12,look,lr,hku',hwr];rfl) ?_;exact ih _ _ _ Fh ⟨i+1,v,S,M',l2,(Fg f0),(Fg f2),(Fg f8),(Fg f14),(Fg f15),Fb,hM3,hB3,g3,hS3,hL,by omega,by omega,rfl⟩
   ·have hku':(k != u)=true:=by simp[hku]
    have hL:Jbr l.args row M []=((M',l2),false):=by rw[hL];exact if_neg hku
    refine Fz (by simp only[go_sem,JaX,simprocAttr,ZD,Yn,Wq,Wp,Jai,f0,f2,f8,f14,f15,f16,hil,hir,la,htl,s3,k0,k1,j12,look,lr,hku'];rfl) ?_;refine JaZ ⟨_,by simp only[go_sem,JaX,simprocAttr,Yo];rfl,?_⟩;exact h w3 v S M' l2 false hL hM3 hB3 g3 hS3
  | none =>
   rw[hag]at look hL;have look:w3.lookV (.scalar .str) (.int .i64 0) (.map vb) (.str t.name)=some (.int .i64 0,false):=look;have hL:Jbr l.args row M []=Jbr (l.args.drop (i+1)) (row.drop (i+1)) (Jb5 M' t.name u) (l2++[t.name]):=hL;obtain⟨w4,p1,p2,p3,p4⟩:=hM3.put Jci t.name u;have hvb4:w.next≠vb:=Fh;have k1':w4.load w.next 1 1=some [.str t.name]:=CB.ld (c3.frm p3 hvb4) 1 1 _ rfl;have hB4:=hB3.frm p3 fun x hx h=>by have:=(hS x hx).1;omega
   obtain⟨v',w5,S5,u1,u2,u3,u4⟩:=hB4.push (news:=[V.str t.name]) (bytes:=16) (fun b hb=>by have:=(hS3 b hb).2;omega) Fh rfl rfl Fh Fh;have hel:(w4.fresh [V.str t.name]).elems 1 (.slice w4.next 0 1 (.known 1))=some (1,[V.str t.name]):=JbH Fh rfl;have hov:over [V.str []] 0 [V.str t.name]=some [V.str t.name]:=rfl;refine Fz (by simp only[go_sem,JaX,simprocAttr,ZD,Yn,Wq,Wp,Jak,Jaj,f0,f2,f8,f14,f15,f16,hil,hir,la,htl,s3,k0,k1,j12,look,lr,p1,k1',Ja4,Jbe,hov,FC,FD,hel,u1,hwr];rfl) ?_;have n5:=u3.next;refine ih _ _ _ Fh ⟨i+1,v',S5,Jb5 M' t.name u,l2++[t.name],(Fg f0),(Fg f2),Fb,(Fg f14),(Fg f15),Fb,p2.frm u3 fun h=>by have:=(hS _ h).1;omega,by rw[Jr0,FE];exact u2,(g3.trans p3 (fun _ _ h=>h) fun _ _ h=>h).trans u3 (fun _ _ h=>h) (fun x hx h=>by have:=(hS x h).1;omega),fun x hx=>?_,hL,by rw[FE];simp;omega,by omega,rfl⟩;refine⟨?_,(u4 x hx).1⟩;rcases (u4 x hx).2 with h|h
   ·exact (hS x h).1
   ·omega
 ·rintro f w ⟨v,S,M',l2,f8,hMw,hB,g,hS,hL⟩;refine Fz (by simp only[go_sem,JaX,simprocAttr,f8];rfl) ?_;refine JaZ ⟨_,by simp only[go_sem,JaX,simprocAttr,Yo];rfl,?_⟩;exact h w v S M' l2 true hL hMw hB g hS
end
section
open Go.AE Delphi Val
variable {tab:Tab}
end
end Go.Proofs.YtegdcbdicpfbpaaGreatDoor
namespace Delphi
theorem Jg8 {p:Nat→Bool}(l:List Nat):l.take (l.takeWhile p).length=l.takeWhile p:=by
 have:=(List.takeWhile_prefix (p:=p) (l:=l));exact (List.prefix_iff_eq_take.1 this).symm
def Jvg (w:Wd):Prop:=∃u,(Ja9 u).2≠0∧w.kind=(Ja9 u).1∧w.text=u.take (Ja9 u).2∧¬((Ja9 u).1≠4∧16<(Ja9 u).2)
theorem JkQ:∀(n at':Nat) (s:List Nat),s.length≤n→∀w∈(scan at' s).1,Jvg w
 | n,at',s,hn=>by
  rw[Jg6];split
  ·intro w hw;simp at hw
  ·rename_i c t hd;split
   ·intro w hw;simp at hw
   ·rename_i hbad;have hb:=JfJ false s;have hlen:(c::t).length=s.length-blk false s:=by rw[←hd];simp
    have hm:(Ja9 (c::t)).2≠0:=fun he=>hbad (.inl he);have hl2:((c::t).drop (Ja9 (c::t)).2).length<s.length:=by simp only[Ki,FC]at *;omega
    intro w hw;rcases List.mem_cons.1 hw with rfl|hw
    ·exact⟨c::t,hm,rfl,rfl,fun h=>hbad (.inr h)⟩
    ·match n,hn with
     | 0,hn=>simp only[FC]at hlen;omega
     | n+1,hn=>exact JkQ n _ _ Fh w hw
section
def Gap (g:List Nat):Prop:=∀(r:List Nat),blk false (g++r)=g.length+blk false r
theorem Gap.scan {g:List Nat}(h:Gap g)(n:Nat)(r:List Nat):scan n (g++r)=scan (n+g.length) r:=by
 have:=JlU n (g++r) g.length (by rw[List.drop_left];exact h r);rw[List.drop_left]at this;exact this
structure Tok where
 gap:List Nat
 kind:Nat
 text:List Nat
def Tok.wd (t:Tok):Wd:=⟨t.kind,t.text,0⟩
def Ji4 (s:List Nat):Prop:=∃c t,s=c::t∧JdK c=true∧(∀x∈s,JbG x=true)∧s.length≤16
def JvZ (s:List Nat):Prop:=∃c t,s=c::t∧Je1 c=true∧(∀x∈s,Jcx x=true)∧s.length≤16
def JvA (s:List Nat):Prop:=s.length≤16∧((s=[48])∨∃m c t,s=m++c::t∧(m=[]∨m=[45])∧Jbp c=true∧c≠48∧∀x∈t,Jbp x=true)
end
section
end
section
variable (fm:Int→List Nat)
def At (ws:List Wd) (k:Nat) (l:List Wd):Prop:=l <+: ws.drop k
variable {ws l:List Wd}
theorem At.head {k:Nat}{w:Wd}(h:At ws k (w::l)):ws[k]? = some w∧At ws (k+1) l:=by
 obtain⟨r,hr⟩:=h
 have hlt:k<ws.length:=by
  have:=congrArg List.length hr;simp at this;omega
 rw[FL hlt]at hr;rw[List.cons_append]at hr;injection hr with h1 h2
 exact⟨by rw[FB hlt,h1],r,h2⟩
theorem At.le {k:Nat}(h:At ws k l)(hk:k≤ws.length):k+l.length≤ws.length:=by
 have:=h.length_le;rw[Ki]at this;omega
def Jwr:Prop:=∀n:Int,n.natAbs≤2147483648→Jf0 (fm n)=n.natAbs∧((fm n).head? = some 45↔n<0)
def TmW (t:Tm):Prop:=(t.kind=1∧t.num=0)∨(t.kind=2∧t.num=0)∨(t.kind=3∧t.name=[]∧t.num.natAbs≤2147483648)
structure LtW (l:Lt):Prop where
 kind:(l.kind=1∨l.kind=2)∨(3≤l.kind∧l.kind≤6∧l.args.length=2∧l.name=[])
 tm:∀t∈l.args,TmW t
variable {fm}
end
section
variable {fm:Int→List Nat}
def Jws (l:Lt):Prop:=l.args.length≤4
structure RlW (r:Rl):Prop where
 hk:r.head.kind=1
 ht:∀t∈r.head.args,TmW t
 bd:∀l∈r.body,LtW l
structure RlL (r:Rl):Prop where
 hd:r.head.args.length≤4
 bd:r.body.length≤6
 ls:∀l∈r.body,Jws l
theorem Jqq {ws:List Wd}{q:Nat}{l:List Rl}{k e:Nat}(h:e≠0):Jcz ws q l k e=(l,k,e):=by
 cases q with
 | zero=>rfl
 | succ q=>simp only[Jcz];rw[if_neg (fun hh=>h hh.1)]
end
section
variable (fm:Int→List Nat)
variable {fm}
def TmX (fm:Int→List Nat) (t:Tm):Prop:=(t.kind=1→JvZ t.name)∧(t.kind=2→Ji4 t.name)∧(t.kind=3→JvA (fm t.num))
structure LtX (fm:Int→List Nat) (l:Lt):Prop where
 w:LtW l
 nm:l.kind=1∨l.kind=2→Ji4 l.name
 tm:∀t∈l.args,TmX fm t
structure RlX (fm:Int→List Nat) (r:Rl):Prop where
 w:RlW r
 nm:Ji4 r.head.name
 tm:∀t∈r.head.args,TmX fm t
 bd:∀l∈r.body,LtX fm l
end
section
open Go.AE
variable [Globs]
theorem JeS:∀(n m:Nat),m≤n→(∀x∈Jd1 m,Jbp x=true)∧(Jd1 m).foldl Jex 0=m∧∃c t,Jd1 m=c::t∧(m≠0→c≠48)
 | n,m,h=>by
  by_cases hs:m<10
  ·rw[Jhv hs];refine⟨fun x hx=>?_,?_,48+m,[],rfl,fun h=>by omega⟩
   ·simp only[FJ,F3,or_false]at hx;subst hx;simp only[Jbp,FT,decide_eq_true_eq];omega
   ·simp only[Ku,List.foldl_nil,Jex];rw[if_neg Fh];omega
  ·match n,h with
   | 0,h=>omega
   | n+1,h =>
    obtain⟨h1,h2,c,t,h3,h4⟩:=JeS n (m / 10) Fh;rw[Jlt hs];refine⟨fun x hx=>?_,?_,c,t++[48+m % 10],by rw[h3];rfl,fun _=>h4 Fh⟩
    ·rcases List.mem_append.1 hx with hx|hx
     ·exact h1 x hx
     ·simp only[FJ,F3,or_false]at hx;subst hx;simp only[Jbp,FT,decide_eq_true_eq];omega
    ·rw[List.foldl_append,h2];simp only[Ku,List.foldl_nil,Jex];rw[if_neg Fh];omega
theorem Jhu:∀(k m:Nat),m<10 ^ k→0<k→(Jd1 m).length≤k
 | 0,m,h,h0=>by omega
 | k+1,m,h,h0=>by
  by_cases hs:m<10
  ·rw[Jhv hs];simp
  ·rw[Jlt hs,FE,Kb]
   have hk:0<k:=by
    by_cases hk:k=0
    ·subst hk;simp at h;omega
    ·omega
   have:=Jhu k (m / 10) (by rw[Nat.pow_succ]at h;omega) hk;omega
theorem Jrd:Jwr Jc6:=by
 intro n hn;cases n with
 | ofNat m =>
  obtain⟨h1,h2,c,t,h3,_⟩:=JeS m m (FH _);refine⟨h2,?_⟩;show (Jd1 m).head? = some 45↔_;rw[h3];simp only[List.head?_cons,FQ];have hc:=h1 c (by rw[h3];simp);constructor
  ·rintro rfl;exact absurd hc (by decide)
  ·intro h;exact absurd h Fj
 | negSucc m =>
  obtain⟨h1,h2,c,t,h3,_⟩:=JeS (m+1) (m+1) (FH _);refine⟨?_,?_⟩
  ·show (45::Jd1 (m+1)).foldl Jex 0=m+1;rw[Ku];have:Jex 0 45=0:=by simp[Jex]
   rw[this];exact h2
  ·show (45::Jd1 (m+1)).head? = some 45↔_;simp only[List.head?_cons,true_iff];exact Int.negSucc_lt_zero m
theorem JoM {n:Int}(hn:n.natAbs≤2147483648):JvA (Jc6 n):=by
 cases n with
 | ofNat m =>
  have hn:m≤2147483648:=hn;obtain⟨h1,h2,c,t,h3,h4⟩:=JeS m m (FH _);have hl:=Jhu 10 m Fh Fh;refine⟨by show (Jd1 m).length≤16;omega,?_⟩;show Jd1 m=[48]∨_;by_cases h0:m=0
  ·subst h0;left;exact Jhv Fh
  ·right;exact⟨[],c,t,by rw[List.nil_append];exact h3,.inl rfl,h1 c (by rw[h3];simp),h4 h0,fun x hx=>h1 x (by rw[h3];simp[hx])⟩
 | negSucc m =>
  have hn:m+1≤2147483648:=hn;obtain⟨h1,h2,c,t,h3,h4⟩:=JeS (m+1) (m+1) (FH _);have hl:=Jhu 10 (m+1) Fh Fh;refine⟨by show (45::Jd1 (m+1)).length≤16;rw[FC];omega,.inr ⟨[45],c,t,?_,.inr rfl,h1 c (by rw[h3];simp),h4 Fh,fun x hx=>h1 x (by rw[h3];simp[hx])⟩⟩;show 45::Jd1 (m+1)=_;rw[h3];rfl
structure WdG (w:Wd):Prop where
 lo:1≤w.kind
 hi:w.kind≤4
 nm:w.kind=1→Ji4 w.text
 vr:w.kind=2→JvZ w.text
omit [Globs] in
theorem JvK {w:Wd}(h:Jvg w):WdG w:=by
 obtain⟨u,h1,h2,h3,h4⟩:=h;cases u with
 | nil=>exact absurd rfl h1
 | cons c t =>
  have h16:w.kind≠4→w.text.length≤16:=by
   intro hk;rw[h3,FU];have:¬16<(Ja9 (c::t)).2:=fun h=>h4 ⟨by rw[←h2];exact hk,h⟩;omega
  by_cases hs:JdK c=true
  ·have e:Ja9 (c::t)=(1,((c::t).takeWhile JbG).length):=by simp only[Ja9,hs,if_true]
   rw[e]at h2 h3;simp only at h2 h3;rw[Jg8]at h3;have hn:JbG c=true:=by simp[JbG,hs]
   refine⟨by omega,by omega,fun _=>⟨c,t.takeWhile JbG,by rw[h3,List.takeWhile_cons_of_pos hn],hs,fun x hx=>?_,h16 Fh⟩,(fun h=>by omega)⟩;rw[h3]at hx;exact (List.all_eq_true.1 (List.all_takeWhile (p:=JbG) (l:=c::t))) x hx
  ·by_cases hg:Je1 c=true
   ·have e:Ja9 (c::t)=(2,((c::t).takeWhile Jcx).length):=by simp only[Ja9,hs,hg,if_true,FM,if_false]
    rw[e]at h2 h3;simp only at h2 h3;rw[Jg8]at h3;have hn:Jcx c=true:=by simp[Jcx,hg]
    refine⟨by omega,by omega,fun h=>by omega,fun _=>⟨c,t.takeWhile Jcx,by rw[h3,List.takeWhile_cons_of_pos hn],hg,fun x hx=>?_,h16 Fh⟩⟩;rw[h3]at hx;exact (List.all_eq_true.1 (List.all_takeWhile (p:=Jcx) (l:=c::t))) x hx
   ·have hk:w.kind=3∨w.kind=4:=by
     rw[h2];revert h1;simp only[Ja9,hs,hg,FM,if_false];split
     ·intro _;exact .inl rfl
     ·split
      ·intro _;exact .inr rfl
      ·intro h;exact absurd rfl h
    rcases hk with hk|hk
    ·exact⟨by omega,by omega,fun h=>by omega,fun h=>by omega⟩
    ·exact⟨by omega,by omega,fun h=>by omega,fun h=>by omega⟩
def TG (t:Tm):Prop:=TmW t∧TmX Jc6 t
variable {ws:List Wd} {k e:Nat}
theorem Jlb (hw:∀w∈ws,WdG w)(h:(Jbl ws k e).2.2=0):TG (Jbl ws k e).1:=by
 unfold Jbl at h ⊢;cases hn:JdT ws k e with
 | none =>
  rw[hn]at h;simp only[Jdj]at h;split at h
  ·omega
  ·contradiction
 | some w =>
  rw[hn]at h;simp only at h ⊢;obtain⟨_,_,hm⟩:=Jj5 hn;have hg:=hw w (FI hm);by_cases h4:w.kind=4
  ·rw[if_pos h4]at h;simp at h
  ·rw[if_neg h4]at h ⊢;by_cases h1:w.kind=1
   ·rw[if_pos h1];exact⟨.inr (.inl ⟨rfl,rfl⟩),(fun h=>by cases h),(fun _=>hg.nm h1),(fun h=>by cases h)⟩
   ·rw[if_neg h1]at h ⊢;by_cases h2:w.kind=2
    ·rw[if_pos h2];exact⟨.inl ⟨rfl,rfl⟩,(fun _=>hg.vr h2),(fun h=>by cases h),(fun h=>by cases h)⟩
    ·rw[if_neg h2]at h ⊢;by_cases hb:2147483648<Jf0 w.text
     ·rw[if_pos hb]at h;simp at h
     ·rw[if_neg hb];have ha:(if w.text.head? = some 45 then -(Jf0 w.text:Int)else (Jf0 w.text:Int)).natAbs≤2147483648:=by split<;>omega
      exact⟨.inr (.inr ⟨rfl,rfl,ha⟩),(fun h=>by cases h),(fun h=>by cases h),(fun _=>JoM ha)⟩
omit [Globs] in
theorem JlQ {n:Nat}{l:List Tm}(h:e≠0):Jde ws n l k e=(l,k,e):=by
 cases n with
 | zero=>rfl
 | succ n=>simp only[Jde,if_neg h]
theorem Jo9 {ws:List Wd}(hw:∀w∈ws,WdG w):∀(n:Nat) (args:List Tm) (k e:Nat),(∀t∈args,TG t)→args.length≤4→(Jde ws n args k e).2.2=0→(∀t∈(Jde ws n args k e).1,TG t)∧(Jde ws n args k e).1.length≤4
 | 0,args,k,e,h,hl,_=>⟨h,hl⟩
 | n+1,args,k,e,h,hl,he=>by
  by_cases h0:e=0
  case neg=>rw[JlQ h0]at he;exact absurd he h0
  subst h0;simp only[Jde,if_true]at he ⊢
  have hz:(if (Jbl ws k 0).2.2=0∧args.length=4 then 8 else (Jbl ws k 0).2.2)=0:=by
   by_cases hc:Jcg ws (Jbl ws k 0).2.1 [44]=true
   ·rw[if_pos hc]at he;by_cases hz:(if (Jbl ws k 0).2.2=0∧args.length=4 then 8 else (Jbl ws k 0).2.2)=0
    ·exact hz
    ·rw[JlQ hz]at he;exact he
   ·rw[if_neg hc]at he;exact he
  have hr:(Jbl ws k 0).2.2=0∧args.length≠4:=by
   by_cases hc:(Jbl ws k 0).2.2=0∧args.length=4
   ·rw[if_pos hc]at hz;omega
   ·rw[if_neg hc]at hz;exact⟨hz,fun h=>hc ⟨hz,h⟩⟩
  have ht:=Jlb hw hr.1
  have hall:∀t∈args++[(Jbl ws k 0).1],TG t:=by
   intro t hm;rcases List.mem_append.1 hm with hm|hm
   ·exact h t hm
   ·simp only[FJ,F3,or_false]at hm;subst hm;exact ht
  have hl':(args++[(Jbl ws k 0).1]).length≤4:=by simp;omega
  split
  ·rename_i hc;rw[if_pos hc]at he;exact Jo9 hw n _ _ _ hall hl' he
  ·exact⟨hall,hl'⟩
structure AtG (l:Lt):Prop where
 kind:l.kind=1
 nm:Ji4 l.name
 tm:∀t∈l.args,TG t
 four:l.args.length≤4
theorem Jk9 (hw:∀w∈ws,WdG w)(h:(Jbm ws k e).2.2=0):AtG (Jbm ws k e).1:=by
 unfold Jbm at h ⊢;cases hn:JdT ws k e with
 | none =>
  rw[hn]at h;simp only[Jdj]at h;split at h
  ·omega
  ·contradiction
 | some w =>
  rw[hn]at h;simp only at h ⊢;obtain⟨_,_,hm⟩:=Jj5 hn;have hg:=hw w (FI hm);by_cases h1:w.kind=1
  ·rw[if_pos h1]at h ⊢;by_cases hs:Jcg ws (k+1) [40]=true
   ·rw[if_pos hs]at h ⊢;simp only at h ⊢;have he:=JnA h;obtain⟨q1,q2⟩:=Jo9 hw (ws.length+1) [] (k+2) e Fj Fj he;exact⟨rfl,hg.nm h1,q1,q2⟩
   ·rw[if_neg hs]at h ⊢;exact⟨rfl,hg.nm h1,by simp,by simp⟩
  ·rw[if_neg h1]at h;simp at h
structure LG (l:Lt):Prop where
 x:LtX Jc6 l
 four:l.args.length≤4
omit [Globs] in
theorem AtG.lit {l:Lt}(h:AtG l):LG l:=⟨⟨⟨.inl (.inl h.kind),fun t ht=>(h.tm t ht).1⟩,fun _=>h.nm,fun t ht=>(h.tm t ht).2⟩,h.four⟩
omit [Globs] in
theorem Jl8 {s:List Nat}(h:Jcu s≠0):3≤Jcu s∧Jcu s≤6:=by
 unfold Jcu at h ⊢;split
 ·omega
 ·split
  ·omega
  ·split
   ·omega
   ·split
    ·omega
    ·rename_i h1 h2 h3 h4;rw[if_neg h1,if_neg h2,if_neg h3,if_neg h4]at h;exact absurd rfl h
theorem JvU (hw:∀w∈ws,WdG w)(h:(Jcn ws k e).2.2=0):LG (Jcn ws k e).1:=by
 unfold Jcn at h ⊢;by_cases h33:Jcg ws k [33]=true
 ·rw[if_pos h33]at h ⊢;simp only at h ⊢;have:=Jk9 hw h;exact⟨⟨⟨.inl (.inr rfl),fun t ht=>(this.tm t ht).1⟩,fun _=>this.nm,fun t ht=>(this.tm t ht).2⟩,this.four⟩
 ·rw[if_neg h33]at h ⊢;by_cases h1:JgJ ws k=1∧JbS ws (k+1)=0
  ·rw[if_pos h1]at h ⊢;exact (Jk9 hw h).lit
  ·rw[if_neg h1]at h ⊢;simp only at h ⊢;by_cases hc:(Jbl ws k e).2.2≠0∨JbS ws (Jbl ws k e).2.1=0
   ·rw[if_pos hc]at h;simp only[Jdj]at h;split at h
    ·omega
    ·contradiction
   ·rw[if_neg hc]at h ⊢;simp only at h ⊢
    have ha0:(Jbl ws k e).2.2=0:=by
     by_cases hz:(Jbl ws k e).2.2=0
     ·exact hz
     ·exact absurd (.inl hz) hc
    have hz:JbS ws (Jbl ws k e).2.1≠0:=fun hz=>hc (.inr hz);have ha:=Jlb hw ha0;have hb:=Jlb hw h
    have hk:3≤JbS ws (Jbl ws k e).2.1∧JbS ws (Jbl ws k e).2.1≤6:=by
     unfold JbS at hz ⊢;split at hz
     ·split at hz
      ·rename_i h4;rw[if_pos h4];exact Jl8 hz
      ·exact absurd rfl hz
     ·exact absurd rfl hz
    have hT:∀t∈[(Jbl ws k e).1,(Jbl ws ((Jbl ws k e).2.1+1) (Jbl ws k e).2.2).1],TG t:=by
     intro t ht;simp only[FJ,F3,or_false]at ht;rcases ht with rfl|rfl
     ·exact ha
     ·exact hb
    refine⟨⟨⟨.inr ⟨hk.1,hk.2,rfl,rfl⟩,fun t ht=>(hT t ht).1⟩,fun h=>?_,fun t ht=>(hT t ht).2⟩,by simp⟩;simp only at h;omega
omit [Globs] in
theorem JlR {n:Nat}{l:List Lt}(h:e≠0):Jcf ws n l k e=(l,k,e):=by
 cases n with
 | zero=>rfl
 | succ n=>simp only[Jcf,if_neg h]
theorem Jpa {ws:List Wd}(hw:∀w∈ws,WdG w):∀(n:Nat) (l:List Lt) (k e:Nat),(∀t∈l,LG t)→l.length≤6→(Jcf ws n l k e).2.2=0→(∀t∈(Jcf ws n l k e).1,LG t)∧(Jcf ws n l k e).1.length≤6
 | 0,l,k,e,h,hl,_=>⟨h,hl⟩
 | n+1,l,k,e,h,hl,he=>by
  by_cases h0:e=0
  case neg=>rw[JlR h0]at he;exact absurd he h0
  subst h0;simp only[Jcf,if_true]at he ⊢
  have hz:(if (Jcn ws k 0).2.2=0∧l.length=6 then 8 else (Jcn ws k 0).2.2)=0:=by
   by_cases hc:Jcg ws (Jcn ws k 0).2.1 [44]=true
   ·rw[if_pos hc]at he;by_cases hz:(if (Jcn ws k 0).2.2=0∧l.length=6 then 8 else (Jcn ws k 0).2.2)=0
    ·exact hz
    ·rw[JlR hz]at he;exact he
   ·rw[if_neg hc]at he;exact he
  have hr:(Jcn ws k 0).2.2=0∧l.length≠6:=by
   by_cases hc:(Jcn ws k 0).2.2=0∧l.length=6
   ·rw[if_pos hc]at hz;omega
   ·rw[if_neg hc]at hz;exact⟨hz,fun h=>hc ⟨hz,h⟩⟩
  have ht:=JvU hw hr.1
  have hall:∀t∈l++[(Jcn ws k 0).1],LG t:=by
   intro t hm;rcases List.mem_append.1 hm with hm|hm
   ·exact h t hm
   ·simp only[FJ,F3,or_false]at hm;subst hm;exact ht
  have hl':(l++[(Jcn ws k 0).1]).length≤6:=by simp;omega
  split
  ·rename_i hc;rw[if_pos hc]at he;exact Jpa hw n _ _ _ hall hl' he
  ·exact⟨hall,hl'⟩
def RG (r:Rl):Prop:=RlX Jc6 r∧RlL r
theorem JrJ (hw:∀w∈ws,WdG w)(h:(JbI ws k e).2.2=0):RG (JbI ws k e).1:=by
 unfold JbI at h ⊢;simp only at h ⊢;have he:=JnA h
 have hb:(Jbm ws k e).2.2=0∧(∀t∈(if Jcg ws (Jbm ws k e).2.1 [58,45]=true∧(Jbm ws k e).2.2=0 then Jcf ws (ws.length+1) [] ((Jbm ws k e).2.1+1) (Jbm ws k e).2.2 else ([],(Jbm ws k e).2.1,(Jbm ws k e).2.2)).1,LG t)∧(if Jcg ws (Jbm ws k e).2.1 [58,45]=true∧(Jbm ws k e).2.2=0 then Jcf ws (ws.length+1) [] ((Jbm ws k e).2.1+1) (Jbm ws k e).2.2 else ([],(Jbm ws k e).2.1,(Jbm ws k e).2.2)).1.length≤6:=by
  split at he
  ·rename_i hc;rw[if_pos hc];obtain⟨q1,q2⟩:=Jpa hw (ws.length+1) [] ((Jbm ws k e).2.1+1) (Jbm ws k e).2.2 Fj Fj he;exact⟨hc.2,q1,q2⟩
  ·rename_i hc;rw[if_neg hc];exact⟨he,by simp,by simp⟩
 obtain⟨h0,hb1,hb2⟩:=hb;have ha:=Jk9 hw h0;generalize (if Jcg ws (Jbm ws k e).2.1 [58,45]=true∧(Jbm ws k e).2.2=0 then Jcf ws (ws.length+1) [] ((Jbm ws k e).2.1+1) (Jbm ws k e).2.2 else ([],(Jbm ws k e).2.1,(Jbm ws k e).2.2))=b at hb1 hb2;exact⟨⟨⟨ha.kind,fun t ht=>(ha.tm t ht).1,fun l hl=>(hb1 l hl).x.w⟩,ha.nm,fun t ht=>(ha.tm t ht).2,fun l hl=>(hb1 l hl).x⟩,ha.four,hb2,fun l hl=>(hb1 l hl).four⟩
theorem JnC {ws:List Wd}(hw:∀w∈ws,WdG w):∀(n:Nat) (l:List Rl) (k e:Nat),(∀t∈l,RG t)→l.length≤30→(Jcz ws n l k e).2.2=0→(∀t∈(Jcz ws n l k e).1,RG t)∧(Jcz ws n l k e).1.length≤30
 | 0,l,k,e,h,hl,_=>⟨h,hl⟩
 | n+1,l,k,e,h,hl,he=>by
  by_cases hc:e=0∧k<ws.length
  case neg=>simp only[Jcz,if_neg hc];exact⟨h,hl⟩
  simp only[Jcz,if_pos hc]at he ⊢
  have hz:(if (JbI ws k e).2.2=0∧l.length=30 then 8 else (JbI ws k e).2.2)=0:=by
   by_cases hz:(if (JbI ws k e).2.2=0∧l.length=30 then 8 else (JbI ws k e).2.2)=0
   ·exact hz
   ·rw[Jqq hz]at he;exact he
  have hr:(JbI ws k e).2.2=0∧l.length≠30:=by
   by_cases hc:(JbI ws k e).2.2=0∧l.length=30
   ·rw[if_pos hc]at hz;omega
   ·rw[if_neg hc]at hz;exact⟨hz,fun h=>hc ⟨hz,h⟩⟩
  have ht:=JrJ hw hr.1;refine JnC hw n _ _ _ (fun t hm=>?_) (by simp;omega) he;rcases List.mem_append.1 hm with hm|hm
  ·exact h t hm
  ·simp only[FJ,F3,or_false]at hm;subst hm;exact ht
theorem JhQ (s:List Nat):(∀r∈(JdD s).1,RG r)∧(JdD s).1.length≤30:=by
 unfold JdD;split
 ·simp
 ·have hw:∀w∈(scan 0 s).1,WdG w:=fun w hw=>JvK (JkQ _ 0 s (FH _) w hw);have hG:=JnC hw ((scan 0 s).1.length+1) [] 0 0 Fj Fj;simp only;generalize Jcz (scan 0 s).1 ((scan 0 s).1.length+1) [] 0 0=r at hG ⊢;by_cases he:Jdj r.2.2 (if (scan 0 s).2=true then 0 else 4)=0
  ·rw[if_pos he]
   have h0:r.2.2=0:=by
    unfold Jdj at he;split at he
    ·assumption
    ·exact he
   exact hG h0
  ·rw[if_neg he];simp
end
end Delphi
namespace Go.Proofs.YtegdcbdicpfbpaaGreatDoor
open Go.AE Delphi Val
variable {tab:Tab}
section
open Go.AE Delphi Val
variable {tab:Tab}
theorem Jvp (a b:List Nat)(h:a.length+b.length≤100000000000000000):∃c,c=a++b∧Jck BinOp.add a b=some (.str c):=by
 refine⟨_,rfl,?_⟩;simp only[Jck];rw[if_pos Fh]
end
section
open Go.AE Delphi Val
variable {tab:Tab}
def Jek (most:Int) (n:Nat):Bool:=decide (0≤most)&&decide (most<Int.ofNat n)
variable {cells:List V} {K:V→AW→Prop}
theorem Juq (C:Codes tab){jb width:Nat}{S:Fw}{op:V}{rows:Fy}{most:Int}{aw:AW}(hj:CB aw jb cells)(h13:Jbh 1 (cells.drop 13)=some [op])(h14:Jbh 1 (cells.drop 14)=some [.int .i64 most])(hs:Rel.SetOf S aw op width rows)(h:K (.bool (Jek most rows.length)) aw):WF tab GE [.ptr jb 0] aw K:=by
 refine Ja7 C.Wj rfl ?_;have j13:aw.load jb 13 1=some [op]:=CB.ld hj 13 1 _ h13;have j14:aw.load jb 14 1=some [.int .i64 most]:=CB.ld hj 14 1 _ h14;by_cases h0:0≤most
 ·have e:Jek most rows.length=decide (most<Int.ofNat rows.length):=by unfold Jek;rw[decide_eq_true h0,Bool.true_and]
  rw[e]at h;have hge:decide (most≥0)=true:=decide_eq_true h0;refine Fz (by simp only[go_sem,JaX,simprocAttr,ZC,UT];rfl) ?_;refine JbM ?_;refine Jbn 100 (by simp only[go_sem,JaX,simprocAttr,j14,hge,h0,j13];rfl) ?_;refine Jb4 Ff Fe ?_;refine Rel.len_ok C hs ?_;refine Jbn 100 (by simp only[go_sem,JaX,simprocAttr,j14];rfl) ?_;refine JbO ⟨(show Jbg _ _ [(14,10)]from by simp only[go_sem,JaX,simprocAttr,Jbg,chk,List.reverse_cons,List.reverse_nil,JbE,JbR,JbP,JbQ,List.getElem?_nil,false_or,or_true,or_false,exists_eq',FQ,Prod.mk.injEq,Bool.true_eq_false,FM,and_true,true_and,implies_true,j14]),?_⟩;refine JaY 1000 Fe ?_;refine JaZ ⟨_,by simp only[go_sem,JaX,simprocAttr,ZC];rfl,?_⟩;exact h
 ·have e:Jek most rows.length=false:=by unfold Jek;rw[decide_eq_false h0,Bool.false_and]
  rw[e]at h;have hge:decide (most≥0)=false:=decide_eq_false h0;refine Fz (by simp only[go_sem,JaX,simprocAttr,ZC,UT];rfl) ?_;refine JbM ?_;refine Jbn 100 (by simp only[go_sem,JaX,simprocAttr,j14,hge,h0];rfl) ?_;refine JbO ⟨(show Jbg _ _ [(14,10)]from by simp only[go_sem,JaX,simprocAttr,Jbg,chk,List.reverse_cons,List.reverse_nil,JbE,JbR,JbP,JbQ,List.getElem?_nil,false_or,or_true,or_false,exists_eq',FQ,Prod.mk.injEq,Bool.true_eq_false,FM,and_true,true_and,implies_true,j14,true_or]),?_⟩;refine JaY 1000 Fe ?_;refine JaZ ⟨_,by simp only[go_sem,JaX,simprocAttr,ZC];rfl,?_⟩;exact h
def JcX (M:Vm) (l:Fx):List Nat:=l.flatMap fun v=>32::Jc6 (Jbt M v)
def Jfd (M:Vm) (k:Nat) (l:Fx):List Nat:=Jc6 (Int.ofNat k)++JcX M l
theorem Jnf (M:Vm)(l:Fx)(v:List Nat):JcX M (l++[v])=JcX M l++32::Jc6 (Jbt M v):=by simp[JcX]
def JgB (tab:Tab):Prop:=∀n aw,-9223372036854775808≤n→n≤9223372036854775807→CallR tab YJ [.int .i64 n] aw (.str (Jc6 n)) aw
theorem JmX {n:Int}(h:n.natAbs≤100000):(Jc6 n).length≤16:=(JoM (n:=n) Fh).1
theorem Jjh (M:Vm)(hM:∀v,(Jbt M v).natAbs≤100000):∀l:Fx,(JcX M l).length≤17*l.length
 | []=>by simp[JcX]
 | v::l=>by
  have h1:=Jjh M hM l;have h2:=JmX (hM v);have e:JcX M (v::l)=32::Jc6 (Jbt M v)++JcX M l:=rfl;rw[e,FE,FC,FC];omega
theorem JvM (C:Codes tab)(I:JgB tab){jb vb k:Nat}{O O2 O3:Fw}{M:Vm}{ncs:List V}{need:Fx}{nv:V}{nn:Nat}{aw:AW}(hj:CB aw jb cells)(h10:Jbh 1 (cells.drop 10)=some [nv])(h12:Jbh 1 (cells.drop 12)=some [.map vb])(hM:SM aw vb M)(hMv:∀v,(Jbt M v).natAbs≤100000)(hn:Rd O2 aw nv 1 nn ncs)(hk:k<nn)(hnv:∃sv,ncs[k]? = some sv∧Rd O3 aw sv 1 need.length (JbC need))(hnl:need.length≤100)(h:K (.str (Jfd M k need)) aw)(hkn:k≤1000):WF tab GD [.ptr jb 0,.int .i64 (Int.ofNat k)] aw K:=by
 refine Ja7 C.Wi rfl ?_;have j10:aw.load jb 10 1=some [nv]:=CB.ld hj 10 1 _ h10;have j12:aw.load jb 12 1=some [.map vb]:=CB.ld hj 12 1 _ h12;obtain⟨sv,hsv,hsr⟩:=hnv;have hslv:=hsr.lenV;refine Fz (by simp only[go_sem,JaX,simprocAttr,Wh];rfl) ?_;refine Ja0 Ff Fe ?_;refine⟨_,_,I (Int.ofNat k) aw (by show (-9223372036854775808:Int)≤(k:Int);omega) (by show (k:Int)≤_;omega),?_⟩;rcases hn.inv with⟨_,h0,_⟩|⟨nb,no,nc,rfl,hB⟩
 ·omega
 have ln:aw.load nb (no+k*1) 1=some [sv]:=by rw[KC];exact hB.cell Fh hsv
 refine Fz (by simp only[go_sem,JaX,simprocAttr,Jac,j10,hk,ln,hslv];rfl) ?_
 refine Jba (fun n f w=>∃i s,s=Jc6 (Int.ofNat k)++JcX M (need.take i)∧f.get 0=some (.ptr jb 0)∧f.get 5=some (.str s)∧f.get 16=some sv∧f.get 17=some (.int .i64 (Int.ofNat need.length))∧f.get 18=some (.int .i64 (Int.ofNat i))∧w=aw∧i≤need.length∧n=need.length-i)
  (fun f w=>f.get 5=some (.str (Jfd M k need))∧w=aw) ?_ ?_ need.length ⟨0,Jc6 (Int.ofNat k),by simp[JcX],Fb,Fb,Fb,Fb,Fb,rfl,Nat.zero_le _,rfl⟩
 ·rintro n f w ⟨i,s,hs,f0,f5,f16,f17,f18,rfl,hi,rfl⟩ ih out;by_cases hil:i<need.length
  case neg =>
   obtain rfl:i=need.length:=Fh;rw[List.take_length]at hs;refine Ja2 1000 (by simp only[go_sem,simprocAttr,US,f17,f18,hil];rfl) ?_;exact out _ _ _ ⟨by rw[show Jfd M k need=s from hs.symm];exact (Fg f5),rfl⟩ rfl
  obtain⟨t,ht⟩:∃t,need[i]? = some t:=⟨_,FB hil⟩;have hwr:IntKind.wrap .i64 (Int.ofNat i+1)=Int.ofNat (i+1):=Ja3 Fh;have look:=hM.look Jci (.int .i64 0) t
  have hlk:w.lookV (.scalar .str) (.int .i64 0) (.map vb) (.str t)=some (.int .i64 (Jbt M t),(Ja1 M t).isSome):=by
   rw[look];unfold Jbt;cases Ja1 M t<;>rfl
  rcases hsr.inv with⟨_,h0,_⟩|⟨sb,so,sc,rfl,hB2⟩
  ·omega
  have ls:w.load sb (so+i*1) 1=some [.str t]:=by rw[KC];exact hB2.cell Fh (by unfold JbC;rw[F7,ht];rfl)
  have hv:=hMv t;have hfl:=JmX hv;have hkl:=JmX (n:=Int.ofNat k) (by show (k:Int).natAbs≤_;omega);have htl:=Jjh M hMv (need.take i);rw[FU,KD hi]at htl;have hsl:s.length≤10000:=by rw[hs,FE];omega
  refine Fz (by simp only[go_sem,JaX,simprocAttr,US,Jab,Jaa,f0,f5,f16,f17,f18,hil,ls,j12,hlk];rfl) ?_;refine Ja0 Ff Fe ?_;refine⟨_,_,I (Jbt M t) w Fh Fh,?_⟩;obtain⟨d1,hd1,e1⟩:=Jvp [32] (Jc6 (Jbt M t)) (by simp only[FC,FD];omega);have hd1l:d1.length≤20:=by rw[hd1,FE];simp only[FC,FD];omega
  obtain⟨d2,hd2,e2⟩:=Jvp s d1 Fh;refine Fz (by simp only[go_sem,JaX,simprocAttr,e1,e2,f18,hwr];rfl) ?_;refine ih _ _ _ Fh ⟨i+1,d2,?_,(Fg f0),Fb,(Fg f16),(Fg f17),Fb,rfl,by omega,rfl⟩;rw[Jbz ht,Jnf,hd2,hd1,hs];simp only[F6];rfl
 ·rintro f w ⟨f5,rfl⟩;refine Fz (by simp only[go_sem,JaX,simprocAttr,f5];rfl) ?_;refine JaZ ⟨_,by simp only[go_sem,JaX,simprocAttr,Wh];rfl,?_⟩;exact h
end
section
open Go.AE Delphi Val
variable {tab:Tab}
def SetQ (S:Fw) (w:AW) (p:V) (q:Option (Nat×List (List Int))):Prop:=match q with
 | none=>p = .nilptr
 | some (width,rows)=>Rel.SetOf S w p width rows
variable {S:Fw} {q:Option (Nat×List (List Int))}
theorem SetQ.frm {R:Fw}{w w':AW}{p:V}(h:SetQ S w p q)(hf:Frm R w w')(hd:∀x,S x→¬R x):SetQ S w' p q:=by
 cases q with
 | none=>exact h
 | some x=>exact Rel.SetOf.frm h hf hd
variable {K:V→AW→Prop}
theorem Jr5 (C:Codes tab){p:V}{aw:AW}(hs:SetQ S aw p q)(h:K (.int .i64 (match q with|none=>-1|some x=>Int.ofNat x.1)) aw):WF tab YL [p] aw K:=by
 cases q with
 | none =>
  have hs:p = .nilptr:=hs;subst hs;exact Jou C h
 | some x=>exact JtN C hs h
def JhV (q:Option (Nat×List (List Int))) (n:Nat):Option (Nat×List (List Int)):=match q with
 | none=>none
 | some x=>if x.1=n then some x else none
theorem JrT (C:Codes tab){jb sty sfn:Nat}{O S':Fw}{body:List Lt}{l:Lt}{i:Nat}{a:Int}{cells:List V}{xb dp sv:V}{dq:Option (Nat×List (List Int))}{sets:List Nat→Option (Nat×List (List Int))}{aw:AW}(hj:CB aw jb cells)(h3:Jbh 1 (cells.drop 3)=some [xb])(h5:Jbh 1 (cells.drop 5)=some [.iface sty sv])(hsl:JbF [(41,Js,none)] sty=some (sfn,none))(h8:Jbh 1 (cells.drop 8)=some [.int .i64 a])(h9:Jbh 1 (cells.drop 9)=some [dp])(hb:RdL (LtC O) O aw xb 3 body)(hl:body[i]? = some l)(hd:SetQ S aw dp dq)(hst:∀(w:AW) (K:V→AW→Prop),Frm (fun _=>False) aw w→(∀w' p,Frm (fun _=>False) w w'→SetQ S' w' p (sets l.name)→K p w')→WF tab sfn [sv,.str l.name] w K)(hw4:∀x,sets l.name=some x→x.1≤4)(hi:i≤1000)(h:∀w p S1,Frm (fun _=>False) aw w→SetQ S1 w p (JhV (if Int.ofNat i=a then dq else sets l.name) l.args.length)→(∀x,S1 x→S x∨S' x)→K p w):WF tab VN [.ptr jb 0,.int .i64 (Int.ofNat i)] aw K:=by
 refine Ja7 C.Wn rfl ?_;have j3:aw.load jb 3 1=some [xb]:=CB.ld hj 3 1 _ h3;obtain⟨b,o,c,xs,rfl,la,hx⟩:=JfN hb hl;obtain⟨xv,rfl,hx⟩:=hx;have hil:i<body.length:=(List.getElem?_eq_some_iff.1 hl).1;have hxv:=hx.lenV;obtain⟨w1,s1,c1,r1,n1⟩:=Jb1 aw (zs:=[V.int .i64 0,V.str [],V.nilslice]) (vs:=[.int .i64 (Int.ofNat l.kind),.str l.name,xv]) rfl (LtC.one ⟨xv,rfl,hx⟩).2;have hj1:=hj.frm r1 fun h=>h;have j9:w1.load jb 9 1=some [dp]:=CB.ld hj1 9 1 _ h9;have j8:w1.load jb 8 1=some [.int .i64 a]:=CB.ld hj1 8 1 _ h8;have j5:w1.load jb 5 1=some [.iface sty sv]:=CB.ld hj1 5 1 _ h5;have k1:w1.load aw.next 1 1=some [.str l.name]:=CB.ld c1 1 1 _ rfl
 have rest:∀(f:Fr) (w:AW) (p:V) (q:Option (Nat×List (List Int))) (S1:Fw),f.get 5=some (.ptr aw.next 0)→f.get 6=some p→Frm (fun _=>False) w1 w→SetQ S1 w p q→(∀x,S1 x→S x∨S' x)→q=(if Int.ofNat i=a then dq else sets l.name)→WS tab [.code UX] f w (fun fr' aw'=>∃vs,Jcv fr' aw' JU.results=some vs∧K (JbT vs) aw'):=by
  intro f w p q S1 f5 f6 g hq hS1 hqe;have k2:w.load aw.next 2 1=some [xv]:=CB.ld (c1.frm g fun h=>h) 2 1 _ rfl;rw[←hqe]at h;refine Fz (by simp only[go_sem,JaX,simprocAttr,UX];rfl) ?_;refine JbM ?_;refine Jbn 100 (by simp only[go_sem,JaX,simprocAttr,f6];rfl) ?_;refine Jb4 Ff Fe ?_;refine Jr5 C hq ?_;refine Jbn 100 (by simp only[go_sem,JaX,simprocAttr,f5,k2,hxv];rfl) ?_;refine JbO ⟨(show Jbg _ _ [(3,1)]from by simp only[go_sem,JaX,simprocAttr,Jbg,chk,List.reverse_cons,List.reverse_nil,JbE,JbR,JbP,JbQ,List.getElem?_nil,false_or,or_true,or_false,exists_eq',FQ,Prod.mk.injEq,Bool.true_eq_false,FM,and_true,true_and,implies_true,k2]),?_⟩;cases q with
  | none =>
   have hq':p = .nilptr:=hq;have hne:((-1:Int) != Int.ofNat l.args.length)=true:=Fj;refine Fz (by simp only[go_sem,JaX,simprocAttr,hne,UW];rfl) ?_;refine JaZ ⟨_,by simp only[go_sem,JaX,simprocAttr,JU];rfl,?_⟩;exact h w _ S1 (r1.tr g) rfl hS1
  | some x =>
   by_cases hx1:x.1=l.args.length
   ·have hne:(Int.ofNat x.1 != Int.ofNat l.args.length)=false:=by rw[hx1];simp
    have e:JhV (some x) l.args.length=some x:=if_pos hx1;rw[e]at h;refine Fz (by simp only[go_sem,JaX,simprocAttr,hne,f6];rfl) ?_;refine JaZ ⟨_,by simp only[go_sem,JaX,simprocAttr,JU];rfl,?_⟩;exact h w _ S1 (r1.tr g) hq hS1
   ·have hne:(Int.ofNat x.1 != Int.ofNat l.args.length)=true:=by
     simp only[bne_iff_ne,ne_eq];exact fun h=>hx1 (Int.ofNat.inj h)
    have e:JhV (some x) l.args.length=none:=if_neg hx1;rw[e]at h;refine Fz (by simp only[go_sem,JaX,simprocAttr,hne,UW];rfl) ?_;refine JaZ ⟨_,by simp only[go_sem,JaX,simprocAttr,JU];rfl,?_⟩;exact h w _ S1 (r1.tr g) rfl hS1
 by_cases hia:Int.ofNat i=a
 ·have hia':(Int.ofNat i != a)=false:=by rw[hia];simp
  refine Ja2 37 (by simp only[go_sem,JaX,simprocAttr,JU,UZ,UY,j3,hil,la,FC,FD,s1,j9,j8,hia'];rfl) ?_;exact rest _ _ _ dq S Fb Fb (Frm.refl _) (hd.frm r1 fun _ _ h=>h) (fun x hx=> .inl hx) (if_pos hia).symm
 ·have hia':(Int.ofNat i != a)=true:=bne_iff_ne.2 hia;refine Fz (by simp only[go_sem,JaX,simprocAttr,JU,UZ,UY,Jaf,j3,hil,la,FC,FD,s1,j9,j8,hia',j5,k1,hsl];rfl) ?_;refine Ja0 (by simp only[go_sem,JaX,simprocAttr,hsl]) (by simp only[go_sem,JaX,simprocAttr,hsl];rfl) ?_;refine hst w1 _ r1 fun w2 p g2 hq=>?_;refine Ja2 2 Fe ?_;exact rest _ _ p _ S' Fb Fb g2 hq (fun x hx=> .inr hx) (if_neg hia).symm
end
section
open Go.AE Delphi Val
variable {tab:Tab}
abbrev PM:=MB (α:=List Nat) (β:=V) V.str (fun v=>v)
theorem Jot (C:Codes tab){mb:Nat}{M:List (List Nat×V)}{nm:List Nat}{aw:AW}{K:V→AW→Prop}(hM:PM aw mb M)(h:∀w,Frm (fun _=>False) aw w→K ((Ja1 M nm).getD .nilptr) w):WF tab Js [.agg [.map mb],.str nm] aw K:=by
 refine Ja7 C.Vp rfl ?_;obtain⟨w1,e1,c1,r1,m1⟩:=Jb8 aw [V.map mb];have a0:=CB.ld c1 0 1 _ rfl;have look:=(hM.frm r1 fun h=>h).look Jci .nilptr nm
 have hlk:w1.lookV (.scalar .str) .nilptr (.map mb) (.str nm)=some ((Ja1 M nm).getD .nilptr,(Ja1 M nm).isSome):=by
  rw[look];cases Ja1 M nm<;>rfl
 have hcc:V.cells (.agg [.map mb])=[V.map mb]:=rfl;refine Fz (by simp only[go_sem,JaX,simprocAttr,-Int.reduceOfNat,Vo,hcc,e1,a0,hlk];rfl) ?_;refine JaZ ⟨_,by simp only[go_sem,JaX,simprocAttr,-Int.reduceOfNat,Vo];rfl,?_⟩;exact h w1 r1
end
section
open Go.AE Delphi Val
variable {tab:Tab}
def zTk:Tk:=⟨0,[],0⟩
def Jbq (ts:List Tk) (i:Int):Tk:=if i<1 then zTk else ts.getD (i.toNat-1) zTk
variable {ts:List Tk}
theorem JnR {i:Int}{t:Tk}(h1:∀k:Nat,i=Int.ofNat (k+1)→k<ts.length→ts[k]? = some t)(h2:i<1∨i>Int.ofNat ts.length→t=⟨0,[],0⟩):t=Jbq ts i:=by
 unfold Jbq;by_cases h:i<1
 ·rw[if_pos h];exact h2 (.inl h)
 ·rw[if_neg h];by_cases h3:i>Int.ofNat ts.length
  ·have h3':i>(ts.length:Int):=h3;rw[List.getD_eq_getElem?_getD,List.getElem?_eq_none Fh];exact h2 (.inr h3)
  ·have h3':¬i>(ts.length:Int):=h3;have:=h1 (i.toNat-1) (by show i=((i.toNat-1+1:Nat):Int);omega) Fh;rw[List.getD_eq_getElem?_getD,this];rfl
def Jdo (M:Vm) (ts:List Tk) (t:Tm):Option Tk:=if t.kind=1 then (Ja1 M t.name).map (Jbq ts)else some (Jbb t)
theorem JiY {w:AW}{b o:Nat}{l l' vs:List V}(h:CB w b l)(ho:over l o vs=some l')(h1:Jbf vs=true):w.store b o vs=some (w.put b l'):=
 JfR h.get (.inl rfl:Shr (fun _=>True) w b .own) h1 ho
def Jeb (c d:Tk):List V:=[.int .i64 c.k,.str c.s,.int .i64 c.n,.int .i64 d.k,.str d.s,.int .i64 d.n]
theorem Jkw {i:Nat}(hi:i<2)(c d e:Tk):over (Jeb c d) (0+i*3) (tkC e)=some (Jeb (if i=0 then e else c) (if i=0 then d else e)):=by
 rcases (show i=0∨i=1 by omega)with rfl|rfl<;>rfl
structure HjF (f:Fr) (tb vb lb ab:Nat) (xv:V) (i:Nat):Prop where
 f1:f.get 1=some (.ptr tb 0)
 f2:f.get 2=some (.map vb)
 f3:f.get 3=some (.ptr lb 0)
 f8:f.get 8=some (.ptr ab 0)
 f30:f.get 30=some xv
 f31:f.get 31=some (.int .i64 (Int.ofNat 2))
 f32:f.get 32=some (.int .i64 (Int.ofNat i))
variable {K:V→AW→Prop}
theorem JoR (C:Codes tab){tb mb vb lb ab i:Nat}{tv xv:V}{S O:Fw}{M:Vm}{args:List Tm}{t:Tm}{c d:Tk}{f:Fr}{w:AW}{st:List SI}(hF:HjF f tb vb lb ab xv i)(hT:TabW tb mb tv S ts w)(hM:SM w vb M)(hx:Rd O w xv 3 2 (JbY args))(hal:args.length=2)(ht:args[i]? = some t)(hA:CB w ab (Jeb c d))(htb:tb≠ab)(hvb:vb≠ab)(hmb:mb≠ab)(hOa:¬O ab)(hSa:¬S ab)(hlen:ts.length≤100000)(hMv:∀n,(Jbt M n).natAbs≤100000)(bad:Jdo M ts t=none→∀w',Frm (fun x=>x=ab) w w'→K (.tuple [.bool false,.bool false]) w')(good:∀f' w' u,Jdo M ts t=some u→HjF f' tb vb lb ab xv (i+1)→CB w' ab (Jeb (if i=0 then u else c) (if i=0 then d else u))→Frm (fun x=>x=ab) w w'→WS tab (.code (.loop JV) :: .endB 0::st) f' w' (fun fr' aw'=>∃vs,Jcv fr' aw' Jz.results=some vs∧K (JbT vs) aw')): WS tab (.code JV :: .code (.loop JV) :: .endB 0::st) f w (fun fr' aw'=>∃vs,Jcv fr' aw' Jz.results=some vs∧K (JbT vs) aw'):=by
 obtain⟨f1,f2,f3,f8,f30,f31,f32⟩:=hF;have hi:i<2:=by rw[←hal];exact (List.getElem?_eq_some_iff.1 ht).1
 rw[←hal]at hx;obtain⟨b,o,cc,rfl,_,_,la,_⟩:=Jd5 hx ht;have hi':i<args.length:=Fh;obtain⟨w1,s1,c1,r1,n1⟩:=Jb1 w (zs:=[V.int .i64 0,V.str [],V.int .i64 0]) (vs:=tmC t) rfl rfl;have hA1:=hA.frm r1 fun h=>h;have htl:(tmC t).length=3:=rfl;have k3:w1.load w.next 0 3=some (tmC t):=c1.all rfl;have s2:w1.store ab (0+i*3) (tmC t)=some (w1.put ab (Jeb (if i=0 then Jbb t else c) (if i=0 then d else Jbb t))):=JiY hA1 (Jkw hi c d (Jbb t)) rfl;have g2:Frm (fun x=>x=ab) w1 (w1.put ab (Jeb (if i=0 then Jbb t else c) (if i=0 then d else Jbb t))):=Jbj;have c2:=Jbx (l:=Jeb (if i=0 then Jbb t else c) (if i=0 then d else Jbb t)) hA1.lt;obtain⟨w2,e2⟩:∃w2,w2=w1.put ab (Jeb (if i=0 then Jbb t else c) (if i=0 then d else Jbb t)):=⟨_,rfl⟩;rw[←e2]at s2 g2 c2;have hlt:=hA.lt;have cb2:=c1.frm g2 Fh;have k0:w2.load w.next 0 1=some [.int .i64 (Int.ofNat t.kind)]:=CB.ld cb2 0 1 _ rfl;have k1:w2.load w.next 1 1=some [.str t.name]:=CB.ld cb2 1 1 _ rfl;have g02:Frm (fun x=>x=ab) w w2:=r1.no.tr g2;have hwr:IntKind.wrap .i64 (Int.ofNat i+1)=Int.ofNat (i+1):=Ja3 Fh;by_cases hk:t.kind=1
 ·have look:=((hM.frm r1 fun h=>h).frm g2 hvb).look Jci (.int .i64 0) t.name;cases hg:Ja1 M t.name with
  | none =>
   rw[hg]at look;have look:w2.lookV (.scalar .str) (.int .i64 0) (.map vb) (.str t.name)=some (.int .i64 0,false):=look;refine Fz (by simp only[go_sem,JaX,simprocAttr,JV,Wt,Ws,U0,Jam,f1,f2,f3,f8,f30,f31,f32,hi,hi',la,htl,s1,k3,s2,k0,hk,k1,look];rfl) ?_;refine JaZ ⟨_,by simp only[go_sem,JaX,simprocAttr,Jz];rfl,?_⟩;exact bad (by unfold Jdo;rw[if_pos hk,hg];rfl) _ g02
  | some z =>
   rw[hg]at look;have look:w2.lookV (.scalar .str) (.int .i64 0) (.map vb) (.str t.name)=some (.int .i64 z,true):=look;have hz:=hMv t.name;unfold Jbt at hz;rw[hg]at hz;have hz:z.natAbs≤100000:=hz;have hT2:=(hT.step0 r1).step g2 htb hmb fun x hx h=>by subst h;exact hSa hx
   refine Fz (by simp only[go_sem,JaX,simprocAttr,JV,Wt,Ws,U0,Jan,f1,f2,f3,f8,f30,f31,f32,hi,hi',la,htl,s1,k3,s2,k0,hk,k1,look];rfl) ?_;refine Ja0 Ff Fe ?_;refine Jpi C hT2 hlen ⟨by omega,by omega⟩ fun w3 u g3 hu1 hu2=>?_;have hu:=JnR hu1 hu2;have c3:=c2.frm g3 fun h=>h
   have hov:over (Jeb (if i=0 then Jbb t else c) (if i=0 then d else Jbb t)) (0+i*3) (tkC u)=some (Jeb (if i=0 then u else c) (if i=0 then d else u)):=by
    rw[Jkw hi];rcases (show i=0∨i=1 by omega)with rfl|rfl<;>rfl
   have s4:=JiY c3 hov rfl;have g4:Frm (fun x=>x=ab) w3 (w3.put ab (Jeb (if i=0 then u else c) (if i=0 then d else u))):=Jbj;have c4:=Jbx (l:=Jeb (if i=0 then u else c) (if i=0 then d else u)) c3.lt;obtain⟨w4,e4⟩:∃w4,w4=w3.put ab (Jeb (if i=0 then u else c) (if i=0 then d else u)):=⟨_,rfl⟩;rw[←e4]at s4 g4 c4;refine Fz (by simp only[go_sem,JaX,simprocAttr,f8,f32,hi,JcA,s4,hwr];rfl) ?_;exact good _ _ u (by unfold Jdo;rw[if_pos hk,hg,hu];rfl) ⟨(Fg f1),(Fg f2),(Fg f3),(Fg f8),(Fg f30),(Fg f31),Fb⟩ c4 ((g02.tr g3.no).tr g4)
 ·refine Fz (by simp only[go_sem,JaX,simprocAttr,JV,Wt,Ws,f1,f2,f3,f8,f30,f31,f32,hi,hi',la,htl,s1,k3,s2,k0,hk,hwr];rfl) ?_;exact good _ _ (Jbb t) (if_neg hk) ⟨(Fg f1),(Fg f2),(Fg f3),(Fg f8),(Fg f30),(Fg f31),Fb⟩ c2 g02
def Jir (k:Nat):Option Tk→Option Tk→Bool×Bool
 | some a,some b=>(JcT k a b,true)
 | _,_=>(false,false)
theorem JsW (C:Codes tab){tb mb vb:Nat}{tv:V}{S O:Fw}{M:Vm}{k:Nat}{nm:List Nat}{a b:Tm}{xs:List V}{aw:AW}(hT:TabW tb mb tv S ts aw)(hM:SM aw vb M)(hx:LtC O aw ⟨k,nm,[a,b]⟩ xs)(hO:∀x,O x→x<aw.next)(hk:3≤k∧k≤6)(hlen:ts.length≤100000)(hMv:∀n,(Jbt M n).natAbs≤100000)(h:∀w,Frm (fun _=>False) aw w→K (.tuple [.bool (Jir k (Jdo M ts a) (Jdo M ts b)).1,.bool (Jir k (Jdo M ts a) (Jdo M ts b)).2]) w):WF tab GH [.agg xs,.ptr tb 0,.map vb] aw K:=by
 refine Ja7 C.Wv rfl ?_;obtain⟨xv,rfl,hx⟩:=hx;obtain⟨w1,e1,c1,r1,m1⟩:=Jb8 aw [.int .i64 (Int.ofNat k),.str nm,xv];obtain⟨w2,e2,c2,r2,m2⟩:=Jb8 w1 (Jeb zTk zTk);have e2:w1.fresh [V.int .i64 0,V.str [],V.int .i64 0,V.int .i64 0,V.str [],V.int .i64 0]=w2:=e2;have hxv:=hx.lenV;have hxv:lenV xv=some 2:=hxv;have a0:=CB.ld c1 0 1 _ rfl;have a2:=CB.ld c1 2 1 _ rfl;have a2':=CB.ld (c1.frm r2 fun h=>h) 2 1 _ rfl;have hk3:¬(Int.ofNat k<3):=by show ¬((k:Int)<3);omega
 have hk6:¬(Int.ofNat k>6):=by show ¬((k:Int)>6);omega
 have hk3':¬k<3:=Fh;have hk6':¬6<k:=Fh;have e5:([.int .i64 (Int.ofNat k),.str nm,xv]:List V).length=3:=rfl;refine Fz (by simp only[go_sem,JaX,simprocAttr,Jz,Jau,Jat,e1,a0,a2,a2',hk3,hk6,hk3',hk6',hxv,e2];rfl) ?_;have n1:=r1.next;have f02:=r1.tr r2;have htb:tb≠w1.next:=by have:=hT.a.lt;omega
 have hmb:mb≠w1.next:=by have:=hT.m.lt;omega
 have hvb:vb≠w1.next:=by have:=hM.lt;omega
 have hSa:¬S w1.next:=fun hs=>by have:=(hT.s _ hs).1;omega
 refine Jdz ?_;have ha0:([a,b]:List Tm)[0]? = some a:=rfl;have ha1:([a,b]:List Tm)[1]? = some b:=rfl;have out:∀{w:AW},Frm (fun x=>x=w1.next) w2 w→Frm (fun _=>False) aw w:=fun g=>f02.trans g (fun _ _ h=>h) fun x hx h=>by omega
 refine JoR (S:=S) (O:=O) (i:=0) (xv:=xv) (lb:=aw.next) C ⟨Fb,Fb,Fb,Fb,Fb,Fb,Fb⟩ (hT.step0 f02) (hM.frm f02 fun h=>h) (hx.frm f02 fun _ _ h=>h) rfl ha0 c2 htb hvb hmb (fun h=>by have:=hO _ h;omega) hSa hlen hMv ?_ ?_
 ·intro hn w' g;rw[hn]at h;exact h w' (out g)
 ·intro f3 w3 u hu hF c3 g3;refine Jdz ?_;refine JoR (S:=S) (O:=O) (i:=1) (xv:=xv) (lb:=aw.next) C hF ((hT.step0 f02).step g3 htb hmb fun x hx h=>by subst h;exact hSa hx) ((hM.frm f02 fun h=>h).frm g3 hvb) ((hx.frm f02 fun _ _ h=>h).frm g3 fun x hx h=>by have:=hO _ hx;omega) rfl ha1 c3 htb hvb hmb (fun h=>by have:=hO _ h;omega) hSa hlen hMv ?_ ?_
  ·intro hn w' g;rw[hu,hn]at h;exact h w' (out (g3.tr g))
  ·intro f4 w4 v hv hF c4 g4;rw[hu,hv]at h;have g24:=g3.tr g4;obtain⟨g1,g2,g3',g8,g30,g31,g32⟩:=hF;refine Jdz ?_;have hnl:¬(Int.ofNat 2<Int.ofNat 2):=by decide
   refine Fz (by simp only[go_sem,JaX,simprocAttr,JV,Jas,g31,g32];rfl) ?_;have c5:CB w4 w1.next (Jeb u v):=c4;have q1:w4.load w1.next 0 3=some (tkC u):=CB.ld c5 0 3 _ rfl;have q2:w4.load w1.next 3 3=some (tkC v):=CB.ld c5 3 3 _ rfl;obtain⟨w5,p1,d1,t1,o1⟩:=Jb8 w4 [V.int .i64 0,V.str [],V.int .i64 0];obtain⟨w6,p2,d2,t2,o2⟩:=Jb8 w5 [V.int .i64 0,V.str [],V.int .i64 0];have d1:=d1.frm t2 fun h=>h;have st1:=JiY d1 (o:=0) (vs:=tkC u) (l':=tkC u) rfl rfl;have fr1:Frm (fun x=>x=w4.next) w6 (w6.put w4.next (tkC u)):=Jbj;have d1':=Jbx (l:=tkC u) d1.lt;have d2:=d2.frm fr1 Fh;obtain⟨w7,e7⟩:∃w7,w7=w6.put w4.next (tkC u):=⟨_,rfl⟩;rw[←e7]at st1 fr1 d1' d2;have st2:=JiY d2 (o:=0) (vs:=tkC v) (l':=tkC v) rfl rfl;have fr2:Frm (fun x=>x=w5.next) w7 (w7.put w5.next (tkC v)):=Jbj;have d2':=Jbx (l:=tkC v) d2.lt;have d1':=d1'.frm fr2 Fh;obtain⟨w8,e8⟩:∃w8,w8=w7.put w5.next (tkC v):=⟨_,rfl⟩;rw[←e8]at st2 fr2 d2' d1';have c18:CB w8 aw.next [.int .i64 (Int.ofNat k),.str nm,xv]:=((((((c1.frm r2 fun h=>h).frm g24 Fh).frm t1 fun h=>h).frm t2 fun h=>h).frm fr1 (by have:=c4.lt;omega)).frm fr2 (by have:=c4.lt;omega));have b0:w8.load aw.next 0 1=some [.int .i64 (Int.ofNat k)]:=CB.ld c18 0 1 _ rfl;have u3:w8.load w4.next 0 3=some (tkC u):=d1'.all rfl;have v3:w8.load w5.next 0 3=some (tkC v):=d2'.all rfl;have g48:Frm (fun _=>False) w4 w8:=((t1.tr t2).trans fr1 (fun _ _ h=>h) fun x hx h=>by omega).trans fr2 (fun _ _ h=>h) fun x hx h=>by omega
   have g08:Frm (fun _=>False) aw w8:=(out g24).tr g48;have hh:∀w',Frm (fun _=>False) w8 w'→K (.tuple [.bool (JcT k u v),.bool true]) w':=fun w' g=>h w' (g08.tr g);refine JbM ?_;refine Jbn 100 (by simp only[go_sem,JaX,simprocAttr,g8,q1,q2,p1,p2,JcA,st1,st2];rfl) ?_;have c5:=c5.frm t1 fun h=>h;have q11:w5.load w1.next 0 3=some (tkC u):=CB.ld c5 0 3 _ rfl;have q12:w5.load w1.next 3 3=some (tkC v):=CB.ld c5 3 3 _ rfl;have c5:=c5.frm t2 fun h=>h;have q21:w6.load w1.next 0 3=some (tkC u):=CB.ld c5 0 3 _ rfl;have q22:w6.load w1.next 3 3=some (tkC v):=CB.ld c5 3 3 _ rfl;have c5:=c5.frm fr1 (by have:=c4.lt;omega);have q32:w7.load w1.next 3 3=some (tkC v):=CB.ld c5 3 3 _ rfl;refine JbO ⟨(show Jbg _ _ [(1,4),(1,5),(3,4),(3,5),(3,6)]from by simp only[go_sem,JaX,simprocAttr,Jbg,chk,List.reverse_cons,List.reverse_nil,JbE,JbR,JbP,JbQ,List.getElem?_nil,false_or,or_true,or_false,exists_eq',FQ,Prod.mk.injEq,Bool.true_eq_false,FM,and_true,true_and,implies_true,q1,q11,q21,q2,q12,q22,q32]),?_⟩;by_cases h3:k=3
   ·subst h3;have e:JcT 3 u v=JbW u v:=rfl;rw[e]at hh;refine Fz (by simp only[go_sem,JaX,simprocAttr,Yq,Jar,g3',b0,u3,v3];rfl) ?_;refine Ja0 Ff Fe ?_;refine JtQ C fun w9 g9=>?_;refine JaY 1000 Fe ?_;refine JaZ ⟨_,by simp only[go_sem,JaX,simprocAttr,Jz];rfl,?_⟩;exact hh w9 g9
   by_cases h4:k=4
   ·subst h4;have e:JcT 4 u v = !JbW u v:=rfl;rw[e]at hh;refine Fz (by simp only[go_sem,JaX,simprocAttr,Yq,Wu,Jaq,g3',b0,u3,v3];rfl) ?_;refine Ja0 Ff Fe ?_;refine JtQ C fun w9 g9=>?_;have hh:=hh w9 g9;refine JaY 1000 Fe ?_;refine JaZ ⟨_,by simp only[go_sem,JaX,simprocAttr,Jz];rfl,?_⟩;exact hh
   by_cases h5:k=5
   ·subst h5;have e:JcT 5 u v=JbL u v:=rfl;rw[e]at hh;refine Fz (by simp only[go_sem,JaX,simprocAttr,Yq,Wu,U1,Jao,g3',b0,u3,v3];rfl) ?_;refine Ja0 Ff Fe ?_;refine JoW C fun w9 g9=>?_;refine JaY 1000 Fe ?_;refine JaZ ⟨_,by simp only[go_sem,JaX,simprocAttr,Jz];rfl,?_⟩;exact hh w9 g9
   have e:JcT k u v = !JbL v u:=by unfold JcT;rw[if_neg h3,if_neg h4,if_neg h5]
   rw[e]at hh;refine Fz (by simp only[go_sem,JaX,simprocAttr,Yq,Wu,U1,Jap,g3',b0,u3,v3,h3,h4,h5];rfl) ?_;refine Ja0 Ff Fe ?_;refine JoW C fun w9 g9=>?_;have hh:=hh w9 g9;refine JaY 1000 Fe ?_;refine JaZ ⟨_,by simp only[go_sem,JaX,simprocAttr,Jz];rfl,?_⟩;exact hh
end
end Go.Proofs.YtegdcbdicpfbpaaGreatDoor
namespace Delphi
def Jfo (bd:Fx) (t:Tm):Bool:=decide (t.kind≠1∨t.name∈bd)
def Jfp (bd:Fx) (l:Lt):Nat:=l.args.countP (Jfo bd)
def Jdx (bd out:Fx) (t:Tm):Fx:=if t.kind=1∧t.name∉bd∧t.name∉out then out++[t.name]else out
def Jgu (bd:Fx) (l:Lt):Fx:=l.args.foldl (Jdx bd) []
abbrev JbX:=List Nat×List (List Nat)
def Lt.nil:Lt:=⟨0,[],[]⟩
def Ja8 (body:List Lt) (i:Nat):Lt:=(body[i]?).getD Lt.nil
def JcE (body:List Lt) (s:JbX) (i:Nat):JbX:=(s.1++[i],s.2++Jgu s.2 (Ja8 body i))
def JcC (body:List Lt) (s:JbX) (i:Nat):Bool:=decide (i<body.length∧i∉s.1∧((Ja8 body i).kind=1∨Jfp s.2 (Ja8 body i)=(Ja8 body i).args.length))
abbrev Ky:=Bool×Nat×Nat
def Jcq (a b:Ky):Bool:=if a.1≠b.1 then b.1 else if a.2.1≠b.2.1 then decide (b.2.1<a.2.1)else decide (a.2.2<b.2.2)
def Jeu (body:List Lt) (s:JbX) (i:Nat):Ky:=(decide ((Ja8 body i).kind=1),if (Ja8 body i).kind=1 then Jfp s.2 (Ja8 body i)else 0,i)
def Jgk (body:List Lt) (s:JbX) (i:Nat):Prop:=JcC body s i=true∧∀j,JcC body s j=true→j≠i→Jcq (Jeu body s i) (Jeu body s j)=true
def Jmg (body:List Lt) (s:JbX) (i:Nat):Bool:=JcC body s i&&(List.range body.length).all fun j=>!JcC body s j||decide (j=i)||Jcq (Jeu body s i) (Jeu body s j)
variable {body:List Lt} {s:JbX} {i:Nat}
theorem Jgo (h:JcC body s i=true):i<body.length:=(of_decide_eq_true h).1
theorem bestB_iff:Jmg body s i=true↔Jgk body s i:=by
 simp only[Jmg,Jgk,FT,List.all_eq_true,List.mem_range,Bool.or_eq_true,Bool.not_eq_true',decide_eq_true_eq];constructor
 ·rintro⟨h1,h2⟩;refine⟨h1,fun j hj hn=>?_⟩;rcases h2 j (Jgo hj)with (h|h)|h
  ·rw[hj]at h;cases h
  ·exact absurd h hn
  ·exact h
 ·rintro⟨h1,h2⟩;refine⟨h1,fun j hj=>?_⟩;by_cases hc:JcC body s j=true
  ·by_cases hn:j=i
   ·exact .inl (.inr hn)
   ·exact .inr (h2 j hc hn)
  ·exact .inl (.inl (by simpa using hc))
variable {a b:Ky}
theorem JgF:Jcq a b=true↔(a.1=false∧b.1=true)∨(a.1=b.1∧(b.2.1<a.2.1∨(a.2.1=b.2.1∧a.2.2<b.2.2))):=by
 obtain⟨a1,a2,a3⟩:=a;obtain⟨b1,b2,b3⟩:=b;simp only[Jcq];by_cases e:a2=b2
 ·subst e;cases a1<;>cases b1<;>simp
 ·cases a1<;>cases b1<;>simp[e]
theorem Jp9 (h:Jcq a b=true):Jcq b a=false:=by
 cases hc:Jcq b a with
 | false=>rfl
 | true =>
  rw[JgF]at h hc;rcases h with⟨h1,h2⟩|⟨h1,h2⟩<;>rcases hc with⟨h3,h4⟩|⟨h3,h4⟩
  ·rw[h2]at h3;cases h3
  ·rw[h1,h2]at h3;cases h3
  ·rw[h3,h4]at h1;cases h1
  ·omega
theorem JgR {c:Ky}(h:Jcq a b=true)(h':Jcq b c=true):Jcq a c=true:=by
 rw[JgF]at h h' ⊢;rcases h with⟨h1,h2⟩|⟨h1,h2⟩<;>rcases h' with⟨h3,h4⟩|⟨h3,h4⟩
 ·rw[h2]at h3;cases h3
 ·exact .inl ⟨h1,by rw[←h3];exact h2⟩
 ·exact .inl ⟨by rw[h1];exact h3,h4⟩
 ·exact .inr ⟨h1.trans h3,by omega⟩
theorem Jji (h:a.2.2≠b.2.2):Jcq a b=true∨Jcq b a=true:=by
 rw[JgF,JgF];rcases ha:a.1<;>rcases hb:b.1<;>simp<;>omega
theorem JqK {j:Nat}(h:Jgk body s i)(h':Jgk body s j):i=j:=by
 by_cases hn:i=j
 ·exact hn
 ·have h1:=h.2 j h'.1 fun e=>hn e.symm;have h2:=h'.2 i h.1 hn;rw[Jp9 h1]at h2;cases h2
def Jmh (body:List Lt) (s:JbX):Option Nat:=(List.range body.length).find? (Jmg body s)
theorem Jll (h:Jgk body s i):Jmh body s=some i:=by
 unfold Jmh;cases hf:(List.range body.length).find? (Jmg body s)with
 | none =>
  rw[List.find?_eq_none]at hf;have:=hf i (List.mem_range.2 (Jgo h.1));exact absurd (bestB_iff.2 h) this
 | some j =>
  have:=List.find?_some hf;rw[JqK h (bestB_iff.1 this)]
def JdL (body:List Lt):Nat→JbX→JbX
 | 0,s=>s
 | n+1,s=>if s.1.length<body.length then (match Jmh body s with|some i=>JdL body n (JcE body s i)|none=>s)else s
end Delphi
namespace Go.Proofs.YtegdcbdicpfbpaaGreatDoor
open Go.AE Delphi
variable {tab:Tab}
section
open Go.AE Delphi
variable {tab:Tab}
abbrev Jvf:AW→Int→List V→Prop:=fun _ n xs=>xs=[.int .i64 n]∧(Lit.int .i64 n).wf=true
abbrev Jvk:AW→List Nat→List V→Prop:=fun _ s xs=>xs=[.str s]∧(∀c∈s,c<256)∧s.length≤maxLen
abbrev TmR:AW→Int×List Nat×Int×Unit→List V→Prop:=fun aw p xs=>∃x1 x2,xs=x1++x2∧Jvf aw p.1 x1∧∃y1 y2,x2=y1++y2∧Jvk aw p.2.1 y1∧∃z1 z2,y2=z1++z2∧Jvf aw p.2.2.1 z1∧z2=[]
abbrev JiQ:AW→List Nat×List (Int×List Nat×Int×Unit)×Unit→List V→Prop:=fun aw p xs=>∃x1 x2,xs=x1++x2∧Jvk aw p.1 x1∧∃y1 y2,x2=y1++y2∧JgW TmR aw p.2.1 y1∧y2=[]
def JwC (p:List Nat×List (Int×List Nat×Int×Unit)×Unit):Fa:=⟨p.1,p.2.1⟩
theorem Jka {aw:AW}:∀{l:List (Int×List Nat×Int×Unit)} {xss:List (List V)},All2 (TmR aw) l xss→xss.flatten.length=l.length*3
 | [],_,.nil=>rfl
 | x::l,_,.cons ⟨_,_,e1,⟨h1,_⟩,_,_,e2,⟨h2,_⟩,_,_,e3,⟨h3,_⟩,e4⟩ h=>by
  subst e1 e2 e3 h1 h2 h3 e4;rw[List.flatten_cons,FE,Jka h,FC];simp;omega
theorem JmF {n esz:Nat}{c:Cap}(h:Jpk n c):Jib esz n c:=by
 cases c with
 | known k=>exact h
 | upTo z=>exact .inr h
theorem JtF {α:Type}{rel:AW→α→List V→Prop}{aw:AW}{l:List α}{x:V}{esz:Nat}(h:JgW rel aw l [x])(hsz:∀{xss:List (List V)},All2 (rel aw) l xss→xss.flatten.length=l.length*esz):∃xss,Rd (fun _=>True) aw x esz l.length xss.flatten∧All2 (rel aw) l xss∧l.length≤maxLen:=by
 rcases h with⟨h1,rfl⟩|⟨b,c,xss,h1,hb,hg,ha,hl,hc⟩
 ·cases h1;exact⟨[],.nil,.nil,Nat.zero_le _⟩
 ·cases h1;have hz:=hsz ha;exact⟨xss,.blk trivial hb hg (.inr (.inr (.inl rfl))) Fh (by rw[FZ,FX Fh]) (JmF hc),ha,hl⟩
theorem JvD {aw:AW}{p:List Nat×List (Int×List Nat×Int×Unit)×Unit}{xs:List V}(h:JiQ aw p xs):FaC (fun _=>True) aw (JwC p) xs∧p.2.1.length≤maxLen:=by
 obtain⟨x1,x2,rfl,⟨rfl,_⟩,y1,y2,rfl,h2,rfl⟩:=h
 have hy:∃v,y1=[v]:=by
  rcases h2 with⟨rfl,_⟩|⟨b,c,xss,rfl,_⟩<;>exact⟨_,rfl⟩
 obtain⟨v,rfl⟩:=hy;obtain⟨xss,h3,_,h4⟩:=JtF h2 Jka;exact⟨⟨v,rfl,xss.flatten,h3⟩,h4⟩
theorem Jkp {aw:AW}:∀{l:List (List Nat×List (Int×List Nat×Int×Unit)×Unit)} {xss:List (List V)},All2 (JiQ aw) l xss→xss.flatten.length=l.length*2
 | [],_,.nil=>rfl
 | x::l,_,.cons h1 h=>by
  rw[List.flatten_cons,FE,Jkp h,FC,(FaC.one (JvD h1).1).1];omega
end
section
open Go.AE Delphi
variable {tab:Tab}
end
end Go.Proofs.YtegdcbdicpfbpaaGreatDoor
namespace Delphi
theorem Jom (bd out:Fx)(t:Tm):(Jdx bd out t).length≤out.length+1:=by
 unfold Jdx;split<;>simp
theorem Jjl (bd:Fx):∀(l:List Tm) (out:Fx),(l.foldl (Jdx bd) out).length≤out.length+l.length
 | [],out=>by simp
 | t::l,out=>by
  rw[Ku,FC];have:=Jjl bd l (Jdx bd out t);have:=Jom bd out t;omega
theorem Jtk (bd:Fx)(l:Lt):(Jgu bd l).length≤l.args.length:=by
 have:=Jjl bd l.args [];simpa[Jgu]using this
end Delphi
namespace Go.Proofs.YtegdcbdicpfbpaaGreatDoor
open Go.AE Delphi
variable {tab:Tab}
end Go.Proofs.YtegdcbdicpfbpaaGreatDoor
namespace Delphi
theorem JqG:∀(n:Nat) (l:List Nat),(∀i,i<n→i∈l)→n≤l.length
 | 0,l,_=>Nat.zero_le _
 | n+1,l,h=>by
  have h1:=h n Fh;have h2:=JqG n (l.erase n) fun i hi=>(List.mem_erase_of_ne Fh).2 (h i Fh);rw[List.length_erase_of_mem h1]at h2;have:0<l.length:=List.length_pos_of_mem h1;omega
structure PlInv (body:List Lt) (s:JbX):Prop where
 lt:∀i∈s.1,i<body.length
 bnd:∀i∈s.1,(Ja8 body i).kind=1→∀t∈(Ja8 body i).args,t.kind=1→t.name∈s.2
 len:s.2.length≤5*s.1.length
variable {body:List Lt} {x:Lt}
theorem JbN {i:Nat}(h:body[i]? = some x):Ja8 body i=x:=by simp[Ja8,h]
theorem Jjk {bd:Fx}:∀(l:List Tm) (out:Fx) (v:List Nat),v∈l.foldl (Jdx bd) out↔v∈out∨(v∉bd∧∃t∈l,t.kind=1∧t.name=v)
 | [],out,v=>by simp
 | t::l,out,v=>by
  rw[Ku,Jjk l]
  have h:v∈Jdx bd out t↔v∈out∨(v∉bd∧t.kind=1∧t.name=v):=by
   unfold Jdx;split
   ·rename_i hc;rw[Ka,Ko];constructor
    ·rintro (h|rfl)
     ·exact .inl h
     ·exact .inr ⟨hc.2.1,hc.1,rfl⟩
    ·rintro (h|⟨_,_,rfl⟩)
     ·exact .inl h
     ·exact .inr rfl
   ·rename_i hc;refine⟨.inl,?_⟩;rintro (h|⟨h1,h2,rfl⟩)
    ·exact h
    ·exact Classical.byContradiction fun hn=>hc ⟨h2,h1,hn⟩
  rw[h];simp only[FJ,exists_eq_or_imp];constructor
  ·rintro ((h|⟨h1,h2⟩)|⟨h1,h2⟩)
   ·exact .inl h
   ·exact .inr ⟨h1,.inl h2⟩
   ·exact .inr ⟨h1,.inr h2⟩
  ·rintro (h|⟨h1,h2|h2⟩)
   ·exact .inl (.inl h)
   ·exact .inl (.inr ⟨h1,h2⟩)
   ·exact .inr ⟨h1,h2⟩
variable {bd:Fx}
theorem mem_newV {v:List Nat}:v∈Jgu bd x↔v∉bd∧∃t∈x.args,t.kind=1∧t.name=v:=by
 simp[Jgu,Jjk]
theorem PlInv.nil (body:List Lt):PlInv body ([],[]):=⟨by simp,by simp,by simp⟩
theorem PlInv.take {s:JbX}{i:Nat}(h:PlInv body s)(hi:i<body.length)(ha:∀x∈body,x.args.length≤5):PlInv body (JcE body s i):=by
 obtain⟨x,hx⟩:∃x,body[i]? = some x:=⟨_,FB hi⟩;refine⟨fun j hj=>?_,fun j hj hk t ht h1=>?_,?_⟩
 ·simp only[JcE,Ka,Ko]at hj;rcases hj with hj|rfl
  ·exact h.lt j hj
  ·exact hi
 ·simp only[JcE,Ka,Ko]at hj ⊢;rcases hj with hj|rfl
  ·exact .inl (h.bnd j hj hk t ht h1)
  ·by_cases hm:t.name∈s.2
   ·exact .inl hm
   ·exact .inr (mem_newV.2 ⟨hm,t,ht,h1,rfl⟩)
 ·simp only[JcE,FE,Kb];have h1:=Jtk s.2 (Ja8 body i);have h2:=ha x (FI hx);have h3:=h.len;rw[JbN hx]at h1 ⊢;omega
theorem bndN_full:Jfp bd x=x.args.length↔∀t∈x.args,t.kind=1→t.name∈bd:=by
 rw[Jfp,List.countP_eq_length];constructor
 ·intro h t ht hk;exact (of_decide_eq_true (h t ht)).resolve_left fun hn=>hn hk
 ·intro h t ht;by_cases hk:t.kind=1
  ·exact decide_eq_true (.inr (h t ht hk))
  ·exact decide_eq_true (.inl hk)
theorem Jug:Jfp bd x≤x.args.length:=List.countP_le_length
theorem Jja {r:Rl}{s:JbX}(hs:Jc0 r=true)(h:PlInv r.body s)(hl:s.1.length<r.body.length):∃i,JcC r.body s i=true:=by
 have hex:∃i,i<r.body.length∧i∉s.1:=Classical.byContradiction fun hn=>by
  have:=JqG r.body.length s.1 fun i hi=>Classical.byContradiction fun hc=>hn ⟨i,hi,hc⟩;omega
 by_cases hat:∃i,i<r.body.length∧i∉s.1∧(Ja8 r.body i).kind=1
 ·obtain⟨i,h1,h2,h3⟩:=hat;exact⟨i,decide_eq_true ⟨h1,h2,.inl h3⟩⟩
 ·obtain⟨i,h1,h2⟩:=hex;obtain⟨x,hx⟩:∃x,r.body[i]? = some x:=⟨_,FB h1⟩;refine⟨i,decide_eq_true ⟨h1,h2,.inr ?_⟩⟩;rw[JbN hx];have hk:x.kind≠1:=fun hk=>hat ⟨i,h1,h2,by rw[JbN hx];exact hk⟩;refine bndN_full.2 fun t ht h3=>?_;have hneed:t.name∈JdH r:=mem_rNeed.2 (.inr ⟨x,FI hx,hk,t,ht,h3,rfl⟩);have hb:t.name∈Jcy r:=of_decide_eq_true (List.all_eq_true.1 hs _ hneed);obtain⟨y,hy,hyk,t2,ht2,hk2,hn2⟩:=mem_rBound.1 hb;obtain⟨j,hj⟩:=List.getElem?_of_mem hy;have hjl:j<r.body.length:=(List.getElem?_eq_some_iff.1 hj).1;have hjs:j∈s.1:=Classical.byContradiction fun hn=>hat ⟨j,hjl,hn,by rw[JbN hj];exact hyk⟩;rw[←hn2];have:=h.bnd j hjs (by rw[JbN hj];exact hyk) t2 (by rw[JbN hj];exact ht2) hk2;exact this
end Delphi
namespace Go.Proofs.YtegdcbdicpfbpaaGreatDoor
open Go.AE Delphi
variable {tab:Tab}
def JcM (l:List Nat):List V:=l.map fun n=>V.int .i64 (Int.ofNat n)
def Jd9 (n:Nat) (l:List Nat):List V:=(List.range n).map fun i=>V.bool (decide (i∈l))
variable {i:Nat}
theorem JjF {n:Nat}{l:List Nat}(h:i<n):(Jd9 n l)[i]? = some (V.bool (decide (i∈l))):=by
 simp[Jd9,F7,List.getElem?_range h]
structure PrS (a w:AW) (T:Fw) (r:Rl) (hv u:V) (n2 b9:Nat) (s:JbX) (ov bv:V) (So Sb:Fw):Prop where
 frm:Frm (fun _=>False) a w
 lits:RdL (LtC T) T a u 3 r.body
 rule:CB w n2 [.int .i64 (Int.ofNat r.head.kind),.str r.head.name,hv,u]
 ord:Bt So w ov 1 s.1.length (JcM s.1)
 bnd:Bt Sb w bv 1 s.2.length (JbC s.2)
 done:CB w b9 (Jd9 r.body.length s.1)
 ge:a.next≤n2∧n2<b9
 sepO:∀x,So x→a.next≤x∧x<w.next∧x≠n2∧x≠b9∧¬Sb x
 sepB:∀x,Sb x→a.next≤x∧x<w.next∧x≠n2∧x≠b9
 inv:PlInv r.body s
variable {s:JbX}
theorem PrS.ext {a w w2:AW}{T:Fw}{r:Rl}{hv u:V}{n2 b9:Nat}{ov bv:V}{So Sb:Fw}(h:PrS a w T r hv u n2 b9 s ov bv So Sb)(hf:Frm (fun _=>False) w w2):PrS a w2 T r hv u n2 b9 s ov bv So Sb:=
 have nx:=hf.next
 ⟨h.frm.tr hf,h.lits,h.rule.frm hf fun h=>h,h.ord.frm hf fun _ _ h=>h,h.bnd.frm hf fun _ _ h=>h,h.done.frm hf fun h=>h,h.ge,fun x hx=>by have h1:=h.sepO x hx;exact⟨h1.1,by omega,h1.2.2⟩,fun x hx=>by have h1:=h.sepB x hx;exact⟨h1.1,by omega,h1.2.2⟩,h.inv⟩
theorem PrS.lit {a w:AW}{T:Fw}{r:Rl}{hv u:V}{n2 b9:Nat}{ov bv:V}{So Sb:Fw}(h:PrS a w T r hv u n2 b9 s ov bv So Sb){t:Lt}(hi:r.body[i]? = some t): ∃b o c v,u = .slice b o r.body.length c∧w.load b (o+i*3) 3=some [.int .i64 (Int.ofNat t.kind),.str t.name,v]∧Rd T w v 3 t.args.length (JbY t.args):=by
 obtain⟨b,o,c,v,h1,_,_,h2,_,_,_,h3⟩:=Jfs (h.lits.frm (fun _ _ hl=>hl.frm h.frm fun _ _ h=>h) h.frm fun _ _ h=>h) hi;exact⟨b,o,c,v,h1,h2,h3⟩
theorem Jns {body:List Lt}(h:¬(i<body.length∧i∉s.1∧((Ja8 body i).kind=1∨Jfp s.2 (Ja8 body i)=(Ja8 body i).args.length))):JcC body s i=false:=decide_eq_false h
section
open Go.AE Delphi
variable {tab:Tab}
end
end Go.Proofs.YtegdcbdicpfbpaaGreatDoor
