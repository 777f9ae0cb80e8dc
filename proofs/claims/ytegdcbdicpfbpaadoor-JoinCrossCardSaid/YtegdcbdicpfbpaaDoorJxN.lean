/- A part of the proof. -/
import Derived.Test.YtegdcbdicpfbpaaDoorJxM
import Derived.Test.YtegdcbdicpfbpaaDoorJxL
import Derived.Test.YtegdcbdicpfbpaaDoorJxI
open Int renaming ofNat → Fq
open Go.IntKind renaming wrap → KX
set_option linter.unusedVariables false
set_option maxRecDepth 10000
set_option linter.unusedSimpArgs false
namespace Go.Proofs.YtegdcbdicpfbpaaDoor
open Go.AE Delphi Val
variable {tab:Tab}
variable {l:List Int}
theorem Mm {T:Fw}{w:AW}{v:V}(h:Rel.RowV T w v l){i:Nat}{n:Int}(hi:l[i]? = some n):∃b c,v = .slice b 0 l.length c∧w.load b (0+i*1) 1=some [.int .i64 n]:=by
 rcases h.inv with⟨_,rfl⟩|⟨b,c,rfl,_,hb,hx⟩
 ·simp at hi
 ·exact⟨b,c,rfl,Rel.row_load hx hi⟩
theorem JoT {T:Fw}{w:AW}{v:V}(h:Rel.RowV T w v l):lenV v=some l.length:=by
 rcases h.inv with⟨rfl,rfl⟩|⟨b,c,rfl,_⟩<;>rfl
abbrev Vm:=List (List Nat×Int)
def HK:List Tm→List Int→Vm→Fx→(Vm×List (List Nat))×Bool
 | t::ts,n::ns,M,l2=>if t.kind≠1 then HK ts ns M l2 else match Hr M t.name with
  | some k=>if k=n then HK ts ns M l2 else ((M,l2),false)
  | none=>HK ts ns (Pe M t.name n) (l2++[t.name])
 | _,_,M,l2=>((M,l2),true)
theorem Jno (l:Fx)(s:List Nat):HW (l++[s])=HW l++[.str s]:=by simp[HW]
theorem Jpr (C:Codes tab){jb vb:Nat}{O R:Fw}{M:Vm}{l:Lt}{row:List Int}{xs cells:List V}{rv:V}{aw:AW}{K:V→AW→Prop}(hj:CB aw jb cells)(hjv:jb≠vb)(h12:HC 1 (cells.drop 12)=some [.map vb])(hM:SM aw vb M)(hx:LtC O aw l xs)(hO:∀x,O x→x≠vb)(hr:Rel.RowV R aw rv row)(hR:∀x,R x→x≠vb)(hal:l.args.length≤10)(hrl:row.length=l.args.length)(h:∀w v S M' l2 ok,HK l.args row M []=((M',l2),ok)→SM w vb M'→Bt S w v 1 l2.length (HW l2)→Frm (fun x=>x=vb) aw w→(∀x,S x→aw.next≤x∧x<w.next)→K (.tuple [v,.bool ok]) w):WF tab VZ [.ptr jb 0,.agg xs,rv] aw K:=by
 refine Hy C.Xs rfl ?_;obtain⟨xl,xo⟩:=hx.one;obtain⟨xv,rfl,hx⟩:=hx;obtain⟨w1,e1,c1,r1,m1⟩:=Lc aw [.int .i64 (Fq l.kind),.str l.name,xv];have a2:=CB.ld c1 2 1 _ rfl;have hxv:=hx.lenV;have hrv:=JoT hr;have hvl:=hM.lt;refine Fz (by simp only[go_sem,Hn,ZU,GW,e1,a2,hxv];rfl) ?_
 refine HT (fun n f w=>∃i v S M' l2,f.get 0=some (.ptr jb 0)∧f.get 2=some rv∧f.get 8=some v∧f.get 14=some xv∧f.get 15=some (.int .i64 (Fq l.args.length))∧f.get 16=some (.int .i64 (Fq i))∧SM w vb M'∧Bt S w v 1 l2.length (HW l2)∧Frm (fun x=>x=vb) aw w∧(∀x,S x→aw.next≤x∧x<w.next)∧HK l.args row M []=HK (l.args.drop i) (row.drop i) M' l2∧l2.length≤i∧i≤l.args.length∧n=l.args.length-i)
  (fun f w=>∃v S M' l2,f.get 8=some v∧SM w vb M'∧Bt S w v 1 l2.length (HW l2)∧Frm (fun x=>x=vb) aw w∧(∀x,S x→aw.next≤x∧x<w.next)∧HK l.args row M []=((M',l2),true)) ?_ ?_ l.args.length
  ⟨0,.nilslice,fun _=>False,M,[],Fb,Fb,Fb,Fb,Fb,Fb,hM.frm r1 fun h=>h,.nil,r1.mono fun _ _ h=>h.elim,fun _ h=>h.elim,rfl,Nat.zero_le _,Nat.zero_le _,rfl⟩
 ·rintro n f w ⟨i,v,S,M',l2,f0,f2,f8,f14,f15,f16,hMw,hB,g,hS,hL,hl2,hi,rfl⟩ ih out;by_cases hil:i<l.args.length
  case neg =>
   obtain rfl:i=l.args.length:=Fh;rw[List.drop_length]at hL;have hL:HK l.args row M []=((M',l2),true):=by rw[hL];cases row.drop l.args.length<;>rfl
   refine Hs 1000 (by simp only[go_sem,Zl,f15,f16,hil];rfl) ?_;exact out _ _ _ ⟨v,S,M',l2,(Fg f8),hMw,hB,g,hS,hL⟩ rfl
  have hir:i<row.length:=Fh;obtain⟨t,ht⟩:∃t,l.args[i]? = some t:=⟨_,FB hil⟩;obtain⟨u,hu⟩:∃t,row[i]? = some t:=⟨_,FB hir⟩;have hda:l.args.drop i=t::l.args.drop (i+1):=by rw[FL hil];rw[FB hil]at ht;cases ht;rfl
  have hdb:row.drop i=u::row.drop (i+1):=by rw[FL hir];rw[FB hir]at hu;cases hu;rfl
  rw[hda,hdb]at hL;have hwr:KX .i64 (Fq i+1)=Fq (i+1):=Hv Fh;have hxw:=hx.frm g hO;have hrw:=hr.frm g hR;obtain⟨b,o,c,rfl,_,_,la,_⟩:=SQ hxw ht;obtain⟨w3,s3,c3,r3,n3⟩:=PA w (zs:=[V.int .i64 0,V.str [],V.int .i64 0]) (vs:=tmC t) rfl rfl;have k0:w3.load w.next 0 1=some [.int .i64 (Fq t.kind)]:=CB.ld c3 0 1 _ rfl;have k1:w3.load w.next 1 1=some [.str t.name]:=CB.ld c3 1 1 _ rfl;have htl:(tmC t).length=3:=rfl;have g3:Frm (fun x=>x=vb) aw w3:=g.trans r3 (fun _ _ h=>h) fun _ _ h=>h.elim;have hM3:SM w3 vb M':=hMw.frm r3 fun h=>h;have hB3:=hB.frm r3 fun _ _ h=>h;have g0:=g.next;have n3':=r3.next;have hS3:∀x,S x→aw.next≤x∧x<w3.next:=fun x hx=>⟨(hS x hx).1,by have:=(hS x hx).2;omega⟩;by_cases hk:t.kind=1
  case neg =>
   have hL:HK l.args row M []=HK (l.args.drop (i+1)) (row.drop (i+1)) M' l2:=by rw[hL];exact if_pos hk
   refine Fz (by simp only[go_sem,Hn,Zl,ZT,f14,f15,f16,hil,la,htl,s3,k0,hk,hwr];rfl) ?_;exact ih _ _ _ Fh ⟨i+1,v,S,M',l2,(Fg f0),(Fg f2),(Fg f8),(Fg f14),(Fg f15),Fb,hM3,hB3,g3,hS3,hL,by omega,by omega,rfl⟩
  rw[hk]at k0
  have hL:HK l.args row M []=(match Hr M' t.name with
   | some k=>if k=u then HK (l.args.drop (i+1)) (row.drop (i+1)) M' l2 else ((M',l2),false)
   | none=>HK (l.args.drop (i+1)) (row.drop (i+1)) (Pe M' t.name u) (l2++[t.name])):=by rw[hL];exact if_neg fun h=>h hk
  have j12:w3.load jb 12 1=some [.map vb]:=CB.ld ((hj.frm g hjv).frm r3 fun h=>h) 12 1 _ h12;have look:=hM3.look Px (.int .i64 0) t.name;obtain⟨rb,rc,rfl,lr⟩:=Mm (hrw.frm r3 fun _ _ h=>h) hu;cases hag:Hr M' t.name with
  | some k =>
   rw[hag]at look hL;have look:w3.lookV (.scalar .str) (.int .i64 0) (.map vb) (.str t.name)=some (.int .i64 k,true):=look;by_cases hku:k=u
   ·have hku':(k != u)=false:=by simp[hku]
    have hL:HK l.args row M []=HK (l.args.drop (i+1)) (row.drop (i+1)) M' l2:=by rw[hL];exact if_pos hku
    refine Fz (by simp only[go_sem,Hn,Zl,ZT,Xr,Xq,f0,f2,f14,f15,f16,hil,hir,la,htl,s3,k0,k1,j12,look,lr,hku',hwr];rfl) ?_;exact ih _ _ _ Fh ⟨i+1,v,S,M',l2,(Fg f0),(Fg f2),(Fg f8),(Fg f14),(Fg f15),Fb,hM3,hB3,g3,hS3,hL,by omega,by omega,rfl⟩
   ·have hku':(k != u)=true:=by simp[hku]
    have hL:HK l.args row M []=((M',l2),false):=by rw[hL];exact if_neg hku
    refine Fz (by simp only[go_sem,Hn,Zl,ZT,Xr,Xq,GS,f0,f2,f8,f14,f15,f16,hil,hir,la,htl,s3,k0,k1,j12,look,lr,hku'];rfl) ?_;refine Hp ⟨_,by simp only[go_sem,Hn,ZU];rfl,?_⟩;exact h w3 v S M' l2 false hL hM3 hB3 g3 hS3
  | none =>
   rw[hag]at look hL;have look:w3.lookV (.scalar .str) (.int .i64 0) (.map vb) (.str t.name)=some (.int .i64 0,false):=look;have hL:HK l.args row M []=HK (l.args.drop (i+1)) (row.drop (i+1)) (Pe M' t.name u) (l2++[t.name]):=hL;obtain⟨w4,p1,p2,p3,p4⟩:=hM3.put Px t.name u;have hvb4:w.next≠vb:=Fh;have k1':w4.load w.next 1 1=some [.str t.name]:=CB.ld (c3.frm p3 hvb4) 1 1 _ rfl;have hB4:=hB3.frm p3 fun x hx h=>by have:=(hS x hx).1;omega
   obtain⟨v',w5,S5,u1,u2,u3,u4⟩:=hB4.push (news:=[V.str t.name]) (bytes:=16) (fun b hb=>by have:=(hS3 b hb).2;omega) Fh rfl rfl Fh Fh;have hel:(w4.fresh [V.str t.name]).elems 1 (.slice w4.next 0 1 (.known 1))=some (1,[V.str t.name]):=Pl Fh rfl;have hov:over [V.str []] 0 [V.str t.name]=some [V.str t.name]:=rfl;refine Fz (by simp only[go_sem,Hn,Zl,ZT,Xr,Xq,GV,GU,f0,f2,f8,f14,f15,f16,hil,hir,la,htl,s3,k0,k1,j12,look,lr,p1,k1',Hw,HF,hov,FC,FD,hel,u1,hwr];rfl) ?_;have n5:=u3.next;refine ih _ _ _ Fh ⟨i+1,v',S5,Pe M' t.name u,l2++[t.name],(Fg f0),(Fg f2),Fb,(Fg f14),(Fg f15),Fb,p2.frm u3 fun h=>by have:=(hS _ h).1;omega,by rw[Jno,FE];exact u2,(g3.trans p3 (fun _ _ h=>h) fun _ _ h=>h).trans u3 (fun _ _ h=>h) (fun x hx h=>by have:=(hS x h).1;omega),fun x hx=>?_,hL,by rw[FE];simp;omega,by omega,rfl⟩;refine⟨?_,(u4 x hx).1⟩;rcases (u4 x hx).2 with h|h
   ·exact (hS x h).1
   ·omega
 ·rintro f w ⟨v,S,M',l2,f8,hMw,hB,g,hS,hL⟩;refine Fz (by simp only[go_sem,Hn,f8];rfl) ?_;refine Hp ⟨_,by simp only[go_sem,Hn,ZU];rfl,?_⟩;exact h w v S M' l2 true hL hMw hB g hS
section
open Go.AE Delphi Val
variable {tab:Tab}
end
end Go.Proofs.YtegdcbdicpfbpaaDoor
namespace Delphi
theorem M4 {p:Nat→Bool}(l:List Nat):l.take (l.takeWhile p).length=l.takeWhile p:=by
 have:=(List.takeWhile_prefix (p:=p) (l:=l));exact (List.prefix_iff_eq_take.1 this).symm
def Jqm (w:Wd):Prop:=∃u,(Hx u).2≠0∧w.kind=(Hx u).1∧w.text=u.take (Hx u).2∧¬((Hx u).1≠4∧16<(Hx u).2)
theorem NT:∀(n at':Nat) (s:List Nat),s.length≤n→∀w∈(scan at' s).1,Jqm w
 | n,at',s,hn=>by
  rw[IG];split
  ·intro w hw;simp at hw
  ·rename_i c t hd;split
   ·intro w hw;simp at hw
   ·rename_i hbad;have hb:=Tf false s;have hlen:(c::t).length=s.length-blk false s:=by rw[←hd];simp
    have hm:(Hx (c::t)).2≠0:=fun he=>hbad (.inl he);have hl2:((c::t).drop (Hx (c::t)).2).length<s.length:=by simp only[Kh,FC]at *;omega
    intro w hw;rcases List.mem_cons.1 hw with rfl|hw
    ·exact⟨c::t,hm,rfl,rfl,fun h=>hbad (.inr h)⟩
    ·match n,hn with
     | 0,hn=>simp only[FC]at hlen;omega
     | n+1,hn=>exact NT n _ _ Fh w hw
section
def Gap (g:List Nat):Prop:=∀(r:List Nat),blk false (g++r)=g.length+blk false r
theorem Gap.scan {g:List Nat}(h:Gap g)(n:Nat)(r:List Nat):scan n (g++r)=scan (n+g.length) r:=by
 have:=Rs n (g++r) g.length (by rw[List.drop_left];exact h r);rw[List.drop_left]at this;exact this
def SV (s:List Nat):Prop:=∃c t,s=c::t∧OB c=true∧(∀x∈s,HZ x=true)∧s.length≤16
def Jq2 (s:List Nat):Prop:=∃c t,s=c::t∧BZ c=true∧(∀x∈s,PJ x=true)∧s.length≤16
def JqE (s:List Nat):Prop:=s.length≤16∧((s=[48])∨∃m c t,s=m++c::t∧(m=[]∨m=[45])∧HS c=true∧c≠48∧∀x∈t,HS x=true)
end
section
end
section
variable (fm:Int→List Nat)
def At (ws:List Wd) (k:Nat) (l:List Wd):Prop:=l <+: ws.drop k
variable {ws l:List Wd}
theorem At.head {k:Nat}{w:Wd}(h:At ws k (w::l)):ws[k]? = some w∧At ws (k+1) l:=by
 obtain⟨r,hr⟩:=h
 have hlt:k<ws.length:=by
  have:=congrArg List.length hr;simp at this;omega
 rw[FL hlt]at hr;rw[List.cons_append]at hr;injection hr with h1 h2
 exact⟨by rw[FB hlt,h1],r,h2⟩
theorem At.le {k:Nat}(h:At ws k l)(hk:k≤ws.length):k+l.length≤ws.length:=by
 have:=h.length_le;rw[Kh]at this;omega
def Jrv:Prop:=∀n:Int,n.natAbs≤2147483648→O8 (fm n)=n.natAbs∧((fm n).head? = some 45↔n<0)
def TmW (t:Tm):Prop:=(t.kind=1∧t.num=0)∨(t.kind=2∧t.num=0)∨(t.kind=3∧t.name=[]∧t.num.natAbs≤2147483648)
structure LtW (l:Lt):Prop where
 kind:(l.kind=1∨l.kind=2)∨(3≤l.kind∧l.kind≤6∧l.args.length=2∧l.name=[])
 tm:∀t∈l.args,TmW t
variable {fm}
end
section
variable {fm:Int→List Nat}
def Jrw (l:Lt):Prop:=l.args.length≤4
structure RlW (r:Rl):Prop where
 hk:r.head.kind=1
 ht:∀t∈r.head.args,TmW t
 bd:∀l∈r.body,LtW l
structure RlL (r:Rl):Prop where
 hd:r.head.args.length≤4
 bd:r.body.length≤6
 ls:∀l∈r.body,Jrw l
theorem JlX {ws:List Wd}{q:Nat}{l:List Rl}{k e:Nat}(h:e≠0):PK ws q l k e=(l,k,e):=by
 cases q with
 | zero=>rfl
 | succ q=>simp only[PK];rw[if_neg (fun hh=>h hh.1)]
end
section
variable (fm:Int→List Nat)
variable {fm}
def TmX (fm:Int→List Nat) (t:Tm):Prop:=(t.kind=1→Jq2 t.name)∧(t.kind=2→SV t.name)∧(t.kind=3→JqE (fm t.num))
structure LtX (fm:Int→List Nat) (l:Lt):Prop where
 w:LtW l
 nm:l.kind=1∨l.kind=2→SV l.name
 tm:∀t∈l.args,TmX fm t
structure RlX (fm:Int→List Nat) (r:Rl):Prop where
 w:RlW r
 nm:SV r.head.name
 tm:∀t∈r.head.args,TmX fm t
 bd:∀l∈r.body,LtX fm l
end
section
open Go.AE
variable [Globs]
theorem Ty:∀(n m:Nat),m≤n→(∀x∈Lf m,HS x=true)∧(Lf m).foldl Bo 0=m∧∃c t,Lf m=c::t∧(m≠0→c≠48)
 | n,m,h=>by
  by_cases hs:m<10
  ·rw[AB hs];refine⟨fun x hx=>?_,?_,48+m,[],rfl,fun h=>by omega⟩
   ·simp only[FJ,FZ,or_false]at hx;subst hx;simp only[HS,FQ,decide_eq_true_eq];omega
   ·simp only[Kt,List.foldl_nil,Bo];rw[if_neg Fh];omega
  ·match n,h with
   | 0,h=>omega
   | n+1,h =>
    obtain⟨h1,h2,c,t,h3,h4⟩:=Ty n (m / 10) Fh;rw[RB hs];refine⟨fun x hx=>?_,?_,c,t++[48+m % 10],by rw[h3];rfl,fun _=>h4 Fh⟩
    ·rcases List.mem_append.1 hx with hx|hx
     ·exact h1 x hx
     ·simp only[FJ,FZ,or_false]at hx;subst hx;simp only[HS,FQ,decide_eq_true_eq];omega
    ·rw[List.foldl_append,h2];simp only[Kt,List.foldl_nil,Bo];rw[if_neg Fh];omega
theorem AA:∀(k m:Nat),m<10 ^ k→0<k→(Lf m).length≤k
 | 0,m,h,h0=>by omega
 | k+1,m,h,h0=>by
  by_cases hs:m<10
  ·rw[AB hs];simp
  ·rw[RB hs,FE,Ka]
   have hk:0<k:=by
    by_cases hk:k=0
    ·subst hk;simp at h;omega
    ·omega
   have:=AA k (m / 10) (by rw[Nat.pow_succ]at h;omega) hk;omega
theorem JmG:Jrv P7:=by
 intro n hn;cases n with
 | ofNat m =>
  obtain⟨h1,h2,c,t,h3,_⟩:=Ty m m (FH _);refine⟨h2,?_⟩;show (Lf m).head? = some 45↔_;rw[h3];simp only[List.head?_cons,FP];have hc:=h1 c (by rw[h3];simp);constructor
  ·rintro rfl;exact absurd hc (by decide)
  ·intro h;exact absurd h Fj
 | negSucc m =>
  obtain⟨h1,h2,c,t,h3,_⟩:=Ty (m+1) (m+1) (FH _);refine⟨?_,?_⟩
  ·show (45::Lf (m+1)).foldl Bo 0=m+1;rw[Kt];have:Bo 0 45=0:=by simp[Bo]
   rw[this];exact h2
  ·show (45::Lf (m+1)).head? = some 45↔_;simp only[List.head?_cons,true_iff];exact Int.negSucc_lt_zero m
theorem Jky {n:Int}(hn:n.natAbs≤2147483648):JqE (P7 n):=by
 cases n with
 | ofNat m =>
  have hn:m≤2147483648:=hn;obtain⟨h1,h2,c,t,h3,h4⟩:=Ty m m (FH _);have hl:=AA 10 m Fh Fh;refine⟨by show (Lf m).length≤16;omega,?_⟩;show Lf m=[48]∨_;by_cases h0:m=0
  ·subst h0;left;exact AB Fh
  ·right;exact⟨[],c,t,by rw[List.nil_append];exact h3,.inl rfl,h1 c (by rw[h3];simp),h4 h0,fun x hx=>h1 x (by rw[h3];simp[hx])⟩
 | negSucc m =>
  have hn:m+1≤2147483648:=hn;obtain⟨h1,h2,c,t,h3,h4⟩:=Ty (m+1) (m+1) (FH _);have hl:=AA 10 (m+1) Fh Fh;refine⟨by show (45::Lf (m+1)).length≤16;rw[FC];omega,.inr ⟨[45],c,t,?_,.inr rfl,h1 c (by rw[h3];simp),h4 Fh,fun x hx=>h1 x (by rw[h3];simp[hx])⟩⟩;show 45::Lf (m+1)=_;rw[h3];rfl
structure WdG (w:Wd):Prop where
 lo:1≤w.kind
 hi:w.kind≤4
 nm:w.kind=1→SV w.text
 vr:w.kind=2→Jq2 w.text
omit [Globs] in
theorem JqO {w:Wd}(h:Jqm w):WdG w:=by
 obtain⟨u,h1,h2,h3,h4⟩:=h;cases u with
 | nil=>exact absurd rfl h1
 | cons c t =>
  have h16:w.kind≠4→w.text.length≤16:=by
   intro hk;rw[h3,FT];have:¬16<(Hx (c::t)).2:=fun h=>h4 ⟨by rw[←h2];exact hk,h⟩;omega
  by_cases hs:OB c=true
  ·have e:Hx (c::t)=(1,((c::t).takeWhile HZ).length):=by simp only[Hx,hs,if_true]
   rw[e]at h2 h3;simp only at h2 h3;rw[M4]at h3;have hn:HZ c=true:=by simp[HZ,hs]
   refine⟨by omega,by omega,fun _=>⟨c,t.takeWhile HZ,by rw[h3,List.takeWhile_cons_of_pos hn],hs,fun x hx=>?_,h16 Fh⟩,(fun h=>by omega)⟩;rw[h3]at hx;exact (List.all_eq_true.1 (List.all_takeWhile (p:=HZ) (l:=c::t))) x hx
  ·by_cases hg:BZ c=true
   ·have e:Hx (c::t)=(2,((c::t).takeWhile PJ).length):=by simp only[Hx,hs,hg,if_true,FM,if_false]
    rw[e]at h2 h3;simp only at h2 h3;rw[M4]at h3;have hn:PJ c=true:=by simp[PJ,hg]
    refine⟨by omega,by omega,fun h=>by omega,fun _=>⟨c,t.takeWhile PJ,by rw[h3,List.takeWhile_cons_of_pos hn],hg,fun x hx=>?_,h16 Fh⟩⟩;rw[h3]at hx;exact (List.all_eq_true.1 (List.all_takeWhile (p:=PJ) (l:=c::t))) x hx
   ·have hk:w.kind=3∨w.kind=4:=by
     rw[h2];revert h1;simp only[Hx,hs,hg,FM,if_false];split
     ·intro _;exact .inl rfl
     ·split
      ·intro _;exact .inr rfl
      ·intro h;exact absurd rfl h
    rcases hk with hk|hk
    ·exact⟨by omega,by omega,fun h=>by omega,fun h=>by omega⟩
    ·exact⟨by omega,by omega,fun h=>by omega,fun h=>by omega⟩
def TG (t:Tm):Prop:=TmW t∧TmX P7 t
variable {ws:List Wd} {k e:Nat}
theorem EU (hw:∀w∈ws,WdG w)(h:(HG ws k e).2.2=0):TG (HG ws k e).1:=by
 unfold HG at h ⊢;cases hn:Lx ws k e with
 | none =>
  rw[hn]at h;simp only[KZ]at h;split at h
  ·omega
  ·contradiction
 | some w =>
  rw[hn]at h;simp only at h ⊢;obtain⟨_,_,hm⟩:=ED hn;have hg:=hw w (FI hm);by_cases h4:w.kind=4
  ·rw[if_pos h4]at h;simp at h
  ·rw[if_neg h4]at h ⊢;by_cases h1:w.kind=1
   ·rw[if_pos h1];exact⟨.inr (.inl ⟨rfl,rfl⟩),(fun h=>by cases h),(fun _=>hg.nm h1),(fun h=>by cases h)⟩
   ·rw[if_neg h1]at h ⊢;by_cases h2:w.kind=2
    ·rw[if_pos h2];exact⟨.inl ⟨rfl,rfl⟩,(fun _=>hg.vr h2),(fun h=>by cases h),(fun h=>by cases h)⟩
    ·rw[if_neg h2]at h ⊢;by_cases hb:2147483648<O8 w.text
     ·rw[if_pos hb]at h;simp at h
     ·rw[if_neg hb];have ha:(if w.text.head? = some 45 then -(O8 w.text:Int)else (O8 w.text:Int)).natAbs≤2147483648:=by split<;>omega
      exact⟨.inr (.inr ⟨rfl,rfl,ha⟩),(fun h=>by cases h),(fun h=>by cases h),(fun _=>Jky ha)⟩
omit [Globs] in
theorem Qq {n:Nat}{l:List Tm}(h:e≠0):Li ws n l k e=(l,k,e):=by
 cases n with
 | zero=>rfl
 | succ n=>simp only[Li,if_neg h]
theorem JkR {ws:List Wd}(hw:∀w∈ws,WdG w):∀(n:Nat) (args:List Tm) (k e:Nat),(∀t∈args,TG t)→args.length≤4→(Li ws n args k e).2.2=0→(∀t∈(Li ws n args k e).1,TG t)∧(Li ws n args k e).1.length≤4
 | 0,args,k,e,h,hl,_=>⟨h,hl⟩
 | n+1,args,k,e,h,hl,he=>by
  by_cases h0:e=0
  case neg=>rw[Qq h0]at he;exact absurd he h0
  subst h0;simp only[Li,if_true]at he ⊢
  have hz:(if (HG ws k 0).2.2=0∧args.length=4 then 8 else (HG ws k 0).2.2)=0:=by
   by_cases hc:Pt ws (HG ws k 0).2.1 [44]=true
   ·rw[if_pos hc]at he;by_cases hz:(if (HG ws k 0).2.2=0∧args.length=4 then 8 else (HG ws k 0).2.2)=0
    ·exact hz
    ·rw[Qq hz]at he;exact he
   ·rw[if_neg hc]at he;exact he
  have hr:(HG ws k 0).2.2=0∧args.length≠4:=by
   by_cases hc:(HG ws k 0).2.2=0∧args.length=4
   ·rw[if_pos hc]at hz;omega
   ·rw[if_neg hc]at hz;exact⟨hz,fun h=>hc ⟨hz,h⟩⟩
  have ht:=EU hw hr.1
  have hall:∀t∈args++[(HG ws k 0).1],TG t:=by
   intro t hm;rcases List.mem_append.1 hm with hm|hm
   ·exact h t hm
   ·simp only[FJ,FZ,or_false]at hm;subst hm;exact ht
  have hl':(args++[(HG ws k 0).1]).length≤4:=by simp;omega
  split
  ·rename_i hc;rw[if_pos hc]at he;exact JkR hw n _ _ _ hall hl' he
  ·exact⟨hall,hl'⟩
structure AtG (l:Lt):Prop where
 kind:l.kind=1
 nm:SV l.name
 tm:∀t∈l.args,TG t
 four:l.args.length≤4
theorem ES (hw:∀w∈ws,WdG w)(h:(HH ws k e).2.2=0):AtG (HH ws k e).1:=by
 unfold HH at h ⊢;cases hn:Lx ws k e with
 | none =>
  rw[hn]at h;simp only[KZ]at h;split at h
  ·omega
  ·contradiction
 | some w =>
  rw[hn]at h;simp only at h ⊢;obtain⟨_,_,hm⟩:=ED hn;have hg:=hw w (FI hm);by_cases h1:w.kind=1
  ·rw[if_pos h1]at h ⊢;by_cases hs:Pt ws (k+1) [40]=true
   ·rw[if_pos hs]at h ⊢;simp only at h ⊢;have he:=Mk h;obtain⟨q1,q2⟩:=JkR hw (ws.length+1) [] (k+2) e Fj Fj he;exact⟨rfl,hg.nm h1,q1,q2⟩
   ·rw[if_neg hs]at h ⊢;exact⟨rfl,hg.nm h1,by simp,by simp⟩
  ·rw[if_neg h1]at h;simp at h
structure LG (l:Lt):Prop where
 x:LtX P7 l
 four:l.args.length≤4
omit [Globs] in
theorem AtG.lit {l:Lt}(h:AtG l):LG l:=⟨⟨⟨.inl (.inl h.kind),fun t ht=>(h.tm t ht).1⟩,fun _=>h.nm,fun t ht=>(h.tm t ht).2⟩,h.four⟩
omit [Globs] in
theorem Jid {s:List Nat}(h:PH s≠0):3≤PH s∧PH s≤6:=by
 unfold PH at h ⊢;split
 ·omega
 ·split
  ·omega
  ·split
   ·omega
   ·split
    ·omega
    ·rename_i h1 h2 h3 h4;rw[if_neg h1,if_neg h2,if_neg h3,if_neg h4]at h;exact absurd rfl h
theorem JqX (hw:∀w∈ws,WdG w)(h:(PB ws k e).2.2=0):LG (PB ws k e).1:=by
 unfold PB at h ⊢;by_cases h33:Pt ws k [33]=true
 ·rw[if_pos h33]at h ⊢;simp only at h ⊢;have:=ES hw h;exact⟨⟨⟨.inl (.inr rfl),fun t ht=>(this.tm t ht).1⟩,fun _=>this.nm,fun t ht=>(this.tm t ht).2⟩,this.four⟩
 ·rw[if_neg h33]at h ⊢;by_cases h1:Ti ws k=1∧H5 ws (k+1)=0
  ·rw[if_pos h1]at h ⊢;exact (ES hw h).lit
  ·rw[if_neg h1]at h ⊢;simp only at h ⊢;by_cases hc:(HG ws k e).2.2≠0∨H5 ws (HG ws k e).2.1=0
   ·rw[if_pos hc]at h;simp only[KZ]at h;split at h
    ·omega
    ·contradiction
   ·rw[if_neg hc]at h ⊢;simp only at h ⊢
    have ha0:(HG ws k e).2.2=0:=by
     by_cases hz:(HG ws k e).2.2=0
     ·exact hz
     ·exact absurd (.inl hz) hc
    have hz:H5 ws (HG ws k e).2.1≠0:=fun hz=>hc (.inr hz);have ha:=EU hw ha0;have hb:=EU hw h
    have hk:3≤H5 ws (HG ws k e).2.1∧H5 ws (HG ws k e).2.1≤6:=by
     unfold H5 at hz ⊢;split at hz
     ·split at hz
      ·rename_i h4;rw[if_pos h4];exact Jid hz
      ·exact absurd rfl hz
     ·exact absurd rfl hz
    have hT:∀t∈[(HG ws k e).1,(HG ws ((HG ws k e).2.1+1) (HG ws k e).2.2).1],TG t:=by
     intro t ht;simp only[FJ,FZ,or_false]at ht;rcases ht with rfl|rfl
     ·exact ha
     ·exact hb
    refine⟨⟨⟨.inr ⟨hk.1,hk.2,rfl,rfl⟩,fun t ht=>(hT t ht).1⟩,fun h=>?_,fun t ht=>(hT t ht).2⟩,by simp⟩;simp only at h;omega
omit [Globs] in
theorem Qr {n:Nat}{l:List Lt}(h:e≠0):Pr ws n l k e=(l,k,e):=by
 cases n with
 | zero=>rfl
 | succ n=>simp only[Pr,if_neg h]
theorem JkS {ws:List Wd}(hw:∀w∈ws,WdG w):∀(n:Nat) (l:List Lt) (k e:Nat),(∀t∈l,LG t)→l.length≤6→(Pr ws n l k e).2.2=0→(∀t∈(Pr ws n l k e).1,LG t)∧(Pr ws n l k e).1.length≤6
 | 0,l,k,e,h,hl,_=>⟨h,hl⟩
 | n+1,l,k,e,h,hl,he=>by
  by_cases h0:e=0
  case neg=>rw[Qr h0]at he;exact absurd he h0
  subst h0;simp only[Pr,if_true]at he ⊢
  have hz:(if (PB ws k 0).2.2=0∧l.length=6 then 8 else (PB ws k 0).2.2)=0:=by
   by_cases hc:Pt ws (PB ws k 0).2.1 [44]=true
   ·rw[if_pos hc]at he;by_cases hz:(if (PB ws k 0).2.2=0∧l.length=6 then 8 else (PB ws k 0).2.2)=0
    ·exact hz
    ·rw[Qr hz]at he;exact he
   ·rw[if_neg hc]at he;exact he
  have hr:(PB ws k 0).2.2=0∧l.length≠6:=by
   by_cases hc:(PB ws k 0).2.2=0∧l.length=6
   ·rw[if_pos hc]at hz;omega
   ·rw[if_neg hc]at hz;exact⟨hz,fun h=>hc ⟨hz,h⟩⟩
  have ht:=JqX hw hr.1
  have hall:∀t∈l++[(PB ws k 0).1],LG t:=by
   intro t hm;rcases List.mem_append.1 hm with hm|hm
   ·exact h t hm
   ·simp only[FJ,FZ,or_false]at hm;subst hm;exact ht
  have hl':(l++[(PB ws k 0).1]).length≤6:=by simp;omega
  split
  ·rename_i hc;rw[if_pos hc]at he;exact JkS hw n _ _ _ hall hl' he
  ·exact⟨hall,hl'⟩
def RG (r:Rl):Prop:=RlX P7 r∧RlL r
theorem Jm9 (hw:∀w∈ws,WdG w)(h:(H2 ws k e).2.2=0):RG (H2 ws k e).1:=by
 unfold H2 at h ⊢;simp only at h ⊢;have he:=Mk h
 have hb:(HH ws k e).2.2=0∧(∀t∈(if Pt ws (HH ws k e).2.1 [58,45]=true∧(HH ws k e).2.2=0 then Pr ws (ws.length+1) [] ((HH ws k e).2.1+1) (HH ws k e).2.2 else ([],(HH ws k e).2.1,(HH ws k e).2.2)).1,LG t)∧(if Pt ws (HH ws k e).2.1 [58,45]=true∧(HH ws k e).2.2=0 then Pr ws (ws.length+1) [] ((HH ws k e).2.1+1) (HH ws k e).2.2 else ([],(HH ws k e).2.1,(HH ws k e).2.2)).1.length≤6:=by
  split at he
  ·rename_i hc;rw[if_pos hc];obtain⟨q1,q2⟩:=JkS hw (ws.length+1) [] ((HH ws k e).2.1+1) (HH ws k e).2.2 Fj Fj he;exact⟨hc.2,q1,q2⟩
  ·rename_i hc;rw[if_neg hc];exact⟨he,by simp,by simp⟩
 obtain⟨h0,hb1,hb2⟩:=hb;have ha:=ES hw h0;generalize (if Pt ws (HH ws k e).2.1 [58,45]=true∧(HH ws k e).2.2=0 then Pr ws (ws.length+1) [] ((HH ws k e).2.1+1) (HH ws k e).2.2 else ([],(HH ws k e).2.1,(HH ws k e).2.2))=b at hb1 hb2;exact⟨⟨⟨ha.kind,fun t ht=>(ha.tm t ht).1,fun l hl=>(hb1 l hl).x.w⟩,ha.nm,fun t ht=>(ha.tm t ht).2,fun l hl=>(hb1 l hl).x⟩,ha.four,hb2,fun l hl=>(hb1 l hl).four⟩
theorem Jjv {ws:List Wd}(hw:∀w∈ws,WdG w):∀(n:Nat) (l:List Rl) (k e:Nat),(∀t∈l,RG t)→l.length≤30→(PK ws n l k e).2.2=0→(∀t∈(PK ws n l k e).1,RG t)∧(PK ws n l k e).1.length≤30
 | 0,l,k,e,h,hl,_=>⟨h,hl⟩
 | n+1,l,k,e,h,hl,he=>by
  by_cases hc:e=0∧k<ws.length
  case neg=>simp only[PK,if_neg hc];exact⟨h,hl⟩
  simp only[PK,if_pos hc]at he ⊢
  have hz:(if (H2 ws k e).2.2=0∧l.length=30 then 8 else (H2 ws k e).2.2)=0:=by
   by_cases hz:(if (H2 ws k e).2.2=0∧l.length=30 then 8 else (H2 ws k e).2.2)=0
   ·exact hz
   ·rw[JlX hz]at he;exact he
  have hr:(H2 ws k e).2.2=0∧l.length≠30:=by
   by_cases hc:(H2 ws k e).2.2=0∧l.length=30
   ·rw[if_pos hc]at hz;omega
   ·rw[if_neg hc]at hz;exact⟨hz,fun h=>hc ⟨hz,h⟩⟩
  have ht:=Jm9 hw hr.1;refine Jjv hw n _ _ _ (fun t hm=>?_) (by simp;omega) he;rcases List.mem_append.1 hm with hm|hm
  ·exact h t hm
  ·simp only[FJ,FZ,or_false]at hm;subst hm;exact ht
theorem NQ (s:List Nat):(∀r∈(OE s).1,RG r)∧(OE s).1.length≤30:=by
 unfold OE;split
 ·simp
 ·have hw:∀w∈(scan 0 s).1,WdG w:=fun w hw=>JqO (NT _ 0 s (FH _) w hw);have hG:=Jjv hw ((scan 0 s).1.length+1) [] 0 0 Fj Fj;simp only;generalize PK (scan 0 s).1 ((scan 0 s).1.length+1) [] 0 0=r at hG ⊢;by_cases he:KZ r.2.2 (if (scan 0 s).2=true then 0 else 4)=0
  ·rw[if_pos he]
   have h0:r.2.2=0:=by
    unfold KZ at he;split at he
    ·assumption
    ·exact he
   exact hG h0
  ·rw[if_neg he];simp
end
end Delphi
namespace Go.Proofs.YtegdcbdicpfbpaaDoor
open Go.AE Delphi Val
variable {tab:Tab}
section
open Go.AE Delphi Val
variable {tab:Tab}
theorem Jqu (a b:List Nat)(h:a.length+b.length≤100000000000000000):∃c,c=a++b∧LX BinOp.add a b=some (.str c):=by
 refine⟨_,rfl,?_⟩;simp only[LX];rw[if_pos Fh]
end
section
open Go.AE Delphi Val
variable {tab:Tab}
def Oa (most:Int) (n:Nat):Bool:=decide (0≤most)&&decide (most<Fq n)
variable {cells:List V} {K:V→AW→Prop}
theorem JpC (C:Codes tab){jb width:Nat}{S:Fw}{op:V}{rows:Fy}{most:Int}{aw:AW}(hj:CB aw jb cells)(h13:HC 1 (cells.drop 13)=some [op])(h14:HC 1 (cells.drop 14)=some [.int .i64 most])(hs:Rel.SetOf S aw op width rows)(h:K (.bool (Oa most rows.length)) aw):WF tab VY [.ptr jb 0] aw K:=by
 refine Hy C.Xk rfl ?_;have j13:aw.load jb 13 1=some [op]:=CB.ld hj 13 1 _ h13;have j14:aw.load jb 14 1=some [.int .i64 most]:=CB.ld hj 14 1 _ h14;by_cases h0:0≤most
 ·have e:Oa most rows.length=decide (most<Fq rows.length):=by unfold Oa;rw[decide_eq_true h0,Bool.true_and]
  rw[e]at h;have hge:decide (most≥0)=true:=decide_eq_true h0;refine Fz (by simp only[go_sem,Hn,Zk,Vp];rfl) ?_;refine Pg ?_;refine HQ 100 (by simp only[go_sem,Hn,j14,hge,h0,j13];rfl) ?_;refine Pp Ff Fe ?_;refine Rel.len_ok C hs ?_;refine HQ 100 (by simp only[go_sem,Hn,j14];rfl) ?_;refine Pk ⟨(show HP _ _ [(14,10)]from by simp only[go_sem,Hn,HP,chk,List.reverse_cons,List.reverse_nil,H9,Po,Pm,Pn,List.getElem?_nil,false_or,or_true,or_false,exists_eq',FP,Prod.mk.injEq,Bool.true_eq_false,FM,and_true,true_and,implies_true,j14]),?_⟩;refine Ho 1000 Fe ?_;refine Hp ⟨_,by simp only[go_sem,Hn,Zk];rfl,?_⟩;exact h
 ·have e:Oa most rows.length=false:=by unfold Oa;rw[decide_eq_false h0,Bool.false_and]
  rw[e]at h;have hge:decide (most≥0)=false:=decide_eq_false h0;refine Fz (by simp only[go_sem,Hn,Zk,Vp];rfl) ?_;refine Pg ?_;refine HQ 100 (by simp only[go_sem,Hn,j14,hge,h0];rfl) ?_;refine Pk ⟨(show HP _ _ [(14,10)]from by simp only[go_sem,Hn,HP,chk,List.reverse_cons,List.reverse_nil,H9,Po,Pm,Pn,List.getElem?_nil,false_or,or_true,or_false,exists_eq',FP,Prod.mk.injEq,Bool.true_eq_false,FM,and_true,true_and,implies_true,j14,true_or]),?_⟩;refine Ho 1000 Fe ?_;refine Hp ⟨_,by simp only[go_sem,Hn,Zk];rfl,?_⟩;exact h
def P3 (M:Vm) (l:Fx):List Nat:=l.flatMap fun v=>32::P7 (HM M v)
def Oe (M:Vm) (k:Nat) (l:Fx):List Nat:=P7 (Fq k)++P3 M l
theorem Ji9 (M:Vm)(l:Fx)(v:List Nat):P3 M (l++[v])=P3 M l++32::P7 (HM M v):=by simp[P3]
def Bi (tab:Tab):Prop:=∀n aw,-9223372036854775808≤n→n≤9223372036854775807→CallR tab Ya [.int .i64 n] aw (.str (P7 n)) aw
theorem E9 {n:Int}(h:n.natAbs≤100000):(P7 n).length≤16:=(Jky (n:=n) Fh).1
theorem NB (M:Vm)(hM:∀v,(HM M v).natAbs≤100000):∀l:Fx,(P3 M l).length≤17*l.length
 | []=>by simp[P3]
 | v::l=>by
  have h1:=NB M hM l;have h2:=E9 (hM v);have e:P3 M (v::l)=32::P7 (HM M v)++P3 M l:=rfl;rw[e,FE,FC,FC];omega
theorem JqQ (C:Codes tab)(I:Bi tab){jb vb k:Nat}{O O2 O3:Fw}{M:Vm}{ncs:List V}{need:Fx}{nv:V}{nn:Nat}{aw:AW}(hj:CB aw jb cells)(h10:HC 1 (cells.drop 10)=some [nv])(h12:HC 1 (cells.drop 12)=some [.map vb])(hM:SM aw vb M)(hMv:∀v,(HM M v).natAbs≤100000)(hn:Rd O2 aw nv 1 nn ncs)(hk:k<nn)(hnv:∃sv,ncs[k]? = some sv∧Rd O3 aw sv 1 need.length (HW need))(hnl:need.length≤100)(h:K (.str (Oe M k need)) aw)(hkn:k≤1000):WF tab VX [.ptr jb 0,.int .i64 (Fq k)] aw K:=by
 refine Hy C.Xj rfl ?_;have j10:aw.load jb 10 1=some [nv]:=CB.ld hj 10 1 _ h10;have j12:aw.load jb 12 1=some [.map vb]:=CB.ld hj 12 1 _ h12;obtain⟨sv,hsv,hsr⟩:=hnv;have hslv:=hsr.lenV;refine Fz (by simp only[go_sem,Hn,Xi];rfl) ?_;refine Hq Ff Fe ?_;refine⟨_,_,I (Fq k) aw (by show (-9223372036854775808:Int)≤(k:Int);omega) (by show (k:Int)≤_;omega),?_⟩;rcases hn.inv with⟨_,h0,_⟩|⟨nb,no,nc,rfl,hB⟩
 ·omega
 have ln:aw.load nb (no+k*1) 1=some [sv]:=by rw[KA];exact hB.cell Fh hsv
 refine Fz (by simp only[go_sem,Hn,GM,j10,hk,ln,hslv];rfl) ?_
 refine HT (fun n f w=>∃i s,s=P7 (Fq k)++P3 M (need.take i)∧f.get 0=some (.ptr jb 0)∧f.get 5=some (.str s)∧f.get 16=some sv∧f.get 17=some (.int .i64 (Fq need.length))∧f.get 18=some (.int .i64 (Fq i))∧w=aw∧i≤need.length∧n=need.length-i)
  (fun f w=>f.get 5=some (.str (Oe M k need))∧w=aw) ?_ ?_ need.length ⟨0,P7 (Fq k),by simp[P3],Fb,Fb,Fb,Fb,Fb,rfl,Nat.zero_le _,rfl⟩
 ·rintro n f w ⟨i,s,hs,f0,f5,f16,f17,f18,rfl,hi,rfl⟩ ih out;by_cases hil:i<need.length
  case neg =>
   obtain rfl:i=need.length:=Fh;rw[List.take_length]at hs;refine Hs 1000 (by simp only[go_sem,Vo,f17,f18,hil];rfl) ?_;exact out _ _ _ ⟨by rw[show Oe M k need=s from hs.symm];exact (Fg f5),rfl⟩ rfl
  obtain⟨t,ht⟩:∃t,need[i]? = some t:=⟨_,FB hil⟩;have hwr:KX .i64 (Fq i+1)=Fq (i+1):=Hv Fh;have look:=hM.look Px (.int .i64 0) t
  have hlk:w.lookV (.scalar .str) (.int .i64 0) (.map vb) (.str t)=some (.int .i64 (HM M t),(Hr M t).isSome):=by
   rw[look];unfold HM;cases Hr M t<;>rfl
  rcases hsr.inv with⟨_,h0,_⟩|⟨sb,so,sc,rfl,hB2⟩
  ·omega
  have ls:w.load sb (so+i*1) 1=some [.str t]:=by rw[KA];exact hB2.cell Fh (by unfold HW;rw[F6,ht];rfl)
  have hv:=hMv t;have hfl:=E9 hv;have hkl:=E9 (n:=Fq k) (by show (k:Int).natAbs≤_;omega);have htl:=NB M hMv (need.take i);rw[FT,KC hi]at htl;have hsl:s.length≤10000:=by rw[hs,FE];omega
  refine Fz (by simp only[go_sem,Hn,Vo,GL,GK,f0,f5,f16,f17,f18,hil,ls,j12,hlk];rfl) ?_;refine Hq Ff Fe ?_;refine⟨_,_,I (HM M t) w Fh Fh,?_⟩;obtain⟨d1,hd1,e1⟩:=Jqu [32] (P7 (HM M t)) (by simp only[FC,FD];omega);have hd1l:d1.length≤20:=by rw[hd1,FE];simp only[FC,FD];omega
  obtain⟨d2,hd2,e2⟩:=Jqu s d1 Fh;refine Fz (by simp only[go_sem,Hn,e1,e2,f18,hwr];rfl) ?_;refine ih _ _ _ Fh ⟨i+1,d2,?_,(Fg f0),Fb,(Fg f16),(Fg f17),Fb,rfl,by omega,rfl⟩;rw[PF ht,Ji9,hd2,hd1,hs];simp only[F5];rfl
 ·rintro f w ⟨f5,rfl⟩;refine Fz (by simp only[go_sem,Hn,f5];rfl) ?_;refine Hp ⟨_,by simp only[go_sem,Hn,Xi];rfl,?_⟩;exact h
end
section
open Go.AE Delphi Val
variable {tab:Tab}
def SetQ (S:Fw) (w:AW) (p:V) (q:Option (Nat×List (List Int))):Prop:=match q with
 | none=>p = .nilptr
 | some (width,rows)=>Rel.SetOf S w p width rows
variable {S:Fw} {q:Option (Nat×List (List Int))}
theorem SetQ.frm {R:Fw}{w w':AW}{p:V}(h:SetQ S w p q)(hf:Frm R w w')(hd:∀x,S x→¬R x):SetQ S w' p q:=by
 cases q with
 | none=>exact h
 | some x=>exact Rel.SetOf.frm h hf hd
variable {K:V→AW→Prop}
theorem Jnv (C:Codes tab){p:V}{aw:AW}(hs:SetQ S aw p q)(h:K (.int .i64 (match q with|none=>-1|some x=>Fq x.1)) aw):WF tab Yc [p] aw K:=by
 cases q with
 | none =>
  have hs:p = .nilptr:=hs;subst hs;exact Jkj C h
 | some x=>exact Jo6 C hs h
def BM (q:Option (Nat×List (List Int))) (n:Nat):Option (Nat×List (List Int)):=match q with
 | none=>none
 | some x=>if x.1=n then some x else none
theorem Jnh (C:Codes tab){jb sty sfn:Nat}{O S':Fw}{body:List Lt}{l:Lt}{i:Nat}{a:Int}{cells:List V}{xb dp sv:V}{dq:Option (Nat×List (List Int))}{sets:List Nat→Option (Nat×List (List Int))}{aw:AW}(hj:CB aw jb cells)(h3:HC 1 (cells.drop 3)=some [xb])(h5:HC 1 (cells.drop 5)=some [.iface sty sv])(hsl:HY [(44,Jo,none)] sty=some (sfn,none))(h8:HC 1 (cells.drop 8)=some [.int .i64 a])(h9:HC 1 (cells.drop 9)=some [dp])(hb:RdL (LtC O) O aw xb 3 body)(hl:body[i]? = some l)(hd:SetQ S aw dp dq)(hst:∀(w:AW) (K:V→AW→Prop),Frm (fun _=>False) aw w→(∀w' p,Frm (fun _=>False) w w'→SetQ S' w' p (sets l.name)→K p w')→WF tab sfn [sv,.str l.name] w K)(hw4:∀x,sets l.name=some x→x.1≤4)(hi:i≤1000)(h:∀w p S1,Frm (fun _=>False) aw w→SetQ S1 w p (BM (if Fq i=a then dq else sets l.name) l.args.length)→(∀x,S1 x→S x∨S' x)→K p w):WF tab Wq [.ptr jb 0,.int .i64 (Fq i)] aw K:=by
 refine Hy C.Xo rfl ?_;have j3:aw.load jb 3 1=some [xb]:=CB.ld hj 3 1 _ h3;obtain⟨b,o,c,xs,rfl,la,hx⟩:=Dr hb hl;obtain⟨xv,rfl,hx⟩:=hx;have hil:i<body.length:=(List.getElem?_eq_some_iff.1 hl).1;have hxv:=hx.lenV;obtain⟨w1,s1,c1,r1,n1⟩:=PA aw (zs:=[V.int .i64 0,V.str [],V.nilslice]) (vs:=[.int .i64 (Fq l.kind),.str l.name,xv]) rfl (LtC.one ⟨xv,rfl,hx⟩).2;have hj1:=hj.frm r1 fun h=>h;have j9:w1.load jb 9 1=some [dp]:=CB.ld hj1 9 1 _ h9;have j8:w1.load jb 8 1=some [.int .i64 a]:=CB.ld hj1 8 1 _ h8;have j5:w1.load jb 5 1=some [.iface sty sv]:=CB.ld hj1 5 1 _ h5;have k1:w1.load aw.next 1 1=some [.str l.name]:=CB.ld c1 1 1 _ rfl
 have rest:∀(f:Fr) (w:AW) (p:V) (q:Option (Nat×List (List Int))) (S1:Fw),f.get 5=some (.ptr aw.next 0)→f.get 6=some p→Frm (fun _=>False) w1 w→SetQ S1 w p q→(∀x,S1 x→S x∨S' x)→q=(if Fq i=a then dq else sets l.name)→WS tab [.code Vt] f w (fun fr' aw'=>∃vs,PQ fr' aw' JL.results=some vs∧K (H7 vs) aw'):=by
  intro f w p q S1 f5 f6 g hq hS1 hqe;have k2:w.load aw.next 2 1=some [xv]:=CB.ld (c1.frm g fun h=>h) 2 1 _ rfl;rw[←hqe]at h;refine Fz (by simp only[go_sem,Hn,Vt];rfl) ?_;refine Pg ?_;refine HQ 100 (by simp only[go_sem,Hn,f6];rfl) ?_;refine Pp Ff Fe ?_;refine Jnv C hq ?_;refine HQ 100 (by simp only[go_sem,Hn,f5,k2,hxv];rfl) ?_;refine Pk ⟨(show HP _ _ [(3,1)]from by simp only[go_sem,Hn,HP,chk,List.reverse_cons,List.reverse_nil,H9,Po,Pm,Pn,List.getElem?_nil,false_or,or_true,or_false,exists_eq',FP,Prod.mk.injEq,Bool.true_eq_false,FM,and_true,true_and,implies_true,k2]),?_⟩;cases q with
  | none =>
   have hq':p = .nilptr:=hq;have hne:((-1:Int) != Fq l.args.length)=true:=Fj;refine Fz (by simp only[go_sem,Hn,hne,Vs];rfl) ?_;refine Hp ⟨_,by simp only[go_sem,Hn,JL];rfl,?_⟩;exact h w _ S1 (r1.tr g) rfl hS1
  | some x =>
   by_cases hx1:x.1=l.args.length
   ·have hne:(Fq x.1 != Fq l.args.length)=false:=by rw[hx1];simp
    have e:BM (some x) l.args.length=some x:=if_pos hx1;rw[e]at h;refine Fz (by simp only[go_sem,Hn,hne,f6];rfl) ?_;refine Hp ⟨_,by simp only[go_sem,Hn,JL];rfl,?_⟩;exact h w _ S1 (r1.tr g) hq hS1
   ·have hne:(Fq x.1 != Fq l.args.length)=true:=by
     simp only[bne_iff_ne,ne_eq];exact fun h=>hx1 (Int.ofNat.inj h)
    have e:BM (some x) l.args.length=none:=if_neg hx1;rw[e]at h;refine Fz (by simp only[go_sem,Hn,hne,Vs];rfl) ?_;refine Hp ⟨_,by simp only[go_sem,Hn,JL];rfl,?_⟩;exact h w _ S1 (r1.tr g) rfl hS1
 by_cases hia:Fq i=a
 ·have hia':(Fq i != a)=false:=by rw[hia];simp
  refine Hs 37 (by simp only[go_sem,Hn,JL,Vv,Vu,j3,hil,la,FC,FD,s1,j9,j8,hia'];rfl) ?_;exact rest _ _ _ dq S Fb Fb (Frm.refl _) (hd.frm r1 fun _ _ h=>h) (fun x hx=> .inl hx) (if_pos hia).symm
 ·have hia':(Fq i != a)=true:=bne_iff_ne.2 hia;refine Fz (by simp only[go_sem,Hn,JL,Vv,Vu,GP,j3,hil,la,FC,FD,s1,j9,j8,hia',j5,k1,hsl];rfl) ?_;refine Hq (by simp only[go_sem,Hn,hsl]) (by simp only[go_sem,Hn,hsl];rfl) ?_;refine hst w1 _ r1 fun w2 p g2 hq=>?_;refine Hs 2 Fe ?_;exact rest _ _ p _ S' Fb Fb g2 hq (fun x hx=> .inr hx) (if_neg hia).symm
end
section
open Go.AE Delphi Val
variable {tab:Tab}
abbrev PM:=MB (α:=List Nat) (β:=V) V.str (fun v=>v)
theorem Jki (C:Codes tab){mb:Nat}{M:List (List Nat×V)}{nm:List Nat}{aw:AW}{K:V→AW→Prop}(hM:PM aw mb M)(h:∀w,Frm (fun _=>False) aw w→K ((Hr M nm).getD .nilptr) w):WF tab Jo [.agg [.map mb],.str nm] aw K:=by
 refine Hy C.X3 rfl ?_;obtain⟨w1,e1,c1,r1,m1⟩:=Lc aw [V.map mb];have a0:=CB.ld c1 0 1 _ rfl;have look:=(hM.frm r1 fun h=>h).look Px .nilptr nm
 have hlk:w1.lookV (.scalar .str) .nilptr (.map mb) (.str nm)=some ((Hr M nm).getD .nilptr,(Hr M nm).isSome):=by
  rw[look];cases Hr M nm<;>rfl
 have hcc:V.cells (.agg [.map mb])=[V.map mb]:=rfl;refine Fz (by simp only[go_sem,Hn,X2,hcc,e1,a0,hlk];rfl) ?_;refine Hp ⟨_,by simp only[go_sem,Hn,X2];rfl,?_⟩;exact h w1 r1
end
section
open Go.AE Delphi Val
variable {tab:Tab}
def zTk:Tk:=⟨0,[],0⟩
def H3 (ts:List Tk) (i:Int):Tk:=if i<1 then zTk else ts.getD (i.toNat-1) zTk
variable {ts:List Tk}
theorem Jo1 {i:Int}{t:Tk}(h1:∀k:Nat,i=Fq (k+1)→k<ts.length→ts[k]? = some t)(h2:i<1∨i>Fq ts.length→t=⟨0,[],0⟩):t=H3 ts i:=by
 unfold H3;by_cases h:i<1
 ·rw[if_pos h];exact h2 (.inl h)
 ·rw[if_neg h];by_cases h3:i>Fq ts.length
  ·have h3':i>(ts.length:Int):=h3;rw[List.getD_eq_getElem?_getD,List.getElem?_eq_none Fh];exact h2 (.inr h3)
  ·have h3':¬i>(ts.length:Int):=h3;have:=h1 (i.toNat-1) (by show i=((i.toNat-1+1:Nat):Int);omega) Fh;rw[List.getD_eq_getElem?_getD,this];rfl
def LH (M:Vm) (ts:List Tk) (t:Tm):Option Tk:=if t.kind=1 then (Hr M t.name).map (H3 ts)else some (Hz t)
theorem Di {w:AW}{b o:Nat}{l l' vs:List V}(h:CB w b l)(ho:over l o vs=some l')(h1:HB vs=true):w.store b o vs=some (w.put b l'):=
 Iq h.get (.inl rfl:Shr (fun _=>True) w b .own) h1 ho
def LU (c d:Tk):List V:=[.int .i64 c.k,.str c.s,.int .i64 c.n,.int .i64 d.k,.str d.s,.int .i64 d.n]
theorem Re {i:Nat}(hi:i<2)(c d e:Tk):over (LU c d) (0+i*3) (tkC e)=some (LU (if i=0 then e else c) (if i=0 then d else e)):=by
 rcases (show i=0∨i=1 by omega)with rfl|rfl<;>rfl
structure HjF (f:Fr) (tb vb lb ab:Nat) (xv:V) (i:Nat):Prop where
 f1:f.get 1=some (.ptr tb 0)
 f2:f.get 2=some (.map vb)
 f3:f.get 3=some (.ptr lb 0)
 f8:f.get 8=some (.ptr ab 0)
 f30:f.get 30=some xv
 f31:f.get 31=some (.int .i64 (Fq 2))
 f32:f.get 32=some (.int .i64 (Fq i))
variable {K:V→AW→Prop}
theorem JkD (C:Codes tab){tb mb vb lb ab i:Nat}{tv xv:V}{S O:Fw}{M:Vm}{args:List Tm}{t:Tm}{c d:Tk}{f:Fr}{w:AW}{st:List SI}(hF:HjF f tb vb lb ab xv i)(hT:TabW tb mb tv S ts w)(hM:SM w vb M)(hx:Rd O w xv 3 2 (Pc args))(hal:args.length=2)(ht:args[i]? = some t)(hA:CB w ab (LU c d))(htb:tb≠ab)(hvb:vb≠ab)(hmb:mb≠ab)(hOa:¬O ab)(hSa:¬S ab)(hlen:ts.length≤100000)(hMv:∀n,(HM M n).natAbs≤100000)(bad:LH M ts t=none→∀w',Frm (fun x=>x=ab) w w'→K (.tuple [.bool false,.bool false]) w')(good:∀f' w' u,LH M ts t=some u→HjF f' tb vb lb ab xv (i+1)→CB w' ab (LU (if i=0 then u else c) (if i=0 then d else u))→Frm (fun x=>x=ab) w w'→WS tab (.code (.loop JD) :: .endB 0::st) f' w' (fun fr' aw'=>∃vs,PQ fr' aw' Jp.results=some vs∧K (H7 vs) aw')): WS tab (.code JD :: .code (.loop JD) :: .endB 0::st) f w (fun fr' aw'=>∃vs,PQ fr' aw' Jp.results=some vs∧K (H7 vs) aw'):=by
 obtain⟨f1,f2,f3,f8,f30,f31,f32⟩:=hF;have hi:i<2:=by rw[←hal];exact (List.getElem?_eq_some_iff.1 ht).1
 rw[←hal]at hx;obtain⟨b,o,cc,rfl,_,_,la,_⟩:=SQ hx ht;have hi':i<args.length:=Fh;obtain⟨w1,s1,c1,r1,n1⟩:=PA w (zs:=[V.int .i64 0,V.str [],V.int .i64 0]) (vs:=tmC t) rfl rfl;have hA1:=hA.frm r1 fun h=>h;have htl:(tmC t).length=3:=rfl;have k3:w1.load w.next 0 3=some (tmC t):=c1.all rfl;have s2:w1.store ab (0+i*3) (tmC t)=some (w1.put ab (LU (if i=0 then Hz t else c) (if i=0 then d else Hz t))):=Di hA1 (Re hi c d (Hz t)) rfl;have g2:Frm (fun x=>x=ab) w1 (w1.put ab (LU (if i=0 then Hz t else c) (if i=0 then d else Hz t))):=HN;have c2:=H1 (l:=LU (if i=0 then Hz t else c) (if i=0 then d else Hz t)) hA1.lt;obtain⟨w2,e2⟩:∃w2,w2=w1.put ab (LU (if i=0 then Hz t else c) (if i=0 then d else Hz t)):=⟨_,rfl⟩;rw[←e2]at s2 g2 c2;have hlt:=hA.lt;have cb2:=c1.frm g2 Fh;have k0:w2.load w.next 0 1=some [.int .i64 (Fq t.kind)]:=CB.ld cb2 0 1 _ rfl;have k1:w2.load w.next 1 1=some [.str t.name]:=CB.ld cb2 1 1 _ rfl;have g02:Frm (fun x=>x=ab) w w2:=r1.no.tr g2;have hwr:KX .i64 (Fq i+1)=Fq (i+1):=Hv Fh;by_cases hk:t.kind=1
 ·have look:=((hM.frm r1 fun h=>h).frm g2 hvb).look Px (.int .i64 0) t.name;cases hg:Hr M t.name with
  | none =>
   rw[hg]at look;have look:w2.lookV (.scalar .str) (.int .i64 0) (.map vb) (.str t.name)=some (.int .i64 0,false):=look;refine Fz (by simp only[go_sem,Hn,JD,Yv,Yu,Wy,Uw,f1,f2,f3,f8,f30,f31,f32,hi,hi',la,htl,s1,k3,s2,k0,hk,k1,look];rfl) ?_;refine Hp ⟨_,by simp only[go_sem,Hn,Jp];rfl,?_⟩;exact bad (by unfold LH;rw[if_pos hk,hg];rfl) _ g02
  | some z =>
   rw[hg]at look;have look:w2.lookV (.scalar .str) (.int .i64 0) (.map vb) (.str t.name)=some (.int .i64 z,true):=look;have hz:=hMv t.name;unfold HM at hz;rw[hg]at hz;have hz:z.natAbs≤100000:=hz;have hT2:=(hT.step0 r1).step g2 htb hmb fun x hx h=>by subst h;exact hSa hx
   refine Fz (by simp only[go_sem,Hn,JD,Yv,Yu,Wy,Ux,f1,f2,f3,f8,f30,f31,f32,hi,hi',la,htl,s1,k3,s2,k0,hk,k1,look];rfl) ?_;refine Hq Ff Fe ?_;refine Jqa C hT2 hlen ⟨by omega,by omega⟩ fun w3 u g3 hu1 hu2=>?_;have hu:=Jo1 hu1 hu2;have c3:=c2.frm g3 fun h=>h
   have hov:over (LU (if i=0 then Hz t else c) (if i=0 then d else Hz t)) (0+i*3) (tkC u)=some (LU (if i=0 then u else c) (if i=0 then d else u)):=by
    rw[Re hi];rcases (show i=0∨i=1 by omega)with rfl|rfl<;>rfl
   have s4:=Di c3 hov rfl;have g4:Frm (fun x=>x=ab) w3 (w3.put ab (LU (if i=0 then u else c) (if i=0 then d else u))):=HN;have c4:=H1 (l:=LU (if i=0 then u else c) (if i=0 then d else u)) c3.lt;obtain⟨w4,e4⟩:∃w4,w4=w3.put ab (LU (if i=0 then u else c) (if i=0 then d else u)):=⟨_,rfl⟩;rw[←e4]at s4 g4 c4;refine Fz (by simp only[go_sem,Hn,f8,f32,hi,Bg,s4,hwr];rfl) ?_;exact good _ _ u (by unfold LH;rw[if_pos hk,hg,hu];rfl) ⟨(Fg f1),(Fg f2),(Fg f3),(Fg f8),(Fg f30),(Fg f31),Fb⟩ c4 ((g02.tr g3.no).tr g4)
 ·refine Fz (by simp only[go_sem,Hn,JD,Yv,Yu,f1,f2,f3,f8,f30,f31,f32,hi,hi',la,htl,s1,k3,s2,k0,hk,hwr];rfl) ?_;exact good _ _ (Hz t) (if_neg hk) ⟨(Fg f1),(Fg f2),(Fg f3),(Fg f8),(Fg f30),(Fg f31),Fb⟩ c2 g02
def IU (k:Nat):Option Tk→Option Tk→Bool×Bool
 | some a,some b=>(OX k a b,true)
 | _,_=>(false,false)
theorem Jol (C:Codes tab){tb mb vb:Nat}{tv:V}{S O:Fw}{M:Vm}{k:Nat}{nm:List Nat}{a b:Tm}{xs:List V}{aw:AW}(hT:TabW tb mb tv S ts aw)(hM:SM aw vb M)(hx:LtC O aw ⟨k,nm,[a,b]⟩ xs)(hO:∀x,O x→x<aw.next)(hk:3≤k∧k≤6)(hlen:ts.length≤100000)(hMv:∀n,(HM M n).natAbs≤100000)(h:∀w,Frm (fun _=>False) aw w→K (.tuple [.bool (IU k (LH M ts a) (LH M ts b)).1,.bool (IU k (LH M ts a) (LH M ts b)).2]) w):WF tab VG [.agg xs,.ptr tb 0,.map vb] aw K:=by
 refine Hy C.Yx rfl ?_;obtain⟨xv,rfl,hx⟩:=hx;obtain⟨w1,e1,c1,r1,m1⟩:=Lc aw [.int .i64 (Fq k),.str nm,xv];obtain⟨w2,e2,c2,r2,m2⟩:=Lc w1 (LU zTk zTk);have e2:w1.fresh [V.int .i64 0,V.str [],V.int .i64 0,V.int .i64 0,V.str [],V.int .i64 0]=w2:=e2;have hxv:=hx.lenV;have hxv:lenV xv=some 2:=hxv;have a0:=CB.ld c1 0 1 _ rfl;have a2:=CB.ld c1 2 1 _ rfl;have a2':=CB.ld (c1.frm r2 fun h=>h) 2 1 _ rfl;have hk3:¬(Fq k<3):=by show ¬((k:Int)<3);omega
 have hk6:¬(Fq k>6):=by show ¬((k:Int)>6);omega
 have hk3':¬k<3:=Fh;have hk6':¬6<k:=Fh;have e5:([.int .i64 (Fq k),.str nm,xv]:List V).length=3:=rfl;refine Fz (by simp only[go_sem,Hn,Jp,UE,UD,e1,a0,a2,a2',hk3,hk6,hk3',hk6',hxv,e2];rfl) ?_;have n1:=r1.next;have f02:=r1.tr r2;have htb:tb≠w1.next:=by have:=hT.a.lt;omega
 have hmb:mb≠w1.next:=by have:=hT.m.lt;omega
 have hvb:vb≠w1.next:=by have:=hM.lt;omega
 have hSa:¬S w1.next:=fun hs=>by have:=(hT.s _ hs).1;omega
 refine OQ ?_;have ha0:([a,b]:List Tm)[0]? = some a:=rfl;have ha1:([a,b]:List Tm)[1]? = some b:=rfl;have out:∀{w:AW},Frm (fun x=>x=w1.next) w2 w→Frm (fun _=>False) aw w:=fun g=>f02.trans g (fun _ _ h=>h) fun x hx h=>by omega
 refine JkD (S:=S) (O:=O) (i:=0) (xv:=xv) (lb:=aw.next) C ⟨Fb,Fb,Fb,Fb,Fb,Fb,Fb⟩ (hT.step0 f02) (hM.frm f02 fun h=>h) (hx.frm f02 fun _ _ h=>h) rfl ha0 c2 htb hvb hmb (fun h=>by have:=hO _ h;omega) hSa hlen hMv ?_ ?_
 ·intro hn w' g;rw[hn]at h;exact h w' (out g)
 ·intro f3 w3 u hu hF c3 g3;refine OQ ?_;refine JkD (S:=S) (O:=O) (i:=1) (xv:=xv) (lb:=aw.next) C hF ((hT.step0 f02).step g3 htb hmb fun x hx h=>by subst h;exact hSa hx) ((hM.frm f02 fun h=>h).frm g3 hvb) ((hx.frm f02 fun _ _ h=>h).frm g3 fun x hx h=>by have:=hO _ hx;omega) rfl ha1 c3 htb hvb hmb (fun h=>by have:=hO _ h;omega) hSa hlen hMv ?_ ?_
  ·intro hn w' g;rw[hu,hn]at h;exact h w' (out (g3.tr g))
  ·intro f4 w4 v hv hF c4 g4;rw[hu,hv]at h;have g24:=g3.tr g4;obtain⟨g1,g2,g3',g8,g30,g31,g32⟩:=hF;refine OQ ?_;have hnl:¬(Fq 2<Fq 2):=by decide
   refine Fz (by simp only[go_sem,Hn,JD,UC,g31,g32];rfl) ?_;have c5:CB w4 w1.next (LU u v):=c4;have q1:w4.load w1.next 0 3=some (tkC u):=CB.ld c5 0 3 _ rfl;have q2:w4.load w1.next 3 3=some (tkC v):=CB.ld c5 3 3 _ rfl;obtain⟨w5,p1,d1,t1,o1⟩:=Lc w4 [V.int .i64 0,V.str [],V.int .i64 0];obtain⟨w6,p2,d2,t2,o2⟩:=Lc w5 [V.int .i64 0,V.str [],V.int .i64 0];have d1:=d1.frm t2 fun h=>h;have st1:=Di d1 (o:=0) (vs:=tkC u) (l':=tkC u) rfl rfl;have fr1:Frm (fun x=>x=w4.next) w6 (w6.put w4.next (tkC u)):=HN;have d1':=H1 (l:=tkC u) d1.lt;have d2:=d2.frm fr1 Fh;obtain⟨w7,e7⟩:∃w7,w7=w6.put w4.next (tkC u):=⟨_,rfl⟩;rw[←e7]at st1 fr1 d1' d2;have st2:=Di d2 (o:=0) (vs:=tkC v) (l':=tkC v) rfl rfl;have fr2:Frm (fun x=>x=w5.next) w7 (w7.put w5.next (tkC v)):=HN;have d2':=H1 (l:=tkC v) d2.lt;have d1':=d1'.frm fr2 Fh;obtain⟨w8,e8⟩:∃w8,w8=w7.put w5.next (tkC v):=⟨_,rfl⟩;rw[←e8]at st2 fr2 d2' d1';have c18:CB w8 aw.next [.int .i64 (Fq k),.str nm,xv]:=((((((c1.frm r2 fun h=>h).frm g24 Fh).frm t1 fun h=>h).frm t2 fun h=>h).frm fr1 (by have:=c4.lt;omega)).frm fr2 (by have:=c4.lt;omega));have b0:w8.load aw.next 0 1=some [.int .i64 (Fq k)]:=CB.ld c18 0 1 _ rfl;have u3:w8.load w4.next 0 3=some (tkC u):=d1'.all rfl;have v3:w8.load w5.next 0 3=some (tkC v):=d2'.all rfl;have g48:Frm (fun _=>False) w4 w8:=((t1.tr t2).trans fr1 (fun _ _ h=>h) fun x hx h=>by omega).trans fr2 (fun _ _ h=>h) fun x hx h=>by omega
   have g08:Frm (fun _=>False) aw w8:=(out g24).tr g48;have hh:∀w',Frm (fun _=>False) w8 w'→K (.tuple [.bool (OX k u v),.bool true]) w':=fun w' g=>h w' (g08.tr g);refine Pg ?_;refine HQ 100 (by simp only[go_sem,Hn,g8,q1,q2,p1,p2,Bg,st1,st2];rfl) ?_;have c5:=c5.frm t1 fun h=>h;have q11:w5.load w1.next 0 3=some (tkC u):=CB.ld c5 0 3 _ rfl;have q12:w5.load w1.next 3 3=some (tkC v):=CB.ld c5 3 3 _ rfl;have c5:=c5.frm t2 fun h=>h;have q21:w6.load w1.next 0 3=some (tkC u):=CB.ld c5 0 3 _ rfl;have q22:w6.load w1.next 3 3=some (tkC v):=CB.ld c5 3 3 _ rfl;have c5:=c5.frm fr1 (by have:=c4.lt;omega);have q32:w7.load w1.next 3 3=some (tkC v):=CB.ld c5 3 3 _ rfl;refine Pk ⟨(show HP _ _ [(1,4),(1,5),(3,4),(3,5),(3,6)]from by simp only[go_sem,Hn,HP,chk,List.reverse_cons,List.reverse_nil,H9,Po,Pm,Pn,List.getElem?_nil,false_or,or_true,or_false,exists_eq',FP,Prod.mk.injEq,Bool.true_eq_false,FM,and_true,true_and,implies_true,q1,q11,q21,q2,q12,q22,q32]),?_⟩;by_cases h3:k=3
   ·subst h3;have e:OX 3 u v=Bc u v:=rfl;rw[e]at hh;refine Fz (by simp only[go_sem,Hn,Zy,UB,g3',b0,u3,v3];rfl) ?_;refine Hq Ff Fe ?_;refine Jo9 C fun w9 g9=>?_;refine Ho 1000 Fe ?_;refine Hp ⟨_,by simp only[go_sem,Hn,Jp];rfl,?_⟩;exact hh w9 g9
   by_cases h4:k=4
   ·subst h4;have e:OX 4 u v = !Bc u v:=rfl;rw[e]at hh;refine Fz (by simp only[go_sem,Hn,Zy,Yw,UA,g3',b0,u3,v3];rfl) ?_;refine Hq Ff Fe ?_;refine Jo9 C fun w9 g9=>?_;have hh:=hh w9 g9;refine Ho 1000 Fe ?_;refine Hp ⟨_,by simp only[go_sem,Hn,Jp];rfl,?_⟩;exact hh
   by_cases h5:k=5
   ·subst h5;have e:OX 5 u v=OZ u v:=rfl;rw[e]at hh;refine Fz (by simp only[go_sem,Hn,Zy,Yw,Wz,Uy,g3',b0,u3,v3];rfl) ?_;refine Hq Ff Fe ?_;refine JkG C fun w9 g9=>?_;refine Ho 1000 Fe ?_;refine Hp ⟨_,by simp only[go_sem,Hn,Jp];rfl,?_⟩;exact hh w9 g9
   have e:OX k u v = !OZ v u:=by unfold OX;rw[if_neg h3,if_neg h4,if_neg h5]
   rw[e]at hh;refine Fz (by simp only[go_sem,Hn,Zy,Yw,Wz,Uz,g3',b0,u3,v3,h3,h4,h5];rfl) ?_;refine Hq Ff Fe ?_;refine JkG C fun w9 g9=>?_;have hh:=hh w9 g9;refine Ho 1000 Fe ?_;refine Hp ⟨_,by simp only[go_sem,Hn,Jp];rfl,?_⟩;exact hh
end
end Go.Proofs.YtegdcbdicpfbpaaDoor
namespace Delphi
def Ox (bd:Fx) (t:Tm):Bool:=decide (t.kind≠1∨t.name∈bd)
def Oy (bd:Fx) (l:Lt):Nat:=l.args.countP (Ox bd)
def Oo (bd out:Fx) (t:Tm):Fx:=if t.kind=1∧t.name∉bd∧t.name∉out then out++[t.name]else out
def O6 (bd:Fx) (l:Lt):Fx:=l.args.foldl (Oo bd) []
abbrev H8:=List Nat×List (List Nat)
def Lt.nil:Lt:=⟨0,[],[]⟩
def HA (body:List Lt) (i:Nat):Lt:=(body[i]?).getD Lt.nil
def PP (body:List Lt) (s:H8) (i:Nat):H8:=(s.1++[i],s.2++O6 s.2 (HA body i))
def PN (body:List Lt) (s:H8) (i:Nat):Bool:=decide (i<body.length∧i∉s.1∧((HA body i).kind=1∨Oy s.2 (HA body i)=(HA body i).args.length))
abbrev Ky:=Bool×Nat×Nat
def PD (a b:Ky):Bool:=if a.1≠b.1 then b.1 else if a.2.1≠b.2.1 then decide (b.2.1<a.2.1)else decide (a.2.2<b.2.2)
def LB (body:List Lt) (s:H8) (i:Nat):Ky:=(decide ((HA body i).kind=1),if (HA body i).kind=1 then Oy s.2 (HA body i)else 0,i)
def TJ (body:List Lt) (s:H8) (i:Nat):Prop:=PN body s i=true∧∀j,PN body s j=true→j≠i→PD (LB body s i) (LB body s j)=true
def Dz (body:List Lt) (s:H8) (i:Nat):Bool:=PN body s i&&(List.range body.length).all fun j=>!PN body s j||decide (j=i)||PD (LB body s i) (LB body s j)
variable {body:List Lt} {s:H8} {i:Nat}
theorem IP (h:PN body s i=true):i<body.length:=(of_decide_eq_true h).1
theorem bestB_iff:Dz body s i=true↔TJ body s i:=by
 simp only[Dz,TJ,FQ,List.all_eq_true,List.mem_range,Bool.or_eq_true,Bool.not_eq_true',decide_eq_true_eq];constructor
 ·rintro⟨h1,h2⟩;refine⟨h1,fun j hj hn=>?_⟩;rcases h2 j (IP hj)with (h|h)|h
  ·rw[hj]at h;cases h
  ·exact absurd h hn
  ·exact h
 ·rintro⟨h1,h2⟩;refine⟨h1,fun j hj=>?_⟩;by_cases hc:PN body s j=true
  ·by_cases hn:j=i
   ·exact .inl (.inr hn)
   ·exact .inr (h2 j hc hn)
  ·exact .inl (.inl (by simpa using hc))
variable {a b:Ky}
theorem Cz:PD a b=true↔(a.1=false∧b.1=true)∨(a.1=b.1∧(b.2.1<a.2.1∨(a.2.1=b.2.1∧a.2.2<b.2.2))):=by
 obtain⟨a1,a2,a3⟩:=a;obtain⟨b1,b2,b3⟩:=b;simp only[PD];by_cases e:a2=b2
 ·subst e;cases a1<;>cases b1<;>simp
 ·cases a1<;>cases b1<;>simp[e]
theorem JlH (h:PD a b=true):PD b a=false:=by
 cases hc:PD b a with
 | false=>rfl
 | true =>
  rw[Cz]at h hc;rcases h with⟨h1,h2⟩|⟨h1,h2⟩<;>rcases hc with⟨h3,h4⟩|⟨h3,h4⟩
  ·rw[h2]at h3;cases h3
  ·rw[h1,h2]at h3;cases h3
  ·rw[h3,h4]at h1;cases h1
  ·omega
theorem Aa {c:Ky}(h:PD a b=true)(h':PD b c=true):PD a c=true:=by
 rw[Cz]at h h' ⊢;rcases h with⟨h1,h2⟩|⟨h1,h2⟩<;>rcases h' with⟨h3,h4⟩|⟨h3,h4⟩
 ·rw[h2]at h3;cases h3
 ·exact .inl ⟨h1,by rw[←h3];exact h2⟩
 ·exact .inl ⟨by rw[h1];exact h3,h4⟩
 ·exact .inr ⟨h1.trans h3,by omega⟩
theorem NC (h:a.2.2≠b.2.2):PD a b=true∨PD b a=true:=by
 rw[Cz,Cz];rcases ha:a.1<;>rcases hb:b.1<;>simp<;>omega
theorem Jmg {j:Nat}(h:TJ body s i)(h':TJ body s j):i=j:=by
 by_cases hn:i=j
 ·exact hn
 ·have h1:=h.2 j h'.1 fun e=>hn e.symm;have h2:=h'.2 i h.1 hn;rw[JlH h1]at h2;cases h2
def DC (body:List Lt) (s:H8):Option Nat:=(List.range body.length).find? (Dz body s)
theorem QF (h:TJ body s i):DC body s=some i:=by
 unfold DC;cases hf:(List.range body.length).find? (Dz body s)with
 | none =>
  rw[List.find?_eq_none]at hf;have:=hf i (List.mem_range.2 (IP h.1));exact absurd (bestB_iff.2 h) this
 | some j =>
  have:=List.find?_some hf;rw[Jmg h (bestB_iff.1 this)]
def OC (body:List Lt):Nat→H8→H8
 | 0,s=>s
 | n+1,s=>if s.1.length<body.length then (match DC body s with|some i=>OC body n (PP body s i)|none=>s)else s
end Delphi
namespace Go.Proofs.YtegdcbdicpfbpaaDoor
open Go.AE Delphi
variable {tab:Tab}
section
open Go.AE Delphi
variable {tab:Tab}
end
section
open Go.AE Delphi
variable {tab:Tab}
end
end Go.Proofs.YtegdcbdicpfbpaaDoor
namespace Delphi
theorem Jkb (bd out:Fx)(t:Tm):(Oo bd out t).length≤out.length+1:=by
 unfold Oo;split<;>simp
theorem NF (bd:Fx):∀(l:List Tm) (out:Fx),(l.foldl (Oo bd) out).length≤out.length+l.length
 | [],out=>by simp
 | t::l,out=>by
  rw[Kt,FC];have:=NF bd l (Oo bd out t);have:=Jkb bd out t;omega
theorem JoH (bd:Fx)(l:Lt):(O6 bd l).length≤l.args.length:=by
 have:=NF bd l.args [];simpa[O6]using this
end Delphi
namespace Go.Proofs.YtegdcbdicpfbpaaDoor
open Go.AE Delphi
variable {tab:Tab}
end Go.Proofs.YtegdcbdicpfbpaaDoor
namespace Delphi
theorem Jmc:∀(n:Nat) (l:List Nat),(∀i,i<n→i∈l)→n≤l.length
 | 0,l,_=>Nat.zero_le _
 | n+1,l,h=>by
  have h1:=h n Fh;have h2:=Jmc n (l.erase n) fun i hi=>(List.mem_erase_of_ne Fh).2 (h i Fh);rw[List.length_erase_of_mem h1]at h2;have:0<l.length:=List.length_pos_of_mem h1;omega
structure PlInv (body:List Lt) (s:H8):Prop where
 lt:∀i∈s.1,i<body.length
 bnd:∀i∈s.1,(HA body i).kind=1→∀t∈(HA body i).args,t.kind=1→t.name∈s.2
 len:s.2.length≤5*s.1.length
variable {body:List Lt} {x:Lt}
theorem Pi {i:Nat}(h:body[i]? = some x):HA body i=x:=by simp[HA,h]
theorem NE {bd:Fx}:∀(l:List Tm) (out:Fx) (v:List Nat),v∈l.foldl (Oo bd) out↔v∈out∨(v∉bd∧∃t∈l,t.kind=1∧t.name=v)
 | [],out,v=>by simp
 | t::l,out,v=>by
  rw[Kt,NE l]
  have h:v∈Oo bd out t↔v∈out∨(v∉bd∧t.kind=1∧t.name=v):=by
   unfold Oo;split
   ·rename_i hc;rw[F9,Kn];constructor
    ·rintro (h|rfl)
     ·exact .inl h
     ·exact .inr ⟨hc.2.1,hc.1,rfl⟩
    ·rintro (h|⟨_,_,rfl⟩)
     ·exact .inl h
     ·exact .inr rfl
   ·rename_i hc;refine⟨.inl,?_⟩;rintro (h|⟨h1,h2,rfl⟩)
    ·exact h
    ·exact Classical.byContradiction fun hn=>hc ⟨h2,h1,hn⟩
  rw[h];simp only[FJ,exists_eq_or_imp];constructor
  ·rintro ((h|⟨h1,h2⟩)|⟨h1,h2⟩)
   ·exact .inl h
   ·exact .inr ⟨h1,.inl h2⟩
   ·exact .inr ⟨h1,.inr h2⟩
  ·rintro (h|⟨h1,h2|h2⟩)
   ·exact .inl (.inl h)
   ·exact .inl (.inr ⟨h1,h2⟩)
   ·exact .inr ⟨h1,h2⟩
variable {bd:Fx}
theorem mem_newV {v:List Nat}:v∈O6 bd x↔v∉bd∧∃t∈x.args,t.kind=1∧t.name=v:=by
 simp[O6,NE]
theorem PlInv.nil (body:List Lt):PlInv body ([],[]):=⟨by simp,by simp,by simp⟩
theorem PlInv.take {s:H8}{i:Nat}(h:PlInv body s)(hi:i<body.length)(ha:∀x∈body,x.args.length≤5):PlInv body (PP body s i):=by
 obtain⟨x,hx⟩:∃x,body[i]? = some x:=⟨_,FB hi⟩;refine⟨fun j hj=>?_,fun j hj hk t ht h1=>?_,?_⟩
 ·simp only[PP,F9,Kn]at hj;rcases hj with hj|rfl
  ·exact h.lt j hj
  ·exact hi
 ·simp only[PP,F9,Kn]at hj ⊢;rcases hj with hj|rfl
  ·exact .inl (h.bnd j hj hk t ht h1)
  ·by_cases hm:t.name∈s.2
   ·exact .inl hm
   ·exact .inr (mem_newV.2 ⟨hm,t,ht,h1,rfl⟩)
 ·simp only[PP,FE,Ka];have h1:=JoH s.2 (HA body i);have h2:=ha x (FI hx);have h3:=h.len;rw[Pi hx]at h1 ⊢;omega
theorem bndN_full:Oy bd x=x.args.length↔∀t∈x.args,t.kind=1→t.name∈bd:=by
 rw[Oy,List.countP_eq_length];constructor
 ·intro h t ht hk;exact (of_decide_eq_true (h t ht)).resolve_left fun hn=>hn hk
 ·intro h t ht;by_cases hk:t.kind=1
  ·exact decide_eq_true (.inr (h t ht hk))
  ·exact decide_eq_true (.inl hk)
theorem Jps:Oy bd x≤x.args.length:=List.countP_le_length
theorem Nt {r:Rl}{s:H8}(hs:LF r=true)(h:PlInv r.body s)(hl:s.1.length<r.body.length):∃i,PN r.body s i=true:=by
 have hex:∃i,i<r.body.length∧i∉s.1:=Classical.byContradiction fun hn=>by
  have:=Jmc r.body.length s.1 fun i hi=>Classical.byContradiction fun hc=>hn ⟨i,hi,hc⟩;omega
 by_cases hat:∃i,i<r.body.length∧i∉s.1∧(HA r.body i).kind=1
 ·obtain⟨i,h1,h2,h3⟩:=hat;exact⟨i,decide_eq_true ⟨h1,h2,.inl h3⟩⟩
 ·obtain⟨i,h1,h2⟩:=hex;obtain⟨x,hx⟩:∃x,r.body[i]? = some x:=⟨_,FB h1⟩;refine⟨i,decide_eq_true ⟨h1,h2,.inr ?_⟩⟩;rw[Pi hx];have hk:x.kind≠1:=fun hk=>hat ⟨i,h1,h2,by rw[Pi hx];exact hk⟩;refine bndN_full.2 fun t ht h3=>?_;have hneed:t.name∈Lv r:=mem_rNeed.2 (.inr ⟨x,FI hx,hk,t,ht,h3,rfl⟩);have hb:t.name∈OM r:=of_decide_eq_true (List.all_eq_true.1 hs _ hneed);obtain⟨y,hy,hyk,t2,ht2,hk2,hn2⟩:=mem_rBound.1 hb;obtain⟨j,hj⟩:=List.getElem?_of_mem hy;have hjl:j<r.body.length:=(List.getElem?_eq_some_iff.1 hj).1;have hjs:j∈s.1:=Classical.byContradiction fun hn=>hat ⟨j,hjl,hn,by rw[Pi hj];exact hyk⟩;rw[←hn2];have:=h.bnd j hjs (by rw[Pi hj];exact hyk) t2 (by rw[Pi hj];exact ht2) hk2;exact this
end Delphi
namespace Go.Proofs.YtegdcbdicpfbpaaDoor
open Go.AE Delphi
variable {tab:Tab}
def PV (l:List Nat):List V:=l.map fun n=>V.int .i64 (Fq n)
def LQ (n:Nat) (l:List Nat):List V:=(List.range n).map fun i=>V.bool (decide (i∈l))
variable {i:Nat}
theorem AR {n:Nat}{l:List Nat}(h:i<n):(LQ n l)[i]? = some (V.bool (decide (i∈l))):=by
 simp[LQ,F6,List.getElem?_range h]
structure PrS (a w:AW) (T:Fw) (r:Rl) (hv u:V) (n2 b9:Nat) (s:H8) (ov bv:V) (So Sb:Fw):Prop where
 frm:Frm (fun _=>False) a w
 lits:RdL (LtC T) T a u 3 r.body
 rule:CB w n2 [.int .i64 (Fq r.head.kind),.str r.head.name,hv,u]
 ord:Bt So w ov 1 s.1.length (PV s.1)
 bnd:Bt Sb w bv 1 s.2.length (HW s.2)
 done:CB w b9 (LQ r.body.length s.1)
 ge:a.next≤n2∧n2<b9
 sepO:∀x,So x→a.next≤x∧x<w.next∧x≠n2∧x≠b9∧¬Sb x
 sepB:∀x,Sb x→a.next≤x∧x<w.next∧x≠n2∧x≠b9
 inv:PlInv r.body s
variable {s:H8}
theorem PrS.ext {a w w2:AW}{T:Fw}{r:Rl}{hv u:V}{n2 b9:Nat}{ov bv:V}{So Sb:Fw}(h:PrS a w T r hv u n2 b9 s ov bv So Sb)(hf:Frm (fun _=>False) w w2):PrS a w2 T r hv u n2 b9 s ov bv So Sb:=
 have nx:=hf.next
 ⟨h.frm.tr hf,h.lits,h.rule.frm hf fun h=>h,h.ord.frm hf fun _ _ h=>h,h.bnd.frm hf fun _ _ h=>h,h.done.frm hf fun h=>h,h.ge,fun x hx=>by have h1:=h.sepO x hx;exact⟨h1.1,by omega,h1.2.2⟩,fun x hx=>by have h1:=h.sepB x hx;exact⟨h1.1,by omega,h1.2.2⟩,h.inv⟩
theorem PrS.lit {a w:AW}{T:Fw}{r:Rl}{hv u:V}{n2 b9:Nat}{ov bv:V}{So Sb:Fw}(h:PrS a w T r hv u n2 b9 s ov bv So Sb){t:Lt}(hi:r.body[i]? = some t): ∃b o c v,u = .slice b o r.body.length c∧w.load b (o+i*3) 3=some [.int .i64 (Fq t.kind),.str t.name,v]∧Rd T w v 3 t.args.length (Pc t.args):=by
 obtain⟨b,o,c,v,h1,_,_,h2,_,_,_,h3⟩:=Sw (h.lits.frm (fun _ _ hl=>hl.frm h.frm fun _ _ h=>h) h.frm fun _ _ h=>h) hi;exact⟨b,o,c,v,h1,h2,h3⟩
theorem Jjn {body:List Lt}(h:¬(i<body.length∧i∉s.1∧((HA body i).kind=1∨Oy s.2 (HA body i)=(HA body i).args.length))):PN body s i=false:=decide_eq_false h
section
open Go.AE Delphi
variable {tab:Tab}
end
section
open Go.AE Delphi
variable {tab:Tab}
variable {l:List Nat}
theorem JmA {n:Nat}:(LQ n l).set i (V.bool true)=LQ n (l++[i]):=by
 apply List.ext_getElem?;intro j;rw[Ko];by_cases hj:j<n
 ·by_cases e:i=j
  ·subst e;rw[if_pos rfl,if_pos (by simp[LQ];exact hj),AR hj];simp
  ·rw[if_neg e,AR hj,AR hj];have:(j∈l++[i])↔j∈l:=by simp;omega
   simp only[this]
 ·have e1:(LQ n (l++[i]))[j]? = none:=List.getElem?_eq_none (by simp[LQ];omega);have e2:(LQ n l)[j]? = none:=List.getElem?_eq_none (by simp[LQ];omega);rw[e1,e2];by_cases e:i=j
  ·subst e;rw[if_pos rfl,if_neg (by simp[LQ];omega)]
  ·rw[if_neg e]
structure PrM (a w:AW) (T:Fw) (r:Rl) (hv u:V) (n2 b9:Nat) (l:List Nat) (bd:Fx) (ov bv:V) (So Sb:Fw):Prop where
 frm:Frm (fun _=>False) a w
 lits:RdL (LtC T) T a u 3 r.body
 rule:CB w n2 [.int .i64 (Fq r.head.kind),.str r.head.name,hv,u]
 ord:Bt So w ov 1 l.length (PV l)
 bnd:Bt Sb w bv 1 bd.length (HW bd)
 done:CB w b9 (LQ r.body.length l)
 ge:a.next≤n2∧n2<b9
 sepO:∀x,So x→a.next≤x∧x<w.next∧x≠n2∧x≠b9∧¬Sb x
 sepB:∀x,Sb x→a.next≤x∧x<w.next∧x≠n2∧x≠b9
variable {a w:AW} {T So Sb:Fw} {r:Rl} {hv u ov bv:V} {n2 b9:Nat}
theorem PrS.m (h:PrS a w T r hv u n2 b9 s ov bv So Sb):PrM a w T r hv u n2 b9 s.1 s.2 ov bv So Sb:=⟨h.frm,h.lits,h.rule,h.ord,h.bnd,h.done,h.ge,h.sepO,h.sepB⟩
theorem PrM.zs (h:PrM a w T r hv u n2 b9 s.1 s.2 ov bv So Sb)(hi:PlInv r.body s):PrS a w T r hv u n2 b9 s ov bv So Sb:=⟨h.frm,h.lits,h.rule,h.ord,h.bnd,h.done,h.ge,h.sepO,h.sepB,hi⟩
variable {bd:Fx}
theorem PrM.ext {w2:AW}(h:PrM a w T r hv u n2 b9 l bd ov bv So Sb)(hf:Frm (fun _=>False) w w2):PrM a w2 T r hv u n2 b9 l bd ov bv So Sb:=
 have nx:=hf.next
 ⟨h.frm.tr hf,h.lits,h.rule.frm hf fun h=>h,h.ord.frm hf fun _ _ h=>h,h.bnd.frm hf fun _ _ h=>h,h.done.frm hf fun h=>h,h.ge,fun x hx=>by have h1:=h.sepO x hx;exact⟨h1.1,by omega,h1.2.2⟩,fun x hx=>by have h1:=h.sepB x hx;exact⟨h1.1,by omega,h1.2.2⟩⟩
theorem PrM.lit (h:PrM a w T r hv u n2 b9 l bd ov bv So Sb){t:Lt}(hi:r.body[i]? = some t): ∃b o c v,u = .slice b o r.body.length c∧w.load b (o+i*3) 3=some [.int .i64 (Fq t.kind),.str t.name,v]∧Rd T w v 3 t.args.length (Pc t.args):=by
 obtain⟨b,o,c,v,h1,_,_,h2,_,_,_,h3⟩:=Sw (h.lits.frm (fun _ _ hl=>hl.frm h.frm fun _ _ h=>h) h.frm fun _ _ h=>h) hi;exact⟨b,o,c,v,h1,h2,h3⟩
theorem PrM.take1 (h:PrM a w T r hv u n2 b9 l bd ov bv So Sb)(hi:i<r.body.length)(hl:l.length≤100): ∃ov' w5 w6 S5,(w.fresh [.int .i64 (Fq i)]).appendV 1 8 ov 1 [.int .i64 (Fq i)]=some (ov',w5)∧w5.store b9 i [.bool true]=some w6∧PrM a w6 T r hv u n2 b9 (l++[i]) bd ov' bv S5 Sb∧w.next≤w6.next:=by
 have hSo:∀b,So b→b<w.next:=fun b hb=>(h.sepO b hb).2.1;obtain⟨ov',w5,S5,u1,u2,u3,u4⟩:=h.ord.push (news:=[V.int .i64 (Fq i)]) (bytes:=8) hSo Fh rfl rfl Fh Fh;have nb:¬So b9:=fun hx=>(h.sepO _ hx).2.2.2.1 rfl;have nn:¬So n2:=fun hx=>(h.sepO _ hx).2.2.1 rfl;have d5:=h.done.frm u3 nb;have st:=d5.set (i:=i) (v:=V.bool true) (by simp[LQ];exact hi) rfl;rw[JmA]at st;have pf:Frm (fun x=>x=b9) w5 (w5.put b9 (LQ r.body.length (l++[i]))):=HN;obtain⟨g1,g2⟩:=h.ge;have lb:=h.done.lt;have ln:=h.rule.lt;have nx:=u3.next;have hfa:=h.frm.next
 have sS5:∀x,S5 x→a.next≤x∧x<w5.next∧x≠n2∧x≠b9∧¬Sb x:=by
  intro x hx;obtain⟨m1,m2⟩:=u4 x hx;rcases m2 with m2|m2
  ·have h1:=h.sepO x m2;exact⟨h1.1,m1,h1.2.2⟩
  ·exact⟨by omega,m1,by omega,by omega,fun hb=>by have:=(h.sepB x hb).2.1;omega⟩
 refine⟨ov',w5,_,S5,u1,st,⟨(h.frm.trans u3 (fun _ _ h=>h) fun x hx hs=>by have:=(h.sepO x hs).1;omega).out Fh rfl,h.lits,(h.rule.frm u3 nn).frm pf (by show ¬n2=b9;omega),?_,(h.bnd.frm u3 fun x hx hs=>(h.sepO x hs).2.2.2.2 hx).frm pf fun x hx=>(h.sepB x hx).2.2.2,H1 d5.lt,h.ge,fun x hx=>sS5 x hx,fun x hx=>?_⟩,nx⟩
 ·have e:PV (l++[i])=PV l++[V.int .i64 (Fq i)]:=by simp[PV]
  rw[e,FE,Ka];exact u2.frm pf fun x hx=>(sS5 x hx).2.2.2.1
 ·have h1:=h.sepB x hx;exact⟨h1.1,by have:(w5.put b9 (LQ r.body.length (l++[i]))).next=w5.next:=rfl;omega,h1.2.2⟩
end
end Go.Proofs.YtegdcbdicpfbpaaDoor
namespace Delphi
def P1 (body:List Lt) (first:Int):H8:=if 0≤first then PP body ([],[]) first.toNat else ([],[])
def HU (r:Rl) (first:Int):H8:=OC r.body (r.body.length-(P1 r.body first).1.length) (P1 r.body first)
def La (r:Rl) (first:Int):Prop:=LF r=true∧-1≤first∧first<r.body.length∧(0≤first→(HA r.body first.toNat).kind=1)
theorem NU {r:Rl}{first:Int}(hbd:RBr r)(h:La r first):PlInv r.body (P1 r.body first):=by
 unfold P1;split
 ·exact (PlInv.nil r.body).take (by have:=h.2.2.1;omega) hbd.args
 ·exact PlInv.nil r.body
theorem Au (body:List Lt)(first:Int):(P1 body first).1.length≤1:=by
 unfold P1;split<;>simp[PP]
theorem NI {body:List Lt}:∀(n:Nat) (s:H8),s.1.length≤body.length→(OC body n s).1.length≤body.length
 | 0,s,h=>h
 | n+1,s,h=>by
  unfold OC;by_cases hl:s.1.length<body.length
  ·rw[if_pos hl];split
   ·exact NI n _ (by simp only[PP,FE,Ka];omega)
   ·exact h
  ·rw[if_neg hl];exact h
theorem NH {body:List Lt}(ha:∀x∈body,x.args.length≤5):∀(n:Nat) (s:H8),PlInv body s→PlInv body (OC body n s)
 | 0,s,h=>h
 | n+1,s,h=>by
  unfold OC;split
  ·split
   ·rename_i i hi;refine NH ha n _ (h.take ?_ ha);have:=List.mem_of_find?_eq_some hi;exact List.mem_range.1 this
   ·exact h
  ·exact h
end Delphi
namespace Go.Proofs.YtegdcbdicpfbpaaDoor
open Go.AE Delphi
variable {tab:Tab}
section
open Go.AE Delphi Val
structure JE where
 head:Lt
 body:List Lt
 order:List Nat
 need:List (Fx)
 sets:Nat→Option (Nat×List (List Int))
 most:Int
structure JS where
 ts:List Tk
 seen:Vm
 rows:Fy
def BL (E:JE) (k:Nat):Fx:=E.need.getD k []
def Od (E:JE) (k:Nat) (M:Vm):List Nat:=Oe M k (BL E k)
def O4 (E:JE) (k:Nat) (M:Vm) (s:JS):Bool:=decide (0<HM s.seen (Od E k M))||Oa E.most s.rows.length
def Ow (E:JE) (k:Nat) (M:Vm) (s:JS):JS:=⟨s.ts,Pe s.seen (Od E k M) 1,s.rows⟩
def Lb (rows:Fy) (r:List Int):Fy:=if r∈rows then rows else Rel.insR rows r
def OL (E:JE) (M:Vm) (s:JS):JS:=⟨(HE M s.ts E.head.args).2,s.seen,Lb s.rows (HE M s.ts E.head.args).1⟩
def Oj (q:Option (Nat×List (List Int))) (r:List Int):Fy:=match q with
 | none=>[]
 | some x=>x.2.filter fun y=>Rel.fitsR y r
def Sd (q:Option (Nat×List (List Int))) (r:List Int):Bool:=match q with
 | none=>false
 | some x=>decide (r∈x.2)
def PW (E:JE) (k:Nat):Nat:=E.order.getD k 0
def HR (E:JE) (k:Nat):Lt:=HA E.body (PW E k)
def Pf (E:JE) (k:Nat):Option (Nat×List (List Int)):=BM (E.sets (PW E k)) (HR E k).args.length
def Dp (l:Lt) (M:Vm) (ts:List Tk):Bool:=match l.args with
 | [a,b]=>(IU l.kind (LH M ts a) (LH M ts b)).1
 | _=>false
def Pd (rec:Vm→JS→JS) (l:Lt) (M:Vm) (rows:Fy) (s:JS):JS:=rows.foldl (fun s row=>if (HK l.args row M []).2=true then rec (HK l.args row M []).1.1 s else s) s
def goJ (E:JE) (rec:Vm→JS→JS) (k:Nat) (M:Vm) (s:JS):JS :=
 if (HR E k).kind=1 then Pd rec (HR E k) M (Oj (Pf E k) (HE M s.ts (HR E k).args).1) ⟨(HE M s.ts (HR E k).args).2,s.seen,s.rows⟩
 else if (HR E k).kind=2 then (if Sd (Pf E k) (HE M s.ts (HR E k).args).1=true then⟨(HE M s.ts (HR E k).args).2,s.seen,s.rows⟩else rec M ⟨(HE M s.ts (HR E k).args).2,s.seen,s.rows⟩)
 else if Dp (HR E k) M s.ts=true then rec M s else s
def Pv (E:JE):Nat→Nat→Vm→JS→JS
 | 0,k,M,s=>if O4 E k M s=true then s else OL E M (Ow E k M s)
 | n+1,k,M,s=>if O4 E k M s=true then s else goJ E (Pv E n (k+1)) k M (Ow E k M s)
theorem QP (rows:Fy)(r:List Int):(Rel.insR rows r).length=rows.length+1:=by
 unfold Rel.insR;have:Rel.posn rows r≤rows.length:=by unfold Rel.posn;exact (List.takeWhile_sublist _).length_le
 simp only[FE,FT,Kh,Ka];omega
theorem A7 (rows:Fy)(r:List Int):rows.length≤(Lb rows r).length:=by
 unfold Lb;split
 ·exact FH _
 ·rw[QP];omega
def TN (rec:Vm→JS→JS):Prop:=∀M s,s.rows.length≤(rec M s).rows.length
theorem AL {rec:Vm→JS→JS}(h:TN rec)(l:Lt)(M:Vm):∀(rows:Fy) (s:JS),s.rows.length≤(Pd rec l M rows s).rows.length
 | [],s=>FH _
 | r::rows,s=>by
  unfold Pd;rw[Kt];refine Kj ?_ (AL h l M rows _);split
  ·exact h _ _
  ·exact FH _
theorem Joj {E:JE}{rec:Vm→JS→JS}(h:TN rec)(k:Nat):TN (goJ E rec k):=by
 intro M s;unfold goJ;split
 ·exact AL h (HR E k) M _ ⟨(HE M s.ts (HR E k).args).2,s.seen,s.rows⟩
 split
 ·split
  ·exact FH _
  ·exact h M ⟨(HE M s.ts (HR E k).args).2,s.seen,s.rows⟩
 ·split
  ·exact h _ _
  ·exact FH _
theorem Rc (E:JE):∀(n k:Nat),TN (Pv E n k)
 | 0,k=>by
  intro M s;unfold Pv;split
  ·exact FH _
  ·exact A7 _ _
 | n+1,k=>by
  intro M s;unfold Pv;split
  ·exact FH _
  ·exact Joj (Rc E n (k+1)) k M (Ow E k M s)
def TsIn (ts0 cs ts:List Tk):Prop:=∃x,ts=ts0++x∧x.Nodup∧∀c∈x,c∈cs
theorem TsIn.refl (ts cs:List Tk):TsIn ts cs ts:=⟨[],by simp,List.nodup_nil,by simp⟩
variable {ts0 cs ts:List Tk}
theorem TsIn.id (h:TsIn ts0 cs ts){c:Tk}(hc:c∈cs):TsIn ts0 cs (idT ts c).2:=by
 obtain⟨x,rfl,h1,h2⟩:=h;unfold idT;split
 ·split
  ·exact⟨x,rfl,h1,h2⟩
  ·rename_i hn;refine⟨x++[c],by simp,?_,?_⟩
   ·rw[List.nodup_append];refine⟨h1,by simp,?_⟩;rintro a ha b hb rfl;simp at hb;subst hb;exact hn (List.mem_append_right _ ha)
   ·intro d hd;rcases List.mem_append.1 hd with hd|hd
    ·exact h2 d hd
    ·simp at hd;subst hd;exact hc
 ·exact⟨x,rfl,h1,h2⟩
theorem TsIn.row {ts0 cs:List Tk}(M:Vm):∀(l:List Tm) (s:List Int×List Tk),TsIn ts0 cs s.2→(∀t∈l,t.kind≠1→Hz t∈cs)→TsIn ts0 cs (l.foldl (PX M) s).2
 | [],s,h,_=>h
 | t::l,s,h,hl=>by
  rw[Kt];refine TsIn.row M l _ ?_ fun t ht=>hl t (FO _ ht);unfold PX;split
  ·exact h
  ·rename_i hk;exact h.id (hl t Fj hk)
theorem Ig {α:Type}[DecidableEq α]:∀{x cs:List α},x.Nodup→(∀c∈x,c∈cs)→x.length≤cs.length
 | [],_,_,_=>Nat.zero_le _
 | a::x,cs,h,hs=>by
  rw[List.nodup_cons]at h;have h1:=hs a Fj;have:=Ig (x:=x) (cs:=cs.erase a) h.2 fun c hc=>(List.mem_erase_of_ne (by rintro rfl;exact h.1 hc)).2 (hs c (FO _ hc));rw[List.length_erase_of_mem h1]at this;have:0<cs.length:=List.length_pos_of_mem h1;simp only[FC];omega
theorem TsIn.len (h:TsIn ts0 cs ts):ts.length≤ts0.length+cs.length:=by
 obtain⟨x,rfl,h1,h2⟩:=h;rw[FE];have:=Ig h1 h2;omega
variable {k:List Nat}
theorem Na {M N:Vm}(h:Hr M k=none):Hr (M++N) k=Hr N k:=by
 induction M with
 | nil=>rfl
 | cons p M ih =>
  obtain⟨a,b⟩:=p;simp only[Hr]at h;split at h
  ·cases h
  ·rename_i hk;simp only[List.cons_append,Hr,if_neg hk];exact ih h
theorem JnK {M:Vm}{n:Int}(N:Vm)(h:Hr M k=none):Tp (M++(k,n)::N) k=M++N:=by
 induction M with
 | nil=>simp[Tp]
 | cons p M ih =>
  obtain⟨a,b⟩:=p;simp only[Hr]at h;split at h
  ·cases h
  ·rename_i hk;simp only[List.cons_append,Tp,if_neg hk,ih h]
theorem Cw:∀(ts:List Tm) (ns:List Int) (M X:Vm),(∀v∈X.map Prod.fst,Hr M v=none)→(X.map Prod.fst).Nodup→ ∃Y,(HK ts ns (M++X) (X.map Prod.fst)).1=(M++(X++Y),(X++Y).map Prod.fst)∧(∀v∈(X++Y).map Prod.fst,Hr M v=none)∧((X++Y).map Prod.fst).Nodup
 | [],ns,M,X,h1,h2=>⟨[],by simp[HK],by simpa using h1,by simpa using h2⟩
 | _::_,[],M,X,h1,h2=>⟨[],by simp[HK],by simpa using h1,by simpa using h2⟩
 | t::ts,n::ns,M,X,h1,h2=>by
  unfold HK;split
  ·exact Cw ts ns M X h1 h2
  cases hg:Hr (M++X) t.name with
  | some k =>
   simp only;split
   ·exact Cw ts ns M X h1 h2
   ·exact⟨[],by simp,by simpa using h1,by simpa using h2⟩
  | none =>
   have hM:Hr M t.name=none:=by
    cases hm:Hr M t.name with
    | none=>rfl
    | some v =>
     have:Hr (M++X) t.name=some v:=by
      clear h1 h2 hg;induction M with
      | nil=>simp[Hr]at hm
      | cons p M ih =>
       obtain⟨a,b⟩:=p;simp only[Hr]at hm;simp only[List.cons_append,Hr];split at hm
       ·rename_i hk;rw[if_pos hk];exact hm
       ·rename_i hk;rw[if_neg hk];exact ih hm
     rw[this]at hg;cases hg
   have hX:t.name∉X.map Prod.fst:=by
    intro hx;rw[Na hM]at hg;clear h1 h2;induction X with
    | nil=>simp at hx
    | cons p X ih =>
     obtain⟨a,b⟩:=p;simp only[Hr]at hg;split at hg
     ·cases hg
     ·rename_i hk;simp only[Ku,FJ]at hx;rcases hx with hx|hx
      ·exact hk hx
      ·exact ih hg hx
   simp only;rw[Cv hg,F5];have e:X.map Prod.fst++[t.name]=(X++[(t.name,n)]).map Prod.fst:=Fj;rw[e]
   obtain⟨Y,h3,h4,h5⟩:=Cw ts ns M (X++[(t.name,n)]) (by
    intro v hv;simp only[List.map_append,F9,Ku,Kv,Kn]at hv;rcases hv with hv|rfl
    ·exact h1 v hv
    ·exact hM) (by
    rw[List.map_append,List.nodup_append];refine⟨h2,by simp,?_⟩;rintro a ha b hb rfl;simp at hb;subst hb;exact hX ha)
   refine⟨(t.name,n)::Y,?_,?_,?_⟩
   ·rw[h3];simp
   ·simpa using h4
   ·simpa using h5
theorem JjR (ts:List Tm)(ns:List Int)(M:Vm):∃Y,(HK ts ns M []).1=(M++Y,Y.map Prod.fst)∧(∀v∈Y.map Prod.fst,Hr M v=none)∧(Y.map Prod.fst).Nodup:=by
 obtain⟨Y,h1,h2,h3⟩:=Cw ts ns M [] Fj Fj;refine⟨Y,?_,by simpa using h2,by simpa using h3⟩;simpa using h1
end
end Go.Proofs.YtegdcbdicpfbpaaDoor
