/- A part of the proof. -/
import Derived.Test.YtegdcbdicpfbpaaGreatDoorJdN
import Derived.Test.YtegdcbdicpfbpaaGreatDoorJdJ
import Derived.Test.YtegdcbdicpfbpaaGreatDoorJdL
import Derived.Test.YtegdcbdicpfbpaaGreatDoorJdM
import Derived.Test.YtegdcbdicpfbpaaGreatDoorJdI
open Int renaming ofNat → Fq
open Go.IntKind renaming wrap → KZ
set_option linter.unusedVariables false
set_option linter.unusedSimpArgs false
namespace Go.Proofs.YtegdcbdicpfbpaaGreatDoor.Rel
open Go.AE
variable {tab:Tab}
structure SetV (S:Fw) (w:AW) (bp:Nat) (width:Nat) (rows:Fy) (lv:V) (cs:List V) (S0 T:Fw):Prop where
 hp:S bp
 lt:bp<w.next
 hx:w.heap.get bp=some (.cells [.int .i64 (Fq width),lv] .own)
 h0:∀b,S0 b→S b∧b≠bp∧b<w.next
 hT:∀b,T b→S b∧b≠bp∧¬S0 b∧b<w.next
 hS:∀b,S b→b<w.next
 hb:Buf S0 w lv 1 rows.length cs
 hv:RowsV T w cs rows
 rise:Rise rows
 wid:∀x∈rows,x.length=width
 w4:width≤4
def SetOf (S:Fw) (w:AW) (p:V) (width:Nat) (rows:Fy):Prop:=∃bp lv cs S0 T,p = .ptr bp 0∧SetV S w bp width rows lv cs S0 T
variable {S T S0:Fw} {w:AW} {bp width:Nat} {rows:Fy} {lv:V} {cs:List V}
theorem SetV.frm {R:Fw}{w':AW}(h:SetV S w bp width rows lv cs S0 T)(hf:Frm R w w')(hd:∀x,S x→¬R x):SetV S w' bp width rows lv cs S0 T where
 hp:=h.hp
 lt:=FK h.lt hf.next
 hx:=(hf.heap _ h.lt (hd _ h.hp)).trans h.hx
 h0 b hb:=⟨(h.h0 b hb).1,(h.h0 b hb).2.1,FK (h.h0 b hb).2.2 hf.next⟩
 hT b hb:=⟨(h.hT b hb).1,(h.hT b hb).2.1,(h.hT b hb).2.2.1,FK (h.hT b hb).2.2.2 hf.next⟩
 hS b hb:=FK (h.hS b hb) hf.next
 hb:=h.hb.frm hf fun x hx=>hd x (h.h0 x hx).1
 hv:=h.hv.frm hf fun x hx=>hd x (h.hT x hx).1
 rise:=h.rise
 wid:=h.wid
 w4:=h.w4
theorem SetOf.frm {R:Fw}{w':AW}{p:V}(h:SetOf S w p width rows)(hf:Frm R w w')(hd:∀x,S x→¬R x):SetOf S w' p width rows:=by
 obtain⟨bp,lv,cs,S0,T,rfl,h⟩:=h;exact⟨bp,lv,cs,S0,T,rfl,h.frm hf hd⟩
theorem SetV.load0 (h:SetV S w bp width rows lv cs S0 T):w.load bp 0 1=some [.int .i64 (Fq width)]:=by
 simp only[AW.load,h.hx,AW.alive,FZ,Lr]
theorem SetV.load1 (h:SetV S w bp width rows lv cs S0 T):w.load bp 1 1=some [lv]:=by
 simp only[AW.load,h.hx,AW.alive,List.drop_succ_cons,FZ,Lr]
variable {U:Fw} {rv:V} {r:List Int} {aw:AW} {K:V→AW→Prop}
theorem Jpb (C:Codes tab)(hs:SetV S aw bp width rows lv cs S0 T)(hr:RowV U aw rv r)(hn:rows.length≤1000000)(hlr:r.length≤1000)(h1:r.length≠width→K (.tuple [.int .i64 (-1),.bool false]) aw)(h2:r.length=width→K (.tuple [.int .i64 (Fq (posn rows r)),.bool (decide (r∈rows))]) aw):WF tab VU [.ptr bp 0,rv] aw K:=by
 refine Ld C.Yf rfl ?_;have e0:=hs.load0;have e1:=hs.load1;have w4:=hs.w4;have hl:∀x∈rows,x.length≤1000:=fun x hx=>by have:=hs.wid x hx;omega
 rcases hr.inv with⟨rfl,rfl⟩|⟨b,c,rfl,_⟩
 ·by_cases hw:width=0
  ·subst hw;have e2:((0:Int) != Fq 0)=false:=rfl;refine Fz (by simp only[go_sem,K5,Jl,eqV,e0,e1,e2];rfl) ?_;refine K9 Ff Fe ?_;refine Jmh C hs.hb hs.hv hr hs.rise hn hl hlr ?_;refine K6 1000 Fe ?_;refine K7 ⟨_,by simp only[go_sem,K5,Jl];rfl,?_⟩;exact h2 rfl
  ·have e2:¬0=width:=fun h=>hw h.symm;refine Fz (by simp only[go_sem,K5,Jl,eqV,e0,e1,e2];rfl) ?_;refine K7 ⟨_,by simp only[go_sem,K5,Jl];rfl,?_⟩;exact h1 fun h=>hw h.symm
 ·by_cases hw:r.length=width
  ·refine Fz (by simp only[go_sem,K5,Jl,eqV,e0,e1,hw];rfl) ?_;refine K9 Ff Fe ?_;refine Jmh C hs.hb hs.hv (hw▸hr) hs.rise hn hl hlr ?_;refine K6 1000 Fe ?_;refine K7 ⟨_,by simp only[go_sem,K5,Jl];rfl,?_⟩;exact h2 hw
  ·refine Fz (by simp only[go_sem,K5,Jl,eqV,e0,e1,hw];rfl) ?_;refine K7 ⟨_,by simp only[go_sem,K5,Jl];rfl,?_⟩;exact h1 hw
variable {l:List Int}
theorem Jsa {b:Nat}{c:Cap}{sh:Share}(hx:w.heap.get b=some (.cells (rowC l) sh))(ha:Al T w b sh):w.elems 1 (.slice b 0 l.length c)=some (l.length,rowC l):=by
 cases l with
 | nil=>rfl
 | cons x l =>
  simp only[AW.elems,FC,AW.load,hx,ha.alive,FZ];rw[En _ _ (by simp[rowC])]
theorem Jm6 (C:Codes tab)(hr:RowV U aw rv r)(hlr:r.length≤1000)(h:∀v w,RowV (fun b=>aw.next≤b∧b<w.next) w v r→Frm (fun _=>False) aw w→K v w):WF tab VV [rv] aw K:=by
 refine Ld C.X7 rfl ?_;rcases hr.inv with⟨rfl,rfl⟩|⟨b,c,rfl,_,hb,sh,hx,ha⟩
 ·refine Fz (by simp only[go_sem,K5,JT,eqV];rfl) ?_;refine K7 ⟨_,by simp only[go_sem,K5,JT];rfl,?_⟩;exact h _ _ .nil (Frm.refl _)
 ·have hx':(aw.fresh []).heap.get b=some (.cells (rowC r) sh):=(T.get_put_ne Fh).trans hx;have hf:Frm (fun _=>False) aw (aw.fresh []):=Frm.new _ _;have he:=Jsa (c:=c) hx' (ha.frm hf fun _ _ h=>h);cases hrl:r.length with
  | zero =>
   have:r=[]:=List.length_eq_zero_iff.1 hrl;subst this;rw[FD]at he;refine Fz (by simp only[go_sem,K5,JT,eqV,Lg,Lj,FD,he,AW.appendV];rfl) ?_;refine K7 ⟨_,by simp only[go_sem,K5,JT];rfl,?_⟩;refine h _ _ (.blk (n:=0) ⟨FH _,FW _⟩ (FW _) T.get_put_same (.inl rfl) rfl) hf
  | succ k =>
   have hap:(aw.fresh []).appendV 1 8 (.slice aw.next 0 0 (.known 0)) (k+1) (rowC r)=some (.slice (aw.next+1) 0 (k+1) (.upTo 1),(aw.fresh []).fresh (rowC r)):=by
    simp only[AW.appendV];rw[if_pos ⟨by omega,by omega,by omega⟩,if_neg Fh];simp only[AW.elems,FV,List.nil_append];rfl
   rw[hrl]at he;refine Fz (by simp only[go_sem,K5,JT,eqV,Lg,Lj,hrl,he,hap];rfl) ?_;refine K7 ⟨_,by simp only[go_sem,K5,JT];rfl,?_⟩;refine h _ _ (.blk (n:=k+1) ⟨Nat.le_succ _,FW _⟩ (FW _) T.get_put_same (.inl rfl) hrl) (hf.trans (Frm.new _ _) (fun _ _ h=>h) fun _ _ h=>h)
theorem JrJ (C:Codes tab)(hP:∀args aw v aw',Ci 24 args aw=some (v,aw')→tab.prim Zg args aw v aw'){x:V}{n i bv:Nat}(hb:Buf S aw lv 1 n cs)(hi:i≤n)(hv:aw.heap.get bv=some (.cells [x] .own))(hne:¬S bv)(h1:x.one=true)(h2:Lv cs=true)(hn:n≤1000000)(h:∀v w S',Buf S' w v 1 (n+1) (cs.take i++[x]++cs.drop i)→Frm S aw w→TV S S' aw w→K v w):WF tab Zg [lv,.int .i64 (Fq i),.slice bv 0 1 (.known 1)] aw K:=by
 have hel:aw.elems 1 (.slice bv 0 1 (.known 1))=some (1,[x]):=by simp only[AW.elems,AW.load,hv,AW.alive,FZ,Lr]
 have hcl:=hb.len;rw[KC]at hcl;have hone:Lv [x]=true:=by simp[Lv,h1]
 rcases hb.inv with⟨rfl,rfl,rfl⟩|⟨b,rfl,hSb,_⟩
 ·have:i=0:=Fh;subst this;obtain⟨v',w',S',q1,q2,q3,q4⟩:=hb.add (news:=[x]) (bytes:=24) Fh rfl hone Fh Fh
  have ev:WF tab Zg [.nilslice,.int .i64 (Fq 0),.slice bv 0 1 (.known 1)] aw K:=by
   refine Ld C.Yg rfl ?_;have e0:idx (.int .i64 (Fq 0))=some 0:=rfl;have e1:(Fq 0==(0:Int))=true:=rfl;have e2:((1:Int)==0)=false:=rfl;refine Fz (by simp only[go_sem,K5,ZA,e0,e1,e2,hel,q1,imp_self];rfl) ?_;refine K7 ⟨_,by simp only[go_sem,K5,ZA];rfl,?_⟩;exact h _ _ _ q2 q3 q4
  exact ev
 ·by_cases hin:i<n
  ·obtain⟨v',w',S',q1,q2,q3,q4⟩:=hb.insert (bytes:=24) (k:=1) (i:=i) hin hv (fun e=>hne (e▸hSb)) h1 h2 Fh Fh;exact⟨_,_,.prim (hP _ _ _ _ q1),h _ _ _ q2 q3 q4⟩
  ·have:i=n:=Fh;subst this;obtain⟨v',w',S',q1,q2,q3,q4⟩:=hb.add (news:=[x]) (bytes:=24) Fh rfl hone Fh Fh;refine Ld C.Yg rfl ?_;have e2:((1:Int)==0)=false:=rfl;refine Fz (by simp only[go_sem,K5,ZA,AW.sliceW,TS,e2,hel,q1];rfl) ?_;refine K7 ⟨_,by simp only[go_sem,K5,ZA];rfl,?_⟩;refine h _ _ _ ?_ q3 q4;rw[FX Fh,List.drop_eq_nil_of_le Fh,Kc];exact q2
def insR (rows:Fy) (r:List Int):Fy:=rows.take (posn rows r)++[r]++rows.drop (posn rows r)
theorem Jvj:∀(j:Nat) x,j<posn rows r→rows[j]? = some x→cmpL x r<0:=by
 intro j x hj hx;unfold posn at hj;have hjl:=(List.getElem?_eq_some_iff.1 hx).1
 have h1:(rows.takeWhile fun x=>decide (cmpL x r<0))[j]? = some x:=by
  have hp:=List.takeWhile_prefix (l:=rows) (fun x=>decide (cmpL x r<0));obtain⟨t,ht⟩:=hp;rw[←ht,F5 hj]at hx;exact hx
 have:=FI h1;have ha:=List.all_eq_true.1 (List.all_takeWhile (l:=rows) (p:=fun x=>decide (cmpL x r<0))) _ this;simpa using ha
theorem Jlt:∀{rows:Fy} {r:List Int} x,rows[posn rows r]? = some x→¬cmpL x r<0
 | [],r,x,h=>by simp at h
 | y::rows,r,x,h=>by
  by_cases hy:cmpL y r<0
  ·have e:posn (y::rows) r=posn rows r+1:=by simp[posn,hy]
   rw[e]at h;exact Jlt x (by simpa using h)
  ·have e:posn (y::rows) r=0:=by simp[posn,hy]
   rw[e]at h;simp at h;rw[←h];exact hy
theorem Jvi (hr:Rise rows)(hn:r∉rows):∀(j:Nat) x,posn rows r≤j→rows[j]? = some x→cmpL r x<0:=by
 intro j x hj hx;have hjl:=(List.getElem?_eq_some_iff.1 hx).1;have hpl:posn rows r<rows.length:=Fh
 have h1:¬cmpL x r<0:=by
  by_cases he:j=posn rows r
  ·rw[he]at hx;exact Jlt x hx
  ·have h2:=Jlt (rows:=rows) (r:=r) _ (FB hpl);have h3:=List.pairwise_iff_getElem.1 hr _ j hpl hjl Fh;rw[FB hjl]at hx;cases hx;exact fun hx=>h2 (Ea h3 hx)
 rcases JkF (a:=r) (b:=x)with h|h|h
 ·exact h
 ·subst h;exact absurd (FI hx) hn
 ·exact absurd h h1
theorem JtR (hr:Rise rows)(hn:r∉rows):Rise (insR rows r):=by
 have hlo:∀x∈rows.take (posn rows r),cmpL x r<0:=by
  intro x hx;obtain⟨j,hj,e⟩:=List.mem_iff_getElem.1 hx;rw[FU]at hj;refine Jvj (rows:=rows) j x Fh ?_;rw[List.getElem_take]at e;rw[FB Fh,e]
 have hhi:∀x∈rows.drop (posn rows r),cmpL r x<0:=by
  intro x hx;obtain⟨j,hj,e⟩:=List.mem_iff_getElem.1 hx;rw[Ki]at hj;refine Jvi hr hn (posn rows r+j) x Fh ?_;rw[List.getElem_drop]at e;rw[FB Fh,e]
 unfold insR Rise;rw[F6,List.pairwise_append];refine⟨List.Pairwise.sublist (List.take_sublist _ _) hr,?_,?_⟩
 ·rw[List.singleton_append,List.pairwise_cons];exact⟨hhi,List.Pairwise.sublist (List.drop_sublist _ _) hr⟩
 ·intro a ha b hb;rw[List.singleton_append,FJ]at hb;rcases hb with rfl|hb
  ·exact hlo a ha
  ·exact Ea (hlo a ha) (hhi b hb)
theorem mem_ins {x:List Int}:x∈insR rows r↔x=r∨x∈rows:=by
 unfold insR;rw[F6,Ka,List.singleton_append,FJ]
 have:x∈rows↔x∈rows.take (posn rows r)∨x∈rows.drop (posn rows r):=by
  rw[←Ka,List.take_append_drop]
 rw[this];constructor
 ·rintro (h|h|h)
  ·exact .inr (.inl h)
  ·exact .inl h
  ·exact .inr (.inr h)
 ·rintro (h|h|h)
  ·exact .inr (.inl h)
  ·exact .inl h
  ·exact .inr (.inr h)
variable {v:V}
theorem Jsb {i:Nat}(h:RowsV T w cs rows)(hv:RowV T w v r)(hi:i≤rows.length):RowsV T w (cs.take i++[v]++cs.drop i) (rows.take i++[r]++rows.drop i):=by
 have h1:=h.1;refine⟨by simp[h1],fun k x l hx hl=>?_⟩;rw[F6]at hx hl;by_cases hk:k<i
 ·rw[F5 (by simp;omega),Kt hk]at hx hl;exact h.2 k x l hx hl
 ·rw[F4 (by simp;omega)]at hx hl;have e1:(cs.take i).length=i:=by simp;omega
  have e2:(rows.take i).length=i:=by simp;omega
  rw[e1]at hx;rw[e2]at hl;by_cases hk2:k=i
  ·subst hk2;simp at hx hl;rw[←hx,←hl];exact hv
  ·obtain⟨m,hm⟩:∃m,k-i=m+1:=⟨k-i-1,by omega⟩;rw[hm]at hx hl;simp at hx hl;exact h.2 _ x l hx hl
theorem Jsc (h:RowsV T w cs rows):Lv cs=true:=by
 rw[Ah];intro v hv;obtain⟨i,hi,e⟩:=List.mem_iff_getElem.1 hv;have hi':i<rows.length:=by rw[←h.1];exact hi
 have:=h.2 i v _ (by rw[FB hi,e]) (FB hi');rcases this.inv with⟨rfl,_⟩|⟨b,c,rfl,_⟩<;>rfl
theorem RowV.cells (h:RowV T w v l):v.cells=[v]:=by
 rcases h.inv with⟨rfl,_⟩|⟨b,c,rfl,_⟩<;>rfl
theorem RowV.isOne (h:RowV T w v l):v.one=true:=by
 rcases h.inv with⟨rfl,_⟩|⟨b,c,rfl,_⟩<;>rfl
theorem add_ok (C:Codes tab)(hP:∀args aw v aw',Ci 24 args aw=some (v,aw')→tab.prim Zg args aw v aw'){p:V}(hs:SetOf S aw p width rows)(hr:RowV U aw rv r)(hn:rows.length≤1000000)(hlr:r.length≤1000)(h1:¬(r.length=width∧r∉rows)→K (.bool false) aw)(h2:r.length=width→r∉rows→∀w S',SetOf S' w p width (insR rows r)→Frm S aw w→TV S S' aw w→K (.bool true) w):WF tab VQ [p,rv] aw K:=by
 obtain⟨bp,lv,cs,S0,T,rfl,hs⟩:=hs;refine Ld C.XC rfl ?_;refine Fz (by simp only[go_sem,K5,Zu];rfl) ?_;refine K9 Ff Fe ?_;refine Jpb C hs hr hn hlr ?_ ?_
 ·intro hw;have e1:decide ((-1:Int)<0)=true:=rfl;refine Fz (by simp only[go_sem,K5,e1];rfl) ?_;refine K7 ⟨_,by simp only[go_sem,K5,Zu];rfl,?_⟩;exact h1 fun h=>hw h.1
 ·intro hw;by_cases hm:r∈rows
  ·have e1:¬posn rows r<0:=Fh;refine Fz (by simp only[go_sem,K5,hm,e1];rfl) ?_;refine K7 ⟨_,by simp only[go_sem,K5,Zu];rfl,?_⟩;exact h1 fun h=>h.2 hm
  ·have e1:¬posn rows r<0:=Fh;refine Fz (by simp only[go_sem,K5,hm,e1];rfl) ?_;have l1:=hs.load1;refine Bo ?_;refine LU 100 (by simp only[go_sem,K5,l1];rfl) ?_;refine BJ Ff Fe ?_;refine Jm6 C hr hlr fun v w hv hf=>?_;have hvc:=hv.cells;refine LU 100 (by simp only[go_sem,K5,Lg,Lj,over,hvc,FC,FD];rfl) ?_;refine BJ Ff Fe ?_;have hfa:Frm (fun _=>False) aw (w.fresh [v]):=hf.trans (Frm.new _ _) (fun _ _ h=>h) fun _ _ h=>h;have hsa:=hs.frm hfa fun _ _ h=>h;have hsw:=hs.frm hf fun _ _ h=>h;have hnS0:¬S0 w.next:=fun h=>by have:=(hs.h0 _ h).2.2;have:=hf.next;omega
   refine JrJ C hP hsa.hb (i:=posn rows r) (Jlu _ _) (AE.T.get_put_same (k:=w.next)) hnS0 hv.isOne (Jsc hsa.hv) hn fun lv' w2 S' q1 q2 q3=>?_;have hbp2:¬S0 bp:=fun h=>(hs.h0 _ h).2.1 rfl;have hx2:w2.heap.get bp=some (.cells [.int .i64 (Fq width),lv] .own):=(q2.heap _ hsa.lt hbp2).trans hsa.hx;have l2:w2.load bp 1 1=some [lv]:=by simp only[AW.load,hx2,AW.alive,List.drop_succ_cons,FZ,Lr]
   have hlv':lv'.one=true:=by rcases q1.inv with⟨rfl,_⟩|⟨b,rfl,_⟩<;>rfl
   have hlc':lv'.cells=[lv']:=by rcases q1.inv with⟨rfl,_⟩|⟨b,rfl,_⟩<;>rfl
   have hst:=Qj (i:=1) (v:=lv') hx2 Fj hlv';refine LU 100 (by simp only[go_sem,K5,hlc',hst,FC,FD];rfl) ?_;have la:=hsa.load1;have lw:=hsw.load1;refine O1 ⟨(show LF _ _ [(4,7),(4,8)]from by simp only[go_sem,K5,LF,chk,List.reverse_cons,List.reverse_nil,O8,O6,O4,O5,List.getElem?_nil,false_or,or_true,or_false,exists_eq',FQ,Prod.mk.injEq,Bool.true_eq_false,FM,and_true,true_and,implies_true,l1,la,lw]),?_⟩;refine K6 1000 Fe ?_;refine K7 ⟨_,by simp only[go_sem,K5,Zu];rfl,?_⟩;have hnx:(w.fresh [v]).next=w.next+1:=rfl;have hn1:=hf.next;have hn2:=q2.next;have hlt:=hs.lt;have hturn:Frm (fun b=>b=bp) w2 (w2.turn bp (.cells ([.int .i64 (Fq width),lv].set 1 lv') .own)):=IB rfl (.inl rfl);have hvf:RowV (fun b=>aw.next≤b∧b<w.next) (w.fresh [v]) v r:=hv.frm (S:=fun _=>False) (Frm.new _ _) fun _ _ h=>h;have hv2:RowV (fun b=>aw.next≤b∧b<w.next) w2 v r:=hvf.frm q2 fun x hx h=>by have:=(hs.h0 x h).2.2;omega
   have hr2:RowsV T w2 cs rows:=hsa.hv.frm q2 fun x hx h=>(hs.hT x hx).2.2.1 h;refine h2 hw hm _ (fun b=>S b∨(aw.next≤b∧b<w2.next)) ⟨bp,lv',cs.take (posn rows r)++[v]++cs.drop (posn rows r),S',fun b=>T b∨(aw.next≤b∧b<w.next),rfl,?_⟩ ?_ ?_
   ·refine⟨.inl hs.hp,?_,AE.T.get_put_same,?_,?_,?_,?_,?_,JtR hs.rise hm,?_,hs.w4⟩
    ·show bp<w2.next;omega
    ·intro b hb;obtain⟨g1,g2⟩:=q3 b hb;rcases g2 with g2|g2
     ·have:=hs.h0 b g2;exact⟨.inl this.1,this.2.1,g1⟩
     ·exact⟨.inr ⟨by omega,g1⟩,by omega,g1⟩
    ·rintro b (hb|hb)
     ·have:=hs.hT b hb;refine⟨.inl this.1,this.2.1,fun h=>?_,FK this.2.2.2 (show aw.next≤w2.next by omega)⟩;rcases (q3 b h).2 with g|g
      ·exact this.2.2.1 g
      ·have:=this.2.2.2;omega
     ·refine⟨.inr ⟨hb.1,by omega⟩,by omega,fun h=>?_,show b<w2.next by omega⟩;rcases (q3 b h).2 with g|g
      ·have:=(hs.h0 b g).2.2;omega
      ·omega
    ·rintro b (hb|hb)
     ·have:=hs.hS b hb;show b<w2.next;omega
     ·exact hb.2
    ·have e:(insR rows r).length=rows.length+1:=by
      have:=Jlu rows r;simp[insR];omega
     rw[e];refine q1.frm hturn fun x hx h=>?_;subst h;rcases (q3 x hx).2 with g|g
     ·exact hbp2 g
     ·omega
    ·refine Jsb ((hr2.mono fun x h=> .inl h).frm hturn fun x hx h=>?_) ((hv2.mono fun x h=> .inr h).frm hturn fun x hx h=>?_) (Jlu _ _)
     ·subst h;rcases hx with g|g
      ·exact (hs.hT _ g).2.1 rfl
      ·omega
     ·subst h;rcases hx with g|g
      ·exact (hs.hT _ g).2.1 rfl
      ·omega
    ·intro x hx;rcases mem_ins.1 hx with rfl|hx
     ·exact hw
     ·exact hs.wid x hx
   ·refine (hfa.trans q2 (U:=S) (fun _ _ h=>h.elim) fun x _ h=>(hs.h0 x h).1).trans hturn (fun _ _ h=>h) ?_;rintro x _ rfl;exact hs.hp
   ·rintro b (hb|hb)
    ·exact⟨by have:=hs.hS b hb;show b<w2.next;omega,.inl hb⟩
    ·exact⟨hb.2,.inr hb.1⟩
section
open Go.AE
variable {tab:Tab}
theorem has_ok (C:Codes tab){p:V}(hs:SetOf S aw p width rows)(hr:RowV U aw rv r)(hn:rows.length≤1000000)(hlr:r.length≤1000)(h:K (.bool (decide (r∈rows))) aw):WF tab YL [p,rv] aw K:=by
 obtain⟨bp,lv,cs,S0,T,rfl,hs⟩:=hs;refine Ld C.Yt rfl ?_;refine Fz (by simp only[go_sem,K5,Zb];rfl) ?_;refine K9 Ff Fe ?_;refine Jpb C hs hr hn hlr ?_ ?_
 ·intro hw;have:decide (r∈rows)=false:=decide_eq_false fun h=>hw (hs.wid r h);rw[this]at h;refine K6 1000 Fe ?_;refine K7 ⟨_,by simp only[go_sem,K5,Zb];rfl,?_⟩;exact h
 ·intro hw;refine K6 1000 Fe ?_;refine K7 ⟨_,by simp only[go_sem,K5,Zb];rfl,?_⟩;exact h
theorem len_ok (C:Codes tab){p:V}(hs:SetOf S aw p width rows)(h:K (.int .i64 (Fq rows.length)) aw):WF tab YP [p] aw K:=by
 obtain⟨bp,lv,cs,S0,T,rfl,hs⟩:=hs;refine Ld C.Ve rfl ?_;have l1:=hs.load1;rcases hs.hb.inv with⟨rfl,h0,_⟩|⟨b,rfl,hSb,_⟩
 ·refine Fz (by simp only[go_sem,K5,ZI,l1,eqV];rfl) ?_;refine K7 ⟨_,by simp only[go_sem,K5,ZI];rfl,?_⟩;rw[h0]at h;exact h
 ·refine Fz (by simp only[go_sem,K5,ZI,l1,eqV];rfl) ?_;refine K7 ⟨_,by simp only[go_sem,K5,ZI];rfl,?_⟩;exact h
theorem new_ok (C:Codes tab)(hw:width≤4)(h:∀w,SetOf (fun b=>b=aw.next) w (.ptr aw.next 0) width []→Frm (fun _=>False) aw w→w.next=aw.next+1→K (.ptr aw.next 0) w):WF tab ZL [.int .i64 (Fq width)] aw K:=by
 refine Ld C.Xk rfl ?_;have e1:¬width<0:=Fh;have e2:¬4<width:=Fh;refine Fz (by simp only[go_sem,K5,Xj,e1,e2,Lg,Lj,over,V.cells,FC,FD];rfl) ?_;refine K7 ⟨_,by simp only[go_sem,K5,Xj];rfl,?_⟩;refine h _ ⟨aw.next,.nilslice,[],fun _=>False,fun _=>False,rfl,⟨rfl,FW _,AE.T.get_put_same,fun _ h=>h.elim,fun _ h=>h.elim,?_,.nil,⟨rfl,fun i v l h=>by simp at h⟩,.nil,fun x hx=>by simp at hx,hw⟩⟩ (Frm.new _ _) rfl;rintro b rfl;exact FW _
end
section
open Go.AE
variable {tab:Tab}
def fitsR:List Int→List Int→Bool
 | x::l,n::m=>!(decide (0<n)&&x != n)&&fitsR l m
 | _,_=>true
variable {x:List Int}
theorem Jqi {i:Nat}{a n:Int}(h1:x[i]? = some a)(h2:r[i]? = some n):fitsR (x.drop i) (r.drop i)=(!(decide (0<n)&&a != n)&&fitsR (x.drop (i+1)) (r.drop (i+1))):=by
 have k1:i<x.length:=(List.getElem?_eq_some_iff.1 h1).1;have k2:i<r.length:=(List.getElem?_eq_some_iff.1 h2).1;rw[FL k1,FL k2];rw[FB k1]at h1;rw[FB k2]at h2;rw[FY h1,FY h2];rfl
theorem JlU:∀(x:List Int),fitsR x []=true
 | []=>rfl
 | _::_=>rfl
theorem JkN:∀(x:List Int) (k:Nat),fitsR x (List.replicate k 0)=true
 | [],0=>rfl
 | [],k+1=>rfl
 | _::_,0=>rfl
 | _::l,k+1=>by simp[List.replicate_succ,fitsR,JkN l k]
def JwS (xv rv:V) (x r:List Int) (aw:AW) (q:Nat) (f:Fr) (w:AW):Prop :=
 ∃i,f.get 0=some xv∧f.get 7=some rv∧f.get 8=some (.int .i64 (Fq r.length))∧f.get 9=some (.int .i64 (Fq i))∧w=aw∧fitsR x r=fitsR (x.drop i) (r.drop i)∧i≤r.length∧q=r.length-i
theorem JuS (C:Codes tab){xv:V}(hx:RowV T aw xv x)(hr:RowV U aw rv r)(hl:x.length=r.length)(hlr:r.length≤1000)(h:K (.bool (fitsR x r)) aw):WF tab GX [xv,rv] aw K:=by
 refine Ld C.Vg rfl ?_;rcases hr.inv with⟨rfl,rfl⟩|⟨b2,c2,rfl,_,_,hx2⟩
 ·rw[JlU]at h;refine Fz (by simp only[go_sem,K5,JI];rfl) ?_;refine IQ ?_;refine Fz (by simp only[go_sem,K5,Zd];rfl) ?_;refine K7 ⟨_,by simp only[go_sem,K5,JI];rfl,?_⟩;exact h
 rcases hx.inv with⟨rfl,rfl⟩|⟨b1,c1,rfl,_,_,hx1⟩
 ·have:r=[]:=List.length_eq_zero_iff.1 (by simpa using hl.symm);subst this;refine Fz (by simp only[go_sem,K5,JI,FD];rfl) ?_;refine IQ ?_;refine Fz (by simp only[go_sem,K5,Zd,FD];rfl) ?_;refine K7 ⟨_,by simp only[go_sem,K5,JI];rfl,?_⟩;exact h
 refine Fz (by simp only[go_sem,K5,JI];rfl) ?_;refine Iq (JwS _ _ x r aw) ?_ r.length ⟨0,Fb,Fb,Fb,Fb,rfl,by simp,by omega,by omega⟩;rintro q f w ⟨i,f0,f7,f8,f9,rfl,hc,hi,rfl⟩ ih;by_cases hlt:i<r.length
 ·have hlx:i<x.length:=Fh;have g1:x[i]? = some x[i]:=FB hlx;have g2:r[i]? = some r[i]:=FB hlt;have e1:=row_load hx1 g1;have e2:=row_load hx2 g2;rw[Jqi g1 g2]at hc;have hwr:KZ .i64 (Fq i+1)=Fq (i+1):=Lh Fh;by_cases hp:r[i]>0
  ·have hp':0<r[i]:=hp;by_cases he:x[i]=r[i]
   ·have e3:(x[i] != r[i])=false:=by simp[he]
    rw[e3,Bool.and_false,Bool.not_false,Bool.true_and]at hc;refine Fz (by simp only[go_sem,K5,Zd,Vf,f0,f7,f8,f9,hlt,hlx,e1,e2,hp,e3,hwr];rfl) ?_;exact ih _ _ _ Fh ⟨i+1,(Fg f0),(Fg f7),(Fg f8),Fb,rfl,hc,by omega,rfl⟩
   ·have e3:(x[i] != r[i])=true:=by simp[he]
    rw[e3,decide_eq_true hp',Bool.and_true,Bool.not_true,Bool.false_and]at hc;rw[hc]at h;refine Fz (by simp only[go_sem,K5,Zd,Vf,f0,f7,f8,f9,hlt,hlx,e1,e2,hp,e3,hwr];rfl) ?_;refine K7 ⟨_,by simp only[go_sem,K5,JI];rfl,?_⟩;exact h
  ·have hp':¬0<r[i]:=hp;rw[decide_eq_false hp',Bool.false_and,Bool.not_false,Bool.true_and]at hc;refine Fz (by simp only[go_sem,K5,Zd,Vf,f0,f7,f8,f9,hlt,hlx,e1,e2,hp,hwr];rfl) ?_;exact ih _ _ _ Fh ⟨i+1,(Fg f0),(Fg f7),(Fg f8),Fb,rfl,hc,by omega,rfl⟩
 ·rw[List.drop_eq_nil_of_le (by omega:r.length≤i),JlU]at hc;rw[hc]at h;refine Fz (by simp only[go_sem,K5,Zd,f0,f7,f8,f9,hlt];rfl) ?_;refine K7 ⟨_,by simp only[go_sem,K5,JI];rfl,?_⟩;exact h
def ListOf (N:Nat) (w:AW) (v:V) (rows:Fy) (cs:List V) (S T:Fw):Prop :=
 Buf S w v 1 rows.length cs∧RowsV T w cs rows∧(∀x,S x→N≤x∧x<w.next∧¬T x)∧(∀x,T x→N≤x∧x<w.next)
def JwV (lv pv:V) (rows:Fy) (pat:List Int) (aw:AW) (q:Nat) (f:Fr) (w:AW):Prop :=
 ∃i v cs S T,f.get 1=some pv∧f.get 22=some lv∧f.get 23=some (.int .i64 (Fq rows.length))∧f.get 24=some (.int .i64 (Fq i))∧f.get 5=some v∧ListOf aw.next w v ((rows.take i).filter fun x=>fitsR x pat) cs S T∧Frm (fun _=>False) aw w∧i≤rows.length∧q=rows.length-i
theorem NP {i:Nat}{p:List Int→Bool}(h:rows[i]? = some x):(rows.take (i+1)).filter p=(rows.take i).filter p++if p x then [x]else []:=by
 rw[List.take_add_one,h,List.filter_append];simp only[Option.toList_some];by_cases hp:p x<;>simp[hp]
theorem match_ok (C : Codes tab) {S U : Nat → Prop} {p pv : V} {width : Nat} {rows : List (List Int)} {pat : List Int} {aw : AW} {K : V → AW → Prop} (hs : SetOf S aw p width rows) (hr : RowV U aw pv pat) (hn : rows.length ≤ 1000000) (hlr : pat.length ≤ 1000)
    (h1 : pat.length ≠ width → K .nilslice aw) (h2 : pat.length = width → ∀ v w cs S1 T1, ListOf aw.next w v (rows.filter fun x => fitsR x pat) cs S1 T1 → Frm (fun _ => False) aw w → K v w) : WF tab ZQ [p, pv] aw K := by
  obtain ⟨bp, lv, cs, S0, T, rfl, hs⟩ := hs
  refine Ld C.Yq rfl ?_
  have e0 := hs.load0
  have e1 := hs.load1
  have begun : pat.length = width → ∀ fr : Fr, fr.get 1 = some pv → fr.get 22 = some lv → fr.get 23 = some (.int .i64 (Fq rows.length)) → fr.get 24 = some (.int .i64 (Fq 0)) → fr.get 5 = some .nilslice →
      WS tab [.code (.loop Wx), .endB 0, .code (.seq (.region [⟨some 37, none, .mov (.tmp 5)⟩, ⟨some 4, none, .mov (.tmp 37)⟩]) .ret)] fr aw (fun fr' aw' => ∃ vs, Ox fr' aw' Jf.results = some vs ∧ K (Oy vs) aw') := by
    intro hw fr f1 f22 f23 f24 f5
    refine Iq (JwV lv pv rows pat aw) ?_ rows.length ⟨0, .nilslice, [], fun _ => False, fun _ => False, f1, f22, f23, f24, f5, ⟨.nil, ⟨rfl, fun i v l h => by simp at h⟩, fun _ h => h.elim, fun _ h => h.elim⟩, Frm.refl _, by omega, rfl⟩
    clear f1 f22 f23 f24 f5
    rintro q f w ⟨i, v, vs, S1, T1, f1, f22, f23, f24, f5, ⟨hb1, hv1, hS1, hT1⟩, hf, hi, rfl⟩ ih
    have hsw := hs.frm hf fun _ _ h => h
    by_cases hlt : i < rows.length
    · have g1 : rows[i]? = some rows[i] := List.getElem?_eq_getElem hlt
      obtain ⟨xv, g2, g3⟩ := hsw.hv.at g1
      have hwr : KZ .i64 (Fq i + 1) = Fq (i + 1) := Lh (by omega)
      have hwx := hs.wid _ (List.mem_of_getElem? g1)
      have hrw := hr.frm hf fun _ _ h => h
      rcases hsw.hb.inv with ⟨_, h0, _⟩ | ⟨b, rfl, hSb, _⟩
      · omega
      have ld := hsw.hb.load1 g2
      refine K6 1000 (by simp only [go_sem, K5, Wx, Jau, Jat, f1, f22, f23, f24, f5, hlt, ld]; rfl) ?_
      refine K9 (by simp only [go_sem, K5]) (by simp only [go_sem, K5]; rfl) ?_
      refine JuS C g3 hrw (by omega) hlr ?_
      by_cases hp : fitsR rows[i] pat = true
      · refine K6 1000 (by simp only [go_sem, K5, hp, f1, f22, f23, f24, f5]; rfl) ?_
        refine K9 (by simp only [go_sem, K5]) (by simp only [go_sem, K5]; rfl) ?_
        refine Jm6 C g3 (by omega) fun v' w' hv' hf' => ?_
        have hvc := hv'.cells
        have hfa : Frm (fun _ => False) w (w'.fresh [v']) := hf'.trans (Frm.new _ _) (fun _ _ h => h) fun _ _ h => h
        have hel : (w'.fresh [v']).elems 1 (.slice w'.next 0 1 (.known 1)) = some (1, [v']) := by
          simp only [AW.elems, AW.load, AW.fresh, AW.new, AE.T.get_putk, if_true, AW.alive, List.drop_zero, Lr]
        have hlen : ((rows.take i).filter fun x => fitsR x pat).length ≤ rows.length := Nat.le_trans (List.length_filter_le _ _) (by rw [List.length_take]; omega)
        obtain ⟨v2, w2, S2, q1, q2, q3, q4⟩ := (hb1.frm hfa fun _ _ h => h).add (news := [v']) (bytes := 24) (by omega) rfl (by simp [Lv, hv'.isOne]) (by omega) (by omega)
        have hnx : (w'.fresh [v']).next = w'.next + 1 := rfl
        have hn1 := hf.next
        have hn2 := hf'.next
        have hn3 := q3.next
        refine K6 1000 (by simp only [go_sem, K5, Lg, Lj, over, hvc, List.length_cons, List.length_nil, hel, q1, f1, f22, f23, f24, f5, hwr]; rfl) ?_
        refine ih (rows.length - (i + 1)) _ _ (by omega) ⟨i + 1, v2, vs ++ [v'], S2, fun x => T1 x ∨ (w.next ≤ x ∧ x < w'.next), (by simp only [go_sem, K5, f1] <;> rfl), (by simp only [go_sem, K5, f22] <;> rfl), (by simp only [go_sem, K5, f23] <;> rfl), (by simp only [go_sem, K5] <;> rfl), (by simp only [go_sem, K5] <;> rfl), ⟨?_, ?_, ?_, ?_⟩, ?_, by omega, rfl⟩
        · rw [NP g1, if_pos hp, List.length_append]; exact q2
        · rw [NP g1, if_pos hp]
          have a1 : RowsV T1 w2 vs _ := (hv1.frm hfa fun _ _ h => h).frm q3 fun x hx h => (hS1 x h).2.2 hx
          have a2 : RowV (fun b => w.next ≤ b ∧ b < w'.next) w2 v' rows[i] := (hv'.frm (w' := w'.fresh [v']) (S := fun _ => False) (Frm.new _ _) fun _ _ h => h).frm q3 fun x hx h => by have := (hS1 x h).2.1; omega
          have hl1 := hv1.1
          refine ⟨by simp [hl1], fun k y l hy hl => ?_⟩
          by_cases hk : k < vs.length
          · rw [List.getElem?_append_left hk] at hy
            rw [List.getElem?_append_left (by omega)] at hl
            exact (a1.2 k y l hy hl).mono fun _ h => .inl h
          · rw [List.getElem?_append_right (by omega)] at hy hl
            rw [← hl1] at hl
            cases hkk : k - vs.length with
            | zero => rw [hkk] at hy hl; simp at hy hl; rw [← hy, ← hl]; exact a2.mono fun _ h => .inr h
            | succ m => rw [hkk] at hy; simp at hy
        · intro x hx
          obtain ⟨m1, m2⟩ := q4 x hx
          rcases m2 with m2 | m2
          · have := hS1 x m2
            exact ⟨this.1, m1, fun h => h.elim this.2.2 fun h => by omega⟩
          · refine ⟨by omega, m1, fun h => h.elim (fun h => ?_) fun h => by omega⟩
            have := hT1 x h; omega
        · rintro x (h | h)
          · have := hT1 x h; omega
          · omega
        · refine (hf.trans hfa (fun _ _ h => h) fun _ _ h => h).trans q3 (fun _ _ h => h) fun x hx h => ?_
          have := (hS1 x h).1; omega
      · have hp' : fitsR rows[i] pat = false := by simpa using hp
        refine K6 1000 (by simp only [go_sem, K5, hp', f1, f22, f23, f24, f5, hwr]; rfl) ?_
        refine ih (rows.length - (i + 1)) _ _ (by omega) ⟨i + 1, v, vs, S1, T1, (by simp only [go_sem, K5, f1] <;> rfl), (by simp only [go_sem, K5, f22] <;> rfl), (by simp only [go_sem, K5, f23] <;> rfl), (by simp only [go_sem, K5] <;> rfl), (by simp only [go_sem, K5, f5] <;> rfl), ?_, hf, by omega, rfl⟩
        rw [NP g1, if_neg (by simp [hp']), List.append_nil]
        exact ⟨hb1, hv1, hS1, hT1⟩
    · have e : rows.take i = rows := List.take_of_length_le (by omega)
      rw [e] at hb1 hv1
      refine K6 1000 (by simp only [go_sem, K5, Wx, f1, f22, f23, f24, f5, hlt]; rfl) ?_
      refine K7 ⟨_, by simp only [go_sem, K5, Jf, f5]; rfl, ?_⟩
      exact h2 hw _ _ _ _ _ ⟨hb1, hv1, hS1, hT1⟩ hf
  rcases hr.inv with ⟨rfl, rfl⟩ | ⟨b, c, rfl, _⟩
  · by_cases hw : width = 0
    · subst hw
      have e2 : ((0 : Int) != Fq 0) = false := rfl
      rcases hs.hb.inv with ⟨rfl, h0, _⟩ | ⟨b, rfl, hSb, _⟩
      · rw [h0] at begun
        refine K6 1000 (by simp only [go_sem, K5, Jf, eqV, e0, e1, e2]; rfl) ?_
        exact begun rfl _ (by simp only [go_sem, K5] <;> rfl) (by simp only [go_sem, K5] <;> rfl) (by simp only [go_sem, K5] <;> rfl) (by simp only [go_sem, K5] <;> rfl) (by simp only [go_sem, K5] <;> rfl)
      · refine K6 1000 (by simp only [go_sem, K5, Jf, eqV, e0, e1, e2]; rfl) ?_
        exact begun rfl _ (by simp only [go_sem, K5] <;> rfl) (by simp only [go_sem, K5] <;> rfl) (by simp only [go_sem, K5] <;> rfl) (by simp only [go_sem, K5] <;> rfl) (by simp only [go_sem, K5] <;> rfl)
    · have e2 : ¬ 0 = width := fun h => hw h.symm
      refine K6 1000 (by simp only [go_sem, K5, Jf, eqV, e0, e1, e2]; rfl) ?_
      refine K7 ⟨_, by simp only [go_sem, K5, Jf]; rfl, ?_⟩
      exact h1 fun h => hw h.symm
  · by_cases hw : pat.length = width
    · rcases hs.hb.inv with ⟨rfl, h0, _⟩ | ⟨b, rfl, hSb, _⟩
      · rw [h0] at begun
        refine K6 1000 (by simp only [go_sem, K5, Jf, eqV, e0, e1, hw]; rfl) ?_
        exact begun hw _ (by simp only [go_sem, K5, hw] <;> rfl) (by simp only [go_sem, K5] <;> rfl) (by simp only [go_sem, K5] <;> rfl) (by simp only [go_sem, K5] <;> rfl) (by simp only [go_sem, K5] <;> rfl)
      · refine K6 1000 (by simp only [go_sem, K5, Jf, eqV, e0, e1, hw]; rfl) ?_
        exact begun hw _ (by simp only [go_sem, K5, hw] <;> rfl) (by simp only [go_sem, K5] <;> rfl) (by simp only [go_sem, K5] <;> rfl) (by simp only [go_sem, K5] <;> rfl) (by simp only [go_sem, K5] <;> rfl)
    · refine K6 1000 (by simp only [go_sem, K5, Jf, eqV, e0, e1, hw]; rfl) ?_
      refine K7 ⟨_, by simp only [go_sem, K5, Jf]; rfl, ?_⟩
      exact h1 hw
end
section
open Go.AE
variable {tab:Tab}
theorem Jsu (k:Nat):(List.replicate k [V.int .i64 0]).flatten=rowC (List.replicate k 0):=by
 induction k with
 | zero=>rfl
 | succ k ih=>rw[List.replicate_succ,List.flatten_cons,ih,List.replicate_succ];rfl
theorem JoC (rows:Fy)(k:Nat):(rows.filter fun x=>fitsR x (List.replicate k 0))=rows:=by
 rw[List.filter_eq_self];intro x _;exact JkN x k
theorem ListOf.weaken {N M:Nat}(h:ListOf N w v rows cs S T)(hM:M≤N):ListOf M w v rows cs S T:=
 ⟨h.1,h.2.1,fun x hx=>by have:=h.2.2.1 x hx;exact⟨by omega,this.2.1,this.2.2⟩,fun x hx=>by have:=h.2.2.2 x hx;exact⟨by omega,this.2⟩⟩
theorem all_ok (C:Codes tab){p:V}(hs:SetOf S aw p width rows)(hn:rows.length≤1000000)(h:∀v w cs S1 T1,ListOf aw.next w v rows cs S1 T1→Frm (fun _=>False) aw w→K v w):WF tab GH [p] aw K:=by
 obtain⟨bp,lv,cs,S0,T,rfl,hs⟩:=hs;refine Ld C.X6 rfl ?_;have w4:=hs.w4;have e0:=hs.load0;have c1:width≤70368744177664:=Fh;have c2:width*8≤70368744177664:=Fh;refine Fz (by simp only[go_sem,K5,X5,eqV,e0,c1,c2,Jsu];rfl) ?_;refine K9 Ff Fe ?_;have hf:Frm (fun _=>False) aw (aw.fresh (rowC (List.replicate width 0))):=Frm.new _ _;have hs':SetOf S (aw.fresh (rowC (List.replicate width 0))) (.ptr bp 0) width rows:=⟨bp,lv,cs,S0,T,rfl,hs.frm hf fun _ _ h=>h⟩;refine match_ok C (pat:=List.replicate width 0) hs' (.blk (T:=fun b=>b=aw.next) rfl (FW _) AE.T.get_put_same (.inl rfl) Fj) hn (by simp;omega) (fun h=>absurd Fj h) ?_;intro _ v w cs' S1 T1 hl hf2;rw[JoC]at hl;refine K6 1000 Fe ?_;refine K7 ⟨_,by simp only[go_sem,K5,X5];rfl,?_⟩;exact h _ _ _ _ _ (hl.weaken (Nat.le_succ _)) (hf.trans hf2 (fun _ _ h=>h) fun _ _ h=>h)
end
end Go.Proofs.YtegdcbdicpfbpaaGreatDoor.Rel
set_option maxRecDepth 10000
namespace Go.Proofs.YtegdcbdicpfbpaaGreatDoor.Val
open Go.AE Delphi
variable {tab:Tab}
section
open Go.AE Delphi
variable {tab:Tab}
structure FcW (aw:AW) (nm:List Nat) (av v:V) (S:Fw) (out:List Tk) (w:AW):Prop where
 a:CB w aw.next [.str nm,av]
 b:Bt S w v 3 out.length (O0 out)
 s:∀x,S x→aw.next<x∧x<w.next
 f:Frm (fun _=>False) aw w
 may:∀t∈out,TkPr t
 len:out.length≤6
theorem FcW.step {aw:AW}{nm:List Nat}{av v:V}{S:Fw}{out:List Tk}{w w':AW}(h:FcW aw nm av v S out w)(hf:Frm (fun _=>False) w w'):FcW aw nm av v S out w':=
 ⟨h.a.frm hf fun h=>h,h.b.frm hf fun _ _ h=>h,fun x hx=>⟨(h.s x hx).1,FK (h.s x hx).2 hf.next⟩,h.f.tr hf,h.may,h.len⟩
theorem Jt6 (l:List Tk):(O0 l).length=l.length*3:=by
 induction l with
 | nil=>rfl
 | cons x l ih=>show (tkC x++O0 l).length=_;rw[FE,ih,FC];show 3+_=_;omega
end
section
open Go.AE Delphi
variable {tab:Tab}
theorem Tk.ext' {a b:Tk}(h1:a.k=b.k)(h2:a.s=b.s)(h3:a.n=b.n):a=b:=by
 cases a;cases b;simp only at h1 h2 h3;subst h1;subst h2;subst h3;rfl
instance tkDec:DecidableEq Tk:=fun a b =>
 if h:a.k=b.k∧a.s=b.s∧a.n=b.n then isTrue (Tk.ext' h.1 h.2.1 h.2.2) else isFalse fun e=>h (by rw [e];exact ⟨rfl,rfl,rfl⟩)
theorem Eo (a b:Tk):OO a b=decide (a=b):=by
 unfold OO;by_cases h:a=b
 ·subst h;simp[Jnf]
 ·rw[decide_eq_false h];cases h1:(a.k==b.k)with
  | false=>rfl
  | true=>cases h2:eqL a.s b.s with
   | false=>rfl
   | true=>cases h3:(a.n==b.n)with
    | false=>rfl
    | true=>exact absurd (Tk.ext' (eq_of_beq h1) (eqL_iff.1 h2) (eq_of_beq h3)) h
def tkV (t:Tk):V:=.agg (tkC t)
def Ae (n:Nat):V:=.int .i64 (Fq n)
theorem Juj:KeyE (.cells [.int,.str,.int]) tkV:=⟨fun a b=>by
 show TR _ (tkC a) (tkC b)=_;rw[←Eo];simp only[tkC,TR,Cg,OO,if_true];cases (a.k==b.k)<;>cases eqL a.s b.s<;>cases (a.n==b.n)<;>rfl,fun _=>rfl⟩
def Bl:Nat→List Tk→List (Tk×Nat)
 | _,[]=>[]
 | k,c::r=>(c,k)::Bl (k+1) r
theorem Jl8:∀(l:List Tk) (k:Nat) (c:Tk),Bl k (l++[c])=Bl k l++[(c,k+l.length)]
 | [],k,c=>rfl
 | x::l,k,c=>by
  simp only[List.cons_append,Bl,Jl8 l (k+1) c,FC]
  congr 3;simp;omega
theorem aget_app {l m:List (Tk×Nat)}{c:Tk}:K8 (l++m) c=match K8 l c with|some v=>some v|none=>K8 m c:=by
 induction l with
 | nil=>rfl
 | cons x l ih =>
  obtain⟨a,b⟩:=x;simp only[List.cons_append,K8];by_cases h:c=a
  ·simp[h]
  ·simp only[if_neg h,ih]
theorem aget_numF:∀{l:List Tk} {k:Nat} {c:Tk},(K8 (Bl k l) c=none↔c∉l)
 | [],k,c=>by simp[Bl,K8]
 | x::l,k,c=>by
  simp only[Bl,K8];by_cases h:c=x
  ·simp[h]
  ·rw[if_neg h,aget_numF];simp[h]
def Bg (l:List Tk) (c:Tk):Nat:=(K8 (Bl 1 l) c).getD 0
theorem MU {l:List Tk}{c:Tk}(h:c∈l):K8 (Bl 1 l) c=some (Bg l c):=by
 unfold Bg;cases hx:K8 (Bl 1 l) c with
 | none=>exact absurd h (aget_numF.1 hx)
 | some v=>rfl
structure TabW (tb mb:Nat) (v:V) (S:Fw) (ts:List Tk) (w:AW):Prop where
 a:CB w tb [.map mb,v]
 m:MB tkV Ae w mb (Bl 1 ts)
 b:Bt S w v 3 ts.length (O0 ts)
 s:∀x,S x→x<w.next∧x≠tb∧x≠mb
 ne:mb≠tb
variable {tb mb:Nat} {v:V} {S:Fw} {ts:List Tk}
theorem TabW.step {T:Fw}{w w':AW}(h:TabW tb mb v S ts w)(hf:Frm T w w')(h1:¬T tb)(h2:¬T mb)(h3:∀x,S x→¬T x):TabW tb mb v S ts w':=
 ⟨h.a.frm hf h1,h.m.frm hf h2,h.b.frm hf h3,fun x hx=>⟨FK (h.s x hx).1 hf.next,(h.s x hx).2⟩,h.ne⟩
theorem TabW.step0 {w w':AW}(h:TabW tb mb v S ts w)(hf:Frm (fun _=>False) w w'):TabW tb mb v S ts w':=h.step hf (fun h=>h) (fun h=>h) fun _ _ h=>h
variable {aw:AW} {K:V→AW→Prop}
theorem new_ok (C:Codes tab)(h:∀w,TabW (aw.next+1) aw.next .nilslice (fun _=>False) [] w→Frm (fun _=>False) aw w→K (.ptr (aw.next+1) 0) w):WF tab VK [] aw K:=by
 refine Ld C.Y7 rfl ?_;have hm:=MB.new (ke:=tkV) (ve:=Ae) aw;have fm:=CY (S:=fun _=>False) aw;have n1:(aw.new (.map [] 0)).next=aw.next+1:=rfl;obtain⟨w1,e1,c1,r1,m1⟩:=Oe (aw.new (.map [] 0)) [.map aw.next,.nilslice];have hov:over [V.nilmap,V.nilslice] 0 [V.map aw.next]=some [V.map aw.next,V.nilslice]:=rfl;refine Fz (by simp only[go_sem,K5,Y6,Lg,Lj,hov,Lr,FZ,Am,e1,n1];rfl) ?_;refine K7 ⟨_,by simp only[go_sem,K5,Y6];rfl,?_⟩;rw[n1]at c1;subst e1;exact h _ ⟨c1,hm.frm r1 fun h=>h,.nil,fun _ h=>h.elim,by omega⟩ (fm.tr r1)
theorem len_ok (C:Codes tab)(hT:TabW tb mb v S ts aw)(h:K (.int .i64 (Fq ts.length)) aw):WF tab V2 [.ptr tb 0] aw K:=by
 refine Ld C.Vw rfl ?_;have l1:=CB.ld hT.a 1 1 _ rfl;have hlv:=hT.b.lenV;have hp:eqV .ptr (.ptr tb 0) .nilptr=some false:=rfl;refine Fz (by simp only[go_sem,K5,Vv,l1,hlv,hp];rfl) ?_;refine K7 ⟨_,by simp only[go_sem,K5,Vv];rfl,?_⟩;exact h
theorem JpI (C:Codes tab){i:Int}(hT:TabW tb mb v S ts aw)(hlen:ts.length≤100000)(hi : -100000≤i∧i≤100000)(h:∀w t,Frm (fun _=>False) aw w→(∀k:Nat,i=Fq (k+1)→k<ts.length→ts[k]? = some t)→(i<1∨i>Fq ts.length→t=⟨0,[],0⟩)→K (.agg (tkC t)) w):WF tab VS [.ptr tb 0,.int .i64 i] aw K:=by
 refine Ld C.XG rfl ?_;have hp:eqV .ptr (.ptr tb 0) .nilptr=some false:=rfl;obtain⟨w1,e1,c1,r1,m1⟩:=Oe aw [.int .i64 0,.str [],.int .i64 0];have hT1:=hT.step0 r1;have l1:=CB.ld hT1.a 1 1 _ rfl;have hlv:=hT1.b.lenV
 have fin:∀t:Tk,∃w2,w1.store aw.next 0 (tkC t)=some w2∧w2.load aw.next 0 3=some (tkC t)∧Frm (fun _=>False) aw w2:=fun t =>
  ⟨_,c1.setAll (vs:=tkC t) rfl rfl,(Oc (l:=tkC t) c1.lt).all (n:=3) rfl,r1.trans LW (fun _ _ h=>h) (by rintro x hx rfl;omega)⟩
 obtain⟨w2,s2,k2,f2⟩:=fin ⟨0,[],0⟩;have s2:w1.store aw.next 0 [.int .i64 0,.str [],.int .i64 0]=some w2:=s2;have k2:w2.load aw.next 0 3=some [.int .i64 0,.str [],.int .i64 0]:=k2;by_cases h1:i<1
 ·refine Fz (by simp only[go_sem,K5,JM,hp,e1,h1,Lg,Lj,over,Lr,FC,FD,s2];rfl) ?_;refine K7 ⟨_,by simp only[go_sem,K5,JM,k2];rfl,?_⟩;exact h w2 ⟨0,[],0⟩ f2 (fun k hk=>by rw[hk]at h1;have:((k+1:Nat):Int)<1:=h1;omega) fun _=>rfl
 by_cases h2:i>Fq ts.length
 ·refine Fz (by simp only[go_sem,K5,JM,hp,e1,h1,l1,hlv,h2,Lg,Lj,over,Lr,FC,FD,s2];rfl) ?_;refine K7 ⟨_,by simp only[go_sem,K5,JM,k2];rfl,?_⟩;exact h w2 ⟨0,[],0⟩ f2 (fun k hk hl=>by rw[hk]at h2;have:((k+1:Nat):Int)>(ts.length:Int):=h2;omega) fun _=>rfl
 obtain⟨k,rfl⟩:∃k:Nat,i=Fq (k+1):=⟨i.toNat-1,by show _=((i.toNat-1+1:Nat):Int);omega⟩;have hk:k<ts.length:=by have:¬(((k+1:Nat):Int)>(ts.length:Int)):=h2;omega
 have hwr:KZ .i64 (Fq (k+1)-1)=Fq k:=by
  rw[show Fq (k+1)-1=Fq k by show ((k+1:Nat):Int)-1=(k:Int);omega];exact Iw (by show (-9223372036854775808:Int)≤(k:Int);omega) (by show (k:Int)≤_;omega)
 obtain⟨t,ht⟩:∃t,ts[k]? = some t:=⟨_,FB hk⟩;obtain⟨b,o,c,rfl,hTb,hbl,a3⟩:=Di hT1.b.rd ht;obtain⟨w3,s3,k3,f3⟩:=fin t;refine Fz (by simp only[go_sem,K5,JM,hp,e1,h1,l1,hlv,h2,hwr,hk,a3,TE,s3];rfl) ?_;refine K7 ⟨_,by simp only[go_sem,K5,JM,k3];rfl,?_⟩;exact h w3 t f3 (fun k' hk' hl=>by have e:Fq (k+1)=Fq (k'+1):=hk';have:k+1=k'+1:=Int.ofNat.inj e;obtain rfl:k=k':=(by omega);exact ht) fun hc=>by rcases hc with hc|hc;exact absurd hc h1;exact absurd hc h2
end
section
open Go.AE Delphi
variable {tab:Tab}
theorem id_ok (C:Codes tab){tb mb:Nat}{v:V}{S:Fw}{ts:List Tk}{c:Tk}{aw:AW}{K:V→AW→Prop}(hT:TabW tb mb v S ts aw)(hlen:ts.length≤100000)(hc:TkOk c)(h0:Ll c=false→∀w,Frm (fun _=>False) aw w→K (.int .i64 0) w)(h1:Ll c=true→c∈ts→∀w,Frm (fun _=>False) aw w→K (.int .i64 (Fq (Bg ts c))) w)(h2:Ll c=true→c∉ts→∀w v' S',TabW tb mb v' S' (ts++[c]) w→Frm (fun x=>S x∨x=tb∨x=mb) aw w→(∀x,S' x→S x∨aw.next≤x)→K (.int .i64 (Fq (ts.length+1))) w):WF tab Ze [.ptr tb 0,.agg (tkC c)] aw K:=by
 refine Ld C.Xn rfl ?_;have hp:eqV .ptr (.ptr tb 0) .nilptr=some false:=rfl;obtain⟨w1,e1,c1,r1,m1⟩:=Oe aw (tkC c);have k1:=c1.all (n:=3) rfl;refine Fz (by simp only[go_sem,K5,Zr,hp,e1,k1];rfl) ?_;refine K9 Ff Fe ?_;refine Jwf C hc fun w2 g2=>?_;have c2:=c1.frm g2 fun h=>h;have k2:=c2.all (n:=3) rfl;have f2:=r1.tr g2;cases hm:Ll c with
 | false =>
  refine K6 1000 Fe ?_;refine K7 ⟨_,by simp only[go_sem,K5,Zr];rfl,?_⟩;exact h0 hm w2 f2
 | true =>
 have hT2:=hT.step0 f2;have l0:=CB.ld hT2.a 0 1 _ rfl;have l1:=CB.ld hT2.a 1 1 _ rfl;have hlook:w2.lookV (.cells [.int,.str,.int]) (.int .i64 0) (.map mb) (.agg (tkC c))=some (Dm Ae (.int .i64 0) (K8 (Bl 1 ts) c)):=hT2.m.look Juj (.int .i64 0) c;by_cases hin:c∈ts
 ·rw[MU hin]at hlook;have hlook:w2.lookV (.cells [.int,.str,.int]) (.int .i64 0) (.map mb) (.agg (tkC c))=some (.int .i64 (Fq (Bg ts c)),true):=hlook;refine Fz (by simp only[go_sem,K5,l0,k2,hlook];rfl) ?_;refine K7 ⟨_,by simp only[go_sem,K5,Zr];rfl,?_⟩;exact h1 hm hin w2 f2
 ·rw[aget_numF.2 hin]at hlook;have hlook:w2.lookV (.cells [.int,.str,.int]) (.int .i64 0) (.map mb) (.agg (tkC c))=some (.int .i64 0,false):=hlook;have g3:=LZ (S:=fun _=>False) w2 (tkC c);have hT3:=hT2.step0 g3;have l1':=CB.ld hT3.a 1 1 _ rfl;have hel:(w2.fresh (tkC c)).elems 3 (.slice w2.next 0 1 (.known 1))=some (1,tkC c):=Tj Fh rfl;have hov:over [V.int .i64 0,V.str [],V.int .i64 0] 0 (tkC c)=some (tkC c):=rfl;obtain⟨v',w4,S4,u1,u2,u3,u4⟩:=hT3.b.addN (news:=tkC c) (k:=1) (bytes:=32) Fh rfl rfl Fh Fh;have c4:=hT3.a.frm u3 fun h=>((hT3.s _ h).2.1 rfl).elim;have s4:w4.store tb 1 [v']=some (w4.put tb [.map mb,v']):=c4.set (i:=1) (v:=v') Fj u2.one.1;have c5:CB (w4.put tb [.map mb,v']) tb _:=Oc (l:=[V.map mb,v']) c4.lt;have f5:=LW (w:=w4) (b:=tb) (l:=[V.map mb,v']);refine Fz (by simp only[go_sem,K5,l0,k2,hlook,HV];rfl) ?_;refine Bo ?_;refine LU 100 (by simp only[go_sem,K5,l1,k2,TE,Lg,Lj,hov,FC,FD,hel,u1,s4,u2.one.2];rfl) ?_;refine O1 ⟨(show LF _ _ [(4,6)]from by simp only[go_sem,K5,LF,chk,List.reverse_cons,List.reverse_nil,O8,O6,O4,O5,List.getElem?_nil,false_or,or_true,or_false,exists_eq',FQ,Prod.mk.injEq,Bool.true_eq_false,FM,and_true,true_and,implies_true,l1,l1']),?_⟩;have hta:=hT.a.lt;have hma:=hT.m.lt;have hSn:∀x,S x→x<aw.next:=fun x hx=>(hT.s x hx).1;have ct:=(c2.frm g3 fun h=>h).frm u3 fun h=>by have:=hSn _ h;omega
  have ct:=ct.frm f5 Fh;have m5:=((hT3.m.frm u3 fun h=>((hT3.s _ h).2.2 rfl).elim).frm f5 hT.ne)
  have b5:Bt S4 (w4.put tb [.map mb,v']) v' 3 (ts.length+1) (O0 ts++tkC c):=u2.frm f5 fun x hx h=>by
   obtain⟨q1,q2⟩:=u4 x hx;rcases q2 with q2|q2
   ·exact (hT3.s x q2).2.1 h
   ·have n3:(w2.fresh (tkC c)).next=w2.next+1:=rfl;have:=f2.next;omega
  have r5:Frm (fun x=>S x∨x=tb∨x=mb) aw (w4.put tb [.map mb,v']) :=
   ((f2.tr g3).no.trans u3 (fun _ _ h=>h) fun x _ h=> .inl h).trans f5 (fun _ _ h=>h) fun x _ h=> .inr (.inl h)
  have n3:(w2.fresh (tkC c)).next=w2.next+1:=rfl;have n2:=f2.next;have n5:(w4.put tb [.map mb,v']).next=w4.next:=rfl;generalize w4.put tb [.map mb,v']=w5 at *;have j1:=CB.ld c5 1 1 _ rfl;have j0:=CB.ld c5 0 1 _ rfl;have hlv:=b5.lenV;have kt:=ct.all (n:=3) rfl;obtain⟨w6,p1,p2,p3,p4⟩:=m5.put Juj c (ts.length+1);have p1:w5.putV (.cells [.int,.str,.int]) (.map mb) (.agg (tkC c)) (.int .i64 (Fq (ts.length+1)))=some w6:=p1;refine Fz (by simp only[go_sem,K5,j1,j0,hlv,kt,p1];rfl) ?_;refine K7 ⟨_,by simp only[go_sem,K5,Zr];rfl,?_⟩;have hput:Ob (Bl 1 ts) c (ts.length+1)=Bl 1 (ts++[c]):=by rw[Md (aget_numF.2 hin),Jl8,KA 1]
  rw[hput]at p2;refine h2 hm hin w6 v' S4 ⟨c5.frm p3 (fun h=>hT.ne h.symm),p2,?_,fun x hx=>?_,hT.ne⟩ (r5.trans p3 (fun _ _ h=>h) fun x _ h=> .inr (.inr h)) fun x hx=>?_
  ·have:O0 (ts++[c])=O0 ts++tkC c:=by simp[O0]
   rw[this,FE]
   exact b5.frm p3 fun x hx h=>by
    obtain⟨q1,q2⟩:=u4 x hx;rcases q2 with q2|q2
    ·exact (hT3.s x q2).2.2 h
    ·omega
  ·obtain⟨q1,q2⟩:=u4 x hx;refine⟨by omega,?_⟩;rcases q2 with q2|q2
   ·exact (hT3.s x q2).2
   ·exact⟨by omega,by omega⟩
  ·rcases (u4 x hx).2 with q2|q2
   ·exact .inl q2
   ·exact .inr Fh
end
end Go.Proofs.YtegdcbdicpfbpaaGreatDoor.Val
namespace Go.Proofs.YtegdcbdicpfbpaaGreatDoor
open Go.AE Delphi Val
variable {tab:Tab}
section
variable {α β:Type} [DecidableEq α]
def Dl:List (α×β)→α→List (α×β)
 | [],_=>[]
 | (a,b)::l,k=>if k=a then l else (a,b)::Dl l k
variable {ke:α→V} {ve:β→V} {t:KeyTy}
theorem JlT (hk:KeyE t ke){k:α}:∀{M:List (α×β)} {es:List (V×V×Nat)} (i:Nat),All2 (EH ke ve) M es→∀v,K8 M k=some v→∃j n,BA t (ke k) es i=some (some (i+j,ve v,n))∧All2 (EH ke ve) (Dl M k) (es.eraseIdx j)
 | [],_,i,.nil=>fun v h=>by simp[K8]at h
 | (a,b)::M,(x,y,n)::es,i,.cons h1 h2=>by
  intro v hv;obtain⟨q1,q2⟩:=h1;simp only at q1 q2;subst q1;subst q2;by_cases h:k=a
  ·subst h;simp only[K8,if_true,FQ]at hv;subst hv;refine⟨0,n,by simp only[BA,hk.eq,decide_true,KF],?_⟩;simp only[Dl,if_true,List.eraseIdx_cons_zero];exact h2
  ·simp only[K8,if_neg h]at hv;obtain⟨j,m,s1,s2⟩:=JlT hk (k:=k) (i+1) h2 v hv;refine⟨j+1,m,?_,?_⟩
   ·simp only[BA,hk.eq,decide_eq_false h];rw[s1];congr 3;omega
   ·simp only[Dl,if_neg h,List.eraseIdx_cons_succ];exact .cons ⟨rfl,rfl⟩ s2
theorem Jwg (hk:KeyE t ke){w:AW}{b:Nat}{M:List (α×β)}{k:α}{v:β}(h:MB ke ve w b M)(hv:K8 M k=some v):∃es ck j n,w.entries (.map b)=some (some b,es,ck)∧BA t (ke k) es 0=some (some (j,ve v,n))∧MB ke ve (w.turn b (.map (es.eraseIdx j) ck)) b (Dl M k)∧Frm (fun x=>x=b) w (w.turn b (.map (es.eraseIdx j) ck)):=by
 obtain⟨es,ck,h1,h2⟩:=h.get;obtain⟨j,n,s1,s2⟩:=JlT hk 0 h2 v hv;rw[FV]at s1;exact⟨es,ck,j,n,by simp only[AW.entries,h1],s1,⟨h.lt,_,_,T.get_put_same,s2⟩,RV⟩
end
variable {K:V→AW→Prop}
theorem Jua (C:Codes tab){S:Fw}{p:V}{width:Nat}{rows:Fy}{aw:AW}(hs:Rel.SetOf S aw p width rows)(h:K (.int .i64 (Fq width)) aw):WF tab YQ [p] aw K:=by
 refine Ld C.Yx rfl ?_;obtain⟨bp,lv,cs,S0,T,rfl,hs⟩:=hs;have hp:eqV .ptr (.ptr bp 0) .nilptr=some false:=rfl;have e0:=hs.load0;refine Fz (by simp only[go_sem,K5,ZJ,Gc,hp,e0];rfl) ?_;refine K7 ⟨_,by simp only[go_sem,K5,ZJ];rfl,?_⟩;exact h
theorem JoT (C:Codes tab){aw:AW}(h:K (.int .i64 (-1)) aw):WF tab YQ [.nilptr] aw K:=by
 refine Ld C.Yx rfl ?_;have hp:eqV .ptr .nilptr .nilptr=some true:=rfl;refine Fz (by simp only[go_sem,K5,ZJ,Gc,JaN,hp];rfl) ?_;refine K7 ⟨_,by simp only[go_sem,K5,ZJ];rfl,?_⟩;exact h
section
open Go.AE Delphi Val
variable {tab:Tab}
def idT (ts:List Tk) (c:Tk):Nat×List Tk:=if Ll c=true then (if c∈ts then (Bg ts c,ts)else (ts.length+1,ts++[c]))else (0,ts)
theorem Jln (ts:List Tk)(c:Tk):(idT ts c).2.length≤ts.length+1:=by
 unfold idT;split
 ·split
  ·simp only;omega
  ·simp
 ·simp only;omega
def Lm (M:List (List Nat×Int)) (nm:List Nat):Int:=(K8 M nm).getD 0
def Bz (M:List (List Nat×Int)) (s:List Int×List Tk) (x:Tm):List Int×List Tk:=if x.kind=1 then (s.1++[Lm M x.name],s.2)else (s.1++[Fq (idT s.2 (Lc x)).1],(idT s.2 (Lc x)).2)
def Lf (M:List (List Nat×Int)) (ts:List Tk) (l:List Tm):List Int×List Tk:=l.foldl (Bz M) ([],ts)
theorem Jmf (M:List (List Nat×Int))(ts:List Tk)(l:List Tm)(x:Tm):Lf M ts (l++[x])=Bz M (Lf M ts l) x:=by unfold Lf;rw[List.foldl_append];rfl
theorem Jn5 (M:List (List Nat×Int)):∀(l:List Tm) (s:List Int×List Tk),(l.foldl (Bz M) s).1.length=s.1.length+l.length∧(l.foldl (Bz M) s).2.length≤s.2.length+l.length
 | [],s=>⟨rfl,FH _⟩
 | x::l,s=>by
  obtain⟨h1,h2⟩:=Jn5 M l (Bz M s x);have:=Jln s.2 (Lc x)
  have e:(Bz M s x).1.length=s.1.length+1∧(Bz M s x).2.length≤s.2.length+1:=by
   unfold Bz;split
   ·simp
   ·exact⟨by simp,this⟩
  rw[Ku,h1,FC];constructor
  ·omega
  ·omega
theorem Aj (M:List (List Nat×Int))(ts:List Tk)(l:List Tm):(Lf M ts l).1.length=l.length∧(Lf M ts l).2.length≤ts.length+l.length:=by
 have:=Jn5 M l ([],ts);simpa[Lf]using this
variable {ts:List Tk}
theorem Nu (C:Codes tab){tb mb:Nat}{v:V}{S:Fw}{c:Tk}{aw:AW}(hT:TabW tb mb v S ts aw)(hlen:ts.length≤100000)(hc:TkOk c)(h:∀w v' S',TabW tb mb v' S' (idT ts c).2 w→Frm (fun x=>S x∨x=tb∨x=mb) aw w→(∀x,S' x→S x∨aw.next≤x)→K (.int .i64 (Fq (idT ts c).1)) w):WF tab Ze [.ptr tb 0,.agg (tkC c)] aw K:=by
 refine Val.id_ok C hT hlen hc ?_ ?_ ?_
 ·intro hm w g;have e:idT ts c=(0,ts):=if_neg (by rw[hm];simp);rw[e]at h;exact h w v S (hT.step0 g) (g.mono fun _ _ h=>h.elim) fun x hx=> .inl hx
 ·intro hm hmem w g;have e:idT ts c=(Bg ts c,ts):=by unfold idT;rw[if_pos hm,if_pos hmem]
  rw[e]at h;exact h w v S (hT.step0 g) (g.mono fun _ _ h=>h.elim) fun x hx=> .inl hx
 ·intro hm hmem w v' S' q1 q2 q3;have e:idT ts c=(ts.length+1,ts++[c]):=by unfold idT;rw[if_pos hm,if_neg hmem]
  rw[e]at h;exact h w v' S' q1 q2 q3
theorem JpF {α:Type}(a:List α)(x y:α)(b:List α):(a++x::b).set a.length y=a++y::b:=by
 rw[List.set_append_right _ _ (FH _),Nat.sub_self];rfl
theorem Jn6 (C:Codes tab){tb mb jb vb:Nat}{tv:V}{S O:Fw}{M:List (List Nat×Int)}{l:Lt}{xs cells:List V}{aw:AW}(hT:TabW tb mb tv S ts aw)(hO:∀x,O x→x<aw.next∧¬S x∧x≠tb∧x≠mb)(hj:CB aw jb cells)(hjO:O jb)(h4:Lr 1 (cells.drop 4)=some [.ptr tb 0])(h12:Lr 1 (cells.drop 12)=some [.map vb])(hM:SM aw vb M)(hvO:O vb)(hx:LtC O aw l xs)(hal:l.args.length≤10)(hok:∀t∈l.args,t.kind≠1→TkOk (Lc t))(hts:ts.length+l.args.length≤90000)(h:∀w v tv' S' R,Rel.RowV R w v (Lf M ts l.args).1→TabW tb mb tv' S' (Lf M ts l.args).2 w→Frm (fun x=>S x∨x=tb∨x=mb) aw w→(∀x,S' x→S x∨aw.next≤x)→(∀x,R x→aw.next≤x∧x<w.next∧¬S' x)→K v w):WF tab YK [.ptr jb 0,.agg xs] aw K:=by
 refine Ld C.Wv rfl ?_;obtain⟨xl,xo⟩:=hx.one;obtain⟨xv,rfl,hx⟩:=hx;obtain⟨w1,e1,c1,r1,m1⟩:=Oe aw [.int .i64 (Fq l.kind),.str l.name,xv];have a2:=CB.ld c1 2 1 _ rfl;have hxv:=hx.lenV
 have e2:(List.replicate l.args.length [V.int .i64 0]).flatten=List.replicate l.args.length (V.int .i64 0):=by
  induction l.args.length with
  | zero=>rfl
  | succ n ih=>rw[List.replicate_succ,List.flatten_cons,ih,List.replicate_succ];rfl
 obtain⟨w2,e3,c2,r2,m2⟩:=Oe w1 (List.replicate l.args.length (V.int .i64 0));have hc1:l.args.length≤70368744177664:=Fh;have hc2:l.args.length*8≤70368744177664:=Fh;have a2':=CB.ld (c1.frm r2 fun h=>h) 2 1 _ rfl;refine Fz (by simp only[go_sem,K5,Wu,Jar,e1,a2,a2',hxv,e2,e3,hc1,hc2,FH];rfl) ?_;have f02:=r1.tr r2;have n1:=r1.next
 refine LK (fun n f w=>∃i tv' S',f.get 0=some (.ptr jb 0)∧f.get 5=some (.slice w1.next 0 l.args.length (.known l.args.length))∧f.get 13=some xv∧f.get 14=some (.int .i64 (Fq l.args.length))∧f.get 15=some (.int .i64 (Fq i))∧TabW tb mb tv' S' (Lf M ts (l.args.take i)).2 w∧Frm (fun x=>S x∨x=tb∨x=mb) aw w∧(∀x,S' x→S x∨aw.next≤x)∧CB w w1.next (Rel.rowC (Lf M ts (l.args.take i)).1++List.replicate (l.args.length-i) (V.int .i64 0))∧¬S' w1.next∧i≤l.args.length∧n=l.args.length-i)
  (fun f w=>∃tv' S',f.get 5=some (.slice w1.next 0 l.args.length (.known l.args.length))∧TabW tb mb tv' S' (Lf M ts l.args).2 w∧Frm (fun x=>S x∨x=tb∨x=mb) aw w∧(∀x,S' x→S x∨aw.next≤x)∧CB w w1.next (Rel.rowC (Lf M ts l.args).1)∧¬S' w1.next) ?_ ?_ l.args.length
  ⟨0,tv,S,Fb,Fb,Fb,Fb,Fb,hT.step0 f02,f02.mono fun _ _ h=>h.elim,fun x hx=> .inl hx,c2,fun hs=>by have:=(hT.s _ hs).1;omega,Nat.zero_le _,rfl⟩
 ·rintro n f w ⟨i,tv',S',f0,f5,f13,f14,f15,hTw,g,hS',hc,hnS,hi,rfl⟩ ih out;by_cases hil:i<l.args.length
  case neg =>
   obtain rfl:i=l.args.length:=Fh;rw[List.take_length]at hTw hc;rw[Nat.sub_self,List.replicate_zero,Kc]at hc;refine Lb 1000 (by simp only[go_sem,Wt,f14,f15,hil];rfl) ?_;exact out _ _ _ ⟨tv',S',(Fg f5),hTw,g,hS',hc,hnS⟩ rfl
  obtain⟨t,ht⟩:∃t,l.args[i]? = some t:=⟨_,FB hil⟩;have hwr:KZ .i64 (Fq i+1)=Fq (i+1):=Lh Fh;have htk:=O7 ht
  have hOw:∀x,O x→¬(S x∨x=tb∨x=mb):=fun x hx h=>by
   obtain⟨_,h1,h2,h3⟩:=hO x hx;rcases h with h|h|h
   ·exact h1 h
   ·exact h2 h
   ·exact h3 h
  obtain⟨b,o,c,rfl,_,_,la,_⟩:=Ij (hx.frm g hOw) ht;have hjw:=hj.frm g (hOw jb hjO);have hMw:SM w vb M:=hM.frm g (hOw vb hvO);obtain⟨w3,s3,c3,r3,n3⟩:=Oj w (zs:=[V.int .i64 0,V.str [],V.int .i64 0]) (vs:=tmC t) rfl rfl;have k0:w3.load w.next 0 1=some [.int .i64 (Fq t.kind)]:=CB.ld c3 0 1 _ rfl;have k1:w3.load w.next 1 1=some [.str t.name]:=CB.ld c3 1 1 _ rfl;have k3:w3.load w.next 0 3=some (tmC t):=c3.all rfl;have j12:w3.load jb 12 1=some [.map vb]:=CB.ld (hjw.frm r3 fun h=>h) 12 1 _ h12;have look:=(hMw.frm r3 fun h=>h).look BB (.int .i64 0) t.name
  have hlk:w3.lookV (.scalar .str) (.int .i64 0) (.map vb) (.str t.name)=some (.int .i64 (Lm M t.name),(K8 M t.name).isSome):=by
   rw[look];unfold Lm;cases K8 M t.name<;>rfl
  have hc3:=hc.frm r3 fun h=>h;have hlen:=(Aj M ts (l.args.take i)).1;rw[FU,KD hi]at hlen;have hrl:(Rel.rowC (Lf M ts (l.args.take i)).1).length=i:=by unfold Rel.rowC;rw[F9,hlen]
  obtain⟨m,hm⟩:∃m,l.args.length-i=m+1:=⟨l.args.length-i-1,by omega⟩;have hm':l.args.length-(i+1)=m:=Fh;rw[hm,List.replicate_succ]at hc3;have st:=hc3.set (i:=i) (v:=.int .i64 (Lm M t.name)) (by rw[FE,hrl,FC];omega) rfl
  have sm:(Rel.rowC (Lf M ts (l.args.take i)).1++V.int .i64 0::List.replicate m (V.int .i64 0)).set i (.int .i64 (Lm M t.name))=Rel.rowC (Lf M ts (l.args.take i)).1++V.int .i64 (Lm M t.name)::List.replicate m (V.int .i64 0):=by
   have:=JpF (Rel.rowC (Lf M ts (l.args.take i)).1) (V.int .i64 0) (.int .i64 (Lm M t.name)) (List.replicate m (V.int .i64 0))
   rwa [hrl]at this
  rw[sm]at st;have c4:=Oc (l:=Rel.rowC (Lf M ts (l.args.take i)).1++V.int .i64 (Lm M t.name)::List.replicate m (V.int .i64 0)) hc3.lt;have fr4:Frm (fun x=>x=w1.next) w3 (w3.put w1.next (Rel.rowC (Lf M ts (l.args.take i)).1++V.int .i64 (Lm M t.name)::List.replicate m (V.int .i64 0))):=LW;obtain⟨w4,e4⟩:∃w4,w4=w3.put w1.next (Rel.rowC (Lf M ts (l.args.take i)).1++V.int .i64 (Lm M t.name)::List.replicate m (V.int .i64 0)):=⟨_,rfl⟩;rw[←e4]at st c4 fr4;have g0:=g.next;have n2:=r2.next;have hjn:jb≠w1.next:=by have:=(hO jb hjO).1;omega
  have htbn:tb≠w1.next:=by have:=hT.a.lt;omega
  have hmbn:mb≠w1.next:=by have:=hT.m.lt;omega
  have hT4:TabW tb mb tv' S' (Lf M ts (l.args.take i)).2 w4:=(hTw.step0 r3).step fr4 htbn hmbn fun x hx h=>by subst h;exact hnS hx
  have g4:Frm (fun x=>S x∨x=tb∨x=mb) aw w4:=(g.trans r3 (fun _ _ h=>h) fun _ _ h=>h.elim).trans fr4 (fun _ _ h=>h) fun x hx h=>by omega
  have k0':w4.load w.next 0 1=some [.int .i64 (Fq t.kind)]:=CB.ld (c3.frm fr4 (by have:=hc.lt;omega)) 0 1 _ rfl;have k3':w4.load w.next 0 3=some (tmC t):=(c3.frm fr4 (by have:=hc.lt;omega)).all rfl;by_cases hk:t.kind=1
  ·have e:Lf M ts (l.args.take (i+1))=((Lf M ts (l.args.take i)).1++[Lm M t.name],(Lf M ts (l.args.take i)).2):=by
    rw[htk,Jmf];exact if_pos hk
   rw[hk]at k0';have htl:(tmC t).length=3:=rfl;refine Fz (by simp only[go_sem,K5,Wt,U4,U3,f0,f5,f13,f14,f15,hil,la,htl,s3,k1,j12,hlk,FV,KC,FC,FD,st,k0',hwr];rfl) ?_;refine ih _ _ _ Fh ⟨i+1,tv',S',(Fg f0),(Fg f5),(Fg f13),(Fg f14),Fb,by rw[e];exact hT4,g4,hS',?_,hnS,by omega,rfl⟩;rw[e,hm'];have e5:Rel.rowC ((Lf M ts (l.args.take i)).1++[Lm M t.name])++List.replicate m (V.int .i64 0)=Rel.rowC (Lf M ts (l.args.take i)).1++V.int .i64 (Lm M t.name)::List.replicate m (V.int .i64 0):=by unfold Rel.rowC;rw[List.map_append,F6];rfl
   rw[e5];exact c4
  ·have e:Lf M ts (l.args.take (i+1))=((Lf M ts (l.args.take i)).1++[Fq (idT (Lf M ts (l.args.take i)).2 (Lc t)).1],(idT (Lf M ts (l.args.take i)).2 (Lc t)).2):=by
    rw[htk,Jmf];exact if_neg hk
   have htl:(tmC t).length=3:=rfl;have j4:w4.load jb 4 1=some [.ptr tb 0]:=CB.ld ((hjw.frm r3 fun h=>h).frm fr4 hjn) 4 1 _ h4;have htsl:=(Aj M ts (l.args.take i)).2;rw[FU,KD hi]at htsl;refine Fz (by simp only[go_sem,K5,Wt,U4,U3,Jaq,f0,f5,f13,f14,f15,hil,la,htl,s3,k1,j12,hlk,FV,KC,FC,FD,st,k0',hk,j4,k3'];rfl) ?_;refine K9 Ff Fe ?_;rw[Jso];refine Nu C hT4 Fh (hok t (FI ht) hk) fun w5 tv5 S5 q1 q2 q3=>?_
   have hw1n:¬(S' w1.next∨w1.next=tb∨w1.next=mb):=by
    rintro (h|h|h)
    ·exact hnS h
    ·exact htbn h.symm
    ·exact hmbn h.symm
   have c5:=c4.frm q2 hw1n;have n45:=q2.next;have st5:=c5.set (i:=i) (v:=.int .i64 (Fq (idT (Lf M ts (l.args.take i)).2 (Lc t)).1)) (by rw[FE,hrl,FC];omega) rfl
   have sm5:(Rel.rowC (Lf M ts (l.args.take i)).1++V.int .i64 (Lm M t.name)::List.replicate m (V.int .i64 0)).set i (.int .i64 (Fq (idT (Lf M ts (l.args.take i)).2 (Lc t)).1))=Rel.rowC (Lf M ts (l.args.take i)).1++V.int .i64 (Fq (idT (Lf M ts (l.args.take i)).2 (Lc t)).1)::List.replicate m (V.int .i64 0):=by
    have:=JpF (Rel.rowC (Lf M ts (l.args.take i)).1) (V.int .i64 (Lm M t.name)) (.int .i64 (Fq (idT (Lf M ts (l.args.take i)).2 (Lc t)).1)) (List.replicate m (V.int .i64 0))
    rwa [hrl]at this
   rw[sm5]at st5;have c6:=Oc (l:=Rel.rowC (Lf M ts (l.args.take i)).1++V.int .i64 (Fq (idT (Lf M ts (l.args.take i)).2 (Lc t)).1)::List.replicate m (V.int .i64 0)) c5.lt;have fr6:Frm (fun x=>x=w1.next) w5 (w5.put w1.next (Rel.rowC (Lf M ts (l.args.take i)).1++V.int .i64 (Fq (idT (Lf M ts (l.args.take i)).2 (Lc t)).1)::List.replicate m (V.int .i64 0))):=LW
   have hnS5:¬S5 w1.next:=fun h=>by
    rcases q3 _ h with h|h
    ·exact hnS h
    ·have:=c4.lt;omega
   refine Fz (by simp only[go_sem,K5,f5,f15,hil,FV,KC,FC,FD,st5,hwr];rfl) ?_;refine ih _ _ _ Fh ⟨i+1,tv5,S5,(Fg f0),(Fg f5),(Fg f13),(Fg f14),Fb,by rw[e];exact q1.step fr6 htbn hmbn fun x hx h=>by subst h;exact hnS5 hx,?_,?_,?_,hnS5,by omega,rfl⟩
   ·refine (g4.trans q2 (fun _ _ h=>h) fun x hx h=>?_).trans fr6 (fun _ _ h=>h) fun x hx h=>by omega
    rcases h with h|h|h
    ·exact (hS' x h).imp id fun h=>by omega
    ·exact .inr (.inl h)
    ·exact .inr (.inr h)
   ·intro x hx;rcases q3 x hx with h|h
    ·exact hS' x h
    ·exact .inr (by have:=g4.next;omega)
   ·rw[e,hm'];have e5:Rel.rowC ((Lf M ts (l.args.take i)).1++[Fq (idT (Lf M ts (l.args.take i)).2 (Lc t)).1])++List.replicate m (V.int .i64 0)=Rel.rowC (Lf M ts (l.args.take i)).1++V.int .i64 (Fq (idT (Lf M ts (l.args.take i)).2 (Lc t)).1)::List.replicate m (V.int .i64 0):=by unfold Rel.rowC;rw[List.map_append,F6];rfl
    rw[e5];exact c6
 ·rintro f w ⟨tv',S',f5,hTw,g,hS',hc,hnS⟩;refine Fz (by simp only[go_sem,K5,f5];rfl) ?_;refine K7 ⟨_,by simp only[go_sem,K5,Wu];rfl,?_⟩;refine h w _ tv' S' (fun x=>x=w1.next) (.blk rfl hc.lt hc.get (.inl rfl) (Aj M ts l.args).1) hTw g hS' ?_;rintro x rfl;exact⟨by omega,hc.lt,hnS⟩
end
section
open Go.AE Delphi Val
variable {tab:Tab}
variable {l:List Int}
theorem Dh {T:Fw}{w:AW}{v:V}(h:Rel.RowV T w v l){i:Nat}{n:Int}(hi:l[i]? = some n):∃b c,v = .slice b 0 l.length c∧w.load b (0+i*1) 1=some [.int .i64 n]:=by
 rcases h.inv with⟨_,rfl⟩|⟨b,c,rfl,_,hb,hx⟩
 ·simp at hi
 ·exact⟨b,c,rfl,Rel.row_load hx hi⟩
theorem M0 {T:Fw}{w:AW}{v:V}(h:Rel.RowV T w v l):lenV v=some l.length:=by
 rcases h.inv with⟨rfl,rfl⟩|⟨b,c,rfl,_⟩<;>rfl
abbrev Vm:=List (List Nat×Int)
def LB:List Tm→List Int→Vm→Fx→(Vm×List (List Nat))×Bool
 | t::ts,n::ns,M,l2=>if t.kind≠1 then LB ts ns M l2 else match K8 M t.name with
  | some k=>if k=n then LB ts ns M l2 else ((M,l2),false)
  | none=>LB ts ns (Ob M t.name n) (l2++[t.name])
 | _,_,M,l2=>((M,l2),true)
theorem Jsm (l:Fx)(s:List Nat):LY (l++[s])=LY l++[.str s]:=by simp[LY]
theorem JuC (C:Codes tab){jb vb:Nat}{O R:Fw}{M:Vm}{l:Lt}{row:List Int}{xs cells:List V}{rv:V}{aw:AW}(hj:CB aw jb cells)(hjv:jb≠vb)(h12:Lr 1 (cells.drop 12)=some [.map vb])(hM:SM aw vb M)(hx:LtC O aw l xs)(hO:∀x,O x→x≠vb)(hr:Rel.RowV R aw rv row)(hR:∀x,R x→x≠vb)(hal:l.args.length≤10)(hrl:row.length=l.args.length)(h:∀w v S M' l2 ok,LB l.args row M []=((M',l2),ok)→SM w vb M'→Bt S w v 1 l2.length (LY l2)→Frm (fun x=>x=vb) aw w→(∀x,S x→aw.next≤x∧x<w.next)→K (.tuple [v,.bool ok]) w):WF tab GP [.ptr jb 0,.agg xs,rv] aw K:=by
 refine Ld C.WA rfl ?_;obtain⟨xl,xo⟩:=hx.one;obtain⟨xv,rfl,hx⟩:=hx;obtain⟨w1,e1,c1,r1,m1⟩:=Oe aw [.int .i64 (Fq l.kind),.str l.name,xv];have a2:=CB.ld c1 2 1 _ rfl;have hxv:=hx.lenV;have hrv:=M0 hr;have hvl:=hM.lt;refine Fz (by simp only[go_sem,K5,Ys,Jay,e1,a2,hxv];rfl) ?_
 refine LK (fun n f w=>∃i v S M' l2,f.get 0=some (.ptr jb 0)∧f.get 2=some rv∧f.get 8=some v∧f.get 14=some xv∧f.get 15=some (.int .i64 (Fq l.args.length))∧f.get 16=some (.int .i64 (Fq i))∧SM w vb M'∧Bt S w v 1 l2.length (LY l2)∧Frm (fun x=>x=vb) aw w∧(∀x,S x→aw.next≤x∧x<w.next)∧LB l.args row M []=LB (l.args.drop i) (row.drop i) M' l2∧l2.length≤i∧i≤l.args.length∧n=l.args.length-i)
  (fun f w=>∃v S M' l2,f.get 8=some v∧SM w vb M'∧Bt S w v 1 l2.length (LY l2)∧Frm (fun x=>x=vb) aw w∧(∀x,S x→aw.next≤x∧x<w.next)∧LB l.args row M []=((M',l2),true)) ?_ ?_ l.args.length
  ⟨0,.nilslice,fun _=>False,M,[],Fb,Fb,Fb,Fb,Fb,Fb,hM.frm r1 fun h=>h,.nil,r1.mono fun _ _ h=>h.elim,fun _ h=>h.elim,rfl,Nat.zero_le _,Nat.zero_le _,rfl⟩
 ·rintro n f w ⟨i,v,S,M',l2,f0,f2,f8,f14,f15,f16,hMw,hB,g,hS,hL,hl2,hi,rfl⟩ ih out;by_cases hil:i<l.args.length
  case neg =>
   obtain rfl:i=l.args.length:=Fh;rw[List.drop_length]at hL;have hL:LB l.args row M []=((M',l2),true):=by rw[hL];cases row.drop l.args.length<;>rfl
   refine Lb 1000 (by simp only[go_sem,ZH,f15,f16,hil];rfl) ?_;exact out _ _ _ ⟨v,S,M',l2,(Fg f8),hMw,hB,g,hS,hL⟩ rfl
  have hir:i<row.length:=Fh;obtain⟨t,ht⟩:∃t,l.args[i]? = some t:=⟨_,FB hil⟩;obtain⟨u,hu⟩:∃t,row[i]? = some t:=⟨_,FB hir⟩;have hda:l.args.drop i=t::l.args.drop (i+1):=by rw[FL hil];rw[FB hil]at ht;cases ht;rfl
  have hdb:row.drop i=u::row.drop (i+1):=by rw[FL hir];rw[FB hir]at hu;cases hu;rfl
  rw[hda,hdb]at hL;have hwr:KZ .i64 (Fq i+1)=Fq (i+1):=Lh Fh;have hxw:=hx.frm g hO;have hrw:=hr.frm g hR;obtain⟨b,o,c,rfl,_,_,la,_⟩:=Ij hxw ht;obtain⟨w3,s3,c3,r3,n3⟩:=Oj w (zs:=[V.int .i64 0,V.str [],V.int .i64 0]) (vs:=tmC t) rfl rfl;have k0:w3.load w.next 0 1=some [.int .i64 (Fq t.kind)]:=CB.ld c3 0 1 _ rfl;have k1:w3.load w.next 1 1=some [.str t.name]:=CB.ld c3 1 1 _ rfl;have htl:(tmC t).length=3:=rfl;have g3:Frm (fun x=>x=vb) aw w3:=g.trans r3 (fun _ _ h=>h) fun _ _ h=>h.elim;have hM3:SM w3 vb M':=hMw.frm r3 fun h=>h;have hB3:=hB.frm r3 fun _ _ h=>h;have g0:=g.next;have n3':=r3.next;have hS3:∀x,S x→aw.next≤x∧x<w3.next:=fun x hx=>⟨(hS x hx).1,by have:=(hS x hx).2;omega⟩;by_cases hk:t.kind=1
  case neg =>
   have hL:LB l.args row M []=LB (l.args.drop (i+1)) (row.drop (i+1)) M' l2:=by rw[hL];exact if_pos hk
   refine Fz (by simp only[go_sem,K5,ZH,Yr,f14,f15,f16,hil,la,htl,s3,k0,hk,hwr];rfl) ?_;exact ih _ _ _ Fh ⟨i+1,v,S,M',l2,(Fg f0),(Fg f2),(Fg f8),(Fg f14),(Fg f15),Fb,hM3,hB3,g3,hS3,hL,by omega,by omega,rfl⟩
  rw[hk]at k0
  have hL:LB l.args row M []=(match K8 M' t.name with
   | some k=>if k=u then LB (l.args.drop (i+1)) (row.drop (i+1)) M' l2 else ((M',l2),false)
   | none=>LB (l.args.drop (i+1)) (row.drop (i+1)) (Ob M' t.name u) (l2++[t.name])):=by rw[hL];exact if_neg fun h=>h hk
  have j12:w3.load jb 12 1=some [.map vb]:=CB.ld ((hj.frm g hjv).frm r3 fun h=>h) 12 1 _ h12;have look:=hM3.look BB (.int .i64 0) t.name;obtain⟨rb,rc,rfl,lr⟩:=Dh (hrw.frm r3 fun _ _ h=>h) hu;cases hag:K8 M' t.name with
  | some k =>
   rw[hag]at look hL;have look:w3.lookV (.scalar .str) (.int .i64 0) (.map vb) (.str t.name)=some (.int .i64 k,true):=look;by_cases hku:k=u
   ·have hku':(k != u)=false:=by simp[hku]
    have hL:LB l.args row M []=LB (l.args.drop (i+1)) (row.drop (i+1)) M' l2:=by rw[hL];exact if_pos hku
    refine Fz (by simp only[go_sem,K5,ZH,Yr,Wz,Wy,f0,f2,f14,f15,f16,hil,hir,la,htl,s3,k0,k1,j12,look,lr,hku',hwr];rfl) ?_;exact ih _ _ _ Fh ⟨i+1,v,S,M',l2,(Fg f0),(Fg f2),(Fg f8),(Fg f14),(Fg f15),Fb,hM3,hB3,g3,hS3,hL,by omega,by omega,rfl⟩
   ·have hku':(k != u)=true:=by simp[hku]
    have hL:LB l.args row M []=((M',l2),false):=by rw[hL];exact if_neg hku
    refine Fz (by simp only[go_sem,K5,ZH,Yr,Wz,Wy,Jav,f0,f2,f8,f14,f15,f16,hil,hir,la,htl,s3,k0,k1,j12,look,lr,hku'];rfl) ?_;refine K7 ⟨_,by simp only[go_sem,K5,Ys];rfl,?_⟩;exact h w3 v S M' l2 false hL hM3 hB3 g3 hS3
  | none =>
   rw[hag]at look hL;have look:w3.lookV (.scalar .str) (.int .i64 0) (.map vb) (.str t.name)=some (.int .i64 0,false):=look;have hL:LB l.args row M []=LB (l.args.drop (i+1)) (row.drop (i+1)) (Ob M' t.name u) (l2++[t.name]):=hL;obtain⟨w4,p1,p2,p3,p4⟩:=hM3.put BB t.name u;have hvb4:w.next≠vb:=Fh;have k1':w4.load w.next 1 1=some [.str t.name]:=CB.ld (c3.frm p3 hvb4) 1 1 _ rfl;have hB4:=hB3.frm p3 fun x hx h=>by have:=(hS x hx).1;omega
   obtain⟨v',w5,S5,u1,u2,u3,u4⟩:=hB4.push (news:=[V.str t.name]) (bytes:=16) (fun b hb=>by have:=(hS3 b hb).2;omega) Fh rfl rfl Fh Fh;have hel:(w4.fresh [V.str t.name]).elems 1 (.slice w4.next 0 1 (.known 1))=some (1,[V.str t.name]):=Tj Fh rfl;have hov:over [V.str []] 0 [V.str t.name]=some [V.str t.name]:=rfl;refine Fz (by simp only[go_sem,K5,ZH,Yr,Wz,Wy,Jax,Jaw,f0,f2,f8,f14,f15,f16,hil,hir,la,htl,s3,k0,k1,j12,look,lr,p1,k1',Lg,Lj,hov,FC,FD,hel,u1,hwr];rfl) ?_;have n5:=u3.next;refine ih _ _ _ Fh ⟨i+1,v',S5,Ob M' t.name u,l2++[t.name],(Fg f0),(Fg f2),Fb,(Fg f14),(Fg f15),Fb,p2.frm u3 fun h=>by have:=(hS _ h).1;omega,by rw[Jsm,FE];exact u2,(g3.trans p3 (fun _ _ h=>h) fun _ _ h=>h).trans u3 (fun _ _ h=>h) (fun x hx h=>by have:=(hS x h).1;omega),fun x hx=>?_,hL,by rw[FE];simp;omega,by omega,rfl⟩;refine⟨?_,(u4 x hx).1⟩;rcases (u4 x hx).2 with h|h
   ·exact (hS x h).1
   ·omega
 ·rintro f w ⟨v,S,M',l2,f8,hMw,hB,g,hS,hL⟩;refine Fz (by simp only[go_sem,K5,f8];rfl) ?_;refine K7 ⟨_,by simp only[go_sem,K5,Ys];rfl,?_⟩;exact h w v S M' l2 true hL hMw hB g hS
end
section
open Go.AE Delphi Val
variable {tab:Tab}
end
end Go.Proofs.YtegdcbdicpfbpaaGreatDoor
namespace Delphi
theorem Jhx {p:Nat→Bool}(l:List Nat):l.take (l.takeWhile p).length=l.takeWhile p:=by
 have:=(List.takeWhile_prefix (p:=p) (l:=l));exact (List.prefix_iff_eq_take.1 this).symm
def JvG (w:Wd):Prop:=∃u,(LA u).2≠0∧w.kind=(LA u).1∧w.text=u.take (LA u).2∧¬((LA u).1≠4∧16<(LA u).2)
theorem Jlb:∀(n at':Nat) (s:List Nat),s.length≤n→∀w∈(scan at' s).1,JvG w
 | n,at',s,hn=>by
  rw[Ex];split
  ·intro w hw;simp at hw
  ·rename_i c t hd;split
   ·intro w hw;simp at hw
   ·rename_i hbad;have hb:=Da false s;have hlen:(c::t).length=s.length-blk false s:=by rw[←hd];simp
    have hm:(LA (c::t)).2≠0:=fun he=>hbad (.inl he);have hl2:((c::t).drop (LA (c::t)).2).length<s.length:=by simp only[Ki,FC]at *;omega
    intro w hw;rcases List.mem_cons.1 hw with rfl|hw
    ·exact⟨c::t,hm,rfl,rfl,fun h=>hbad (.inr h)⟩
    ·match n,hn with
     | 0,hn=>simp only[FC]at hlen;omega
     | n+1,hn=>exact Jlb n _ _ Fh w hw
section
def Gap (g:List Nat):Prop:=∀(r:List Nat),blk false (g++r)=g.length+blk false r
theorem Gap.scan {g:List Nat}(h:Gap g)(n:Nat)(r:List Nat):scan n (g++r)=scan (n+g.length) r:=by
 have:=Jmg n (g++r) g.length (by rw[List.drop_left];exact h r);rw[List.drop_left]at this;exact this
structure Tok where
 gap:List Nat
 kind:Nat
 text:List Nat
def Tok.wd (t:Tok):Wd:=⟨t.kind,t.text,0⟩
def AP (s:List Nat):Prop:=∃c t,s=c::t∧Ir c=true∧(∀x∈s,OH x=true)∧s.length≤16
def Jwr (s:List Nat):Prop:=∃c t,s=c::t∧Db c=true∧(∀x∈s,BV x=true)∧s.length≤16
def Jv0 (s:List Nat):Prop:=s.length≤16∧((s=[48])∨∃m c t,s=m++c::t∧(m=[]∨m=[45])∧LX c=true∧c≠48∧∀x∈t,LX x=true)
end
section
end
section
variable (fm:Int→List Nat)
def At (ws:List Wd) (k:Nat) (l:List Wd):Prop:=l <+: ws.drop k
variable {ws l:List Wd}
theorem At.head {k:Nat}{w:Wd}(h:At ws k (w::l)):ws[k]? = some w∧At ws (k+1) l:=by
 obtain⟨r,hr⟩:=h
 have hlt:k<ws.length:=by
  have:=congrArg List.length hr;simp at this;omega
 rw[FL hlt]at hr;rw[List.cons_append]at hr;injection hr with h1 h2
 exact⟨by rw[FB hlt,h1],r,h2⟩
theorem At.le {k:Nat}(h:At ws k l)(hk:k≤ws.length):k+l.length≤ws.length:=by
 have:=h.length_le;rw[Ki]at this;omega
def JwT:Prop:=∀n:Int,n.natAbs≤2147483648→IK (fm n)=n.natAbs∧((fm n).head? = some 45↔n<0)
def TmW (t:Tm):Prop:=(t.kind=1∧t.num=0)∨(t.kind=2∧t.num=0)∨(t.kind=3∧t.name=[]∧t.num.natAbs≤2147483648)
structure LtW (l:Lt):Prop where
 kind:(l.kind=1∨l.kind=2)∨(3≤l.kind∧l.kind≤6∧l.args.length=2∧l.name=[])
 tm:∀t∈l.args,TmW t
variable {fm}
end
section
variable {fm:Int→List Nat}
def JwU (l:Lt):Prop:=l.args.length≤4
structure RlW (r:Rl):Prop where
 hk:r.head.kind=1
 ht:∀t∈r.head.args,TmW t
 bd:∀l∈r.body,LtW l
structure RlL (r:Rl):Prop where
 hd:r.head.args.length≤4
 bd:r.body.length≤6
 ls:∀l∈r.body,JwU l
theorem JqP {ws:List Wd}{q:Nat}{l:List Rl}{k e:Nat}(h:e≠0):BZ ws q l k e=(l,k,e):=by
 cases q with
 | zero=>rfl
 | succ q=>simp only[BZ];rw[if_neg (fun hh=>h hh.1)]
end
section
variable (fm:Int→List Nat)
variable {fm}
def TmX (fm:Int→List Nat) (t:Tm):Prop:=(t.kind=1→Jwr t.name)∧(t.kind=2→AP t.name)∧(t.kind=3→Jv0 (fm t.num))
structure LtX (fm:Int→List Nat) (l:Lt):Prop where
 w:LtW l
 nm:l.kind=1∨l.kind=2→AP l.name
 tm:∀t∈l.args,TmX fm t
structure RlX (fm:Int→List Nat) (r:Rl):Prop where
 w:RlW r
 nm:AP r.head.name
 tm:∀t∈r.head.args,TmX fm t
 bd:∀l∈r.body,LtX fm l
end
end Delphi
