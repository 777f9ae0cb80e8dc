/- A part of the proof. -/
import Derived.Test.YtegdcbdicpfbpaaGreatDoorJdJ
import Derived.Test.YtegdcbdicpfbpaaGreatDoorJdI
open Int renaming ofNat → Fq
open Go.IntKind renaming wrap → KZ
set_option linter.unusedVariables false
set_option linter.unusedSectionVars false
set_option linter.unusedSimpArgs false
namespace Go.AE
variable [Globs]
theorem JqQ:Oy [] = .tuple []:=rfl
attribute [go_sem] JqQ Nat.add_zero
theorem LK {tab:Tab}{id:Nat}{b:ACode}{s:List SI}{Q:Fr→AW→Prop}(I:Nat→Fr→AW→Prop)(J:Fr→AW→Prop)(step:∀n f w,I n f w→(∀n' f' w',n'<n→I n' f' w'→WS tab (.code (.loop b) :: .endB id::s) f' w' Q)→(∀s' f' w',J f' w'→TM id s'=some s→WS tab (.code (.exit id)::s') f' w' Q)→WS tab (.code b :: .code (.loop b) :: .endB id::s) f w Q)(after:∀f w,J f w→WS tab s f w Q)(n:Nat){fr:Fr}{aw:AW}(h:I n fr aw):WS tab (.code (.loop b) :: .endB id::s) fr aw Q:=
 Iq I (fun n f w hI ih=>step n f w hI ih fun s' f' w' hJ hp=>JoX hp (after f' w' hJ)) n h
def Al (T:Fw) (w:AW) (b:Nat) (sh:Share):Prop :=
 sh = .own∨sh = .lax∨sh = .ro∨∃f F,sh = .fam f∧T f∧f<w.next∧w.fams.get f=some F∧w.alive b sh=true
variable {T:Fw} {w:AW} {b:Nat} {sh:Share}
theorem Al.alive (h:Al T w b sh):w.alive b sh=true:=by
 rcases h with rfl|rfl|rfl|⟨f,F,rfl,h1,h2,h3,h4⟩
 ·rfl
 ·rfl
 ·rfl
 ·exact h4
variable {S:Fw} {w':AW}
theorem Al.frm (h:Al T w b sh)(hf:Frm S w w')(hd:∀x,T x→¬S x):Al T w' b sh:=by
 rcases h with rfl|rfl|rfl|⟨f,F,rfl,h1,h2,h3,h4⟩
 ·exact .inl rfl
 ·exact .inr (.inl rfl)
 ·exact .inr (.inr (.inl rfl))
 ·have e:=hf.fams f h2 (hd f h1);refine .inr (.inr (.inr ⟨f,F,rfl,h1,FK h2 hf.next,e.trans h3,?_⟩));simp only[AW.alive,h3,e.trans h3]at h4 ⊢;exact h4
variable {T':Fw}
theorem Al.mono (h:Al T w b sh)(ht:∀x,T x→T' x):Al T' w b sh:=by
 rcases h with rfl|rfl|rfl|⟨f,F,rfl,h1,h2⟩
 ·exact .inl rfl
 ·exact .inr (.inl rfl)
 ·exact .inr (.inr (.inl rfl))
 ·exact .inr (.inr (.inr ⟨f,F,rfl,ht f h1,h2⟩))
def ED (esz n:Nat):Cap→Prop
 | .known k=>n≤k
 | .upTo z=>z=esz∨n=0
inductive Rd (T:Nat→Prop) (w:AW):V→Nat→Nat→List V→Prop
 | nil {esz:Nat}:Rd T w .nilslice esz 0 []
 | blk {b o n esz:Nat} {c:Cap} {l cs:List V} {sh:Share} (hT:T b) (hb:b<w.next) (hx:w.heap.get b=some (.cells l sh)) (ha:Al T w b sh) (hl:o+n*esz≤l.length) (hcs:cs=(l.drop o).take (n*esz)) (hc:ED esz n c):Rd T w (.slice b o n c) esz n cs
variable {v:V} {esz n:Nat} {cs:List V}
theorem Rd.len (h:Rd T w v esz n cs):cs.length=n*esz:=by
 cases h with
 | nil=>simp
 | blk hT hb hx ha hl hcs hc=>rw[hcs,FU,Ki];omega
theorem Rd.frm (h:Rd T w v esz n cs)(hf:Frm S w w')(hd:∀x,T x→¬S x):Rd T w' v esz n cs:=by
 cases h with
 | nil=>exact .nil
 | blk hT hb hx ha hl hcs hc=>exact .blk hT (FK hb hf.next) ((hf.heap _ hb (hd _ hT)).trans hx) (ha.frm hf hd) hl hcs hc
theorem Rd.mono (h:Rd T w v esz n cs)(ht:∀x,T x→T' x):Rd T' w v esz n cs:=by
 cases h with
 | nil=>exact .nil
 | blk hT hb hx ha hl hcs hc=>exact .blk (ht _ hT) hb hx (ha.mono ht) hl hcs hc
structure RdB (T:Fw) (w:AW) (b o n esz:Nat) (c:Cap) (cs:List V):Prop where
 own:T b
 lt:b<w.next
 fit:ED esz n c
 load:∀i k,i+k≤n*esz→w.load b (o+i) k=some ((cs.drop i).take k)
 get:∃l sh,w.heap.get b=some (.cells l sh)∧w.alive b sh=true
theorem Rd.inv (h:Rd T w v esz n cs):(v = .nilslice∧n=0∧cs=[])∨∃b o c,v = .slice b o n c∧RdB T w b o n esz c cs:=by
 cases h with
 | nil=>exact .inl ⟨rfl,rfl,rfl⟩
 | @blk b o _ _ c l _ sh hT hb hx ha hl hcs hc =>
  refine .inr ⟨b,o,c,rfl,⟨hT,hb,hc,fun i k hik=>?_,l,sh,hx,ha.alive⟩⟩;simp only[AW.load,hx,ha.alive];rw[Mm _ _ (by simp;omega),hcs]
  congr 1
  rw[List.drop_take,List.take_take,List.drop_drop,KD Fh]
theorem RdB.cell {o:Nat}{c:Cap}(h:RdB T w b o n esz c cs){i:Nat}{x:V}(hi:i<n*esz)(hx:cs[i]? = some x):w.load b (o+i) 1=some [x]:=by
 rw[h.load i 1 Fh];have hlt:i<cs.length:=(List.getElem?_eq_some_iff.1 hx).1;rw[FL hlt];rw[FB hlt]at hx;rw[FY hx];rfl
theorem Nj {α:Type}{r:α→List V→Prop}{sz:Nat}(hsz:∀a xs,r a xs→xs.length=sz):∀{l:List α} {xss:List (List V)},All2 r l xss→∀{i:Nat} {a:α},l[i]? = some a→∃xs,r a xs∧(xss.flatten.drop (i*sz)).take sz=xs
 | [],_,.nil,i,a,h=>by simp at h
 | x::l,y::m,.cons h1 h2,0,a,h=>by
  simp at h;subst h;refine⟨y,h1,?_⟩;rw[Nat.zero_mul,FZ,List.flatten_cons,←hsz _ _ h1,List.take_left'];rfl
 | x::l,y::m,.cons h1 h2,i+1,a,h=>by
  obtain⟨xs,q1,q2⟩:=Nj hsz h2 (i:=i) (a:=a) (by simpa using h);refine⟨xs,q1,?_⟩;have hy:=hsz _ _ h1;rw[List.flatten_cons,Nat.add_mul,Nat.one_mul,KA (i*sz),←List.drop_drop,←hy,List.drop_left' rfl,hy];exact q2
def RdL {α:Type} (r:AW→α→List V→Prop) (T:Fw) (w:AW) (v:V) (esz:Nat) (l:List α):Prop:=∃xss,Rd T w v esz l.length xss.flatten∧All2 (r w) l xss
variable {α:Type} {r:AW→α→List V→Prop}
theorem RdL.inv {l:List α}(h:RdL r T w v esz l)(hsz:∀a xs,r w a xs→xs.length=esz): (v = .nilslice∧l=[])∨∃b o c,v = .slice b o l.length c∧T b∧b<w.next∧ED esz l.length c∧∀i a,l[i]? = some a→∃xs,r w a xs∧∀j k,j+k≤esz→w.load b (o+i*esz+j) k=some ((xs.drop j).take k):=by
 obtain⟨xss,h1,h2⟩:=h;rcases h1.inv with⟨q1,q2,q3⟩|⟨b,o,c,rfl,hB⟩
 ·exact .inl ⟨q1,List.length_eq_zero_iff.1 q2⟩
 ·refine .inr ⟨b,o,c,rfl,hB.own,hB.lt,hB.fit,fun i a hi=>?_⟩;obtain⟨xs,q1,q2⟩:=Nj hsz h2 hi;refine⟨xs,q1,fun j k hjk=>?_⟩;have hlt:i<l.length:=(List.getElem?_eq_some_iff.1 hi).1;have hle:(i+1)*esz≤l.length*esz:=Nat.mul_le_mul_right _ hlt;rw[Nat.add_mul,Nat.one_mul]at hle;rw[Kj,hB.load (i*esz+j) k Fh,←q2,List.drop_take,List.take_take,KD Fh,List.drop_drop]
theorem RdL.frm {l:List α}(h:RdL r T w v esz l)(hr:∀a xs,r w a xs→r w' a xs)(hf:Frm S w w')(hd:∀x,T x→¬S x):RdL r T w' v esz l:=by
 obtain⟨xss,h1,h2⟩:=h;exact⟨xss,h1.frm hf hd,h2.imp hr⟩
theorem RdL.mono {r':AW→α→List V→Prop}{l:List α}(h:RdL r T w v esz l)(hr:∀a xs,r w a xs→r' w a xs)(ht:∀x,T x→T' x):RdL r' T' w v esz l:=by
 obtain⟨xss,h1,h2⟩:=h;exact⟨xss,h1.mono ht,h2.imp hr⟩
theorem Buf.rd (h:Buf S w v esz n cs):Rd S w v esz n cs:=by
 cases h with
 | nil=>exact .nil
 | @blk b _ _ r _ rest sh hS hb hx hl hr he hn hs =>
  refine .blk hS hb hx ?_ (by rw[FE,hl];omega) (by rw[FZ,List.take_append_of_le_length Fh,FX Fh]) (.inl rfl);rcases hs with rfl|rfl|⟨f,F,rfl,h1,h2,h3,h4,h6,h5⟩
  ·exact .inl rfl
  ·exact .inr (.inl rfl)
  ·exact .inr (.inr (.inr ⟨f,F,rfl,h1,h2,h3,h5⟩))
theorem Own.rd {N:Nat}(h:Own N w v esz n cs):Rd (fun b=>N≤b∧b<w.next) w v esz n cs:=by
 cases h with
 | nil=>exact .nil
 | @blk b _ _ _ sh hN hb hx hl he hn hs =>
  refine .blk ⟨hN,hb⟩ hb hx ?_ Fh (by rw[FZ,FX Fh]) (.inl rfl);rcases hs with rfl|rfl|⟨f,F,rfl,h1,h2,h3,h4,h6,h5⟩
  ·exact .inl rfl
  ·exact .inr (.inl rfl)
  ·exact .inr (.inr (.inr ⟨f,F,rfl,⟨h1,h2⟩,h2,h3,h5⟩))
theorem Rd.elems (h:Rd T w v esz n cs):w.elems esz v=some (n,cs):=by
 have hlen:=h.len;rcases h.inv with⟨rfl,rfl,rfl⟩|⟨b,o,c,rfl,hB⟩
 ·rfl
 ·cases n with
  | zero =>
   have:cs=[]:=List.length_eq_zero_iff.1 Fh;subst this;rfl
  | succ n =>
   have:=hB.load 0 ((n+1)*esz) Fh;rw[KF,FZ,FX Fh]at this;simp only[AW.elems,this]
theorem Rd.lenV (h:Rd T w v esz n cs):lenV v=some n:=by cases h<;>rfl
theorem Buf.lenV (h:Buf S w v esz n cs):lenV v=some n:=by cases h<;>rfl
structure CB (w:AW) (b:Nat) (l:List V):Prop where
 lt:b<w.next
 get:w.heap.get b=some (.cells l .own)
variable {l:List V}
theorem CB.frm (h:CB w b l)(hf:Frm S w w')(hn:¬S b):CB w' b l:=⟨FK h.lt hf.next,(hf.heap b h.lt hn).trans h.get⟩
theorem CB.load (h:CB w b l)(o n:Nat):w.load b o n=Lr n (l.drop o):=by simp only[AW.load,h.get];rfl
theorem CB.all (h:CB w b l)(hn:l.length=n):w.load b 0 n=some l:=by rw[h.load,FZ];exact En _ _ hn
def AW.put (w:AW) (b:Nat) (l:List V):AW:=w.turn b (.cells l .own)
theorem CB.set {i:Nat}(h:CB w b l)(hi:i<l.length)(hv:v.one=true):w.store b i [v]=some (w.put b (l.set i v)):=Qj h.get hi hv
variable {vs:List V}
theorem CB.setAll (h:CB w b l)(hl:l.length=vs.length)(h1:Lv vs=true):w.store b 0 vs=some (w.put b vs):=by
 have:over l 0 vs=some vs:=by
  have:=CZ [] l [] vs hl.symm;simpa using this
 exact Em h.get (.inl rfl:Shr (fun _=>True) w b .own) h1 this
theorem Oc (h:b<w.next):CB (w.put b l) b l:=⟨h,T.get_put_same⟩
theorem LW:Frm (fun x=>x=b) w (w.put b l):=IB (sh:=.own) rfl (.inl rfl)
theorem JnZ:(w.put b l).next=w.next:=rfl
theorem OQ (w:AW)(l:List V):CB (w.fresh l) w.next l:=⟨FW _,T.get_put_same⟩
theorem LZ (w:AW)(l:List V):Frm S w (w.fresh l):=Frm.new w _
theorem Oj (w:AW){zs:List V}(hl:zs.length=vs.length)(h1:Lv vs=true):∃w2,(w.fresh zs).store w.next 0 vs=some w2∧CB w2 w.next vs∧Frm (fun _=>False) w w2∧w2.next=w.next+1:=by
 refine⟨_,(OQ w zs).setAll hl h1,Oc (FW _),?_,rfl⟩;refine (LZ (S:=fun _=>False) w zs).trans (T:=fun b=>b=w.next) LW (fun _ _ h=>h) ?_;rintro y hy rfl;omega
theorem Frm.out {w1 w2:AW}(h:Frm S w w1)(hb:w.next≤b)(h2:w2=w1.put b l):Frm S w w2:=by
 subst h2;refine h.trans (T:=fun x=>x=b) LW (fun _ _ h=>h) ?_;rintro x hx rfl;omega
theorem Frm.tr {a b c:AW}(h:Frm S a b)(h':Frm S b c):Frm S a c:=h.trans h' (fun _ _ h=>h) fun _ _ h=>h
theorem Frm.no {a b:AW}(h:Frm (fun _=>False) a b):Frm S a b:=h.mono fun _ _ h=>h.elim
theorem All2.cells {r:α→List V→Prop}{l:List α}{xss:List (List V)}{a:α}{xs:List V}(h:All2 r l xss)(hx:r a xs):All2 r (l++[a]) (xss++[xs])∧(xss++[xs]).flatten=xss.flatten++xs:=⟨h.snoc hx,by simp⟩
end Go.AE
set_option maxRecDepth 10000
namespace Go.Proofs.YtegdcbdicpfbpaaGreatDoor
open Go.AE Delphi
variable {tab:Tab}
structure PSt (w:AW) (bp:Nat) (wv:V) (k e:Nat):Prop where
 lt:bp<w.next
 get:w.heap.get bp=some (.cells [wv,.int .i64 (Fq k),.int .i64 (Fq e)] .own)
variable {w:AW} {bp k e:Nat} {wv:V}
theorem PSt.frm {S:Fw}{w':AW}(h:PSt w bp wv k e)(hf:Frm S w w')(hn:¬S bp):PSt w' bp wv k e:=⟨FK h.lt hf.next,(hf.heap bp h.lt hn).trans h.get⟩
theorem PSt.l0 (h:PSt w bp wv k e):w.load bp 0 1=some [wv]:=by simp only[AW.load,h.get];rfl
theorem PSt.l1 (h:PSt w bp wv k e):w.load bp 1 1=some [.int .i64 (Fq k)]:=by simp only[AW.load,h.get];rfl
theorem PSt.l2 (h:PSt w bp wv k e):w.load bp 2 1=some [.int .i64 (Fq e)]:=by simp only[AW.load,h.get];rfl
def PSt.mk' (w:AW) (bp:Nat) (wv:V) (k e:Nat):AW:=w.turn bp (.cells [wv,.int .i64 (Fq k),.int .i64 (Fq e)] .own)
theorem PSt.s1 (h:PSt w bp wv k e)(k':Nat):w.store bp 1 [.int .i64 (Fq k')]=some (PSt.mk' w bp wv k' e):=by
 have:=Qj (i:=1) (v:=.int .i64 (Fq k')) h.get Fj rfl;exact this
theorem PSt.made (h:bp<w.next):PSt (PSt.mk' w bp wv k e) bp wv k e:=⟨h,AE.T.get_put_same⟩
theorem PSt.made_frm:Frm (fun b=>b=bp) w (PSt.mk' w bp wv k e):=IB (sh:=.own) rfl (.inl rfl)
structure Wds (Tw:Fw) (w:AW) (bp:Nat) (wv:V) (ws:List Wd):Prop where
 rd:Rd Tw w wv 3 ws.length (DJ ws)
 no:¬Tw bp
 len:ws.length≤4000
variable {Tw:Fw} {ws:List Wd}
theorem Wds.frm {S:Fw}{w':AW}(h:Wds Tw w bp wv ws)(hf:Frm S w w')(hd:∀x,Tw x→¬S x):Wds Tw w' bp wv ws:=⟨h.rd.frm hf hd,h.no,h.len⟩
theorem JjO (w:Wd):(Sj w).length=3:=rfl
theorem Wds.at (h:Wds Tw w bp wv ws):(wv = .nilslice∧ws=[])∨∃b o c,wv = .slice b o ws.length c∧b≠bp∧b<w.next∧ ∀i x,ws[i]? = some x→w.load b (o+i*3) 1=some [.int .i64 (Fq x.kind)]∧w.load b (o+i*3+1) 1=some [.str x.text]∧w.load b (o+i*3) 3=some (Sj x):=by
 rcases h.rd.inv with⟨q1,q2,_⟩|⟨b,o,c,rfl,hB⟩
 ·exact .inl ⟨q1,List.length_eq_zero_iff.1 q2⟩
 ·refine .inr ⟨b,o,c,rfl,fun he=>h.no (he▸hB.own),hB.lt,fun i x hx=>?_⟩;have hlt:i<ws.length:=(List.getElem?_eq_some_iff.1 hx).1
  have part:∀j k,j+k≤3→w.load b (o+i*3+j) k=some (((Sj x).drop j).take k):=by
   intro j k hjk;have:=hB.load (i*3+j) k Fh;rw[Kj,this];have h2:=Dt JjO (i:=i) (j:=j) (k:=k) hx hjk;rw[FV]at h2;exact congrArg some h2
  exact⟨part 0 1 Fh,part 1 1 Fh,part 0 3 Fh⟩
variable {aw:AW} {K:V→AW→Prop}
theorem CE (C:Codes tab){x:Nat}(hp:PSt aw bp wv k e)(h:∀w,PSt w bp wv k (Bh e x)→Frm (fun b=>b=bp) aw w→w.next=aw.next→K (.tuple []) w):WF tab Js [.ptr bp 0,.int .i64 (Fq x)] aw K:=by
 refine Ld C.XN rfl ?_;have hg:=hp.get;by_cases he:e=0
 ·subst he;refine K6 1000 (by simp only[go_sem,K5,AW.load,AW.store,AW.alive,AW.fresh,AW.new,AW.turn,AW.kill,Lr,over,Lv,V.one,V.cells,Cj,Lj,Lg,FZ,List.drop_succ_cons,FC,FD,Nat.add_eq_left,Nat.left_eq_add,FV,Nat.one_ne_zero,Nat.add_right_cancel_iff,Nat.add_left_cancel_iff,Nat.succ_ne_self,List.head?_cons,if_true,if_false,Zy,hg];rfl) ?_;refine Su ⟨_,by simp only[go_sem,K5,Zy];rfl,?_⟩;exact h _ ⟨hp.lt,AE.T.get_put_same⟩ (IB (sh:=.own) rfl (.inl rfl)) rfl
 ·have:Bh e x=e:=if_neg he;rw[this]at h;refine K6 1000 (by simp only[go_sem,K5,AW.load,AW.store,AW.alive,AW.fresh,AW.new,AW.turn,AW.kill,Lr,over,Lv,V.one,V.cells,Cj,Lj,Lg,FZ,List.drop_succ_cons,FC,FD,Nat.add_eq_left,Nat.left_eq_add,FV,Nat.one_ne_zero,Nat.add_right_cancel_iff,Nat.add_left_cancel_iff,Nat.succ_ne_self,List.head?_cons,if_true,if_false,Zy,hg,he];rfl) ?_;refine Su ⟨_,by simp only[go_sem,K5,Zy];rfl,?_⟩;exact h _ hp (Frm.refl _) rfl
variable {s:List Nat}
theorem DI (C:Codes tab)(hp:PSt aw bp wv k e)(hw:Wds Tw aw bp wv ws)(h:K (.bool (OY ws k s)) aw):WF tab JK [.ptr bp 0,.str s] aw K:=by
 refine Ld C.XL rfl ?_;have hg:=hp.get;have l0:aw.load bp 0 1=some [wv]:=by simp only[AW.load,hg];rfl
 have l1:aw.load bp 1 1=some [.int .i64 (Fq k)]:=by simp only[AW.load,hg];rfl
 rcases hw.at with⟨rfl,rfl⟩|⟨b,o,c,rfl,hne,hlt,hat⟩
 ·have e1:¬k<0:=Fh;refine K6 1000 (by simp only[go_sem,K5,Jv,l0,l1,e1];rfl) ?_;refine K7 ⟨_,by simp only[go_sem,K5,Jv];rfl,?_⟩;exact h
 ·by_cases hk:k<ws.length
  ·have hx:ws[k]? = some ws[k]:=FB hk;obtain⟨a1,a2,_⟩:=hat k _ hx;unfold OY at h;rw[hx]at h;simp only at h;by_cases h4:ws[k].kind=4
   ·have hb:decide (ws[k].text=s)=eqL ws[k].text s:=by
     by_cases hh:ws[k].text=s
     ·rw[decide_eq_true hh];exact (eqL_iff.2 hh).symm
     ·rw[decide_eq_false hh];cases hc:eqL ws[k].text s with
      | false=>rfl
      | true=>exact absurd (eqL_iff.1 hc) hh
    rw[decide_eq_true h4,Bool.true_and,hb]at h;refine K6 1000 (by simp only[go_sem,K5,Jv,l0,l1,hk,a1,a2,h4,Oi];rfl) ?_;refine K7 ⟨_,by simp only[go_sem,K5,Jv];rfl,?_⟩;exact h
   ·rw[decide_eq_false h4,Bool.false_and]at h;refine K6 1000 (by simp only[go_sem,K5,Jv,l0,l1,hk,a1,h4];rfl) ?_;refine K7 ⟨_,by simp only[go_sem,K5,Jv];rfl,?_⟩;exact h
  ·have:OY ws k s=false:=by unfold OY;rw[List.getElem?_eq_none Fh]
   rw[this]at h;refine K6 1000 (by simp only[go_sem,K5,Jv,l0,l1,hk];rfl) ?_;refine K7 ⟨_,by simp only[go_sem,K5,Jv];rfl,?_⟩;exact h
theorem Jpt (C:Codes tab)(hp:PSt aw bp wv k e)(hw:Wds Tw aw bp wv ws)(hk:k≤4000)(h:∀w,PSt w bp wv (BQ ws s k e).1 (BQ ws s k e).2→Frm (fun b=>b=bp) aw w→w.next=aw.next→K (.tuple []) w):WF tab YG [.ptr bp 0,.str s] aw K:=by
 refine Ld C.XO rfl ?_;have hg:=hp.get;have l2:aw.load bp 2 1=some [.int .i64 (Fq e)]:=by simp only[AW.load,hg];rfl
 have l1:aw.load bp 1 1=some [.int .i64 (Fq k)]:=by simp only[AW.load,hg];rfl
 unfold BQ at h;by_cases he:e=0
 ·subst he;rw[if_pos rfl]at h;refine K6 1000 (by simp only[go_sem,K5,J6,l2];rfl) ?_;refine K9 (by simp only[go_sem,K5]) (by simp only[go_sem,K5];rfl) ?_;refine DI C hp hw ?_;cases hs:OY ws k s with
  | true =>
   rw[hs,if_pos rfl]at h;have hwr:KZ .i64 (Fq k+1)=Fq (k+1):=Lh Fh;refine K6 1000 (by simp only[go_sem,K5,AW.load,AW.store,AW.alive,AW.fresh,AW.new,AW.turn,AW.kill,Lr,over,Lv,V.one,V.cells,Cj,Lj,Lg,FZ,List.drop_succ_cons,FC,FD,Nat.add_eq_left,Nat.left_eq_add,FV,Nat.one_ne_zero,Nat.add_right_cancel_iff,Nat.add_left_cancel_iff,Nat.succ_ne_self,List.head?_cons,if_true,if_false,hg,hwr];rfl) ?_;refine Su ⟨_,by simp only[go_sem,K5,J6];rfl,?_⟩;exact h _ ⟨hp.lt,AE.T.get_put_same⟩ (IB (sh:=.own) rfl (.inl rfl)) rfl
  | false =>
   rw[hs,if_neg Fj]at h;refine K6 1000 (by simp only[go_sem,K5];rfl) ?_;refine K9 (by simp only[go_sem,K5]) (by simp only[go_sem,K5];rfl) ?_;refine CE C (x:=4) hp fun w q1 q2 q3=>?_;refine K6 1000 (by simp only[go_sem,K5];rfl) ?_;refine K7 ⟨_,by simp only[go_sem,K5,J6];rfl,?_⟩;exact h w q1 q2 q3
 ·rw[if_neg he]at h;refine K6 1000 (by simp only[go_sem,K5,J6,l2,he];rfl) ?_;refine K7 ⟨_,by simp only[go_sem,K5,J6];rfl,?_⟩;exact h _ hp (Frm.refl _) rfl
theorem Rs (C:Codes tab)(h:K (.int .i64 (Fq (TW s))) aw):WF tab YI [.str s] aw K:=by
 refine Ld C.We rfl ?_
 have eqd:∀g:List Nat,eqL s g=decide (s=g):=fun g=>by
  by_cases hh:s=g
  ·rw[decide_eq_true hh];exact eqL_iff.2 hh
  ·rw[decide_eq_false hh];cases hc:eqL s g with
   | false=>rfl
   | true=>exact absurd (eqL_iff.1 hc) hh
 unfold TW at h;by_cases h1:s=[61]
 ·rw[if_pos h1]at h;refine K6 1000 (by simp only[go_sem,K5,Jm,ZD,Oi,eqd,h1];rfl) ?_;refine K7 ⟨_,by simp only[go_sem,K5,Jm];rfl,?_⟩;exact h
 rw[if_neg h1]at h;by_cases h2:s=[33,61]
 ·rw[if_pos h2]at h;refine K6 1000 (by simp only[go_sem,K5,Jm,ZD,Oi,eqd,h1,h2];rfl) ?_;refine K7 ⟨_,by simp only[go_sem,K5,Jm];rfl,?_⟩;exact h
 rw[if_neg h2]at h;by_cases h3:s=[60]
 ·rw[if_pos h3]at h;refine K6 1000 (by simp only[go_sem,K5,Jm,ZD,Wc,Oi,eqd,h1,h2,h3];rfl) ?_;refine K7 ⟨_,by simp only[go_sem,K5,Jm];rfl,?_⟩;exact h
 rw[if_neg h3]at h;by_cases h4:s=[60,61]
 ·rw[if_pos h4]at h;refine K6 1000 (by simp only[go_sem,K5,Jm,ZD,Wc,Oi,eqd,h1,h2,h3,h4];rfl) ?_;refine K7 ⟨_,by simp only[go_sem,K5,Jm];rfl,?_⟩;exact h
 ·rw[if_neg h4]at h;refine K6 1000 (by simp only[go_sem,K5,Jm,ZD,Wc,Oi,eqd,h1,h2,h3,h4];rfl) ?_;refine K7 ⟨_,by simp only[go_sem,K5,Jm];rfl,?_⟩;exact h
section
open Go.AE Delphi
variable {tab:Tab}
def tmC (t:Tm):List V:=[.int .i64 (Fq t.kind),.str t.name,.int .i64 t.num]
def WOk (w:Wd):Prop:=w.text≠[]∧(w.kind≠4→w.text.length≤16)∧1≤w.kind∧w.kind≤4∧∀c∈w.text,c<256
variable {l vs:List V}
theorem Du {b:Nat}(hx:w.heap.get b=some (.cells l .own))(hl:l.length=vs.length)(h1:Lv vs=true):w.store b 0 vs=some (w.turn b (.cells vs .own)):=by
 have:over l 0 vs=some vs:=by
  have:=CZ [] l [] vs hl.symm;simpa using this
 exact Em hx (.inl rfl:Shr (fun _=>True) w b .own) h1 this
theorem Ai {b:Nat}{n:Nat}(h:vs.length=n):(w.turn b (.cells vs .own)).load b 0 n=some vs:=by
 have:(w.turn b (.cells vs .own)).heap.get b=some (.cells vs .own):=AE.T.get_put_same;simp only[AW.load,this,AW.alive,FZ];exact En _ _ h
theorem Jls {zs:List V}(h:Frm (fun b=>b=bp) (aw.fresh zs) w):Frm (fun b=>b=bp) aw (w.turn aw.next (.cells vs .own)):=by
 refine ((Frm.new (S:=fun _=>False) aw (.cells zs .own)).trans h (fun _ _ h=>h.elim) (fun _ _ h=>h)).trans (T:=fun b=>b=aw.next) (IB rfl (.inl rfl)) (fun _ _ h=>h) ?_;rintro x hx rfl;omega
theorem RJ:(aw.fresh l).heap.get aw.next=some (.cells l .own):=AE.T.get_put_same
theorem JwM {c:Nat}(h:c<256):KZ .u8 (Fq c-48)=Fq ((c+208) % 256):=by
 have e:Fq ((c+208) % 256)=(((c:Int)+208) % 256):=Fj;rw[e];show KZ .u8 ((c:Int)-48)=_;unfold KZ;simp only[IntKind.signed,IntKind.bits,Bool.false_and,FM,if_false];omega
theorem JlX {n:Nat}(h:n≤9223372036854775807):KZ .i64 (Fq n)=Fq n:=Iw (by show (-9223372036854775808:Int)≤(n:Int);omega) (by show (n:Int)≤9223372036854775807;omega)
def JwW (n0 n1 bp:Nat) (s:List Nat) (aw:AW) (q:Nat) (f:Fr) (w:AW):Prop :=
 ∃i m,f.get 0=some (.ptr bp 0)∧f.get 2=some (.ptr n0 0)∧f.get 3=some (.ptr n1 0)∧f.get 4=some (.int .i64 (Fq m))∧f.get 5=some (.int .i64 (Fq i))∧w=aw∧i≤s.length∧IK s=(s.drop i).foldl TK m∧m+29≤29*10 ^ i∧q=s.length-i
theorem QV (C:Codes tab)(hp:PSt aw bp wv k e)(hw:Wds Tw aw bp wv ws)(hok:∀x∈ws,WOk x)(hT:∀x,Tw x→x<aw.next)(h:∀w,PSt w bp wv (Ls ws k e).2.1 (Ls ws k e).2.2→Frm (fun b=>b=bp) aw w→K (.agg (tmC (Ls ws k e).1)) w):WF tab ZP [.ptr bp 0] aw K:=by
 refine Ld C.Wb rfl ?_;have hlt:=hp.lt;have hne:¬bp=aw.next:=Fh;obtain⟨zs,hzs⟩:∃zs,zs=[V.int .i64 0,V.str [],V.int .i64 0]:=⟨_,rfl⟩;have hp1:=hp.frm (LZ (S:=fun _=>False) aw zs) fun h=>h;have hw1:=hw.frm (LZ (S:=fun _=>False) aw zs) fun _ _ h=>h;have hg:=hp1.get;have l0:(aw.fresh zs).load bp 0 1=some [wv]:=by simp only[AW.load,hg];rfl
 have l1:(aw.fresh zs).load bp 1 1=some [.int .i64 (Fq k)]:=by simp only[AW.load,hg];rfl
 have l2:(aw.fresh zs).load bp 2 1=some [.int .i64 (Fq e)]:=by simp only[AW.load,hg];rfl
 have hzl:zs.length=3:=by rw[hzs];rfl
 have hov:∀v:V,over zs 0 [v]=some [v,V.str [],V.int .i64 0]:=fun v=>by rw[hzs];rfl
 have fin:∀(w w':AW) (k':Nat),PSt w bp wv k' 4→Frm (fun b=>b=bp) (aw.fresh zs) w→(Ls ws k e)=(Tm.zero,k',4)→w'=w.turn aw.next (.cells zs .own)→K (.agg zs) w':=by
  intro w w' k' h1 h2 h3 h4;subst h4;rw[h3]at h;have:=h (w.turn aw.next (.cells zs .own)) (h1.frm (S:=fun b=>b=aw.next) (IB rfl (.inl rfl)) (fun h=>hne h)) (Jls h2);rw[hzs]at this ⊢;exact this
 have no:∀{s:List SI} {fr:Fr},Ls ws k e=(Tm.zero,k,Bh e 4)→fr.get 0=some (.ptr bp 0)→fr.get 2=some (.ptr aw.next 0)→WS tab (.code UN::s) fr (aw.fresh zs) (fun fr' aw'=>∃vs,Ox fr' aw' Je.results=some vs∧K (Oy vs) aw'):=by
  intro s fr hr f0 f2;refine K6 1000 (by simp only[go_sem,K5,UN,f0,f2];rfl) ?_;refine K9 (by simp only[go_sem,K5]) (by simp only[go_sem,K5];rfl) ?_;refine CE C (x:=4) hp1 fun w q1 q2 q3=>?_;have hst:=Du (vs:=[V.int .i64 0,V.str [],V.int .i64 0]) ((q2.heap aw.next (FW _) (fun h=>hne h.symm)).trans RJ) hzl rfl;have hrl:=Ai (w:=w) (b:=aw.next) (vs:=[V.int .i64 0,V.str [],V.int .i64 0]) (n:=3) rfl;refine K6 1000 (by simp only[go_sem,K5,f0,f2,Lg,Lj,V.cells,hst,FC,FD];rfl) ?_;refine K7 ⟨_,by simp only[go_sem,K5,Je,f2,hrl];rfl,?_⟩;rw[hr]at h;have:=h (w.turn aw.next (.cells zs .own)) (q1.frm (S:=fun b=>b=aw.next) (IB rfl (.inl rfl)) (fun h=>hne h)) (Jls q2);rw[hzs]at this;exact this
 by_cases he:e=0
 case neg =>
  have hr:Ls ws k e=(Tm.zero,k,Bh e 4):=by simp[Ls,TN,he]
  refine Lb 1000 (by simp only[go_sem,K5,Je,←hzs,l2,he];rfl) ?_;exact no hr (by simp only[go_sem,K5]<;>rfl) (by simp only[go_sem,K5]<;>rfl)
 subst he;by_cases hk:ws.length≤k
 ·have hr:Ls ws k 0=(Tm.zero,k,Bh 0 4):=by
   have:TN ws k 0=none:=by unfold TN;rw[if_pos rfl,List.getElem?_eq_none hk]
   simp only[Ls,this]
  rcases hw1.at with⟨rfl,rfl⟩|⟨b,o,c,rfl,hneb,hltb,hat⟩
  ·have e1:0≤k:=Fh;refine Lb 1000 (by simp only[go_sem,K5,Je,←hzs,l0,l1,l2,e1];rfl) ?_;exact no hr (by simp only[go_sem,K5]<;>rfl) (by simp only[go_sem,K5]<;>rfl)
  ·refine Lb 1000 (by simp only[go_sem,K5,Je,←hzs,l0,l1,l2,hk];rfl) ?_;exact no hr (by simp only[go_sem,K5]<;>rfl) (by simp only[go_sem,K5]<;>rfl)
 have hkl:k<ws.length:=Fh;obtain⟨x,hx⟩:∃x,ws[k]? = some x:=⟨_,FB hkl⟩;have hnx:TN ws k 0=some x:=by unfold TN;rw[if_pos rfl,hx]
 obtain⟨x1,x2,x3,x4,x5⟩:=hok x (FI hx);rcases hw1.at with⟨rfl,rfl⟩|⟨b,o,c,rfl,hneb,hltb,hat⟩
 ·simp at hkl
 obtain⟨a1,a2,a3⟩:=hat k x hx;by_cases h4:x.kind=4
 ·have hr:Ls ws k 0=(Tm.zero,k,Bh 0 4):=by
   simp only[Ls,hnx];rw[if_pos h4];rfl
  refine Lb 1000 (by simp only[go_sem,K5,Je,←hzs,l0,l1,l2,hk,hkl,a1,h4];rfl) ?_;exact no hr (by simp only[go_sem,K5]<;>rfl) (by simp only[go_sem,K5]<;>rfl)
 refine K6 1000 (by simp only[go_sem,K5,Je,←hzs,l0,l1,l2,hk,hkl,a1,h4];rfl) ?_;refine Bo ?_;have hbn:¬b=(aw.fresh zs).next:=Fh
 have lift:∀{b' o' n' l'},b'<(aw.fresh zs).next→(aw.fresh zs).load b' o' n'=some l'→((aw.fresh zs).fresh zs).load b' o' n'=some l':=by
  intro b' o' n' l' hb hl;have:((aw.fresh zs).fresh zs).heap.get b'=(aw.fresh zs).heap.get b':=AE.T.get_put_ne Fh;simp only[AW.load]at hl ⊢;rw[this];exact hl
 have m0:=lift hp1.lt l0;have m1:=lift hp1.lt l1;have m3:=lift hltb a3;have hst:=Du (w:=(aw.fresh zs).fresh zs) (vs:=Sj x) RJ hzl rfl;refine LU 100 (by simp only[go_sem,K5,←hzs,l0,l1,hkl,a3,JjO,hst];rfl) ?_;refine O1 ⟨(show LF _ _ [(3,10),(7,10),(9,10)]from by simp only[go_sem,K5,LF,chk,List.reverse_cons,List.reverse_nil,O8,O6,O4,O5,List.getElem?_nil,false_or,or_true,or_false,exists_eq',FQ,Prod.mk.injEq,Bool.true_eq_false,FM,and_true,true_and,implies_true,l0,l1,m0,m1,hkl,a3,m3]),?_⟩
 have g2:Frm (fun _=>False) (aw.fresh zs) (((aw.fresh zs).fresh zs).turn (aw.fresh zs).next (.cells (Sj x) .own)):=by
  refine (LZ (S:=fun _=>False) _ zs).trans (T:=fun b=>b=(aw.fresh zs).next) (IB rfl (.inl rfl)) (fun _ _ h=>h) ?_;rintro y hy rfl;omega
 have g3:(((aw.fresh zs).fresh zs).turn (aw.fresh zs).next (.cells (Sj x) .own)).heap.get (aw.fresh zs).next=some (.cells (Sj x) .own):=AE.T.get_put_same;generalize ((aw.fresh zs).fresh zs).turn (aw.fresh zs).next (.cells (Sj x) .own)=w3 at g2 g3 ⊢;have hp3:=hp1.frm g2 fun h=>h;have hwr:KZ .i64 (Fq k+1)=Fq (k+1):=Lh (by have:=hw.len;omega);have hn1:¬(aw.fresh zs).next=bp:=by have:=hp1.lt;omega
 have g4:(PSt.mk' w3 bp (.slice b o ws.length c) (k+1) 0).heap.get (aw.fresh zs).next=some (.cells (Sj x) .own):=(AE.T.get_put_ne hn1).trans g3;have hp4:=PSt.made (wv:=.slice b o ws.length c) (k:=k+1) (e:=0) hp3.lt;have g5:Frm (fun b=>b=bp) (aw.fresh zs) (PSt.mk' w3 bp (.slice b o ws.length c) (k+1) 0):=g2.trans PSt.made_frm (fun _ _ h=>h.elim) (fun _ _ h=>h);have s1:=hp3.s1 (k+1);have l31:=hp3.l1;generalize hw4:PSt.mk' w3 bp (.slice b o ws.length c) (k+1) 0=w4 at g4 hp4 g5 s1;have c0:w4.load (aw.fresh zs).next 0 1=some [.int .i64 (Fq x.kind)]:=by simp only[AW.load,g4];rfl
 have c1:w4.load (aw.fresh zs).next 1 1=some [.str x.text]:=by simp only[AW.load,g4];rfl
 have gn0:w4.heap.get aw.next=some (.cells zs .own):=(g5.heap aw.next (FW _) (fun h=>hne h.symm)).trans RJ
 have fine:∀(w:AW) (k' e':Nat) (t:Tm),PSt w bp (.slice b o ws.length c) k' e'→Frm (fun b=>b=bp) (aw.fresh zs) w→Ls ws k 0=(t,k',e')→K (.agg (tmC t)) (w.turn aw.next (.cells (tmC t) .own)):=by
  intro w k' e' t h1 h2 h3;rw[h3]at h;exact h _ (h1.frm (S:=fun b=>b=aw.next) (IB rfl (.inl rfl)) (fun h=>hne h)) (Jls h2)
 by_cases hk1:x.kind=1
 ·have hr:Ls ws k 0=(⟨2,x.text,0⟩,k+1,0):=by
   simp only[Ls,hnx];rw[if_neg h4,if_pos hk1]
  have hst:=Du (vs:=[V.int .i64 2,V.str x.text,V.int .i64 0]) gn0 hzl rfl;have hrl:=Ai (w:=w4) (b:=aw.next) (vs:=[V.int .i64 2,V.str x.text,V.int .i64 0]) (n:=3) rfl;refine K6 1000 (by simp only[go_sem,K5,Wa,P6,l31,hwr,s1,c0,c1,hk1,Lg,Lj,over,hst,FC,FD];rfl) ?_;refine K7 ⟨_,by simp only[go_sem,K5,Je,hrl];rfl,?_⟩;exact fine w4 _ _ _ hp4 g5 hr
 by_cases hk2:x.kind=2
 ·have hr:Ls ws k 0=(⟨1,x.text,0⟩,k+1,0):=by
   simp only[Ls,hnx];rw[if_neg h4,if_neg hk1,if_pos hk2]
  have hst:=Du (vs:=[V.int .i64 1,V.str x.text,V.int .i64 0]) gn0 hzl rfl;have hrl:=Ai (w:=w4) (b:=aw.next) (vs:=[V.int .i64 1,V.str x.text,V.int .i64 0]) (n:=3) rfl;refine K6 1000 (by simp only[go_sem,K5,Wa,P5,l31,hwr,s1,c0,c1,hk1,hk2,Lg,Lj,over,hst,FC,FD];rfl) ?_;refine K7 ⟨_,by simp only[go_sem,K5,Je,hrl];rfl,?_⟩;exact fine w4 _ _ _ hp4 g5 hr
 have hlen:=x2 h4;refine K6 1000 (by simp only[go_sem,K5,Wa,l31,hwr,s1,c0,c1,hk1,hk2,FC,FD];rfl) ?_;refine Iq (JwW aw.next (aw.fresh zs).next bp x.text w4) ?_ x.text.length ⟨0,0,(by simp only[go_sem,K5]<;>rfl),(by simp only[go_sem,K5]<;>rfl),(by simp only[go_sem,K5]<;>rfl),(by simp only[go_sem,K5]<;>rfl),(by simp only[go_sem,K5]<;>rfl),rfl,by omega,rfl,by simp,by omega⟩;rintro q f w ⟨i,m,f0,f2,f3,f4,f5,rfl,hi,hm,hb,rfl⟩ ih;by_cases hil:i<x.text.length
 ·obtain⟨ch,hch⟩:∃ch,x.text[i]? = some ch:=⟨_,FB hil⟩;have hc256:ch<256:=x5 ch (FI hch);have hwi:KZ .i64 (Fq i+1)=Fq (i+1):=Lh Fh
  have hd:x.text.drop i=ch::x.text.drop (i+1):=by
   rw[FL hil];rw[FB hil]at hch;rw[FY hch]
  rw[hd,Ku]at hm
  have hpow:29*10 ^ (i+1)≤290000000000000000:=by
   have:10 ^ (i+1)≤10 ^ 16:=Nat.pow_le_pow_right Fh Fh;omega
  have hp10:10 ^ (i+1)=10 ^ i*10:=Nat.pow_succ ..;by_cases h45:ch=45
  ·rw[show TK m ch=m from if_pos h45]at hm;refine K6 1000 (by simp only[go_sem,K5,ZC,UO,f0,f2,f3,f4,f5,c1,hil,hch,h45,hwi];rfl) ?_;exact ih (x.text.length-(i+1)) _ _ Fh ⟨i+1,m,(by simp only[go_sem,K5,f0]<;>rfl),(by simp only[go_sem,K5,f2]<;>rfl),(by simp only[go_sem,K5,f3]<;>rfl),(by simp only[go_sem,K5,f4]<;>rfl),(by simp only[go_sem,K5]<;>rfl),rfl,by omega,hm,by omega,rfl⟩
  ·rw[show TK m ch=m*10+(ch+208) % 256 from if_neg h45]at hm;have e1:=JwM hc256;have e2:KZ .i64 (Fq ((ch+208) % 256))=Fq ((ch+208) % 256):=JlX Fh
   have e3:KZ .i64 (Fq m*10)=Fq (m*10):=by
    have:Fq m*10=Fq (m*10):=Fj;rw[this];exact JlX Fh
   have e4:KZ .i64 (Fq (m*10)+Fq ((ch+208) % 256))=Fq (m*10+(ch+208) % 256):=M5 Fh;refine K6 1000 (by simp only[go_sem,K5,ZC,UO,P7,f0,f2,f3,f4,f5,c1,hil,hch,h45,hwi,e1,e2,e3,e4];rfl) ?_;exact ih (x.text.length-(i+1)) _ _ Fh ⟨i+1,_,(by simp only[go_sem,K5,f0]<;>rfl),(by simp only[go_sem,K5,f2]<;>rfl),(by simp only[go_sem,K5,f3]<;>rfl),(by simp only[go_sem,K5]<;>rfl),(by simp only[go_sem,K5]<;>rfl),rfl,by omega,hm,by omega,rfl⟩
 ·rw[List.drop_eq_nil_of_le (by omega:x.text.length≤i)]at hm;have hm:IK x.text=m:=hm;by_cases hbig:2147483648<m
  ·have hr:Ls ws k 0=(Tm.zero,k+1,4):=by
    simp only[Ls,hnx];rw[if_neg h4,if_neg hk1,if_neg hk2,if_pos Fh]
   refine K6 1000 (by simp only[go_sem,K5,ZC,P8,f0,f2,f3,f4,f5,c1,hil,hbig];rfl) ?_;refine K9 (by simp only[go_sem,K5]) (by simp only[go_sem,K5];rfl) ?_;refine CE C (x:=4) hp4 fun w5 q1 q2 q3=>?_;have gn5:w5.heap.get aw.next=some (.cells zs .own):=(q2.heap aw.next (FK (FW _) g5.next) (fun h=>hne h.symm)).trans gn0;have hst:=Du (vs:=[V.int .i64 0,V.str [],V.int .i64 0]) gn5 hzl rfl;have hrl:=Ai (w:=w5) (b:=aw.next) (vs:=[V.int .i64 0,V.str [],V.int .i64 0]) (n:=3) rfl;refine K6 1000 (by simp only[go_sem,K5,f0,f2,Lg,Lj,over,hst,FC,FD];rfl) ?_;refine K7 ⟨_,by simp only[go_sem,K5,Je,f2,hrl];rfl,?_⟩;exact fine w5 _ _ _ q1 (g5.trans q2 (fun _ _ h=>h) (fun _ _ h=>h)) hr
  ·obtain⟨c0',t',hct⟩:∃c t,x.text=c::t:=by
    cases hh:x.text with
    | nil=>exact absurd hh x1
    | cons c t=>exact⟨c,t,rfl⟩
   have hl0:0<x.text.length:=by rw[hct];simp
   have hch0:x.text[0]? = some c0':=by rw[hct];rfl
   by_cases h45:c0'=45
   ·have hr:Ls ws k 0=(⟨3,[],-(m:Int)⟩,k+1,0):=by
     simp only[Ls,hnx];rw[if_neg h4,if_neg hk1,if_neg hk2,if_neg Fh,hct,hm.symm,hct];simp[h45]
    have e5:KZ .i64 (0-Fq m) = -(m:Int):=by
     have:(0:Int)-Fq m = -(m:Int):=Fj;rw[this];exact Iw Fh Fh
    have hst:=Du (vs:=[V.int .i64 3,V.str [],V.int .i64 (-(m:Int))]) gn0 hzl rfl;have hrl:=Ai (w:=w) (b:=aw.next) (vs:=[V.int .i64 3,V.str [],V.int .i64 (-(m:Int))]) (n:=3) rfl;refine K6 1000 (by simp only[go_sem,K5,ZC,f0,f2,f3,f4,f5,c1,hil,hbig,hl0,hch0,h45,e5,Lg,Lj,hov,over,hst,FC,FD];rfl) ?_;refine K7 ⟨_,by simp only[go_sem,K5,Je,f2,hrl];rfl,?_⟩;exact fine w _ _ _ hp4 g5 hr
   ·have hr:Ls ws k 0=(⟨3,[],(m:Int)⟩,k+1,0):=by
     simp only[Ls,hnx];rw[if_neg h4,if_neg hk1,if_neg hk2,if_neg Fh,hct,hm.symm,hct];simp[h45]
    have hst:=Du (vs:=[V.int .i64 3,V.str [],V.int .i64 (Fq m)]) gn0 hzl rfl;have hrl:=Ai (w:=w) (b:=aw.next) (vs:=[V.int .i64 3,V.str [],V.int .i64 (Fq m)]) (n:=3) rfl;refine K6 1000 (by simp only[go_sem,K5,ZC,f0,f2,f3,f4,f5,c1,hil,hbig,hl0,hch0,h45,Lg,Lj,hov,over,hst,FC,FD];rfl) ?_;refine K7 ⟨_,by simp only[go_sem,K5,Je,f2,hrl];rfl,?_⟩;exact fine w _ _ _ hp4 g5 hr
end
section
open Go.AE Delphi
variable {tab:Tab}
theorem PSt.cb (h:PSt w bp wv k e):CB w bp [wv,.int .i64 (Fq k),.int .i64 (Fq e)]:=⟨h.lt,h.get⟩
def L8 (l:List Tm):List V:=l.flatMap tmC
theorem Jsq (l:List Tm)(t:Tm):L8 (l++[t])=L8 l++tmC t:=by simp[L8]
structure AS (Tw:Fw) (aw w:AW) (bp:Nat) (wv:V) (txt:List Nat) (args:List Tm) (k e:Nat) (av:V) (S:Fw):Prop where
 p:PSt w bp wv k e
 frm:Frm (fun b=>b=bp) aw w
 res:CB w aw.next [.int .i64 0,.str [],.nilslice]
 lit:CB w (aw.next+1) [.int .i64 1,.str txt,av]
 buf:Buf S w av 3 args.length (L8 args)
 sep:∀x,S x→aw.next+1<x∧x<w.next
structure AF (f:Fr) (bp n0 n1:Nat):Prop where
 f0:f.get 0=some (.ptr bp 0)
 f2:f.get 2=some (.ptr n0 0)
 f3:f.get 3=some (.ptr n1 0)
def Jsv (Tw:Fw) (aw:AW) (bp:Nat) (wv:V) (ws:List Wd) (txt:List Nat) (fin:List Tm×Nat×Nat) (q:Nat) (f:Fr) (w:AW):Prop :=
 ∃args k e av S,AF f bp aw.next (aw.next+1)∧AS Tw aw w bp wv txt args k e av S∧args.length≤5∧k≤ws.length∧ws.length+1≤q+k∧Tc ws q args k e=fin∧(e=0→args.length≤4)
def JvC (Tw:Fw) (aw:AW) (bp:Nat) (wv:V) (txt:List Nat) (fin:List Tm×Nat×Nat) (f:Fr) (w:AW):Prop :=
 ∃av S,AF f bp aw.next (aw.next+1)∧AS Tw aw w bp wv txt fin.1 fin.2.1 fin.2.2 av S
theorem SA (t:Tm):(tmC t).length=3:=rfl
theorem JqK {q:Nat}{args:List Tm}(h:e≠0):Tc ws q args k e=(args,k,e):=by
 cases q with
 | zero=>rfl
 | succ q=>simp only[Tc,if_neg h]
theorem JsL (C:Codes tab){txt:List Nat}{fin:List Tm×Nat×Nat}{q:Nat}{f:Fr}{s:List SI}{Q:Fr→AW→Prop}(hw:Wds Tw aw bp wv ws)(hok:∀x∈ws,WOk x)(hT:∀x,Tw x→x<aw.next)(hlt:bp<aw.next)(hI:Jsv Tw aw bp wv ws txt fin q f w)(ih:∀n' f' w',n'<q→Jsv Tw aw bp wv ws txt fin n' f' w'→WS tab (.code (.loop J5) :: .endB 0::s) f' w' Q)(out:∀s' f' w',JvC Tw aw bp wv txt fin f' w'→TM 0 s'=some s→WS tab (.code (.exit 0)::s') f' w' Q):WS tab (.code J5 :: .code (.loop J5) :: .endB 0::s) f w Q:=by
 obtain⟨args,k,e,av,S,⟨f0,f2,f3⟩,hA,hl5,hk,hq,hfin,hl4⟩:=hI;have p2:=hA.p.l2;by_cases he:e=0
 case neg =>
  rw[JqK he]at hfin;refine Lb 1000 (by simp only[go_sem,J5,f0,f2,f3,p2,he];rfl) ?_;exact out _ _ _ ⟨av,S,⟨(by simp only[go_sem,K5,f0]<;>rfl),(by simp only[go_sem,K5,f2]<;>rfl),(by simp only[go_sem,K5,f3]<;>rfl)⟩,by rw[←hfin];exact hA⟩ rfl
 subst he;have hl4:=hl4 rfl;obtain⟨q,rfl⟩:∃q',q=q'+1:=⟨q-1,by omega⟩;refine K6 1000 (by simp only[go_sem,K5,J5,Po,f0,f2,f3,p2];rfl) ?_;refine K9 (by simp only[go_sem,K5]) (by simp only[go_sem,K5];rfl) ?_;have hww:Wds Tw w bp wv ws:=hw.frm hA.frm fun x hx he=>hw.no (he▸hx);refine QV C hA.p hww hok (fun x hx=>FK (hT x hx) hA.frm.next) fun w1 q1 q2=>?_;simp only[Tc,if_true]at hfin;have hk1:=Ei (e:=0) hk;have hk1g:=MZ ws k 0;generalize hrt:Ls ws k 0=rt at hfin q1 hk1 hk1g;obtain⟨t,k1,e1⟩:=rt;simp only at hfin q1 hk1 hk1g;obtain⟨w2,s2,c2,r2,n2⟩:=Oj w1 (zs:=[V.int .i64 0,V.str [],V.int .i64 0]) (vs:=tmC t) rfl rfl;have nx:=hA.frm.next;have nx1:=q2.next;have hn0:¬aw.next=bp:=Fh;have hn1:¬aw.next+1=bp:=Fh;have p2':=q1.frm r2 fun h=>h;have lit2:=(hA.lit.frm q2 hn1).frm r2 fun h=>h;have res2:=(hA.res.frm q2 hn0).frm r2 fun h=>h;have buf2:=(hA.buf.frm q2 fun x hx he=>by have:=(hA.sep x hx).1;omega).frm r2 fun _ _ h=>h;have l2:=p2'.l2;have la:w2.load (aw.next+1) 2 1=some [av]:=by rw[lit2.load];rfl
 have lt:w2.load w1.next 0 3=some (tmC t):=c2.all rfl;have hlv:=buf2.lenV;have f02:Frm (fun b=>b=bp) aw w2:=hA.frm.tr (q2.tr r2.no);obtain⟨e2,he2⟩:∃e2,e2=if e1=0∧args.length=4 then 8 else e1:=⟨_,rfl⟩;rw[←he2]at hfin;have hsz:S=S:=rfl
 have cont:∀w3,PSt w3 bp wv k1 e2→Frm (fun b=>b=bp) w2 w3→w3.next=w2.next→∃v' w5 S5,v'.cells=[v']∧(w3.load (aw.next+1) 2 1=some [av])∧w3.load w1.next 0 3=some (tmC t)∧(w3.fresh (tmC t)).appendV 3 32 av 1 (tmC t)=some (v',w5)∧(w3.fresh (tmC t)).elems 3 (.slice w3.next 0 1 (.known 1))=some (1,tmC t)∧w5.store (aw.next+1) 2 [v']=some (w5.put (aw.next+1) [.int .i64 1,.str txt,v'])∧AS Tw aw (w5.put (aw.next+1) [.int .i64 1,.str txt,v']) bp wv txt (args++[t]) k1 e2 v' S5:=by
  intro w3 g1 g2 g3;have buf3:=buf2.frm g2 fun x hx he=>by have:=(hA.sep x hx).1;omega
  have lit3:=lit2.frm g2 hn1;have res3:=res2.frm g2 hn0;have c3:=c2.frm g2 (by show ¬w1.next=bp;omega);have hS3:∀b,S b→b<w3.next:=fun b hb=>by have:=(hA.sep b hb).2;omega
  obtain⟨v',w5,S5,a1,a2,a3,a4⟩:=buf3.push (news:=tmC t) (bytes:=32) hS3 Fh rfl rfl Fh Fh;have nlit:¬S (aw.next+1):=fun h=>by have:=(hA.sep _ h).1;omega
  have nres:¬S aw.next:=fun h=>by have:=(hA.sep _ h).1;omega
  have nbp:¬S bp:=fun h=>by have:=(hA.sep _ h).1;omega
  have lit5:=lit3.frm a3 nlit;have vone:v'.one=true:=by rcases a2.inv with⟨rfl,_⟩|⟨_,rfl,_⟩<;>rfl
  have vc:v'.cells=[v']:=by rcases a2.inv with⟨rfl,_⟩|⟨_,rfl,_⟩<;>rfl
  have pf:Frm (fun b=>b=aw.next+1) w5 (w5.put (aw.next+1) [.int .i64 1,.str txt,v']):=LW
  have sep5:∀x,S5 x→aw.next+1<x∧x<w5.next:=by
   intro x hx;obtain⟨m1,m2⟩:=a4 x hx;refine⟨?_,m1⟩;rcases m2 with m2|m2
   ·exact (hA.sep x m2).1
   ·have:=hA.lit.lt;have:=g2.next;omega
  have n5:=a3.next;refine⟨v',w5,S5,vc,by rw[lit3.load];rfl,c3.all rfl,a1,Tj Fh rfl,lit5.set Fj vone,?_⟩;refine⟨((g1.frm a3 nbp).frm pf (fun h=>hn1 h.symm)),?_,(res3.frm a3 nres).frm pf (by show ¬aw.next=aw.next+1;omega),Oc lit5.lt,?_,fun x hx=>sep5 x hx⟩
  ·refine ((f02.tr g2).trans a3 (fun _ _ h=>h) fun x hx h=>?_).out Fh rfl;have:=(hA.sep x h).1;omega
  ·rw[FE,Jsq];exact a2.frm pf fun x hx he=>by have:=(sep5 x hx).1;omega
 have hl5':(args++[t]).length≤5:=by rw[FE,Kb];omega
 have nx2:=r2.next;have tl:(tmC t).length=3:=rfl;have hov:over [V.int .i64 0,V.str [],V.int .i64 0] 0 (tmC t)=some (tmC t):=rfl;have hfin':(if OY ws k1 [44]=true then Tc ws q (args++[t]) (k1+1) e2 else (args++[t],k1,e2))=fin:=hfin;by_cases h4:e1=0∧args.length=4
 ·obtain⟨rfl,h4⟩:=h4;rw[h4]at hlv;rw[if_pos ⟨rfl,h4⟩]at he2;subst he2;refine K6 1000 (by simp only[go_sem,K5,s2,SA,l2,la,hlv,f0,f2,f3];rfl) ?_;refine K9 (by simp only[go_sem,K5]) (by simp only[go_sem,K5];rfl) ?_;refine CE C (x:=8) p2' fun w3 q3 q4 q5=>?_;obtain⟨v',w5,S5,b0,b1,b2,b3,b4,b5,b6⟩:=cont w3 q3 q4 q5;refine K6 1000 (by simp only[go_sem,K5,f0,f2,f3,b0,b1,b2,Lg,Lj,hov,SA,b3,b4,b5,FC,FD];rfl) ?_;refine K9 (by simp only[go_sem,K5]) (by simp only[go_sem,K5];rfl) ?_;have hw5:=hw.frm b6.frm fun x hx he=>hw.no (he▸hx);refine DI C b6.p hw5 ?_;cases hs:OY ws k1 [44]with
  | true =>
   rw[hs,if_pos rfl]at hfin';have hks:=Iz hs;have hwr:KZ .i64 (Fq k1+1)=Fq (k1+1):=Lh (by have:=hw.len;omega);have l1:=b6.p.l1;have st:=b6.p.cb.set (i:=1) (v:=.int .i64 (Fq (k1+1))) Fj rfl;refine K6 1000 (by simp only[go_sem,K5,f0,f2,f3,l1,hwr,st,FC,FD];rfl) ?_;have pf:Frm (fun b=>b=bp) (w5.put (aw.next+1) [.int .i64 1,.str txt,v']) ((w5.put (aw.next+1) [.int .i64 1,.str txt,v']).put bp [wv,.int .i64 (Fq (k1+1)),.int .i64 (Fq 8)]):=LW;exact ih q _ _ Fh ⟨args++[t],k1+1,8,v',S5,⟨(by simp only[go_sem,K5,f0]<;>rfl),(by simp only[go_sem,K5,f2]<;>rfl),(by simp only[go_sem,K5,f3]<;>rfl)⟩,⟨⟨b6.p.lt,AE.T.get_put_same⟩,b6.frm.tr pf,b6.res.frm pf hn0,b6.lit.frm pf hn1,b6.buf.frm pf fun x hx he=>by have:=(b6.sep x hx).1;omega,b6.sep⟩,hl5',hks,by omega,hfin',fun h=>by omega⟩
  | false =>
   rw[hs,if_neg Fj]at hfin';refine Lb 1000 (by simp only[go_sem,f0,f2,f3];rfl) ?_;exact out _ _ _ ⟨v',S5,⟨(by simp only[go_sem,K5,f0]<;>rfl),(by simp only[go_sem,K5,f2]<;>rfl),(by simp only[go_sem,K5,f3]<;>rfl)⟩,by rw[←hfin'];exact b6⟩ rfl
 ·rw[if_neg h4]at he2;subst he2;obtain⟨v',w5,S5,b0,b1,b2,b3,b4,b5,b6⟩:=cont w2 p2' (Frm.refl _) rfl
  have hl54:e2=0→(args++[t]).length≤4:=by
   intro h0;have:args.length≠4:=fun h=>h4 ⟨h0,h⟩;rw[FE,Kb];omega
  have fin2:∀(fr:Fr),AF fr bp aw.next (aw.next+1)→fr.get 95=some (.ptr bp 0)→WS tab (.ops [⟨some 96,none,.call (.const (.func (.func JK) [] [])) [(.tmp 95),(.const (.str [44]))]⟩,⟨some 97,none,.un .not (.tmp 96)⟩] :: .code (.cond (.tmp 97) (.exit 0) .skip) :: .code (.region [⟨some 98,none,.mov (.tmp 0)⟩,⟨some 99,none,.nilCheck (.tmp 98)⟩,⟨some 100,none,.fieldAddr 1 (.tmp 99)⟩,⟨some 101,none,.load 1 false (.tmp 100)⟩,⟨some 102,none,.bin .add (.tmp 101) (.const (.int .i64 1))⟩,⟨some 103,none,.nilCheck (.tmp 98)⟩,⟨some 104,none,.fieldAddr 1 (.tmp 103)⟩,⟨none,none,.store 1 (.tmp 104) (.tmp 102)⟩]) :: .endB 1 :: .code (.loop J5) :: .endB 0::s) fr (w5.put (aw.next+1) [.int .i64 1,.str txt,v']) Q:=by
   rintro fr ⟨f0,f2,f3⟩ f95;refine K9 (by simp only[EW]) (by simp only[go_sem,f95];rfl) ?_;have hw5:=hw.frm b6.frm fun x hx he=>hw.no (he▸hx);refine DI C b6.p hw5 ?_;cases hs:OY ws k1 [44]with
   | true =>
    rw[hs,if_pos rfl]at hfin';have hks:=Iz hs;have hwr:KZ .i64 (Fq k1+1)=Fq (k1+1):=Lh (by have:=hw.len;omega);have l1:=b6.p.l1;have st:=b6.p.cb.set (i:=1) (v:=.int .i64 (Fq (k1+1))) Fj rfl;refine K6 1000 (by simp only[go_sem,K5,f0,f2,f3,l1,hwr,st,FC,FD];rfl) ?_;have pf:Frm (fun b=>b=bp) (w5.put (aw.next+1) [.int .i64 1,.str txt,v']) ((w5.put (aw.next+1) [.int .i64 1,.str txt,v']).put bp [wv,.int .i64 (Fq (k1+1)),.int .i64 (Fq e2)]):=LW;exact ih q _ _ Fh ⟨args++[t],k1+1,e2,v',S5,⟨(by simp only[go_sem,K5,f0]<;>rfl),(by simp only[go_sem,K5,f2]<;>rfl),(by simp only[go_sem,K5,f3]<;>rfl)⟩,⟨⟨b6.p.lt,AE.T.get_put_same⟩,b6.frm.tr pf,b6.res.frm pf hn0,b6.lit.frm pf hn1,b6.buf.frm pf fun x hx he=>by have:=(b6.sep x hx).1;omega,b6.sep⟩,hl5',hks,by omega,hfin',hl54⟩
   | false =>
    rw[hs,if_neg Fj]at hfin';refine Lb 1000 (by simp only[go_sem,f0,f2,f3];rfl) ?_;exact out _ _ _ ⟨v',S5,⟨(by simp only[go_sem,K5,f0]<;>rfl),(by simp only[go_sem,K5,f2]<;>rfl),(by simp only[go_sem,K5,f3]<;>rfl)⟩,by rw[←hfin'];exact b6⟩ rfl
  by_cases h0:e2=0
  ·have h4':¬args.length=4:=fun h=>h4 ⟨h0,h⟩;subst h0;refine K6 1000 (by simp only[go_sem,K5,s2,tl,l2,la,hlv,h4',f0,f2,f3,b0,b1,b2,Lg,Lj,hov,SA,b3,b4,b5,FC,FD];rfl) ?_;exact fin2 _ ⟨(by simp only[go_sem,K5,f0]<;>rfl),(by simp only[go_sem,K5,f2]<;>rfl),(by simp only[go_sem,K5,f3]<;>rfl)⟩ (by simp only[go_sem,K5]<;>rfl)
  ·refine K6 1000 (by simp only[go_sem,K5,s2,tl,l2,la,h0,f0,f2,f3,b0,b1,b2,Lg,Lj,hov,SA,b3,b4,b5,FC,FD];rfl) ?_;exact fin2 _ ⟨(by simp only[go_sem,K5,f0]<;>rfl),(by simp only[go_sem,K5,f2]<;>rfl),(by simp only[go_sem,K5,f3]<;>rfl)⟩ (by simp only[go_sem,K5]<;>rfl)
end
section
open Go.AE Delphi
variable {tab:Tab}
def LtC (T:Fw) (w:AW) (l:Lt) (xs:List V):Prop:=∃v,xs=[.int .i64 (Fq l.kind),.str l.name,v]∧Rd T w v 3 l.args.length (L8 l.args)
variable {T:Fw} {l:Lt} {xs:List V}
theorem LtC.frm {S:Fw}{w':AW}(h:LtC T w l xs)(hf:Frm S w w')(hd:∀x,T x→¬S x):LtC T w' l xs:=by
 obtain⟨v,h1,h2⟩:=h;exact⟨v,h1,h2.frm hf hd⟩
theorem LtC.mono {T':Fw}(h:LtC T w l xs)(ht:∀x,T x→T' x):LtC T' w l xs:=by
 obtain⟨v,h1,h2⟩:=h;exact⟨v,h1,h2.mono ht⟩
theorem LtC.one (h:LtC T w l xs):xs.length=3∧Lv xs=true:=by
 obtain⟨v,rfl,h2⟩:=h;refine⟨rfl,?_⟩;rcases h2.inv with⟨rfl,_⟩|⟨_,_,_,rfl,_⟩<;>rfl
theorem LtC.zero:LtC T w Lt.zero [.int .i64 0,.str [],.nilslice]:=⟨.nilslice,rfl,.nil⟩
theorem QU (C:Codes tab)(hp:PSt aw bp wv k e)(hw:Wds Tw aw bp wv ws)(hok:∀x∈ws,WOk x)(hT:∀x,Tw x→x<aw.next)(hk:k≤ws.length)(h:∀w T xs,PSt w bp wv (Lu ws k e).2.1 (Lu ws k e).2.2→Frm (fun b=>b=bp) aw w→LtC T w (Lu ws k e).1 xs→(∀x,T x→aw.next≤x∧x<w.next)→K (.agg xs) w):WF tab YF [.ptr bp 0] aw K:=by
 refine Ld C.XK rfl ?_;have hlt:=hp.lt;have hne:¬aw.next=bp:=Fh;obtain⟨zs,hzs⟩:∃zs,zs=[V.int .i64 0,V.str [],V.nilslice]:=⟨_,rfl⟩;have hp1:=hp.frm (LZ (S:=fun _=>False) aw zs) fun h=>h;have hw1:=hw.frm (LZ (S:=fun _=>False) aw zs) fun _ _ h=>h;have l0:=hp1.l0;have l1:=hp1.l1;have l2:=hp1.l2;have hzl:zs.length=3:=by rw[hzs];rfl
 have hov:∀v u:V,over zs 0 [v]=some [v,V.str [],V.nilslice]:=fun v u=>by rw[hzs];rfl
 have hc0:=OQ aw zs
 have fine:∀(w:AW) (k' e':Nat) (l:Lt) (T:Fw) (xs:List V),PSt w bp wv k' e'→Frm (fun b=>b=bp) (aw.fresh zs) w→Lu ws k e=(l,k',e')→LtC T w l xs→(∀x,T x→aw.next<x∧x<w.next)→K (.agg xs) (w.put aw.next xs):=by
  intro w k' e' l T xs h1 h2 h3 h4 h5;rw[h3]at h;exact h _ T xs (h1.frm LW (fun h=>hne h.symm)) ((LZ (S:=fun b=>b=bp) aw zs).tr h2 |>.out (FH _) rfl) (h4.frm LW fun x hx he=>by have:=(h5 x hx).1;omega) fun x hx=>⟨by have:=(h5 x hx).1;omega,(h5 x hx).2⟩
 have no:∀{s:List SI} {fr:Fr},Lu ws k e=(Lt.zero,k,Bh e 4)→fr.get 0=some (.ptr bp 0)→fr.get 2=some (.ptr aw.next 0)→WS tab (.code Uv::s) fr (aw.fresh zs) (fun fr' aw'=>∃vs,Ox fr' aw' Ju.results=some vs∧K (Oy vs) aw'):=by
  intro s fr hr f0 f2;refine K6 1000 (by simp only[go_sem,K5,Uv,f0,f2];rfl) ?_;refine K9 (by simp only[go_sem,K5]) (by simp only[go_sem,K5];rfl) ?_;refine CE C (x:=4) hp1 fun w q1 q2 q3=>?_;have hc:=hc0.frm q2 hne;have hst:=hc.setAll (vs:=[V.int .i64 0,V.str [],V.nilslice]) hzl rfl;have hrl:=(Oc (l:=[V.int .i64 0,V.str [],V.nilslice]) hc.lt).all (n:=3) rfl;refine K6 1000 (by simp only[go_sem,K5,f0,f2,Lg,Lj,V.cells,hst,FC,FD];rfl) ?_;refine K7 ⟨_,by simp only[go_sem,K5,Ju,f2,hrl];rfl,?_⟩;exact fine w _ _ _ (fun _=>False) _ q1 q2 hr LtC.zero fun _ h=>h.elim
 by_cases he:e=0
 case neg =>
  have hr:Lu ws k e=(Lt.zero,k,Bh e 4):=by simp[Lu,TN,he]
  refine Lb 1000 (by simp only[go_sem,K5,Ju,←hzs,l2,he];rfl) ?_;exact no hr (by simp only[go_sem,K5]<;>rfl) (by simp only[go_sem,K5]<;>rfl)
 subst he;by_cases hkk:ws.length≤k
 ·have hr:Lu ws k 0=(Lt.zero,k,Bh 0 4):=by
   have:TN ws k 0=none:=by unfold TN;rw[if_pos rfl,List.getElem?_eq_none hkk]
   simp only[Lu,this]
  have hlv:=hw1.rd.lenV;refine Lb 1000 (by simp only[go_sem,K5,Ju,←hzs,l0,l1,l2,hlv,hkk];rfl) ?_;exact no hr (by simp only[go_sem,K5]<;>rfl) (by simp only[go_sem,K5]<;>rfl)
 have hkl:k<ws.length:=Fh;obtain⟨x,hx⟩:∃x,ws[k]? = some x:=⟨_,FB hkl⟩;have hnx:TN ws k 0=some x:=by unfold TN;rw[if_pos rfl,hx]
 rcases hw1.at with⟨rfl,rfl⟩|⟨b,o,c,rfl,hneb,hltb,hat⟩
 ·simp at hkl
 obtain⟨a1,a2,a3⟩:=hat k x hx;by_cases h1k:x.kind=1
 case neg =>
  have hr:Lu ws k 0=(Lt.zero,k,Bh 0 4):=by
   simp only[Lu,hnx];rw[if_neg h1k];rfl
  refine Lb 1000 (by simp only[go_sem,K5,Ju,←hzs,l0,l1,l2,hkk,hkl,a1,h1k];rfl) ?_;exact no hr (by simp only[go_sem,K5]<;>rfl) (by simp only[go_sem,K5]<;>rfl)
 refine K6 1000 (by simp only[go_sem,K5,Ju,←hzs,l0,l1,l2,hkk,hkl,a1,h1k];rfl) ?_;refine Bo ?_
 have lift:∀{b' o' n' l'},b'<(aw.fresh zs).next→(aw.fresh zs).load b' o' n'=some l'→((aw.fresh zs).fresh zs).load b' o' n'=some l':=by
  intro b' o' n' l' hb hl;have:((aw.fresh zs).fresh zs).heap.get b'=(aw.fresh zs).heap.get b':=AE.T.get_put_ne Fh;simp only[AW.load]at hl ⊢;rw[this];exact hl
 have m0:=lift hp1.lt l0;have m1:=lift hp1.lt l1;have m2:=lift hltb a2;obtain⟨w3,s3,c3,r3,n3⟩:=Oj (aw.fresh zs) (zs:=zs) (vs:=[V.int .i64 1,V.str x.text,V.nilslice]) hzl rfl;have hov2:over [V.int .i64 1,V.str [],V.nilslice] 1 [V.str x.text]=some [V.int .i64 1,V.str x.text,V.nilslice]:=rfl;have hov1:over zs 0 [V.int .i64 1]=some [V.int .i64 1,V.str [],V.nilslice]:=by rw[hzs];rfl
 refine LU 100 (by simp only[go_sem,K5,←hzs,l0,l1,hkl,a2,Lg,Lj,hov1,hov2,s3,FC,FD];rfl) ?_;refine O1 ⟨(show LF _ _ [(3,12),(7,12),(10,12)]from by simp only[go_sem,K5,LF,chk,List.reverse_cons,List.reverse_nil,O8,O6,O4,O5,List.getElem?_nil,false_or,or_true,or_false,exists_eq',FQ,Prod.mk.injEq,Bool.true_eq_false,FM,and_true,true_and,implies_true,l0,l1,m0,m1,hkl,a2,m2]),?_⟩;have hp3:=hp1.frm r3 fun h=>h;have hwr:KZ .i64 (Fq k+1)=Fq (k+1):=Lh (by have:=hw.len;omega);have l31:=hp3.l1;have s1:=hp3.cb.set (i:=1) (v:=.int .i64 (Fq (k+1))) Fj rfl;have hp4:PSt (w3.put bp ([V.slice b o ws.length c,.int .i64 (Fq k),.int .i64 (Fq 0)].set 1 (.int .i64 (Fq (k+1))))) bp (.slice b o ws.length c) (k+1) 0:=⟨hp3.lt,AE.T.get_put_same⟩;have r4:Frm (fun b=>b=bp) (aw.fresh zs) (w3.put bp ([V.slice b o ws.length c,.int .i64 (Fq k),.int .i64 (Fq 0)].set 1 (.int .i64 (Fq (k+1))))):=r3.no.tr LW;have hn1:¬(aw.fresh zs).next=bp:=by have:=hp1.lt;omega
 have c4:=c3.frm (LW (l:=[V.slice b o ws.length c,.int .i64 (Fq k),.int .i64 (Fq 0)].set 1 (.int .i64 (Fq (k+1))))) hn1;have n4:(w3.put bp ([V.slice b o ws.length c,.int .i64 (Fq k),.int .i64 (Fq 0)].set 1 (.int .i64 (Fq (k+1))))).next=aw.next+1+1:=n3;generalize w3.put bp ([V.slice b o ws.length c,.int .i64 (Fq k),.int .i64 (Fq 0)].set 1 (.int .i64 (Fq (k+1))))=w4 at s1 hp4 r4 c4 n4;refine K6 1000 (by simp only[go_sem,K5,l31,hwr,s1,FC,FD];rfl) ?_;refine K9 (by simp only[go_sem,K5]) (by simp only[go_sem,K5];rfl) ?_;have hw4:=hw1.frm r4 fun y hy he=>hw1.no (he▸hy);refine DI C hp4 hw4 ?_;have c40:=hc0.frm r4 hne;cases hs:OY ws (k+1) [40]with
 | false =>
  have hr:Lu ws k 0=(⟨1,x.text,[]⟩,k+1,0):=by
   simp only[Lu,hnx];rw[if_pos h1k,hs,if_neg Fj]
  have la:=c4.all (n:=3) rfl;have hst:=c40.setAll (vs:=[V.int .i64 1,V.str x.text,V.nilslice]) hzl rfl;have hrl:=(Oc (l:=[V.int .i64 1,V.str x.text,V.nilslice]) c40.lt).all (n:=3) rfl;refine K6 1000 (by simp only[go_sem,K5,la,hst,FC,FD];rfl) ?_;refine K7 ⟨_,by simp only[go_sem,K5,Ju,hrl];rfl,?_⟩;exact fine w4 _ _ _ (fun _=>False) _ hp4 r4 hr ⟨.nilslice,rfl,.nil⟩ fun _ h=>h.elim
 | true =>
  have hks:=Iz hs;have hwr2:KZ .i64 (Fq (k+1)+1)=Fq (k+1+1):=Lh (by have:=hw.len;omega);have l41:=hp4.l1;have s2:=hp4.cb.set (i:=1) (v:=.int .i64 (Fq (k+1+1))) Fj rfl;refine K6 1000 (by simp only[go_sem,K5,l41,hwr2,s2,FC,FD];rfl) ?_;have pf:Frm (fun b=>b=bp) w4 (w4.put bp ([V.slice b o ws.length c,.int .i64 (Fq (k+1)),.int .i64 (Fq 0)].set 1 (.int .i64 (Fq (k+1+1))))):=LW;have hfr5:=(LZ (S:=fun b=>b=bp) aw zs).tr (r4.tr pf)
  refine LK (Jsv Tw aw bp (.slice b o ws.length c) ws x.text (Tc ws (ws.length+1) [] (k+2) 0)) (JvC Tw aw bp (.slice b o ws.length c) x.text (Tc ws (ws.length+1) [] (k+2) 0)) (fun n f w hI ih out=>JsL C hw hok hT hlt hI ih out) ?_ (ws.length+1)
   ⟨[],k+2,0,.nilslice,fun _=>False,⟨(by simp only[go_sem,K5]<;>rfl),(by simp only[go_sem,K5]<;>rfl),(by simp only[go_sem,K5]<;>rfl)⟩,⟨⟨by show bp<w4.next;rw[n4];omega,AE.T.get_put_same⟩,hfr5,by rw[←hzs];exact c40.frm pf hne,c4.frm pf hn1,.nil,fun _ h=>h.elim⟩,by simp,hks,by omega,rfl,by simp⟩
  rintro f w ⟨av,S,⟨f0,f2,f3⟩,hA⟩;generalize hra:Tc ws (ws.length+1) [] (k+2) 0=ra at hA;obtain⟨args,k5,e5⟩:=ra;simp only at hA
  have hk5:k5≤ws.length:=by
   have:=QZ (ws:=ws) (ws.length+1) [] (k+2) 0 hks;rw[hra]at this;exact this
  refine K6 1000 (by simp only[go_sem,K5,f0];rfl) ?_;refine K9 (by simp only[go_sem,K5]) (by simp only[go_sem,K5];rfl) ?_;have hww:=hw.frm hA.frm fun y hy he=>hw.no (he▸hy);refine Jpt C hA.p hww (by have:=hw.len;omega) fun w6 q1 q2 q3=>?_;have lit6:=hA.lit.frm q2 Fh;have res6:=hA.res.frm q2 hne;have buf6:=hA.buf.frm q2 fun y hy he=>by have:=(hA.sep y hy).1;omega
  have hr:Lu ws k 0=(⟨1,x.text,args⟩,(BQ ws [41] k5 e5).1,(BQ ws [41] k5 e5).2):=by
   simp only[Lu,hnx];rw[if_pos h1k,hs,if_pos rfl,hra]
  have la:=lit6.all (n:=3) rfl;have aone:Lv [V.int .i64 1,V.str x.text,av]=true:=by rcases hA.buf.inv with⟨rfl,_⟩|⟨_,rfl,_⟩<;>rfl
  have hst:=res6.setAll (vs:=[V.int .i64 1,V.str x.text,av]) rfl aone;have hrl:=(Oc (l:=[V.int .i64 1,V.str x.text,av]) res6.lt).all (n:=3) rfl;refine K6 1000 (by simp only[go_sem,K5,f0,f2,f3,la,hst,FC,FD];rfl) ?_;refine K7 ⟨_,by simp only[go_sem,K5,Ju,f2,hrl];rfl,?_⟩;rw[hr]at h;have r6:=hA.frm.tr q2;exact h _ S _ (q1.frm LW (fun h=>hne h.symm)) (r6.out (FH _) rfl) ⟨av,rfl,buf6.rd.frm LW fun y hy he=>by have:=(hA.sep y hy).1;omega⟩ fun y hy=>⟨by have:=(hA.sep y hy).1;omega,by have:=(hA.sep y hy).2;have:(w6.put aw.next [V.int .i64 1,V.str x.text,av]).next=w6.next:=rfl;omega⟩
end
section
open Go.AE Delphi
variable {tab:Tab}
theorem Jwq {T:Fw}{b:Nat}{l:List Tm}(hT:T b)(h:CB w b (L8 l)):Rd T w (.slice b 0 l.length (.known l.length)) 3 l.length (L8 l):=by
 have hl:(L8 l).length=l.length*3:=Qr SA l;exact .blk hT h.lt h.get (.inl rfl) Fh (by rw[FZ,FX Fh]) (FH _)
set_option maxHeartbeats 1000000 in
theorem Jvg (C:Codes tab)(hp:PSt aw bp wv k e)(hw:Wds Tw aw bp wv ws)(hok:∀x∈ws,WOk x)(hT:∀x,Tw x→x<aw.next)(hk:k≤ws.length)(h:∀w T xs,PSt w bp wv (Ow ws k e).2.1 (Ow ws k e).2.2→Frm (fun b=>b=bp) aw w→LtC T w (Ow ws k e).1 xs→(∀x,T x→aw.next≤x∧x<w.next)→K (.agg xs) w):WF tab Gz [.ptr bp 0] aw K:=by
 refine Ld C.XM rfl ?_;have hlt:=hp.lt;have hne:¬aw.next=bp:=Fh;have hwl:=hw.len;obtain⟨zs,hzs⟩:∃zs,zs=[V.int .i64 0,V.str [],V.nilslice]:=⟨_,rfl⟩;have hp1:=hp.frm (LZ (S:=fun _=>False) aw zs) fun h=>h;have hw1:=hw.frm (LZ (S:=fun _=>False) aw zs) fun _ _ h=>h;have hT1:∀x,Tw x→x<(aw.fresh zs).next:=fun x hx=>Nat.lt_succ_of_lt (hT x hx);have l0:=hp1.l0;have l1:=hp1.l1;have l2:=hp1.l2;have hzl:zs.length=3:=by rw[hzs];rfl
 have hc0:=OQ aw zs;have hlv:=hw1.rd.lenV
 have fine:∀(w:AW) (k' e':Nat) (l:Lt) (T:Fw) (xs:List V),PSt w bp wv k' e'→Frm (fun b=>b=bp) (aw.fresh zs) w→Ow ws k e=(l,k',e')→LtC T w l xs→(∀x,T x→aw.next<x∧x<w.next)→K (.agg xs) (w.put aw.next xs):=by
  intro w k' e' l T xs h1 h2 h3 h4 h5;rw[h3]at h;exact h _ T xs (h1.frm LW (fun h=>hne h.symm)) ((LZ (S:=fun b=>b=bp) aw zs).tr h2 |>.out (FH _) rfl) (h4.frm LW fun x hx he=>by have:=(h5 x hx).1;omega) fun x hx=>⟨by have:=(h5 x hx).1;omega,(h5 x hx).2⟩
 refine K6 1000 (by simp only[go_sem,K5,Jo,←hzs];rfl) ?_;refine K9 (by simp only[go_sem,K5]) (by simp only[go_sem,K5];rfl) ?_;refine DI C hp1 hw1 ?_;cases hs:OY ws k [33]with
 | true =>
  have hks:=Iz hs;have hwr:KZ .i64 (Fq k+1)=Fq (k+1):=Lh Fh;have s1:=hp1.cb.set (i:=1) (v:=.int .i64 (Fq (k+1))) Fj rfl;have hp2:PSt ((aw.fresh zs).put bp ([wv,.int .i64 (Fq k),.int .i64 (Fq e)].set 1 (.int .i64 (Fq (k+1))))) bp wv (k+1) e:=⟨hp1.lt,AE.T.get_put_same⟩;have r2:Frm (fun b=>b=bp) (aw.fresh zs) ((aw.fresh zs).put bp ([wv,.int .i64 (Fq k),.int .i64 (Fq e)].set 1 (.int .i64 (Fq (k+1))))):=LW;generalize (aw.fresh zs).put bp ([wv,.int .i64 (Fq k),.int .i64 (Fq e)].set 1 (.int .i64 (Fq (k+1))))=w2 at s1 hp2 r2;have hw2:=hw1.frm r2 fun y hy he=>hw1.no (he▸hy);refine K6 1000 (by simp only[go_sem,K5,Pp,Pq,Jo,←hzs,l1,hwr,s1,FC,FD];rfl) ?_;refine K9 (by simp only[go_sem,K5]) (by simp only[go_sem,K5];rfl) ?_;refine QU C hp2 hw2 hok (fun x hx=>FK (hT1 x hx) r2.next) hks fun w3 T xs q1 q2 q3 q4=>?_;obtain⟨xl,xo⟩:=q3.one;obtain⟨v,rfl,hv⟩:=q3;obtain⟨w4,s4,c4,r4,n4⟩:=Oj w3 (zs:=zs) (vs:=[.int .i64 (Fq (Lu ws (k+1) e).1.kind),.str (Lu ws (k+1) e).1.name,v]) hzl xo;have st:=c4.set (i:=0) (v:=.int .i64 2) Fj rfl;have f34:Frm (fun _=>False) w3 (w4.put w3.next [.int .i64 2,.str (Lu ws (k+1) e).1.name,v]):=r4.out (FH _) rfl;have la:=(Oc (l:=[.int .i64 2,.str (Lu ws (k+1) e).1.name,v]) c4.lt).all (n:=3) rfl;have f14:Frm (fun b=>b=bp) (aw.fresh zs) (w4.put w3.next [.int .i64 2,.str (Lu ws (k+1) e).1.name,v]):=(r2.tr q2).tr f34.no;have cr:=hc0.frm f14 hne;have vone:Lv [V.int .i64 2,.str (Lu ws (k+1) e).1.name,v]=true:=xo;have hst:=cr.setAll (vs:=[V.int .i64 2,.str (Lu ws (k+1) e).1.name,v]) hzl vone;have hrl:=(Oc (l:=[V.int .i64 2,.str (Lu ws (k+1) e).1.name,v]) cr.lt).all (n:=3) rfl
  have hr:Ow ws k e=({(Lu ws (k+1) e).1 with kind:=2},(Lu ws (k+1) e).2.1,(Lu ws (k+1) e).2.2):=by
   simp only[Ow];rw[if_pos hs]
  refine K6 1000 (by simp only[go_sem,K5,s4,st,la,hst,FC,FD,List.set_cons_zero];rfl) ?_;refine K7 ⟨_,by simp only[go_sem,K5,Jo,hrl];rfl,?_⟩;have nn:=r2.next
  exact fine _ _ _ _ T _ (q1.frm f34 fun h=>h) f14 hr ⟨v,rfl,hv.frm f34 fun _ _ h=>h⟩ fun x hx=>by
   obtain⟨m1,m2⟩:=q4 x hx;have e1:(aw.fresh zs).next=aw.next+1:=rfl;have:=f34.next;exact⟨by omega,by omega⟩
 | false =>
 have atomP:∀{s:List SI} {fr:Fr},Ow ws k e=Lu ws k e→fr.get 0=some (.ptr bp 0)→fr.get 2=some (.ptr aw.next 0)→WS tab (.code Uw::s) fr (aw.fresh zs) (fun fr' aw'=>∃vs,Ox fr' aw' Jo.results=some vs∧K (Oy vs) aw'):=by
  intro s fr hr f0 f2;refine K6 1000 (by simp only[go_sem,K5,Uw,f0,f2];rfl) ?_;refine K9 (by simp only[go_sem,K5]) (by simp only[go_sem,K5];rfl) ?_;refine QU C hp1 hw1 hok hT1 hk fun w3 T xs q1 q2 q3 q4=>?_;obtain⟨xl,xo⟩:=q3.one;have cr:=hc0.frm q2 hne;have hst:=cr.setAll (vs:=xs) (by rw[hzl,xl]) xo;have hrl:=(Oc (l:=xs) cr.lt).all (n:=3) xl;refine K6 1000 (by simp only[go_sem,K5,f0,f2,xl,hst];rfl) ?_;refine K7 ⟨_,by simp only[go_sem,K5,Jo,f2,hrl];rfl,?_⟩
  exact fine _ _ _ _ T _ q1 q2 hr q3 fun x hx=>by
   obtain⟨m1,m2⟩:=q4 x hx;have e1:(aw.fresh zs).next=aw.next+1:=rfl;exact⟨by omega,m2⟩
 have termP:∀{s:List SI} {fr:Fr},¬(De ws k=1∧OC ws (k+1)=0)→fr.get 0=some (.ptr bp 0)→fr.get 2=some (.ptr aw.next 0)→fr.get 91=some (.ptr bp 0)→WS tab (.ops [⟨some 92,none,.call (.const (.func (.func ZP) [] [])) [(.tmp 91)]⟩,⟨some 4,none,.alloc [(.int .i64 0),(.str []),(.int .i64 0)]⟩,⟨none,none,.store 3 (.tmp 4) (.tmp 92)⟩] :: .code Zw::s) fr (aw.fresh zs) (fun fr' aw'=>∃vs,Ox fr' aw' Jo.results=some vs∧K (Oy vs) aw'):=by
  intro s fr hna f0 f2 f91;refine K9 (by simp only[EW]) (by simp only[go_sem,f91];rfl) ?_;refine QV C hp1 hw1 hok hT1 fun w1 q1 q2=>?_;have hk1:=Ei (e:=e) hk;generalize hrt:Ls ws k e=rt at q1 hk1;obtain⟨t,k1,e1⟩:=rt;simp only at q1 hk1;obtain⟨w2,s2,c2,r2,n2⟩:=Oj w1 (zs:=[V.int .i64 0,V.str [],V.int .i64 0]) (vs:=tmC t) rfl rfl;have p2:=q1.frm r2 fun h=>h;have f12:Frm (fun b=>b=bp) (aw.fresh zs) w2:=q2.tr r2.no;have hw2:=hw1.frm f12 fun y hy he=>hw1.no (he▸hy);have res2:=hc0.frm f12 hne;have e1n:(aw.fresh zs).next=aw.next+1:=rfl;have nq:=q2.next;have m0:=p2.l0;have m1:=p2.l1;have m2:=p2.l2;have hlv2:=hw2.rd.lenV;refine Lb 1000 (by simp only[go_sem,K5,s2,SA,f0,f2];rfl) ?_;have g0:((fr.put 92 (.agg (tmC t))).put 4 (.ptr w1.next 0)).get 0=some (.ptr bp 0):=(by simp only[go_sem,K5,f0]<;>rfl);have g2:((fr.put 92 (.agg (tmC t))).put 4 (.ptr w1.next 0)).get 2=some (.ptr aw.next 0):=(by simp only[go_sem,K5,f2]<;>rfl);have g4:((fr.put 92 (.agg (tmC t))).put 4 (.ptr w1.next 0)).get 4=some (.ptr w1.next 0):=(by simp only[go_sem,K5]<;>rfl);generalize (fr.put 92 (.agg (tmC t))).put 4 (.ptr w1.next 0)=fr1 at g0 g2 g4
  have badP:∀{s:List SI} {fr:Fr},Ow ws k e=(Lt.zero,k1,Bh e1 4)→fr.get 0=some (.ptr bp 0)→fr.get 2=some (.ptr aw.next 0)→WS tab (.code Ux::s) fr w2 (fun fr' aw'=>∃vs,Ox fr' aw' Jo.results=some vs∧K (Oy vs) aw'):=by
   intro s fr hr f0 f2;refine K6 1000 (by simp only[go_sem,K5,Ux,f0,f2];rfl) ?_;refine K9 (by simp only[go_sem,K5]) (by simp only[go_sem,K5];rfl) ?_;refine CE C (x:=4) p2 fun w q1 q2 q3=>?_;have hc:=res2.frm q2 hne;have hst:=hc.setAll (vs:=[V.int .i64 0,V.str [],V.nilslice]) hzl rfl;have hrl:=(Oc (l:=[V.int .i64 0,V.str [],V.nilslice]) hc.lt).all (n:=3) rfl;refine K6 1000 (by simp only[go_sem,K5,f0,f2,Lg,Lj,V.cells,hst,FC,FD];rfl) ?_;refine K7 ⟨_,by simp only[go_sem,K5,Jo,f2,hrl];rfl,?_⟩;exact fine w _ _ _ (fun _=>False) _ q1 (f12.tr q2) hr LtC.zero fun _ h=>h.elim
  have hbad:(e1≠0∨OC ws k1=0)→Ow ws k e=(Lt.zero,k1,Bh e1 4):=by
   intro hc;simp only[Ow];rw[hs,if_neg Fj,if_neg hna,hrt,if_pos hc]
  by_cases he1:e1=0
  case neg =>
   refine Lb 1000 (by simp only[go_sem,K5,Zw,g0,g2,m2,he1];rfl) ?_;exact badP (hbad (.inl he1)) (by simp only[go_sem,K5,g0]<;>rfl) (by simp only[go_sem,K5,g2]<;>rfl)
  subst he1;by_cases hkk:ws.length≤k1
  ·have hz:OC ws k1=0:=by unfold OC;rw[List.getElem?_eq_none hkk]
   refine Lb 1000 (by simp only[go_sem,K5,Zw,g0,g2,m0,m1,m2,hlv2,hkk];rfl) ?_;exact badP (hbad (.inr hz)) (by simp only[go_sem,K5,g0]<;>rfl) (by simp only[go_sem,K5,g2]<;>rfl)
  have hkl:k1<ws.length:=Fh;obtain⟨x,hx⟩:∃x,ws[k1]? = some x:=⟨_,FB hkl⟩;rcases hw2.at with⟨rfl,rfl⟩|⟨b,o,c,rfl,hneb,hltb,hat⟩
  ·simp at hkl
  obtain⟨a1,a2,a3⟩:=hat k1 x hx;by_cases h4:x.kind=4
  case neg =>
   have hz:OC ws k1=0:=by unfold OC;rw[hx];exact if_neg h4
   refine Lb 1000 (by simp only[go_sem,K5,Zw,g0,g2,m0,m1,m2,hkk,hkl,a1,h4];rfl) ?_;exact badP (hbad (.inr hz)) (by simp only[go_sem,K5,g0]<;>rfl) (by simp only[go_sem,K5,g2]<;>rfl)
  have hz:OC ws k1=TW x.text:=by unfold OC;rw[hx];exact if_pos h4
  refine K6 1000 (by simp only[go_sem,K5,Zw,g0,g2,m0,m1,m2,hkk,hkl,a1,a2,h4];rfl) ?_;refine K9 (by simp only[go_sem,K5]) (by simp only[go_sem,K5];rfl) ?_;refine Rs C ?_;by_cases hcz:TW x.text=0
  ·rw[hcz];refine Lb 1000 (by simp only[go_sem,K5];rfl) ?_;exact badP (hbad (.inr (hz.trans hcz))) (by simp only[go_sem,K5,g0]<;>rfl) (by simp only[go_sem,K5,g2]<;>rfl)
  refine K6 1000 (by simp only[go_sem,K5,Pu,g0,g2,m0,m1,hkl,a2,hcz];rfl) ?_;refine K9 (by simp only[go_sem,K5]) (by simp only[go_sem,K5];rfl) ?_;refine Rs C ?_;have hwr:KZ .i64 (Fq k1+1)=Fq (k1+1):=Lh Fh;have s3:=p2.cb.set (i:=1) (v:=.int .i64 (Fq (k1+1))) Fj rfl;have hp3:PSt (w2.put bp ([V.slice b o ws.length c,.int .i64 (Fq k1),.int .i64 (Fq 0)].set 1 (.int .i64 (Fq (k1+1))))) bp (.slice b o ws.length c) (k1+1) 0:=⟨p2.lt,AE.T.get_put_same⟩;have r3:Frm (fun b=>b=bp) w2 (w2.put bp ([V.slice b o ws.length c,.int .i64 (Fq k1),.int .i64 (Fq 0)].set 1 (.int .i64 (Fq (k1+1))))):=LW;generalize w2.put bp ([V.slice b o ws.length c,.int .i64 (Fq k1),.int .i64 (Fq 0)].set 1 (.int .i64 (Fq (k1+1))))=w3 at s3 hp3 r3;have hw3:=hw2.frm r3 fun y hy he=>hw2.no (he▸hy);refine K6 1000 (by simp only[go_sem,K5,Pt,g0,g2,g4,m1,hwr,s3,FC,FD];rfl) ?_;refine K9 (by simp only[go_sem,K5]) (by simp only[go_sem,K5];rfl) ?_;refine QV C hp3 hw3 hok (fun x hx=>FK (hT1 x hx) (f12.tr r3).next) fun w5 u1 u2=>?_;obtain⟨w6,s6,c6,r6,n6⟩:=Oj w5 (zs:=[V.int .i64 0,V.str [],V.int .i64 0]) (vs:=tmC (Ls ws (k1+1) 0).1) rfl rfl;have hb1:¬w1.next=bp:=by have:=hp1.lt;omega
  have la:=((((c2.frm r3 hb1).frm u2 hb1).frm r6 fun h=>h)).all (n:=3) rfl;have lb:=c6.all (n:=3) rfl;have hov1:over [V.int .i64 0,V.str [],V.int .i64 0,V.int .i64 0,V.str [],V.int .i64 0] 0 (tmC t)=some (tmC t++[V.int .i64 0,V.str [],V.int .i64 0]):=rfl;have hov2:over (tmC t++[V.int .i64 0,V.str [],V.int .i64 0]) 3 (tmC (Ls ws (k1+1) 0).1)=some (L8 [t,(Ls ws (k1+1) 0).1]):=rfl;have p7:=(u1.frm r6 fun h=>h).frm (LZ (S:=fun _=>False) w6 (L8 [t,(Ls ws (k1+1) 0).1])) fun h=>h;have c7:=OQ w6 (L8 [t,(Ls ws (k1+1) 0).1]);have f17:Frm (fun b=>b=bp) (aw.fresh zs) (w6.fresh (L8 [t,(Ls ws (k1+1) 0).1])):=(((f12.tr r3).tr u2).tr r6.no).tr (LZ _ _);have cr:=hc0.frm f17 hne;have hst:=cr.setAll (vs:=[V.int .i64 (Fq (TW x.text)),.str [],.slice w6.next 0 2 (.known 2)]) hzl rfl;have hrl:=(Oc (l:=[V.int .i64 (Fq (TW x.text)),.str [],.slice w6.next 0 2 (.known 2)]) cr.lt).all (n:=3) rfl
  have hr:Ow ws k e=(⟨TW x.text,[],[t,(Ls ws (k1+1) 0).1]⟩,(Ls ws (k1+1) 0).2.1,(Ls ws (k1+1) 0).2.2):=by
   have hng:¬((0:Nat)≠0∨OC ws k1=0):=by
    rintro (h|h)
    ·exact h rfl
    ·exact hcz (hz.symm.trans h)
   simp only[Ow];rw[hs,if_neg Fj,if_neg hna,hrt];simp only[];rw[if_neg hng,hz]
  refine K6 1000 (by simp only[go_sem,K5,Pr,g0,g2,g4,s6,SA,la,lb,Lg,Lj,hov1,hov2,over,hst,FC,FD];rfl) ?_;refine K7 ⟨_,by simp only[go_sem,K5,Jo,g2,hrl];rfl,?_⟩;have n17:=(((f12.tr r3).tr u2).tr (r6.no (S:=fun b=>b=bp))).next
  exact fine _ _ _ _ (fun y=>y=w6.next) _ p7 f17 hr ⟨_,rfl,Jwq (T:=fun y=>y=w6.next) rfl c7⟩ fun y hy=>by
   subst hy;exact⟨by omega,FW _⟩
 by_cases hkl:k<ws.length
 case neg =>
  have hna:¬(De ws k=1∧OC ws (k+1)=0):=by
   unfold De;rw[List.getElem?_eq_none Fh];simp
  refine K6 1000 (by simp only[go_sem,K5,Zx,l0,l1,hlv,hkl];rfl) ?_;exact termP hna (by simp only[go_sem,K5]<;>rfl) (by simp only[go_sem,K5]<;>rfl) (by simp only[go_sem,K5]<;>rfl)
 obtain⟨x,hx⟩:∃x,ws[k]? = some x:=⟨_,FB hkl⟩;have hkx:De ws k=x.kind:=by unfold De;rw[hx]
 rcases hw1.at with⟨rfl,rfl⟩|⟨b,o,c,rfl,hneb,hltb,hat⟩
 ·simp at hkl
 obtain⟨a1,a2,a3⟩:=hat k x hx;by_cases h1k:x.kind=1
 case neg =>
  have hna:¬(De ws k=1∧OC ws (k+1)=0):=fun h=>h1k (hkx.symm.trans h.1);refine K6 1000 (by simp only[go_sem,K5,Zx,l0,l1,hkl,a1,h1k];rfl) ?_;exact termP hna (by simp only[go_sem,K5]<;>rfl) (by simp only[go_sem,K5]<;>rfl) (by simp only[go_sem,K5]<;>rfl)
 have hwr:KZ .i64 (Fq k+1)=Fq (k+1):=Lh Fh
 have hr0:OC ws (k+1)=0→Ow ws k e=Lu ws k e:=by
  intro hz;simp only[Ow];rw[hs,if_neg Fj,if_pos ⟨hkx.trans h1k,hz⟩]
 by_cases hkl2:k+1<ws.length
 case neg =>
  have hz:OC ws (k+1)=0:=by unfold OC;rw[List.getElem?_eq_none Fh]
  refine Lb 1000 (by simp only[go_sem,K5,Zx,l0,l1,hkl,a1,h1k,hwr,hkl2];rfl) ?_;exact atomP (hr0 hz) (by simp only[go_sem,K5]<;>rfl) (by simp only[go_sem,K5]<;>rfl)
 obtain⟨y,hy⟩:∃x,ws[k+1]? = some x:=⟨_,FB hkl2⟩;obtain⟨b1,b2,b3⟩:=hat (k+1) y hy;by_cases h4:y.kind=4
 case neg =>
  have hz:OC ws (k+1)=0:=by unfold OC;rw[hy];exact if_neg h4
  refine Lb 1000 (by simp only[go_sem,K5,Zx,l0,l1,hkl,a1,h1k,hwr,hkl2,b1,h4];rfl) ?_;exact atomP (hr0 hz) (by simp only[go_sem,K5]<;>rfl) (by simp only[go_sem,K5]<;>rfl)
 have hz:OC ws (k+1)=TW y.text:=by unfold OC;rw[hy];exact if_pos h4
 refine K6 1000 (by simp only[go_sem,K5,Zx,l0,l1,hkl,a1,h1k,hwr,hkl2,b1,b2,h4];rfl) ?_;refine K9 (by simp only[go_sem,K5]) (by simp only[go_sem,K5];rfl) ?_;refine Rs C ?_;by_cases hcz:TW y.text=0
 ·rw[hcz];refine Lb 1000 (by simp only[go_sem,K5];rfl) ?_;exact atomP (hr0 (hz.trans hcz)) (by simp only[go_sem,K5]<;>rfl) (by simp only[go_sem,K5]<;>rfl)
 ·have hpos:0<TW y.text:=Fh;refine K6 1000 (by simp only[go_sem,K5,hpos];rfl) ?_;exact termP (fun h=>hcz (hz.symm.trans h.2)) (by simp only[go_sem,K5]<;>rfl) (by simp only[go_sem,K5]<;>rfl) (by simp only[go_sem,K5]<;>rfl)
end
section
open Go.AE Delphi
variable {tab:Tab}
theorem JuG {S:Fw}{v:V}{esz n:Nat}{cs:List V}(h:Buf S w v esz n cs):v.one=true∧v.cells=[v]:=by
 rcases h.inv with⟨rfl,_⟩|⟨_,rfl,_⟩<;>exact⟨rfl,rfl⟩
structure BS (a w:AW) (bp n8:Nat) (wv:V) (hd:Lt) (hv:V) (body:List Lt) (k e:Nat) (bv:V) (S T:Fw) (xss:List (List V)):Prop where
 p:PSt w bp wv k e
 frm:Frm (fun b=>b=bp) a w
 rule:CB w n8 [.int .i64 (Fq hd.kind),.str hd.name,hv,bv]
 head:Rd T w hv 3 hd.args.length (L8 hd.args)
 buf:Buf S w bv 3 body.length xss.flatten
 lits:All2 (LtC T w) body xss
 sepS:∀x,S x→a.next≤x∧x<w.next∧x≠n8∧¬T x
 sepT:∀x,T x→a.next≤x∧x<w.next∧x≠n8
structure BF (f:Fr) (bp n8:Nat) (v5 v7:V):Prop where
 f5:f.get 5=some v5
 f6:f.get 6=some (.ptr bp 0)
 f7:f.get 7=some v7
 f8:f.get 8=some (.ptr n8 0)
def Jsw (a:AW) (bp n8:Nat) (wv:V) (hd:Lt) (hv:V) (ws:List Wd) (v5 v7:V) (fin:List Lt×Nat×Nat) (q:Nat) (f:Fr) (w:AW):Prop :=
 ∃body k e bv S T xss,BF f bp n8 v5 v7∧BS a w bp n8 wv hd hv body k e bv S T xss∧body.length≤7∧k≤ws.length∧ws.length+1≤q+k∧OX ws q body k e=fin∧(e=0→body.length≤6)
def JvD (a:AW) (bp n8:Nat) (wv:V) (hd:Lt) (hv:V) (v5 v7:V) (fin:List Lt×Nat×Nat) (f:Fr) (w:AW):Prop :=
 ∃bv S T xss,BF f bp n8 v5 v7∧BS a w bp n8 wv hd hv fin.1 fin.2.1 fin.2.2 bv S T xss
theorem JqL {q:Nat}{l:List Lt}(h:e≠0):OX ws q l k e=(l,k,e):=by
 cases q with
 | zero=>rfl
 | succ q=>simp only[OX,if_neg h]
theorem Jrb (C:Codes tab){a:AW}{n8:Nat}{hd:Lt}{hv:V}{v5 v7:V}{fin:List Lt×Nat×Nat}{q:Nat}{f:Fr}{s:List SI}{Q:Fr→AW→Prop}(hw:Wds Tw a bp wv ws)(hok:∀x∈ws,WOk x)(hT:∀x,Tw x→x<a.next)(hlt:bp<a.next)(hn8:a.next≤n8)(hI:Jsw a bp n8 wv hd hv ws v5 v7 fin q f w)(ih:∀n' f' w',n'<q→Jsw a bp n8 wv hd hv ws v5 v7 fin n' f' w'→WS tab (.code (.loop J1) :: .endB 2::s) f' w' Q)(out:∀s' f' w',JvD a bp n8 wv hd hv v5 v7 fin f' w'→TM 2 s'=some s→WS tab (.code (.exit 2)::s') f' w' Q):WS tab (.code J1 :: .code (.loop J1) :: .endB 2::s) f w Q:=by
 obtain⟨body,k,e,bv,S,T,xss,⟨f5,f6,f7,f8⟩,hA,hl7,hk,hq,hfin,hl6⟩:=hI;have p2:=hA.p.l2;by_cases he:e=0
 case neg =>
  rw[JqL he]at hfin;refine Lb 1000 (by simp only[go_sem,J1,f6,p2,he];rfl) ?_;exact out _ _ _ ⟨bv,S,T,xss,⟨(by simp only[go_sem,K5,f5]<;>rfl),(by simp only[go_sem,K5,f6]<;>rfl),(by simp only[go_sem,K5,f7]<;>rfl),(by simp only[go_sem,K5,f8]<;>rfl)⟩,by rw[←hfin];exact hA⟩ rfl
 subst he;have hl6:=hl6 rfl;obtain⟨q,rfl⟩:∃q',q=q'+1:=⟨q-1,by omega⟩;refine K6 1000 (by simp only[go_sem,K5,J1,f6,p2];rfl) ?_;refine K9 (by simp only[go_sem,K5]) (by simp only[go_sem,K5];rfl) ?_;have hww:Wds Tw w bp wv ws:=hw.frm hA.frm fun x hx he=>hw.no (he▸hx);refine Jvg C hA.p hww hok (fun x hx=>FK (hT x hx) hA.frm.next) hk fun w1 Tn xs q1 q2 q3 q4=>?_;simp only[OX,if_true]at hfin;have hk1:=JpB (e:=0) hk;have hk1g:=JpA ws k 0;generalize hrt:Ow ws k 0=rt at hfin q1 hk1 hk1g q3;obtain⟨t,k1,e1⟩:=rt;simp only at hfin q1 hk1 hk1g q3;obtain⟨xl,xo⟩:=q3.one;obtain⟨w2,s2,c2,r2,n2⟩:=Oj w1 (zs:=[V.int .i64 0,V.str [],V.nilslice]) (vs:=xs) (by rw[xl];rfl) xo;have nx:=hA.frm.next;have nx1:=q2.next;have hnb:¬n8=bp:=Fh;have p2':=q1.frm r2 fun h=>h;have nS:∀x,S x→¬x=bp:=fun x hx he=>by have:=(hA.sepS x hx).1;omega
 have nT:∀x,T x→¬x=bp:=fun x hx he=>by have:=(hA.sepT x hx).1;omega
 have nTn:∀x,Tn x→¬x=bp:=fun x hx he=>by have:=(q4 x hx).1;omega
 have rule2:=(hA.rule.frm q2 hnb).frm r2 fun h=>h;have buf2:=(hA.buf.frm q2 nS).frm r2 fun _ _ h=>h;have l2:=p2'.l2;have la:w2.load n8 3 1=some [bv]:=by rw[rule2.load];rfl
 have lt:w2.load w1.next 0 3=some xs:=c2.all xl;have hlv:=buf2.lenV;have f02:Frm (fun b=>b=bp) a w2:=hA.frm.tr (q2.tr r2.no);have f12:Frm (fun b=>b=bp) w w2:=q2.tr r2.no
 have lits2:All2 (LtC (fun x=>T x∨Tn x) w2) (body++[t]) (xss++[xs]):=by
  refine All2.snoc ((q3.frm r2 fun _ _ h=>h).mono fun _ h=> .inr h) ?_;exact hA.lits.imp fun l ys hl=>(hl.frm f12 nT).mono fun _ h=> .inl h
 have head2:Rd (fun x=>T x∨Tn x) w2 hv 3 hd.args.length (L8 hd.args):=(hA.head.frm f12 nT).mono fun _ h=> .inl h
 have sepT2:∀x,T x∨Tn x→a.next≤x∧x<w2.next∧x≠n8:=by
  rintro x (hx|hx)
  ·have:=hA.sepT x hx;exact⟨this.1,by omega,this.2.2⟩
  ·have:=q4 x hx;have:=hA.rule.lt;exact⟨by omega,by omega,by omega⟩
 obtain⟨e2,he2⟩:∃e2,e2=if e1=0∧body.length=6 then 8 else e1:=⟨_,rfl⟩;rw[←he2]at hfin;have hl7':(body++[t]).length≤7:=by rw[FE,Kb];omega
 have hl64:e2=0→(body++[t]).length≤6:=by
  intro h0;rw[FE,Kb];split at he2
  ·omega
  ·rename_i hn;have:body.length≠6:=fun h=>hn ⟨by omega,h⟩;omega
 have hfin':(if OY ws k1 [44]=true then OX ws q (body++[t]) (k1+1) e2 else (body++[t],k1,e2))=fin:=hfin
 have cont:∀{fr:Fr} {w3:AW},BF fr bp n8 v5 v7→fr.get 9=some (.ptr w1.next 0)→PSt w3 bp wv k1 e2→Frm (fun b=>b=bp) w2 w3→WS tab (.code Uf :: .endB 3 :: .code (.loop J1) :: .endB 2::s) fr w3 Q:=by
  rintro fr w3 ⟨f5,f6,f7,f8⟩ f9 g1 g2;have n3:=g2.next;have buf3:=buf2.frm g2 nS;have rule3:=rule2.frm g2 hnb;have c3:=c2.frm g2 (by show ¬w1.next=bp;omega);have hS3:∀b,S b→b<w3.next:=fun b hb=>by have:=(hA.sepS b hb).2;omega
  obtain⟨v',w5,S5,a1,a2,a3,a4⟩:=buf3.push (news:=xs) (bytes:=48) hS3 Fh xl xo Fh Fh;have nrule:¬S n8:=fun h=>(hA.sepS _ h).2.2.1 rfl;have nbp:¬S bp:=fun h=>nS _ h rfl;obtain⟨vone,vc⟩:=JuG a2;have rule5:=rule3.frm a3 nrule;have pf:Frm (fun b=>b=n8) w5 (w5.put n8 [.int .i64 (Fq hd.kind),.str hd.name,hv,v']):=LW;have n5:=a3.next;have b1:w3.load n8 3 1=some [bv]:=by rw[rule3.load];rfl
  have b2:=c3.all xl;have b4:=Tj (w:=w3) (c:=.known 1) (by omega:0<1) (by rw[xl]:xs.length=1*3);have b5:=rule5.set (i:=3) (v:=v') Fj vone
  have sS5:∀x,S5 x→a.next≤x∧x<w5.next∧x≠n8∧¬(T x∨Tn x):=by
   intro x hx;obtain⟨m1,m2⟩:=a4 x hx;have hr:=hA.rule.lt;rcases m2 with m2|m2
   ·obtain⟨y1,y2,y3,y4⟩:=hA.sepS x m2;refine⟨y1,m1,y3,?_⟩;rintro (h|h)
    ·exact y4 h
    ·have:=(q4 x h).1;omega
   ·refine⟨by omega,m1,by omega,fun h=>?_⟩;have:=(sepT2 x h).2.1;omega
  have nT2:∀x,(T x∨Tn x)→¬x=bp:=fun x hx=>hx.elim (nT x) (nTn x)
  have nT3:∀x,(T x∨Tn x)→¬S x:=by
   rintro x (hx|hx) h
   ·exact (hA.sepS x h).2.2.2 hx
   ·have:=(q4 x hx).1;have:=(hA.sepS x h).2.1;omega
  have nT4:∀x,(T x∨Tn x)→¬x=n8:=fun x hx=>(sepT2 x hx).2.2
  have hA5:BS a (w5.put n8 [.int .i64 (Fq hd.kind),.str hd.name,hv,v']) bp n8 wv hd hv (body++[t]) k1 e2 v' S5 (fun x=>T x∨Tn x) (xss++[xs]):=by
   refine⟨(g1.frm a3 nbp).frm pf (fun h=>hnb h.symm),?_,Oc rule5.lt,((head2.frm g2 nT2).frm a3 nT3).frm pf nT4,?_,lits2.imp fun l ys hl=>((hl.frm g2 nT2).frm a3 nT3).frm pf nT4,fun x hx=>sS5 x hx,fun x hx=>?_⟩
   ·refine ((f02.tr g2).trans a3 (fun _ _ h=>h) fun x hx h=>?_).out hn8 rfl;have:=(hA.sepS x h).1;omega
   ·rw[FE,Kb,List.flatten_append,List.flatten_cons,List.flatten_nil,Kc];exact a2.frm pf fun x hx he=>(sS5 x hx).2.2.1 he
   ·have:=sepT2 x hx;exact⟨this.1,by have:(w5.put n8 [.int .i64 (Fq hd.kind),.str hd.name,hv,v']).next=w5.next:=rfl;omega,this.2.2⟩
  have hov:over [V.int .i64 0,V.str [],V.nilslice] 0 xs=some xs:=by
   have:=CZ [] [V.int .i64 0,V.str [],V.nilslice] [] xs (by rw[xl];rfl);simpa using this
  refine K6 1000 (by simp only[go_sem,K5,Uf,f6,f8,f9,vc,b1,b2,xl,Lg,Lj,hov,a1,b4,b5,FC,FD,List.set_cons_succ,List.set_cons_zero];rfl) ?_;refine K9 (by simp only[go_sem,K5]) (by simp only[go_sem,K5];rfl) ?_;have hw5:=hw.frm hA5.frm fun x hx he=>hw.no (he▸hx);refine DI C hA5.p hw5 ?_;cases hs:OY ws k1 [44]with
  | true =>
   rw[hs,if_pos rfl]at hfin';have hks:=Iz hs;have hwr:KZ .i64 (Fq k1+1)=Fq (k1+1):=Lh (by have:=hw.len;omega);have l1:=hA5.p.l1;have st:=hA5.p.cb.set (i:=1) (v:=.int .i64 (Fq (k1+1))) Fj rfl;have pf2:Frm (fun b=>b=bp) (w5.put n8 [.int .i64 (Fq hd.kind),.str hd.name,hv,v']) ((w5.put n8 [.int .i64 (Fq hd.kind),.str hd.name,hv,v']).put bp ([wv,.int .i64 (Fq k1),.int .i64 (Fq e2)].set 1 (.int .i64 (Fq (k1+1))))):=LW;refine K6 1000 (by simp only[go_sem,K5,HO,f6,f8,l1,hwr,st,FC,FD];rfl) ?_;exact ih q _ _ Fh ⟨body++[t],k1+1,e2,v',S5,_,_,⟨(by simp only[go_sem,K5,f5]<;>rfl),(by simp only[go_sem,K5,f6]<;>rfl),(by simp only[go_sem,K5,f7]<;>rfl),(by simp only[go_sem,K5,f8]<;>rfl)⟩,⟨⟨hA5.p.lt,AE.T.get_put_same⟩,hA5.frm.tr pf2,hA5.rule.frm pf2 hnb,hA5.head.frm pf2 nT2,hA5.buf.frm pf2 fun x hx he=>by have:=(sS5 x hx).1;omega,hA5.lits.imp fun l ys hl=>hl.frm pf2 nT2,hA5.sepS,hA5.sepT⟩,hl7',hks,by omega,hfin',hl64⟩
  | false =>
   rw[hs,if_neg Fj]at hfin';refine Lb 1000 (by simp only[go_sem,f6];rfl) ?_;exact out _ _ _ ⟨v',S5,_,_,⟨(by simp only[go_sem,K5,f5]<;>rfl),(by simp only[go_sem,K5,f6]<;>rfl),(by simp only[go_sem,K5,f7]<;>rfl),(by simp only[go_sem,K5,f8]<;>rfl)⟩,by rw[←hfin'];exact hA5⟩ rfl
 by_cases h6:e1=0∧body.length=6
 ·obtain⟨rfl,h6⟩:=h6;rw[h6]at hlv;rw[if_pos ⟨rfl,h6⟩]at he2;subst he2;refine K6 1000 (by simp only[go_sem,K5,Xl,HN,s2,xl,l2,la,hlv,f6,f8];rfl) ?_;refine K9 (by simp only[go_sem,K5]) (by simp only[go_sem,K5];rfl) ?_;refine CE C (x:=8) p2' fun w3 q3 q4 q5=>?_;refine Lb 1000 (by simp only[go_sem,K5];rfl) ?_;exact cont ⟨(by simp only[go_sem,K5,f5]<;>rfl),(by simp only[go_sem,K5,f6]<;>rfl),(by simp only[go_sem,K5,f7]<;>rfl),(by simp only[go_sem,K5,f8]<;>rfl)⟩ (by simp only[go_sem,K5]<;>rfl) q3 q4
 ·rw[if_neg h6]at he2;subst he2;by_cases h0:e2=0
  ·have h6':¬body.length=6:=fun h=>h6 ⟨h0,h⟩;subst h0;refine Lb 1000 (by simp only[go_sem,K5,Xl,s2,xl,l2,la,hlv,h6',f6,f8];rfl) ?_;exact cont ⟨(by simp only[go_sem,K5,f5]<;>rfl),(by simp only[go_sem,K5,f6]<;>rfl),(by simp only[go_sem,K5,f7]<;>rfl),(by simp only[go_sem,K5,f8]<;>rfl)⟩ (by simp only[go_sem,K5]<;>rfl) p2' (Frm.refl _)
  ·refine Lb 1000 (by simp only[go_sem,K5,Xl,s2,xl,l2,la,h0,f6,f8];rfl) ?_;exact cont ⟨(by simp only[go_sem,K5,f5]<;>rfl),(by simp only[go_sem,K5,f6]<;>rfl),(by simp only[go_sem,K5,f7]<;>rfl),(by simp only[go_sem,K5,f8]<;>rfl)⟩ (by simp only[go_sem,K5]<;>rfl) p2' (Frm.refl _)
end
end Go.Proofs.YtegdcbdicpfbpaaGreatDoor
