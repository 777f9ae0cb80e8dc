/- A part of the proof. -/
import Derived.Test.YtegdcbdicpfbpaaGreatDoorJrJ
import Derived.Test.YtegdcbdicpfbpaaGreatDoorJrI
set_option linter.unusedVariables false
set_option linter.unusedSectionVars false
set_option linter.unusedSimpArgs false
namespace Go.AE
variable [Globs]
section
variable {tab:Tab}
def Jel (fr:Fr) (hide:List Nat) (v:V) (a b:AW):Stp:=⟨Jb0 fr hide,v,a,b⟩
variable {fr:Fr} {hide:List Nat} {v:V} {a b:AW}
theorem JbE:(Jel fr hide v a b).fe=Jb0 fr hide:=rfl
theorem JbR:(Jel fr hide v a b).v=v:=rfl
theorem JbP:(Jel fr hide v a b).aw0=a:=rfl
theorem JbQ:(Jel fr hide v a b).aw1=b:=rfl
variable {l:List DOper} {aw aw':AW} {st:List Stp} {fr':Fr}
theorem JuN (h:Pass tab l fr aw st fr' aw'):∀{i:Nat} {d:DOper} {s:Stp},l[i]? = some d→st[i]? = some s→Jmd d s:=by
 induction l generalizing fr aw st with
 | nil=>intro i d s hd;simp at hd
 | cons x l ih =>
  intro i d s hd hs;cases h;rename_i h1 h2;cases i with
  | succ i=>exact ih h2 (by simpa using hd) (by simpa using hs)
  | zero =>
   simp at hd hs;subst hd;subst hs;cases h1 with
   | pass hw=>exact .inl hw
   | val hw ha=>exact .inr ⟨hw,fun _=>⟨_,ha⟩⟩
   | skip hw ha=>exact .inr ⟨hw,fun hq=>by obtain⟨_,v,h⟩:=JdC hq ha;cases h⟩
   | call hw ha hc=>exact .inr ⟨hw,fun hq=>by obtain⟨_,v,h⟩:=JdC hq ha;cases h⟩
   | ext hw ha hc=>exact .inr ⟨hw,fun hq=>by obtain⟨_,v,h⟩:=JdC hq ha;cases h⟩
theorem JpG (h:Pass tab l fr aw st fr' aw')(hc:Jbg l st (JhL l)):Jdw l st=true:=Jkn h.len (fun i d s=>JuN h) hc
def WDs (tab:Tab) (l:List DOper) (fr:Fr) (aw:AW) (acc:List Stp) (K:List Stp→Fr→AW→Prop):Prop:=WD tab l fr aw fun st f a=>K (acc.reverse++st) f a
variable {acc:List Stp} {K:List Stp→Fr→AW→Prop}
theorem JbO (h:K acc.reverse fr aw):WDs tab [] fr aw acc K:=by
 unfold WDs;rw[Jvl,Kc];exact h
theorem JiU {s:Stp}(h:WDs tab l fr aw (s::acc) K):WD tab l fr aw (fun st f a=>K (acc.reverse++s::st) f a):=by
 unfold WDs at h;simpa using h
variable {d:DOper} {aw1:AW}
theorem Jt1 (hw:wanted (Jb0 fr d.hide) d.op.guard=some true)(ha:aop d.op.op (Jb0 fr d.hide) aw=some (.val v,aw1))(h:WDs tab l (Jct fr d.op.dst v) aw1 (Jel fr d.hide v aw aw1::acc) K):WDs tab (d::l) fr aw acc K:=by
 unfold WDs;rw[JiT,Jf4,hw,ha];exact JiU h
theorem Jt0 (hw:wanted (Jb0 fr d.hide) d.op.guard=some true)(ha:aop d.op.op (Jb0 fr d.hide) aw=some (.skip,aw1))(h:WDs tab l (Jct fr d.op.dst .undef) aw1 (Jel fr d.hide .undef aw aw1::acc) K):WDs tab (d::l) fr aw acc K:=by
 unfold WDs;rw[JiT,Jf4,hw,ha];exact JiU h
theorem Jsg (hw:wanted (Jb0 fr d.hide) d.op.guard=some false)(h:WDs tab l (Jct fr d.op.dst .undef) aw (Jel fr d.hide .undef aw aw::acc) K):WDs tab (d::l) fr aw acc K:=by
 unfold WDs;rw[JiT,Jf4,hw];exact JiU h
theorem Jb4 {f:Nat}{args:List V}(hw:wanted (Jb0 fr d.hide) d.op.guard=some true)(ha:aop d.op.op (Jb0 fr d.hide) aw=some (.call f args,aw1))(h:WF tab f args aw1 (fun v a=>WDs tab l (Jct fr d.op.dst v) a (Jel fr d.hide v aw a::acc) K)):WDs tab (d::l) fr aw acc K:=by
 unfold WDs;rw[JiT,Jf4,hw,ha];exact .inl (h.mono fun v a h=>JiU h)
theorem JbM {s:List SI}{Q:Fr→AW→Prop}(h:WDs tab l fr aw [] (fun st f a=>Jbg l st (JhL l)∧WS tab s f a Q)):WS tab (.code (.drawn l)::s) fr aw Q:=by
 show WX tab (.drawn l) fr aw _;rw[Jsl];obtain⟨st,f,a,h1,h2,h3⟩:=h;exact⟨st,f,a,h1,JpG h1 h2,h3⟩
inductive DS where
 | on (l:List DOper) (fr:Fr) (aw:AW) (acc:List Stp)
def Jhs:Nat→List DOper→Fr→AW→List Stp→DS
 | 0,l,fr,aw,acc=> .on l fr aw acc
 | n+1,[],fr,aw,acc=> .on [] fr aw acc
 | n+1,d::l,fr,aw,acc=>match wanted (Jb0 fr d.hide) d.op.guard with
  | some true=>match aop d.op.op (Jb0 fr d.hide) aw with
   | some (.val v,aw1)=>Jhs n l (Jct fr d.op.dst v) aw1 (Jel fr d.hide v aw aw1::acc)
   | some (.skip,aw1)=>Jhs n l (Jct fr d.op.dst .undef) aw1 (Jel fr d.hide .undef aw aw1::acc)
   | _=> .on (d::l) fr aw acc
  | some false=>Jhs n l (Jct fr d.op.dst .undef) aw (Jel fr d.hide .undef aw aw::acc)
  | none=> .on (d::l) fr aw acc
theorem Jht {K:List Stp→Fr→AW→Prop}:∀(n:Nat) {l l':List DOper} {fr fr':Fr} {aw aw':AW} {acc acc':List Stp},Jhs n l fr aw acc = .on l' fr' aw' acc'→WDs tab l' fr' aw' acc' K→WDs tab l fr aw acc K
 | 0,l,l',fr,fr',aw,aw',acc,acc',h,hw=>by cases h;exact hw
 | n+1,[],l',fr,fr',aw,aw',acc,acc',h,hw=>by cases h;exact hw
 | n+1,d::l,l',fr,fr',aw,aw',acc,acc',h,hw=>by
  simp only[Jhs]at h;split at h
  ·rename_i h1;split at h
   ·rename_i h2;exact Jt1 h1 h2 (Jht n h hw)
   ·rename_i h2;exact Jt0 h1 h2 (Jht n h hw)
   ·cases h;exact hw
  ·rename_i h1;exact Jsg h1 (Jht n h hw)
  ·cases h;exact hw
theorem JmP:∃f:Nat→List DOper→Fr→AW→List Stp→DS,f=Jhs:=⟨_,rfl⟩
@[irreducible] noncomputable def dRunE:Nat→List DOper→Fr→AW→List Stp→DS:=Classical.choose JmP
theorem JjE:dRunE=Jhs:=by unfold dRunE;exact Classical.choose_spec JmP
theorem Jbn (n:Nat){l':List DOper}{acc':List Stp}(h:dRunE n l fr aw acc = .on l' fr' aw' acc')(hw:WDs tab l' fr' aw' acc' K):WDs tab l fr aw acc K:=by
 rw[JjE]at h;exact Jht n h hw
theorem Jq2 {n:Nat}:dRunE (n+1) [] fr aw acc = .on [] fr aw acc:=by rw[JjE];rfl
theorem JpF {n:Nat}:dRunE (n+1) (d::l) fr aw acc=match wanted (Jb0 fr d.hide) d.op.guard with
  | some true=>match aop d.op.op (Jb0 fr d.hide) aw with
   | some (.val v,aw1)=>dRunE n l (Jct fr d.op.dst v) aw1 (Jel fr d.hide v aw aw1::acc)
   | some (.skip,aw1)=>dRunE n l (Jct fr d.op.dst .undef) aw1 (Jel fr d.hide .undef aw aw1::acc)
   | _=> .on (d::l) fr aw acc
  | some false=>dRunE n l (Jct fr d.op.dst .undef) aw (Jel fr d.hide .undef aw aw::acc)
  | none=> .on (d::l) fr aw acc:=by rw[JjE];rfl
end
theorem JlP:∀(l:List V) (i:Nat) (v:V),i<l.length→over l i [v]=some (l.set i v)
 | [],i,v,h=>by simp at h
 | x::l,0,v,h=>by simp[over]
 | x::l,i+1,v,h=>by simp only[over,JlP l i v (by simpa using h),List.set_cons_succ]
variable {b:Nat} {l:List V}
theorem JhX {w:AW}{i:Nat}{v:V}(hx:w.heap.get b=some (.cells l .own))(hi:i<l.length)(hv:v.one=true):w.store b i [v]=some (w.turn b (.cells (l.set i v) .own)):=by
 simp only[AW.store,hx,AW.alive,Jbf,hv,JlP l i v hi]
theorem JqU {k:IntKind}{n:Int}:(V.int k n).cells=[.int k n]:=rfl
theorem Jpu {b:Bool}:(V.bool b).cells=[.bool b]:=rfl
theorem JqW {l:List Nat}:(V.str l).cells=[.str l]:=rfl
theorem JqT:(V.agg l).cells=l:=rfl
theorem Jn5 {o n:Nat}{c:Cap}:(V.slice b o n c).cells=[.slice b o n c]:=rfl
theorem JkX:V.nilslice.cells=[.nilslice]:=rfl
theorem JqV {o:Nat}:(V.ptr b o).cells=[.ptr b o]:=rfl
theorem JmI:V.nilptr.cells=[.nilptr]:=rfl
theorem Jwf:(false != false)=false:=rfl
theorem Jwg:(false != true)=true:=rfl
theorem Jwi:(true != false)=true:=rfl
theorem Jwj:(true != true)=false:=rfl
attribute [go_sem] Jq2 JpF Jwf Jwg Jwi Jwj JqU Jpu JqW JqT Jn5 JkX JqV JmI
section
variable [Globs]
end
section
variable [Globs]
theorem Jqr:JbT [] = .tuple []:=rfl
attribute [go_sem] Jqr Nat.add_zero
theorem Jba {tab:Tab}{id:Nat}{b:ACode}{s:List SI}{Q:Fr→AW→Prop}(I:Nat→Fr→AW→Prop)(J:Fr→AW→Prop)(step:∀n f w,I n f w→(∀n' f' w',n'<n→I n' f' w'→WS tab (.code (.loop b) :: .endB id::s) f' w' Q)→(∀s' f' w',J f' w'→JdS id s'=some s→WS tab (.code (.exit id)::s') f' w' Q)→WS tab (.code b :: .code (.loop b) :: .endB id::s) f w Q)(after:∀f w,J f w→WS tab s f w Q)(n:Nat){fr:Fr}{aw:AW}(h:I n fr aw):WS tab (.code (.loop b) :: .endB id::s) fr aw Q:=
 JdJ I (fun n f w hI ih=>step n f w hI ih fun s' f' w' hJ hp=>Joy hp (after f' w' hJ)) n h
def Al (T:Fw) (w:AW) (b:Nat) (sh:Share):Prop :=
 sh = .own∨sh = .lax∨sh = .ro∨∃f F,sh = .fam f∧T f∧f<w.next∧w.fams.get f=some F∧w.alive b sh=true
variable {T:Fw} {w:AW} {sh:Share}
theorem Al.alive (h:Al T w b sh):w.alive b sh=true:=by
 rcases h with rfl|rfl|rfl|⟨f,F,rfl,h1,h2,h3,h4⟩
 ·rfl
 ·rfl
 ·rfl
 ·exact h4
variable {S:Fw} {w':AW}
theorem Al.frm (h:Al T w b sh)(hf:Frm S w w')(hd:∀x,T x→¬S x):Al T w' b sh:=by
 rcases h with rfl|rfl|rfl|⟨f,F,rfl,h1,h2,h3,h4⟩
 ·exact .inl rfl
 ·exact .inr (.inl rfl)
 ·exact .inr (.inr (.inl rfl))
 ·have e:=hf.fams f h2 (hd f h1);refine .inr (.inr (.inr ⟨f,F,rfl,h1,FK h2 hf.next,e.trans h3,?_⟩));simp only[AW.alive,h3,e.trans h3]at h4 ⊢;exact h4
variable {T':Fw}
theorem Al.mono (h:Al T w b sh)(ht:∀x,T x→T' x):Al T' w b sh:=by
 rcases h with rfl|rfl|rfl|⟨f,F,rfl,h1,h2⟩
 ·exact .inl rfl
 ·exact .inr (.inl rfl)
 ·exact .inr (.inr (.inl rfl))
 ·exact .inr (.inr (.inr ⟨f,F,rfl,ht f h1,h2⟩))
def Jib (esz n:Nat):Cap→Prop
 | .known k=>n≤k
 | .upTo z=>z=esz∨n=0
inductive Rd (T:Nat→Prop) (w:AW):V→Nat→Nat→List V→Prop
 | nil {esz:Nat}:Rd T w .nilslice esz 0 []
 | blk {b o n esz:Nat} {c:Cap} {l cs:List V} {sh:Share} (hT:T b) (hb:b<w.next) (hx:w.heap.get b=some (.cells l sh)) (ha:Al T w b sh) (hl:o+n*esz≤l.length) (hcs:cs=(l.drop o).take (n*esz)) (hc:Jib esz n c):Rd T w (.slice b o n c) esz n cs
variable {v:V} {esz n:Nat} {cs:List V}
theorem Rd.len (h:Rd T w v esz n cs):cs.length=n*esz:=by
 cases h with
 | nil=>simp
 | blk hT hb hx ha hl hcs hc=>rw[hcs,FU,Ki];omega
theorem Rd.frm (h:Rd T w v esz n cs)(hf:Frm S w w')(hd:∀x,T x→¬S x):Rd T w' v esz n cs:=by
 cases h with
 | nil=>exact .nil
 | blk hT hb hx ha hl hcs hc=>exact .blk hT (FK hb hf.next) ((hf.heap _ hb (hd _ hT)).trans hx) (ha.frm hf hd) hl hcs hc
theorem Rd.mono (h:Rd T w v esz n cs)(ht:∀x,T x→T' x):Rd T' w v esz n cs:=by
 cases h with
 | nil=>exact .nil
 | blk hT hb hx ha hl hcs hc=>exact .blk (ht _ hT) hb hx (ha.mono ht) hl hcs hc
structure RdB (T:Fw) (w:AW) (b o n esz:Nat) (c:Cap) (cs:List V):Prop where
 own:T b
 lt:b<w.next
 fit:Jib esz n c
 load:∀i k,i+k≤n*esz→w.load b (o+i) k=some ((cs.drop i).take k)
 get:∃l sh,w.heap.get b=some (.cells l sh)∧w.alive b sh=true
theorem Rd.inv (h:Rd T w v esz n cs):(v = .nilslice∧n=0∧cs=[])∨∃b o c,v = .slice b o n c∧RdB T w b o n esz c cs:=by
 cases h with
 | nil=>exact .inl ⟨rfl,rfl,rfl⟩
 | @blk b o _ _ c l _ sh hT hb hx ha hl hcs hc =>
  refine .inr ⟨b,o,c,rfl,⟨hT,hb,hc,fun i k hik=>?_,l,sh,hx,ha.alive⟩⟩;simp only[AW.load,hx,ha.alive];rw[Jgd _ _ (by simp;omega),hcs]
  congr 1
  rw[List.drop_take,List.take_take,List.drop_drop,KD Fh]
theorem RdB.cell {o:Nat}{c:Cap}(h:RdB T w b o n esz c cs){i:Nat}{x:V}(hi:i<n*esz)(hx:cs[i]? = some x):w.load b (o+i) 1=some [x]:=by
 rw[h.load i 1 Fh];have hlt:i<cs.length:=(List.getElem?_eq_some_iff.1 hx).1;rw[FL hlt];rw[FB hlt]at hx;rw[FY hx];rfl
theorem Ji2 {α:Type}{r:α→List V→Prop}{sz:Nat}(hsz:∀a xs,r a xs→xs.length=sz):∀{l:List α} {xss:List (List V)},All2 r l xss→∀{i:Nat} {a:α},l[i]? = some a→∃xs,r a xs∧(xss.flatten.drop (i*sz)).take sz=xs
 | [],_,.nil,i,a,h=>by simp at h
 | x::l,y::m,.cons h1 h2,0,a,h=>by
  simp at h;subst h;refine⟨y,h1,?_⟩;rw[Nat.zero_mul,FZ,List.flatten_cons,←hsz _ _ h1,List.take_left'];rfl
 | x::l,y::m,.cons h1 h2,i+1,a,h=>by
  obtain⟨xs,q1,q2⟩:=Ji2 hsz h2 (i:=i) (a:=a) (by simpa using h);refine⟨xs,q1,?_⟩;have hy:=hsz _ _ h1;rw[List.flatten_cons,Nat.add_mul,Nat.one_mul,KA (i*sz),←List.drop_drop,←hy,List.drop_left' rfl,hy];exact q2
def RdL {α:Type} (r:AW→α→List V→Prop) (T:Fw) (w:AW) (v:V) (esz:Nat) (l:List α):Prop:=∃xss,Rd T w v esz l.length xss.flatten∧All2 (r w) l xss
variable {α:Type} {r:AW→α→List V→Prop}
theorem RdL.inv {l:List α}(h:RdL r T w v esz l)(hsz:∀a xs,r w a xs→xs.length=esz): (v = .nilslice∧l=[])∨∃b o c,v = .slice b o l.length c∧T b∧b<w.next∧Jib esz l.length c∧∀i a,l[i]? = some a→∃xs,r w a xs∧∀j k,j+k≤esz→w.load b (o+i*esz+j) k=some ((xs.drop j).take k):=by
 obtain⟨xss,h1,h2⟩:=h;rcases h1.inv with⟨q1,q2,q3⟩|⟨b,o,c,rfl,hB⟩
 ·exact .inl ⟨q1,List.length_eq_zero_iff.1 q2⟩
 ·refine .inr ⟨b,o,c,rfl,hB.own,hB.lt,hB.fit,fun i a hi=>?_⟩;obtain⟨xs,q1,q2⟩:=Ji2 hsz h2 hi;refine⟨xs,q1,fun j k hjk=>?_⟩;have hlt:i<l.length:=(List.getElem?_eq_some_iff.1 hi).1;have hle:(i+1)*esz≤l.length*esz:=Nat.mul_le_mul_right _ hlt;rw[Nat.add_mul,Nat.one_mul]at hle;rw[Kj,hB.load (i*esz+j) k Fh,←q2,List.drop_take,List.take_take,KD Fh,List.drop_drop]
theorem RdL.frm {l:List α}(h:RdL r T w v esz l)(hr:∀a xs,r w a xs→r w' a xs)(hf:Frm S w w')(hd:∀x,T x→¬S x):RdL r T w' v esz l:=by
 obtain⟨xss,h1,h2⟩:=h;exact⟨xss,h1.frm hf hd,h2.imp hr⟩
theorem RdL.mono {r':AW→α→List V→Prop}{l:List α}(h:RdL r T w v esz l)(hr:∀a xs,r w a xs→r' w a xs)(ht:∀x,T x→T' x):RdL r' T' w v esz l:=by
 obtain⟨xss,h1,h2⟩:=h;exact⟨xss,h1.mono ht,h2.imp hr⟩
theorem Buf.rd (h:Buf S w v esz n cs):Rd S w v esz n cs:=by
 cases h with
 | nil=>exact .nil
 | @blk b _ _ r _ rest sh hS hb hx hl hr he hn hs =>
  refine .blk hS hb hx ?_ (by rw[FE,hl];omega) (by rw[FZ,List.take_append_of_le_length Fh,FX Fh]) (.inl rfl);rcases hs with rfl|rfl|⟨f,F,rfl,h1,h2,h3,h4,h6,h5⟩
  ·exact .inl rfl
  ·exact .inr (.inl rfl)
  ·exact .inr (.inr (.inr ⟨f,F,rfl,h1,h2,h3,h5⟩))
theorem Own.rd {N:Nat}(h:Own N w v esz n cs):Rd (fun b=>N≤b∧b<w.next) w v esz n cs:=by
 cases h with
 | nil=>exact .nil
 | @blk b _ _ _ sh hN hb hx hl he hn hs =>
  refine .blk ⟨hN,hb⟩ hb hx ?_ Fh (by rw[FZ,FX Fh]) (.inl rfl);rcases hs with rfl|rfl|⟨f,F,rfl,h1,h2,h3,h4,h6,h5⟩
  ·exact .inl rfl
  ·exact .inr (.inl rfl)
  ·exact .inr (.inr (.inr ⟨f,F,rfl,⟨h1,h2⟩,h2,h3,h5⟩))
theorem Rd.elems (h:Rd T w v esz n cs):w.elems esz v=some (n,cs):=by
 have hlen:=h.len;rcases h.inv with⟨rfl,rfl,rfl⟩|⟨b,o,c,rfl,hB⟩
 ·rfl
 ·cases n with
  | zero =>
   have:cs=[]:=List.length_eq_zero_iff.1 Fh;subst this;rfl
  | succ n =>
   have:=hB.load 0 ((n+1)*esz) Fh;rw[KF,FZ,FX Fh]at this;simp only[AW.elems,this]
theorem Rd.lenV (h:Rd T w v esz n cs):lenV v=some n:=by cases h<;>rfl
theorem Buf.lenV (h:Buf S w v esz n cs):lenV v=some n:=by cases h<;>rfl
structure CB (w:AW) (b:Nat) (l:List V):Prop where
 lt:b<w.next
 get:w.heap.get b=some (.cells l .own)
theorem CB.frm (h:CB w b l)(hf:Frm S w w')(hn:¬S b):CB w' b l:=⟨FK h.lt hf.next,(hf.heap b h.lt hn).trans h.get⟩
theorem CB.load (h:CB w b l)(o n:Nat):w.load b o n=Jbh n (l.drop o):=by simp only[AW.load,h.get];rfl
theorem CB.all (h:CB w b l)(hn:l.length=n):w.load b 0 n=some l:=by rw[h.load,FZ];exact JfS _ _ hn
def AW.put (w:AW) (b:Nat) (l:List V):AW:=w.turn b (.cells l .own)
theorem CB.set {i:Nat}(h:CB w b l)(hi:i<l.length)(hv:v.one=true):w.store b i [v]=some (w.put b (l.set i v)):=JhX h.get hi hv
variable {vs:List V}
theorem CB.setAll (h:CB w b l)(hl:l.length=vs.length)(h1:Jbf vs=true):w.store b 0 vs=some (w.put b vs):=by
 have:over l 0 vs=some vs:=by
  have:=Jew [] l [] vs hl.symm;simpa using this
 exact JfR h.get (.inl rfl:Shr (fun _=>True) w b .own) h1 this
theorem Jbx (h:b<w.next):CB (w.put b l) b l:=⟨h,T.get_put_same⟩
theorem Jbj:Frm (fun x=>x=b) w (w.put b l):=Jdm (sh:=.own) rfl (.inl rfl)
theorem Jnz:(w.put b l).next=w.next:=rfl
theorem JbA (w:AW)(l:List V):CB (w.fresh l) w.next l:=⟨FW _,T.get_put_same⟩
theorem Jbc (w:AW)(l:List V):Frm S w (w.fresh l):=Frm.new w _
theorem Jb1 (w:AW){zs:List V}(hl:zs.length=vs.length)(h1:Jbf vs=true):∃w2,(w.fresh zs).store w.next 0 vs=some w2∧CB w2 w.next vs∧Frm (fun _=>False) w w2∧w2.next=w.next+1:=by
 refine⟨_,(JbA w zs).setAll hl h1,Jbx (FW _),?_,rfl⟩;refine (Jbc (S:=fun _=>False) w zs).trans (T:=fun b=>b=w.next) Jbj (fun _ _ h=>h) ?_;rintro y hy rfl;omega
theorem Frm.out {w1 w2:AW}(h:Frm S w w1)(hb:w.next≤b)(h2:w2=w1.put b l):Frm S w w2:=by
 subst h2;refine h.trans (T:=fun x=>x=b) Jbj (fun _ _ h=>h) ?_;rintro x hx rfl;omega
theorem Frm.tr {a b c:AW}(h:Frm S a b)(h':Frm S b c):Frm S a c:=h.trans h' (fun _ _ h=>h) fun _ _ h=>h
theorem Frm.no {a b:AW}(h:Frm (fun _=>False) a b):Frm S a b:=h.mono fun _ _ h=>h.elim
theorem All2.cells {r:α→List V→Prop}{l:List α}{xss:List (List V)}{a:α}{xs:List V}(h:All2 r l xss)(hx:r a xs):All2 r (l++[a]) (xss++[xs])∧(xss++[xs]).flatten=xss.flatten++xs:=⟨h.snoc hx,by simp⟩
end
end Go.AE
set_option maxRecDepth 10000
namespace Go.Proofs.YtegdcbdicpfbpaaGreatDoor
open Go.AE Delphi
variable {tab:Tab}
structure PSt (w:AW) (bp:Nat) (wv:V) (k e:Nat):Prop where
 lt:bp<w.next
 get:w.heap.get bp=some (.cells [wv,.int .i64 (Int.ofNat k),.int .i64 (Int.ofNat e)] .own)
variable {w:AW} {bp k e:Nat} {wv:V}
theorem PSt.frm {S:Fw}{w':AW}(h:PSt w bp wv k e)(hf:Frm S w w')(hn:¬S bp):PSt w' bp wv k e:=⟨FK h.lt hf.next,(hf.heap bp h.lt hn).trans h.get⟩
theorem PSt.l0 (h:PSt w bp wv k e):w.load bp 0 1=some [wv]:=by simp only[AW.load,h.get];rfl
theorem PSt.l1 (h:PSt w bp wv k e):w.load bp 1 1=some [.int .i64 (Int.ofNat k)]:=by simp only[AW.load,h.get];rfl
theorem PSt.l2 (h:PSt w bp wv k e):w.load bp 2 1=some [.int .i64 (Int.ofNat e)]:=by simp only[AW.load,h.get];rfl
def PSt.mk' (w:AW) (bp:Nat) (wv:V) (k e:Nat):AW:=w.turn bp (.cells [wv,.int .i64 (Int.ofNat k),.int .i64 (Int.ofNat e)] .own)
theorem PSt.s1 (h:PSt w bp wv k e)(k':Nat):w.store bp 1 [.int .i64 (Int.ofNat k')]=some (PSt.mk' w bp wv k' e):=by
 have:=JhX (i:=1) (v:=.int .i64 (Int.ofNat k')) h.get Fj rfl;exact this
theorem PSt.made (h:bp<w.next):PSt (PSt.mk' w bp wv k e) bp wv k e:=⟨h,AE.T.get_put_same⟩
theorem PSt.made_frm:Frm (fun b=>b=bp) w (PSt.mk' w bp wv k e):=Jdm (sh:=.own) rfl (.inl rfl)
structure Wds (Tw:Fw) (w:AW) (bp:Nat) (wv:V) (ws:List Wd):Prop where
 rd:Rd Tw w wv 3 ws.length (JeX ws)
 no:¬Tw bp
 len:ws.length≤4000
variable {Tw:Fw} {ws:List Wd}
theorem Wds.frm {S:Fw}{w':AW}(h:Wds Tw w bp wv ws)(hf:Frm S w w')(hd:∀x,Tw x→¬S x):Wds Tw w' bp wv ws:=⟨h.rd.frm hf hd,h.no,h.len⟩
theorem Jju (w:Wd):(JcZ w).length=3:=rfl
theorem Wds.at (h:Wds Tw w bp wv ws):(wv = .nilslice∧ws=[])∨∃b o c,wv = .slice b o ws.length c∧b≠bp∧b<w.next∧ ∀i x,ws[i]? = some x→w.load b (o+i*3) 1=some [.int .i64 (Int.ofNat x.kind)]∧w.load b (o+i*3+1) 1=some [.str x.text]∧w.load b (o+i*3) 3=some (JcZ x):=by
 rcases h.rd.inv with⟨q1,q2,_⟩|⟨b,o,c,rfl,hB⟩
 ·exact .inl ⟨q1,List.length_eq_zero_iff.1 q2⟩
 ·refine .inr ⟨b,o,c,rfl,fun he=>h.no (he▸hB.own),hB.lt,fun i x hx=>?_⟩;have hlt:i<ws.length:=(List.getElem?_eq_some_iff.1 hx).1
  have part:∀j k,j+k≤3→w.load b (o+i*3+j) k=some (((JcZ x).drop j).take k):=by
   intro j k hjk;have:=hB.load (i*3+j) k Fh;rw[Kj,this];have h2:=Jer Jju (i:=i) (j:=j) (k:=k) hx hjk;rw[FV]at h2;exact congrArg some h2
  exact⟨part 0 1 Fh,part 1 1 Fh,part 0 3 Fh⟩
variable {aw:AW} {K:V→AW→Prop}
theorem Je6 (C:Codes tab){x:Nat}(hp:PSt aw bp wv k e)(h:∀w,PSt w bp wv k (Jdj e x)→Frm (fun b=>b=bp) aw w→w.next=aw.next→K (.tuple []) w):WF tab Jr [.ptr bp 0,.int .i64 (Int.ofNat x)] aw K:=by
 refine Ja7 C.XE rfl ?_;have hg:=hp.get;by_cases he:e=0
 ·subst he;refine JaY 1000 (by simp only[go_sem,JaX,simprocAttr,AW.load,AW.store,AW.alive,AW.fresh,AW.new,AW.turn,AW.kill,Jbh,over,Jbf,V.one,V.cells,Jgb,Jbe,Ja4,FZ,List.drop_succ_cons,FC,FD,Nat.add_eq_left,Nat.left_eq_add,FV,Nat.one_ne_zero,Nat.add_right_cancel_iff,Nat.add_left_cancel_iff,Nat.succ_ne_self,List.head?_cons,if_true,if_false,Zu,hg];rfl) ?_;refine JdO ⟨_,by simp only[go_sem,JaX,simprocAttr,Zu];rfl,?_⟩;exact h _ ⟨hp.lt,AE.T.get_put_same⟩ (Jdm (sh:=.own) rfl (.inl rfl)) rfl
 ·have:Jdj e x=e:=if_neg he;rw[this]at h;refine JaY 1000 (by simp only[go_sem,JaX,simprocAttr,AW.load,AW.store,AW.alive,AW.fresh,AW.new,AW.turn,AW.kill,Jbh,over,Jbf,V.one,V.cells,Jgb,Jbe,Ja4,FZ,List.drop_succ_cons,FC,FD,Nat.add_eq_left,Nat.left_eq_add,FV,Nat.one_ne_zero,Nat.add_right_cancel_iff,Nat.add_left_cancel_iff,Nat.succ_ne_self,List.head?_cons,if_true,if_false,Zu,hg,he];rfl) ?_;refine JdO ⟨_,by simp only[go_sem,JaX,simprocAttr,Zu];rfl,?_⟩;exact h _ hp (Frm.refl _) rfl
variable {s:List Nat}
theorem JeU (C:Codes tab)(hp:PSt aw bp wv k e)(hw:Wds Tw aw bp wv ws)(h:K (.bool (Jcg ws k s)) aw):WF tab JK [.ptr bp 0,.str s] aw K:=by
 refine Ja7 C.XC rfl ?_;have hg:=hp.get;have l0:aw.load bp 0 1=some [wv]:=by simp only[AW.load,hg];rfl
 have l1:aw.load bp 1 1=some [.int .i64 (Int.ofNat k)]:=by simp only[AW.load,hg];rfl
 rcases hw.at with⟨rfl,rfl⟩|⟨b,o,c,rfl,hne,hlt,hat⟩
 ·have e1:¬k<0:=Fh;refine JaY 1000 (by simp only[go_sem,JaX,simprocAttr,Jv,l0,l1,e1];rfl) ?_;refine JaZ ⟨_,by simp only[go_sem,JaX,simprocAttr,Jv];rfl,?_⟩;exact h
 ·by_cases hk:k<ws.length
  ·have hx:ws[k]? = some ws[k]:=FB hk;obtain⟨a1,a2,_⟩:=hat k _ hx;unfold Jcg at h;rw[hx]at h;simp only at h;by_cases h4:ws[k].kind=4
   ·have hb:decide (ws[k].text=s)=eqL ws[k].text s:=by
     by_cases hh:ws[k].text=s
     ·rw[decide_eq_true hh];exact (eqL_iff.2 hh).symm
     ·rw[decide_eq_false hh];cases hc:eqL ws[k].text s with
      | false=>rfl
      | true=>exact absurd (eqL_iff.1 hc) hh
    rw[decide_eq_true h4,Bool.true_and,hb]at h;refine JaY 1000 (by simp only[go_sem,JaX,simprocAttr,Jv,l0,l1,hk,a1,a2,h4,Jck];rfl) ?_;refine JaZ ⟨_,by simp only[go_sem,JaX,simprocAttr,Jv];rfl,?_⟩;exact h
   ·rw[decide_eq_false h4,Bool.false_and]at h;refine JaY 1000 (by simp only[go_sem,JaX,simprocAttr,Jv,l0,l1,hk,a1,h4];rfl) ?_;refine JaZ ⟨_,by simp only[go_sem,JaX,simprocAttr,Jv];rfl,?_⟩;exact h
  ·have:Jcg ws k s=false:=by unfold Jcg;rw[List.getElem?_eq_none Fh]
   rw[this]at h;refine JaY 1000 (by simp only[go_sem,JaX,simprocAttr,Jv,l0,l1,hk];rfl) ?_;refine JaZ ⟨_,by simp only[go_sem,JaX,simprocAttr,Jv];rfl,?_⟩;exact h
theorem Jo4 (C:Codes tab)(hp:PSt aw bp wv k e)(hw:Wds Tw aw bp wv ws)(hk:k≤4000)(h:∀w,PSt w bp wv (JdZ ws s k e).1 (JdZ ws s k e).2→Frm (fun b=>b=bp) aw w→w.next=aw.next→K (.tuple []) w):WF tab YB [.ptr bp 0,.str s] aw K:=by
 refine Ja7 C.XF rfl ?_;have hg:=hp.get;have l2:aw.load bp 2 1=some [.int .i64 (Int.ofNat e)]:=by simp only[AW.load,hg];rfl
 have l1:aw.load bp 1 1=some [.int .i64 (Int.ofNat k)]:=by simp only[AW.load,hg];rfl
 unfold JdZ at h;by_cases he:e=0
 ·subst he;rw[if_pos rfl]at h;refine JaY 1000 (by simp only[go_sem,JaX,simprocAttr,J5,l2];rfl) ?_;refine Ja0 (by simp only[go_sem,JaX,simprocAttr]) (by simp only[go_sem,JaX,simprocAttr];rfl) ?_;refine JeU C hp hw ?_;cases hs:Jcg ws k s with
  | true =>
   rw[hs,if_pos rfl]at h;have hwr:IntKind.wrap .i64 (Int.ofNat k+1)=Int.ofNat (k+1):=Ja3 Fh;refine JaY 1000 (by simp only[go_sem,JaX,simprocAttr,AW.load,AW.store,AW.alive,AW.fresh,AW.new,AW.turn,AW.kill,Jbh,over,Jbf,V.one,V.cells,Jgb,Jbe,Ja4,FZ,List.drop_succ_cons,FC,FD,Nat.add_eq_left,Nat.left_eq_add,FV,Nat.one_ne_zero,Nat.add_right_cancel_iff,Nat.add_left_cancel_iff,Nat.succ_ne_self,List.head?_cons,if_true,if_false,hg,hwr];rfl) ?_;refine JdO ⟨_,by simp only[go_sem,JaX,simprocAttr,J5];rfl,?_⟩;exact h _ ⟨hp.lt,AE.T.get_put_same⟩ (Jdm (sh:=.own) rfl (.inl rfl)) rfl
  | false =>
   rw[hs,if_neg Fj]at h;refine JaY 1000 (by simp only[go_sem,JaX,simprocAttr];rfl) ?_;refine Ja0 (by simp only[go_sem,JaX,simprocAttr]) (by simp only[go_sem,JaX,simprocAttr];rfl) ?_;refine Je6 C (x:=4) hp fun w q1 q2 q3=>?_;refine JaY 1000 (by simp only[go_sem,JaX,simprocAttr];rfl) ?_;refine JaZ ⟨_,by simp only[go_sem,JaX,simprocAttr,J5];rfl,?_⟩;exact h w q1 q2 q3
 ·rw[if_neg he]at h;refine JaY 1000 (by simp only[go_sem,JaX,simprocAttr,J5,l2,he];rfl) ?_;refine JaZ ⟨_,by simp only[go_sem,JaX,simprocAttr,J5];rfl,?_⟩;exact h _ hp (Frm.refl _) rfl
theorem JgU (C:Codes tab)(h:K (.int .i64 (Int.ofNat (Jcu s))) aw):WF tab YD [.str s] aw K:=by
 refine Ja7 C.X4 rfl ?_
 have eqd:∀g:List Nat,eqL s g=decide (s=g):=fun g=>by
  by_cases hh:s=g
  ·rw[decide_eq_true hh];exact eqL_iff.2 hh
  ·rw[decide_eq_false hh];cases hc:eqL s g with
   | false=>rfl
   | true=>exact absurd (eqL_iff.1 hc) hh
 unfold Jcu at h;by_cases h1:s=[61]
 ·rw[if_pos h1]at h;refine JaY 1000 (by simp only[go_sem,JaX,simprocAttr,Jl,Zz,Jck,eqd,h1];rfl) ?_;refine JaZ ⟨_,by simp only[go_sem,JaX,simprocAttr,Jl];rfl,?_⟩;exact h
 rw[if_neg h1]at h;by_cases h2:s=[33,61]
 ·rw[if_pos h2]at h;refine JaY 1000 (by simp only[go_sem,JaX,simprocAttr,Jl,Zz,Jck,eqd,h1,h2];rfl) ?_;refine JaZ ⟨_,by simp only[go_sem,JaX,simprocAttr,Jl];rfl,?_⟩;exact h
 rw[if_neg h2]at h;by_cases h3:s=[60]
 ·rw[if_pos h3]at h;refine JaY 1000 (by simp only[go_sem,JaX,simprocAttr,Jl,Zz,X3,Jck,eqd,h1,h2,h3];rfl) ?_;refine JaZ ⟨_,by simp only[go_sem,JaX,simprocAttr,Jl];rfl,?_⟩;exact h
 rw[if_neg h3]at h;by_cases h4:s=[60,61]
 ·rw[if_pos h4]at h;refine JaY 1000 (by simp only[go_sem,JaX,simprocAttr,Jl,Zz,X3,Jck,eqd,h1,h2,h3,h4];rfl) ?_;refine JaZ ⟨_,by simp only[go_sem,JaX,simprocAttr,Jl];rfl,?_⟩;exact h
 ·rw[if_neg h4]at h;refine JaY 1000 (by simp only[go_sem,JaX,simprocAttr,Jl,Zz,X3,Jck,eqd,h1,h2,h3,h4];rfl) ?_;refine JaZ ⟨_,by simp only[go_sem,JaX,simprocAttr,Jl];rfl,?_⟩;exact h
section
open Go.AE Delphi
variable {tab:Tab}
def tmC (t:Tm):List V:=[.int .i64 (Int.ofNat t.kind),.str t.name,.int .i64 t.num]
def WOk (w:Wd):Prop:=w.text≠[]∧(w.kind≠4→w.text.length≤16)∧1≤w.kind∧w.kind≤4∧∀c∈w.text,c<256
variable {l vs:List V}
theorem Jez {b:Nat}(hx:w.heap.get b=some (.cells l .own))(hl:l.length=vs.length)(h1:Jbf vs=true):w.store b 0 vs=some (w.turn b (.cells vs .own)):=by
 have:over l 0 vs=some vs:=by
  have:=Jew [] l [] vs hl.symm;simpa using this
 exact JfR hx (.inl rfl:Shr (fun _=>True) w b .own) h1 this
theorem Jfu {b:Nat}{n:Nat}(h:vs.length=n):(w.turn b (.cells vs .own)).load b 0 n=some vs:=by
 have:(w.turn b (.cells vs .own)).heap.get b=some (.cells vs .own):=AE.T.get_put_same;simp only[AW.load,this,AW.alive,FZ];exact JfS _ _ h
theorem Jk6 {zs:List V}(h:Frm (fun b=>b=bp) (aw.fresh zs) w):Frm (fun b=>b=bp) aw (w.turn aw.next (.cells vs .own)):=by
 refine ((Frm.new (S:=fun _=>False) aw (.cells zs .own)).trans h (fun _ _ h=>h.elim) (fun _ _ h=>h)).trans (T:=fun b=>b=aw.next) (Jdm rfl (.inl rfl)) (fun _ _ h=>h) ?_;rintro x hx rfl;omega
theorem Jip:(aw.fresh l).heap.get aw.next=some (.cells l .own):=AE.T.get_put_same
theorem Jwk {c:Nat}(h:c<256):IntKind.wrap .u8 (Int.ofNat c-48)=Int.ofNat ((c+208) % 256):=by
 have e:Int.ofNat ((c+208) % 256)=(((c:Int)+208) % 256):=Fj;rw[e];show IntKind.wrap .u8 ((c:Int)-48)=_;unfold IntKind.wrap;simp only[IntKind.signed,IntKind.bits,Bool.false_and,FM,if_false];omega
theorem JlB {n:Nat}(h:n≤9223372036854775807):IntKind.wrap .i64 (Int.ofNat n)=Int.ofNat n:=JdM (by show (-9223372036854775808:Int)≤(n:Int);omega) (by show (n:Int)≤9223372036854775807;omega)
def Jwu (n0 n1 bp:Nat) (s:List Nat) (aw:AW) (q:Nat) (f:Fr) (w:AW):Prop :=
 ∃i m,f.get 0=some (.ptr bp 0)∧f.get 2=some (.ptr n0 0)∧f.get 3=some (.ptr n1 0)∧f.get 4=some (.int .i64 (Int.ofNat m))∧f.get 5=some (.int .i64 (Int.ofNat i))∧w=aw∧i≤s.length∧Jf0 s=(s.drop i).foldl Jex m∧m+29≤29*10 ^ i∧q=s.length-i
theorem JjX (C:Codes tab)(hp:PSt aw bp wv k e)(hw:Wds Tw aw bp wv ws)(hok:∀x∈ws,WOk x)(hT:∀x,Tw x→x<aw.next)(h:∀w,PSt w bp wv (Jbl ws k e).2.1 (Jbl ws k e).2.2→Frm (fun b=>b=bp) aw w→K (.agg (tmC (Jbl ws k e).1)) w):WF tab ZK [.ptr bp 0] aw K:=by
 refine Ja7 C.X2 rfl ?_;have hlt:=hp.lt;have hne:¬bp=aw.next:=Fh;obtain⟨zs,hzs⟩:∃zs,zs=[V.int .i64 0,V.str [],V.int .i64 0]:=⟨_,rfl⟩;have hp1:=hp.frm (Jbc (S:=fun _=>False) aw zs) fun h=>h;have hw1:=hw.frm (Jbc (S:=fun _=>False) aw zs) fun _ _ h=>h;have hg:=hp1.get;have l0:(aw.fresh zs).load bp 0 1=some [wv]:=by simp only[AW.load,hg];rfl
 have l1:(aw.fresh zs).load bp 1 1=some [.int .i64 (Int.ofNat k)]:=by simp only[AW.load,hg];rfl
 have l2:(aw.fresh zs).load bp 2 1=some [.int .i64 (Int.ofNat e)]:=by simp only[AW.load,hg];rfl
 have hzl:zs.length=3:=by rw[hzs];rfl
 have hov:∀v:V,over zs 0 [v]=some [v,V.str [],V.int .i64 0]:=fun v=>by rw[hzs];rfl
 have fin:∀(w w':AW) (k':Nat),PSt w bp wv k' 4→Frm (fun b=>b=bp) (aw.fresh zs) w→(Jbl ws k e)=(Tm.zero,k',4)→w'=w.turn aw.next (.cells zs .own)→K (.agg zs) w':=by
  intro w w' k' h1 h2 h3 h4;subst h4;rw[h3]at h;have:=h (w.turn aw.next (.cells zs .own)) (h1.frm (S:=fun b=>b=aw.next) (Jdm rfl (.inl rfl)) (fun h=>hne h)) (Jk6 h2);rw[hzs]at this ⊢;exact this
 have no:∀{s:List SI} {fr:Fr},Jbl ws k e=(Tm.zero,k,Jdj e 4)→fr.get 0=some (.ptr bp 0)→fr.get 2=some (.ptr aw.next 0)→WS tab (.code UE::s) fr (aw.fresh zs) (fun fr' aw'=>∃vs,Jcv fr' aw' Je.results=some vs∧K (JbT vs) aw'):=by
  intro s fr hr f0 f2;refine JaY 1000 (by simp only[go_sem,JaX,simprocAttr,UE,f0,f2];rfl) ?_;refine Ja0 (by simp only[go_sem,JaX,simprocAttr]) (by simp only[go_sem,JaX,simprocAttr];rfl) ?_;refine Je6 C (x:=4) hp1 fun w q1 q2 q3=>?_;have hst:=Jez (vs:=[V.int .i64 0,V.str [],V.int .i64 0]) ((q2.heap aw.next (FW _) (fun h=>hne h.symm)).trans Jip) hzl rfl;have hrl:=Jfu (w:=w) (b:=aw.next) (vs:=[V.int .i64 0,V.str [],V.int .i64 0]) (n:=3) rfl;refine JaY 1000 (by simp only[go_sem,JaX,simprocAttr,f0,f2,Ja4,Jbe,V.cells,hst,FC,FD];rfl) ?_;refine JaZ ⟨_,by simp only[go_sem,JaX,simprocAttr,Je,f2,hrl];rfl,?_⟩;rw[hr]at h;have:=h (w.turn aw.next (.cells zs .own)) (q1.frm (S:=fun b=>b=aw.next) (Jdm rfl (.inl rfl)) (fun h=>hne h)) (Jk6 q2);rw[hzs]at this;exact this
 by_cases he:e=0
 case neg =>
  have hr:Jbl ws k e=(Tm.zero,k,Jdj e 4):=by simp[Jbl,JdT,he]
  refine Ja2 1000 (by simp only[go_sem,JaX,simprocAttr,Je,←hzs,l2,he];rfl) ?_;exact no hr (by simp only[go_sem,JaX,simprocAttr]<;>rfl) (by simp only[go_sem,JaX,simprocAttr]<;>rfl)
 subst he;by_cases hk:ws.length≤k
 ·have hr:Jbl ws k 0=(Tm.zero,k,Jdj 0 4):=by
   have:JdT ws k 0=none:=by unfold JdT;rw[if_pos rfl,List.getElem?_eq_none hk]
   simp only[Jbl,this]
  rcases hw1.at with⟨rfl,rfl⟩|⟨b,o,c,rfl,hneb,hltb,hat⟩
  ·have e1:0≤k:=Fh;refine Ja2 1000 (by simp only[go_sem,JaX,simprocAttr,Je,←hzs,l0,l1,l2,e1];rfl) ?_;exact no hr (by simp only[go_sem,JaX,simprocAttr]<;>rfl) (by simp only[go_sem,JaX,simprocAttr]<;>rfl)
  ·refine Ja2 1000 (by simp only[go_sem,JaX,simprocAttr,Je,←hzs,l0,l1,l2,hk];rfl) ?_;exact no hr (by simp only[go_sem,JaX,simprocAttr]<;>rfl) (by simp only[go_sem,JaX,simprocAttr]<;>rfl)
 have hkl:k<ws.length:=Fh;obtain⟨x,hx⟩:∃x,ws[k]? = some x:=⟨_,FB hkl⟩;have hnx:JdT ws k 0=some x:=by unfold JdT;rw[if_pos rfl,hx]
 obtain⟨x1,x2,x3,x4,x5⟩:=hok x (FI hx);rcases hw1.at with⟨rfl,rfl⟩|⟨b,o,c,rfl,hneb,hltb,hat⟩
 ·simp at hkl
 obtain⟨a1,a2,a3⟩:=hat k x hx;by_cases h4:x.kind=4
 ·have hr:Jbl ws k 0=(Tm.zero,k,Jdj 0 4):=by
   simp only[Jbl,hnx];rw[if_pos h4];rfl
  refine Ja2 1000 (by simp only[go_sem,JaX,simprocAttr,Je,←hzs,l0,l1,l2,hk,hkl,a1,h4];rfl) ?_;exact no hr (by simp only[go_sem,JaX,simprocAttr]<;>rfl) (by simp only[go_sem,JaX,simprocAttr]<;>rfl)
 refine JaY 1000 (by simp only[go_sem,JaX,simprocAttr,Je,←hzs,l0,l1,l2,hk,hkl,a1,h4];rfl) ?_;refine JbM ?_;have hbn:¬b=(aw.fresh zs).next:=Fh
 have lift:∀{b' o' n' l'},b'<(aw.fresh zs).next→(aw.fresh zs).load b' o' n'=some l'→((aw.fresh zs).fresh zs).load b' o' n'=some l':=by
  intro b' o' n' l' hb hl;have:((aw.fresh zs).fresh zs).heap.get b'=(aw.fresh zs).heap.get b':=AE.T.get_put_ne Fh;simp only[AW.load]at hl ⊢;rw[this];exact hl
 have m0:=lift hp1.lt l0;have m1:=lift hp1.lt l1;have m3:=lift hltb a3;have hst:=Jez (w:=(aw.fresh zs).fresh zs) (vs:=JcZ x) Jip hzl rfl;refine Jbn 100 (by simp only[go_sem,JaX,simprocAttr,←hzs,l0,l1,hkl,a3,Jju,hst];rfl) ?_;refine JbO ⟨(show Jbg _ _ [(3,10),(7,10),(9,10)]from by simp only[go_sem,JaX,simprocAttr,Jbg,chk,List.reverse_cons,List.reverse_nil,JbE,JbR,JbP,JbQ,List.getElem?_nil,false_or,or_true,or_false,exists_eq',FQ,Prod.mk.injEq,Bool.true_eq_false,FM,and_true,true_and,implies_true,l0,l1,m0,m1,hkl,a3,m3]),?_⟩
 have g2:Frm (fun _=>False) (aw.fresh zs) (((aw.fresh zs).fresh zs).turn (aw.fresh zs).next (.cells (JcZ x) .own)):=by
  refine (Jbc (S:=fun _=>False) _ zs).trans (T:=fun b=>b=(aw.fresh zs).next) (Jdm rfl (.inl rfl)) (fun _ _ h=>h) ?_;rintro y hy rfl;omega
 have g3:(((aw.fresh zs).fresh zs).turn (aw.fresh zs).next (.cells (JcZ x) .own)).heap.get (aw.fresh zs).next=some (.cells (JcZ x) .own):=AE.T.get_put_same;generalize ((aw.fresh zs).fresh zs).turn (aw.fresh zs).next (.cells (JcZ x) .own)=w3 at g2 g3 ⊢;have hp3:=hp1.frm g2 fun h=>h;have hwr:IntKind.wrap .i64 (Int.ofNat k+1)=Int.ofNat (k+1):=Ja3 (by have:=hw.len;omega);have hn1:¬(aw.fresh zs).next=bp:=by have:=hp1.lt;omega
 have g4:(PSt.mk' w3 bp (.slice b o ws.length c) (k+1) 0).heap.get (aw.fresh zs).next=some (.cells (JcZ x) .own):=(AE.T.get_put_ne hn1).trans g3;have hp4:=PSt.made (wv:=.slice b o ws.length c) (k:=k+1) (e:=0) hp3.lt;have g5:Frm (fun b=>b=bp) (aw.fresh zs) (PSt.mk' w3 bp (.slice b o ws.length c) (k+1) 0):=g2.trans PSt.made_frm (fun _ _ h=>h.elim) (fun _ _ h=>h);have s1:=hp3.s1 (k+1);have l31:=hp3.l1;generalize hw4:PSt.mk' w3 bp (.slice b o ws.length c) (k+1) 0=w4 at g4 hp4 g5 s1;have c0:w4.load (aw.fresh zs).next 0 1=some [.int .i64 (Int.ofNat x.kind)]:=by simp only[AW.load,g4];rfl
 have c1:w4.load (aw.fresh zs).next 1 1=some [.str x.text]:=by simp only[AW.load,g4];rfl
 have gn0:w4.heap.get aw.next=some (.cells zs .own):=(g5.heap aw.next (FW _) (fun h=>hne h.symm)).trans Jip
 have fine:∀(w:AW) (k' e':Nat) (t:Tm),PSt w bp (.slice b o ws.length c) k' e'→Frm (fun b=>b=bp) (aw.fresh zs) w→Jbl ws k 0=(t,k',e')→K (.agg (tmC t)) (w.turn aw.next (.cells (tmC t) .own)):=by
  intro w k' e' t h1 h2 h3;rw[h3]at h;exact h _ (h1.frm (S:=fun b=>b=aw.next) (Jdm rfl (.inl rfl)) (fun h=>hne h)) (Jk6 h2)
 by_cases hk1:x.kind=1
 ·have hr:Jbl ws k 0=(⟨2,x.text,0⟩,k+1,0):=by
   simp only[Jbl,hnx];rw[if_neg h4,if_pos hk1]
  have hst:=Jez (vs:=[V.int .i64 2,V.str x.text,V.int .i64 0]) gn0 hzl rfl;have hrl:=Jfu (w:=w4) (b:=aw.next) (vs:=[V.int .i64 2,V.str x.text,V.int .i64 0]) (n:=3) rfl;refine JaY 1000 (by simp only[go_sem,JaX,simprocAttr,X1,PT,l31,hwr,s1,c0,c1,hk1,Ja4,Jbe,over,hst,FC,FD];rfl) ?_;refine JaZ ⟨_,by simp only[go_sem,JaX,simprocAttr,Je,hrl];rfl,?_⟩;exact fine w4 _ _ _ hp4 g5 hr
 by_cases hk2:x.kind=2
 ·have hr:Jbl ws k 0=(⟨1,x.text,0⟩,k+1,0):=by
   simp only[Jbl,hnx];rw[if_neg h4,if_neg hk1,if_pos hk2]
  have hst:=Jez (vs:=[V.int .i64 1,V.str x.text,V.int .i64 0]) gn0 hzl rfl;have hrl:=Jfu (w:=w4) (b:=aw.next) (vs:=[V.int .i64 1,V.str x.text,V.int .i64 0]) (n:=3) rfl;refine JaY 1000 (by simp only[go_sem,JaX,simprocAttr,X1,PS,l31,hwr,s1,c0,c1,hk1,hk2,Ja4,Jbe,over,hst,FC,FD];rfl) ?_;refine JaZ ⟨_,by simp only[go_sem,JaX,simprocAttr,Je,hrl];rfl,?_⟩;exact fine w4 _ _ _ hp4 g5 hr
 have hlen:=x2 h4;refine JaY 1000 (by simp only[go_sem,JaX,simprocAttr,X1,l31,hwr,s1,c0,c1,hk1,hk2,FC,FD];rfl) ?_;refine JdJ (Jwu aw.next (aw.fresh zs).next bp x.text w4) ?_ x.text.length ⟨0,0,(by simp only[go_sem,JaX,simprocAttr]<;>rfl),(by simp only[go_sem,JaX,simprocAttr]<;>rfl),(by simp only[go_sem,JaX,simprocAttr]<;>rfl),(by simp only[go_sem,JaX,simprocAttr]<;>rfl),(by simp only[go_sem,JaX,simprocAttr]<;>rfl),rfl,by omega,rfl,by simp,by omega⟩;rintro q f w ⟨i,m,f0,f2,f3,f4,f5,rfl,hi,hm,hb,rfl⟩ ih;by_cases hil:i<x.text.length
 ·obtain⟨ch,hch⟩:∃ch,x.text[i]? = some ch:=⟨_,FB hil⟩;have hc256:ch<256:=x5 ch (FI hch);have hwi:IntKind.wrap .i64 (Int.ofNat i+1)=Int.ofNat (i+1):=Ja3 Fh
  have hd:x.text.drop i=ch::x.text.drop (i+1):=by
   rw[FL hil];rw[FB hil]at hch;rw[FY hch]
  rw[hd,Ku]at hm
  have hpow:29*10 ^ (i+1)≤290000000000000000:=by
   have:10 ^ (i+1)≤10 ^ 16:=Nat.pow_le_pow_right Fh Fh;omega
  have hp10:10 ^ (i+1)=10 ^ i*10:=Nat.pow_succ ..;by_cases h45:ch=45
  ·rw[show Jex m ch=m from if_pos h45]at hm;refine JaY 1000 (by simp only[go_sem,JaX,simprocAttr,Zy,UF,f0,f2,f3,f4,f5,c1,hil,hch,h45,hwi];rfl) ?_;exact ih (x.text.length-(i+1)) _ _ Fh ⟨i+1,m,(by simp only[go_sem,JaX,simprocAttr,f0]<;>rfl),(by simp only[go_sem,JaX,simprocAttr,f2]<;>rfl),(by simp only[go_sem,JaX,simprocAttr,f3]<;>rfl),(by simp only[go_sem,JaX,simprocAttr,f4]<;>rfl),(by simp only[go_sem,JaX,simprocAttr]<;>rfl),rfl,by omega,hm,by omega,rfl⟩
  ·rw[show Jex m ch=m*10+(ch+208) % 256 from if_neg h45]at hm;have e1:=Jwk hc256;have e2:IntKind.wrap .i64 (Int.ofNat ((ch+208) % 256))=Int.ofNat ((ch+208) % 256):=JlB Fh
   have e3:IntKind.wrap .i64 (Int.ofNat m*10)=Int.ofNat (m*10):=by
    have:Int.ofNat m*10=Int.ofNat (m*10):=Fj;rw[this];exact JlB Fh
   have e4:IntKind.wrap .i64 (Int.ofNat (m*10)+Int.ofNat ((ch+208) % 256))=Int.ofNat (m*10+(ch+208) % 256):=JhZ Fh;refine JaY 1000 (by simp only[go_sem,JaX,simprocAttr,Zy,UF,PU,f0,f2,f3,f4,f5,c1,hil,hch,h45,hwi,e1,e2,e3,e4];rfl) ?_;exact ih (x.text.length-(i+1)) _ _ Fh ⟨i+1,_,(by simp only[go_sem,JaX,simprocAttr,f0]<;>rfl),(by simp only[go_sem,JaX,simprocAttr,f2]<;>rfl),(by simp only[go_sem,JaX,simprocAttr,f3]<;>rfl),(by simp only[go_sem,JaX,simprocAttr]<;>rfl),(by simp only[go_sem,JaX,simprocAttr]<;>rfl),rfl,by omega,hm,by omega,rfl⟩
 ·rw[List.drop_eq_nil_of_le (by omega:x.text.length≤i)]at hm;have hm:Jf0 x.text=m:=hm;by_cases hbig:2147483648<m
  ·have hr:Jbl ws k 0=(Tm.zero,k+1,4):=by
    simp only[Jbl,hnx];rw[if_neg h4,if_neg hk1,if_neg hk2,if_pos Fh]
   refine JaY 1000 (by simp only[go_sem,JaX,simprocAttr,Zy,PV,f0,f2,f3,f4,f5,c1,hil,hbig];rfl) ?_;refine Ja0 (by simp only[go_sem,JaX,simprocAttr]) (by simp only[go_sem,JaX,simprocAttr];rfl) ?_;refine Je6 C (x:=4) hp4 fun w5 q1 q2 q3=>?_;have gn5:w5.heap.get aw.next=some (.cells zs .own):=(q2.heap aw.next (FK (FW _) g5.next) (fun h=>hne h.symm)).trans gn0;have hst:=Jez (vs:=[V.int .i64 0,V.str [],V.int .i64 0]) gn5 hzl rfl;have hrl:=Jfu (w:=w5) (b:=aw.next) (vs:=[V.int .i64 0,V.str [],V.int .i64 0]) (n:=3) rfl;refine JaY 1000 (by simp only[go_sem,JaX,simprocAttr,f0,f2,Ja4,Jbe,over,hst,FC,FD];rfl) ?_;refine JaZ ⟨_,by simp only[go_sem,JaX,simprocAttr,Je,f2,hrl];rfl,?_⟩;exact fine w5 _ _ _ q1 (g5.trans q2 (fun _ _ h=>h) (fun _ _ h=>h)) hr
  ·obtain⟨c0',t',hct⟩:∃c t,x.text=c::t:=by
    cases hh:x.text with
    | nil=>exact absurd hh x1
    | cons c t=>exact⟨c,t,rfl⟩
   have hl0:0<x.text.length:=by rw[hct];simp
   have hch0:x.text[0]? = some c0':=by rw[hct];rfl
   by_cases h45:c0'=45
   ·have hr:Jbl ws k 0=(⟨3,[],-(m:Int)⟩,k+1,0):=by
     simp only[Jbl,hnx];rw[if_neg h4,if_neg hk1,if_neg hk2,if_neg Fh,hct,hm.symm,hct];simp[h45]
    have e5:IntKind.wrap .i64 (0-Int.ofNat m) = -(m:Int):=by
     have:(0:Int)-Int.ofNat m = -(m:Int):=Fj;rw[this];exact JdM Fh Fh
    have hst:=Jez (vs:=[V.int .i64 3,V.str [],V.int .i64 (-(m:Int))]) gn0 hzl rfl;have hrl:=Jfu (w:=w) (b:=aw.next) (vs:=[V.int .i64 3,V.str [],V.int .i64 (-(m:Int))]) (n:=3) rfl;refine JaY 1000 (by simp only[go_sem,JaX,simprocAttr,Zy,f0,f2,f3,f4,f5,c1,hil,hbig,hl0,hch0,h45,e5,Ja4,Jbe,hov,over,hst,FC,FD];rfl) ?_;refine JaZ ⟨_,by simp only[go_sem,JaX,simprocAttr,Je,f2,hrl];rfl,?_⟩;exact fine w _ _ _ hp4 g5 hr
   ·have hr:Jbl ws k 0=(⟨3,[],(m:Int)⟩,k+1,0):=by
     simp only[Jbl,hnx];rw[if_neg h4,if_neg hk1,if_neg hk2,if_neg Fh,hct,hm.symm,hct];simp[h45]
    have hst:=Jez (vs:=[V.int .i64 3,V.str [],V.int .i64 (Int.ofNat m)]) gn0 hzl rfl;have hrl:=Jfu (w:=w) (b:=aw.next) (vs:=[V.int .i64 3,V.str [],V.int .i64 (Int.ofNat m)]) (n:=3) rfl;refine JaY 1000 (by simp only[go_sem,JaX,simprocAttr,Zy,f0,f2,f3,f4,f5,c1,hil,hbig,hl0,hch0,h45,Ja4,Jbe,hov,over,hst,FC,FD];rfl) ?_;refine JaZ ⟨_,by simp only[go_sem,JaX,simprocAttr,Je,f2,hrl];rfl,?_⟩;exact fine w _ _ _ hp4 g5 hr
end
section
open Go.AE Delphi
variable {tab:Tab}
theorem PSt.cb (h:PSt w bp wv k e):CB w bp [wv,.int .i64 (Int.ofNat k),.int .i64 (Int.ofNat e)]:=⟨h.lt,h.get⟩
def JbY (l:List Tm):List V:=l.flatMap tmC
theorem Jr4 (l:List Tm)(t:Tm):JbY (l++[t])=JbY l++tmC t:=by simp[JbY]
structure AS (Tw:Fw) (aw w:AW) (bp:Nat) (wv:V) (txt:List Nat) (args:List Tm) (k e:Nat) (av:V) (S:Fw):Prop where
 p:PSt w bp wv k e
 frm:Frm (fun b=>b=bp) aw w
 res:CB w aw.next [.int .i64 0,.str [],.nilslice]
 lit:CB w (aw.next+1) [.int .i64 1,.str txt,av]
 buf:Buf S w av 3 args.length (JbY args)
 sep:∀x,S x→aw.next+1<x∧x<w.next
structure AF (f:Fr) (bp n0 n1:Nat):Prop where
 f0:f.get 0=some (.ptr bp 0)
 f2:f.get 2=some (.ptr n0 0)
 f3:f.get 3=some (.ptr n1 0)
def Jr9 (Tw:Fw) (aw:AW) (bp:Nat) (wv:V) (ws:List Wd) (txt:List Nat) (fin:List Tm×Nat×Nat) (q:Nat) (f:Fr) (w:AW):Prop :=
 ∃args k e av S,AF f bp aw.next (aw.next+1)∧AS Tw aw w bp wv txt args k e av S∧args.length≤5∧k≤ws.length∧ws.length+1≤q+k∧Jde ws q args k e=fin∧(e=0→args.length≤4)
def Jvc (Tw:Fw) (aw:AW) (bp:Nat) (wv:V) (txt:List Nat) (fin:List Tm×Nat×Nat) (f:Fr) (w:AW):Prop :=
 ∃av S,AF f bp aw.next (aw.next+1)∧AS Tw aw w bp wv txt fin.1 fin.2.1 fin.2.2 av S
theorem Jdf (t:Tm):(tmC t).length=3:=rfl
theorem Jql {q:Nat}{args:List Tm}(h:e≠0):Jde ws q args k e=(args,k,e):=by
 cases q with
 | zero=>rfl
 | succ q=>simp only[Jde,if_neg h]
theorem Jsp (C:Codes tab){txt:List Nat}{fin:List Tm×Nat×Nat}{q:Nat}{f:Fr}{s:List SI}{Q:Fr→AW→Prop}(hw:Wds Tw aw bp wv ws)(hok:∀x∈ws,WOk x)(hT:∀x,Tw x→x<aw.next)(hlt:bp<aw.next)(hI:Jr9 Tw aw bp wv ws txt fin q f w)(ih:∀n' f' w',n'<q→Jr9 Tw aw bp wv ws txt fin n' f' w'→WS tab (.code (.loop J4) :: .endB 0::s) f' w' Q)(out:∀s' f' w',Jvc Tw aw bp wv txt fin f' w'→JdS 0 s'=some s→WS tab (.code (.exit 0)::s') f' w' Q):WS tab (.code J4 :: .code (.loop J4) :: .endB 0::s) f w Q:=by
 obtain⟨args,k,e,av,S,⟨f0,f2,f3⟩,hA,hl5,hk,hq,hfin,hl4⟩:=hI;have p2:=hA.p.l2;by_cases he:e=0
 case neg =>
  rw[Jql he]at hfin;refine Ja2 1000 (by simp only[go_sem,simprocAttr,J4,f0,f2,f3,p2,he];rfl) ?_;exact out _ _ _ ⟨av,S,⟨(by simp only[go_sem,JaX,simprocAttr,f0]<;>rfl),(by simp only[go_sem,JaX,simprocAttr,f2]<;>rfl),(by simp only[go_sem,JaX,simprocAttr,f3]<;>rfl)⟩,by rw[←hfin];exact hA⟩ rfl
 subst he;have hl4:=hl4 rfl;obtain⟨q,rfl⟩:∃q',q=q'+1:=⟨q-1,by omega⟩;refine JaY 1000 (by simp only[go_sem,JaX,simprocAttr,J4,Pb,f0,f2,f3,p2];rfl) ?_;refine Ja0 (by simp only[go_sem,JaX,simprocAttr]) (by simp only[go_sem,JaX,simprocAttr];rfl) ?_;have hww:Wds Tw w bp wv ws:=hw.frm hA.frm fun x hx he=>hw.no (he▸hx);refine JjX C hA.p hww hok (fun x hx=>FK (hT x hx) hA.frm.next) fun w1 q1 q2=>?_;simp only[Jde,if_true]at hfin;have hk1:=Jgw (e:=0) hk;have hk1g:=JhR ws k 0;generalize hrt:Jbl ws k 0=rt at hfin q1 hk1 hk1g;obtain⟨t,k1,e1⟩:=rt;simp only at hfin q1 hk1 hk1g;obtain⟨w2,s2,c2,r2,n2⟩:=Jb1 w1 (zs:=[V.int .i64 0,V.str [],V.int .i64 0]) (vs:=tmC t) rfl rfl;have nx:=hA.frm.next;have nx1:=q2.next;have hn0:¬aw.next=bp:=Fh;have hn1:¬aw.next+1=bp:=Fh;have p2':=q1.frm r2 fun h=>h;have lit2:=(hA.lit.frm q2 hn1).frm r2 fun h=>h;have res2:=(hA.res.frm q2 hn0).frm r2 fun h=>h;have buf2:=(hA.buf.frm q2 fun x hx he=>by have:=(hA.sep x hx).1;omega).frm r2 fun _ _ h=>h;have l2:=p2'.l2;have la:w2.load (aw.next+1) 2 1=some [av]:=by rw[lit2.load];rfl
 have lt:w2.load w1.next 0 3=some (tmC t):=c2.all rfl;have hlv:=buf2.lenV;have f02:Frm (fun b=>b=bp) aw w2:=hA.frm.tr (q2.tr r2.no);obtain⟨e2,he2⟩:∃e2,e2=if e1=0∧args.length=4 then 8 else e1:=⟨_,rfl⟩;rw[←he2]at hfin;have hsz:S=S:=rfl
 have cont:∀w3,PSt w3 bp wv k1 e2→Frm (fun b=>b=bp) w2 w3→w3.next=w2.next→∃v' w5 S5,v'.cells=[v']∧(w3.load (aw.next+1) 2 1=some [av])∧w3.load w1.next 0 3=some (tmC t)∧(w3.fresh (tmC t)).appendV 3 32 av 1 (tmC t)=some (v',w5)∧(w3.fresh (tmC t)).elems 3 (.slice w3.next 0 1 (.known 1))=some (1,tmC t)∧w5.store (aw.next+1) 2 [v']=some (w5.put (aw.next+1) [.int .i64 1,.str txt,v'])∧AS Tw aw (w5.put (aw.next+1) [.int .i64 1,.str txt,v']) bp wv txt (args++[t]) k1 e2 v' S5:=by
  intro w3 g1 g2 g3;have buf3:=buf2.frm g2 fun x hx he=>by have:=(hA.sep x hx).1;omega
  have lit3:=lit2.frm g2 hn1;have res3:=res2.frm g2 hn0;have c3:=c2.frm g2 (by show ¬w1.next=bp;omega);have hS3:∀b,S b→b<w3.next:=fun b hb=>by have:=(hA.sep b hb).2;omega
  obtain⟨v',w5,S5,a1,a2,a3,a4⟩:=buf3.push (news:=tmC t) (bytes:=32) hS3 Fh rfl rfl Fh Fh;have nlit:¬S (aw.next+1):=fun h=>by have:=(hA.sep _ h).1;omega
  have nres:¬S aw.next:=fun h=>by have:=(hA.sep _ h).1;omega
  have nbp:¬S bp:=fun h=>by have:=(hA.sep _ h).1;omega
  have lit5:=lit3.frm a3 nlit;have vone:v'.one=true:=by rcases a2.inv with⟨rfl,_⟩|⟨_,rfl,_⟩<;>rfl
  have vc:v'.cells=[v']:=by rcases a2.inv with⟨rfl,_⟩|⟨_,rfl,_⟩<;>rfl
  have pf:Frm (fun b=>b=aw.next+1) w5 (w5.put (aw.next+1) [.int .i64 1,.str txt,v']):=Jbj
  have sep5:∀x,S5 x→aw.next+1<x∧x<w5.next:=by
   intro x hx;obtain⟨m1,m2⟩:=a4 x hx;refine⟨?_,m1⟩;rcases m2 with m2|m2
   ·exact (hA.sep x m2).1
   ·have:=hA.lit.lt;have:=g2.next;omega
  have n5:=a3.next;refine⟨v',w5,S5,vc,by rw[lit3.load];rfl,c3.all rfl,a1,JbH Fh rfl,lit5.set Fj vone,?_⟩;refine⟨((g1.frm a3 nbp).frm pf (fun h=>hn1 h.symm)),?_,(res3.frm a3 nres).frm pf (by show ¬aw.next=aw.next+1;omega),Jbx lit5.lt,?_,fun x hx=>sep5 x hx⟩
  ·refine ((f02.tr g2).trans a3 (fun _ _ h=>h) fun x hx h=>?_).out Fh rfl;have:=(hA.sep x h).1;omega
  ·rw[FE,Jr4];exact a2.frm pf fun x hx he=>by have:=(sep5 x hx).1;omega
 have hl5':(args++[t]).length≤5:=by rw[FE,Kb];omega
 have nx2:=r2.next;have tl:(tmC t).length=3:=rfl;have hov:over [V.int .i64 0,V.str [],V.int .i64 0] 0 (tmC t)=some (tmC t):=rfl;have hfin':(if Jcg ws k1 [44]=true then Jde ws q (args++[t]) (k1+1) e2 else (args++[t],k1,e2))=fin:=hfin;by_cases h4:e1=0∧args.length=4
 ·obtain⟨rfl,h4⟩:=h4;rw[h4]at hlv;rw[if_pos ⟨rfl,h4⟩]at he2;subst he2;refine JaY 1000 (by simp only[go_sem,JaX,simprocAttr,s2,Jdf,l2,la,hlv,f0,f2,f3];rfl) ?_;refine Ja0 (by simp only[go_sem,JaX,simprocAttr]) (by simp only[go_sem,JaX,simprocAttr];rfl) ?_;refine Je6 C (x:=8) p2' fun w3 q3 q4 q5=>?_;obtain⟨v',w5,S5,b0,b1,b2,b3,b4,b5,b6⟩:=cont w3 q3 q4 q5;refine JaY 1000 (by simp only[go_sem,JaX,simprocAttr,f0,f2,f3,b0,b1,b2,Ja4,Jbe,hov,Jdf,b3,b4,b5,FC,FD];rfl) ?_;refine Ja0 (by simp only[go_sem,JaX,simprocAttr]) (by simp only[go_sem,JaX,simprocAttr];rfl) ?_;have hw5:=hw.frm b6.frm fun x hx he=>hw.no (he▸hx);refine JeU C b6.p hw5 ?_;cases hs:Jcg ws k1 [44]with
  | true =>
   rw[hs,if_pos rfl]at hfin';have hks:=Jdk hs;have hwr:IntKind.wrap .i64 (Int.ofNat k1+1)=Int.ofNat (k1+1):=Ja3 (by have:=hw.len;omega);have l1:=b6.p.l1;have st:=b6.p.cb.set (i:=1) (v:=.int .i64 (Int.ofNat (k1+1))) Fj rfl;refine JaY 1000 (by simp only[go_sem,JaX,simprocAttr,f0,f2,f3,l1,hwr,st,FC,FD];rfl) ?_;have pf:Frm (fun b=>b=bp) (w5.put (aw.next+1) [.int .i64 1,.str txt,v']) ((w5.put (aw.next+1) [.int .i64 1,.str txt,v']).put bp [wv,.int .i64 (Int.ofNat (k1+1)),.int .i64 (Int.ofNat 8)]):=Jbj;exact ih q _ _ Fh ⟨args++[t],k1+1,8,v',S5,⟨(by simp only[go_sem,JaX,simprocAttr,f0]<;>rfl),(by simp only[go_sem,JaX,simprocAttr,f2]<;>rfl),(by simp only[go_sem,JaX,simprocAttr,f3]<;>rfl)⟩,⟨⟨b6.p.lt,AE.T.get_put_same⟩,b6.frm.tr pf,b6.res.frm pf hn0,b6.lit.frm pf hn1,b6.buf.frm pf fun x hx he=>by have:=(b6.sep x hx).1;omega,b6.sep⟩,hl5',hks,by omega,hfin',fun h=>by omega⟩
  | false =>
   rw[hs,if_neg Fj]at hfin';refine Ja2 1000 (by simp only[go_sem,simprocAttr,f0,f2,f3];rfl) ?_;exact out _ _ _ ⟨v',S5,⟨(by simp only[go_sem,JaX,simprocAttr,f0]<;>rfl),(by simp only[go_sem,JaX,simprocAttr,f2]<;>rfl),(by simp only[go_sem,JaX,simprocAttr,f3]<;>rfl)⟩,by rw[←hfin'];exact b6⟩ rfl
 ·rw[if_neg h4]at he2;subst he2;obtain⟨v',w5,S5,b0,b1,b2,b3,b4,b5,b6⟩:=cont w2 p2' (Frm.refl _) rfl
  have hl54:e2=0→(args++[t]).length≤4:=by
   intro h0;have:args.length≠4:=fun h=>h4 ⟨h0,h⟩;rw[FE,Kb];omega
  have fin2:∀(fr:Fr),AF fr bp aw.next (aw.next+1)→fr.get 95=some (.ptr bp 0)→WS tab (.ops [⟨some 96,none,.call (.const (.func (.func JK) [] [])) [(.tmp 95),(.const (.str [44]))]⟩,⟨some 97,none,.un .not (.tmp 96)⟩] :: .code (.cond (.tmp 97) (.exit 0) .skip) :: .code (.region [⟨some 98,none,.mov (.tmp 0)⟩,⟨some 99,none,.nilCheck (.tmp 98)⟩,⟨some 100,none,.fieldAddr 1 (.tmp 99)⟩,⟨some 101,none,.load 1 false (.tmp 100)⟩,⟨some 102,none,.bin .add (.tmp 101) (.const (.int .i64 1))⟩,⟨some 103,none,.nilCheck (.tmp 98)⟩,⟨some 104,none,.fieldAddr 1 (.tmp 103)⟩,⟨none,none,.store 1 (.tmp 104) (.tmp 102)⟩]) :: .endB 1 :: .code (.loop J4) :: .endB 0::s) fr (w5.put (aw.next+1) [.int .i64 1,.str txt,v']) Q:=by
   rintro fr ⟨f0,f2,f3⟩ f95;refine Ja0 (by simp only[JfH]) (by simp only[go_sem,f95];rfl) ?_;have hw5:=hw.frm b6.frm fun x hx he=>hw.no (he▸hx);refine JeU C b6.p hw5 ?_;cases hs:Jcg ws k1 [44]with
   | true =>
    rw[hs,if_pos rfl]at hfin';have hks:=Jdk hs;have hwr:IntKind.wrap .i64 (Int.ofNat k1+1)=Int.ofNat (k1+1):=Ja3 (by have:=hw.len;omega);have l1:=b6.p.l1;have st:=b6.p.cb.set (i:=1) (v:=.int .i64 (Int.ofNat (k1+1))) Fj rfl;refine JaY 1000 (by simp only[go_sem,JaX,simprocAttr,f0,f2,f3,l1,hwr,st,FC,FD];rfl) ?_;have pf:Frm (fun b=>b=bp) (w5.put (aw.next+1) [.int .i64 1,.str txt,v']) ((w5.put (aw.next+1) [.int .i64 1,.str txt,v']).put bp [wv,.int .i64 (Int.ofNat (k1+1)),.int .i64 (Int.ofNat e2)]):=Jbj;exact ih q _ _ Fh ⟨args++[t],k1+1,e2,v',S5,⟨(by simp only[go_sem,JaX,simprocAttr,f0]<;>rfl),(by simp only[go_sem,JaX,simprocAttr,f2]<;>rfl),(by simp only[go_sem,JaX,simprocAttr,f3]<;>rfl)⟩,⟨⟨b6.p.lt,AE.T.get_put_same⟩,b6.frm.tr pf,b6.res.frm pf hn0,b6.lit.frm pf hn1,b6.buf.frm pf fun x hx he=>by have:=(b6.sep x hx).1;omega,b6.sep⟩,hl5',hks,by omega,hfin',hl54⟩
   | false =>
    rw[hs,if_neg Fj]at hfin';refine Ja2 1000 (by simp only[go_sem,simprocAttr,f0,f2,f3];rfl) ?_;exact out _ _ _ ⟨v',S5,⟨(by simp only[go_sem,JaX,simprocAttr,f0]<;>rfl),(by simp only[go_sem,JaX,simprocAttr,f2]<;>rfl),(by simp only[go_sem,JaX,simprocAttr,f3]<;>rfl)⟩,by rw[←hfin'];exact b6⟩ rfl
  by_cases h0:e2=0
  ·have h4':¬args.length=4:=fun h=>h4 ⟨h0,h⟩;subst h0;refine JaY 1000 (by simp only[go_sem,JaX,simprocAttr,s2,tl,l2,la,hlv,h4',f0,f2,f3,b0,b1,b2,Ja4,Jbe,hov,Jdf,b3,b4,b5,FC,FD];rfl) ?_;exact fin2 _ ⟨(by simp only[go_sem,JaX,simprocAttr,f0]<;>rfl),(by simp only[go_sem,JaX,simprocAttr,f2]<;>rfl),(by simp only[go_sem,JaX,simprocAttr,f3]<;>rfl)⟩ (by simp only[go_sem,JaX,simprocAttr]<;>rfl)
  ·refine JaY 1000 (by simp only[go_sem,JaX,simprocAttr,s2,tl,l2,la,h0,f0,f2,f3,b0,b1,b2,Ja4,Jbe,hov,Jdf,b3,b4,b5,FC,FD];rfl) ?_;exact fin2 _ ⟨(by simp only[go_sem,JaX,simprocAttr,f0]<;>rfl),(by simp only[go_sem,JaX,simprocAttr,f2]<;>rfl),(by simp only[go_sem,JaX,simprocAttr,f3]<;>rfl)⟩ (by simp only[go_sem,JaX,simprocAttr]<;>rfl)
end
section
open Go.AE Delphi
variable {tab:Tab}
def LtC (T:Fw) (w:AW) (l:Lt) (xs:List V):Prop:=∃v,xs=[.int .i64 (Int.ofNat l.kind),.str l.name,v]∧Rd T w v 3 l.args.length (JbY l.args)
variable {T:Fw} {l:Lt} {xs:List V}
theorem LtC.frm {S:Fw}{w':AW}(h:LtC T w l xs)(hf:Frm S w w')(hd:∀x,T x→¬S x):LtC T w' l xs:=by
 obtain⟨v,h1,h2⟩:=h;exact⟨v,h1,h2.frm hf hd⟩
theorem LtC.mono {T':Fw}(h:LtC T w l xs)(ht:∀x,T x→T' x):LtC T' w l xs:=by
 obtain⟨v,h1,h2⟩:=h;exact⟨v,h1,h2.mono ht⟩
theorem LtC.one (h:LtC T w l xs):xs.length=3∧Jbf xs=true:=by
 obtain⟨v,rfl,h2⟩:=h;refine⟨rfl,?_⟩;rcases h2.inv with⟨rfl,_⟩|⟨_,_,_,rfl,_⟩<;>rfl
theorem LtC.zero:LtC T w Lt.zero [.int .i64 0,.str [],.nilslice]:=⟨.nilslice,rfl,.nil⟩
theorem JjW (C:Codes tab)(hp:PSt aw bp wv k e)(hw:Wds Tw aw bp wv ws)(hok:∀x∈ws,WOk x)(hT:∀x,Tw x→x<aw.next)(hk:k≤ws.length)(h:∀w T xs,PSt w bp wv (Jbm ws k e).2.1 (Jbm ws k e).2.2→Frm (fun b=>b=bp) aw w→LtC T w (Jbm ws k e).1 xs→(∀x,T x→aw.next≤x∧x<w.next)→K (.agg xs) w):WF tab YA [.ptr bp 0] aw K:=by
 refine Ja7 C.XB rfl ?_;have hlt:=hp.lt;have hne:¬aw.next=bp:=Fh;obtain⟨zs,hzs⟩:∃zs,zs=[V.int .i64 0,V.str [],V.nilslice]:=⟨_,rfl⟩;have hp1:=hp.frm (Jbc (S:=fun _=>False) aw zs) fun h=>h;have hw1:=hw.frm (Jbc (S:=fun _=>False) aw zs) fun _ _ h=>h;have l0:=hp1.l0;have l1:=hp1.l1;have l2:=hp1.l2;have hzl:zs.length=3:=by rw[hzs];rfl
 have hov:∀v u:V,over zs 0 [v]=some [v,V.str [],V.nilslice]:=fun v u=>by rw[hzs];rfl
 have hc0:=JbA aw zs
 have fine:∀(w:AW) (k' e':Nat) (l:Lt) (T:Fw) (xs:List V),PSt w bp wv k' e'→Frm (fun b=>b=bp) (aw.fresh zs) w→Jbm ws k e=(l,k',e')→LtC T w l xs→(∀x,T x→aw.next<x∧x<w.next)→K (.agg xs) (w.put aw.next xs):=by
  intro w k' e' l T xs h1 h2 h3 h4 h5;rw[h3]at h;exact h _ T xs (h1.frm Jbj (fun h=>hne h.symm)) ((Jbc (S:=fun b=>b=bp) aw zs).tr h2 |>.out (FH _) rfl) (h4.frm Jbj fun x hx he=>by have:=(h5 x hx).1;omega) fun x hx=>⟨by have:=(h5 x hx).1;omega,(h5 x hx).2⟩
 have no:∀{s:List SI} {fr:Fr},Jbm ws k e=(Lt.zero,k,Jdj e 4)→fr.get 0=some (.ptr bp 0)→fr.get 2=some (.ptr aw.next 0)→WS tab (.code Um::s) fr (aw.fresh zs) (fun fr' aw'=>∃vs,Jcv fr' aw' Ju.results=some vs∧K (JbT vs) aw'):=by
  intro s fr hr f0 f2;refine JaY 1000 (by simp only[go_sem,JaX,simprocAttr,Um,f0,f2];rfl) ?_;refine Ja0 (by simp only[go_sem,JaX,simprocAttr]) (by simp only[go_sem,JaX,simprocAttr];rfl) ?_;refine Je6 C (x:=4) hp1 fun w q1 q2 q3=>?_;have hc:=hc0.frm q2 hne;have hst:=hc.setAll (vs:=[V.int .i64 0,V.str [],V.nilslice]) hzl rfl;have hrl:=(Jbx (l:=[V.int .i64 0,V.str [],V.nilslice]) hc.lt).all (n:=3) rfl;refine JaY 1000 (by simp only[go_sem,JaX,simprocAttr,f0,f2,Ja4,Jbe,V.cells,hst,FC,FD];rfl) ?_;refine JaZ ⟨_,by simp only[go_sem,JaX,simprocAttr,Ju,f2,hrl];rfl,?_⟩;exact fine w _ _ _ (fun _=>False) _ q1 q2 hr LtC.zero fun _ h=>h.elim
 by_cases he:e=0
 case neg =>
  have hr:Jbm ws k e=(Lt.zero,k,Jdj e 4):=by simp[Jbm,JdT,he]
  refine Ja2 1000 (by simp only[go_sem,JaX,simprocAttr,Ju,←hzs,l2,he];rfl) ?_;exact no hr (by simp only[go_sem,JaX,simprocAttr]<;>rfl) (by simp only[go_sem,JaX,simprocAttr]<;>rfl)
 subst he;by_cases hkk:ws.length≤k
 ·have hr:Jbm ws k 0=(Lt.zero,k,Jdj 0 4):=by
   have:JdT ws k 0=none:=by unfold JdT;rw[if_pos rfl,List.getElem?_eq_none hkk]
   simp only[Jbm,this]
  have hlv:=hw1.rd.lenV;refine Ja2 1000 (by simp only[go_sem,JaX,simprocAttr,Ju,←hzs,l0,l1,l2,hlv,hkk];rfl) ?_;exact no hr (by simp only[go_sem,JaX,simprocAttr]<;>rfl) (by simp only[go_sem,JaX,simprocAttr]<;>rfl)
 have hkl:k<ws.length:=Fh;obtain⟨x,hx⟩:∃x,ws[k]? = some x:=⟨_,FB hkl⟩;have hnx:JdT ws k 0=some x:=by unfold JdT;rw[if_pos rfl,hx]
 rcases hw1.at with⟨rfl,rfl⟩|⟨b,o,c,rfl,hneb,hltb,hat⟩
 ·simp at hkl
 obtain⟨a1,a2,a3⟩:=hat k x hx;by_cases h1k:x.kind=1
 case neg =>
  have hr:Jbm ws k 0=(Lt.zero,k,Jdj 0 4):=by
   simp only[Jbm,hnx];rw[if_neg h1k];rfl
  refine Ja2 1000 (by simp only[go_sem,JaX,simprocAttr,Ju,←hzs,l0,l1,l2,hkk,hkl,a1,h1k];rfl) ?_;exact no hr (by simp only[go_sem,JaX,simprocAttr]<;>rfl) (by simp only[go_sem,JaX,simprocAttr]<;>rfl)
 refine JaY 1000 (by simp only[go_sem,JaX,simprocAttr,Ju,←hzs,l0,l1,l2,hkk,hkl,a1,h1k];rfl) ?_;refine JbM ?_
 have lift:∀{b' o' n' l'},b'<(aw.fresh zs).next→(aw.fresh zs).load b' o' n'=some l'→((aw.fresh zs).fresh zs).load b' o' n'=some l':=by
  intro b' o' n' l' hb hl;have:((aw.fresh zs).fresh zs).heap.get b'=(aw.fresh zs).heap.get b':=AE.T.get_put_ne Fh;simp only[AW.load]at hl ⊢;rw[this];exact hl
 have m0:=lift hp1.lt l0;have m1:=lift hp1.lt l1;have m2:=lift hltb a2;obtain⟨w3,s3,c3,r3,n3⟩:=Jb1 (aw.fresh zs) (zs:=zs) (vs:=[V.int .i64 1,V.str x.text,V.nilslice]) hzl rfl;have hov2:over [V.int .i64 1,V.str [],V.nilslice] 1 [V.str x.text]=some [V.int .i64 1,V.str x.text,V.nilslice]:=rfl;have hov1:over zs 0 [V.int .i64 1]=some [V.int .i64 1,V.str [],V.nilslice]:=by rw[hzs];rfl
 refine Jbn 100 (by simp only[go_sem,JaX,simprocAttr,←hzs,l0,l1,hkl,a2,Ja4,Jbe,hov1,hov2,s3,FC,FD];rfl) ?_;refine JbO ⟨(show Jbg _ _ [(3,12),(7,12),(10,12)]from by simp only[go_sem,JaX,simprocAttr,Jbg,chk,List.reverse_cons,List.reverse_nil,JbE,JbR,JbP,JbQ,List.getElem?_nil,false_or,or_true,or_false,exists_eq',FQ,Prod.mk.injEq,Bool.true_eq_false,FM,and_true,true_and,implies_true,l0,l1,m0,m1,hkl,a2,m2]),?_⟩;have hp3:=hp1.frm r3 fun h=>h;have hwr:IntKind.wrap .i64 (Int.ofNat k+1)=Int.ofNat (k+1):=Ja3 (by have:=hw.len;omega);have l31:=hp3.l1;have s1:=hp3.cb.set (i:=1) (v:=.int .i64 (Int.ofNat (k+1))) Fj rfl;have hp4:PSt (w3.put bp ([V.slice b o ws.length c,.int .i64 (Int.ofNat k),.int .i64 (Int.ofNat 0)].set 1 (.int .i64 (Int.ofNat (k+1))))) bp (.slice b o ws.length c) (k+1) 0:=⟨hp3.lt,AE.T.get_put_same⟩;have r4:Frm (fun b=>b=bp) (aw.fresh zs) (w3.put bp ([V.slice b o ws.length c,.int .i64 (Int.ofNat k),.int .i64 (Int.ofNat 0)].set 1 (.int .i64 (Int.ofNat (k+1))))):=r3.no.tr Jbj;have hn1:¬(aw.fresh zs).next=bp:=by have:=hp1.lt;omega
 have c4:=c3.frm (Jbj (l:=[V.slice b o ws.length c,.int .i64 (Int.ofNat k),.int .i64 (Int.ofNat 0)].set 1 (.int .i64 (Int.ofNat (k+1))))) hn1;have n4:(w3.put bp ([V.slice b o ws.length c,.int .i64 (Int.ofNat k),.int .i64 (Int.ofNat 0)].set 1 (.int .i64 (Int.ofNat (k+1))))).next=aw.next+1+1:=n3;generalize w3.put bp ([V.slice b o ws.length c,.int .i64 (Int.ofNat k),.int .i64 (Int.ofNat 0)].set 1 (.int .i64 (Int.ofNat (k+1))))=w4 at s1 hp4 r4 c4 n4;refine JaY 1000 (by simp only[go_sem,JaX,simprocAttr,l31,hwr,s1,FC,FD];rfl) ?_;refine Ja0 (by simp only[go_sem,JaX,simprocAttr]) (by simp only[go_sem,JaX,simprocAttr];rfl) ?_;have hw4:=hw1.frm r4 fun y hy he=>hw1.no (he▸hy);refine JeU C hp4 hw4 ?_;have c40:=hc0.frm r4 hne;cases hs:Jcg ws (k+1) [40]with
 | false =>
  have hr:Jbm ws k 0=(⟨1,x.text,[]⟩,k+1,0):=by
   simp only[Jbm,hnx];rw[if_pos h1k,hs,if_neg Fj]
  have la:=c4.all (n:=3) rfl;have hst:=c40.setAll (vs:=[V.int .i64 1,V.str x.text,V.nilslice]) hzl rfl;have hrl:=(Jbx (l:=[V.int .i64 1,V.str x.text,V.nilslice]) c40.lt).all (n:=3) rfl;refine JaY 1000 (by simp only[go_sem,JaX,simprocAttr,la,hst,FC,FD];rfl) ?_;refine JaZ ⟨_,by simp only[go_sem,JaX,simprocAttr,Ju,hrl];rfl,?_⟩;exact fine w4 _ _ _ (fun _=>False) _ hp4 r4 hr ⟨.nilslice,rfl,.nil⟩ fun _ h=>h.elim
 | true =>
  have hks:=Jdk hs;have hwr2:IntKind.wrap .i64 (Int.ofNat (k+1)+1)=Int.ofNat (k+1+1):=Ja3 (by have:=hw.len;omega);have l41:=hp4.l1;have s2:=hp4.cb.set (i:=1) (v:=.int .i64 (Int.ofNat (k+1+1))) Fj rfl;refine JaY 1000 (by simp only[go_sem,JaX,simprocAttr,l41,hwr2,s2,FC,FD];rfl) ?_;have pf:Frm (fun b=>b=bp) w4 (w4.put bp ([V.slice b o ws.length c,.int .i64 (Int.ofNat (k+1)),.int .i64 (Int.ofNat 0)].set 1 (.int .i64 (Int.ofNat (k+1+1))))):=Jbj;have hfr5:=(Jbc (S:=fun b=>b=bp) aw zs).tr (r4.tr pf)
  refine Jba (Jr9 Tw aw bp (.slice b o ws.length c) ws x.text (Jde ws (ws.length+1) [] (k+2) 0)) (Jvc Tw aw bp (.slice b o ws.length c) x.text (Jde ws (ws.length+1) [] (k+2) 0)) (fun n f w hI ih out=>Jsp C hw hok hT hlt hI ih out) ?_ (ws.length+1)
   ⟨[],k+2,0,.nilslice,fun _=>False,⟨(by simp only[go_sem,JaX,simprocAttr]<;>rfl),(by simp only[go_sem,JaX,simprocAttr]<;>rfl),(by simp only[go_sem,JaX,simprocAttr]<;>rfl)⟩,⟨⟨by show bp<w4.next;rw[n4];omega,AE.T.get_put_same⟩,hfr5,by rw[←hzs];exact c40.frm pf hne,c4.frm pf hn1,.nil,fun _ h=>h.elim⟩,by simp,hks,by omega,rfl,by simp⟩
  rintro f w ⟨av,S,⟨f0,f2,f3⟩,hA⟩;generalize hra:Jde ws (ws.length+1) [] (k+2) 0=ra at hA;obtain⟨args,k5,e5⟩:=ra;simp only at hA
  have hk5:k5≤ws.length:=by
   have:=Jj1 (ws:=ws) (ws.length+1) [] (k+2) 0 hks;rw[hra]at this;exact this
  refine JaY 1000 (by simp only[go_sem,JaX,simprocAttr,f0];rfl) ?_;refine Ja0 (by simp only[go_sem,JaX,simprocAttr]) (by simp only[go_sem,JaX,simprocAttr];rfl) ?_;have hww:=hw.frm hA.frm fun y hy he=>hw.no (he▸hy);refine Jo4 C hA.p hww (by have:=hw.len;omega) fun w6 q1 q2 q3=>?_;have lit6:=hA.lit.frm q2 Fh;have res6:=hA.res.frm q2 hne;have buf6:=hA.buf.frm q2 fun y hy he=>by have:=(hA.sep y hy).1;omega
  have hr:Jbm ws k 0=(⟨1,x.text,args⟩,(JdZ ws [41] k5 e5).1,(JdZ ws [41] k5 e5).2):=by
   simp only[Jbm,hnx];rw[if_pos h1k,hs,if_pos rfl,hra]
  have la:=lit6.all (n:=3) rfl;have aone:Jbf [V.int .i64 1,V.str x.text,av]=true:=by rcases hA.buf.inv with⟨rfl,_⟩|⟨_,rfl,_⟩<;>rfl
  have hst:=res6.setAll (vs:=[V.int .i64 1,V.str x.text,av]) rfl aone;have hrl:=(Jbx (l:=[V.int .i64 1,V.str x.text,av]) res6.lt).all (n:=3) rfl;refine JaY 1000 (by simp only[go_sem,JaX,simprocAttr,f0,f2,f3,la,hst,FC,FD];rfl) ?_;refine JaZ ⟨_,by simp only[go_sem,JaX,simprocAttr,Ju,f2,hrl];rfl,?_⟩;rw[hr]at h;have r6:=hA.frm.tr q2;exact h _ S _ (q1.frm Jbj (fun h=>hne h.symm)) (r6.out (FH _) rfl) ⟨av,rfl,buf6.rd.frm Jbj fun y hy he=>by have:=(hA.sep y hy).1;omega⟩ fun y hy=>⟨by have:=(hA.sep y hy).1;omega,by have:=(hA.sep y hy).2;have:(w6.put aw.next [V.int .i64 1,V.str x.text,av]).next=w6.next:=rfl;omega⟩
end
section
open Go.AE Delphi
variable {tab:Tab}
theorem JvY {T:Fw}{b:Nat}{l:List Tm}(hT:T b)(h:CB w b (JbY l)):Rd T w (.slice b 0 l.length (.known l.length)) 3 l.length (JbY l):=by
 have hl:(JbY l).length=l.length*3:=JjJ Jdf l;exact .blk hT h.lt h.get (.inl rfl) Fh (by rw[FZ,FX Fh]) (FH _)
set_option maxHeartbeats 1000000 in
theorem JuP (C:Codes tab)(hp:PSt aw bp wv k e)(hw:Wds Tw aw bp wv ws)(hok:∀x∈ws,WOk x)(hT:∀x,Tw x→x<aw.next)(hk:k≤ws.length)(h:∀w T xs,PSt w bp wv (Jcn ws k e).2.1 (Jcn ws k e).2.2→Frm (fun b=>b=bp) aw w→LtC T w (Jcn ws k e).1 xs→(∀x,T x→aw.next≤x∧x<w.next)→K (.agg xs) w):WF tab Gr [.ptr bp 0] aw K:=by
 refine Ja7 C.XD rfl ?_;have hlt:=hp.lt;have hne:¬aw.next=bp:=Fh;have hwl:=hw.len;obtain⟨zs,hzs⟩:∃zs,zs=[V.int .i64 0,V.str [],V.nilslice]:=⟨_,rfl⟩;have hp1:=hp.frm (Jbc (S:=fun _=>False) aw zs) fun h=>h;have hw1:=hw.frm (Jbc (S:=fun _=>False) aw zs) fun _ _ h=>h;have hT1:∀x,Tw x→x<(aw.fresh zs).next:=fun x hx=>Nat.lt_succ_of_lt (hT x hx);have l0:=hp1.l0;have l1:=hp1.l1;have l2:=hp1.l2;have hzl:zs.length=3:=by rw[hzs];rfl
 have hc0:=JbA aw zs;have hlv:=hw1.rd.lenV
 have fine:∀(w:AW) (k' e':Nat) (l:Lt) (T:Fw) (xs:List V),PSt w bp wv k' e'→Frm (fun b=>b=bp) (aw.fresh zs) w→Jcn ws k e=(l,k',e')→LtC T w l xs→(∀x,T x→aw.next<x∧x<w.next)→K (.agg xs) (w.put aw.next xs):=by
  intro w k' e' l T xs h1 h2 h3 h4 h5;rw[h3]at h;exact h _ T xs (h1.frm Jbj (fun h=>hne h.symm)) ((Jbc (S:=fun b=>b=bp) aw zs).tr h2 |>.out (FH _) rfl) (h4.frm Jbj fun x hx he=>by have:=(h5 x hx).1;omega) fun x hx=>⟨by have:=(h5 x hx).1;omega,(h5 x hx).2⟩
 refine JaY 1000 (by simp only[go_sem,JaX,simprocAttr,Jn,←hzs];rfl) ?_;refine Ja0 (by simp only[go_sem,JaX,simprocAttr]) (by simp only[go_sem,JaX,simprocAttr];rfl) ?_;refine JeU C hp1 hw1 ?_;cases hs:Jcg ws k [33]with
 | true =>
  have hks:=Jdk hs;have hwr:IntKind.wrap .i64 (Int.ofNat k+1)=Int.ofNat (k+1):=Ja3 Fh;have s1:=hp1.cb.set (i:=1) (v:=.int .i64 (Int.ofNat (k+1))) Fj rfl;have hp2:PSt ((aw.fresh zs).put bp ([wv,.int .i64 (Int.ofNat k),.int .i64 (Int.ofNat e)].set 1 (.int .i64 (Int.ofNat (k+1))))) bp wv (k+1) e:=⟨hp1.lt,AE.T.get_put_same⟩;have r2:Frm (fun b=>b=bp) (aw.fresh zs) ((aw.fresh zs).put bp ([wv,.int .i64 (Int.ofNat k),.int .i64 (Int.ofNat e)].set 1 (.int .i64 (Int.ofNat (k+1))))):=Jbj;generalize (aw.fresh zs).put bp ([wv,.int .i64 (Int.ofNat k),.int .i64 (Int.ofNat e)].set 1 (.int .i64 (Int.ofNat (k+1))))=w2 at s1 hp2 r2;have hw2:=hw1.frm r2 fun y hy he=>hw1.no (he▸hy);refine JaY 1000 (by simp only[go_sem,JaX,simprocAttr,Pc,Pd,Jn,←hzs,l1,hwr,s1,FC,FD];rfl) ?_;refine Ja0 (by simp only[go_sem,JaX,simprocAttr]) (by simp only[go_sem,JaX,simprocAttr];rfl) ?_;refine JjW C hp2 hw2 hok (fun x hx=>FK (hT1 x hx) r2.next) hks fun w3 T xs q1 q2 q3 q4=>?_;obtain⟨xl,xo⟩:=q3.one;obtain⟨v,rfl,hv⟩:=q3;obtain⟨w4,s4,c4,r4,n4⟩:=Jb1 w3 (zs:=zs) (vs:=[.int .i64 (Int.ofNat (Jbm ws (k+1) e).1.kind),.str (Jbm ws (k+1) e).1.name,v]) hzl xo;have st:=c4.set (i:=0) (v:=.int .i64 2) Fj rfl;have f34:Frm (fun _=>False) w3 (w4.put w3.next [.int .i64 2,.str (Jbm ws (k+1) e).1.name,v]):=r4.out (FH _) rfl;have la:=(Jbx (l:=[.int .i64 2,.str (Jbm ws (k+1) e).1.name,v]) c4.lt).all (n:=3) rfl;have f14:Frm (fun b=>b=bp) (aw.fresh zs) (w4.put w3.next [.int .i64 2,.str (Jbm ws (k+1) e).1.name,v]):=(r2.tr q2).tr f34.no;have cr:=hc0.frm f14 hne;have vone:Jbf [V.int .i64 2,.str (Jbm ws (k+1) e).1.name,v]=true:=xo;have hst:=cr.setAll (vs:=[V.int .i64 2,.str (Jbm ws (k+1) e).1.name,v]) hzl vone;have hrl:=(Jbx (l:=[V.int .i64 2,.str (Jbm ws (k+1) e).1.name,v]) cr.lt).all (n:=3) rfl
  have hr:Jcn ws k e=({(Jbm ws (k+1) e).1 with kind:=2},(Jbm ws (k+1) e).2.1,(Jbm ws (k+1) e).2.2):=by
   simp only[Jcn];rw[if_pos hs]
  refine JaY 1000 (by simp only[go_sem,JaX,simprocAttr,s4,st,la,hst,FC,FD,List.set_cons_zero];rfl) ?_;refine JaZ ⟨_,by simp only[go_sem,JaX,simprocAttr,Jn,hrl];rfl,?_⟩;have nn:=r2.next
  exact fine _ _ _ _ T _ (q1.frm f34 fun h=>h) f14 hr ⟨v,rfl,hv.frm f34 fun _ _ h=>h⟩ fun x hx=>by
   obtain⟨m1,m2⟩:=q4 x hx;have e1:(aw.fresh zs).next=aw.next+1:=rfl;have:=f34.next;exact⟨by omega,by omega⟩
 | false =>
 have atomP:∀{s:List SI} {fr:Fr},Jcn ws k e=Jbm ws k e→fr.get 0=some (.ptr bp 0)→fr.get 2=some (.ptr aw.next 0)→WS tab (.code Un::s) fr (aw.fresh zs) (fun fr' aw'=>∃vs,Jcv fr' aw' Jn.results=some vs∧K (JbT vs) aw'):=by
  intro s fr hr f0 f2;refine JaY 1000 (by simp only[go_sem,JaX,simprocAttr,Un,f0,f2];rfl) ?_;refine Ja0 (by simp only[go_sem,JaX,simprocAttr]) (by simp only[go_sem,JaX,simprocAttr];rfl) ?_;refine JjW C hp1 hw1 hok hT1 hk fun w3 T xs q1 q2 q3 q4=>?_;obtain⟨xl,xo⟩:=q3.one;have cr:=hc0.frm q2 hne;have hst:=cr.setAll (vs:=xs) (by rw[hzl,xl]) xo;have hrl:=(Jbx (l:=xs) cr.lt).all (n:=3) xl;refine JaY 1000 (by simp only[go_sem,JaX,simprocAttr,f0,f2,xl,hst];rfl) ?_;refine JaZ ⟨_,by simp only[go_sem,JaX,simprocAttr,Jn,f2,hrl];rfl,?_⟩
  exact fine _ _ _ _ T _ q1 q2 hr q3 fun x hx=>by
   obtain⟨m1,m2⟩:=q4 x hx;have e1:(aw.fresh zs).next=aw.next+1:=rfl;exact⟨by omega,m2⟩
 have termP:∀{s:List SI} {fr:Fr},¬(JgJ ws k=1∧JbS ws (k+1)=0)→fr.get 0=some (.ptr bp 0)→fr.get 2=some (.ptr aw.next 0)→fr.get 91=some (.ptr bp 0)→WS tab (.ops [⟨some 92,none,.call (.const (.func (.func ZK) [] [])) [(.tmp 91)]⟩,⟨some 4,none,.alloc [(.int .i64 0),(.str []),(.int .i64 0)]⟩,⟨none,none,.store 3 (.tmp 4) (.tmp 92)⟩] :: .code Zs::s) fr (aw.fresh zs) (fun fr' aw'=>∃vs,Jcv fr' aw' Jn.results=some vs∧K (JbT vs) aw'):=by
  intro s fr hna f0 f2 f91;refine Ja0 (by simp only[JfH]) (by simp only[go_sem,f91];rfl) ?_;refine JjX C hp1 hw1 hok hT1 fun w1 q1 q2=>?_;have hk1:=Jgw (e:=e) hk;generalize hrt:Jbl ws k e=rt at q1 hk1;obtain⟨t,k1,e1⟩:=rt;simp only at q1 hk1;obtain⟨w2,s2,c2,r2,n2⟩:=Jb1 w1 (zs:=[V.int .i64 0,V.str [],V.int .i64 0]) (vs:=tmC t) rfl rfl;have p2:=q1.frm r2 fun h=>h;have f12:Frm (fun b=>b=bp) (aw.fresh zs) w2:=q2.tr r2.no;have hw2:=hw1.frm f12 fun y hy he=>hw1.no (he▸hy);have res2:=hc0.frm f12 hne;have e1n:(aw.fresh zs).next=aw.next+1:=rfl;have nq:=q2.next;have m0:=p2.l0;have m1:=p2.l1;have m2:=p2.l2;have hlv2:=hw2.rd.lenV;refine Ja2 1000 (by simp only[go_sem,JaX,simprocAttr,s2,Jdf,f0,f2];rfl) ?_;have g0:((fr.put 92 (.agg (tmC t))).put 4 (.ptr w1.next 0)).get 0=some (.ptr bp 0):=(by simp only[go_sem,JaX,simprocAttr,f0]<;>rfl);have g2:((fr.put 92 (.agg (tmC t))).put 4 (.ptr w1.next 0)).get 2=some (.ptr aw.next 0):=(by simp only[go_sem,JaX,simprocAttr,f2]<;>rfl);have g4:((fr.put 92 (.agg (tmC t))).put 4 (.ptr w1.next 0)).get 4=some (.ptr w1.next 0):=(by simp only[go_sem,JaX,simprocAttr]<;>rfl);generalize (fr.put 92 (.agg (tmC t))).put 4 (.ptr w1.next 0)=fr1 at g0 g2 g4
  have badP:∀{s:List SI} {fr:Fr},Jcn ws k e=(Lt.zero,k1,Jdj e1 4)→fr.get 0=some (.ptr bp 0)→fr.get 2=some (.ptr aw.next 0)→WS tab (.code Uo::s) fr w2 (fun fr' aw'=>∃vs,Jcv fr' aw' Jn.results=some vs∧K (JbT vs) aw'):=by
   intro s fr hr f0 f2;refine JaY 1000 (by simp only[go_sem,JaX,simprocAttr,Uo,f0,f2];rfl) ?_;refine Ja0 (by simp only[go_sem,JaX,simprocAttr]) (by simp only[go_sem,JaX,simprocAttr];rfl) ?_;refine Je6 C (x:=4) p2 fun w q1 q2 q3=>?_;have hc:=res2.frm q2 hne;have hst:=hc.setAll (vs:=[V.int .i64 0,V.str [],V.nilslice]) hzl rfl;have hrl:=(Jbx (l:=[V.int .i64 0,V.str [],V.nilslice]) hc.lt).all (n:=3) rfl;refine JaY 1000 (by simp only[go_sem,JaX,simprocAttr,f0,f2,Ja4,Jbe,V.cells,hst,FC,FD];rfl) ?_;refine JaZ ⟨_,by simp only[go_sem,JaX,simprocAttr,Jn,f2,hrl];rfl,?_⟩;exact fine w _ _ _ (fun _=>False) _ q1 (f12.tr q2) hr LtC.zero fun _ h=>h.elim
  have hbad:(e1≠0∨JbS ws k1=0)→Jcn ws k e=(Lt.zero,k1,Jdj e1 4):=by
   intro hc;simp only[Jcn];rw[hs,if_neg Fj,if_neg hna,hrt,if_pos hc]
  by_cases he1:e1=0
  case neg =>
   refine Ja2 1000 (by simp only[go_sem,JaX,simprocAttr,Zs,g0,g2,m2,he1];rfl) ?_;exact badP (hbad (.inl he1)) (by simp only[go_sem,JaX,simprocAttr,g0]<;>rfl) (by simp only[go_sem,JaX,simprocAttr,g2]<;>rfl)
  subst he1;by_cases hkk:ws.length≤k1
  ·have hz:JbS ws k1=0:=by unfold JbS;rw[List.getElem?_eq_none hkk]
   refine Ja2 1000 (by simp only[go_sem,JaX,simprocAttr,Zs,g0,g2,m0,m1,m2,hlv2,hkk];rfl) ?_;exact badP (hbad (.inr hz)) (by simp only[go_sem,JaX,simprocAttr,g0]<;>rfl) (by simp only[go_sem,JaX,simprocAttr,g2]<;>rfl)
  have hkl:k1<ws.length:=Fh;obtain⟨x,hx⟩:∃x,ws[k1]? = some x:=⟨_,FB hkl⟩;rcases hw2.at with⟨rfl,rfl⟩|⟨b,o,c,rfl,hneb,hltb,hat⟩
  ·simp at hkl
  obtain⟨a1,a2,a3⟩:=hat k1 x hx;by_cases h4:x.kind=4
  case neg =>
   have hz:JbS ws k1=0:=by unfold JbS;rw[hx];exact if_neg h4
   refine Ja2 1000 (by simp only[go_sem,JaX,simprocAttr,Zs,g0,g2,m0,m1,m2,hkk,hkl,a1,h4];rfl) ?_;exact badP (hbad (.inr hz)) (by simp only[go_sem,JaX,simprocAttr,g0]<;>rfl) (by simp only[go_sem,JaX,simprocAttr,g2]<;>rfl)
  have hz:JbS ws k1=Jcu x.text:=by unfold JbS;rw[hx];exact if_pos h4
  refine JaY 1000 (by simp only[go_sem,JaX,simprocAttr,Zs,g0,g2,m0,m1,m2,hkk,hkl,a1,a2,h4];rfl) ?_;refine Ja0 (by simp only[go_sem,JaX,simprocAttr]) (by simp only[go_sem,JaX,simprocAttr];rfl) ?_;refine JgU C ?_;by_cases hcz:Jcu x.text=0
  ·rw[hcz];refine Ja2 1000 (by simp only[go_sem,JaX,simprocAttr];rfl) ?_;exact badP (hbad (.inr (hz.trans hcz))) (by simp only[go_sem,JaX,simprocAttr,g0]<;>rfl) (by simp only[go_sem,JaX,simprocAttr,g2]<;>rfl)
  refine JaY 1000 (by simp only[go_sem,JaX,simprocAttr,Pg,g0,g2,m0,m1,hkl,a2,hcz];rfl) ?_;refine Ja0 (by simp only[go_sem,JaX,simprocAttr]) (by simp only[go_sem,JaX,simprocAttr];rfl) ?_;refine JgU C ?_;have hwr:IntKind.wrap .i64 (Int.ofNat k1+1)=Int.ofNat (k1+1):=Ja3 Fh;have s3:=p2.cb.set (i:=1) (v:=.int .i64 (Int.ofNat (k1+1))) Fj rfl;have hp3:PSt (w2.put bp ([V.slice b o ws.length c,.int .i64 (Int.ofNat k1),.int .i64 (Int.ofNat 0)].set 1 (.int .i64 (Int.ofNat (k1+1))))) bp (.slice b o ws.length c) (k1+1) 0:=⟨p2.lt,AE.T.get_put_same⟩;have r3:Frm (fun b=>b=bp) w2 (w2.put bp ([V.slice b o ws.length c,.int .i64 (Int.ofNat k1),.int .i64 (Int.ofNat 0)].set 1 (.int .i64 (Int.ofNat (k1+1))))):=Jbj;generalize w2.put bp ([V.slice b o ws.length c,.int .i64 (Int.ofNat k1),.int .i64 (Int.ofNat 0)].set 1 (.int .i64 (Int.ofNat (k1+1))))=w3 at s3 hp3 r3;have hw3:=hw2.frm r3 fun y hy he=>hw2.no (he▸hy);refine JaY 1000 (by simp only[go_sem,JaX,simprocAttr,Pf,g0,g2,g4,m1,hwr,s3,FC,FD];rfl) ?_;refine Ja0 (by simp only[go_sem,JaX,simprocAttr]) (by simp only[go_sem,JaX,simprocAttr];rfl) ?_;refine JjX C hp3 hw3 hok (fun x hx=>FK (hT1 x hx) (f12.tr r3).next) fun w5 u1 u2=>?_;obtain⟨w6,s6,c6,r6,n6⟩:=Jb1 w5 (zs:=[V.int .i64 0,V.str [],V.int .i64 0]) (vs:=tmC (Jbl ws (k1+1) 0).1) rfl rfl;have hb1:¬w1.next=bp:=by have:=hp1.lt;omega
  have la:=((((c2.frm r3 hb1).frm u2 hb1).frm r6 fun h=>h)).all (n:=3) rfl;have lb:=c6.all (n:=3) rfl;have hov1:over [V.int .i64 0,V.str [],V.int .i64 0,V.int .i64 0,V.str [],V.int .i64 0] 0 (tmC t)=some (tmC t++[V.int .i64 0,V.str [],V.int .i64 0]):=rfl;have hov2:over (tmC t++[V.int .i64 0,V.str [],V.int .i64 0]) 3 (tmC (Jbl ws (k1+1) 0).1)=some (JbY [t,(Jbl ws (k1+1) 0).1]):=rfl;have p7:=(u1.frm r6 fun h=>h).frm (Jbc (S:=fun _=>False) w6 (JbY [t,(Jbl ws (k1+1) 0).1])) fun h=>h;have c7:=JbA w6 (JbY [t,(Jbl ws (k1+1) 0).1]);have f17:Frm (fun b=>b=bp) (aw.fresh zs) (w6.fresh (JbY [t,(Jbl ws (k1+1) 0).1])):=(((f12.tr r3).tr u2).tr r6.no).tr (Jbc _ _);have cr:=hc0.frm f17 hne;have hst:=cr.setAll (vs:=[V.int .i64 (Int.ofNat (Jcu x.text)),.str [],.slice w6.next 0 2 (.known 2)]) hzl rfl;have hrl:=(Jbx (l:=[V.int .i64 (Int.ofNat (Jcu x.text)),.str [],.slice w6.next 0 2 (.known 2)]) cr.lt).all (n:=3) rfl
  have hr:Jcn ws k e=(⟨Jcu x.text,[],[t,(Jbl ws (k1+1) 0).1]⟩,(Jbl ws (k1+1) 0).2.1,(Jbl ws (k1+1) 0).2.2):=by
   have hng:¬((0:Nat)≠0∨JbS ws k1=0):=by
    rintro (h|h)
    ·exact h rfl
    ·exact hcz (hz.symm.trans h)
   simp only[Jcn];rw[hs,if_neg Fj,if_neg hna,hrt];simp only[];rw[if_neg hng,hz]
  refine JaY 1000 (by simp only[go_sem,JaX,simprocAttr,Pe,g0,g2,g4,s6,Jdf,la,lb,Ja4,Jbe,hov1,hov2,over,hst,FC,FD];rfl) ?_;refine JaZ ⟨_,by simp only[go_sem,JaX,simprocAttr,Jn,g2,hrl];rfl,?_⟩;have n17:=(((f12.tr r3).tr u2).tr (r6.no (S:=fun b=>b=bp))).next
  exact fine _ _ _ _ (fun y=>y=w6.next) _ p7 f17 hr ⟨_,rfl,JvY (T:=fun y=>y=w6.next) rfl c7⟩ fun y hy=>by
   subst hy;exact⟨by omega,FW _⟩
 by_cases hkl:k<ws.length
 case neg =>
  have hna:¬(JgJ ws k=1∧JbS ws (k+1)=0):=by
   unfold JgJ;rw[List.getElem?_eq_none Fh];simp
  refine JaY 1000 (by simp only[go_sem,JaX,simprocAttr,Zt,l0,l1,hlv,hkl];rfl) ?_;exact termP hna (by simp only[go_sem,JaX,simprocAttr]<;>rfl) (by simp only[go_sem,JaX,simprocAttr]<;>rfl) (by simp only[go_sem,JaX,simprocAttr]<;>rfl)
 obtain⟨x,hx⟩:∃x,ws[k]? = some x:=⟨_,FB hkl⟩;have hkx:JgJ ws k=x.kind:=by unfold JgJ;rw[hx]
 rcases hw1.at with⟨rfl,rfl⟩|⟨b,o,c,rfl,hneb,hltb,hat⟩
 ·simp at hkl
 obtain⟨a1,a2,a3⟩:=hat k x hx;by_cases h1k:x.kind=1
 case neg =>
  have hna:¬(JgJ ws k=1∧JbS ws (k+1)=0):=fun h=>h1k (hkx.symm.trans h.1);refine JaY 1000 (by simp only[go_sem,JaX,simprocAttr,Zt,l0,l1,hkl,a1,h1k];rfl) ?_;exact termP hna (by simp only[go_sem,JaX,simprocAttr]<;>rfl) (by simp only[go_sem,JaX,simprocAttr]<;>rfl) (by simp only[go_sem,JaX,simprocAttr]<;>rfl)
 have hwr:IntKind.wrap .i64 (Int.ofNat k+1)=Int.ofNat (k+1):=Ja3 Fh
 have hr0:JbS ws (k+1)=0→Jcn ws k e=Jbm ws k e:=by
  intro hz;simp only[Jcn];rw[hs,if_neg Fj,if_pos ⟨hkx.trans h1k,hz⟩]
 by_cases hkl2:k+1<ws.length
 case neg =>
  have hz:JbS ws (k+1)=0:=by unfold JbS;rw[List.getElem?_eq_none Fh]
  refine Ja2 1000 (by simp only[go_sem,JaX,simprocAttr,Zt,l0,l1,hkl,a1,h1k,hwr,hkl2];rfl) ?_;exact atomP (hr0 hz) (by simp only[go_sem,JaX,simprocAttr]<;>rfl) (by simp only[go_sem,JaX,simprocAttr]<;>rfl)
 obtain⟨y,hy⟩:∃x,ws[k+1]? = some x:=⟨_,FB hkl2⟩;obtain⟨b1,b2,b3⟩:=hat (k+1) y hy;by_cases h4:y.kind=4
 case neg =>
  have hz:JbS ws (k+1)=0:=by unfold JbS;rw[hy];exact if_neg h4
  refine Ja2 1000 (by simp only[go_sem,JaX,simprocAttr,Zt,l0,l1,hkl,a1,h1k,hwr,hkl2,b1,h4];rfl) ?_;exact atomP (hr0 hz) (by simp only[go_sem,JaX,simprocAttr]<;>rfl) (by simp only[go_sem,JaX,simprocAttr]<;>rfl)
 have hz:JbS ws (k+1)=Jcu y.text:=by unfold JbS;rw[hy];exact if_pos h4
 refine JaY 1000 (by simp only[go_sem,JaX,simprocAttr,Zt,l0,l1,hkl,a1,h1k,hwr,hkl2,b1,b2,h4];rfl) ?_;refine Ja0 (by simp only[go_sem,JaX,simprocAttr]) (by simp only[go_sem,JaX,simprocAttr];rfl) ?_;refine JgU C ?_;by_cases hcz:Jcu y.text=0
 ·rw[hcz];refine Ja2 1000 (by simp only[go_sem,JaX,simprocAttr];rfl) ?_;exact atomP (hr0 (hz.trans hcz)) (by simp only[go_sem,JaX,simprocAttr]<;>rfl) (by simp only[go_sem,JaX,simprocAttr]<;>rfl)
 ·have hpos:0<Jcu y.text:=Fh;refine JaY 1000 (by simp only[go_sem,JaX,simprocAttr,hpos];rfl) ?_;exact termP (fun h=>hcz (hz.symm.trans h.2)) (by simp only[go_sem,JaX,simprocAttr]<;>rfl) (by simp only[go_sem,JaX,simprocAttr]<;>rfl) (by simp only[go_sem,JaX,simprocAttr]<;>rfl)
end
end Go.Proofs.YtegdcbdicpfbpaaGreatDoor
