/- A part of the proof. -/
import Derived.Test.YtegdcbdicpfbpaaGreatDoorJdD
import Derived.Below
import Derived.Laws.IdiomCopy
import Derived.Test.YtegdcbdicpfbpaaGreatDoorJdA
import Derived.Test.YtegdcbdicpfbpaaGreatDoorRows
set_option linter.unusedVariables false
set_option linter.unusedSectionVars false
set_option linter.unusedSimpArgs false
namespace Go.AE
variable [Globs]
structure DFacts (l:List DOper) (af:Fx):Prop where
 after:∀(j:Nat) (y:DOper),l[j]? = some y→∃a,af[j]? = some a∧(∀x,x∈a→x<j)∧(∀x,x∈y.anc→x<j∧(x∈a∨∃(k:Nat) (z:DOper),k∈a∧l[k]? = some z∧x∈z.anc))∧(y.eff=true∨y.op.op.quiet=true)
 eff:∀(i j:Nat) (x y:DOper),i<j→l[i]? = some x→l[j]? = some y→x.eff=true→y.eff=true→i∈y.anc∨x.op.op.loose=true
 hide:∀(i j:Nat) (x y:DOper) (d:Nat),l[i]? = some x→l[j]? = some y→i≠j→i∉y.anc→j∉x.anc→x.op.dst=some d→d∈y.hide
 dst:∀(i j:Nat) (x y:DOper) (d:Nat),l[i]? = some x→l[j]? = some y→i≠j→x.op.dst=some d→y.op.dst≠some d
theorem Cu {α:Type}{l:List α}{i:Nat}{x:α}(h:l[i]? = some x):i<l.length:=(List.getElem?_eq_some_iff.1 h).1
variable {l:List DOper}
theorem Jnb {af:Fx}(h:dOK l af=true):DFacts l af:=by
 have H:∀j y,l[j]? = some y→∃a,af[j]? = some a∧AR l j y a=true∧∀i x,i<j→l[i]? = some x→DZ i x j y=true:=by
  intro j y hj;simp only[dOK,List.all_eq_true,List.mem_range]at h;have:=h j (Cu hj);simp only[hj]at this;split at this
  ·rename_i y' a hy' ha;cases hy';simp only[FT,List.all_eq_true,List.mem_range]at this;refine⟨a,ha,this.1,fun i x hi hx=>?_⟩;have:=this.2 i hi;simpa only[hx]using this
  ·cases this
 have one:∀(j:Nat) (y:DOper),l[j]? = some y→∃a,af[j]? = some a∧(∀x,x∈a→x<j)∧(∀x,x∈y.anc→x<j∧(x∈a∨∃(k:Nat) (z:DOper),k∈a∧l[k]? = some z∧x∈z.anc))∧(y.eff=true∨y.op.op.quiet=true):=by
  intro j y hj;obtain⟨a,h1,h2,_⟩:=H j y hj;simp only[AR,FT,List.all_eq_true,Bool.or_eq_true,memN_iff,List.any_eq_true]at h2;refine⟨a,h1,fun x hx=>Nat.blt_eq.mp (h2.1.1 x hx),fun x hx=>?_,h2.2⟩;obtain⟨q1,q2⟩:=h2.1.2 x hx;refine⟨Nat.blt_eq.mp q1,q2.imp id ?_⟩;rintro⟨k,hk,q3⟩;split at q3
  ·rename_i z hz;exact⟨k,z,hk,hz,memN_iff.1 q3⟩
  ·cases q3
 have pair:∀(i j:Nat) (x y:DOper),i<j→l[i]? = some x→l[j]? = some y→(i∈y.anc∨((¬(x.eff=true∧y.eff=true)∨x.op.op.loose=true)∧(∀d,y.op.dst=some d→d∈x.hide)∧(∀d,x.op.dst=some d→d∈y.hide)))∧(∀d,x.op.dst=some d→y.op.dst≠some d):=by
  intro i j x y hij hi hj;obtain⟨a,_,_,h3⟩:=H j y hj;have h4:=h3 i x hij hi;simp only[DZ,FT]at h4;refine⟨?_,fun d hd hd'=>?_⟩
  ·have h5:=h4.1;split at h5
   ·rename_i hm;exact .inl (memN_iff.1 hm)
   ·refine .inr ?_;simp only[FT,Bool.or_eq_true,Bool.not_eq_true',Bool.and_eq_false_iff]at h5;refine⟨?_,fun d hd=>?_,fun d hd=>?_⟩
    ·rcases h5.1.1 with (q|q)|q
     ·exact .inl fun hc=>by rw[hc.1]at q;cases q
     ·exact .inl fun hc=>by rw[hc.2]at q;cases q
     ·exact .inr q
    ·have:=h5.1.2;rw[hd]at this;exact memN_iff.1 this
    ·have:=h5.2;rw[hd]at this;exact memN_iff.1 this
  ·have h5:=h4.2;rw[hd,hd']at h5;simp at h5
 refine⟨one,fun i j x y hij hi hj hx hy=>?_,fun i j x y d hi hj hne h1 h2 hd=>?_,fun i j x y d hi hj hne hd hd'=>?_⟩
 ·rcases (pair i j x y hij hi hj).1 with h|h
  ·exact .inl h
  ·exact h.1.imp (fun h=>absurd ⟨hx,hy⟩ h) id
 ·rcases Nat.lt_or_gt_of_ne hne with hlt|hlt
  ·rcases (pair i j x y hlt hi hj).1 with h|h
   ·exact absurd h h1
   ·exact h.2.2 d hd
  ·rcases (pair j i y x hlt hj hi).1 with h|h
   ·exact absurd h h2
   ·exact h.2.1 d hd
 ·rcases Nat.lt_or_gt_of_ne hne with hlt|hlt
  ·exact (pair i j x y hlt hi hj).2 d hd hd'
  ·exact (pair j i y x hlt hj hi).2 d hd' hd
theorem NQ {st:List Stp}(h:SV l st=true){i e:Nat}{d de:DOper}{s se:Stp}(hl:l[i]? = some d)(hs:st[i]? = some s)(hle:l[e]? = some de)(hse:st[e]? = some se)(hd:d.eff=false)(hde:de.eff=true)(h1:i∉de.anc)(h2:e∉d.anc):TP d s se.aw0=true∧TP d s se.aw1=true:=by
 simp only[SV,List.all_eq_true,List.mem_range]at h;have:=h i (Cu hl);simp only[hl,hs,hd,Bool.false_or,List.all_eq_true,List.mem_range]at this;have:=this e (Cu hle);simp only[hle,hse,hde,Bool.not_true,Bool.false_or,Bool.or_eq_true,FT]at this;rcases this with (q|q)|q
 ·exact absurd (memN_iff.1 q) h1
 ·exact absurd (memN_iff.1 q) h2
 ·exact q
def unl:List Bool→Nat
 | []=>0
 | true::l=>unl l
 | false::l=>unl l+1
theorem JpJ:∀{l:List Bool} {i:Nat},l[i]? = some false→unl (l.set i true)+1=unl l
 | [],i,h=>by simp at h
 | b::l,0,h=>by simp at h;subst h;rfl
 | b::l,i+1,h=>by
  have:=JpJ (l:=l) (i:=i) (by simpa using h);cases b<;>simp only[List.set_cons_succ,unl]<;>omega
theorem Jok:∀{l:List Bool} {i:Nat},unl l=0→l[i]?≠some false
 | [],i,h=>by simp
 | true::l,0,h=>by simp
 | false::l,i,h=>by simp[unl]at h
 | true::l,i+1,h=>by simpa using Jok (l:=l) (i:=i) h
theorem Jix:∀(n:Nat),unl (List.replicate n false)=n
 | 0=>rfl
 | n+1=>by simp[List.replicate_succ,unl,Jix n]
theorem Jqw {p:Fw}(h:∃n,p n):∃n,p n∧∀k,k<n→¬p k:=by
 obtain⟨n,hn⟩:=h;induction n using Nat.strongRecOn with
 | ind n ih =>
  by_cases hc:∃k,k<n∧p k
  ·obtain⟨k,h1,h2⟩:=hc;exact ih k h1 h2
  ·exact⟨n,hn,fun k hk hp=>hc ⟨k,hk,hp⟩⟩
section
variable {P:Program} {tab:Tab}
def LD (D:Array Bool) (i:Nat):Prop:=D.getD i false=true
theorem JmK {D:Array Bool}{i j:Nat}(hi:i<D.size):LD (D.setIfInBounds i true) j↔LD D j∨j=i:=by
 unfold LD;by_cases hij:j=i
 ·subst hij;simp[hi]
 ·simp[Array.getElem?_setIfInBounds_ne (Ne.symm hij),hij]
def JsB (l:List DOper) (st:List Stp) (fr:Fr) (L:Fw) (y:Nat) (v:V):Prop :=
 (∃(k:Nat) (dk:DOper) (sk:Stp),L k∧l[k]? = some dk∧st[k]? = some sk∧dk.op.dst=some y∧sk.v=v)∨((∀(k:Nat) (dk:DOper),L k→l[k]? = some dk→dk.op.dst≠some y)∧fr.get y=some v)
def Ep (l:List DOper) (st:List Stp) (aw:AW) (L:Fw) (x:AW):Prop :=
 ((∀(e:Nat) (de:DOper),L e→l[e]? = some de→de.eff=false)∧x=aw)∨
 ∃(e:Nat) (de:DOper) (se:Stp),L e∧l[e]? = some de∧de.eff=true∧st[e]? = some se∧x=se.aw1∧∀(e':Nat) (de':DOper),L e'→l[e']? = some de'→de'.eff=true→e'≤e
def Jsy (aw:AW) (m:Map) (x:AW) (se:Stp):Prop :=
 aw.next≤se.aw0.next∧se.aw0.next<x.next∧m se.aw0.next=none∧∃b,se.aw1=se.aw0.new b∧x.heap.get se.aw0.next=some b
def Bv (l:List DOper) (st:List Stp) (L:Fw) (j e:Nat) (se:Stp):Prop :=
 e<j∧¬L e∧(∃de,l[e]? = some de∧de.eff=true)∧st[e]? = some se∧se.aw1≠se.aw0
def Sk (l:List DOper) (L:Fw) (j:Nat):Prop:=∃e de,L e∧l[e]? = some de∧de.eff=true∧j=e
structure St (l:List DOper) (st:List Stp) (fr:Fr) (aw:AW) (N:Nat) (a0:Act) (w0:World) (m0:Map) (base:Nat) (L:Fw) (a:Act) (w:World) (m:Map) (x:AW):Prop where
 R:R x w m base
 goes:Goes aw x w0 w m0 m
 defers:a.defers=a0.defers
 size:a.tmps.size=N
 slot:∀(y:Nat) (v:V),JsB l st fr L y v→∃v',a.tmps[y]? = some v'∧VR m v v'
 ep:Ep l st aw L x
 owed:∀(j e:Nat) (se:Stp),Sk l L j→Bv l st L j e se→Jsy aw m x se
 apart:∀(j e:Nat) (se:Stp) (j' e':Nat) (se':Stp),Sk l L j→Bv l st L j e se→Sk l L j'→Bv l st L j' e' se'→e≠e'→se.aw0.next≠se'.aw0.next
def Ez (l:List DOper) (L:Fw):Prop:=∀(i:Nat) (d:DOper) (x:Nat),L i→l[i]? = some d→x∈d.anc→L x
theorem Ju8 {a:AW}{x y:Blk}(h:a.new x=a.new y):x=y:=by
 have h1:(a.new x).heap.get a.next=some x:=T.get_put_same;have h2:(a.new y).heap.get a.next=some y:=T.get_put_same;rw[h,h2]at h1;exact (FY h1).symm
theorem Jwi {a:AW}{x:Blk}:a.new x≠a:=by
 intro h;have:(a.new x).next=a.next:=by rw[h]
 simp[AW.new]at this
variable {st:List Stp} {fr fr':Fr} {aw aw':AW} {N base:Nat} {ops:Array Oper} {a0:Act} {w0:World} {m0:Map}
theorem Jwk (hG:PassG P l fr aw st fr' aw')(hop:∀(i:Nat) (d:DOper),l[i]? = some d→∃o',Ie P N ops o'=some d.op){L:Fw}{a:Act}{w:World}{m:Map}{x:AW}(hS:St l st fr aw N a0 w0 m0 base L a w m x): ∀(j:Nat) (y:AW),EpAt l st aw j y→(∀(e:Nat) (de:DOper),L e→l[e]? = some de→de.eff=true→e<j)→(∀(e:Nat) (de:DOper),e<j→¬L e→l[e]? = some de→de.eff=true→de.op.op.loose=true)→ R y w m base∧Goes aw y w0 w m0 m∧(∀(e:Nat) (se:Stp),Bv l st L j e se→Jsy aw m y se)∧(∀(e:Nat) (se:Stp) (e':Nat) (se':Stp),Bv l st L j e se→Bv l st L j e' se'→e≠e'→se.aw0.next≠se'.aw0.next):=by
 intro j;induction j using Nat.strongRecOn with
 | ind j ih =>
  intro y hy hL hloose;rcases hy with⟨p1,rfl⟩|⟨e0,de0,se0,p1,p2,p3,p4,p5,p6⟩
  ·-- no effect ahead
   have hx:x=y:=by
    rcases hS.ep with⟨_,h2⟩|⟨e,de,se,h1,h2,h3,h4,h5,h6⟩
    ·exact h2
    ·have:=p1 e de (hL e de h1 h2 h3) h2;rw[h3]at this;cases this
   subst hx;refine⟨hS.R,hS.goes,fun e se h=>?_,fun e se e' se' h=>?_⟩
   all_goals
    obtain⟨q1,_,⟨de,q2,q3⟩,_⟩:=h;have:=p1 e de q1 q2;rw[q3]at this;cases this
  ·by_cases hl0:L e0
   ·-- it is the last one that is listed
    have hx:x=y:=by
     rcases hS.ep with⟨h1,_⟩|⟨e,de,se,h1,h2,h3,h4,h5,h6⟩
     ·have:=h1 e0 de0 hl0 p2;rw[p3]at this;cases this
     ·have hle:=h6 e0 de0 hl0 p2 p3;have hlt:=hL e de h1 h2 h3
      have:e=e0:=by
       rcases KG e0 e with h|h
       ·have:=p6 e de h hlt h2;rw[h3]at this;cases this
       ·omega
      subst this;rw[p4]at h4;cases h4;rw[h5,p5]
    subst hx
    have down:∀{e:Nat} {se:Stp},Bv l st L j e se→Bv l st L e0 e se:=by
     rintro e se ⟨q1,q2,⟨de,q3,q4⟩,q5,q6⟩;refine⟨?_,q2,⟨de,q3,q4⟩,q5,q6⟩;rcases Nat.lt_trichotomy e e0 with h|h|h
     ·exact h
     ·exact absurd (h▸hl0) q2
     ·have:=p6 e de h q1 q3;rw[q4]at this;cases this
    have hh:Sk l L e0:=⟨e0,de0,hl0,p2,p3,rfl⟩;exact⟨hS.R,hS.goes,fun e se h=>hS.owed e0 e se hh (down h),fun e se e' se' h h' hne=>hS.apart e0 e se e0 e' se' hh (down h) hh (down h') hne⟩
   ·-- one that is owed
    have hlo:=hloose e0 de0 p1 hl0 p2 p3
    have hL0:∀(e:Nat) (de:DOper),L e→l[e]? = some de→de.eff=true→e<e0:=by
     intro e de h1 h2 h3;have:=hL e de h1 h2 h3;rcases Nat.lt_trichotomy e e0 with h|h|h
     ·exact h
     ·exact absurd (h▸h1) hl0
     ·have:=p6 e de h Fh h2;rw[h3]at this;cases this
    obtain⟨r1,r2,r3,r4⟩:=ih e0 p1 se0.aw0 (hG.ep e0 de0 se0 p2 p4) hL0 (fun e de h1=>hloose e de Fh)
    have split:∀{e:Nat} {se:Stp},Bv l st L j e se→(e=e0∧se=se0)∨Bv l st L e0 e se:=by
     rintro e se ⟨q1,q2,⟨de,q3,q4⟩,q5,q6⟩;rcases Nat.lt_trichotomy e e0 with h|h|h
     ·exact .inr ⟨h,q2,⟨de,q3,q4⟩,q5,q6⟩
     ·subst h;rw[p4]at q5;cases q5;exact .inl ⟨rfl,rfl⟩
     ·have:=p6 e de h q1 q3;rw[q4]at this;cases this
    rcases (hG.one e0 de0 se0 p2 p4).2.2.2 hlo with⟨_,h1⟩|⟨_,_,h1⟩
    ·rw[p5,h1]
     have no:∀{e:Nat} {se:Stp},Bv l st L j e se→Bv l st L e0 e se:=by
      intro e se h;rcases split h with⟨rfl,rfl⟩|h'
      ·exact absurd h1 h.2.2.2.2
      ·exact h'
     exact⟨r1,r2,fun e se h=>r3 e se (no h),fun e se e' se' h h' hne=>r4 e se e' se' (no h) (no h') hne⟩
    ·obtain⟨o',ho'⟩:=hop e0 de0 p2;obtain⟨b,hb,_⟩:=h1 o' (Cs ho').2.1;rw[p5,hb];refine⟨r1.pad b,r2.pad b,fun e se h=>?_,fun e se e' se' h h' hne=>?_⟩
     ·rcases split h with⟨rfl,rfl⟩|h'
      ·refine⟨r2.next,by simp[AW.new],?_,b,hb,T.get_put_same⟩;cases hm:m se.aw0.next with
       | none=>rfl
       | some q=>have:=(r1.lt _ _ hm).1;omega
      ·obtain⟨q1,q2,q3,b',q4,q5⟩:=r3 e se h';exact⟨q1,by simp only[AW.new];omega,q3,b',q4,by simp only[AW.new];rw[T.get_put_ne Fh];exact q5⟩
     ·rcases split h with⟨rfl,rfl⟩|g1
      ·rcases split h' with⟨rfl,rfl⟩|g2
       ·exact absurd rfl hne
       ·have:=(r3 e' se' g2).2.1;omega
      ·rcases split h' with⟨rfl,rfl⟩|g2
       ·have:=(r3 e se g1).2.1;omega
       ·exact r4 e se e' se' g1 g2 hne
theorem Jvr {afs:Fx}(hG:PassG P l fr aw st fr' aw')(hF:DFacts l afs)(hA:SV l st=true)(hop:∀(i:Nat) (d:DOper),l[i]? = some d→∃o',Ie P N ops o'=some d.op)(hR0:R aw w0 m0 base){L:Fw}(hcl:Ez l L){i ko:Nat}{d:DOper}{o':Oper}(hd:l[i]? = some d)(ho':ops[ko]? = some o')(hco:Ie P N ops o'=some d.op)(hnot:¬L i)(hafin':∀a,afs[i]? = some a→∀k∈a,L k){a:Act}{w:World}{m:Map}{x:AW}(hS:St l st fr aw N a0 w0 m0 base L a w m x)(Q:Exit→Act→World→Prop)(K:Act→World→Prop)(hK:∀L':Fw,(∀j,L' j↔L j∨j=i)→Ez l L'→∀a' w' m' x',St l st fr aw N a0 w0 m0 base L' a' w' m' x'→K a' w'):wpOp P ops Q ko K a w:=by
 obtain⟨s,hs⟩:∃s,st[i]? = some s:=⟨st[i]'(by rw[hG.len];exact Cu hd),FB (by rw[hG.len];exact Cu hd)⟩;have hilt:i<l.length:=Cu hd;obtain⟨af,haf1,haf2,hanc,hquiet⟩:=hF.after i d hd;have hafin:∀k,k∈af→L k:=hafin' af haf1
 have hancD:∀k,k∈d.anc→L k:=by
  intro k hk;rcases (hanc k hk).2 with h|⟨j,z,h1,h2,h3⟩
  ·exact hafin k h
  ·exact hcl j z k (hafin j h1) h2 h3
 have hdesc:∀k dk,L k→l[k]? = some dk→i∉dk.anc:=fun k dk hk hl hm=>hnot (hcl k dk i hk hl hm);obtain⟨L',hL'⟩:∃L':Fw,∀j,L' j↔L j∨j=i:=⟨fun j=>L j∨j=i,fun j=>Iff.rfl⟩
 have hcl':Ez l L':=by
  intro j dj y hj hl hy;rw[hL']at hj ⊢;rcases hj with hj|rfl
  ·exact .inl (hcl j dj y hj hl hy)
  ·rw[hd]at hl;cases hl;exact .inl (hancD y hy)
 have hslot:∀y v,s.fe.get y=some v→JsB l st fr L y v:=by
  intro y v hy;obtain⟨h1,h2⟩:=hG.fe i d s y v hd hs hy;rcases h2 with⟨k,dk,sk,hk,h3,h4,h5,h6⟩|⟨h3,h4⟩
  ·refine .inl ⟨k,dk,sk,?_,h3,h4,h5,h6⟩;by_cases hm:k∈d.anc
   ·exact hancD k hm
   ·refine absurd (hF.hide k i dk d y h3 hd Fh hm (fun hx=>?_) h5) h1;obtain⟨_,_,_,q,_⟩:=hF.after k dk h3;have:=(q i hx).1;omega
  ·refine .inr ⟨fun k dk hk hl hdst=>?_,h4⟩;have hki:k≠i:=fun h=>hnot (h▸hk);rcases Nat.lt_or_gt_of_ne hki with hlt|hgt
   ·exact h3 k dk hlt hl hdst
   ·refine absurd (hF.hide k i dk d y hl hd hki (fun hx=>?_) (hdesc k dk hk hl) hdst) h1;have:=(hanc k hx).1;omega
 have hfr:FR m N s.fe a.tmps:=⟨hS.size,fun y v hy=>hS.slot y v (hslot y v hy),hS.R.glob⟩
 have after:∀(x':AW) (w':World) (m':Map) (v':Value),m.le m'→VR m' s.v v'→R x' w' m' base→Goes aw x' w0 w' m0 m'→Ep l st aw L' x'→(∀(j e:Nat) (se:Stp),Sk l L' j→Bv l st L' j e se→Jsy aw m' x' se)→(∀(j e:Nat) (se:Stp) (j' e':Nat) (se':Stp),Sk l L' j→Bv l st L' j e se→Sk l L' j'→Bv l st L' j' e' se'→e≠e'→se.aw0.next≠se'.aw0.next)→K (a.put d.op.dst v') w':=by
  intro x' w' m' v' hle hv hR' hg hep how hap;refine hK L' hL' hcl' _ w' m' x' ⟨hR',hg,put_defers.trans hS.defers,?_,?_,hep,how,hap⟩
  ·cases d.op.dst<;>simp[Act.put,hS.size]
  ·intro y v hsl
   have old:∀v,JsB l st fr L y v→d.op.dst≠some y→∃v2,(a.put d.op.dst v').tmps[y]? = some v2∧VR m' v v2:=by
    intro v hsl hne;obtain⟨v2,q1,q2⟩:=hS.slot y v hsl;refine⟨v2,?_,q2.mono hle⟩;cases hdst:d.op.dst with
    | none=>exact q1
    | some t =>
     have:t≠y:=fun h=>hne (by rw[hdst,h]);simp[Act.put,Array.getElem?_setIfInBounds_ne this,q1]
   rcases hsl with⟨k,dk,sk,hk,h3,h4,h5,h6⟩|⟨h3,h4⟩
   ·rw[hL']at hk;by_cases hki:k=i
    ·subst hki;rw[hd]at h3;cases h3;rw[hs]at h4;cases h4;refine⟨v',?_,h6▸hv⟩
     have hlt:y<N:=by
      obtain⟨_,_,q3,q4⟩:=Cs hco;rw[←q3,h5]at q4;exact Nat.blt_eq.mp q4
     rw[h5];simp[Act.put,hS.size,hlt]
    ·refine old v (.inl ⟨k,dk,sk,hk.resolve_right hki,h3,h4,h5,h6⟩) (hF.dst k i dk d y h3 hd hki h5)
   ·refine old v (.inr ⟨fun k dk hk hl=>h3 k dk ((hL' k).2 (.inl hk)) hl,h4⟩) (h3 i d ((hL' i).2 (.inr rfl)) hd)
 have epi:=hG.ep i d s hd hs;cases heff:d.eff with
 | true =>
  by_cases hlate:∃e' de',L e'∧i<e'∧l[e']? = some de'∧de'.eff=true
  ·-- one that was owed
   obtain⟨e',de',hl',hlt',hle',hef'⟩:=hlate;have hlo:d.op.op.loose=true:=(hF.eff i e' d de' hlt' hd hle' heff hef').resolve_left (hdesc e' de' hl' hle')
   have hep:∀{x'},x'=x→Ep l st aw L' x':=by
    rintro x' rfl;rcases hS.ep with⟨h1,_⟩|⟨e,de,se,h1,h2,h3,h4,h5,h6⟩
    ·have:=h1 e' de' hl' hle';rw[hef']at this;cases this
    ·refine .inr ⟨e,de,se,(hL' e).2 (.inl h1),h2,h3,h4,h5,fun e2 de2 hle hl hef=>?_⟩;rcases (hL' e2).1 hle with h|rfl
     ·exact h6 e2 de2 h hl hef
     ·have:=h6 e' de' hl' hle' hef';omega
   have hh:∀{j},Sk l L' j→∃j',Sk l L j'∧j≤j':=by
    rintro j ⟨e,de,h1,h2,h3,rfl⟩;rcases (hL' j).1 h1 with h|rfl
    ·exact⟨j,⟨j,de,h,h2,h3,rfl⟩,FH _⟩
    ·exact⟨e',⟨e',de',hl',hle',hef',rfl⟩,by omega⟩
   have hla:∀{j j' e se},j≤j'→Bv l st L' j e se→Bv l st L j' e se∧e≠i:=by
    rintro j j' e se hjj ⟨q1,q2,q3,q4⟩;rw[hL']at q2;exact⟨⟨by omega,fun h=>q2 (.inl h),q3,q4⟩,fun h=>q2 (.inr h)⟩
   have hap:∀(j e:Nat) (se:Stp) (j' e':Nat) (se':Stp),Sk l L' j→Bv l st L' j e se→Sk l L' j'→Bv l st L' j' e' se'→e≠e'→se.aw0.next≠se'.aw0.next:=by
    intro j e se j' e' se' h1 h2 h3 h4 hne;obtain⟨j1,k1,k2⟩:=hh h1;obtain⟨j2,k3,k4⟩:=hh h3;exact hS.apart j1 e se j2 e' se' k1 (hla k2 h2).1 k3 (hla k4 h4).1 hne
   rcases (hG.one i d s hd hs).2.2.2 hlo with⟨hw,h1⟩|⟨hw,hat,h1⟩
   ·have hu:=(hG.one i d s hd hs).2.2.1 hw;refine NR hw ops N ko o' ho' hco a w m base Q K hfr hS.R fun w' m' v' hv hR' hg=>?_;refine after x w' m' v' hg.le (by rw[hu];exact hv) hR' (Goes.trans hR0 hS.goes hg) (hep rfl) (fun j e se h1 h2=>?_) hap;obtain⟨j1,k1,k2⟩:=hh h1;obtain⟨q1,q2,q3,b,q4,q5⟩:=hS.owed j1 e se k1 (hla k2 h2).1;exact⟨q1,q2,hg.still q2 q3,b,q4,q5⟩
   ·obtain⟨g1,g2,g3,g4⟩:=Cs hco;obtain⟨b,hb,hlone,hfresh⟩:=h1 o' g2;have hme:Bv l st L e' i s:=⟨hlt',hnot,⟨d,hd,heff⟩,hs,by rw[hb];exact Jwi⟩;have hhe:Sk l L e':=⟨e',de',hl',hle',hef',rfl⟩;obtain⟨p1,p2,p3,b',p4,p5⟩:=hS.owed e' i s hhe hme;have hbb:b'=b:=Ju8 (p4.symm.trans hb);subst hbb;obtain⟨obj,tot,v',k1,k2,k3⟩:=hfresh a w m N hfr;have hwant:=Aq hfr g1 hw;simp only[wpOp,ho',hwant,if_true];refine .inl ?_;simp only[Oper.wp,k1,Oper.upon_value];rw[←g3];have hset:(m.set s.aw0.next ⟨w.heap.size,0,tot⟩) s.aw0.next=some ⟨w.heap.size,0,tot⟩:=Map.set_same _ _ _;refine after x (w.alloc obj) (m.set s.aw0.next ⟨w.heap.size,0,tot⟩) v' (Map.le_set p3) (by rw[hat];exact k3 _ _ hset) (hS.R.adopt p2 p3 p5 hlone k2) (hS.goes.adopt p1 p3) (hep rfl) (fun j e se h1 h2=>?_) hap;obtain⟨j1,q1,q2⟩:=hh h1;obtain⟨q3,hei⟩:=hla q2 h2;obtain⟨r1,r2,r3,b2,r4,r5⟩:=hS.owed j1 e se q1 q3;refine⟨r1,r2,?_,b2,r4,r5⟩;rw[Map.set_ne _ _ (hS.apart j1 e se e' i s q1 q3 hhe hme hei)];exact r3
  ·-- the next one
   have noLater:∀e de,L e→l[e]? = some de→de.eff=true→e<i:=by
    intro e de he hl hef;rcases Nat.lt_trichotomy e i with h|h|h
    ·exact h
    ·exact absurd (h▸he) hnot
    ·exact absurd ⟨e,de,he,h,hl,hef⟩ hlate
   have hloose:∀(e:Nat) (de:DOper),e<i→¬L e→l[e]? = some de→de.eff=true→de.op.op.loose=true:=by
    intro e de he hn hl hef;exact (hF.eff e i de d he hl hd hef heff).resolve_left fun h=>hn (hancD e h)
   obtain⟨r1,r2,r3,r4⟩:=Jwk hG hop hS i s.aw0 epi noLater hloose;refine (hG.one i d s hd hs).1 ops N ko o' ho' hco a w m base Q K hfr r1 fun w' m' v' hv hR' hg=>?_
   have hh:∀{j},Sk l L' j→j≤i:=by
    rintro j ⟨e,de,h1,h2,h3,rfl⟩;rcases (hL' j).1 h1 with h|rfl
    ·exact KH (noLater j de h h2 h3)
    ·exact FH _
   have hla:∀{j e se},j≤i→Bv l st L' j e se→Bv l st L i e se:=by
    rintro j e se hjj ⟨q1,q2,q3,q4⟩;rw[hL']at q2;exact⟨by omega,fun h=>q2 (.inl h),q3,q4⟩
   refine after s.aw1 w' m' v' hg.le hv hR' (Goes.trans hR0 r2 hg) ?_ (fun j e se h1 h2=>?_) (fun j e se j' e' se' h1 h2 h3 h4 hne=>?_)
   ·refine .inr ⟨i,d,s,(hL' i).2 (.inr rfl),hd,heff,hs,rfl,fun e' de' hle hl hef=>?_⟩;rcases (hL' e').1 hle with h|rfl
    ·exact KH (noLater e' de' h hl hef)
    ·exact FH _
   ·obtain⟨q1,q2,q3,b,q4,q5⟩:=r3 e se (hla (hh h1) h2);exact⟨q1,FK q2 hg.next,hg.still q2 q3,b,q4,by rw[hg.unm _ q2 q3];exact q5⟩
   ·exact r4 e se e' se' (hla (hh h1) h2) (hla (hh h3) h4) hne
 | false =>
  have hq:d.op.op.quiet=true:=hquiet.resolve_left (by rw[heff];simp);obtain⟨g1,g2,g3,_⟩:=hG.one i d s hd hs
  have fin:∀(w':World) (m':Map) (v':Value),VR m' s.v v'→R x w' m' base→Goes x x w w' m m'→K (a.put d.op.dst v') w':=by
   intro w' m' v' hv hR' hg
   have hh:∀{j},Sk l L' j→Sk l L j:=by
    rintro j ⟨e,de,h1,h2,h3,rfl⟩;rcases (hL' j).1 h1 with h|rfl
    ·exact⟨j,de,h,h2,h3,rfl⟩
    ·rw[hd]at h2;cases h2;rw[heff]at h3;cases h3
   have hla:∀{j e se},Bv l st L' j e se→Bv l st L j e se:=by
    rintro j e se ⟨q1,q2,q3,q4⟩;rw[hL']at q2;exact⟨q1,fun h=>q2 (.inl h),q3,q4⟩
   refine after x w' m' v' hg.le hv hR' (Goes.trans hR0 hS.goes hg) ?_ (fun j e se h1 h2=>?_) (fun j e se j' e' se' h1 h2 h3 h4 hne=>hS.apart j e se j' e' se' (hh h1) (hla h2) (hh h3) (hla h4) hne)
   ·rcases hS.ep with⟨h1,h2⟩|⟨e,de,se,h1,h2,h3,h4,h5,h6⟩
    ·refine .inl ⟨fun e de hle hl=>?_,h2⟩;rcases (hL' e).1 hle with h|rfl
     ·exact h1 e de h hl
     ·rw[hd]at hl;cases hl;exact heff
    ·refine .inr ⟨e,de,se,(hL' e).2 (.inl h1),h2,h3,h4,h5,fun e' de' hle hl hef=>?_⟩;rcases (hL' e').1 hle with h|rfl
     ·exact h6 e' de' h hl hef
     ·rw[hd]at hl;cases hl;rw[heff]at hef;cases hef
   ·obtain⟨q1,q2,q3,b,q4,q5⟩:=hS.owed j e se (hh h1) (hla h2);exact⟨q1,q2,hg.still q2 q3,b,q4,q5⟩
  have again:TP d s x=true→wpOp P ops Q ko K a w:=by
   intro hag;unfold TP at hag;split at hag
   ·rename_i hw;have hu:=g3 hw;rw[hu]at fin;exact NR hw ops N ko o' ho' hco a w m base Q K hfr hS.R fin
   ·rename_i hw;split at hag
    ·rename_i v aw2 hv;have:=V.beq_eq hag;subst this;obtain⟨q1,_⟩:=IU hq hv;subst q1;exact Jjy hw hv ops N ko o' ho' hco a w m base Q K hfr hS.R fin
    ·cases hag
   ·cases hag
  have same:x=s.aw0→wpOp P ops Q ko K a w:=by
   intro hx;subst hx;have:=g2 hq;rw[this]at g1;exact g1 ops N ko o' ho' hco a w m base Q K hfr hS.R fin
  rcases hS.ep with⟨h1,h2⟩|⟨e',de',se',h1,h2,h3,h4,h5,h6⟩
  ·-- no effect yet
   by_cases hno:∀(e:Nat) (de:DOper),e<i→l[e]? = some de→de.eff=false
   ·refine same ?_;rcases epi with⟨p1,p2⟩|⟨e,de,se,p1,p2,p3,p4,p5,p6⟩
    ·rw[h2,p2]
    ·have:=hno e de p1 p2;rw[p3]at this;cases this
   ·-- the first effect
    have hex:∃e,e<i∧∃de,l[e]? = some de∧de.eff=true:=by
     refine Classical.byContradiction fun hc=>hno fun e de he hl=>?_;cases hb:de.eff with
     | false=>rfl
     | true=>exact absurd ⟨e,he,de,hl,hb⟩ hc
    obtain⟨e,⟨hei,de,hle,hef⟩,hmin⟩:=Jqw hex;obtain⟨se,hse⟩:∃s,st[e]? = some s:=⟨st[e]'(by rw[hG.len];omega),FB (by rw[hG.len];omega)⟩
    have h0:se.aw0=aw:=by
     rcases hG.ep e de se hle hse with⟨p1,p2⟩|⟨e2,de2,se2,p1,p2,p3,p4,p5,p6⟩
     ·exact p2
     ·exact absurd ⟨by omega,de2,p2,p3⟩ (hmin e2 p1)
    have hnD:¬L e:=fun hl=>by have:=h1 e de hl hle;rw[hef]at this;cases this
    have hk:=NQ hA hd hs hle hse heff hef (fun hx=>by
     obtain⟨_,_,_,q,_⟩:=hF.after e de hle;have:=(q i hx).1;omega) (fun hx=>hnD (hancD e hx))
    rw[h0,←h2]at hk;exact again hk.1
  ·by_cases hanc':e'∈d.anc
   ·have hlt:=(hanc e' hanc').1;by_cases hno:∀(e:Nat) (de:DOper),e'<e→e<i→l[e]? = some de→de.eff=false
    ·refine same ?_;rcases epi with⟨p1,p2⟩|⟨e,de,se,p1,p2,p3,p4,p5,p6⟩
     ·have:=p1 e' de' hlt h2;rw[h3]at this;cases this
     ·have:e=e':=by
       rcases Nat.lt_trichotomy e e' with h|h|h
       ·have:=p6 e' de' h hlt h2;rw[h3]at this;cases this
       ·exact h
       ·have:=hno e de h p1 p2;rw[p3]at this;cases this
      subst this;rw[p4]at h4;cases h4;rw[h5,p5]
    ·have hex:∃e,(e'<e∧e<i)∧∃de,l[e]? = some de∧de.eff=true:=by
      refine Classical.byContradiction fun hc=>hno fun e de he he2 hl=>?_;cases hb:de.eff with
      | false=>rfl
      | true=>exact absurd ⟨e,⟨he,he2⟩,de,hl,hb⟩ hc
     obtain⟨e,⟨⟨hei,hei2⟩,de,hle,hef⟩,hmin⟩:=Jqw hex;obtain⟨se,hse⟩:∃s,st[e]? = some s:=⟨st[e]'(by rw[hG.len];omega),FB (by rw[hG.len];omega)⟩
     have h0:se.aw0=x:=by
      rcases hG.ep e de se hle hse with⟨p1,p2⟩|⟨e2,de2,se2,p1,p2,p3,p4,p5,p6⟩
      ·have:=p1 e' de' hei h2;rw[h3]at this;cases this
      ·have:e2=e':=by
        rcases Nat.lt_trichotomy e2 e' with h|h|h
        ·have:=p6 e' de' h hei h2;rw[h3]at this;cases this
        ·exact h
        ·exact absurd ⟨⟨h,by omega⟩,de2,p2,p3⟩ (hmin e2 p1)
       subst this;rw[p4]at h4;cases h4;rw[h5,p5]
     have hnD:¬L e:=fun hl=>by have:=h6 e de hl hle hef;omega
     have hk:=NQ hA hd hs hle hse heff hef (fun hx=>by
      obtain⟨_,_,_,q,_⟩:=hF.after e de hle;have:=(q i hx).1;omega) (fun hx=>hnD (hancD e hx))
     rw[h0]at hk;exact again hk.1
   ·have hk:=NQ hA hd hs h2 h4 heff h3 (hdesc e' de' h1 h2) hanc';rw[←h5]at hk;exact again hk.2
structure PermP (n:Nat) (p:List Nat):Prop where
 len:p.length=n
 inj:∀(i j k:Nat),p[i]? = some k→p[j]? = some k→i=j
 sur:∀(k:Nat),k<n→∃(j:Nat),p[j]? = some k
 lt:∀(j k:Nat),p[j]? = some k→k<n
structure AftP (ops:Array Oper) (p:List Nat) (afs:Fx):Prop where
 mem:∀(j k:Nat) (o':Oper) (a:List Nat),p[j]? = some k→ops[k]? = some o'→afs[j]? = some a→
  (∀(x:Nat),x∈a→∃e∈o'.after,Region.binds .any e=true∧(e.on<ops.size→p[x]? = some e.on))∧(∀e∈o'.after,Region.binds .any e=true→∃(x:Nat),x∈a∧(x<p.length→p[x]? = some e.on))
def LP (p:List Nat) (D:Array Bool) (j:Nat):Prop:=∃k,p[j]? = some k∧LD D k
theorem JvQ {p:List Nat}{afs:Fx}(hG:PassG P l fr aw st fr' aw')(hF:DFacts l afs)(hA:SV l st=true)(hp:PermP ops.size p)(haf:AftP ops p afs)(hlen:l.length=ops.size)(hop:∀(i:Nat) (d:DOper),l[i]? = some d→∃k o',p[i]? = some k∧ops[k]? = some o'∧Ie P N ops o'=some d.op)(hR0:R aw w0 m0 base)(Q:Exit→Act→World→Prop)(hQ:Post N a0 aw w0 m0 base fr' aw' (Q .normal)): ∀(fuel:Nat) (D:Array Bool) (a:Act) (w:World) (m:Map) (x:AW),D.size=ops.size→Ez l (LP p D)→unl D.toList=fuel→St l st fr aw N a0 w0 m0 base (LP p D) a w m x→wpAny P .any ops Q fuel D a w:=by
 have hop':∀(i:Nat) (d:DOper),l[i]? = some d→∃o',Ie P N ops o'=some d.op:=fun i d h=>by
  obtain⟨_,o',_,_,h3⟩:=hop i d h;exact⟨o',h3⟩
 have ldlt:∀{D:Array Bool} {k:Nat},LD D k→k<D.size:=by
  intro D k h;refine Classical.byContradiction fun hn=>?_;unfold LD at h;rw[Array.getD_eq_getD_getElem?,Array.getElem?_eq_none Fh]at h;cases h
 have done:∀(D:Array Bool) (a:Act) (w:World) (m:Map) (x:AW),D.size=ops.size→Ez l (LP p D)→St l st fr aw N a0 w0 m0 base (LP p D) a w m x→Region.ready .any ops D=[]→Q .normal a w:=by
  intro D a w m x hD hcl hS hr
  have all:∀i,i<ops.size→LP p D i:=by
   intro i;induction i using Nat.strongRecOn with
   | ind i ih =>
    intro hi;obtain⟨k,hk⟩:∃k,p[i]? = some k:=⟨p[i]'(by rw[hp.len];exact hi),FB _⟩;have hkn:=hp.lt i k hk;refine⟨k,hk,Classical.byContradiction fun hn=>?_⟩
    have:k∈Region.ready .any ops D:=by
     rw[mem_ready];have hiD:k<D.size:=Fh;refine⟨?_,ops[k],by simp[hkn],fun e he hb=>?_⟩
     ·unfold LD at hn;simp[hiD]at hn ⊢;exact hn
     ·obtain⟨d,hd⟩:∃d,l[i]? = some d:=⟨l[i]'(by omega),FB Fh⟩;obtain⟨af,haf1,haf2,_⟩:=hF.after i d hd;obtain⟨_,h2⟩:=haf.mem i k ops[k] af hk (by simp[hkn]) haf1;obtain⟨y,hy,hpy⟩:=h2 e he hb;have hlt:=haf2 y hy;obtain⟨k',q1,q2⟩:=ih y hlt Fh;rw[hpy (by rw[hp.len];omega)]at q1;cases q1;exact q2
    rw[hr]at this;cases this
  have hx:x=aw':=by
   rcases hS.ep with⟨h1,h2⟩|⟨e,de,se,h1,h2,h3,h4,h5,h6⟩
   ·rcases hG.epFin with⟨p1,p2⟩|⟨e,de,se,p1,p2,p3,p4,p5,p6⟩
    ·rw[h2,p2]
    ·have:=h1 e de (all e Fh) p2;rw[p3]at this;cases this
   ·rcases hG.epFin with⟨p1,p2⟩|⟨e2,de2,se2,p1,p2,p3,p4,p5,p6⟩
    ·have:=p1 e de (Cu h2) h2;rw[h3]at this;cases this
    ·have hle:=h6 e2 de2 (all e2 Fh) p2 p3
     have:e=e2:=by
      rcases KG e2 e with h|h
      ·have:=p6 e de h (Cu h2) h2;rw[h3]at this;cases this
      ·omega
     subst this;rw[p4]at h4;cases h4;rw[h5,p5]
  subst hx;refine hQ a w m ⟨hS.size,fun y v hy=>hS.slot y v ?_,hS.R.glob⟩ hS.defers hS.R hS.goes;rcases hG.fin y v hy with⟨k,dk,sk,hk,h3,h4,h5,h6⟩|⟨h3,h4⟩
  ·exact .inl ⟨k,dk,sk,all k Fh,h3,h4,h5,h6⟩
  ·exact .inr ⟨fun k dk hk hl=>h3 k dk (Cu hl) hl,h4⟩
 intro fuel;induction fuel with
 | zero =>
  intro D a w m x hD hcl hu hS
  have hr:Region.ready .any ops D=[]:=by
   rw[List.eq_nil_iff_forall_not_mem];intro i hi;obtain⟨hun,o',ho',_⟩:=mem_ready.1 hi;have hiD:i<D.size:=by rw[hD];exact (Array.getElem?_eq_some_iff.1 ho').1
   refine Jok hu (i:=i) ?_;simp[hiD]at hun ⊢;exact hun
  exact⟨hr,done D a w m x hD hcl hS hr⟩
 | succ fuel ih =>
  intro D a w m x hD hcl hu hS;refine⟨done D a w m x hD hcl hS,fun k hi=>?_⟩;obtain⟨hun,o',ho',hafk⟩:=mem_ready.1 hi;have hkn:k<ops.size:=(Array.getElem?_eq_some_iff.1 ho').1;have hkD:k<D.size:=Fh;obtain⟨i,hpi⟩:=hp.sur k hkn;have hil:i<l.length:=by rw[hlen,←hp.len];exact (List.getElem?_eq_some_iff.1 hpi).1
  obtain⟨d,hd⟩:∃d,l[i]? = some d:=⟨l[i],FB hil⟩;obtain⟨k2,o2,q1,q2,q3⟩:=hop i d hd;rw[hpi]at q1;cases q1;rw[ho']at q2;cases q2
  have hnot:¬LP p D i:=by
   rintro⟨k',h1,h2⟩;rw[hpi]at h1;cases h1;unfold LD at h2;simp[hkD]at hun h2;rw[hun]at h2;cases h2
  refine Jvr hG hF hA hop' hR0 hcl hd ho' q3 hnot (fun a ha x hx=>?_) hS Q _ fun L' hL' hcl' a' w' m' x' hS'=>?_
  ·obtain⟨e,he,hb,hpe⟩:=(haf.mem i k o' a hpi ho' ha).1 x hx;have hld:=hafk e he hb;have hlt:=ldlt hld;exact⟨e.on,hpe Fh,hld⟩
  have hLL:L'=LP p (D.setIfInBounds k true):=by
   funext j
   refine propext ((hL' j).trans ⟨?_,?_⟩)
   ·rintro (⟨k',h1,h2⟩|rfl)
    ·exact⟨k',h1,(JmK hkD).2 (.inl h2)⟩
    ·exact⟨k,hpi,(JmK hkD).2 (.inr rfl)⟩
   ·rintro⟨k',h1,h2⟩;rcases (JmK hkD).1 h2 with h|rfl
    ·exact .inl ⟨k',h1,h⟩
    ·exact .inr (hp.inj j i k' h1 hpi)
  subst hLL;refine ih _ a' w' m' x' (by simp[hD]) hcl' ?_ hS';have:=JpJ (l:=D.toList) (i:=k) (by simp[hkD]at hun ⊢;exact hun);rw[Array.toList_setIfInBounds];omega
end
section
variable [Globs]
section
variable {P:Program} {tab:Tab}
def Jq0 (P:Program) (N:Nat) (code:Code):ACode→Prop
 | .skip=>code = .skip
 | .region l=>(∃id ops,code = .region id ops false∧CG P N ops ops.toList=some l)∨(∃id ops ld,code = .region id ops true∧AB P N ops=some ld∧ld.all DOper.clear=true∧DR ld=[]∧l=ld.map (·.op))
 | .drawn l=>∃id ops ld,code = .region id ops true∧AB P N ops=some ld∧(l=ld∨(l=ld.map DOper.unh∧ld.all DOper.clear=true))
 | .seq x y=>∃a b,code = .seq a b∧Ta P N a=some x∧Ta P N b=some y
 | .cond c x y=>∃o a b,code = .cond o a b∧La o=some c∧Ta P N a=some x∧Ta P N b=some y
 | .block id x=>∃b,code = .block id b∧Ta P N b=some x
 | .loop x=>∃b,code = .loop b∧Ta P N b=some x
 | .exit id=>code = .exit id
 | .scope x=>∃b,code = .scope b∧Ta P N b=some x
 | .ret=>code = .ret
variable {N:Nat} {c:ACode}
theorem JlL {code:Code}(h:Ta P N code=some c):Jq0 P N code c:=by
 unfold Ta at h;split at h
 ·cases h;rfl
 ·split at h
  ·cases h;rename_i hl;exact .inl ⟨_,_,rfl,hl⟩
  ·cases h
 ·split at h
  ·rename_i ld hl;cases h;unfold Jo4;split
   ·rename_i hc;split
    ·rename_i hq;exact .inr ⟨_,_,ld,rfl,hl,hc,List.isEmpty_iff.1 hq,rfl⟩
    ·exact⟨_,_,ld,rfl,hl,.inr ⟨rfl,hc⟩⟩
   ·exact⟨_,_,ld,rfl,hl,.inl rfl⟩
  ·cases h
 ·split at h
  ·cases h;rename_i h1 h2;exact⟨_,_,rfl,h1,h2⟩
  ·cases h
 ·split at h
  ·cases h;rename_i h1 h2 h3;exact⟨_,_,_,rfl,h1,h2,h3⟩
  ·cases h
 ·split at h
  ·cases h;rename_i h1;exact⟨_,rfl,h1⟩
  ·cases h
 ·split at h
  ·cases h;rename_i h1;exact⟨_,rfl,h1⟩
  ·cases h
 ·cases h;rfl
 ·split at h
  ·cases h;rename_i h1;exact⟨_,rfl,h1⟩
  ·cases h
 ·cases h;rfl
 ·cases h
variable {fr fr':Fr} {aw aw':AW} {e:AExit}
theorem GoodX.mk' (hl:∀b,c≠.loop b)(h:∀(code:Code) (N:Nat),Jq0 P N code c→∀(a:Act) (w:World) (m:Map) (base:Nat) (Q:Exit→Act→World→Prop),FR m N fr a.tmps→R aw w m base→Post N a aw w m base fr' aw' (Q (AL e))→code.wp P Q a w):GoodX P c fr aw e fr' aw':=
 ⟨fun code N hc=>h code N (JlL hc),fun b hb=>absurd hb (hl b)⟩
theorem GoodX.mkL (h:∀(code:Code) (N:Nat),Ta P N code=some c→∃n,∀(a:Act) (w:World) (m:Map) (base:Nat) (Q:Exit→Act→World→Prop),FR m N fr a.tmps→R aw w m base→Post N a aw w m base fr' aw' (Q (AL e))→Code.rounds P code Q n a w):GoodX P (.loop c) fr aw e fr' aw':=by
 refine⟨fun code N hc a w m base Q hfr hR hp=>?_,fun b hb code N hc=>?_⟩
 ·obtain⟨b,rfl,hb⟩:=JlL hc;obtain⟨n,hn⟩:=h b N hb;exact wp_loop_rounds n (hn a w m base Q hfr hR hp)
 ·cases hb;exact h code N hc
variable {base:Nat}
theorem Post.imp {a:Act}{w:World}{m:Map}{K K':Act→World→Prop}(h:Post N a aw w m base fr aw' K)(hk:∀a w,K a w→K' a w):Post N a aw w m base fr aw' K':=
 fun a' w' m' h1 h2 h3 h4=>hk _ _ (h a' w' m' h1 h2 h3 h4)
variable {args:List V}
theorem Jo5 (T:TabOK P tab){f:Nat}{af:AFun}{vs:List V}(ht:tab.code f=some af)(hn:args.length≤af.ntmps)(ih:GoodX P af.body (IY args 0) aw e fr' aw')(he:e = .normal∨e = .ret)(hr:Ox fr' aw' af.results=some vs):NH P f args aw (Oy vs) aw':=by
 obtain⟨fn,c,h1,h2,h3⟩:=T.code f af ht;unfold NL at h3;rw[h2]at h3;simp only at h3;split at h3
 ·rename_i x r hx hres;split at h3
  ·cases h3
  ·rename_i hname;cases h3;refine⟨⟨fn,h1,by rw[h2];rfl,hname⟩,fun w m base args' hR hargs=>?_⟩;have hlen:=hargs.length;refine calls_of_wp h1 h2 (ih.1 c fn.ntmps hx _ w m base _ ?_ hR ?_)
   ·refine⟨?_,fun d v hd=>?_,hR.glob⟩
    ·simp only[Array.size_append,Array.size_replicate];have:args.length=args'.size:=by simpa using hlen.symm
     simp only at hn;omega
    ·obtain⟨_,q2⟩:=JlZ (m:=m) hd;obtain⟨v',k1,k2⟩:=hargs.get q2;refine⟨v',?_,k2⟩;simp only[Nat.sub_zero,Array.getElem?_toList]at k1
     have hd':d<args'.size:=by
      rcases KG d args'.size with h|h
      ·exact h
      ·rw[Array.getElem?_eq_none h]at k1;cases k1
     rw[Array.getElem?_append_left hd'];exact k1
   ·intro a' w' m' q1 q2 q3 q4;obtain⟨v',k1,k2⟩:=JqU q3 q1 hres hr;have:bodyPost P fn (fun e w'=>∃v' m',e = .returned v'∧VR m' (Oy vs) v'∧R aw' w' m' base∧Goes aw aw' w w' m m') .ret a' w':=⟨q2,v',k1,v',m',rfl,k2,q3,q4⟩;rcases he with rfl|rfl<;>exact this
 ·cases h3
theorem JkD {N:Nat}{ops:Array Oper}:∀{l:List Oper} {r:List AOper},CG P N ops l=some r→r.length=l.length∧∀(i:Nat) (x:AOper),r[i]? = some x→∃o,l[i]? = some o∧Ie P N ops o=some x
 | [],r,h=>by cases h;exact⟨rfl,fun i x h=>by simp at h⟩
 | o::l,r,h=>by
  simp only[CG]at h;split at h
  ·rename_i a ha;split at h
   ·rename_i q hq;cases h;obtain⟨h1,h2⟩:=JkD hq;refine⟨by simp[h1],fun i x hx=>?_⟩;cases i with
    | zero=>simp at hx;subst hx;exact⟨o,rfl,ha⟩
    | succ i=>obtain⟨o',q1,q2⟩:=h2 i x (by simpa using hx);exact⟨o',by simpa using q1,q2⟩
   ·cases h
  ·cases h
theorem Rt (k:Nat):∀(p:List Nat) (i:Nat),(∃j,I8 k p i=i+j∧p[j]? = some k)∨(I8 k p i=i+p.length∧k∉p)
 | [],i=> .inr ⟨rfl,by simp⟩
 | x::p,i=>by
  simp only[I8];split
  ·rename_i h;have:=Nat.eq_of_beq_eq_true h;subst this;exact .inl ⟨0,rfl,rfl⟩
  ·rename_i h;have hne:k≠x:=fun he=>by rw[he,Nat.beq_refl]at h;cases h
   rcases Rt k p (i+1)with⟨j,h1,h2⟩|⟨h1,h2⟩
   ·exact .inl ⟨j+1,by omega,by simpa using h2⟩
   ·exact .inr ⟨by rw[h1,FC];omega,by simp[hne,h2]⟩
variable {p:List Nat}
theorem JnX {k:Nat}(h:k∈p):p[I8 k p 0]? = some k:=by
 rcases Rt k p 0 with⟨j,h1,h2⟩|⟨_,h2⟩
 ·rw[h1,FV];exact h2
 ·exact absurd h h2
theorem Jvh {k:Nat}(h:I8 k p 0<p.length):p[I8 k p 0]? = some k:=by
 rcases Rt k p 0 with⟨j,h1,h2⟩|⟨h1,h2⟩
 ·rw[h1,FV];exact h2
 ·omega
theorem JmV {q:Nat→Bool}:∀{l:List Nat},EJ q l=true→∀k∈l,q k=true
 | [],_,k,hk=>by simp at hk
 | x::l,h,k,hk=>by
  simp only[EJ]at h;split at h
  ·rename_i hx;rcases List.mem_cons.1 hk with rfl|hk
   ·exact hx
   ·exact JmV h k hk
  ·cases h
theorem Jk3:∀{p:List Nat},Nl p=true→∀(i j k:Nat),p[i]? = some k→p[j]? = some k→i=j
 | [],_,i,j,k,h,_=>by simp at h
 | x::p,h,i,j,k,hi,hj=>by
  simp only[Nl,FT,Bool.not_eq_true']at h;have hx:x∉p:=fun hm=>by rw[memN_iff.2 hm]at h;cases h.1
  cases i with
  | zero =>
   cases j with
   | zero=>rfl
   | succ j =>
    simp only[Kg,FQ]at hi;subst hi;exact absurd (FI (by simpa using hj)) hx
  | succ i =>
   cases j with
   | zero =>
    simp only[Kg,FQ]at hj;subst hj;exact absurd (FI (by simpa using hi)) hx
   | succ j=>rw[Jk3 h.2 i j k (by simpa using hi) (by simpa using hj)]
theorem JlO {lo:List AOper}{ancs:Fx}{p0:List Nat}:∀{p:List Nat} {l:List DOper},NE lo ancs p0 p=some l→l.length=p.length∧∀(i:Nat) (d:DOper),l[i]? = some d→∃k,p[i]? = some k∧lo[k]? = some d.op
 | [],l,h=>by cases h;exact⟨rfl,fun i d h=>by simp at h⟩
 | k::p,l,h=>by
  simp only[NE]at h;split at h
  ·rename_i o q ho hq;cases h;obtain⟨h1,h2⟩:=JlO hq;refine⟨by simp[h1],fun i d hd=>?_⟩;cases i with
   | zero=>simp at hd;subst hd;exact⟨k,rfl,ho⟩
   | succ i=>obtain⟨k',q1,q2⟩:=h2 i d (by simpa using hd);exact⟨k',by simpa using q1,q2⟩
  ·cases h
structure DrawnP (P:Program) (N:Nat) (ops:Array Oper) (l:List DOper) (p:List Nat):Prop where
 perm:PermP ops.size p
 aft:AftP ops p (Na (Dq ops) p)
 len:l.length=ops.size
 ok:dOK l (Na (Dq ops) p)=true
 op:∀(i:Nat) (d:DOper),l[i]? = some d→∃k o',p[i]? = some k∧ops[k]? = some o'∧Ie P N ops o'=some d.op
variable {ops:Array Oper}
theorem JiF {lo:List AOper}(hlo:CG P N ops ops.toList=some lo)(h:MJ ops lo p=some l):DrawnP P N ops l p:=by
 unfold MJ at h;split at h
 ·rename_i d hd;split at h
  ·rename_i hb;cases h;simp only[FT,Jr0]at hb;obtain⟨⟨⟨b1,b2⟩,b3⟩,b4⟩:=hb;have hlen:p.length=ops.size:=Nat.eq_of_beq_eq_true b1;have hsur:∀k,k<ops.size→k∈p:=fun k hk=>memN_iff.1 (JmV b3 k (by simpa using hk));have hinj:=Jk3 b2;obtain⟨l1,l2⟩:=JlO hd;obtain⟨c1,c2⟩:=JkD hlo
   have hop:∀(i:Nat) (d:DOper),l[i]? = some d→∃k o',p[i]? = some k∧ops[k]? = some o'∧Ie P N ops o'=some d.op:=by
    intro i d hi;obtain⟨k,q1,q2⟩:=l2 i d hi;obtain⟨o',q3,q4⟩:=c2 k d.op q2;exact⟨k,o',q1,by simpa using q3,q4⟩
   refine⟨⟨hlen,hinj,fun k hk=>⟨_,JnX (hsur k hk)⟩,fun j k hj=>?_⟩,⟨fun j k o' a hj ho ha=>?_⟩,by rw[l1,hlen],JuM b4,hop⟩
   ·have hjl:j<l.length:=by rw[l1];exact (List.getElem?_eq_some_iff.1 hj).1
    obtain⟨k',o',q1,q2,_⟩:=hop j l[j] (FB hjl);rw[hj]at q1;cases q1;exact (Array.getElem?_eq_some_iff.1 q2).1
   ·have hak:a=((o'.after.toList.filter (Region.binds .any)).map (·.on)).map (I8 · p 0):=by
     simp only[Na,F7,hj,Option.map_some,FQ]at ha;rw[←ha]
     have:(Dq ops).getD k []=(o'.after.toList.filter (Region.binds .any)).map (·.on):=by
      simp[Dq,ho]
     rw[this]
    subst hak;constructor
    ·intro x hx;simp only[Ke,KI]at hx;obtain⟨_,⟨e,⟨he,hb⟩,rfl⟩,rfl⟩:=hx;exact⟨e,by simpa using he,hb,fun hlt=>JnX (hsur _ hlt)⟩
    ·intro e he hb;refine⟨I8 e.on p 0,?_,fun hlt=>Jvh hlt⟩;simp only[Ke,KI];exact⟨e.on,⟨e,⟨by simpa using he,hb⟩,rfl⟩,rfl⟩
  ·cases h
 ·cases h
theorem Rh (h:AB P N ops=some l):∃p,DrawnP P N ops l p:=by
 unfold AB at h;split at h
 ·rename_i lo hlo;split at h
  ·rename_i d hd;cases h;exact⟨_,JiF hlo hd⟩
  ·exact⟨_,JiF hlo h⟩
 ·cases h
theorem Jne {id:Nat}{st:List Stp}(hm:P.follows .mixedOrders=true)(hc:AB P N ops=some l)(hG:PassG P l fr aw st fr' aw')(hA:SV l st=true){a:Act}{w:World}{m:Map}{Q:Exit→Act→World→Prop}(hfr:FR m N fr a.tmps)(hR:R aw w m base)(hp:Post N a aw w m base fr' aw' (Q .normal)):(Code.region id ops true).wp P Q a w:=by
 obtain⟨p,hD⟩:=Rh hc;have hR':R aw w.drew m base:=hR.drew
 have hno:∀i,¬LP p (Array.replicate ops.size false) i:=by
  rintro i ⟨k,_,hi⟩;unfold LD at hi;rw[Array.getD_eq_getD_getElem?,Array.getElem?_replicate]at hi;split at hi<;>simp at hi
 refine wp_region_any hm (JvQ hG (Jnb hD.ok) hA hD.perm hD.aft hD.len hD.op hR' Q (hp.trans hR rfl (Goes.drew aw w m)) ops.size _ a _ m aw Fj ?_ (by simp[Jix]) ?_)
 ·intro i d x hi;exact absurd hi (hno i)
 ·refine⟨hR',.refl _ _ _,rfl,hfr.size,fun y v hs=>?_,.inl ⟨fun e de he=>absurd he (hno e),rfl⟩,?_,?_⟩
  ·rcases hs with⟨k,_,_,hk,_⟩|⟨_,h⟩
   ·exact absurd hk (hno k)
   ·exact hfr.val y v h
  ·rintro j e se ⟨e',de,h1,_⟩;exact absurd h1 (hno e')
  ·rintro j e se j' e' se' ⟨e',de,h1,_⟩;exact absurd h1 (hno e')
theorem JuQ (T:TabOK P tab)(h:Exec tab c fr aw e fr' aw'):GoodX P c fr aw e fr' aw':=by
 refine Exec.rec (tab:=tab) (motive_1:=fun c fr aw e fr' aw' _=>GoodX P c fr aw e fr' aw') (motive_2:=fun l fr aw fr' aw' _=>Jwt P l fr aw fr' aw'∧∀ld,l=ld.map (·.op)→ld.all DOper.clear=true→(∀d∈ld,d.eff=true∨d.op.op.quiet=true)→∃st,PassG P ld fr aw st fr' aw'∧∀(i:Nat) (d:DOper) (s:Stp),ld[i]? = some d→st[i]? = some s→Ny d s)
  (motive_3:=fun l fr aw st fr' aw' _=>st.length=l.length∧∀ld,(l=ld∨(l=ld.map DOper.unh∧ld.all DOper.clear=true))→(∀d∈ld,d.eff=true∨d.op.op.quiet=true)→∃st2,PassG P ld fr aw st2 fr' aw'∧Sim ld st st2)
  (motive_4:=fun o fr aw v aw1 _=>∀fr2,Agree o fr fr2→EI P o fr2 aw v aw1) (motive_5:=fun f args aw v aw' _=>NH P f args aw v aw') ?skip ?region ?drawn ?seq ?seqE ?seqR ?condT ?condF ?block ?blockX ?blockE ?blockR ?loop ?loopE ?loopR ?exit ?scope ?ret ?nil ?cons ?pnil ?pcons ?opass ?oval ?oskip ?ocall ?oext ?code ?prim h
 case skip =>
  intro fr aw;refine GoodX.mk' (by intro b hb;cases hb) fun code N hc a w m base Q hfr hR hp=>?_;cases hc;exact wp_skip (hp.now hR hfr)
 case region =>
  intro l fr aw fr' aw' hops ih;refine GoodX.mk' (by intro b hb;cases hb) fun code N hc a w m base Q hfr hR hp=>?_;rcases hc with⟨id,ops,rfl,hl⟩|⟨id,ops,ld,rfl,hl,hcl,hq,rfl⟩
  ·refine wp_region (ih.1 ops N _ ?_ a w m base Q hfr hR hp);have:=JlM (k:=0) hl (fun j=>by simp)
   rwa [Array.length_toList,←List.range_eq_range']at this
  ·obtain⟨_,hD⟩:=Rh hl
   obtain⟨st,hst,hone⟩:=ih.2 ld rfl hcl fun d hd=>by
    obtain⟨i,hi⟩:=List.mem_iff_getElem?.1 hd;obtain⟨_,_,_,_,hq⟩:=(Jnb hD.ok).after i d hi;exact hq
   exact Jne T.mixed hl hst (JkI hst.len hone (by rw[hq];trivial)) hfr hR hp
 case drawn =>
  intro l fr aw st fr' aw' _ hA ih;refine GoodX.mk' (by intro b hb;cases hb) fun code N hc a w m base Q hfr hR hp=>?_;obtain⟨id,ops,ld,rfl,hl,hu⟩:=hc;obtain⟨_,hD⟩:=Rh hl
  obtain⟨st2,h1,h2⟩:=ih.2 ld hu fun d hd=>by
   obtain⟨i,hi⟩:=List.mem_iff_getElem?.1 hd;obtain⟨_,_,_,_,hq⟩:=(Jnb hD.ok).after i d hi;exact hq
  refine Jne T.mixed hl h1 (Jox h2 ?_ (hu.imp (fun h=>h) fun h=>h.1) hA) hfr hR hp;rw[ih.1];rcases hu with rfl|⟨rfl,_⟩<;>simp
 case seq =>
  intro x y fr aw fr1 aw1 e fr2 aw2 _ _ i1 i2;refine GoodX.mk' (by intro b hb;cases hb) fun code N hc a w m base Q hfr hR hp=>?_;obtain⟨ca,cb,rfl,h1,h2⟩:=hc;refine wp_seq (i1.1 ca N h1 a w m base _ hfr hR fun a' w' m' q1 q2 q3 q4=>?_);exact i2.1 cb N h2 a' w' m' base _ q1 q3 (hp.trans hR q2 q4)
 case seqE =>
  intro x y fr aw id fr1 aw1 _ i1;refine GoodX.mk' (by intro b hb;cases hb) fun code N hc a w m base Q hfr hR hp=>?_;obtain⟨ca,cb,rfl,h1,h2⟩:=hc;exact wp_seq (i1.1 ca N h1 a w m base _ hfr hR hp)
 case seqR =>
  intro x y fr aw fr1 aw1 _ i1;refine GoodX.mk' (by intro b hb;cases hb) fun code N hc a w m base Q hfr hR hp=>?_;obtain⟨ca,cb,rfl,h1,h2⟩:=hc;exact wp_seq (i1.1 ca N h1 a w m base _ hfr hR hp)
 case condT =>
  intro c x y fr aw e fr1 aw1 hv _ i1;refine GoodX.mk' (by intro b hb;cases hb) fun code N hc a w m base Q hfr hR hp=>?_;obtain⟨o,ca,cb,rfl,h0,h1,h2⟩:=hc;exact wp_cond_true (Li hfr h0 hv) (i1.1 ca N h1 a w m base _ hfr hR hp)
 case condF =>
  intro c x y fr aw e fr1 aw1 hv _ i1;refine GoodX.mk' (by intro b hb;cases hb) fun code N hc a w m base Q hfr hR hp=>?_;obtain⟨o,ca,cb,rfl,h0,h1,h2⟩:=hc;exact wp_cond_false (Li hfr h0 hv) (i1.1 cb N h2 a w m base _ hfr hR hp)
 case block =>
  intro id x fr aw fr1 aw1 _ i1;refine GoodX.mk' (by intro b hb;cases hb) fun code N hc a w m base Q hfr hR hp=>?_;obtain⟨ca,rfl,h1⟩:=hc;exact wp_block (i1.1 ca N h1 a w m base _ hfr hR hp)
 case blockX =>
  intro id x fr aw fr1 aw1 _ i1;refine GoodX.mk' (by intro b hb;cases hb) fun code N hc a w m base Q hfr hR hp=>?_;obtain⟨ca,rfl,h1⟩:=hc;refine wp_block (i1.1 ca N h1 a w m base _ hfr hR (hp.imp fun a w hq=>?_));simp only[AL,Exit.inBlock,if_true];exact hq
 case blockE =>
  intro id id' x fr aw fr1 aw1 _ hne i1;refine GoodX.mk' (by intro b hb;cases hb) fun code N hc a w m base Q hfr hR hp=>?_;obtain⟨ca,rfl,h1⟩:=hc;refine wp_block (i1.1 ca N h1 a w m base _ hfr hR (hp.imp fun a w hq=>?_));simp only[AL,Exit.inBlock,if_neg hne];exact hq
 case blockR =>
  intro id x fr aw fr1 aw1 _ i1;refine GoodX.mk' (by intro b hb;cases hb) fun code N hc a w m base Q hfr hR hp=>?_;obtain⟨ca,rfl,h1⟩:=hc;exact wp_block (i1.1 ca N h1 a w m base _ hfr hR hp)
 case loop =>
  intro x fr aw fr1 aw1 e fr2 aw2 _ _ i1 i2;refine GoodX.mkL fun code N hc=>?_;obtain⟨n,hn⟩:=i2.2 x rfl code N hc;refine⟨n+1,fun a w m base Q hfr hR hp=>?_⟩;rw[rounds_succ];refine i1.1 code N hc a w m base _ hfr hR fun a' w' m' q1 q2 q3 q4=>?_;exact hn a' w' m' base Q q1 q3 (hp.trans hR q2 q4)
 case loopE =>
  intro x fr aw id fr1 aw1 _ i1;refine GoodX.mkL fun code N hc=>⟨1,fun a w m base Q hfr hR hp=>?_⟩;rw[rounds_succ];exact i1.1 code N hc a w m base _ hfr hR hp
 case loopR =>
  intro x fr aw fr1 aw1 _ i1;refine GoodX.mkL fun code N hc=>⟨1,fun a w m base Q hfr hR hp=>?_⟩;rw[rounds_succ];exact i1.1 code N hc a w m base _ hfr hR hp
 case exit =>
  intro id fr aw;refine GoodX.mk' (by intro b hb;cases hb) fun code N hc a w m base Q hfr hR hp=>?_;cases hc;exact wp_exit (hp.now hR hfr)
 case scope =>
  intro x fr aw e fr1 aw1 _ i1;refine GoodX.mk' (by intro b hb;cases hb) fun code N hc a w m base Q hfr hR hp=>?_;obtain⟨ca,rfl,h1⟩:=hc;refine wp_scope_straight (i1.1 ca N h1 a w m base _ hfr hR (hp.imp fun a w hq=>?_));cases e<;>exact hq
 case ret =>
  intro fr aw;refine GoodX.mk' (by intro b hb;cases hb) fun code N hc a w m base Q hfr hR hp=>?_;cases hc;exact wp_ret (hp.now hR hfr)
 case nil =>
  intro fr aw;refine⟨fun ops N is hat a w m base Q hfr hR hp=>?_,fun ld hld _ _=>?_⟩
  ·cases hat;exact hp.now hR hfr
  ·cases ld with
   | nil=>exact⟨[],.nil,fun i d s h=>by simp at h⟩
   | cons d l=>simp at hld
 case cons =>
  intro o l fr aw v aw1 fr' aw' hone _ h1 ih;refine⟨fun ops N is hat a w m base Q hfr hR hp=>?_,fun ld hld hcl hq=>?_⟩
  ·obtain⟨i,r,o',rfl,ho,hc,hat⟩:=hat;rw[wpOps_cons];refine (h1 fr (.refl _ _)).1 ops N i o' ho hc a w m base Q _ hfr hR fun w' m' v' q1 q2 q3=>?_;obtain⟨_,_,g3,g4⟩:=Cs hc;exact ih.1 ops N r hat _ w' m' base Q ((hfr.mono q3.le).put (by rw[g3];exact g4) q1) q2 (hp.trans hR put_defers q3)
  ·cases ld with
   | nil=>simp at hld
   | cons d ld =>
    simp only[Kv,List.cons.injEq]at hld;obtain⟨rfl,rfl⟩:=hld;simp only[List.all_cons,FT]at hcl;have ha:=Rc (fr:=fr) hcl.1;obtain⟨st,q1,q2⟩:=ih.2 ld rfl hcl.2 fun d' hd'=>hq d' (by simp[hd']);refine⟨_,.cons (hq d Fj) (h1 _ ha) q1,fun i d' s hd hs=>?_⟩;cases i with
    | succ i=>exact q2 i d' s (by simpa using hd) (by simpa using hs)
    | zero =>
     simp at hd hs;subst hd;subst hs;show Ny d ⟨Om fr d.hide,v,aw,aw1⟩;cases hone with
     | pass hw=>exact .inl (ha.guard.trans hw)
     | val hw hv=>exact .inr ⟨ha.guard.trans hw,fun _=>⟨_,(Ak ha.op).trans hv⟩⟩
     | skip hw hv=>exact .inr ⟨ha.guard.trans hw,fun hq=>by obtain⟨_,_,h⟩:=IU hq hv;cases h⟩
     | call hw hv _=>exact .inr ⟨ha.guard.trans hw,fun hq=>by obtain⟨_,_,h⟩:=IU hq hv;cases h⟩
     | ext hw hv _=>exact .inr ⟨ha.guard.trans hw,fun hq=>by obtain⟨_,_,h⟩:=IU hq hv;cases h⟩
 case pnil =>
  intro fr aw;refine⟨rfl,fun ld hld _=>?_⟩
  have:ld=[]:=by
   rcases hld with rfl|⟨h,_⟩
   ·rfl
   ·cases ld with
    | nil=>rfl
    | cons d l=>simp at h
  subst this;exact⟨[],.nil,.refl _ _⟩
 case pcons =>
  intro d l fr aw v aw1 st fr' aw' _ _ h1 ih;refine⟨by simp[ih.1],fun ld hld hq=>?_⟩;rcases hld with rfl|⟨h,hc⟩
  ·obtain⟨st2,q1,q2⟩:=ih.2 l (.inl rfl) fun d' hd'=>hq d' (by simp[hd']);exact⟨_,.cons (hq d Fj) (h1 _ (.refl _ _)) q1,.cons ⟨.refl _ _,rfl,rfl,rfl⟩ q2⟩
  ·cases ld with
   | nil=>simp at h
   | cons d2 l2 =>
    simp only[Kv,List.cons.injEq]at h;obtain⟨rfl,rfl⟩:=h;simp only[List.all_cons,FT]at hc;obtain⟨st2,q1,q2⟩:=ih.2 l2 (.inr ⟨rfl,hc.2⟩) fun d' hd'=>hq d' (by simp[hd']);exact⟨_,.cons (hq d2 Fj) (h1 _ (Rc hc.1)) q1,.cons ⟨Rc hc.1,rfl,rfl,rfl⟩ q2⟩
 case opass =>
  intro o fr aw hw fr2 ha;exact JrV (ha.guard.trans hw)
 case oval =>
  intro o fr aw v aw1 hw hv fr2 ha;exact JtJ (ha.guard.trans hw) ((Ak ha.op).trans hv)
 case oskip =>
  intro o fr aw aw1 hw hv fr2 ha;have hw:=ha.guard.trans hw;have hv:=(Ak ha.op).trans hv;exact⟨Jnr hw hv,fun hq=>(IU hq hv).1,fun _=>rfl,fun hl=>by obtain⟨_,h⟩:=RU hl hv;cases h⟩
 case ocall =>
  intro o fr aw f args aw0 v aw1 hw hv _ hg fr2 ha;have hw:=ha.guard.trans hw;have hv:=(Ak ha.op).trans hv;refine⟨Jnq hw hv hg,fun hq=>?_,fun h=>(by rw[hw]at h;cases h),fun hl=>by obtain⟨_,h⟩:=RU hl hv;cases h⟩;obtain⟨_,v,h⟩:=IU hq hv;cases h
 case oext =>
  intro o fr aw f args aw0 v aw1 hw hv hx fr2 ha;have hw:=ha.guard.trans hw;have hv:=(Ak ha.op).trans hv;exact⟨JoD T hw hv hx,fun hq=>(by obtain⟨_,v,h⟩:=IU hq hv;cases h),fun h=>(by rw[hw]at h;cases h),fun hl=>by obtain⟨_,h⟩:=RU hl hv;cases h⟩
 case code =>
  intro f args aw af e fr' aw' vs ht hn _ he hr ih;exact Jo5 T ht hn ih he hr
 case prim =>
  intro f args aw v aw' hp;exact T.prim f args aw v aw' hp
theorem JsR (T:TabOK P tab){f:Nat}{v:V}(h:CallR tab f args aw v aw'):NH P f args aw v aw':=by
 cases h with
 | prim hp=>exact T.prim f args aw v aw' hp
 | code ht hn hx he hr =>
  exact Jo5 T ht hn (JuQ T hx) he hr
end
end
section
variable [Globs]
structure XTab where
 code:Nat→Option AFun
 prim:Nat→List V→AW→Option (V×AW)
 ext:Nat→List V→AW→Option (V×AW)
def XTab.tab (x:XTab):Tab:=⟨x.code,fun f args aw v aw'=>x.prim f args aw=some (v,aw'),fun f args aw v aw'=>x.ext f args aw=some (v,aw')⟩
abbrev X:=ACode→Fr→AW→Option (AExit×Fr×AW)
section
variable {x:XTab}
end
end
end Go.AE
open Go.RowKit
namespace Go.AE
variable [Globs]
def isTrue:Option (V×AW)→Bool
 | some (.bool true,_)=>true
 | _=>false
def Au:List (Nat×List V)→Nat→T Blk
 | [],_=> .e
 | (_,l)::r,i=>(Au r (i+1)).put i (.cells l .ro)
def AW.start:AW:=⟨Au Globs.gl 0,Globs.gl.length,.e⟩
def Ed (w:World):Prop:=∀(i g:Nat) (l:List V),Globs.gl[i]? = some (g,l)→∃cur t fz,w.heap[g]? = some (.cells cur t fz)∧VRs (fun _=>none) l cur.toList
def Ev:Map:=fun i=>match Globs.gl[i]? with
 | some (g,l)=>some ⟨g,0,l.length⟩
 | none=>none
theorem AV:∀{L:List (Nat×List V)} {k b:Nat} {x:Blk},(Au L k).get b=some x→∃j g l,b=k+j∧L[j]? = some (g,l)∧x = .cells l .ro
 | [],k,b,x,h=>by rw[show Au [] k = .e from rfl,T.get_e]at h;cases h
 | (g,l)::r,k,b,x,h=>by
  rcases T.get_put h with⟨rfl,rfl⟩|⟨h1,h2⟩
  ·exact⟨0,g,l,rfl,rfl,rfl⟩
  ·obtain⟨j,g',l',q1,q2,q3⟩:=AV h2;exact⟨j+1,g',l',by omega,by simpa using q2,q3⟩
theorem Mr:∀{L:List (Nat×List V)} {k j g:Nat} {l:List V},L[j]? = some (g,l)→(Au L k).get (k+j)=some (.cells l .ro)
 | [],k,j,g,l,h=>by simp at h
 | (g',l')::r,k,0,g,l,h=>by simp at h;obtain⟨_,rfl⟩:=h;exact T.get_put_same
 | (g',l')::r,k,j+1,g,l,h=>by
  have:=Mr (L:=r) (k:=k+1) (j:=j) (g:=g) (l:=l) (by simpa using h);show ((Au r (k+1)).put k (.cells l' .ro)).get (k+(j+1))=_;rw[T.get_put_ne Fh,show k+(j+1)=k+1+j by omega];exact this
theorem Jql:GlobIn Ev:=fun i g l h=>by simp only[Ev,h]
theorem Rn {b:Nat}{e:Emb}(h:Ev b=some e):∃g l,Globs.gl[b]? = some (g,l)∧e=⟨g,0,l.length⟩:=by
 unfold Ev at h;split at h
 ·rename_i g l hg;cases h;exact⟨g,l,hg,rfl⟩
 ·cases h
theorem R.start {w:World}(hg:Ed w):R AW.start w Ev w.heap.size where
 glob:=Jql
 gblk i g l h:=by have:=Mr (k:=0) h;rwa [FV]at this
 famlt b e l f h hb:=by
  obtain⟨_,_,_,_,_,h3⟩:=AV (k:=0) hb;cases h3
 size:=FH _
 lt b e h:=by
  obtain⟨g,l,h1,rfl⟩:=Rn h;obtain⟨cur,t,fz,h2,_⟩:=hg b g l h1;exact⟨(List.getElem?_eq_some_iff.1 h1).1,(Array.getElem?_eq_some_iff.1 h2).1⟩
 base b e h:=by
  obtain⟨g,l,h1,rfl⟩:=Rn h;have:=Mr (k:=0) h1;rw[FV]at this;exact .inr ⟨l,this⟩
 blk b e x h hb:=by
  obtain⟨g,l,h1,rfl⟩:=Rn h;have:=Mr (k:=0) h1;rw[FV]at this;rw[show AW.start.heap.get b=some (.cells l .ro)from this]at hb;cases hb;intro _;obtain⟨cur,t,⟨lo,hi⟩,h2,h3⟩:=hg b g l h1;have hlen:=h3.length;refine⟨cur,t,lo,hi,h2,by simpa using hlen,by simp,.inl rfl,fun i x hx=>?_⟩;obtain⟨y,q1,q2⟩:=h3.get hx;exact⟨y,by simpa using q1,VR.mono (fun _ _ h=>by cases h) q2⟩
 apart b e x b' e' x' h hb h' hb' hl hl' hne hec:=by
  obtain⟨_,_,_,_,_,rfl⟩:=AV (k:=0) hb;obtain⟨_,_,_,_,_,rfl⟩:=AV (k:=0) hb';rfl
 fam f F h:=by rw[show AW.start.fams = .e from rfl,T.get_e]at h;cases h
theorem Goes.below {aw aw':AW}{w w':World}{m m':Map}(h:Goes aw aw' w w' m m')(hm:∀b e,m b=some e→∃l,aw.heap.get b=some (.cells l .ro)):Below w.heap.size w w':=
 ⟨h.os,h.tape,h.output,h.size,fun k hk=>h.frame k hk fun b e x hb hx hro=>by obtain⟨l,h1⟩:=hm b e hb;rw[h1]at hx;cases hx;exact absurd rfl (hro l)⟩
def XTab.of (P:Program):XTab where
 code f:=match P.funcs[f]? with
  | some fn=>NL P fn
  | none=>none
 prim _ _ _:=none
 ext _ _ _:=none
theorem XTab.of_ok {P:Program}(hm:P.follows .mixedOrders=true):TabOK P (XTab.of P).tab where
 mixed:=hm
 code f af h:=by
  simp only[XTab.tab,XTab.of]at h;split at h
  ·rename_i fn hfn;have h0:=h;unfold NL at h;split at h
   ·rename_i c hc;exact⟨fn,c,hfn,hc,h0⟩
   ·cases h
  ·cases h
 prim f args aw v aw' h:=by cases h
 ext f args aw v aw' h:=by cases h
section
variable [Globs]
def AW.reborn (aw:AW) (f:Nat) (l2:List V):AW :=
 {heap:=aw.heap.put aw.next (.cells l2 .lax),next:=aw.next+1,fams:=aw.fams.put f ⟨aw.next,aw.next+1,aw.next⟩}
variable {l2:List V}
theorem Jn3 {aw:AW}{f:Nat}{b':Nat}{sh:Share}(hlt:b'<aw.next)(h:(aw.reborn f l2).alive b' sh=true):aw.alive b' sh=true∧sh≠.fam f:=by
 cases sh with
 | own=>exact⟨rfl,by simp⟩
 | lax=>exact⟨rfl,by simp⟩
 | ro=>exact⟨rfl,by simp⟩
 | fam g =>
  simp only[AW.alive,AW.reborn]at h;split at h
  ·rename_i G hG;rcases T.get_put hG with⟨rfl,rfl⟩|⟨h1,h2⟩
   ·simp only[Bool.or_eq_true]at h;rcases h with h|h
    ·have:=Nat.eq_of_beq_eq_true h;omega
    ·have:=Nat.le_of_ble_eq_true h;omega
   ·refine⟨?_,by simpa using h1⟩;simp only[AW.alive,h2];exact h
  ·cases h
theorem R.reborn {aw:AW}{w w':World}{m:Map}{base:Nat}(hR:R aw w m base){b f:Nat}{e en:Emb}{l:List V}(hm:m b=some e)(hx:aw.heap.get b=some (.cells l (.fam f)))(hal:aw.alive b (.fam f)=true)(hsz:w.heap.size≤w'.heap.size)(hen:en.c<w'.heap.size)(hos:w'.os=w.os)(htape:w'.tape=w.tape)(hout:w'.output=w.output)(hcase:en.c=e.c∨w.heap.size≤en.c)(hoth:∀c,c<w.heap.size→c≠e.c→w'.heap[c]? = w.heap[c]?)(hnew:BR (aw.reborn f l2) (m.set aw.next en) w' aw.next en (.cells l2 .lax)): R (aw.reborn f l2) w' (m.set aw.next en) base∧Goes aw (aw.reborn f l2) w w' m (m.set aw.next en):=by
 have hnone:m aw.next=none:=by
  cases h:m aw.next with
  | none=>rfl
  | some e=>exact absurd (hR.lt _ _ h).1 Fh
 have hle:m.le (m.set aw.next en):=Map.le_set hnone;have hbl:=hR.lt b e hm
 have old:∀{b':Nat} {e':Emb} {z:Blk},m b'=some e'→(aw.reborn f l2).heap.get b'=some z→aw.heap.get b'=some z:=by
  intro b' e' z h hz;have:=(hR.lt b' e' h).1;simp only[AW.reborn]at hz;rw[T.get_put_ne Fh]at hz;exact hz
 have live:∀{b':Nat} {e':Emb} {z:Blk},m b'=some e'→(aw.reborn f l2).live b' z=true→aw.live b' z=true∧z.share≠some (.fam f):=by
  intro b' e' z h hl;cases z with
  | cells l' sh' =>
   obtain⟨h1,h2⟩:=Jn3 (hR.lt b' e' h).1 hl;exact⟨h1,by simpa[Blk.share]using h2⟩
  | map es ck=>exact⟨rfl,fun h=>by simp[Blk.share]at h⟩
  | mapIter r1 r2 r3 r4=>exact⟨rfl,fun h=>by simp[Blk.share]at h⟩
 have away:∀{b':Nat} {e':Emb} {z:Blk},m b'=some e'→aw.heap.get b'=some z→(aw.reborn f l2).live b' z=true→e'.c≠e.c:=by
  intro b' e' z h hz hl hec;obtain⟨h1,h2⟩:=live h hl;by_cases hbb:b'=b
  ·subst hbb;rw[hx]at hz;cases hz;exact h2 rfl
  ·have hmt:=hR.apart b' e' z b e _ h hz hm hx h1 hal hbb hec;cases z with
   | cells l' sh' =>
    cases sh' with
    | own=>simp[Blk.mates]at hmt
    | lax=>simp[Blk.mates]at hmt
    | ro=>simp[Blk.mates]at hmt
    | fam g =>
     simp only[Blk.mates,beq_iff_eq]at hmt;subst hmt;exact h2 rfl
   | map es ck=>simp[Blk.mates]at hmt
   | mapIter r1 r2 r3 r4=>simp[Blk.mates]at hmt
 have hself:∀{z:Blk},(aw.reborn f l2).heap.get aw.next=some z→z = .cells l2 .lax:=by
  intro z hz;rcases T.get_put hz with⟨_,h3⟩|⟨h3,_⟩
  ·exact h3
  ·exact absurd rfl h3
 constructor
 ·constructor
  ·exact hR.glob.le hle
  ·exact fun i g l h=>hR.gnew h
  ·intro b' e' l' g h hy;rcases Map.set_cases h with⟨rfl,rfl⟩|⟨h1,h2⟩
   ·have:=hself hy;cases this
   ·have:=hR.famlt b' e' l' g h2 (old h2 hy);simp only[AW.reborn];omega
  ·have:=hR.size;omega
  ·intro b' e' h;rcases Map.set_cases h with⟨rfl,rfl⟩|⟨h1,h2⟩
   ·exact⟨by simp[AW.reborn],hen⟩
   ·have:=hR.lt b' e' h2;exact⟨by simp only[AW.reborn];omega,by omega⟩
  ·intro b' e' h;rcases Map.set_cases h with⟨rfl,rfl⟩|⟨h1,h2⟩
   ·rcases hcase with h1|h1
    ·rcases hR.base b e hm with h3|⟨l',h3⟩
     ·exact .inl Fh
     ·rw[hx]at h3;cases h3
    ·exact .inl (Kk hR.size h1)
   ·rcases hR.base b' e' h2 with h3|⟨l',h3⟩
    ·exact .inl h3
    ·exact .inr ⟨l',by simp only[AW.reborn];rw[T.get_put_ne h1];exact h3⟩
  ·intro b' e' z h hz;rcases Map.set_cases h with⟨rfl,rfl⟩|⟨h1,h2⟩
   ·have:=hself hz;subst this;exact hnew
   ·have hz':=old h2 hz;have hold:=hR.blk b' e' z h2 hz';have hlt':=hR.lt b' e' h2;cases z with
    | cells l' sh' =>
     intro hl;have hec:=away h2 hz' (z:=.cells l' sh') hl;obtain⟨cur,t,lo,hi,p1,p2,p3,p4,p5⟩:=hold (live (z:=.cells l' sh') h2 hl).1;exact⟨cur,t,lo,hi,by rw[hoth _ hlt'.2 hec];exact p1,p2,p3,p4,p5.mono hle⟩
    | map es ck=>exact BR.mono hle (fun sh l hz2 hl=>by cases hz2) (hoth e'.c hlt'.2 (away h2 hz' rfl)) hold
    | mapIter r1 r2 r3 r4=>exact BR.mono hle (fun sh l hz2 hl=>by cases hz2) (hoth e'.c hlt'.2 (away h2 hz' rfl)) hold
  ·intro b1 e1 z1 b2 e2 z2 h1 hz1 h2 hz2 hl1 hl2 hne hec;rcases Map.set_cases h1 with⟨rfl,rfl⟩|⟨k1,k2⟩
   ·rcases Map.set_cases h2 with⟨rfl,rfl⟩|⟨k3,k4⟩
    ·exact absurd rfl hne
    ·rcases hcase with q1|q1
     ·exact absurd Fh (away k4 (old k4 hz2) hl2)
     ·have:=(hR.lt b2 e2 k4).2;omega
   ·rcases Map.set_cases h2 with⟨rfl,rfl⟩|⟨k3,k4⟩
    ·rcases hcase with q1|q1
     ·exact absurd Fh (away k2 (old k2 hz1) hl1)
     ·have:=(hR.lt b1 e1 k2).2;omega
    ·exact hR.apart b1 e1 z1 b2 e2 z2 k2 (old k2 hz1) k4 (old k4 hz2) (live k2 hl1).1 (live k4 hl2).1 hne hec
  ·intro g G hG;simp only[AW.reborn]at hG;rcases T.get_put hG with⟨rfl,rfl⟩|⟨h1,h2⟩
   ·refine⟨by simp[AW.reborn],?_⟩;intro b1 e1 l1 e2 l2' g1 hz1 ha1 g2 hz2 hec;have h0:=hself hz2;cases h0
   ·obtain⟨k1,k2⟩:=hR.fam g G h2;refine⟨by simp only[AW.reborn];omega,?_⟩;intro b1 e1 l1 e2 l2' g1 hz1 ha1 g2 hz2 hec;rcases Map.set_cases g1 with⟨rfl,rfl⟩|⟨k3,k4⟩
    ·have:=hself hz1;cases this
    ·rcases Map.set_cases g2 with⟨h5,rfl⟩|⟨k5,k6⟩
     ·rw[h5]at hz2;have:=hself hz2;cases this
     ·exact k2 b1 e1 l1 e2 l2' k4 (old k4 hz1) (live (z:=.cells l1 (.fam g)) k4 ha1).1 k6 (old k6 hz2) hec
 ·constructor
  ·exact hle
  ·intro b' e' h;rcases Map.set_cases h with⟨rfl,rfl⟩|⟨h1,h2⟩
   ·rcases hcase with q1|q1
    ·exact .inr ⟨FH _,.inr ⟨b,e,_,hm,q1.symm,hx,fun l' hl'=>by cases hl'⟩⟩
    ·exact .inr ⟨FH _,.inl q1⟩
   ·exact .inl h2
  ·simp[AW.reborn]
  ·exact hsz
  ·exact hos
  ·exact htape
  ·exact hout
  ·intro b' l' h hlt;simp only[AW.reborn];rw[T.get_put_ne Fh];exact h
  ·intro b' l' h hlt;simp only[AW.reborn]at h;rw[T.get_put_ne Fh]at h;exact⟨l',h⟩
  ·intro c hc hno;refine hoth c hc (fun hce=>?_);exact hno b e _ hm hx (fun l' hl'=>by cases hl') hce.symm
  ·intro b' hlt h;simp only[AW.reborn];rw[T.get_put_ne Fh];exact h
  ·intro b' hlt _;simp only[AW.reborn];rw[T.get_put_ne Fh]
end
section
variable [Globs]
theorem AY (c:Nat)(t:TypeId)(fz:Nat×Nat):∀(vs:List Value) (o:Nat) (cur:Array Value) (w:World),w.heap[c]? = some (.cells cur t fz)→o+vs.length≤cur.size→ ∃cur':Array Value,w.setCells c o vs=Oa w c (.cells cur' t fz)∧cur'.size=cur.size∧∀j,cur'[j]? = if o≤j∧j<o+vs.length then vs[j-o]? else cur[j]?
 | [],o,cur,w,hg,_=>by
  refine⟨cur,?_,rfl,fun j=>?_⟩
  ·rw[JjM hg];rfl
  ·rw[if_neg Fj]
 | v::vs,o,cur,w,hg,hl=>by
  simp only[FC]at hl;have hc:c<w.heap.size:=(Array.getElem?_eq_some_iff.1 hg).1;have hone:w.setCell ⟨c,o,none⟩ v=Oa w c (.cells (cur.setIfInBounds o v) t fz):=JjL hg;obtain⟨cur',k1,k2,k3⟩:=AY c t fz vs (o+1) (cur.setIfInBounds o v) (Oa w c (.cells (cur.setIfInBounds o v) t fz)) (IP hc) (by simp;omega);refine⟨cur',?_,by simpa using k2,fun j=>?_⟩
  ·simp only[World.setCells,hone,k1,NU]
  ·rw[k3 j];simp only[FC];by_cases c1:o+1≤j∧j<o+1+vs.length
   ·rw[if_pos c1,if_pos Fh];have:j-o=(j-(o+1))+1:=Fh;rw[this,Kh]
   ·rw[if_neg c1];by_cases c2:j=o
    ·subst c2;rw[if_pos Fh];simp[show j<cur.size by omega]
    ·rw[if_neg Fh,Array.getElem?_setIfInBounds_ne Fh]
def QF (P:Program) (f:Nat):Prop:=∀(b off n c i vb voff m vc:Nat) (cs vs:List Value) (w:World),i<n→0<m→n+m≤c→n+m≤9223372036854775807→vb≠b→
 cs.length=n→vs.length=m→(∀j v,cs[j]? = some v→w.cell? ⟨b,off+j,none⟩=some v)→(∀j,j<n+m→(w.cell? ⟨b,off+j,none⟩).isSome=true)→(∀j,j<n+m→w.frozen? ⟨b,off+j,none⟩=false)→
 (∀j v,vs[j]? = some v→w.cell? ⟨vb,voff+j,none⟩=some v)→(∀v∈cs,v.oneCell'=true)→(∀v∈vs,v.oneCell'=true)→
 ∀(tA tB:TypeId) (kA kB:Nat),w.shape? vb=some (tA,kA)→w.shape? b=some (tB,kB)→kB≠0→w.frozen? ⟨vb,voff,none⟩=false→w.frozen? ⟨vb,kA,none⟩=false→
 Calls P f #[.slice (some ⟨b,off,none⟩) n c,.int .i64 i,.slice (some ⟨vb,voff,none⟩) m vc] w fun e w' =>
  e = .returned (.slice (some ⟨b,off,none⟩) (n+m) c)∧w'=(w.drew.setCells b (off+(i+m)) (cs.drop i)).setCells b (off+i) vs
def Jlf (P:Program) (f:Nat) (te:TypeId) (zero:Value) (bytes:Nat):Prop:=∀(b off n c i vb voff m vc:Nat) (cs vs:List Value) (w:World),i<n→0<m→n≤c→c<n+m→(n+m)*bytes≤140737488355328→
 cs.length=n→vs.length=m→(∀j v,cs[j]? = some v→w.cell? ⟨b,off+j,none⟩=some v)→
 (∀j v,vs[j]? = some v→w.cell? ⟨vb,voff+j,none⟩=some v)→(∀v∈cs,v.oneCell'=true)→(∀v∈vs,v.oneCell'=true)→
 Calls P f #[.slice (some ⟨b,off,none⟩) n c,.int .i64 i,.slice (some ⟨vb,voff,none⟩) m vc] w fun e w' =>
  e = .returned (.slice (some ⟨w.heap.size,0,none⟩) (n+m) (grownCap w (n+m) c te))∧
  w'=(((w.alloc (.cells ((cs.take i).toArray++Builtin.zeroCells zero.cells (n+m-i)++Builtin.zeroCells zero.cells (grownCap w (n+m) c te-(n+m))) te)).drew.setCells w.heap.size i vs).drew).setCells w.heap.size (i+m) (cs.drop i)
def AW.insFam (aw:AW) (b:Nat) (n k:Nat) (l2:List V):Option (V×AW) :=
 match aw.heap.get b with
 | some (.cells _ (.fam f))=>some (.slice aw.next 0 (n+k) (.upTo 1),aw.reborn f l2)
 | _=>none
def Ci (bytes:Nat) (args:List V) (aw:AW):Option (V×AW) :=
 match args with
 | [.slice b off n (.upTo 1),.int .i64 (.ofNat i),.slice bv ov k (.known _)] =>
  match Nat.blt i n,Nat.blt 0 k,Nat.ble ((n+k)*bytes) 70368744177664,Nat.ble (n+k) 70368744177664,Nat.beq bv b with
  | true,true,true,true,false=>match aw.heap.get bv,aw.load bv ov k,aw.load b off n with
   | some (.cells _ .own),some vs,some cs=>match Lv vs,Lv cs with
    | true,true=>match aw.heap.get b with
     | some (.cells _ (.fam _))=>aw.insFam b n k (cs.take i++vs++cs.drop i)
     | some (.cells l .own)=>match (aw.found b l).alive b (.fam aw.next)with
      | true=>(aw.found b l).insFam b n k (cs.take i++vs++cs.drop i)
      | false=>none
     | some (.cells l .lax)=>match (aw.found b l).alive b (.fam aw.next)with
      | true=>(aw.found b l).insFam b n k (cs.take i++vs++cs.drop i)
      | false=>none
     | _=>none
    | _,_=>none
   | _,_,_=>none
  | _,_,_,_,_=>none
 | _=>none
theorem Dp (w:World)(c:Nat)(o:Obj):(Oa w c o).heap.size=w.heap.size:=by simp[Oa]
variable {cur:Array Value} {t:TypeId}
theorem Ng {w:World}{c o:Nat}{fz:Nat×Nat}(h:w.heap[c]? = some (.cells cur t fz)):w.cell? ⟨c,o,none⟩=cur[o]?:=by
 simp[World.cell?,h]
theorem RL {w:World}{c o:Nat}{lo hi:Nat}(h:w.heap[c]? = some (.cells cur t (lo,hi)))(hf:lo=hi∨o<lo):w.frozen? ⟨c,o,none⟩=false:=by
 simp only[World.frozen?,h,Bool.and_eq_false_iff,decide_eq_false_iff_not];omega
section
variable {P:Program} {f:Nat} {te:TypeId} {zero:Value} {bytes:Nat} {aw:AW} {w:World} {m:Map} {base:Nat}
variable {i:Nat}
theorem Jpo {ys zs:List Value}{j:Nat}(hi:i≤ys.length):(ys.take i++zs++ys.drop i)[j]? = if j<i then ys[j]? else if j<i+zs.length then zs[j-i]? else ys[j-zs.length]?:=by
 have ht:(ys.take i).length=i:=by rw[FU];omega
 by_cases h1:j<i
 ·rw[if_pos h1,F6,F5 Fh,List.getElem?_take,if_pos h1]
 ·rw[if_neg h1];by_cases h2:j<i+zs.length
  ·rw[if_pos h2,F6,F4 Fh,ht,F5 Fh]
  ·rw[if_neg h2,F4 (by simp;omega),Kr]
   congr 1
   simp;omega
variable {lv vs cs:List V}
theorem Jtm (hs:QF P f)(hg:Jlf P f te zero bytes)(hz:zero.cells.size=1)(hR:R aw w m base){b bv off n ov k cp vc g:Nat}{e ev:Emb}{l:List V}(hin:i<n)(hk:0<k)(hb1:(n+k)*bytes≤70368744177664)(hb2:n+k≤70368744177664)(hne:bv≠b)(hm:m b=some e)(hx:aw.heap.get b=some (.cells l (.fam g)))(hal:aw.alive b (.fam g)=true)(hmv:m bv=some ev)(hxv:aw.heap.get bv=some (.cells lv .own))(hv:aw.load bv ov k=some vs)(hc:aw.load b off n=some cs)(h1:Lv vs=true)(h2:Lv cs=true)(hcp:n≤cp)(htot:e.s+off+cp=e.tot): Calls P f #[.slice (some ⟨e.c,e.s+off,none⟩) n cp,.int .i64 i,.slice (some ⟨ev.c,ev.s+ov,none⟩) k vc] w fun r w' => ∃v' m',r = .returned v'∧VR m' (.slice aw.next 0 (n+k) (.upTo 1)) v'∧R (aw.reborn g (cs.take i++vs++cs.drop i)) w' m' base∧Goes aw (aw.reborn g (cs.take i++vs++cs.drop i)) w w' m m':=by
 obtain⟨ys,y1,y2,y3⟩:=Dv hR hm hc;obtain⟨zs,z1,z2,z3⟩:=Dv hR hmv hv;obtain⟨cur,t,lo,hi,p1,p2,p3,p4,p5⟩:=hR.blk b e _ hm hx hal;obtain⟨curv,tv,lov,hiv,q1,q2,q3,q4,q5⟩:=hR.blk bv ev _ hmv hxv rfl;have hlv:lov=hiv:=(q4.resolve_left Fj).elim (·.1) (fun h=>absurd rfl h.1);have hlt:=hR.lt b e hm;have hnone:=Mi hR
 have hec:ev.c≠e.c:=fun hec=>by
  have:=hR.apart bv ev _ b e _ hmv hxv hm hx rfl hal hne hec;simp[Blk.mates]at this
 have ycur:∀j v,ys[j]? = some v→cur[e.s+off+j]? = some v:=fun j v hj=>by
  have:=y3 j v hj
  rwa [Addr.add_lit,Ng p1]at this
 have hcl:cs.length=n:=by have:=y2.length;omega
 have hvl:vs.length=k:=by have:=z2.length;omega
 have hl2:(cs.take i++vs++cs.drop i).length=n+k:=by simp;omega
 have hVR:VRs m (cs.take i++vs++cs.drop i) (ys.take i++zs++ys.drop i):=(y2.take.append z2).append y2.drop;have o1:=AZ y2 h2;have o2:=AZ z2 h1;by_cases hroom:n+k≤cp
 ·refine (hs e.c (e.s+off) n cp i ev.c (ev.s+ov) k vc ys zs w hin hk hroom Fh hec y1 z1 (fun j v hj=>by rw[Ng p1];exact ycur j v hj) (fun j hj=>by rw[Ng p1,Array.getElem?_eq_getElem Fh];rfl)
   (fun j hj=>RL p1 ((p4.resolve_left Fj).imp (·.1) (fun h=>by omega))) (fun j v hj=>by have:=z3 j v hj;rwa [Addr.add_lit]at this) o1 o2 tv t curv.size cur.size (by simp[World.shape?,q1]) (by simp[World.shape?,p1]) Fh
   (RL q1 (.inl hlv)) (RL q1 (.inl hlv))).mono ?_
  rintro r w' ⟨rfl,rfl⟩;have hdl:(ys.drop i).length=n-i:=by rw[Ki,y1]
  obtain⟨cur1,a1,a2,a3⟩:=AY e.c t (lo,hi) (ys.drop i) (e.s+off+(i+k)) cur w.drew p1 Fh;obtain⟨cur2,b1,b2,b3⟩:=AY e.c t (lo,hi) zs (e.s+off+i) cur1 (Oa w.drew e.c (.cells cur1 t (lo,hi))) (IP hlt.2) Fh;rw[a1,b1,NU]
  have hre:=hR.reborn (w':=Oa w.drew e.c (.cells cur2 t (lo,hi))) (en:=⟨e.c,e.s+off,e.tot⟩) (l2:=cs.take i++vs++cs.drop i) hm hx hal (by rw[Dp];exact FH _) (by rw[Dp];exact hlt.2) rfl rfl rfl (.inl rfl)
   (fun c hc hne=>by rw[C9 hne];rfl) (by
    intro _;refine⟨cur2,t,lo,hi,IP hlt.2,by show cur2.size=e.tot;omega,by rw[hl2];show e.s+off+(n+k)≤e.tot;omega,.inr ((p4.resolve_left Fj).imp (fun h=>⟨h.1,fun q=>by cases q⟩) (fun h=>⟨by simp,by omega⟩)),fun j x hj=>?_⟩;obtain⟨y,k1,k2⟩:=hVR.get hj;refine⟨y,?_,k2.mono (Map.le_set hnone)⟩;rw[Jpo Fh]at k1;show cur2[e.s+off+j]? = some y;rw[b3,a3];by_cases c1:j<i
    ·rw[if_pos c1]at k1;rw[if_neg Fh,if_neg Fh];exact ycur j y k1
    ·rw[if_neg c1]at k1;by_cases c2:j<i+zs.length
     ·rw[if_pos c2]at k1;rw[if_pos Fh,show e.s+off+j-(e.s+off+i)=j-i from by omega];exact k1
     ·rw[if_neg c2]at k1;have hjl:j<n+k:=by have:=(List.getElem?_eq_some_iff.1 hj).1;omega
      rw[if_neg Fh,if_pos Fh,Kr,show i+(e.s+off+j-(e.s+off+(i+k)))=j-zs.length from by omega];exact k1)
  exact⟨_,_,rfl,⟨_,Map.set_same _ _ _,_,_,rfl,hroom,.inl ⟨rfl,by show e.s+off+0+cp*1=e.tot;omega⟩⟩,hre.1,hre.2⟩
 ·refine (hg e.c (e.s+off) n cp i ev.c (ev.s+ov) k vc ys zs w hin hk hcp Fh Fh y1 z1 (fun j v hj=>by rw[Ng p1];exact ycur j v hj) (fun j v hj=>by have:=z3 j v hj;rwa [Addr.add_lit]at this) o1 o2).mono ?_;rintro r w' ⟨rfl,rfl⟩;have hdl:(ys.drop i).length=n-i:=by rw[Ki,y1]
  have hge:=grownCap_ge w (n+k) cp te;generalize grownCap w (n+k) cp te=G at hge ⊢
  have hrow:((ys.take i).toArray++Builtin.zeroCells zero.cells (n+k-i)++Builtin.zeroCells zero.cells (G-(n+k))).size=G:=by
   simp only[Array.size_append,Rx,hz,List.size_toArray,FU];omega
  have hfront:∀j,j<i→((ys.take i).toArray++Builtin.zeroCells zero.cells (n+k-i)++Builtin.zeroCells zero.cells (G-(n+k)))[j]? = ys[j]?:=fun j hj=>by
   have ht:(ys.take i).length=i:=by rw[FU];omega
   rw[Array.append_assoc,Array.getElem?_append_left (by simp;omega),List.getElem?_toArray,List.getElem?_take,if_pos hj]
  generalize ((ys.take i).toArray++Builtin.zeroCells zero.cells (n+k-i)++Builtin.zeroCells zero.cells (G-(n+k)))=row at hrow hfront ⊢;have hW:(w.alloc (.cells row te)).heap[w.heap.size]? = some (.cells row te (0,0)):=Cw w _;obtain⟨cur1,a1,a2,a3⟩:=AY w.heap.size te (0,0) zs i row (w.alloc (.cells row te)).drew hW Fh;have hH:w.heap.size<(w.alloc (.cells row te)).heap.size:=by show w.heap.size<(w.heap.push _).size;simp
  obtain⟨cur2,b1,b2,b3⟩:=AY w.heap.size te (0,0) (ys.drop i) (i+k) cur1 (Oa (w.alloc (.cells row te)).drew w.heap.size (.cells cur1 te (0,0))).drew (IP hH) Fh;rw[a1,b1]
  have hre:=hR.reborn (w':=Oa (Oa (w.alloc (.cells row te)).drew w.heap.size (.cells cur1 te (0,0))).drew w.heap.size (.cells cur2 te (0,0))) (en:=⟨w.heap.size,0,G⟩) (l2:=cs.take i++vs++cs.drop i) hm hx hal
   (by rw[Dp];show _≤(Oa (w.alloc (.cells row te)).drew w.heap.size (.cells cur1 te (0,0))).heap.size;rw[Dp];exact KH hH) (by rw[Dp];show _<(Oa (w.alloc (.cells row te)).drew w.heap.size (.cells cur1 te (0,0))).heap.size;rw[Dp];exact hH) rfl rfl rfl (.inr (FH _))
   (fun c hc hne=>by
    rw[C9 Fh];show (Oa (w.alloc (.cells row te)).drew w.heap.size (.cells cur1 te (0,0))).heap[c]? = _;rw[C9 Fh];exact DF w _ hc) (by
    intro _;refine⟨cur2,te,0,0,IP (by show _<(Oa (w.alloc (.cells row te)).drew w.heap.size (.cells cur1 te (0,0))).heap.size;rw[Dp];exact hH),by show cur2.size=G;omega,by rw[hl2];show 0+(n+k)≤G;omega,.inr (.inl ⟨rfl,fun _=>rfl⟩),fun j x hj=>?_⟩;obtain⟨y,k1,k2⟩:=hVR.get hj;refine⟨y,?_,k2.mono (Map.le_set hnone)⟩;rw[Jpo Fh]at k1;show cur2[0+j]? = some y;rw[FV,b3,a3];by_cases c1:j<i
    ·rw[if_pos c1]at k1;rw[if_neg Fh,if_neg Fh,hfront j c1];exact k1
    ·rw[if_neg c1]at k1;by_cases c2:j<i+zs.length
     ·rw[if_pos c2]at k1;rw[if_neg Fh,if_pos Fh];exact k1
     ·rw[if_neg c2]at k1;have hjl:j<n+k:=by have:=(List.getElem?_eq_some_iff.1 hj).1;omega
      rw[if_pos Fh,Kr,show i+(j-(i+k))=j-zs.length from by omega];exact k1)
  exact⟨_,_,rfl,⟨_,Map.set_same _ _ _,_,_,rfl,hge,.inl ⟨rfl,by show 0+0+G*1=G;omega⟩⟩,hre.1,hre.2⟩
theorem Jl0 (hs:QF P f)(hg:Jlf P f te zero bytes)(hz:zero.cells.size=1)(hR:R aw w m base){b bv off n ov k vc:Nat}(hin:i<n)(hk:0<k)(hb1:(n+k)*bytes≤70368744177664)(hb2:n+k≤70368744177664)(hne:bv≠b)(hxv:aw.heap.get bv=some (.cells lv .own))(hv:aw.load bv ov k=some vs)(hc:aw.load b off n=some cs)(h1:Lv vs=true)(h2:Lv cs=true){x y:Value}(hx':VR m (.slice b off n (.upTo 1)) x)(hy':VR m (.slice bv ov k (.known vc)) y){v:V}{aw':AW}(h:aw.insFam b n k (cs.take i++vs++cs.drop i)=some (v,aw')): Calls P f #[x,.int .i64 i,y] w fun r w'=>∃v' m',r = .returned v'∧VR m' v v'∧R aw' w' m' base∧Goes aw aw' w w' m m':=by
 unfold AW.insFam at h;split at h
 ·rename_i l g hx;cases h;obtain⟨e,hm,ad,cp,rfl,hcp,hcase⟩:=hx';obtain⟨ev,hmv,rfl⟩:=hy'
  have hal:aw.alive b (.fam g)=true:=by
   unfold AW.load at hc;rw[hx]at hc;simp only[]at hc;split at hc
   ·assumption
   ·cases hc
  rcases hcase with⟨rfl,htot⟩|h0
  ·exact Jtm hs hg hz hR hin hk hb1 hb2 hne hm hx hal hmv hxv hv hc h1 h2 hcp Fh
  ·omega
 ·cases h
theorem Jqt (hs:QF P f)(hg:Jlf P f te zero bytes)(hz:zero.cells.size=1){args:List V}{v:V}{aw':AW}(h:Ci bytes args aw=some (v,aw'))(w:World)(m:Map)(base:Nat)(args':Array Value)(hR:R aw w m base)(hargs:VRs m args args'.toList): Calls P f args' w fun r w'=>∃v' m',r = .returned v'∧VR m' v v'∧R aw' w' m' base∧Goes aw aw' w w' m m':=by
 unfold Ci at h;split at h
 ·rename_i b off n i bv ov k vc;obtain⟨x,r1,e1,hx',y1,r2,rfl,e2,y,r3,rfl,hy',rfl⟩:=hargs;obtain rfl:y1 = .int .i64 (.ofNat i):=e2;obtain rfl:args' = #[x,.int .i64 (.ofNat i),y]:=by cases args';simp_all
  split at h
  ·rename_i c1 c2 c3 c4 c5;have d1:i<n:=Nat.blt_eq.mp c1;have d2:0<k:=Nat.blt_eq.mp c2;have d3:=Nat.le_of_ble_eq_true c3;have d4:=Nat.le_of_ble_eq_true c4;have d5:bv≠b:=fun hh=>by rw[hh,Nat.beq_refl]at c5;cases c5
   split at h
   ·rename_i lv vs cs hxv hv hc;split at h
    ·rename_i a1 a2
     have lax:∀l,aw.heap.get b=some (.cells l .own)∨aw.heap.get b=some (.cells l .lax)→(aw.found b l).alive b (.fam aw.next)=true→(aw.found b l).insFam b n k (cs.take i++vs++cs.drop i)=some (v,aw')→Calls P f #[x,.int .i64 (.ofNat i),y] w fun r w'=>∃v' m',r = .returned v'∧VR m' v v'∧R aw' w' m' base∧Goes aw aw' w w' m m':=by
      intro l hl halive h;obtain⟨e,hm,_⟩:=id hx'
      obtain⟨f1,f2⟩:R (aw.found b l) w m base∧Goes aw (aw.found b l) w w m m:=by
       rcases hl with hl|hl
       ·exact hR.found hm hl
       ·exact hR.foundLax hm hl
      have hlt:=(hR.lt b e hm).1;have hxv':(aw.found b l).heap.get bv=some (.cells lv .own):=by simp only[AW.found];rw[T.get_put_ne d5];exact hxv
      have hb':(aw.found b l).heap.get b=some (.cells l (.fam aw.next)):=by
       unfold AW.insFam at h;split at h
       ·rename_i l' g hg';rcases T.get_put hg' with⟨_,hh⟩|⟨hh,_⟩
        ·rw[hg'];cases hh;rfl
        ·exact absurd rfl hh
       ·cases h
      have hcap:aw.heap.get b=some (.cells l .own)∨aw.heap.get b=some (.cells l .lax):=hl
      have hv':(aw.found b l).load bv ov k=some vs:=by
       unfold AW.load at hv ⊢;rw[hxv]at hv;rw[hxv'];exact hv
      have hc':(aw.found b l).load b off n=some cs:=by
       unfold AW.load at hc ⊢;rw[hb'];simp only[halive];rcases hl with hl|hl<;>(rw[hl]at hc;exact hc)
      refine (Jl0 hs hg hz f1 d1 d2 d3 d4 d5 hxv' hv' hc' a1 a2 hx' hy' h).mono ?_;rintro r w' ⟨v',m',e1,e2,e3,e4⟩;exact⟨v',m',e1,e2,e3,Goes.trans hR f2 e4⟩
     split at h
     ·exact Jl0 hs hg hz hR d1 d2 d3 d4 d5 hxv hv hc a1 a2 hx' hy' h
     ·rename_i l hl;split at h
      ·rename_i ha;exact lax l (.inl hl) ha h
      ·cases h
     ·rename_i l hl;split at h
      ·rename_i ha;exact lax l (.inr hl) ha h
      ·cases h
     ·cases h
    ·cases h
   ·cases h
  ·cases h
 ·cases h
end
end
section
instance seatGlobs:Globs:=⟨[(1,pow10V)]⟩
end
end Go.AE
namespace Go.Proofs.YtegdcbdicpfbpaaGreatDoor
abbrev JaX:Nat:=4
abbrev Gk:Nat:=6
abbrev VI:Nat:=7
abbrev VJ:Nat:=8
abbrev Gl:Nat:=9
abbrev VK:Nat:=10
abbrev Gm:Nat:=11
abbrev YD:Nat:=12
abbrev Gn:Nat:=13
abbrev Gp:Nat:=14
abbrev Gq:Nat:=15
abbrev Gr:Nat:=16
abbrev VM:Nat:=17
abbrev ZL:Nat:=18
abbrev Gs:Nat:=20
abbrev ZM:Nat:=21
abbrev Ze:Nat:=26
abbrev Gt:Nat:=27
abbrev Gu:Nat:=28
abbrev Gv:Nat:=29
abbrev Gw:Nat:=30
abbrev VN:Nat:=31
abbrev VO:Nat:=32
abbrev VP:Nat:=33
abbrev VQ:Nat:=34
abbrev Gx:Nat:=35
abbrev YE:Nat:=36
abbrev VS:Nat:=37
abbrev Gy:Nat:=39
abbrev YF:Nat:=40
abbrev JK:Nat:=41
abbrev Gz:Nat:=42
abbrev Js:Nat:=43
abbrev YG:Nat:=44
abbrev GA:Nat:=55
abbrev GB:Nat:=56
abbrev VT:Nat:=57
abbrev ZN:Nat:=58
abbrev ZO:Nat:=59
abbrev GC:Nat:=60
abbrev GD:Nat:=61
abbrev YH:Nat:=62
abbrev GE:Nat:=63
abbrev GF:Nat:=64
abbrev Zf:Nat:=65
abbrev GH:Nat:=66
abbrev VU:Nat:=67
abbrev Zg:Nat:=68
abbrev VV:Nat:=69
abbrev GJ:Nat:=71
abbrev ZP:Nat:=72
abbrev YI:Nat:=73
abbrev GK:Nat:=87
abbrev YJ:Nat:=88
abbrev GL:Nat:=89
abbrev VW:Nat:=90
abbrev GM:Nat:=91
abbrev Zh:Nat:=92
abbrev GN:Nat:=93
abbrev GO:Nat:=94
abbrev YK:Nat:=95
abbrev VX:Nat:=96
abbrev ZQ:Nat:=97
abbrev GP:Nat:=98
abbrev YL:Nat:=99
abbrev GQ:Nat:=100
abbrev GR:Nat:=101
abbrev YM:Nat:=102
abbrev GS:Nat:=103
abbrev JaY:Nat:=104
abbrev JaZ:Nat:=105
abbrev YN:Nat:=106
abbrev Zi:Nat:=107
abbrev VY:Nat:=108
abbrev GU:Nat:=119
abbrev GV:Nat:=120
abbrev GW:Nat:=121
abbrev YO:Nat:=122
abbrev YP:Nat:=123
abbrev YQ:Nat:=124
abbrev GX:Nat:=125
abbrev VZ:Nat:=126
abbrev V0:Nat:=127
abbrev GY:Nat:=128
abbrev GZ:Nat:=130
abbrev G0:Nat:=143
abbrev G1:Nat:=144
abbrev Ja0:Nat:=145
abbrev V1:Nat:=146
abbrev G2:Nat:=186
abbrev V2:Nat:=189
abbrev Jg:Nat:=190
abbrev G3:Nat:=191
abbrev ZR:Nat:=193
abbrev JW:Nat:=194
abbrev G4:Nat:=195
abbrev G5:Nat:=196
abbrev JX:Nat:=197
end Go.Proofs.YtegdcbdicpfbpaaGreatDoor
