/- A part of the proof. -/
import Derived.Test.YtegdcbdicpfbpaaGreatDoorJdI
import Derived.Test.YtegdcbdicpfbpaaGreatDoorJdO
import Derived.Test.YtegdcbdicpfbpaaGreatDoorJdM
open Int renaming ofNat → Fq
open Go.IntKind renaming wrap → KZ
set_option linter.unusedVariables false
set_option linter.unusedSimpArgs false
namespace Delphi
open Go.AE
variable [Globs]
theorem DD:∀(n m:Nat),m≤n→(∀x∈Te m,LX x=true)∧(Te m).foldl TK 0=m∧∃c t,Te m=c::t∧(m≠0→c≠48)
 | n,m,h=>by
  by_cases hs:m<10
  ·rw[Rj hs];refine⟨fun x hx=>?_,?_,48+m,[],rfl,fun h=>by omega⟩
   ·simp only[FJ,F3,or_false]at hx;subst hx;simp only[LX,FT,decide_eq_true_eq];omega
   ·simp only[Ku,List.foldl_nil,TK];rw[if_neg Fh];omega
  ·match n,h with
   | 0,h=>omega
   | n+1,h =>
    obtain⟨h1,h2,c,t,h3,h4⟩:=DD n (m / 10) Fh;rw[JlP hs];refine⟨fun x hx=>?_,?_,c,t++[48+m % 10],by rw[h3];rfl,fun _=>h4 Fh⟩
    ·rcases List.mem_append.1 hx with hx|hx
     ·exact h1 x hx
     ·simp only[FJ,F3,or_false]at hx;subst hx;simp only[LX,FT,decide_eq_true_eq];omega
    ·rw[List.foldl_append,h2];simp only[Ku,List.foldl_nil,TK];rw[if_neg Fh];omega
theorem Ri:∀(k m:Nat),m<10 ^ k→0<k→(Te m).length≤k
 | 0,m,h,h0=>by omega
 | k+1,m,h,h0=>by
  by_cases hs:m<10
  ·rw[Rj hs];simp
  ·rw[JlP hs,FE,Kb]
   have hk:0<k:=by
    by_cases hk:k=0
    ·subst hk;simp at h;omega
    ·omega
   have:=Ri k (m / 10) (by rw[Nat.pow_succ]at h;omega) hk;omega
theorem JrC:JwT Ba:=by
 intro n hn;cases n with
 | ofNat m =>
  obtain⟨h1,h2,c,t,h3,_⟩:=DD m m (FH _);refine⟨h2,?_⟩;show (Te m).head? = some 45↔_;rw[h3];simp only[List.head?_cons,FQ];have hc:=h1 c (by rw[h3];simp);constructor
  ·rintro rfl;exact absurd hc (by decide)
  ·intro h;exact absurd h Fj
 | negSucc m =>
  obtain⟨h1,h2,c,t,h3,_⟩:=DD (m+1) (m+1) (FH _);refine⟨?_,?_⟩
  ·show (45::Te (m+1)).foldl TK 0=m+1;rw[Ku];have:TK 0 45=0:=by simp[TK]
   rw[this];exact h2
  ·show (45::Te (m+1)).head? = some 45↔_;simp only[List.head?_cons,true_iff];exact Int.negSucc_lt_zero m
theorem Jpc {n:Int}(hn:n.natAbs≤2147483648):Jv0 (Ba n):=by
 cases n with
 | ofNat m =>
  have hn:m≤2147483648:=hn;obtain⟨h1,h2,c,t,h3,h4⟩:=DD m m (FH _);have hl:=Ri 10 m Fh Fh;refine⟨by show (Te m).length≤16;omega,?_⟩;show Te m=[48]∨_;by_cases h0:m=0
  ·subst h0;left;exact Rj Fh
  ·right;exact⟨[],c,t,by rw[List.nil_append];exact h3,.inl rfl,h1 c (by rw[h3];simp),h4 h0,fun x hx=>h1 x (by rw[h3];simp[hx])⟩
 | negSucc m =>
  have hn:m+1≤2147483648:=hn;obtain⟨h1,h2,c,t,h3,h4⟩:=DD (m+1) (m+1) (FH _);have hl:=Ri 10 (m+1) Fh Fh;refine⟨by show (45::Te (m+1)).length≤16;rw[FC];omega,.inr ⟨[45],c,t,?_,.inr rfl,h1 c (by rw[h3];simp),h4 Fh,fun x hx=>h1 x (by rw[h3];simp[hx])⟩⟩;show 45::Te (m+1)=_;rw[h3];rfl
structure WdG (w:Wd):Prop where
 lo:1≤w.kind
 hi:w.kind≤4
 nm:w.kind=1→AP w.text
 vr:w.kind=2→Jwr w.text
omit [Globs] in
theorem Jwb {w:Wd}(h:JvG w):WdG w:=by
 obtain⟨u,h1,h2,h3,h4⟩:=h;cases u with
 | nil=>exact absurd rfl h1
 | cons c t =>
  have h16:w.kind≠4→w.text.length≤16:=by
   intro hk;rw[h3,FU];have:¬16<(LA (c::t)).2:=fun h=>h4 ⟨by rw[←h2];exact hk,h⟩;omega
  by_cases hs:Ir c=true
  ·have e:LA (c::t)=(1,((c::t).takeWhile OH).length):=by simp only[LA,hs,if_true]
   rw[e]at h2 h3;simp only at h2 h3;rw[Jhx]at h3;have hn:OH c=true:=by simp[OH,hs]
   refine⟨by omega,by omega,fun _=>⟨c,t.takeWhile OH,by rw[h3,List.takeWhile_cons_of_pos hn],hs,fun x hx=>?_,h16 Fh⟩,(fun h=>by omega)⟩;rw[h3]at hx;exact (List.all_eq_true.1 (List.all_takeWhile (p:=OH) (l:=c::t))) x hx
  ·by_cases hg:Db c=true
   ·have e:LA (c::t)=(2,((c::t).takeWhile BV).length):=by simp only[LA,hs,hg,if_true,FM,if_false]
    rw[e]at h2 h3;simp only at h2 h3;rw[Jhx]at h3;have hn:BV c=true:=by simp[BV,hg]
    refine⟨by omega,by omega,fun h=>by omega,fun _=>⟨c,t.takeWhile BV,by rw[h3,List.takeWhile_cons_of_pos hn],hg,fun x hx=>?_,h16 Fh⟩⟩;rw[h3]at hx;exact (List.all_eq_true.1 (List.all_takeWhile (p:=BV) (l:=c::t))) x hx
   ·have hk:w.kind=3∨w.kind=4:=by
     rw[h2];revert h1;simp only[LA,hs,hg,FM,if_false];split
     ·intro _;exact .inl rfl
     ·split
      ·intro _;exact .inr rfl
      ·intro h;exact absurd rfl h
    rcases hk with hk|hk
    ·exact⟨by omega,by omega,fun h=>by omega,fun h=>by omega⟩
    ·exact⟨by omega,by omega,fun h=>by omega,fun h=>by omega⟩
def TG (t:Tm):Prop:=TmW t∧TmX Ba t
variable {ws:List Wd} {k e:Nat}
theorem Jlx (hw:∀w∈ws,WdG w)(h:(Ls ws k e).2.2=0):TG (Ls ws k e).1:=by
 unfold Ls at h ⊢;cases hn:TN ws k e with
 | none =>
  rw[hn]at h;simp only[Bh]at h;split at h
  ·omega
  ·contradiction
 | some w =>
  rw[hn]at h;simp only at h ⊢;obtain⟨_,_,hm⟩:=Q5 hn;have hg:=hw w (FI hm);by_cases h4:w.kind=4
  ·rw[if_pos h4]at h;simp at h
  ·rw[if_neg h4]at h ⊢;by_cases h1:w.kind=1
   ·rw[if_pos h1];exact⟨.inr (.inl ⟨rfl,rfl⟩),(fun h=>by cases h),(fun _=>hg.nm h1),(fun h=>by cases h)⟩
   ·rw[if_neg h1]at h ⊢;by_cases h2:w.kind=2
    ·rw[if_pos h2];exact⟨.inl ⟨rfl,rfl⟩,(fun _=>hg.vr h2),(fun h=>by cases h),(fun h=>by cases h)⟩
    ·rw[if_neg h2]at h ⊢;by_cases hb:2147483648<IK w.text
     ·rw[if_pos hb]at h;simp at h
     ·rw[if_neg hb];have ha:(if w.text.head? = some 45 then -(IK w.text:Int)else (IK w.text:Int)).natAbs≤2147483648:=by split<;>omega
      exact⟨.inr (.inr ⟨rfl,rfl,ha⟩),(fun h=>by cases h),(fun h=>by cases h),(fun _=>Jpc ha)⟩
omit [Globs] in
theorem Jmc {n:Nat}{l:List Tm}(h:e≠0):Tc ws n l k e=(l,k,e):=by
 cases n with
 | zero=>rfl
 | succ n=>simp only[Tc,if_neg h]
theorem Jpy {ws:List Wd}(hw:∀w∈ws,WdG w):∀(n:Nat) (args:List Tm) (k e:Nat),(∀t∈args,TG t)→args.length≤4→(Tc ws n args k e).2.2=0→(∀t∈(Tc ws n args k e).1,TG t)∧(Tc ws n args k e).1.length≤4
 | 0,args,k,e,h,hl,_=>⟨h,hl⟩
 | n+1,args,k,e,h,hl,he=>by
  by_cases h0:e=0
  case neg=>rw[Jmc h0]at he;exact absurd he h0
  subst h0;simp only[Tc,if_true]at he ⊢
  have hz:(if (Ls ws k 0).2.2=0∧args.length=4 then 8 else (Ls ws k 0).2.2)=0:=by
   by_cases hc:OY ws (Ls ws k 0).2.1 [44]=true
   ·rw[if_pos hc]at he;by_cases hz:(if (Ls ws k 0).2.2=0∧args.length=4 then 8 else (Ls ws k 0).2.2)=0
    ·exact hz
    ·rw[Jmc hz]at he;exact he
   ·rw[if_neg hc]at he;exact he
  have hr:(Ls ws k 0).2.2=0∧args.length≠4:=by
   by_cases hc:(Ls ws k 0).2.2=0∧args.length=4
   ·rw[if_pos hc]at hz;omega
   ·rw[if_neg hc]at hz;exact⟨hz,fun h=>hc ⟨hz,h⟩⟩
  have ht:=Jlx hw hr.1
  have hall:∀t∈args++[(Ls ws k 0).1],TG t:=by
   intro t hm;rcases List.mem_append.1 hm with hm|hm
   ·exact h t hm
   ·simp only[FJ,F3,or_false]at hm;subst hm;exact ht
  have hl':(args++[(Ls ws k 0).1]).length≤4:=by simp;omega
  split
  ·rename_i hc;rw[if_pos hc]at he;exact Jpy hw n _ _ _ hall hl' he
  ·exact⟨hall,hl'⟩
structure AtG (l:Lt):Prop where
 kind:l.kind=1
 nm:AP l.name
 tm:∀t∈l.args,TG t
 four:l.args.length≤4
theorem Jlv (hw:∀w∈ws,WdG w)(h:(Lu ws k e).2.2=0):AtG (Lu ws k e).1:=by
 unfold Lu at h ⊢;cases hn:TN ws k e with
 | none =>
  rw[hn]at h;simp only[Bh]at h;split at h
  ·omega
  ·contradiction
 | some w =>
  rw[hn]at h;simp only at h ⊢;obtain⟨_,_,hm⟩:=Q5 hn;have hg:=hw w (FI hm);by_cases h1:w.kind=1
  ·rw[if_pos h1]at h ⊢;by_cases hs:OY ws (k+1) [40]=true
   ·rw[if_pos hs]at h ⊢;simp only at h ⊢;have he:=Jn0 h;obtain⟨q1,q2⟩:=Jpy hw (ws.length+1) [] (k+2) e Fj Fj he;exact⟨rfl,hg.nm h1,q1,q2⟩
   ·rw[if_neg hs]at h ⊢;exact⟨rfl,hg.nm h1,by simp,by simp⟩
  ·rw[if_neg h1]at h;simp at h
structure LG (l:Lt):Prop where
 x:LtX Ba l
 four:l.args.length≤4
omit [Globs] in
theorem AtG.lit {l:Lt}(h:AtG l):LG l:=⟨⟨⟨.inl (.inl h.kind),fun t ht=>(h.tm t ht).1⟩,fun _=>h.nm,fun t ht=>(h.tm t ht).2⟩,h.four⟩
omit [Globs] in
theorem Jmv {s:List Nat}(h:TW s≠0):3≤TW s∧TW s≤6:=by
 unfold TW at h ⊢;split
 ·omega
 ·split
  ·omega
  ·split
   ·omega
   ·split
    ·omega
    ·rename_i h1 h2 h3 h4;rw[if_neg h1,if_neg h2,if_neg h3,if_neg h4]at h;exact absurd rfl h
theorem Jwm (hw:∀w∈ws,WdG w)(h:(Ow ws k e).2.2=0):LG (Ow ws k e).1:=by
 unfold Ow at h ⊢;by_cases h33:OY ws k [33]=true
 ·rw[if_pos h33]at h ⊢;simp only at h ⊢;have:=Jlv hw h;exact⟨⟨⟨.inl (.inr rfl),fun t ht=>(this.tm t ht).1⟩,fun _=>this.nm,fun t ht=>(this.tm t ht).2⟩,this.four⟩
 ·rw[if_neg h33]at h ⊢;by_cases h1:De ws k=1∧OC ws (k+1)=0
  ·rw[if_pos h1]at h ⊢;exact (Jlv hw h).lit
  ·rw[if_neg h1]at h ⊢;simp only at h ⊢;by_cases hc:(Ls ws k e).2.2≠0∨OC ws (Ls ws k e).2.1=0
   ·rw[if_pos hc]at h;simp only[Bh]at h;split at h
    ·omega
    ·contradiction
   ·rw[if_neg hc]at h ⊢;simp only at h ⊢
    have ha0:(Ls ws k e).2.2=0:=by
     by_cases hz:(Ls ws k e).2.2=0
     ·exact hz
     ·exact absurd (.inl hz) hc
    have hz:OC ws (Ls ws k e).2.1≠0:=fun hz=>hc (.inr hz);have ha:=Jlx hw ha0;have hb:=Jlx hw h
    have hk:3≤OC ws (Ls ws k e).2.1∧OC ws (Ls ws k e).2.1≤6:=by
     unfold OC at hz ⊢;split at hz
     ·split at hz
      ·rename_i h4;rw[if_pos h4];exact Jmv hz
      ·exact absurd rfl hz
     ·exact absurd rfl hz
    have hT:∀t∈[(Ls ws k e).1,(Ls ws ((Ls ws k e).2.1+1) (Ls ws k e).2.2).1],TG t:=by
     intro t ht;simp only[FJ,F3,or_false]at ht;rcases ht with rfl|rfl
     ·exact ha
     ·exact hb
    refine⟨⟨⟨.inr ⟨hk.1,hk.2,rfl,rfl⟩,fun t ht=>(hT t ht).1⟩,fun h=>?_,fun t ht=>(hT t ht).2⟩,by simp⟩;simp only at h;omega
omit [Globs] in
theorem Jmd {n:Nat}{l:List Lt}(h:e≠0):OX ws n l k e=(l,k,e):=by
 cases n with
 | zero=>rfl
 | succ n=>simp only[OX,if_neg h]
theorem Jpz {ws:List Wd}(hw:∀w∈ws,WdG w):∀(n:Nat) (l:List Lt) (k e:Nat),(∀t∈l,LG t)→l.length≤6→(OX ws n l k e).2.2=0→(∀t∈(OX ws n l k e).1,LG t)∧(OX ws n l k e).1.length≤6
 | 0,l,k,e,h,hl,_=>⟨h,hl⟩
 | n+1,l,k,e,h,hl,he=>by
  by_cases h0:e=0
  case neg=>rw[Jmd h0]at he;exact absurd he h0
  subst h0;simp only[OX,if_true]at he ⊢
  have hz:(if (Ow ws k 0).2.2=0∧l.length=6 then 8 else (Ow ws k 0).2.2)=0:=by
   by_cases hc:OY ws (Ow ws k 0).2.1 [44]=true
   ·rw[if_pos hc]at he;by_cases hz:(if (Ow ws k 0).2.2=0∧l.length=6 then 8 else (Ow ws k 0).2.2)=0
    ·exact hz
    ·rw[Jmd hz]at he;exact he
   ·rw[if_neg hc]at he;exact he
  have hr:(Ow ws k 0).2.2=0∧l.length≠6:=by
   by_cases hc:(Ow ws k 0).2.2=0∧l.length=6
   ·rw[if_pos hc]at hz;omega
   ·rw[if_neg hc]at hz;exact⟨hz,fun h=>hc ⟨hz,h⟩⟩
  have ht:=Jwm hw hr.1
  have hall:∀t∈l++[(Ow ws k 0).1],LG t:=by
   intro t hm;rcases List.mem_append.1 hm with hm|hm
   ·exact h t hm
   ·simp only[FJ,F3,or_false]at hm;subst hm;exact ht
  have hl':(l++[(Ow ws k 0).1]).length≤6:=by simp;omega
  split
  ·rename_i hc;rw[if_pos hc]at he;exact Jpz hw n _ _ _ hall hl' he
  ·exact⟨hall,hl'⟩
def RG (r:Rl):Prop:=RlX Ba r∧RlL r
theorem Jr6 (hw:∀w∈ws,WdG w)(h:(OT ws k e).2.2=0):RG (OT ws k e).1:=by
 unfold OT at h ⊢;simp only at h ⊢;have he:=Jn0 h
 have hb:(Lu ws k e).2.2=0∧(∀t∈(if OY ws (Lu ws k e).2.1 [58,45]=true∧(Lu ws k e).2.2=0 then OX ws (ws.length+1) [] ((Lu ws k e).2.1+1) (Lu ws k e).2.2 else ([],(Lu ws k e).2.1,(Lu ws k e).2.2)).1,LG t)∧(if OY ws (Lu ws k e).2.1 [58,45]=true∧(Lu ws k e).2.2=0 then OX ws (ws.length+1) [] ((Lu ws k e).2.1+1) (Lu ws k e).2.2 else ([],(Lu ws k e).2.1,(Lu ws k e).2.2)).1.length≤6:=by
  split at he
  ·rename_i hc;rw[if_pos hc];obtain⟨q1,q2⟩:=Jpz hw (ws.length+1) [] ((Lu ws k e).2.1+1) (Lu ws k e).2.2 Fj Fj he;exact⟨hc.2,q1,q2⟩
  ·rename_i hc;rw[if_neg hc];exact⟨he,by simp,by simp⟩
 obtain⟨h0,hb1,hb2⟩:=hb;have ha:=Jlv hw h0;generalize (if OY ws (Lu ws k e).2.1 [58,45]=true∧(Lu ws k e).2.2=0 then OX ws (ws.length+1) [] ((Lu ws k e).2.1+1) (Lu ws k e).2.2 else ([],(Lu ws k e).2.1,(Lu ws k e).2.2))=b at hb1 hb2;exact⟨⟨⟨ha.kind,fun t ht=>(ha.tm t ht).1,fun l hl=>(hb1 l hl).x.w⟩,ha.nm,fun t ht=>(ha.tm t ht).2,fun l hl=>(hb1 l hl).x⟩,ha.four,hb2,fun l hl=>(hb1 l hl).four⟩
theorem Jn2 {ws:List Wd}(hw:∀w∈ws,WdG w):∀(n:Nat) (l:List Rl) (k e:Nat),(∀t∈l,RG t)→l.length≤30→(BZ ws n l k e).2.2=0→(∀t∈(BZ ws n l k e).1,RG t)∧(BZ ws n l k e).1.length≤30
 | 0,l,k,e,h,hl,_=>⟨h,hl⟩
 | n+1,l,k,e,h,hl,he=>by
  by_cases hc:e=0∧k<ws.length
  case neg=>simp only[BZ,if_neg hc];exact⟨h,hl⟩
  simp only[BZ,if_pos hc]at he ⊢
  have hz:(if (OT ws k e).2.2=0∧l.length=30 then 8 else (OT ws k e).2.2)=0:=by
   by_cases hz:(if (OT ws k e).2.2=0∧l.length=30 then 8 else (OT ws k e).2.2)=0
   ·exact hz
   ·rw[JqP hz]at he;exact he
  have hr:(OT ws k e).2.2=0∧l.length≠30:=by
   by_cases hc:(OT ws k e).2.2=0∧l.length=30
   ·rw[if_pos hc]at hz;omega
   ·rw[if_neg hc]at hz;exact⟨hz,fun h=>hc ⟨hz,h⟩⟩
  have ht:=Jr6 hw hr.1;refine Jn2 hw n _ _ _ (fun t hm=>?_) (by simp;omega) he;rcases List.mem_append.1 hm with hm|hm
  ·exact h t hm
  ·simp only[FJ,F3,or_false]at hm;subst hm;exact ht
theorem R4 (s:List Nat):(∀r∈(IV s).1,RG r)∧(IV s).1.length≤30:=by
 unfold IV;split
 ·simp
 ·have hw:∀w∈(scan 0 s).1,WdG w:=fun w hw=>Jwb (Jlb _ 0 s (FH _) w hw);have hG:=Jn2 hw ((scan 0 s).1.length+1) [] 0 0 Fj Fj;simp only;generalize BZ (scan 0 s).1 ((scan 0 s).1.length+1) [] 0 0=r at hG ⊢;by_cases he:Bh r.2.2 (if (scan 0 s).2=true then 0 else 4)=0
  ·rw[if_pos he]
   have h0:r.2.2=0:=by
    unfold Bh at he;split at he
    ·assumption
    ·exact he
   exact hG h0
  ·rw[if_neg he];simp
end Delphi
set_option maxRecDepth 10000
namespace Go.Proofs.YtegdcbdicpfbpaaGreatDoor
open Go.AE Delphi Val
variable {tab:Tab}
section
open Go.AE Delphi Val
variable {tab:Tab}
theorem JvP (a b:List Nat)(h:a.length+b.length≤100000000000000000):∃c,c=a++b∧Oi BinOp.add a b=some (.str c):=by
 refine⟨_,rfl,?_⟩;simp only[Oi];rw[if_pos Fh]
end
section
open Go.AE Delphi Val
variable {tab:Tab}
def SC (most:Int) (n:Nat):Bool:=decide (0≤most)&&decide (most<Fq n)
variable {cells:List V} {K:V→AW→Prop}
theorem JuN (C:Codes tab){jb width:Nat}{S:Fw}{op:V}{rows:Fy}{most:Int}{aw:AW}(hj:CB aw jb cells)(h13:Lr 1 (cells.drop 13)=some [op])(h14:Lr 1 (cells.drop 14)=some [.int .i64 most])(hs:Rel.SetOf S aw op width rows)(h:K (.bool (SC most rows.length)) aw):WF tab GO [.ptr jb 0] aw K:=by
 refine Ld C.Ws rfl ?_;have j13:aw.load jb 13 1=some [op]:=CB.ld hj 13 1 _ h13;have j14:aw.load jb 14 1=some [.int .i64 most]:=CB.ld hj 14 1 _ h14;by_cases h0:0≤most
 ·have e:SC most rows.length=decide (most<Fq rows.length):=by unfold SC;rw[decide_eq_true h0,Bool.true_and]
  rw[e]at h;have hge:decide (most≥0)=true:=decide_eq_true h0;refine Fz (by simp only[go_sem,K5,ZG,U2];rfl) ?_;refine Bo ?_;refine LU 100 (by simp only[go_sem,K5,j14,hge,h0,j13];rfl) ?_;refine BJ Ff Fe ?_;refine Rel.len_ok C hs ?_;refine LU 100 (by simp only[go_sem,K5,j14];rfl) ?_;refine O1 ⟨(show LF _ _ [(14,10)]from by simp only[go_sem,K5,LF,chk,List.reverse_cons,List.reverse_nil,O8,O6,O4,O5,List.getElem?_nil,false_or,or_true,or_false,exists_eq',FQ,Prod.mk.injEq,Bool.true_eq_false,FM,and_true,true_and,implies_true,j14]),?_⟩;refine K6 1000 Fe ?_;refine K7 ⟨_,by simp only[go_sem,K5,ZG];rfl,?_⟩;exact h
 ·have e:SC most rows.length=false:=by unfold SC;rw[decide_eq_false h0,Bool.false_and]
  rw[e]at h;have hge:decide (most≥0)=false:=decide_eq_false h0;refine Fz (by simp only[go_sem,K5,ZG,U2];rfl) ?_;refine Bo ?_;refine LU 100 (by simp only[go_sem,K5,j14,hge,h0];rfl) ?_;refine O1 ⟨(show LF _ _ [(14,10)]from by simp only[go_sem,K5,LF,chk,List.reverse_cons,List.reverse_nil,O8,O6,O4,O5,List.getElem?_nil,false_or,or_true,or_false,exists_eq',FQ,Prod.mk.injEq,Bool.true_eq_false,FM,and_true,true_and,implies_true,j14,true_or]),?_⟩;refine K6 1000 Fe ?_;refine K7 ⟨_,by simp only[go_sem,K5,ZG];rfl,?_⟩;exact h
def Si (M:Vm) (l:Fx):List Nat:=l.flatMap fun v=>32::Ba (Lm M v)
def SQ (M:Vm) (k:Nat) (l:Fx):List Nat:=Ba (Fq k)++Si M l
theorem JnD (M:Vm)(l:Fx)(v:List Nat):Si M (l++[v])=Si M l++32::Ba (Lm M v):=by simp[Si]
def Ib (tab:Tab):Prop:=∀n aw,-9223372036854775808≤n→n≤9223372036854775807→CallR tab YO [.int .i64 n] aw (.str (Ba n)) aw
theorem Jnl {n:Int}(h:n.natAbs≤100000):(Ba n).length≤16:=(Jpc (n:=n) Fh).1
theorem JjC (M:Vm)(hM:∀v,(Lm M v).natAbs≤100000):∀l:Fx,(Si M l).length≤17*l.length
 | []=>by simp[Si]
 | v::l=>by
  have h1:=JjC M hM l;have h2:=Jnl (hM v);have e:Si M (v::l)=32::Ba (Lm M v)++Si M l:=rfl;rw[e,FE,FC,FC];omega
theorem Jwe (C:Codes tab)(I:Ib tab){jb vb k:Nat}{O O2 O3:Fw}{M:Vm}{ncs:List V}{need:Fx}{nv:V}{nn:Nat}{aw:AW}(hj:CB aw jb cells)(h10:Lr 1 (cells.drop 10)=some [nv])(h12:Lr 1 (cells.drop 12)=some [.map vb])(hM:SM aw vb M)(hMv:∀v,(Lm M v).natAbs≤100000)(hn:Rd O2 aw nv 1 nn ncs)(hk:k<nn)(hnv:∃sv,ncs[k]? = some sv∧Rd O3 aw sv 1 need.length (LY need))(hnl:need.length≤100)(h:K (.str (SQ M k need)) aw)(hkn:k≤1000):WF tab GN [.ptr jb 0,.int .i64 (Fq k)] aw K:=by
 refine Ld C.Wr rfl ?_;have j10:aw.load jb 10 1=some [nv]:=CB.ld hj 10 1 _ h10;have j12:aw.load jb 12 1=some [.map vb]:=CB.ld hj 12 1 _ h12;obtain⟨sv,hsv,hsr⟩:=hnv;have hslv:=hsr.lenV;refine Fz (by simp only[go_sem,K5,Wq];rfl) ?_;refine K9 Ff Fe ?_;refine⟨_,_,I (Fq k) aw (by show (-9223372036854775808:Int)≤(k:Int);omega) (by show (k:Int)≤_;omega),?_⟩;rcases hn.inv with⟨_,h0,_⟩|⟨nb,no,nc,rfl,hB⟩
 ·omega
 have ln:aw.load nb (no+k*1) 1=some [sv]:=by rw[KC];exact hB.cell Fh hsv
 refine Fz (by simp only[go_sem,K5,Jap,j10,hk,ln,hslv];rfl) ?_
 refine LK (fun n f w=>∃i s,s=Ba (Fq k)++Si M (need.take i)∧f.get 0=some (.ptr jb 0)∧f.get 5=some (.str s)∧f.get 16=some sv∧f.get 17=some (.int .i64 (Fq need.length))∧f.get 18=some (.int .i64 (Fq i))∧w=aw∧i≤need.length∧n=need.length-i)
  (fun f w=>f.get 5=some (.str (SQ M k need))∧w=aw) ?_ ?_ need.length ⟨0,Ba (Fq k),by simp[Si],Fb,Fb,Fb,Fb,Fb,rfl,Nat.zero_le _,rfl⟩
 ·rintro n f w ⟨i,s,hs,f0,f5,f16,f17,f18,rfl,hi,rfl⟩ ih out;by_cases hil:i<need.length
  case neg =>
   obtain rfl:i=need.length:=Fh;rw[List.take_length]at hs;refine Lb 1000 (by simp only[go_sem,U1,f17,f18,hil];rfl) ?_;exact out _ _ _ ⟨by rw[show SQ M k need=s from hs.symm];exact (Fg f5),rfl⟩ rfl
  obtain⟨t,ht⟩:∃t,need[i]? = some t:=⟨_,FB hil⟩;have hwr:KZ .i64 (Fq i+1)=Fq (i+1):=Lh Fh;have look:=hM.look BB (.int .i64 0) t
  have hlk:w.lookV (.scalar .str) (.int .i64 0) (.map vb) (.str t)=some (.int .i64 (Lm M t),(K8 M t).isSome):=by
   rw[look];unfold Lm;cases K8 M t<;>rfl
  rcases hsr.inv with⟨_,h0,_⟩|⟨sb,so,sc,rfl,hB2⟩
  ·omega
  have ls:w.load sb (so+i*1) 1=some [.str t]:=by rw[KC];exact hB2.cell Fh (by unfold LY;rw[F7,ht];rfl)
  have hv:=hMv t;have hfl:=Jnl hv;have hkl:=Jnl (n:=Fq k) (by show (k:Int).natAbs≤_;omega);have htl:=JjC M hMv (need.take i);rw[FU,KD hi]at htl;have hsl:s.length≤10000:=by rw[hs,FE];omega
  refine Fz (by simp only[go_sem,K5,U1,Jao,Jan,f0,f5,f16,f17,f18,hil,ls,j12,hlk];rfl) ?_;refine K9 Ff Fe ?_;refine⟨_,_,I (Lm M t) w Fh Fh,?_⟩;obtain⟨d1,hd1,e1⟩:=JvP [32] (Ba (Lm M t)) (by simp only[FC,FD];omega);have hd1l:d1.length≤20:=by rw[hd1,FE];simp only[FC,FD];omega
  obtain⟨d2,hd2,e2⟩:=JvP s d1 Fh;refine Fz (by simp only[go_sem,K5,e1,e2,f18,hwr];rfl) ?_;refine ih _ _ _ Fh ⟨i+1,d2,?_,(Fg f0),Fb,(Fg f16),(Fg f17),Fb,rfl,by omega,rfl⟩;rw[O7 ht,JnD,hd2,hd1,hs];simp only[F6];rfl
 ·rintro f w ⟨f5,rfl⟩;refine Fz (by simp only[go_sem,K5,f5];rfl) ?_;refine K7 ⟨_,by simp only[go_sem,K5,Wq];rfl,?_⟩;exact h
end
section
open Go.AE Delphi Val
variable {tab:Tab}
def SetQ (S:Fw) (w:AW) (p:V) (q:Option (Nat×List (List Int))):Prop:=match q with
 | none=>p = .nilptr
 | some (width,rows)=>Rel.SetOf S w p width rows
variable {S:Fw} {q:Option (Nat×List (List Int))}
theorem SetQ.frm {R:Fw}{w w':AW}{p:V}(h:SetQ S w p q)(hf:Frm R w w')(hd:∀x,S x→¬R x):SetQ S w' p q:=by
 cases q with
 | none=>exact h
 | some x=>exact Rel.SetOf.frm h hf hd
variable {K:V→AW→Prop}
theorem Jsr (C:Codes tab){p:V}{aw:AW}(hs:SetQ S aw p q)(h:K (.int .i64 (match q with|none=>-1|some x=>Fq x.1)) aw):WF tab YQ [p] aw K:=by
 cases q with
 | none =>
  have hs:p = .nilptr:=hs;subst hs;exact JoT C h
 | some x=>exact Jua C hs h
def CS (q:Option (Nat×List (List Int))) (n:Nat):Option (Nat×List (List Int)):=match q with
 | none=>none
 | some x=>if x.1=n then some x else none
theorem Jsg (C:Codes tab){jb sty sfn:Nat}{O S':Fw}{body:List Lt}{l:Lt}{i:Nat}{a:Int}{cells:List V}{xb dp sv:V}{dq:Option (Nat×List (List Int))}{sets:List Nat→Option (Nat×List (List Int))}{aw:AW}(hj:CB aw jb cells)(h3:Lr 1 (cells.drop 3)=some [xb])(h5:Lr 1 (cells.drop 5)=some [.iface sty sv])(hsl:L9 [(41,Jg,none)] sty=some (sfn,none))(h8:Lr 1 (cells.drop 8)=some [.int .i64 a])(h9:Lr 1 (cells.drop 9)=some [dp])(hb:RdL (LtC O) O aw xb 3 body)(hl:body[i]? = some l)(hd:SetQ S aw dp dq)(hst:∀(w:AW) (K:V→AW→Prop),Frm (fun _=>False) aw w→(∀w' p,Frm (fun _=>False) w w'→SetQ S' w' p (sets l.name)→K p w')→WF tab sfn [sv,.str l.name] w K)(hw4:∀x,sets l.name=some x→x.1≤4)(hi:i≤1000)(h:∀w p S1,Frm (fun _=>False) aw w→SetQ S1 w p (CS (if Fq i=a then dq else sets l.name) l.args.length)→(∀x,S1 x→S x∨S' x)→K p w):WF tab VX [.ptr jb 0,.int .i64 (Fq i)] aw K:=by
 refine Ld C.Ww rfl ?_;have j3:aw.load jb 3 1=some [xb]:=CB.ld hj 3 1 _ h3;obtain⟨b,o,c,xs,rfl,la,hx⟩:=CJ hb hl;obtain⟨xv,rfl,hx⟩:=hx;have hil:i<body.length:=(List.getElem?_eq_some_iff.1 hl).1;have hxv:=hx.lenV;obtain⟨w1,s1,c1,r1,n1⟩:=Oj aw (zs:=[V.int .i64 0,V.str [],V.nilslice]) (vs:=[.int .i64 (Fq l.kind),.str l.name,xv]) rfl (LtC.one ⟨xv,rfl,hx⟩).2;have hj1:=hj.frm r1 fun h=>h;have j9:w1.load jb 9 1=some [dp]:=CB.ld hj1 9 1 _ h9;have j8:w1.load jb 8 1=some [.int .i64 a]:=CB.ld hj1 8 1 _ h8;have j5:w1.load jb 5 1=some [.iface sty sv]:=CB.ld hj1 5 1 _ h5;have k1:w1.load aw.next 1 1=some [.str l.name]:=CB.ld c1 1 1 _ rfl
 have rest:∀(f:Fr) (w:AW) (p:V) (q:Option (Nat×List (List Int))) (S1:Fw),f.get 5=some (.ptr aw.next 0)→f.get 6=some p→Frm (fun _=>False) w1 w→SetQ S1 w p q→(∀x,S1 x→S x∨S' x)→q=(if Fq i=a then dq else sets l.name)→WS tab [.code U6] f w (fun fr' aw'=>∃vs,Ox fr' aw' JU.results=some vs∧K (Oy vs) aw'):=by
  intro f w p q S1 f5 f6 g hq hS1 hqe;have k2:w.load aw.next 2 1=some [xv]:=CB.ld (c1.frm g fun h=>h) 2 1 _ rfl;rw[←hqe]at h;refine Fz (by simp only[go_sem,K5,U6];rfl) ?_;refine Bo ?_;refine LU 100 (by simp only[go_sem,K5,f6];rfl) ?_;refine BJ Ff Fe ?_;refine Jsr C hq ?_;refine LU 100 (by simp only[go_sem,K5,f5,k2,hxv];rfl) ?_;refine O1 ⟨(show LF _ _ [(3,1)]from by simp only[go_sem,K5,LF,chk,List.reverse_cons,List.reverse_nil,O8,O6,O4,O5,List.getElem?_nil,false_or,or_true,or_false,exists_eq',FQ,Prod.mk.injEq,Bool.true_eq_false,FM,and_true,true_and,implies_true,k2]),?_⟩;cases q with
  | none =>
   have hq':p = .nilptr:=hq;have hne:((-1:Int) != Fq l.args.length)=true:=Fj;refine Fz (by simp only[go_sem,K5,hne,U5];rfl) ?_;refine K7 ⟨_,by simp only[go_sem,K5,JU];rfl,?_⟩;exact h w _ S1 (r1.tr g) rfl hS1
  | some x =>
   by_cases hx1:x.1=l.args.length
   ·have hne:(Fq x.1 != Fq l.args.length)=false:=by rw[hx1];simp
    have e:CS (some x) l.args.length=some x:=if_pos hx1;rw[e]at h;refine Fz (by simp only[go_sem,K5,hne,f6];rfl) ?_;refine K7 ⟨_,by simp only[go_sem,K5,JU];rfl,?_⟩;exact h w _ S1 (r1.tr g) hq hS1
   ·have hne:(Fq x.1 != Fq l.args.length)=true:=by
     simp only[bne_iff_ne,ne_eq];exact fun h=>hx1 (Int.ofNat.inj h)
    have e:CS (some x) l.args.length=none:=if_neg hx1;rw[e]at h;refine Fz (by simp only[go_sem,K5,hne,U5];rfl) ?_;refine K7 ⟨_,by simp only[go_sem,K5,JU];rfl,?_⟩;exact h w _ S1 (r1.tr g) rfl hS1
 by_cases hia:Fq i=a
 ·have hia':(Fq i != a)=false:=by rw[hia];simp
  refine Lb 37 (by simp only[go_sem,K5,JU,U8,U7,j3,hil,la,FC,FD,s1,j9,j8,hia'];rfl) ?_;exact rest _ _ _ dq S Fb Fb (Frm.refl _) (hd.frm r1 fun _ _ h=>h) (fun x hx=> .inl hx) (if_pos hia).symm
 ·have hia':(Fq i != a)=true:=bne_iff_ne.2 hia;refine Fz (by simp only[go_sem,K5,JU,U8,U7,Jas,j3,hil,la,FC,FD,s1,j9,j8,hia',j5,k1,hsl];rfl) ?_;refine K9 (by simp only[go_sem,K5,hsl]) (by simp only[go_sem,K5,hsl];rfl) ?_;refine hst w1 _ r1 fun w2 p g2 hq=>?_;refine Lb 2 Fe ?_;exact rest _ _ p _ S' Fb Fb g2 hq (fun x hx=> .inr hx) (if_neg hia).symm
end
section
open Go.AE Delphi Val
variable {tab:Tab}
abbrev PM:=MB (α:=List Nat) (β:=V) V.str (fun v=>v)
theorem JoS (C:Codes tab){mb:Nat}{M:List (List Nat×V)}{nm:List Nat}{aw:AW}{K:V→AW→Prop}(hM:PM aw mb M)(h:∀w,Frm (fun _=>False) aw w→K ((K8 M nm).getD .nilptr) w):WF tab Jg [.agg [.map mb],.str nm] aw K:=by
 refine Ld C.Vy rfl ?_;obtain⟨w1,e1,c1,r1,m1⟩:=Oe aw [V.map mb];have a0:=CB.ld c1 0 1 _ rfl;have look:=(hM.frm r1 fun h=>h).look BB .nilptr nm
 have hlk:w1.lookV (.scalar .str) .nilptr (.map mb) (.str nm)=some ((K8 M nm).getD .nilptr,(K8 M nm).isSome):=by
  rw[look];cases K8 M nm<;>rfl
 have hcc:V.cells (.agg [.map mb])=[V.map mb]:=rfl;refine Fz (by simp only[go_sem,K5,Vx,hcc,e1,a0,hlk];rfl) ?_;refine K7 ⟨_,by simp only[go_sem,K5,Vx];rfl,?_⟩;exact h w1 r1
end
section
open Go.AE Delphi Val
variable {tab:Tab}
def zTk:Tk:=⟨0,[],0⟩
def Lx (ts:List Tk) (i:Int):Tk:=if i<1 then zTk else ts.getD (i.toNat-1) zTk
variable {ts:List Tk}
theorem Jog {i:Int}{t:Tk}(h1:∀k:Nat,i=Fq (k+1)→k<ts.length→ts[k]? = some t)(h2:i<1∨i>Fq ts.length→t=⟨0,[],0⟩):t=Lx ts i:=by
 unfold Lx;by_cases h:i<1
 ·rw[if_pos h];exact h2 (.inl h)
 ·rw[if_neg h];by_cases h3:i>Fq ts.length
  ·have h3':i>(ts.length:Int):=h3;rw[List.getD_eq_getElem?_getD,List.getElem?_eq_none Fh];exact h2 (.inr h3)
  ·have h3':¬i>(ts.length:Int):=h3;have:=h1 (i.toNat-1) (by show i=((i.toNat-1+1:Nat):Int);omega) Fh;rw[List.getD_eq_getElem?_getD,this];rfl
def TT (M:Vm) (ts:List Tk) (t:Tm):Option Tk:=if t.kind=1 then (K8 M t.name).map (Lx ts)else some (Lc t)
theorem Nf {w:AW}{b o:Nat}{l l' vs:List V}(h:CB w b l)(ho:over l o vs=some l')(h1:Lv vs=true):w.store b o vs=some (w.put b l'):=
 Em h.get (.inl rfl:Shr (fun _=>True) w b .own) h1 ho
def Sq (c d:Tk):List V:=[.int .i64 c.k,.str c.s,.int .i64 c.n,.int .i64 d.k,.str d.s,.int .i64 d.n]
theorem JkR {i:Nat}(hi:i<2)(c d e:Tk):over (Sq c d) (0+i*3) (tkC e)=some (Sq (if i=0 then e else c) (if i=0 then d else e)):=by
 rcases (show i=0∨i=1 by omega)with rfl|rfl<;>rfl
structure HjF (f:Fr) (tb vb lb ab:Nat) (xv:V) (i:Nat):Prop where
 f1:f.get 1=some (.ptr tb 0)
 f2:f.get 2=some (.map vb)
 f3:f.get 3=some (.ptr lb 0)
 f8:f.get 8=some (.ptr ab 0)
 f30:f.get 30=some xv
 f31:f.get 31=some (.int .i64 (Fq 2))
 f32:f.get 32=some (.int .i64 (Fq i))
variable {K:V→AW→Prop}
theorem Jph (C:Codes tab){tb mb vb lb ab i:Nat}{tv xv:V}{S O:Fw}{M:Vm}{args:List Tm}{t:Tm}{c d:Tk}{f:Fr}{w:AW}{st:List SI}(hF:HjF f tb vb lb ab xv i)(hT:TabW tb mb tv S ts w)(hM:SM w vb M)(hx:Rd O w xv 3 2 (L8 args))(hal:args.length=2)(ht:args[i]? = some t)(hA:CB w ab (Sq c d))(htb:tb≠ab)(hvb:vb≠ab)(hmb:mb≠ab)(hOa:¬O ab)(hSa:¬S ab)(hlen:ts.length≤100000)(hMv:∀n,(Lm M n).natAbs≤100000)(bad:TT M ts t=none→∀w',Frm (fun x=>x=ab) w w'→K (.tuple [.bool false,.bool false]) w')(good:∀f' w' u,TT M ts t=some u→HjF f' tb vb lb ab xv (i+1)→CB w' ab (Sq (if i=0 then u else c) (if i=0 then d else u))→Frm (fun x=>x=ab) w w'→WS tab (.code (.loop JV) :: .endB 0::st) f' w' (fun fr' aw'=>∃vs,Ox fr' aw' Jz.results=some vs∧K (Oy vs) aw')): WS tab (.code JV :: .code (.loop JV) :: .endB 0::st) f w (fun fr' aw'=>∃vs,Ox fr' aw' Jz.results=some vs∧K (Oy vs) aw'):=by
 obtain⟨f1,f2,f3,f8,f30,f31,f32⟩:=hF;have hi:i<2:=by rw[←hal];exact (List.getElem?_eq_some_iff.1 ht).1
 rw[←hal]at hx;obtain⟨b,o,cc,rfl,_,_,la,_⟩:=Ij hx ht;have hi':i<args.length:=Fh;obtain⟨w1,s1,c1,r1,n1⟩:=Oj w (zs:=[V.int .i64 0,V.str [],V.int .i64 0]) (vs:=tmC t) rfl rfl;have hA1:=hA.frm r1 fun h=>h;have htl:(tmC t).length=3:=rfl;have k3:w1.load w.next 0 3=some (tmC t):=c1.all rfl;have s2:w1.store ab (0+i*3) (tmC t)=some (w1.put ab (Sq (if i=0 then Lc t else c) (if i=0 then d else Lc t))):=Nf hA1 (JkR hi c d (Lc t)) rfl;have g2:Frm (fun x=>x=ab) w1 (w1.put ab (Sq (if i=0 then Lc t else c) (if i=0 then d else Lc t))):=LW;have c2:=Oc (l:=Sq (if i=0 then Lc t else c) (if i=0 then d else Lc t)) hA1.lt;obtain⟨w2,e2⟩:∃w2,w2=w1.put ab (Sq (if i=0 then Lc t else c) (if i=0 then d else Lc t)):=⟨_,rfl⟩;rw[←e2]at s2 g2 c2;have hlt:=hA.lt;have cb2:=c1.frm g2 Fh;have k0:w2.load w.next 0 1=some [.int .i64 (Fq t.kind)]:=CB.ld cb2 0 1 _ rfl;have k1:w2.load w.next 1 1=some [.str t.name]:=CB.ld cb2 1 1 _ rfl;have g02:Frm (fun x=>x=ab) w w2:=r1.no.tr g2;have hwr:KZ .i64 (Fq i+1)=Fq (i+1):=Lh Fh;by_cases hk:t.kind=1
 ·have look:=((hM.frm r1 fun h=>h).frm g2 hvb).look BB (.int .i64 0) t.name;cases hg:K8 M t.name with
  | none =>
   rw[hg]at look;have look:w2.lookV (.scalar .str) (.int .i64 0) (.map vb) (.str t.name)=some (.int .i64 0,false):=look;refine Fz (by simp only[go_sem,K5,JV,WE,WB,U9,Jaz,f1,f2,f3,f8,f30,f31,f32,hi,hi',la,htl,s1,k3,s2,k0,hk,k1,look];rfl) ?_;refine K7 ⟨_,by simp only[go_sem,K5,Jz];rfl,?_⟩;exact bad (by unfold TT;rw[if_pos hk,hg];rfl) _ g02
  | some z =>
   rw[hg]at look;have look:w2.lookV (.scalar .str) (.int .i64 0) (.map vb) (.str t.name)=some (.int .i64 z,true):=look;have hz:=hMv t.name;unfold Lm at hz;rw[hg]at hz;have hz:z.natAbs≤100000:=hz;have hT2:=(hT.step0 r1).step g2 htb hmb fun x hx h=>by subst h;exact hSa hx
   refine Fz (by simp only[go_sem,K5,JV,WE,WB,U9,JaA,f1,f2,f3,f8,f30,f31,f32,hi,hi',la,htl,s1,k3,s2,k0,hk,k1,look];rfl) ?_;refine K9 Ff Fe ?_;refine JpI C hT2 hlen ⟨by omega,by omega⟩ fun w3 u g3 hu1 hu2=>?_;have hu:=Jog hu1 hu2;have c3:=c2.frm g3 fun h=>h
   have hov:over (Sq (if i=0 then Lc t else c) (if i=0 then d else Lc t)) (0+i*3) (tkC u)=some (Sq (if i=0 then u else c) (if i=0 then d else u)):=by
    rw[JkR hi];rcases (show i=0∨i=1 by omega)with rfl|rfl<;>rfl
   have s4:=Nf c3 hov rfl;have g4:Frm (fun x=>x=ab) w3 (w3.put ab (Sq (if i=0 then u else c) (if i=0 then d else u))):=LW;have c4:=Oc (l:=Sq (if i=0 then u else c) (if i=0 then d else u)) c3.lt;obtain⟨w4,e4⟩:∃w4,w4=w3.put ab (Sq (if i=0 then u else c) (if i=0 then d else u)):=⟨_,rfl⟩;rw[←e4]at s4 g4 c4;refine Fz (by simp only[go_sem,K5,f8,f32,hi,TE,s4,hwr];rfl) ?_;exact good _ _ u (by unfold TT;rw[if_pos hk,hg,hu];rfl) ⟨(Fg f1),(Fg f2),(Fg f3),(Fg f8),(Fg f30),(Fg f31),Fb⟩ c4 ((g02.tr g3.no).tr g4)
 ·refine Fz (by simp only[go_sem,K5,JV,WE,WB,f1,f2,f3,f8,f30,f31,f32,hi,hi',la,htl,s1,k3,s2,k0,hk,hwr];rfl) ?_;exact good _ _ (Lc t) (if_neg hk) ⟨(Fg f1),(Fg f2),(Fg f3),(Fg f8),(Fg f30),(Fg f31),Fb⟩ c2 g02
def EC (k:Nat):Option Tk→Option Tk→Bool×Bool
 | some a,some b=>(TA k a b,true)
 | _,_=>(false,false)
theorem Jti (C:Codes tab){tb mb vb:Nat}{tv:V}{S O:Fw}{M:Vm}{k:Nat}{nm:List Nat}{a b:Tm}{xs:List V}{aw:AW}(hT:TabW tb mb tv S ts aw)(hM:SM aw vb M)(hx:LtC O aw ⟨k,nm,[a,b]⟩ xs)(hO:∀x,O x→x<aw.next)(hk:3≤k∧k≤6)(hlen:ts.length≤100000)(hMv:∀n,(Lm M n).natAbs≤100000)(h:∀w,Frm (fun _=>False) aw w→K (.tuple [.bool (EC k (TT M ts a) (TT M ts b)).1,.bool (EC k (TT M ts a) (TT M ts b)).2]) w):WF tab GQ [.agg xs,.ptr tb 0,.map vb] aw K:=by
 refine Ld C.WH rfl ?_;obtain⟨xv,rfl,hx⟩:=hx;obtain⟨w1,e1,c1,r1,m1⟩:=Oe aw [.int .i64 (Fq k),.str nm,xv];obtain⟨w2,e2,c2,r2,m2⟩:=Oe w1 (Sq zTk zTk);have e2:w1.fresh [V.int .i64 0,V.str [],V.int .i64 0,V.int .i64 0,V.str [],V.int .i64 0]=w2:=e2;have hxv:=hx.lenV;have hxv:lenV xv=some 2:=hxv;have a0:=CB.ld c1 0 1 _ rfl;have a2:=CB.ld c1 2 1 _ rfl;have a2':=CB.ld (c1.frm r2 fun h=>h) 2 1 _ rfl;have hk3:¬(Fq k<3):=by show ¬((k:Int)<3);omega
 have hk6:¬(Fq k>6):=by show ¬((k:Int)>6);omega
 have hk3':¬k<3:=Fh;have hk6':¬6<k:=Fh;have e5:([.int .i64 (Fq k),.str nm,xv]:List V).length=3:=rfl;refine Fz (by simp only[go_sem,K5,Jz,JaH,JaG,e1,a0,a2,a2',hk3,hk6,hk3',hk6',hxv,e2];rfl) ?_;have n1:=r1.next;have f02:=r1.tr r2;have htb:tb≠w1.next:=by have:=hT.a.lt;omega
 have hmb:mb≠w1.next:=by have:=hT.m.lt;omega
 have hvb:vb≠w1.next:=by have:=hM.lt;omega
 have hSa:¬S w1.next:=fun hs=>by have:=(hT.s _ hs).1;omega
 refine IQ ?_;have ha0:([a,b]:List Tm)[0]? = some a:=rfl;have ha1:([a,b]:List Tm)[1]? = some b:=rfl;have out:∀{w:AW},Frm (fun x=>x=w1.next) w2 w→Frm (fun _=>False) aw w:=fun g=>f02.trans g (fun _ _ h=>h) fun x hx h=>by omega
 refine Jph (S:=S) (O:=O) (i:=0) (xv:=xv) (lb:=aw.next) C ⟨Fb,Fb,Fb,Fb,Fb,Fb,Fb⟩ (hT.step0 f02) (hM.frm f02 fun h=>h) (hx.frm f02 fun _ _ h=>h) rfl ha0 c2 htb hvb hmb (fun h=>by have:=hO _ h;omega) hSa hlen hMv ?_ ?_
 ·intro hn w' g;rw[hn]at h;exact h w' (out g)
 ·intro f3 w3 u hu hF c3 g3;refine IQ ?_;refine Jph (S:=S) (O:=O) (i:=1) (xv:=xv) (lb:=aw.next) C hF ((hT.step0 f02).step g3 htb hmb fun x hx h=>by subst h;exact hSa hx) ((hM.frm f02 fun h=>h).frm g3 hvb) ((hx.frm f02 fun _ _ h=>h).frm g3 fun x hx h=>by have:=hO _ hx;omega) rfl ha1 c3 htb hvb hmb (fun h=>by have:=hO _ h;omega) hSa hlen hMv ?_ ?_
  ·intro hn w' g;rw[hu,hn]at h;exact h w' (out (g3.tr g))
  ·intro f4 w4 v hv hF c4 g4;rw[hu,hv]at h;have g24:=g3.tr g4;obtain⟨g1,g2,g3',g8,g30,g31,g32⟩:=hF;refine IQ ?_;have hnl:¬(Fq 2<Fq 2):=by decide
   refine Fz (by simp only[go_sem,K5,JV,JaF,g31,g32];rfl) ?_;have c5:CB w4 w1.next (Sq u v):=c4;have q1:w4.load w1.next 0 3=some (tkC u):=CB.ld c5 0 3 _ rfl;have q2:w4.load w1.next 3 3=some (tkC v):=CB.ld c5 3 3 _ rfl;obtain⟨w5,p1,d1,t1,o1⟩:=Oe w4 [V.int .i64 0,V.str [],V.int .i64 0];obtain⟨w6,p2,d2,t2,o2⟩:=Oe w5 [V.int .i64 0,V.str [],V.int .i64 0];have d1:=d1.frm t2 fun h=>h;have st1:=Nf d1 (o:=0) (vs:=tkC u) (l':=tkC u) rfl rfl;have fr1:Frm (fun x=>x=w4.next) w6 (w6.put w4.next (tkC u)):=LW;have d1':=Oc (l:=tkC u) d1.lt;have d2:=d2.frm fr1 Fh;obtain⟨w7,e7⟩:∃w7,w7=w6.put w4.next (tkC u):=⟨_,rfl⟩;rw[←e7]at st1 fr1 d1' d2;have st2:=Nf d2 (o:=0) (vs:=tkC v) (l':=tkC v) rfl rfl;have fr2:Frm (fun x=>x=w5.next) w7 (w7.put w5.next (tkC v)):=LW;have d2':=Oc (l:=tkC v) d2.lt;have d1':=d1'.frm fr2 Fh;obtain⟨w8,e8⟩:∃w8,w8=w7.put w5.next (tkC v):=⟨_,rfl⟩;rw[←e8]at st2 fr2 d2' d1';have c18:CB w8 aw.next [.int .i64 (Fq k),.str nm,xv]:=((((((c1.frm r2 fun h=>h).frm g24 Fh).frm t1 fun h=>h).frm t2 fun h=>h).frm fr1 (by have:=c4.lt;omega)).frm fr2 (by have:=c4.lt;omega));have b0:w8.load aw.next 0 1=some [.int .i64 (Fq k)]:=CB.ld c18 0 1 _ rfl;have u3:w8.load w4.next 0 3=some (tkC u):=d1'.all rfl;have v3:w8.load w5.next 0 3=some (tkC v):=d2'.all rfl;have g48:Frm (fun _=>False) w4 w8:=((t1.tr t2).trans fr1 (fun _ _ h=>h) fun x hx h=>by omega).trans fr2 (fun _ _ h=>h) fun x hx h=>by omega
   have g08:Frm (fun _=>False) aw w8:=(out g24).tr g48;have hh:∀w',Frm (fun _=>False) w8 w'→K (.tuple [.bool (TA k u v),.bool true]) w':=fun w' g=>h w' (g08.tr g);refine Bo ?_;refine LU 100 (by simp only[go_sem,K5,g8,q1,q2,p1,p2,TE,st1,st2];rfl) ?_;have c5:=c5.frm t1 fun h=>h;have q11:w5.load w1.next 0 3=some (tkC u):=CB.ld c5 0 3 _ rfl;have q12:w5.load w1.next 3 3=some (tkC v):=CB.ld c5 3 3 _ rfl;have c5:=c5.frm t2 fun h=>h;have q21:w6.load w1.next 0 3=some (tkC u):=CB.ld c5 0 3 _ rfl;have q22:w6.load w1.next 3 3=some (tkC v):=CB.ld c5 3 3 _ rfl;have c5:=c5.frm fr1 (by have:=c4.lt;omega);have q32:w7.load w1.next 3 3=some (tkC v):=CB.ld c5 3 3 _ rfl;refine O1 ⟨(show LF _ _ [(1,4),(1,5),(3,4),(3,5),(3,6)]from by simp only[go_sem,K5,LF,chk,List.reverse_cons,List.reverse_nil,O8,O6,O4,O5,List.getElem?_nil,false_or,or_true,or_false,exists_eq',FQ,Prod.mk.injEq,Bool.true_eq_false,FM,and_true,true_and,implies_true,q1,q11,q21,q2,q12,q22,q32]),?_⟩;by_cases h3:k=3
   ·subst h3;have e:TA 3 u v=OO u v:=rfl;rw[e]at hh;refine Fz (by simp only[go_sem,K5,Yu,JaE,g3',b0,u3,v3];rfl) ?_;refine K9 Ff Fe ?_;refine Jud C fun w9 g9=>?_;refine K6 1000 Fe ?_;refine K7 ⟨_,by simp only[go_sem,K5,Jz];rfl,?_⟩;exact hh w9 g9
   by_cases h4:k=4
   ·subst h4;have e:TA 4 u v = !OO u v:=rfl;rw[e]at hh;refine Fz (by simp only[go_sem,K5,Yu,WG,JaD,g3',b0,u3,v3];rfl) ?_;refine K9 Ff Fe ?_;refine Jud C fun w9 g9=>?_;have hh:=hh w9 g9;refine K6 1000 Fe ?_;refine K7 ⟨_,by simp only[go_sem,K5,Jz];rfl,?_⟩;exact hh
   by_cases h5:k=5
   ·subst h5;have e:TA 5 u v=Ou u v:=rfl;rw[e]at hh;refine Fz (by simp only[go_sem,K5,Yu,WG,Ga,JaB,g3',b0,u3,v3];rfl) ?_;refine K9 Ff Fe ?_;refine Jpl C fun w9 g9=>?_;refine K6 1000 Fe ?_;refine K7 ⟨_,by simp only[go_sem,K5,Jz];rfl,?_⟩;exact hh w9 g9
   have e:TA k u v = !Ou v u:=by unfold TA;rw[if_neg h3,if_neg h4,if_neg h5]
   rw[e]at hh;refine Fz (by simp only[go_sem,K5,Yu,WG,Ga,JaC,g3',b0,u3,v3,h3,h4,h5];rfl) ?_;refine K9 Ff Fe ?_;refine Jpl C fun w9 g9=>?_;have hh:=hh w9 g9;refine K6 1000 Fe ?_;refine K7 ⟨_,by simp only[go_sem,K5,Jz];rfl,?_⟩;exact hh
end
end Go.Proofs.YtegdcbdicpfbpaaGreatDoor
namespace Delphi
def Il (bd:Fx) (t:Tm):Bool:=decide (t.kind≠1∨t.name∈bd)
def Im (bd:Fx) (l:Lt):Nat:=l.args.countP (Il bd)
def SX (bd out:Fx) (t:Tm):Fx:=if t.kind=1∧t.name∉bd∧t.name∉out then out++[t.name]else out
def I7 (bd:Fx) (l:Lt):Fx:=l.args.foldl (SX bd) []
abbrev Oo:=List Nat×List (List Nat)
def Lt.nil:Lt:=⟨0,[],[]⟩
def Le (body:List Lt) (i:Nat):Lt:=(body[i]?).getD Lt.nil
def Bu (body:List Lt) (s:Oo) (i:Nat):Oo:=(s.1++[i],s.2++I7 s.2 (Le body i))
def Bq (body:List Lt) (s:Oo) (i:Nat):Bool:=decide (i<body.length∧i∉s.1∧((Le body i).kind=1∨Im s.2 (Le body i)=(Le body i).args.length))
abbrev Ky:=Bool×Nat×Nat
def Bf (a b:Ky):Bool:=if a.1≠b.1 then b.1 else if a.2.1≠b.2.1 then decide (b.2.1<a.2.1)else decide (a.2.2<b.2.2)
def TJ (body:List Lt) (s:Oo) (i:Nat):Ky:=(decide ((Le body i).kind=1),if (Le body i).kind=1 then Im s.2 (Le body i)else 0,i)
def DK (body:List Lt) (s:Oo) (i:Nat):Prop:=Bq body s i=true∧∀j,Bq body s j=true→j≠i→Bf (TJ body s i) (TJ body s j)=true
def NB (body:List Lt) (s:Oo) (i:Nat):Bool:=Bq body s i&&(List.range body.length).all fun j=>!Bq body s j||decide (j=i)||Bf (TJ body s i) (TJ body s j)
variable {body:List Lt} {s:Oo} {i:Nat}
theorem Eg (h:Bq body s i=true):i<body.length:=(of_decide_eq_true h).1
theorem bestB_iff:NB body s i=true↔DK body s i:=by
 simp only[NB,DK,FT,List.all_eq_true,List.mem_range,Bool.or_eq_true,Bool.not_eq_true',decide_eq_true_eq];constructor
 ·rintro⟨h1,h2⟩;refine⟨h1,fun j hj hn=>?_⟩;rcases h2 j (Eg hj)with (h|h)|h
  ·rw[hj]at h;cases h
  ·exact absurd h hn
  ·exact h
 ·rintro⟨h1,h2⟩;refine⟨h1,fun j hj=>?_⟩;by_cases hc:Bq body s j=true
  ·by_cases hn:j=i
   ·exact .inl (.inr hn)
   ·exact .inr (h2 j hc hn)
  ·exact .inl (.inl (by simpa using hc))
variable {a b:Ky}
theorem Mg:Bf a b=true↔(a.1=false∧b.1=true)∨(a.1=b.1∧(b.2.1<a.2.1∨(a.2.1=b.2.1∧a.2.2<b.2.2))):=by
 obtain⟨a1,a2,a3⟩:=a;obtain⟨b1,b2,b3⟩:=b;simp only[Bf];by_cases e:a2=b2
 ·subst e;cases a1<;>cases b1<;>simp
 ·cases a1<;>cases b1<;>simp[e]
theorem Jqy (h:Bf a b=true):Bf b a=false:=by
 cases hc:Bf b a with
 | false=>rfl
 | true =>
  rw[Mg]at h hc;rcases h with⟨h1,h2⟩|⟨h1,h2⟩<;>rcases hc with⟨h3,h4⟩|⟨h3,h4⟩
  ·rw[h2]at h3;cases h3
  ·rw[h1,h2]at h3;cases h3
  ·rw[h3,h4]at h1;cases h1
  ·omega
theorem Ro {c:Ky}(h:Bf a b=true)(h':Bf b c=true):Bf a c=true:=by
 rw[Mg]at h h' ⊢;rcases h with⟨h1,h2⟩|⟨h1,h2⟩<;>rcases h' with⟨h3,h4⟩|⟨h3,h4⟩
 ·rw[h2]at h3;cases h3
 ·exact .inl ⟨h1,by rw[←h3];exact h2⟩
 ·exact .inl ⟨by rw[h1];exact h3,h4⟩
 ·exact .inr ⟨h1.trans h3,by omega⟩
theorem JjD (h:a.2.2≠b.2.2):Bf a b=true∨Bf b a=true:=by
 rw[Mg,Mg];rcases ha:a.1<;>rcases hb:b.1<;>simp<;>omega
theorem Jq9 {j:Nat}(h:DK body s i)(h':DK body s j):i=j:=by
 by_cases hn:i=j
 ·exact hn
 ·have h1:=h.2 j h'.1 fun e=>hn e.symm;have h2:=h'.2 i h.1 hn;rw[Jqy h1]at h2;cases h2
def NC (body:List Lt) (s:Oo):Option Nat:=(List.range body.length).find? (NB body s)
theorem JlH (h:DK body s i):NC body s=some i:=by
 unfold NC;cases hf:(List.range body.length).find? (NB body s)with
 | none =>
  rw[List.find?_eq_none]at hf;have:=hf i (List.mem_range.2 (Eg h.1));exact absurd (bestB_iff.2 h) this
 | some j =>
  have:=List.find?_some hf;rw[Jq9 h (bestB_iff.1 this)]
def Iu (body:List Lt):Nat→Oo→Oo
 | 0,s=>s
 | n+1,s=>if s.1.length<body.length then (match NC body s with|some i=>Iu body n (Bu body s i)|none=>s)else s
end Delphi
namespace Go.Proofs.YtegdcbdicpfbpaaGreatDoor
open Go.AE Delphi
variable {tab:Tab}
section
open Go.AE Delphi
variable {tab:Tab}
abbrev JvF:AW→Int→List V→Prop:=fun _ n xs=>xs=[.int .i64 n]∧(Lit.int .i64 n).wf=true
abbrev JvK:AW→List Nat→List V→Prop:=fun _ s xs=>xs=[.str s]∧(∀c∈s,c<256)∧s.length≤maxLen
abbrev TmR:AW→Int×List Nat×Int×Unit→List V→Prop:=fun aw p xs=>∃x1 x2,xs=x1++x2∧JvF aw p.1 x1∧∃y1 y2,x2=y1++y2∧JvK aw p.2.1 y1∧∃z1 z2,y2=z1++z2∧JvF aw p.2.2.1 z1∧z2=[]
abbrev DU:AW→List Nat×List (Int×List Nat×Int×Unit)×Unit→List V→Prop:=fun aw p xs=>∃x1 x2,xs=x1++x2∧JvK aw p.1 x1∧∃y1 y2,x2=y1++y2∧DL TmR aw p.2.1 y1∧y2=[]
def Jw4 (p:List Nat×List (Int×List Nat×Int×Unit)×Unit):Fa:=⟨p.1,p.2.1⟩
theorem GI {aw:AW}:∀{l:List (Int×List Nat×Int×Unit)} {xss:List (List V)},All2 (TmR aw) l xss→xss.flatten.length=l.length*3
 | [],_,.nil=>rfl
 | x::l,_,.cons ⟨_,_,e1,⟨h1,_⟩,_,_,e2,⟨h2,_⟩,_,_,e3,⟨h3,_⟩,e4⟩ h=>by
  subst e1 e2 e3 h1 h2 h3 e4;rw[List.flatten_cons,FE,GI h,FC];simp;omega
theorem Jm2 {n esz:Nat}{c:Cap}(h:JpK n c):ED esz n c:=by
 cases c with
 | known k=>exact h
 | upTo z=>exact .inr h
theorem Jt2 {α:Type}{rel:AW→α→List V→Prop}{aw:AW}{l:List α}{x:V}{esz:Nat}(h:DL rel aw l [x])(hsz:∀{xss:List (List V)},All2 (rel aw) l xss→xss.flatten.length=l.length*esz):∃xss,Rd (fun _=>True) aw x esz l.length xss.flatten∧All2 (rel aw) l xss∧l.length≤maxLen:=by
 rcases h with⟨h1,rfl⟩|⟨b,c,xss,h1,hb,hg,ha,hl,hc⟩
 ·cases h1;exact⟨[],.nil,.nil,Nat.zero_le _⟩
 ·cases h1;have hz:=hsz ha;exact⟨xss,.blk trivial hb hg (.inr (.inr (.inl rfl))) Fh (by rw[FZ,FX Fh]) (Jm2 hc),ha,hl⟩
theorem Jv4 {aw:AW}{p:List Nat×List (Int×List Nat×Int×Unit)×Unit}{xs:List V}(h:DU aw p xs):FaC (fun _=>True) aw (Jw4 p) xs∧p.2.1.length≤maxLen:=by
 obtain⟨x1,x2,rfl,⟨rfl,_⟩,y1,y2,rfl,h2,rfl⟩:=h
 have hy:∃v,y1=[v]:=by
  rcases h2 with⟨rfl,_⟩|⟨b,c,xss,rfl,_⟩<;>exact⟨_,rfl⟩
 obtain⟨v,rfl⟩:=hy;obtain⟨xss,h3,_,h4⟩:=Jt2 h2 GI;exact⟨⟨v,rfl,xss.flatten,h3⟩,h4⟩
theorem JkK {aw:AW}:∀{l:List (List Nat×List (Int×List Nat×Int×Unit)×Unit)} {xss:List (List V)},All2 (DU aw) l xss→xss.flatten.length=l.length*2
 | [],_,.nil=>rfl
 | x::l,_,.cons h1 h=>by
  rw[List.flatten_cons,FE,JkK h,FC,(FaC.one (Jv4 h1).1).1];omega
end
section
open Go.AE Delphi
variable {tab:Tab}
end
end Go.Proofs.YtegdcbdicpfbpaaGreatDoor
namespace Delphi
theorem JoL (bd out:Fx)(t:Tm):(SX bd out t).length≤out.length+1:=by
 unfold SX;split<;>simp
theorem JjG (bd:Fx):∀(l:List Tm) (out:Fx),(l.foldl (SX bd) out).length≤out.length+l.length
 | [],out=>by simp
 | t::l,out=>by
  rw[Ku,FC];have:=JjG bd l (SX bd out t);have:=JoL bd out t;omega
theorem JtG (bd:Fx)(l:Lt):(I7 bd l).length≤l.args.length:=by
 have:=JjG bd l.args [];simpa[I7]using this
end Delphi
namespace Go.Proofs.YtegdcbdicpfbpaaGreatDoor
open Go.AE Delphi
variable {tab:Tab}
end Go.Proofs.YtegdcbdicpfbpaaGreatDoor
namespace Delphi
theorem Jq5:∀(n:Nat) (l:List Nat),(∀i,i<n→i∈l)→n≤l.length
 | 0,l,_=>Nat.zero_le _
 | n+1,l,h=>by
  have h1:=h n Fh;have h2:=Jq5 n (l.erase n) fun i hi=>(List.mem_erase_of_ne Fh).2 (h i Fh);rw[List.length_erase_of_mem h1]at h2;have:0<l.length:=List.length_pos_of_mem h1;omega
structure PlInv (body:List Lt) (s:Oo):Prop where
 lt:∀i∈s.1,i<body.length
 bnd:∀i∈s.1,(Le body i).kind=1→∀t∈(Le body i).args,t.kind=1→t.name∈s.2
 len:s.2.length≤5*s.1.length
variable {body:List Lt} {x:Lt}
theorem Tu {i:Nat}(h:body[i]? = some x):Le body i=x:=by simp[Le,h]
theorem JjF {bd:Fx}:∀(l:List Tm) (out:Fx) (v:List Nat),v∈l.foldl (SX bd) out↔v∈out∨(v∉bd∧∃t∈l,t.kind=1∧t.name=v)
 | [],out,v=>by simp
 | t::l,out,v=>by
  rw[Ku,JjF l]
  have h:v∈SX bd out t↔v∈out∨(v∉bd∧t.kind=1∧t.name=v):=by
   unfold SX;split
   ·rename_i hc;rw[Ka,Ko];constructor
    ·rintro (h|rfl)
     ·exact .inl h
     ·exact .inr ⟨hc.2.1,hc.1,rfl⟩
    ·rintro (h|⟨_,_,rfl⟩)
     ·exact .inl h
     ·exact .inr rfl
   ·rename_i hc;refine⟨.inl,?_⟩;rintro (h|⟨h1,h2,rfl⟩)
    ·exact h
    ·exact Classical.byContradiction fun hn=>hc ⟨h2,h1,hn⟩
  rw[h];simp only[FJ,exists_eq_or_imp];constructor
  ·rintro ((h|⟨h1,h2⟩)|⟨h1,h2⟩)
   ·exact .inl h
   ·exact .inr ⟨h1,.inl h2⟩
   ·exact .inr ⟨h1,.inr h2⟩
  ·rintro (h|⟨h1,h2|h2⟩)
   ·exact .inl (.inl h)
   ·exact .inl (.inr ⟨h1,h2⟩)
   ·exact .inr ⟨h1,h2⟩
variable {bd:Fx}
theorem mem_newV {v:List Nat}:v∈I7 bd x↔v∉bd∧∃t∈x.args,t.kind=1∧t.name=v:=by
 simp[I7,JjF]
theorem PlInv.nil (body:List Lt):PlInv body ([],[]):=⟨by simp,by simp,by simp⟩
theorem PlInv.take {s:Oo}{i:Nat}(h:PlInv body s)(hi:i<body.length)(ha:∀x∈body,x.args.length≤5):PlInv body (Bu body s i):=by
 obtain⟨x,hx⟩:∃x,body[i]? = some x:=⟨_,FB hi⟩;refine⟨fun j hj=>?_,fun j hj hk t ht h1=>?_,?_⟩
 ·simp only[Bu,Ka,Ko]at hj;rcases hj with hj|rfl
  ·exact h.lt j hj
  ·exact hi
 ·simp only[Bu,Ka,Ko]at hj ⊢;rcases hj with hj|rfl
  ·exact .inl (h.bnd j hj hk t ht h1)
  ·by_cases hm:t.name∈s.2
   ·exact .inl hm
   ·exact .inr (mem_newV.2 ⟨hm,t,ht,h1,rfl⟩)
 ·simp only[Bu,FE,Kb];have h1:=JtG s.2 (Le body i);have h2:=ha x (FI hx);have h3:=h.len;rw[Tu hx]at h1 ⊢;omega
theorem bndN_full:Im bd x=x.args.length↔∀t∈x.args,t.kind=1→t.name∈bd:=by
 rw[Im,List.countP_eq_length];constructor
 ·intro h t ht hk;exact (of_decide_eq_true (h t ht)).resolve_left fun hn=>hn hk
 ·intro h t ht;by_cases hk:t.kind=1
  ·exact decide_eq_true (.inr (h t ht hk))
  ·exact decide_eq_true (.inl hk)
theorem JuD:Im bd x≤x.args.length:=List.countP_le_length
theorem Jjv {r:Rl}{s:Oo}(hs:BD r=true)(h:PlInv r.body s)(hl:s.1.length<r.body.length):∃i,Bq r.body s i=true:=by
 have hex:∃i,i<r.body.length∧i∉s.1:=Classical.byContradiction fun hn=>by
  have:=Jq5 r.body.length s.1 fun i hi=>Classical.byContradiction fun hc=>hn ⟨i,hi,hc⟩;omega
 by_cases hat:∃i,i<r.body.length∧i∉s.1∧(Le r.body i).kind=1
 ·obtain⟨i,h1,h2,h3⟩:=hat;exact⟨i,decide_eq_true ⟨h1,h2,.inl h3⟩⟩
 ·obtain⟨i,h1,h2⟩:=hex;obtain⟨x,hx⟩:∃x,r.body[i]? = some x:=⟨_,FB h1⟩;refine⟨i,decide_eq_true ⟨h1,h2,.inr ?_⟩⟩;rw[Tu hx];have hk:x.kind≠1:=fun hk=>hat ⟨i,h1,h2,by rw[Tu hx];exact hk⟩;refine bndN_full.2 fun t ht h3=>?_;have hneed:t.name∈Tx r:=mem_rNeed.2 (.inr ⟨x,FI hx,hk,t,ht,h3,rfl⟩);have hb:t.name∈BX r:=of_decide_eq_true (List.all_eq_true.1 hs _ hneed);obtain⟨y,hy,hyk,t2,ht2,hk2,hn2⟩:=mem_rBound.1 hb;obtain⟨j,hj⟩:=List.getElem?_of_mem hy;have hjl:j<r.body.length:=(List.getElem?_eq_some_iff.1 hj).1;have hjs:j∈s.1:=Classical.byContradiction fun hn=>hat ⟨j,hjl,hn,by rw[Tu hj];exact hyk⟩;rw[←hn2];have:=h.bnd j hjs (by rw[Tu hj];exact hyk) t2 (by rw[Tu hj];exact ht2) hk2;exact this
end Delphi
namespace Go.Proofs.YtegdcbdicpfbpaaGreatDoor
open Go.AE Delphi
variable {tab:Tab}
def Bw (l:List Nat):List V:=l.map fun n=>V.int .i64 (Fq n)
def Sn (n:Nat) (l:List Nat):List V:=(List.range n).map fun i=>V.bool (decide (i∈l))
variable {i:Nat}
theorem QL {n:Nat}{l:List Nat}(h:i<n):(Sn n l)[i]? = some (V.bool (decide (i∈l))):=by
 simp[Sn,F7,List.getElem?_range h]
structure PrS (a w:AW) (T:Fw) (r:Rl) (hv u:V) (n2 b9:Nat) (s:Oo) (ov bv:V) (So Sb:Fw):Prop where
 frm:Frm (fun _=>False) a w
 lits:RdL (LtC T) T a u 3 r.body
 rule:CB w n2 [.int .i64 (Fq r.head.kind),.str r.head.name,hv,u]
 ord:Bt So w ov 1 s.1.length (Bw s.1)
 bnd:Bt Sb w bv 1 s.2.length (LY s.2)
 done:CB w b9 (Sn r.body.length s.1)
 ge:a.next≤n2∧n2<b9
 sepO:∀x,So x→a.next≤x∧x<w.next∧x≠n2∧x≠b9∧¬Sb x
 sepB:∀x,Sb x→a.next≤x∧x<w.next∧x≠n2∧x≠b9
 inv:PlInv r.body s
variable {s:Oo}
theorem PrS.ext {a w w2:AW}{T:Fw}{r:Rl}{hv u:V}{n2 b9:Nat}{ov bv:V}{So Sb:Fw}(h:PrS a w T r hv u n2 b9 s ov bv So Sb)(hf:Frm (fun _=>False) w w2):PrS a w2 T r hv u n2 b9 s ov bv So Sb:=
 have nx:=hf.next
 ⟨h.frm.tr hf,h.lits,h.rule.frm hf fun h=>h,h.ord.frm hf fun _ _ h=>h,h.bnd.frm hf fun _ _ h=>h,h.done.frm hf fun h=>h,h.ge,fun x hx=>by have h1:=h.sepO x hx;exact⟨h1.1,by omega,h1.2.2⟩,fun x hx=>by have h1:=h.sepB x hx;exact⟨h1.1,by omega,h1.2.2⟩,h.inv⟩
theorem PrS.lit {a w:AW}{T:Fw}{r:Rl}{hv u:V}{n2 b9:Nat}{ov bv:V}{So Sb:Fw}(h:PrS a w T r hv u n2 b9 s ov bv So Sb){t:Lt}(hi:r.body[i]? = some t): ∃b o c v,u = .slice b o r.body.length c∧w.load b (o+i*3) 3=some [.int .i64 (Fq t.kind),.str t.name,v]∧Rd T w v 3 t.args.length (L8 t.args):=by
 obtain⟨b,o,c,v,h1,_,_,h2,_,_,_,h3⟩:=Dy (h.lits.frm (fun _ _ hl=>hl.frm h.frm fun _ _ h=>h) h.frm fun _ _ h=>h) hi;exact⟨b,o,c,v,h1,h2,h3⟩
theorem JnR {body:List Lt}(h:¬(i<body.length∧i∉s.1∧((Le body i).kind=1∨Im s.2 (Le body i)=(Le body i).args.length))):Bq body s i=false:=decide_eq_false h
section
open Go.AE Delphi
variable {tab:Tab}
end
section
open Go.AE Delphi
variable {tab:Tab}
variable {l:List Nat}
theorem Jrs {n:Nat}:(Sn n l).set i (V.bool true)=Sn n (l++[i]):=by
 apply List.ext_getElem?;intro j;rw[Kq];by_cases hj:j<n
 ·by_cases e:i=j
  ·subst e;rw[if_pos rfl,if_pos (by simp[Sn];exact hj),QL hj];simp
  ·rw[if_neg e,QL hj,QL hj];have:(j∈l++[i])↔j∈l:=by simp;omega
   simp only[this]
 ·have e1:(Sn n (l++[i]))[j]? = none:=List.getElem?_eq_none (by simp[Sn];omega);have e2:(Sn n l)[j]? = none:=List.getElem?_eq_none (by simp[Sn];omega);rw[e1,e2];by_cases e:i=j
  ·subst e;rw[if_pos rfl,if_neg (by simp[Sn];omega)]
  ·rw[if_neg e]
structure PrM (a w:AW) (T:Fw) (r:Rl) (hv u:V) (n2 b9:Nat) (l:List Nat) (bd:Fx) (ov bv:V) (So Sb:Fw):Prop where
 frm:Frm (fun _=>False) a w
 lits:RdL (LtC T) T a u 3 r.body
 rule:CB w n2 [.int .i64 (Fq r.head.kind),.str r.head.name,hv,u]
 ord:Bt So w ov 1 l.length (Bw l)
 bnd:Bt Sb w bv 1 bd.length (LY bd)
 done:CB w b9 (Sn r.body.length l)
 ge:a.next≤n2∧n2<b9
 sepO:∀x,So x→a.next≤x∧x<w.next∧x≠n2∧x≠b9∧¬Sb x
 sepB:∀x,Sb x→a.next≤x∧x<w.next∧x≠n2∧x≠b9
variable {a w:AW} {T So Sb:Fw} {r:Rl} {hv u ov bv:V} {n2 b9:Nat}
theorem PrS.m (h:PrS a w T r hv u n2 b9 s ov bv So Sb):PrM a w T r hv u n2 b9 s.1 s.2 ov bv So Sb:=⟨h.frm,h.lits,h.rule,h.ord,h.bnd,h.done,h.ge,h.sepO,h.sepB⟩
theorem PrM.zs (h:PrM a w T r hv u n2 b9 s.1 s.2 ov bv So Sb)(hi:PlInv r.body s):PrS a w T r hv u n2 b9 s ov bv So Sb:=⟨h.frm,h.lits,h.rule,h.ord,h.bnd,h.done,h.ge,h.sepO,h.sepB,hi⟩
variable {bd:Fx}
theorem PrM.ext {w2:AW}(h:PrM a w T r hv u n2 b9 l bd ov bv So Sb)(hf:Frm (fun _=>False) w w2):PrM a w2 T r hv u n2 b9 l bd ov bv So Sb:=
 have nx:=hf.next
 ⟨h.frm.tr hf,h.lits,h.rule.frm hf fun h=>h,h.ord.frm hf fun _ _ h=>h,h.bnd.frm hf fun _ _ h=>h,h.done.frm hf fun h=>h,h.ge,fun x hx=>by have h1:=h.sepO x hx;exact⟨h1.1,by omega,h1.2.2⟩,fun x hx=>by have h1:=h.sepB x hx;exact⟨h1.1,by omega,h1.2.2⟩⟩
theorem PrM.lit (h:PrM a w T r hv u n2 b9 l bd ov bv So Sb){t:Lt}(hi:r.body[i]? = some t): ∃b o c v,u = .slice b o r.body.length c∧w.load b (o+i*3) 3=some [.int .i64 (Fq t.kind),.str t.name,v]∧Rd T w v 3 t.args.length (L8 t.args):=by
 obtain⟨b,o,c,v,h1,_,_,h2,_,_,_,h3⟩:=Dy (h.lits.frm (fun _ _ hl=>hl.frm h.frm fun _ _ h=>h) h.frm fun _ _ h=>h) hi;exact⟨b,o,c,v,h1,h2,h3⟩
theorem PrM.take1 (h:PrM a w T r hv u n2 b9 l bd ov bv So Sb)(hi:i<r.body.length)(hl:l.length≤100): ∃ov' w5 w6 S5,(w.fresh [.int .i64 (Fq i)]).appendV 1 8 ov 1 [.int .i64 (Fq i)]=some (ov',w5)∧w5.store b9 i [.bool true]=some w6∧PrM a w6 T r hv u n2 b9 (l++[i]) bd ov' bv S5 Sb∧w.next≤w6.next:=by
 have hSo:∀b,So b→b<w.next:=fun b hb=>(h.sepO b hb).2.1;obtain⟨ov',w5,S5,u1,u2,u3,u4⟩:=h.ord.push (news:=[V.int .i64 (Fq i)]) (bytes:=8) hSo Fh rfl rfl Fh Fh;have nb:¬So b9:=fun hx=>(h.sepO _ hx).2.2.2.1 rfl;have nn:¬So n2:=fun hx=>(h.sepO _ hx).2.2.1 rfl;have d5:=h.done.frm u3 nb;have st:=d5.set (i:=i) (v:=V.bool true) (by simp[Sn];exact hi) rfl;rw[Jrs]at st;have pf:Frm (fun x=>x=b9) w5 (w5.put b9 (Sn r.body.length (l++[i]))):=LW;obtain⟨g1,g2⟩:=h.ge;have lb:=h.done.lt;have ln:=h.rule.lt;have nx:=u3.next;have hfa:=h.frm.next
 have sS5:∀x,S5 x→a.next≤x∧x<w5.next∧x≠n2∧x≠b9∧¬Sb x:=by
  intro x hx;obtain⟨m1,m2⟩:=u4 x hx;rcases m2 with m2|m2
  ·have h1:=h.sepO x m2;exact⟨h1.1,m1,h1.2.2⟩
  ·exact⟨by omega,m1,by omega,by omega,fun hb=>by have:=(h.sepB x hb).2.1;omega⟩
 refine⟨ov',w5,_,S5,u1,st,⟨(h.frm.trans u3 (fun _ _ h=>h) fun x hx hs=>by have:=(h.sepO x hs).1;omega).out Fh rfl,h.lits,(h.rule.frm u3 nn).frm pf (by show ¬n2=b9;omega),?_,(h.bnd.frm u3 fun x hx hs=>(h.sepO x hs).2.2.2.2 hx).frm pf fun x hx=>(h.sepB x hx).2.2.2,Oc d5.lt,h.ge,fun x hx=>sS5 x hx,fun x hx=>?_⟩,nx⟩
 ·have e:Bw (l++[i])=Bw l++[V.int .i64 (Fq i)]:=by simp[Bw]
  rw[e,FE,Kb];exact u2.frm pf fun x hx=>(sS5 x hx).2.2.2.1
 ·have h1:=h.sepB x hx;exact⟨h1.1,by have:(w5.put b9 (Sn r.body.length (l++[i]))).next=w5.next:=rfl;omega,h1.2.2⟩
end
end Go.Proofs.YtegdcbdicpfbpaaGreatDoor
namespace Delphi
def TB (body:List Lt) (first:Int):Oo:=if 0≤first then Bu body ([],[]) first.toNat else ([],[])
def LQ (r:Rl) (first:Int):Oo:=Iu r.body (r.body.length-(TB r.body first).1.length) (TB r.body first)
def OL (r:Rl) (first:Int):Prop:=BD r=true∧-1≤first∧first<r.body.length∧(0≤first→(Le r.body first.toNat).kind=1)
theorem Jlc {r:Rl}{first:Int}(hbd:RBr r)(h:OL r first):PlInv r.body (TB r.body first):=by
 unfold TB;split
 ·exact (PlInv.nil r.body).take (by have:=h.2.2.1;omega) hbd.args
 ·exact PlInv.nil r.body
theorem Qg (body:List Lt)(first:Int):(TB body first).1.length≤1:=by
 unfold TB;split<;>simp[Bu]
theorem JjJ {body:List Lt}:∀(n:Nat) (s:Oo),s.1.length≤body.length→(Iu body n s).1.length≤body.length
 | 0,s,h=>h
 | n+1,s,h=>by
  unfold Iu;by_cases hl:s.1.length<body.length
  ·rw[if_pos hl];split
   ·exact JjJ n _ (by simp only[Bu,FE,Kb];omega)
   ·exact h
  ·rw[if_neg hl];exact h
theorem JjI {body:List Lt}(ha:∀x∈body,x.args.length≤5):∀(n:Nat) (s:Oo),PlInv body s→PlInv body (Iu body n s)
 | 0,s,h=>h
 | n+1,s,h=>by
  unfold Iu;split
  ·split
   ·rename_i i hi;refine JjI ha n _ (h.take ?_ ha);have:=List.mem_of_find?_eq_some hi;exact List.mem_range.1 this
   ·exact h
  ·exact h
end Delphi
namespace Go.Proofs.YtegdcbdicpfbpaaGreatDoor
open Go.AE Delphi
variable {tab:Tab}
section
open Go.AE Delphi Val
structure JE where
 head:Lt
 body:List Lt
 order:List Nat
 need:List (Fx)
 sets:Nat→Option (Nat×List (List Int))
 most:Int
structure JS where
 ts:List Tk
 seen:Vm
 rows:Fy
def Cz (E:JE) (k:Nat):Fx:=E.need.getD k []
def SN (E:JE) (k:Nat) (M:Vm):List Nat:=SQ M k (Cz E k)
def I1 (E:JE) (k:Nat) (M:Vm) (s:JS):Bool:=decide (0<Lm s.seen (SN E k M))||SC E.most s.rows.length
def Ia (E:JE) (k:Nat) (M:Vm) (s:JS):JS:=⟨s.ts,Ob s.seen (SN E k M) 1,s.rows⟩
def BP (rows:Fy) (r:List Int):Fy:=if r∈rows then rows else Rel.insR rows r
def IG (E:JE) (M:Vm) (s:JS):JS:=⟨(Lf M s.ts E.head.args).2,s.seen,BP s.rows (Lf M s.ts E.head.args).1⟩
def Ii (q:Option (Nat×List (List Int))) (r:List Int):Fy:=match q with
 | none=>[]
 | some x=>x.2.filter fun y=>Rel.fitsR y r
def D7 (q:Option (Nat×List (List Int))) (r:List Int):Bool:=match q with
 | none=>false
 | some x=>decide (r∈x.2)
def Tp (E:JE) (k:Nat):Nat:=E.order.getD k 0
def Lp (E:JE) (k:Nat):Lt:=Le E.body (Tp E k)
def OZ (E:JE) (k:Nat):Option (Nat×List (List Int)):=CS (E.sets (Tp E k)) (Lp E k).args.length
def Nt (l:Lt) (M:Vm) (ts:List Tk):Bool:=match l.args with
 | [a,b]=>(EC l.kind (TT M ts a) (TT M ts b)).1
 | _=>false
def Ot (rec:Vm→JS→JS) (l:Lt) (M:Vm) (rows:Fy) (s:JS):JS:=rows.foldl (fun s row=>if (LB l.args row M []).2=true then rec (LB l.args row M []).1.1 s else s) s
def goJ (E:JE) (rec:Vm→JS→JS) (k:Nat) (M:Vm) (s:JS):JS :=
 if (Lp E k).kind=1 then Ot rec (Lp E k) M (Ii (OZ E k) (Lf M s.ts (Lp E k).args).1) ⟨(Lf M s.ts (Lp E k).args).2,s.seen,s.rows⟩
 else if (Lp E k).kind=2 then (if D7 (OZ E k) (Lf M s.ts (Lp E k).args).1=true then⟨(Lf M s.ts (Lp E k).args).2,s.seen,s.rows⟩else rec M ⟨(Lf M s.ts (Lp E k).args).2,s.seen,s.rows⟩)
 else if Nt (Lp E k) M s.ts=true then rec M s else s
def OW (E:JE):Nat→Nat→Vm→JS→JS
 | 0,k,M,s=>if I1 E k M s=true then s else IG E M (Ia E k M s)
 | n+1,k,M,s=>if I1 E k M s=true then s else goJ E (OW E n (k+1)) k M (Ia E k M s)
theorem Jnz (rows:Fy)(r:List Int):(Rel.insR rows r).length=rows.length+1:=by
 unfold Rel.insR;have:Rel.posn rows r≤rows.length:=by unfold Rel.posn;exact (List.takeWhile_sublist _).length_le
 simp only[FE,FU,Ki,Kb];omega
theorem QH (rows:Fy)(r:List Int):rows.length≤(BP rows r).length:=by
 unfold BP;split
 ·exact FH _
 ·rw[Jnz];omega
def DV (rec:Vm→JS→JS):Prop:=∀M s,s.rows.length≤(rec M s).rows.length
theorem Rb {rec:Vm→JS→JS}(h:DV rec)(l:Lt)(M:Vm):∀(rows:Fy) (s:JS),s.rows.length≤(Ot rec l M rows s).rows.length
 | [],s=>FH _
 | r::rows,s=>by
  unfold Ot;rw[Ku];refine Kk ?_ (Rb h l M rows _);split
  ·exact h _ _
  ·exact FH _
theorem Jtg {E:JE}{rec:Vm→JS→JS}(h:DV rec)(k:Nat):DV (goJ E rec k):=by
 intro M s;unfold goJ;split
 ·exact Rb h (Lp E k) M _ ⟨(Lf M s.ts (Lp E k).args).2,s.seen,s.rows⟩
 split
 ·split
  ·exact FH _
  ·exact h M ⟨(Lf M s.ts (Lp E k).args).2,s.seen,s.rows⟩
 ·split
  ·exact h _ _
  ·exact FH _
theorem JkP (E:JE):∀(n k:Nat),DV (OW E n k)
 | 0,k=>by
  intro M s;unfold OW;split
  ·exact FH _
  ·exact QH _ _
 | n+1,k=>by
  intro M s;unfold OW;split
  ·exact FH _
  ·exact Jtg (JkP E n (k+1)) k M (Ia E k M s)
def TsIn (ts0 cs ts:List Tk):Prop:=∃x,ts=ts0++x∧x.Nodup∧∀c∈x,c∈cs
theorem TsIn.refl (ts cs:List Tk):TsIn ts cs ts:=⟨[],by simp,List.nodup_nil,by simp⟩
variable {ts0 cs ts:List Tk}
theorem TsIn.id (h:TsIn ts0 cs ts){c:Tk}(hc:c∈cs):TsIn ts0 cs (idT ts c).2:=by
 obtain⟨x,rfl,h1,h2⟩:=h;unfold idT;split
 ·split
  ·exact⟨x,rfl,h1,h2⟩
  ·rename_i hn;refine⟨x++[c],by simp,?_,?_⟩
   ·rw[List.nodup_append];refine⟨h1,by simp,?_⟩;rintro a ha b hb rfl;simp at hb;subst hb;exact hn (List.mem_append_right _ ha)
   ·intro d hd;rcases List.mem_append.1 hd with hd|hd
    ·exact h2 d hd
    ·simp at hd;subst hd;exact hc
 ·exact⟨x,rfl,h1,h2⟩
theorem TsIn.row {ts0 cs:List Tk}(M:Vm):∀(l:List Tm) (s:List Int×List Tk),TsIn ts0 cs s.2→(∀t∈l,t.kind≠1→Lc t∈cs)→TsIn ts0 cs (l.foldl (Bz M) s).2
 | [],s,h,_=>h
 | t::l,s,h,hl=>by
  rw[Ku];refine TsIn.row M l _ ?_ fun t ht=>hl t (FO _ ht);unfold Bz;split
  ·exact h
  ·rename_i hk;exact h.id (hl t Fj hk)
theorem ES {α:Type}[DecidableEq α]:∀{x cs:List α},x.Nodup→(∀c∈x,c∈cs)→x.length≤cs.length
 | [],_,_,_=>Nat.zero_le _
 | a::x,cs,h,hs=>by
  rw[List.nodup_cons]at h;have h1:=hs a Fj;have:=ES (x:=x) (cs:=cs.erase a) h.2 fun c hc=>(List.mem_erase_of_ne (by rintro rfl;exact h.1 hc)).2 (hs c (FO _ hc));rw[List.length_erase_of_mem h1]at this;have:0<cs.length:=List.length_pos_of_mem h1;simp only[FC];omega
theorem TsIn.len (h:TsIn ts0 cs ts):ts.length≤ts0.length+cs.length:=by
 obtain⟨x,rfl,h1,h2⟩:=h;rw[FE];have:=ES h1 h2;omega
variable {k:List Nat}
theorem Jio {M N:Vm}(h:K8 M k=none):K8 (M++N) k=K8 N k:=by
 induction M with
 | nil=>rfl
 | cons p M ih =>
  obtain⟨a,b⟩:=p;simp only[K8]at h;split at h
  ·cases h
  ·rename_i hk;simp only[List.cons_append,K8,if_neg hk];exact ih h
theorem JsJ {M:Vm}{n:Int}(N:Vm)(h:K8 M k=none):Dl (M++(k,n)::N) k=M++N:=by
 induction M with
 | nil=>simp[Dl]
 | cons p M ih =>
  obtain⟨a,b⟩:=p;simp only[K8]at h;split at h
  ·cases h
  ·rename_i hk;simp only[List.cons_append,Dl,if_neg hk,ih h]
theorem Me:∀(ts:List Tm) (ns:List Int) (M X:Vm),(∀v∈X.map Prod.fst,K8 M v=none)→(X.map Prod.fst).Nodup→ ∃Y,(LB ts ns (M++X) (X.map Prod.fst)).1=(M++(X++Y),(X++Y).map Prod.fst)∧(∀v∈(X++Y).map Prod.fst,K8 M v=none)∧((X++Y).map Prod.fst).Nodup
 | [],ns,M,X,h1,h2=>⟨[],by simp[LB],by simpa using h1,by simpa using h2⟩
 | _::_,[],M,X,h1,h2=>⟨[],by simp[LB],by simpa using h1,by simpa using h2⟩
 | t::ts,n::ns,M,X,h1,h2=>by
  unfold LB;split
  ·exact Me ts ns M X h1 h2
  cases hg:K8 (M++X) t.name with
  | some k =>
   simp only;split
   ·exact Me ts ns M X h1 h2
   ·exact⟨[],by simp,by simpa using h1,by simpa using h2⟩
  | none =>
   have hM:K8 M t.name=none:=by
    cases hm:K8 M t.name with
    | none=>rfl
    | some v =>
     have:K8 (M++X) t.name=some v:=by
      clear h1 h2 hg;induction M with
      | nil=>simp[K8]at hm
      | cons p M ih =>
       obtain⟨a,b⟩:=p;simp only[K8]at hm;simp only[List.cons_append,K8];split at hm
       ·rename_i hk;rw[if_pos hk];exact hm
       ·rename_i hk;rw[if_neg hk];exact ih hm
     rw[this]at hg;cases hg
   have hX:t.name∉X.map Prod.fst:=by
    intro hx;rw[Jio hM]at hg;clear h1 h2;induction X with
    | nil=>simp at hx
    | cons p X ih =>
     obtain⟨a,b⟩:=p;simp only[K8]at hg;split at hg
     ·cases hg
     ·rename_i hk;simp only[Kv,FJ]at hx;rcases hx with hx|hx
      ·exact hk hx
      ·exact ih hg hx
   simp only;rw[Md hg,F6];have e:X.map Prod.fst++[t.name]=(X++[(t.name,n)]).map Prod.fst:=Fj;rw[e]
   obtain⟨Y,h3,h4,h5⟩:=Me ts ns M (X++[(t.name,n)]) (by
    intro v hv;simp only[List.map_append,Ka,Kv,Kw,Ko]at hv;rcases hv with hv|rfl
    ·exact h1 v hv
    ·exact hM) (by
    rw[List.map_append,List.nodup_append];refine⟨h2,by simp,?_⟩;rintro a ha b hb rfl;simp at hb;subst hb;exact hX ha)
   refine⟨(t.name,n)::Y,?_,?_,?_⟩
   ·rw[h3];simp
   ·simpa using h4
   ·simpa using h5
theorem Joq (ts:List Tm)(ns:List Int)(M:Vm):∃Y,(LB ts ns M []).1=(M++Y,Y.map Prod.fst)∧(∀v∈Y.map Prod.fst,K8 M v=none)∧(Y.map Prod.fst).Nodup:=by
 obtain⟨Y,h1,h2,h3⟩:=Me ts ns M [] Fj Fj;refine⟨Y,?_,by simpa using h2,by simpa using h3⟩;simpa using h1
end
section
open Go.AE Delphi Val
variable {tab:Tab}
variable {pv:V} {aw:AW} {K:V→AW→Prop}
theorem JoI (C:Codes tab)(h:K .nilslice aw):WF tab ZQ [.nilptr,pv] aw K:=by
 refine Ld C.Yq rfl ?_;have hp:eqV .ptr .nilptr .nilptr=some true:=rfl;refine Fz (by simp only[go_sem,K5,Jf,hp];rfl) ?_;refine K7 ⟨_,by simp only[go_sem,K5,Jf];rfl,?_⟩;exact h
theorem JrG (C:Codes tab)(h:K (.bool false) aw):WF tab YL [.nilptr,pv] aw K:=by
 refine Ld C.Yt rfl ?_;refine Fz (by simp only[go_sem,K5,Zb];rfl) ?_;refine K9 Ff Fe ?_;refine Ld C.Yf rfl ?_;have hp:eqV .ptr .nilptr .nilptr=some true:=rfl;refine Fz (by simp only[go_sem,K5,Jl,hp];rfl) ?_;refine K7 ⟨_,by simp only[go_sem,K5,Jl];rfl,?_⟩;refine K6 1000 Fe ?_;refine K7 ⟨_,by simp only[go_sem,K5,Zb];rfl,?_⟩;exact h
variable {S:Fw} {q:Option (Nat×List (List Int))} {pat:List Int}
theorem JrQ (C:Codes tab){U:Fw}{p:V}(hs:SetQ S aw p q)(hr:Rel.RowV U aw pv pat)(hn:∀x,q=some x→x.2.length≤1000000∧pat.length=x.1)(hlr:pat.length≤1000)(h:∀v w cs S1 T1,Rel.ListOf aw.next w v (Ii q pat) cs S1 T1→Frm (fun _=>False) aw w→K v w):WF tab ZQ [p,pv] aw K:=by
 cases q with
 | none =>
  have hs:p = .nilptr:=hs;subst hs;exact JoI C (h _ aw [] (fun _=>False) (fun _=>False) ⟨.nil,⟨rfl,fun i v l hx=>by simp at hx⟩,fun _ h=>h.elim,fun _ h=>h.elim⟩ (Frm.refl _))
 | some x =>
  obtain⟨h1,h2⟩:=hn x rfl;exact Rel.match_ok C hs hr h1 hlr (fun hne=>absurd h2 hne) fun _=>h
theorem JuX (C:Codes tab){U:Fw}{p:V}(hs:SetQ S aw p q)(hr:Rel.RowV U aw pv pat)(hn:∀x,q=some x→x.2.length≤1000000)(hlr:pat.length≤1000)(h:K (.bool (D7 q pat)) aw):WF tab YL [p,pv] aw K:=by
 cases q with
 | none =>
  have hs:p = .nilptr:=hs;subst hs;exact JrG C h
 | some x=>exact Rel.has_ok C hs hr (hn x rfl) hlr h
def DS (tb mb vb sb:Nat) (S So:Fw) (x:Nat):Prop:=S x∨So x∨x=tb∨x=mb∨x=vb∨x=sb
structure Dyn (O:Fw) (tb mb vb sb:Nat) (op:V) (width:Nat) (w:AW) (tv:V) (S So:Fw) (M:Vm) (s:JS):Prop where
 t:TabW tb mb tv S s.ts w
 m:SM w vb M
 n:SM w sb s.seen
 o:Rel.SetOf So w op width s.rows
 sd:∀x,S x→x≠vb∧x≠sb∧¬So x∧¬O x
 od:∀x,So x→x≠tb∧x≠mb∧x≠vb∧x≠sb∧¬O x∧x<w.next
 xd:¬O tb∧¬O mb∧¬O vb∧¬O sb
 ne:vb≠tb∧vb≠mb∧sb≠tb∧sb≠mb∧sb≠vb
 lt:∀x,O x→x<w.next
variable {tb mb vb sb width:Nat} {w:AW} {So:Fw}
theorem Dyn.dis {O:Fw}{op:V}{tv:V}{M:Vm}{s:JS}(h:Dyn O tb mb vb sb op width w tv S So M s):∀x,O x→¬DS tb mb vb sb S So x:=by
 rintro x hx (h1|h1|rfl|rfl|rfl|rfl)
 ·exact (h.sd x h1).2.2.2 hx
 ·exact (h.od x h1).2.2.2.2.1 hx
 ·exact h.xd.1 hx
 ·exact h.xd.2.1 hx
 ·exact h.xd.2.2.1 hx
 ·exact h.xd.2.2.2 hx
theorem Dyn.mono {O O':Fw}{op:V}{tv:V}{M:Vm}{s:JS}(h:Dyn O tb mb vb sb op width w tv S So M s)(ho:∀x,O' x→x<w.next∧¬DS tb mb vb sb S So x):Dyn O' tb mb vb sb op width w tv S So M s where
 t:=h.t
 m:=h.m
 n:=h.n
 o:=h.o
 sd x hx:=⟨(h.sd x hx).1,(h.sd x hx).2.1,(h.sd x hx).2.2.1,fun hh=>(ho x hh).2 (.inl hx)⟩
 od x hx:=⟨(h.od x hx).1,(h.od x hx).2.1,(h.od x hx).2.2.1,(h.od x hx).2.2.2.1,fun hh=>(ho x hh).2 (.inr (.inl hx)),(h.od x hx).2.2.2.2.2⟩
 xd:=⟨fun hh=>(ho _ hh).2 (.inr (.inr (.inl rfl))),fun hh=>(ho _ hh).2 (.inr (.inr (.inr (.inl rfl)))),fun hh=>(ho _ hh).2 (.inr (.inr (.inr (.inr (.inl rfl))))),fun hh=>(ho _ hh).2 (.inr (.inr (.inr (.inr (.inr rfl)))))⟩
 ne:=h.ne
 lt x hx:=(ho x hx).1
structure Mv (tb mb vb sb:Nat) (w:AW) (S So:Fw) (w':AW) (S' So':Fw):Prop where
 f:Frm (DS tb mb vb sb S So) w w'
 s:∀x,S' x→S x∨w.next≤x
 o:∀x,So' x→So x∨w.next≤x
theorem Mv.refl:Mv tb mb vb sb w S So w S So:=⟨Frm.refl _,fun _ h=> .inl h,fun _ h=> .inl h⟩
theorem Mv.trans {w1 w2:AW}{S1 So1 S2 So2:Fw}(h:Mv tb mb vb sb w S So w1 S1 So1)(h':Mv tb mb vb sb w1 S1 So1 w2 S2 So2):Mv tb mb vb sb w S So w2 S2 So2 where
 f:=h.f.trans h'.f (fun _ _ h=>h) fun x hx hd=>by
  rcases hd with hd|hd|hd
  ·rcases h.s x hd with h1|h1
   ·exact .inl h1
   ·omega
  ·rcases h.o x hd with h1|h1
   ·exact .inr (.inl h1)
   ·omega
  ·exact .inr (.inr hd)
 s x hx:=by
  have:=h.f.next;rcases h'.s x hx with h1|h1
  ·exact h.s x h1
  ·right;omega
 o x hx:=by
  have:=h.f.next;rcases h'.o x hx with h1|h1
  ·exact h.o x h1
  ·right;omega
section
variable {O:Nat→Prop} {tb mb vb sb width:Nat} {op tv:V} {w:AW} {S So:Nat→Prop} {M:Vm} {s:JS}
variable {w':AW}
theorem Dyn.step0 (h:Dyn O tb mb vb sb op width w tv S So M s)(g:Frm (fun _=>False) w w'):Dyn O tb mb vb sb op width w' tv S So M s∧Mv tb mb vb sb w S So w' S So:=
 ⟨⟨h.t.step0 g,h.m.frm g fun h=>h,h.n.frm g fun h=>h,h.o.frm g fun _ _ h=>h,h.sd,fun x hx=>by have:=h.od x hx;exact⟨this.1,this.2.1,this.2.2.1,this.2.2.2.1,this.2.2.2.2.1,FK this.2.2.2.2.2 g.next⟩,h.xd,h.ne,fun x hx=>FK (h.lt x hx) g.next⟩,⟨g.no,fun _ h=> .inl h,fun _ h=> .inl h⟩⟩
theorem Dyn.tabl (h:Dyn O tb mb vb sb op width w tv S So M s){tv':V}{S':Fw}{ts:List Tk}(ht:TabW tb mb tv' S' ts w')(g:Frm (fun x=>S x∨x=tb∨x=mb) w w')(hs:∀x,S' x→S x∨w.next≤x): Dyn O tb mb vb sb op width w' tv' S' So M ⟨ts,s.seen,s.rows⟩∧Mv tb mb vb sb w S So w' S' So:=by
 have hvn:=h.m.lt;have hsn:=h.n.lt;refine⟨⟨ht,h.m.frm g ?_,h.n.frm g ?_,h.o.frm g ?_,fun x hx=>?_,fun x hx=>?_,h.xd,h.ne,fun x hx=>FK (h.lt x hx) g.next⟩,⟨g.mono fun x _ hx=>?_,hs,fun _ h=> .inl h⟩⟩
 ·rintro (h1|h1|h1)
  ·exact (h.sd _ h1).1 rfl
  ·exact h.ne.1 h1
  ·exact h.ne.2.1 h1
 ·rintro (h1|h1|h1)
  ·exact (h.sd _ h1).2.1 rfl
  ·exact h.ne.2.2.1 h1
  ·exact h.ne.2.2.2.1 h1
 ·rintro x hx (h1|h1|h1)
  ·exact (h.sd x h1).2.2.1 hx
  ·exact (h.od x hx).1 h1
  ·exact (h.od x hx).2.1 h1
 ·rcases hs x hx with h1|h1
  ·exact h.sd x h1
  ·refine⟨by omega,by omega,fun ho=>?_,fun ho=>?_⟩
   ·have:=(h.od x ho).2.2.2.2.2;omega
   ·have:=h.lt x ho;omega
 ·have:=h.od x hx;exact⟨this.1,this.2.1,this.2.2.1,this.2.2.2.1,this.2.2.2.2.1,FK this.2.2.2.2.2 g.next⟩
 ·rcases hx with h1|h1|h1
  ·exact .inl h1
  ·exact .inr (.inr (.inl h1))
  ·exact .inr (.inr (.inr (.inl h1)))
theorem Dyn.vars (h:Dyn O tb mb vb sb op width w tv S So M s){M':Vm}(hm:SM w' vb M')(g:Frm (fun x=>x=vb) w w'): Dyn O tb mb vb sb op width w' tv S So M' s∧Mv tb mb vb sb w S So w' S So:=by
 refine⟨⟨h.t.step g (fun e=>h.ne.1 e.symm) (fun e=>h.ne.2.1 e.symm) fun x hx e=>(h.sd x hx).1 e,hm,h.n.frm g fun e=>h.ne.2.2.2.2 e,h.o.frm g fun x hx e=>(h.od x hx).2.2.1 e,h.sd,fun x hx=>?_,h.xd,h.ne,fun x hx=>FK (h.lt x hx) g.next⟩,⟨g.mono fun x _ hx=> .inr (.inr (.inr (.inr (.inl hx)))),fun _ h=> .inl h,fun _ h=> .inl h⟩⟩;have:=h.od x hx;exact⟨this.1,this.2.1,this.2.2.1,this.2.2.2.1,this.2.2.2.2.1,FK this.2.2.2.2.2 g.next⟩
theorem Dyn.mark (h:Dyn O tb mb vb sb op width w tv S So M s){N:Vm}(hn:SM w' sb N)(g:Frm (fun x=>x=sb) w w'): Dyn O tb mb vb sb op width w' tv S So M ⟨s.ts,N,s.rows⟩∧Mv tb mb vb sb w S So w' S So:=by
 refine⟨⟨h.t.step g (fun e=>h.ne.2.2.1 e.symm) (fun e=>h.ne.2.2.2.1 e.symm) fun x hx e=>(h.sd x hx).2.1 e,h.m.frm g fun e=>h.ne.2.2.2.2 e.symm,hn,h.o.frm g fun x hx e=>(h.od x hx).2.2.2.1 e,h.sd,fun x hx=>?_,h.xd,h.ne,fun x hx=>FK (h.lt x hx) g.next⟩,⟨g.mono fun x _ hx=> .inr (.inr (.inr (.inr (.inr hx)))),fun _ h=> .inl h,fun _ h=> .inl h⟩⟩;have:=h.od x hx;exact⟨this.1,this.2.1,this.2.2.1,this.2.2.2.1,this.2.2.2.2.1,FK this.2.2.2.2.2 g.next⟩
theorem Dyn.out (h:Dyn O tb mb vb sb op width w tv S So M s){So':Fw}{rows:Fy}(ho:Rel.SetOf So' w' op width rows)(g:Frm So w w')(hg:TV So So' w w'): Dyn O tb mb vb sb op width w' tv S So' M ⟨s.ts,s.seen,rows⟩∧Mv tb mb vb sb w S So w' S So':=by
 have ht:=h.t.a.lt;have hmb:=h.t.m.lt;have hvn:=h.m.lt;have hsn:=h.n.lt;refine⟨⟨h.t.step g (fun e=>(h.od _ e).1 rfl) (fun e=>(h.od _ e).2.1 rfl) fun x hx e=>(h.sd x hx).2.2.1 e,h.m.frm g fun e=>(h.od _ e).2.2.1 rfl,h.n.frm g fun e=>(h.od _ e).2.2.2.1 rfl,ho,fun x hx=>?_,fun x hx=>?_,h.xd,h.ne,fun x hx=>FK (h.lt x hx) g.next⟩,⟨g.mono fun x _ hx=> .inr (.inl hx),fun _ h=> .inl h,fun x hx=>(hg x hx).2⟩⟩
 ·have h1:=h.sd x hx;refine⟨h1.1,h1.2.1,fun ho=>?_,h1.2.2.2⟩;rcases (hg x ho).2 with h2|h2
  ·exact h1.2.2.1 h2
  ·have:=(h.t.s x hx).1;omega
 ·rcases (hg x hx).2 with h2|h2
  ·have:=h.od x h2;exact⟨this.1,this.2.1,this.2.2.1,this.2.2.2.1,this.2.2.2.2.1,(hg x hx).1⟩
  ·exact⟨by omega,by omega,by omega,by omega,fun ho=>by have:=h.lt x ho;omega,(hg x hx).1⟩
end
end
end Go.Proofs.YtegdcbdicpfbpaaGreatDoor
