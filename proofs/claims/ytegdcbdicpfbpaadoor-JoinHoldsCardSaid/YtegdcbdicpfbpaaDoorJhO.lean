/- A part of the proof. -/
import Derived.Test.YtegdcbdicpfbpaaDoorJhN
import Derived.Test.YtegdcbdicpfbpaaDoorJhI
import Derived.Test.YtegdcbdicpfbpaaDoorJhM
set_option linter.unusedVariables false
set_option maxRecDepth 10000
set_option linter.unusedSimpArgs false
namespace Go.Proofs.YtegdcbdicpfbpaaDoor
open Go.AE Delphi
variable {tab:Tab}
variable {i:Nat} {l:List Nat}
theorem JlF {n:Nat}:(Ja0 n l).set i (V.bool true)=Ja0 n (l++[i]):=by
 apply List.ext_getElem?;intro j;rw[Ko];by_cases hj:j<n
 ·by_cases e:i=j
  ·subst e;rw[if_pos rfl,if_pos (by simp[Ja0];exact hj),Jfy hj];simp
  ·rw[if_neg e,Jfy hj,Jfy hj];have:(j∈l++[i])↔j∈l:=by simp;omega
   simp only[this]
 ·have e1:(Ja0 n (l++[i]))[j]? = none:=List.getElem?_eq_none (by simp[Ja0];omega);have e2:(Ja0 n l)[j]? = none:=List.getElem?_eq_none (by simp[Ja0];omega);rw[e1,e2];by_cases e:i=j
  ·subst e;rw[if_pos rfl,if_neg (by simp[Ja0];omega)]
  ·rw[if_neg e]
structure PrM (a w:AW) (T:Fw) (r:Rl) (hv u:V) (n2 b9:Nat) (l:List Nat) (bd:Fx) (ov bv:V) (So Sb:Fw):Prop where
 frm:Frm (fun _=>False) a w
 lits:RdL (LtC T) T a u 3 r.body
 rule:CB w n2 [.int .i64 (Int.ofNat r.head.kind),.str r.head.name,hv,u]
 ord:Bt So w ov 1 l.length (PZ l)
 bnd:Bt Sb w bv 1 bd.length (H5 bd)
 done:CB w b9 (Ja0 r.body.length l)
 ge:a.next≤n2∧n2<b9
 sepO:∀x,So x→a.next≤x∧x<w.next∧x≠n2∧x≠b9∧¬Sb x
 sepB:∀x,Sb x→a.next≤x∧x<w.next∧x≠n2∧x≠b9
variable {a w:AW} {T So Sb:Fw} {r:Rl} {hv u ov bv:V} {n2 b9:Nat}
theorem PrS.m {s:Po}(h:PrS a w T r hv u n2 b9 s ov bv So Sb):PrM a w T r hv u n2 b9 s.1 s.2 ov bv So Sb:=⟨h.frm,h.lits,h.rule,h.ord,h.bnd,h.done,h.ge,h.sepO,h.sepB⟩
theorem PrM.s {s:Po}(h:PrM a w T r hv u n2 b9 s.1 s.2 ov bv So Sb)(hi:PlInv r.body s):PrS a w T r hv u n2 b9 s ov bv So Sb:=⟨h.frm,h.lits,h.rule,h.ord,h.bnd,h.done,h.ge,h.sepO,h.sepB,hi⟩
variable {bd:Fx}
theorem PrM.ext {w2:AW}(h:PrM a w T r hv u n2 b9 l bd ov bv So Sb)(hf:Frm (fun _=>False) w w2):PrM a w2 T r hv u n2 b9 l bd ov bv So Sb:=
 have nx:=hf.next
 ⟨h.frm.tr hf,h.lits,h.rule.frm hf fun h=>h,h.ord.frm hf fun _ _ h=>h,h.bnd.frm hf fun _ _ h=>h,h.done.frm hf fun h=>h,h.ge,fun x hx=>by have h1:=h.sepO x hx;exact⟨h1.1,by omega,h1.2.2⟩,fun x hx=>by have h1:=h.sepB x hx;exact⟨h1.1,by omega,h1.2.2⟩⟩
theorem PrM.lit (h:PrM a w T r hv u n2 b9 l bd ov bv So Sb){t:Lt}(hi:r.body[i]? = some t): ∃b o c v,u = .slice b o r.body.length c∧w.load b (o+i*3) 3=some [.int .i64 (Int.ofNat t.kind),.str t.name,v]∧Rd T w v 3 t.args.length (Pl t.args):=by
 obtain⟨b,o,c,v,h1,_,_,h2,_,_,_,h3⟩:=JcT (h.lits.frm (fun _ _ hl=>hl.frm h.frm fun _ _ h=>h) h.frm fun _ _ h=>h) hi;exact⟨b,o,c,v,h1,h2,h3⟩
theorem PrM.take1 (h:PrM a w T r hv u n2 b9 l bd ov bv So Sb)(hi:i<r.body.length)(hl:l.length≤100): ∃ov' w5 w6 S5,(w.fresh [.int .i64 (Int.ofNat i)]).appendV 1 8 ov 1 [.int .i64 (Int.ofNat i)]=some (ov',w5)∧w5.store b9 i [.bool true]=some w6∧PrM a w6 T r hv u n2 b9 (l++[i]) bd ov' bv S5 Sb∧w.next≤w6.next:=by
 have hSo:∀b,So b→b<w.next:=fun b hb=>(h.sepO b hb).2.1;obtain⟨ov',w5,S5,u1,u2,u3,u4⟩:=h.ord.push (news:=[V.int .i64 (Int.ofNat i)]) (bytes:=8) hSo Fh rfl rfl Fh Fh;have nb:¬So b9:=fun hx=>(h.sepO _ hx).2.2.2.1 rfl;have nn:¬So n2:=fun hx=>(h.sepO _ hx).2.2.1 rfl;have d5:=h.done.frm u3 nb;have st:=d5.set (i:=i) (v:=V.bool true) (by simp[Ja0];exact hi) rfl;rw[JlF]at st;have pf:Frm (fun x=>x=b9) w5 (w5.put b9 (Ja0 r.body.length (l++[i]))):=HO;obtain⟨g1,g2⟩:=h.ge;have lb:=h.done.lt;have ln:=h.rule.lt;have nx:=u3.next;have hfa:=h.frm.next
 have sS5:∀x,S5 x→a.next≤x∧x<w5.next∧x≠n2∧x≠b9∧¬Sb x:=by
  intro x hx;obtain⟨m1,m2⟩:=u4 x hx;rcases m2 with m2|m2
  ·have h1:=h.sepO x m2;exact⟨h1.1,m1,h1.2.2⟩
  ·exact⟨by omega,m1,by omega,by omega,fun hb=>by have:=(h.sepB x hb).2.1;omega⟩
 refine⟨ov',w5,_,S5,u1,st,⟨(h.frm.trans u3 (fun _ _ h=>h) fun x hx hs=>by have:=(h.sepO x hs).1;omega).out Fh rfl,h.lits,(h.rule.frm u3 nn).frm pf (by show ¬n2=b9;omega),?_,(h.bnd.frm u3 fun x hx hs=>(h.sepO x hs).2.2.2.2 hx).frm pf fun x hx=>(h.sepB x hx).2.2.2,H3 d5.lt,h.ge,fun x hx=>sS5 x hx,fun x hx=>?_⟩,nx⟩
 ·have e:PZ (l++[i])=PZ l++[V.int .i64 (Int.ofNat i)]:=by simp[PZ]
  rw[e,FE,Ka];exact u2.frm pf fun x hx=>(sS5 x hx).2.2.2.1
 ·have h1:=h.sepB x hx;exact⟨h1.1,by have:(w5.put b9 (Ja0 r.body.length (l++[i]))).next=w5.next:=rfl;omega,h1.2.2⟩
end Go.Proofs.YtegdcbdicpfbpaaDoor
namespace Delphi
def JaD (body:List Lt) (first:Int):Po:=if 0≤first then Jab body ([],[]) first.toNat else ([],[])
def Jaq (r:Rl) (first:Int):Po:=JbT r.body (r.body.length-(JaD r.body first).1.length) (JaD r.body first)
def Jbl (r:Rl) (first:Int):Prop:=JbZ r=true∧-1≤first∧first<r.body.length∧(0≤first→(H4 r.body first.toNat).kind=1)
theorem Jlc {r:Rl}{first:Int}(hbd:RBr r)(h:Jbl r first):PlInv r.body (JaD r.body first):=by
 unfold JaD;split
 ·exact (PlInv.nil r.body).take (by have:=h.2.2.1;omega) hbd.args
 ·exact PlInv.nil r.body
theorem Jgi (body:List Lt)(first:Int):(JaD body first).1.length≤1:=by
 unfold JaD;split<;>simp[Jab]
theorem Jfk {body:List Lt}:∀(n:Nat) (s:Po),s.1.length≤body.length→(JbT body n s).1.length≤body.length
 | 0,s,h=>h
 | n+1,s,h=>by
  unfold JbT;by_cases hl:s.1.length<body.length
  ·rw[if_pos hl];split
   ·exact Jfk n _ (by simp only[Jab,FE,Ka];omega)
   ·exact h
  ·rw[if_neg hl];exact h
theorem Jfj {body:List Lt}(ha:∀x∈body,x.args.length≤5):∀(n:Nat) (s:Po),PlInv body s→PlInv body (JbT body n s)
 | 0,s,h=>h
 | n+1,s,h=>by
  unfold JbT;split
  ·split
   ·rename_i i hi;refine Jfj ha n _ (h.take ?_ ha);have:=List.mem_of_find?_eq_some hi;exact List.mem_range.1 this
   ·exact h
  ·exact h
end Delphi
namespace Go.Proofs.YtegdcbdicpfbpaaDoor
open Go.AE Delphi
variable {tab:Tab}
section
open Go.AE Delphi Val
structure JE where
 head:Lt
 body:List Lt
 order:List Nat
 need:List (Fx)
 sets:Nat→Option (Nat×List (List Int))
 most:Int
structure JS where
 ts:List Tk
 seen:Vm
 rows:Fy
def Jio (E:JE) (k:Nat):Fx:=E.need.getD k []
def Jgs (E:JE) (k:Nat) (M:Vm):List Nat:=Jcc M k (Jio E k)
def Jed (E:JE) (k:Nat) (M:Vm) (s:JS):Bool:=decide (0<Pb s.seen (Jgs E k M))||JcH E.most s.rows.length
def Jdf (E:JE) (k:Nat) (M:Vm) (s:JS):JS:=⟨s.ts,Pj s.seen (Jgs E k M) 1,s.rows⟩
def Jbi (rows:Fy) (r:List Int):Fy:=if r∈rows then rows else Rel.insR rows r
def JcL (E:JE) (M:Vm) (s:JS):JS:=⟨(HZ M s.ts E.head.args).2,s.seen,Jbi s.rows (HZ M s.ts E.head.args).1⟩
def Jcu (q:Option (Nat×List (List Int))) (r:List Int):Fy:=match q with
 | none=>[]
 | some x=>x.2.filter fun y=>Rel.fitsR y r
def JkG (q:Option (Nat×List (List Int))) (r:List Int):Bool:=match q with
 | none=>false
 | some x=>decide (r∈x.2)
def JdA (E:JE) (k:Nat):Nat:=E.order.getD k 0
def JaS (E:JE) (k:Nat):Lt:=H4 E.body (JdA E k)
def Jam (E:JE) (k:Nat):Option (Nat×List (List Int)):=JgD (E.sets (JdA E k)) (JaS E k).args.length
def Jh5 (l:Lt) (M:Vm) (ts:List Tk):Bool:=match l.args with
 | [a,b]=>(Jc2 l.kind (H6 M ts a) (H6 M ts b)).1
 | _=>false
def PF (rec:Vm→JS→JS) (l:Lt) (M:Vm) (rows:Fy) (s:JS):JS:=rows.foldl (fun s row=>if (Pd l.args row M []).2=true then rec (Pd l.args row M []).1.1 s else s) s
def goJ (E:JE) (rec:Vm→JS→JS) (k:Nat) (M:Vm) (s:JS):JS :=
 if (JaS E k).kind=1 then PF rec (JaS E k) M (Jcu (Jam E k) (HZ M s.ts (JaS E k).args).1) ⟨(HZ M s.ts (JaS E k).args).2,s.seen,s.rows⟩
 else if (JaS E k).kind=2 then (if JkG (Jam E k) (HZ M s.ts (JaS E k).args).1=true then⟨(HZ M s.ts (JaS E k).args).2,s.seen,s.rows⟩else rec M ⟨(HZ M s.ts (JaS E k).args).2,s.seen,s.rows⟩)
 else if Jh5 (JaS E k) M s.ts=true then rec M s else s
def JaM (E:JE):Nat→Nat→Vm→JS→JS
 | 0,k,M,s=>if Jed E k M s=true then s else JcL E M (Jdf E k M s)
 | n+1,k,M,s=>if Jed E k M s=true then s else goJ E (JaM E n (k+1)) k M (Jdf E k M s)
theorem Jic (rows:Fy)(r:List Int):(Rel.insR rows r).length=rows.length+1:=by
 unfold Rel.insR;have:Rel.posn rows r≤rows.length:=by unfold Rel.posn;exact (List.takeWhile_sublist _).length_le
 simp only[FE,FT,Kh,Ka];omega
theorem JhC (rows:Fy)(r:List Int):rows.length≤(Jbi rows r).length:=by
 unfold Jbi;split
 ·exact FH _
 ·rw[Jic];omega
def JdK (rec:Vm→JS→JS):Prop:=∀M s,s.rows.length≤(rec M s).rows.length
theorem Jd8 {rec:Vm→JS→JS}(h:JdK rec)(l:Lt)(M:Vm):∀(rows:Fy) (s:JS),s.rows.length≤(PF rec l M rows s).rows.length
 | [],s=>FH _
 | r::rows,s=>by
  unfold PF;rw[Kr];refine Kj ?_ (Jd8 h l M rows _);split
  ·exact h _ _
  ·exact FH _
theorem Jnj {E:JE}{rec:Vm→JS→JS}(h:JdK rec)(k:Nat):JdK (goJ E rec k):=by
 intro M s;unfold goJ;split
 ·exact Jd8 h (JaS E k) M _ ⟨(HZ M s.ts (JaS E k).args).2,s.seen,s.rows⟩
 split
 ·split
  ·exact FH _
  ·exact h M ⟨(HZ M s.ts (JaS E k).args).2,s.seen,s.rows⟩
 ·split
  ·exact h _ _
  ·exact FH _
theorem Jf3 (E:JE):∀(n k:Nat),JdK (JaM E n k)
 | 0,k=>by
  intro M s;unfold JaM;split
  ·exact FH _
  ·exact JhC _ _
 | n+1,k=>by
  intro M s;unfold JaM;split
  ·exact FH _
  ·exact Jnj (Jf3 E n (k+1)) k M (Jdf E k M s)
def TsIn (ts0 cs ts:List Tk):Prop:=∃x,ts=ts0++x∧x.Nodup∧∀c∈x,c∈cs
theorem TsIn.refl (ts cs:List Tk):TsIn ts cs ts:=⟨[],by simp,List.nodup_nil,by simp⟩
variable {ts0 cs ts:List Tk}
theorem TsIn.id (h:TsIn ts0 cs ts){c:Tk}(hc:c∈cs):TsIn ts0 cs (idT ts c).2:=by
 obtain⟨x,rfl,h1,h2⟩:=h;unfold idT;split
 ·split
  ·exact⟨x,rfl,h1,h2⟩
  ·rename_i hn;refine⟨x++[c],by simp,?_,?_⟩
   ·rw[List.nodup_append];refine⟨h1,by simp,?_⟩;rintro a ha b hb rfl;simp at hb;subst hb;exact hn (List.mem_append_right _ ha)
   ·intro d hd;rcases List.mem_append.1 hd with hd|hd
    ·exact h2 d hd
    ·simp at hd;subst hd;exact hc
 ·exact⟨x,rfl,h1,h2⟩
theorem TsIn.row {ts0 cs:List Tk}(M:Vm):∀(l:List Tm) (s:List Int×List Tk),TsIn ts0 cs s.2→(∀t∈l,t.kind≠1→H2 t∈cs)→TsIn ts0 cs (l.foldl (Jck M) s).2
 | [],s,h,_=>h
 | t::l,s,h,hl=>by
  rw[Kr];refine TsIn.row M l _ ?_ fun t ht=>hl t (FO _ ht);unfold Jck;split
  ·exact h
  ·rename_i hk;exact h.id (hl t Fj hk)
theorem Jeq {α:Type}[DecidableEq α]:∀{x cs:List α},x.Nodup→(∀c∈x,c∈cs)→x.length≤cs.length
 | [],_,_,_=>Nat.zero_le _
 | a::x,cs,h,hs=>by
  rw[List.nodup_cons]at h;have h1:=hs a Fj;have:=Jeq (x:=x) (cs:=cs.erase a) h.2 fun c hc=>(List.mem_erase_of_ne (by rintro rfl;exact h.1 hc)).2 (hs c (FO _ hc));rw[List.length_erase_of_mem h1]at this;have:0<cs.length:=List.length_pos_of_mem h1;simp only[FC];omega
theorem TsIn.len (h:TsIn ts0 cs ts):ts.length≤ts0.length+cs.length:=by
 obtain⟨x,rfl,h1,h2⟩:=h;rw[FE];have:=Jeq h1 h2;omega
variable {k:List Nat}
theorem Jej {M N:Vm}(h:HE M k=none):HE (M++N) k=HE N k:=by
 induction M with
 | nil=>rfl
 | cons p M ih =>
  obtain⟨a,b⟩:=p;simp only[HE]at h;split at h
  ·cases h
  ·rename_i hk;simp only[List.cons_append,HE,if_neg hk];exact ih h
theorem JmQ {M:Vm}{n:Int}(N:Vm)(h:HE M k=none):Jew (M++(k,n)::N) k=M++N:=by
 induction M with
 | nil=>simp[Jew]
 | cons p M ih =>
  obtain⟨a,b⟩:=p;simp only[HE]at h;split at h
  ·cases h
  ·rename_i hk;simp only[List.cons_append,Jew,if_neg hk,ih h]
theorem Jdc:∀(ts:List Tm) (ns:List Int) (M X:Vm),(∀v∈X.map Prod.fst,HE M v=none)→(X.map Prod.fst).Nodup→ ∃Y,(Pd ts ns (M++X) (X.map Prod.fst)).1=(M++(X++Y),(X++Y).map Prod.fst)∧(∀v∈(X++Y).map Prod.fst,HE M v=none)∧((X++Y).map Prod.fst).Nodup
 | [],ns,M,X,h1,h2=>⟨[],by simp[Pd],by simpa using h1,by simpa using h2⟩
 | _::_,[],M,X,h1,h2=>⟨[],by simp[Pd],by simpa using h1,by simpa using h2⟩
 | t::ts,n::ns,M,X,h1,h2=>by
  unfold Pd;split
  ·exact Jdc ts ns M X h1 h2
  cases hg:HE (M++X) t.name with
  | some k =>
   simp only;split
   ·exact Jdc ts ns M X h1 h2
   ·exact⟨[],by simp,by simpa using h1,by simpa using h2⟩
  | none =>
   have hM:HE M t.name=none:=by
    cases hm:HE M t.name with
    | none=>rfl
    | some v =>
     have:HE (M++X) t.name=some v:=by
      clear h1 h2 hg;induction M with
      | nil=>simp[HE]at hm
      | cons p M ih =>
       obtain⟨a,b⟩:=p;simp only[HE]at hm;simp only[List.cons_append,HE];split at hm
       ·rename_i hk;rw[if_pos hk];exact hm
       ·rename_i hk;rw[if_neg hk];exact ih hm
     rw[this]at hg;cases hg
   have hX:t.name∉X.map Prod.fst:=by
    intro hx;rw[Jej hM]at hg;clear h1 h2;induction X with
    | nil=>simp at hx
    | cons p X ih =>
     obtain⟨a,b⟩:=p;simp only[HE]at hg;split at hg
     ·cases hg
     ·rename_i hk;simp only[Kt,FJ]at hx;rcases hx with hx|hx
      ·exact hk hx
      ·exact ih hg hx
   simp only;rw[Jdb hg,F5];have e:X.map Prod.fst++[t.name]=(X++[(t.name,n)]).map Prod.fst:=Fj;rw[e]
   obtain⟨Y,h3,h4,h5⟩:=Jdc ts ns M (X++[(t.name,n)]) (by
    intro v hv;simp only[List.map_append,F9,Kt,Ku,Kn]at hv;rcases hv with hv|rfl
    ·exact h1 v hv
    ·exact hM) (by
    rw[List.map_append,List.nodup_append];refine⟨h2,by simp,?_⟩;rintro a ha b hb rfl;simp at hb;subst hb;exact hX ha)
   refine⟨(t.name,n)::Y,?_,?_,?_⟩
   ·rw[h3];simp
   ·simpa using h4
   ·simpa using h5
theorem JiW (ts:List Tm)(ns:List Int)(M:Vm):∃Y,(Pd ts ns M []).1=(M++Y,Y.map Prod.fst)∧(∀v∈Y.map Prod.fst,HE M v=none)∧(Y.map Prod.fst).Nodup:=by
 obtain⟨Y,h1,h2,h3⟩:=Jdc ts ns M [] Fj Fj;refine⟨Y,?_,by simpa using h2,by simpa using h3⟩;simpa using h1
end
section
open Go.AE Delphi Val
variable {tab:Tab}
variable {pv:V} {aw:AW} {K:V→AW→Prop}
theorem Jjf (C:Codes tab)(h:K .nilslice aw):WF tab Zz [.nilptr,pv] aw K:=by
 refine HL C.Z2 rfl ?_;have hp:eqV .ptr .nilptr .nilptr=some true:=rfl;refine Fz (by simp only[go_sem,HA,simprocAttr,Jf,hp];rfl) ?_;refine HC ⟨_,by simp only[go_sem,HA,simprocAttr,Jf];rfl,?_⟩;exact h
theorem JlO (C:Codes tab)(h:K (.bool false) aw):WF tab Yh [.nilptr,pv] aw K:=by
 refine HL C.Z5 rfl ?_;refine Fz (by simp only[go_sem,HA,simprocAttr,J5];rfl) ?_;refine HD Ff Fe ?_;refine HL C.ZS rfl ?_;have hp:eqV .ptr .nilptr .nilptr=some true:=rfl;refine Fz (by simp only[go_sem,HA,simprocAttr,Jl,hp];rfl) ?_;refine HC ⟨_,by simp only[go_sem,HA,simprocAttr,Jl];rfl,?_⟩;refine HB 1000 Fe ?_;refine HC ⟨_,by simp only[go_sem,HA,simprocAttr,J5];rfl,?_⟩;exact h
variable {S:Fw} {q:Option (Nat×List (List Int))} {pat:List Int}
theorem JlZ (C:Codes tab){U:Fw}{p:V}(hs:SetQ S aw p q)(hr:Rel.RowV U aw pv pat)(hn:∀x,q=some x→x.2.length≤1000000∧pat.length=x.1)(hlr:pat.length≤1000)(h:∀v w cs S1 T1,Rel.ListOf aw.next w v (Jcu q pat) cs S1 T1→Frm (fun _=>False) aw w→K v w):WF tab Zz [p,pv] aw K:=by
 cases q with
 | none =>
  have hs:p = .nilptr:=hs;subst hs;exact Jjf C (h _ aw [] (fun _=>False) (fun _=>False) ⟨.nil,⟨rfl,fun i v l hx=>by simp at hx⟩,fun _ h=>h.elim,fun _ h=>h.elim⟩ (Frm.refl _))
 | some x =>
  obtain⟨h1,h2⟩:=hn x rfl;exact Rel.match_ok C hs hr h1 hlr (fun hne=>absurd h2 hne) fun _=>h
theorem Joz (C:Codes tab){U:Fw}{p:V}(hs:SetQ S aw p q)(hr:Rel.RowV U aw pv pat)(hn:∀x,q=some x→x.2.length≤1000000)(hlr:pat.length≤1000)(h:K (.bool (JkG q pat)) aw):WF tab Yh [p,pv] aw K:=by
 cases q with
 | none =>
  have hs:p = .nilptr:=hs;subst hs;exact JlO C h
 | some x=>exact Rel.has_ok C hs hr (hn x rfl) hlr h
def DS (tb mb vb sb:Nat) (S So:Fw) (x:Nat):Prop:=S x∨So x∨x=tb∨x=mb∨x=vb∨x=sb
structure Dyn (O:Fw) (tb mb vb sb:Nat) (op:V) (width:Nat) (w:AW) (tv:V) (S So:Fw) (M:Vm) (s:JS):Prop where
 t:TabW tb mb tv S s.ts w
 m:SM w vb M
 n:SM w sb s.seen
 o:Rel.SetOf So w op width s.rows
 sd:∀x,S x→x≠vb∧x≠sb∧¬So x∧¬O x
 od:∀x,So x→x≠tb∧x≠mb∧x≠vb∧x≠sb∧¬O x∧x<w.next
 xd:¬O tb∧¬O mb∧¬O vb∧¬O sb
 ne:vb≠tb∧vb≠mb∧sb≠tb∧sb≠mb∧sb≠vb
 lt:∀x,O x→x<w.next
variable {tb mb vb sb width:Nat} {w:AW} {So:Fw}
theorem Dyn.dis {O:Fw}{op:V}{tv:V}{M:Vm}{s:JS}(h:Dyn O tb mb vb sb op width w tv S So M s):∀x,O x→¬DS tb mb vb sb S So x:=by
 rintro x hx (h1|h1|rfl|rfl|rfl|rfl)
 ·exact (h.sd x h1).2.2.2 hx
 ·exact (h.od x h1).2.2.2.2.1 hx
 ·exact h.xd.1 hx
 ·exact h.xd.2.1 hx
 ·exact h.xd.2.2.1 hx
 ·exact h.xd.2.2.2 hx
theorem Dyn.mono {O O':Fw}{op:V}{tv:V}{M:Vm}{s:JS}(h:Dyn O tb mb vb sb op width w tv S So M s)(ho:∀x,O' x→x<w.next∧¬DS tb mb vb sb S So x):Dyn O' tb mb vb sb op width w tv S So M s where
 t:=h.t
 m:=h.m
 n:=h.n
 o:=h.o
 sd x hx:=⟨(h.sd x hx).1,(h.sd x hx).2.1,(h.sd x hx).2.2.1,fun hh=>(ho x hh).2 (.inl hx)⟩
 od x hx:=⟨(h.od x hx).1,(h.od x hx).2.1,(h.od x hx).2.2.1,(h.od x hx).2.2.2.1,fun hh=>(ho x hh).2 (.inr (.inl hx)),(h.od x hx).2.2.2.2.2⟩
 xd:=⟨fun hh=>(ho _ hh).2 (.inr (.inr (.inl rfl))),fun hh=>(ho _ hh).2 (.inr (.inr (.inr (.inl rfl)))),fun hh=>(ho _ hh).2 (.inr (.inr (.inr (.inr (.inl rfl))))),fun hh=>(ho _ hh).2 (.inr (.inr (.inr (.inr (.inr rfl)))))⟩
 ne:=h.ne
 lt x hx:=(ho x hx).1
structure Mv (tb mb vb sb:Nat) (w:AW) (S So:Fw) (w':AW) (S' So':Fw):Prop where
 f:Frm (DS tb mb vb sb S So) w w'
 s:∀x,S' x→S x∨w.next≤x
 o:∀x,So' x→So x∨w.next≤x
theorem Mv.refl:Mv tb mb vb sb w S So w S So:=⟨Frm.refl _,fun _ h=> .inl h,fun _ h=> .inl h⟩
theorem Mv.trans {w1 w2:AW}{S1 So1 S2 So2:Fw}(h:Mv tb mb vb sb w S So w1 S1 So1)(h':Mv tb mb vb sb w1 S1 So1 w2 S2 So2):Mv tb mb vb sb w S So w2 S2 So2 where
 f:=h.f.trans h'.f (fun _ _ h=>h) fun x hx hd=>by
  rcases hd with hd|hd|hd
  ·rcases h.s x hd with h1|h1
   ·exact .inl h1
   ·omega
  ·rcases h.o x hd with h1|h1
   ·exact .inr (.inl h1)
   ·omega
  ·exact .inr (.inr hd)
 s x hx:=by
  have:=h.f.next;rcases h'.s x hx with h1|h1
  ·exact h.s x h1
  ·right;omega
 o x hx:=by
  have:=h.f.next;rcases h'.o x hx with h1|h1
  ·exact h.o x h1
  ·right;omega
section
variable {O:Nat→Prop} {tb mb vb sb width:Nat} {op tv:V} {w:AW} {S So:Nat→Prop} {M:Vm} {s:JS}
variable {w':AW}
theorem Dyn.step0 (h:Dyn O tb mb vb sb op width w tv S So M s)(g:Frm (fun _=>False) w w'):Dyn O tb mb vb sb op width w' tv S So M s∧Mv tb mb vb sb w S So w' S So:=
 ⟨⟨h.t.step0 g,h.m.frm g fun h=>h,h.n.frm g fun h=>h,h.o.frm g fun _ _ h=>h,h.sd,fun x hx=>by have:=h.od x hx;exact⟨this.1,this.2.1,this.2.2.1,this.2.2.2.1,this.2.2.2.2.1,FK this.2.2.2.2.2 g.next⟩,h.xd,h.ne,fun x hx=>FK (h.lt x hx) g.next⟩,⟨g.no,fun _ h=> .inl h,fun _ h=> .inl h⟩⟩
theorem Dyn.tabl (h:Dyn O tb mb vb sb op width w tv S So M s){tv':V}{S':Fw}{ts:List Tk}(ht:TabW tb mb tv' S' ts w')(g:Frm (fun x=>S x∨x=tb∨x=mb) w w')(hs:∀x,S' x→S x∨w.next≤x): Dyn O tb mb vb sb op width w' tv' S' So M ⟨ts,s.seen,s.rows⟩∧Mv tb mb vb sb w S So w' S' So:=by
 have hvn:=h.m.lt;have hsn:=h.n.lt;refine⟨⟨ht,h.m.frm g ?_,h.n.frm g ?_,h.o.frm g ?_,fun x hx=>?_,fun x hx=>?_,h.xd,h.ne,fun x hx=>FK (h.lt x hx) g.next⟩,⟨g.mono fun x _ hx=>?_,hs,fun _ h=> .inl h⟩⟩
 ·rintro (h1|h1|h1)
  ·exact (h.sd _ h1).1 rfl
  ·exact h.ne.1 h1
  ·exact h.ne.2.1 h1
 ·rintro (h1|h1|h1)
  ·exact (h.sd _ h1).2.1 rfl
  ·exact h.ne.2.2.1 h1
  ·exact h.ne.2.2.2.1 h1
 ·rintro x hx (h1|h1|h1)
  ·exact (h.sd x h1).2.2.1 hx
  ·exact (h.od x hx).1 h1
  ·exact (h.od x hx).2.1 h1
 ·rcases hs x hx with h1|h1
  ·exact h.sd x h1
  ·refine⟨by omega,by omega,fun ho=>?_,fun ho=>?_⟩
   ·have:=(h.od x ho).2.2.2.2.2;omega
   ·have:=h.lt x ho;omega
 ·have:=h.od x hx;exact⟨this.1,this.2.1,this.2.2.1,this.2.2.2.1,this.2.2.2.2.1,FK this.2.2.2.2.2 g.next⟩
 ·rcases hx with h1|h1|h1
  ·exact .inl h1
  ·exact .inr (.inr (.inl h1))
  ·exact .inr (.inr (.inr (.inl h1)))
theorem Dyn.vars (h:Dyn O tb mb vb sb op width w tv S So M s){M':Vm}(hm:SM w' vb M')(g:Frm (fun x=>x=vb) w w'): Dyn O tb mb vb sb op width w' tv S So M' s∧Mv tb mb vb sb w S So w' S So:=by
 refine⟨⟨h.t.step g (fun e=>h.ne.1 e.symm) (fun e=>h.ne.2.1 e.symm) fun x hx e=>(h.sd x hx).1 e,hm,h.n.frm g fun e=>h.ne.2.2.2.2 e,h.o.frm g fun x hx e=>(h.od x hx).2.2.1 e,h.sd,fun x hx=>?_,h.xd,h.ne,fun x hx=>FK (h.lt x hx) g.next⟩,⟨g.mono fun x _ hx=> .inr (.inr (.inr (.inr (.inl hx)))),fun _ h=> .inl h,fun _ h=> .inl h⟩⟩;have:=h.od x hx;exact⟨this.1,this.2.1,this.2.2.1,this.2.2.2.1,this.2.2.2.2.1,FK this.2.2.2.2.2 g.next⟩
theorem Dyn.mark (h:Dyn O tb mb vb sb op width w tv S So M s){N:Vm}(hn:SM w' sb N)(g:Frm (fun x=>x=sb) w w'): Dyn O tb mb vb sb op width w' tv S So M ⟨s.ts,N,s.rows⟩∧Mv tb mb vb sb w S So w' S So:=by
 refine⟨⟨h.t.step g (fun e=>h.ne.2.2.1 e.symm) (fun e=>h.ne.2.2.2.1 e.symm) fun x hx e=>(h.sd x hx).2.1 e,h.m.frm g fun e=>h.ne.2.2.2.2 e.symm,hn,h.o.frm g fun x hx e=>(h.od x hx).2.2.2.1 e,h.sd,fun x hx=>?_,h.xd,h.ne,fun x hx=>FK (h.lt x hx) g.next⟩,⟨g.mono fun x _ hx=> .inr (.inr (.inr (.inr (.inr hx)))),fun _ h=> .inl h,fun _ h=> .inl h⟩⟩;have:=h.od x hx;exact⟨this.1,this.2.1,this.2.2.1,this.2.2.2.1,this.2.2.2.2.1,FK this.2.2.2.2.2 g.next⟩
theorem Dyn.out (h:Dyn O tb mb vb sb op width w tv S So M s){So':Fw}{rows:Fy}(ho:Rel.SetOf So' w' op width rows)(g:Frm So w w')(hg:JaU So So' w w'): Dyn O tb mb vb sb op width w' tv S So' M ⟨s.ts,s.seen,rows⟩∧Mv tb mb vb sb w S So w' S So':=by
 have ht:=h.t.a.lt;have hmb:=h.t.m.lt;have hvn:=h.m.lt;have hsn:=h.n.lt;refine⟨⟨h.t.step g (fun e=>(h.od _ e).1 rfl) (fun e=>(h.od _ e).2.1 rfl) fun x hx e=>(h.sd x hx).2.2.1 e,h.m.frm g fun e=>(h.od _ e).2.2.1 rfl,h.n.frm g fun e=>(h.od _ e).2.2.2.1 rfl,ho,fun x hx=>?_,fun x hx=>?_,h.xd,h.ne,fun x hx=>FK (h.lt x hx) g.next⟩,⟨g.mono fun x _ hx=> .inr (.inl hx),fun _ h=> .inl h,fun x hx=>(hg x hx).2⟩⟩
 ·have h1:=h.sd x hx;refine⟨h1.1,h1.2.1,fun ho=>?_,h1.2.2.2⟩;rcases (hg x ho).2 with h2|h2
  ·exact h1.2.2.1 h2
  ·have:=(h.t.s x hx).1;omega
 ·rcases (hg x hx).2 with h2|h2
  ·have:=h.od x h2;exact⟨this.1,this.2.1,this.2.2.1,this.2.2.2.1,this.2.2.2.2.1,(hg x hx).1⟩
  ·exact⟨by omega,by omega,by omega,by omega,fun ho=>by have:=h.lt x ho;omega,(hg x hx).1⟩
end
end
section
open Go.AE Delphi Val
variable {tab:Tab}
def JeY (tab:Tab) (O:Fw) (w:AW) (sfn:Nat) (sv:V) (sets:List Nat→Option (Nat×List (List Int))):Prop :=
 ∀(R:Fw) (w':AW),Frm R w w'→(∀x,O x→¬R x)→∀(nm:List Nat) (K:V→AW→Prop),(∀w2 p,Frm (fun _=>False) w' w2→SetQ O w2 p (sets nm)→K p w2)→WF tab sfn [sv,.str nm] w' K
variable {w:AW}
theorem SetQ.mono {S S':Fw}{p:V}{q:Option (Nat×List (List Int))}(h:SetQ S w p q)(hs:∀x,S x→S' x)(hl:∀x,S' x→x<w.next):SetQ S' w p q:=by
 cases q with
 | none=>exact h
 | some x =>
  obtain⟨bp,lv,cs,S0,T,e,h⟩:=h;exact⟨bp,lv,cs,S0,T,e,⟨hs _ h.hp,h.lt,h.hx,fun b hb=>⟨hs _ (h.h0 b hb).1,(h.h0 b hb).2⟩,fun b hb=>⟨hs _ (h.hT b hb).1,(h.hT b hb).2⟩,hl,h.hb,h.hv,h.rise,h.wid,h.w4⟩⟩
structure JStat (tab:Tab) (O:Fw) (w:AW) (jb tb sb vb:Nat) (E:JE) (cells:List V) (op sv:V) (a:Int) (dq:Option (Nat×List (List Int))) (sets:List Nat→Option (Nat×List (List Int))) (sty sfn:Nat):Prop where
 cj:CB w jb cells
 oj:O jb
 head:∃xs,HN 3 (cells.drop 0)=some xs∧LtC O w E.head xs
 body:∃xb,HN 1 (cells.drop 3)=some [xb]∧RdL (LtC O) O w xb 3 E.body
 h4:HN 1 (cells.drop 4)=some [.ptr tb 0]
 h5:HN 1 (cells.drop 5)=some [.iface sty sv]
 order:∃ov,HN 1 (cells.drop 6)=some [ov]∧Rd O w ov 1 E.order.length (PZ E.order)
 h8:HN 1 (cells.drop 8)=some [.int .i64 a]
 delta:∃dp,HN 1 (cells.drop 9)=some [dp]∧SetQ O w dp dq
 need:∃nv ncs,HN 1 (cells.drop 10)=some [nv]∧Rd O w nv 1 E.need.length ncs∧∀(k:Nat) l,E.need[k]? = some l→∃sv,ncs[k]? = some sv∧Rd O w sv 1 l.length (H5 l)
 h11:HN 1 (cells.drop 11)=some [.map sb]
 h12:HN 1 (cells.drop 12)=some [.map vb]
 h13:HN 1 (cells.drop 13)=some [op]
 h14:HN 1 (cells.drop 14)=some [.int .i64 E.most]
 store:JeY tab O w sfn sv sets
variable {O:Fw} {jb tb sb vb sty sfn:Nat} {E:JE} {cells:List V} {op sv:V} {a:Int} {dq:Option (Nat×List (List Int))} {sets:List Nat→Option (Nat×List (List Int))}
theorem JStat.frm {R:Fw}{w':AW}(h:JStat tab O w jb tb sb vb E cells op sv a dq sets sty sfn)(g:Frm R w w')(hd:∀x,O x→¬R x):JStat tab O w' jb tb sb vb E cells op sv a dq sets sty sfn where
 cj:=h.cj.frm g (hd _ h.oj)
 oj:=h.oj
 head:=by obtain⟨xs,h1,h2⟩:=h.head;exact⟨xs,h1,h2.frm g hd⟩
 body:=by obtain⟨xs,h1,h2⟩:=h.body;exact⟨xs,h1,h2.frm (fun _ _ h=>h.frm g hd) g hd⟩
 h4:=h.h4
 h5:=h.h5
 order:=by obtain⟨ov,h1,h2⟩:=h.order;exact⟨ov,h1,h2.frm g hd⟩
 h8:=h.h8
 delta:=by obtain⟨dp,h1,h2⟩:=h.delta;exact⟨dp,h1,h2.frm g hd⟩
 need:=by obtain⟨nv,ncs,h1,h2,h3⟩:=h.need;exact⟨nv,ncs,h1,h2.frm g hd,fun k l hl=>by obtain⟨sv,h4,h5⟩:=h3 k l hl;exact⟨sv,h4,h5.frm g hd⟩⟩
 h11:=h.h11
 h12:=h.h12
 h13:=h.h13
 h14:=h.h14
 store R' w2 g' hd':=h.store (fun x=>R x∨R' x) w2 (g.trans g' (fun _ _ h=> .inl h) fun _ _ h=> .inr h) fun x hx hh=>hh.elim (hd x hx) (hd' x hx)
theorem JStat.mono {O':Fw}(h:JStat tab O w jb tb sb vb E cells op sv a dq sets sty sfn)(ho:∀x,O x→O' x)(hl:∀x,O' x→x<w.next):JStat tab O' w jb tb sb vb E cells op sv a dq sets sty sfn where
 cj:=h.cj
 oj:=ho _ h.oj
 head:=by obtain⟨xs,h1,h2⟩:=h.head;exact⟨xs,h1,h2.mono ho⟩
 body:=by obtain⟨xs,h1,h2⟩:=h.body;exact⟨xs,h1,Jcd h2 ho⟩
 h4:=h.h4
 h5:=h.h5
 order:=by obtain⟨ov,h1,h2⟩:=h.order;exact⟨ov,h1,h2.mono ho⟩
 h8:=h.h8
 delta:=by obtain⟨dp,h1,h2⟩:=h.delta;exact⟨dp,h1,h2.mono ho hl⟩
 need:=by obtain⟨nv,ncs,h1,h2,h3⟩:=h.need;exact⟨nv,ncs,h1,h2.mono ho,fun k l hl=>by obtain⟨sv,h4,h5⟩:=h3 k l hl;exact⟨sv,h4,h5.mono ho⟩⟩
 h11:=h.h11
 h12:=h.h12
 h13:=h.h13
 h14:=h.h14
 store R' w2 g' hd' nm K hK:=h.store R' w2 g' (fun x hx=>hd' x (ho x hx)) nm K fun w3 p g3 hq=>hK w3 p g3 (hq.mono ho fun x hx=>FK (hl x hx) (Kj g'.next g3.next))
structure JPure (E:JE) (a:Int) (dq:Option (Nat×List (List Int))) (sets:List Nat→Option (Nat×List (List Int))) (ts0 cs:List Tk):Prop where
 st:∀i,i<E.body.length→E.sets i=(if Int.ofNat i=a then dq else sets (H4 E.body i).name)
 w4:∀nm x,sets nm=some x→x.1≤4
 rl:∀i x,E.sets i=some x→x.2.length≤1000000∧∀r∈x.2,r.length=x.1∧∀n∈r,n.natAbs≤100000
 olt:∀i∈E.order,i<E.body.length
 ol:E.order.length≤100
 nl:E.need.length=E.order.length+1
 nn:∀l∈E.need,l.length≤100
 hal:E.head.args.length≤10
 bal:∀l∈E.body,l.args.length≤10
 bk:∀l∈E.body,l.kind≠1→l.kind≠2→3≤l.kind∧l.kind≤6∧l.args.length=2
 bl:E.body.length≤100
 hc:∀t∈E.head.args,t.kind≠1→TkOk (H2 t)∧H2 t∈cs
 bc:∀l∈E.body,∀t∈l.args,t.kind≠1→TkOk (H2 t)∧H2 t∈cs
 tsl:ts0.length+cs.length≤80000
def MOk (M:Vm):Prop:=∀v,(Pb M v).natAbs≤100000
theorem MOk.put {M:Vm}(h:MOk M)(k:List Nat){n:Int}(hn:n.natAbs≤100000):MOk (Pj M k n):=by
 intro v;by_cases hv:v=k
 ·subst hv;unfold Pb;rw[HT];exact hn
 ·unfold Pb;rw[Pi _ _ _ _ hv];exact h v
theorem MOk.bind:∀(ts:List Tm) (ns:List Int) {M:Vm} (l2:Fx),MOk M→(∀n∈ns,n.natAbs≤100000)→MOk (Pd ts ns M l2).1.1
 | [],ns,M,l2,h,_=>by simpa[Pd]using h
 | _::_,[],M,l2,h,_=>by simpa[Pd]using h
 | t::ts,n::ns,M,l2,h,hn=>by
  have hn':∀m∈ns,m.natAbs≤100000:=fun m hm=>hn m (FO _ hm);unfold Pd;split
  ·exact MOk.bind ts ns l2 h hn'
  cases HE M t.name with
  | some k =>
   simp only;split
   ·exact MOk.bind ts ns l2 h hn'
   ·exact h
  | none=>exact MOk.bind ts ns _ (h.put _ (hn n Fj)) hn'
abbrev FrK (K:V→AW→Prop):Fr→AW→Prop:=fun fr' aw'=>∃vs,PV fr' aw' Jh.results=some vs∧K (Ph vs) aw'
theorem Jh1 (C:Codes tab)(I:Jda tab){mb k:Nat}{tv:V}{ts0 cs:List Tk}{S So:Fw}{M:Vm}{s:JS}{K:V→AW→Prop}(hp:JPure E a dq sets ts0 cs)(hs:JStat tab O w jb tb sb vb E cells op sv a dq sets sty sfn)(hD:Dyn O tb mb vb sb op E.head.args.length w tv S So M s)(hk:k≤E.order.length)(hM:MOk M)(h1:Jed E k M s=true→K (.tuple []) w)(h2:Jed E k M s=false→∀f w',f.get 0=some (.ptr jb 0)→f.get 1=some (.int .i64 (Int.ofNat k))→Dyn O tb mb vb sb op E.head.args.length w' tv S So M (Jdf E k M s)→Mv tb mb vb sb w S So w' S So→WS tab [.code Zl] f w' (FrK K)): WF tab J8 [.ptr jb 0,.int .i64 (Int.ofNat k)] w K:=by
 refine HL C.Xa rfl ?_;obtain⟨nv,ncs,h10,hnr,hns⟩:=hs.need;have hkl:k<E.need.length:=by rw[hp.nl];omega
 obtain⟨l,hl⟩:∃l,E.need[k]? = some l:=⟨_,FB hkl⟩;have hla:Jio E k=l:=by unfold Jio;rw[List.getD_eq_getElem?_getD,hl];rfl
 have hll:=hp.nn l (FI hl);have hol:=hp.ol;have hke:Jgs E k M=Jcc M k l:=by unfold Jgs;rw[hla]
 refine Fz (by simp only[go_sem,HA,simprocAttr,Jh];rfl) ?_;refine HD Ff Fe ?_;refine Jpy (O:=O) C I hs.cj h10 hs.h12 hD.m hM hnr hkl (hns k l hl) hll ?_ Fh;have j11:w.load jb 11 1=some [.map sb]:=CB.ld hs.cj 11 1 _ hs.h11;have look:=hD.n.look Px (.int .i64 0) (Jcc M k l)
 have hlk:w.lookV (.scalar .str) (.int .i64 0) (.map sb) (.str (Jcc M k l))=some (.int .i64 (Pb s.seen (Jcc M k l)),(HE s.seen (Jcc M k l)).isSome):=by
  rw[look];unfold Pb;cases HE s.seen (Jcc M k l)<;>rfl
 have hsj:Jed E k M s=(decide (0<Pb s.seen (Jcc M k l))||JcH E.most s.rows.length):=by unfold Jed;rw[hke]
 have hmk:Jdf E k M s=⟨s.ts,Pj s.seen (Jcc M k l) 1,s.rows⟩:=by unfold Jdf;rw[hke]
 rw[hsj]at h1 h2;rw[hmk]at h2;generalize Jcc M k l=ky at hlk h1 h2;by_cases hg:Pb s.seen ky>0
 ·rw[decide_eq_true (p:=0<Pb s.seen ky) hg,Bool.true_or]at h1;refine Fz (by simp only[go_sem,HA,simprocAttr,Vi,j11,hlk,hg];rfl) ?_;refine HC ⟨_,by simp only[go_sem,HA,simprocAttr,Jh];rfl,?_⟩;exact h1 rfl
 ·rw[decide_eq_false (p:=0<Pb s.seen ky) hg,Bool.false_or]at h1 h2;refine Fz (by simp only[go_sem,HA,simprocAttr,Vi,j11,hlk,hg];rfl) ?_;refine HD Ff Fe ?_;refine Joq C hs.cj hs.h13 hs.h14 hD.o ?_;cases hd:JcH E.most s.rows.length with
  | true =>
   refine HB 1000 Fe ?_;refine HC ⟨_,by simp only[go_sem,HA,simprocAttr,Jh];rfl,?_⟩;exact h1 hd
  | false =>
   obtain⟨w2,p1,p2,p3,p4⟩:=hD.n.put Px ky 1;refine HF 11 (by simp only[go_sem,HA,simprocAttr,Gn,j11,p1];rfl) ?_;obtain⟨q1,q2⟩:=hD.mark p2 p3;exact h2 hd _ _ Fb Fb q1 q2
end
section
open Go.AE Delphi Val
variable {tab:Tab}
def JdJ (tab:Tab):Prop:=∀args aw v aw',Jbd 24 args aw=some (v,aw')→tab.prim J9 args aw v aw'
variable {vb:Nat} {w:AW} {M:Vm}
theorem Dyn.rowO {O:Fw}{tb mb sb width:Nat}{op tv:V}{S So:Fw}{s:JS}(h:Dyn O tb mb vb sb op width w tv S So M s):∀x,O x∨x=vb→x<w.next∧¬S x∧x≠tb∧x≠mb:=by
 rintro x (hx|rfl)
 ·have hd:=h.dis x hx;exact⟨h.lt x hx,fun hh=>hd (.inl hh),fun hh=>hd (.inr (.inr (.inl hh))),fun hh=>hd (.inr (.inr (.inr (.inl hh))))⟩
 ·exact⟨h.m.lt,fun hh=>(h.sd _ hh).1 rfl,h.ne.1,h.ne.2.1⟩
variable {cells:List V}
theorem JlK (C:Codes tab)(P:JdJ tab){E:JE}{jb tb mb sb k:Nat}{op sv tv:V}{a:Int}{dq:Option (Nat×List (List Int))}{sets:List Nat→Option (Nat×List (List Int))}{sty sfn:Nat}{ts0 cs:List Tk}{O S So:Fw}{s:JS}{f:Fr}{K:V→AW→Prop}(hp:JPure E a dq sets ts0 cs)(hs:JStat tab O w jb tb sb vb E cells op sv a dq sets sty sfn)(hD:Dyn O tb mb vb sb op E.head.args.length w tv S So M s)(hk:k=E.order.length)(hts:TsIn ts0 cs s.ts)(hrl:(JcL E M s).rows.length≤1000000)(f0:f.get 0=some (.ptr jb 0))(f1:f.get 1=some (.int .i64 (Int.ofNat k)))(h:∀w' tv' S' So',Dyn O tb mb vb sb op E.head.args.length w' tv' S' So' M (JcL E M s)→Mv tb mb vb sb w S So w' S' So'→K (.tuple []) w'):WS tab [.code Zl] f w (FrK K):=by
 obtain⟨ov,h6,ho⟩:=hs.order;obtain⟨xs,h0,hx⟩:=hs.head;have j6:w.load jb 6 1=some [ov]:=CB.ld hs.cj 6 1 _ h6;have j13:w.load jb 13 1=some [op]:=CB.ld hs.cj 13 1 _ hs.h13;have j0:w.load jb 0 3=some xs:=CB.ld hs.cj 0 3 _ h0;have hov:=ho.lenV;subst hk;refine Fz (by simp only[go_sem,HA,simprocAttr,Zl,Gp,f0,f1,j6,hov];rfl) ?_;refine Pp ?_;refine H0 100 (by simp only[go_sem,HA,simprocAttr,f0,j13,j0];rfl) ?_;refine PD Ff Fe ?_;have htl:=hts.len;have htb:=hp.tsl;have hal:=hp.hal;refine JiF (O:=fun x=>O x∨x=vb) C hD.t hD.rowO hs.cj (.inl hs.oj) hs.h4 hs.h12 hD.m (.inr rfl) (hx.mono fun _ h=> .inl h) hal (fun t ht hk=>(hp.hc t ht hk).1) Fh fun w1 v1 tv1 S1 R1 q1 q2 q3 q4 q5=>?_;obtain⟨d1,m1⟩:=hD.tabl q2 q3 q4;have j13':w1.load jb 13 1=some [op]:=CB.ld (hs.cj.frm m1.f (hD.dis _ hs.oj)) 13 1 _ hs.h13;have hrw:=(Jcg M s.ts E.head.args).1;have hadd:=JhC s.rows (HZ M s.ts E.head.args).1;have hrl':(Jbi s.rows (HZ M s.ts E.head.args).1).length≤1000000:=hrl;refine H0 100 Fe ?_;refine PD Ff Fe ?_;refine Rel.add_ok C P d1.o q1 (by show s.rows.length≤1000000;omega) Fh (fun hn=>?_) fun hw hn w2 So2 g1 g2 g3=>?_
 ·have e:JcL E M s=⟨(HZ M s.ts E.head.args).2,s.seen,s.rows⟩:=by
   unfold JcL Jbi;rw[if_pos];exact Classical.byContradiction fun hc=>hn ⟨hrw,hc⟩
  rw[e]at h;refine H0 100 Fe ?_;refine Pr ⟨(show HW _ _ [(3,10)]from by simp only[go_sem,HA,simprocAttr,HW,chk,List.reverse_cons,List.reverse_nil,Pk,Pv,Pt,Pu,List.getElem?_nil,false_or,or_true,or_false,exists_eq',FP,Prod.mk.injEq,Bool.true_eq_false,FM,and_true,true_and,implies_true,j13,j13']),?_⟩;refine HB 1000 Fe ?_;refine HC ⟨_,by simp only[go_sem,HA,simprocAttr,Jh];rfl,?_⟩;exact h _ _ _ _ d1 m1
 ·have e:JcL E M s=⟨(HZ M s.ts E.head.args).2,s.seen,Rel.insR s.rows (HZ M s.ts E.head.args).1⟩:=by
   unfold JcL Jbi;rw[if_neg hn]
  rw[e]at h;obtain⟨d2,m2⟩:=d1.out g1 g2 g3;refine H0 100 Fe ?_;refine Pr ⟨(show HW _ _ [(3,10)]from by simp only[go_sem,HA,simprocAttr,HW,chk,List.reverse_cons,List.reverse_nil,Pk,Pv,Pt,Pu,List.getElem?_nil,false_or,or_true,or_false,exists_eq',FP,Prod.mk.injEq,Bool.true_eq_false,FM,and_true,true_and,implies_true,j13,j13']),?_⟩;refine HB 1000 Fe ?_;refine HC ⟨_,by simp only[go_sem,HA,simprocAttr,Jh];rfl,?_⟩;exact h _ _ _ _ d2 (m1.trans m2)
theorem Jni (C:Codes tab){jb:Nat}{Y:Vm}{lv:V}{R:Fw}{f:Fr}{st:List SI}{Q:Fr→AW→Prop}(hj:CB w jb cells)(hjv:jb≠vb)(h12:HN 1 (cells.drop 12)=some [.map vb])(hM:SM w vb (M++Y))(hY:∀v∈Y.map Prod.fst,HE M v=none)(hl:Rd R w lv 1 Y.length (H5 (Y.map Prod.fst)))(hR:∀x,R x→x≠vb)(hYl:Y.length≤1000)(f0:f.get 0=some (.ptr jb 0))(f116:f.get 116=some lv)(f117:f.get 117=some (.int .i64 (Int.ofNat Y.length)))(f118:f.get 118=some (.int .i64 (Int.ofNat 0)))(h:∀f' w',f'.get 0=f.get 0→f'.get 1=f.get 1→f'.get 6=f.get 6→f'.get 98=f.get 98→f'.get 99=f.get 99→f'.get 100=f.get 100→SM w' vb M→Frm (fun x=>x=vb) w w'→WS tab st f' w' Q):WS tab (.code (.loop ZQ) :: .endB 3::st) f w Q:=by
 refine H7 (fun n f' w'=>∃i,f'.get 0=f.get 0∧f'.get 1=f.get 1∧f'.get 6=f.get 6∧f'.get 98=f.get 98∧f'.get 99=f.get 99∧f'.get 100=f.get 100∧f'.get 116=some lv∧f'.get 117=some (.int .i64 (Int.ofNat Y.length))∧f'.get 118=some (.int .i64 (Int.ofNat i))∧SM w' vb (M++Y.drop i)∧Frm (fun x=>x=vb) w w'∧i≤Y.length∧n=Y.length-i)
  (fun f' w'=>f'.get 0=f.get 0∧f'.get 1=f.get 1∧f'.get 6=f.get 6∧f'.get 98=f.get 98∧f'.get 99=f.get 99∧f'.get 100=f.get 100∧SM w' vb M∧Frm (fun x=>x=vb) w w') ?_ ?_ Y.length ⟨0,rfl,rfl,rfl,rfl,rfl,rfl,f116,f117,f118,hM,Frm.refl _,Nat.zero_le _,rfl⟩
 ·rintro n f' w' ⟨i,g0,g1,g6,g98,g99,g100,g116,g117,g118,hMw,g,hi,rfl⟩ ih out;by_cases hil:i<Y.length
  case neg =>
   obtain rfl:i=Y.length:=Fh;rw[List.drop_length,Kb]at hMw;refine HF 1000 (by simp only[go_sem,simprocAttr,ZQ,g117,g118,hil];rfl) ?_;exact out _ _ _ ⟨(Fg g0),(Fg g1),(Fg g6),(Fg g98),(Fg g99),(Fg g100),hMw,g⟩ rfl
  obtain⟨⟨v,n⟩,hy⟩:∃p,Y[i]? = some p:=⟨_,FB hil⟩;have hdr:Y.drop i=(v,n)::Y.drop (i+1):=by rw[FL hil];rw[FB hil]at hy;rw[FX hy]
  rw[hdr]at hMw;have hv:=hY v (List.mem_map.2 ⟨_,FI hy,rfl⟩);have hag:HE (M++(v,n)::Y.drop (i+1)) v=some n:=by rw[Jej hv];simp[HE]
  obtain⟨es,ck,j,m,e1,e2,hM2,g2⟩:=JpA Px hMw hag;rw[JmQ _ hv]at hM2;have hlw:=hl.frm g hR;rcases hlw.inv with⟨_,h0,_⟩|⟨b,o,c,rfl,hB⟩
  ·omega
  have ln:w'.load b (o+i*1) 1=some [.str v]:=by
   rw[Kz];exact hB.cell Fh (by unfold H5;rw[F6,F6,hy];rfl)
  have j12:w'.load jb 12 1=some [.map vb]:=CB.ld (hj.frm g hjv) 12 1 _ h12;have hwr:IntKind.wrap .i64 (Int.ofNat i+1)=Int.ofNat (i+1):=HJ Fh;have hko:JbF (.scalar .str) (.str v)=true:=rfl;rw[f0]at g0;refine Fz (by simp only[go_sem,HA,simprocAttr,ZQ,Gs,Gr,g0,g116,g117,g118,hil,ln,j12,hko,e1,e2,hwr];rfl) ?_;refine ih _ _ _ Fh ⟨i+1,by rw[f0];exact (Fg g0),(Fg g1),(Fg g6),(Fg g98),(Fg g99),(Fg g100),(Fg g116),(Fg g117),Fb,hM2,g.tr g2,by omega,rfl⟩
 ·rintro f' w' ⟨g0,g1,g6,g98,g99,g100,hMw,g⟩;exact h f' w' g0 g1 g6 g98 g99 g100 hMw g
set_option maxRecDepth 100000
end
section
open Go.AE Go.RowKit Delphi
theorem codesS:Codes (JiL Tryd.prog):=Jon rfl
theorem Jnh (n:Int)(aw:AW)(h1 : -9223372036854775808≤n)(h2:n≤9223372036854775807):CallR (JiL Tryd.prog) Uq [.int .i64 n,.int .i64 10] aw (.str (JaV n)) aw:=.prim (by
 show Jdv [.int .i64 n,.int .i64 10] aw=some (.str (JaV n),aw);simp only[Jdv];rw[if_pos ⟨h1,h2⟩])
theorem Jpw:Jda (JiL Tryd.prog):=fun n aw h1 h2=>by
 have h:WF (JiL Tryd.prog) Yk [.int .i64 n] aw fun v w=>v = .str (JaV n)∧w=aw:=by
  refine HL codesS.XZ rfl ?_;refine Fz (by simp only[go_sem,HA,simprocAttr,XY];rfl) ?_;refine HD Ff Fe ?_;refine HL codesS.X9 rfl ?_;refine Fz (by simp only[go_sem,HA,simprocAttr,X8];rfl) ?_;refine HD Ff Fe ?_;refine⟨_,_,Jnh n aw h1 h2,?_⟩;refine HB 1000 Fe ?_;refine HC ⟨_,by simp only[go_sem,HA,simprocAttr,X8];rfl,?_⟩;refine HB 1000 Fe ?_;refine HC ⟨_,by simp only[go_sem,HA,simprocAttr,XY];rfl,?_⟩;exact⟨rfl,rfl⟩
 obtain⟨_,_,h,rfl,rfl⟩:=h;exact h
theorem Jqi:JdJ (JiL Tryd.prog):=fun args aw v aw' h=>h
end
section
open Go.AE Delphi Val
variable {tab:Tab}
def Jhv (tab:Tab) (E:JE) (jb tb mb vb sb:Nat) (cells:List V) (op sv:V) (a:Int) (dq:Option (Nat×List (List Int))) (sets:List Nat→Option (Nat×List (List Int))) (sty sfn:Nat) (ts0 cs:List Tk) (k:Nat) (rec:Vm→JS→JS):Prop :=
 ∀{O S So:Fw} {w:AW} {tv:V} {M:Vm} {s:JS} {K:V→AW→Prop},JStat tab O w jb tb sb vb E cells op sv a dq sets sty sfn→Dyn O tb mb vb sb op E.head.args.length w tv S So M s→MOk M→TsIn ts0 cs s.ts→(rec M s).rows.length≤1000000→
  (∀w' tv' S' So',Dyn O tb mb vb sb op E.head.args.length w' tv' S' So' M (rec M s)→Mv tb mb vb sb w S So w' S' So'→K (.tuple []) w')→WF tab J8 [.ptr jb 0,.int .i64 (Int.ofNat k)] w K
variable {rec:Vm→JS→JS} {l:Lt} {M:Vm} {rows:Fy}
theorem JkW {i:Nat}{r:List Int}(h:rows[i]? = some r)(s:JS):PF rec l M (rows.take (i+1)) s=if (Pd l.args r M []).2=true then rec (Pd l.args r M []).1.1 (PF rec l M (rows.take i) s)else PF rec l M (rows.take i) s:=by
 unfold PF;rw[PK h,List.foldl_append];rfl
theorem JkV (hm:JdK rec)(i:Nat)(s:JS):(PF rec l M (rows.take i) s).rows.length≤(PF rec l M rows s).rows.length:=by
 have:PF rec l M rows s=PF rec l M (rows.drop i) (PF rec l M (rows.take i) s):=by
  unfold PF;rw[←List.foldl_append,List.take_append_drop]
 rw[this];exact Jd8 hm l M _ _
def TsJ (ts0 cs:List Tk) (rec:Vm→JS→JS):Prop:=∀M s,TsIn ts0 cs s.ts→TsIn ts0 cs (rec M s).ts
theorem JfF {rec:Vm→JS→JS}{ts0 cs:List Tk}(h:TsJ ts0 cs rec)(l:Lt)(M:Vm):∀(rows:Fy) (s:JS),TsIn ts0 cs s.ts→TsIn ts0 cs (PF rec l M rows s).ts
 | [],s,hs=>hs
 | r::rows,s,hs=>by
  unfold PF;rw[Kr];refine JfF h l M rows _ ?_;split
  ·exact h _ _ hs
  ·exact hs
theorem JlL (C:Codes tab){E:JE}{jb tb mb vb sb k:Nat}{cells:List V}{op sv tv:V}{a:Int}{dq:Option (Nat×List (List Int))}{sets:List Nat→Option (Nat×List (List Int))}{sty sfn:Nat}{ts0 cs:List Tk}{O S So:Fw}{w:AW}{s:JS}{f:Fr}{K:V→AW→Prop}{lb:Nat}{xs rcs:List V}{rv:V}{S1 T1:Fw}{N:Nat}{st:List SI}(hp:JPure E a dq sets ts0 cs)(hs:JStat tab O w jb tb sb vb E cells op sv a dq sets sty sfn)(hD:Dyn O tb mb vb sb op E.head.args.length w tv S So M s)(hrec:Jhv tab E jb tb mb vb sb cells op sv a dq sets sty sfn ts0 cs (k+1) rec)(hmono:JdK rec)(htj:TsJ ts0 cs rec)(hk:k≤1000)(hM:MOk M)(hts:TsIn ts0 cs s.ts)(hal:l.args.length≤10)(hrw:∀r∈rows,r.length=l.args.length∧∀n∈r,n.natAbs≤100000)(hrn:rows.length≤1000000)(hrl:(PF rec l M rows s).rows.length≤1000000)(hx:LtC O w l xs)(hlb:CB w lb xs)(hlbo:O lb)(hL:Rel.ListOf N w rv rows rcs S1 T1)(hSO:∀x,S1 x→O x)(hTO:∀x,T1 x→O x)(f0:f.get 0=some (.ptr jb 0))(f1:f.get 1=some (.int .i64 (Int.ofNat k)))(f6:f.get 6=some (.ptr lb 0))(f98:f.get 98=some rv)(f99:f.get 99=some (.int .i64 (Int.ofNat rows.length)))(f100:f.get 100=some (.int .i64 (Int.ofNat 0)))(h:∀f' w' tv' S' So',Dyn O tb mb vb sb op E.head.args.length w' tv' S' So' M (PF rec l M rows s)→Mv tb mb vb sb w S So w' S' So'→WS tab st f' w' (FrK K)):WS tab (.code (.loop ZR) :: .endB 1::st) f w (FrK K):=by
 refine H7 (fun n f w1=>∃i tv1 S2 So2,f.get 0=some (.ptr jb 0)∧f.get 1=some (.int .i64 (Int.ofNat k))∧f.get 6=some (.ptr lb 0)∧f.get 98=some rv∧f.get 99=some (.int .i64 (Int.ofNat rows.length))∧f.get 100=some (.int .i64 (Int.ofNat i))∧Dyn O tb mb vb sb op E.head.args.length w1 tv1 S2 So2 M (PF rec l M (rows.take i) s)∧Mv tb mb vb sb w S So w1 S2 So2∧i≤rows.length∧n=rows.length-i)
  (fun f w1=>∃tv1 S2 So2,Dyn O tb mb vb sb op E.head.args.length w1 tv1 S2 So2 M (PF rec l M rows s)∧Mv tb mb vb sb w S So w1 S2 So2) ?_ ?_ rows.length ⟨0,tv,S,So,f0,f1,f6,f98,f99,f100,hD,Mv.refl,Nat.zero_le _,rfl⟩
 ·rintro n f w1 ⟨i,tv1,S2,So2,f0,f1,f6,f98,f99,f100,hD1,m1,hi,rfl⟩ ih out;by_cases hil:i<rows.length
  case neg =>
   obtain rfl:i=rows.length:=Fh;rw[List.take_length]at hD1;refine HF 1000 (by simp only[go_sem,simprocAttr,ZR,f99,f100,hil];rfl) ?_;exact out _ _ _ ⟨tv1,S2,So2,hD1,m1⟩ rfl
  obtain⟨r,hr⟩:∃r,rows[i]? = some r:=⟨_,FB hil⟩;have hrm:=hrw r (FI hr);have hOD:=hD.dis;have hs1:=hs.frm m1.f hOD;have hx1:=hx.frm m1.f hOD;have hlb1:=hlb.frm m1.f (hOD _ hlbo);obtain⟨L1,L2,L3,L4⟩:=hL;have hB1:=L1.frm m1.f fun x hx=>hOD _ (hSO x hx);have hR1:=L2.frm m1.f fun x hx=>hOD _ (hTO x hx);obtain⟨v,hv,hrv⟩:=hR1.at hr;have hxl:=hx.one;have lx:w1.load lb 0 3=some xs:=hlb1.all hxl.1;rcases hB1.rd.inv with⟨_,h0,_⟩|⟨b,o,c,hve,hB⟩
  ·omega
  have ln:w1.load b (o+i*1) 1=some [v]:=by rw[Kz];exact hB.cell Fh hv
  have f98':=f98;rw[hve]at f98';have hvb:=hD1.m.lt;have hbl:Pd l.args r M []=(((Pd l.args r M []).1.1,(Pd l.args r M []).1.2),(Pd l.args r M []).2):=rfl;obtain⟨Y,hY1,hY2,hY3⟩:=JiW l.args r M;have hMb:=MOk.bind l.args r (M:=M) [] hM hrm.2;have hpart:=JkV hmono (l:=l) (M:=M) (rows:=rows) (i+1) s;have htk:=JkW (rec:=rec) (l:=l) (M:=M) hr s;have htsi:=JfF htj l M (rows.take i) s hts;refine Fz (by simp only[go_sem,HA,simprocAttr,ZR,Gu,Gt,f0,f1,f6,f98',f99,f100,hil,ln,lx];rfl) ?_;refine HD Ff Fe ?_;have hjv:jb≠vb:=fun e=>hOD _ hs.oj (.inr (.inr (.inr (.inr (.inl e)))));refine Joh C (O:=O) hs1.cj hjv hs1.h12 hD1.m hx1 (fun x hx e=>hOD _ hx (.inr (.inr (.inr (.inr (.inl e)))))) hrv (fun x hx e=>hOD _ (hTO x hx) (.inr (.inr (.inr (.inr (.inl e)))))) hal hrm.1 fun w2 bv Sb M' l2 ok hb1 hb2 hb3 hb4 hb5=>?_;have hY1':=hY1;rw[hb1]at hY1' htk hMb
  obtain⟨rfl,rfl⟩:M'=M++Y∧l2=Y.map Prod.fst:=by
   have:=hY1';simp only[Prod.mk.injEq]at this;exact this
  simp only[]at htk hMb;obtain⟨d2,m2⟩:=hD1.vars hb2 hb4
  have hYl:Y.length≤10:=by
   have:(Y.map Prod.fst).length≤l.args.length:=by
    have hg:∀(ts:List Tm) (ns:List Int) (M:Vm) (l2:Fx),(Pd ts ns M l2).1.2.length≤l2.length+ts.length:=by
     intro ts;induction ts with
     | nil=>intro ns M l2;simp[Pd]
     | cons t ts ih =>
      intro ns M l2;cases ns with
      | nil=>simp[Pd]
      | cons n ns =>
       unfold Pd;have:=ih ns M l2;have h2:=ih ns (Pj M t.name n) (l2++[t.name]);rw[FE,Ka]at h2;split
       ·simp only[FC];omega
       cases HE M t.name with
       | none=>simp only[FC];omega
       | some k =>
        simp only;split
        ·simp only[FC];omega
        ·simp only[FC];omega
    have:=hg l.args r M [];rw[hb1]at this;simpa using this
   rw[F7]at this;omega
  have hlv:=hb3.lenV;have hYm:(Y.map Prod.fst).length=Y.length:=F7 ..;rw[hYm]at hlv hb3;have hwr:IntKind.wrap .i64 (Int.ofNat i+1)=Int.ofNat (i+1):=HJ Fh;have hwk:IntKind.wrap .i64 (Int.ofNat k+1)=Int.ofNat (k+1):=HJ Fh
  have rest:∀(fr:Fr) (w3:AW) (tv3:V) (S3 So3:Fw) (s3:JS),fr.get 0=some (.ptr jb 0)→fr.get 1=some (.int .i64 (Int.ofNat k))→fr.get 6=some (.ptr lb 0)→fr.get 98=some (.slice b o rows.length c)→fr.get 99=some (.int .i64 (Int.ofNat rows.length))→fr.get 100=some (.int .i64 (Int.ofNat i))→fr.get 116=some bv→fr.get 117=some (.int .i64 (Int.ofNat Y.length))→fr.get 118=some (.int .i64 (Int.ofNat 0))→Dyn O tb mb vb sb op E.head.args.length w3 tv3 S3 So3 (M++Y) s3→Mv tb mb vb sb w2 S2 So2 w3 S3 So3→Rd Sb w3 bv 1 Y.length (H5 (Y.map Prod.fst))→s3=PF rec l M (rows.take (i+1)) s→WS tab (.code (.loop ZQ) :: .endB 3 :: .endB 2 :: .code (.region [⟨some 128,none,.bin .add (.tmp 100) (.const (.int .i64 1))⟩,⟨some 100,none,.mov (.tmp 128)⟩]) :: .code (.loop ZR) :: .endB 1::st) fr w3 (FrK K):=by
   intro fr w3 tv3 S3 So3 s3 g0 g1 g6 g98 g99 g100 g116 g117 g118 d3 m3 hbr hs3;have hs3':=hs1.frm (m2.trans m3).f (hD1.dis);refine Jni C hs3'.cj hjv hs3'.h12 d3.m hY2 hbr (fun x hx e=>by have:=(hb5 x hx).1;omega) Fh g0 g116 g117 g118 fun f4 w4 k0 k1 k6 k98 k99 k100 hM4 g4=>?_;rw[g0]at k0;rw[g1]at k1;rw[g6]at k6;rw[g98]at k98;rw[g99]at k99;rw[g100]at k100;obtain⟨d4,m4⟩:=d3.vars hM4 g4;rw[hs3]at d4;refine HF 5 (by simp only[go_sem,HA,simprocAttr,k100,hwr];rfl) ?_;exact ih _ _ _ Fh ⟨i+1,tv3,S3,So3,(by simp only[go_sem,HA,simprocAttr,k0]<;>rfl),(by simp only[go_sem,HA,simprocAttr,k1]<;>rfl),(by simp only[go_sem,HA,simprocAttr,k6]<;>rfl),by rw[hve];exact (by simp only[go_sem,HA,simprocAttr,k98]<;>rfl),(by simp only[go_sem,HA,simprocAttr,k99]<;>rfl),Fb,d4,((m1.trans m2).trans m3).trans m4,by omega,rfl⟩
  cases ok with
  | false =>
   have htk':PF rec l M (rows.take (i+1)) s=PF rec l M (rows.take i) s:=by rw[htk];rfl
   refine Fz (by simp only[go_sem,HA,simprocAttr,Vj,hlv];rfl) ?_;exact rest _ _ tv1 S2 So2 _ (Fg f0) (Fg f1) (Fg f6) (by simp only[go_sem,HA,simprocAttr,f98']<;>rfl) (Fg f99) (Fg f100) Fb Fb Fb d2 Mv.refl hb3.rd htk'.symm
  | true =>
   have htk':PF rec l M (rows.take (i+1)) s=rec (M++Y) (PF rec l M (rows.take i) s):=by rw[htk];rfl
   refine Fz (by simp only[go_sem,HA,simprocAttr,Vj,Gq,f0,f1,hwk];rfl) ?_;refine HD Ff Fe ?_
   have hO2:∀x,(O x∨Sb x)→x<w2.next∧¬DS tb mb vb sb S2 So2 x:=by
    rintro x (hx|hx)
    ·exact⟨d2.lt x hx,d2.dis x hx⟩
    ·obtain⟨q1,q2⟩:=hb5 x hx;refine⟨q2,?_⟩;rintro (hh|hh|hh|hh|hh|hh)
     ·have:=(hD1.t.s x hh).1;omega
     ·have:=(hD1.od x hh).2.2.2.2.2;omega
     ·have:=hD1.t.a.lt;omega
     ·have:=hD1.t.m.lt;omega
     ·omega
     ·have:=hD1.n.lt;omega
   refine hrec (O:=fun x=>O x∨Sb x) ((hs1.frm m2.f hD1.dis).mono (fun _ h=> .inl h) fun x hx=>(hO2 x hx).1) (d2.mono hO2) hMb htsi (by rw[←htk'];omega) fun w3 tv3 S3 So3 d3 m3=>?_;have d3':Dyn O tb mb vb sb op E.head.args.length w3 tv3 S3 So3 (M++Y) (rec (M++Y) (PF rec l M (rows.take i) s)):=d3.mono fun x hx=>⟨d3.lt x (.inl hx),d3.dis x (.inl hx)⟩;refine Fz (by simp only[go_sem,HA,simprocAttr,hlv];rfl) ?_;exact rest _ _ tv3 S3 So3 _ (Fg f0) (Fg f1) (Fg f6) (by simp only[go_sem,HA,simprocAttr,f98']<;>rfl) (Fg f99) (Fg f100) Fb Fb Fb d3' m3 (hb3.rd.frm m3.f fun x hx=>(hO2 x (.inr hx)).2) htk'.symm
 ·rintro f w1 ⟨tv1,S2,So2,hD1,m1⟩;exact h f w1 tv1 S2 So2 hD1 m1
end
section
open Go.AE Delphi Val
variable {tab:Tab}
variable {E:JE} {ts0 cs:List Tk}
theorem Jnu (hc:∀t∈E.head.args,t.kind≠1→H2 t∈cs):TsJ ts0 cs (JcL E):=fun M s h=>TsIn.row M _ _ h hc
variable {rec:Vm→JS→JS}
theorem Jpr (hr:TsJ ts0 cs rec)(hc:∀l∈E.body,∀t∈l.args,t.kind≠1→H2 t∈cs)(k:Nat):TsJ ts0 cs (goJ E rec k):=by
 intro M s h
 have hl:∀t∈(JaS E k).args,t.kind≠1→H2 t∈cs:=by
  unfold JaS H4;cases hb:E.body[JdA E k]? with
  | none=>intro t ht;simp[Lt.nil]at ht
  | some l=>exact hc l (FI hb)
 have h1:TsIn ts0 cs (HZ M s.ts (JaS E k).args).2:=TsIn.row M _ _ h hl;unfold goJ;split
 ·exact JfF hr _ _ _ _ h1
 split
 ·split
  ·exact h1
  ·exact hr _ _ h1
 ·split
  ·exact hr _ _ h
  ·exact h
theorem Jh0 {E:JE}{ts0 cs:List Tk}(hh:∀t∈E.head.args,t.kind≠1→H2 t∈cs)(hb:∀l∈E.body,∀t∈l.args,t.kind≠1→H2 t∈cs):∀(n k:Nat),TsJ ts0 cs (JaM E n k)
 | 0,k=>by
  intro M s h;unfold JaM;split
  ·exact h
  ·exact Jnu hh M _ h
 | n+1,k=>by
  intro M s h;unfold JaM;split
  ·exact h
  ·exact Jpr (Jh0 hh hb n (k+1)) hb k M _ h
theorem JjO {T:Fw}{w:AW}{v:V}{l:List Nat}(h:Rd T w v 1 l.length (PZ l)){i n:Nat}(hi:l[i]? = some n):∃b o c,v = .slice b o l.length c∧w.load b (o+i*1) 1=some [.int .i64 (Int.ofNat n)]:=by
 have hlt:i<l.length:=(List.getElem?_eq_some_iff.1 hi).1;rcases h.inv with⟨_,h0,_⟩|⟨b,o,c,rfl,hB⟩
 ·omega
 ·exact⟨b,o,c,rfl,by rw[Kz];exact hB.cell Fh (by unfold PZ;rw[F6,hi];rfl)⟩
theorem Joy (C:Codes tab){jb tb mb vb sb k:Nat}{cells:List V}{op sv tv:V}{a:Int}{dq:Option (Nat×List (List Int))}{sets:List Nat→Option (Nat×List (List Int))}{sty sfn:Nat}{O S So:Fw}{w:AW}{M:Vm}{s:JS}{f:Fr}{K:V→AW→Prop}(hp:JPure E a dq sets ts0 cs)(hsl:H8 [(44,Jt,none)] sty=some (sfn,none))(hs:JStat tab O w jb tb sb vb E cells op sv a dq sets sty sfn)(hD:Dyn O tb mb vb sb op E.head.args.length w tv S So M s)(hk:k<E.order.length)(hrec:Jhv tab E jb tb mb vb sb cells op sv a dq sets sty sfn ts0 cs (k+1) rec)(hmono:JdK rec)(htj:TsJ ts0 cs rec)(hM:MOk M)(hts:TsIn ts0 cs s.ts)(hrl:(goJ E rec k M s).rows.length≤1000000)(f0:f.get 0=some (.ptr jb 0))(f1:f.get 1=some (.int .i64 (Int.ofNat k)))(h:∀w' tv' S' So',Dyn O tb mb vb sb op E.head.args.length w' tv' S' So' M (goJ E rec k M s)→Mv tb mb vb sb w S So w' S' So'→K (.tuple []) w'):WS tab [.code Zl] f w (FrK K):=by
 obtain⟨ov,h6,ho⟩:=hs.order;obtain⟨xb,h3,hb⟩:=hs.body;obtain⟨dp,h9,hdq⟩:=hs.delta;have hol:=hp.ol;have hbl:=hp.bl;obtain⟨i,hi⟩:∃i,E.order[k]? = some i:=⟨_,FB hk⟩;have hpl:JdA E k=i:=by unfold JdA;rw[List.getD_eq_getElem?_getD,hi];rfl
 have hib:=hp.olt i (FI hi);obtain⟨l,hl⟩:∃l,E.body[i]? = some l:=⟨_,FB hib⟩;have hlm:=FI hl;have hll:JaS E k=l:=by unfold JaS;rw[hpl];exact PJ hl
 have hla:H4 E.body i=l:=PJ hl
 have hset:Jam E k=JgD (if Int.ofNat i=a then dq else sets l.name) l.args.length:=by
  unfold Jam;rw[hll,hpl,hp.st i hib,hla]
 have hsrow:∀x,Jam E k=some x→x.2.length≤1000000∧x.1=l.args.length∧∀r∈x.2,r.length=x.1∧∀n∈r,n.natAbs≤100000:=by
  intro x hx;unfold Jam at hx;rw[hpl,hll]at hx;cases hq:E.sets i with
  | none=>rw[hq]at hx;cases hx
  | some y =>
   rw[hq]at hx;unfold JgD at hx;simp only at hx;split at hx
   ·rename_i he;cases hx;have:=hp.rl i _ hq;exact⟨this.1,he,this.2⟩
   ·cases hx
 have hal:=hp.bal l hlm;have hbc:=hp.bc l hlm;have htl:=hts.len;have htb:=hp.tsl;have hov:=ho.lenV;obtain⟨ob,oo,oc,rfl,lo⟩:=JjO ho hi;obtain⟨bb,bo,bc,xs,rfl,lb,hx⟩:=Jga hb hl;have hxl:=hx.one;have j6:w.load jb 6 1=some [.slice ob oo E.order.length oc]:=CB.ld hs.cj 6 1 _ h6;have j3:w.load jb 3 1=some [.slice bb bo E.body.length bc]:=CB.ld hs.cj 3 1 _ h3;obtain⟨w1,s1,c1,r1,n1⟩:=PE w (zs:=[V.int .i64 0,V.str [],V.nilslice]) (vs:=xs) hxl.1.symm hxl.2;obtain⟨d1,m1⟩:=hD.step0 r1
 have hO1:∀x,(O x∨x=w.next)→x<w1.next∧¬DS tb mb vb sb S So x:=by
  rintro x (hx|rfl)
  ·exact⟨d1.lt x hx,d1.dis x hx⟩
  ·refine⟨by omega,?_⟩;rintro (hh|hh|hh|hh|hh|hh)
   ·have:=(hD.t.s _ hh).1;omega
   ·have:=(hD.od _ hh).2.2.2.2.2;omega
   ·have:=hD.t.a.lt;omega
   ·have:=hD.t.m.lt;omega
   ·have:=hD.m.lt;omega
   ·have:=hD.n.lt;omega
 have e1:=d1.mono hO1;have t1:=(hs.frm r1 fun _ _ h=>h).mono (O':=fun x=>O x∨x=w.next) (fun _ h=> .inl h) fun x hx=>(hO1 x hx).1;have hx1:=(hx.frm r1 fun _ _ h=>h).mono (T':=fun x=>O x∨x=w.next) fun _ h=> .inl h;have hb1:=Jcd (T':=fun x=>O x∨x=w.next) (hb.frm (fun _ _ h=>h.frm r1 fun _ _ h=>h) r1 fun _ _ h=>h) fun _ h=> .inl h;have hd1:=(hdq.frm r1 fun _ _ h=>h).mono (S':=fun x=>O x∨x=w.next) (fun _ h=> .inl h) fun x hx=>(hO1 x hx).1;have hkl:¬k=E.order.length:=Fh
 have k0:w1.load w.next 0 1=some [.int .i64 (Int.ofNat l.kind)]:=by
  obtain⟨xv,rfl,_⟩:=hx;exact CB.ld c1 0 1 _ rfl
 have k3:w1.load w.next 0 3=some xs:=c1.all hxl.1;have fin:∀w' tv' S' So',Dyn (fun x=>O x∨x=w.next) tb mb vb sb op E.head.args.length w' tv' S' So' M (goJ E rec k M s)→Mv tb mb vb sb w1 S So w' S' So'→K (.tuple []) w':=fun w' tv' S' So' d m=>h w' tv' S' So' (d.mono fun x hx=>⟨d.lt x (.inl hx),d.dis x (.inl hx)⟩) (m1.trans m);refine HF 39 (by simp only[go_sem,HA,simprocAttr,Zl,GB,GA,f0,f1,j6,hov,hkl,hk,lo,j3,hib,lb,hxl.1,s1];rfl) ?_;by_cases hk1:l.kind=1
 ·have eg:goJ E rec k M s=PF rec l M (Jcu (Jam E k) (HZ M s.ts l.args).1) ⟨(HZ M s.ts l.args).2,s.seen,s.rows⟩:=by unfold goJ;rw[hll,if_pos hk1]
  rw[eg]at fin hrl;rw[hk1]at k0;refine Fz (by simp only[go_sem,HA,simprocAttr,Y9,Gz,k0];rfl) ?_;refine Pp ?_;refine H0 100 (by simp only[go_sem,HA,simprocAttr,f0];rfl) ?_;refine PD Ff Fe ?_;refine Jmm (O:=fun x=>O x∨x=w.next) (S':=fun x=>O x∨x=w.next) C t1.cj h3 t1.h5 hsl t1.h8 h9 hb1 hl hd1 (fun w' K' g hK=>t1.store _ w' g (fun _ _ h=>h) l.name K' hK) (fun x hx=>hp.w4 _ x hx) Fh fun w2 p Sp g2 hq hSp=>?_;rw[←hset]at hq;obtain⟨d2,m2⟩:=e1.step0 g2;have t2:=t1.frm g2 fun _ _ h=>h;have k3':w2.load w.next 0 3=some xs:=(c1.frm g2 fun h=>h).all hxl.1;refine H0 100 (by simp only[go_sem,HA,simprocAttr,f0,k3'];rfl) ?_;refine PD Ff Fe ?_;refine JiF (O:=fun x=>(O x∨x=w.next)∨x=vb) C d2.t d2.rowO t2.cj (.inl t2.oj) t2.h4 t2.h12 d2.m (.inr rfl) ((hx1.frm g2 fun _ _ h=>h).mono fun _ h=> .inl h) hal (fun t ht hk=>(hbc t ht hk).1) Fh fun w3 v3 tv3 S3 R3 q1 q2 q3 q4 q5=>?_;obtain⟨d3,m3⟩:=d2.tabl q2 q3 q4;have t3:=t2.frm m3.f d2.dis;have hrl3:=(Jcg M s.ts l.args).1;have hq3:SetQ (fun x=>O x∨x=w.next) w3 p (Jam E k):=((hq.mono (fun x hx=>(hSp x hx).elim id id) fun x hx=>d2.lt x hx).frm m3.f d2.dis);refine H0 100 Fe ?_;refine PD Ff Fe ?_;refine JlZ C hq3 q1 (fun x hx=>⟨(hsrow x hx).1,by rw[hrl3];exact (hsrow x hx).2.1.symm⟩) Fh fun v4 w4 rcs S4 T4 hL g4=>?_;obtain⟨d4,m4⟩:=d3.step0 g4;have hlv:lenV v4=some (Jcu (Jam E k) (HZ M s.ts l.args).1).length:=hL.1.lenV;refine H0 100 (by simp only[go_sem,HA,simprocAttr,hlv];rfl) ?_;refine Pr ⟨(show HW _ _ [(4,2)]from by simp only[go_sem,HA,simprocAttr,HW,chk,List.reverse_cons,List.reverse_nil,Pk,Pv,Pt,Pu,List.getElem?_nil,false_or,or_true,or_false,exists_eq',FP,Prod.mk.injEq,Bool.true_eq_false,FM,and_true,true_and,implies_true,k3,k3']),?_⟩
  have hmr:∀r∈Jcu (Jam E k) (HZ M s.ts l.args).1,r.length=l.args.length∧∀n∈r,n.natAbs≤100000:=by
   intro r hr;unfold Jcu at hr;cases hq:Jam E k with
   | none=>rw[hq]at hr;simp at hr
   | some x =>
    rw[hq]at hr;obtain⟨_,h2,h3⟩:=hsrow x hq;have:=h3 r (List.mem_filter.1 hr).1;exact⟨by rw[this.1,h2],this.2⟩
  have hmn:(Jcu (Jam E k) (HZ M s.ts l.args).1).length≤1000000:=by
   unfold Jcu;cases hq:Jam E k with
   | none=>simp
   | some x=>exact Kj (Kl _ _) (hsrow x hq).1
  have hO4:∀x,((O x∨x=w.next)∨S4 x∨T4 x)→x<w4.next∧¬DS tb mb vb sb S3 So x:=by
   have new:∀x,w3.next≤x→x<w4.next→x<w4.next∧¬DS tb mb vb sb S3 So x:=by
    intro x h1 h2;refine⟨h2,?_⟩;rintro (hh|hh|hh|hh|hh|hh)
    ·have:=(d3.t.s _ hh).1;omega
    ·have:=(d3.od _ hh).2.2.2.2.2;omega
    ·have:=d3.t.a.lt;omega
    ·have:=d3.t.m.lt;omega
    ·have:=d3.m.lt;omega
    ·have:=d3.n.lt;omega
   rintro x (hx|hx|hx)
   ·exact⟨d4.lt x hx,d4.dis x hx⟩
   ·have:=hL.2.2.1 x hx;exact new x this.1 this.2.1
   ·have:=hL.2.2.2 x hx;exact new x this.1 this.2
  have d4':=d4.mono hO4;have t4:=(t3.frm g4 fun _ _ h=>h).mono (O':=fun x=>(O x∨x=w.next)∨S4 x∨T4 x) (fun _ h=> .inl h) fun x hx=>(hO4 x hx).1;have g14:=((m2.trans m3).trans m4).f;have hx4:=(hx1.frm g14 e1.dis).mono (T':=fun x=>(O x∨x=w.next)∨S4 x∨T4 x) fun _ h=> .inl h;have c4:=c1.frm g14 (e1.dis _ (.inr rfl));refine HB 1000 Fe ?_;refine JlL (O:=fun x=>(O x∨x=w.next)∨S4 x∨T4 x) C hp t4 d4' hrec hmono htj Fh hM (TsIn.row M _ _ hts fun t ht hk=>(hbc t ht hk).2) hal hmr hmn hrl hx4 c4 (.inl (.inr rfl)) hL (fun x hx=> .inr (.inl hx)) (fun x hx=> .inr (.inr hx)) (Fg f0) (Fg f1) Fb Fb Fb Fb fun f5 w5 tv5 S5 So5 d5 m5=>?_;refine HB 1000 Fe ?_;refine JaK ⟨_,by simp only[go_sem,HA,simprocAttr,Jh];rfl,?_⟩;exact fin _ _ _ _ (d5.mono fun x hx=>⟨d5.lt x (.inl hx),d5.dis x (.inl hx)⟩) (((m2.trans m3).trans m4).trans m5)
 have hkn1:¬Int.ofNat l.kind=1:=fun e=>hk1 (Int.ofNat.inj e);have hwk:IntKind.wrap .i64 (Int.ofNat k+1)=Int.ofNat (k+1):=HJ Fh;by_cases hk2:l.kind=2
 ·have eg:goJ E rec k M s=if JkG (Jam E k) (HZ M s.ts l.args).1=true then⟨(HZ M s.ts l.args).2,s.seen,s.rows⟩else rec M ⟨(HZ M s.ts l.args).2,s.seen,s.rows⟩:=by unfold goJ;rw[hll,if_neg hk1,if_pos hk2]
  rw[eg]at fin hrl;rw[hk2]at k0;refine Fz (by simp only[go_sem,HA,simprocAttr,Y9,Vk,Gx,k0];rfl) ?_;refine Pp ?_;refine H0 100 (by simp only[go_sem,HA,simprocAttr,f0];rfl) ?_;refine PD Ff Fe ?_;refine Jmm (O:=fun x=>O x∨x=w.next) (S':=fun x=>O x∨x=w.next) C t1.cj h3 t1.h5 hsl t1.h8 h9 hb1 hl hd1 (fun w' K' g hK=>t1.store _ w' g (fun _ _ h=>h) l.name K' hK) (fun x hx=>hp.w4 _ x hx) Fh fun w2 p Sp g2 hq hSp=>?_;rw[←hset]at hq;obtain⟨d2,m2⟩:=e1.step0 g2;have t2:=t1.frm g2 fun _ _ h=>h;have k3':w2.load w.next 0 3=some xs:=(c1.frm g2 fun h=>h).all hxl.1;refine H0 100 (by simp only[go_sem,HA,simprocAttr,f0,k3'];rfl) ?_;refine PD Ff Fe ?_;refine JiF (O:=fun x=>(O x∨x=w.next)∨x=vb) C d2.t d2.rowO t2.cj (.inl t2.oj) t2.h4 t2.h12 d2.m (.inr rfl) ((hx1.frm g2 fun _ _ h=>h).mono fun _ h=> .inl h) hal (fun t ht hk=>(hbc t ht hk).1) Fh fun w3 v3 tv3 S3 R3 q1 q2 q3 q4 q5=>?_;obtain⟨d3,m3⟩:=d2.tabl q2 q3 q4;have t3:=t2.frm m3.f d2.dis;have hrl3:=(Jcg M s.ts l.args).1;have hq3:SetQ (fun x=>O x∨x=w.next) w3 p (Jam E k):=((hq.mono (fun x hx=>(hSp x hx).elim id id) fun x hx=>d2.lt x hx).frm m3.f d2.dis);refine H0 100 Fe ?_;refine PD Ff Fe ?_;refine Joz C hq3 q1 (fun x hx=>(hsrow x hx).1) Fh ?_;cases hh:JkG (Jam E k) (HZ M s.ts l.args).1 with
  | true =>
   rw[hh]at fin;refine H0 100 Fe ?_;refine Pr ⟨(show HW _ _ [(4,2)]from by simp only[go_sem,HA,simprocAttr,HW,chk,List.reverse_cons,List.reverse_nil,Pk,Pv,Pt,Pu,List.getElem?_nil,false_or,or_true,or_false,exists_eq',FP,Prod.mk.injEq,Bool.true_eq_false,FM,and_true,true_and,implies_true,k3,k3']),?_⟩;refine HB 1000 Fe ?_;refine JaK ⟨_,by simp only[go_sem,HA,simprocAttr,Jh];rfl,?_⟩;exact fin _ _ _ _ d3 (m2.trans m3)
  | false =>
   rw[hh]at fin hrl;refine H0 100 Fe ?_;refine Pr ⟨(show HW _ _ [(4,2)]from by simp only[go_sem,HA,simprocAttr,HW,chk,List.reverse_cons,List.reverse_nil,Pk,Pv,Pt,Pu,List.getElem?_nil,false_or,or_true,or_false,exists_eq',FP,Prod.mk.injEq,Bool.true_eq_false,FM,and_true,true_and,implies_true,k3,k3']),?_⟩;refine Fz (by simp only[go_sem,HA,simprocAttr,Gv,f0,f1,hwk];rfl) ?_;refine HD Ff Fe ?_;refine hrec t3 d3 hM (TsIn.row M _ _ hts fun t ht hk=>(hbc t ht hk).2) hrl fun w5 tv5 S5 So5 d5 m5=>?_;refine HB 1000 Fe ?_;refine JaK ⟨_,by simp only[go_sem,HA,simprocAttr,Jh];rfl,?_⟩;exact fin _ _ _ _ d5 ((m2.trans m3).trans m5)
 ·have eg:goJ E rec k M s=if Jh5 l M s.ts=true then rec M s else s:=by unfold goJ;rw[hll,if_neg hk1,if_neg hk2]
  rw[eg]at fin hrl;have hkn2:¬Int.ofNat l.kind=2:=fun e=>hk2 (Int.ofNat.inj e);obtain⟨b1,b2,b3⟩:=hp.bk l hlm hk1 hk2;obtain⟨lk,ln,la⟩:=l;simp only at b1 b2 b3 hk1 hk2
  obtain⟨ta,tb',rfl⟩:∃x y,la=[x,y]:=by
   cases la with
   | nil=>simp at b3
   | cons x la =>
    cases la with
    | nil=>simp at b3
    | cons y la =>
     cases la with
     | nil=>exact⟨x,y,rfl⟩
     | cons z la=>simp at b3
  have hhl:Jh5 ⟨lk,ln,[ta,tb']⟩ M s.ts=(Jc2 lk (H6 M s.ts ta) (H6 M s.ts tb')).1:=rfl;rw[hhl]at fin hrl;have j4:w1.load jb 4 1=some [.ptr tb 0]:=CB.ld t1.cj 4 1 _ t1.h4;have j12:w1.load jb 12 1=some [.map vb]:=CB.ld t1.cj 12 1 _ t1.h12;have k0:w1.load w.next 0 1=some [.int .i64 (Int.ofNat lk)]:=k0;refine Fz (by simp only[go_sem,HA,simprocAttr,Y9,Vk,Gy,k0,k3,f0,hk1,hk2,hkn1,hkn2,j4,j12];rfl) ?_;refine HD Ff Fe ?_;refine Jh6 C (O:=fun x=>O x∨x=w.next) e1.t e1.m hx1 e1.lt ⟨b1,b2⟩ Fh hM fun w2 g2=>?_;obtain⟨d2,m2⟩:=e1.step0 g2;have t2:=t1.frm g2 fun _ _ h=>h;cases hh:(Jc2 lk (H6 M s.ts ta) (H6 M s.ts tb')).1 with
  | false =>
   rw[hh]at fin;refine HB 1000 Fe ?_;refine JaK ⟨_,by simp only[go_sem,HA,simprocAttr,Jh];rfl,?_⟩;exact fin _ _ _ _ d2 m2
  | true =>
   rw[hh]at fin hrl;refine Fz (by simp only[go_sem,HA,simprocAttr,Gw,f0,f1,hwk];rfl) ?_;refine HD Ff Fe ?_;refine hrec t2 d2 hM hts hrl fun w5 tv5 S5 So5 d5 m5=>?_;refine HB 1000 Fe ?_;refine JaK ⟨_,by simp only[go_sem,HA,simprocAttr,Jh];rfl,?_⟩;exact fin _ _ _ _ d5 (m2.trans m5)
theorem JjF (C:Codes tab)(I:Jda tab)(P:JdJ tab){E:JE}{jb tb mb vb sb:Nat}{cells:List V}{op sv:V}{a:Int}{dq:Option (Nat×List (List Int))}{sets:List Nat→Option (Nat×List (List Int))}{sty sfn:Nat}{ts0 cs:List Tk}(hp:JPure E a dq sets ts0 cs)(hsl:H8 [(44,Jt,none)] sty=some (sfn,none)):∀(n k:Nat),k+n=E.order.length→Jhv tab E jb tb mb vb sb cells op sv a dq sets sty sfn ts0 cs k (JaM E n k)
 | 0,k,hk=>by
  rename_i O S So w tv M s K;intro hs hD hM hts hrl h;refine Jh1 C I hp hs hD Fh hM (fun hst=>?_) fun hst f w1 f0 f1 d1 m1=>?_
  ·have e:JaM E 0 k M s=s:=by unfold JaM;rw[if_pos hst]
   rw[e]at h;exact h _ _ _ _ hD Mv.refl
  ·have e:JaM E 0 k M s=JcL E M (Jdf E k M s):=by unfold JaM;rw[if_neg (by rw[hst];simp)]
   rw[e]at h hrl;exact JlK C P hp (hs.frm m1.f hD.dis) d1 Fh hts hrl f0 f1 fun w' tv' S' So' d m=>h _ _ _ _ d (m1.trans m)
 | n+1,k,hk=>by
  rename_i O S So w tv M s K;intro hs hD hM hts hrl h;refine Jh1 C I hp hs hD Fh hM (fun hst=>?_) fun hst f w1 f0 f1 d1 m1=>?_
  ·have e:JaM E (n+1) k M s=s:=by unfold JaM;rw[if_pos hst]
   rw[e]at h;exact h _ _ _ _ hD Mv.refl
  ·have e:JaM E (n+1) k M s=goJ E (JaM E n (k+1)) k M (Jdf E k M s):=by
    show (if Jed E k M s=true then s else _)=_;rw[if_neg (by rw[hst];simp)]
   rw[e]at h hrl;exact Joy C hp hsl (hs.frm m1.f hD.dis) d1 Fh (JjF C I P hp hsl n (k+1) Fh) (Jf3 E n (k+1)) (Jh0 (fun t ht hk=>(hp.hc t ht hk).2) (fun l hl t ht hk=>(hp.bc l hl t ht hk).2) n (k+1)) hM hts hrl f0 f1 fun w' tv' S' So' d m=>h _ _ _ _ d (m1.trans m)
end
section
open Go.AE Delphi Val
variable {tab:Tab}
def Jht (head:Lt) (body:List Lt) (order:List Nat) (k:Nat):List Tm:=head.args++(order.drop k).flatMap fun i=>(H4 body i).args
def P9 (head:Lt) (body:List Lt) (order:List Nat) (k:Nat):Fx:=Pm (Jht head body order k)
def BtE (S:Fw) (w:AW) (v:V) (n:Nat) (cs:List V):Prop:=Bt S w v 3 n cs∨(n=0∧cs=[]∧∃b,v = .slice b 0 0 (.known 0)∧S b∧CB w b [])
variable {S:Fw} {w:AW} {v:V} {n:Nat} {cs:List V}
theorem BtE.frm {T:Fw}{w':AW}(h:BtE S w v n cs)(hf:Frm T w w')(hd:∀x,S x→¬T x):BtE S w' v n cs:=by
 rcases h with h|⟨h1,h2,b,h3,h4,h5⟩
 ·exact .inl (h.frm hf hd)
 ·exact .inr ⟨h1,h2,b,h3,h4,h5.frm hf (hd b h4)⟩
theorem BtE.rd (h:BtE S w v n cs):Rd S w v 3 n cs:=by
 rcases h with h|⟨rfl,rfl,b,rfl,h4,h5⟩
 ·exact h.rd
 ·exact .blk h4 h5.lt h5.get (.inl rfl) Fj Fj (FH 0)
variable {k:Nat}
theorem BtE.addN {news:List V}(h:BtE S w v n cs)(hS:∀x,S x→x<w.next)(hl:news.length=k*3)(h1:HM news=true)(hb:n+k≤100000): ∃v' w' S',w.appendV 3 32 v k news=some (v',w')∧BtE S' w' v' (n+k) (cs++news)∧Frm S w w'∧JaU S S' w w':=by
 rcases h with h|⟨rfl,rfl,b,rfl,h4,h5⟩
 ·obtain⟨v',w',S',q1,q2,q3,q4⟩:=h.addN (k:=k) (news:=news) (bytes:=32) Fh hl h1 Fh Fh;exact⟨v',w',S',q1,.inl q2,q3,q4⟩
 ·cases k with
  | zero =>
   have:news=[]:=List.length_eq_zero_iff.1 (by simpa using hl);subst this;refine⟨_,w,S,rfl,.inr ⟨rfl,rfl,b,rfl,h4,h5⟩,Frm.refl _,fun x hx=>⟨hS x hx,.inl hx⟩⟩
  | succ k =>
   refine⟨.slice w.next 0 (0+(k+1)) (.upTo 3),w.fresh ([]++news),fun x=>x=w.next,?_,.inl (.blk rfl (FV _) (Pw w ([]++news)).get (by rw[List.nil_append,hl,FU]) Fh Fh (.inl rfl)),HU _ _,?_⟩
   ·have c1:(0+(k+1))*32≤70368744177664∧0+(k+1)≤70368744177664∧0≤0:=⟨by omega,by omega,FH _⟩;have c2:¬(0+(k+1)≤0):=Fh;simp only[AW.appendV,if_pos c1,if_neg c2,AW.elems]
   ·rintro x rfl;exact⟨FV _,.inr (FH _)⟩
theorem Joj (h:Bt S w v 1 n cs)(hk:k≤n): (v = .nilslice∧n=0)∨∃b,v = .slice b 0 n (.upTo 1)∧(∀w':AW,w'.sliceW 1 b 0 n (.upTo 1) (some k) none none=some (.slice b (0+k*1) (n-k) (.upTo 1)))∧Rd S w (.slice b (0+k*1) (n-k) (.upTo 1)) 1 (n-k) (cs.drop k):=by
 cases h with
 | nil=>exact .inl ⟨rfl,rfl⟩
 | blk hS hb hx hl he hn hs =>
  rename_i b sh;refine .inr ⟨b,rfl,fun w'=>?_,?_⟩
  ·have c:n≤n∧k≤n∧True:=⟨FH _,hk,trivial⟩;simp only[AW.sliceW,Jbb,Option.getD_none,Option.getD_some,if_pos c]
  ·refine .blk hS hb hx ?_ Fh ?_ (.inl rfl)
   ·rcases hs with rfl|rfl|⟨f,F,h1,h2,h3,h4,_,_,h7⟩
    ·exact .inl rfl
    ·exact .inr (.inl rfl)
    ·exact .inr (.inr (.inr ⟨f,F,h1,h2,h3,h4,h7⟩))
   ·rw[Kz,Kz,FU,FW (by rw[Kh];omega)]
structure NdF (f:Fr) (jb nb N i:Nat):Prop where
 f0:f.get 0=some (.ptr jb 0)
 f20:f.get 20=some (.slice nb 0 N (.known N))
 f21:f.get 21=some (.int .i64 (Int.ofNat N))
 f22:f.get 22=some (.int .i64 (Int.ofNat i))
theorem Jo0 (a b:List Tm):Pl (a++b)=Pl a++Pl b:=by simp[Pl]
theorem JiN (l:List Tm):(Pl l).length=l.length*3:=by rw[JoZ,JnV,F7]
theorem JiO (l:List Tm):HM (Pl l)=true:=by
 rw[Jbv];intro x hx;simp only[Pl,List.mem_flatMap]at hx;obtain⟨t,_,ht⟩:=hx;simp only[tmC,FJ,FZ,or_false]at ht;rcases ht with rfl|rfl|rfl<;>rfl
theorem Jjh (C:Codes tab){jb nb N i:Nat}{cells:List V}{O R:Fw}{body:List Lt}{order:List Nat}{xb ov tv:V}{f:Fr}{st:List SI}{Q:Fr→AW→Prop}{hd:List Tm}(hj:CB w jb cells)(h3:HN 1 (cells.drop 3)=some [xb])(hb:RdL (LtC O) O w xb 3 body)(hO:∀x,O x→x<w.next∧¬R x)(hjR:¬R jb)(hR:∀x,R x→x<w.next)(hnbR:¬R nb)(hord:Rd O w ov 1 (order.length-k) (PZ (order.drop k)))(holt:∀i∈order,i<body.length)(hal:∀l∈body,l.args.length≤10)(hol:order.length≤100)(hk:k≤order.length)(hbl:body.length≤100)(hF:NdF f jb nb N i)(f2:f.get 2=some (.int .i64 (Int.ofNat k)))(f3:f.get 3=some tv)(f39:f.get 39=some ov)(f40:f.get 40=some (.int .i64 (Int.ofNat (order.length-k))))(f41:f.get 41=some (.int .i64 (Int.ofNat 0)))(ht:BtE R w tv hd.length (Pl hd))(hhd:hd.length≤10)(h:∀f' w' tv' R',NdF f' jb nb N i→f'.get 2=some (.int .i64 (Int.ofNat k))→f'.get 3=some tv'→BtE R' w' tv' (hd++(order.drop k).flatMap fun i=>(H4 body i).args).length (Pl (hd++(order.drop k).flatMap fun i=>(H4 body i).args))→Frm R w w'→(∀x,R' x→x<w'.next∧(R x∨w.next≤x))→WS tab st f' w' Q): WS tab (.code (.loop ZN) :: .endB 2::st) f w Q:=by
 refine H7 (fun n f w1=>∃m tv1 R1 l1,l1=hd++((order.drop k).take m).flatMap (fun i=>(H4 body i).args)∧NdF f jb nb N i∧f.get 2=some (.int .i64 (Int.ofNat k))∧f.get 3=some tv1∧f.get 39=some ov∧f.get 40=some (.int .i64 (Int.ofNat (order.length-k)))∧f.get 41=some (.int .i64 (Int.ofNat m))∧BtE R1 w1 tv1 l1.length (Pl l1)∧l1.length≤10+10*m∧Frm R w w1∧(∀x,R1 x→x<w1.next∧(R x∨w.next≤x))∧m≤order.length-k∧n=order.length-k-m)
  (fun f w1=>∃tv1 R1,NdF f jb nb N i∧f.get 2=some (.int .i64 (Int.ofNat k))∧f.get 3=some tv1∧BtE R1 w1 tv1 (hd++(order.drop k).flatMap fun i=>(H4 body i).args).length (Pl (hd++(order.drop k).flatMap fun i=>(H4 body i).args))∧Frm R w w1∧(∀x,R1 x→x<w1.next∧(R x∨w.next≤x))) ?_ ?_ (order.length-k)
  ⟨0,tv,R,hd,by simp,hF,f2,f3,f39,f40,f41,ht,by omega,Frm.refl _,fun x hx=>⟨hR x hx,.inl hx⟩,Nat.zero_le _,rfl⟩
 ·rintro n f w1 ⟨m,tv1,R1,l1,hl1,⟨g0,g20,g21,g22⟩,g2,g3,g39,g40,g41,hB,hll,g,hR1,hm,rfl⟩ ih out;have hdl:(order.drop k).length=order.length-k:=Kh ..;by_cases hlt:m<order.length-k
  case neg =>
   obtain rfl:m=order.length-k:=Fh;rw[←hdl,List.take_length]at hl1;refine HF 1000 (by simp only[go_sem,simprocAttr,ZN,g40,g41,hlt];rfl) ?_;refine out _ _ _ ⟨tv1,R1,⟨(Fg g0),(Fg g20),(Fg g21),(Fg g22)⟩,(Fg g2),(Fg g3),?_,g,hR1⟩ rfl;rw[←hl1];exact hB
  obtain⟨j,hj'⟩:∃j,(order.drop k)[m]? = some j:=⟨_,FB Fh⟩;have hjb:=holt j (List.mem_of_mem_drop (FI hj'));obtain⟨l,hl⟩:∃l,body[j]? = some l:=⟨_,FB hjb⟩;have hla:H4 body j=l:=PJ hl;have hal':=hal l (FI hl);have hordw:=hord.frm g fun x hx=>(hO x hx).2;have hordw:Rd O w1 ov 1 (order.drop k).length (PZ (order.drop k)):=by rw[hdl];exact hordw
  obtain⟨ob,oo,oc,rfl,lo⟩:=JjO hordw hj';have hbw:RdL (LtC O) O w1 xb 3 body:=hb.frm (fun _ _ h=>h.frm g fun x hx=>(hO x hx).2) g fun x hx=>(hO x hx).2;obtain⟨bb,bo,bc,xs,rfl,lb,hx⟩:=Jga hbw hl;obtain⟨xv,rfl,hx⟩:=hx;have j3:w1.load jb 3 1=some [.slice bb bo body.length bc]:=CB.ld (hj.frm g hjR) 3 1 _ h3
  have lb2:w1.load bb (bo+j*3+2) 1=some [xv]:=by
   rcases hbw.inv (fun a xs h=>h.one.1)with⟨h0,_⟩|⟨b2,o2,c2,e2,_,_,_,hc⟩
   ·cases h0
   ·cases e2;obtain⟨ys,hy,hld⟩:=hc j l hl;have h30:=hld 0 3 Fh;rw[KC]at h30;rw[lb]at h30;have h21:=hld 2 1 Fh
    have e:ys=[V.int .i64 (Int.ofNat l.kind),V.str l.name,xv]:=by
     have h30:=FX h30;rw[FY,FW (Nat.le_of_eq hy.one.1)]at h30;exact h30.symm
    rw[e]at h21;exact h21
  have hlj:j<body.length:=hjb;have hel:=hx.elems;obtain⟨v',w',R',q1,q2,q3,q4⟩:=hB.addN (k:=l.args.length) (news:=Pl l.args) (fun x hx=>(hR1 x hx).1) (JiN _) (JiO _) Fh;have hwr:IntKind.wrap .i64 (Int.ofNat m+1)=Int.ofNat (m+1):=HJ Fh;have e9:(order.drop k).length=order.length-k:=hdl;rw[e9]at g39;refine Fz (by simp only[go_sem,HA,simprocAttr,ZN,Gl,Gk,g0,g3,g39,g40,g41,hlt,lo,j3,hlj,lb2,hel,q1,hwr];rfl) ?_;refine ih _ _ _ Fh ⟨m+1,v',R',l1++l.args,?_,⟨(Fg g0),(Fg g20),(Fg g21),(Fg g22)⟩,(Fg g2),Fb,by rw[e9];exact (Fg g39),(Fg g40),Fb,?_,by rw[FE];omega,?_,?_,by omega,rfl⟩
  ·rw[PK hj',List.flatMap_append,hl1,List.flatMap_singleton,hla,F5]
  ·rw[FE,Jo0];exact q2
  ·exact g.trans q3 (fun _ _ h=>h) fun x hx h=>by rcases (hR1 x h).2 with h|h;exact h;omega
  ·intro x hx;refine⟨(q4 x hx).1,?_⟩;have:=g.next;rcases (q4 x hx).2 with h1|h1
   ·exact (hR1 x h1).2
   ·right;omega
 ·rintro f w1 ⟨tv1,R1,hF,g2,g3,hB,g,hR1⟩;exact h f w1 tv1 R1 hF g2 g3 hB g hR1
end
end Go.Proofs.YtegdcbdicpfbpaaDoor
