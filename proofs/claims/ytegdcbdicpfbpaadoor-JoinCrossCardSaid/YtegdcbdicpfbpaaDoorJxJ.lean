/- A part of the proof. -/
import Derived.Test.YtegdcbdicpfbpaaDoorJxI
import Derived.Test.YtegdcbdicpfbpaaDoorJxH
open Int renaming ofNat → Fq
open Go.IntKind renaming wrap → KX
set_option linter.unusedVariables false
set_option linter.unusedSimpArgs false
namespace Go.Proofs.YtegdcbdicpfbpaaDoor
open Go.AE Delphi
variable {tab:Tab}
variable {c:Nat} {aw:AW} {K:V→AW→Prop}
theorem Ee (C:Codes tab)(h:K (.bool (OB c)) aw):WF tab Z9 [.int .u8 (Fq c)] aw K:=by
 refine Hy C.Xz rfl ?_;unfold OB at h;cases h1:decide (97≤c)<;>rw[h1]at h<;>refine Ho 1000 (by simp only[go_sem,Hn,Xy,h1];rfl) ?_<;>refine Hp ⟨_,by simp only[go_sem,Hn,Xy];rfl,?_⟩<;>exact h
theorem Io (C:Codes tab)(h:K (.bool (HS c)) aw):WF tab J2 [.int .u8 (Fq c)] aw K:=by
 refine Hy C.XB rfl ?_;unfold HS at h;cases h1:decide (48≤c)<;>rw[h1]at h<;>refine Ho 1000 (by simp only[go_sem,Hn,XA,h1];rfl) ?_<;>refine Hp ⟨_,by simp only[go_sem,Hn,XA];rfl,?_⟩<;>exact h
theorem Qv (C:Codes tab)(h:K (.bool (BZ c)) aw):WF tab Wr [.int .u8 (Fq c)] aw K:=by
 refine Hy C.XD rfl ?_;unfold BZ at h;cases h1:decide (65≤c)<;>rw[h1]at h<;>refine Ho 1000 (by simp only[go_sem,Hn,XC,h1];rfl) ?_<;>refine Hp ⟨_,by simp only[go_sem,Hn,XC];rfl,?_⟩<;>exact h
variable {t:List Nat} {S:List SI} {Q:Fr→AW→Prop} {fr:Fr} {k0:Nat}
theorem rl0 (C:Codes tab)(hs:(c::t).length≤4611686018427387904)(hk0':k0≤(c::t).length)(f0:fr.get 0=some (.str (c::t)))(f4:fr.get 4=some (.int .i64 (Fq k0)))(h:∀f,f.get 0=some (.str (c::t))→f.get 4=some (.int .i64 (Fq ((k0+(((c::t).drop k0).takeWhile HZ).length))))→WS tab S f aw Q): WS tab (.code (.loop ZK) :: .endB 1::S) fr aw Q:=by
 refine OA (fun n f w=>∃k,f.get 0=some (.str (c::t))∧f.get 4=some (.int .i64 (Fq k))∧k0+(((c::t).drop k0).takeWhile HZ).length=k+(((c::t).drop k).takeWhile HZ).length∧k≤(c::t).length∧n=(c::t).length-k∧w=aw) ?_ ((c::t).length-k0) ⟨k0,f0,f4,rfl,hk0',rfl,rfl⟩;rintro n f w ⟨k,f0,f4,hk,hkl,rfl,rfl⟩ ih;generalize hS:c::t=s at *;by_cases hlt:k<s.length
 ·obtain⟨d,hc⟩:∃d,s[k]? = some d:=⟨_,FB hlt⟩
  have hd:s.drop k=d::s.drop (k+1):=by
   rw[FL hlt];rw[FB hlt]at hc;rw[FX hc]
  have hw:KX .i64 (Fq k+1)=Fq (k+1):=Hv Fh
  have yes:HZ d=true→∀f',f'.get 0=some (.str s)→f'.get 4=some (.int .i64 (Fq (k+1)))→WS tab (.code (.loop ZK) :: .endB 1::S) f' w Q:=by
   intro hp f' g0 g4;refine ih (s.length-(k+1)) _ _ Fh ⟨k+1,g0,g4,?_,by omega,rfl,rfl⟩;rw[hk,hd,List.takeWhile_cons_of_pos hp,FC];omega
  have no:HZ d=false→∀f',f'.get 0=some (.str s)→f'.get 4=some (.int .i64 (Fq k))→WS tab S f' w Q:=by
   intro hp f' g0 g4;refine h f' g0 ?_;rw[hk,hd,List.takeWhile_cons_of_neg (by simp[hp])];simpa using g4
  refine Ho 1000 (by simp only[go_sem,Hn,ZK,f0,f4,hlt,hc];rfl) ?_;refine Hq (by simp only[go_sem,Hn]) (by simp only[go_sem,Hn];rfl) ?_;refine Ee C ?_;cases q1:OB d with
  | true =>
   refine Ho 1000 (by simp only[go_sem,Hn,f4,hw];rfl) ?_;exact yes (by simp[HZ,q1]) _ (by simp only[go_sem,Hn,f0]<;>rfl) (by simp only[go_sem,Hn]<;>rfl)
  | false =>
   refine Ho 1000 (by simp only[go_sem,Hn,f0,f4,hc];rfl) ?_;refine Hq (by simp only[go_sem,Hn]) (by simp only[go_sem,Hn];rfl) ?_;refine Io C ?_;cases q2:HS d with
   | true =>
    refine Ho 1000 (by simp only[go_sem,Hn,f4,hw];rfl) ?_;exact yes (by simp[HZ,q1,q2]) _ (by simp only[go_sem,Hn,f0]<;>rfl) (by simp only[go_sem,Hn]<;>rfl)
   | false =>
    by_cases h95:d=95
    ·refine Ho 1000 (by simp only[go_sem,Hn,f0,f4,hc,h95,hw];rfl) ?_;exact yes (by simp[HZ,q1,q2,h95]) _ (by simp only[go_sem,Hn,f0]<;>rfl) (by simp only[go_sem,Hn]<;>rfl)
    ·refine Hs 1000 (by simp only[go_sem,Hn,f0,f4,hc,h95];rfl) ?_;exact no (by simp[HZ,q1,q2,h95]) _ (by simp only[go_sem,Hn,f0]<;>rfl) (by simp only[go_sem,Hn,f4]<;>rfl)
 ·refine Hs 1000 (by simp only[go_sem,Hn,ZK,f0,f4,hlt];rfl) ?_;refine h _ (by simp only[go_sem,Hn,f0]<;>rfl) ?_;have:k=s.length:=Fh;subst this;rw[hk,List.drop_length];exact (by simp only[go_sem,Hn,f4]<;>rfl)
theorem rl1 (C:Codes tab)(hs:(c::t).length≤4611686018427387904)(hk0':k0≤(c::t).length)(f0:fr.get 0=some (.str (c::t)))(f4:fr.get 4=some (.int .i64 (Fq k0)))(h:∀f,f.get 0=some (.str (c::t))→f.get 4=some (.int .i64 (Fq ((k0+(((c::t).drop k0).takeWhile PJ).length))))→WS tab S f aw Q): WS tab (.code (.loop ZL) :: .endB 3::S) fr aw Q:=by
 refine OA (fun n f w=>∃k,f.get 0=some (.str (c::t))∧f.get 4=some (.int .i64 (Fq k))∧k0+(((c::t).drop k0).takeWhile PJ).length=k+(((c::t).drop k).takeWhile PJ).length∧k≤(c::t).length∧n=(c::t).length-k∧w=aw) ?_ ((c::t).length-k0) ⟨k0,f0,f4,rfl,hk0',rfl,rfl⟩;rintro n f w ⟨k,f0,f4,hk,hkl,rfl,rfl⟩ ih;generalize hS:c::t=s at *;by_cases hlt:k<s.length
 ·obtain⟨d,hc⟩:∃d,s[k]? = some d:=⟨_,FB hlt⟩
  have hd:s.drop k=d::s.drop (k+1):=by
   rw[FL hlt];rw[FB hlt]at hc;rw[FX hc]
  have hw:KX .i64 (Fq k+1)=Fq (k+1):=Hv Fh
  have yes:PJ d=true→∀f',f'.get 0=some (.str s)→f'.get 4=some (.int .i64 (Fq (k+1)))→WS tab (.code (.loop ZL) :: .endB 3::S) f' w Q:=by
   intro hp f' g0 g4;refine ih (s.length-(k+1)) _ _ Fh ⟨k+1,g0,g4,?_,by omega,rfl,rfl⟩;rw[hk,hd,List.takeWhile_cons_of_pos hp,FC];omega
  have no:PJ d=false→∀f',f'.get 0=some (.str s)→f'.get 4=some (.int .i64 (Fq k))→WS tab S f' w Q:=by
   intro hp f' g0 g4;refine h f' g0 ?_;rw[hk,hd,List.takeWhile_cons_of_neg (by simp[hp])];simpa using g4
  refine Ho 1000 (by simp only[go_sem,Hn,ZL,f0,f4,hlt,hc];rfl) ?_;refine Hq (by simp only[go_sem,Hn]) (by simp only[go_sem,Hn];rfl) ?_;refine Ee C ?_;cases q1:OB d with
  | true =>
   refine Ho 1000 (by simp only[go_sem,Hn,f4,hw];rfl) ?_;exact yes (by simp[PJ,HZ,q1]) _ (by simp only[go_sem,Hn,f0]<;>rfl) (by simp only[go_sem,Hn]<;>rfl)
  | false =>
   refine Ho 1000 (by simp only[go_sem,Hn,f0,f4,hc];rfl) ?_;refine Hq (by simp only[go_sem,Hn]) (by simp only[go_sem,Hn];rfl) ?_;refine Qv C ?_;cases q2:BZ d with
   | true =>
    refine Ho 1000 (by simp only[go_sem,Hn,f4,hw];rfl) ?_;exact yes (by simp[PJ,HZ,q1,q2]) _ (by simp only[go_sem,Hn,f0]<;>rfl) (by simp only[go_sem,Hn]<;>rfl)
   | false =>
    refine Ho 1000 (by simp only[go_sem,Hn,f0,f4,hc];rfl) ?_;refine Hq (by simp only[go_sem,Hn]) (by simp only[go_sem,Hn];rfl) ?_;refine Io C ?_;cases q3:HS d with
    | true =>
     refine Ho 1000 (by simp only[go_sem,Hn,f4,hw];rfl) ?_;exact yes (by simp[PJ,HZ,q1,q2,q3]) _ (by simp only[go_sem,Hn,f0]<;>rfl) (by simp only[go_sem,Hn]<;>rfl)
    | false =>
     by_cases h95:d=95
     ·refine Ho 1000 (by simp only[go_sem,Hn,f0,f4,hc,h95,hw];rfl) ?_;exact yes (by simp[PJ,HZ,q1,q2,q3,h95]) _ (by simp only[go_sem,Hn,f0]<;>rfl) (by simp only[go_sem,Hn]<;>rfl)
     ·refine Hs 1000 (by simp only[go_sem,Hn,f0,f4,hc,h95];rfl) ?_;exact no (by simp[PJ,HZ,q1,q2,q3,h95]) _ (by simp only[go_sem,Hn,f0]<;>rfl) (by simp only[go_sem,Hn,f4]<;>rfl)
 ·refine Hs 1000 (by simp only[go_sem,Hn,ZL,f0,f4,hlt];rfl) ?_;refine h _ (by simp only[go_sem,Hn,f0]<;>rfl) ?_;have:k=s.length:=Fh;subst this;rw[hk,List.drop_length];exact (by simp only[go_sem,Hn,f4]<;>rfl)
theorem rl3 (C:Codes tab)(hs:(c::t).length≤4611686018427387904)(hk0':k0≤(c::t).length)(f0:fr.get 0=some (.str (c::t)))(f4:fr.get 4=some (.int .i64 (Fq k0)))(h:∀f,f.get 0=some (.str (c::t))→f.get 4=some (.int .i64 (Fq ((k0+(((c::t).drop k0).takeWhile HS).length))))→WS tab S f aw Q): WS tab (.code (.loop ZM) :: .endB 5::S) fr aw Q:=by
 refine OA (fun n f w=>∃k,f.get 0=some (.str (c::t))∧f.get 4=some (.int .i64 (Fq k))∧k0+(((c::t).drop k0).takeWhile HS).length=k+(((c::t).drop k).takeWhile HS).length∧k≤(c::t).length∧n=(c::t).length-k∧w=aw) ?_ ((c::t).length-k0) ⟨k0,f0,f4,rfl,hk0',rfl,rfl⟩;rintro n f w ⟨k,f0,f4,hk,hkl,rfl,rfl⟩ ih;generalize hS:c::t=s at *;by_cases hlt:k<s.length
 ·obtain⟨d,hc⟩:∃d,s[k]? = some d:=⟨_,FB hlt⟩
  have hd:s.drop k=d::s.drop (k+1):=by
   rw[FL hlt];rw[FB hlt]at hc;rw[FX hc]
  have hw:KX .i64 (Fq k+1)=Fq (k+1):=Hv Fh
  have yes:HS d=true→∀f',f'.get 0=some (.str s)→f'.get 4=some (.int .i64 (Fq (k+1)))→WS tab (.code (.loop ZM) :: .endB 5::S) f' w Q:=by
   intro hp f' g0 g4;refine ih (s.length-(k+1)) _ _ Fh ⟨k+1,g0,g4,?_,by omega,rfl,rfl⟩;rw[hk,hd,List.takeWhile_cons_of_pos hp,FC];omega
  have no:HS d=false→∀f',f'.get 0=some (.str s)→f'.get 4=some (.int .i64 (Fq k))→WS tab S f' w Q:=by
   intro hp f' g0 g4;refine h f' g0 ?_;rw[hk,hd,List.takeWhile_cons_of_neg (by simp[hp])];simpa using g4
  refine Ho 1000 (by simp only[go_sem,Hn,ZM,f0,f4,hlt,hc];rfl) ?_;refine Hq (by simp only[go_sem,Hn]) (by simp only[go_sem,Hn];rfl) ?_;refine Io C ?_;cases q1:HS d with
  | true =>
   refine Ho 1000 (by simp only[go_sem,Hn,f4,hw];rfl) ?_;exact yes (by simp[q1]) _ (by simp only[go_sem,Hn,f0]<;>rfl) (by simp only[go_sem,Hn]<;>rfl)
  | false =>
   refine Hs 1000 (by simp only[go_sem,Hn];rfl) ?_;exact no (by simp[q1]) _ (by simp only[go_sem,Hn,f0]<;>rfl) (by simp only[go_sem,Hn,f4]<;>rfl)
 ·refine Hs 1000 (by simp only[go_sem,Hn,ZM,f0,f4,hlt];rfl) ?_;refine h _ (by simp only[go_sem,Hn,f0]<;>rfl) ?_;have:k=s.length:=Fh;subst this;rw[hk,List.drop_length];exact (by simp only[go_sem,Hn,f4]<;>rfl)
section
open Go.AE Delphi
variable {tab:Tab}
def twos:Fx:=[[58,45],[33,61],[60,61]]
def ones:Fx:=[[40],[41],[44],[46],[33],[61],[60]]
theorem Jl5 (p:List Nat→Bool):signs.find? p=(match twos.find? p with|some g=>some g|none=>ones.find? p):=by
 show (twos++ones).find? p=_;rw[List.find?_append];cases twos.find? p<;>rfl
def isOne (c:Nat):Bool:=decide (c=40)||(decide (c=41)||(decide (c=44)||(decide (c=46)||(decide (c=33)||(decide (c=61)||decide (c=60))))))
theorem Jm1 (c:Nat)(t:List Nat):ones.find? (fun g=>g.isPrefixOf (c::t))=if isOne c then some [c]else none:=by
 simp only[ones,isOne];by_cases h1:c=40
 ·subst h1;rfl
 by_cases h2:c=41
 ·subst h2;rfl
 by_cases h3:c=44
 ·subst h3;rfl
 by_cases h4:c=46
 ·subst h4;rfl
 by_cases h5:c=33
 ·subst h5;rfl
 by_cases h6:c=61
 ·subst h6;rfl
 by_cases h7:c=60
 ·subst h7;rfl
 have e:∀n:Nat,¬c=n→(n==c)=false:=fun n hn=>beq_eq_false_iff_ne.2 (Ne.symm hn);simp[List.find?,List.isPrefixOf,h1,h2,h3,h4,h5,h6,h7,e 40 h1,e 41 h2,e 44 h3,e 46 h4,e 33 h5,e 61 h6,e 60 h7]
theorem NV {g s:List Nat}(hg:g.length=2):g.isPrefixOf s=(decide (2≤s.length)&&eqL (s.take 2) g):=by
 rw[Jia,hg]
def MX:ACode:=(.seq (.region [Qo 112 (.buildSlice 3 [(.str []),(.str []),(.str [])] [(0,1,(.const (.str [58,45]))),(1,1,(.const (.str [33,61]))),(2,1,(.const (.str [60,61])))]),Qm 5 112]) (.seq (QR [KH 6 0] (.block 7 (.loop Zf))) (.seq (QR [Qm 129 0,Qo 130 (.indexStr (Qu 129) (Qi 0))] (.block 9 Jt)) (QR [KH 2 0,KH 3 0] .ret))))
set_option maxRecDepth 10000 in
theorem JoV (C:Codes tab)(hs:(c::t).length≤4611686018427387904)(h:∀kind aw',((Hx (c::t)).2≠0→kind=(Hx (c::t)).1)→Ext aw.next aw aw'→K (.tuple [.int .i64 (Fq (Hx (c::t)).2),.int .i64 (Fq kind)]) aw'):WF tab VU [.str (c::t)] aw K:=by
 refine Hy C.Y4 rfl ?_;have h1l:1≤(c::t).length:=Fj;refine Ho 1000 (by simp only[go_sem,Hn,Ja,Gp];rfl) ?_;refine Hq (by simp only[go_sem,Hn]) (by simp only[go_sem,Hn];rfl) ?_;refine Ee C ?_;cases h1:OB c with
 | true =>
  have hl:Hx (c::t)=(1,1+(t.takeWhile HZ).length):=by
   have:HZ c=true:=by simp[HZ,h1]
   simp only[Hx,h1,if_true,List.takeWhile_cons_of_pos this,FC,Kz]
  rw[hl]at h;refine Ho 1000 (by simp only[go_sem,Hn];rfl) ?_;refine rl0 C hs h1l (by simp only[go_sem,Hn]<;>rfl) (by simp only[go_sem,Hn]<;>rfl) ?_;intro f f0 f4;simp only[List.drop_succ_cons,FY]at f4;refine Ho 1000 (by simp only[go_sem,Hn,f4];rfl) ?_;refine Hp ⟨_,by simp only[go_sem,Hn,Ja];rfl,?_⟩;exact h 1 aw (fun _=>rfl) (Ext.refl aw)
 | false =>
  refine Ho 1000 (by simp only[go_sem,Hn,Gn];rfl) ?_;refine Hq (by simp only[go_sem,Hn]) (by simp only[go_sem,Hn];rfl) ?_;refine Qv C ?_;cases h2:BZ c with
  | true =>
   have hl:Hx (c::t)=(2,1+(t.takeWhile PJ).length):=by
    have:PJ c=true:=by simp[PJ,h2]
    simp only[Hx,h1,h2,if_true,FM,if_false,List.takeWhile_cons_of_pos this,FC,Kz]
   rw[hl]at h;refine Ho 1000 (by simp only[go_sem,Hn];rfl) ?_;refine rl1 C hs h1l (by simp only[go_sem,Hn]<;>rfl) (by simp only[go_sem,Hn]<;>rfl) ?_;intro f f0 f4;simp only[List.drop_succ_cons,FY]at f4;refine Ho 1000 (by simp only[go_sem,Hn,f4];rfl) ?_;refine Hp ⟨_,by simp only[go_sem,Hn,Ja];rfl,?_⟩;exact h 2 aw (fun _=>rfl) (Ext.refl aw)
  | false =>
   refine Ho 1000 (by simp only[go_sem,Hn,Gm];rfl) ?_;refine Hq (by simp only[go_sem,Hn]) (by simp only[go_sem,Hn];rfl) ?_;refine Io C ?_;cases h3:HS c with
   | true =>
    have h45:¬c=45:=by intro he;subst he;revert h3;decide
    have hd:(HS c||decide (c=45))=true:=by simp[h3]
    have hl:Hx (c::t)=(3,if c=48 then 1 else 1+(t.takeWhile HS).length):=by
     simp only[Hx,h1,h2,hd,if_true,FM,if_false,Prod.mk.injEq,true_and];unfold Bb;simp only[List.head?_cons,FP,h45,if_false,FY,List.takeWhile_cons_of_pos h3,FC,Ke];rw[if_neg Fh,if_neg Fh];split
     ·rfl
     ·omega
    rw[hl]at h;by_cases h48:c=48
    ·refine Ho 1000 (by simp only[go_sem,Hn,ZN,h45,h48];rfl) ?_;refine Hp ⟨_,by simp only[go_sem,Hn,Ja];rfl,?_⟩;rw[if_pos h48]at h;exact h 3 aw (fun _=>rfl) (Ext.refl aw)
    ·refine Ho 1000 (by simp only[go_sem,Hn,ZN,h45,h48];rfl) ?_;refine rl3 C hs h1l (by simp only[go_sem,Hn]<;>rfl) (by simp only[go_sem,Hn]<;>rfl) ?_;intro f f0 f4;simp only[List.drop_succ_cons,FY]at f4;refine Ho 1000 (by simp only[go_sem,Hn,f4];rfl) ?_;refine Hp ⟨_,by simp only[go_sem,Hn,Ja];rfl,?_⟩;rw[if_neg h48]at h;exact h 3 aw (fun _=>rfl) (Ext.refl aw)
   | false =>
    have hsg:∀fr:Fr,fr.get 0=some (.str (c::t))→((Hx (c::t)).2=match signs.find? (fun g=>g.isPrefixOf (c::t))with|some g=>g.length|none=>0)→((Hx (c::t)).2≠0→(Hx (c::t)).1=4)→WS tab [.code MX] fr aw (fun fr' aw'=>∃vs,PQ fr' aw' Ja.results=some vs∧K (H7 vs) aw'):=by
     intro fr f0 hn hk;rw[Jl5,Jm1]at hn;refine Ho 1000 (by simp only[go_sem,Hn,MX,Hw,HF,V.cells,FC,FD,over];rfl) ?_
     have hload:∀(i:Nat) (g:List Nat),twos[i]? = some g→(aw.fresh [.str [58,45],.str [33,61],.str [60,61]]).load aw.next (0+i*1) 1=some [.str g]:=by
      intro i g hg;have hi:i<3:=(List.getElem?_eq_some_iff.1 hg).1;simp only[AW.load,AW.fresh,AW.new,T.get_putk,if_true,AW.alive,FU,KA]
      match i,hi with
      | 0,_|1,_|2,_=>simp[twos]at hg;subst hg;rfl
     have hext:Ext aw.next aw (aw.fresh [.str [58,45],.str [33,61],.str [60,61]]):=Ext.new (FH _) _;generalize aw.fresh [.str [58,45],.str [33,61],.str [60,61]]=aw1 at hload hext;refine OA (fun n f w=>∃i,f.get 0=some (.str (c::t))∧f.get 5=some (.slice aw.next 0 3 (.known 3))∧f.get 6=some (.int .i64 (Fq i))∧twos.find? (fun g=>g.isPrefixOf (c::t))=(twos.drop i).find? (fun g=>g.isPrefixOf (c::t))∧i≤3∧n=3-i∧w=aw1) ?_ 3 ⟨0,(by simp only[go_sem,Hn,f0]<;>rfl),(by simp only[go_sem,Hn]<;>rfl),(by simp only[go_sem,Hn]<;>rfl),rfl,by omega,rfl,rfl⟩;rintro n f w ⟨i,f0,f5,f6,hf,hi,rfl,rfl⟩ ih;by_cases hlt:i<3
     ·obtain⟨g,hg⟩:∃g,twos[i]? = some g:=⟨_,FB (by simpa[twos]using hlt)⟩
      have hd:twos.drop i=g::twos.drop (i+1):=by
       have hl:i<twos.length:=by simpa[twos]using hlt
       rw[FL hl];rw[FB hl]at hg;rw[FX hg]
      have hg2:g.length=2:=by
       have hm:=FI hg;simp only[twos,FJ,FZ,or_false]at hm;rcases hm with rfl|rfl|rfl<;>rfl
      have hld:=hload i g hg;have hw:KX .i64 (Fq i+1)=Fq (i+1):=Hv Fh
      have next:g.isPrefixOf (c::t)=false→∀f',f'.get 0=some (.str (c::t))→f'.get 5=some (.slice aw.next 0 3 (.known 3))→f'.get 6=some (.int .i64 (Fq (i+1)))→WS tab _ f' w _:=fun hp f' g0 g5 g6 =>
       ih (3-(i+1)) f' w Fh ⟨i+1,g0,g5,g6,by rw[hf,hd,List.find?_cons_of_neg (by simp[hp])],by omega,rfl,rfl⟩
      by_cases hl2:2≤(c::t).length
      ·have hz:0≤2:=Fh;have hp:=NV (g:=g) (s:=c::t) hg2;rw[decide_eq_true hl2,Bool.true_and]at hp;cases he:eqL ((c::t).take 2) g with
       | true =>
        rw[he]at hp;refine Ho 1000 (by simp only[go_sem,Hn,Zf,Y3,f0,f5,f6,hlt,hl2,hz,hld,FY,Nat.sub_zero,LX,he];rfl) ?_;refine Hp ⟨_,by simp only[go_sem,Hn,Ja];rfl,?_⟩;rw[hf,hd,List.find?_cons_of_pos (by simpa using hp)]at hn;simp only[hg2]at hn;have:=h 4 w (fun hne=>(hk hne).symm) hext;rw[hn]at this;exact this
       | false =>
        rw[he]at hp;refine Ho 1000 (by simp only[go_sem,Hn,Zf,Y3,f0,f5,f6,hlt,hl2,hz,hld,FY,Nat.sub_zero,LX,he,hw];rfl) ?_;exact next hp _ (by simp only[go_sem,Hn,f0]<;>rfl) (by simp only[go_sem,Hn,f5]<;>rfl) (by simp only[go_sem,Hn]<;>rfl)
      ·have hp:g.isPrefixOf (c::t)=false:=by rw[NV hg2,decide_eq_false hl2];rfl
       refine Ho 1000 (by simp only[go_sem,Hn,Zf,Y3,f0,f5,f6,hlt,hl2,hw];rfl) ?_;exact next hp _ (by simp only[go_sem,Hn,f0]<;>rfl) (by simp only[go_sem,Hn,f5]<;>rfl) (by simp only[go_sem,Hn]<;>rfl)
     ·have:i=3:=Fh;subst this;have hno:twos.find? (fun g=>g.isPrefixOf (c::t))=none:=by rw[hf];rfl
      rw[hno]at hn;simp only at hn;refine Hs 1000 (by simp only[go_sem,Hn,Zf,f0,f6,hlt];rfl) ?_
      have yes:isOne c=true→K (.tuple [.int .i64 1,.int .i64 4]) w:=by
       intro ho;rw[if_pos ho]at hn;simp only[FC,FD]at hn;have:=h 4 w (fun hne=>(hk hne).symm) hext;rw[hn]at this;exact this
      have no:isOne c=false→K (.tuple [.int .i64 0,.int .i64 0]) w:=by
       intro ho;rw[ho]at hn;simp only[FM,if_false]at hn;have:=h 0 w (fun hne=>absurd hn hne) hext;rw[hn]at this;exact this
      unfold isOne at yes no;by_cases c40:c=40
      ·refine Ho 1000 (by simp only[go_sem,Hn,Jt,Jz,Jy,Jx,f0,c40];rfl) ?_;refine Hp ⟨_,by simp only[go_sem,Hn,Ja];rfl,?_⟩;exact yes (by simp[c40])
      by_cases c41:c=41
      ·refine Ho 1000 (by simp only[go_sem,Hn,Jt,Jz,Jy,Jx,f0,c40,c41];rfl) ?_;refine Hp ⟨_,by simp only[go_sem,Hn,Ja];rfl,?_⟩;exact yes (by simp[c41])
      by_cases c44:c=44
      ·refine Ho 1000 (by simp only[go_sem,Hn,Jt,Jz,Jy,Jx,f0,c40,c41,c44];rfl) ?_;refine Hp ⟨_,by simp only[go_sem,Hn,Ja];rfl,?_⟩;exact yes (by simp[c44])
      by_cases c46:c=46
      ·refine Ho 1000 (by simp only[go_sem,Hn,Jt,Jz,Jy,Jx,f0,c40,c41,c44,c46];rfl) ?_;refine Hp ⟨_,by simp only[go_sem,Hn,Ja];rfl,?_⟩;exact yes (by simp[c46])
      by_cases c33:c=33
      ·refine Ho 1000 (by simp only[go_sem,Hn,Jt,Jz,Jy,Jx,f0,c40,c41,c44,c46,c33];rfl) ?_;refine Hp ⟨_,by simp only[go_sem,Hn,Ja];rfl,?_⟩;exact yes (by simp[c33])
      by_cases c61:c=61
      ·refine Ho 1000 (by simp only[go_sem,Hn,Jt,Jz,Jy,Jx,f0,c40,c41,c44,c46,c33,c61];rfl) ?_;refine Hp ⟨_,by simp only[go_sem,Hn,Ja];rfl,?_⟩;exact yes (by simp[c61])
      by_cases c60:c=60
      ·refine Ho 1000 (by simp only[go_sem,Hn,Jt,Jz,Jy,Jx,f0,c40,c41,c44,c46,c33,c61,c60];rfl) ?_;refine Hp ⟨_,by simp only[go_sem,Hn,Ja];rfl,?_⟩;exact yes (by simp[c60])
      refine Ho 1000 (by simp only[go_sem,Hn,Jt,Jz,Jy,Jx,f0,c40,c41,c44,c46,c33,c61,c60];rfl) ?_;refine Hp ⟨_,by simp only[go_sem,Hn,Ja];rfl,?_⟩;exact no (by simp[c40,c41,c44,c46,c33,c61,c60])
    have hne:(Hx (c::t)).2=0→¬HS c=true→c=45→∀fr:Fr,fr.get 0=some (.str (c::t))→WS tab [.code MX] fr aw (fun fr' aw'=>∃vs,PQ fr' aw' Ja.results=some vs∧K (H7 vs) aw'):=by
     intro hz _ he fr f0;refine hsg fr f0 ?_ (fun hn=>absurd hz hn);rw[hz];subst he;rfl
    by_cases h45:c=45
    ·have hl:Hx (c::t)=(3,Bb (c::t)):=by
      subst h45;rfl
     have e45:¬HS c=true:=by rw[h3];simp
     cases t with
     | nil =>
      have hnl:Bb [c]=0:=by subst h45;rfl
      refine Hs 20 (by simp only[go_sem,Hn,h45,FC,FD];rfl) ?_;refine hne (by rw[hl];exact hnl) e45 h45 _ (by simp only[go_sem,Hn,h45]<;>rfl)
     | cons d u =>
      have hlen:1<(45::d::u).length:=Fj;have hh:(c::d::u).head? = some 45:=by rw[h45];rfl
      refine Ho 1000 (by simp only[go_sem,Hn,h45,hlen];rfl) ?_;refine Hq (by simp only[go_sem,Hn]) (by simp only[go_sem,Hn];rfl) ?_;refine Io C ?_;cases hd:HS d with
      | false =>
       have hnl:Bb (c::d::u)=0:=by
        subst h45;have e0:((d::u).takeWhile HS)=[]:=List.takeWhile_cons_of_neg (by simp[hd]);simp[Bb,e0]
       refine Hs 7 (by simp only[go_sem,Hn];rfl) ?_;refine hne (by rw[hl];exact hnl) e45 h45 _ (by simp only[go_sem,Hn,h45]<;>rfl)
      | true =>
       have hd1:((d::u).takeWhile HS).length=1+(u.takeWhile HS).length:=by rw[List.takeWhile_cons_of_pos hd,FC,Kz]
       have hnl:Bb (c::d::u)=if d=48 then 0 else 1+(1+(u.takeWhile HS).length):=by
        unfold Bb;rw[hh];simp only[if_true,List.drop_succ_cons,FY,hd1,Kg,Ke,FP,true_and];rw[if_neg Fh];split<;>rfl
       by_cases h48:d=48
       ·refine Ho 1000 (by simp only[go_sem,Hn,ZN,W0,h48,h45];rfl) ?_;refine Hp ⟨_,by simp only[go_sem,Hn,Ja];rfl,?_⟩;rw[if_pos h48]at hnl;have:=h 0 aw (fun hn=>absurd (by rw[hl];exact hnl) hn) (Ext.refl aw);rw[hl,hnl]at this;exact this
       ·refine Ho 1000 (by simp only[go_sem,Hn,ZN,W0,h48,h45];rfl) ?_;refine rl3 (c:=45) (t:=d::u) C (by simpa using hs) (k0:=2) Fj (by simp only[go_sem,Hn]<;>rfl) (by simp only[go_sem,Hn]<;>rfl) ?_;intro f f0 f4;refine Ho 1000 (by simp only[go_sem,Hn,f4];rfl) ?_;refine Hp ⟨_,by simp only[go_sem,Hn,Ja];rfl,?_⟩;rw[if_neg h48]at hnl;have:=h 3 aw (fun _=>by rw[hl]) (Ext.refl aw);rw[hl,hnl]at this;have e:2+(List.takeWhile HS (List.drop 2 (45::d::u))).length=1+(1+(u.takeWhile HS).length):=by simp;omega
        rw[e];exact this
    ·have hd:(HS c||decide (c=45))=false:=by simp[h3,h45]
     have hl:Hx (c::t)=(match signs.find? (fun g=>g.isPrefixOf (c::t))with
       | some g=>(4,g.length)
       | none=>(0,0)):=by
      simp only[Hx,h1,h2,hd,FM,if_false];rfl
     refine Hs 20 (by simp only[go_sem,Hn,h45];rfl) ?_;refine hsg _ (by simp only[go_sem,Hn]<;>rfl) ?_ ?_
     ·rw[hl];cases signs.find? (fun g=>g.isPrefixOf (c::t))<;>rfl
     ·rw[hl];cases signs.find? (fun g=>g.isPrefixOf (c::t))with
      | none=>intro hn;exact absurd rfl hn
      | some g=>intro _;rfl
end
section
open Go.AE Delphi
variable {tab:Tab}
def Mo (s:List Nat) (l:List Wd) (ok:Bool) (aw:AW) (n:Nat) (f:Fr) (w:AW):Prop:=∃i v done,f.get 0=some (.str s)∧f.get 5=some (.int .i64 (Fq i))∧f.get 4=some v∧Own aw.next w v 3 done.length (TE done)∧Ext aw.next aw w∧i≤s.length∧
  (l,ok)=(done++(scan i (s.drop i)).1,(scan i (s.drop i)).2)∧done.length≤i∧n=s.length-i
set_option maxRecDepth 10000 in
set_option maxHeartbeats 1000000 in
theorem JoU (C:Codes tab){s:List Nat}(hs:s.length≤1099511627776)(h1:4000<s.length→K (.tuple [.nilslice,.int .i64 8]) aw)(h2:s.length≤4000→∀v aw',Own aw.next aw' v 3 (scan 0 s).1.length (TE (scan 0 s).1)→Ext aw.next aw aw'→K (.tuple [v,.int .i64 (if (scan 0 s).2 then 0 else 4)]) aw'):WF tab VN [.str s] aw K:=by
 refine Hy C.YO rfl ?_;obtain⟨l,ok,hres⟩:∃l ok,scan 0 s=(l,ok):=⟨_,_,rfl⟩;rw[hres]at h2;simp only at h2;by_cases hl:4000<s.length
 ·refine Ho 1000 (by simp only[go_sem,Hn,JJ,hl];rfl) ?_;refine Hp ⟨_,by simp only[go_sem,Hn,JJ];rfl,?_⟩;exact h1 hl
 have h2:=h2 Fh;refine Ho 1000 (by simp only[go_sem,Hn,JJ,hl];rfl) ?_;refine OA (Mo s l ok aw) ?_ s.length ⟨0,.nilslice,[],(by simp only[go_sem,Hn]<;>rfl),(by simp only[go_sem,Hn]<;>rfl),(by simp only[go_sem,Hn]<;>rfl),.nil,Ext.refl aw,by omega,by rw[←hres];simp,by simp,rfl⟩;rintro n f w ⟨i,v,done,f0,f5,f4,hown,hext,hi,hsc,hdl,rfl⟩ ih;by_cases hlt:i<s.length
 ·obtain⟨c,hc⟩:∃c,s[i]? = some c:=⟨_,FB hlt⟩
  have hd0:s.drop i=c::s.drop (i+1):=by
   rw[FL hlt];rw[FB hlt]at hc;rw[FX hc]
  have hw:KX .i64 (Fq i+1)=Fq (i+1):=Hv Fh
  have skip:∀(j:Nat) f',i<j→j≤s.length→blk false (s.drop i)=(j-i)+blk false (s.drop j)→f'.get 0=some (.str s)→f'.get 5=some (.int .i64 (Fq j))→f'.get 4=some v→Mo s l ok aw (s.length-j) f' w:=by
   intro j f' hij hj hb g0 g5 g4;refine⟨j,v,done,g0,g5,g4,hown,hext,hj,?_,by omega,rfl⟩;have e:s.drop j=(s.drop i).drop (j-i):=by rw[List.drop_drop];congr 1;omega
   rw[hsc,Rs i (s.drop i) (j-i) (by rw[←e];exact hb),←e,show i+(j-i)=j by omega]
  have skip1:Bf c=true→∀f',f'.get 0=some (.str s)→f'.get 5=some (.int .i64 (Fq (i+1)))→f'.get 4=some v→Mo s l ok aw (s.length-(i+1)) f' w:=fun hb f' g0 g5 g4 =>
   skip (i+1) f' Fh Fh (by rw[hd0];simp only[blk,hb,if_true];omega) g0 g5 g4
  have rest:True:=trivial;by_cases b32:c=32
  ·refine Ho 1000 (by simp only[go_sem,Hn,JI,JP,f0,f5,hlt,hc,hw,b32];rfl) ?_;exact ih _ _ _ Fh (skip1 (by simp[Bf,b32]) _ (by simp only[go_sem,Hn,f0]<;>rfl) (by simp only[go_sem,Hn]<;>rfl) (by simp only[go_sem,Hn,f4]<;>rfl))
  by_cases b9:c=9
  ·refine Ho 1000 (by simp only[go_sem,Hn,JI,JP,f0,f5,hlt,hc,hw,b32,b9];rfl) ?_;exact ih _ _ _ Fh (skip1 (by simp[Bf,b32,b9]) _ (by simp only[go_sem,Hn,f0]<;>rfl) (by simp only[go_sem,Hn]<;>rfl) (by simp only[go_sem,Hn,f4]<;>rfl))
  by_cases b10:c=10
  ·refine Ho 1000 (by simp only[go_sem,Hn,JI,JP,f0,f5,hlt,hc,hw,b32,b9,b10];rfl) ?_;exact ih _ _ _ Fh (skip1 (by simp[Bf,b32,b9,b10]) _ (by simp only[go_sem,Hn,f0]<;>rfl) (by simp only[go_sem,Hn]<;>rfl) (by simp only[go_sem,Hn,f4]<;>rfl))
  by_cases b13:c=13
  ·refine Ho 1000 (by simp only[go_sem,Hn,JI,JP,f0,f5,hlt,hc,hw,b32,b9,b10,b13];rfl) ?_;exact ih _ _ _ Fh (skip1 (by simp[Bf,b32,b9,b10,b13]) _ (by simp only[go_sem,Hn,f0]<;>rfl) (by simp only[go_sem,Hn]<;>rfl) (by simp only[go_sem,Hn,f4]<;>rfl))
  have hnb:Bf c=false:=by simp[Bf,b32,b9,b10,b13]
  by_cases h37:c=37
  ·refine Ho 1000 (by simp only[go_sem,Hn,JI,JP,f0,f5,hlt,hc,b32,b9,b10,b13,h37];rfl) ?_;refine OA (fun n f' w'=>∃j,f'.get 0=some (.str s)∧f'.get 5=some (.int .i64 (Fq j))∧f'.get 4=some v∧i≤j∧j≤s.length∧blk false (s.drop i)=(j-i)+blk true (s.drop j)∧n=s.length-j∧w'=w) ?_ (s.length-i) ⟨i,(by simp only[go_sem,Hn,f0]<;>rfl),(by simp only[go_sem,Hn,f5]<;>rfl),(by simp only[go_sem,Hn,f4]<;>rfl),by omega,hi,?_,rfl,rfl⟩
   ·rintro n f' w' ⟨j,g0,g5,g4,hij,hj,hbj,rfl,rfl⟩ ih2;by_cases hjl:j<s.length
    ·obtain⟨d,hdc⟩:∃d,s[j]? = some d:=⟨_,FB hjl⟩
     have hdj:s.drop j=d::s.drop (j+1):=by
      rw[FL hjl];rw[FB hjl]at hdc;rw[FX hdc]
     have hwj:KX .i64 (Fq j+1)=Fq (j+1):=Hv Fh;by_cases h10:d=10
     ·refine Ho 1000 (by simp only[go_sem,Hn,YM,g0,g5,hjl,hdc,h10];rfl) ?_
      have hne:i≠j:=by
       intro he;subst he;rw[hc]at hdc;cases hdc;omega
      refine ih _ _ _ Fh (skip j _ Fh hj ?_ (by simp only[go_sem,Hn,g0]<;>rfl) (by simp only[go_sem,Hn,g5]<;>rfl) (by simp only[go_sem,Hn,g4]<;>rfl));rw[hbj,hdj,h10];simp[blk,Bf]
     ·refine Ho 1000 (by simp only[go_sem,Hn,YM,g0,g5,hjl,hdc,h10,hwj];rfl) ?_;refine ih2 (s.length-(j+1)) _ _ Fh ⟨j+1,(by simp only[go_sem,Hn,g0]<;>rfl),(by simp only[go_sem,Hn]<;>rfl),(by simp only[go_sem,Hn,g4]<;>rfl),by omega,by omega,?_,rfl,rfl⟩;rw[hbj,hdj];simp only[blk,if_neg h10];omega
    ·have:j=s.length:=Fh;subst this;refine Ho 1000 (by simp only[go_sem,Hn,YM,g0,g5,hjl];rfl) ?_;refine ih _ _ _ Fh (skip s.length _ hlt hj ?_ (by simp only[go_sem,Hn,g0]<;>rfl) (by simp only[go_sem,Hn,g5]<;>rfl) (by simp only[go_sem,Hn,g4]<;>rfl));rw[hbj,List.drop_length];simp[blk]
   ·rw[hd0,h37];simp[blk,Bf]
  ·-- a word
   obtain⟨t,hd⟩:∃t,s.drop i=c::t:=⟨_,hd0⟩;have hbl:blk false (s.drop i)=0:=by rw[hd];simp[blk,hnb,h37]
   have hle:=Rk (c::t);have hlen:(c::t).length=s.length-i:=by rw[←hd];simp
   rw[IG,hbl,FY,hd]at hsc;simp only[KD]at hsc;refine Ho 1000 (by simp only[go_sem,Hn,JI,JP,YN,f0,f5,hlt,hi,hc,b32,b9,b10,b13,h37];rfl) ?_;refine Hq (by simp only[go_sem,Hn]) (by simp only[go_sem,Hn];rfl) ?_;rw[hd];refine JoV (c:=c) (t:=t) C Fh ?_;intro kind w1 hkd hx1;generalize hlw:Hx (c::t)=lw at hle hsc hkd;obtain⟨k,m⟩:=lw;simp only at hle hsc hkd;by_cases hm:m=0
   ·rw[if_pos (.inl hm)]at hsc;have e1:l=done:=by simpa using (Prod.mk.inj hsc).1
    have e2:ok=false:=(Prod.mk.inj hsc).2;have fin:=h2 v w1 (by rw[e1];exact hown.ext (FH _) hx1) (hext.trans (hx1.mono hext.le'));rw[e2]at fin;refine Ho 1000 (by simp only[go_sem,Hn,f4,hm];rfl) ?_;refine Hp ⟨_,by simp only[go_sem,Hn,JJ];rfl,?_⟩;exact fin
   obtain rfl:=hkd hm
   have hk4:kind≤4:=by
    have:(Hx (c::t)).1≤4:=by
     simp only[Hx]
     (repeat' split)<;>simp
    rw[hlw]at this;exact this
   by_cases hbad:kind≠4∧16<m
   ·rw[if_pos (.inr hbad)]at hsc;have e1:l=done:=by simpa using (Prod.mk.inj hsc).1
    have e2:ok=false:=(Prod.mk.inj hsc).2;have fin:=h2 v w1 (by rw[e1];exact hown.ext (FH _) hx1) (hext.trans (hx1.mono hext.le'));rw[e2]at fin;obtain⟨hk4',hm16⟩:=hbad;have hk4'':kind<4:=Fh;refine Ho 1000 (by simp only[go_sem,Hn,f4,hm,hk4'',hm16];rfl) ?_;refine Hp ⟨_,by simp only[go_sem,Hn,JJ];rfl,?_⟩;exact fin
   ·rw[if_neg (by intro hh;rcases hh with hh|hh;exact hm hh;exact hbad hh)]at hsc;have hw1:KX .i64 (Fq i+Fq m)=Fq (i+m):=CP Fh;have hc1:i+m≤s.length:=Fh;have hc2:i≤i+m:=Nat.le_add_right _ _;have hown1:=hown.ext (FH _) hx1;have hN1:aw.next≤w1.next:=Kj hext.le' hx1.next;obtain⟨v2,w2,happ,hown2,hx2⟩:=hown1.push (bytes:=32) hN1 Fh (news:=P4 ⟨kind,(s.drop i).take m,i⟩) rfl rfl Fh Fh;have hel:=Pl (w:=w1) (esz:=3) (n:=1) (c:=.known 1) (cs:=P4 ⟨kind,(s.drop i).take m,i⟩) Fh rfl;simp only[P4]at happ hel;by_cases hk4:kind<4
    ·have h16:¬16<m:=fun hh=>hbad ⟨by omega,hh⟩;refine Ho 1000 (by simp only[go_sem,Hn,f0,f5,f4,hm,hk4,h16,hw1,hc1,hc2,YN,Hw,HF,V.cells,over,FC,FD,hel,happ];rfl) ?_;refine ih (s.length-(i+m)) _ _ Fh ⟨i+m,v2,done++[⟨kind,(s.drop i).take m,i⟩],(by simp only[go_sem,Hn,f0]<;>rfl),(by simp only[go_sem,Hn]<;>rfl),(by simp only[go_sem,Hn]<;>rfl),?_,hext.trans ((hx1.mono hext.le').trans hx2),by omega,?_,by simp only[FE,FC,FD];omega,rfl⟩
     ·rw[Nn,FE];exact hown2
     ·rw[hsc,hd];have hdr:(c::t).drop m=s.drop (i+m):=by rw[←hd,List.drop_drop]
      rw[hdr];simp
    ·have h16:True:=trivial;refine Ho 1000 (by simp only[go_sem,Hn,f0,f5,f4,hm,hk4,h16,hw1,hc1,hc2,YN,Hw,HF,V.cells,over,FC,FD,hel,happ];rfl) ?_;refine ih (s.length-(i+m)) _ _ Fh ⟨i+m,v2,done++[⟨kind,(s.drop i).take m,i⟩],(by simp only[go_sem,Hn,f0]<;>rfl),(by simp only[go_sem,Hn]<;>rfl),(by simp only[go_sem,Hn]<;>rfl),?_,hext.trans ((hx1.mono hext.le').trans hx2),by omega,?_,by simp only[FE,FC,FD];omega,rfl⟩
     ·rw[Nn,FE];exact hown2
     ·rw[hsc,hd];have hdr:(c::t).drop m=s.drop (i+m):=by rw[←hd,List.drop_drop]
      rw[hdr];simp
 ·have:i=s.length:=Fh;subst this;refine Ho 1000 (by simp only[go_sem,Hn,JI,f0,f5,f4,hlt];rfl) ?_;refine Hp ⟨_,by simp only[go_sem,Hn,JJ];rfl,?_⟩;rw[List.drop_length]at hsc;have hz:scan s.length ([]:List Nat)=([],true):=by rw[IG];rfl
  rw[hz]at hsc;have e1:l=done:=by simpa using (Prod.mk.inj hsc).1
  have e2:ok=true:=(Prod.mk.inj hsc).2;have:=h2 v w (by rw[e1];exact hown) hext;rw[e2]at this;exact this
end
end Go.Proofs.YtegdcbdicpfbpaaDoor
set_option linter.unusedSectionVars false
namespace Go.AE
variable [Globs]
structure Frm (S:Fw) (w w':AW):Prop where
 next:w.next≤w'.next
 heap:∀b,b<w.next→¬S b→w'.heap.get b=w.heap.get b
 fams:∀b,b<w.next→¬S b→w'.fams.get b=w.fams.get b
variable {S:Fw}
theorem Frm.refl (w:AW):Frm S w w:=⟨FH _,fun _ _ _=>rfl,fun _ _ _=>rfl⟩
variable {T:Fw}
theorem Frm.trans {U:Fw}{a b c:AW}(h:Frm S a b)(h':Frm T b c)(hs:∀x,x<a.next→S x→U x)(ht:∀x,x<a.next→T x→U x):Frm U a c:=
 ⟨Kj h.next h'.next,fun k hk hu=>(h'.heap k (FK hk h.next) fun x=>hu (ht k hk x)).trans (h.heap k hk fun x=>hu (hs k hk x)),fun k hk hu=>(h'.fams k (FK hk h.next) fun x=>hu (ht k hk x)).trans (h.fams k hk fun x=>hu (hs k hk x))⟩
theorem Frm.mono {a b:AW}(h:Frm S a b)(hs:∀x,x<a.next→S x→T x):Frm T a b:=⟨h.next,fun k hk hu=>h.heap k hk fun x=>hu (hs k hk x),fun k hk hu=>h.fams k hk fun x=>hu (hs k hk x)⟩
theorem Frm.new (w:AW)(x:Blk):Frm S w (w.new x):=⟨Nat.le_succ _,fun b hb _=>T.get_put_ne Fh,fun _ _ _=>rfl⟩
variable {w w':AW}
theorem Ext.frm {N:Nat}(h:Ext N w w')(hs:∀x,x<w.next→N≤x→S x):Frm S w w':=
 ⟨h.next,fun b hb hn=>h.heap b (Nat.lt_of_not_le fun x=>hn (hs b hb x)),fun b hb hn=>h.fams b (Nat.lt_of_not_le fun x=>hn (hs b hb x))⟩
theorem Frm.ext {N:Nat}(h:Frm S w w')(hN:N≤w.next)(hs:∀x,S x→N≤x):Ext N w w':=
 ⟨hN,h.next,fun b hb=>h.heap b Fh fun x=>by have:=hs b x;omega,fun b hb=>h.fams b Fh fun x=>by have:=hs b x;omega⟩
def LC (S S':Fw) (w w':AW):Prop:=∀b,S' b→b<w'.next∧(S b∨w.next≤b)
def Shr (S:Fw) (w:AW) (b:Nat) (sh:Share):Prop :=
 sh = .own∨sh = .lax∨∃f F,sh = .fam f∧S f∧f<w.next∧w.fams.get f=some F∧F.last=b∧F.floor≤w.next∧w.alive b sh=true
variable {b:Nat} {sh:Share}
theorem Shr.alive (h:Shr S w b sh):w.alive b sh=true:=by
 rcases h with rfl|rfl|⟨f,F,rfl,h1,h2,h3,h4,h6,h5⟩
 ·rfl
 ·rfl
 ·exact h5
theorem Shr.mono {S':Fw}(h:Shr S w b sh)(hs:∀x,S x→S' x):Shr S' w b sh:=by
 rcases h with rfl|rfl|⟨f,F,rfl,h1,h2⟩
 ·exact .inl rfl
 ·exact .inr (.inl rfl)
 ·exact .inr (.inr ⟨f,F,rfl,hs _ h1,h2⟩)
theorem Shr.frm (h:Shr S w b sh)(hf:Frm T w w')(hd:∀x,S x→¬T x):Shr S w' b sh:=by
 rcases h with rfl|rfl|⟨f,F,rfl,h1,h2,h3,h4,h6,h5⟩
 ·exact .inl rfl
 ·exact .inr (.inl rfl)
 ·have e:=hf.fams f h2 (hd f h1);refine .inr (.inr ⟨f,F,rfl,h1,FK h2 hf.next,e.trans h3,h4,Kj h6 hf.next,?_⟩);simp only[AW.alive,h3,e.trans h3]at h5 ⊢;exact h5
inductive Buf (S:Nat→Prop) (w:AW):V→Nat→Nat→List V→Prop
 | nil {esz:Nat}:Buf S w .nilslice esz 0 []
 | blk {b n esz r:Nat} {cs rest:List V} {sh:Share} (hS:S b) (hb:b<w.next) (hx:w.heap.get b=some (.cells (cs++rest) sh)) (hl:cs.length=n*esz) (hr:rest.length=r*esz) (he:0<esz) (hn:0<n+r) (hs:Shr S w b sh) :
   Buf S w (.slice b 0 n (.upTo esz)) esz n cs
variable {v:V} {esz n:Nat} {cs:List V}
theorem Buf.mono {S':Fw}(h:Buf S w v esz n cs)(hs:∀x,S x→S' x):Buf S' w v esz n cs:=by
 cases h with
 | nil=>exact .nil
 | blk hS hb hx hl hr he hn hsh=>exact .blk (hs _ hS) hb hx hl hr he hn (hsh.mono hs)
theorem Buf.frm (h:Buf S w v esz n cs)(hf:Frm T w w')(hd:∀x,S x→¬T x):Buf S w' v esz n cs:=by
 cases h with
 | nil=>exact .nil
 | blk hS hb hx hl hr he hn hsh=>exact .blk hS (FK hb hf.next) ((hf.heap _ hb (hd _ hS)).trans hx) hl hr he hn (hsh.frm hf hd)
theorem Buf.len (h:Buf S w v esz n cs):cs.length=n*esz:=by
 cases h with
 | nil=>simp
 | blk hS hb hx hl hr he hn hsh=>exact hl
theorem Buf.inv (h:Buf S w v esz n cs):(v = .nilslice∧n=0∧cs=[])∨∃b,v = .slice b 0 n (.upTo esz)∧S b∧b<w.next:=by
 cases h with
 | nil=>exact .inl ⟨rfl,rfl,rfl⟩
 | blk hS hb hx hl hr he hn hsh=>exact .inr ⟨_,rfl,hS,hb⟩
theorem Buf.load {c:Cap}(h:Buf S w (.slice b 0 n c) esz n cs){o k:Nat}(hk:o+k≤cs.length):w.load b o k=some ((cs.drop o).take k):=by
 cases h with
 | blk hS hb hx hl hr he hn hsh =>
  simp only[AW.load,hx,hsh.alive];rw[Cf _ _ (by simp;omega),List.drop_append_of_le_length Fh,List.take_append_of_le_length (by simp;omega)]
theorem Buf.load1 {c:Cap}{x:V}(h:Buf S w (.slice b 0 n c) 1 n cs){i:Nat}(hi:cs[i]? = some x):w.load b (0+i*1) 1=some [x]:=by
 have hlt:i<cs.length:=(List.getElem?_eq_some_iff.1 hi).1;rw[h.load Fh,FU,KA,FL hlt];rw[FB hlt]at hi;rw[FX hi];rfl
theorem TA:∀(a b c d:List V),d.length=b.length→over (a++b++c) a.length d=some (a++d++c)
 | [],b,c,d,h=>by
  have:∀(b d:List V),d.length=b.length→over (b++c) 0 d=some (d++c):=by
   intro b;induction b with
   | nil=>intro d h;cases d with
    | nil=>cases hc:c<;>rfl
    | cons x d=>simp at h
   | cons y b ih=>intro d h;cases d with
    | nil=>simp at h
    | cons x d=>simp only[List.cons_append,over,ih d (by simpa using h)]
  simpa using this b d h
 | x::a,b,c,d,h=>by
  have:=TA a b c d h;simp only[List.cons_append,FC,over,this]
variable {l:List V}
theorem OI (hS:S b)(hs:Shr S w b sh):Frm S w (w.turn b (.cells l sh)):=by
 refine⟨FH _,fun c hc hn=>T.get_put_ne fun e=>hn (e▸hS),fun c hc hn=>?_⟩;rcases hs with rfl|rfl|⟨f,F,rfl,h1,h2⟩
 ·rfl
 ·rfl
 ·exact T.get_put_ne fun e=>hn (e▸h1)
theorem JjK (hb:b<w.next)(hs:Shr S w b sh):Shr S (w.turn b (.cells l sh)) b sh:=by
 rcases hs with rfl|rfl|⟨f,F,rfl,h1,h2,h3⟩
 ·exact .inl rfl
 ·exact .inr (.inl rfl)
 ·have e:(w.turn b (.cells l (.fam f))).fams.get f=some ⟨b,w.next,b⟩:=T.get_put_same;exact .inr (.inr ⟨f,_,rfl,h1,h2,e,rfl,FH _,by simp only[AW.alive,e,Nat.beq_refl,Bool.true_or]⟩)
theorem Iq {o:Nat}{l' vs:List V}(hx:w.heap.get b=some (.cells l sh))(hs:Shr S w b sh)(h1:HB vs=true)(ho:over l o vs=some l'):w.store b o vs=some (w.turn b (.cells l' sh)):=by
 have ha:=hs.alive;rcases hs with rfl|rfl|⟨f,F,rfl,_⟩<;>simp only[AW.store,hx,ha,h1,ho]
variable {bytes:Nat} {news:List V}
theorem Buf.add (h:Buf S w v esz n cs)(he:0<esz)(hl:news.length=esz)(h1:HB news=true)(hb:(n+1)*bytes≤70368744177664)(hb':n+1≤70368744177664): ∃v' w' S',w.appendV esz bytes v 1 news=some (v',w')∧Buf S' w' v' esz (n+1) (cs++news)∧Frm S w w'∧LC S S' w w':=by
 have hcl:=h.len;cases h with
 | nil =>
  refine⟨.slice w.next 0 1 (.upTo esz),w.fresh news,fun b=>b=w.next,?_,?_,Frm.new _ _,?_⟩
  ·simp only[AW.appendV];rw[if_pos ⟨by simpa using hb,by omega⟩]
  ·exact .blk (r:=0) (rest:=[]) rfl (FV _) (by rw[Kb];exact T.get_put_same) (by simpa using hl) Fj he Fh (.inl rfl)
  ·rintro b rfl;exact⟨FV _,.inr (FH _)⟩
 | @blk b _ _ r _ rest sh hS hbw hx hlen hr he' hn hs =>
  have happ:w.appendV esz bytes (.slice b 0 n (.upTo esz)) 1 news=w.appendUp esz b 0 n 1 news:=if_pos ⟨rfl,hb,hb',h1,he⟩;rw[happ];cases r with
  | succ r =>
   have hne:Nat.beq (0+n*esz) (cs++rest).length=false:=by
    rw[Mi,decide_eq_false_iff_not,FE,hlen,hr,Nat.add_mul,Nat.one_mul];omega
   have hfit:Nat.ble (0+(n+1)*esz) (cs++rest).length=true:=by
    rw[Mj,decide_eq_true_eq,FE,hlen,hr,Nat.add_mul,Nat.add_mul,Nat.one_mul];omega
   obtain⟨r1,r2,rfl,hr1⟩:∃r1 r2,rest=r1++r2∧r1.length=esz:=⟨rest.take esz,rest.drop esz,(List.take_append_drop _ _).symm,by rw[FT,hr,Nat.add_mul,Nat.one_mul];omega⟩
   have hov:over (cs++(r1++r2)) (0+n*esz) news=some (cs++news++r2):=by
    rw[←F5,FU,←hlen];exact TA _ _ _ _ Fh
   refine⟨.slice b 0 (n+1) (.upTo esz),w.turn b (.cells (cs++news++r2) sh),fun x=>S x∧x<w.next,?_,?_,OI hS hs,?_⟩
   ·simp only[AW.appendUp,hx,hne,hfit,Iq hx hs h1 hov]
   ·refine .blk (r:=r) ⟨hS,hbw⟩ hbw T.get_put_same (by rw[FE,hlen,hl,Nat.add_mul,Nat.one_mul]) ?_ he Fh ?_
    ·rw[FE,hr1,Nat.add_mul,Nat.one_mul]at hr;omega
    ·rcases JjK (l:=cs++news++r2) hbw hs with rfl|rfl|⟨f,F,rfl,q1,q2,q3⟩
     ·exact .inl rfl
     ·exact .inr (.inl rfl)
     ·exact .inr (.inr ⟨f,F,rfl,⟨q1,q2⟩,q2,q3⟩)
   ·rintro x ⟨q1,q2⟩;exact⟨q2,.inl q1⟩
  | zero =>
   have hr0:rest=[]:=List.length_eq_zero_iff.1 (by simpa using hr);subst hr0;rw[Kb]at hx;have hbeq:Nat.beq (0+n*esz) cs.length=true:=by rw[FU,hlen,Nat.beq_refl]
   have fam:∀(u:AW) (f:Nat) (F:Fam),w.next≤u.next→Frm S w u→u.heap.get b=some (.cells cs (.fam f))→(S f∨w.next≤f)→f<u.next→b<u.next→u.fams.get f=some F→F.last=b→F.floor≤u.next→u.alive b (.fam f)=true→∃v' w' S',u.appendFam esz b 0 n 1 news=some (v',w')∧Buf S' w' v' esz (n+1) (cs++news)∧Frm S w w'∧LC S S' w w':=by
    intro u f F hle hfu hx hSf hfl hbu hF hlast hflo hal;refine⟨.slice u.next 0 (n+1) (.upTo esz),u.grow b f F (cs.drop 0++news),fun x=>x=u.next∨x=f,?_,?_,?_,?_⟩
    ·simp only[AW.appendFam,hx,hal,hF,hbeq]
    ·have hg:(u.grow b f F (cs.drop 0++news)).fams.get f=some ⟨F.keep,F.floor,u.next⟩:=by
      simp only[AW.grow,T.get_putk,if_true,hlast,Nat.beq_refl]
     refine .blk (r:=0) (rest:=[]) (sh:=.fam f) (.inl rfl) (FV _) ?_ ?_ Fj he Fh (.inr (.inr ⟨f,⟨F.keep,F.floor,u.next⟩,rfl,.inr rfl,Nat.lt_succ_of_lt hfl,hg,rfl,Nat.le_succ_of_le hflo,?_⟩))
     ·simp only[AW.grow,T.get_putk,if_true,FY,Kb]
     ·rw[FE,hlen,hl,Nat.add_mul,Nat.one_mul]
     ·simp only[AW.alive,hg,Bool.or_eq_true];exact .inr (Nat.ble_eq_true_of_le hflo)
    ·refine hfu.trans (T:=fun x=>x=f∨u.next≤x) ⟨Nat.le_succ _,fun c hc hn=>T.get_put_ne Fh,fun c hc hn=>T.get_put_ne fun e=>hn (.inl e)⟩ (fun x hx h=>h) ?_;rintro x hx (rfl|h)
     ·rcases hSf with h|h
      ·exact h
      ·omega
     ·omega
    ·rintro x (rfl|rfl)
     ·exact⟨FV _,.inr hle⟩
     ·exact⟨Nat.lt_succ_of_lt hfl,hSf⟩
   have fnd:sh = .own∨sh = .lax→∃v' w' S',(w.found b cs).appendFam esz b 0 n 1 news=some (v',w')∧Buf S' w' v' esz (n+1) (cs++news)∧Frm S w w'∧LC S S' w w':=by
    intro _;refine fam (w.found b cs) w.next ⟨b,w.next+1,b⟩ (Nat.le_succ _) ⟨Nat.le_succ _,fun c hc hn=>T.get_put_ne fun e=>hn (e▸hS),fun c hc hn=>T.get_put_ne Fh⟩ T.get_put_same (.inr (FH _)) (FV _) (Nat.lt_succ_of_lt hbw) T.get_put_same rfl (FH _) ?_;simp only[AW.alive,AW.found,T.get_putk,if_true,Nat.beq_refl,Bool.true_or]
   simp only[AW.appendUp,hx,hbeq,Kb];rcases hs with rfl|rfl|⟨f,F,rfl,g1,g2,g3,g4,g6,g5⟩
   ·exact fnd (.inl rfl)
   ·exact fnd (.inr rfl)
   ·exact fam w f F (FH _) (Frm.refl _) hx (.inl g1) g2 hbw g3 g4 g6 g5
theorem Buf.push (h:Buf S w v esz n cs)(hS:∀b,S b→b<w.next)(he:0<esz)(hl:news.length=esz)(h1:HB news=true)(hb:(n+1)*bytes≤70368744177664)(hb':n+1≤70368744177664): ∃v' w' S',(w.fresh news).appendV esz bytes v 1 news=some (v',w')∧Buf S' w' v' esz (n+1) (cs++news)∧Frm S w w'∧LC S S' w w':=by
 have hx:Frm (fun _=>False) w (w.fresh news):=Frm.new _ _;obtain⟨v',w',S',h2,h3,h4,h5⟩:=(h.frm hx fun _ _ h=>h).add (news:=news) (bytes:=bytes) he hl h1 hb hb';refine⟨v',w',S',h2,h3,hx.trans h4 (fun _ _ h=>h.elim) fun _ _ h=>h,fun b hb=>?_⟩;obtain⟨q1,q2⟩:=h5 b hb;exact⟨q1,q2.imp id fun h=>Kj hx.next h⟩
theorem Buf.insert {i bv:Nat}{x:V}(h:Buf S w (.slice b 0 n (.upTo 1)) 1 n cs)(hi:i<n)(hv:w.heap.get bv=some (.cells [x] .own))(hne:bv≠b)(h1:x.one=true)(h2:HB cs=true)(hb:(n+1)*bytes≤70368744177664)(hb':n+1≤70368744177664){k:Nat}: ∃v' w' S',Be bytes [.slice b 0 n (.upTo 1),.int .i64 (.ofNat i),.slice bv 0 1 (.known k)] w=some (v',w')∧Buf S' w' v' 1 (n+1) (cs.take i++[x]++cs.drop i)∧Frm S w w'∧LC S S' w w':=by
 have hcl:=h.len;rw[KA]at hcl;have hld:=h.load (o:=0) (k:=n) Fh;rw[FY,FW Fh]at hld;have hvl:w.load bv 0 1=some [x]:=by simp only[AW.load,hv,AW.alive,FY,HC]
 have hbv:Nat.beq bv b=false:=by rw[Mi,decide_eq_false hne]
 have hone:HB [x]=true:=by simp[HB,h1]
 cases h with
 | @blk _ _ _ r _ rest sh hS hbw hx hlen hr he' hn hs =>
  have fam:∀(u:AW) (f:Nat),w.next≤u.next→Frm S w u→u.heap.get b=some (.cells (cs++rest) (.fam f))→(S f∨w.next≤f)→f<u.next→∃v' w' S',u.insFam b n 1 (cs.take i++[x]++cs.drop i)=some (v',w')∧Buf S' w' v' 1 (n+1) (cs.take i++[x]++cs.drop i)∧Frm S w w'∧LC S S' w w':=by
   intro u f hle hfu hx hSf hfl;refine⟨.slice u.next 0 (n+1) (.upTo 1),u.reborn f (cs.take i++[x]++cs.drop i),fun x=>x=u.next,?_,?_,?_,?_⟩
   ·simp only[AW.insFam,hx]
   ·refine .blk (r:=0) (rest:=[]) (sh:=.lax) rfl (FV _) (by rw[Kb];exact T.get_put_same) ?_ Fj Fh Fh (.inr (.inl rfl));simp only[FE,FT,Kh,FC,FD];omega
   ·refine hfu.trans (T:=fun x=>x=f∨u.next≤x) ⟨Nat.le_succ _,fun c hc hn=>T.get_put_ne Fh,fun c hc hn=>T.get_put_ne fun e=>hn (.inl e)⟩ (fun x hx h=>h) ?_;rintro x hx (rfl|h)
    ·rcases hSf with h|h
     ·exact h
     ·omega
    ·omega
   ·rintro x rfl;exact⟨FV _,.inr hle⟩
  have fnd:(w.found b (cs++rest)).alive b (.fam w.next)=true∧∃v' w' S',(w.found b (cs++rest)).insFam b n 1 (cs.take i++[x]++cs.drop i)=some (v',w')∧Buf S' w' v' 1 (n+1) (cs.take i++[x]++cs.drop i)∧Frm S w w'∧LC S S' w w' :=
   ⟨by simp only[AW.alive,AW.found,T.get_putk,if_true,Nat.beq_refl,Bool.true_or],fam _ w.next (Nat.le_succ _) ⟨Nat.le_succ _,fun c hc hn=>T.get_put_ne fun e=>hn (e▸hS),fun c hc hn=>T.get_put_ne Fh⟩ T.get_put_same (.inr (FH _)) (FV _)⟩
  have e1:Nat.blt i n=true:=by rw[JmX,decide_eq_true hi]
  have e2:Nat.blt 0 1=true:=rfl;have e3:Nat.ble ((n+1)*bytes) 70368744177664=true:=Nat.ble_eq_true_of_le hb;have e4:Nat.ble (n+1) 70368744177664=true:=Nat.ble_eq_true_of_le hb';rcases hs with rfl|rfl|⟨f,F,rfl,g1,g2,g3,g4,g6,g5⟩
  ·simp only[Be,e1,e2,e3,e4,hbv,hv,hvl,hld,hone,h2,hx,fnd.1];exact fnd.2
  ·simp only[Be,e1,e2,e3,e4,hbv,hv,hvl,hld,hone,h2,hx,fnd.1];exact fnd.2
  ·simp only[Be,e1,e2,e3,e4,hbv,hv,hvl,hld,hone,h2,hx];exact fam w f (FH _) (Frm.refl _) hx (.inl g1) g2
section
variable [Globs]
section
variable {tab:Tab}
def Oc (fr:Fr) (hide:List Nat) (v:V) (a b:AW):Stp:=⟨Pb fr hide,v,a,b⟩
variable {fr:Fr} {hide:List Nat} {a:AW}
theorem H9 {b:AW}:(Oc fr hide v a b).fe=Pb fr hide:=rfl
theorem Po {b:AW}:(Oc fr hide v a b).v=v:=rfl
theorem Pm {b:AW}:(Oc fr hide v a b).aw0=a:=rfl
theorem Pn {b:AW}:(Oc fr hide v a b).aw1=b:=rfl
variable {aw aw':AW} {st:List Stp} {fr':Fr}
theorem JpX {l:List DOper}(h:Pass tab l fr aw st fr' aw'):∀{i:Nat} {d:DOper} {s:Stp},l[i]? = some d→st[i]? = some s→Dx d s:=by
 induction l generalizing fr aw st with
 | nil=>intro i d s hd;simp at hd
 | cons x l ih =>
  intro i d s hd hs;cases h;rename_i h1 h2;cases i with
  | succ i=>exact ih h2 (by simpa using hd) (by simpa using hs)
  | zero =>
   simp at hd hs;subst hd;subst hs;cases h1 with
   | pass hw=>exact .inl hw
   | val hw ha=>exact .inr ⟨hw,fun _=>⟨_,ha⟩⟩
   | skip hw ha=>exact .inr ⟨hw,fun hq=>by obtain⟨_,v,h⟩:=OU hq ha;cases h⟩
   | call hw ha hc=>exact .inr ⟨hw,fun hq=>by obtain⟨_,v,h⟩:=OU hq ha;cases h⟩
   | ext hw ha hc=>exact .inr ⟨hw,fun hq=>by obtain⟨_,v,h⟩:=OU hq ha;cases h⟩
theorem Jli {l:List DOper}(h:Pass tab l fr aw st fr' aw')(hc:HP l st (TV l)):Om l st=true:=N9 h.len (fun i d s=>JpX h) hc
def WDs (tab:Tab) (l:List DOper) (fr:Fr) (aw:AW) (acc:List Stp) (K:List Stp→Fr→AW→Prop):Prop:=WD tab l fr aw fun st f a=>K (acc.reverse++st) f a
variable {acc:List Stp} {K:List Stp→Fr→AW→Prop}
theorem Pk (h:K acc.reverse fr aw):WDs tab [] fr aw acc K:=by
 unfold WDs;rw[Jqq,Kb];exact h
theorem Df {l:List DOper}{s:Stp}(h:WDs tab l fr aw (s::acc) K):WD tab l fr aw (fun st f a=>K (acc.reverse++s::st) f a):=by
 unfold WDs at h;simpa using h
variable {d:DOper} {aw1:AW}
theorem Jpf {l:List DOper}(hw:wanted (Pb fr d.hide) d.op.guard=some true)(ha:aop d.op.op (Pb fr d.hide) aw=some (.val v,aw1))(h:WDs tab l (PG fr d.op.dst v) aw1 (Oc fr d.hide v aw aw1::acc) K):WDs tab (d::l) fr aw acc K:=by
 unfold WDs;rw[De,BG,hw,ha];exact Df h
theorem Jpe {l:List DOper}(hw:wanted (Pb fr d.hide) d.op.guard=some true)(ha:aop d.op.op (Pb fr d.hide) aw=some (.skip,aw1))(h:WDs tab l (PG fr d.op.dst .undef) aw1 (Oc fr d.hide .undef aw aw1::acc) K):WDs tab (d::l) fr aw acc K:=by
 unfold WDs;rw[De,BG,hw,ha];exact Df h
theorem JnE {l:List DOper}(hw:wanted (Pb fr d.hide) d.op.guard=some false)(h:WDs tab l (PG fr d.op.dst .undef) aw (Oc fr d.hide .undef aw aw::acc) K):WDs tab (d::l) fr aw acc K:=by
 unfold WDs;rw[De,BG,hw];exact Df h
theorem Pp {l:List DOper}{f:Nat}{args:List V}(hw:wanted (Pb fr d.hide) d.op.guard=some true)(ha:aop d.op.op (Pb fr d.hide) aw=some (.call f args,aw1))(h:WF tab f args aw1 (fun v a=>WDs tab l (PG fr d.op.dst v) a (Oc fr d.hide v aw a::acc) K)):WDs tab (d::l) fr aw acc K:=by
 unfold WDs;rw[De,BG,hw,ha];exact .inl (h.mono fun v a h=>Df h)
theorem Pg {l:List DOper}{s:List SI}{Q:Fr→AW→Prop}(h:WDs tab l fr aw [] (fun st f a=>HP l st (TV l)∧WS tab s f a Q)):WS tab (.code (.drawn l)::s) fr aw Q:=by
 show WX tab (.drawn l) fr aw _;rw[JnJ];obtain⟨st,f,a,h1,h2,h3⟩:=h;exact⟨st,f,a,h1,Jli h1 h2,h3⟩
inductive DS where
 | on (l:List DOper) (fr:Fr) (aw:AW) (acc:List Stp)
def TT:Nat→List DOper→Fr→AW→List Stp→DS
 | 0,l,fr,aw,acc=> .on l fr aw acc
 | n+1,[],fr,aw,acc=> .on [] fr aw acc
 | n+1,d::l,fr,aw,acc=>match wanted (Pb fr d.hide) d.op.guard with
  | some true=>match aop d.op.op (Pb fr d.hide) aw with
   | some (.val v,aw1)=>TT n l (PG fr d.op.dst v) aw1 (Oc fr d.hide v aw aw1::acc)
   | some (.skip,aw1)=>TT n l (PG fr d.op.dst .undef) aw1 (Oc fr d.hide .undef aw aw1::acc)
   | _=> .on (d::l) fr aw acc
  | some false=>TT n l (PG fr d.op.dst .undef) aw (Oc fr d.hide .undef aw aw::acc)
  | none=> .on (d::l) fr aw acc
theorem CU {K:List Stp→Fr→AW→Prop}:∀(n:Nat) {l l':List DOper} {fr fr':Fr} {aw aw':AW} {acc acc':List Stp},TT n l fr aw acc = .on l' fr' aw' acc'→WDs tab l' fr' aw' acc' K→WDs tab l fr aw acc K
 | 0,l,l',fr,fr',aw,aw',acc,acc',h,hw=>by cases h;exact hw
 | n+1,[],l',fr,fr',aw,aw',acc,acc',h,hw=>by cases h;exact hw
 | n+1,d::l,l',fr,fr',aw,aw',acc,acc',h,hw=>by
  simp only[TT]at h;split at h
  ·rename_i h1;split at h
   ·rename_i h2;exact Jpf h1 h2 (CU n h hw)
   ·rename_i h2;exact Jpe h1 h2 (CU n h hw)
   ·cases h;exact hw
  ·rename_i h1;exact JnE h1 (CU n h hw)
  ·cases h;exact hw
theorem QZ:∃f:Nat→List DOper→Fr→AW→List Stp→DS,f=TT:=⟨_,rfl⟩
@[irreducible] noncomputable def dRunE:Nat→List DOper→Fr→AW→List Stp→DS:=Classical.choose QZ
theorem AQ:dRunE=TT:=by unfold dRunE;exact Classical.choose_spec QZ
theorem HQ (n:Nat){l l':List DOper}{acc':List Stp}(h:dRunE n l fr aw acc = .on l' fr' aw' acc')(hw:WDs tab l' fr' aw' acc' K):WDs tab l fr aw acc K:=by
 rw[AQ]at h;exact CU n h hw
theorem Jmz:dRunE (n+1) [] fr aw acc = .on [] fr aw acc:=by rw[AQ];rfl
theorem Jlh {l:List DOper}:dRunE (n+1) (d::l) fr aw acc=match wanted (Pb fr d.hide) d.op.guard with
  | some true=>match aop d.op.op (Pb fr d.hide) aw with
   | some (.val v,aw1)=>dRunE n l (PG fr d.op.dst v) aw1 (Oc fr d.hide v aw aw1::acc)
   | some (.skip,aw1)=>dRunE n l (PG fr d.op.dst .undef) aw1 (Oc fr d.hide .undef aw aw1::acc)
   | _=> .on (d::l) fr aw acc
  | some false=>dRunE n l (PG fr d.op.dst .undef) aw (Oc fr d.hide .undef aw aw::acc)
  | none=> .on (d::l) fr aw acc:=by rw[AQ];rfl
end
theorem Qk:∀(l:List V) (i:Nat) (v:V),i<l.length→over l i [v]=some (l.set i v)
 | [],i,v,h=>by simp at h
 | x::l,0,v,h=>by simp[over]
 | x::l,i+1,v,h=>by simp only[over,Qk l i v (by simpa using h),List.set_cons_succ]
theorem Av {i:Nat}(hx:w.heap.get b=some (.cells l .own))(hi:i<l.length)(hv:v.one=true):w.store b i [v]=some (w.turn b (.cells (l.set i v) .own)):=by
 simp only[AW.store,hx,AW.alive,HB,hv,Qk l i v hi]
theorem Jmp {k:IntKind}{n:Int}:(V.int k n).cells=[.int k n]:=rfl
theorem Jk9 {b:Bool}:(V.bool b).cells=[.bool b]:=rfl
theorem Jmr {l:List Nat}:(V.str l).cells=[.str l]:=rfl
theorem Jmo:(V.agg l).cells=l:=rfl
theorem JjV {o:Nat}{c:Cap}:(V.slice b o n c).cells=[.slice b o n c]:=rfl
theorem Jhb:V.nilslice.cells=[.nilslice]:=rfl
theorem Jmq {o:Nat}:(V.ptr b o).cells=[.ptr b o]:=rfl
theorem JiF:V.nilptr.cells=[.nilptr]:=rfl
theorem Jrj:(false != false)=false:=rfl
theorem Jrk:(false != true)=true:=rfl
theorem Jrm:(true != false)=true:=rfl
theorem Jrn:(true != true)=false:=rfl
attribute [go_sem] Jmz Jlh Jrj Jrk Jrm Jrn Jmp Jk9 Jmr Jmo JjV Jhb Jmq JiF
end
section
variable [Globs]
end
section
variable [Globs]
theorem JlY:H7 [] = .tuple []:=rfl
attribute [go_sem] JlY Nat.add_zero
theorem HT {tab:Tab}{id:Nat}{b:ACode}{s:List SI}{Q:Fr→AW→Prop}(I:Nat→Fr→AW→Prop)(J:Fr→AW→Prop)(step:∀n f w,I n f w→(∀n' f' w',n'<n→I n' f' w'→WS tab (.code (.loop b) :: .endB id::s) f' w' Q)→(∀s' f' w',J f' w'→Lu id s'=some s→WS tab (.code (.exit id)::s') f' w' Q)→WS tab (.code b :: .code (.loop b) :: .endB id::s) f w Q)(after:∀f w,J f w→WS tab s f w Q)(n:Nat){fr:Fr}{aw:AW}(h:I n fr aw):WS tab (.code (.loop b) :: .endB id::s) fr aw Q:=
 OA I (fun n f w hI ih=>step n f w hI ih fun s' f' w' hJ hp=>Jkm hp (after f' w' hJ)) n h
def Al (T:Fw) (w:AW) (b:Nat) (sh:Share):Prop :=
 sh = .own∨sh = .lax∨sh = .ro∨∃f F,sh = .fam f∧T f∧f<w.next∧w.fams.get f=some F∧w.alive b sh=true
theorem Al.alive (h:Al T w b sh):w.alive b sh=true:=by
 rcases h with rfl|rfl|rfl|⟨f,F,rfl,h1,h2,h3,h4⟩
 ·rfl
 ·rfl
 ·rfl
 ·exact h4
theorem Al.frm (h:Al T w b sh)(hf:Frm S w w')(hd:∀x,T x→¬S x):Al T w' b sh:=by
 rcases h with rfl|rfl|rfl|⟨f,F,rfl,h1,h2,h3,h4⟩
 ·exact .inl rfl
 ·exact .inr (.inl rfl)
 ·exact .inr (.inr (.inl rfl))
 ·have e:=hf.fams f h2 (hd f h1);refine .inr (.inr (.inr ⟨f,F,rfl,h1,FK h2 hf.next,e.trans h3,?_⟩));simp only[AW.alive,h3,e.trans h3]at h4 ⊢;exact h4
variable {T':Fw}
theorem Al.mono (h:Al T w b sh)(ht:∀x,T x→T' x):Al T' w b sh:=by
 rcases h with rfl|rfl|rfl|⟨f,F,rfl,h1,h2⟩
 ·exact .inl rfl
 ·exact .inr (.inl rfl)
 ·exact .inr (.inr (.inl rfl))
 ·exact .inr (.inr (.inr ⟨f,F,rfl,ht f h1,h2⟩))
def Mc (esz n:Nat):Cap→Prop
 | .known k=>n≤k
 | .upTo z=>z=esz∨n=0
inductive Rd (T:Nat→Prop) (w:AW):V→Nat→Nat→List V→Prop
 | nil {esz:Nat}:Rd T w .nilslice esz 0 []
 | blk {b o n esz:Nat} {c:Cap} {l cs:List V} {sh:Share} (hT:T b) (hb:b<w.next) (hx:w.heap.get b=some (.cells l sh)) (ha:Al T w b sh) (hl:o+n*esz≤l.length) (hcs:cs=(l.drop o).take (n*esz)) (hc:Mc esz n c):Rd T w (.slice b o n c) esz n cs
theorem Rd.len (h:Rd T w v esz n cs):cs.length=n*esz:=by
 cases h with
 | nil=>simp
 | blk hT hb hx ha hl hcs hc=>rw[hcs,FT,Kh];omega
theorem Rd.frm (h:Rd T w v esz n cs)(hf:Frm S w w')(hd:∀x,T x→¬S x):Rd T w' v esz n cs:=by
 cases h with
 | nil=>exact .nil
 | blk hT hb hx ha hl hcs hc=>exact .blk hT (FK hb hf.next) ((hf.heap _ hb (hd _ hT)).trans hx) (ha.frm hf hd) hl hcs hc
theorem Rd.mono (h:Rd T w v esz n cs)(ht:∀x,T x→T' x):Rd T' w v esz n cs:=by
 cases h with
 | nil=>exact .nil
 | blk hT hb hx ha hl hcs hc=>exact .blk (ht _ hT) hb hx (ha.mono ht) hl hcs hc
structure RdB (T:Fw) (w:AW) (b o n esz:Nat) (c:Cap) (cs:List V):Prop where
 own:T b
 lt:b<w.next
 fit:Mc esz n c
 load:∀i k,i+k≤n*esz→w.load b (o+i) k=some ((cs.drop i).take k)
 get:∃l sh,w.heap.get b=some (.cells l sh)∧w.alive b sh=true
theorem Rd.inv (h:Rd T w v esz n cs):(v = .nilslice∧n=0∧cs=[])∨∃b o c,v = .slice b o n c∧RdB T w b o n esz c cs:=by
 cases h with
 | nil=>exact .inl ⟨rfl,rfl,rfl⟩
 | @blk b o _ _ c l _ sh hT hb hx ha hl hcs hc =>
  refine .inr ⟨b,o,c,rfl,⟨hT,hb,hc,fun i k hik=>?_,l,sh,hx,ha.alive⟩⟩;simp only[AW.load,hx,ha.alive];rw[Cf _ _ (by simp;omega),hcs]
  congr 1
  rw[List.drop_take,List.take_take,List.drop_drop,KC Fh]
theorem RdB.cell {o:Nat}{c:Cap}(h:RdB T w b o n esz c cs){i:Nat}{x:V}(hi:i<n*esz)(hx:cs[i]? = some x):w.load b (o+i) 1=some [x]:=by
 rw[h.load i 1 Fh];have hlt:i<cs.length:=(List.getElem?_eq_some_iff.1 hx).1;rw[FL hlt];rw[FB hlt]at hx;rw[FX hx];rfl
theorem Dk {α:Type}{r:α→List V→Prop}{sz:Nat}(hsz:∀a xs,r a xs→xs.length=sz):∀{l:List α} {xss:List (List V)},All2 r l xss→∀{i:Nat} {a:α},l[i]? = some a→∃xs,r a xs∧(xss.flatten.drop (i*sz)).take sz=xs
 | [],_,.nil,i,a,h=>by simp at h
 | x::l,y::m,.cons h1 h2,0,a,h=>by
  simp at h;subst h;refine⟨y,h1,?_⟩;rw[Nat.zero_mul,FY,List.flatten_cons,←hsz _ _ h1,List.take_left'];rfl
 | x::l,y::m,.cons h1 h2,i+1,a,h=>by
  obtain⟨xs,q1,q2⟩:=Dk hsz h2 (i:=i) (a:=a) (by simpa using h);refine⟨xs,q1,?_⟩;have hy:=hsz _ _ h1;rw[List.flatten_cons,Nat.add_mul,Nat.one_mul,Kz (i*sz),←List.drop_drop,←hy,List.drop_left' rfl,hy];exact q2
def RdL {α:Type} (r:AW→α→List V→Prop) (T:Fw) (w:AW) (v:V) (esz:Nat) (l:List α):Prop:=∃xss,Rd T w v esz l.length xss.flatten∧All2 (r w) l xss
variable {α:Type} {r:AW→α→List V→Prop}
theorem RdL.inv {l:List α}(h:RdL r T w v esz l)(hsz:∀a xs,r w a xs→xs.length=esz): (v = .nilslice∧l=[])∨∃b o c,v = .slice b o l.length c∧T b∧b<w.next∧Mc esz l.length c∧∀i a,l[i]? = some a→∃xs,r w a xs∧∀j k,j+k≤esz→w.load b (o+i*esz+j) k=some ((xs.drop j).take k):=by
 obtain⟨xss,h1,h2⟩:=h;rcases h1.inv with⟨q1,q2,q3⟩|⟨b,o,c,rfl,hB⟩
 ·exact .inl ⟨q1,List.length_eq_zero_iff.1 q2⟩
 ·refine .inr ⟨b,o,c,rfl,hB.own,hB.lt,hB.fit,fun i a hi=>?_⟩;obtain⟨xs,q1,q2⟩:=Dk hsz h2 hi;refine⟨xs,q1,fun j k hjk=>?_⟩;have hlt:i<l.length:=(List.getElem?_eq_some_iff.1 hi).1;have hle:(i+1)*esz≤l.length*esz:=Nat.mul_le_mul_right _ hlt;rw[Nat.add_mul,Nat.one_mul]at hle;rw[Ki,hB.load (i*esz+j) k Fh,←q2,List.drop_take,List.take_take,KC Fh,List.drop_drop]
theorem RdL.frm {l:List α}(h:RdL r T w v esz l)(hr:∀a xs,r w a xs→r w' a xs)(hf:Frm S w w')(hd:∀x,T x→¬S x):RdL r T w' v esz l:=by
 obtain⟨xss,h1,h2⟩:=h;exact⟨xss,h1.frm hf hd,h2.imp hr⟩
theorem RdL.mono {r':AW→α→List V→Prop}{l:List α}(h:RdL r T w v esz l)(hr:∀a xs,r w a xs→r' w a xs)(ht:∀x,T x→T' x):RdL r' T' w v esz l:=by
 obtain⟨xss,h1,h2⟩:=h;exact⟨xss,h1.mono ht,h2.imp hr⟩
theorem Buf.rd (h:Buf S w v esz n cs):Rd S w v esz n cs:=by
 cases h with
 | nil=>exact .nil
 | @blk b _ _ r _ rest sh hS hb hx hl hr he hn hs =>
  refine .blk hS hb hx ?_ (by rw[FE,hl];omega) (by rw[FY,List.take_append_of_le_length Fh,FW Fh]) (.inl rfl);rcases hs with rfl|rfl|⟨f,F,rfl,h1,h2,h3,h4,h6,h5⟩
  ·exact .inl rfl
  ·exact .inr (.inl rfl)
  ·exact .inr (.inr (.inr ⟨f,F,rfl,h1,h2,h3,h5⟩))
theorem Own.rd {N:Nat}(h:Own N w v esz n cs):Rd (fun b=>N≤b∧b<w.next) w v esz n cs:=by
 cases h with
 | nil=>exact .nil
 | @blk b _ _ _ sh hN hb hx hl he hn hs =>
  refine .blk ⟨hN,hb⟩ hb hx ?_ Fh (by rw[FY,FW Fh]) (.inl rfl);rcases hs with rfl|rfl|⟨f,F,rfl,h1,h2,h3,h4,h6,h5⟩
  ·exact .inl rfl
  ·exact .inr (.inl rfl)
  ·exact .inr (.inr (.inr ⟨f,F,rfl,⟨h1,h2⟩,h2,h3,h5⟩))
theorem Rd.elems (h:Rd T w v esz n cs):w.elems esz v=some (n,cs):=by
 have hlen:=h.len;rcases h.inv with⟨rfl,rfl,rfl⟩|⟨b,o,c,rfl,hB⟩
 ·rfl
 ·cases n with
  | zero =>
   have:cs=[]:=List.length_eq_zero_iff.1 Fh;subst this;rfl
  | succ n =>
   have:=hB.load 0 ((n+1)*esz) Fh;rw[KD,FY,FW Fh]at this;simp only[AW.elems,this]
theorem Rd.lenV (h:Rd T w v esz n cs):lenV v=some n:=by cases h<;>rfl
theorem Buf.lenV (h:Buf S w v esz n cs):lenV v=some n:=by cases h<;>rfl
structure CB (w:AW) (b:Nat) (l:List V):Prop where
 lt:b<w.next
 get:w.heap.get b=some (.cells l .own)
theorem CB.frm (h:CB w b l)(hf:Frm S w w')(hn:¬S b):CB w' b l:=⟨FK h.lt hf.next,(hf.heap b h.lt hn).trans h.get⟩
theorem CB.load (h:CB w b l)(o n:Nat):w.load b o n=HC n (l.drop o):=by simp only[AW.load,h.get];rfl
theorem CB.all (h:CB w b l)(hn:l.length=n):w.load b 0 n=some l:=by rw[h.load,FY];exact Ir _ _ hn
def AW.put (w:AW) (b:Nat) (l:List V):AW:=w.turn b (.cells l .own)
theorem CB.set {i:Nat}(h:CB w b l)(hi:i<l.length)(hv:v.one=true):w.store b i [v]=some (w.put b (l.set i v)):=Av h.get hi hv
variable {vs:List V}
theorem CB.setAll (h:CB w b l)(hl:l.length=vs.length)(h1:HB vs=true):w.store b 0 vs=some (w.put b vs):=by
 have:over l 0 vs=some vs:=by
  have:=TA [] l [] vs hl.symm;simpa using this
 exact Iq h.get (.inl rfl:Shr (fun _=>True) w b .own) h1 this
theorem H1 (h:b<w.next):CB (w.put b l) b l:=⟨h,T.get_put_same⟩
theorem HN:Frm (fun x=>x=b) w (w.put b l):=OI (sh:=.own) rfl (.inl rfl)
theorem Jjs:(w.put b l).next=w.next:=rfl
theorem Ph (w:AW)(l:List V):CB (w.fresh l) w.next l:=⟨FV _,T.get_put_same⟩
theorem HJ (w:AW)(l:List V):Frm S w (w.fresh l):=Frm.new w _
theorem PA (w:AW){zs:List V}(hl:zs.length=vs.length)(h1:HB vs=true):∃w2,(w.fresh zs).store w.next 0 vs=some w2∧CB w2 w.next vs∧Frm (fun _=>False) w w2∧w2.next=w.next+1:=by
 refine⟨_,(Ph w zs).setAll hl h1,H1 (FV _),?_,rfl⟩;refine (HJ (S:=fun _=>False) w zs).trans (T:=fun b=>b=w.next) HN (fun _ _ h=>h) ?_;rintro y hy rfl;omega
theorem Frm.out {w1 w2:AW}(h:Frm S w w1)(hb:w.next≤b)(h2:w2=w1.put b l):Frm S w w2:=by
 subst h2;refine h.trans (T:=fun x=>x=b) HN (fun _ _ h=>h) ?_;rintro x hx rfl;omega
theorem Frm.tr {a b c:AW}(h:Frm S a b)(h':Frm S b c):Frm S a c:=h.trans h' (fun _ _ h=>h) fun _ _ h=>h
theorem Frm.no {a b:AW}(h:Frm (fun _=>False) a b):Frm S a b:=h.mono fun _ _ h=>h.elim
theorem All2.cells {r:α→List V→Prop}{l:List α}{xss:List (List V)}{a:α}{xs:List V}(h:All2 r l xss)(hx:r a xs):All2 r (l++[a]) (xss++[xs])∧(xss++[xs]).flatten=xss.flatten++xs:=⟨h.snoc hx,by simp⟩
end
end Go.AE
set_option maxRecDepth 10000
namespace Go.Proofs.YtegdcbdicpfbpaaDoor
open Go.AE Delphi
variable {tab:Tab}
structure PSt (w:AW) (bp:Nat) (wv:V) (k e:Nat):Prop where
 lt:bp<w.next
 get:w.heap.get bp=some (.cells [wv,.int .i64 (Fq k),.int .i64 (Fq e)] .own)
variable {w:AW} {bp k e:Nat} {wv:V}
theorem PSt.frm {S:Fw}{w':AW}(h:PSt w bp wv k e)(hf:Frm S w w')(hn:¬S bp):PSt w' bp wv k e:=⟨FK h.lt hf.next,(hf.heap bp h.lt hn).trans h.get⟩
theorem PSt.l0 (h:PSt w bp wv k e):w.load bp 0 1=some [wv]:=by simp only[AW.load,h.get];rfl
theorem PSt.l1 (h:PSt w bp wv k e):w.load bp 1 1=some [.int .i64 (Fq k)]:=by simp only[AW.load,h.get];rfl
theorem PSt.l2 (h:PSt w bp wv k e):w.load bp 2 1=some [.int .i64 (Fq e)]:=by simp only[AW.load,h.get];rfl
def PSt.mk' (w:AW) (bp:Nat) (wv:V) (k e:Nat):AW:=w.turn bp (.cells [wv,.int .i64 (Fq k),.int .i64 (Fq e)] .own)
theorem PSt.s1 (h:PSt w bp wv k e)(k':Nat):w.store bp 1 [.int .i64 (Fq k')]=some (PSt.mk' w bp wv k' e):=by
 have:=Av (i:=1) (v:=.int .i64 (Fq k')) h.get Fj rfl;exact this
theorem PSt.made (h:bp<w.next):PSt (PSt.mk' w bp wv k e) bp wv k e:=⟨h,AE.T.get_put_same⟩
theorem PSt.made_frm:Frm (fun b=>b=bp) w (PSt.mk' w bp wv k e):=OI (sh:=.own) rfl (.inl rfl)
structure Wds (Tw:Fw) (w:AW) (bp:Nat) (wv:V) (ws:List Wd):Prop where
 rd:Rd Tw w wv 3 ws.length (TE ws)
 no:¬Tw bp
 len:ws.length≤4000
variable {Tw:Fw} {ws:List Wd}
theorem Wds.frm {S:Fw}{w':AW}(h:Wds Tw w bp wv ws)(hf:Frm S w w')(hd:∀x,Tw x→¬S x):Wds Tw w' bp wv ws:=⟨h.rd.frm hf hd,h.no,h.len⟩
theorem NM (w:Wd):(P4 w).length=3:=rfl
theorem Wds.at (h:Wds Tw w bp wv ws):(wv = .nilslice∧ws=[])∨∃b o c,wv = .slice b o ws.length c∧b≠bp∧b<w.next∧ ∀i x,ws[i]? = some x→w.load b (o+i*3) 1=some [.int .i64 (Fq x.kind)]∧w.load b (o+i*3+1) 1=some [.str x.text]∧w.load b (o+i*3) 3=some (P4 x):=by
 rcases h.rd.inv with⟨q1,q2,_⟩|⟨b,o,c,rfl,hB⟩
 ·exact .inl ⟨q1,List.length_eq_zero_iff.1 q2⟩
 ·refine .inr ⟨b,o,c,rfl,fun he=>h.no (he▸hB.own),hB.lt,fun i x hx=>?_⟩;have hlt:i<ws.length:=(List.getElem?_eq_some_iff.1 hx).1
  have part:∀j k,j+k≤3→w.load b (o+i*3+j) k=some (((P4 x).drop j).take k):=by
   intro j k hjk;have:=hB.load (i*3+j) k Fh;rw[Ki,this];have h2:=Cx NM (i:=i) (j:=j) (k:=k) hx hjk;rw[FU]at h2;exact congrArg some h2
  exact⟨part 0 1 Fh,part 1 1 Fh,part 0 3 Fh⟩
variable {aw:AW} {K:V→AW→Prop}
theorem Bz (C:Codes tab){x:Nat}(hp:PSt aw bp wv k e)(h:∀w,PSt w bp wv k (KZ e x)→Frm (fun b=>b=bp) aw w→w.next=aw.next→K (.tuple []) w):WF tab Jn [.ptr bp 0,.int .i64 (Fq x)] aw K:=by
 refine Hy C.YS rfl ?_;have hg:=hp.get;by_cases he:e=0
 ·subst he;refine Ho 1000 (by simp only[go_sem,Hn,AW.load,AW.store,AW.alive,AW.fresh,AW.new,AW.turn,AW.kill,HC,over,HB,V.one,V.cells,BK,HF,Hw,FY,List.drop_succ_cons,FC,FD,Nat.add_eq_left,Nat.left_eq_add,FU,Nat.one_ne_zero,Nat.add_right_cancel_iff,Nat.add_left_cancel_iff,Nat.succ_ne_self,List.head?_cons,if_true,if_false,Zc,hg];rfl) ?_;refine LY ⟨_,by simp only[go_sem,Hn,Zc];rfl,?_⟩;exact h _ ⟨hp.lt,AE.T.get_put_same⟩ (OI (sh:=.own) rfl (.inl rfl)) rfl
 ·have:KZ e x=e:=if_neg he;rw[this]at h;refine Ho 1000 (by simp only[go_sem,Hn,AW.load,AW.store,AW.alive,AW.fresh,AW.new,AW.turn,AW.kill,HC,over,HB,V.one,V.cells,BK,HF,Hw,FY,List.drop_succ_cons,FC,FD,Nat.add_eq_left,Nat.left_eq_add,FU,Nat.one_ne_zero,Nat.add_right_cancel_iff,Nat.add_left_cancel_iff,Nat.succ_ne_self,List.head?_cons,if_true,if_false,Zc,hg,he];rfl) ?_;refine LY ⟨_,by simp only[go_sem,Hn,Zc];rfl,?_⟩;exact h _ hp (Frm.refl _) rfl
variable {s:List Nat}
theorem TB (C:Codes tab)(hp:PSt aw bp wv k e)(hw:Wds Tw aw bp wv ws)(h:K (.bool (Pt ws k s)) aw):WF tab JC [.ptr bp 0,.str s] aw K:=by
 refine Hy C.YQ rfl ?_;have hg:=hp.get;have l0:aw.load bp 0 1=some [wv]:=by simp only[AW.load,hg];rfl
 have l1:aw.load bp 1 1=some [.int .i64 (Fq k)]:=by simp only[AW.load,hg];rfl
 rcases hw.at with⟨rfl,rfl⟩|⟨b,o,c,rfl,hne,hlt,hat⟩
 ·have e1:¬k<0:=Fh;refine Ho 1000 (by simp only[go_sem,Hn,Js,l0,l1,e1];rfl) ?_;refine Hp ⟨_,by simp only[go_sem,Hn,Js];rfl,?_⟩;exact h
 ·by_cases hk:k<ws.length
  ·have hx:ws[k]? = some ws[k]:=FB hk;obtain⟨a1,a2,_⟩:=hat k _ hx;unfold Pt at h;rw[hx]at h;simp only at h;by_cases h4:ws[k].kind=4
   ·have hb:decide (ws[k].text=s)=eqL ws[k].text s:=by
     by_cases hh:ws[k].text=s
     ·rw[decide_eq_true hh];exact (eqL_iff.2 hh).symm
     ·rw[decide_eq_false hh];cases hc:eqL ws[k].text s with
      | false=>rfl
      | true=>exact absurd (eqL_iff.1 hc) hh
    rw[decide_eq_true h4,Bool.true_and,hb]at h;refine Ho 1000 (by simp only[go_sem,Hn,Js,l0,l1,hk,a1,a2,h4,LX];rfl) ?_;refine Hp ⟨_,by simp only[go_sem,Hn,Js];rfl,?_⟩;exact h
   ·rw[decide_eq_false h4,Bool.false_and]at h;refine Ho 1000 (by simp only[go_sem,Hn,Js,l0,l1,hk,a1,h4];rfl) ?_;refine Hp ⟨_,by simp only[go_sem,Hn,Js];rfl,?_⟩;exact h
  ·have:Pt ws k s=false:=by unfold Pt;rw[List.getElem?_eq_none Fh]
   rw[this]at h;refine Ho 1000 (by simp only[go_sem,Hn,Js,l0,l1,hk];rfl) ?_;refine Hp ⟨_,by simp only[go_sem,Hn,Js];rfl,?_⟩;exact h
theorem JkM (C:Codes tab)(hp:PSt aw bp wv k e)(hw:Wds Tw aw bp wv ws)(hk:k≤4000)(h:∀w,PSt w bp wv (Ld ws s k e).1 (Ld ws s k e).2→Frm (fun b=>b=bp) aw w→w.next=aw.next→K (.tuple []) w):WF tab Z4 [.ptr bp 0,.str s] aw K:=by
 refine Hy C.YT rfl ?_;have hg:=hp.get;have l2:aw.load bp 2 1=some [.int .i64 (Fq e)]:=by simp only[AW.load,hg];rfl
 have l1:aw.load bp 1 1=some [.int .i64 (Fq k)]:=by simp only[AW.load,hg];rfl
 unfold Ld at h;by_cases he:e=0
 ·subst he;rw[if_pos rfl]at h;refine Ho 1000 (by simp only[go_sem,Hn,JR,l2];rfl) ?_;refine Hq (by simp only[go_sem,Hn]) (by simp only[go_sem,Hn];rfl) ?_;refine TB C hp hw ?_;cases hs:Pt ws k s with
  | true =>
   rw[hs,if_pos rfl]at h;have hwr:KX .i64 (Fq k+1)=Fq (k+1):=Hv Fh;refine Ho 1000 (by simp only[go_sem,Hn,AW.load,AW.store,AW.alive,AW.fresh,AW.new,AW.turn,AW.kill,HC,over,HB,V.one,V.cells,BK,HF,Hw,FY,List.drop_succ_cons,FC,FD,Nat.add_eq_left,Nat.left_eq_add,FU,Nat.one_ne_zero,Nat.add_right_cancel_iff,Nat.add_left_cancel_iff,Nat.succ_ne_self,List.head?_cons,if_true,if_false,hg,hwr];rfl) ?_;refine LY ⟨_,by simp only[go_sem,Hn,JR];rfl,?_⟩;exact h _ ⟨hp.lt,AE.T.get_put_same⟩ (OI (sh:=.own) rfl (.inl rfl)) rfl
  | false =>
   rw[hs,if_neg Fj]at h;refine Ho 1000 (by simp only[go_sem,Hn];rfl) ?_;refine Hq (by simp only[go_sem,Hn]) (by simp only[go_sem,Hn];rfl) ?_;refine Bz C (x:=4) hp fun w q1 q2 q3=>?_;refine Ho 1000 (by simp only[go_sem,Hn];rfl) ?_;refine Hp ⟨_,by simp only[go_sem,Hn,JR];rfl,?_⟩;exact h w q1 q2 q3
 ·rw[if_neg he]at h;refine Ho 1000 (by simp only[go_sem,Hn,JR,l2,he];rfl) ?_;refine Hp ⟨_,by simp only[go_sem,Hn,JR];rfl,?_⟩;exact h _ hp (Frm.refl _) rfl
theorem Ac (C:Codes tab)(h:K (.int .i64 (Fq (PH s))) aw):WF tab Z5 [.str s] aw K:=by
 refine Hy C.Y8 rfl ?_
 have eqd:∀g:List Nat,eqL s g=decide (s=g):=fun g=>by
  by_cases hh:s=g
  ·rw[decide_eq_true hh];exact eqL_iff.2 hh
  ·rw[decide_eq_false hh];cases hc:eqL s g with
   | false=>rfl
   | true=>exact absurd (eqL_iff.1 hc) hh
 unfold PH at h;by_cases h1:s=[61]
 ·rw[if_pos h1]at h;refine Ho 1000 (by simp only[go_sem,Hn,Jj,Zh,LX,eqd,h1];rfl) ?_;refine Hp ⟨_,by simp only[go_sem,Hn,Jj];rfl,?_⟩;exact h
 rw[if_neg h1]at h;by_cases h2:s=[33,61]
 ·rw[if_pos h2]at h;refine Ho 1000 (by simp only[go_sem,Hn,Jj,Zh,LX,eqd,h1,h2];rfl) ?_;refine Hp ⟨_,by simp only[go_sem,Hn,Jj];rfl,?_⟩;exact h
 rw[if_neg h2]at h;by_cases h3:s=[60]
 ·rw[if_pos h3]at h;refine Ho 1000 (by simp only[go_sem,Hn,Jj,Zh,Y7,LX,eqd,h1,h2,h3];rfl) ?_;refine Hp ⟨_,by simp only[go_sem,Hn,Jj];rfl,?_⟩;exact h
 rw[if_neg h3]at h;by_cases h4:s=[60,61]
 ·rw[if_pos h4]at h;refine Ho 1000 (by simp only[go_sem,Hn,Jj,Zh,Y7,LX,eqd,h1,h2,h3,h4];rfl) ?_;refine Hp ⟨_,by simp only[go_sem,Hn,Jj];rfl,?_⟩;exact h
 ·rw[if_neg h4]at h;refine Ho 1000 (by simp only[go_sem,Hn,Jj,Zh,Y7,LX,eqd,h1,h2,h3,h4];rfl) ?_;refine Hp ⟨_,by simp only[go_sem,Hn,Jj];rfl,?_⟩;exact h
end Go.Proofs.YtegdcbdicpfbpaaDoor
