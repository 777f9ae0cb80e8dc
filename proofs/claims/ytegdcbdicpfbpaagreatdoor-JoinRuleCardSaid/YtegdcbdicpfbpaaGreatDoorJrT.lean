/- A part of the proof. -/
import Derived.Test.YtegdcbdicpfbpaaGreatDoorJrS
import Derived.Test.YtegdcbdicpfbpaaGreatDoorJrI
import Derived.Test.YtegdcbdicpfbpaaGreatDoorJrL
import Derived.Sort.KeysCollected
import Derived.Test.YtegdcbdicpfbpaaGreatDoorJrM
import Derived.Test.YtegdcbdicpfbpaaGreatDoorJrO
set_option linter.unusedVariables false
set_option maxRecDepth 10000
set_option linter.unusedSimpArgs false
namespace Go.Proofs.YtegdcbdicpfbpaaGreatDoor
open Go.AE Delphi Val
variable {r x:List Int}
theorem Jtg {rows:Fy}:x∈Rel.insR rows r↔x∈rows∨x=r:=by
 unfold Rel.insR
 have e:x∈rows↔x∈rows.take (Rel.posn rows r)∨x∈rows.drop (Rel.posn rows r):=by
  rw[←Ka,List.take_append_drop]
 rw[e];simp only[Ka,Ko];constructor
 ·rintro ((h|h)|h)
  ·exact .inl (.inl h)
  ·exact .inr h
  ·exact .inl (.inr h)
 ·rintro ((h|h)|h)
  ·exact .inl (.inl h)
  ·exact .inr h
  ·exact .inl (.inr h)
theorem mem_addR {rows:Fy}:x∈JdX rows r↔x∈rows∨x=r:=by
 unfold JdX;split
 ·rename_i h;constructor
  ·exact .inl
  ·rintro (h1|rfl)
   ·exact h1
   ·exact h
 ·exact Jtg
theorem Jq4 {m:Int}{a b:Nat}(h:a≤b)(hd:Jek m a=true):Jek m b=true:=by
 unfold Jek at hd ⊢;simp only[FT,decide_eq_true_eq]at hd ⊢;refine⟨hd.1,?_⟩;have h1:m<(a:Int):=hd.2;show m<(b:Int);omega
theorem Jl1 (M:Vm)(k k':List Nat)(n:Int):Jbt (Jb5 M k n) k'=if k'=k then n else Jbt M k':=by
 unfold Jbt;by_cases h:k'=k
 ·subst h;rw[if_pos rfl,Jbi];rfl
 ·rw[if_neg h,JbD _ _ _ _ h]
variable {E:JE} {ts0:List Tk} {k:Nat} {M:Vm} {s:JS}
theorem Jni (h:JInv ts0 s):JInv ts0 (JeG E k M s):=⟨h.ts,h.rng⟩
theorem Jrn (hE:PlanOk E ts0)(hM:VldM E ts0 E.order.length M)(hs:JInv ts0 s)(hc:dnJ E s=false→Jfy E ts0 (E.order.length+1) s):PostJ E ts0 (E.order.length+1) (Jfi E ts0 E.order.length M) s (JeN E M s):=by
 obtain⟨x,hx⟩:=hs.ts
 let ν0:Nv:=fun v=>Jbt M v
 have ha0:agr M ν0:=fun v n h=>JfV h
 have hrow:∀ν,agr M ν→∃y,(Jbk M s.ts E.head.args).2=s.ts++y∧(∀n∈(Jbk M s.ts E.head.args).1,1≤n∧n≤((Jbk M s.ts E.head.args).2.length:Int))∧(Jbk M s.ts E.head.args).1.map (Jbq (Jbk M s.ts E.head.args).2)=E.head.args.map (Jc9 ts0 ν):=by
  intro ν hν;obtain⟨y,h1,h2,h3⟩:=JjO hν hM.rng E.head.args [] x (fun t ht hk=>(hM.dom t.name).2 (hE.hb t ht hk)) hE.hm Fj;have e:Jbk M s.ts E.head.args=E.head.args.foldl (JcO M) ([],ts0++x):=by unfold Jbk;rw[hx]
  rw[e,h1];refine⟨y,by rw[hx];simp,h2,?_⟩;simpa using h3
 obtain⟨y,h1,h2,h3⟩:=hrow ν0 ha0
 have hh:∀h,h∈Jef (JeN E M s)↔h∈Jef s∨h=E.head.args.map (Jc9 ts0 ν0):=by
  intro h;unfold Jef JeN;simp only[Ke,mem_addR]
  have e:∀r∈s.rows,r.map (Jbq (Jbk M s.ts E.head.args).2)=r.map (Jbq s.ts):=fun r hr=>List.map_congr_left fun n hn=>by
   have:=hs.rng r hr n hn;rw[h1];exact JdV this.1 this.2
  constructor
  ·rintro⟨r,hr|rfl,rfl⟩
   ·exact .inl ⟨r,hr,(e r hr).symm⟩
   ·exact .inr h3
  ·rintro (⟨r,hr,rfl⟩|rfl)
   ·exact⟨r,.inl hr,e r hr⟩
   ·exact⟨_,.inr rfl,h3⟩
 have hres:∀h,Jfi E ts0 E.order.length M h↔h=E.head.args.map (Jc9 ts0 ν0):=by
  intro h;constructor
  ·rintro⟨ν,hν,_,rfl⟩;obtain⟨_,_,_,h4⟩:=hrow ν hν;rw[←h4,h3]
  ·rintro rfl;exact⟨ν0,ha0,fun j h1 h2=>by omega,rfl⟩
 refine⟨⟨⟨x++y,by show (Jbk M s.ts E.head.args).2=_;rw[h1,hx];simp⟩,fun r hr n hn=>?_⟩,fun h hh'=>(hh h).2 (.inl hh'),fun h hh'=>((hh h).1 hh').imp id (hres h).2,fun _ h hr=>(hh h).2 (.inr ((hres h).1 hr)),fun _ k M' hk hk'=>by omega,fun key hk=> .inl hk,fun key hk=>hk,fun hd=>Jq4 (Jjy _ _) hd⟩;have hr:r∈JdX s.rows (Jbk M s.ts E.head.args).1:=hr;rcases mem_addR.1 hr with hr|rfl
 ·have:=hs.rng r hr n hn;refine⟨this.1,?_⟩;show n≤((Jbk M s.ts E.head.args).2.length:Int);rw[h1,FE];omega
 ·exact h2 n hn
def Jpm (E:JE) (ts0:List Tk) (k:Nat) (rec:Vm→JS→JS):Prop:=∀M s,VldM E ts0 k M→JInv ts0 s→(dnJ E s=false→Jfy E ts0 k s)→PostJ E ts0 k (Jfi E ts0 k M) s (rec M s)
theorem JiB {E:JE}{ts0:List Tk}{K:Nat}{rec:Vm→JS→JS}{l:Lt}{M:Vm}(hrec:Jpm E ts0 K rec):∀(rows:Fy) (s:JS),(∀r∈rows,(Jbr l.args r M []).2=true→VldM E ts0 K (Jbr l.args r M []).1.1)→JInv ts0 s→(dnJ E s=false→Jfy E ts0 K s)→ PostJ E ts0 K (fun h=>∃r∈rows,(Jbr l.args r M []).2=true∧Jfi E ts0 K (Jbr l.args r M []).1.1 h) s (Jb3 rec l M rows s)
 | [],s,hv,hi,hc=>(PostJ.refl hi hc).iff fun h=>by simp
 | r::rows,s,hv,hi,hc=>by
  have hv':∀r∈rows,(Jbr l.args r M []).2=true→VldM E ts0 K (Jbr l.args r M []).1.1:=fun x hx=>hv x (FO _ hx);have e:Jb3 rec l M (r::rows) s=Jb3 rec l M rows (if (Jbr l.args r M []).2=true then rec (Jbr l.args r M []).1.1 s else s):=rfl;rw[e];by_cases hok:(Jbr l.args r M []).2=true
  ·rw[if_pos hok];have p1:=hrec _ s (hv r Fj hok) hi hc;have p2:=JiB hrec rows _ hv' p1.inv p1.comp;refine (p1.trans p2).iff fun h=>?_;constructor
   ·rintro (h1|⟨x,hx,h1,h2⟩)
    ·exact⟨r,by simp,hok,h1⟩
    ·exact⟨x,FO _ hx,h1,h2⟩
   ·rintro⟨x,hx,h1,h2⟩;rcases List.mem_cons.1 hx with rfl|hx
    ·exact .inl h2
    ·exact .inr ⟨x,hx,h1,h2⟩
  ·rw[if_neg hok];have p2:=JiB hrec rows s hv' hi hc;refine p2.iff fun h=>?_;constructor
   ·rintro⟨x,hx,h1,h2⟩;exact⟨x,FO _ hx,h1,h2⟩
   ·rintro⟨x,hx,h1,h2⟩;rcases List.mem_cons.1 hx with rfl|hx
    ·exact absurd h1 hok
    ·exact⟨x,hx,h1,h2⟩
theorem JtM (h:VldM E ts0 k M)(hn:(Jbv E k).kind≠1):VldM E ts0 (k+1) M:=by
 refine⟨fun v=>?_,h.rng⟩;rw[h.dom v];constructor
 ·rintro⟨j,hj,h1,h2⟩;exact⟨j,by omega,h1,h2⟩
 ·rintro⟨j,hj,h1,h2⟩;by_cases hjk:j=k
  ·subst hjk;exact absurd h1 hn
  ·exact⟨j,by omega,h1,h2⟩
theorem JtL {row:List Int}(h:VldM E ts0 k M)(hk1:(Jbv E k).kind=1)(hl:row.length=(Jbv E k).args.length)(hr:∀n∈row,1≤n∧n≤(ts0.length:Int))(hok:(Jbr (Jbv E k).args row M []).2=true):VldM E ts0 (k+1) (Jbr (Jbv E k).args row M []).1.1:=by
 obtain⟨h1,h2⟩:=Jhn (Jbv E k).args row M [] hl.symm hok;refine⟨fun v=>?_,h2 _ h.rng hr⟩;rw[h1 v,h.dom v];constructor
 ·rintro (⟨j,hj,h3,h4⟩|⟨t,ht,h3⟩)
  ·exact⟨j,by omega,h3,h4⟩
  ·exact⟨k,by omega,hk1,t,ht,h3⟩
 ·rintro⟨j,hj,h3,t,ht,h4⟩;by_cases hjk:j=k
  ·subst hjk;exact .inr ⟨t,ht,h4⟩
  ·exact .inl ⟨j,by omega,h3,t,ht,h4⟩
theorem JhS (hk:k<E.order.length)(h:List Tk):Jfi E ts0 k M h↔∃ν,agr M ν∧Jgy ts0 (E.sets (JcN E k)) (Jbv E k) ν∧(∀j,k+1≤j→j<E.order.length→Jgy ts0 (E.sets (JcN E j)) (Jbv E j) ν)∧h=E.head.args.map (Jc9 ts0 ν):=by
 constructor
 ·rintro⟨ν,h1,h2,h3⟩;exact⟨ν,h1,h2 k (FH _) hk,fun j hj hjl=>h2 j Fh hjl,h3⟩
 ·rintro⟨ν,h1,h2,h3,h4⟩;refine⟨ν,h1,fun j hj hjl=>?_,h4⟩;by_cases hjk:j=k
  ·subst hjk;exact h2
  ·exact h3 j Fh hjl
variable {ν:Nv}
theorem Jm8 (hE:PlanOk E ts0)(hk:k<E.order.length):inN (E.sets (JcN E k)) ((Jbv E k).args.map (Jd4 ts0 ν))↔∃x,Jb6 E k=some x∧(Jbv E k).args.map (Jd4 ts0 ν)∈x.2:=by
 unfold inN Jb6;constructor
 ·rintro⟨x,hx,hm⟩;have hw:=(hE.rl k hk x hx _ hm).1;rw[F9]at hw;refine⟨x,?_,hm⟩;rw[hx];unfold JhV;simp only;rw[if_pos hw.symm]
 ·rintro⟨x,hx,hm⟩;cases hq:E.sets (JcN E k)with
  | none=>rw[hq]at hx;cases hx
  | some y =>
   rw[hq]at hx;unfold JhV at hx;simp only at hx;split at hx
   ·cases hx;exact⟨_,rfl,hm⟩
   ·cases hx
theorem Jj7 (hE:PlanOk E ts0)(hk:k<E.order.length){x:Nat×List (List Int)}(hx:Jb6 E k=some x):x.1=(Jbv E k).args.length∧∀r∈x.2,r.length=(Jbv E k).args.length∧∀n∈r,1≤n∧n≤(ts0.length:Int):=by
 unfold Jb6 at hx;cases hq:E.sets (JcN E k)with
 | none=>rw[hq]at hx;cases hx
 | some y =>
  rw[hq]at hx;unfold JhV at hx;simp only at hx;split at hx
  ·rename_i he;cases hx;refine⟨he,fun r hr=>?_⟩;have:=hE.rl k hk _ hq r hr;exact⟨this.1.trans he,this.2⟩
  ·cases hx
theorem JuO (hM:agr M ν){l:List Tm}(h:∀t∈l,t.kind=1→∃n,Ja1 M t.name=some n):l.map (Jfg ts0 M)=l.map (Jd4 ts0 ν):=List.map_congr_left fun t ht=>by
 unfold Jfg Jd4;by_cases hk:t.kind=1
 ·obtain⟨n,hn⟩:=h t ht hk;rw[if_pos hk,if_pos hk,JfV hn,hM _ _ hn]
 ·rw[if_neg hk,if_neg hk]
theorem Jl3 {x:List Tk}(hM:agr M ν)(hr:∀v n,Ja1 M v=some n→1≤n∧n≤(ts0.length:Int)){t:Tm}(h:t.kind=1→∃n,Ja1 M t.name=some n):Jdo M (ts0++x) t=some (Jc9 ts0 ν t):=by
 unfold Jdo Jc9;by_cases hk:t.kind=1
 ·obtain⟨n,hn⟩:=h hk;have:=hr _ _ hn;rw[if_pos hk,if_pos hk,hn,hM _ _ hn];show some (Jbq (ts0++x) n)=_;rw[JdV this.1 this.2]
 ·rw[if_neg hk,if_neg hk]
theorem Juz (hE:PlanOk E ts0)(hk:k<E.order.length){rec:Vm→JS→JS}(hrec:Jpm E ts0 (k+1) rec)(hM:VldM E ts0 k M)(hs:JInv ts0 s)(hc:dnJ E s=false→Jfy E ts0 (k+1) s):PostJ E ts0 (k+1) (Jfi E ts0 k M) s (goJ E rec k M s):=by
 obtain⟨x,hx⟩:=hs.ts;have hp:Jbk M s.ts (Jbv E k).args=((Jbv E k).args.map (Jfg ts0 M),s.ts):=by rw[hx];exact Jtx M _ (hE.lb k hk)
 have hlc:∀t∈(Jbv E k).args,t.kind≠1→Jbb t∈ts0:=fun t ht h=>(hE.lb k hk t ht h).1;unfold goJ;rw[hp];have es:(⟨s.ts,s.seen,s.rows⟩:JS)=s:=rfl;by_cases hk1:(Jbv E k).kind=1
 ·rw[if_pos hk1];simp only
  have hrows:∀r∈Jd3 (Jb6 E k) ((Jbv E k).args.map (Jfg ts0 M)),r.length=(Jbv E k).args.length∧(∀n∈r,1≤n∧n≤(ts0.length:Int)):=by
   intro r hr;unfold Jd3 at hr;cases hq:Jb6 E k with
   | none=>rw[hq]at hr;simp at hr
   | some y =>
    rw[hq]at hr;exact (Jj7 hE hk hq).2 r (List.mem_filter.1 hr).1
  have p:=JiB (l:=Jbv E k) (M:=M) hrec (Jd3 (Jb6 E k) ((Jbv E k).args.map (Jfg ts0 M))) s (fun r hr hok=>JtL hM hk1 (hrows r hr).1 (hrows r hr).2 hok) hs hc;refine p.iff fun h=>?_;rw[JhS hk];constructor
  ·rintro⟨r,hr,hok,ν,h1,h2,h3⟩;obtain⟨h4,h5⟩:=(Jgl ν (Jbv E k).args r M [] (hrows r hr).1.symm).2 ⟨hok,h1⟩;refine⟨ν,h4,?_,h2,h3⟩;unfold Jgy;rw[if_pos hk1,Jm8 hE hk];unfold Jd3 at hr;cases hq:Jb6 E k with
   | none=>rw[hq]at hr;simp at hr
   | some y =>
    rw[hq]at hr;obtain⟨h6,h7⟩:=List.mem_filter.1 hr;refine⟨y,rfl,?_⟩;have:=(JjI h4 (Jbv E k).args r ((Jj7 hE hk hq).2 r h6).1 hlc).2 ⟨h7,h5⟩;rw[←this];exact h6
  ·rintro⟨ν,h1,h2,h3,h4⟩;unfold Jgy at h2;rw[if_pos hk1,Jm8 hE hk]at h2;obtain⟨y,hq,h5⟩:=h2;have hl:=((Jj7 hE hk hq).2 _ h5).1;obtain⟨h6,h7⟩:=(JjI h1 (Jbv E k).args _ hl hlc).1 rfl;obtain⟨h8,h9⟩:=(Jgl ν (Jbv E k).args _ M [] hl.symm).1 ⟨h1,h7⟩;refine⟨_,?_,h8,ν,h9,h3,h4⟩;unfold Jd3;rw[hq];exact List.mem_filter.2 ⟨h5,h6⟩
 rw[if_neg hk1];have hb:∀t∈(Jbv E k).args,t.kind=1→∃n,Ja1 M t.name=some n:=fun t ht h=>(hM.dom _).2 (hE.bound k hk hk1 t ht h);have hM':=JtM hM hk1
 have test:∀(b:Bool),(∀ν,agr M ν→(Jgy ts0 (E.sets (JcN E k)) (Jbv E k) ν↔b=true))→PostJ E ts0 (k+1) (Jfi E ts0 k M) s (if b=true then rec M s else s):=by
  intro b hb';cases b with
  | true =>
   rw[if_pos rfl];refine (hrec M s hM' hs hc).iff fun h=>?_;rw[JhS hk];constructor
   ·rintro⟨ν,h1,h2,h3⟩;exact⟨ν,h1,(hb' ν h1).2 rfl,h2,h3⟩
   ·rintro⟨ν,h1,_,h2,h3⟩;exact⟨ν,h1,h2,h3⟩
  | false =>
   rw[if_neg Fj];refine (PostJ.refl hs hc).iff fun h=>?_;rw[JhS hk];constructor
   ·exact fun h=>h.elim
   ·rintro⟨ν,h1,h2,_⟩;have:=(hb' ν h1).1 h2;cases this
 by_cases hk2:(Jbv E k).kind=2
 ·rw[if_pos hk2];simp only
  have ht:=test (!JjN (Jb6 E k) ((Jbv E k).args.map (Jfg ts0 M))) fun ν hν=>by
   unfold Jgy;rw[if_neg hk1,if_pos hk2,Jm8 hE hk,JuO hν hb];unfold JjN;cases hq:Jb6 E k with
   | none=>simp
   | some y=>simp
  cases hh:JjN (Jb6 E k) ((Jbv E k).args.map (Jfg ts0 M))with
  | true=>rw[hh]at ht;simpa using ht
  | false=>rw[hh]at ht;simpa using ht
 ·rw[if_neg hk2];refine test _ fun ν hν=>?_;unfold Jgy;rw[if_neg hk1,if_neg hk2];have h2:=hE.l2 k hk hk1 hk2;unfold Jkx Jhq;cases ha:(Jbv E k).args with
  | nil=>exact Iff.rfl
  | cons a l =>
   cases l with
   | nil=>exact Iff.rfl
   | cons b l =>
    cases l with
    | cons c l=>exact Iff.rfl
    | nil =>
     simp only;rw[hx,Jl3 hν hM.rng (hb a (by rw[ha];simp)),Jl3 hν hM.rng (hb b (by rw[ha];simp))];rfl
theorem JlJ (hE:PlanOk E ts0)(hk:k≤E.order.length)(hM:VldM E ts0 k M)(hc:Jfy E ts0 k s):Jfy E ts0 (k+1) (JeG E k M s):=by
 intro k' M' h1 h2 h3 h4 h hr;have h4:0<Jbt (Jb5 s.seen (Jfc E k M) 1) (Jfc E k' M'):=h4;rw[Jl1]at h4;have hol:=hE.ol;split at h4
 ·rename_i he;have:=(JjR Fh Fh (Jhb h3 hE.tl) (Jhb hM hE.tl) he).1;omega
 ·exact hc k' M' Fh h2 h3 h4 h hr
theorem Jnh (hE:PlanOk E ts0){s':JS}(hk:k≤E.order.length)(hM:VldM E ts0 k M)(hc:dnJ E s=false→Jfy E ts0 k s)(p:PostJ E ts0 (k+1) (Jfi E ts0 k M) (JeG E k M s) s'):PostJ E ts0 k (Jfi E ts0 k M) s s':=by
 have hol:=hE.ol
 have hm:∀key,0<Jbt (JeG E k M s).seen key↔(key=Jfc E k M∨0<Jbt s.seen key):=by
  intro key;show 0<Jbt (Jb5 s.seen (Jfc E k M) 1) key↔_;rw[Jl1];by_cases he:key=Jfc E k M
  ·rw[if_pos he];exact⟨fun _=> .inl he,fun _=>by decide⟩
  ·rw[if_neg he];exact⟨.inr,fun h=>h.resolve_left he⟩
 refine⟨p.inv,p.mono,p.snd,p.cmp,fun hd k' M' h1 h2 h3 h4 h hr=>?_,fun key hkey=>?_,fun key hkey=>p.smono key ((hm key).2 (.inr hkey)),p.dmono⟩
 ·by_cases hkk:k'=k
  ·subst hkk;rcases p.seen _ h4 with h5|⟨k2,M2,h5,h6,h7,h8⟩
   ·rcases (hm _).1 h5 with h5|h5
    ·have hs:=(JjR Fh Fh (Jhb h3 hE.tl) (Jhb hM hE.tl) h5).2;exact p.cmp hd h (Jtu hE hk h3 hM hs hr)
    ·exact p.mono h (hc (p.dfalse hd) k' M' (FH _) h2 h3 h5 h hr)
   ·have:=(JjR Fh Fh (Jhb h3 hE.tl) (Jhb h7 hE.tl) h8).1;omega
  ·exact p.comp hd k' M' Fh h2 h3 h4 h hr
 ·rcases p.seen key hkey with h5|⟨k2,M2,h5,h6,h7,h8⟩
  ·rcases (hm key).1 h5 with h5|h5
   ·exact .inr ⟨k,M,FH _,hk,hM,h5⟩
   ·exact .inl h5
  ·exact .inr ⟨k2,M2,by omega,h6,h7,h8⟩
theorem JlZ (hk:k≤E.order.length)(hM:VldM E ts0 k M)(hs:JInv ts0 s)(hc:dnJ E s=false→Jfy E ts0 k s)(hst:Jfj E k M s=true):PostJ E ts0 k (Jfi E ts0 k M) s s:=by
 have r:=PostJ.refl hs hc;refine⟨r.inv,r.mono,fun h hh=> .inl hh,fun hd h hr=>?_,r.comp,r.seen,r.smono,r.dmono⟩;unfold Jfj at hst;have hd':Jek E.most s.rows.length=false:=hd;rw[hd',Bool.or_false]at hst;exact hc hd k M (FH _) hk hM (of_decide_eq_true hst) h hr
theorem JmZ {E:JE}{ts0:List Tk}(hE:PlanOk E ts0):∀(n k:Nat),k+n=E.order.length→Jpm E ts0 k (Jce E n k)
 | 0,k,hk=>by
  intro M s hM hs hc;unfold Jce;by_cases hst:Jfj E k M s=true
  ·rw[if_pos hst];exact JlZ Fh hM hs hc hst
  ·rw[if_neg hst];obtain rfl:k=E.order.length:=Fh;exact Jnh hE (FH _) hM hc (Jrn hE hM (Jni hs) fun hd=>JlJ hE (FH _) hM (hc hd))
 | n+1,k,hk=>by
  intro M s hM hs hc;unfold Jce;by_cases hst:Jfj E k M s=true
  ·rw[if_pos hst];exact JlZ Fh hM hs hc hst
  ·rw[if_neg hst];exact Jnh hE Fh hM hc (Juz hE Fh (JmZ hE n (k+1) Fh) hM (Jni hs) fun hd=>JlJ hE Fh hM (hc hd))
section
open Go.AE Delphi Val
def bvL (body:List Lt) (l:List Nat) (v:List Nat):Prop:=∃j∈l,(Ja8 body j).kind=1∧∃t∈(Ja8 body j).args,t.kind=1∧t.name=v
structure PlGood (body:List Lt) (s:JbX):Prop where
 nd:s.1.Nodup
 lt:∀i∈s.1,i<body.length
 bnd:∀k i,s.1[k]? = some i→(Ja8 body i).kind≠1→∀t∈(Ja8 body i).args,t.kind=1→bvL body (s.1.take k) t.name
 vs:∀v∈s.2,bvL body s.1 v
variable {body:List Lt}
theorem Jst {l l':List Nat}{v:List Nat}(h:∀x∈l,x∈l')(hb:bvL body l v):bvL body l' v:=by
 obtain⟨j,hj,h2⟩:=hb;exact⟨j,h j hj,h2⟩
theorem PlGood.take {s:JbX}{i:Nat}(h:PlGood body s)(hc:JcC body s i=true):PlGood body (JcE body s i):=by
 obtain⟨h1,h2,h3⟩:=of_decide_eq_true hc;refine⟨?_,fun j hj=>?_,fun k j hk hn t ht hk1=>?_,fun v hv=>?_⟩
 ·show (s.1++[i]).Nodup;rw[List.nodup_append];refine⟨h.nd,by simp,?_⟩;rintro a ha b hb rfl;simp at hb;subst hb;exact h2 ha
 ·rcases List.mem_append.1 (show j∈s.1++[i]from hj)with hj|hj
  ·exact h.lt j hj
  ·simp at hj;subst hj;exact h1
 ·have hk:(s.1++[i])[k]? = some j:=hk;show bvL body ((s.1++[i]).take k) t.name;by_cases hkl:k<s.1.length
  ·rw[F5 hkl]at hk;rw[List.take_append_of_le_length Fh];exact h.bnd k j hk hn t ht hk1
  ·rw[F4 Fh]at hk
   have hk0:k-s.1.length=0:=by
    by_cases h0:k-s.1.length=0
    ·exact h0
    ·rw[List.getElem?_eq_none (by simp;omega)]at hk;cases hk
   rw[hk0]at hk;have hk:=FY hk;subst hk;have hke:k=s.1.length:=Fh;rw[hke,List.take_append_of_le_length (FH _),List.take_length];rcases h3 with h3|h3
   ·exact absurd h3 hn
   ·exact h.vs _ (bndN_full.1 h3 t ht hk1)
 ·rcases List.mem_append.1 (show v∈s.2++Jgu s.2 (Ja8 body i)from hv)with hv|hv
  ·exact Jst (fun x hx=>List.mem_append_left _ hx) (h.vs v hv)
  ·obtain⟨hn,t,ht,hk1,hnm⟩:=mem_newV.1 hv;rcases h3 with h3|h3
   ·exact⟨i,by show i∈s.1++[i];simp,h3,t,ht,hk1,hnm⟩
   ·exact absurd (by rw[←hnm];exact bndN_full.1 h3 t ht hk1) hn
theorem JoC {body:List Lt}{s:JbX}:∀(L:List Nat),L≠[]→∃m∈L,∀j∈L,j≠m→Jcq (Jeu body s m) (Jeu body s j)=true
 | [],h=>absurd rfl h
 | [a],_=>⟨a,by simp,fun j hj hne=>by simp at hj;exact absurd hj hne⟩
 | a::b::L,_=>by
  obtain⟨m,hm,hb⟩:=JoC (b::L) Fj;by_cases ham:a=m
  ·subst ham;refine⟨a,by simp,fun j hj hne=>?_⟩;rcases List.mem_cons.1 hj with rfl|hj
   ·exact absurd rfl hne
   ·exact hb j hj hne
  ·have hne:(Jeu body s a).2.2≠(Jeu body s m).2.2:=ham;rcases Jji hne with h|h
   ·refine⟨a,by simp,fun j hj hne=>?_⟩;rcases List.mem_cons.1 hj with rfl|hj
    ·exact absurd rfl hne
    ·by_cases hjm:j=m
     ·subst hjm;exact h
     ·exact JgR h (hb j hj hjm)
   ·refine⟨m,FO _ hm,fun j hj hne=>?_⟩;rcases List.mem_cons.1 hj with rfl|hj
    ·exact h
    ·exact hb j hj hne
theorem Juc {s:JbX}(h:∃i,JcC body s i=true):∃i,Jmh body s=some i∧JcC body s i=true:=by
 obtain⟨i,hi⟩:=h
 let L:=(List.range body.length).filter fun i=>JcC body s i
 have hL:∀j,j∈L↔JcC body s j=true:=fun j=>by
  show j∈(List.range body.length).filter (fun i=>JcC body s i)↔_;rw[KI,List.mem_range];exact⟨fun h=>h.2,fun h=>⟨Jgo h,h⟩⟩
 obtain⟨m,hm,hb⟩:=JoC (body:=body) (s:=s) L (fun h0=>by have:=(hL i).2 hi;rw[h0]at this;simp at this);have hmc:=(hL m).1 hm;exact⟨m,Jll ⟨hmc,fun j hj hne=>hb j ((hL j).2 hj) hne⟩,hmc⟩
theorem JiC {r:Rl}(hbd:RBr r)(hs:Jc0 r=true):∀(n:Nat) (s:JbX),PlInv r.body s→PlGood r.body s→s.1.length+n=r.body.length→PlGood r.body (JdL r.body n s)∧(JdL r.body n s).1.length=r.body.length
 | 0,s,hi,hg,hn=>by
  have e:JdL r.body 0 s=s:=rfl;rw[e];exact⟨hg,by simpa using hn⟩
 | n+1,s,hi,hg,hn=>by
  unfold JdL;have hlt:s.1.length<r.body.length:=Fh;rw[if_pos hlt];obtain⟨i,h1,h2⟩:=Juc (Jja hs hi hlt);rw[h1];exact JiC hbd hs n (JcE r.body s i) (hi.take (Jgo h2) hbd.args) (hg.take h2) (by simp only[JcE,FE,Kb];omega)
variable {first:Int}
theorem JhM {r:Rl}(hbd:RBr r)(h:Jdq r first):PlGood r.body (Jby r first)∧(Jby r first).1.length=r.body.length:=by
 unfold Jby;have hl:=JhW r.body first
 have hg:PlGood r.body (JcU r.body first)∧(JcU r.body first).1.length≤r.body.length:=by
  unfold JcU;have e0:PlGood r.body ([],[]):=⟨by simp,by simp,by simp,by simp⟩;by_cases h0:0≤first
  ·rw[if_pos h0];have:=h.2.2.1;refine⟨e0.take (decide_eq_true ⟨by omega,by simp,.inl (h.2.2.2 h0)⟩),?_⟩;simp only[JcE,List.nil_append,Kb];omega
  ·rw[if_neg h0];exact⟨e0,Nat.zero_le _⟩
 exact JiC hbd h.1 _ _ (JkR hbd h) hg.1 Fh
theorem Jnw {r:Rl}(hbd:RBr r)(h:Jdq r first):∀i,i<r.body.length→i∈(Jby r first).1:=by
 obtain⟨hg,hl⟩:=JhM hbd h;intro i hi;refine Classical.byContradiction fun hn=>?_;have:(Jby r first).1.length≤((List.range r.body.length).erase i).length:=JeO hg.nd fun c hc=>(List.mem_erase_of_ne (by rintro rfl;exact hn hc)).2 (List.mem_range.2 (hg.lt c hc));rw[List.length_erase_of_mem (List.mem_range.2 hi),List.length_range]at this;omega
theorem JsY (ts:List Tk)(t:Tm):∃y,Jej ts t=ts++y:=by
 unfold Jej;split
 ·exact⟨[],by simp⟩
 ·unfold idT;split
  ·split
   ·exact⟨[],by simp⟩
   ·exact⟨_,rfl⟩
  ·exact⟨[],by simp⟩
theorem JjQ:∀(l:List Tm) (ts:List Tk),∃y,JcK ts l=ts++y
 | [],ts=>⟨[],by simp[JcK]⟩
 | t::l,ts=>by
  obtain⟨y,hy⟩:=JsY ts t;obtain⟨z,hz⟩:=JjQ l (Jej ts t);refine⟨y++z,?_⟩;show JcK (Jej ts t) l=_;rw[hz,hy,F6]
theorem Jhz:∀(b:List Lt) (ts:List Tk),∃y,Jdh ts b=ts++y
 | [],ts=>⟨[],by simp[Jdh]⟩
 | l::b,ts=>by
  obtain⟨y,hy⟩:=JjQ l.args ts;obtain⟨z,hz⟩:=Jhz b (JcK ts l.args);refine⟨y++z,?_⟩;show Jdh (JcK ts l.args) b=_;rw[hz,hy,F6]
structure TsGood (ts:List Tk):Prop where
 nd:ts.Nodup
 may:∀c∈ts,Jbd c=true
variable {ts:List Tk}
theorem TsGood.id (h:TsGood ts)(c:Tk):TsGood (idT ts c).2:=by
 unfold idT;split
 ·rename_i hm;split
  ·exact h
  ·rename_i hn;refine⟨?_,fun d hd=>?_⟩
   ·show (ts++[c]).Nodup;rw[List.nodup_append];refine⟨h.nd,by simp,?_⟩;rintro a ha b hb rfl;simp at hb;subst hb;exact hn ha
   ·rcases List.mem_append.1 hd with hd|hd
    ·exact h.may d hd
    ·simp at hd;subst hd;exact hm
 ·exact h
theorem TsGood.idL:∀{l:List Tm} {ts:List Tk},TsGood ts→TsGood (JcK ts l)
 | [],ts,h=>h
 | t::l,ts,h=>by
  show TsGood (JcK (Jej ts t) l);refine TsGood.idL ?_;unfold Jej;split
  ·exact h
  ·exact h.id _
theorem TsGood.idB:∀{b:List Lt} {ts:List Tk},TsGood ts→TsGood (Jdh ts b)
 | [],ts,h=>h
 | l::b,ts,h=>TsGood.idB (b:=b) h.idL
theorem JsZ {t:Tm}(hk:t.kind≠1)(hm:Jbd (Jbb t)=true):Jbb t∈Jej ts t:=by
 unfold Jej;rw[if_neg hk];unfold idT;rw[if_pos hm];split
 ·assumption
 ·exact List.mem_append_right _ Fj
theorem Jm6:∀{l:List Tm} {ts:List Tk} {t:Tm},t∈l→t.kind≠1→Jbd (Jbb t)=true→Jbb t∈JcK ts l
 | u::l,ts,t,ht,hk,hm=>by
  show Jbb t∈JcK (Jej ts u) l;rcases List.mem_cons.1 ht with rfl|ht
  ·obtain⟨y,hy⟩:=JjQ l (Jej ts t);rw[hy];exact List.mem_append_left _ (JsZ hk hm)
  ·exact Jm6 ht hk hm
theorem JjP:∀{b:List Lt} {ts:List Tk} {l:Lt} {t:Tm},l∈b→t∈l.args→t.kind≠1→Jbd (Jbb t)=true→Jbb t∈Jdh ts b
 | m::b,ts,l,t,hl,ht,hk,hm=>by
  show Jbb t∈Jdh (JcK ts m.args) b;rcases List.mem_cons.1 hl with rfl|hl
  ·obtain⟨y,hy⟩:=Jhz b (JcK ts l.args);rw[hy];exact List.mem_append_left _ (Jm6 ht hk hm)
  ·exact JjP hl ht hk hm
theorem Jgh {b:List Lt}{i:Nat}(h:i<b.length):Ja8 b i∈b:=by
 unfold Ja8;rw[FB h];exact KE h
structure RowsIn (ts:List Tk) (dq:Option (Nat×List (List Int))) (sets:List Nat→Option (Nat×List (List Int))):Prop where
 rl:∀nm x,(dq=some x∨sets nm=some x)→∀r∈x.2,r.length=x.1∧∀n∈r,1≤n∧n≤(ts.length:Int)
theorem Jv9 {r:Rl}{most:Int}{dq:Option (Nat×List (List Int))}{sets:List Nat→Option (Nat×List (List Int))}(hb:SomeB r dq sets)(hm:∀t∈r.head.args,t.kind≠1→Jbd (Jbb t)=true)(hr:RowsIn ts dq sets)(hok:Jdq r first)(hts:ts.length≤60000):PlanOk (Jc7 r first dq sets most) (Jdh ts r.body):=by
 obtain⟨hg,hl⟩:=JhM hb.bd hok;have hall:=Jnw hb.bd hok;have hb7:=hb.bd.body;have hil:=JhA (ts:=ts) (n:=5) hb.bd.args
 have hpl:∀k,k<(Jby r first).1.length→(Jby r first).1[k]? = some (JcN (Jc7 r first dq sets most) k):=fun k hk=>by
  show _=some ((Jby r first).1.getD k 0);rw[List.getD_eq_getElem?_getD,FB hk];rfl
 have hplt:∀k,k<(Jby r first).1.length→JcN (Jc7 r first dq sets most) k<r.body.length:=fun k hk=>hg.lt _ (FI (hpl k hk));have hlit:∀k,Jbv (Jc7 r first dq sets most) k=Ja8 r.body (JcN (Jc7 r first dq sets most) k):=fun k=>rfl;have hlm:∀k,k<(Jby r first).1.length→Jbv (Jc7 r first dq sets most) k∈r.body:=fun k hk=>by rw[hlit];exact Jgh (hplt k hk)
 have hbv:∀k,k≤(Jby r first).1.length→∀v,bvL r.body ((Jby r first).1.take k) v→bvK (Jc7 r first dq sets most) k v:=by
  rintro k hk v ⟨j,hj,h1,h2⟩;obtain⟨m,hm⟩:=List.getElem?_of_mem hj
  have hmk:m<k:=by
   have:=(List.getElem?_eq_some_iff.1 hm).1;rw[FU]at this;omega
  rw[Kt hmk]at hm;have:=hpl m Fh;rw[hm]at this;have:=FY this;refine⟨m,hmk,?_⟩;rw[hlit,←this];exact⟨h1,h2⟩
 refine⟨fun k hk t ht h=>⟨JjP (hlm k hk) ht h (hb.bc _ (hlm k hk) t ht h).2,(hb.bc _ (hlm k hk) t ht h).2⟩,fun k hk hn t ht h1=>hbv k (KH hk) _ (hg.bnd k _ (hpl k hk) hn t ht h1),fun t ht h1=>?_,hm,fun k hk x hx r' hr'=>?_,fun k hk v=>?_,fun k hk h1 h2=>(hb.bk _ (hlm k hk) h1 h2).2.2,?_,by omega⟩
 ·have hn:t.name∈JdH r:=mem_rNeed.2 (.inl ⟨t,ht,h1,rfl⟩);obtain⟨y,hy,hyk,u,hu,hu1,hun⟩:=mem_rBound.1 (of_decide_eq_true (List.all_eq_true.1 hok.1 _ hn));obtain⟨j,hj⟩:=List.getElem?_of_mem hy;have hjl:j<r.body.length:=(List.getElem?_eq_some_iff.1 hj).1;have:=hbv (Jby r first).1.length (FH _) t.name ⟨j,by rw[List.take_length];exact hall j hjl,by rw[JbN hj];exact hyk,u,by rw[JbN hj];exact hu,hu1,hun⟩;exact this
 ·have hx:(if Int.ofNat (JcN (Jc7 r first dq sets most) k)=first then dq else sets (Ja8 r.body (JcN (Jc7 r first dq sets most) k)).name)=some x:=hx
  have:r'.length=x.1∧∀n∈r',1≤n∧n≤(ts.length:Int):=by
   split at hx
   ·exact hr.rl [] x (.inl hx) r' hr'
   ·exact hr.rl _ x (.inr hx) r' hr'
  obtain⟨y,hy⟩:=Jhz r.body ts;refine⟨this.1,fun n hn=>⟨(this.2 n hn).1,?_⟩⟩;have:=(this.2 n hn).2;rw[hy,FE];omega
 ·have hk:k≤(Jby r first).1.length:=hk
  have e:Jff (Jc7 r first dq sets most) k=JcD r.head r.body (Jby r first).1 k:=by
   show ((List.range ((Jby r first).1.length+1)).map (JcD r.head r.body (Jby r first).1)).getD k []=_;rw[List.getD_eq_getElem?_getD,F7,List.getElem?_range Fh];rfl
  rw[e];unfold JcD;rw[JgG];unfold JkG;constructor
  ·rintro⟨t,ht,h1,h2⟩;rcases List.mem_append.1 ht with ht|ht
   ·exact .inl ⟨t,ht,h1,h2⟩
   ·obtain⟨i,hi,ht⟩:=List.mem_flatMap.1 ht;obtain⟨m,hm⟩:=List.getElem?_of_mem hi;rw[Kr]at hm;have hml:k+m<(Jby r first).1.length:=(List.getElem?_eq_some_iff.1 hm).1;have:=hpl (k+m) hml;rw[hm]at this;have:=FY this;exact .inr ⟨k+m,by omega,hml,t,by rw[hlit,←this];exact ht,h1,h2⟩
  ·rintro (⟨t,ht,h1,h2⟩|⟨j,hj,hjl,t,ht,h1,h2⟩)
   ·exact⟨t,List.mem_append_left _ ht,h1,h2⟩
   ·refine⟨t,List.mem_append_right _ (List.mem_flatMap.2 ⟨_,?_,by rw[hlit]at ht;exact ht⟩),h1,h2⟩;have:=hpl j hjl;refine FI (i:=j-k) ?_;rw[Kr];have e2:k+(j-k)=j:=Fh;rw[e2];exact this
 ·show (Jby r first).1.length≤100;omega
end
section
open Go.AE Delphi Val
abbrev Sg:=List Nat→Tk
def Jcb (σ:Sg) (t:Tm):Tk:=if t.kind=1 then σ t.name else Jbb t
def fsT (ts:List Tk) (q:Option (Nat×List (List Int))) (args:List Tk):Prop:=∃x r,q=some x∧r∈x.2∧args=r.map (Jbq ts)
def JjD (σ:Sg) (l:Lt):Bool:=match l.args with
 | [a,b]=>JcT l.kind (Jcb σ a) (Jcb σ b)
 | _=>false
def Jfw (F:List Tk→Prop) (l:Lt) (σ:Sg):Prop:=if l.kind=1 then F (l.args.map (Jcb σ))else if l.kind=2 then ¬F (l.args.map (Jcb σ))else JjD σ l=true
def Ji5 (r:Rl) (F:Nat→List Tk→Prop) (h:List Tk):Prop:=∃σ:Sg,(∀i,i<r.body.length→Jfw (F i) (Ja8 r.body i) σ)∧h=r.head.args.map (Jcb σ)
variable {ts:List Tk}
theorem JiM {n:Int}(h1:1≤n)(h2:n≤(ts.length:Int)):Jbq ts n∈ts:=by
 unfold Jbq;rw[if_neg Fh,List.getD_eq_getElem?_getD,FB (show n.toNat-1<ts.length by omega)];exact KE _
theorem Jvb:Jbd zTk=false:=rfl
theorem JiL (hg:TsGood ts){m n:Int}(h1:1≤n)(h2:n≤(ts.length:Int))(h:Jbq ts m=Jbq ts n):m=n:=by
 have hm:=JiM h1 h2
 have hr:1≤m∧m≤(ts.length:Int):=by
  refine Classical.byContradiction fun hc=>?_
  have:Jbq ts m=zTk:=by
   unfold Jbq;by_cases h0:m<1
   ·rw[if_pos h0]
   ·rw[if_neg h0,List.getD_eq_getElem?_getD,List.getElem?_eq_none Fh];rfl
  rw[this]at h;have:=hg.may _ (h▸hm);rw[Jvb]at this;cases this
 unfold Jbq at h;rw[if_neg Fh,if_neg Fh,List.getD_eq_getElem?_getD,List.getD_eq_getElem?_getD,FB (show m.toNat-1<ts.length by omega),FB (show n.toNat-1<ts.length by omega)]at h;have h:ts[m.toNat-1]'(by omega)=ts[n.toNat-1]'(by omega):=h;have hp:=List.pairwise_iff_getElem.1 hg.nd;rcases Nat.lt_trichotomy (m.toNat-1) (n.toNat-1)with hl|hl|hl
 ·exact absurd h (hp _ _ Fh Fh hl)
 ·omega
 ·exact absurd h.symm (hp _ _ Fh Fh hl)
theorem Jk4 {ts y:List Tk}(hg:TsGood (ts++y)){ν:Nv}:∀(args:List Tm) (r:List Int),(∀t∈args,t.kind≠1→Jbb t∈ts++y)→(∀n∈r,1≤n∧n≤(ts.length:Int))→(r=args.map (Jd4 (ts++y) ν)↔args.map (Jc9 (ts++y) ν)=r.map (Jbq ts))
 | [],r,_,_=>by
  cases r with
  | nil=>simp
  | cons n r=>simp
 | t::args,[],_,_=>by simp
 | t::args,n::r,hc,hr=>by
  have ih:=Jk4 hg (ν:=ν) args r (fun u hu=>hc u (FO _ hu)) fun m hm=>hr m (FO _ hm);obtain⟨n1,n2⟩:=hr n Fj;have n3:n≤((ts++y).length:Int):=by rw[FE];omega
  simp only[Kv,List.cons.injEq];rw[ih]
  have e:n=Jd4 (ts++y) ν t↔Jc9 (ts++y) ν t=Jbq ts n:=by
   rw[←JdV (x:=y) n1 n2];unfold Jd4 Jc9;by_cases hk:t.kind=1
   ·rw[if_pos hk,if_pos hk];constructor
    ·intro h;rw[←h]
    ·intro h;exact (JiL hg n1 n3 h).symm
   ·rw[if_neg hk,if_neg hk];have hp:=(JiN (hc t Fj hk)).1;constructor
    ·intro h;rw[h,hp]
    ·intro h;rw[←hp]at h;exact (JiL hg n1 n3 h).symm
  rw[e]
variable {q:Option (Nat×List (List Int))}
theorem Jv8 {y:List Tk}(hg:TsGood (ts++y))(hq:∀x,q=some x→∀r∈x.2,∀n∈r,1≤n∧n≤(ts.length:Int)){args:List Tm}(hc:∀t∈args,t.kind≠1→Jbb t∈ts++y): inN q (args.map (Jd4 (ts++y) ν))↔fsT ts q (args.map (Jc9 (ts++y) ν)):=by
 constructor
 ·rintro⟨x,hx,hm⟩;exact⟨x,_,hx,hm,(Jk4 hg args _ hc (hq x hx _ hm)).1 rfl⟩
 ·rintro⟨x,r,hx,hm,h⟩;have:=(Jk4 hg args r hc (hq x hx r hm)).2 h;exact⟨x,hx,by rw[←this];exact hm⟩
theorem JvE (hq:∀x,q=some x→∀r∈x.2,∀n∈r,1≤n∧n≤(ts.length:Int)){args:List Tk}(h:fsT ts q args):∀c∈args,c∈ts:=by
 obtain⟨x,r,hx,hr,rfl⟩:=h;intro c hc;obtain⟨n,hn,rfl⟩:=List.mem_map.1 hc;have:=hq x hx r hr n hn;exact JiM this.1 this.2
theorem JiG {P:List Tk→Prop}(hP:∀ts c,P ts→P (idT ts c).2)(M:Vm):∀(l:List Tm) (s:List Int×List Tk),P s.2→P (l.foldl (JcO M) s).2
 | [],s,h=>h
 | t::l,s,h=>by
  rw[Ku];refine JiG hP M l _ ?_;unfold JcO;split
  ·exact h
  ·exact hP _ _ h
theorem JkL {P:List Tk→Prop}{rec:Vm→JS→JS}(h:∀M s,P s.ts→P (rec M s).ts)(l:Lt)(M:Vm):∀(rows:Fy) (s:JS),P s.ts→P (Jb3 rec l M rows s).ts
 | [],s,hs=>hs
 | r::rows,s,hs=>by
  unfold Jb3;rw[Ku];refine JkL h l M rows _ ?_;split
  ·exact h _ _ hs
  ·exact hs
theorem Jf7 {P:List Tk→Prop}(hP:∀ts c,P ts→P (idT ts c).2)(E:JE):∀(n k:Nat) (M:Vm) (s:JS),P s.ts→P (Jce E n k M s).ts
 | 0,k,M,s,h=>by
  unfold Jce;split
  ·exact h
  ·exact JiG hP M _ _ h
 | n+1,k,M,s,h=>by
  unfold Jce;split
  ·exact h
  ·unfold goJ;have h1:P (Jbk M (JeG E k M s).ts (Jbv E k).args).2:=JiG hP M _ _ h;split
   ·exact JkL (fun M s hs=>Jf7 hP E n (k+1) M s hs) _ _ _ _ h1
   split
   ·split
    ·exact h1
    ·exact Jf7 hP E n (k+1) _ _ h1
   ·split
    ·exact Jf7 hP E n (k+1) _ _ h
    ·exact h
theorem JtH {r:Rl}{first most:Int}{dq:Option (Nat×List (List Int))}{sets:List Nat→Option (Nat×List (List Int))}(hb:SomeB r dq sets)(hm:∀t∈r.head.args,t.kind≠1→Jbd (Jbb t)=true)(hr:RowsIn ts dq sets)(hok:Jdq r first)(hts:ts.length≤60000)(hg:TsGood ts): (∃y,(JbV r first dq sets most ts).ts=ts++y)∧TsGood (JbV r first dq sets most ts).ts∧(∀x∈(JbV r first dq sets most ts).rows,∀n∈x,1≤n∧n≤((JbV r first dq sets most ts).ts.length:Int))∧ (∀h∈Jef (JbV r first dq sets most ts),Ji5 r (fun i=>fsT ts (if Int.ofNat i=first then dq else sets (Ja8 r.body i).name)) h)∧ (Jek most (JbV r first dq sets most ts).rows.length=false→∀h,Ji5 r (fun i=>fsT ts (if Int.ofNat i=first then dq else sets (Ja8 r.body i).name)) h→h∈Jef (JbV r first dq sets most ts)):=by
 have hE:=Jv9 (most:=most) hb hm hr hok hts;obtain⟨y,hy⟩:=Jhz r.body ts;have hg0:TsGood (ts++y):=by rw[←hy];exact hg.idB
 have p:=JmZ hE (Jby r first).1.length 0 (FV _) [] ⟨Jdh ts r.body,[],[]⟩
  ⟨fun v=>⟨fun⟨n,h⟩=>by simp[Ja1]at h,fun⟨j,hj,_⟩=>by omega⟩,fun v n h=>by simp[Ja1]at h⟩ ⟨⟨[],by simp⟩,by simp⟩ fun _ k M _ _ _ h=>by simp[Jbt,Ja1]at h
 have hq:∀i,∀x,(if Int.ofNat i=first then dq else sets (Ja8 r.body i).name)=some x→∀r∈x.2,∀n∈r,1≤n∧n≤(ts.length:Int):=by
  intro i x hx r' hr';split at hx
  ·exact (hr.rl [] x (.inl hx) r' hr').2
  ·exact (hr.rl _ x (.inr hx) r' hr').2
 have hcc:∀l∈r.body,∀t∈l.args,t.kind≠1→Jbb t∈ts++y:=fun l hl t ht hk=>by rw[←hy];exact JjP hl ht hk (hb.bc l hl t ht hk).2
 obtain⟨hgd,hgl⟩:=JhM hb.bd hok;have hall:=Jnw hb.bd hok
 have hpl:∀k,k<(Jby r first).1.length→(Jby r first).1[k]? = some (JcN (Jc7 r first dq sets most) k):=fun k hk=>by
  show _=some ((Jby r first).1.getD k 0);rw[List.getD_eq_getElem?_getD,FB hk];rfl
 have hlit:∀(ν:Nv) (σ:Sg) (i:Nat),i<r.body.length→(∀t∈(Ja8 r.body i).args,Jc9 (ts++y) ν t=Jcb σ t)→(Jgy (ts++y) ((Jc7 r first dq sets most).sets i) (Ja8 r.body i) ν↔Jfw (fsT ts (if Int.ofNat i=first then dq else sets (Ja8 r.body i).name)) (Ja8 r.body i) σ):=by
  intro ν σ i hi hv;have e1:(Ja8 r.body i).args.map (Jc9 (ts++y) ν)=(Ja8 r.body i).args.map (Jcb σ):=List.map_congr_left hv;have e2:=Jv8 hg0 (ν:=ν) (hq i) (hcc _ (Jgh hi))
  have e3:Jhq (ts++y) ν (Ja8 r.body i)=JjD σ (Ja8 r.body i):=by
   unfold Jhq JjD;cases ha:(Ja8 r.body i).args with
   | nil=>rfl
   | cons a l =>
    cases l with
    | nil=>rfl
    | cons b l =>
     cases l with
     | nil =>
      simp only;rw[hv a (by rw[ha];simp),hv b (by rw[ha];simp)]
     | cons c l=>rfl
  rw[e1]at e2;unfold Jgy Jfw;rw[e3];show (if _ then inN (if Int.ofNat i=first then dq else sets (Ja8 r.body i).name) _ else if _ then ¬inN (if Int.ofNat i=first then dq else sets (Ja8 r.body i).name) _ else _)↔_;rw[e2]
 have hres:∀h,Jfi (Jc7 r first dq sets most) (ts++y) 0 [] h↔Ji5 r (fun i=>fsT ts (if Int.ofNat i=first then dq else sets (Ja8 r.body i).name)) h:=by
  intro h;constructor
  ·rintro⟨ν,_,hs,rfl⟩;refine⟨fun v=>Jbq (ts++y) (ν v),fun i hi=>?_,rfl⟩;obtain⟨k,hk⟩:=List.getElem?_of_mem (hall i hi);have hkl:k<(Jby r first).1.length:=(List.getElem?_eq_some_iff.1 hk).1;have hpk:=hpl k hkl;rw[hk]at hpk;have hpk:=FY hpk;have:=hs k (Nat.zero_le _) hkl;have e:Jbv (Jc7 r first dq sets most) k=Ja8 r.body i:=by rw[hpk];rfl
   rw[e,←hpk]at this;exact (hlit ν _ i hi fun t _=>rfl).1 this
  ·rintro⟨σ,hs,rfl⟩
   let ν:Nv:=fun v=>Int.ofNat (Jcr (ts++y) (σ v))
   have hatom:∀l∈r.body,l.kind=1→∀t∈l.args,t.kind=1→σ t.name∈ts++y:=by
    intro l hl hk t ht hk1;obtain⟨i,hi⟩:=List.getElem?_of_mem hl;have hil:i<r.body.length:=(List.getElem?_eq_some_iff.1 hi).1;have:=hs i hil;unfold Jfw at this;rw[JbN hi,if_pos hk]at this;have:=JvE (hq i) this (Jcb σ t) (List.mem_map.2 ⟨t,ht,rfl⟩);have e:Jcb σ t=σ t.name:=if_pos hk1;rw[e]at this;exact List.mem_append_left _ this
   have hbv:∀v,v∈Jcy r→σ v∈ts++y:=by
    intro v hv;obtain⟨x,hx,hk,t,ht,hk1,rfl⟩:=mem_rBound.1 hv;exact hatom x hx hk t ht hk1
   have hsafe:∀v,v∈JdH r→v∈Jcy r:=fun v hv=>of_decide_eq_true (List.all_eq_true.1 hok.1 v hv)
   have hval:∀t:Tm,(t.kind=1→σ t.name∈ts++y)→Jc9 (ts++y) ν t=Jcb σ t:=by
    intro t ht;unfold Jc9 Jcb;by_cases hk:t.kind=1
    ·rw[if_pos hk,if_pos hk];exact (JiN (ht hk)).1
    ·rw[if_neg hk,if_neg hk]
   have hlv:∀l∈r.body,∀t∈l.args,t.kind=1→σ t.name∈ts++y:=by
    intro l hl t ht hk1;by_cases hk:l.kind=1
    ·exact hatom l hl hk t ht hk1
    ·exact hbv _ (hsafe _ (mem_rNeed.2 (.inr ⟨l,hl,hk,t,ht,hk1,rfl⟩)))
   refine⟨ν,fun v n h=>by simp[Ja1]at h,fun j _ hj=>?_,?_⟩
   ·have hjl:j<(Jby r first).1.length:=hj;have hlt:=hgd.lt _ (FI (hpl j hjl));exact (hlit ν σ _ hlt fun t ht=>hval t (hlv _ (Jgh hlt) t ht)).2 (hs _ hlt)
   ·exact (List.map_congr_left fun t ht=>hval t fun hk1=>hbv _ (hsafe _ (mem_rNeed.2 (.inl ⟨t,ht,hk1,rfl⟩)))).symm
 rw[hy]at p;have hs':JbV r first dq sets most ts=Jce (Jc7 r first dq sets most) (Jby r first).1.length 0 [] ⟨ts++y,[],[]⟩:=by unfold JbV;rw[hy]
 rw[hs'];obtain⟨x,hx⟩:=p.inv.ts;refine⟨⟨y++x,by rw[hx,F6]⟩,Jf7 (fun ts c h=>h.id c) _ _ _ _ _ hg0,p.inv.rng,fun h hh=>?_,fun hd h hh=>p.cmp hd h ((hres h).2 hh)⟩;rcases p.snd h hh with h1|h1
 ·simp[Jef]at h1
 ·exact (hres h).1 h1
end
end Go.Proofs.YtegdcbdicpfbpaaGreatDoor
set_option linter.unusedSectionVars false
open Go.RowKit
namespace Go.AE
variable [Globs]
section
theorem Jgs:∀(a:List Nat),Jb2 a a=false
 | []=>rfl
 | x::l=>by
  have h1:Nat.blt x x=false:=by rw[JkF];simp
  have h2:Nat.beq x x=true:=Nat.beq_refl x;simp only[Jb2,h1,h2,Jgs l];rfl
theorem Jo1 (a b:Nat):Nat.blt a b=decide (a<b):=JkF
theorem JgS:∀{a b c:List Nat},Jb2 a b=true→Jb2 b c=true→Jb2 a c=true
 | [],b,[],h1,h2=>by cases b<;>simp[Jb2]at h1 h2
 | [],b,z::c,h1,h2=>by simp[Jb2]
 | x::a,[],c,h1,h2=>by simp[Jb2]at h1
 | x::a,y::b,[],h1,h2=>by simp[Jb2]at h2
 | x::a,y::b,z::c,h1,h2=>by
  simp only[Jb2,Bool.or_eq_true,FT,Jo1,decide_eq_true_eq,Nat.beq_eq]at h1 h2 ⊢;rcases h1 with h1|⟨rfl,h1⟩
  ·rcases h2 with h2|⟨rfl,h2⟩
   ·exact .inl Fh
   ·exact .inl h1
  ·rcases h2 with h2|⟨rfl,h2⟩
   ·exact .inl h2
   ·exact .inr ⟨rfl,JgS h1 h2⟩
theorem Jiu:∀{a b:List Nat},Jb2 a b=false→Jb2 b a=false→a=b
 | [],[],_,_=>rfl
 | [],y::b,h,_=>by simp[Jb2]at h
 | x::a,[],_,h=>by simp[Jb2]at h
 | x::a,y::b,h1,h2=>by
  simp only[Jb2,Bool.or_eq_false_iff,Jo1,decide_eq_false_iff_not]at h1 h2;have hxy:x=y:=Fh;subst hxy;have e:Nat.beq x x=true:=Nat.beq_refl _;have g1:=h1.2;have g2:=h2.2;rw[e,Bool.true_and]at g1 g2;rw[Jiu g1 g2]
end
end Go.AE
namespace Go.Proofs.YtegdcbdicpfbpaaGreatDoor
open Go.AE Delphi Val
theorem Ju3 (a:Tk):JbL a a=false:=by
 unfold JbL;split
 ·simp
 ·exact Jgs _
variable {a b:Tk}
theorem JvX {c:Tk}(h1:JbL a b=true)(h2:JbL b c=true):JbL a c=true:=by
 unfold JbL at *;by_cases ha:a.k=3<;>by_cases hb:b.k=3<;>by_cases hc:c.k=3<;>simp only[ha,hb,hc,if_true,if_false,decide_eq_true_eq,FM]at *
 ·omega
 ·exact JgS h1 h2
theorem Jrs {t:Tk}(h:Jbd t=true):(t.k=3∧t.s=[])∨(t.k=2∧t.n=0):=by
 unfold Jbd at h;split at h
 ·rename_i hk;simp only[FT,decide_eq_true_eq]at h;exact .inl ⟨hk,h.1⟩
 ·split at h
  ·rename_i hk;simp only[FT,decide_eq_true_eq]at h;exact .inr ⟨hk,h.1⟩
  ·cases h
theorem Ju4 (ha:Jbd a=true)(hb:Jbd b=true)(h1:JbL a b=false)(h2:JbL b a=false):a=b:=by
 obtain⟨k,s,n⟩:=a;obtain⟨k',s',n'⟩:=b;unfold JbL at h1 h2;have n23:¬((2:Int)=3):=by decide
 rcases Jrs ha with⟨q1,q2⟩|⟨q1,q2⟩<;>rcases Jrs hb with⟨p1,p2⟩|⟨p1,p2⟩<;>simp only at q1 q2 p1 p2<;>subst q1<;>subst q2<;>subst p1<;>subst p2<;>simp only[n23,if_true,if_false,decide_eq_false_iff_not,FM,reduceCtorEq]at h1 h2
 ·have:n=n':=Fh;rw[this]
 ·have:=Jiu h1 h2;rw[this]
def JeE (f:Fc):Prop:=∀t∈f.2,Jbd t=true
theorem Jlj:∀l:List Tk,Jbw l l=false
 | []=>by simp[Jbw]
 | a::l=>by simp only[Jbw,Jjt,if_true];exact Jlj l
theorem Ji0 (f:Fc):JbJ f f=false:=by
 unfold JbJ;rw[if_pos (eqL_iff.2 rfl)];exact Jlj _
theorem Jlk:∀{a b:List Tk},(∀t∈a,Jbd t=true)→(∀t∈b,Jbd t=true)→Jbw a b=false→Jbw b a=false→a=b
 | [],[],_,_,_,_=>rfl
 | [],b::bs,_,_,h,_=>by simp[Jbw]at h
 | a::as',[],_,_,_,h=>by simp[Jbw]at h
 | a::as',b::bs,ha,hb,h1,h2=>by
  simp only[Jbw]at h1 h2;by_cases hs:a=b
  ·subst hs;rw[if_pos (Jjt a)]at h1 h2;rw[Jlk (fun t ht=>ha t (by simp[ht])) (fun t ht=>hb t (by simp[ht])) h1 h2]
  ·have e1:JbW a b=false:=by rw[JfT];exact decide_eq_false hs
   have e2:JbW b a=false:=by rw[JfT];exact decide_eq_false fun h=>hs h.symm
   rw[e1,if_neg Fj]at h1;rw[e2,if_neg Fj]at h2;exact absurd (Ju4 (ha a Fj) (hb b Fj) h1 h2) hs
theorem JoK {a b:Fc}(ha:JeE a)(hb:JeE b)(h1:JbJ a b=false)(h2:JbJ b a=false):a=b:=by
 unfold JbJ at h1 h2;by_cases hn:a.1=b.1
 ·rw[if_pos (eqL_iff.2 hn)]at h1;rw[if_pos (eqL_iff.2 hn.symm)]at h2;exact Prod.ext hn (Jlk ha hb h1 h2)
 ·rw[if_neg fun h=>hn (eqL_iff.1 h)]at h1;rw[if_neg fun h=>hn (eqL_iff.1 h).symm]at h2;exact absurd (Jiu h1 h2) hn
theorem Jfa {a b:Fc}(ha:JeE a)(hb:JeE b):Jcm a b=true↔a=b:=by
 unfold Jcm;constructor
 ·intro h;simp only[FT,Bool.not_eq_true']at h;exact JoK ha hb h.1 h.2
 ·rintro rfl;rw[Ji0];rfl
theorem Jpo {x y:List Tk}:Jbw (a::x) (b::y)=if a=b then Jbw x y else JbL a b:=by
 simp only[Jbw,JfT];by_cases h:a=b<;>simp[h]
theorem Jmz:∀{a b c:List Tk},Jbw a b=true→Jbw b c=true→Jbw a c=true
 | [],[],c,h,_=>by simp[Jbw]at h
 | [],b::bs,[],_,h=>by simp[Jbw]at h
 | [],b::bs,c::cs,_,_=>by simp[Jbw]
 | a::x,[],c,h,_=>by simp[Jbw]at h
 | a::x,b::y,[],_,h=>by simp[Jbw]at h
 | a::x,b::y,c::z,h1,h2=>by
  rw[Jpo]at h1 h2 ⊢;by_cases hab:a=b
  ·subst hab;rw[if_pos rfl]at h1;by_cases hac:a=c
   ·rw[if_pos hac]at h2 ⊢;exact Jmz h1 h2
   ·rw[if_neg hac]at h2 ⊢;exact h2
  ·rw[if_neg hab]at h1;by_cases hbc:b=c
   ·subst hbc;rw[if_neg hab];exact h1
   ·rw[if_neg hbc]at h2;have h3:=JvX h1 h2;by_cases hac:a=c
    ·subst hac;rw[Ju3]at h3;cases h3
    ·rw[if_neg hac];exact h3
theorem JmU {a b c:Fc}(h1:JbJ a b=true)(h2:JbJ b c=true):JbJ a c=true:=by
 unfold JbJ at *;by_cases hab:a.1=b.1
 ·rw[if_pos (eqL_iff.2 hab)]at h1;by_cases hbc:b.1=c.1
  ·rw[if_pos (eqL_iff.2 hbc)]at h2;rw[if_pos (eqL_iff.2 (hab.trans hbc))];exact Jmz h1 h2
  ·rw[if_neg fun h=>hbc (eqL_iff.1 h)]at h2;rw[if_neg fun h=>hbc (hab.symm.trans (eqL_iff.1 h)),hab];exact h2
 ·rw[if_neg fun h=>hab (eqL_iff.1 h)]at h1;by_cases hbc:b.1=c.1
  ·rw[if_neg fun h=>hab ((eqL_iff.1 h).trans hbc.symm),←hbc];exact h1
  ·rw[if_neg fun h=>hbc (eqL_iff.1 h)]at h2;have h3:=JgS h1 h2;by_cases hac:a.1=c.1
   ·rw[hac,Jgs]at h3;cases h3
   ·rw[if_neg fun h=>hac (eqL_iff.1 h)];exact h3
section
open Go.AE Delphi Val
def Je4 (l:List Fc):Prop:=l.Pairwise fun a b=>JbJ a b=true
def JdW (l:List Fc):Prop:=∀f∈l,JeE f
theorem Jlz:∀{a b:List Fc},Je4 a→Je4 b→(∀f,f∈a↔f∈b)→a=b
 | [],[],_,_,_=>rfl
 | [],y::b,_,_,h=>by have:=(h y).2 Fj;simp at this
 | x::a,[],_,_,h=>by have:=(h x).1 Fj;simp at this
 | x::a,y::b,ha,hb,h=>by
  obtain⟨ha1,ha2⟩:=List.pairwise_cons.1 ha;obtain⟨hb1,hb2⟩:=List.pairwise_cons.1 hb
  have hxy:x=y:=by
   rcases List.mem_cons.1 ((h x).1 Fj)with h1|h1
   ·exact h1
   ·rcases List.mem_cons.1 ((h y).2 Fj)with h2|h2
    ·exact h2.symm
    ·have:=JmU (ha1 y h2) (hb1 x h1);rw[Ji0]at this;cases this
  subst hxy;rw[Jlz ha2 hb2 fun f=>?_];constructor
  ·intro hf;rcases List.mem_cons.1 ((h f).1 (FO _ hf))with rfl|h1
   ·have:=ha1 f hf;rw[Ji0]at this;cases this
   ·exact h1
  ·intro hf;rcases List.mem_cons.1 ((h f).2 (FO _ hf))with rfl|h1
   ·have:=hb1 f hf;rw[Ji0]at this;cases this
   ·exact h1
theorem Jt8 (l:List Fc)(f:Fc):JcH l f≤l.length:=(List.takeWhile_sublist _).length_le
variable {l:List Fc} {f x:Fc}
theorem Jt9 {j:Nat}(hj:j<JcH l f)(hx:l[j]? = some x):JbJ x f=true:=by
 unfold JcH at hj
 have:∀(l:List Fc) (j:Nat),j<(l.takeWhile fun x=>JbJ x f).length→l[j]? = some x→JbJ x f=true:=by
  intro l;induction l with
  | nil=>intro j h _;simp at h
  | cons a l ih =>
   intro j h hx;rw[List.takeWhile_cons]at h;cases ha:JbJ a f with
   | false=>rw[ha]at h;simp at h
   | true =>
    rw[ha]at h;cases j with
    | zero=>simp at hx;subst hx;exact ha
    | succ j =>
     simp only[if_true,FC]at h;exact ih j Fh (by simpa using hx)
 exact this l j hj hx
theorem Jsm (hx:l[JcH l f]? = some x):JbJ x f=false:=by
 unfold JcH at hx
 have:∀(l:List Fc),l[(l.takeWhile fun x=>JbJ x f).length]? = some x→JbJ x f=false:=by
  intro l;induction l with
  | nil=>intro h;simp at h
  | cons a l ih =>
   intro h;rw[List.takeWhile_cons]at h;cases ha:JbJ a f with
   | false=>rw[ha]at h;simp at h;subst h;exact ha
   | true=>rw[ha]at h;exact ih (by simpa using h)
 exact this l hx
theorem Jmv (hl:JdW l)(hf:JeE f):x∈JcF l f↔x∈l∨x=f:=by
 refine⟨JhH,fun h=>?_⟩;unfold JcF;cases ha:Je5 l f with
 | true =>
  rw[if_pos rfl];rcases h with h|rfl
  ·exact h
  ·unfold Je5 at ha;cases hk:l[JcH l x]? with
   | none=>rw[hk]at ha;cases ha
   | some y =>
    rw[hk]at ha;have hy:=FI hk;rw[←(Jfa (hl y hy) hf).1 ha];exact hy
 | false =>
  rw[if_neg Fj];rcases h with h|rfl
  ·have:x∈l.take (JcH l f)++l.drop (JcH l f):=by rw[List.take_append_drop];exact h
   rcases List.mem_append.1 this with h1|h1
   ·exact List.mem_append_left _ h1
   ·exact List.mem_append_right _ (FO _ h1)
  ·exact List.mem_append_right _ Fj
theorem Jmu (hl:JdW l)(hf:JeE f):JdW (JcF l f):=fun x hx=>by
 rcases JhH hx with h|rfl
 ·exact hl x h
 ·exact hf
theorem Jlg (hl:JdW l)(hf:JeE f)(hs:Je4 l):Je4 (JcF l f):=by
 unfold JcF;cases ha:Je5 l f with
 | true=>rw[if_pos rfl];exact hs
 | false =>
  rw[if_neg Fj];have hk:=Jt8 l f
  have h1:∀x∈l.take (JcH l f),JbJ x f=true:=by
   intro x hx;obtain⟨j,hj⟩:=List.getElem?_of_mem hx;have hjl:=(List.getElem?_eq_some_iff.1 hj).1;rw[FU]at hjl;rw[Kt Fh]at hj;exact Jt9 Fh hj
  have h2:∀x∈l.drop (JcH l f),JbJ f x=true:=by
   have hd:∀y,l[JcH l f]? = some y→JbJ f y=true:=by
    intro y hy;have hn:=Jsm hy;cases hfy:JbJ f y with
    | true=>rfl
    | false =>
     have:=JoK (hl y (FI hy)) hf hn hfy;subst this;unfold Je5 at ha;rw[hy]at ha;simp only at ha;rw[(Jfa hf hf).2 rfl]at ha;cases ha
   intro x hx;obtain⟨j,hj⟩:=List.getElem?_of_mem hx;rw[Kr]at hj;have hjl:=(List.getElem?_eq_some_iff.1 hj).1;have hkl:JcH l f<l.length:=Fh;have hy:=hd _ (FB hkl);by_cases h0:j=0
   ·subst h0;rw[KF,FB hkl]at hj;rw[←FY hj];exact hy
   ·have:=List.pairwise_iff_getElem.1 hs (JcH l f) (JcH l f+j) hkl hjl Fh;rw[FB hjl]at hj;rw[FY hj]at this;exact JmU hy this
  unfold Je4;rw[List.pairwise_append,List.pairwise_cons];refine⟨hs.sublist (List.take_sublist _ _),⟨h2,hs.sublist (List.drop_sublist _ _)⟩,fun a ha b hb=>?_⟩;rcases List.mem_cons.1 hb with rfl|hb
  ·exact h1 a ha
  ·exact JmU (h1 a ha) (h2 b hb)
def agB (bs:List Bn) (σ:Sg):Prop:=∀v c,Jca v bs=some c→σ v=c
theorem Jfl (v n:List Nat)(c:Tk):∀(bs:List Bn),Jca v (bs++[(n,c)])=match Jca v bs with|some d=>some d|none=>if n=v then some c else none
 | []=>by
  simp only[List.nil_append,Jca,eqL_iff]
 | b::bs=>by
  simp only[List.cons_append,Jca];by_cases h:eqL b.1 v=true
  ·rw[if_pos h,if_pos h]
  ·rw[if_neg h,if_neg h];exact Jfl v n c bs
theorem Ji1 (σ:Sg):∀(ts:List Tm) (cs:List Tk) (bs:List Bn),ts.length=cs.length→((agB bs σ∧ts.map (Jcb σ)=cs)↔∃o,Jdg ts cs bs=some o∧agB o σ)
 | [],cs,bs,hl=>by
  have:cs=[]:=List.length_eq_zero_iff.1 hl.symm;subst this;simp[Jdg]
 | t::ts,[],bs,hl=>by simp at hl
 | t::ts,c::cs,bs,hl=>by
  have hl':ts.length=cs.length:=by simpa using hl
  unfold Jdg;simp only[Kv,List.cons.injEq];cases hw:Jda t bs with
  | none =>
   simp only;rw[←Ji1 σ ts cs _ hl']
   have hk:t.kind=1:=by
    unfold Jda at hw;by_cases hk:t.kind=1
    ·exact hk
    ·rw[if_neg hk]at hw;cases hw
   unfold Jda at hw;rw[if_pos hk]at hw;have ha:Jcb σ t=σ t.name:=if_pos hk;rw[ha]
   have:agB (bs++[(t.name,c)]) σ↔agB bs σ∧σ t.name=c:=by
    constructor
    ·intro h;refine⟨fun v d hv=>h v d (by rw[Jfl,hv]),h t.name c (by rw[Jfl,hw];simp)⟩
    ·rintro⟨h1,h2⟩ v d hv;rw[Jfl]at hv;cases hb:Jca v bs with
     | some e=>rw[hb]at hv;cases hv;exact h1 v _ hb
     | none =>
      rw[hb]at hv;simp only at hv;split at hv
      ·rename_i he;cases hv;rw[←he];exact h2
      ·cases hv
   rw[this];constructor
   ·rintro⟨h1,h2,h3⟩;exact⟨⟨h1,h2⟩,h3⟩
   ·rintro⟨⟨h1,h2⟩,h3⟩;exact⟨h1,h2,h3⟩
  | some u =>
   simp only
   have ha:agB bs σ→Jcb σ t=u:=by
    intro h;unfold Jda at hw;unfold Jcb;by_cases hk:t.kind=1
    ·rw[if_pos hk]at hw ⊢;exact h _ _ hw
    ·rw[if_neg hk]at hw ⊢;exact FY hw
   rw[JfT];by_cases huc:u=c
   ·rw[decide_eq_true huc,if_pos rfl,←Ji1 σ ts cs bs hl'];constructor
    ·rintro⟨h1,_,h3⟩;exact⟨h1,h3⟩
    ·rintro⟨h1,h3⟩;exact⟨h1,(ha h1).trans huc,h3⟩
   ·rw[decide_eq_false huc,if_neg Fj];constructor
    ·rintro⟨h1,h2,_⟩;exact absurd ((ha h1).symm.trans h2) huc
    ·rintro⟨_,h,_⟩;cases h
theorem Jk0:∀(ts:List Tm) (cs:List Tk) (bs o:List Bn),ts.length=cs.length→Jdg ts cs bs=some o→∀v,(∃c,Jca v o=some c)↔((∃c,Jca v bs=some c)∨∃t∈ts,t.kind=1∧t.name=v)
 | [],cs,bs,o,hl,h=>by
  have:cs=[]:=List.length_eq_zero_iff.1 hl.symm;subst this;simp only[Jdg,FQ]at h;subst h;intro v;simp
 | t::ts,[],bs,o,hl,h=>by simp at hl
 | t::ts,c::cs,bs,o,hl,h=>by
  have hl':ts.length=cs.length:=by simpa using hl
  unfold Jdg at h;intro v;cases hw:Jda t bs with
  | none =>
   rw[hw]at h;simp only at h;rw[Jk0 ts cs _ o hl' h v,Jfl]
   have hk:t.kind=1:=by
    unfold Jda at hw;by_cases hk:t.kind=1
    ·exact hk
    ·rw[if_neg hk]at hw;cases hw
   constructor
   ·rintro (⟨d,hd⟩|⟨u,hu,h3⟩)
    ·cases hb:Jca v bs with
     | some e=>exact .inl ⟨e,rfl⟩
     | none =>
      rw[hb]at hd;simp only at hd;split at hd
      ·rename_i he;exact .inr ⟨t,by simp,hk,he⟩
      ·cases hd
    ·exact .inr ⟨u,FO _ hu,h3⟩
   ·rintro (⟨d,hd⟩|⟨u,hu,h3⟩)
    ·exact .inl ⟨d,by rw[hd]⟩
    ·rcases List.mem_cons.1 hu with rfl|hu
     ·left;cases hb:Jca v bs with
      | some e=>exact⟨e,rfl⟩
      | none=>exact⟨c,by simp only;rw[if_pos h3.2]⟩
     ·exact .inr ⟨u,hu,h3⟩
  | some u =>
   rw[hw]at h;simp only at h;split at h
   ·rw[Jk0 ts cs bs o hl' h v];constructor
    ·rintro (h1|⟨x,hx,h3⟩)
     ·exact .inl h1
     ·exact .inr ⟨x,FO _ hx,h3⟩
    ·rintro (h1|⟨x,hx,h3⟩)
     ·exact .inl h1
     ·rcases List.mem_cons.1 hx with rfl|hx
      ·unfold Jda at hw;rw[if_pos h3.1,h3.2]at hw;exact .inl ⟨u,hw⟩
      ·exact .inr ⟨x,hx,h3⟩
   ·cases h
def Jif (facts delta:List Fc) (a:Int) (body:List Lt) (i:Nat) (σ:Sg):Prop:=∀j l,body[j]? = some l→l.kind=1→(l.name,l.args.map (Jcb σ))∈(if Int.ofNat (i+j)=a then delta else facts)
def Jge (body:List Lt) (v:List Nat):Prop:=∃l∈body,l.kind=1∧∃t∈l.args,t.kind=1∧t.name=v
variable {ov:List Fc} {ways:List (List Bn)}
theorem JsO (σ:Sg){l:Lt}:(∃o∈Jcs l ov ways,agB o σ)↔((∃b∈ways,agB b σ)∧(l.name,l.args.map (Jcb σ))∈ov):=by
 unfold Jcs JdQ;constructor
 ·rintro⟨o,ho,ha⟩;obtain⟨b,hb,ho⟩:=List.mem_flatMap.1 ho;obtain⟨f,hf,ho⟩:=List.mem_filterMap.1 ho;unfold JfY at ho;split at ho
  ·rename_i hc;obtain⟨h1,h2⟩:=(Ji1 σ l.args f.2 b hc.2).2 ⟨o,ho,ha⟩;refine⟨⟨b,hb,h1⟩,?_⟩;have:(l.name,l.args.map (Jcb σ))=f:=by rw[h2,eqL_iff.1 hc.1]
   rw[this];exact hf
  ·cases ho
 ·rintro⟨⟨b,hb,h1⟩,hf⟩;obtain⟨o,ho,ha⟩:=(Ji1 σ l.args (l.args.map (Jcb σ)) b (F9 ..).symm).1 ⟨h1,rfl⟩;refine⟨o,List.mem_flatMap.2 ⟨b,hb,List.mem_filterMap.2 ⟨_,hf,?_⟩⟩,ha⟩;unfold JfY;rw[if_pos ⟨eqL_iff.2 rfl,(F9 ..).symm⟩];exact ho
theorem JsN {l:Lt}{P:List Nat→Prop}(h:∀b∈ways,∀v,(∃c,Jca v b=some c)↔P v):∀o∈Jcs l ov ways,∀v,(∃c,Jca v o=some c)↔(P v∨∃t∈l.args,t.kind=1∧t.name=v):=by
 intro o ho v;unfold Jcs JdQ at ho;obtain⟨b,hb,ho⟩:=List.mem_flatMap.1 ho;obtain⟨f,hf,ho⟩:=List.mem_filterMap.1 ho;unfold JfY at ho;split at ho
 ·rename_i hc;rw[Jk0 l.args f.2 b o hc.2 ho v,h b hb v]
 ·cases ho
theorem Jkc {facts delta:List Fc}{a:Int}:∀(body:List Lt) (i:Nat) (ws out:List (List Bn)) (P:List Nat→Prop),Jds facts delta a body i ws=some out→(∀b∈ws,∀v,(∃c,Jca v b=some c)↔P v)→ (∀σ,(∃b∈out,agB b σ)↔((∃b∈ws,agB b σ)∧Jif facts delta a body i σ))∧(∀b∈out,∀v,(∃c,Jca v b=some c)↔(P v∨Jge body v))
 | [],i,ws,out,P,h,hd=>by
  simp only[Jds,FQ]at h;subst h;exact⟨fun σ=>⟨fun hb=>⟨hb,fun j l hj=>by simp at hj⟩,fun hb=>hb.1⟩,fun b hb v=>by rw[hd b hb v];simp[Jge]⟩
 | l::body,i,ws,out,P,h,hd=>by
  have split':∀σ,Jif facts delta a (l::body) i σ↔((l.kind=1→(l.name,l.args.map (Jcb σ))∈(if Int.ofNat i=a then delta else facts))∧Jif facts delta a body (i+1) σ):=by
   intro σ;constructor
   ·intro hs;refine⟨fun hk=>by have:=hs 0 l rfl hk;rwa [KF]at this,fun j m hj hk=>?_⟩;have:=hs (j+1) m (by simpa using hj) hk
    rwa [show i+(j+1)=i+1+j by omega]at this
   ·rintro⟨h1,h2⟩ j m hj hk;cases j with
    | zero=>simp at hj;subst hj;rw[KF];exact h1 hk
    | succ j =>
     rw[show i+(j+1)=i+1+j by omega];exact h2 j m (by simpa using hj) hk
  have vsp:∀v,Jge (l::body) v↔((l.kind=1∧∃t∈l.args,t.kind=1∧t.name=v)∨Jge body v):=by
   intro v;unfold Jge;simp only[FJ,exists_eq_or_imp]
  unfold Jds at h;by_cases hk:l.kind=1
  ·rw[if_pos hk]at h;by_cases hq:4000<(Jcs l (if Int.ofNat i=a then delta else facts) ws).length
   ·rw[if_pos hq]at h;cases h
   ·rw[if_neg hq]at h;obtain⟨h1,h2⟩:=Jkc body (i+1) _ out _ h (JsN hd);refine⟨fun σ=>?_,fun b hb v=>?_⟩
    ·rw[h1 σ,JsO,split' σ];constructor
     ·rintro⟨⟨q1,q2⟩,q3⟩;exact⟨q1,fun _=>q2,q3⟩
     ·rintro⟨q1,q2,q3⟩;exact⟨⟨q1,q2 hk⟩,q3⟩
    ·rw[h2 b hb v,vsp v];constructor
     ·rintro ((q|q)|q)
      ·exact .inl q
      ·exact .inr (.inl ⟨hk,q⟩)
      ·exact .inr (.inr q)
     ·rintro (q|⟨_,q⟩|q)
      ·exact .inl (.inl q)
      ·exact .inl (.inr q)
      ·exact .inr q
  ·rw[if_neg hk]at h;obtain⟨h1,h2⟩:=Jkc body (i+1) ws out P h hd;refine⟨fun σ=>?_,fun b hb v=>?_⟩
   ·rw[h1 σ,split' σ];constructor
    ·rintro⟨q1,q3⟩;exact⟨q1,fun q=>absurd q hk,q3⟩
    ·rintro⟨q1,_,q3⟩;exact⟨q1,q3⟩
   ·rw[h2 b hb v,vsp v];constructor
    ·rintro (q|q)
     ·exact .inl q
     ·exact .inr (.inr q)
    ·rintro (q|⟨q,_⟩|q)
     ·exact .inl q
     ·exact absurd q hk
     ·exact .inr q
theorem JhU {r:Rl}{facts:List Fc}:∀(ws:List (List Bn)) (o:List Fc),JdW o→Je4 o→(∀b∈ws,Jdd r facts b=true→JeE (Jcl r.head b))→ let out:=ws.foldl (fun o b=>if Jdd r facts b then JcF o (Jcl r.head b)else o) o
  JdW out∧Je4 out∧(∀f,f∈out↔(f∈o∨∃b∈ws,Jdd r facts b=true∧f=Jcl r.head b))∧out.length≤o.length+ws.length
 | [],o,h1,h2,h3=>⟨h1,h2,fun f=>by simp,by simp⟩
 | b::ws,o,h1,h2,h3=>by
  simp only[Ku];by_cases hp:Jdd r facts b=true
  ·rw[if_pos hp];have hm:=h3 b Fj hp;obtain⟨q1,q2,q3,q4⟩:=JhU ws _ (Jmu h1 hm) (Jlg h1 hm h2) fun x hx=>h3 x (FO _ hx);refine⟨q1,q2,fun f=>?_,?_⟩
   ·rw[q3 f,Jmv h1 hm];constructor
    ·rintro ((h|h)|⟨x,hx,h⟩)
     ·exact .inl h
     ·exact .inr ⟨b,by simp,hp,h⟩
     ·exact .inr ⟨x,FO _ hx,h⟩
    ·rintro (h|⟨x,hx,h,he⟩)
     ·exact .inl (.inl h)
     ·rcases List.mem_cons.1 hx with rfl|hx
      ·exact .inl (.inr he)
      ·exact .inr ⟨x,hx,h,he⟩
   ·have:=Jjx o (Jcl r.head b);rw[FC];omega
  ·rw[if_neg hp];obtain⟨q1,q2,q3,q4⟩:=JhU ws o h1 h2 fun x hx=>h3 x (FO _ hx);refine⟨q1,q2,fun f=>?_,by rw[FC];omega⟩;rw[q3 f];constructor
   ·rintro (h|⟨x,hx,h⟩)
    ·exact .inl h
    ·exact .inr ⟨x,FO _ hx,h⟩
   ·rintro (h|⟨x,hx,h,he⟩)
    ·exact .inl h
    ·rcases List.mem_cons.1 hx with rfl|hx
     ·exact absurd h hp
     ·exact .inr ⟨x,hx,h,he⟩
theorem Jkd {facts delta:List Fc}{a:Int}:∀(body:List Lt) (i:Nat) (ws out:List (List Bn)),Jds facts delta a body i ws=some out→ws.length≤4000→out.length≤4000
 | [],i,ws,out,h,hl=>by
  simp only[Jds,FQ]at h;subst h;exact hl
 | l::body,i,ws,out,h,hl=>by
  unfold Jds at h;by_cases hk:l.kind=1
  ·rw[if_pos hk]at h;by_cases hq:4000<(Jcs l (if Int.ofNat i=a then delta else facts) ws).length
   ·rw[if_pos hq]at h;cases h
   ·rw[if_neg hq]at h;exact Jkd body _ _ out h Fh
  ·rw[if_neg hk]at h;exact Jkd body _ _ out h hl
theorem Jty {r:Rl}{facts delta:List Fc}{a:Int}{out:List Fc}(h:JgK r facts a delta=some out)(hs:Jc0 r=true)(hfm:JdW facts)(hdm:JdW delta)(hm:∀t∈r.head.args,t.kind≠1→Jbd (Jbb t)=true)(hmb:∀l∈r.body,∀t∈l.args,t.kind≠1→Jbd (Jbb t)=true)(ha:∀i,Int.ofNat i=a→i<r.body.length→(Ja8 r.body i).kind=1): JdW out∧Je4 out∧out.length≤4000∧∀f,f∈out↔∃h,Ji5 r (fun i args=>((Ja8 r.body i).name,args)∈(if Int.ofNat i=a then delta else facts)) h∧f=(r.head.name,h):=by
 unfold JgK at h;cases hw:Jds facts delta a r.body 0 [[]]with
 | none=>rw[hw]at h;cases h
 | some ws =>
  rw[hw]at h;have h:=FY h;obtain⟨w1,w2⟩:=Jkc r.body 0 [[]] ws (fun _=>False) hw (by simp[Jca])
  have w1:∀σ,(∃b∈ws,agB b σ)↔Jif facts delta a r.body 0 σ:=fun σ=>by
   rw[w1 σ];exact⟨fun q=>q.2,fun q=>⟨⟨[],by simp,fun v c hv=>by simp[Jca]at hv⟩,q⟩⟩
  have w2:∀b∈ws,∀v,(∃c,Jca v b=some c)↔Jge r.body v:=fun b hb v=>by rw[w2 b hb v];simp
  have hwl:=Jkd r.body 0 [[]] ws hw Fj
  let sg:List Bn→Sg:=fun b v=>(Jca v b).getD ⟨0,[],0⟩
  have hag:∀b,agB b (sg b):=fun b v c hv=>by show (Jca v b).getD ⟨0,[],0⟩=c;rw[hv];rfl
  have hwo:∀b t,JbU t b=Jcb (sg b) t:=by
   intro b t;unfold JbU Jda Jcb;by_cases hk:t.kind=1
   ·rw[if_pos hk,if_pos hk]
   ·rw[if_neg hk,if_neg hk];rfl
  have hgr:∀b l,Jcl l b=(l.name,l.args.map (Jcb (sg b))):=fun b l=>by
   unfold Jcl;rw[List.map_congr_left fun t _=>hwo b t]
  have hbnd:∀v,v∈Jcy r↔Jge r.body v:=fun v=>mem_rBound;have hsafe:∀v,v∈JdH r→v∈Jcy r:=fun v hv=>of_decide_eq_true (List.all_eq_true.1 hs v hv)
  have hway:∀b∈ws,∀t:Tm,(t.kind=1→Jge r.body t.name)→(t.kind≠1→Jbd (Jbb t)=true)→Jbd (Jcb (sg b) t)=true:=by
   intro b hb t h1 h2;unfold Jcb;by_cases hk:t.kind=1
   ·rw[if_pos hk];obtain⟨l,hl,hlk,u,hu,hu1,hun⟩:=h1 hk;have hat:=(w1 (sg b)).1 ⟨b,hb,hag b⟩;obtain⟨j,hj⟩:=List.getElem?_of_mem hl;have hf:=hat j l hj hlk
    have hfm':JeE (l.name,l.args.map (Jcb (sg b))):=by
     split at hf
     ·exact hdm _ hf
     ·exact hfm _ hf
    have:=hfm' (Jcb (sg b) u) (List.mem_map.2 ⟨u,hu,rfl⟩);have e:Jcb (sg b) u=sg b t.name:=by unfold Jcb;rw[if_pos hu1,hun]
    rwa [e]at this
   ·rw[if_neg hk];exact h2 hk
  have hgm:∀b∈ws,JeE (Jcl r.head b):=by
   intro b hb;rw[hgr];intro c hc;obtain⟨t,ht,rfl⟩:=List.mem_map.1 hc;exact hway b hb t (fun hk=>(hbnd _).1 (hsafe _ (mem_rNeed.2 (.inl ⟨t,ht,hk,rfl⟩)))) (hm t ht)
  obtain⟨q1,q2,q3,q4⟩:=JhU (r:=r) (facts:=facts) ws [] (by simp[JdW]) List.Pairwise.nil fun b hb _=>hgm b hb;have e:Jco r facts ws=out:=h;unfold Jco at e;rw[e]at q1 q2 q3 q4;refine⟨q1,q2,by simp at q4;omega,fun f=>?_⟩;rw[q3 f]
  have hpass:∀b∈ws,Jdd r facts b=true↔∀i,i<r.body.length→(Ja8 r.body i).kind≠1→Jfw (fun args=>((Ja8 r.body i).name,args)∈(if Int.ofNat i=a then delta else facts)) (Ja8 r.body i) (sg b):=by
   intro b hb;unfold Jdd;rw[List.all_eq_true]
   have one:∀i,i<r.body.length→(Ja8 r.body i).kind≠1→(JfD facts b (Ja8 r.body i)=true↔Jfw (fun args=>((Ja8 r.body i).name,args)∈(if Int.ofNat i=a then delta else facts)) (Ja8 r.body i) (sg b)):=by
    intro i hi hk;have hna:¬Int.ofNat i=a:=fun e=>hk (ha i e hi);unfold JfD Jfw;rw[if_neg hk,if_neg hk,if_neg hna];by_cases hk2:(Ja8 r.body i).kind=2
    ·rw[if_pos hk2,if_pos hk2,hgr]
     have hcm:JeE ((Ja8 r.body i).name,(Ja8 r.body i).args.map (Jcb (sg b))):=by
      intro c hc;obtain⟨t,ht,rfl⟩:=List.mem_map.1 hc;have hl:=Jgh hi;exact hway b hb t (fun hk1=>(hbnd _).1 (hsafe _ (mem_rNeed.2 (.inr ⟨_,hl,hk,t,ht,hk1,rfl⟩)))) (hmb _ hl t ht)
     rw[Bool.not_eq_true',List.any_eq_false];constructor
     ·intro h hf;exact absurd ((Jfa (hfm _ hf) hcm).2 rfl) (h _ hf)
     ·intro h x hx hs;rw[(Jfa (hfm _ hx) hcm).1 hs]at hx;exact h hx
    ·rw[if_neg hk2,if_neg hk2];unfold JjD;cases hal:(Ja8 r.body i).args with
     | nil=>exact Iff.rfl
     | cons x l =>
      cases l with
      | nil=>exact Iff.rfl
      | cons y l =>
       cases l with
       | nil=>simp only;rw[hwo,hwo]
       | cons z l=>exact Iff.rfl
   constructor
   ·intro h i hi hk;exact (one i hi hk).1 (h _ (Jgh hi))
   ·intro h l hl;obtain⟨i,hi⟩:=List.getElem?_of_mem hl;have hil:i<r.body.length:=(List.getElem?_eq_some_iff.1 hi).1;have el:=JbN hi;by_cases hk:l.kind=1
    ·unfold JfD;rw[if_pos hk]
    ·have:=(one i hil (by rw[el];exact hk)).2 (h i hil (by rw[el];exact hk))
     rwa [el]at this
  have hatom:∀σ,Jif facts delta a r.body 0 σ↔∀i,i<r.body.length→(Ja8 r.body i).kind=1→Jfw (fun args=>((Ja8 r.body i).name,args)∈(if Int.ofNat i=a then delta else facts)) (Ja8 r.body i) σ:=by
   intro σ;constructor
   ·intro h i hi hk;have hg:r.body[i]? = some (Ja8 r.body i):=by unfold Ja8;rw[FB hi];rfl
    have:=h i _ hg hk;rw[FV]at this;unfold Jfw;rw[if_pos hk];exact this
   ·intro h j l hj hk;have hjl:j<r.body.length:=(List.getElem?_eq_some_iff.1 hj).1;have:=h j hjl (by rw[JbN hj];exact hk);unfold Jfw at this;rw[JbN hj,if_pos hk]at this;rw[FV];exact this
  have satC:∀(F:List Tk→Prop) (l:Lt) (σ τ:Sg),(∀t∈l.args,Jcb σ t=Jcb τ t)→(Jfw F l σ↔Jfw F l τ):=by
   intro F l σ τ h;have e1:l.args.map (Jcb σ)=l.args.map (Jcb τ):=List.map_congr_left h
   have e2:JjD σ l=JjD τ l:=by
    unfold JjD;cases hal:l.args with
    | nil=>rfl
    | cons x m =>
     cases m with
     | nil=>rfl
     | cons y m =>
      cases m with
      | nil=>simp only;rw[h x (by rw[hal];simp),h y (by rw[hal];simp)]
      | cons z m=>rfl
   unfold Jfw;rw[e1,e2]
  constructor
  ·rintro (h|⟨b,hb,hp,rfl⟩)
   ·simp at h
   ·refine⟨_,⟨sg b,fun i hi=>?_,rfl⟩,hgr b r.head⟩;by_cases hk:(Ja8 r.body i).kind=1
    ·exact (hatom _).1 ((w1 _).1 ⟨b,hb,hag b⟩) i hi hk
    ·exact (hpass b hb).1 hp i hi hk
  ·rintro⟨g,⟨σ,hσ,rfl⟩,rfl⟩;obtain⟨b,hb,hab⟩:=(w1 σ).2 ((hatom σ).2 fun i hi _=>hσ i hi)
   have hsame:∀t:Tm,(t.kind=1→Jge r.body t.name)→Jcb σ t=Jcb (sg b) t:=by
    intro t ht;unfold Jcb;by_cases hk:t.kind=1
    ·rw[if_pos hk,if_pos hk];obtain⟨c,hc⟩:=(w2 b hb t.name).2 (ht hk);rw[hab _ _ hc,hag b _ _ hc]
    ·rw[if_neg hk,if_neg hk]
   refine .inr ⟨b,hb,(hpass b hb).2 fun i hi hk=>?_,?_⟩
   ·have hl:=Jgh hi;exact (satC _ _ σ (sg b) fun t ht=>hsame t fun hk1=>(hbnd _).1 (hsafe _ (mem_rNeed.2 (.inr ⟨_,hl,hk,t,ht,hk1,rfl⟩)))).1 (hσ i hi)
   ·rw[hgr,List.map_congr_left fun t ht=>hsame t fun hk1=>(hbnd _).1 (hsafe _ (mem_rNeed.2 (.inl ⟨t,ht,hk1,rfl⟩)))]
end
section
open Go.AE Delphi Val
variable {tab:Tab}
def Jgt (f:Fc):Bool:=f.2.all Jbd&&(Jc5 f.1&&decide (f.2.length≤4))
variable {T:Fw} {w:AW} {f:Fc} {v:V}
theorem JkZ (h:Rd T w v 3 f.2.length (JcY f.2)){i:Nat}{t:Tk}(hi:f.2[i]? = some t):∃b o c,v = .slice b o f.2.length c∧w.load b (o+i*3) 3=some (tkC t):=by
 obtain⟨b,o,c,rfl,_,_,a3⟩:=JfU h hi;exact⟨b,o,c,rfl,a3⟩
variable {xs:List V}
theorem Jqb (C:Codes tab){aw:AW}{K:V→AW→Prop}(hx:FcC T aw f xs)(hl:f.2.length≤1000)(hnl:f.1.length≤1000000)(hnb:∀c∈f.1,c<256)(hok:∀t∈f.2,TkOk t)(h:∀w,Frm (fun _=>False) aw w→K (.bool (Jgt f)) w):WF tab Gk [.agg xs] aw K:=by
 refine Ja7 C.Xh rfl ?_;obtain⟨v,rfl,hx⟩:=hx;obtain⟨w1,e1,c1,r1,m1⟩:=Jb8 aw [.str f.1,v];have hcc:V.cells (.agg [.str f.1,v])=[.str f.1,v]:=rfl;have hlv:=hx.lenV;refine Fz (by simp only[go_sem,JaX,simprocAttr,J1,hcc,e1];rfl) ?_
 refine Jba (fun n fr w=>∃i,fr.get 1=some (.ptr aw.next 0)∧fr.get 3=some (.int .i64 (Int.ofNat i))∧Frm (fun _=>False) w1 w∧(∀t∈f.2.take i,Jbd t=true)∧i≤f.2.length∧n=f.2.length-i)
  (fun fr w=>fr.get 1=some (.ptr aw.next 0)∧Frm (fun _=>False) w1 w∧∀t∈f.2,Jbd t=true) ?_ ?_ f.2.length ⟨0,Fb,Fb,Frm.refl _,by simp,Nat.zero_le _,rfl⟩
 ·rintro n fr w ⟨i,f1,f3,g,hm,hi,rfl⟩ ih out;have c1':=c1.frm g fun h=>h;have a1:w.load aw.next 1 1=some [v]:=CB.ld c1' 1 1 _ rfl;by_cases hlt:i<f.2.length
  case neg =>
   obtain rfl:i=f.2.length:=Fh;rw[List.take_length]at hm;refine Ja2 1000 (by simp only[go_sem,simprocAttr,Ub,f1,f3,a1,hlv,hlt];rfl) ?_;exact out _ _ _ ⟨(Fg f1),g,hm⟩ rfl
  obtain⟨t,ht⟩:∃t,f.2[i]? = some t:=⟨_,FB hlt⟩;obtain⟨b,o,c,rfl,a3⟩:=JkZ ((hx.frm r1 fun _ _ h=>h).frm g fun _ _ h=>h) ht;have hwr:IntKind.wrap .i64 (Int.ofNat i+1)=Int.ofNat (i+1):=Ja3 Fh;refine Fz (by simp only[go_sem,JaX,simprocAttr,Ub,HK,f1,f3,a1,hlt,a3,JcA];rfl) ?_;refine Ja0 Ff Fe ?_;refine Jqc C (hok t (FI ht)) fun w2 g2=>?_;cases hmt:Jbd t with
  | false =>
   have e:Jgt f=false:=by
    unfold Jgt
    have:f.2.all Jbd=false:=by
     rw[List.all_eq_false];exact⟨t,FI ht,by rw[hmt];simp⟩
    rw[this];rfl
   rw[e]at h;refine Fz (by simp only[go_sem,JaX,simprocAttr,HJ];rfl) ?_;refine JaZ ⟨_,by simp only[go_sem,JaX,simprocAttr,J1];rfl,?_⟩;exact h w2 ((r1.tr g).tr g2)
  | true =>
   refine Fz (by simp only[go_sem,JaX,simprocAttr,f3,hwr];rfl) ?_;refine ih _ _ _ Fh ⟨i+1,(Fg f1),Fb,g.tr g2,fun u hu=>?_,by omega,rfl⟩;rw[Jbz ht]at hu;rcases List.mem_append.1 hu with hu|hu
   ·exact hm u hu
   ·simp at hu;subst hu;exact hmt
 ·rintro fr w ⟨f1,g,hm⟩;have c1':=c1.frm g fun h=>h;have a1:w.load aw.next 1 1=some [v]:=CB.ld c1' 1 1 _ rfl;have a0:w.load aw.next 0 1=some [.str f.1]:=CB.ld c1' 0 1 _ rfl;have ha:f.2.all Jbd=true:=List.all_eq_true.2 hm;have e:Jgt f=(Jc5 f.1&&decide (f.2.length≤4)):=by unfold Jgt;rw[ha];rfl
  rw[e]at h;refine Fz (by simp only[go_sem,JaX,simprocAttr,HL,f1,a0];rfl) ?_;refine Ja0 Ff Fe ?_;refine Jo0 C Fh hnb ?_;cases hw:Jc5 f.1 with
  | false =>
   rw[hw]at h;refine JaY 1000 Fe ?_;refine JaZ ⟨_,by simp only[go_sem,JaX,simprocAttr,J1];rfl,?_⟩;exact h w (r1.tr g)
  | true =>
   rw[hw,Bool.true_and]at h
   have hle:decide (Int.ofNat f.2.length≤4)=decide (f.2.length≤4):=by
    by_cases hq:f.2.length≤4
    ·rw[decide_eq_true hq];exact decide_eq_true (by show (f.2.length:Int)≤4;omega)
    ·rw[decide_eq_false hq];exact decide_eq_false (by show ¬((f.2.length:Int)≤4);omega)
   by_cases hq:f.2.length≤4
   ·rw[decide_eq_true hq]at h hle;refine Fz (by simp only[go_sem,JaX,simprocAttr,f1,a1,hlv,hle,hq];rfl) ?_;refine JaZ ⟨_,by simp only[go_sem,JaX,simprocAttr,J1];rfl,?_⟩;exact h w (r1.tr g)
   ·rw[decide_eq_false hq]at h hle;refine Fz (by simp only[go_sem,JaX,simprocAttr,f1,a1,hlv,hle,hq];rfl) ?_;refine JaZ ⟨_,by simp only[go_sem,JaX,simprocAttr,J1];rfl,?_⟩;exact h w (r1.tr g)
def Jc1 (f:Fc):Fc:=(f.1.take 16,(f.2.take 4).map Jem)
def Jfn (out:List Fc) (f:Fc):Bool:=out.all fun x=>!decide (x.1=f.1)||decide (x.2.length=f.2.length)
def JeL (n:Nat) (out:List Fc) (f:Fc):List Fc:=if out.length<n∧(Jgt (Jc1 f)&&Jfn out (Jc1 f))=true then out++[Jc1 f]else out
def Jcc (n:Nat) (l:List Fc):List Fc:=l.foldl (JeL n) []
def FcsB (S T:Fw) (w:AW) (v:V) (l:List Fc):Prop:=∃xss,Bt S w v 2 l.length xss.flatten∧All2 (FcC T w) l xss
variable {S:Fw} {l:List Fc}
theorem FcsB.rd (h:FcsB S T w v l){U:Fw}(h1:∀x,S x→U x)(h2:∀x,T x→U x):Fcs U w v l:=by
 obtain⟨xss,h3,h4⟩:=h;exact⟨xss,h3.rd.mono h1,Jhj h4 fun f xs ⟨v,q1,q2⟩=>⟨v,q1,q2.mono h2⟩⟩
theorem FcsB.frm {R:Fw}{w':AW}(h:FcsB S T w v l)(g:Frm R w w')(h1:∀x,S x→¬R x)(h2:∀x,T x→¬R x):FcsB S T w' v l:=by
 obtain⟨xss,h3,h4⟩:=h;exact⟨xss,h3.frm g h1,Jhj h4 fun f xs q=>q.frm g h2⟩
theorem FcsB.nil:FcsB S T w .nilslice []:=⟨[],.nil,.nil⟩
theorem FcsB.push {U:Fw}(h:FcsB S T w v l)(hf:FcC U w f xs)(hS:∀x,S x→x<w.next)(hT:∀x,T x→¬S x∧x<w.next)(hU:∀x,U x→¬S x∧x<w.next)(hl:l.length≤1000000): ∃v' w' S',(w.fresh xs).appendV 2 40 v 1 xs=some (v',w')∧FcsB S' (fun x=>T x∨U x) w' v' (l++[f])∧Frm S w w'∧Jd0 S S' w w':=by
 obtain⟨xss,h3,h4⟩:=h;have hone:=hf.one;obtain⟨v',w',S',q1,q2,q3,q4⟩:=h3.push (news:=xs) (bytes:=40) hS Fh hone.1 hone.2 Fh Fh;refine⟨v',w',S',q1,⟨xss++[xs],by rw[FE,List.flatten_append];simpa using q2,?_⟩,q3,q4⟩
 have h5:All2 (FcC (fun x=>T x∨U x) w') l xss:=Jhj h4 fun g ys q=>by
  obtain⟨u,q5,q6⟩:=q.frm q3 fun x hx=>(hT x hx).1;exact⟨u,q5,q6.mono fun _ h=> .inl h⟩
 refine h5.snoc ?_;obtain⟨u,q5,q6⟩:=hf.frm q3 fun x hx=>(hU x hx).1;exact⟨u,q5,q6.mono fun _ h=> .inr h⟩
end
end Go.Proofs.YtegdcbdicpfbpaaGreatDoor
