/- A part of the proof. -/
import Derived.Test.YtegdcbdicpfbpaaDoorJxR
import Derived.Test.YtegdcbdicpfbpaaDoorJxI
import Derived.Test.YtegdcbdicpfbpaaDoorJxJ
import Derived.HandedShaped
import Derived.Stop.Joined
open Int renaming ofNat → Fq
open Go.IntKind renaming wrap → KX
set_option linter.unusedVariables false
set_option maxRecDepth 10000
set_option linter.unusedSimpArgs false
namespace Go.Proofs.YtegdcbdicpfbpaaDoor
open Go.AE Delphi Val
variable {tab:Tab}
theorem JpA (C:Codes tab)(I:Bi tab)(P:O0 tab){n m:Nat}{w:AW}{f:Fr}{K:V→AW→Prop}(hn:n≤20)(hm:m≤20)(hF:CxF f n m)(h:∀w',Frm (fun _=>False) w w'→K (.bool true) w'):WS tab [.code Yg] f w (CxK K):=by
 refine Jn1 C hn hm hF fun f1 w1 fv Sf hF1 f6 hfs g1 hSf=>?_;obtain⟨f0,f1'⟩:=hF1;refine Fz (by simp only[go_sem,Hn,Ww];rfl) ?_;refine Hq Ff Fe ?_;refine RZ (s:=crT) C (by decide) fun w2 rv T rs hrs q1 g2 q3=>?_;have hG:∀r∈rs,RG r:=by rw[hrs];exact (NQ _).1
 have hrs4:rs=[crC,crD,crE,crF]:=by rw[hrs];exact Jpz
 clear hrs;have h4:rs.length=4:=by rw[hrs4];rfl
 have hlv:=TC q1;rw[h4]at hlv;have n1:=g1.next;have n2:=g2.next;refine Fz (by simp only[go_sem,Hn,Ul,hlv];rfl) ?_;refine Jn0 C hn hm ⟨(Fg f0),(by simp only[go_sem,Hn,f1']<;>rfl),(Fg f6),Fb⟩ Fb Fb Fb fun f3 hF3 f10 f11=>?_;obtain⟨f0,f1,f6,f9⟩:=hF3;have hmul:KX .i64 (Fq n*Fq m)=Fq (crW n m 0):=Mh (a:=n) (b:=m) (by have:n*m≤20*20:=Nat.mul_le_mul hn hm;omega);have hle:=(Jmx n Fh m Fh).2.2.2.2
 have hsub:KX .i64 (Fq n-Fq (crW n m 2))=Fq (crW n m 3):=by
  have e:Fq n-Fq (crW n m 2)=Fq (crW n m 3):=by
   show (n:Int)-(K7 (Pz m) n:Nat)=((n-K7 (Pz m) n:Nat):Int);omega
  rw[e];have:=Jmw (i:=3) hn hm (by decide);exact Oq (by have:=Int.natCast_nonneg (crW n m 3);show _≤((crW n m 3:Nat):Int);omega) (by show ((crW n m 3:Nat):Int)≤_;omega)
 obtain⟨w3,e3,c3,r3,m3⟩:=Lc w2 [V.int .i64 (Fq (crW n m 0)),.int .i64 (Fq (crW n m 1)),.int .i64 (Fq (crW n m 2)),.int .i64 (Fq (crW n m 3))];have g02:=g1.tr g2
 obtain⟨b,o,c,rfl⟩:∃b o c,rv = .slice b o rs.length c:=by
  rcases RdL.inv q1 (fun a xs h=>h.one.1)with⟨_,h0⟩|⟨b,o,c,e,_⟩
  ·rw[h0]at h4;cases h4
  ·exact⟨b,o,c,e⟩
 refine Fz (by simp only[go_sem,Hn,Uk,f0,f1,f10,f11,hmul,hsub,Hw,HF,over,HC,FC,FD,e3];rfl) ?_;refine Jn2 (K:=K) C I P hn hm hrs4 hG (q1.frm (fun _ _ h=>h.frm r3 fun _ _ h=>h) r3 fun _ _ h=>h) (fun x hx=>by have:=(q3 x hx).2;omega) (hfs.frm (g2.tr r3) fun _ _ h=>h) (fun x hx=>by have:=hSf x hx;omega) c3 (Fg f6) (Fg f9) Fb Fb fun f4 w4 g4=>?_;refine Ho 1000 Fe ?_;refine Hp ⟨_,by simp only[go_sem,Hn,Jv];rfl,?_⟩;exact h _ ((g02.tr r3).tr g4)
theorem Jib (C:Codes tab)(I:Bi tab)(P:O0 tab){n m:Int}{aw:AW}:WF tab Hb [.int .i64 n,.int .i64 m] aw (fun v aw'=>v = .bool true∧Frm (fun _=>False) aw aw'):=by
 refine Hy C.Yh rfl ?_;refine Fz (by simp only[go_sem,Hn,Jv];rfl) ?_;refine Hq Ff Fe ?_;refine Jk4 C I P fun w0 g0=>?_;by_cases h1:n<0
 ·refine Fz (by simp only[go_sem,Hn,J3,Zs,h1];rfl) ?_;refine Hp ⟨_,by simp only[go_sem,Hn,Jv];rfl,?_⟩;exact⟨rfl,g0⟩
 by_cases h2:20<n
 ·refine Fz (by simp only[go_sem,Hn,J3,Zs,h1,h2];rfl) ?_;refine Hp ⟨_,by simp only[go_sem,Hn,Jv];rfl,?_⟩;exact⟨rfl,g0⟩
 by_cases h3:m<0
 ·refine Fz (by simp only[go_sem,Hn,J3,Zs,h1,h2,h3];rfl) ?_;refine Hp ⟨_,by simp only[go_sem,Hn,Jv];rfl,?_⟩;exact⟨rfl,g0⟩
 by_cases h4:20<m
 ·refine Fz (by simp only[go_sem,Hn,J3,Zs,h1,h2,h3,h4];rfl) ?_;refine Hp ⟨_,by simp only[go_sem,Hn,Jv];rfl,?_⟩;exact⟨rfl,g0⟩
 refine Hs 1000 (by simp only[go_sem,Hn,J3,h1,h2,h3,h4];rfl) ?_;obtain⟨a,rfl⟩:∃a:Nat,n=Fq a:=⟨n.toNat,(Int.toNat_of_nonneg Fh).symm⟩;obtain⟨b,rfl⟩:∃b:Nat,m=Fq b:=⟨m.toNat,(Int.toNat_of_nonneg Fh).symm⟩;have ha:a≤20:=by have:¬(20:Int)<(a:Int):=h2;omega
 have hb:b≤20:=by have:¬(20:Int)<(b:Int):=h4;omega
 exact JpA (K:=fun v aw'=>v = .bool true∧Frm (fun _=>False) aw aw') C I P ha hb ⟨Fb,Fb⟩ fun w' g'=>⟨rfl,g0.tr g'⟩
end Go.Proofs.YtegdcbdicpfbpaaDoor
namespace Go.AE
open Go.RowKit Go.ChangeShapes
variable [Globs]
end Go.AE
namespace Go
variable {H:Type} {enc:TypeId×Value→H}
theorem Jfg {a:Assume}{C:Checked}{os:Os}{f:FuncId}{fn:Func}{s:ChangeSpec}{conds:List PathCond}{apart fresh handsOn again:Bool}{X:World→Array Value→Prop}(hX:∀(w w':World) (args:Array Value),w.heap=w'.heap→X w args→X w' args)(own:ownKnob C.prog.godebug=none)(started:os.Started)(noInit:C.prog.inits.idxOf? f=none)(hfn:C.prog.funcs[f]? = some fn)(witness:∃(w:World) (tape:Tape) (i:Input),w.os=os∧(w.forCall tape i).Shaped C.prog∧i.vars=[]∧Input.okWide C.prog (w.forCall tape i) .any w.heap.size f i∧ ((s.pre enc C.prog fn conds apart (w.forCall tape i).memory i.args∧X (w.forCall tape i).memory i.args)∧sizedMet enc C.prog fn (OpenSpec.ofChange s) apart (w.forCall tape i).memory i.args)∧a.holds C.prog (lone (Frame.enter C.prog f i.args .normal) [] (w.forCall tape i)))(contract:∀(W:World) (base:Nat) (args:Array Value) (ds gs:List (DataW H)) (before:List MemPlace), (∀(j:Nat) t v,fn.params[j]? = some t→args[j]? = some v→Value.okWide C.prog W .any base t v)→ DataW.Whole enc C.prog fn.params.toList s.vars apart W args.toList ds gs before→ conds.all (PathCond.test C.prog ⟨fn.params.toList,ds,s.plain.varTypes C.prog,gs⟩)=true→ (DataW.weightsEach C.prog (fn.params.toList++s.plain.varTypes C.prog) (ds++gs)).all (·≤reachBytes)=true→X W args→ W.ShapedOpen C.prog→ a.holds C.prog (lone (Frame.enter C.prog f args .normal) [] W)→ Calls C.prog f args W fun e W'=>∃v,e = .returned v∧s.post enc C.prog fn apart fresh handsOn again W args v W'): ReturnsInHanded a C os f .any (fun w args=>(s.pre enc C.prog fn conds apart w args∧X w args)∧sizedMet enc C.prog fn (OpenSpec.ofChange s) apart w args) (s.post enc C.prog fn apart fresh handsOn again):=by
 refine returnsInHanded_of_calls own started noInit witness ?_;intro w tape i _ hsh _ hok hpre hholds;obtain⟨_,_,_,fn',hfn',_,_,_,_,hval⟩:=hok;have e:fn'=fn:=FX (hfn'.symm.trans hfn);subst e;obtain⟨⟨⟨ds,gs,before,hw,hc⟩,hx⟩,hz⟩:=hpre;have hw':=DataW.Whole.of_heap (w':=w.forCall tape i) (by rfl) hw;refine (contract (w.forCall tape i) w.heap.size i.args ds gs before hval hw' hc (hz.weights hw) (hX _ _ _ (by rfl) hx) hsh hholds).mono fun e W' ⟨v,he,hp⟩=>?_;subst he;exact ChangeSpec.post_blind hp
end Go
