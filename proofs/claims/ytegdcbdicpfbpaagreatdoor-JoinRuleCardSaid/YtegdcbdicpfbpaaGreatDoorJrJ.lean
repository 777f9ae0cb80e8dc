/- A part of the proof. -/
import Derived.Test.YtegdcbdicpfbpaaGreatDoorJrI
import Derived.Test.YtegdcbdicpfbpaaGreatDoorJrH
set_option linter.unusedVariables false
set_option linter.unusedSectionVars false
set_option linter.unusedSimpArgs false
namespace Go.AE
variable [Globs]
inductive SI where
 | code (c:ACode)
 | ops (l:List AOper)
 | endB (id:Nat)
section
variable {tab:Tab}
def KS (tab:Tab):List SI→(Fr→AW→Prop)→AExit→Fr→AW→Prop
 | [],Q=>fun e f w=>match e with
  | .exit _=>False
  | _=>Q f w
 | .endB id::s,Q=>inB id (KS tab s Q)
 | .code c::s,Q=>onw (KS tab s Q) (fun f w=>WX tab c f w (KS tab s Q))
 | .ops l::s,Q=>onw (KS tab s Q) (fun f w=>WO tab l f w (fun f w=>KS tab s Q .normal f w))
def WS (tab:Tab) (s:List SI) (fr:Fr) (aw:AW) (Q:Fr→AW→Prop):Prop:=KS tab s Q .normal fr aw
def JdS (id:Nat):List SI→Option (List SI)
 | []=>none
 | .endB id'::s=>if id=id' then some s else JdS id s
 | .code _::s=>JdS id s
 | .ops _::s=>JdS id s
theorem Jke {Q:Fr→AW→Prop}{f:Fr}{w:AW}(h:Q f w):∀{s:List SI},KS tab s Q .ret f w
 | []=>h
 | .endB id::s=>Jke (s:=s) h
 | .code c::s=>Jke (s:=s) h
 | .ops l::s=>Jke (s:=s) h
theorem JiR {id:Nat}{Q:Fr→AW→Prop}{f:Fr}{w:AW}:∀{s s':List SI},JdS id s=some s'→WS tab s' f w Q→KS tab s Q (.exit id) f w
 | [],s',h,_=>by cases h
 | .endB id'::s,s',h,hw=>by
  simp only[JdS]at h;split at h
  ·rename_i hb;subst hb;cases h;simp only[KS,inB,if_pos];exact hw
  ·rename_i hb;simp only[KS,inB,if_neg hb];exact JiR h hw
 | .code c::s,s',h,hw=>JiR (s:=s) h hw
 | .ops l::s,s',h,hw=>JiR (s:=s) h hw
variable {fr:Fr} {aw:AW} {Q:Fr→AW→Prop}
theorem JdO (h:Q fr aw):WS tab [] fr aw Q:=h
variable {id:Nat} {s:List SI}
theorem Jt3 (h:WS tab s fr aw Q):WS tab (.endB id::s) fr aw Q:=h
theorem Jt5 (h:WS tab s fr aw Q):WS tab (.code .skip::s) fr aw Q:=by
 show WX tab .skip fr aw _;rw[JoB];exact h
theorem Jvn {a b:ACode}(h:WS tab (.code a :: .code b::s) fr aw Q):WS tab (.code (.seq a b)::s) fr aw Q:=by
 show WX tab (.seq a b) fr aw _;rw[JqF];exact h
theorem Jsh {b:ACode}(h:WS tab (.code b :: .endB id::s) fr aw Q):WS tab (.code (.block id b)::s) fr aw Q:=by
 show WX tab (.block id b) fr aw _;rw[Jmr];exact h
theorem Jsk {b:ACode}(h:WS tab (.code b::s) fr aw Q):WS tab (.code (.scope b)::s) fr aw Q:=by
 show WX tab (.scope b) fr aw _;rw[Jmt];exact h
variable {l:List AOper}
theorem JqE (h:WS tab (.ops l::s) fr aw Q):WS tab (.code (.region l)::s) fr aw Q:=by
 show WX tab (.region l) fr aw _;rw[Jlf];exact h
variable {s':List SI}
theorem Joy (hp:JdS id s=some s')(h:WS tab s' fr aw Q):WS tab (.code (.exit id)::s) fr aw Q:=by
 show WX tab (.exit id) fr aw _;rw[JoA];exact JiR hp h
theorem JaZ (h:Q fr aw):WS tab (.code .ret::s) fr aw Q:=by
 show WX tab .ret fr aw _;rw[Jms];exact Jke h
theorem Jdz {b:ACode}(h:WS tab (.code b :: .code (.loop b)::s) fr aw Q):WS tab (.code (.loop b)::s) fr aw Q:=by
 show WX tab (.loop b) fr aw _;rw[Jt6];exact h
theorem JdJ {b:ACode}(I:Nat→Fr→AW→Prop)(step:∀n f w,I n f w→(∀n' f' w',n'<n→I n' f' w'→WS tab (.code (.loop b)::s) f' w' Q)→WS tab (.code b :: .code (.loop b)::s) f w Q): ∀(n:Nat) {fr:Fr} {aw:AW},I n fr aw→WS tab (.code (.loop b)::s) fr aw Q:=by
 intro n;induction n using Nat.strongRecOn with
 | ind n ih=>intro fr aw hI;exact Jdz (step n fr aw hI fun n' f' w' h1 h2=>ih n' h1 h2)
variable {c:Opd}
theorem Jox {a b:ACode}{t:Bool}(hc:c.ev fr=some (.bool t))(h1:t=true→WS tab (.code a::s) fr aw Q)(h2:t=false→WS tab (.code b::s) fr aw Q):WS tab (.code (.cond c a b)::s) fr aw Q:=by
 show WX tab (.cond c a b) fr aw _;rw[Joz,hc];exact Jsy h1 h2
theorem Jsj {a b:ACode}(hc:c.ev fr=some (.bool true))(h1:WS tab (.code a::s) fr aw Q):WS tab (.code (.cond c a b)::s) fr aw Q:=
 Jox hc (fun _=>h1) (fun h=>by cases h)
theorem Jsi {a b:ACode}(hc:c.ev fr=some (.bool false))(h1:WS tab (.code b::s) fr aw Q):WS tab (.code (.cond c a b)::s) fr aw Q:=
 Jox hc (fun h=>by cases h) (fun _=>h1)
theorem JqD (h:WS tab s fr aw Q):WS tab (.ops []::s) fr aw Q:=by
 show WO tab [] fr aw _;rw[JqC];exact h
variable {o:AOper} {aw1:AW} {v:V}
theorem Jvo (hw:wanted fr o.guard=some true)(ha:aop o.op fr aw=some (.val v,aw1))(h:WS tab (.ops l::s) (Jct fr o.dst v) aw1 Q):WS tab (.ops (o::l)::s) fr aw Q:=by
 show WO tab (o::l) fr aw _;rw[JgX,Jf4,hw,ha];exact h
theorem Jvm (hw:wanted fr o.guard=some true)(ha:aop o.op fr aw=some (.skip,aw1))(h:WS tab (.ops l::s) (Jct fr o.dst .undef) aw1 Q):WS tab (.ops (o::l)::s) fr aw Q:=by
 show WO tab (o::l) fr aw _;rw[JgX,Jf4,hw,ha];exact h
theorem Jt4 (hw:wanted fr o.guard=some false)(h:WS tab (.ops l::s) (Jct fr o.dst .undef) aw Q):WS tab (.ops (o::l)::s) fr aw Q:=by
 show WO tab (o::l) fr aw _;rw[JgX,Jf4,hw];exact h
variable {args:List V}
theorem Ja0 {f:Nat}(hw:wanted fr o.guard=some true)(ha:aop o.op fr aw=some (.call f args,aw1))(h:WF tab f args aw1 (fun v w=>WS tab (.ops l::s) (Jct fr o.dst v) w Q)):WS tab (.ops (o::l)::s) fr aw Q:=by
 show WO tab (o::l) fr aw _;rw[JgX,Jf4,hw,ha];exact .inl h
theorem Ja7 {f:Nat}{K:V→AW→Prop}{af:AFun}(hc:tab.code f=some af)(hn:Nat.ble args.length af.ntmps=true)(h:WS tab [.code af.body] (Jes args 0) aw (fun fr' aw'=>∃vs,Jcv fr' aw' af.results=some vs∧K (JbT vs) aw')):WF tab f args aw K:=by
 refine Jt2 hc (Nat.le_of_ble_eq_true hn) (WX.mono h ?_);intro e f w hk;cases e with
 | normal=>exact⟨.inl rfl,hk⟩
 | ret=>exact⟨.inr rfl,hk⟩
 | exit id=>exact hk.elim
inductive RS where
 | on (s:List SI) (fr:Fr) (aw:AW)
 | none
def Jcd:Nat→List SI→Fr→AW→RS
 | 0,s,fr,aw=>RS.on s fr aw
 | n+1,[],fr,aw=>RS.on [] fr aw
 | n+1,.endB _::s,fr,aw=>Jcd n s fr aw
 | n+1,.ops []::s,fr,aw=>Jcd n s fr aw
 | n+1,.ops (o::l)::s,fr,aw=>match wanted fr o.guard with
  | some true=>match aop o.op fr aw with
   | some (.val v,aw1)=>Jcd n (.ops l::s) (Jct fr o.dst v) aw1
   | some (.skip,aw1)=>Jcd n (.ops l::s) (Jct fr o.dst .undef) aw1
   | _=>RS.on (.ops (o::l)::s) fr aw
  | some false=>Jcd n (.ops l::s) (Jct fr o.dst .undef) aw
  | none=>RS.on (.ops (o::l)::s) fr aw
 | n+1,.code c::s,fr,aw=>match c with
  | .skip=>Jcd n s fr aw
  | .seq a b=>Jcd n (.code a :: .code b::s) fr aw
  | .block id b=>Jcd n (.code b :: .endB id::s) fr aw
  | .scope b=>Jcd n (.code b::s) fr aw
  | .region l=>Jcd n (.ops l::s) fr aw
  | .exit id=>match JdS id s with
   | some s'=>Jcd n s' fr aw
   | none=>RS.on (.code (.exit id)::s) fr aw
  | .cond c a b=>match c.ev fr with
   | some (.bool true)=>Jcd n (.code a::s) fr aw
   | some (.bool false)=>Jcd n (.code b::s) fr aw
   | _=>RS.on (.code (.cond c a b)::s) fr aw
  | .loop b=>RS.on (.code (.loop b)::s) fr aw
  | .drawn l=>RS.on (.code (.drawn l)::s) fr aw
  | .ret=>RS.on [.code .ret] fr aw
theorem JcI:∀(n:Nat) {s:List SI} {fr:Fr} {aw:AW},Jcd n s fr aw≠RS.none
 | 0,s,fr,aw=>by intro h;cases h
 | n+1,[],fr,aw=>by intro h;cases h
 | n+1,.endB _::s,fr,aw=>JcI n
 | n+1,.ops []::s,fr,aw=>JcI n
 | n+1,.ops (o::l)::s,fr,aw=>by
  simp only[Jcd];split
  ·split
   ·exact JcI n
   ·exact JcI n
   ·intro h;cases h
  ·exact JcI n
  ·intro h;cases h
 | n+1,.code c::s,fr,aw=>by
  cases c with
  | skip=>exact JcI n
  | seq a b=>exact JcI n
  | block id b=>exact JcI n
  | scope b=>exact JcI n
  | region l=>exact JcI n
  | exit id =>
   simp only[Jcd];split
   ·exact JcI n
   ·intro h;cases h
  | cond c a b =>
   simp only[Jcd];split
   ·exact JcI n
   ·exact JcI n
   ·intro h;cases h
  | loop b=>intro h;cases h
  | drawn l=>intro h;cases h
  | ret=>intro h;cases h
theorem JcV {Q:Fr→AW→Prop}:∀(n:Nat) {s s':List SI} {fr fr':Fr} {aw aw':AW},Jcd n s fr aw=RS.on s' fr' aw'→WS tab s' fr' aw' Q→WS tab s fr aw Q
 | 0,s,s',fr,fr',aw,aw',h,hw=>by cases h;exact hw
 | n+1,[],s',fr,fr',aw,aw',h,hw=>by cases h;exact hw
 | n+1,.endB _::s,s',fr,fr',aw,aw',h,hw=>Jt3 (JcV n h hw)
 | n+1,.ops []::s,s',fr,fr',aw,aw',h,hw=>JqD (JcV n h hw)
 | n+1,.ops (o::l)::s,s',fr,fr',aw,aw',h,hw=>by
  simp only[Jcd]at h;split at h
  ·rename_i h1;split at h
   ·rename_i h2;exact Jvo h1 h2 (JcV n h hw)
   ·rename_i h2;exact Jvm h1 h2 (JcV n h hw)
   ·cases h;exact hw
  ·rename_i h1;exact Jt4 h1 (JcV n h hw)
  ·cases h;exact hw
 | n+1,.code c::s,s',fr,fr',aw,aw',h,hw=>by
  cases c with
  | skip=>exact Jt5 (JcV n h hw)
  | seq a b=>exact Jvn (JcV n h hw)
  | block id b=>exact Jsh (JcV n h hw)
  | scope b=>exact Jsk (JcV n h hw)
  | region l=>exact JqE (JcV n h hw)
  | exit id =>
   simp only[Jcd]at h;split at h
   ·rename_i h1;exact Joy h1 (JcV n h hw)
   ·cases h;exact hw
  | cond c a b =>
   simp only[Jcd]at h;split at h
   ·rename_i h1;exact Jsj h1 (JcV n h hw)
   ·rename_i h1;exact Jsi h1 (JcV n h hw)
   ·cases h;exact hw
  | loop b=>cases h;exact hw
  | drawn l=>cases h;exact hw
  | ret=>cases h;have h0:WX tab .ret fr aw (KS tab [] Q):=hw;rw[Jms]at h0;exact JaZ h0
theorem Jdb {Q:Fr→AW→Prop}:∀(n:Nat) {s s':List SI} {fr fr':Fr} {aw aw':AW},Jcd n s fr aw=RS.on s' fr' aw'→WS tab s fr aw Q→WS tab s' fr' aw' Q
 | 0,s,s',fr,fr',aw,aw',h,hw=>by cases h;exact hw
 | n+1,[],s',fr,fr',aw,aw',h,hw=>by cases h;exact hw
 | n+1,.endB _::s,s',fr,fr',aw,aw',h,hw=>Jdb n h hw
 | n+1,.ops []::s,s',fr,fr',aw,aw',h,hw=>by
  have hw:WO tab [] fr aw _:=hw;rw[JqC]at hw;exact Jdb n h hw
 | n+1,.ops (o::l)::s,s',fr,fr',aw,aw',h,hw=>by
  have hw0:WO tab (o::l) fr aw _:=hw;rw[JgX,Jf4]at hw0;simp only[Jcd]at h;split at h
  ·rename_i h1;rw[h1]at hw0;split at h
   ·rename_i h2;rw[h2]at hw0;exact Jdb n h hw0
   ·rename_i h2;rw[h2]at hw0;exact Jdb n h hw0
   ·cases h;exact hw
  ·rename_i h1;rw[h1]at hw0;exact Jdb n h hw0
  ·cases h;exact hw
 | n+1,.code c::s,s',fr,fr',aw,aw',h,hw=>by
  have hw0:WX tab c fr aw _:=hw;cases c with
  | skip=>rw[JoB]at hw0;exact Jdb n h hw0
  | seq a b=>rw[JqF]at hw0;exact Jdb n (s:=.code a :: .code b::s) h hw0
  | block id b=>rw[Jmr]at hw0;exact Jdb n (s:=.code b :: .endB id::s) h hw0
  | scope b=>rw[Jmt]at hw0;exact Jdb n (s:=.code b::s) h hw0
  | region l=>rw[Jlf]at hw0;exact Jdb n (s:=.ops l::s) h hw0
  | exit id =>
   rw[JoA]at hw0;simp only[Jcd]at h;split at h
   ·rename_i s1 h1;refine Jdb n h ?_;clear h hw;induction s with
    | nil=>cases h1
    | cons x s ih =>
     cases x with
     | code c=>exact ih hw0 h1
     | ops l=>exact ih hw0 h1
     | endB id' =>
      simp only[JdS]at h1;split at h1
      ·rename_i he;subst he;cases h1;simp only[KS,inB,if_pos]at hw0;exact hw0
      ·rename_i he;simp only[KS,inB,if_neg he]at hw0;exact ih hw0 h1
   ·cases h;exact hw
  | cond c a b =>
   rw[Joz]at hw0;simp only[Jcd]at h;split at h
   ·rename_i h1;rw[h1]at hw0;exact Jdb n (s:=.code a::s) h hw0
   ·rename_i h1;rw[h1]at hw0;exact Jdb n (s:=.code b::s) h hw0
   ·cases h;exact hw
  | loop b=>cases h;exact hw
  | drawn l=>cases h;exact hw
  | ret =>
   cases h;rw[Jms]at hw0
   have:∀{s:List SI},KS tab s Q .ret fr aw→Q fr aw:=by
    intro s;induction s with
    | nil=>intro h;exact h
    | cons x s ih=>intro h;cases x<;>exact ih h
   exact JaZ (this hw0)
theorem JoI:∃f:Nat→List SI→Fr→AW→RS,f=Jcd:=⟨_,rfl⟩
@[irreducible] noncomputable def eRun:Nat→List SI→Fr→AW→RS:=Classical.choose JoI
theorem JcQ:eRun=Jcd:=by unfold eRun;exact Classical.choose_spec JoI
variable {fr':Fr} {aw':AW}
theorem JaY (n:Nat)(h:eRun n s fr aw=RS.on s' fr' aw')(hw:WS tab s' fr' aw' Q):WS tab s fr aw Q:=by
 rw[JcQ]at h;exact JcV n h hw
theorem Fz (h:eRun 1000 s fr aw=RS.on s' fr' aw')(hw:WS tab s' fr' aw' Q):WS tab s fr aw Q:=JaY 1000 h hw
theorem Ja2 (n:Nat){m:Nat}(h:eRun n s fr aw=eRun m s' fr' aw')(hw:WS tab s' fr' aw' Q):WS tab s fr aw Q:=by
 rw[JcQ]at h;cases he:Jcd m s' fr' aw' with
 | on s1 f1 a1=>rw[he]at h;exact JcV n h (Jdb m he hw)
 | none=>exact absurd he (JcI m)
variable {n:Nat}
theorem JsF:eRun (n+1) [] fr aw=RS.on [] fr aw:=by rw[JcQ];rfl
theorem Jq6:eRun (n+1) (.endB id::s) fr aw=eRun n s fr aw:=by rw[JcQ];rfl
theorem Jn9:eRun (n+1) (.ops []::s) fr aw=eRun n s fr aw:=by rw[JcQ];rfl
theorem JsG:eRun (n+1) (.ops (o::l)::s) fr aw=match wanted fr o.guard with
  | some true=>match aop o.op fr aw with
   | some (.val v,aw1)=>eRun n (.ops l::s) (Jct fr o.dst v) aw1
   | some (.skip,aw1)=>eRun n (.ops l::s) (Jct fr o.dst .undef) aw1
   | _=>RS.on (.ops (o::l)::s) fr aw
  | some false=>eRun n (.ops l::s) (Jct fr o.dst .undef) aw
  | none=>RS.on (.ops (o::l)::s) fr aw:=by rw[JcQ];rfl
theorem Jq8:eRun (n+1) (.code .skip::s) fr aw=eRun n s fr aw:=by rw[JcQ];rfl
theorem JsI {a b:ACode}:eRun (n+1) (.code (.seq a b)::s) fr aw=eRun n (.code a :: .code b::s) fr aw:=by rw[JcQ];rfl
theorem JpI {b:ACode}:eRun (n+1) (.code (.block id b)::s) fr aw=eRun n (.code b :: .endB id::s) fr aw:=by rw[JcQ];rfl
theorem JpK {b:ACode}:eRun (n+1) (.code (.scope b)::s) fr aw=eRun n (.code b::s) fr aw:=by rw[JcQ];rfl
theorem Joa:eRun (n+1) (.code (.region l)::s) fr aw=eRun n (.ops l::s) fr aw:=by rw[JcQ];rfl
theorem JaX:eRun (n+1) (.code (.exit id)::s) fr aw=match JdS id s with
   | some s'=>eRun n s' fr aw
   | none=>RS.on (.code (.exit id)::s) fr aw:=by rw[JcQ];rfl
theorem Jq5 {a b:ACode}:eRun (n+1) (.code (.cond c a b)::s) fr aw=match c.ev fr with
   | some (.bool true)=>eRun n (.code a::s) fr aw
   | some (.bool false)=>eRun n (.code b::s) fr aw
   | _=>RS.on (.code (.cond c a b)::s) fr aw:=by rw[JcQ];rfl
theorem Jq7 {b:ACode}:eRun (n+1) (.code (.loop b)::s) fr aw=RS.on (.code (.loop b)::s) fr aw:=by rw[JcQ];rfl
theorem JpJ {l:List DOper}:eRun (n+1) (.code (.drawn l)::s) fr aw=RS.on (.code (.drawn l)::s) fr aw:=by rw[JcQ];rfl
theorem JsH:eRun (n+1) (.code .ret::s) fr aw=RS.on [.code .ret] fr aw:=by rw[JcQ];rfl
variable {α:Type} {k j:Nat} {x:α}
theorem T.get_putk {t:T α}:(t.put k x).get j=if j=k then some x else t.get j:=by
 by_cases hj:j=k
 ·subst hj;rw[if_pos rfl,get_put_same]
 ·rw[if_neg hj,get_put_ne hj]
theorem Jp3:Jes [] k = .e:=rfl
theorem Joi {l:List V}:Jes (v::l) k=(Jes l (k+1)).put k v:=rfl
theorem JrG {d:Nat}:Jct fr (some d) v=fr.put d v:=rfl
theorem JrE:Jct fr none v=fr:=rfl
theorem JfH:wanted fr none=some true:=rfl
theorem JvC {t:Nat}:(Opd.tmp t).ev fr=fr.get t:=rfl
theorem JsM:(Opd.const v).ev fr=some v:=rfl
theorem Jqs:JbT [v]=v:=rfl
theorem Jqt {u:V}:JbT [v,u] = .tuple [v,u]:=rfl
variable {a b:Nat}
theorem Jno:Nat.beq a b=decide (a=b):=by
 cases h:Nat.beq a b with
 | true=>simp[Nat.eq_of_beq_eq_true h]
 | false=>simp[Nat.ne_of_beq_eq_false h]
theorem Jnp:Nat.ble a b=decide (a≤b):=by
 cases h:Nat.ble a b with
 | true=>simp[Nat.le_of_ble_eq_true h]
 | false=>simp only[Bool.false_eq,decide_eq_false_iff_not];exact Nat.not_le_of_not_ble_eq_true (by simp[h])
theorem JkF:Nat.blt a b=decide (a<b):=by
 unfold Nat.blt;rw[Jnp];rfl
theorem JdM {n:Int}(h1 : -9223372036854775808≤n)(h2:n≤9223372036854775807):IntKind.wrap .i64 n=n:=by
 have h:IntKind.wrap .i64 n=if n % 18446744073709551616≥9223372036854775808 then n % 18446744073709551616-18446744073709551616 else n % 18446744073709551616:=by
  simp[IntKind.wrap,IntKind.bits,IntKind.signed]
 rw[h];split<;>omega
theorem JhZ (h:a+b≤9223372036854775807):IntKind.wrap .i64 (Int.ofNat a+Int.ofNat b)=Int.ofNat (a+b):=by
 have e1:Int.ofNat a=(a:Int):=rfl;have e2:Int.ofNat b=(b:Int):=rfl;have e3:Int.ofNat (a+b)=((a+b:Nat):Int):=rfl;rw[JdM]<;>omega
theorem Ja3 (h:a+1≤9223372036854775807):IntKind.wrap .i64 (Int.ofNat a+1)=Int.ofNat (a+1):=JhZ (b:=1) h
theorem Jp0:decide (Int.ofNat a>Int.ofNat b)=decide (b<a):=Fj
theorem JpV:decide (Int.ofNat a≥Int.ofNat b)=decide (b≤a):=Fj
theorem Jp6:decide (Int.ofNat a≤Int.ofNat b)=decide (a≤b):=Fj
theorem Jqa:decide (Int.ofNat a<Int.ofNat b)=decide (a<b):=Fj
theorem JpN:(Int.ofNat a==Int.ofNat b)=decide (a=b):=by
 by_cases h:a=b
 ·simp[h]
 ·simp only[h,decide_false,beq_eq_false_iff_ne,ne_eq];intro e;exact h (Int.ofNat.inj e)
theorem JtS:(Int.ofNat a != Int.ofNat b) = !decide (a=b):=by
 simp only[bne,JpN]
theorem Jv7:decide (Int.ofNat a>(no_index (@OfNat.ofNat Int b instOfNat)))=decide (@OfNat.ofNat Nat b (instOfNatNat b)<a):=Jp0
theorem Jv5:decide (Int.ofNat a≥(no_index (@OfNat.ofNat Int b instOfNat)))=decide (@OfNat.ofNat Nat b (instOfNatNat b)≤a):=JpV
theorem Jwc:decide (Int.ofNat a≤(no_index (@OfNat.ofNat Int b instOfNat)))=decide (a≤@OfNat.ofNat Nat b (instOfNatNat b)):=Jp6
theorem Jwe:decide (Int.ofNat a<(no_index (@OfNat.ofNat Int b instOfNat)))=decide (a < @OfNat.ofNat Nat b (instOfNatNat b)):=Jqa
theorem Jv3:(Int.ofNat a==(no_index (@OfNat.ofNat Int b instOfNat)))=decide (a = @OfNat.ofNat Nat b (instOfNatNat b)):=JpN
theorem Jwh:(Int.ofNat a != (no_index (@OfNat.ofNat Int b instOfNat))) = !decide (a = @OfNat.ofNat Nat b (instOfNatNat b)):=JtS
theorem Jv6:decide ((no_index (@OfNat.ofNat Int b instOfNat))>Int.ofNat a)=decide (a < @OfNat.ofNat Nat b (instOfNatNat b)):=Jp0
theorem Jv4:decide ((no_index (@OfNat.ofNat Int b instOfNat))≥Int.ofNat a)=decide (a≤@OfNat.ofNat Nat b (instOfNatNat b)):=JpV
theorem Jwd:decide ((no_index (@OfNat.ofNat Int b instOfNat))<Int.ofNat a)=decide (@OfNat.ofNat Nat b (instOfNatNat b)<a):=Jqa
theorem Jwb:decide ((no_index (@OfNat.ofNat Int b instOfNat))≤Int.ofNat a)=decide (@OfNat.ofNat Nat b (instOfNatNat b)≤a):=Jp6
theorem Jl9 {s:List α}:(s.drop k).take (s.length-k)=s.drop k:=FX Fj
theorem Jma {s:List α}:(s.drop k).take (k+n-k)=(s.drop k).take n:=by rw[Nat.add_sub_cancel_left]
structure Ext (N:Nat) (w w':AW):Prop where
 le:N≤w.next
 next:w.next≤w'.next
 heap:∀b,b<N→w'.heap.get b=w.heap.get b
 fams:∀b,b<N→w'.fams.get b=w.fams.get b
theorem Ext.refl (w:AW):Ext w.next w w:=⟨FH _,FH _,fun _ _=>rfl,fun _ _=>rfl⟩
variable {N:Nat}
theorem Ext.trans {a b c:AW}(h:Ext N a b)(h':Ext N b c):Ext N a c:=
 ⟨h.le,Kk h.next h'.next,fun k hk=>(h'.heap k hk).trans (h.heap k hk),fun k hk=>(h'.fams k hk).trans (h.fams k hk)⟩
theorem Ext.mono {M:Nat}{a b:AW}(h:Ext N a b)(hm:M≤N):Ext M a b:=
 ⟨Kk hm h.le,h.next,fun k hk=>h.heap k (FK hk hm),fun k hk=>h.fams k (FK hk hm)⟩
variable {w:AW}
theorem Ext.new (h:N≤w.next)(x:Blk):Ext N w (w.new x):=
 ⟨h,Nat.le_succ _,fun b hb=>T.get_put_ne Fh,fun _ _=>rfl⟩
theorem Ext.le' {a b:AW}(h:Ext N a b):N≤b.next:=Kk h.le h.next
inductive Own (N:Nat) (w:AW):V→Nat→Nat→List V→Prop
 | nil {esz:Nat}:Own N w .nilslice esz 0 []
 | blk {b n esz:Nat} {cs:List V} {sh:Share} (hN:N≤b) (hb:b<w.next) (hx:w.heap.get b=some (.cells cs sh)) (hl:cs.length=n*esz) (he:0<esz) (hn:0<n)
   (hs:sh = .own∨sh = .lax∨∃f F,sh = .fam f∧N≤f∧f<w.next∧w.fams.get f=some F∧F.last=b∧F.floor≤w.next∧w.alive b sh=true):Own N w (.slice b 0 n (.upTo esz)) esz n cs
variable {esz:Nat} {cs:List V}
theorem Own.ext {w':AW}(h:Own N w v esz n cs){M:Nat}(hM:w.next≤M)(he:Ext M w w'):Own N w' v esz n cs:=by
 cases h with
 | nil=>exact .nil
 | blk hN hb hx hl he' hn hs =>
  refine .blk hN (FK hb he.next) ((he.heap _ Fh).trans hx) hl he' hn ?_;rcases hs with rfl|rfl|⟨f,F,rfl,h1,h2,h3,h4,h6,h5⟩
  ·exact .inl rfl
  ·exact .inr (.inl rfl)
  ·refine .inr (.inr ⟨f,F,rfl,h1,FK h2 he.next,(he.fams f Fh).trans h3,h4,Kk h6 he.next,?_⟩);simp only[AW.alive,h3,(he.fams f Fh).trans h3]at h5 ⊢;exact h5
theorem JfS:∀(l:List V) (n:Nat),l.length=n→Jbh n l=some l
 | [],n,h=>by cases h;rfl
 | x::l,n,h=>by
  cases n with
  | zero=>cases h
  | succ n=>simp only[Jbh,JfS l n (by simpa using h)]
theorem Jgd:∀(n:Nat) (l:List V),n≤l.length→Jbh n l=some (l.take n)
 | 0,l,h=>by simp[Jbh]
 | n+1,[],h=>by simp at h
 | n+1,x::l,h=>by simp only[Jbh,Jgd n l (by simpa using h),List.take_succ_cons]
theorem Own.alive {n esz:Nat}{cs:List V}{sh:Share}(hs:sh = .own∨sh = .lax∨∃f F,sh = .fam f∧N≤f∧f<w.next∧w.fams.get f=some F∧F.last=b∧F.floor≤w.next∧w.alive b sh=true):w.alive b sh=true:=by
 rcases hs with rfl|rfl|⟨f,F,rfl,h1,h2,h3,h4,h6,h5⟩
 ·rfl
 ·rfl
 ·exact h5
theorem Own.len (h:Own N w v esz n cs):cs.length=n*esz:=by
 cases h with
 | nil=>simp
 | blk hN hb hx hl he' hn hs=>exact hl
theorem Own.load {c:Cap}(h:Own N w (.slice b 0 n c) esz n cs){o:Nat}(hk:o+k≤cs.length):w.load b o k=some ((cs.drop o).take k):=by
 cases h with
 | blk hN hb hx hl he' hn hs =>
  simp only[AW.load,hx,Own.alive (n:=n) (esz:=esz) (cs:=cs) hs];exact Jgd _ _ (by simp;omega)
theorem JeB:∀{l:List V},Jbf l=true↔∀v∈l,v.one=true
 | []=>by simp[Jbf]
 | x::l=>by
  simp only[Jbf];cases h:x.one with
  | true=>simp[JeB,h]
  | false=>simp[h]
variable {bytes:Nat} {news:List V}
theorem Own.append (h:Own N w v esz n cs)(hNw:N≤w.next)(he:0<esz)(hk:0<k)(hl:news.length=k*esz)(h1:Jbf news=true)(hb:(n+k)*bytes≤70368744177664)(hb':n+k≤70368744177664): ∃v' w',w.appendV esz bytes v k news=some (v',w')∧Own N w' v' esz (n+k) (cs++news)∧Ext N w w':=by
 obtain⟨k,rfl⟩:∃m,k=m+1:=⟨k-1,by omega⟩;cases h with
 | nil =>
  refine⟨.slice w.next 0 (k+1) (.upTo esz),w.fresh news,?_,?_,Ext.new hNw _⟩
  ·simp only[AW.appendV];rw[if_pos ⟨by simpa using hb,by omega⟩]
  ·rw[FV];exact .blk hNw (FW _) T.get_put_same (by simpa using hl) he Fh (.inl rfl)
 | @blk b _ _ _ sh hN hbw hx hlen he' hn hs =>
  have hbeq:Nat.beq (0+n*esz) cs.length=true:=by rw[FV,hlen,Nat.beq_refl]
  have hin:esz=esz∧(n+(k+1))*bytes≤70368744177664∧n+(k+1)≤70368744177664∧Jbf news=true∧0<esz:=⟨rfl,hb,hb',h1,he⟩
  have fam:∀(u:AW) (f:Nat) (F:Fam),u.heap.get b=some (.cells cs (.fam f))→N≤f→f<u.next→b<u.next→N≤u.next→u.fams.get f=some F→F.last=b→F.floor≤u.next→u.alive b (.fam f)=true→∃v' w',u.appendFam esz b 0 n (k+1) news=some (v',w')∧Own N w' v' esz (n+(k+1)) (cs++news)∧Ext N u w':=by
   intro u f F hx hNf hfu hbu hNu hF hlast hfl hal;refine⟨.slice u.next 0 (n+(k+1)) (.upTo esz),u.grow b f F (cs.drop 0++news),?_,?_,?_⟩
   ·simp only[AW.appendFam,hx,hal,hF,hbeq]
   ·have hg:(u.grow b f F (cs.drop 0++news)).fams.get f=some ⟨F.keep,F.floor,u.next⟩:=by
     simp only[AW.grow,T.get_putk,if_true,hlast,Nat.beq_refl]
    refine .blk hNu (FW _) (sh:=.fam f) ?_ ?_ he Fh (.inr (.inr ⟨f,⟨F.keep,F.floor,u.next⟩,rfl,hNf,Nat.lt_succ_of_lt hfu,hg,rfl,Nat.le_succ_of_le hfl,?_⟩))
    ·simp only[AW.grow,T.get_putk,if_true,FZ]
    ·rw[FE,hlen,hl,Nat.add_mul n]
    ·simp only[AW.alive,hg,Bool.or_eq_true];exact .inr (Nat.ble_eq_true_of_le hfl)
   ·refine⟨hNu,Nat.le_succ _,fun c hc=>?_,fun c hc=>?_⟩
    ·exact T.get_put_ne Fh
    ·exact T.get_put_ne Fh
  have fnd:sh = .own∨sh = .lax→∃v' w',(w.found b cs).appendFam esz b 0 n (k+1) news=some (v',w')∧Own N w' v' esz (n+(k+1)) (cs++news)∧Ext N w w':=by
   intro _
   obtain⟨v',w',q1,q2,q3⟩:=fam (w.found b cs) w.next ⟨b,w.next+1,b⟩ T.get_put_same hNw (FW _) (Nat.lt_succ_of_lt hbw) (Nat.le_succ_of_le hNw) T.get_put_same rfl (FH _)
    (by simp only[AW.alive,AW.found,T.get_putk,if_true,Nat.beq_refl,Bool.true_or])
   refine⟨v',w',q1,q2,Ext.trans ⟨hNw,Nat.le_succ _,fun c hc=>?_,fun c hc=>?_⟩ q3⟩
   ·exact T.get_put_ne Fh
   ·exact T.get_put_ne Fh
  have happ:w.appendV esz bytes (.slice b 0 n (.upTo esz)) (k+1) news=w.appendUp esz b 0 n (k+1) news:=if_pos hin;rw[happ];simp only[AW.appendUp,hx,hbeq];rcases hs with rfl|rfl|⟨f,F,rfl,g1,g2,g3,g4,g6,g5⟩
  ·exact fnd (.inl rfl)
  ·exact fnd (.inr rfl)
  ·exact fam w f F hx g1 g2 hbw hNw g3 g4 g6 g5
def JsD:List DOper→Fr→AW→Option Fr
 | [],fr,_=>some fr
 | d::l,fr,aw=>match wanted (Jb0 fr d.hide) d.op.guard with
  | some true=>match aop d.op.op (Jb0 fr d.hide) aw with
   | some (.val v,_)=>JsD l (Jct fr d.op.dst v) aw
   | _=>none
  | some false=>JsD l (Jct fr d.op.dst .undef) aw
  | none=>none
theorem Pass.len {l:List DOper}{st:List Stp}:Pass tab l fr aw st fr' aw'→st.length=l.length:=by
 induction l generalizing fr aw st with
 | nil=>intro h;cases h;rfl
 | cons d l ih=>intro h;cases h;rename_i h1 h2;simp[ih h2]
theorem JuC {k:IntKind}:idx (.int k (no_index (@OfNat.ofNat Int n instOfNat)))=some (@OfNat.ofNat Nat n (instOfNatNat n)):=rfl
theorem JuD {k:IntKind}:idx (.int k (Int.ofNat n))=some n:=rfl
theorem JbH {c:Cap}(hn:0<n)(hl:cs.length=n*esz):(w.fresh cs).elems esz (.slice w.next 0 n c)=some (n,cs):=by
 obtain⟨n,rfl⟩:∃m,n=m+1:=⟨n-1,by omega⟩;simp only[AW.elems,AW.load,AW.fresh,AW.new,T.get_putk,if_true,AW.alive,FZ];rw[JfS cs _ hl]
theorem Own.push (h:Own N w v esz n cs)(hNw:N≤w.next)(he:0<esz)(hl:news.length=esz)(h1:Jbf news=true)(hb:(n+1)*bytes≤70368744177664)(hb':n+1≤70368744177664): ∃v' w',(w.fresh news).appendV esz bytes v 1 news=some (v',w')∧Own N w' v' esz (n+1) (cs++news)∧Ext N w w':=by
 have hx:Ext w.next w (w.fresh news):=Ext.new (FH _) _;obtain⟨v',w',h2,h3,h4⟩:=(h.ext (FH _) hx).append (news:=news) (bytes:=bytes) (k:=1) (Kk hNw hx.next) he Fh Fh h1 hb hb';exact⟨v',w',h2,h3,(hx.mono hNw).trans h4⟩
theorem Jlv {α:Type}{enc:α→List V}{sz:Nat}(h:∀x,(enc x).length=sz):∀(l:List α) (i:Nat),(l.flatMap enc).drop (i*sz)=(l.drop i).flatMap enc
 | [],i=>by simp
 | x::l,0=>by simp
 | x::l,i+1=>by
  have e:(i+1)*sz=sz+i*sz:=by rw[Nat.add_mul,Nat.one_mul,KA]
  rw[Kz,e,←List.drop_drop,List.drop_append_of_le_length (by rw[h x];exact FH _)];have:List.drop sz (enc x)=[]:=List.drop_eq_nil_of_le (by rw[h x];exact FH _);rw[this,List.nil_append,Jlv h l i,List.drop_succ_cons]
theorem JjJ {α:Type}{enc:α→List V}{sz:Nat}(h:∀x,(enc x).length=sz):∀(l:List α),(l.flatMap enc).length=l.length*sz
 | []=>by simp
 | x::l=>by rw[Kz,FE,h x,JjJ h l,FC,Nat.add_mul,Nat.one_mul,KA]
variable {enc:α→List V}
theorem Jer {sz:Nat}(h:∀x,(enc x).length=sz){l:List α}{i:Nat}(hx:l[i]? = some x)(hj:j+k≤sz):(((l.flatMap enc).drop (0+i*sz+j)).take k)=((enc x).drop j).take k:=by
 have hi:i<l.length:=(List.getElem?_eq_some_iff.1 hx).1
 have hd:l.drop i=x::l.drop (i+1):=by
  rw[FL hi];rw[FB hi]at hx;rw[FY hx]
 rw[FV,←List.drop_drop,Jlv h,hd,Kz,List.drop_append_of_le_length (by rw[h x];omega),List.take_append_of_le_length (by rw[Ki,h x];omega)]
theorem Own.part {sz:Nat}{c:Cap}{l:List α}(h:∀x,(enc x).length=sz)(ho:Own N w (.slice b 0 n c) sz n (l.flatMap enc)){i:Nat}(hx:l[i]? = some x)(hj:j+k≤sz): w.load b (0+i*sz+j) k=some (((enc x).drop j).take k):=by
 have hi:i<l.length:=(List.getElem?_eq_some_iff.1 hx).1;rw[ho.load ?_,Jer h hx hj];rw[JjJ h]
 have:i*sz+sz≤l.length*sz:=by
  have:(i+1)*sz≤l.length*sz:=Nat.mul_le_mul_right _ hi
  rwa [Nat.add_mul,Nat.one_mul]at this
 omega
theorem Own.inv (h:Own N w v esz n cs):(v = .nilslice∧n=0∧cs=[])∨∃b,v = .slice b 0 n (.upTo esz)∧0<n:=by
 cases h with
 | nil=>exact .inl ⟨rfl,rfl,rfl⟩
 | blk hN hb hx hl he hn hs=>exact .inr ⟨_,rfl,hn⟩
end
section
variable [Globs]
theorem Jtb:lenV .nilslice=some 0:=rfl
theorem Jp8 {b o n:Nat}{c:Cap}:lenV (.slice b o n c)=some n:=rfl
attribute [go_sem] Jtb Jp8 JsF Jq6 Jn9 JsG Jq8 JsI JpI JpK Joa Jq5 Jq7 JpJ JsH JsD Jb0 T.get_delk Jcp Option.getD_none Option.getD_some Nat.le_refl and_self true_and and_true Jl9 Jma Jp0 JpV Jp6 Jqa JpN JtS Jv7 Jv5 Jwc Jwe Jv3 Jwh Jv6 Jv4 Jwb Jwd Bool.true_and Bool.false_and JdS JfH wanted aop JvC JsM evs Joi Jp3 JrG JrE AE.valOf T.get_putk T.get_e JuC JuD List.getElem?_cons_zero List.getElem?_cons_succ Jjw Jpq aUn beq_self_eq_true Bool.true_beq Bool.false_beq Bool.not_true Bool.not_false List.append_nil List.nil_append List.cons_append Jno Jnp JkF decide_true decide_false Jcv Jqs Jqt
end
end Go.AE
namespace Go.Proofs.YtegdcbdicpfbpaaGreatDoor
open Go.AE Delphi
variable {tab:Tab}
theorem Jl6 {g s:List Nat}:g.isPrefixOf s=(decide (g.length≤s.length)&&eqL (s.take g.length) g):=by
 have e:∀(a b:List Nat),eqL a b=decide (a=b):=fun a b=>by
  cases h:eqL a b with
  | true=>simp[eqL_iff.1 h]
  | false=>simp only[Bool.false_eq,decide_eq_false_iff_not];intro hh;rw[eqL_iff.2 hh]at h;cases h
 rw[Bool.eq_iff_iff,List.isPrefixOf_iff_prefix,e];simp only[FT,decide_eq_true_eq];constructor
 ·intro h;exact⟨h.length_le,(List.prefix_iff_eq_take.1 h).symm⟩
 ·intro h;exact List.prefix_iff_eq_take.2 h.2.symm
def JcZ (w:Wd):List V:=[.int .i64 (Int.ofNat w.kind),.str w.text,.int .i64 (Int.ofNat w.at')]
def JeX (l:List Wd):List V:=l.flatMap JcZ
theorem Jia (l:List Wd)(w:Wd):JeX (l++[w])=JeX l++JcZ w:=by simp[JeX]
section
open Go.AE Delphi
variable {tab:Tab}
variable {c:Nat} {aw:AW} {K:V→AW→Prop}
theorem JiH (C:Codes tab)(h:K (.bool (JdK c)) aw):WF tab YI [.int .u8 (Int.ofNat c)] aw K:=by
 refine Ja7 C.WE rfl ?_;unfold JdK at h;cases h1:decide (97≤c)<;>rw[h1]at h<;>refine JaY 1000 (by simp only[go_sem,JaX,simprocAttr,WB,h1];rfl) ?_<;>refine JaZ ⟨_,by simp only[go_sem,JaX,simprocAttr,WB];rfl,?_⟩<;>exact h
theorem JfO (C:Codes tab)(h:K (.bool (Jbp c)) aw):WF tab Zh [.int .u8 (Int.ofNat c)] aw K:=by
 refine Ja7 C.WH rfl ?_;unfold Jbp at h;cases h1:decide (48≤c)<;>rw[h1]at h<;>refine JaY 1000 (by simp only[go_sem,JaX,simprocAttr,WG,h1];rfl) ?_<;>refine JaZ ⟨_,by simp only[go_sem,JaX,simprocAttr,WG];rfl,?_⟩<;>exact h
theorem JlS (C:Codes tab)(h:K (.bool (Je1 c)) aw):WF tab VO [.int .u8 (Int.ofNat c)] aw K:=by
 refine Ja7 C.WJ rfl ?_;unfold Je1 at h;cases h1:decide (65≤c)<;>rw[h1]at h<;>refine JaY 1000 (by simp only[go_sem,JaX,simprocAttr,WI,h1];rfl) ?_<;>refine JaZ ⟨_,by simp only[go_sem,JaX,simprocAttr,WI];rfl,?_⟩<;>exact h
variable {t:List Nat} {S:List SI} {Q:Fr→AW→Prop} {fr:Fr} {k0:Nat}
theorem rl0 (C:Codes tab)(hs:(c::t).length≤4611686018427387904)(hk0':k0≤(c::t).length)(f0:fr.get 0=some (.str (c::t)))(f4:fr.get 4=some (.int .i64 (Int.ofNat k0)))(h:∀f,f.get 0=some (.str (c::t))→f.get 4=some (.int .i64 (Int.ofNat ((k0+(((c::t).drop k0).takeWhile JbG).length))))→WS tab S f aw Q): WS tab (.code (.loop Yd) :: .endB 1::S) fr aw Q:=by
 refine JdJ (fun n f w=>∃k,f.get 0=some (.str (c::t))∧f.get 4=some (.int .i64 (Int.ofNat k))∧k0+(((c::t).drop k0).takeWhile JbG).length=k+(((c::t).drop k).takeWhile JbG).length∧k≤(c::t).length∧n=(c::t).length-k∧w=aw) ?_ ((c::t).length-k0) ⟨k0,f0,f4,rfl,hk0',rfl,rfl⟩;rintro n f w ⟨k,f0,f4,hk,hkl,rfl,rfl⟩ ih;generalize hS:c::t=s at *;by_cases hlt:k<s.length
 ·obtain⟨d,hc⟩:∃d,s[k]? = some d:=⟨_,FB hlt⟩
  have hd:s.drop k=d::s.drop (k+1):=by
   rw[FL hlt];rw[FB hlt]at hc;rw[FY hc]
  have hw:IntKind.wrap .i64 (Int.ofNat k+1)=Int.ofNat (k+1):=Ja3 Fh
  have yes:JbG d=true→∀f',f'.get 0=some (.str s)→f'.get 4=some (.int .i64 (Int.ofNat (k+1)))→WS tab (.code (.loop Yd) :: .endB 1::S) f' w Q:=by
   intro hp f' g0 g4;refine ih (s.length-(k+1)) _ _ Fh ⟨k+1,g0,g4,?_,by omega,rfl,rfl⟩;rw[hk,hd,List.takeWhile_cons_of_pos hp,FC];omega
  have no:JbG d=false→∀f',f'.get 0=some (.str s)→f'.get 4=some (.int .i64 (Int.ofNat k))→WS tab S f' w Q:=by
   intro hp f' g0 g4;refine h f' g0 ?_;rw[hk,hd,List.takeWhile_cons_of_neg (by simp[hp])];simpa using g4
  refine JaY 1000 (by simp only[go_sem,JaX,simprocAttr,Yd,f0,f4,hlt,hc];rfl) ?_;refine Ja0 (by simp only[go_sem,JaX,simprocAttr]) (by simp only[go_sem,JaX,simprocAttr];rfl) ?_;refine JiH C ?_;cases q1:JdK d with
  | true =>
   refine JaY 1000 (by simp only[go_sem,JaX,simprocAttr,f4,hw];rfl) ?_;exact yes (by simp[JbG,q1]) _ (by simp only[go_sem,JaX,simprocAttr,f0]<;>rfl) (by simp only[go_sem,JaX,simprocAttr]<;>rfl)
  | false =>
   refine JaY 1000 (by simp only[go_sem,JaX,simprocAttr,f0,f4,hc];rfl) ?_;refine Ja0 (by simp only[go_sem,JaX,simprocAttr]) (by simp only[go_sem,JaX,simprocAttr];rfl) ?_;refine JfO C ?_;cases q2:Jbp d with
   | true =>
    refine JaY 1000 (by simp only[go_sem,JaX,simprocAttr,f4,hw];rfl) ?_;exact yes (by simp[JbG,q1,q2]) _ (by simp only[go_sem,JaX,simprocAttr,f0]<;>rfl) (by simp only[go_sem,JaX,simprocAttr]<;>rfl)
   | false =>
    by_cases h95:d=95
    ·refine JaY 1000 (by simp only[go_sem,JaX,simprocAttr,f0,f4,hc,h95,hw];rfl) ?_;exact yes (by simp[JbG,q1,q2,h95]) _ (by simp only[go_sem,JaX,simprocAttr,f0]<;>rfl) (by simp only[go_sem,JaX,simprocAttr]<;>rfl)
    ·refine Ja2 1000 (by simp only[go_sem,JaX,simprocAttr,f0,f4,hc,h95];rfl) ?_;exact no (by simp[JbG,q1,q2,h95]) _ (by simp only[go_sem,JaX,simprocAttr,f0]<;>rfl) (by simp only[go_sem,JaX,simprocAttr,f4]<;>rfl)
 ·refine Ja2 1000 (by simp only[go_sem,JaX,simprocAttr,Yd,f0,f4,hlt];rfl) ?_;refine h _ (by simp only[go_sem,JaX,simprocAttr,f0]<;>rfl) ?_;have:k=s.length:=Fh;subst this;rw[hk,List.drop_length];exact (by simp only[go_sem,JaX,simprocAttr,f4]<;>rfl)
theorem rl1 (C:Codes tab)(hs:(c::t).length≤4611686018427387904)(hk0':k0≤(c::t).length)(f0:fr.get 0=some (.str (c::t)))(f4:fr.get 4=some (.int .i64 (Int.ofNat k0)))(h:∀f,f.get 0=some (.str (c::t))→f.get 4=some (.int .i64 (Int.ofNat ((k0+(((c::t).drop k0).takeWhile Jcx).length))))→WS tab S f aw Q): WS tab (.code (.loop Ye) :: .endB 3::S) fr aw Q:=by
 refine JdJ (fun n f w=>∃k,f.get 0=some (.str (c::t))∧f.get 4=some (.int .i64 (Int.ofNat k))∧k0+(((c::t).drop k0).takeWhile Jcx).length=k+(((c::t).drop k).takeWhile Jcx).length∧k≤(c::t).length∧n=(c::t).length-k∧w=aw) ?_ ((c::t).length-k0) ⟨k0,f0,f4,rfl,hk0',rfl,rfl⟩;rintro n f w ⟨k,f0,f4,hk,hkl,rfl,rfl⟩ ih;generalize hS:c::t=s at *;by_cases hlt:k<s.length
 ·obtain⟨d,hc⟩:∃d,s[k]? = some d:=⟨_,FB hlt⟩
  have hd:s.drop k=d::s.drop (k+1):=by
   rw[FL hlt];rw[FB hlt]at hc;rw[FY hc]
  have hw:IntKind.wrap .i64 (Int.ofNat k+1)=Int.ofNat (k+1):=Ja3 Fh
  have yes:Jcx d=true→∀f',f'.get 0=some (.str s)→f'.get 4=some (.int .i64 (Int.ofNat (k+1)))→WS tab (.code (.loop Ye) :: .endB 3::S) f' w Q:=by
   intro hp f' g0 g4;refine ih (s.length-(k+1)) _ _ Fh ⟨k+1,g0,g4,?_,by omega,rfl,rfl⟩;rw[hk,hd,List.takeWhile_cons_of_pos hp,FC];omega
  have no:Jcx d=false→∀f',f'.get 0=some (.str s)→f'.get 4=some (.int .i64 (Int.ofNat k))→WS tab S f' w Q:=by
   intro hp f' g0 g4;refine h f' g0 ?_;rw[hk,hd,List.takeWhile_cons_of_neg (by simp[hp])];simpa using g4
  refine JaY 1000 (by simp only[go_sem,JaX,simprocAttr,Ye,f0,f4,hlt,hc];rfl) ?_;refine Ja0 (by simp only[go_sem,JaX,simprocAttr]) (by simp only[go_sem,JaX,simprocAttr];rfl) ?_;refine JiH C ?_;cases q1:JdK d with
  | true =>
   refine JaY 1000 (by simp only[go_sem,JaX,simprocAttr,f4,hw];rfl) ?_;exact yes (by simp[Jcx,JbG,q1]) _ (by simp only[go_sem,JaX,simprocAttr,f0]<;>rfl) (by simp only[go_sem,JaX,simprocAttr]<;>rfl)
  | false =>
   refine JaY 1000 (by simp only[go_sem,JaX,simprocAttr,f0,f4,hc];rfl) ?_;refine Ja0 (by simp only[go_sem,JaX,simprocAttr]) (by simp only[go_sem,JaX,simprocAttr];rfl) ?_;refine JlS C ?_;cases q2:Je1 d with
   | true =>
    refine JaY 1000 (by simp only[go_sem,JaX,simprocAttr,f4,hw];rfl) ?_;exact yes (by simp[Jcx,JbG,q1,q2]) _ (by simp only[go_sem,JaX,simprocAttr,f0]<;>rfl) (by simp only[go_sem,JaX,simprocAttr]<;>rfl)
   | false =>
    refine JaY 1000 (by simp only[go_sem,JaX,simprocAttr,f0,f4,hc];rfl) ?_;refine Ja0 (by simp only[go_sem,JaX,simprocAttr]) (by simp only[go_sem,JaX,simprocAttr];rfl) ?_;refine JfO C ?_;cases q3:Jbp d with
    | true =>
     refine JaY 1000 (by simp only[go_sem,JaX,simprocAttr,f4,hw];rfl) ?_;exact yes (by simp[Jcx,JbG,q1,q2,q3]) _ (by simp only[go_sem,JaX,simprocAttr,f0]<;>rfl) (by simp only[go_sem,JaX,simprocAttr]<;>rfl)
    | false =>
     by_cases h95:d=95
     ·refine JaY 1000 (by simp only[go_sem,JaX,simprocAttr,f0,f4,hc,h95,hw];rfl) ?_;exact yes (by simp[Jcx,JbG,q1,q2,q3,h95]) _ (by simp only[go_sem,JaX,simprocAttr,f0]<;>rfl) (by simp only[go_sem,JaX,simprocAttr]<;>rfl)
     ·refine Ja2 1000 (by simp only[go_sem,JaX,simprocAttr,f0,f4,hc,h95];rfl) ?_;exact no (by simp[Jcx,JbG,q1,q2,q3,h95]) _ (by simp only[go_sem,JaX,simprocAttr,f0]<;>rfl) (by simp only[go_sem,JaX,simprocAttr,f4]<;>rfl)
 ·refine Ja2 1000 (by simp only[go_sem,JaX,simprocAttr,Ye,f0,f4,hlt];rfl) ?_;refine h _ (by simp only[go_sem,JaX,simprocAttr,f0]<;>rfl) ?_;have:k=s.length:=Fh;subst this;rw[hk,List.drop_length];exact (by simp only[go_sem,JaX,simprocAttr,f4]<;>rfl)
theorem rl3 (C:Codes tab)(hs:(c::t).length≤4611686018427387904)(hk0':k0≤(c::t).length)(f0:fr.get 0=some (.str (c::t)))(f4:fr.get 4=some (.int .i64 (Int.ofNat k0)))(h:∀f,f.get 0=some (.str (c::t))→f.get 4=some (.int .i64 (Int.ofNat ((k0+(((c::t).drop k0).takeWhile Jbp).length))))→WS tab S f aw Q): WS tab (.code (.loop Yf) :: .endB 5::S) fr aw Q:=by
 refine JdJ (fun n f w=>∃k,f.get 0=some (.str (c::t))∧f.get 4=some (.int .i64 (Int.ofNat k))∧k0+(((c::t).drop k0).takeWhile Jbp).length=k+(((c::t).drop k).takeWhile Jbp).length∧k≤(c::t).length∧n=(c::t).length-k∧w=aw) ?_ ((c::t).length-k0) ⟨k0,f0,f4,rfl,hk0',rfl,rfl⟩;rintro n f w ⟨k,f0,f4,hk,hkl,rfl,rfl⟩ ih;generalize hS:c::t=s at *;by_cases hlt:k<s.length
 ·obtain⟨d,hc⟩:∃d,s[k]? = some d:=⟨_,FB hlt⟩
  have hd:s.drop k=d::s.drop (k+1):=by
   rw[FL hlt];rw[FB hlt]at hc;rw[FY hc]
  have hw:IntKind.wrap .i64 (Int.ofNat k+1)=Int.ofNat (k+1):=Ja3 Fh
  have yes:Jbp d=true→∀f',f'.get 0=some (.str s)→f'.get 4=some (.int .i64 (Int.ofNat (k+1)))→WS tab (.code (.loop Yf) :: .endB 5::S) f' w Q:=by
   intro hp f' g0 g4;refine ih (s.length-(k+1)) _ _ Fh ⟨k+1,g0,g4,?_,by omega,rfl,rfl⟩;rw[hk,hd,List.takeWhile_cons_of_pos hp,FC];omega
  have no:Jbp d=false→∀f',f'.get 0=some (.str s)→f'.get 4=some (.int .i64 (Int.ofNat k))→WS tab S f' w Q:=by
   intro hp f' g0 g4;refine h f' g0 ?_;rw[hk,hd,List.takeWhile_cons_of_neg (by simp[hp])];simpa using g4
  refine JaY 1000 (by simp only[go_sem,JaX,simprocAttr,Yf,f0,f4,hlt,hc];rfl) ?_;refine Ja0 (by simp only[go_sem,JaX,simprocAttr]) (by simp only[go_sem,JaX,simprocAttr];rfl) ?_;refine JfO C ?_;cases q1:Jbp d with
  | true =>
   refine JaY 1000 (by simp only[go_sem,JaX,simprocAttr,f4,hw];rfl) ?_;exact yes (by simp[q1]) _ (by simp only[go_sem,JaX,simprocAttr,f0]<;>rfl) (by simp only[go_sem,JaX,simprocAttr]<;>rfl)
  | false =>
   refine Ja2 1000 (by simp only[go_sem,JaX,simprocAttr];rfl) ?_;exact no (by simp[q1]) _ (by simp only[go_sem,JaX,simprocAttr,f0]<;>rfl) (by simp only[go_sem,JaX,simprocAttr,f4]<;>rfl)
 ·refine Ja2 1000 (by simp only[go_sem,JaX,simprocAttr,Yf,f0,f4,hlt];rfl) ?_;refine h _ (by simp only[go_sem,JaX,simprocAttr,f0]<;>rfl) ?_;have:k=s.length:=Fh;subst this;rw[hk,List.drop_length];exact (by simp only[go_sem,JaX,simprocAttr,f4]<;>rfl)
end
section
open Go.AE Delphi
variable {tab:Tab}
def twos:Fx:=[[58,45],[33,61],[60,61]]
def ones:Fx:=[[40],[41],[44],[46],[33],[61],[60]]
theorem Jqy (p:List Nat→Bool):signs.find? p=(match twos.find? p with|some g=>some g|none=>ones.find? p):=by
 show (twos++ones).find? p=_;rw[List.find?_append];cases twos.find? p<;>rfl
def isOne (c:Nat):Bool:=decide (c=40)||(decide (c=41)||(decide (c=44)||(decide (c=46)||(decide (c=33)||(decide (c=61)||decide (c=60))))))
theorem Jrx (c:Nat)(t:List Nat):ones.find? (fun g=>g.isPrefixOf (c::t))=if isOne c then some [c]else none:=by
 simp only[ones,isOne];by_cases h1:c=40
 ·subst h1;rfl
 by_cases h2:c=41
 ·subst h2;rfl
 by_cases h3:c=44
 ·subst h3;rfl
 by_cases h4:c=46
 ·subst h4;rfl
 by_cases h5:c=33
 ·subst h5;rfl
 by_cases h6:c=61
 ·subst h6;rfl
 by_cases h7:c=60
 ·subst h7;rfl
 have e:∀n:Nat,¬c=n→(n==c)=false:=fun n hn=>beq_eq_false_iff_ne.2 (Ne.symm hn);simp[List.find?,List.isPrefixOf,h1,h2,h3,h4,h5,h6,h7,e 40 h1,e 41 h2,e 44 h3,e 46 h4,e 33 h5,e 61 h6,e 60 h7]
theorem JkS {g s:List Nat}(hg:g.length=2):g.isPrefixOf s=(decide (2≤s.length)&&eqL (s.take 2) g):=by
 rw[Jl6,hg]
def Js3:ACode:=(.seq (.region [Qo 112 (.buildSlice 3 [(.str []),(.str []),(.str [])] [(0,1,(.const (.str [58,45]))),(1,1,(.const (.str [33,61]))),(2,1,(.const (.str [60,61])))]),Qm 5 112]) (.seq (QR [KJ 6 0] (.block 7 (.loop Zx))) (.seq (QR [Qm 129 0,Qo 130 (.indexStr (Qu 129) (Qi 0))] (.block 9 Jx)) (QR [KJ 2 0,KJ 3 0] .ret))))
set_option maxRecDepth 10000 in
theorem JtC (C:Codes tab){c:Nat}{t:List Nat}{aw:AW}{K:V→AW→Prop}(hs:(c::t).length≤4611686018427387904)(h:∀kind aw',((Ja9 (c::t)).2≠0→kind=(Ja9 (c::t)).1)→Ext aw.next aw aw'→K (.tuple [.int .i64 (Int.ofNat (Ja9 (c::t)).2),.int .i64 (Int.ofNat kind)]) aw'):WF tab Gz [.str (c::t)] aw K:=by
 refine Ja7 C.X0 rfl ?_;have h1l:1≤(c::t).length:=Fj;refine JaY 1000 (by simp only[go_sem,JaX,simprocAttr,Ja,PR];rfl) ?_;refine Ja0 (by simp only[go_sem,JaX,simprocAttr]) (by simp only[go_sem,JaX,simprocAttr];rfl) ?_;refine JiH C ?_;cases h1:JdK c with
 | true =>
  have hl:Ja9 (c::t)=(1,1+(t.takeWhile JbG).length):=by
   have:JbG c=true:=by simp[JbG,h1]
   simp only[Ja9,h1,if_true,List.takeWhile_cons_of_pos this,FC,KA]
  rw[hl]at h;refine JaY 1000 (by simp only[go_sem,JaX,simprocAttr];rfl) ?_;refine rl0 C hs h1l (by simp only[go_sem,JaX,simprocAttr]<;>rfl) (by simp only[go_sem,JaX,simprocAttr]<;>rfl) ?_;intro f f0 f4;simp only[List.drop_succ_cons,FZ]at f4;refine JaY 1000 (by simp only[go_sem,JaX,simprocAttr,f4];rfl) ?_;refine JaZ ⟨_,by simp only[go_sem,JaX,simprocAttr,Ja];rfl,?_⟩;exact h 1 aw (fun _=>rfl) (Ext.refl aw)
 | false =>
  refine JaY 1000 (by simp only[go_sem,JaX,simprocAttr,PQ];rfl) ?_;refine Ja0 (by simp only[go_sem,JaX,simprocAttr]) (by simp only[go_sem,JaX,simprocAttr];rfl) ?_;refine JlS C ?_;cases h2:Je1 c with
  | true =>
   have hl:Ja9 (c::t)=(2,1+(t.takeWhile Jcx).length):=by
    have:Jcx c=true:=by simp[Jcx,h2]
    simp only[Ja9,h1,h2,if_true,FM,if_false,List.takeWhile_cons_of_pos this,FC,KA]
   rw[hl]at h;refine JaY 1000 (by simp only[go_sem,JaX,simprocAttr];rfl) ?_;refine rl1 C hs h1l (by simp only[go_sem,JaX,simprocAttr]<;>rfl) (by simp only[go_sem,JaX,simprocAttr]<;>rfl) ?_;intro f f0 f4;simp only[List.drop_succ_cons,FZ]at f4;refine JaY 1000 (by simp only[go_sem,JaX,simprocAttr,f4];rfl) ?_;refine JaZ ⟨_,by simp only[go_sem,JaX,simprocAttr,Ja];rfl,?_⟩;exact h 2 aw (fun _=>rfl) (Ext.refl aw)
  | false =>
   refine JaY 1000 (by simp only[go_sem,JaX,simprocAttr,PP];rfl) ?_;refine Ja0 (by simp only[go_sem,JaX,simprocAttr]) (by simp only[go_sem,JaX,simprocAttr];rfl) ?_;refine JfO C ?_;cases h3:Jbp c with
   | true =>
    have h45:¬c=45:=by intro he;subst he;revert h3;decide
    have hd:(Jbp c||decide (c=45))=true:=by simp[h3]
    have hl:Ja9 (c::t)=(3,if c=48 then 1 else 1+(t.takeWhile Jbp).length):=by
     simp only[Ja9,h1,h2,hd,if_true,FM,if_false,Prod.mk.injEq,true_and];unfold Jdv;simp only[List.head?_cons,FQ,h45,if_false,FZ,List.takeWhile_cons_of_pos h3,FC,Kg];rw[if_neg Fh,if_neg Fh];split
     ·rfl
     ·omega
    rw[hl]at h;by_cases h48:c=48
    ·refine JaY 1000 (by simp only[go_sem,JaX,simprocAttr,Yg,h45,h48];rfl) ?_;refine JaZ ⟨_,by simp only[go_sem,JaX,simprocAttr,Ja];rfl,?_⟩;rw[if_pos h48]at h;exact h 3 aw (fun _=>rfl) (Ext.refl aw)
    ·refine JaY 1000 (by simp only[go_sem,JaX,simprocAttr,Yg,h45,h48];rfl) ?_;refine rl3 C hs h1l (by simp only[go_sem,JaX,simprocAttr]<;>rfl) (by simp only[go_sem,JaX,simprocAttr]<;>rfl) ?_;intro f f0 f4;simp only[List.drop_succ_cons,FZ]at f4;refine JaY 1000 (by simp only[go_sem,JaX,simprocAttr,f4];rfl) ?_;refine JaZ ⟨_,by simp only[go_sem,JaX,simprocAttr,Ja];rfl,?_⟩;rw[if_neg h48]at h;exact h 3 aw (fun _=>rfl) (Ext.refl aw)
   | false =>
    have hsg:∀fr:Fr,fr.get 0=some (.str (c::t))→((Ja9 (c::t)).2=match signs.find? (fun g=>g.isPrefixOf (c::t))with|some g=>g.length|none=>0)→((Ja9 (c::t)).2≠0→(Ja9 (c::t)).1=4)→WS tab [.code Js3] fr aw (fun fr' aw'=>∃vs,Jcv fr' aw' Ja.results=some vs∧K (JbT vs) aw'):=by
     intro fr f0 hn hk;rw[Jqy,Jrx]at hn;refine JaY 1000 (by simp only[go_sem,JaX,simprocAttr,Js3,Ja4,Jbe,V.cells,FC,FD,over];rfl) ?_
     have hload:∀(i:Nat) (g:List Nat),twos[i]? = some g→(aw.fresh [.str [58,45],.str [33,61],.str [60,61]]).load aw.next (0+i*1) 1=some [.str g]:=by
      intro i g hg;have hi:i<3:=(List.getElem?_eq_some_iff.1 hg).1;simp only[AW.load,AW.fresh,AW.new,T.get_putk,if_true,AW.alive,FV,KC]
      match i,hi with
      | 0,_|1,_|2,_=>simp[twos]at hg;subst hg;rfl
     have hext:Ext aw.next aw (aw.fresh [.str [58,45],.str [33,61],.str [60,61]]):=Ext.new (FH _) _;generalize aw.fresh [.str [58,45],.str [33,61],.str [60,61]]=aw1 at hload hext;refine JdJ (fun n f w=>∃i,f.get 0=some (.str (c::t))∧f.get 5=some (.slice aw.next 0 3 (.known 3))∧f.get 6=some (.int .i64 (Int.ofNat i))∧twos.find? (fun g=>g.isPrefixOf (c::t))=(twos.drop i).find? (fun g=>g.isPrefixOf (c::t))∧i≤3∧n=3-i∧w=aw1) ?_ 3 ⟨0,(by simp only[go_sem,JaX,simprocAttr,f0]<;>rfl),(by simp only[go_sem,JaX,simprocAttr]<;>rfl),(by simp only[go_sem,JaX,simprocAttr]<;>rfl),rfl,by omega,rfl,rfl⟩;rintro n f w ⟨i,f0,f5,f6,hf,hi,rfl,rfl⟩ ih;by_cases hlt:i<3
     ·obtain⟨g,hg⟩:∃g,twos[i]? = some g:=⟨_,FB (by simpa[twos]using hlt)⟩
      have hd:twos.drop i=g::twos.drop (i+1):=by
       have hl:i<twos.length:=by simpa[twos]using hlt
       rw[FL hl];rw[FB hl]at hg;rw[FY hg]
      have hg2:g.length=2:=by
       have hm:=FI hg;simp only[twos,FJ,F3,or_false]at hm;rcases hm with rfl|rfl|rfl<;>rfl
      have hld:=hload i g hg;have hw:IntKind.wrap .i64 (Int.ofNat i+1)=Int.ofNat (i+1):=Ja3 Fh
      have next:g.isPrefixOf (c::t)=false→∀f',f'.get 0=some (.str (c::t))→f'.get 5=some (.slice aw.next 0 3 (.known 3))→f'.get 6=some (.int .i64 (Int.ofNat (i+1)))→WS tab _ f' w _:=fun hp f' g0 g5 g6 =>
       ih (3-(i+1)) f' w Fh ⟨i+1,g0,g5,g6,by rw[hf,hd,List.find?_cons_of_neg (by simp[hp])],by omega,rfl,rfl⟩
      by_cases hl2:2≤(c::t).length
      ·have hz:0≤2:=Fh;have hp:=JkS (g:=g) (s:=c::t) hg2;rw[decide_eq_true hl2,Bool.true_and]at hp;cases he:eqL ((c::t).take 2) g with
       | true =>
        rw[he]at hp;refine JaY 1000 (by simp only[go_sem,JaX,simprocAttr,Zx,XZ,f0,f5,f6,hlt,hl2,hz,hld,FZ,Nat.sub_zero,Jck,he];rfl) ?_;refine JaZ ⟨_,by simp only[go_sem,JaX,simprocAttr,Ja];rfl,?_⟩;rw[hf,hd,List.find?_cons_of_pos (by simpa using hp)]at hn;simp only[hg2]at hn;have:=h 4 w (fun hne=>(hk hne).symm) hext;rw[hn]at this;exact this
       | false =>
        rw[he]at hp;refine JaY 1000 (by simp only[go_sem,JaX,simprocAttr,Zx,XZ,f0,f5,f6,hlt,hl2,hz,hld,FZ,Nat.sub_zero,Jck,he,hw];rfl) ?_;exact next hp _ (by simp only[go_sem,JaX,simprocAttr,f0]<;>rfl) (by simp only[go_sem,JaX,simprocAttr,f5]<;>rfl) (by simp only[go_sem,JaX,simprocAttr]<;>rfl)
      ·have hp:g.isPrefixOf (c::t)=false:=by rw[JkS hg2,decide_eq_false hl2];rfl
       refine JaY 1000 (by simp only[go_sem,JaX,simprocAttr,Zx,XZ,f0,f5,f6,hlt,hl2,hw];rfl) ?_;exact next hp _ (by simp only[go_sem,JaX,simprocAttr,f0]<;>rfl) (by simp only[go_sem,JaX,simprocAttr,f5]<;>rfl) (by simp only[go_sem,JaX,simprocAttr]<;>rfl)
     ·have:i=3:=Fh;subst this;have hno:twos.find? (fun g=>g.isPrefixOf (c::t))=none:=by rw[hf];rfl
      rw[hno]at hn;simp only at hn;refine Ja2 1000 (by simp only[go_sem,JaX,simprocAttr,Zx,f0,f6,hlt];rfl) ?_
      have yes:isOne c=true→K (.tuple [.int .i64 1,.int .i64 4]) w:=by
       intro ho;rw[if_pos ho]at hn;simp only[FC,FD]at hn;have:=h 4 w (fun hne=>(hk hne).symm) hext;rw[hn]at this;exact this
      have no:isOne c=false→K (.tuple [.int .i64 0,.int .i64 0]) w:=by
       intro ho;rw[ho]at hn;simp only[FM,if_false]at hn;have:=h 0 w (fun hne=>absurd hn hne) hext;rw[hn]at this;exact this
      unfold isOne at yes no;by_cases c40:c=40
      ·refine JaY 1000 (by simp only[go_sem,JaX,simprocAttr,Jx,JH,JG,JF,f0,c40];rfl) ?_;refine JaZ ⟨_,by simp only[go_sem,JaX,simprocAttr,Ja];rfl,?_⟩;exact yes (by simp[c40])
      by_cases c41:c=41
      ·refine JaY 1000 (by simp only[go_sem,JaX,simprocAttr,Jx,JH,JG,JF,f0,c40,c41];rfl) ?_;refine JaZ ⟨_,by simp only[go_sem,JaX,simprocAttr,Ja];rfl,?_⟩;exact yes (by simp[c41])
      by_cases c44:c=44
      ·refine JaY 1000 (by simp only[go_sem,JaX,simprocAttr,Jx,JH,JG,JF,f0,c40,c41,c44];rfl) ?_;refine JaZ ⟨_,by simp only[go_sem,JaX,simprocAttr,Ja];rfl,?_⟩;exact yes (by simp[c44])
      by_cases c46:c=46
      ·refine JaY 1000 (by simp only[go_sem,JaX,simprocAttr,Jx,JH,JG,JF,f0,c40,c41,c44,c46];rfl) ?_;refine JaZ ⟨_,by simp only[go_sem,JaX,simprocAttr,Ja];rfl,?_⟩;exact yes (by simp[c46])
      by_cases c33:c=33
      ·refine JaY 1000 (by simp only[go_sem,JaX,simprocAttr,Jx,JH,JG,JF,f0,c40,c41,c44,c46,c33];rfl) ?_;refine JaZ ⟨_,by simp only[go_sem,JaX,simprocAttr,Ja];rfl,?_⟩;exact yes (by simp[c33])
      by_cases c61:c=61
      ·refine JaY 1000 (by simp only[go_sem,JaX,simprocAttr,Jx,JH,JG,JF,f0,c40,c41,c44,c46,c33,c61];rfl) ?_;refine JaZ ⟨_,by simp only[go_sem,JaX,simprocAttr,Ja];rfl,?_⟩;exact yes (by simp[c61])
      by_cases c60:c=60
      ·refine JaY 1000 (by simp only[go_sem,JaX,simprocAttr,Jx,JH,JG,JF,f0,c40,c41,c44,c46,c33,c61,c60];rfl) ?_;refine JaZ ⟨_,by simp only[go_sem,JaX,simprocAttr,Ja];rfl,?_⟩;exact yes (by simp[c60])
      refine JaY 1000 (by simp only[go_sem,JaX,simprocAttr,Jx,JH,JG,JF,f0,c40,c41,c44,c46,c33,c61,c60];rfl) ?_;refine JaZ ⟨_,by simp only[go_sem,JaX,simprocAttr,Ja];rfl,?_⟩;exact no (by simp[c40,c41,c44,c46,c33,c61,c60])
    have hne:(Ja9 (c::t)).2=0→¬Jbp c=true→c=45→∀fr:Fr,fr.get 0=some (.str (c::t))→WS tab [.code Js3] fr aw (fun fr' aw'=>∃vs,Jcv fr' aw' Ja.results=some vs∧K (JbT vs) aw'):=by
     intro hz _ he fr f0;refine hsg fr f0 ?_ (fun hn=>absurd hz hn);rw[hz];subst he;rfl
    by_cases h45:c=45
    ·have hl:Ja9 (c::t)=(3,Jdv (c::t)):=by
      subst h45;rfl
     have e45:¬Jbp c=true:=by rw[h3];simp
     cases t with
     | nil =>
      have hnl:Jdv [c]=0:=by subst h45;rfl
      refine Ja2 20 (by simp only[go_sem,JaX,simprocAttr,h45,FC,FD];rfl) ?_;refine hne (by rw[hl];exact hnl) e45 h45 _ (by simp only[go_sem,JaX,simprocAttr,h45]<;>rfl)
     | cons d u =>
      have hlen:1<(45::d::u).length:=Fj;have hh:(c::d::u).head? = some 45:=by rw[h45];rfl
      refine JaY 1000 (by simp only[go_sem,JaX,simprocAttr,h45,hlen];rfl) ?_;refine Ja0 (by simp only[go_sem,JaX,simprocAttr]) (by simp only[go_sem,JaX,simprocAttr];rfl) ?_;refine JfO C ?_;cases hd:Jbp d with
      | false =>
       have hnl:Jdv (c::d::u)=0:=by
        subst h45;have e0:((d::u).takeWhile Jbp)=[]:=List.takeWhile_cons_of_neg (by simp[hd]);simp[Jdv,e0]
       refine Ja2 7 (by simp only[go_sem,JaX,simprocAttr];rfl) ?_;refine hne (by rw[hl];exact hnl) e45 h45 _ (by simp only[go_sem,JaX,simprocAttr,h45]<;>rfl)
      | true =>
       have hd1:((d::u).takeWhile Jbp).length=1+(u.takeWhile Jbp).length:=by rw[List.takeWhile_cons_of_pos hd,FC,KA]
       have hnl:Jdv (c::d::u)=if d=48 then 0 else 1+(1+(u.takeWhile Jbp).length):=by
        unfold Jdv;rw[hh];simp only[if_true,List.drop_succ_cons,FZ,hd1,Kh,Kg,FQ,true_and];rw[if_neg Fh];split<;>rfl
       by_cases h48:d=48
       ·refine JaY 1000 (by simp only[go_sem,JaX,simprocAttr,Yg,UD,h48,h45];rfl) ?_;refine JaZ ⟨_,by simp only[go_sem,JaX,simprocAttr,Ja];rfl,?_⟩;rw[if_pos h48]at hnl;have:=h 0 aw (fun hn=>absurd (by rw[hl];exact hnl) hn) (Ext.refl aw);rw[hl,hnl]at this;exact this
       ·refine JaY 1000 (by simp only[go_sem,JaX,simprocAttr,Yg,UD,h48,h45];rfl) ?_;refine rl3 (c:=45) (t:=d::u) C (by simpa using hs) (k0:=2) Fj (by simp only[go_sem,JaX,simprocAttr]<;>rfl) (by simp only[go_sem,JaX,simprocAttr]<;>rfl) ?_;intro f f0 f4;refine JaY 1000 (by simp only[go_sem,JaX,simprocAttr,f4];rfl) ?_;refine JaZ ⟨_,by simp only[go_sem,JaX,simprocAttr,Ja];rfl,?_⟩;rw[if_neg h48]at hnl;have:=h 3 aw (fun _=>by rw[hl]) (Ext.refl aw);rw[hl,hnl]at this;have e:2+(List.takeWhile Jbp (List.drop 2 (45::d::u))).length=1+(1+(u.takeWhile Jbp).length):=by simp;omega
        rw[e];exact this
    ·have hd:(Jbp c||decide (c=45))=false:=by simp[h3,h45]
     have hl:Ja9 (c::t)=(match signs.find? (fun g=>g.isPrefixOf (c::t))with
       | some g=>(4,g.length)
       | none=>(0,0)):=by
      simp only[Ja9,h1,h2,hd,FM,if_false];rfl
     refine Ja2 20 (by simp only[go_sem,JaX,simprocAttr,h45];rfl) ?_;refine hsg _ (by simp only[go_sem,JaX,simprocAttr]<;>rfl) ?_ ?_
     ·rw[hl];cases signs.find? (fun g=>g.isPrefixOf (c::t))<;>rfl
     ·rw[hl];cases signs.find? (fun g=>g.isPrefixOf (c::t))with
      | none=>intro hn;exact absurd rfl hn
      | some g=>intro _;rfl
end
section
open Go.AE Delphi
variable {tab:Tab}
def Jpl (s:List Nat) (l:List Wd) (ok:Bool) (aw:AW) (n:Nat) (f:Fr) (w:AW):Prop:=∃i v done,f.get 0=some (.str s)∧f.get 5=some (.int .i64 (Int.ofNat i))∧f.get 4=some v∧Own aw.next w v 3 done.length (JeX done)∧Ext aw.next aw w∧i≤s.length∧
  (l,ok)=(done++(scan i (s.drop i)).1,(scan i (s.drop i)).2)∧done.length≤i∧n=s.length-i
set_option maxRecDepth 10000 in
set_option maxHeartbeats 1000000 in
theorem JtA (C:Codes tab){s:List Nat}{aw:AW}{K:V→AW→Prop}(hs:s.length≤1099511627776)(h1:4000<s.length→K (.tuple [.nilslice,.int .i64 8]) aw)(h2:s.length≤4000→∀v aw',Own aw.next aw' v 3 (scan 0 s).1.length (JeX (scan 0 s).1)→Ext aw.next aw aw'→K (.tuple [v,.int .i64 (if (scan 0 s).2 then 0 else 4)]) aw'):WF tab Gq [.str s] aw K:=by
 refine Ja7 C.XA rfl ?_;obtain⟨l,ok,hres⟩:∃l ok,scan 0 s=(l,ok):=⟨_,_,rfl⟩;rw[hres]at h2;simp only at h2;by_cases hl:4000<s.length
 ·refine JaY 1000 (by simp only[go_sem,JaX,simprocAttr,JO,hl];rfl) ?_;refine JaZ ⟨_,by simp only[go_sem,JaX,simprocAttr,JO];rfl,?_⟩;exact h1 hl
 have h2:=h2 Fh;refine JaY 1000 (by simp only[go_sem,JaX,simprocAttr,JO,hl];rfl) ?_;refine JdJ (Jpl s l ok aw) ?_ s.length ⟨0,.nilslice,[],(by simp only[go_sem,JaX,simprocAttr]<;>rfl),(by simp only[go_sem,JaX,simprocAttr]<;>rfl),(by simp only[go_sem,JaX,simprocAttr]<;>rfl),.nil,Ext.refl aw,by omega,by rw[←hres];simp,by simp,rfl⟩;rintro n f w ⟨i,v,done,f0,f5,f4,hown,hext,hi,hsc,hdl,rfl⟩ ih;by_cases hlt:i<s.length
 ·obtain⟨c,hc⟩:∃c,s[i]? = some c:=⟨_,FB hlt⟩
  have hd0:s.drop i=c::s.drop (i+1):=by
   rw[FL hlt];rw[FB hlt]at hc;rw[FY hc]
  have hw:IntKind.wrap .i64 (Int.ofNat i+1)=Int.ofNat (i+1):=Ja3 Fh
  have skip:∀(j:Nat) f',i<j→j≤s.length→blk false (s.drop i)=(j-i)+blk false (s.drop j)→f'.get 0=some (.str s)→f'.get 5=some (.int .i64 (Int.ofNat j))→f'.get 4=some v→Jpl s l ok aw (s.length-j) f' w:=by
   intro j f' hij hj hb g0 g5 g4;refine⟨j,v,done,g0,g5,g4,hown,hext,hj,?_,by omega,rfl⟩;have e:s.drop j=(s.drop i).drop (j-i):=by rw[List.drop_drop];congr 1;omega
   rw[hsc,JlU i (s.drop i) (j-i) (by rw[←e];exact hb),←e,show i+(j-i)=j by omega]
  have skip1:Jei c=true→∀f',f'.get 0=some (.str s)→f'.get 5=some (.int .i64 (Int.ofNat (i+1)))→f'.get 4=some v→Jpl s l ok aw (s.length-(i+1)) f' w:=fun hb f' g0 g5 g4 =>
   skip (i+1) f' Fh Fh (by rw[hd0];simp only[blk,hb,if_true];omega) g0 g5 g4
  have rest:True:=trivial;by_cases b32:c=32
  ·refine JaY 1000 (by simp only[go_sem,JaX,simprocAttr,JN,J3,f0,f5,hlt,hc,hw,b32];rfl) ?_;exact ih _ _ _ Fh (skip1 (by simp[Jei,b32]) _ (by simp only[go_sem,JaX,simprocAttr,f0]<;>rfl) (by simp only[go_sem,JaX,simprocAttr]<;>rfl) (by simp only[go_sem,JaX,simprocAttr,f4]<;>rfl))
  by_cases b9:c=9
  ·refine JaY 1000 (by simp only[go_sem,JaX,simprocAttr,JN,J3,f0,f5,hlt,hc,hw,b32,b9];rfl) ?_;exact ih _ _ _ Fh (skip1 (by simp[Jei,b32,b9]) _ (by simp only[go_sem,JaX,simprocAttr,f0]<;>rfl) (by simp only[go_sem,JaX,simprocAttr]<;>rfl) (by simp only[go_sem,JaX,simprocAttr,f4]<;>rfl))
  by_cases b10:c=10
  ·refine JaY 1000 (by simp only[go_sem,JaX,simprocAttr,JN,J3,f0,f5,hlt,hc,hw,b32,b9,b10];rfl) ?_;exact ih _ _ _ Fh (skip1 (by simp[Jei,b32,b9,b10]) _ (by simp only[go_sem,JaX,simprocAttr,f0]<;>rfl) (by simp only[go_sem,JaX,simprocAttr]<;>rfl) (by simp only[go_sem,JaX,simprocAttr,f4]<;>rfl))
  by_cases b13:c=13
  ·refine JaY 1000 (by simp only[go_sem,JaX,simprocAttr,JN,J3,f0,f5,hlt,hc,hw,b32,b9,b10,b13];rfl) ?_;exact ih _ _ _ Fh (skip1 (by simp[Jei,b32,b9,b10,b13]) _ (by simp only[go_sem,JaX,simprocAttr,f0]<;>rfl) (by simp only[go_sem,JaX,simprocAttr]<;>rfl) (by simp only[go_sem,JaX,simprocAttr,f4]<;>rfl))
  have hnb:Jei c=false:=by simp[Jei,b32,b9,b10,b13]
  by_cases h37:c=37
  ·refine JaY 1000 (by simp only[go_sem,JaX,simprocAttr,JN,J3,f0,f5,hlt,hc,b32,b9,b10,b13,h37];rfl) ?_;refine JdJ (fun n f' w'=>∃j,f'.get 0=some (.str s)∧f'.get 5=some (.int .i64 (Int.ofNat j))∧f'.get 4=some v∧i≤j∧j≤s.length∧blk false (s.drop i)=(j-i)+blk true (s.drop j)∧n=s.length-j∧w'=w) ?_ (s.length-i) ⟨i,(by simp only[go_sem,JaX,simprocAttr,f0]<;>rfl),(by simp only[go_sem,JaX,simprocAttr,f5]<;>rfl),(by simp only[go_sem,JaX,simprocAttr,f4]<;>rfl),by omega,hi,?_,rfl,rfl⟩
   ·rintro n f' w' ⟨j,g0,g5,g4,hij,hj,hbj,rfl,rfl⟩ ih2;by_cases hjl:j<s.length
    ·obtain⟨d,hdc⟩:∃d,s[j]? = some d:=⟨_,FB hjl⟩
     have hdj:s.drop j=d::s.drop (j+1):=by
      rw[FL hjl];rw[FB hjl]at hdc;rw[FY hdc]
     have hwj:IntKind.wrap .i64 (Int.ofNat j+1)=Int.ofNat (j+1):=Ja3 Fh;by_cases h10:d=10
     ·refine JaY 1000 (by simp only[go_sem,JaX,simprocAttr,Xy,g0,g5,hjl,hdc,h10];rfl) ?_
      have hne:i≠j:=by
       intro he;subst he;rw[hc]at hdc;cases hdc;omega
      refine ih _ _ _ Fh (skip j _ Fh hj ?_ (by simp only[go_sem,JaX,simprocAttr,g0]<;>rfl) (by simp only[go_sem,JaX,simprocAttr,g5]<;>rfl) (by simp only[go_sem,JaX,simprocAttr,g4]<;>rfl));rw[hbj,hdj,h10];simp[blk,Jei]
     ·refine JaY 1000 (by simp only[go_sem,JaX,simprocAttr,Xy,g0,g5,hjl,hdc,h10,hwj];rfl) ?_;refine ih2 (s.length-(j+1)) _ _ Fh ⟨j+1,(by simp only[go_sem,JaX,simprocAttr,g0]<;>rfl),(by simp only[go_sem,JaX,simprocAttr]<;>rfl),(by simp only[go_sem,JaX,simprocAttr,g4]<;>rfl),by omega,by omega,?_,rfl,rfl⟩;rw[hbj,hdj];simp only[blk,if_neg h10];omega
    ·have:j=s.length:=Fh;subst this;refine JaY 1000 (by simp only[go_sem,JaX,simprocAttr,Xy,g0,g5,hjl];rfl) ?_;refine ih _ _ _ Fh (skip s.length _ hlt hj ?_ (by simp only[go_sem,JaX,simprocAttr,g0]<;>rfl) (by simp only[go_sem,JaX,simprocAttr,g5]<;>rfl) (by simp only[go_sem,JaX,simprocAttr,g4]<;>rfl));rw[hbj,List.drop_length];simp[blk]
   ·rw[hd0,h37];simp[blk,Jei]
  ·-- a word
   obtain⟨t,hd⟩:∃t,s.drop i=c::t:=⟨_,hd0⟩;have hbl:blk false (s.drop i)=0:=by rw[hd];simp[blk,hnb,h37]
   have hle:=JkD (c::t);have hlen:(c::t).length=s.length-i:=by rw[←hd];simp
   rw[Jg6,hbl,FZ,hd]at hsc;simp only[KF]at hsc;refine JaY 1000 (by simp only[go_sem,JaX,simprocAttr,JN,J3,Xz,f0,f5,hlt,hi,hc,b32,b9,b10,b13,h37];rfl) ?_;refine Ja0 (by simp only[go_sem,JaX,simprocAttr]) (by simp only[go_sem,JaX,simprocAttr];rfl) ?_;rw[hd];refine JtC (c:=c) (t:=t) C Fh ?_;intro kind w1 hkd hx1;generalize hlw:Ja9 (c::t)=lw at hle hsc hkd;obtain⟨k,m⟩:=lw;simp only at hle hsc hkd;by_cases hm:m=0
   ·rw[if_pos (.inl hm)]at hsc;have e1:l=done:=by simpa using (Prod.mk.inj hsc).1
    have e2:ok=false:=(Prod.mk.inj hsc).2;have fin:=h2 v w1 (by rw[e1];exact hown.ext (FH _) hx1) (hext.trans (hx1.mono hext.le'));rw[e2]at fin;refine JaY 1000 (by simp only[go_sem,JaX,simprocAttr,f4,hm];rfl) ?_;refine JaZ ⟨_,by simp only[go_sem,JaX,simprocAttr,JO];rfl,?_⟩;exact fin
   obtain rfl:=hkd hm
   have hk4:kind≤4:=by
    have:(Ja9 (c::t)).1≤4:=by
     simp only[Ja9]
     (repeat' split)<;>simp
    rw[hlw]at this;exact this
   by_cases hbad:kind≠4∧16<m
   ·rw[if_pos (.inr hbad)]at hsc;have e1:l=done:=by simpa using (Prod.mk.inj hsc).1
    have e2:ok=false:=(Prod.mk.inj hsc).2;have fin:=h2 v w1 (by rw[e1];exact hown.ext (FH _) hx1) (hext.trans (hx1.mono hext.le'));rw[e2]at fin;obtain⟨hk4',hm16⟩:=hbad;have hk4'':kind<4:=Fh;refine JaY 1000 (by simp only[go_sem,JaX,simprocAttr,f4,hm,hk4'',hm16];rfl) ?_;refine JaZ ⟨_,by simp only[go_sem,JaX,simprocAttr,JO];rfl,?_⟩;exact fin
   ·rw[if_neg (by intro hh;rcases hh with hh|hh;exact hm hh;exact hbad hh)]at hsc;have hw1:IntKind.wrap .i64 (Int.ofNat i+Int.ofNat m)=Int.ofNat (i+m):=JhZ Fh;have hc1:i+m≤s.length:=Fh;have hc2:i≤i+m:=Nat.le_add_right _ _;have hown1:=hown.ext (FH _) hx1;have hN1:aw.next≤w1.next:=Kk hext.le' hx1.next;obtain⟨v2,w2,happ,hown2,hx2⟩:=hown1.push (bytes:=32) hN1 Fh (news:=JcZ ⟨kind,(s.drop i).take m,i⟩) rfl rfl Fh Fh;have hel:=JbH (w:=w1) (esz:=3) (n:=1) (c:=.known 1) (cs:=JcZ ⟨kind,(s.drop i).take m,i⟩) Fh rfl;simp only[JcZ]at happ hel;by_cases hk4:kind<4
    ·have h16:¬16<m:=fun hh=>hbad ⟨by omega,hh⟩;refine JaY 1000 (by simp only[go_sem,JaX,simprocAttr,f0,f5,f4,hm,hk4,h16,hw1,hc1,hc2,Xz,Ja4,Jbe,V.cells,over,FC,FD,hel,happ];rfl) ?_;refine ih (s.length-(i+m)) _ _ Fh ⟨i+m,v2,done++[⟨kind,(s.drop i).take m,i⟩],(by simp only[go_sem,JaX,simprocAttr,f0]<;>rfl),(by simp only[go_sem,JaX,simprocAttr]<;>rfl),(by simp only[go_sem,JaX,simprocAttr]<;>rfl),?_,hext.trans ((hx1.mono hext.le').trans hx2),by omega,?_,by simp only[FE,FC,FD];omega,rfl⟩
     ·rw[Jia,FE];exact hown2
     ·rw[hsc,hd];have hdr:(c::t).drop m=s.drop (i+m):=by rw[←hd,List.drop_drop]
      rw[hdr];simp
    ·have h16:True:=trivial;refine JaY 1000 (by simp only[go_sem,JaX,simprocAttr,f0,f5,f4,hm,hk4,h16,hw1,hc1,hc2,Xz,Ja4,Jbe,V.cells,over,FC,FD,hel,happ];rfl) ?_;refine ih (s.length-(i+m)) _ _ Fh ⟨i+m,v2,done++[⟨kind,(s.drop i).take m,i⟩],(by simp only[go_sem,JaX,simprocAttr,f0]<;>rfl),(by simp only[go_sem,JaX,simprocAttr]<;>rfl),(by simp only[go_sem,JaX,simprocAttr]<;>rfl),?_,hext.trans ((hx1.mono hext.le').trans hx2),by omega,?_,by simp only[FE,FC,FD];omega,rfl⟩
     ·rw[Jia,FE];exact hown2
     ·rw[hsc,hd];have hdr:(c::t).drop m=s.drop (i+m):=by rw[←hd,List.drop_drop]
      rw[hdr];simp
 ·have:i=s.length:=Fh;subst this;refine JaY 1000 (by simp only[go_sem,JaX,simprocAttr,JN,f0,f5,f4,hlt];rfl) ?_;refine JaZ ⟨_,by simp only[go_sem,JaX,simprocAttr,JO];rfl,?_⟩;rw[List.drop_length]at hsc;have hz:scan s.length ([]:List Nat)=([],true):=by rw[Jg6];rfl
  rw[hz]at hsc;have e1:l=done:=by simpa using (Prod.mk.inj hsc).1
  have e2:ok=true:=(Prod.mk.inj hsc).2;have:=h2 v w (by rw[e1];exact hown) hext;rw[e2]at this;exact this
end
end Go.Proofs.YtegdcbdicpfbpaaGreatDoor
namespace Go.AE
variable [Globs]
structure Frm (S:Fw) (w w':AW):Prop where
 next:w.next≤w'.next
 heap:∀b,b<w.next→¬S b→w'.heap.get b=w.heap.get b
 fams:∀b,b<w.next→¬S b→w'.fams.get b=w.fams.get b
variable {S:Fw}
theorem Frm.refl (w:AW):Frm S w w:=⟨FH _,fun _ _ _=>rfl,fun _ _ _=>rfl⟩
variable {T:Fw}
theorem Frm.trans {U:Fw}{a b c:AW}(h:Frm S a b)(h':Frm T b c)(hs:∀x,x<a.next→S x→U x)(ht:∀x,x<a.next→T x→U x):Frm U a c:=
 ⟨Kk h.next h'.next,fun k hk hu=>(h'.heap k (FK hk h.next) fun x=>hu (ht k hk x)).trans (h.heap k hk fun x=>hu (hs k hk x)),fun k hk hu=>(h'.fams k (FK hk h.next) fun x=>hu (ht k hk x)).trans (h.fams k hk fun x=>hu (hs k hk x))⟩
theorem Frm.mono {a b:AW}(h:Frm S a b)(hs:∀x,x<a.next→S x→T x):Frm T a b:=⟨h.next,fun k hk hu=>h.heap k hk fun x=>hu (hs k hk x),fun k hk hu=>h.fams k hk fun x=>hu (hs k hk x)⟩
theorem Frm.new (w:AW)(x:Blk):Frm S w (w.new x):=⟨Nat.le_succ _,fun b hb _=>T.get_put_ne Fh,fun _ _ _=>rfl⟩
variable {w w':AW}
theorem Ext.frm {N:Nat}(h:Ext N w w')(hs:∀x,x<w.next→N≤x→S x):Frm S w w':=
 ⟨h.next,fun b hb hn=>h.heap b (Nat.lt_of_not_le fun x=>hn (hs b hb x)),fun b hb hn=>h.fams b (Nat.lt_of_not_le fun x=>hn (hs b hb x))⟩
theorem Frm.ext {N:Nat}(h:Frm S w w')(hN:N≤w.next)(hs:∀x,S x→N≤x):Ext N w w':=
 ⟨hN,h.next,fun b hb=>h.heap b Fh fun x=>by have:=hs b x;omega,fun b hb=>h.fams b Fh fun x=>by have:=hs b x;omega⟩
def Jd0 (S S':Fw) (w w':AW):Prop:=∀b,S' b→b<w'.next∧(S b∨w.next≤b)
def Shr (S:Fw) (w:AW) (b:Nat) (sh:Share):Prop :=
 sh = .own∨sh = .lax∨∃f F,sh = .fam f∧S f∧f<w.next∧w.fams.get f=some F∧F.last=b∧F.floor≤w.next∧w.alive b sh=true
variable {b:Nat} {sh:Share}
theorem Shr.alive (h:Shr S w b sh):w.alive b sh=true:=by
 rcases h with rfl|rfl|⟨f,F,rfl,h1,h2,h3,h4,h6,h5⟩
 ·rfl
 ·rfl
 ·exact h5
theorem Shr.mono {S':Fw}(h:Shr S w b sh)(hs:∀x,S x→S' x):Shr S' w b sh:=by
 rcases h with rfl|rfl|⟨f,F,rfl,h1,h2⟩
 ·exact .inl rfl
 ·exact .inr (.inl rfl)
 ·exact .inr (.inr ⟨f,F,rfl,hs _ h1,h2⟩)
theorem Shr.frm (h:Shr S w b sh)(hf:Frm T w w')(hd:∀x,S x→¬T x):Shr S w' b sh:=by
 rcases h with rfl|rfl|⟨f,F,rfl,h1,h2,h3,h4,h6,h5⟩
 ·exact .inl rfl
 ·exact .inr (.inl rfl)
 ·have e:=hf.fams f h2 (hd f h1);refine .inr (.inr ⟨f,F,rfl,h1,FK h2 hf.next,e.trans h3,h4,Kk h6 hf.next,?_⟩);simp only[AW.alive,h3,e.trans h3]at h5 ⊢;exact h5
inductive Buf (S:Nat→Prop) (w:AW):V→Nat→Nat→List V→Prop
 | nil {esz:Nat}:Buf S w .nilslice esz 0 []
 | blk {b n esz r:Nat} {cs rest:List V} {sh:Share} (hS:S b) (hb:b<w.next) (hx:w.heap.get b=some (.cells (cs++rest) sh)) (hl:cs.length=n*esz) (hr:rest.length=r*esz) (he:0<esz) (hn:0<n+r) (hs:Shr S w b sh) :
   Buf S w (.slice b 0 n (.upTo esz)) esz n cs
variable {v:V} {esz n:Nat} {cs:List V}
theorem Buf.mono {S':Fw}(h:Buf S w v esz n cs)(hs:∀x,S x→S' x):Buf S' w v esz n cs:=by
 cases h with
 | nil=>exact .nil
 | blk hS hb hx hl hr he hn hsh=>exact .blk (hs _ hS) hb hx hl hr he hn (hsh.mono hs)
theorem Buf.frm (h:Buf S w v esz n cs)(hf:Frm T w w')(hd:∀x,S x→¬T x):Buf S w' v esz n cs:=by
 cases h with
 | nil=>exact .nil
 | blk hS hb hx hl hr he hn hsh=>exact .blk hS (FK hb hf.next) ((hf.heap _ hb (hd _ hS)).trans hx) hl hr he hn (hsh.frm hf hd)
theorem Buf.len (h:Buf S w v esz n cs):cs.length=n*esz:=by
 cases h with
 | nil=>simp
 | blk hS hb hx hl hr he hn hsh=>exact hl
theorem Buf.inv (h:Buf S w v esz n cs):(v = .nilslice∧n=0∧cs=[])∨∃b,v = .slice b 0 n (.upTo esz)∧S b∧b<w.next:=by
 cases h with
 | nil=>exact .inl ⟨rfl,rfl,rfl⟩
 | blk hS hb hx hl hr he hn hsh=>exact .inr ⟨_,rfl,hS,hb⟩
theorem Buf.load {c:Cap}(h:Buf S w (.slice b 0 n c) esz n cs){o k:Nat}(hk:o+k≤cs.length):w.load b o k=some ((cs.drop o).take k):=by
 cases h with
 | blk hS hb hx hl hr he hn hsh =>
  simp only[AW.load,hx,hsh.alive];rw[Jgd _ _ (by simp;omega),List.drop_append_of_le_length Fh,List.take_append_of_le_length (by simp;omega)]
theorem Buf.load1 {c:Cap}{x:V}(h:Buf S w (.slice b 0 n c) 1 n cs){i:Nat}(hi:cs[i]? = some x):w.load b (0+i*1) 1=some [x]:=by
 have hlt:i<cs.length:=(List.getElem?_eq_some_iff.1 hi).1;rw[h.load Fh,FV,KC,FL hlt];rw[FB hlt]at hi;rw[FY hi];rfl
theorem Jew:∀(a b c d:List V),d.length=b.length→over (a++b++c) a.length d=some (a++d++c)
 | [],b,c,d,h=>by
  have:∀(b d:List V),d.length=b.length→over (b++c) 0 d=some (d++c):=by
   intro b;induction b with
   | nil=>intro d h;cases d with
    | nil=>cases hc:c<;>rfl
    | cons x d=>simp at h
   | cons y b ih=>intro d h;cases d with
    | nil=>simp at h
    | cons x d=>simp only[List.cons_append,over,ih d (by simpa using h)]
  simpa using this b d h
 | x::a,b,c,d,h=>by
  have:=Jew a b c d h;simp only[List.cons_append,FC,over,this]
variable {l:List V}
theorem Jdm (hS:S b)(hs:Shr S w b sh):Frm S w (w.turn b (.cells l sh)):=by
 refine⟨FH _,fun c hc hn=>T.get_put_ne fun e=>hn (e▸hS),fun c hc hn=>?_⟩;rcases hs with rfl|rfl|⟨f,F,rfl,h1,h2⟩
 ·rfl
 ·rfl
 ·exact T.get_put_ne fun e=>hn (e▸h1)
theorem JnU (hb:b<w.next)(hs:Shr S w b sh):Shr S (w.turn b (.cells l sh)) b sh:=by
 rcases hs with rfl|rfl|⟨f,F,rfl,h1,h2,h3⟩
 ·exact .inl rfl
 ·exact .inr (.inl rfl)
 ·have e:(w.turn b (.cells l (.fam f))).fams.get f=some ⟨b,w.next,b⟩:=T.get_put_same;exact .inr (.inr ⟨f,_,rfl,h1,h2,e,rfl,FH _,by simp only[AW.alive,e,Nat.beq_refl,Bool.true_or]⟩)
theorem JfR {o:Nat}{l' vs:List V}(hx:w.heap.get b=some (.cells l sh))(hs:Shr S w b sh)(h1:Jbf vs=true)(ho:over l o vs=some l'):w.store b o vs=some (w.turn b (.cells l' sh)):=by
 have ha:=hs.alive;rcases hs with rfl|rfl|⟨f,F,rfl,_⟩<;>simp only[AW.store,hx,ha,h1,ho]
variable {bytes:Nat} {news:List V}
theorem Buf.add (h:Buf S w v esz n cs)(he:0<esz)(hl:news.length=esz)(h1:Jbf news=true)(hb:(n+1)*bytes≤70368744177664)(hb':n+1≤70368744177664): ∃v' w' S',w.appendV esz bytes v 1 news=some (v',w')∧Buf S' w' v' esz (n+1) (cs++news)∧Frm S w w'∧Jd0 S S' w w':=by
 have hcl:=h.len;cases h with
 | nil =>
  refine⟨.slice w.next 0 1 (.upTo esz),w.fresh news,fun b=>b=w.next,?_,?_,Frm.new _ _,?_⟩
  ·simp only[AW.appendV];rw[if_pos ⟨by simpa using hb,by omega⟩]
  ·exact .blk (r:=0) (rest:=[]) rfl (FW _) (by rw[Kc];exact T.get_put_same) (by simpa using hl) Fj he Fh (.inl rfl)
  ·rintro b rfl;exact⟨FW _,.inr (FH _)⟩
 | @blk b _ _ r _ rest sh hS hbw hx hlen hr he' hn hs =>
  have happ:w.appendV esz bytes (.slice b 0 n (.upTo esz)) 1 news=w.appendUp esz b 0 n 1 news:=if_pos ⟨rfl,hb,hb',h1,he⟩;rw[happ];cases r with
  | succ r =>
   have hne:Nat.beq (0+n*esz) (cs++rest).length=false:=by
    rw[Jno,decide_eq_false_iff_not,FE,hlen,hr,Nat.add_mul,Nat.one_mul];omega
   have hfit:Nat.ble (0+(n+1)*esz) (cs++rest).length=true:=by
    rw[Jnp,decide_eq_true_eq,FE,hlen,hr,Nat.add_mul,Nat.add_mul,Nat.one_mul];omega
   obtain⟨r1,r2,rfl,hr1⟩:∃r1 r2,rest=r1++r2∧r1.length=esz:=⟨rest.take esz,rest.drop esz,(List.take_append_drop _ _).symm,by rw[FU,hr,Nat.add_mul,Nat.one_mul];omega⟩
   have hov:over (cs++(r1++r2)) (0+n*esz) news=some (cs++news++r2):=by
    rw[←F6,FV,←hlen];exact Jew _ _ _ _ Fh
   refine⟨.slice b 0 (n+1) (.upTo esz),w.turn b (.cells (cs++news++r2) sh),fun x=>S x∧x<w.next,?_,?_,Jdm hS hs,?_⟩
   ·simp only[AW.appendUp,hx,hne,hfit,JfR hx hs h1 hov]
   ·refine .blk (r:=r) ⟨hS,hbw⟩ hbw T.get_put_same (by rw[FE,hlen,hl,Nat.add_mul,Nat.one_mul]) ?_ he Fh ?_
    ·rw[FE,hr1,Nat.add_mul,Nat.one_mul]at hr;omega
    ·rcases JnU (l:=cs++news++r2) hbw hs with rfl|rfl|⟨f,F,rfl,q1,q2,q3⟩
     ·exact .inl rfl
     ·exact .inr (.inl rfl)
     ·exact .inr (.inr ⟨f,F,rfl,⟨q1,q2⟩,q2,q3⟩)
   ·rintro x ⟨q1,q2⟩;exact⟨q2,.inl q1⟩
  | zero =>
   have hr0:rest=[]:=List.length_eq_zero_iff.1 (by simpa using hr);subst hr0;rw[Kc]at hx;have hbeq:Nat.beq (0+n*esz) cs.length=true:=by rw[FV,hlen,Nat.beq_refl]
   have fam:∀(u:AW) (f:Nat) (F:Fam),w.next≤u.next→Frm S w u→u.heap.get b=some (.cells cs (.fam f))→(S f∨w.next≤f)→f<u.next→b<u.next→u.fams.get f=some F→F.last=b→F.floor≤u.next→u.alive b (.fam f)=true→∃v' w' S',u.appendFam esz b 0 n 1 news=some (v',w')∧Buf S' w' v' esz (n+1) (cs++news)∧Frm S w w'∧Jd0 S S' w w':=by
    intro u f F hle hfu hx hSf hfl hbu hF hlast hflo hal;refine⟨.slice u.next 0 (n+1) (.upTo esz),u.grow b f F (cs.drop 0++news),fun x=>x=u.next∨x=f,?_,?_,?_,?_⟩
    ·simp only[AW.appendFam,hx,hal,hF,hbeq]
    ·have hg:(u.grow b f F (cs.drop 0++news)).fams.get f=some ⟨F.keep,F.floor,u.next⟩:=by
      simp only[AW.grow,T.get_putk,if_true,hlast,Nat.beq_refl]
     refine .blk (r:=0) (rest:=[]) (sh:=.fam f) (.inl rfl) (FW _) ?_ ?_ Fj he Fh (.inr (.inr ⟨f,⟨F.keep,F.floor,u.next⟩,rfl,.inr rfl,Nat.lt_succ_of_lt hfl,hg,rfl,Nat.le_succ_of_le hflo,?_⟩))
     ·simp only[AW.grow,T.get_putk,if_true,FZ,Kc]
     ·rw[FE,hlen,hl,Nat.add_mul,Nat.one_mul]
     ·simp only[AW.alive,hg,Bool.or_eq_true];exact .inr (Nat.ble_eq_true_of_le hflo)
    ·refine hfu.trans (T:=fun x=>x=f∨u.next≤x) ⟨Nat.le_succ _,fun c hc hn=>T.get_put_ne Fh,fun c hc hn=>T.get_put_ne fun e=>hn (.inl e)⟩ (fun x hx h=>h) ?_;rintro x hx (rfl|h)
     ·rcases hSf with h|h
      ·exact h
      ·omega
     ·omega
    ·rintro x (rfl|rfl)
     ·exact⟨FW _,.inr hle⟩
     ·exact⟨Nat.lt_succ_of_lt hfl,hSf⟩
   have fnd:sh = .own∨sh = .lax→∃v' w' S',(w.found b cs).appendFam esz b 0 n 1 news=some (v',w')∧Buf S' w' v' esz (n+1) (cs++news)∧Frm S w w'∧Jd0 S S' w w':=by
    intro _;refine fam (w.found b cs) w.next ⟨b,w.next+1,b⟩ (Nat.le_succ _) ⟨Nat.le_succ _,fun c hc hn=>T.get_put_ne fun e=>hn (e▸hS),fun c hc hn=>T.get_put_ne Fh⟩ T.get_put_same (.inr (FH _)) (FW _) (Nat.lt_succ_of_lt hbw) T.get_put_same rfl (FH _) ?_;simp only[AW.alive,AW.found,T.get_putk,if_true,Nat.beq_refl,Bool.true_or]
   simp only[AW.appendUp,hx,hbeq,Kc];rcases hs with rfl|rfl|⟨f,F,rfl,g1,g2,g3,g4,g6,g5⟩
   ·exact fnd (.inl rfl)
   ·exact fnd (.inr rfl)
   ·exact fam w f F (FH _) (Frm.refl _) hx (.inl g1) g2 hbw g3 g4 g6 g5
theorem Buf.push (h:Buf S w v esz n cs)(hS:∀b,S b→b<w.next)(he:0<esz)(hl:news.length=esz)(h1:Jbf news=true)(hb:(n+1)*bytes≤70368744177664)(hb':n+1≤70368744177664): ∃v' w' S',(w.fresh news).appendV esz bytes v 1 news=some (v',w')∧Buf S' w' v' esz (n+1) (cs++news)∧Frm S w w'∧Jd0 S S' w w':=by
 have hx:Frm (fun _=>False) w (w.fresh news):=Frm.new _ _;obtain⟨v',w',S',h2,h3,h4,h5⟩:=(h.frm hx fun _ _ h=>h).add (news:=news) (bytes:=bytes) he hl h1 hb hb';refine⟨v',w',S',h2,h3,hx.trans h4 (fun _ _ h=>h.elim) fun _ _ h=>h,fun b hb=>?_⟩;obtain⟨q1,q2⟩:=h5 b hb;exact⟨q1,q2.imp id fun h=>Kk hx.next h⟩
theorem Buf.insert {i bv:Nat}{x:V}(h:Buf S w (.slice b 0 n (.upTo 1)) 1 n cs)(hi:i<n)(hv:w.heap.get bv=some (.cells [x] .own))(hne:bv≠b)(h1:x.one=true)(h2:Jbf cs=true)(hb:(n+1)*bytes≤70368744177664)(hb':n+1≤70368744177664){k:Nat}: ∃v' w' S',Jeh bytes [.slice b 0 n (.upTo 1),.int .i64 (.ofNat i),.slice bv 0 1 (.known k)] w=some (v',w')∧Buf S' w' v' 1 (n+1) (cs.take i++[x]++cs.drop i)∧Frm S w w'∧Jd0 S S' w w':=by
 have hcl:=h.len;rw[KC]at hcl;have hld:=h.load (o:=0) (k:=n) Fh;rw[FZ,FX Fh]at hld;have hvl:w.load bv 0 1=some [x]:=by simp only[AW.load,hv,AW.alive,FZ,Jbh]
 have hbv:Nat.beq bv b=false:=by rw[Jno,decide_eq_false hne]
 have hone:Jbf [x]=true:=by simp[Jbf,h1]
 cases h with
 | @blk _ _ _ r _ rest sh hS hbw hx hlen hr he' hn hs =>
  have fam:∀(u:AW) (f:Nat),w.next≤u.next→Frm S w u→u.heap.get b=some (.cells (cs++rest) (.fam f))→(S f∨w.next≤f)→f<u.next→∃v' w' S',u.insFam b n 1 (cs.take i++[x]++cs.drop i)=some (v',w')∧Buf S' w' v' 1 (n+1) (cs.take i++[x]++cs.drop i)∧Frm S w w'∧Jd0 S S' w w':=by
   intro u f hle hfu hx hSf hfl;refine⟨.slice u.next 0 (n+1) (.upTo 1),u.reborn f (cs.take i++[x]++cs.drop i),fun x=>x=u.next,?_,?_,?_,?_⟩
   ·simp only[AW.insFam,hx]
   ·refine .blk (r:=0) (rest:=[]) (sh:=.lax) rfl (FW _) (by rw[Kc];exact T.get_put_same) ?_ Fj Fh Fh (.inr (.inl rfl));simp only[FE,FU,Ki,FC,FD];omega
   ·refine hfu.trans (T:=fun x=>x=f∨u.next≤x) ⟨Nat.le_succ _,fun c hc hn=>T.get_put_ne Fh,fun c hc hn=>T.get_put_ne fun e=>hn (.inl e)⟩ (fun x hx h=>h) ?_;rintro x hx (rfl|h)
    ·rcases hSf with h|h
     ·exact h
     ·omega
    ·omega
   ·rintro x rfl;exact⟨FW _,.inr hle⟩
  have fnd:(w.found b (cs++rest)).alive b (.fam w.next)=true∧∃v' w' S',(w.found b (cs++rest)).insFam b n 1 (cs.take i++[x]++cs.drop i)=some (v',w')∧Buf S' w' v' 1 (n+1) (cs.take i++[x]++cs.drop i)∧Frm S w w'∧Jd0 S S' w w' :=
   ⟨by simp only[AW.alive,AW.found,T.get_putk,if_true,Nat.beq_refl,Bool.true_or],fam _ w.next (Nat.le_succ _) ⟨Nat.le_succ _,fun c hc hn=>T.get_put_ne fun e=>hn (e▸hS),fun c hc hn=>T.get_put_ne Fh⟩ T.get_put_same (.inr (FH _)) (FW _)⟩
  have e1:Nat.blt i n=true:=by rw[JkF,decide_eq_true hi]
  have e2:Nat.blt 0 1=true:=rfl;have e3:Nat.ble ((n+1)*bytes) 70368744177664=true:=Nat.ble_eq_true_of_le hb;have e4:Nat.ble (n+1) 70368744177664=true:=Nat.ble_eq_true_of_le hb';rcases hs with rfl|rfl|⟨f,F,rfl,g1,g2,g3,g4,g6,g5⟩
  ·simp only[Jeh,e1,e2,e3,e4,hbv,hv,hvl,hld,hone,h2,hx,fnd.1];exact fnd.2
  ·simp only[Jeh,e1,e2,e3,e4,hbv,hv,hvl,hld,hone,h2,hx,fnd.1];exact fnd.2
  ·simp only[Jeh,e1,e2,e3,e4,hbv,hv,hvl,hld,hone,h2,hx];exact fam w f (FH _) (Frm.refl _) hx (.inl g1) g2
end Go.AE
