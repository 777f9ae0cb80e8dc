/- A part of the proof. -/
import Derived.Test.YtegdcbdicpfbpaaGreatDoorJdI
import Derived.Test.YtegdcbdicpfbpaaGreatDoorJdH
open Int renaming ofNat → Fq
open Go.IntKind renaming wrap → KZ
set_option linter.unusedVariables false
set_option linter.unusedSectionVars false
set_option linter.unusedSimpArgs false
namespace Go.AE
variable [Globs]
inductive SI where
 | code (c:ACode)
 | ops (l:List AOper)
 | endB (id:Nat)
section
variable {tab:Tab}
def KS (tab:Tab):List SI→(Fr→AW→Prop)→AExit→Fr→AW→Prop
 | [],Q=>fun e f w=>match e with
  | .exit _=>False
  | _=>Q f w
 | .endB id::s,Q=>inB id (KS tab s Q)
 | .code c::s,Q=>onw (KS tab s Q) (fun f w=>WX tab c f w (KS tab s Q))
 | .ops l::s,Q=>onw (KS tab s Q) (fun f w=>WO tab l f w (fun f w=>KS tab s Q .normal f w))
def WS (tab:Tab) (s:List SI) (fr:Fr) (aw:AW) (Q:Fr→AW→Prop):Prop:=KS tab s Q .normal fr aw
def TM (id:Nat):List SI→Option (List SI)
 | []=>none
 | .endB id'::s=>if id=id' then some s else TM id s
 | .code _::s=>TM id s
 | .ops _::s=>TM id s
theorem Nw {Q:Fr→AW→Prop}{f:Fr}{w:AW}(h:Q f w):∀{s:List SI},KS tab s Q .ret f w
 | []=>h
 | .endB id::s=>Nw (s:=s) h
 | .code c::s=>Nw (s:=s) h
 | .ops l::s=>Nw (s:=s) h
theorem M6 {id:Nat}{Q:Fr→AW→Prop}{f:Fr}{w:AW}:∀{s s':List SI},TM id s=some s'→WS tab s' f w Q→KS tab s Q (.exit id) f w
 | [],s',h,_=>by cases h
 | .endB id'::s,s',h,hw=>by
  simp only[TM]at h;split at h
  ·rename_i hb;subst hb;cases h;simp only[KS,inB,if_pos];exact hw
  ·rename_i hb;simp only[KS,inB,if_neg hb];exact M6 h hw
 | .code c::s,s',h,hw=>M6 (s:=s) h hw
 | .ops l::s,s',h,hw=>M6 (s:=s) h hw
variable {fr:Fr} {aw:AW} {Q:Fr→AW→Prop}
theorem Su (h:Q fr aw):WS tab [] fr aw Q:=h
variable {id:Nat} {s:List SI}
theorem Juq (h:WS tab s fr aw Q):WS tab (.endB id::s) fr aw Q:=h
theorem Jus (h:WS tab s fr aw Q):WS tab (.code .skip::s) fr aw Q:=by
 show WX tab .skip fr aw _;rw[Jo0];exact h
theorem JvN {a b:ACode}(h:WS tab (.code a :: .code b::s) fr aw Q):WS tab (.code (.seq a b)::s) fr aw Q:=by
 show WX tab (.seq a b) fr aw _;rw[Jq4];exact h
theorem JsD {b:ACode}(h:WS tab (.code b :: .endB id::s) fr aw Q):WS tab (.code (.block id b)::s) fr aw Q:=by
 show WX tab (.block id b) fr aw _;rw[JmO];exact h
theorem JsG {b:ACode}(h:WS tab (.code b::s) fr aw Q):WS tab (.code (.scope b)::s) fr aw Q:=by
 show WX tab (.scope b) fr aw _;rw[JmQ];exact h
variable {l:List AOper}
theorem Jq3 (h:WS tab (.ops l::s) fr aw Q):WS tab (.code (.region l)::s) fr aw Q:=by
 show WX tab (.region l) fr aw _;rw[JlB];exact h
variable {s':List SI}
theorem JoX (hp:TM id s=some s')(h:WS tab s' fr aw Q):WS tab (.code (.exit id)::s) fr aw Q:=by
 show WX tab (.exit id) fr aw _;rw[JoZ];exact M6 hp h
theorem K7 (h:Q fr aw):WS tab (.code .ret::s) fr aw Q:=by
 show WX tab .ret fr aw _;rw[JmP];exact Nw h
theorem IQ {b:ACode}(h:WS tab (.code b :: .code (.loop b)::s) fr aw Q):WS tab (.code (.loop b)::s) fr aw Q:=by
 show WX tab (.loop b) fr aw _;rw[Jut];exact h
theorem Iq {b:ACode}(I:Nat→Fr→AW→Prop)(step:∀n f w,I n f w→(∀n' f' w',n'<n→I n' f' w'→WS tab (.code (.loop b)::s) f' w' Q)→WS tab (.code b :: .code (.loop b)::s) f w Q): ∀(n:Nat) {fr:Fr} {aw:AW},I n fr aw→WS tab (.code (.loop b)::s) fr aw Q:=by
 intro n;induction n using Nat.strongRecOn with
 | ind n ih=>intro fr aw hI;exact IQ (step n fr aw hI fun n' f' w' h1 h2=>ih n' h1 h2)
variable {c:Opd}
theorem JoW {a b:ACode}{t:Bool}(hc:c.ev fr=some (.bool t))(h1:t=true→WS tab (.code a::s) fr aw Q)(h2:t=false→WS tab (.code b::s) fr aw Q):WS tab (.code (.cond c a b)::s) fr aw Q:=by
 show WX tab (.cond c a b) fr aw _;rw[JoY,hc];exact JsU h1 h2
theorem JsF {a b:ACode}(hc:c.ev fr=some (.bool true))(h1:WS tab (.code a::s) fr aw Q):WS tab (.code (.cond c a b)::s) fr aw Q:=
 JoW hc (fun _=>h1) (fun h=>by cases h)
theorem JsE {a b:ACode}(hc:c.ev fr=some (.bool false))(h1:WS tab (.code b::s) fr aw Q):WS tab (.code (.cond c a b)::s) fr aw Q:=
 JoW hc (fun h=>by cases h) (fun _=>h1)
theorem Jq2 (h:WS tab s fr aw Q):WS tab (.ops []::s) fr aw Q:=by
 show WO tab [] fr aw _;rw[Jq1];exact h
variable {o:AOper} {aw1:AW} {v:V}
theorem JvO (hw:wanted fr o.guard=some true)(ha:aop o.op fr aw=some (.val v,aw1))(h:WS tab (.ops l::s) (OB fr o.dst v) aw1 Q):WS tab (.ops (o::l)::s) fr aw Q:=by
 show WO tab (o::l) fr aw _;rw[Es,CL,hw,ha];exact h
theorem JvM (hw:wanted fr o.guard=some true)(ha:aop o.op fr aw=some (.skip,aw1))(h:WS tab (.ops l::s) (OB fr o.dst .undef) aw1 Q):WS tab (.ops (o::l)::s) fr aw Q:=by
 show WO tab (o::l) fr aw _;rw[Es,CL,hw,ha];exact h
theorem Jur (hw:wanted fr o.guard=some false)(h:WS tab (.ops l::s) (OB fr o.dst .undef) aw Q):WS tab (.ops (o::l)::s) fr aw Q:=by
 show WO tab (o::l) fr aw _;rw[Es,CL,hw];exact h
variable {args:List V}
theorem K9 {f:Nat}(hw:wanted fr o.guard=some true)(ha:aop o.op fr aw=some (.call f args,aw1))(h:WF tab f args aw1 (fun v w=>WS tab (.ops l::s) (OB fr o.dst v) w Q)):WS tab (.ops (o::l)::s) fr aw Q:=by
 show WO tab (o::l) fr aw _;rw[Es,CL,hw,ha];exact .inl h
theorem Ld {f:Nat}{K:V→AW→Prop}{af:AFun}(hc:tab.code f=some af)(hn:Nat.ble args.length af.ntmps=true)(h:WS tab [.code af.body] (IY args 0) aw (fun fr' aw'=>∃vs,Ox fr' aw' af.results=some vs∧K (Oy vs) aw')):WF tab f args aw K:=by
 refine Jup hc (Nat.le_of_ble_eq_true hn) (WX.mono h ?_);intro e f w hk;cases e with
 | normal=>exact⟨.inl rfl,hk⟩
 | ret=>exact⟨.inr rfl,hk⟩
 | exit id=>exact hk.elim
inductive RS where
 | on (s:List SI) (fr:Fr) (aw:AW)
 | none
def OU:Nat→List SI→Fr→AW→RS
 | 0,s,fr,aw=>RS.on s fr aw
 | n+1,[],fr,aw=>RS.on [] fr aw
 | n+1,.endB _::s,fr,aw=>OU n s fr aw
 | n+1,.ops []::s,fr,aw=>OU n s fr aw
 | n+1,.ops (o::l)::s,fr,aw=>match wanted fr o.guard with
  | some true=>match aop o.op fr aw with
   | some (.val v,aw1)=>OU n (.ops l::s) (OB fr o.dst v) aw1
   | some (.skip,aw1)=>OU n (.ops l::s) (OB fr o.dst .undef) aw1
   | _=>RS.on (.ops (o::l)::s) fr aw
  | some false=>OU n (.ops l::s) (OB fr o.dst .undef) aw
  | none=>RS.on (.ops (o::l)::s) fr aw
 | n+1,.code c::s,fr,aw=>match c with
  | .skip=>OU n s fr aw
  | .seq a b=>OU n (.code a :: .code b::s) fr aw
  | .block id b=>OU n (.code b :: .endB id::s) fr aw
  | .scope b=>OU n (.code b::s) fr aw
  | .region l=>OU n (.ops l::s) fr aw
  | .exit id=>match TM id s with
   | some s'=>OU n s' fr aw
   | none=>RS.on (.code (.exit id)::s) fr aw
  | .cond c a b=>match c.ev fr with
   | some (.bool true)=>OU n (.code a::s) fr aw
   | some (.bool false)=>OU n (.code b::s) fr aw
   | _=>RS.on (.code (.cond c a b)::s) fr aw
  | .loop b=>RS.on (.code (.loop b)::s) fr aw
  | .drawn l=>RS.on (.code (.drawn l)::s) fr aw
  | .ret=>RS.on [.code .ret] fr aw
theorem Sr:∀(n:Nat) {s:List SI} {fr:Fr} {aw:AW},OU n s fr aw≠RS.none
 | 0,s,fr,aw=>by intro h;cases h
 | n+1,[],fr,aw=>by intro h;cases h
 | n+1,.endB _::s,fr,aw=>Sr n
 | n+1,.ops []::s,fr,aw=>Sr n
 | n+1,.ops (o::l)::s,fr,aw=>by
  simp only[OU];split
  ·split
   ·exact Sr n
   ·exact Sr n
   ·intro h;cases h
  ·exact Sr n
  ·intro h;cases h
 | n+1,.code c::s,fr,aw=>by
  cases c with
  | skip=>exact Sr n
  | seq a b=>exact Sr n
  | block id b=>exact Sr n
  | scope b=>exact Sr n
  | region l=>exact Sr n
  | exit id =>
   simp only[OU];split
   ·exact Sr n
   ·intro h;cases h
  | cond c a b =>
   simp only[OU];split
   ·exact Sr n
   ·exact Sr n
   ·intro h;cases h
  | loop b=>intro h;cases h
  | drawn l=>intro h;cases h
  | ret=>intro h;cases h
theorem TZ {Q:Fr→AW→Prop}:∀(n:Nat) {s s':List SI} {fr fr':Fr} {aw aw':AW},OU n s fr aw=RS.on s' fr' aw'→WS tab s' fr' aw' Q→WS tab s fr aw Q
 | 0,s,s',fr,fr',aw,aw',h,hw=>by cases h;exact hw
 | n+1,[],s',fr,fr',aw,aw',h,hw=>by cases h;exact hw
 | n+1,.endB _::s,s',fr,fr',aw,aw',h,hw=>Juq (TZ n h hw)
 | n+1,.ops []::s,s',fr,fr',aw,aw',h,hw=>Jq2 (TZ n h hw)
 | n+1,.ops (o::l)::s,s',fr,fr',aw,aw',h,hw=>by
  simp only[OU]at h;split at h
  ·rename_i h1;split at h
   ·rename_i h2;exact JvO h1 h2 (TZ n h hw)
   ·rename_i h2;exact JvM h1 h2 (TZ n h hw)
   ·cases h;exact hw
  ·rename_i h1;exact Jur h1 (TZ n h hw)
  ·cases h;exact hw
 | n+1,.code c::s,s',fr,fr',aw,aw',h,hw=>by
  cases c with
  | skip=>exact Jus (TZ n h hw)
  | seq a b=>exact JvN (TZ n h hw)
  | block id b=>exact JsD (TZ n h hw)
  | scope b=>exact JsG (TZ n h hw)
  | region l=>exact Jq3 (TZ n h hw)
  | exit id =>
   simp only[OU]at h;split at h
   ·rename_i h1;exact JoX h1 (TZ n h hw)
   ·cases h;exact hw
  | cond c a b =>
   simp only[OU]at h;split at h
   ·rename_i h1;exact JsF h1 (TZ n h hw)
   ·rename_i h1;exact JsE h1 (TZ n h hw)
   ·cases h;exact hw
  | loop b=>cases h;exact hw
  | drawn l=>cases h;exact hw
  | ret=>cases h;have h0:WX tab .ret fr aw (KS tab [] Q):=hw;rw[JmP]at h0;exact K7 h0
theorem Sy {Q:Fr→AW→Prop}:∀(n:Nat) {s s':List SI} {fr fr':Fr} {aw aw':AW},OU n s fr aw=RS.on s' fr' aw'→WS tab s fr aw Q→WS tab s' fr' aw' Q
 | 0,s,s',fr,fr',aw,aw',h,hw=>by cases h;exact hw
 | n+1,[],s',fr,fr',aw,aw',h,hw=>by cases h;exact hw
 | n+1,.endB _::s,s',fr,fr',aw,aw',h,hw=>Sy n h hw
 | n+1,.ops []::s,s',fr,fr',aw,aw',h,hw=>by
  have hw:WO tab [] fr aw _:=hw;rw[Jq1]at hw;exact Sy n h hw
 | n+1,.ops (o::l)::s,s',fr,fr',aw,aw',h,hw=>by
  have hw0:WO tab (o::l) fr aw _:=hw;rw[Es,CL]at hw0;simp only[OU]at h;split at h
  ·rename_i h1;rw[h1]at hw0;split at h
   ·rename_i h2;rw[h2]at hw0;exact Sy n h hw0
   ·rename_i h2;rw[h2]at hw0;exact Sy n h hw0
   ·cases h;exact hw
  ·rename_i h1;rw[h1]at hw0;exact Sy n h hw0
  ·cases h;exact hw
 | n+1,.code c::s,s',fr,fr',aw,aw',h,hw=>by
  have hw0:WX tab c fr aw _:=hw;cases c with
  | skip=>rw[Jo0]at hw0;exact Sy n h hw0
  | seq a b=>rw[Jq4]at hw0;exact Sy n (s:=.code a :: .code b::s) h hw0
  | block id b=>rw[JmO]at hw0;exact Sy n (s:=.code b :: .endB id::s) h hw0
  | scope b=>rw[JmQ]at hw0;exact Sy n (s:=.code b::s) h hw0
  | region l=>rw[JlB]at hw0;exact Sy n (s:=.ops l::s) h hw0
  | exit id =>
   rw[JoZ]at hw0;simp only[OU]at h;split at h
   ·rename_i s1 h1;refine Sy n h ?_;clear h hw;induction s with
    | nil=>cases h1
    | cons x s ih =>
     cases x with
     | code c=>exact ih hw0 h1
     | ops l=>exact ih hw0 h1
     | endB id' =>
      simp only[TM]at h1;split at h1
      ·rename_i he;subst he;cases h1;simp only[KS,inB,if_pos]at hw0;exact hw0
      ·rename_i he;simp only[KS,inB,if_neg he]at hw0;exact ih hw0 h1
   ·cases h;exact hw
  | cond c a b =>
   rw[JoY]at hw0;simp only[OU]at h;split at h
   ·rename_i h1;rw[h1]at hw0;exact Sy n (s:=.code a::s) h hw0
   ·rename_i h1;rw[h1]at hw0;exact Sy n (s:=.code b::s) h hw0
   ·cases h;exact hw
  | loop b=>cases h;exact hw
  | drawn l=>cases h;exact hw
  | ret =>
   cases h;rw[JmP]at hw0
   have:∀{s:List SI},KS tab s Q .ret fr aw→Q fr aw:=by
    intro s;induction s with
    | nil=>intro h;exact h
    | cons x s ih=>intro h;cases x<;>exact ih h
   exact K7 (this hw0)
theorem Jo8:∃f:Nat→List SI→Fr→AW→RS,f=OU:=⟨_,rfl⟩
@[irreducible] noncomputable def eRun:Nat→List SI→Fr→AW→RS:=Classical.choose Jo8
theorem TQ:eRun=OU:=by unfold eRun;exact Classical.choose_spec Jo8
variable {fr':Fr} {aw':AW}
theorem K6 (n:Nat)(h:eRun n s fr aw=RS.on s' fr' aw')(hw:WS tab s' fr' aw' Q):WS tab s fr aw Q:=by
 rw[TQ]at h;exact TZ n h hw
theorem Fz (h:eRun 1000 s fr aw=RS.on s' fr' aw')(hw:WS tab s' fr' aw' Q):WS tab s fr aw Q:=K6 1000 h hw
theorem Lb (n:Nat){m:Nat}(h:eRun n s fr aw=eRun m s' fr' aw')(hw:WS tab s' fr' aw' Q):WS tab s fr aw Q:=by
 rw[TQ]at h;cases he:OU m s' fr' aw' with
 | on s1 f1 a1=>rw[he]at h;exact TZ n h (Sy m he hw)
 | none=>exact absurd he (Sr m)
variable {n:Nat}
theorem Js1:eRun (n+1) [] fr aw=RS.on [] fr aw:=by rw[TQ];rfl
theorem Jrv:eRun (n+1) (.endB id::s) fr aw=eRun n s fr aw:=by rw[TQ];rfl
theorem Joy:eRun (n+1) (.ops []::s) fr aw=eRun n s fr aw:=by rw[TQ];rfl
theorem Js2:eRun (n+1) (.ops (o::l)::s) fr aw=match wanted fr o.guard with
  | some true=>match aop o.op fr aw with
   | some (.val v,aw1)=>eRun n (.ops l::s) (OB fr o.dst v) aw1
   | some (.skip,aw1)=>eRun n (.ops l::s) (OB fr o.dst .undef) aw1
   | _=>RS.on (.ops (o::l)::s) fr aw
  | some false=>eRun n (.ops l::s) (OB fr o.dst .undef) aw
  | none=>RS.on (.ops (o::l)::s) fr aw:=by rw[TQ];rfl
theorem Jrx:eRun (n+1) (.code .skip::s) fr aw=eRun n s fr aw:=by rw[TQ];rfl
theorem Js4 {a b:ACode}:eRun (n+1) (.code (.seq a b)::s) fr aw=eRun n (.code a :: .code b::s) fr aw:=by rw[TQ];rfl
theorem Jp7 {b:ACode}:eRun (n+1) (.code (.block id b)::s) fr aw=eRun n (.code b :: .endB id::s) fr aw:=by rw[TQ];rfl
theorem Jp9 {b:ACode}:eRun (n+1) (.code (.scope b)::s) fr aw=eRun n (.code b::s) fr aw:=by rw[TQ];rfl
theorem Joz:eRun (n+1) (.code (.region l)::s) fr aw=eRun n (.ops l::s) fr aw:=by rw[TQ];rfl
theorem K5:eRun (n+1) (.code (.exit id)::s) fr aw=match TM id s with
   | some s'=>eRun n s' fr aw
   | none=>RS.on (.code (.exit id)::s) fr aw:=by rw[TQ];rfl
theorem Jru {a b:ACode}:eRun (n+1) (.code (.cond c a b)::s) fr aw=match c.ev fr with
   | some (.bool true)=>eRun n (.code a::s) fr aw
   | some (.bool false)=>eRun n (.code b::s) fr aw
   | _=>RS.on (.code (.cond c a b)::s) fr aw:=by rw[TQ];rfl
theorem Jrw {b:ACode}:eRun (n+1) (.code (.loop b)::s) fr aw=RS.on (.code (.loop b)::s) fr aw:=by rw[TQ];rfl
theorem Jp8 {l:List DOper}:eRun (n+1) (.code (.drawn l)::s) fr aw=RS.on (.code (.drawn l)::s) fr aw:=by rw[TQ];rfl
theorem Js3:eRun (n+1) (.code .ret::s) fr aw=RS.on [.code .ret] fr aw:=by rw[TQ];rfl
variable {α:Type} {k j:Nat} {x:α}
theorem T.get_putk {t:T α}:(t.put k x).get j=if j=k then some x else t.get j:=by
 by_cases hj:j=k
 ·subst hj;rw[if_pos rfl,get_put_same]
 ·rw[if_neg hj,get_put_ne hj]
theorem Jqs:IY [] k = .e:=rfl
theorem JoH {l:List V}:IY (v::l) k=(IY l (k+1)).put k v:=rfl
theorem Jr3 {d:Nat}:OB fr (some d) v=fr.put d v:=rfl
theorem Jr2:OB fr none v=fr:=rfl
theorem EW:wanted fr none=some true:=rfl
theorem Jv3 {t:Nat}:(Opd.tmp t).ev fr=fr.get t:=rfl
theorem Js8:(Opd.const v).ev fr=some v:=rfl
theorem JqR:Oy [v]=v:=rfl
theorem JqS {u:V}:Oy [v,u] = .tuple [v,u]:=rfl
variable {a b:Nat}
theorem JnN:Nat.beq a b=decide (a=b):=by
 cases h:Nat.beq a b with
 | true=>simp[Nat.eq_of_beq_eq_true h]
 | false=>simp[Nat.ne_of_beq_eq_false h]
theorem JnO:Nat.ble a b=decide (a≤b):=by
 cases h:Nat.ble a b with
 | true=>simp[Nat.le_of_ble_eq_true h]
 | false=>simp only[Bool.false_eq,decide_eq_false_iff_not];exact Nat.not_le_of_not_ble_eq_true (by simp[h])
theorem Nk:Nat.blt a b=decide (a<b):=by
 unfold Nat.blt;rw[JnO];rfl
theorem Iw {n:Int}(h1 : -9223372036854775808≤n)(h2:n≤9223372036854775807):KZ .i64 n=n:=by
 have h:KZ .i64 n=if n % 18446744073709551616≥9223372036854775808 then n % 18446744073709551616-18446744073709551616 else n % 18446744073709551616:=by
  simp[KZ,IntKind.bits,IntKind.signed]
 rw[h];split<;>omega
theorem M5 (h:a+b≤9223372036854775807):KZ .i64 (Fq a+Fq b)=Fq (a+b):=by
 have e1:Fq a=(a:Int):=rfl;have e2:Fq b=(b:Int):=rfl;have e3:Fq (a+b)=((a+b:Nat):Int):=rfl;rw[Iw]<;>omega
theorem Lh (h:a+1≤9223372036854775807):KZ .i64 (Fq a+1)=Fq (a+1):=M5 (b:=1) h
theorem Jqp:decide (Fq a>Fq b)=decide (b<a):=Fj
theorem Jqk:decide (Fq a≥Fq b)=decide (b≤a):=Fj
theorem Jqv:decide (Fq a≤Fq b)=decide (a≤b):=Fj
theorem Jqz:decide (Fq a<Fq b)=decide (a<b):=Fj
theorem Jqc:(Fq a==Fq b)=decide (a=b):=by
 by_cases h:a=b
 ·simp[h]
 ·simp only[h,decide_false,beq_eq_false_iff_ne,ne_eq];intro e;exact h (Int.ofNat.inj e)
theorem Juf:(Fq a != Fq b) = !decide (a=b):=by
 simp only[bne,Jqc]
theorem Jwz:decide (Fq a>(no_index (@OfNat.ofNat Int b instOfNat)))=decide (@OfNat.ofNat Nat b (instOfNatNat b)<a):=Jqp
theorem Jwx:decide (Fq a≥(no_index (@OfNat.ofNat Int b instOfNat)))=decide (@OfNat.ofNat Nat b (instOfNatNat b)≤a):=Jqk
theorem JwE:decide (Fq a≤(no_index (@OfNat.ofNat Int b instOfNat)))=decide (a≤@OfNat.ofNat Nat b (instOfNatNat b)):=Jqv
theorem JwG:decide (Fq a<(no_index (@OfNat.ofNat Int b instOfNat)))=decide (a < @OfNat.ofNat Nat b (instOfNatNat b)):=Jqz
theorem Jwv:(Fq a==(no_index (@OfNat.ofNat Int b instOfNat)))=decide (a = @OfNat.ofNat Nat b (instOfNatNat b)):=Jqc
theorem JwJ:(Fq a != (no_index (@OfNat.ofNat Int b instOfNat))) = !decide (a = @OfNat.ofNat Nat b (instOfNatNat b)):=Juf
theorem Jwy:decide ((no_index (@OfNat.ofNat Int b instOfNat))>Fq a)=decide (a < @OfNat.ofNat Nat b (instOfNatNat b)):=Jqp
theorem Jww:decide ((no_index (@OfNat.ofNat Int b instOfNat))≥Fq a)=decide (a≤@OfNat.ofNat Nat b (instOfNatNat b)):=Jqk
theorem JwF:decide ((no_index (@OfNat.ofNat Int b instOfNat))<Fq a)=decide (@OfNat.ofNat Nat b (instOfNatNat b)<a):=Jqz
theorem JwD:decide ((no_index (@OfNat.ofNat Int b instOfNat))≤Fq a)=decide (@OfNat.ofNat Nat b (instOfNatNat b)≤a):=Jqv
theorem Jmw {s:List α}:(s.drop k).take (s.length-k)=s.drop k:=FX Fj
theorem Jmx {s:List α}:(s.drop k).take (k+n-k)=(s.drop k).take n:=by rw[Nat.add_sub_cancel_left]
structure Ext (N:Nat) (w w':AW):Prop where
 le:N≤w.next
 next:w.next≤w'.next
 heap:∀b,b<N→w'.heap.get b=w.heap.get b
 fams:∀b,b<N→w'.fams.get b=w.fams.get b
theorem Ext.refl (w:AW):Ext w.next w w:=⟨FH _,FH _,fun _ _=>rfl,fun _ _=>rfl⟩
variable {N:Nat}
theorem Ext.trans {a b c:AW}(h:Ext N a b)(h':Ext N b c):Ext N a c:=
 ⟨h.le,Kk h.next h'.next,fun k hk=>(h'.heap k hk).trans (h.heap k hk),fun k hk=>(h'.fams k hk).trans (h.fams k hk)⟩
theorem Ext.mono {M:Nat}{a b:AW}(h:Ext N a b)(hm:M≤N):Ext M a b:=
 ⟨Kk hm h.le,h.next,fun k hk=>h.heap k (FK hk hm),fun k hk=>h.fams k (FK hk hm)⟩
variable {w:AW}
theorem Ext.new (h:N≤w.next)(x:Blk):Ext N w (w.new x):=
 ⟨h,Nat.le_succ _,fun b hb=>T.get_put_ne Fh,fun _ _=>rfl⟩
theorem Ext.le' {a b:AW}(h:Ext N a b):N≤b.next:=Kk h.le h.next
inductive Own (N:Nat) (w:AW):V→Nat→Nat→List V→Prop
 | nil {esz:Nat}:Own N w .nilslice esz 0 []
 | blk {b n esz:Nat} {cs:List V} {sh:Share} (hN:N≤b) (hb:b<w.next) (hx:w.heap.get b=some (.cells cs sh)) (hl:cs.length=n*esz) (he:0<esz) (hn:0<n)
   (hs:sh = .own∨sh = .lax∨∃f F,sh = .fam f∧N≤f∧f<w.next∧w.fams.get f=some F∧F.last=b∧F.floor≤w.next∧w.alive b sh=true):Own N w (.slice b 0 n (.upTo esz)) esz n cs
variable {esz:Nat} {cs:List V}
theorem Own.ext {w':AW}(h:Own N w v esz n cs){M:Nat}(hM:w.next≤M)(he:Ext M w w'):Own N w' v esz n cs:=by
 cases h with
 | nil=>exact .nil
 | blk hN hb hx hl he' hn hs =>
  refine .blk hN (FK hb he.next) ((he.heap _ Fh).trans hx) hl he' hn ?_;rcases hs with rfl|rfl|⟨f,F,rfl,h1,h2,h3,h4,h6,h5⟩
  ·exact .inl rfl
  ·exact .inr (.inl rfl)
  ·refine .inr (.inr ⟨f,F,rfl,h1,FK h2 he.next,(he.fams f Fh).trans h3,h4,Kk h6 he.next,?_⟩);simp only[AW.alive,h3,(he.fams f Fh).trans h3]at h5 ⊢;exact h5
theorem En:∀(l:List V) (n:Nat),l.length=n→Lr n l=some l
 | [],n,h=>by cases h;rfl
 | x::l,n,h=>by
  cases n with
  | zero=>cases h
  | succ n=>simp only[Lr,En l n (by simpa using h)]
theorem Mm:∀(n:Nat) (l:List V),n≤l.length→Lr n l=some (l.take n)
 | 0,l,h=>by simp[Lr]
 | n+1,[],h=>by simp at h
 | n+1,x::l,h=>by simp only[Lr,Mm n l (by simpa using h),List.take_succ_cons]
theorem Own.alive {n esz:Nat}{cs:List V}{sh:Share}(hs:sh = .own∨sh = .lax∨∃f F,sh = .fam f∧N≤f∧f<w.next∧w.fams.get f=some F∧F.last=b∧F.floor≤w.next∧w.alive b sh=true):w.alive b sh=true:=by
 rcases hs with rfl|rfl|⟨f,F,rfl,h1,h2,h3,h4,h6,h5⟩
 ·rfl
 ·rfl
 ·exact h5
theorem Own.len (h:Own N w v esz n cs):cs.length=n*esz:=by
 cases h with
 | nil=>simp
 | blk hN hb hx hl he' hn hs=>exact hl
theorem Own.load {c:Cap}(h:Own N w (.slice b 0 n c) esz n cs){o:Nat}(hk:o+k≤cs.length):w.load b o k=some ((cs.drop o).take k):=by
 cases h with
 | blk hN hb hx hl he' hn hs =>
  simp only[AW.load,hx,Own.alive (n:=n) (esz:=esz) (cs:=cs) hs];exact Mm _ _ (by simp;omega)
theorem Ah:∀{l:List V},Lv l=true↔∀v∈l,v.one=true
 | []=>by simp[Lv]
 | x::l=>by
  simp only[Lv];cases h:x.one with
  | true=>simp[Ah,h]
  | false=>simp[h]
variable {bytes:Nat} {news:List V}
theorem Own.append (h:Own N w v esz n cs)(hNw:N≤w.next)(he:0<esz)(hk:0<k)(hl:news.length=k*esz)(h1:Lv news=true)(hb:(n+k)*bytes≤70368744177664)(hb':n+k≤70368744177664): ∃v' w',w.appendV esz bytes v k news=some (v',w')∧Own N w' v' esz (n+k) (cs++news)∧Ext N w w':=by
 obtain⟨k,rfl⟩:∃m,k=m+1:=⟨k-1,by omega⟩;cases h with
 | nil =>
  refine⟨.slice w.next 0 (k+1) (.upTo esz),w.fresh news,?_,?_,Ext.new hNw _⟩
  ·simp only[AW.appendV];rw[if_pos ⟨by simpa using hb,by omega⟩]
  ·rw[FV];exact .blk hNw (FW _) T.get_put_same (by simpa using hl) he Fh (.inl rfl)
 | @blk b _ _ _ sh hN hbw hx hlen he' hn hs =>
  have hbeq:Nat.beq (0+n*esz) cs.length=true:=by rw[FV,hlen,Nat.beq_refl]
  have hin:esz=esz∧(n+(k+1))*bytes≤70368744177664∧n+(k+1)≤70368744177664∧Lv news=true∧0<esz:=⟨rfl,hb,hb',h1,he⟩
  have fam:∀(u:AW) (f:Nat) (F:Fam),u.heap.get b=some (.cells cs (.fam f))→N≤f→f<u.next→b<u.next→N≤u.next→u.fams.get f=some F→F.last=b→F.floor≤u.next→u.alive b (.fam f)=true→∃v' w',u.appendFam esz b 0 n (k+1) news=some (v',w')∧Own N w' v' esz (n+(k+1)) (cs++news)∧Ext N u w':=by
   intro u f F hx hNf hfu hbu hNu hF hlast hfl hal;refine⟨.slice u.next 0 (n+(k+1)) (.upTo esz),u.grow b f F (cs.drop 0++news),?_,?_,?_⟩
   ·simp only[AW.appendFam,hx,hal,hF,hbeq]
   ·have hg:(u.grow b f F (cs.drop 0++news)).fams.get f=some ⟨F.keep,F.floor,u.next⟩:=by
     simp only[AW.grow,T.get_putk,if_true,hlast,Nat.beq_refl]
    refine .blk hNu (FW _) (sh:=.fam f) ?_ ?_ he Fh (.inr (.inr ⟨f,⟨F.keep,F.floor,u.next⟩,rfl,hNf,Nat.lt_succ_of_lt hfu,hg,rfl,Nat.le_succ_of_le hfl,?_⟩))
    ·simp only[AW.grow,T.get_putk,if_true,FZ]
    ·rw[FE,hlen,hl,Nat.add_mul n]
    ·simp only[AW.alive,hg,Bool.or_eq_true];exact .inr (Nat.ble_eq_true_of_le hfl)
   ·refine⟨hNu,Nat.le_succ _,fun c hc=>?_,fun c hc=>?_⟩
    ·exact T.get_put_ne Fh
    ·exact T.get_put_ne Fh
  have fnd:sh = .own∨sh = .lax→∃v' w',(w.found b cs).appendFam esz b 0 n (k+1) news=some (v',w')∧Own N w' v' esz (n+(k+1)) (cs++news)∧Ext N w w':=by
   intro _
   obtain⟨v',w',q1,q2,q3⟩:=fam (w.found b cs) w.next ⟨b,w.next+1,b⟩ T.get_put_same hNw (FW _) (Nat.lt_succ_of_lt hbw) (Nat.le_succ_of_le hNw) T.get_put_same rfl (FH _)
    (by simp only[AW.alive,AW.found,T.get_putk,if_true,Nat.beq_refl,Bool.true_or])
   refine⟨v',w',q1,q2,Ext.trans ⟨hNw,Nat.le_succ _,fun c hc=>?_,fun c hc=>?_⟩ q3⟩
   ·exact T.get_put_ne Fh
   ·exact T.get_put_ne Fh
  have happ:w.appendV esz bytes (.slice b 0 n (.upTo esz)) (k+1) news=w.appendUp esz b 0 n (k+1) news:=if_pos hin;rw[happ];simp only[AW.appendUp,hx,hbeq];rcases hs with rfl|rfl|⟨f,F,rfl,g1,g2,g3,g4,g6,g5⟩
  ·exact fnd (.inl rfl)
  ·exact fnd (.inr rfl)
  ·exact fam w f F hx g1 g2 hbw hNw g3 g4 g6 g5
def JsY:List DOper→Fr→AW→Option Fr
 | [],fr,_=>some fr
 | d::l,fr,aw=>match wanted (Om fr d.hide) d.op.guard with
  | some true=>match aop d.op.op (Om fr d.hide) aw with
   | some (.val v,_)=>JsY l (OB fr d.op.dst v) aw
   | _=>none
  | some false=>JsY l (OB fr d.op.dst .undef) aw
  | none=>none
theorem Pass.len {l:List DOper}{st:List Stp}:Pass tab l fr aw st fr' aw'→st.length=l.length:=by
 induction l generalizing fr aw st with
 | nil=>intro h;cases h;rfl
 | cons d l ih=>intro h;cases h;rename_i h1 h2;simp[ih h2]
theorem JuZ {k:IntKind}:idx (.int k (no_index (@OfNat.ofNat Int n instOfNat)))=some (@OfNat.ofNat Nat n (instOfNatNat n)):=rfl
theorem Ju0 {k:IntKind}:idx (.int k (Fq n))=some n:=rfl
theorem Tj {c:Cap}(hn:0<n)(hl:cs.length=n*esz):(w.fresh cs).elems esz (.slice w.next 0 n c)=some (n,cs):=by
 obtain⟨n,rfl⟩:∃m,n=m+1:=⟨n-1,by omega⟩;simp only[AW.elems,AW.load,AW.fresh,AW.new,T.get_putk,if_true,AW.alive,FZ];rw[En cs _ hl]
theorem Own.push (h:Own N w v esz n cs)(hNw:N≤w.next)(he:0<esz)(hl:news.length=esz)(h1:Lv news=true)(hb:(n+1)*bytes≤70368744177664)(hb':n+1≤70368744177664): ∃v' w',(w.fresh news).appendV esz bytes v 1 news=some (v',w')∧Own N w' v' esz (n+1) (cs++news)∧Ext N w w':=by
 have hx:Ext w.next w (w.fresh news):=Ext.new (FH _) _;obtain⟨v',w',h2,h3,h4⟩:=(h.ext (FH _) hx).append (news:=news) (bytes:=bytes) (k:=1) (Kk hNw hx.next) he Fh Fh h1 hb hb';exact⟨v',w',h2,h3,(hx.mono hNw).trans h4⟩
theorem JlR {α:Type}{enc:α→List V}{sz:Nat}(h:∀x,(enc x).length=sz):∀(l:List α) (i:Nat),(l.flatMap enc).drop (i*sz)=(l.drop i).flatMap enc
 | [],i=>by simp
 | x::l,0=>by simp
 | x::l,i+1=>by
  have e:(i+1)*sz=sz+i*sz:=by rw[Nat.add_mul,Nat.one_mul,KA]
  rw[Kz,e,←List.drop_drop,List.drop_append_of_le_length (by rw[h x];exact FH _)];have:List.drop sz (enc x)=[]:=List.drop_eq_nil_of_le (by rw[h x];exact FH _);rw[this,List.nil_append,JlR h l i,List.drop_succ_cons]
theorem Qr {α:Type}{enc:α→List V}{sz:Nat}(h:∀x,(enc x).length=sz):∀(l:List α),(l.flatMap enc).length=l.length*sz
 | []=>by simp
 | x::l=>by rw[Kz,FE,h x,Qr h l,FC,Nat.add_mul,Nat.one_mul,KA]
variable {enc:α→List V}
theorem Dt {sz:Nat}(h:∀x,(enc x).length=sz){l:List α}{i:Nat}(hx:l[i]? = some x)(hj:j+k≤sz):(((l.flatMap enc).drop (0+i*sz+j)).take k)=((enc x).drop j).take k:=by
 have hi:i<l.length:=(List.getElem?_eq_some_iff.1 hx).1
 have hd:l.drop i=x::l.drop (i+1):=by
  rw[FL hi];rw[FB hi]at hx;rw[FY hx]
 rw[FV,←List.drop_drop,JlR h,hd,Kz,List.drop_append_of_le_length (by rw[h x];omega),List.take_append_of_le_length (by rw[Ki,h x];omega)]
theorem Own.part {sz:Nat}{c:Cap}{l:List α}(h:∀x,(enc x).length=sz)(ho:Own N w (.slice b 0 n c) sz n (l.flatMap enc)){i:Nat}(hx:l[i]? = some x)(hj:j+k≤sz): w.load b (0+i*sz+j) k=some (((enc x).drop j).take k):=by
 have hi:i<l.length:=(List.getElem?_eq_some_iff.1 hx).1;rw[ho.load ?_,Dt h hx hj];rw[Qr h]
 have:i*sz+sz≤l.length*sz:=by
  have:(i+1)*sz≤l.length*sz:=Nat.mul_le_mul_right _ hi
  rwa [Nat.add_mul,Nat.one_mul]at this
 omega
theorem Own.inv (h:Own N w v esz n cs):(v = .nilslice∧n=0∧cs=[])∨∃b,v = .slice b 0 n (.upTo esz)∧0<n:=by
 cases h with
 | nil=>exact .inl ⟨rfl,rfl,rfl⟩
 | blk hN hb hx hl he hn hs=>exact .inr ⟨_,rfl,hn⟩
end
section
variable [Globs]
theorem Jtx:lenV .nilslice=some 0:=rfl
theorem Jqx {b o n:Nat}{c:Cap}:lenV (.slice b o n c)=some n:=rfl
attribute [go_sem] Jtx Jqx Js1 Jrv Joy Js2 Jrx Js4 Jp7 Jp9 Joz Jru Jrw Jp8 Js3 JsY Om T.get_delk Be Option.getD_none Option.getD_some Nat.le_refl and_self true_and and_true Jmw Jmx Jqp Jqk Jqv Jqz Jqc Juf Jwz Jwx JwE JwG Jwv JwJ Jwy Jww JwD JwF Bool.true_and Bool.false_and TM EW wanted aop Jv3 Js8 evs JoH Jqs Jr3 Jr2 AE.valOf T.get_putk T.get_e JuZ Ju0 List.getElem?_cons_zero List.getElem?_cons_succ D9 NK aUn beq_self_eq_true Bool.true_beq Bool.false_beq Bool.not_true Bool.not_false List.append_nil List.nil_append List.cons_append JnN JnO Nk decide_true decide_false Ox JqR JqS
attribute [go_sem] Nat.reduceAdd Nat.reduceLT Nat.reduceEqDiff reduceIte reduceCtorEq Int.reduceBEq Int.reduceBNe Int.reduceLT Int.reduceLE Int.reduceGT Int.reduceGE Int.reduceEq Int.reduceAdd Int.reduceSub Int.reduceMul Nat.reduceMul Nat.reduceSub Nat.reduceLeDiff
end
end Go.AE
namespace Go.Proofs.YtegdcbdicpfbpaaGreatDoor
open Go.AE Delphi
variable {tab:Tab}
theorem Jms {g s:List Nat}:g.isPrefixOf s=(decide (g.length≤s.length)&&eqL (s.take g.length) g):=by
 have e:∀(a b:List Nat),eqL a b=decide (a=b):=fun a b=>by
  cases h:eqL a b with
  | true=>simp[eqL_iff.1 h]
  | false=>simp only[Bool.false_eq,decide_eq_false_iff_not];intro hh;rw[eqL_iff.2 hh]at h;cases h
 rw[Bool.eq_iff_iff,List.isPrefixOf_iff_prefix,e];simp only[FT,decide_eq_true_eq];constructor
 ·intro h;exact⟨h.length_le,(List.prefix_iff_eq_take.1 h).symm⟩
 ·intro h;exact List.prefix_iff_eq_take.2 h.2.symm
def Sj (w:Wd):List V:=[.int .i64 (Fq w.kind),.str w.text,.int .i64 (Fq w.at')]
def DJ (l:List Wd):List V:=l.flatMap Sj
theorem Jiy (l:List Wd)(w:Wd):DJ (l++[w])=DJ l++Sj w:=by simp[DJ]
section
open Go.AE Delphi
variable {tab:Tab}
variable {c:Nat} {aw:AW} {K:V→AW→Prop}
theorem Rw (C:Codes tab)(h:K (.bool (Ir c)) aw):WF tab YN [.int .u8 (Fq c)] aw K:=by
 refine Ld C.WP rfl ?_;unfold Ir at h;cases h1:decide (97≤c)<;>rw[h1]at h<;>refine K6 1000 (by simp only[go_sem,K5,WN,h1];rfl) ?_<;>refine K7 ⟨_,by simp only[go_sem,K5,WN];rfl,?_⟩<;>exact h
theorem Ej (C:Codes tab)(h:K (.bool (LX c)) aw):WF tab Zi [.int .u8 (Fq c)] aw K:=by
 refine Ld C.WR rfl ?_;unfold LX at h;cases h1:decide (48≤c)<;>rw[h1]at h<;>refine K6 1000 (by simp only[go_sem,K5,WQ,h1];rfl) ?_<;>refine K7 ⟨_,by simp only[go_sem,K5,WQ];rfl,?_⟩<;>exact h
theorem Jme (C:Codes tab)(h:K (.bool (Db c)) aw):WF tab VY [.int .u8 (Fq c)] aw K:=by
 refine Ld C.WU rfl ?_;unfold Db at h;cases h1:decide (65≤c)<;>rw[h1]at h<;>refine K6 1000 (by simp only[go_sem,K5,WT,h1];rfl) ?_<;>refine K7 ⟨_,by simp only[go_sem,K5,WT];rfl,?_⟩<;>exact h
variable {t:List Nat} {S:List SI} {Q:Fr→AW→Prop} {fr:Fr} {k0:Nat}
theorem rl0 (C:Codes tab)(hs:(c::t).length≤4611686018427387904)(hk0':k0≤(c::t).length)(f0:fr.get 0=some (.str (c::t)))(f4:fr.get 4=some (.int .i64 (Fq k0)))(h:∀f,f.get 0=some (.str (c::t))→f.get 4=some (.int .i64 (Fq ((k0+(((c::t).drop k0).takeWhile OH).length))))→WS tab S f aw Q): WS tab (.code (.loop Yh) :: .endB 1::S) fr aw Q:=by
 refine Iq (fun n f w=>∃k,f.get 0=some (.str (c::t))∧f.get 4=some (.int .i64 (Fq k))∧k0+(((c::t).drop k0).takeWhile OH).length=k+(((c::t).drop k).takeWhile OH).length∧k≤(c::t).length∧n=(c::t).length-k∧w=aw) ?_ ((c::t).length-k0) ⟨k0,f0,f4,rfl,hk0',rfl,rfl⟩;rintro n f w ⟨k,f0,f4,hk,hkl,rfl,rfl⟩ ih;generalize hS:c::t=s at *;by_cases hlt:k<s.length
 ·obtain⟨d,hc⟩:∃d,s[k]? = some d:=⟨_,FB hlt⟩
  have hd:s.drop k=d::s.drop (k+1):=by
   rw[FL hlt];rw[FB hlt]at hc;rw[FY hc]
  have hw:KZ .i64 (Fq k+1)=Fq (k+1):=Lh Fh
  have yes:OH d=true→∀f',f'.get 0=some (.str s)→f'.get 4=some (.int .i64 (Fq (k+1)))→WS tab (.code (.loop Yh) :: .endB 1::S) f' w Q:=by
   intro hp f' g0 g4;refine ih (s.length-(k+1)) _ _ Fh ⟨k+1,g0,g4,?_,by omega,rfl,rfl⟩;rw[hk,hd,List.takeWhile_cons_of_pos hp,FC];omega
  have no:OH d=false→∀f',f'.get 0=some (.str s)→f'.get 4=some (.int .i64 (Fq k))→WS tab S f' w Q:=by
   intro hp f' g0 g4;refine h f' g0 ?_;rw[hk,hd,List.takeWhile_cons_of_neg (by simp[hp])];simpa using g4
  refine K6 1000 (by simp only[go_sem,K5,Yh,f0,f4,hlt,hc];rfl) ?_;refine K9 (by simp only[go_sem,K5]) (by simp only[go_sem,K5];rfl) ?_;refine Rw C ?_;cases q1:Ir d with
  | true =>
   refine K6 1000 (by simp only[go_sem,K5,f4,hw];rfl) ?_;exact yes (by simp[OH,q1]) _ (by simp only[go_sem,K5,f0]<;>rfl) (by simp only[go_sem,K5]<;>rfl)
  | false =>
   refine K6 1000 (by simp only[go_sem,K5,f0,f4,hc];rfl) ?_;refine K9 (by simp only[go_sem,K5]) (by simp only[go_sem,K5];rfl) ?_;refine Ej C ?_;cases q2:LX d with
   | true =>
    refine K6 1000 (by simp only[go_sem,K5,f4,hw];rfl) ?_;exact yes (by simp[OH,q1,q2]) _ (by simp only[go_sem,K5,f0]<;>rfl) (by simp only[go_sem,K5]<;>rfl)
   | false =>
    by_cases h95:d=95
    ·refine K6 1000 (by simp only[go_sem,K5,f0,f4,hc,h95,hw];rfl) ?_;exact yes (by simp[OH,q1,q2,h95]) _ (by simp only[go_sem,K5,f0]<;>rfl) (by simp only[go_sem,K5]<;>rfl)
    ·refine Lb 1000 (by simp only[go_sem,K5,f0,f4,hc,h95];rfl) ?_;exact no (by simp[OH,q1,q2,h95]) _ (by simp only[go_sem,K5,f0]<;>rfl) (by simp only[go_sem,K5,f4]<;>rfl)
 ·refine Lb 1000 (by simp only[go_sem,K5,Yh,f0,f4,hlt];rfl) ?_;refine h _ (by simp only[go_sem,K5,f0]<;>rfl) ?_;have:k=s.length:=Fh;subst this;rw[hk,List.drop_length];exact (by simp only[go_sem,K5,f4]<;>rfl)
theorem rl1 (C:Codes tab)(hs:(c::t).length≤4611686018427387904)(hk0':k0≤(c::t).length)(f0:fr.get 0=some (.str (c::t)))(f4:fr.get 4=some (.int .i64 (Fq k0)))(h:∀f,f.get 0=some (.str (c::t))→f.get 4=some (.int .i64 (Fq ((k0+(((c::t).drop k0).takeWhile BV).length))))→WS tab S f aw Q): WS tab (.code (.loop Yi) :: .endB 3::S) fr aw Q:=by
 refine Iq (fun n f w=>∃k,f.get 0=some (.str (c::t))∧f.get 4=some (.int .i64 (Fq k))∧k0+(((c::t).drop k0).takeWhile BV).length=k+(((c::t).drop k).takeWhile BV).length∧k≤(c::t).length∧n=(c::t).length-k∧w=aw) ?_ ((c::t).length-k0) ⟨k0,f0,f4,rfl,hk0',rfl,rfl⟩;rintro n f w ⟨k,f0,f4,hk,hkl,rfl,rfl⟩ ih;generalize hS:c::t=s at *;by_cases hlt:k<s.length
 ·obtain⟨d,hc⟩:∃d,s[k]? = some d:=⟨_,FB hlt⟩
  have hd:s.drop k=d::s.drop (k+1):=by
   rw[FL hlt];rw[FB hlt]at hc;rw[FY hc]
  have hw:KZ .i64 (Fq k+1)=Fq (k+1):=Lh Fh
  have yes:BV d=true→∀f',f'.get 0=some (.str s)→f'.get 4=some (.int .i64 (Fq (k+1)))→WS tab (.code (.loop Yi) :: .endB 3::S) f' w Q:=by
   intro hp f' g0 g4;refine ih (s.length-(k+1)) _ _ Fh ⟨k+1,g0,g4,?_,by omega,rfl,rfl⟩;rw[hk,hd,List.takeWhile_cons_of_pos hp,FC];omega
  have no:BV d=false→∀f',f'.get 0=some (.str s)→f'.get 4=some (.int .i64 (Fq k))→WS tab S f' w Q:=by
   intro hp f' g0 g4;refine h f' g0 ?_;rw[hk,hd,List.takeWhile_cons_of_neg (by simp[hp])];simpa using g4
  refine K6 1000 (by simp only[go_sem,K5,Yi,f0,f4,hlt,hc];rfl) ?_;refine K9 (by simp only[go_sem,K5]) (by simp only[go_sem,K5];rfl) ?_;refine Rw C ?_;cases q1:Ir d with
  | true =>
   refine K6 1000 (by simp only[go_sem,K5,f4,hw];rfl) ?_;exact yes (by simp[BV,OH,q1]) _ (by simp only[go_sem,K5,f0]<;>rfl) (by simp only[go_sem,K5]<;>rfl)
  | false =>
   refine K6 1000 (by simp only[go_sem,K5,f0,f4,hc];rfl) ?_;refine K9 (by simp only[go_sem,K5]) (by simp only[go_sem,K5];rfl) ?_;refine Jme C ?_;cases q2:Db d with
   | true =>
    refine K6 1000 (by simp only[go_sem,K5,f4,hw];rfl) ?_;exact yes (by simp[BV,OH,q1,q2]) _ (by simp only[go_sem,K5,f0]<;>rfl) (by simp only[go_sem,K5]<;>rfl)
   | false =>
    refine K6 1000 (by simp only[go_sem,K5,f0,f4,hc];rfl) ?_;refine K9 (by simp only[go_sem,K5]) (by simp only[go_sem,K5];rfl) ?_;refine Ej C ?_;cases q3:LX d with
    | true =>
     refine K6 1000 (by simp only[go_sem,K5,f4,hw];rfl) ?_;exact yes (by simp[BV,OH,q1,q2,q3]) _ (by simp only[go_sem,K5,f0]<;>rfl) (by simp only[go_sem,K5]<;>rfl)
    | false =>
     by_cases h95:d=95
     ·refine K6 1000 (by simp only[go_sem,K5,f0,f4,hc,h95,hw];rfl) ?_;exact yes (by simp[BV,OH,q1,q2,q3,h95]) _ (by simp only[go_sem,K5,f0]<;>rfl) (by simp only[go_sem,K5]<;>rfl)
     ·refine Lb 1000 (by simp only[go_sem,K5,f0,f4,hc,h95];rfl) ?_;exact no (by simp[BV,OH,q1,q2,q3,h95]) _ (by simp only[go_sem,K5,f0]<;>rfl) (by simp only[go_sem,K5,f4]<;>rfl)
 ·refine Lb 1000 (by simp only[go_sem,K5,Yi,f0,f4,hlt];rfl) ?_;refine h _ (by simp only[go_sem,K5,f0]<;>rfl) ?_;have:k=s.length:=Fh;subst this;rw[hk,List.drop_length];exact (by simp only[go_sem,K5,f4]<;>rfl)
theorem rl3 (C:Codes tab)(hs:(c::t).length≤4611686018427387904)(hk0':k0≤(c::t).length)(f0:fr.get 0=some (.str (c::t)))(f4:fr.get 4=some (.int .i64 (Fq k0)))(h:∀f,f.get 0=some (.str (c::t))→f.get 4=some (.int .i64 (Fq ((k0+(((c::t).drop k0).takeWhile LX).length))))→WS tab S f aw Q): WS tab (.code (.loop Yj) :: .endB 5::S) fr aw Q:=by
 refine Iq (fun n f w=>∃k,f.get 0=some (.str (c::t))∧f.get 4=some (.int .i64 (Fq k))∧k0+(((c::t).drop k0).takeWhile LX).length=k+(((c::t).drop k).takeWhile LX).length∧k≤(c::t).length∧n=(c::t).length-k∧w=aw) ?_ ((c::t).length-k0) ⟨k0,f0,f4,rfl,hk0',rfl,rfl⟩;rintro n f w ⟨k,f0,f4,hk,hkl,rfl,rfl⟩ ih;generalize hS:c::t=s at *;by_cases hlt:k<s.length
 ·obtain⟨d,hc⟩:∃d,s[k]? = some d:=⟨_,FB hlt⟩
  have hd:s.drop k=d::s.drop (k+1):=by
   rw[FL hlt];rw[FB hlt]at hc;rw[FY hc]
  have hw:KZ .i64 (Fq k+1)=Fq (k+1):=Lh Fh
  have yes:LX d=true→∀f',f'.get 0=some (.str s)→f'.get 4=some (.int .i64 (Fq (k+1)))→WS tab (.code (.loop Yj) :: .endB 5::S) f' w Q:=by
   intro hp f' g0 g4;refine ih (s.length-(k+1)) _ _ Fh ⟨k+1,g0,g4,?_,by omega,rfl,rfl⟩;rw[hk,hd,List.takeWhile_cons_of_pos hp,FC];omega
  have no:LX d=false→∀f',f'.get 0=some (.str s)→f'.get 4=some (.int .i64 (Fq k))→WS tab S f' w Q:=by
   intro hp f' g0 g4;refine h f' g0 ?_;rw[hk,hd,List.takeWhile_cons_of_neg (by simp[hp])];simpa using g4
  refine K6 1000 (by simp only[go_sem,K5,Yj,f0,f4,hlt,hc];rfl) ?_;refine K9 (by simp only[go_sem,K5]) (by simp only[go_sem,K5];rfl) ?_;refine Ej C ?_;cases q1:LX d with
  | true =>
   refine K6 1000 (by simp only[go_sem,K5,f4,hw];rfl) ?_;exact yes (by simp[q1]) _ (by simp only[go_sem,K5,f0]<;>rfl) (by simp only[go_sem,K5]<;>rfl)
  | false =>
   refine Lb 1000 (by simp only[go_sem,K5];rfl) ?_;exact no (by simp[q1]) _ (by simp only[go_sem,K5,f0]<;>rfl) (by simp only[go_sem,K5,f4]<;>rfl)
 ·refine Lb 1000 (by simp only[go_sem,K5,Yj,f0,f4,hlt];rfl) ?_;refine h _ (by simp only[go_sem,K5,f0]<;>rfl) ?_;have:k=s.length:=Fh;subst this;rw[hk,List.drop_length];exact (by simp only[go_sem,K5,f4]<;>rfl)
end
section
open Go.AE Delphi
variable {tab:Tab}
def twos:Fx:=[[58,45],[33,61],[60,61]]
def ones:Fx:=[[40],[41],[44],[46],[33],[61],[60]]
theorem JqX (p:List Nat→Bool):signs.find? p=(match twos.find? p with|some g=>some g|none=>ones.find? p):=by
 show (twos++ones).find? p=_;rw[List.find?_append];cases twos.find? p<;>rfl
def isOne (c:Nat):Bool:=decide (c=40)||(decide (c=41)||(decide (c=44)||(decide (c=46)||(decide (c=33)||(decide (c=61)||decide (c=60))))))
theorem JrW (c:Nat)(t:List Nat):ones.find? (fun g=>g.isPrefixOf (c::t))=if isOne c then some [c]else none:=by
 simp only[ones,isOne];by_cases h1:c=40
 ·subst h1;rfl
 by_cases h2:c=41
 ·subst h2;rfl
 by_cases h3:c=44
 ·subst h3;rfl
 by_cases h4:c=46
 ·subst h4;rfl
 by_cases h5:c=33
 ·subst h5;rfl
 by_cases h6:c=61
 ·subst h6;rfl
 by_cases h7:c=60
 ·subst h7;rfl
 have e:∀n:Nat,¬c=n→(n==c)=false:=fun n hn=>beq_eq_false_iff_ne.2 (Ne.symm hn);simp[List.find?,List.isPrefixOf,h1,h2,h3,h4,h5,h6,h7,e 40 h1,e 41 h2,e 44 h3,e 46 h4,e 33 h5,e 61 h6,e 60 h7]
theorem Jld {g s:List Nat}(hg:g.length=2):g.isPrefixOf s=(decide (2≤s.length)&&eqL (s.take 2) g):=by
 rw[Jms,hg]
def Jtq:ACode:=(.seq (.region [Qo 112 (.buildSlice 3 [(.str []),(.str []),(.str [])] [(0,1,(.const (.str [58,45]))),(1,1,(.const (.str [33,61]))),(2,1,(.const (.str [60,61])))]),Qm 5 112]) (.seq (QR [KJ 6 0] (.block 7 (.loop ZB))) (.seq (QR [Qm 129 0,Qo 130 (.indexStr (Qu 129) (Qi 0))] (.block 9 Jx)) (QR [KJ 2 0,KJ 3 0] .ret))))
set_option maxRecDepth 10000 in
theorem JtZ (C:Codes tab){c:Nat}{t:List Nat}{aw:AW}{K:V→AW→Prop}(hs:(c::t).length≤4611686018427387904)(h:∀kind aw',((LA (c::t)).2≠0→kind=(LA (c::t)).1)→Ext aw.next aw aw'→K (.tuple [.int .i64 (Fq (LA (c::t)).2),.int .i64 (Fq kind)]) aw'):WF tab GJ [.str (c::t)] aw K:=by
 refine Ld C.X9 rfl ?_;have h1l:1≤(c::t).length:=Fj;refine K6 1000 (by simp only[go_sem,K5,Ja,P4];rfl) ?_;refine K9 (by simp only[go_sem,K5]) (by simp only[go_sem,K5];rfl) ?_;refine Rw C ?_;cases h1:Ir c with
 | true =>
  have hl:LA (c::t)=(1,1+(t.takeWhile OH).length):=by
   have:OH c=true:=by simp[OH,h1]
   simp only[LA,h1,if_true,List.takeWhile_cons_of_pos this,FC,KA]
  rw[hl]at h;refine K6 1000 (by simp only[go_sem,K5];rfl) ?_;refine rl0 C hs h1l (by simp only[go_sem,K5]<;>rfl) (by simp only[go_sem,K5]<;>rfl) ?_;intro f f0 f4;simp only[List.drop_succ_cons,FZ]at f4;refine K6 1000 (by simp only[go_sem,K5,f4];rfl) ?_;refine K7 ⟨_,by simp only[go_sem,K5,Ja];rfl,?_⟩;exact h 1 aw (fun _=>rfl) (Ext.refl aw)
 | false =>
  refine K6 1000 (by simp only[go_sem,K5,P3];rfl) ?_;refine K9 (by simp only[go_sem,K5]) (by simp only[go_sem,K5];rfl) ?_;refine Jme C ?_;cases h2:Db c with
  | true =>
   have hl:LA (c::t)=(2,1+(t.takeWhile BV).length):=by
    have:BV c=true:=by simp[BV,h2]
    simp only[LA,h1,h2,if_true,FM,if_false,List.takeWhile_cons_of_pos this,FC,KA]
   rw[hl]at h;refine K6 1000 (by simp only[go_sem,K5];rfl) ?_;refine rl1 C hs h1l (by simp only[go_sem,K5]<;>rfl) (by simp only[go_sem,K5]<;>rfl) ?_;intro f f0 f4;simp only[List.drop_succ_cons,FZ]at f4;refine K6 1000 (by simp only[go_sem,K5,f4];rfl) ?_;refine K7 ⟨_,by simp only[go_sem,K5,Ja];rfl,?_⟩;exact h 2 aw (fun _=>rfl) (Ext.refl aw)
  | false =>
   refine K6 1000 (by simp only[go_sem,K5,P2];rfl) ?_;refine K9 (by simp only[go_sem,K5]) (by simp only[go_sem,K5];rfl) ?_;refine Ej C ?_;cases h3:LX c with
   | true =>
    have h45:¬c=45:=by intro he;subst he;revert h3;decide
    have hd:(LX c||decide (c=45))=true:=by simp[h3]
    have hl:LA (c::t)=(3,if c=48 then 1 else 1+(t.takeWhile LX).length):=by
     simp only[LA,h1,h2,hd,if_true,FM,if_false,Prod.mk.injEq,true_and];unfold Cc;simp only[List.head?_cons,FQ,h45,if_false,FZ,List.takeWhile_cons_of_pos h3,FC,Kg];rw[if_neg Fh,if_neg Fh];split
     ·rfl
     ·omega
    rw[hl]at h;by_cases h48:c=48
    ·refine K6 1000 (by simp only[go_sem,K5,Yk,h45,h48];rfl) ?_;refine K7 ⟨_,by simp only[go_sem,K5,Ja];rfl,?_⟩;rw[if_pos h48]at h;exact h 3 aw (fun _=>rfl) (Ext.refl aw)
    ·refine K6 1000 (by simp only[go_sem,K5,Yk,h45,h48];rfl) ?_;refine rl3 C hs h1l (by simp only[go_sem,K5]<;>rfl) (by simp only[go_sem,K5]<;>rfl) ?_;intro f f0 f4;simp only[List.drop_succ_cons,FZ]at f4;refine K6 1000 (by simp only[go_sem,K5,f4];rfl) ?_;refine K7 ⟨_,by simp only[go_sem,K5,Ja];rfl,?_⟩;rw[if_neg h48]at h;exact h 3 aw (fun _=>rfl) (Ext.refl aw)
   | false =>
    have hsg:∀fr:Fr,fr.get 0=some (.str (c::t))→((LA (c::t)).2=match signs.find? (fun g=>g.isPrefixOf (c::t))with|some g=>g.length|none=>0)→((LA (c::t)).2≠0→(LA (c::t)).1=4)→WS tab [.code Jtq] fr aw (fun fr' aw'=>∃vs,Ox fr' aw' Ja.results=some vs∧K (Oy vs) aw'):=by
     intro fr f0 hn hk;rw[JqX,JrW]at hn;refine K6 1000 (by simp only[go_sem,K5,Jtq,Lg,Lj,V.cells,FC,FD,over];rfl) ?_
     have hload:∀(i:Nat) (g:List Nat),twos[i]? = some g→(aw.fresh [.str [58,45],.str [33,61],.str [60,61]]).load aw.next (0+i*1) 1=some [.str g]:=by
      intro i g hg;have hi:i<3:=(List.getElem?_eq_some_iff.1 hg).1;simp only[AW.load,AW.fresh,AW.new,T.get_putk,if_true,AW.alive,FV,KC]
      match i,hi with
      | 0,_|1,_|2,_=>simp[twos]at hg;subst hg;rfl
     have hext:Ext aw.next aw (aw.fresh [.str [58,45],.str [33,61],.str [60,61]]):=Ext.new (FH _) _;generalize aw.fresh [.str [58,45],.str [33,61],.str [60,61]]=aw1 at hload hext;refine Iq (fun n f w=>∃i,f.get 0=some (.str (c::t))∧f.get 5=some (.slice aw.next 0 3 (.known 3))∧f.get 6=some (.int .i64 (Fq i))∧twos.find? (fun g=>g.isPrefixOf (c::t))=(twos.drop i).find? (fun g=>g.isPrefixOf (c::t))∧i≤3∧n=3-i∧w=aw1) ?_ 3 ⟨0,(by simp only[go_sem,K5,f0]<;>rfl),(by simp only[go_sem,K5]<;>rfl),(by simp only[go_sem,K5]<;>rfl),rfl,by omega,rfl,rfl⟩;rintro n f w ⟨i,f0,f5,f6,hf,hi,rfl,rfl⟩ ih;by_cases hlt:i<3
     ·obtain⟨g,hg⟩:∃g,twos[i]? = some g:=⟨_,FB (by simpa[twos]using hlt)⟩
      have hd:twos.drop i=g::twos.drop (i+1):=by
       have hl:i<twos.length:=by simpa[twos]using hlt
       rw[FL hl];rw[FB hl]at hg;rw[FY hg]
      have hg2:g.length=2:=by
       have hm:=FI hg;simp only[twos,FJ,F3,or_false]at hm;rcases hm with rfl|rfl|rfl<;>rfl
      have hld:=hload i g hg;have hw:KZ .i64 (Fq i+1)=Fq (i+1):=Lh Fh
      have next:g.isPrefixOf (c::t)=false→∀f',f'.get 0=some (.str (c::t))→f'.get 5=some (.slice aw.next 0 3 (.known 3))→f'.get 6=some (.int .i64 (Fq (i+1)))→WS tab _ f' w _:=fun hp f' g0 g5 g6 =>
       ih (3-(i+1)) f' w Fh ⟨i+1,g0,g5,g6,by rw[hf,hd,List.find?_cons_of_neg (by simp[hp])],by omega,rfl,rfl⟩
      by_cases hl2:2≤(c::t).length
      ·have hz:0≤2:=Fh;have hp:=Jld (g:=g) (s:=c::t) hg2;rw[decide_eq_true hl2,Bool.true_and]at hp;cases he:eqL ((c::t).take 2) g with
       | true =>
        rw[he]at hp;refine K6 1000 (by simp only[go_sem,K5,ZB,X8,f0,f5,f6,hlt,hl2,hz,hld,FZ,Nat.sub_zero,Oi,he];rfl) ?_;refine K7 ⟨_,by simp only[go_sem,K5,Ja];rfl,?_⟩;rw[hf,hd,List.find?_cons_of_pos (by simpa using hp)]at hn;simp only[hg2]at hn;have:=h 4 w (fun hne=>(hk hne).symm) hext;rw[hn]at this;exact this
       | false =>
        rw[he]at hp;refine K6 1000 (by simp only[go_sem,K5,ZB,X8,f0,f5,f6,hlt,hl2,hz,hld,FZ,Nat.sub_zero,Oi,he,hw];rfl) ?_;exact next hp _ (by simp only[go_sem,K5,f0]<;>rfl) (by simp only[go_sem,K5,f5]<;>rfl) (by simp only[go_sem,K5]<;>rfl)
      ·have hp:g.isPrefixOf (c::t)=false:=by rw[Jld hg2,decide_eq_false hl2];rfl
       refine K6 1000 (by simp only[go_sem,K5,ZB,X8,f0,f5,f6,hlt,hl2,hw];rfl) ?_;exact next hp _ (by simp only[go_sem,K5,f0]<;>rfl) (by simp only[go_sem,K5,f5]<;>rfl) (by simp only[go_sem,K5]<;>rfl)
     ·have:i=3:=Fh;subst this;have hno:twos.find? (fun g=>g.isPrefixOf (c::t))=none:=by rw[hf];rfl
      rw[hno]at hn;simp only at hn;refine Lb 1000 (by simp only[go_sem,K5,ZB,f0,f6,hlt];rfl) ?_
      have yes:isOne c=true→K (.tuple [.int .i64 1,.int .i64 4]) w:=by
       intro ho;rw[if_pos ho]at hn;simp only[FC,FD]at hn;have:=h 4 w (fun hne=>(hk hne).symm) hext;rw[hn]at this;exact this
      have no:isOne c=false→K (.tuple [.int .i64 0,.int .i64 0]) w:=by
       intro ho;rw[ho]at hn;simp only[FM,if_false]at hn;have:=h 0 w (fun hne=>absurd hn hne) hext;rw[hn]at this;exact this
      unfold isOne at yes no;by_cases c40:c=40
      ·refine K6 1000 (by simp only[go_sem,K5,Jx,JH,JG,JF,f0,c40];rfl) ?_;refine K7 ⟨_,by simp only[go_sem,K5,Ja];rfl,?_⟩;exact yes (by simp[c40])
      by_cases c41:c=41
      ·refine K6 1000 (by simp only[go_sem,K5,Jx,JH,JG,JF,f0,c40,c41];rfl) ?_;refine K7 ⟨_,by simp only[go_sem,K5,Ja];rfl,?_⟩;exact yes (by simp[c41])
      by_cases c44:c=44
      ·refine K6 1000 (by simp only[go_sem,K5,Jx,JH,JG,JF,f0,c40,c41,c44];rfl) ?_;refine K7 ⟨_,by simp only[go_sem,K5,Ja];rfl,?_⟩;exact yes (by simp[c44])
      by_cases c46:c=46
      ·refine K6 1000 (by simp only[go_sem,K5,Jx,JH,JG,JF,f0,c40,c41,c44,c46];rfl) ?_;refine K7 ⟨_,by simp only[go_sem,K5,Ja];rfl,?_⟩;exact yes (by simp[c46])
      by_cases c33:c=33
      ·refine K6 1000 (by simp only[go_sem,K5,Jx,JH,JG,JF,f0,c40,c41,c44,c46,c33];rfl) ?_;refine K7 ⟨_,by simp only[go_sem,K5,Ja];rfl,?_⟩;exact yes (by simp[c33])
      by_cases c61:c=61
      ·refine K6 1000 (by simp only[go_sem,K5,Jx,JH,JG,JF,f0,c40,c41,c44,c46,c33,c61];rfl) ?_;refine K7 ⟨_,by simp only[go_sem,K5,Ja];rfl,?_⟩;exact yes (by simp[c61])
      by_cases c60:c=60
      ·refine K6 1000 (by simp only[go_sem,K5,Jx,JH,JG,JF,f0,c40,c41,c44,c46,c33,c61,c60];rfl) ?_;refine K7 ⟨_,by simp only[go_sem,K5,Ja];rfl,?_⟩;exact yes (by simp[c60])
      refine K6 1000 (by simp only[go_sem,K5,Jx,JH,JG,JF,f0,c40,c41,c44,c46,c33,c61,c60];rfl) ?_;refine K7 ⟨_,by simp only[go_sem,K5,Ja];rfl,?_⟩;exact no (by simp[c40,c41,c44,c46,c33,c61,c60])
    have hne:(LA (c::t)).2=0→¬LX c=true→c=45→∀fr:Fr,fr.get 0=some (.str (c::t))→WS tab [.code Jtq] fr aw (fun fr' aw'=>∃vs,Ox fr' aw' Ja.results=some vs∧K (Oy vs) aw'):=by
     intro hz _ he fr f0;refine hsg fr f0 ?_ (fun hn=>absurd hz hn);rw[hz];subst he;rfl
    by_cases h45:c=45
    ·have hl:LA (c::t)=(3,Cc (c::t)):=by
      subst h45;rfl
     have e45:¬LX c=true:=by rw[h3];simp
     cases t with
     | nil =>
      have hnl:Cc [c]=0:=by subst h45;rfl
      refine Lb 20 (by simp only[go_sem,K5,h45,FC,FD];rfl) ?_;refine hne (by rw[hl];exact hnl) e45 h45 _ (by simp only[go_sem,K5,h45]<;>rfl)
     | cons d u =>
      have hlen:1<(45::d::u).length:=Fj;have hh:(c::d::u).head? = some 45:=by rw[h45];rfl
      refine K6 1000 (by simp only[go_sem,K5,h45,hlen];rfl) ?_;refine K9 (by simp only[go_sem,K5]) (by simp only[go_sem,K5];rfl) ?_;refine Ej C ?_;cases hd:LX d with
      | false =>
       have hnl:Cc (c::d::u)=0:=by
        subst h45;have e0:((d::u).takeWhile LX)=[]:=List.takeWhile_cons_of_neg (by simp[hd]);simp[Cc,e0]
       refine Lb 7 (by simp only[go_sem,K5];rfl) ?_;refine hne (by rw[hl];exact hnl) e45 h45 _ (by simp only[go_sem,K5,h45]<;>rfl)
      | true =>
       have hd1:((d::u).takeWhile LX).length=1+(u.takeWhile LX).length:=by rw[List.takeWhile_cons_of_pos hd,FC,KA]
       have hnl:Cc (c::d::u)=if d=48 then 0 else 1+(1+(u.takeWhile LX).length):=by
        unfold Cc;rw[hh];simp only[if_true,List.drop_succ_cons,FZ,hd1,Kh,Kg,FQ,true_and];rw[if_neg Fh];split<;>rfl
       by_cases h48:d=48
       ·refine K6 1000 (by simp only[go_sem,K5,Yk,UM,h48,h45];rfl) ?_;refine K7 ⟨_,by simp only[go_sem,K5,Ja];rfl,?_⟩;rw[if_pos h48]at hnl;have:=h 0 aw (fun hn=>absurd (by rw[hl];exact hnl) hn) (Ext.refl aw);rw[hl,hnl]at this;exact this
       ·refine K6 1000 (by simp only[go_sem,K5,Yk,UM,h48,h45];rfl) ?_;refine rl3 (c:=45) (t:=d::u) C (by simpa using hs) (k0:=2) Fj (by simp only[go_sem,K5]<;>rfl) (by simp only[go_sem,K5]<;>rfl) ?_;intro f f0 f4;refine K6 1000 (by simp only[go_sem,K5,f4];rfl) ?_;refine K7 ⟨_,by simp only[go_sem,K5,Ja];rfl,?_⟩;rw[if_neg h48]at hnl;have:=h 3 aw (fun _=>by rw[hl]) (Ext.refl aw);rw[hl,hnl]at this;have e:2+(List.takeWhile LX (List.drop 2 (45::d::u))).length=1+(1+(u.takeWhile LX).length):=by simp;omega
        rw[e];exact this
    ·have hd:(LX c||decide (c=45))=false:=by simp[h3,h45]
     have hl:LA (c::t)=(match signs.find? (fun g=>g.isPrefixOf (c::t))with
       | some g=>(4,g.length)
       | none=>(0,0)):=by
      simp only[LA,h1,h2,hd,FM,if_false];rfl
     refine Lb 20 (by simp only[go_sem,K5,h45];rfl) ?_;refine hsg _ (by simp only[go_sem,K5]<;>rfl) ?_ ?_
     ·rw[hl];cases signs.find? (fun g=>g.isPrefixOf (c::t))<;>rfl
     ·rw[hl];cases signs.find? (fun g=>g.isPrefixOf (c::t))with
      | none=>intro hn;exact absurd rfl hn
      | some g=>intro _;rfl
end
section
open Go.AE Delphi
variable {tab:Tab}
def JpL (s:List Nat) (l:List Wd) (ok:Bool) (aw:AW) (n:Nat) (f:Fr) (w:AW):Prop:=∃i v done,f.get 0=some (.str s)∧f.get 5=some (.int .i64 (Fq i))∧f.get 4=some v∧Own aw.next w v 3 done.length (DJ done)∧Ext aw.next aw w∧i≤s.length∧
  (l,ok)=(done++(scan i (s.drop i)).1,(scan i (s.drop i)).2)∧done.length≤i∧n=s.length-i
set_option maxRecDepth 10000 in
set_option maxHeartbeats 1000000 in
theorem JtX (C:Codes tab){s:List Nat}{aw:AW}{K:V→AW→Prop}(hs:s.length≤1099511627776)(h1:4000<s.length→K (.tuple [.nilslice,.int .i64 8]) aw)(h2:s.length≤4000→∀v aw',Own aw.next aw' v 3 (scan 0 s).1.length (DJ (scan 0 s).1)→Ext aw.next aw aw'→K (.tuple [v,.int .i64 (if (scan 0 s).2 then 0 else 4)]) aw'):WF tab Gy [.str s] aw K:=by
 refine Ld C.XJ rfl ?_;obtain⟨l,ok,hres⟩:∃l ok,scan 0 s=(l,ok):=⟨_,_,rfl⟩;rw[hres]at h2;simp only at h2;by_cases hl:4000<s.length
 ·refine K6 1000 (by simp only[go_sem,K5,JO,hl];rfl) ?_;refine K7 ⟨_,by simp only[go_sem,K5,JO];rfl,?_⟩;exact h1 hl
 have h2:=h2 Fh;refine K6 1000 (by simp only[go_sem,K5,JO,hl];rfl) ?_;refine Iq (JpL s l ok aw) ?_ s.length ⟨0,.nilslice,[],(by simp only[go_sem,K5]<;>rfl),(by simp only[go_sem,K5]<;>rfl),(by simp only[go_sem,K5]<;>rfl),.nil,Ext.refl aw,by omega,by rw[←hres];simp,by simp,rfl⟩;rintro n f w ⟨i,v,done,f0,f5,f4,hown,hext,hi,hsc,hdl,rfl⟩ ih;by_cases hlt:i<s.length
 ·obtain⟨c,hc⟩:∃c,s[i]? = some c:=⟨_,FB hlt⟩
  have hd0:s.drop i=c::s.drop (i+1):=by
   rw[FL hlt];rw[FB hlt]at hc;rw[FY hc]
  have hw:KZ .i64 (Fq i+1)=Fq (i+1):=Lh Fh
  have skip:∀(j:Nat) f',i<j→j≤s.length→blk false (s.drop i)=(j-i)+blk false (s.drop j)→f'.get 0=some (.str s)→f'.get 5=some (.int .i64 (Fq j))→f'.get 4=some v→JpL s l ok aw (s.length-j) f' w:=by
   intro j f' hij hj hb g0 g5 g4;refine⟨j,v,done,g0,g5,g4,hown,hext,hj,?_,by omega,rfl⟩;have e:s.drop j=(s.drop i).drop (j-i):=by rw[List.drop_drop];congr 1;omega
   rw[hsc,Jmg i (s.drop i) (j-i) (by rw[←e];exact hb),←e,show i+(j-i)=j by omega]
  have skip1:Cf c=true→∀f',f'.get 0=some (.str s)→f'.get 5=some (.int .i64 (Fq (i+1)))→f'.get 4=some v→JpL s l ok aw (s.length-(i+1)) f' w:=fun hb f' g0 g5 g4 =>
   skip (i+1) f' Fh Fh (by rw[hd0];simp only[blk,hb,if_true];omega) g0 g5 g4
  have rest:True:=trivial;by_cases b32:c=32
  ·refine K6 1000 (by simp only[go_sem,K5,JN,J4,f0,f5,hlt,hc,hw,b32];rfl) ?_;exact ih _ _ _ Fh (skip1 (by simp[Cf,b32]) _ (by simp only[go_sem,K5,f0]<;>rfl) (by simp only[go_sem,K5]<;>rfl) (by simp only[go_sem,K5,f4]<;>rfl))
  by_cases b9:c=9
  ·refine K6 1000 (by simp only[go_sem,K5,JN,J4,f0,f5,hlt,hc,hw,b32,b9];rfl) ?_;exact ih _ _ _ Fh (skip1 (by simp[Cf,b32,b9]) _ (by simp only[go_sem,K5,f0]<;>rfl) (by simp only[go_sem,K5]<;>rfl) (by simp only[go_sem,K5,f4]<;>rfl))
  by_cases b10:c=10
  ·refine K6 1000 (by simp only[go_sem,K5,JN,J4,f0,f5,hlt,hc,hw,b32,b9,b10];rfl) ?_;exact ih _ _ _ Fh (skip1 (by simp[Cf,b32,b9,b10]) _ (by simp only[go_sem,K5,f0]<;>rfl) (by simp only[go_sem,K5]<;>rfl) (by simp only[go_sem,K5,f4]<;>rfl))
  by_cases b13:c=13
  ·refine K6 1000 (by simp only[go_sem,K5,JN,J4,f0,f5,hlt,hc,hw,b32,b9,b10,b13];rfl) ?_;exact ih _ _ _ Fh (skip1 (by simp[Cf,b32,b9,b10,b13]) _ (by simp only[go_sem,K5,f0]<;>rfl) (by simp only[go_sem,K5]<;>rfl) (by simp only[go_sem,K5,f4]<;>rfl))
  have hnb:Cf c=false:=by simp[Cf,b32,b9,b10,b13]
  by_cases h37:c=37
  ·refine K6 1000 (by simp only[go_sem,K5,JN,J4,f0,f5,hlt,hc,b32,b9,b10,b13,h37];rfl) ?_;refine Iq (fun n f' w'=>∃j,f'.get 0=some (.str s)∧f'.get 5=some (.int .i64 (Fq j))∧f'.get 4=some v∧i≤j∧j≤s.length∧blk false (s.drop i)=(j-i)+blk true (s.drop j)∧n=s.length-j∧w'=w) ?_ (s.length-i) ⟨i,(by simp only[go_sem,K5,f0]<;>rfl),(by simp only[go_sem,K5,f5]<;>rfl),(by simp only[go_sem,K5,f4]<;>rfl),by omega,hi,?_,rfl,rfl⟩
   ·rintro n f' w' ⟨j,g0,g5,g4,hij,hj,hbj,rfl,rfl⟩ ih2;by_cases hjl:j<s.length
    ·obtain⟨d,hdc⟩:∃d,s[j]? = some d:=⟨_,FB hjl⟩
     have hdj:s.drop j=d::s.drop (j+1):=by
      rw[FL hjl];rw[FB hjl]at hdc;rw[FY hdc]
     have hwj:KZ .i64 (Fq j+1)=Fq (j+1):=Lh Fh;by_cases h10:d=10
     ·refine K6 1000 (by simp only[go_sem,K5,XH,g0,g5,hjl,hdc,h10];rfl) ?_
      have hne:i≠j:=by
       intro he;subst he;rw[hc]at hdc;cases hdc;omega
      refine ih _ _ _ Fh (skip j _ Fh hj ?_ (by simp only[go_sem,K5,g0]<;>rfl) (by simp only[go_sem,K5,g5]<;>rfl) (by simp only[go_sem,K5,g4]<;>rfl));rw[hbj,hdj,h10];simp[blk,Cf]
     ·refine K6 1000 (by simp only[go_sem,K5,XH,g0,g5,hjl,hdc,h10,hwj];rfl) ?_;refine ih2 (s.length-(j+1)) _ _ Fh ⟨j+1,(by simp only[go_sem,K5,g0]<;>rfl),(by simp only[go_sem,K5]<;>rfl),(by simp only[go_sem,K5,g4]<;>rfl),by omega,by omega,?_,rfl,rfl⟩;rw[hbj,hdj];simp only[blk,if_neg h10];omega
    ·have:j=s.length:=Fh;subst this;refine K6 1000 (by simp only[go_sem,K5,XH,g0,g5,hjl];rfl) ?_;refine ih _ _ _ Fh (skip s.length _ hlt hj ?_ (by simp only[go_sem,K5,g0]<;>rfl) (by simp only[go_sem,K5,g5]<;>rfl) (by simp only[go_sem,K5,g4]<;>rfl));rw[hbj,List.drop_length];simp[blk]
   ·rw[hd0,h37];simp[blk,Cf]
  ·-- a word
   obtain⟨t,hd⟩:∃t,s.drop i=c::t:=⟨_,hd0⟩;have hbl:blk false (s.drop i)=0:=by rw[hd];simp[blk,hnb,h37]
   have hle:=JkY (c::t);have hlen:(c::t).length=s.length-i:=by rw[←hd];simp
   rw[Ex,hbl,FZ,hd]at hsc;simp only[KF]at hsc;refine K6 1000 (by simp only[go_sem,K5,JN,J4,XI,f0,f5,hlt,hi,hc,b32,b9,b10,b13,h37];rfl) ?_;refine K9 (by simp only[go_sem,K5]) (by simp only[go_sem,K5];rfl) ?_;rw[hd];refine JtZ (c:=c) (t:=t) C Fh ?_;intro kind w1 hkd hx1;generalize hlw:LA (c::t)=lw at hle hsc hkd;obtain⟨k,m⟩:=lw;simp only at hle hsc hkd;by_cases hm:m=0
   ·rw[if_pos (.inl hm)]at hsc;have e1:l=done:=by simpa using (Prod.mk.inj hsc).1
    have e2:ok=false:=(Prod.mk.inj hsc).2;have fin:=h2 v w1 (by rw[e1];exact hown.ext (FH _) hx1) (hext.trans (hx1.mono hext.le'));rw[e2]at fin;refine K6 1000 (by simp only[go_sem,K5,f4,hm];rfl) ?_;refine K7 ⟨_,by simp only[go_sem,K5,JO];rfl,?_⟩;exact fin
   obtain rfl:=hkd hm
   have hk4:kind≤4:=by
    have:(LA (c::t)).1≤4:=by
     simp only[LA]
     (repeat' split)<;>simp
    rw[hlw]at this;exact this
   by_cases hbad:kind≠4∧16<m
   ·rw[if_pos (.inr hbad)]at hsc;have e1:l=done:=by simpa using (Prod.mk.inj hsc).1
    have e2:ok=false:=(Prod.mk.inj hsc).2;have fin:=h2 v w1 (by rw[e1];exact hown.ext (FH _) hx1) (hext.trans (hx1.mono hext.le'));rw[e2]at fin;obtain⟨hk4',hm16⟩:=hbad;have hk4'':kind<4:=Fh;refine K6 1000 (by simp only[go_sem,K5,f4,hm,hk4'',hm16];rfl) ?_;refine K7 ⟨_,by simp only[go_sem,K5,JO];rfl,?_⟩;exact fin
   ·rw[if_neg (by intro hh;rcases hh with hh|hh;exact hm hh;exact hbad hh)]at hsc;have hw1:KZ .i64 (Fq i+Fq m)=Fq (i+m):=M5 Fh;have hc1:i+m≤s.length:=Fh;have hc2:i≤i+m:=Nat.le_add_right _ _;have hown1:=hown.ext (FH _) hx1;have hN1:aw.next≤w1.next:=Kk hext.le' hx1.next;obtain⟨v2,w2,happ,hown2,hx2⟩:=hown1.push (bytes:=32) hN1 Fh (news:=Sj ⟨kind,(s.drop i).take m,i⟩) rfl rfl Fh Fh;have hel:=Tj (w:=w1) (esz:=3) (n:=1) (c:=.known 1) (cs:=Sj ⟨kind,(s.drop i).take m,i⟩) Fh rfl;simp only[Sj]at happ hel;by_cases hk4:kind<4
    ·have h16:¬16<m:=fun hh=>hbad ⟨by omega,hh⟩;refine K6 1000 (by simp only[go_sem,K5,f0,f5,f4,hm,hk4,h16,hw1,hc1,hc2,XI,Lg,Lj,V.cells,over,FC,FD,hel,happ];rfl) ?_;refine ih (s.length-(i+m)) _ _ Fh ⟨i+m,v2,done++[⟨kind,(s.drop i).take m,i⟩],(by simp only[go_sem,K5,f0]<;>rfl),(by simp only[go_sem,K5]<;>rfl),(by simp only[go_sem,K5]<;>rfl),?_,hext.trans ((hx1.mono hext.le').trans hx2),by omega,?_,by simp only[FE,FC,FD];omega,rfl⟩
     ·rw[Jiy,FE];exact hown2
     ·rw[hsc,hd];have hdr:(c::t).drop m=s.drop (i+m):=by rw[←hd,List.drop_drop]
      rw[hdr];simp
    ·have h16:True:=trivial;refine K6 1000 (by simp only[go_sem,K5,f0,f5,f4,hm,hk4,h16,hw1,hc1,hc2,XI,Lg,Lj,V.cells,over,FC,FD,hel,happ];rfl) ?_;refine ih (s.length-(i+m)) _ _ Fh ⟨i+m,v2,done++[⟨kind,(s.drop i).take m,i⟩],(by simp only[go_sem,K5,f0]<;>rfl),(by simp only[go_sem,K5]<;>rfl),(by simp only[go_sem,K5]<;>rfl),?_,hext.trans ((hx1.mono hext.le').trans hx2),by omega,?_,by simp only[FE,FC,FD];omega,rfl⟩
     ·rw[Jiy,FE];exact hown2
     ·rw[hsc,hd];have hdr:(c::t).drop m=s.drop (i+m):=by rw[←hd,List.drop_drop]
      rw[hdr];simp
 ·have:i=s.length:=Fh;subst this;refine K6 1000 (by simp only[go_sem,K5,JN,f0,f5,f4,hlt];rfl) ?_;refine K7 ⟨_,by simp only[go_sem,K5,JO];rfl,?_⟩;rw[List.drop_length]at hsc;have hz:scan s.length ([]:List Nat)=([],true):=by rw[Ex];rfl
  rw[hz]at hsc;have e1:l=done:=by simpa using (Prod.mk.inj hsc).1
  have e2:ok=true:=(Prod.mk.inj hsc).2;have:=h2 v w (by rw[e1];exact hown) hext;rw[e2]at this;exact this
end
end Go.Proofs.YtegdcbdicpfbpaaGreatDoor
namespace Go.AE
variable [Globs]
structure Frm (S:Fw) (w w':AW):Prop where
 next:w.next≤w'.next
 heap:∀b,b<w.next→¬S b→w'.heap.get b=w.heap.get b
 fams:∀b,b<w.next→¬S b→w'.fams.get b=w.fams.get b
variable {S:Fw}
theorem Frm.refl (w:AW):Frm S w w:=⟨FH _,fun _ _ _=>rfl,fun _ _ _=>rfl⟩
variable {T:Fw}
theorem Frm.trans {U:Fw}{a b c:AW}(h:Frm S a b)(h':Frm T b c)(hs:∀x,x<a.next→S x→U x)(ht:∀x,x<a.next→T x→U x):Frm U a c:=
 ⟨Kk h.next h'.next,fun k hk hu=>(h'.heap k (FK hk h.next) fun x=>hu (ht k hk x)).trans (h.heap k hk fun x=>hu (hs k hk x)),fun k hk hu=>(h'.fams k (FK hk h.next) fun x=>hu (ht k hk x)).trans (h.fams k hk fun x=>hu (hs k hk x))⟩
theorem Frm.mono {a b:AW}(h:Frm S a b)(hs:∀x,x<a.next→S x→T x):Frm T a b:=⟨h.next,fun k hk hu=>h.heap k hk fun x=>hu (hs k hk x),fun k hk hu=>h.fams k hk fun x=>hu (hs k hk x)⟩
theorem Frm.new (w:AW)(x:Blk):Frm S w (w.new x):=⟨Nat.le_succ _,fun b hb _=>T.get_put_ne Fh,fun _ _ _=>rfl⟩
variable {w w':AW}
theorem Ext.frm {N:Nat}(h:Ext N w w')(hs:∀x,x<w.next→N≤x→S x):Frm S w w':=
 ⟨h.next,fun b hb hn=>h.heap b (Nat.lt_of_not_le fun x=>hn (hs b hb x)),fun b hb hn=>h.fams b (Nat.lt_of_not_le fun x=>hn (hs b hb x))⟩
theorem Frm.ext {N:Nat}(h:Frm S w w')(hN:N≤w.next)(hs:∀x,S x→N≤x):Ext N w w':=
 ⟨hN,h.next,fun b hb=>h.heap b Fh fun x=>by have:=hs b x;omega,fun b hb=>h.fams b Fh fun x=>by have:=hs b x;omega⟩
def TV (S S':Fw) (w w':AW):Prop:=∀b,S' b→b<w'.next∧(S b∨w.next≤b)
def Shr (S:Fw) (w:AW) (b:Nat) (sh:Share):Prop :=
 sh = .own∨sh = .lax∨∃f F,sh = .fam f∧S f∧f<w.next∧w.fams.get f=some F∧F.last=b∧F.floor≤w.next∧w.alive b sh=true
variable {b:Nat} {sh:Share}
theorem Shr.alive (h:Shr S w b sh):w.alive b sh=true:=by
 rcases h with rfl|rfl|⟨f,F,rfl,h1,h2,h3,h4,h6,h5⟩
 ·rfl
 ·rfl
 ·exact h5
theorem Shr.mono {S':Fw}(h:Shr S w b sh)(hs:∀x,S x→S' x):Shr S' w b sh:=by
 rcases h with rfl|rfl|⟨f,F,rfl,h1,h2⟩
 ·exact .inl rfl
 ·exact .inr (.inl rfl)
 ·exact .inr (.inr ⟨f,F,rfl,hs _ h1,h2⟩)
theorem Shr.frm (h:Shr S w b sh)(hf:Frm T w w')(hd:∀x,S x→¬T x):Shr S w' b sh:=by
 rcases h with rfl|rfl|⟨f,F,rfl,h1,h2,h3,h4,h6,h5⟩
 ·exact .inl rfl
 ·exact .inr (.inl rfl)
 ·have e:=hf.fams f h2 (hd f h1);refine .inr (.inr ⟨f,F,rfl,h1,FK h2 hf.next,e.trans h3,h4,Kk h6 hf.next,?_⟩);simp only[AW.alive,h3,e.trans h3]at h5 ⊢;exact h5
inductive Buf (S:Nat→Prop) (w:AW):V→Nat→Nat→List V→Prop
 | nil {esz:Nat}:Buf S w .nilslice esz 0 []
 | blk {b n esz r:Nat} {cs rest:List V} {sh:Share} (hS:S b) (hb:b<w.next) (hx:w.heap.get b=some (.cells (cs++rest) sh)) (hl:cs.length=n*esz) (hr:rest.length=r*esz) (he:0<esz) (hn:0<n+r) (hs:Shr S w b sh) :
   Buf S w (.slice b 0 n (.upTo esz)) esz n cs
variable {v:V} {esz n:Nat} {cs:List V}
theorem Buf.mono {S':Fw}(h:Buf S w v esz n cs)(hs:∀x,S x→S' x):Buf S' w v esz n cs:=by
 cases h with
 | nil=>exact .nil
 | blk hS hb hx hl hr he hn hsh=>exact .blk (hs _ hS) hb hx hl hr he hn (hsh.mono hs)
theorem Buf.frm (h:Buf S w v esz n cs)(hf:Frm T w w')(hd:∀x,S x→¬T x):Buf S w' v esz n cs:=by
 cases h with
 | nil=>exact .nil
 | blk hS hb hx hl hr he hn hsh=>exact .blk hS (FK hb hf.next) ((hf.heap _ hb (hd _ hS)).trans hx) hl hr he hn (hsh.frm hf hd)
theorem Buf.len (h:Buf S w v esz n cs):cs.length=n*esz:=by
 cases h with
 | nil=>simp
 | blk hS hb hx hl hr he hn hsh=>exact hl
theorem Buf.inv (h:Buf S w v esz n cs):(v = .nilslice∧n=0∧cs=[])∨∃b,v = .slice b 0 n (.upTo esz)∧S b∧b<w.next:=by
 cases h with
 | nil=>exact .inl ⟨rfl,rfl,rfl⟩
 | blk hS hb hx hl hr he hn hsh=>exact .inr ⟨_,rfl,hS,hb⟩
theorem Buf.load {c:Cap}(h:Buf S w (.slice b 0 n c) esz n cs){o k:Nat}(hk:o+k≤cs.length):w.load b o k=some ((cs.drop o).take k):=by
 cases h with
 | blk hS hb hx hl hr he hn hsh =>
  simp only[AW.load,hx,hsh.alive];rw[Mm _ _ (by simp;omega),List.drop_append_of_le_length Fh,List.take_append_of_le_length (by simp;omega)]
theorem Buf.load1 {c:Cap}{x:V}(h:Buf S w (.slice b 0 n c) 1 n cs){i:Nat}(hi:cs[i]? = some x):w.load b (0+i*1) 1=some [x]:=by
 have hlt:i<cs.length:=(List.getElem?_eq_some_iff.1 hi).1;rw[h.load Fh,FV,KC,FL hlt];rw[FB hlt]at hi;rw[FY hi];rfl
theorem CZ:∀(a b c d:List V),d.length=b.length→over (a++b++c) a.length d=some (a++d++c)
 | [],b,c,d,h=>by
  have:∀(b d:List V),d.length=b.length→over (b++c) 0 d=some (d++c):=by
   intro b;induction b with
   | nil=>intro d h;cases d with
    | nil=>cases hc:c<;>rfl
    | cons x d=>simp at h
   | cons y b ih=>intro d h;cases d with
    | nil=>simp at h
    | cons x d=>simp only[List.cons_append,over,ih d (by simpa using h)]
  simpa using this b d h
 | x::a,b,c,d,h=>by
  have:=CZ a b c d h;simp only[List.cons_append,FC,over,this]
variable {l:List V}
theorem IB (hS:S b)(hs:Shr S w b sh):Frm S w (w.turn b (.cells l sh)):=by
 refine⟨FH _,fun c hc hn=>T.get_put_ne fun e=>hn (e▸hS),fun c hc hn=>?_⟩;rcases hs with rfl|rfl|⟨f,F,rfl,h1,h2⟩
 ·rfl
 ·rfl
 ·exact T.get_put_ne fun e=>hn (e▸h1)
theorem Joj (hb:b<w.next)(hs:Shr S w b sh):Shr S (w.turn b (.cells l sh)) b sh:=by
 rcases hs with rfl|rfl|⟨f,F,rfl,h1,h2,h3⟩
 ·exact .inl rfl
 ·exact .inr (.inl rfl)
 ·have e:(w.turn b (.cells l (.fam f))).fams.get f=some ⟨b,w.next,b⟩:=T.get_put_same;exact .inr (.inr ⟨f,_,rfl,h1,h2,e,rfl,FH _,by simp only[AW.alive,e,Nat.beq_refl,Bool.true_or]⟩)
theorem Em {o:Nat}{l' vs:List V}(hx:w.heap.get b=some (.cells l sh))(hs:Shr S w b sh)(h1:Lv vs=true)(ho:over l o vs=some l'):w.store b o vs=some (w.turn b (.cells l' sh)):=by
 have ha:=hs.alive;rcases hs with rfl|rfl|⟨f,F,rfl,_⟩<;>simp only[AW.store,hx,ha,h1,ho]
variable {bytes:Nat} {news:List V}
theorem Buf.add (h:Buf S w v esz n cs)(he:0<esz)(hl:news.length=esz)(h1:Lv news=true)(hb:(n+1)*bytes≤70368744177664)(hb':n+1≤70368744177664): ∃v' w' S',w.appendV esz bytes v 1 news=some (v',w')∧Buf S' w' v' esz (n+1) (cs++news)∧Frm S w w'∧TV S S' w w':=by
 have hcl:=h.len;cases h with
 | nil =>
  refine⟨.slice w.next 0 1 (.upTo esz),w.fresh news,fun b=>b=w.next,?_,?_,Frm.new _ _,?_⟩
  ·simp only[AW.appendV];rw[if_pos ⟨by simpa using hb,by omega⟩]
  ·exact .blk (r:=0) (rest:=[]) rfl (FW _) (by rw[Kc];exact T.get_put_same) (by simpa using hl) Fj he Fh (.inl rfl)
  ·rintro b rfl;exact⟨FW _,.inr (FH _)⟩
 | @blk b _ _ r _ rest sh hS hbw hx hlen hr he' hn hs =>
  have happ:w.appendV esz bytes (.slice b 0 n (.upTo esz)) 1 news=w.appendUp esz b 0 n 1 news:=if_pos ⟨rfl,hb,hb',h1,he⟩;rw[happ];cases r with
  | succ r =>
   have hne:Nat.beq (0+n*esz) (cs++rest).length=false:=by
    rw[JnN,decide_eq_false_iff_not,FE,hlen,hr,Nat.add_mul,Nat.one_mul];omega
   have hfit:Nat.ble (0+(n+1)*esz) (cs++rest).length=true:=by
    rw[JnO,decide_eq_true_eq,FE,hlen,hr,Nat.add_mul,Nat.add_mul,Nat.one_mul];omega
   obtain⟨r1,r2,rfl,hr1⟩:∃r1 r2,rest=r1++r2∧r1.length=esz:=⟨rest.take esz,rest.drop esz,(List.take_append_drop _ _).symm,by rw[FU,hr,Nat.add_mul,Nat.one_mul];omega⟩
   have hov:over (cs++(r1++r2)) (0+n*esz) news=some (cs++news++r2):=by
    rw[←F6,FV,←hlen];exact CZ _ _ _ _ Fh
   refine⟨.slice b 0 (n+1) (.upTo esz),w.turn b (.cells (cs++news++r2) sh),fun x=>S x∧x<w.next,?_,?_,IB hS hs,?_⟩
   ·simp only[AW.appendUp,hx,hne,hfit,Em hx hs h1 hov]
   ·refine .blk (r:=r) ⟨hS,hbw⟩ hbw T.get_put_same (by rw[FE,hlen,hl,Nat.add_mul,Nat.one_mul]) ?_ he Fh ?_
    ·rw[FE,hr1,Nat.add_mul,Nat.one_mul]at hr;omega
    ·rcases Joj (l:=cs++news++r2) hbw hs with rfl|rfl|⟨f,F,rfl,q1,q2,q3⟩
     ·exact .inl rfl
     ·exact .inr (.inl rfl)
     ·exact .inr (.inr ⟨f,F,rfl,⟨q1,q2⟩,q2,q3⟩)
   ·rintro x ⟨q1,q2⟩;exact⟨q2,.inl q1⟩
  | zero =>
   have hr0:rest=[]:=List.length_eq_zero_iff.1 (by simpa using hr);subst hr0;rw[Kc]at hx;have hbeq:Nat.beq (0+n*esz) cs.length=true:=by rw[FV,hlen,Nat.beq_refl]
   have fam:∀(u:AW) (f:Nat) (F:Fam),w.next≤u.next→Frm S w u→u.heap.get b=some (.cells cs (.fam f))→(S f∨w.next≤f)→f<u.next→b<u.next→u.fams.get f=some F→F.last=b→F.floor≤u.next→u.alive b (.fam f)=true→∃v' w' S',u.appendFam esz b 0 n 1 news=some (v',w')∧Buf S' w' v' esz (n+1) (cs++news)∧Frm S w w'∧TV S S' w w':=by
    intro u f F hle hfu hx hSf hfl hbu hF hlast hflo hal;refine⟨.slice u.next 0 (n+1) (.upTo esz),u.grow b f F (cs.drop 0++news),fun x=>x=u.next∨x=f,?_,?_,?_,?_⟩
    ·simp only[AW.appendFam,hx,hal,hF,hbeq]
    ·have hg:(u.grow b f F (cs.drop 0++news)).fams.get f=some ⟨F.keep,F.floor,u.next⟩:=by
      simp only[AW.grow,T.get_putk,if_true,hlast,Nat.beq_refl]
     refine .blk (r:=0) (rest:=[]) (sh:=.fam f) (.inl rfl) (FW _) ?_ ?_ Fj he Fh (.inr (.inr ⟨f,⟨F.keep,F.floor,u.next⟩,rfl,.inr rfl,Nat.lt_succ_of_lt hfl,hg,rfl,Nat.le_succ_of_le hflo,?_⟩))
     ·simp only[AW.grow,T.get_putk,if_true,FZ,Kc]
     ·rw[FE,hlen,hl,Nat.add_mul,Nat.one_mul]
     ·simp only[AW.alive,hg,Bool.or_eq_true];exact .inr (Nat.ble_eq_true_of_le hflo)
    ·refine hfu.trans (T:=fun x=>x=f∨u.next≤x) ⟨Nat.le_succ _,fun c hc hn=>T.get_put_ne Fh,fun c hc hn=>T.get_put_ne fun e=>hn (.inl e)⟩ (fun x hx h=>h) ?_;rintro x hx (rfl|h)
     ·rcases hSf with h|h
      ·exact h
      ·omega
     ·omega
    ·rintro x (rfl|rfl)
     ·exact⟨FW _,.inr hle⟩
     ·exact⟨Nat.lt_succ_of_lt hfl,hSf⟩
   have fnd:sh = .own∨sh = .lax→∃v' w' S',(w.found b cs).appendFam esz b 0 n 1 news=some (v',w')∧Buf S' w' v' esz (n+1) (cs++news)∧Frm S w w'∧TV S S' w w':=by
    intro _;refine fam (w.found b cs) w.next ⟨b,w.next+1,b⟩ (Nat.le_succ _) ⟨Nat.le_succ _,fun c hc hn=>T.get_put_ne fun e=>hn (e▸hS),fun c hc hn=>T.get_put_ne Fh⟩ T.get_put_same (.inr (FH _)) (FW _) (Nat.lt_succ_of_lt hbw) T.get_put_same rfl (FH _) ?_;simp only[AW.alive,AW.found,T.get_putk,if_true,Nat.beq_refl,Bool.true_or]
   simp only[AW.appendUp,hx,hbeq,Kc];rcases hs with rfl|rfl|⟨f,F,rfl,g1,g2,g3,g4,g6,g5⟩
   ·exact fnd (.inl rfl)
   ·exact fnd (.inr rfl)
   ·exact fam w f F (FH _) (Frm.refl _) hx (.inl g1) g2 hbw g3 g4 g6 g5
theorem Buf.push (h:Buf S w v esz n cs)(hS:∀b,S b→b<w.next)(he:0<esz)(hl:news.length=esz)(h1:Lv news=true)(hb:(n+1)*bytes≤70368744177664)(hb':n+1≤70368744177664): ∃v' w' S',(w.fresh news).appendV esz bytes v 1 news=some (v',w')∧Buf S' w' v' esz (n+1) (cs++news)∧Frm S w w'∧TV S S' w w':=by
 have hx:Frm (fun _=>False) w (w.fresh news):=Frm.new _ _;obtain⟨v',w',S',h2,h3,h4,h5⟩:=(h.frm hx fun _ _ h=>h).add (news:=news) (bytes:=bytes) he hl h1 hb hb';refine⟨v',w',S',h2,h3,hx.trans h4 (fun _ _ h=>h.elim) fun _ _ h=>h,fun b hb=>?_⟩;obtain⟨q1,q2⟩:=h5 b hb;exact⟨q1,q2.imp id fun h=>Kk hx.next h⟩
theorem Buf.insert {i bv:Nat}{x:V}(h:Buf S w (.slice b 0 n (.upTo 1)) 1 n cs)(hi:i<n)(hv:w.heap.get bv=some (.cells [x] .own))(hne:bv≠b)(h1:x.one=true)(h2:Lv cs=true)(hb:(n+1)*bytes≤70368744177664)(hb':n+1≤70368744177664){k:Nat}: ∃v' w' S',Ci bytes [.slice b 0 n (.upTo 1),.int .i64 (.ofNat i),.slice bv 0 1 (.known k)] w=some (v',w')∧Buf S' w' v' 1 (n+1) (cs.take i++[x]++cs.drop i)∧Frm S w w'∧TV S S' w w':=by
 have hcl:=h.len;rw[KC]at hcl;have hld:=h.load (o:=0) (k:=n) Fh;rw[FZ,FX Fh]at hld;have hvl:w.load bv 0 1=some [x]:=by simp only[AW.load,hv,AW.alive,FZ,Lr]
 have hbv:Nat.beq bv b=false:=by rw[JnN,decide_eq_false hne]
 have hone:Lv [x]=true:=by simp[Lv,h1]
 cases h with
 | @blk _ _ _ r _ rest sh hS hbw hx hlen hr he' hn hs =>
  have fam:∀(u:AW) (f:Nat),w.next≤u.next→Frm S w u→u.heap.get b=some (.cells (cs++rest) (.fam f))→(S f∨w.next≤f)→f<u.next→∃v' w' S',u.insFam b n 1 (cs.take i++[x]++cs.drop i)=some (v',w')∧Buf S' w' v' 1 (n+1) (cs.take i++[x]++cs.drop i)∧Frm S w w'∧TV S S' w w':=by
   intro u f hle hfu hx hSf hfl;refine⟨.slice u.next 0 (n+1) (.upTo 1),u.reborn f (cs.take i++[x]++cs.drop i),fun x=>x=u.next,?_,?_,?_,?_⟩
   ·simp only[AW.insFam,hx]
   ·refine .blk (r:=0) (rest:=[]) (sh:=.lax) rfl (FW _) (by rw[Kc];exact T.get_put_same) ?_ Fj Fh Fh (.inr (.inl rfl));simp only[FE,FU,Ki,FC,FD];omega
   ·refine hfu.trans (T:=fun x=>x=f∨u.next≤x) ⟨Nat.le_succ _,fun c hc hn=>T.get_put_ne Fh,fun c hc hn=>T.get_put_ne fun e=>hn (.inl e)⟩ (fun x hx h=>h) ?_;rintro x hx (rfl|h)
    ·rcases hSf with h|h
     ·exact h
     ·omega
    ·omega
   ·rintro x rfl;exact⟨FW _,.inr hle⟩
  have fnd:(w.found b (cs++rest)).alive b (.fam w.next)=true∧∃v' w' S',(w.found b (cs++rest)).insFam b n 1 (cs.take i++[x]++cs.drop i)=some (v',w')∧Buf S' w' v' 1 (n+1) (cs.take i++[x]++cs.drop i)∧Frm S w w'∧TV S S' w w' :=
   ⟨by simp only[AW.alive,AW.found,T.get_putk,if_true,Nat.beq_refl,Bool.true_or],fam _ w.next (Nat.le_succ _) ⟨Nat.le_succ _,fun c hc hn=>T.get_put_ne fun e=>hn (e▸hS),fun c hc hn=>T.get_put_ne Fh⟩ T.get_put_same (.inr (FH _)) (FW _)⟩
  have e1:Nat.blt i n=true:=by rw[Nk,decide_eq_true hi]
  have e2:Nat.blt 0 1=true:=rfl;have e3:Nat.ble ((n+1)*bytes) 70368744177664=true:=Nat.ble_eq_true_of_le hb;have e4:Nat.ble (n+1) 70368744177664=true:=Nat.ble_eq_true_of_le hb';rcases hs with rfl|rfl|⟨f,F,rfl,g1,g2,g3,g4,g6,g5⟩
  ·simp only[Ci,e1,e2,e3,e4,hbv,hv,hvl,hld,hone,h2,hx,fnd.1];exact fnd.2
  ·simp only[Ci,e1,e2,e3,e4,hbv,hv,hvl,hld,hone,h2,hx,fnd.1];exact fnd.2
  ·simp only[Ci,e1,e2,e3,e4,hbv,hv,hvl,hld,hone,h2,hx];exact fam w f (FH _) (Frm.refl _) hx (.inl g1) g2
section
variable [Globs]
section
variable {tab:Tab}
def SE (fr:Fr) (hide:List Nat) (v:V) (a b:AW):Stp:=⟨Om fr hide,v,a,b⟩
variable {fr:Fr} {hide:List Nat} {a:AW}
theorem O8 {b:AW}:(SE fr hide v a b).fe=Om fr hide:=rfl
theorem O6 {b:AW}:(SE fr hide v a b).v=v:=rfl
theorem O4 {b:AW}:(SE fr hide v a b).aw0=a:=rfl
theorem O5 {b:AW}:(SE fr hide v a b).aw1=b:=rfl
variable {aw aw':AW} {st:List Stp} {fr':Fr}
theorem Jve {l:List DOper}(h:Pass tab l fr aw st fr' aw'):∀{i:Nat} {d:DOper} {s:Stp},l[i]? = some d→st[i]? = some s→Ny d s:=by
 induction l generalizing fr aw st with
 | nil=>intro i d s hd;simp at hd
 | cons x l ih =>
  intro i d s hd hs;cases h;rename_i h1 h2;cases i with
  | succ i=>exact ih h2 (by simpa using hd) (by simpa using hs)
  | zero =>
   simp at hd hs;subst hd;subst hs;cases h1 with
   | pass hw=>exact .inl hw
   | val hw ha=>exact .inr ⟨hw,fun _=>⟨_,ha⟩⟩
   | skip hw ha=>exact .inr ⟨hw,fun hq=>by obtain⟨_,v,h⟩:=IU hq ha;cases h⟩
   | call hw ha hc=>exact .inr ⟨hw,fun hq=>by obtain⟨_,v,h⟩:=IU hq ha;cases h⟩
   | ext hw ha hc=>exact .inr ⟨hw,fun hq=>by obtain⟨_,v,h⟩:=IU hq ha;cases h⟩
theorem Jp5 {l:List DOper}(h:Pass tab l fr aw st fr' aw')(hc:LF l st (DR l)):SV l st=true:=JkI h.len (fun i d s=>Jve h) hc
def WDs (tab:Tab) (l:List DOper) (fr:Fr) (aw:AW) (acc:List Stp) (K:List Stp→Fr→AW→Prop):Prop:=WD tab l fr aw fun st f a=>K (acc.reverse++st) f a
variable {acc:List Stp} {K:List Stp→Fr→AW→Prop}
theorem O1 (h:K acc.reverse fr aw):WDs tab [] fr aw acc K:=by
 unfold WDs;rw[JvL,Kc];exact h
theorem M9 {l:List DOper}{s:Stp}(h:WDs tab l fr aw (s::acc) K):WD tab l fr aw (fun st f a=>K (acc.reverse++s::st) f a):=by
 unfold WDs at h;simpa using h
variable {d:DOper} {aw1:AW}
theorem Juo {l:List DOper}(hw:wanted (Om fr d.hide) d.op.guard=some true)(ha:aop d.op.op (Om fr d.hide) aw=some (.val v,aw1))(h:WDs tab l (OB fr d.op.dst v) aw1 (SE fr d.hide v aw aw1::acc) K):WDs tab (d::l) fr aw acc K:=by
 unfold WDs;rw[M7,CL,hw,ha];exact M9 h
theorem Jun {l:List DOper}(hw:wanted (Om fr d.hide) d.op.guard=some true)(ha:aop d.op.op (Om fr d.hide) aw=some (.skip,aw1))(h:WDs tab l (OB fr d.op.dst .undef) aw1 (SE fr d.hide .undef aw aw1::acc) K):WDs tab (d::l) fr aw acc K:=by
 unfold WDs;rw[M7,CL,hw,ha];exact M9 h
theorem JsC {l:List DOper}(hw:wanted (Om fr d.hide) d.op.guard=some false)(h:WDs tab l (OB fr d.op.dst .undef) aw (SE fr d.hide .undef aw aw::acc) K):WDs tab (d::l) fr aw acc K:=by
 unfold WDs;rw[M7,CL,hw];exact M9 h
theorem BJ {l:List DOper}{f:Nat}{args:List V}(hw:wanted (Om fr d.hide) d.op.guard=some true)(ha:aop d.op.op (Om fr d.hide) aw=some (.call f args,aw1))(h:WF tab f args aw1 (fun v a=>WDs tab l (OB fr d.op.dst v) a (SE fr d.hide v aw a::acc) K)):WDs tab (d::l) fr aw acc K:=by
 unfold WDs;rw[M7,CL,hw,ha];exact .inl (h.mono fun v a h=>M9 h)
theorem Bo {l:List DOper}{s:List SI}{Q:Fr→AW→Prop}(h:WDs tab l fr aw [] (fun st f a=>LF l st (DR l)∧WS tab s f a Q)):WS tab (.code (.drawn l)::s) fr aw Q:=by
 show WX tab (.drawn l) fr aw _;rw[JsH];obtain⟨st,f,a,h1,h2,h3⟩:=h;exact⟨st,f,a,h1,Jp5 h1 h2,h3⟩
inductive DS where
 | on (l:List DOper) (fr:Fr) (aw:AW) (acc:List Stp)
def D5:Nat→List DOper→Fr→AW→List Stp→DS
 | 0,l,fr,aw,acc=> .on l fr aw acc
 | n+1,[],fr,aw,acc=> .on [] fr aw acc
 | n+1,d::l,fr,aw,acc=>match wanted (Om fr d.hide) d.op.guard with
  | some true=>match aop d.op.op (Om fr d.hide) aw with
   | some (.val v,aw1)=>D5 n l (OB fr d.op.dst v) aw1 (SE fr d.hide v aw aw1::acc)
   | some (.skip,aw1)=>D5 n l (OB fr d.op.dst .undef) aw1 (SE fr d.hide .undef aw aw1::acc)
   | _=> .on (d::l) fr aw acc
  | some false=>D5 n l (OB fr d.op.dst .undef) aw (SE fr d.hide .undef aw aw::acc)
  | none=> .on (d::l) fr aw acc
theorem MK {K:List Stp→Fr→AW→Prop}:∀(n:Nat) {l l':List DOper} {fr fr':Fr} {aw aw':AW} {acc acc':List Stp},D5 n l fr aw acc = .on l' fr' aw' acc'→WDs tab l' fr' aw' acc' K→WDs tab l fr aw acc K
 | 0,l,l',fr,fr',aw,aw',acc,acc',h,hw=>by cases h;exact hw
 | n+1,[],l',fr,fr',aw,aw',acc,acc',h,hw=>by cases h;exact hw
 | n+1,d::l,l',fr,fr',aw,aw',acc,acc',h,hw=>by
  simp only[D5]at h;split at h
  ·rename_i h1;split at h
   ·rename_i h2;exact Juo h1 h2 (MK n h hw)
   ·rename_i h2;exact Jun h1 h2 (MK n h hw)
   ·cases h;exact hw
  ·rename_i h1;exact JsC h1 (MK n h hw)
  ·cases h;exact hw
theorem Jnd:∃f:Nat→List DOper→Fr→AW→List Stp→DS,f=D5:=⟨_,rfl⟩
@[irreducible] noncomputable def dRunE:Nat→List DOper→Fr→AW→List Stp→DS:=Classical.choose Jnd
theorem QK:dRunE=D5:=by unfold dRunE;exact Classical.choose_spec Jnd
theorem LU (n:Nat){l l':List DOper}{acc':List Stp}(h:dRunE n l fr aw acc = .on l' fr' aw' acc')(hw:WDs tab l' fr' aw' acc' K):WDs tab l fr aw acc K:=by
 rw[QK]at h;exact MK n h hw
theorem Jrr:dRunE (n+1) [] fr aw acc = .on [] fr aw acc:=by rw[QK];rfl
theorem Jp4 {l:List DOper}:dRunE (n+1) (d::l) fr aw acc=match wanted (Om fr d.hide) d.op.guard with
  | some true=>match aop d.op.op (Om fr d.hide) aw with
   | some (.val v,aw1)=>dRunE n l (OB fr d.op.dst v) aw1 (SE fr d.hide v aw aw1::acc)
   | some (.skip,aw1)=>dRunE n l (OB fr d.op.dst .undef) aw1 (SE fr d.hide .undef aw aw1::acc)
   | _=> .on (d::l) fr aw acc
  | some false=>dRunE n l (OB fr d.op.dst .undef) aw (SE fr d.hide .undef aw aw::acc)
  | none=> .on (d::l) fr aw acc:=by rw[QK];rfl
end
theorem Jmb:∀(l:List V) (i:Nat) (v:V),i<l.length→over l i [v]=some (l.set i v)
 | [],i,v,h=>by simp at h
 | x::l,0,v,h=>by simp[over]
 | x::l,i+1,v,h=>by simp only[over,Jmb l i v (by simpa using h),List.set_cons_succ]
theorem Qj {i:Nat}(hx:w.heap.get b=some (.cells l .own))(hi:i<l.length)(hv:v.one=true):w.store b i [v]=some (w.turn b (.cells (l.set i v) .own)):=by
 simp only[AW.store,hx,AW.alive,Lv,hv,Jmb l i v hi]
theorem Jrj {k:IntKind}{n:Int}:(V.int k n).cells=[.int k n]:=rfl
theorem JpU {b:Bool}:(V.bool b).cells=[.bool b]:=rfl
theorem Jrl {l:List Nat}:(V.str l).cells=[.str l]:=rfl
theorem Jri:(V.agg l).cells=l:=rfl
theorem Jou {o:Nat}{c:Cap}:(V.slice b o n c).cells=[.slice b o n c]:=rfl
theorem Jli:V.nilslice.cells=[.nilslice]:=rfl
theorem Jrk {o:Nat}:(V.ptr b o).cells=[.ptr b o]:=rfl
theorem Jm5:V.nilptr.cells=[.nilptr]:=rfl
theorem JwH:(false != false)=false:=rfl
theorem JwI:(false != true)=true:=rfl
theorem JwK:(true != false)=true:=rfl
theorem JwL:(true != true)=false:=rfl
attribute [go_sem] Jrr Jp4 JwH JwI JwK JwL Jrj JpU Jrl Jri Jou Jli Jrk Jm5
end
section
variable [Globs]
end
end Go.AE
