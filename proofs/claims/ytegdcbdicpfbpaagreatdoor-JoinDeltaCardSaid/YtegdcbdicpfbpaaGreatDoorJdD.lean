/- A part of the proof. -/
import Derived.Test.YtegdcbdicpfbpaaGreatDoorJdC
import Derived.LoopN
set_option linter.unusedVariables false
set_option linter.unusedSectionVars false
set_option linter.unusedSimpArgs false
namespace Go.AE
variable [Globs]
section
variable {P:Program} {o:Oper} {act:Act} {aw aw':AW} {w:World} {m:Map} {base N:Nat} {fr:Fr}
variable {t:TypeId} {x:Operand} {a:Opd} {ob:Option Nat} {es:List (V×V×Nat)} {ck:Nat}
theorem JoN (hR:R aw w m base)(hfr:FR m N fr act.tmps){kt el:TypeId}(ho:o.op = .range t x)(hx:La x=some a)(hu:P.underlying t=some (.map kt el))
 {mv:V}(h1:a.ev fr=some mv)(h3:aw.entries mv=some (ob,es,ck)):
  OpOK P o act aw (aw.new (.mapIter ob (match (generalizing:=false) ob with|some _=>ck|none=>0) [] (match (generalizing:=false) ob with|some _=>ck|none=>0))) w m base (.val (.ptr aw.next 0)):=by
 have e1:=Li hfr hx h1;have hnone:=Mi hR;rcases CU (P:=P) hR e1 h3 with⟨rfl,q2,_⟩|⟨b',e,es',rfl,q2,q3,q4,q5,q6,q7⟩
 ·obtain⟨r1,r2⟩:=hR.new (.mapIter none 0 [] 0) (.mapIter none 0 #[] 0) 0 rfl ⟨rfl,none,Cw w _,rfl⟩;refine⟨.pointer (some ⟨w.heap.size,0,none⟩),_,_,?_,⟨_,Map.set_same _ _ _,rfl⟩,r1,r2⟩;simp[execOp,ho,Instr.range,run_underlying hu,q2]
 ·obtain⟨r1,r2⟩:=hR.new (.mapIter (some b') ck [] ck) (.mapIter (some e.c) ck #[] ck) 0 rfl ⟨rfl,some e.c,Cw w _,e,Map.le_set hnone _ _ q3,rfl⟩;refine⟨.pointer (some ⟨w.heap.size,0,none⟩),_,_,?_,⟨_,Map.set_same _ _ _,rfl⟩,r1,r2⟩;simp[execOp,ho,Instr.range,run_underlying hu,q2,q7]
variable {r since last:Nat} {seen:List Nat}
theorem MO (hR:R aw w m base){x:Value}(hv:VR m (.ptr r 0) x)(h:aw.heap.get r=some (.mapIter ob since seen last)): ∃e q,x = .pointer (some ⟨e.c,0,none⟩)∧m r=some e∧w.heap[e.c]? = some (.mapIter q since seen.toArray last)∧MR m ob q∧(getObj e.c).run P w = .ok (.mapIter q since seen.toArray last) w:=by
 obtain⟨e,hm,rfl⟩:=hv;obtain⟨h0,q,h1,h2⟩:=hR.blk r e _ hm h;exact⟨e,q,by rw[h0],hm,h1,h2,by simp[getObj,Sem.run,h1]⟩
theorem Jiv {x:Nat}:∀{l:List Nat},l.contains x=OJ x l
 | []=>rfl
 | y::l=>by
  simp only[List.contains_cons,OJ];cases h:Nat.beq x y with
  | true=>rw[Nat.eq_of_beq_eq_true h];simp
  | false =>
   have:(x==y)=false:=by rw[beq_eq_false_iff_ne];intro he;rw[he,Nat.beq_refl]at h;cases h
   rw[this,Bool.false_or];exact Jiv
theorem ER.unseen {m:Map}{seen:List Nat}:∀{es:List (V×V×Nat)} {l:List MapEntry},ER m es l→ER m (unseen seen es) (l.filter fun e=>!seen.contains e.born)
 | [],l,h=>by cases h;rfl
 | (k,v,n)::es,l,h=>by
  obtain⟨e,l',rfl,h1,h2,h3,h4⟩:=h;have ih:=ER.unseen (seen:=seen) h4;rw[List.filter_cons,h3,Jiv];simp only[Go.AE.unseen];cases OJ n seen with
  | true=>simpa using ih
  | false=>exact⟨e,_,by simp,h1,h2,h3,ih⟩
theorem ER.old {m:Map}{since:Nat}:∀{es:List (V×V×Nat)} {l:List MapEntry},ER m es l→AA since es=true→∀e∈l,e.born<since
 | [],l,h,_=>by cases h;simp
 | (k,v,n)::es,l,h,ho=>by
  obtain⟨e,l',rfl,h1,h2,h3,h4⟩:=h;simp only[AA]at ho;split at ho
  ·rename_i hb;intro x hx;rcases List.mem_cons.1 hx with rfl|hx
   ·rw[h3];exact Nat.blt_eq.mp hb
   ·exact ER.old h4 ho x hx
  ·cases ho
theorem Jqg {α:Type}{p:α→Bool}{l:Array α}(h:∀x∈l,p x=true):l.filter p=l:=by
 apply Array.ext';rw[Array.toList_filter];exact List.filter_eq_self.2 fun x hx=>h x (by simpa using hx)
theorem JoB {α:Type}{p:α→Bool}{l:Array α}(h:∀x∈l,p x=false):l.filter p = #[]:=by
 apply Array.ext';rw[Array.toList_filter];exact List.filter_eq_nil_iff.2 fun x hx=>by have:=h x (by simpa using hx);simp[this]
theorem JnQ {e:Emb}{es':Array MapEntry}{mb:Nat}(h0:(getObj e.c).run P w = .ok (.mapIter (some mb) since seen.toArray last) w)(h1:(getObj mb).run P w = .ok (.map es' ck) w)
 (hold:∀x∈es'.toList,x.born<since)(hl:since≤last){left:Array MapEntry}(hleft:left=es'.filter fun x=>!seen.toArray.contains x.born):
  (Instr.next (.pointer (some ⟨e.c,0,none⟩)) false t).run P w=((do
   match ((if left.isEmpty then #[none]else #[])++left.map some)[←choose (.mapNext ((if left.isEmpty then #[none]else #[])++left.map some).size)]? with
   | some (some en) =>
    setObj e.c (.mapIter (some mb) since (seen.toArray.push en.born) ck)
    pure (.tuple #[.bool true,en.key,en.val])
   | some none=>pure (.tuple #[.bool false])
   | none=>stuck "Next: no such candidate" : Sem Value)).run P w:=by
 have g1:left.filter (fun x=>decide (x.born<since))=left:=Jqg fun x hx=>by
  subst hleft;have:=(Array.mem_filter.1 hx).1;simpa using hold x (by simpa using this)
 have g2:left.filter (fun x=>decide (x.born≥since)) = #[]:=JoB fun x hx=>by
  subst hleft;have:=(Array.mem_filter.1 hx).1;have:=hold x (by simpa using this);simpa using this
 have g3:(!seen.toArray.isEmpty && !es'.isEmpty&&es'.all (fun x=>decide (x.born≥last)))=false:=by
  cases hz:es'.isEmpty with
  | true=>simp
  | false =>
   have:∃x,x∈es':=by
    have hne:es'≠#[]:=by intro h;rw[h]at hz;simp at hz
    obtain⟨x,hx⟩:=Array.exists_mem_of_ne_empty es' hne;exact⟨x,hx⟩
   obtain⟨x,hx⟩:=this;have hb:=hold x (by simpa using hx)
   have:es'.all (fun x=>decide (x.born≥last))=false:=by
    obtain⟨i,hi,rfl⟩:=Array.mem_iff_getElem.1 hx;exact Array.all_eq_false.2 ⟨i,hi,by simp;omega⟩
   simp[this]
 simp only[Instr.next,Sem.run_bind,h0,h1,Result.andThen_ok,g3];rw[←hleft,g1,g2];simp[Sem.run_bind];rfl
theorem Jrm {n:Nat}(hn:0<n):∃i w1,i<n∧(w1=w∨w1=w.drew)∧(choose (.mapNext n)).run P w = .ok i w1:=by
 by_cases h:n≤1
 ·exact⟨0,w,hn,.inl rfl,by simp[choose,Sem.run,Question.forced,h]⟩
 ·exact⟨w.tape w.drawn (.mapNext n) % n,w.drew,Nat.mod_lt _ hn,.inr rfl,by simp only[choose,Sem.run,Question.forced,decide_eq_false h];rfl⟩
theorem JnP (hR:R aw w m base)(hfr:FR m N fr act.tmps)(ho:o.op = .next x false)(hx:La x=some a)(h1:a.ev fr=some (.ptr r 0))(h:(∃s q l,aw.heap.get r=some (.mapIter none s q l))∨∃b since seen last es ck,aw.heap.get r=some (.mapIter (some b) since seen last)∧aw.heap.get b=some (.map es ck)∧ since≤last∧AA since es=true∧unseen seen es=[]):OpOK P o act aw aw w m base (.val (.tuple [.bool false])):=by
 have e1:=Li hfr hx h1;refine OpOK.quiet hR (v':=.tuple #[.bool false]) ?_ ⟨_,rfl,_,[],rfl,rfl,rfl⟩;rcases h with⟨s,q,l,h2⟩|⟨b,since,seen,last,es,ck,h2,h3,h4,h5,h6⟩
 ·obtain⟨e,q',q1,q2,q3,q4,q5⟩:=MO (P:=P) hR e1 h2;cases q4;simp[execOp,ho,Instr.next,q1,q5]
 ·obtain⟨e,q',q1,q2,q3,q4,q5⟩:=MO (P:=P) hR e1 h2;obtain⟨eb,hb,rfl⟩:=q4;obtain⟨es',p1,p2⟩:=hR.blk b eb _ hb h3;have hg:(getObj eb.c).run P w = .ok (.map es' ck) w:=by simp[getObj,Sem.run,p1]
  have hu:=ER.unseen (seen:=seen) p2;rw[h6]at hu
  have hl:(es'.filter fun x=>!seen.toArray.contains x.born) = #[]:=by
   apply Array.ext';rw[Array.toList_filter];simp only[List.contains_toArray];exact hu
  have:=JnQ (t:=o.type) q5 hg (ER.old p2 h5) h4 rfl;rw[hl]at this;simp only[execOp,ho,q1,Sem.run_bind,this];simp[choose,Sem.run,Question.forced,Sem.run_bind]
theorem Ju9 (hR:R aw w m base)(hfr:FR m N fr act.tmps)(ho:o.op = .next x false)(hx:La x=some a){b:Nat}(h1:a.ev fr=some (.ptr r 0))(h2:aw.heap.get r=some (.mapIter (some b) since seen last))(h3:aw.heap.get b=some (.map es ck))(h4:since≤last)(h5:AA since es=true)(h6:unseen seen es≠[]): ∃k v n,(k,v,n)∈unseen seen es∧OpOK P o act aw (aw.turn r (.mapIter (some b) since (seen++[n]) ck)) w m base (.val (.tuple [.bool true,k,v])):=by
 have e1:=Li hfr hx h1;obtain⟨e,q',q1,q2,q3,q4,q5⟩:=MO (P:=P) hR e1 h2;have hmr:=q4;obtain⟨eb,hb,rfl⟩:=q4;obtain⟨es',p1,p2⟩:=hR.blk b eb _ hb h3;have hg:(getObj eb.c).run P w = .ok (.map es' ck) w:=by simp[getObj,Sem.run,p1]
 have hu:=ER.unseen (seen:=seen) p2;have hrun:=JnQ (t:=o.type) q5 hg (ER.old p2 h5) h4 rfl;generalize hleft:(es'.filter fun x=>!seen.toArray.contains x.born)=left at hrun;have hll:left.toList=es'.toList.filter fun x=>!seen.contains x.born:=by rw[←hleft,Array.toList_filter];simp
 rw[←hll]at hu;have hlen:=hu.length
 have hpos:0<left.size:=by
  have:0<(unseen seen es).length:=List.length_pos_iff.2 h6;rw[←hlen]at this;simpa using this
 have hne:left.isEmpty=false:=by simp;intro h;rw[h]at hpos;simp at hpos
 obtain⟨i,w1,i1,i2,i3⟩:=Jrm (P:=P) (w:=w) (n:=left.size) hpos;have hi:i<(unseen seen es).length:=by rw[←hlen];simpa using i1
 obtain⟨⟨k,v,n⟩,hk⟩:∃y,(unseen seen es)[i]? = some y:=⟨_,FB hi⟩;obtain⟨en,k0,k1,k2,k3⟩:=hu.get hk;have k0':left[i]? = some en:=by simpa using k0
 have h0:e.s=0:=(hR.blk r e _ q2 h2).1
 have hR1:R aw w1 m base∧Goes aw aw w w1 m m:=by
  rcases i2 with rfl|rfl
  ·exact⟨hR,.refl _ _ _⟩
  ·exact⟨hR.drew,.drew _ _ _⟩
 have q3':w1.heap[e.c]? = some (.mapIter (some eb.c) since seen.toArray last):=by rcases i2 with rfl|rfl<;>exact q3
 obtain⟨g1,g2⟩:=hR1.1.turn (o:=.mapIter (some eb.c) since (seen.toArray.push en.born) ck) (y:=.mapIter (some b) since (seen++[n]) ck) q2 h2 rfl (by simp[Blk.share]) rfl ⟨h0,some eb.c,by rw[IP (hR1.1.lt r e q2).2,k3];simp,hmr⟩;refine⟨k,v,n,FI hk,.tuple #[.bool true,en.key,en.val],_,m,?_,⟨_,rfl,_,_,rfl,rfl,_,_,rfl,k1,_,_,rfl,k2,rfl⟩,g1,hR1.2.trans hR g2⟩;have hcand:((if left.isEmpty then #[none]else #[])++left.map some)=left.map some:=by rw[hne];simp
 rw[hcand,Array.size_map]at hrun;simp only[execOp,ho,q1,Sem.run_bind,hrun,i3,Result.andThen_ok,Array.getElem?_map,k0',Option.map_some];simp[Sem.run_bind,Ct q3']
theorem JnF:∀{l:List Nat} {x:Nat},EG l=some x→l.getLast? = some x
 | [],x,h=>by cases h
 | [y],x,h=>by simpa[EG]using h
 | y::z::l,x,h=>by
  have:=JnF (l:=z::l) (x:=x) h;rw[List.getLast?_cons_cons];exact this
theorem ER.findS {m:Map}{st:Nat}{k v:V}:∀{es:List (V×V×Nat)} {l:List MapEntry},ER m es l→findS st es=some (k,v)→∃e,l.find? (fun e=>e.born==st)=some e∧VR m k e.key∧VR m v e.val
 | [],l,h,hf=>by cases hf
 | (k',v',n)::es,l,h,hf=>by
  obtain⟨e,l',rfl,h1,h2,h3,h4⟩:=h;simp only[Go.AE.findS]at hf;rw[List.find?_cons,h3];cases hb:Nat.beq n st with
  | true =>
   rw[hb]at hf;cases hf;have:(n==st)=true:=by rw[Nat.eq_of_beq_eq_true hb];simp
   rw[this];exact⟨e,rfl,h1,h2⟩
  | false =>
   rw[hb]at hf;have:(n==st)=false:=by rw[beq_eq_false_iff_ne];intro he;rw[he,Nat.beq_refl]at hb;cases hb
   rw[this];exact ER.findS h4 hf
theorem Js5 (hR:R aw w m base)(hfr:FR m N fr act.tmps)(ho:o.op = .entry x)(hx:La x=some a){b st:Nat}{k v:V}(h1:a.ev fr=some (.ptr r 0))(h2:aw.heap.get r=some (.mapIter (some b) since seen last))(h3:aw.heap.get b=some (.map es ck))(h4:EG seen=some st)(h5:ck=last)(h6:findS st es=some (k,v)): OpOK P o act aw aw w m base (.val (.tuple [k,v])):=by
 have e1:=Li hfr hx h1;obtain⟨e,q',q1,q2,q3,q4,q5⟩:=MO (P:=P) hR e1 h2;obtain⟨eb,hb,rfl⟩:=q4;obtain⟨es',p1,p2⟩:=hR.blk b eb _ hb h3;have hg:(getObj eb.c).run P w = .ok (.map es' ck) w:=by simp[getObj,Sem.run,p1]
 obtain⟨en,k0,k1,k2⟩:=p2.findS h6;have hback:seen.toArray.back? = some st:=by rw[←JnF h4];simp
 have k0':es'.find? (fun e=>e.born==st)=some en:=by rw[←k0];simp
 refine OpOK.quiet hR (v':=.tuple #[en.key,en.val]) ?_ ⟨_,rfl,_,_,rfl,k1,_,_,rfl,k2,rfl⟩;subst h5;simp[execOp,ho,Instr.entry,Sem.run_bind,q1,q5,hg,hback,k0']
end
section
variable [Globs]
section
variable {P:Program} {o:Oper} {act:Act} {aw aw':AW} {w:World} {m:Map} {base N:Nat} {fr:Fr}
variable {r:Res}
theorem SS {q:Option V}(h:valOf q aw=some (r,aw')):∃v,q=some v∧r = .val v∧aw'=aw:=by
 unfold valOf at h;split at h
 ·cases h;exact⟨_,rfl,rfl,rfl⟩
 ·cases h
variable {ar:List Opd}
theorem JuI (hfr:FR m N fr act.tmps){c:Call}{f:Operand}{a:Opd}(ho:o.op = .call c)(hcal:c.callee = .value f)(hf:La f=some a)(has:Ic c.args.toList=some ar){g:Nat}{first args cap:List V}(h1:a.ev fr=some (.func (.func g) first cap))(h2:evs fr ar=some args):OpOK P o act aw aw w m base (.call g (first++args++cap)):=by
 obtain⟨f',c',e1,e2,e3⟩:=Li hfr hf h1;have e4:=DC hfr has h2;refine⟨rfl,f'++c.args.map act.eval++c',?_,?_⟩
 ·simp only[execOp,ho,resolve,hcal,e1,Deferred.ofValue,Sem.run_bind,Sem.run_pure,Result.andThen_ok,invoke]
 ·simpa using (e2.append e4).append e3
theorem MF {name:String}{t:Nat}{r:Nat×Option (Nat×Bool)}:∀{l:List Nat},L9 (l.filterMap fun t=>match AC P t name with|some r=>some (t,r)|none=>none) t=some r→AC P t name=some r
 | [],h=>by simp[L9]at h
 | x::l,h=>by
  rw[List.filterMap_cons]at h;cases hm:AC P x name with
  | none=>rw[hm]at h;exact MF h
  | some q =>
   rw[hm]at h;simp only[L9]at h;split at h
   ·rename_i hb;have:=Nat.eq_of_beq_eq_true hb;subst this;rw[hm];exact h
   ·exact MF h
theorem Jvz {xt:TypeId}{a:Addr}{x y:String}:Builtin.ssaWrapNilChk_ #[xt] xt #[.pointer (some a),strVal x,strVal y]=pure (.pointer (some a)):=rfl
variable {name:String}
theorem JkZ {t:Nat}{f:Nat}{r:Option (Nat×Bool)}(h:AC P t name=some (f,r)){v':Value}: (r=none→(method (P.types.size+Made.depth) t v' name).run P w = .ok (f,v') w)∧ (∀n g,r=some (n,g)→∀a e,v' = .pointer (some a)→P.underlying t=some (.pointer e)→∀y,(loadVar e a).run P w = .ok y w→(method (P.types.size+Made.depth) t v' name).run P w = .ok (f,y) w)∧ (∀n g,r=some (n,g)→∃e,P.underlying t=some (.pointer e)∧sizeOf? P e=some n∧Sl P e=some g):=by
 rw[show P.types.size+Made.depth=(P.types.size+99)+1 from rfl];generalize P.types.size+99=fuel;unfold AC at h;split at h
 case h_2=>cases h
 rename_i i hi;split at h
 case h_2=>cases h
 rename_i mm hmm;split at h
 case h_2=>cases h
 rename_i f' pr hpath hfunc;have hempty:mm.path = #[]:=by apply Array.ext';exact hpath
 split at h
 ·rename_i e hu;split at h
  ·cases h;refine⟨fun _=>?_,fun _ _ h=>(by cases h),fun _ _ h=>(by cases h)⟩;simp[method,typeInfo,hi,hmm,hpath,follow,hfunc,receiverAt,run_underlying hu,Place.get]
  ·split at h
   ·rename_i n g hn hg;cases h;refine⟨fun h=>(by cases h),?_,fun n' g' h=>(by cases h;exact⟨e,hu,hn,hg⟩)⟩;rintro n' g' h a e' rfl he y hy;rw[hu]at he;cases he;simp[method,typeInfo,hi,hmm,hpath,follow,hfunc,receiverAt,run_underlying hu,Place.get,hempty,Jvz,asAddr,hy]
   ·cases h
 ·rename_i d hd hu;split at h
  ·cases h
  ·cases h;refine⟨fun _=>?_,fun _ _ h=>(by cases h),fun _ _ h=>(by cases h)⟩;simp[method,typeInfo,hi,hmm,hpath,follow,hfunc,receiverAt,run_underlying hu,Place.get]
   try (cases d<;>first|rfl|exact absurd rfl (hd _))
 ·cases h
variable {x:Operand}
theorem Jv9 (hR:R aw w m base)(hfr:FR m N fr act.tmps){c:Call}{a:Opd}(ho:o.op = .call c)(hcal:c.callee = .invoke x name)(hx:La x=some a)(has:Ic c.args.toList=some ar)(h:aop (.inv (Jpn P name) a ar) fr aw=some (r,aw')):OpOK P o act aw aw' w m base r:=by
 have exe:∀{t:Nat} {v':Value} {f:Nat} {y:Value},act.eval x = .iface t v'→(method (P.types.size+Made.depth) t v' name).run P w = .ok (f,y) w→(execOp act.eval o).run P w=(callFunc f (#[y]++c.args.map act.eval)).run P w:=by
  intro t v' f y e1 e2
  have e3:(#[Value.iface t v']++c.args.map act.eval).extract 1 (#[Value.iface t v']++c.args.map act.eval).size=c.args.map act.eval:=by
   apply Array.ext';simp;rw[FX Fj]
  have e4:(#[Value.iface t v']++c.args.map act.eval)[0]? = some (.iface t v'):=by rw[Array.getElem?_append_left (Nat.zero_lt_one:0<(#[Value.iface t v']).size)];rfl
  simp only[execOp,ho,resolve,hcal,e1,Sem.run_bind,Sem.run_pure,Result.andThen_ok,invoke];rw[e4,e3];simp only[callMethod,Sem.run_bind,run_program,Result.andThen_ok,e2]
 simp only[aop]at h;split at h
 case h_2=>cases h
 rename_i t v args h1 h2;obtain⟨v',e1,hv⟩:=Li hfr hx h1;have e4:=DC hfr has h2
 have lst:∀{u:V} {y:Value},VR m u y→VRs m (u::args) (#[y]++c.args.map act.eval).toList:=by
  intro u y h;rw[Array.toList_append,Array.toList_map];exact⟨y,_,rfl,h,e4⟩
 split at h
 ·rename_i f hl;cases h;have:=(JkZ (w:=w) (MF hl) (v':=v')).1 rfl;exact⟨rfl,_,exe e1 this,lst hv⟩
 ·rename_i f sz agg hl;obtain⟨_,k2,k3⟩:=JkZ (w:=w) (MF hl) (v':=v');obtain⟨e,hu,hn,hg⟩:=k3 _ _ rfl;split at h
  case h_2=>cases h
  rename_i b off;obtain⟨em,hm,rfl⟩:=hv;cases agg with
  | true =>
   simp only[]at h;split at h
   ·rename_i l hll;cases h;obtain⟨zs,q1,q2,q3⟩:=ME (P:=P) hR hm hll;have hy:(loadVar e ⟨em.c,em.s+off,none⟩).run P w = .ok (.agg zs.toArray) w:=by simp[loadVar,IW hg,TY hn,q3]
    exact⟨rfl,_,exe e1 (k2 _ _ rfl _ _ rfl hu _ hy),lst ⟨_,rfl,q2⟩⟩
   ·cases h
  | false =>
   simp only[]at h;split at h
   ·rename_i u hu';cases h;obtain⟨y,q1,q2⟩:=RQ (P:=P) hR hm hu';have hy:(loadVar e ⟨em.c,em.s+off,none⟩).run P w = .ok y w:=by simp only[loadVar,Sem.run_bind,IW hg,Result.andThen_ok,FM,if_false,q2]
    exact⟨rfl,_,exe e1 (k2 _ _ rfl _ _ rfl hu _ hy),lst q1⟩
   ·cases h
 ·cases h
theorem JuH (hR:R aw w m base)(hfr:FR m N fr act.tmps){op:BinOp}{t yt:TypeId}{y:Operand}{ao:AOp}(ho:o.op = .binOp op t x y yt)(hc:EL P op t x y=some ao)(h:aop ao fr aw=some (r,aw')): OpOK P o act aw aw' w m base r:=by
 unfold EL at hc;split at hc
 case h_2=>cases hc
 case h_1 =>
  rename_i a b ha hb
  have plain:∀{r aw'},aop (.bin op a b) fr aw=some (r,aw')→OpOK P o act aw aw' w m base r:=by
   intro r aw' h;simp only[aop]at h;split at h
   ·rename_i va vb h1 h2;obtain⟨v,h3,rfl,rfl⟩:=SS h;exact JvS hR hfr ho ha hb h1 h2 h3
   ·cases h
  have eqs:∀{neg:Bool} {ty:EqTy} {r aw'},op=(if neg then .neq else .eql)→Jng P t ty→(ty = .iface→Ce x=true∨Ce y=true)→aop (.eqv neg ty a b) fr aw=some (r,aw')→OpOK P o act aw aw' w m base r:=by
   intro neg ty r aw' hop ht hn h;simp only[aop]at h;split at h
   ·rename_i va vb h1 h2;split at h
    ·rename_i q hq;cases h;exact Jv2 hR hfr (by rw[ho,hop]) ha hb ht hn h1 h2 hq
    ·cases h
   ·cases h
  split at hc
  ·cases hc;exact plain h
  ·cases hc;exact plain h
  ·rename_i d hd1 hd2 hu;split at hc
   ·cases hc
   ·rename_i neg hneg
    have hop:op=(if neg then .neq else .eql):=by
     cases op<;>simp at hneg<;>subst hneg<;>rfl
    split at hc
    ·cases hc;exact eqs (ty:=.bool) hop hu Fj h
    ·rename_i e;split at hc
     ·rename_i n hn;cases hc;exact eqs (ty:=.ptr) hop ⟨e,n,hu,hn⟩ Fj h
     ·cases hc
    ·rename_i e;cases hc;exact eqs (ty:=.slice) hop ⟨e,hu⟩ Fj h
    ·rename_i k e;cases hc;exact eqs (ty:=.map) hop ⟨k,e,hu⟩ Fj h
    ·rename_i p q e;cases hc;exact eqs (ty:=.func) hop ⟨p,q,e,hu⟩ Fj h
    ·rename_i ms;split at hc
     ·rename_i hn;cases hc;exact eqs (ty:=.iface) hop ⟨ms,hu⟩ (fun _=>by simpa using hn) h
     ·cases hc
    ·rename_i fs;split at hc
     ·rename_i l hst hg hf;cases hc;simp only[aop]at h;split at h
      ·rename_i va vb h1 h2;split at h
       ·rename_i q hq;cases h;exact Js6 hR hfr (by rw[ho,hop]) ha hb hu hst hg hf h1 h2 hq
       ·cases h
      ·cases h
     ·cases hc
    ·cases hc
  ·cases hc
theorem JnM:∀{v:V} {rest:List V} {r:V} {x:Value} {xs:List Value},EN v rest=some r→VR m v x→VRs m rest xs→∃y,(xs.foldlM Builtin.min2 x).run P w = .ok y w∧VR m r y
 | v,[],r,x,xs,h,hv,hr=>by
  have:r=v:=by unfold EN at h;cases h;rfl
  subst this;cases hr;exact⟨x,rfl,hv⟩
 | v,u::rest,r,x,xs,h,hv,hr=>by
  unfold EN at h;split at h
  ·rename_i heq;cases heq
  ·rename_i k a k' b rest' heq;cases heq;obtain⟨y,ys,rfl,h1,h2⟩:=hr;cases hv;cases h1;obtain⟨y,q1,q2⟩:=JnM h (x:=.int k (if b<a then b else a)) rfl h2;refine⟨y,?_,q2⟩;simp only[List.foldlM_cons,Builtin.min2,Sem.run_bind,Sem.run_pure,Result.andThen_ok];exact q1
  ·cases h
theorem JnJ:∀{v:V} {rest:List V} {r:V} {x:Value} {xs:List Value},EM v rest=some r→VR m v x→VRs m rest xs→∃y,(xs.foldlM Builtin.max2 x).run P w = .ok y w∧VR m r y
 | v,[],r,x,xs,h,hv,hr=>by
  have:r=v:=by unfold EM at h;cases h;rfl
  subst this;cases hr;exact⟨x,rfl,hv⟩
 | v,u::rest,r,x,xs,h,hv,hr=>by
  unfold EM at h;split at h
  ·rename_i heq;cases heq
  ·rename_i k a k' b rest' heq;cases heq;obtain⟨y,ys,rfl,h1,h2⟩:=hr;cases hv;cases h1;obtain⟨y,q1,q2⟩:=JnJ h (x:=.int k (if a<b then b else a)) rfl h2;refine⟨y,?_,q2⟩;simp only[List.foldlM_cons,Builtin.max2,Sem.run_bind,Sem.run_pure,Result.andThen_ok];exact q1
  ·cases h
theorem Jor (hR:R aw w m base)(hfr:FR m N fr act.tmps){bi:Builtin}{args:Array Operand}{ts:Array TypeId}{ao:AOp}(ho:o.op = .call {callee:=.builtin bi,args:=args,argTypes:=ts})
 (hc:Ef P bi ts.toList args.toList=some ao)(h:aop ao fr aw=some (r,aw')):OpOK P o act aw aw' w m base r:=by
 unfold Ef at hc;split at hc
 ·-- len
  rename_i t x hts hargs;split at hc
  ·rename_i a ha;split at hc
   ·rename_i hu;cases hc;simp only[aop]at h;split at h
    ·rename_i l h1;cases h;exact len_ok hR hfr ho hts hargs ha hu (.inl rfl) h1 (.inl ⟨⟨l,rfl,rfl⟩,rfl⟩)
    ·cases h
   ·rename_i e hu;cases hc;simp only[aop]at h;split at h
    ·rename_i v h1;cases v<;>simp only[lenV]at h<;>first|(cases h;done)|skip
     case slice b off n cap=>cases h;exact len_ok hR hfr ho hts hargs ha hu (.inr ⟨e,rfl⟩) h1 (.inr ⟨.inl ⟨b,off,cap,rfl⟩,e,rfl⟩)
     case nilslice=>cases h;exact len_ok hR hfr ho hts hargs ha hu (.inr ⟨e,rfl⟩) h1 (.inr ⟨.inr ⟨rfl,rfl⟩,e,rfl⟩)
    ·cases h
   ·rename_i hu;cases hc;simp only[aop]at h;split at h
    ·rename_i mv h1;split at h
     ·rename_i ob es ck h2;cases h;exact JrO hR hfr ho hts hargs ha hu h1 h2
     ·cases h
    ·cases h
   ·rename_i n e hu;cases hc;simp only[aop]at h;cases h;exact JrN hR ho hts hargs hu
   ·cases hc
  ·cases hc
 ·-- cap
  rename_i t x hts hargs;split at hc
  ·rename_i a ha;split at hc
   ·rename_i e hu;cases hc;simp only[aop]at h;split at h
    ·rename_i b off n c h1;cases h;exact Jrh hR hfr ho hts hargs ha hu h1 (.inl ⟨b,off,n,rfl⟩)
    ·rename_i h1;cases h;exact Jrh hR hfr ho hts hargs ha hu h1 (.inr ⟨rfl,rfl⟩)
    ·cases h
   ·cases hc
  ·cases hc
 ·-- append
  rename_i t u s x hts hargs;split at hc
  ·rename_i a b ha hb;split at hc
   ·rename_i e d hu1 hu2;split at hc
    ·cases hc
    ·rename_i hd;split at hc
     ·rename_i i hi;split at hc
      ·rename_i z hz;split at hc
       ·rename_i hzs;cases hc;simp only[aop]at h;split at h
        ·rename_i sv xv h1 h2;split at h
         ·rename_i k news h3;split at h
          ·rename_i v aw1 h4;cases h;exact Jq7 hR hfr ho hts hargs ha hb hu1 hu2 (fun k hk=>hd k hk) hi hz hzs h1 h2 h3 h4
          ·cases h
         ·cases h
        ·cases h
       ·cases hc
      ·cases hc
     ·cases hc
   ·cases hc
  ·cases hc
 ·-- copy
  rename_i t tr d s hts hargs;split at hc
  ·rename_i a b ha hb;split at hc
   ·rename_i e hu;split at hc
    ·rename_i n hn;cases hc;simp only[aop]at h;split at h
     ·rename_i bk off len cap sv h1 h2;split at h
      ·rename_i k l h3;split at h
       ·rename_i cs h4;split at h
        ·cases h;exact Jo6 hR hfr ho hts hargs ha hb hu hn h1 h2 h3 h4 (.inl ⟨rfl,rfl⟩)
        ·rename_i hne;split at h
         ·rename_i aw1 h5;cases h;exact Jo6 hR hfr ho hts hargs ha hb hu hn h1 h2 h3 h4 (.inr ⟨fun hq=>hne hq,h5⟩)
         ·cases h
       ·cases h
      ·cases h
     ·rename_i sv h1 h2;split at h
      ·rename_i k l h3;cases h;exact JpZ hR hfr ho hts hargs ha hb hu hn h1 h2 h3
      ·cases h
     ·cases h
    ·cases hc
   ·cases hc
  ·cases hc
 ·-- clear
  rename_i t tr x hts hargs;split at hc
  ·rename_i a ha;split at hc
   ·rename_i e hu;split at hc
    ·rename_i z hz;cases hc;simp only[aop]at h;split at h
     ·rename_i h1;cases h;exact QJ hR hfr ho hts hargs ha hu hz h1 (.inl ⟨.inl rfl,rfl⟩)
     ·rename_i b off len cap h1;cases len with
      | zero=>cases h;exact QJ hR hfr ho hts hargs ha hu hz h1 (.inl ⟨.inr ⟨b,off,cap,rfl⟩,rfl⟩)
      | succ len =>
       have h:(match aw.store b off ((List.replicate (len+1) z.cells).flatten)with
        | some aw'=>some (Res.val (.tuple []),aw')
        | none=>none)=some (r,aw'):=h
       split at h
       ·rename_i aw1 hst;cases h;exact QJ hR hfr ho hts hargs ha hu hz h1 (.inr ⟨b,off,len,cap,rfl,hst⟩)
       ·cases h
     ·cases h
    ·cases hc
   ·rename_i kt el hu;cases hc;simp only[aop]at h;split at h
    ·rename_i mv h1;split at h
     ·rename_i es ck h3;cases h;exact Jjr hR hfr ho hts hargs ha hu h1 h3
     ·rename_i bk es ck h3;cases h;exact Jjr hR hfr ho hts hargs ha hu h1 h3
     ·cases h
    ·cases h
   ·cases hc
  ·cases hc
 ·-- min
  rename_i xs hts hargs;split at hc
  ·rename_i ar has;cases hc;simp only[aop]at h;split at h
   ·rename_i v rest h1;obtain⟨q,h2,rfl,rfl⟩:=SS h;have e1:=DC hfr has h1;obtain⟨y,ys,hy,k1,k2⟩:=e1;obtain⟨u,k3,k4⟩:=JnM (P:=P) (w:=w) h2 k1 k2;refine OpOK.quiet hR ?_ k4;refine TD ho (vs:=args.map act.eval) rfl (fun _=>rfl) ?_;simp only[Builtin.min_,Array.toList_map,hy];exact k3
   ·cases h
  ·cases hc
 ·-- max
  rename_i xs hts hargs;split at hc
  ·rename_i ar has;cases hc;simp only[aop]at h;split at h
   ·rename_i v rest h1;obtain⟨q,h2,rfl,rfl⟩:=SS h;have e1:=DC hfr has h1;obtain⟨y,ys,hy,k1,k2⟩:=e1;obtain⟨u,k3,k4⟩:=JnJ (P:=P) (w:=w) h2 k1 k2;refine OpOK.quiet hR ?_ k4;refine TD ho (vs:=args.map act.eval) rfl (fun _=>rfl) ?_;simp only[Builtin.max_,Array.toList_map,hy];exact k3
   ·cases h
  ·cases hc
 ·-- delete
  rename_i t tr x k hts hargs;split at hc
  ·rename_i a b ha hb;split at hc
   ·rename_i kt el hu;split at hc
    ·rename_i ty hty;cases hc;simp only[aop]at h;split at h
     ·rename_i mv kv h1 h2;split at h
      ·rename_i es ck h3 hok;cases h;exact RH hR hfr ho hts hargs ha hb hu hty h1 h2 h3 hok (.inl ⟨rfl,rfl⟩)
      ·rename_i bk es ck h3 hok;split at h
       ·rename_i i v n h4;cases h;exact RH hR hfr ho hts hargs ha hb hu hty h1 h2 h3 hok (.inr ⟨bk,_,rfl,h4,rfl⟩)
       ·rename_i h4;cases h;exact RH hR hfr ho hts hargs ha hb hu hty h1 h2 h3 hok (.inr ⟨bk,_,rfl,h4,rfl⟩)
       ·cases h
      ·cases h
     ·cases h
    ·cases hc
   ·cases hc
  ·cases hc
 ·cases hc
end
end
section
variable [Globs]
section
variable {P:Program} {o:Oper} {act:Act} {aw aw':AW} {w:World} {m:Map} {base N:Nat} {fr:Fr}
theorem JvR (hR:R aw w m base)(hfr:FR m N fr act.tmps){ao:AOp}{r:Res}(hc:cOp P o.op=some ao)(h:aop ao fr aw=some (r,aw')):OpOK P o act aw aw' w m base r:=by
 have mov:∀{x:Operand} {a:Opd} {r aw'},(o.op = .move x∨o.op = .assign x)→La x=some a→aop (.mov a) fr aw=some (r,aw')→OpOK P o act aw aw' w m base r:=by
  intro x a r aw' ho hx h;simp only[aop]at h;obtain⟨v,h1,rfl,rfl⟩:=SS h;exact Jwh hR hfr ho hx h1
 cases ho:o.op<;>rw[ho]at hc<;>simp only[cOp]at hc
 case move x =>
  split at hc
  ·rename_i a ha;cases hc;exact mov (.inl ho) ha h
  ·cases hc
 case assign x =>
  split at hc
  ·rename_i a ha;cases hc;exact mov (.inr ho) ha h
  ·cases hc
 case pick c x y =>
  split at hc
  ·rename_i c' a b h1 h2 h3;cases hc;simp only[aop]at h;split at h
   ·rename_i hb;obtain⟨v,h4,rfl,rfl⟩:=SS h;exact Jpu hR hfr ho h1 h2 h3 hb (by simpa using h4)
   ·rename_i hb;obtain⟨v,h4,rfl,rfl⟩:=SS h;exact Jpu hR hfr ho h1 h2 h3 hb (by simpa using h4)
   ·cases h
  ·cases hc
 case alloc t =>
  split at hc
  ·rename_i z hz;cases hc;cases h;exact JsK hR ho hz
  ·cases hc
 case box t x =>
  split at hc
  ·rename_i a ha;cases hc;simp only[aop]at h;split at h
   ·rename_i v hv;cases h;exact JvU hR hfr ho ha hv
   ·cases h
  ·cases hc
 case build t parts =>
  split at hc
  ·rename_i z hz;split at hc
   ·rename_i fs hu;split at hc
    ·rename_i ps hps;split at hc
     ·rename_i q hq;cases hc;simp only[aop]at h;split at h
      ·rename_i ps' h1;split at h
       ·rename_i l h2;cases h;exact Jrf hR hfr ho hz hu hps hq h1 h2
       ·cases h
      ·cases h
     ·cases hc
    ·cases hc
   ·rename_i k e hu;split at hc
    ·rename_i n hn;split at hc
     ·rename_i q hq;cases hc;simp only[aop]at h;split at h
      ·rename_i ps' h1;split at h
       ·rename_i l h2;cases h;exact Jre hR hfr ho hz hu hn hq h1 h2
       ·cases h
      ·cases h
     ·cases hc
    ·cases hc
   ·cases hc
  ·cases hc
 case buildSlice t len parts =>
  split at hc
  ·rename_i e hu;split at hc
   ·rename_i i hi;split at hc
    ·rename_i hmax;split at hc
     ·rename_i h0;split at hc
      ·rename_i q hq;cases hc;simp only[aop]at h;split at h
       ·rename_i ps' h1;split at h
        ·rename_i l h2;cases h;exact Jir hR hfr ho hu hi hmax (.inl ⟨h0,rfl⟩) hq h1 h2
        ·cases h
       ·cases h
      ·cases hc
     ·rename_i h0;split at hc
      ·rename_i z hz;split at hc
       ·rename_i hzl;split at hc
        ·rename_i q hq;cases hc;simp only[aop]at h;split at h
         ·rename_i ps' h1;split at h
          ·rename_i l h2;cases h;exact Jir hR hfr ho hu hi hmax (.inr ⟨h0,z,hz,hzl,rfl⟩) hq h1 h2
          ·cases h
         ·cases h
        ·cases hc
       ·cases hc
      ·cases hc
    ·cases hc
   ·cases hc
  ·cases hc
 case insert t x k y =>
  split at hc
  ·rename_i a b c h1 h2 h3;split at hc
   ·rename_i kt el hu;split at hc
    ·rename_i ty hty;cases hc;simp only[aop]at h;split at h
     ·rename_i mv kv v e1 e2 e3;unfold AW.putV at h;split at h
      ·rename_i aw2 hq;split at hq
       ·rename_i bk es ck e4 e5;split at hq
        ·rename_i i v0 n e6;cases hq;cases h;exact Mc hR hfr (.inr ho) h1 h2 h3 hu hty e1 e2 e3 e4 e5 e6
        ·rename_i e6;cases hq;cases h;exact Mc hR hfr (.inr ho) h1 h2 h3 hu hty e1 e2 e3 e4 e5 e6
        ·cases hq
       ·cases hq
      ·cases h
     ·cases h
    ·cases hc
   ·cases hc
  ·cases hc
 case load t x =>
  split at hc
  ·rename_i a ha;split at hc
   ·rename_i n g hn hg;cases hc;simp only[aop]at h;split at h
    ·rename_i b off h1;cases g with
     | true =>
      simp only[]at h;split at h
      ·rename_i l h2;cases h;exact Jtz hR hfr ho ha hn hg h1 h2
      ·cases h
     | false =>
      simp only[]at h;split at h
      ·rename_i v h2;cases h;exact Jty hR hfr ho ha hg h1 h2
      ·cases h
    ·cases h
   ·cases hc
  ·cases hc
 case store t x v =>
  split at hc
  ·rename_i a b ha hb;split at hc
   ·rename_i n hn;cases hc;simp only[aop]at h;split at h
    ·rename_i bk off vv h1 h2;split at h
     ·rename_i hl;split at h
      ·rename_i aw1 hst;cases h;exact Jt5 hR hfr ho ha hb hn h1 h2 hl hst
      ·cases h
     ·cases h
    ·cases h
   ·cases hc
  ·cases hc
 case nilCheck x =>
  split at hc
  ·rename_i a ha;cases hc;simp only[aop]at h;split at h
   ·rename_i b off h1;cases h;exact Rq hR hfr ho ha h1 (.inl ⟨b,off,rfl⟩)
   ·rename_i f p q h1;cases h;exact Rq hR hfr ho ha h1 (.inr (.inl ⟨f,p,q,rfl⟩))
   ·rename_i t v h1;cases h;exact Rq hR hfr ho ha h1 (.inr (.inr ⟨t,v,rfl⟩))
   ·cases h
  ·cases hc
 case binOp op t x y yt=>exact JuH hR hfr ho hc h
 case unOp op t x =>
  split at hc
  ·rename_i a ha;cases hc;simp only[aop]at h;split at h
   ·rename_i va h1;obtain⟨v,h2,rfl,rfl⟩:=SS h;exact JwN hR hfr ho ha h1 h2
   ·cases h
  ·cases hc
 case convert src dst x =>
  split at hc
  ·rename_i a ha;split at hc
   ·rename_i k0 k hs hd;cases hc;simp only[aop]at h;split at h
    ·rename_i k' n h1;cases h;exact JuK hR hfr ho hs hd ha h1
    ·cases h
   ·rename_i hs hd;cases hc;simp only[aop]at h;split at h
    ·rename_i l h1;cases h;exact JpY hR hfr ho hs hd ha h1
    ·cases h
   ·rename_i e hs hd;split at hc
    ·rename_i he;cases hc;simp only[aop]at h;split at h
     ·rename_i l h1;split at h
      ·rename_i hl;cases h;exact JpS hR hfr ho hs hd he ha h1 hl
      ·cases h
     ·cases h
    ·cases hc
   ·rename_i e hs hd;split at hc
    ·rename_i he;cases hc;simp only[aop]at h;split at h
     ·rename_i h1;cases h;exact Joe hR hfr ho hs hd he ha h1 (.inl ⟨rfl,rfl⟩)
     ·rename_i b off len cap h1;split at h
      ·rename_i n l h2;split at h
       ·rename_i cs h3;cases h;exact Joe hR hfr ho hs hd he ha h1 (.inr ⟨b,off,len,cap,n,l,rfl,h2,h3⟩)
       ·cases h
      ·cases h
     ·cases h
    ·cases hc
   ·cases hc
  ·cases hc
 case makeInterface t x =>
  split at hc
  ·rename_i a ha;split at hc
   ·cases hc
   ·rename_i d hd hu;cases hc;simp only[aop]at h;split at h
    ·rename_i v h1;cases h;exact JqC hR hfr ho ha hu (fun ms hm=>hd ms hm) h1
    ·cases h
   ·cases hc
  ·cases hc
 case makeFunc fn first cap =>
  split at hc
  ·rename_i f c hf hcp;cases hc;simp only[aop]at h;split at h
   ·rename_i vf vc h1 h2;cases h;exact JrS hR hfr ho hf hcp h1 h2
   ·cases h
  ·cases hc
 case makeMap t res =>
  cases res with
  | none=>cases hc;cases h;exact JtE hR ho
  | some q=>cases hc
 case makeSlice t l c =>
  split at hc
  ·rename_i a b ha hb;split at hc
   ·rename_i e hu;split at hc
    ·rename_i i z hi hz;split at hc
     ·rename_i hcond;cases hc;simp only[aop]at h;split at h
      ·rename_i lv cv h1 h2;split at h
       ·rename_i ln cn h3 h4;split at h
        ·rename_i hb';cases h;exact JqD hR hfr ho ha hb hu hi hz hcond.1 hcond.2 h1 h2 h3 h4 hb'.1 hb'.2.1 hb'.2.2
        ·cases h
       ·cases h
      ·cases h
     ·cases hc
    ·cases hc
   ·cases hc
  ·cases hc
 case slice t x lo hi mx =>
  split at hc
  ·rename_i a al ah am ha hl hh hm;split at hc
   ·rename_i hu;split at hc
    ·cases hc;cases mx with
     | some q =>
      simp only[TI]at hm;split at hm<;>cases hm
     | none =>
      simp only[aop]at h;split at h
      ·rename_i s l hh' h1 h2 h3;split at h
       ·rename_i hb;cases h;exact JoR hR hfr ho ha hl hh hu h1 h2 h3 hb.1 hb.2
       ·cases h
      ·cases h
    ·cases hc
   ·rename_i e hu;split at hc
    ·rename_i n hn;cases hc;simp only[aop]at h;split at h
     ·rename_i b off len cap l hh' q h1 h2 h3 h4;obtain⟨v,h5,rfl,rfl⟩:=SS h;exact Jt1 hR hfr ho ha hl hh hm hu hn h1 h2 h3 h4 h5
     ·rename_i l hh' q h1 h2 h3 h4;split at h
      ·rename_i z1 z2 z3;split at h
       ·rename_i hb;cases h;exact JoQ hR hfr ho ha hl hh hm hu hn h1 h2 h3 h4 z1 z2 z3 hb
       ·cases h
      ·cases h
     ·cases h
    ·cases hc
   ·rename_i k e hu;split at hc
    ·rename_i n hn;cases hc;simp only[aop]at h;split at h
     ·rename_i b off l hh' q h1 h2 h3 h4;obtain⟨v,h5,rfl,rfl⟩:=SS h;exact JoP hR hfr ho ha hl hh hm hu hn h1 h2 h3 h4 h5
     ·cases h
    ·cases hc
   ·cases hc
  ·cases hc
 case fieldAddr s x f =>
  split at hc
  ·rename_i a ha;split at hc
   ·rename_i fs hu;split at hc
    ·rename_i fd hf;split at hc
     ·rename_i n hn;cases hc;simp only[aop]at h;split at h
      ·rename_i b off h1;cases h;exact Jnj hR hfr ho ha hu hf hn h1
      ·cases h
     ·cases hc
    ·cases hc
   ·cases hc
  ·cases hc
 case field t x f =>
  split at hc
  ·rename_i a ha;split at hc
   ·rename_i fs hu;split at hc
    ·rename_i fd hf;split at hc
     ·rename_i n g hn hg;cases hc;simp only[aop]at h;split at h
      ·rename_i l h1;obtain⟨v,h5,rfl,rfl⟩:=SS h;exact Jtc hR hfr ho ha hu hf hn hg h1 h5
      ·cases h
     ·cases hc
    ·cases hc
   ·cases hc
  ·cases hc
 case indexAddr t x i =>
  split at hc
  ·rename_i a b ha hb;split at hc
   ·rename_i e hu;split at hc
    ·rename_i n hn;cases hc;simp only[aop]at h;split at h
     ·rename_i bk off len cap iv h1 h2;split at h
      ·rename_i j hj;split at h
       ·rename_i hlt;cases h;exact Jny hR hfr ho ha hb hu hn h1 h2 hj hlt
       ·cases h
      ·cases h
     ·cases h
    ·cases hc
   ·rename_i k e hu;split at hc
    ·rename_i n hn;cases hc;simp only[aop]at h;split at h
     ·rename_i bk off iv h1 h2;split at h
      ·rename_i j hj;split at h
       ·rename_i hlt;cases h;exact JoF hR hfr ho ha hb hu hn h1 h2 hj hlt
       ·cases h
      ·cases h
     ·cases h
    ·cases hc
   ·cases hc
  ·cases hc
 case index t x i =>
  split at hc
  ·rename_i a b ha hb;split at hc
   ·rename_i hu;cases hc;simp only[aop]at h;split at h
    ·rename_i l iv h1 h2;split at h
     ·rename_i j hj;split at h
      ·rename_i c hcx;cases h;exact JoG hR hfr ho ha hb hu h1 h2 hj hcx
      ·cases h
     ·cases h
    ·cases h
   ·rename_i k e hu;split at hc
    ·rename_i n g hn hg;cases hc;simp only[aop]at h;split at h
     ·rename_i l iv h1 h2;split at h
      ·rename_i j hj;split at h
       ·rename_i hlt;obtain⟨v,h5,rfl,rfl⟩:=SS h;exact JoE hR hfr ho ha hb hu hn hg h1 h2 hj hlt h5
       ·cases h
      ·cases h
     ·cases h
    ·cases hc
   ·cases hc
  ·cases hc
 case lookup t x k ok =>
  split at hc
  ·rename_i a b ha hb;split at hc
   ·rename_i kt el hu;split at hc
    ·rename_i ty z hty hz;cases hc;simp only[aop]at h;split at h
     ·rename_i mv kv h1 h2;unfold AW.lookV at h;split at h
      ·rename_i v b hq;split at hq
       ·rename_i ob es ck h3 h4;split at hq
        ·rename_i i v n h5;cases hq;cases h;exact Jl4 hR hfr ho ha hb hu hty hz h1 h2 h3 h4 h5
        ·rename_i h5;cases hq;cases h;exact Jl4 hR hfr ho ha hb hu hty hz h1 h2 h3 h4 h5
        ·cases hq
       ·cases hq
      ·cases h
     ·cases h
    ·cases hc
   ·cases hc
  ·cases hc
 case mapUpdate t x k y =>
  split at hc
  ·rename_i a b c h1 h2 h3;split at hc
   ·rename_i kt el hu;split at hc
    ·rename_i ty hty;cases hc;simp only[aop]at h;split at h
     ·rename_i mv kv v e1 e2 e3;unfold AW.putV at h;split at h
      ·rename_i aw2 hq;split at hq
       ·rename_i bk es ck e4 e5;split at hq
        ·rename_i i v0 n e6;cases hq;cases h;exact Mc hR hfr (.inl ho) h1 h2 h3 hu hty e1 e2 e3 e4 e5 e6
        ·rename_i e6;cases hq;cases h;exact Mc hR hfr (.inl ho) h1 h2 h3 hu hty e1 e2 e3 e4 e5 e6
        ·cases hq
       ·cases hq
      ·cases h
     ·cases h
    ·cases hc
   ·cases hc
  ·cases hc
 case mapEntry t x k =>
  split at hc
  ·rename_i a b ha hb;split at hc
   ·rename_i kt el hu;split at hc
    ·rename_i ty z hty hz;cases hc;simp only[aop]at h;split at h
     ·rename_i mv kv h1 h2;split at h
      ·rename_i bk es ck h3 h4;split at h
       ·rename_i i v n h5;cases h;exact JjE hR hfr ho ha hb hu hty hz h1 h2 h3 h4 h5
       ·rename_i h5;cases h;exact JjE hR hfr ho ha hb hu hty hz h1 h2 h3 h4 h5
       ·cases h
      ·cases h
     ·cases h
    ·cases hc
   ·cases hc
  ·cases hc
 case entryStore t x s y =>
  split at hc
  ·rename_i a b c h1 h2 h3;cases hc;simp only[aop]at h;split at h
   ·rename_i mv sv v e1 e2 e3;split at h
    ·rename_i bk es ck n e4 e5;split at h
     ·rename_i i e6;split at h
      ·rename_i k v0 n' e7;cases h;exact Jmr hR hfr ho h1 h2 h3 e1 e2 e3 e4 e5 e6 e7
      ·cases h
     ·cases h
    ·cases h
   ·cases h
  ·cases hc
 case range t x =>
  split at hc
  ·rename_i a ha;split at hc
   ·rename_i kt el hu;cases hc;simp only[aop]at h;split at h
    ·rename_i mv h1;split at h
     ·rename_i ob es ck h2;cases h;exact JoN hR hfr ho ha hu h1 h2
     ·cases h
    ·cases h
   ·cases hc
  ·cases hc
 case next x isS =>
  cases isS with
  | true=>cases hc
  | false =>
   simp only[]at hc;split at hc
   ·rename_i a ha;cases hc;simp only[aop]at h;split at h
    ·rename_i q h1;split at h
     ·rename_i s1 s2 s3 h2;cases h;exact JnP hR hfr ho ha h1 (.inl ⟨_,_,_,h2⟩)
     ·rename_i b since seen last h2;split at h
      ·rename_i es ck h3;split at h
       ·rename_i hb;simp only[FT]at hb;have hle:=Nat.le_of_ble_eq_true hb.1;split at h
        ·rename_i hu;cases h;exact JnP hR hfr ho ha h1 (.inr ⟨b,since,seen,last,_,ck,h2,h3,hle,hb.2,hu⟩)
        ·rename_i k v n hu;cases h;obtain⟨k',v',n',hm,hok⟩:=Ju9 hR hfr ho ha h1 h2 h3 hle hb.2 (by rw[hu];simp);rw[hu]at hm;simp only[Ko,Prod.mk.injEq]at hm;obtain⟨rfl,rfl,rfl⟩:=hm;exact hok
        ·cases h
       ·cases h
      ·cases h
     ·cases h
    ·cases h
   ·cases hc
 case entry x =>
  split at hc
  ·rename_i a ha;cases hc;simp only[aop]at h;split at h
   ·rename_i q h1;split at h
    ·rename_i b since seen last h2;split at h
     ·rename_i es ck st h3 h4;split at h
      ·rename_i hb;split at h
       ·rename_i k v h6;cases h;exact Js5 hR hfr ho ha h1 h2 h3 h4 (Nat.eq_of_beq_eq_true hb) h6
       ·cases h
      ·cases h
     ·cases h
    ·cases h
   ·cases h
  ·cases hc
 case typeAssert x xt t ok =>
  split at hc
  ·rename_i a ha;split at hc
   ·cases hc
   ·rename_i d z hd hu hz;cases hc;simp only[aop]at h;split at h
    ·rename_i t' v h1;split at h
     ·rename_i heq;have:=Nat.eq_of_beq_eq_true heq;subst this;cases h;exact N8 hR hfr ho ha hu (fun ms hm=>hd ms hm) hz h1 (.inl ⟨v,rfl,rfl⟩)
     ·rename_i heq;cases ok with
      | true =>
       simp only[]at h;cases h;exact N8 hR hfr ho ha hu (fun ms hm=>hd ms hm) hz h1 (.inr ⟨rfl,rfl,.inr ⟨t',v,rfl,fun hq=>by subst hq;simp at heq⟩⟩)
      | false=>cases h
    ·rename_i h1;cases ok with
     | true =>
      simp only[]at h;cases h;exact N8 hR hfr ho ha hu (fun ms hm=>hd ms hm) hz h1 (.inr ⟨rfl,rfl,.inl rfl⟩)
     | false=>cases h
    ·cases h
   ·cases hc
  ·cases hc
 case extract x i =>
  split at hc
  ·rename_i a ha;cases hc;simp only[aop]at h;split at h
   ·rename_i l h1;obtain⟨v,h5,rfl,rfl⟩:=SS h;exact Jqd hR hfr ho ha h1 h5
   ·cases h
  ·cases hc
 case call c =>
  split at hc
  ·rename_i f hcal;split at hc
   ·rename_i a ar ha has;cases hc;simp only[aop]at h;split at h
    ·rename_i g first cap args h1 h2;cases h;exact JuI hfr ho hcal ha has h1 h2
    ·cases h
   ·cases hc
  ·rename_i bi hcal;obtain⟨cal,args,ts⟩:=c;simp only at hcal;subst hcal;exact Jor hR hfr ho hc h
  ·rename_i x name hcal;split at hc
   ·rename_i a ar ha has;cases hc;exact Jv9 hR hfr ho hcal ha has h
   ·cases hc
 all_goals cases hc
end
end
section
variable [Globs]
def V.at (v:V):Nat→V :=
 match v with
 | .ptr _ o=>fun n=> .ptr n o
 | .slice _ o l c=>fun n=> .slice n o l c
 | .map _=>fun n=> .map n
 | u=>fun _=>u
section
variable {P:Program} {o:Oper} {act:Act} {aw aw':AW} {w:World} {m:Map} {base N:Nat} {fr:Fr}
def Dw (P:Program) (o:Oper) (act:Act) (w:World) (m:Map) (x:Blk) (mk:Nat→V):Prop :=
 ∃(obj:Obj) (tot:Nat) (v':Value),(execOp act.eval o).run P w = .ok (.value v') (w.alloc obj)∧
  (∀(aw':AW) (m':Map) (w':World) (n:Nat),m.le m'→w'.heap[w.heap.size]? = some obj→BR aw' m' w' n ⟨w.heap.size,0,tot⟩ x)∧
  (∀(m':Map) (n:Nat),m' n=some ⟨w.heap.size,0,tot⟩→VR m' (mk n) v')
variable {l:List V} {t:TypeId}
theorem Eh {cs:Array Value}(hc:CR m l 0 cs)(hl:l.length≤cs.size)(aw':AW)(m':Map)(w':World)(n c:Nat)(hm:m.le m')(hw:w'.heap[c]? = some (.cells cs t (0,0))): BR aw' m' w' n ⟨c,0,cs.size⟩ (.cells l .own):=by
 intro _;exact⟨cs,t,0,0,hw,rfl,by simpa using hl,.inr (.inl ⟨rfl,fun _=>rfl⟩),hc.mono hm⟩
theorem Jon {z:V}(ho:o.op = .alloc t)(hz:BG P t=some z):Dw P o act w m (.cells z.cells .own) (fun n=> .ptr n 0):=by
 obtain⟨z',hz1,hz2⟩:=Iy (P:=P) (w:=w) (m:=m) hz;refine⟨_,_,.pointer (some ⟨w.heap.size,0,none⟩),?_,fun aw' m' w' n=>Eh (t:=t) hz2.cells.CR (by have:=hz2.cells.length;simp at this;omega) aw' m' w' n _,fun m' n hn=>⟨_,hn,rfl⟩⟩;simp[execOp,ho,Instr.alloc,hz1,newVar,newRow]
theorem Jrc (hfr:FR m N fr act.tmps){x:Operand}{a:Opd}(ho:o.op = .box t x)(hx:La x=some a){v:V}(h1:a.ev fr=some v):Dw P o act w m (.cells v.cells .own) (fun n=> .ptr n 0):=by
 have hv:=(Li hfr hx h1).cells;refine⟨_,_,.pointer (some ⟨w.heap.size,0,none⟩),?_,fun aw' m' w' n=>Eh (t:=t) hv.CR (by have:=hv.length;simp at this;omega) aw' m' w' n _,fun m' n hn=>⟨_,hn,rfl⟩⟩;simp[execOp,ho,Instr.box,newVar,newRow]
variable {el:TypeId} {i:TypeInfo}
theorem JgK (hfr:FR m N fr act.tmps){len:Nat}{parts:Array (Nat×Operand)}{zs:List V}{r:List (Nat×Nat×Opd)}(ho:o.op = .buildSlice t len parts)(hu:P.underlying t=some (.slice el))(hi:P.info? el=some i)(hmax:len*i.size≤16777216)(hz:(len*i.size=0∧zs=[])∨(len*i.size≠0∧∃z,BG P el=some z∧z.cells.length=i.size∧zs=(List.replicate len z.cells).flatten))(hc:IX (fun j=>some (j*i.size,i.size)) parts.toList=some r){ps:List (Nat×Nat×V)}(h1:Lg fr r=some ps)(h2:Lj zs ps=some l): Dw P o act w m (.cells l .own) (fun n=> .slice n 0 len (.known len)):=by
 have e:(parts.map fun p=>(p.1,act.eval p.2)).toList=parts.toList.map fun p=>(p.1,act.eval p.2):=Fj;have hs:(sizeOf el).run P w = .ok i.size w:=by simp[sizeOf,typeInfo,hi]
 rcases hz with⟨h0,rfl⟩|⟨h0,z,hz,hzl,rfl⟩
 ·obtain⟨cs',k1,k2⟩:=Dx (cs:=#[]) hfr hc h1 h2 rfl;refine⟨_,_,.slice (some ⟨w.heap.size,0,none⟩) len len,?_,fun aw' m' w' n=>Eh (t:=el) k2.CR (by have:=k2.length;simp at this;omega) aw' m' w' n _,fun m' n hn=>⟨_,hn,rfl⟩⟩;have hmax':¬(len*i.size>2 ^ 24):=Fh;simp only[execOp,ho,Instr.buildSlice,Sem.run_bind,run_underlying hu,Result.andThen_ok,hs,if_neg hmax',if_pos h0,Sem.run_pure,e];have e2:(Array.range (len*i.size)).map (fun x=>(#[]:Array Value)[x % (#[]:Array Value).size]!) = #[]:=by rw[h0];simp
  rw[e2,k1];simp[newRow]
 ·obtain⟨z',hz1,hz2⟩:=Iy (P:=P) (w:=w) (m:=m) hz;have hv:=Ew hz2.cells len (len*i.size) (by rw[hzl]);obtain⟨cs',k1,k2⟩:=Dx hfr hc h1 h2 hv;refine⟨_,_,.slice (some ⟨w.heap.size,0,none⟩) len len,?_,fun aw' m' w' n=>Eh (t:=el) k2.CR (by have:=k2.length;simp at this;omega) aw' m' w' n _,fun m' n hn=>⟨_,hn,rfl⟩⟩;have hmax':¬(len*i.size>2 ^ 24):=Fh;simp only[execOp,ho,Instr.buildSlice,Sem.run_bind,run_underlying hu,Result.andThen_ok,hs,if_neg hmax',if_neg h0,Sem.run_pure,e,hz1];rw[k1];simp[newRow]
theorem Jmu (hfr:FR m N fr act.tmps){l c:Operand}{al ac:Opd}{z:V}(ho:o.op = .makeSlice t l c)(hl:La l=some al)(hc:La c=some ac)(hu:P.underlying t=some (.slice el))(hi:P.info? el=some i)(hz:BG P el=some z)(hzl:z.cells.length=i.size)(hpos:0<i.size){lv cv:V}{ln cn:Nat}(h1:al.ev fr=some lv)(h2:ac.ev fr=some cv)(h3:idx lv=some ln)(h4:idx cv=some cn)(h5:ln≤cn)(h6:cn≤70368744177664)(h7:cn*i.bytes≤70368744177664): Dw P o act w m (.cells ((List.replicate cn z.cells).flatten) .own) (fun n=> .slice n 0 ln (.known cn)):=by
 obtain⟨k1,e1⟩:=Ch h3 (Li hfr hl h1);obtain⟨k2,e2⟩:=Ch h4 (Li hfr hc h2);obtain⟨z',hz1,hz2⟩:=Iy (P:=P) (w:=w) (m:=m) hz;have hv:=Ew hz2.cells cn (cn*i.size) (by rw[hzl]);refine⟨_,_,.slice (some ⟨w.heap.size,0,none⟩) ln cn,?_,fun aw' m' w' n=>Eh (t:=el) hv.CR (by simp[hzl]) aw' m' w' n _,fun m' n hn=>⟨_,hn,rfl⟩⟩;have w1:IntKind.i64.wrap (ln:Int)=ln:=IntWalk.i64_in _ Fh;have w2:IntKind.i64.wrap (cn:Int)=cn:=IntWalk.i64_in _ Fh
 have hb:¬((i.bytes:Int)*(cn:Int)>2 ^ 48):=by
  rw[Int.mul_comm];have:((cn*i.bytes:Nat):Int)≤70368744177664:=Fh;rw[Int.natCast_mul]at this;omega
 have hs:(sizeOf el).run P w = .ok i.size w:=by simp[sizeOf,typeInfo,hi]
 simp only[execOp,ho,Instr.makeSlice,Sem.run_bind,run_underlying hu,Result.andThen_ok,e1,e2,asInt,asIntOf,Sem.run_pure,typeInfo,run_program,hi,w1,w2]
 have hcond:(decide ((cn:Int)<0)||decide ((i.bytes:Int)*(cn:Int)>2 ^ 48)||decide ((ln:Int)<0)||decide ((ln:Int)>(cn:Int)))=false:=by
  simp only[Bool.or_eq_false_iff,decide_eq_false_iff_not];refine⟨⟨⟨by omega,hb⟩,by omega⟩,by omega⟩
 rw[if_neg (by rw[hcond];simp)];simp only[run_askRoom,Sem.run_bind,Sem.run_pure,Result.andThen_ok,hs,Int.toNat_natCast];by_cases h0:cn*i.size=0
 ·rw[if_pos h0];have q1:(Array.range (cn*i.size)).map (fun x=>(#[]:Array Value)[x % (#[]:Array Value).size]!) = #[]:=by rw[h0];simp
  have q2:(Array.range (cn*i.size)).map (fun x=>z'.cells[x % z'.cells.size]!) = #[]:=by rw[h0];simp
  simp only[Sem.run_pure,Result.andThen_ok,q1,q2,newRow,Sem.run_bind,run_newObj];rfl
 ·rw[if_neg h0];simp[hz1,newRow]
theorem JoJ (ho:o.op = .makeMap t none):Dw P o act w m (.map [] 0) (fun n=> .map n):=by
 refine⟨.map #[] 0,0,.map (some w.heap.size),by simp[execOp,ho,Instr.makeMap],fun aw' m' w' n _ hw=>⟨#[],hw,rfl⟩,fun m' n hn=>⟨_,hn,rfl⟩⟩
theorem JtA {ao:AOp}{v:V}{aw1:AW}(hc:Ab P o.op=some ao)(hl:ao.loose=true)(h:aop ao fr aw=some (.val v,aw1)): v=v.at aw.next∧∃x,aw1=aw.new x∧x.lone=true∧∀(act:Act) (w:World) (m:Map) (N:Nat),FR m N fr act.tmps→Dw P o act w m x v.at:=by
 have hc:cOp P o.op=some ao:=by
  unfold Ab at hc;split at hc
  ·cases hc;assumption
  ·cases hc;cases hl
 have cb:∀{bi ts args},Ef P bi ts args=some ao→False:=by
  intro bi ts args hc;unfold Ef at hc
  (repeat' split at hc)<;>first|(cases hc;done)|(cases hc;cases hl;done)
 have cbin:∀{op t x y},EL P op t x y=some ao→False:=by
  intro op t x y hc;unfold EL at hc
  (repeat' split at hc)<;>first|(cases hc;done)|(cases hc;cases hl;done)
 cases ho:o.op<;>rw[ho]at hc<;>simp only[cOp]at hc
 case alloc t =>
  split at hc
  ·rename_i z hz;cases hc;cases h;exact⟨rfl,_,rfl,rfl,fun act w m N hfr=>Jon ho hz⟩
  ·cases hc
 case box t x =>
  split at hc
  ·rename_i a ha;cases hc;simp only[aop]at h;split at h
   ·rename_i v hv;cases h;exact⟨rfl,_,rfl,rfl,fun act w m N hfr=>Jrc hfr ho ha hv⟩
   ·cases h
  ·cases hc
 case buildSlice t len parts =>
  split at hc
  ·rename_i e hu;split at hc
   ·rename_i i hi;split at hc
    ·rename_i hmax;split at hc
     ·rename_i h0;split at hc
      ·rename_i q hq;cases hc;simp only[aop]at h;split at h
       ·rename_i ps' h1;split at h
        ·rename_i l h2;cases h;exact⟨rfl,_,rfl,rfl,fun act w m N hfr=>JgK hfr ho hu hi hmax (.inl ⟨h0,rfl⟩) hq h1 h2⟩
        ·cases h
       ·cases h
      ·cases hc
     ·rename_i h0;split at hc
      ·rename_i z hz;split at hc
       ·rename_i hzl;split at hc
        ·rename_i q hq;cases hc;simp only[aop]at h;split at h
         ·rename_i ps' h1;split at h
          ·rename_i l h2;cases h;exact⟨rfl,_,rfl,rfl,fun act w m N hfr=>JgK hfr ho hu hi hmax (.inr ⟨h0,z,hz,hzl,rfl⟩) hq h1 h2⟩
          ·cases h
         ·cases h
        ·cases hc
       ·cases hc
      ·cases hc
    ·cases hc
   ·cases hc
  ·cases hc
 case makeMap t res =>
  cases res with
  | none=>cases hc;cases h;exact⟨rfl,_,rfl,rfl,fun act w m N hfr=>JoJ ho⟩
  | some q=>cases hc
 case makeSlice t l c =>
  split at hc
  ·rename_i a b ha hb;split at hc
   ·rename_i e hu;split at hc
    ·rename_i i z hi hz;split at hc
     ·rename_i hcond;cases hc;simp only[aop]at h;split at h
      ·rename_i lv cv h1 h2;split at h
       ·rename_i ln cn h3 h4;split at h
        ·rename_i hb';cases h;exact⟨rfl,_,rfl,rfl,fun act w m N hfr=>Jmu hfr ho ha hb hu hi hz hcond.1 hcond.2 h1 h2 h3 h4 hb'.1 hb'.2.1 hb'.2.2⟩
        ·cases h
       ·cases h
      ·cases h
     ·cases hc
    ·cases hc
   ·cases hc
  ·cases hc
 case binOp=>exact (cbin hc).elim
 case call c =>
  split at hc
  ·split at hc
   ·cases hc;cases hl
   ·cases hc
  ·exact (cb hc).elim
  ·split at hc
   ·cases hc;cases hl
   ·cases hc
 case next it b =>
  cases b with
  | true=>cases hc
  | false =>
   simp only[]at hc;split at hc
   ·cases hc;cases hl
   ·cases hc
 all_goals ((repeat' split at hc)<;>first|(cases hc;done)|(cases hc;cases hl;done))
end
variable {aw:AW} {w:World} {m:Map} {base:Nat}
theorem R.pad (hR:R aw w m base)(x:Blk):R (aw.new x) w m base:=by
 have old:∀{b:Nat} {e:Emb} {y:Blk},m b=some e→(aw.new x).heap.get b=some y→aw.heap.get b=some y:=by
  intro b e y hb hy;have:=(hR.lt b e hb).1;simp only[AW.new]at hy;rw[T.get_put_ne Fh]at hy;exact hy
 refine⟨hR.glob,fun i g l h=>hR.gnew h,fun b e l f h hy=>?_,hR.size,fun b e h=>?_,fun b e h=>?_,fun b e y h hy=>?_,fun b e y b' e' y' h hy h' hy' hl hl' hne hec=>?_,fun f F hF=>?_⟩
 ·have:=hR.famlt b e l f h (old h hy);simp only[AW.new];omega
 ·have:=hR.lt b e h;exact⟨by simp only[AW.new];omega,this.2⟩
 ·rcases hR.base b e h with h1|⟨l,h1⟩
  ·exact .inl h1
  ·have:=(hR.lt b e h).1;exact .inr ⟨l,by simp only[AW.new];rw[T.get_put_ne Fh];exact h1⟩
 ·exact BR.mono (.refl m) (fun _ _ _ h=>h) rfl (hR.blk b e y h (old h hy))
 ·exact hR.apart b e y b' e' y' h (old h hy) h' (old h' hy') (by rw[MC]at hl;exact hl) (by rw[MC]at hl';exact hl') hne hec
 ·obtain⟨h1,h2⟩:=hR.fam f F hF;refine⟨by simp only[AW.new];omega,fun b e l e' l' h hy ha h' hy' hec=>?_⟩;exact h2 b e l e' l' h (old h hy) ha h' (old h' hy') hec
variable {y:AW}
theorem Goes.pad {w':World}{m':Map}(h:Goes aw y w w' m m')(x:Blk):Goes aw (y.new x) w w' m m':=by
 have hn:=h.next;refine⟨h.le,h.new,by simp only[AW.new];omega,h.size,h.os,h.tape,h.output,fun b l hl hb=>?_,fun b l hl hb=>?_,h.frame,fun b hb hl=>?_,fun b hb hl=>?_⟩
 ·simp only[AW.new];rw[T.get_put_ne Fh];exact h.ro b l hl hb
 ·simp only[AW.new]at hl;rw[T.get_put_ne Fh]at hl;exact h.roOld b l hl hb
 ·simp only[AW.new];rw[T.get_put_ne Fh];exact h.none b hb hl
 ·simp only[AW.new];rw[T.get_put_ne Fh];exact h.unm b hb hl
theorem R.adopt {n:Nat}(hR:R y w m base){x:Blk}{obj:Obj}{tot:Nat}(hn:n<y.next)(hm:m n=none)(hx:y.heap.get n=some x)(hl:x.lone=true)(hb:∀(aw':AW) (m':Map) (w':World) (n:Nat),m.le m'→w'.heap[w.heap.size]? = some obj→BR aw' m' w' n ⟨w.heap.size,0,tot⟩ x):R y (w.alloc obj) (m.set n ⟨w.heap.size,0,tot⟩) base:=by
 have hle:m.le (m.set n ⟨w.heap.size,0,tot⟩):=Map.le_set hm;have hsz:(w.alloc obj).heap.size=w.heap.size+1:=Fj
 have hnf:∀{l:List V} {f:Nat},y.heap.get n≠some (.cells l (.fam f)):=by
  intro l f h;rw[hx]at h;cases h;cases hl
 refine⟨hR.glob.le hle,hR.gblk,fun b e l f h hy=>?_,?_,fun b e h=>?_,fun b e h=>?_,fun b e z h hz=>?_,fun b e z b' e' z' h hz h' hz' h1 h2 hne hec=>?_,fun f F hF=>?_⟩
 ·rcases Map.set_cases h with⟨rfl,rfl⟩|⟨h1,h2⟩
  ·exact absurd hy hnf
  ·exact hR.famlt b e l f h2 hy
 ·have:=hR.size;omega
 ·rcases Map.set_cases h with⟨rfl,rfl⟩|⟨h1,h2⟩
  ·exact⟨hn,by simp⟩
  ·have:=hR.lt b e h2;exact⟨this.1,by omega⟩
 ·rcases Map.set_cases h with⟨rfl,rfl⟩|⟨h1,h2⟩
  ·exact .inl hR.size
  ·exact hR.base b e h2
 ·rcases Map.set_cases h with⟨rfl,rfl⟩|⟨h1,h2⟩
  ·rw[hx]at hz;cases hz;exact hb y _ _ _ hle (Cw w obj)
  ·exact BR.mono hle (fun _ _ _ h=>h) (DF w obj (hR.lt b e h2).2) (hR.blk b e z h2 hz)
 ·rcases Map.set_cases h with⟨rfl,rfl⟩|⟨k1,k2⟩
  ·rcases Map.set_cases h' with⟨rfl,rfl⟩|⟨k3,k4⟩
   ·exact absurd rfl hne
   ·have:=(hR.lt b' e' k4).2;simp at hec;omega
  ·rcases Map.set_cases h' with⟨rfl,rfl⟩|⟨k3,k4⟩
   ·have:=(hR.lt b e k2).2;simp at hec;omega
   ·exact hR.apart b e z b' e' z' k2 hz k4 hz' h1 h2 hne hec
 ·obtain⟨h1,h2⟩:=hR.fam f F hF;refine⟨h1,fun b e l e' l' h hy ha h' hy' hec=>?_⟩;rcases Map.set_cases h with⟨rfl,rfl⟩|⟨k1,k2⟩
  ·exact absurd hy hnf
  ·rcases Map.set_cases h' with⟨q,rfl⟩|⟨k3,k4⟩
   ·rw[q]at hy';exact absurd hy' hnf
   ·exact h2 b e l e' l' k2 hy ha k4 hy' hec
theorem Goes.adopt {w0:World}{m0:Map}{n:Nat}(h:Goes aw y w0 w m0 m){obj:Obj}{tot:Nat}(hn:aw.next≤n)(hm:m n=Option.none):Goes aw y w0 (w.alloc obj) m0 (m.set n ⟨w.heap.size,0,tot⟩):=by
 have hs:=h.size;refine⟨h.le.trans (Map.le_set hm),fun b e hb=>?_,h.next,by simp;omega,h.os,h.tape,h.output,h.ro,h.roOld,fun c hc hno=>?_,h.none,h.unm⟩
 ·rcases Map.set_cases hb with⟨rfl,rfl⟩|⟨h1,h2⟩
  ·exact .inr ⟨hn,.inl hs⟩
  ·exact h.new b e h2
 ·rw[DF w obj Fh];exact h.frame c hc hno
end
section
variable [Globs]
structure TabOK (P:Program) (tab:Tab):Prop where
 mixed:P.follows .mixedOrders=true
 code:∀f af,tab.code f=some af→∃fn c,P.funcs[f]? = some fn∧fn.body=some c∧NL P fn=some af
 prim:∀f args aw v aw',tab.prim f args aw v aw'→(∃fn,P.funcs[f]? = some fn∧fn.body.isSome=true∧fn.name≠"runtime.NumGoroutine")∧
  ∀(w:World) (m:Map) (base:Nat) (args':Array Value),R aw w m base→VRs m args args'.toList→
   Calls P f args' w fun e w'=>∃v' m',e = .returned v'∧VR m' v v'∧R aw' w' m' base∧Goes aw aw' w w' m m'
 ext:∀f args aw v aw',tab.ext f args aw v aw'→∀(w:World) (m:Map) (base:Nat) (args':Array Value),R aw w m base→VRs m args args'.toList→∃v' w' m',(callFunc f args').run P w = .ok (.value v') w'∧VR m' v v'∧R aw' w' m' base∧Goes aw aw' w w' m m'
section
variable {P:Program} {tab:Tab}
def AL:AExit→Exit
 | .normal=> .normal
 | .exit id=> .exit id
 | .ret=> .ret
def Post (N:Nat) (a:Act) (aw:AW) (w:World) (m:Map) (base:Nat) (fr':Fr) (aw':AW) (K:Act→World→Prop):Prop :=
 ∀(a':Act) (w':World) (m':Map),FR m' N fr' a'.tmps→a'.defers=a.defers→R aw' w' m' base→Goes aw aw' w w' m m'→K a' w'
def GoodX (P:Program) (c:ACode) (fr:Fr) (aw:AW) (e:AExit) (fr':Fr) (aw':AW):Prop :=
 (∀(code:Code) (N:Nat),Ta P N code=some c→∀(a:Act) (w:World) (m:Map) (base:Nat) (Q:Exit→Act→World→Prop),FR m N fr a.tmps→R aw w m base→Post N a aw w m base fr' aw' (Q (AL e))→code.wp P Q a w)∧
 (∀b,c = .loop b→∀(code:Code) (N:Nat),Ta P N code=some b→∃n,∀(a:Act) (w:World) (m:Map) (base:Nat) (Q:Exit→Act→World→Prop),FR m N fr a.tmps→R aw w m base→Post N a aw w m base fr' aw' (Q (AL e))→Code.rounds P code Q n a w)
def At (P:Program) (N:Nat) (ops:Array Oper):List AOper→List Nat→Prop
 | [],is=>is=[]
 | a::l,is=>∃i r o,is=i::r∧ops[i]? = some o∧Ie P N ops o=some a∧At P N ops l r
def Jwt (P:Program) (l:List AOper) (fr:Fr) (aw:AW) (fr':Fr) (aw':AW):Prop :=
 ∀(ops:Array Oper) (N:Nat) (is:List Nat),At P N ops l is→∀(a:Act) (w:World) (m:Map) (base:Nat) (Q:Exit→Act→World→Prop),FR m N fr a.tmps→R aw w m base→Post N a aw w m base fr' aw' (Q .normal)→wpOps P ops Q is a w
def NH (P:Program) (f:Nat) (args:List V) (aw:AW) (v:V) (aw':AW):Prop :=
 (∃fn,P.funcs[f]? = some fn∧fn.body.isSome=true∧fn.name≠"runtime.NumGoroutine")∧∀(w:World) (m:Map) (base:Nat) (args':Array Value),R aw w m base→VRs m args args'.toList→
  Calls P f args' w fun e w'=>∃v' m',e = .returned v'∧VR m' v v'∧R aw' w' m' base∧Goes aw aw' w w' m m'
variable {N base:Nat} {a:Act} {aw:AW} {w:World} {m:Map} {K:Act→World→Prop}
theorem Post.trans {a1:Act}{aw1:AW}{w1:World}{m1:Map}{fr':Fr}{aw':AW}(hR:R aw w m base)(h:Post N a aw w m base fr' aw' K)(hd:a1.defers=a.defers)(hg:Goes aw aw1 w w1 m m1): Post N a1 aw1 w1 m1 base fr' aw' K:=fun a' w' m' h1 h2 h3 h4=>h a' w' m' h1 (h2.trans hd) h3 (Goes.trans hR hg h4)
variable {fr:Fr}
theorem Post.now (hR:R aw w m base)(hfr:FR m N fr a.tmps)(h:Post N a aw w m base fr aw K):K a w:=
 h a w m hfr rfl hR (.refl _ _ _)
theorem JlM {N:Nat}{ops:Array Oper}:∀{l:List Oper} {r:List AOper} {k:Nat},CG P N ops l=some r→(∀j,l[j]? = ops[k+j]?)→At P N ops r (List.range' k l.length)
 | [],r,k,h,_=>by cases h;rfl
 | o::l,r,k,h,hk=>by
  simp only[CG]at h;split at h
  ·rename_i a ha;split at h
   ·rename_i q hq;cases h;refine⟨k,_,o,?_,?_,ha,JlM (k:=k+1) hq (fun j=>?_)⟩
    ·simp[List.range'_succ]
    ·have:=hk 0;simpa using this.symm
    ·have:=hk (j+1);simp only[Kh]at this;rw[this];congr 1;omega
   ·cases h
  ·cases h
variable {ops:Array Oper} {o:Oper}
theorem Cs {a:AOper}(h:Ie P N ops o=some a):Nq ops o.guard=some a.guard∧Ab P o.op=some a.op∧a.dst=o.dst∧Jp6 N o.dst=true:=by
 unfold Ie at h;split at h
 ·cases h;exact⟨by assumption,by assumption,rfl,by assumption⟩
 ·cases h
theorem Nb {act:Act}{aw':AW}(hR:R aw w m base)(hfr:FR m N fr act.tmps){ao:AOp}{r:Res}(hc:Ab P o.op=some ao)(h:aop ao fr aw=some (r,aw')):OpOK P o act aw aw' w m base r:=by
 unfold Ab at hc;split at hc
 ·rename_i a ha;cases hc;exact JvR hR hfr ha h
 ·cases hc;cases h
theorem Aq (hfr:FR m N fr a.tmps){g:Option (Nat×Bool)}(hg:Nq ops o.guard=some g){b:Bool}(h:wanted fr g=some b): Region.wanted o (yielded ops a.tmps)=b:=by
 unfold Nq at hg;split at hg
 ·rename_i hgd;cases hg;cases h;simp[Region.wanted,hgd]
 ·rename_i j want hgd;split at hg
  ·rename_i o' ho';split at hg
   ·rename_i d hd;cases hg;simp only[wanted]at h;split at h
    ·rename_i x hx;cases h;obtain⟨v',h1,h2⟩:=hfr.val _ _ hx;cases h2;simp[Region.wanted,hgd,yielded,ho',hd,h1]
    ·rename_i hx;cases h;obtain⟨v',h1,h2⟩:=hfr.val _ _ hx;cases h2;simp[Region.wanted,hgd,yielded,ho',hd,h1,undef]
    ·cases h
   ·cases hg
  ·cases hg
variable {d:Option Nat}
theorem FR.put (hfr:FR m N fr a.tmps)(hd:Jp6 N d=true){v:V}{v':Value}(hv:VR m v v'):FR m N (OB fr d v) (a.put d v').tmps:=by
 cases d with
 | none=>exact hfr
 | some d =>
  have hlt:d<N:=Nat.blt_eq.mp hd;refine⟨by simp[Act.put,hfr.size],fun k u hk=>?_,hfr.glob⟩;rcases T.get_put hk with⟨rfl,rfl⟩|⟨h1,h2⟩
  ·exact⟨v',by simp[Act.put,hfr.size,hlt],hv⟩
  ·obtain⟨u',q1,q2⟩:=hfr.val _ _ h2;exact⟨u',by simp[Act.put,Array.getElem?_setIfInBounds_ne (Ne.symm h1),q1],q2⟩
theorem put_defers {v:Value}:(a.put d v).defers=a.defers:=by cases d<;>rfl
theorem Jlg {f:Nat}{args:Array Value}(h:∃fn,P.funcs[f]? = some fn∧fn.body.isSome=true∧fn.name≠"runtime.NumGoroutine"):(callFunc f args).run P w = .ok (.enter f args) w:=by
 obtain⟨fn,h1,h2,h3⟩:=h;have h5:fn.body≠none:=by intro hb;rw[hb]at h2;cases h2
 simp[callFunc,h1,h3,h5]
theorem JlZ {m:Map}:∀{args:List V} {k:Nat} {d:Nat} {v:V},(IY args k).get d=some v→k≤d∧args[d-k]? = some v
 | [],k,d,v,h=>by simp[IY,T.get_e]at h
 | x::l,k,d,v,h=>by
  simp only[IY]at h;rcases T.get_put h with⟨rfl,rfl⟩|⟨h1,h2⟩
  ·exact⟨FH _,by simp⟩
  ·obtain⟨q1,q2⟩:=JlZ (m:=m) h2;refine⟨by omega,?_⟩;rw[show d-k=(d-(k+1))+1 by omega,Kh];exact q2
def Dz (tmps:Array Value):ResultVar→Sem Value
 | .tmp t=>pure (tmps.getD t undef)
 | .cell a t=>do loadVar t (←asAddr (tmps.getD a undef))
theorem JqT (fn:Func)(tmps:Array Value):results fn tmps=(do
  let vs ←fn.results.mapM (Dz tmps)
  pure (if h:vs.size=1 then vs[0]else .tuple vs)):=by
 unfold results
 congr 1
theorem Jn4 {N:Nat}{m:Map}{fr:Fr}{a:Act}{aw:AW}{w:World}{base:Nat}(hR:R aw w m base)(hfr:FR m N fr a.tmps):∀{rs:List ResultVar} {l:List ARes} {vs:List V},Ac P rs=some l→Ox fr aw l=some vs→ ∃ys:List Value,VRs m vs ys∧(rs.mapM (Dz a.tmps)).run P w = .ok ys w
 | [],l,vs,hc,h=>by cases hc;cases h;exact⟨[],rfl,by simp⟩
 | .tmp t::rs,l,vs,hc,h=>by
  simp only[Ac]at hc;split at hc
  ·rename_i r hr;cases hc;simp only[Ox]at h;split at h
   ·rename_i v hv;split at h
    ·rename_i r' hr';cases h;obtain⟨ys,h1,h2⟩:=Jn4 hR hfr hr hr';obtain⟨v',q1,q2⟩:=hfr.val _ _ hv;refine⟨v'::ys,⟨v',ys,rfl,q2,h1⟩,?_⟩;have:a.tmps.getD t undef=v':=by simp[q1]
     have hstep:(Dz a.tmps (.tmp t)).run P w = .ok v' w:=by simp only[Dz,this,Sem.run_pure]
     simp only[List.mapM_cons,hstep,Sem.run_bind,Sem.run_pure,Result.andThen_ok,h2]
    ·cases h
   ·cases h
  ·cases hc
 | .cell ad t::rs,l,vs,hc,h=>by
  simp only[Ac]at hc;split at hc
  ·rename_i n g r hn hg hr;cases hc;simp only[Ox]at h;split at h
   ·rename_i b off hv;split at h
    ·rename_i v hload;split at h
     ·rename_i r' hr';cases h;obtain⟨ys,h1,h2⟩:=Jn4 hR hfr hr hr';obtain⟨p',q1,e,hm,q2⟩:=hfr.val _ _ hv;subst q2;have hp:a.tmps.getD ad undef = .pointer (some ⟨e.c,e.s+off,none⟩):=by simp[q1]
      have hl:∃y,VR m v y∧(loadVar t ⟨e.c,e.s+off,none⟩).run P w = .ok y w:=by
       cases g with
       | true =>
        simp only[]at hload;split at hload
        ·rename_i lv hlv;cases hload;obtain⟨zs,k1,k2,k3⟩:=ME (P:=P) hR hm hlv;exact⟨.agg zs.toArray,⟨_,rfl,k2⟩,by simp[loadVar,IW hg,TY hn,k3]⟩
        ·cases hload
       | false =>
        simp only[]at hload;split at hload
        ·rename_i u hu;cases hload;obtain⟨y,k1,k2⟩:=RQ (P:=P) hR hm hu;exact⟨y,k1,by simp only[loadVar,Sem.run_bind,IW hg,Result.andThen_ok,FM,if_false,k2]⟩
        ·cases hload
      obtain⟨y,k1,k2⟩:=hl;refine⟨y::ys,⟨y,ys,rfl,k1,h1⟩,?_⟩;have hstep:(Dz a.tmps (.cell ad t)).run P w = .ok y w:=by simp only[Dz,hp,asAddr,Sem.run_bind,Sem.run_pure,Result.andThen_ok,k2]
      simp only[List.mapM_cons,hstep,Sem.run_bind,Sem.run_pure,Result.andThen_ok,h2]
     ·cases h
    ·cases h
   ·cases h
  ·cases hc
theorem JqU (hR:R aw w m base)(hfr:FR m N fr a.tmps){fn:Func}{l:List ARes}{vs:List V}(hc:Ac P fn.results.toList=some l)(h:Ox fr aw l=some vs): ∃v',(results fn a.tmps).run P w = .ok v' w∧VR m (Oy vs) v':=by
 obtain⟨ys,h1,h2⟩:=Jn4 (P:=P) hR hfr hc h
 have hrun:(fn.results.mapM (Dz a.tmps)).run P w = .ok ys.toArray w:=by
  rw[Array.mapM_eq_mapM_toList];simp only[Sem.run_map,h2,Result.andThen_ok]
 refine⟨_,by rw[JqT];simp only[Sem.run_bind,hrun,Result.andThen_ok];rfl,?_⟩
 match vs,ys,h1 with
 | [],ys,h1=>cases h1;exact⟨#[],rfl,rfl⟩
 | [v],ys,h1 =>
  obtain⟨y,r,rfl,k1,k2⟩:=h1;cases k2;exact k1
 | v::u::vs,ys,h1 =>
  have hl:=h1.length;have hne:¬(ys.toArray.size=1):=by simp at hl ⊢;omega
  rw[dif_neg hne];exact⟨_,rfl,h1⟩
end
end
section
variable [Globs]
theorem JlW:∀{ds:List Nat} {fr:Fr} {d:Nat} {v:V},(Om fr ds).get d=some v→d∉ds∧fr.get d=some v
 | [],fr,d,v,h=>⟨by simp,h⟩
 | x::ds,fr,d,v,h=>by
  obtain⟨h1,h2⟩:=JlW (ds:=ds) h;obtain⟨h3,h4⟩:=T.get_del h2;exact⟨by simp[h1,h3],h4⟩
theorem memN_iff:∀{x:Nat} {l:List Nat},OJ x l=true↔x∈l
 | x,[]=>by simp[OJ]
 | x,y::l=>by
  simp only[OJ];split
  ·rename_i h;have:=Nat.eq_of_beq_eq_true h;simp[this]
  ·rename_i h;have:x≠y:=fun he=>by rw[he,Nat.beq_refl]at h;cases h
   simp[memN_iff,this]
theorem Jle {x:Option V}{aw aw':AW}{r:Res}(h:valOf x aw=some (r,aw')):aw'=aw∧∃v,r = .val v:=by
 obtain⟨v,h1,rfl,rfl⟩:=SS h;exact⟨rfl,v,rfl⟩
theorem IU {o:AOp}{fr:Fr}{aw aw':AW}{r:Res}(hq:o.quiet=true)(h:aop o fr aw=some (r,aw')):aw'=aw∧∃v,r = .val v:=by
 cases o<;>first|(simp only[AOp.quiet]at hq;cases hq;done)|skip
 all_goals simp only[aop]at h
 all_goals first
  | exact Jle h
  | (repeat' split at h)<;>first|(exact Jle h)|(cases h;done)|(cases h;exact⟨rfl,_,rfl⟩)
mutual
theorem VL.beq_eq:∀{l l':List V},VL.beq l l'=true→l=l'
 | [],[],_=>rfl
 | [],_::_,h=>by simp[VL.beq]at h
 | _::_,[],h=>by simp[VL.beq]at h
 | x::l,y::l',h=>by
  simp only[VL.beq,FT]at h;rw[V.beq_eq h.1,VL.beq_eq h.2]
theorem V.beq_eq:∀{x y:V},V.beq x y=true→x=y:=by
 intro x y h
 match x with
 | .iface t v=>cases y<;>first|(simp[V.beq]at h;done)|(simp only[V.beq,FT]at h;rw[Nat.eq_of_beq_eq_true h.1,V.beq_eq h.2])
 | .agg l=>cases y<;>first|(simp[V.beq]at h;done)|(simp only[V.beq]at h;rw[VL.beq_eq h])
 | .tuple l=>cases y<;>first|(simp[V.beq]at h;done)|(simp only[V.beq]at h;rw[VL.beq_eq h])
 | .bool a=>cases y<;>first|(simp[V.beq]at h;done)|(rename_i b;revert h;cases a<;>cases b<;>simp[V.beq])
 | .int k n=>cases y<;>first|(simp[V.beq]at h;done)|(simp only[V.beq,FT,decide_eq_true_eq]at h;rw[h.1,h.2])
 | .str l=>cases y<;>first|(simp[V.beq]at h;done)|(simp only[V.beq]at h;rw[eqL_iff.1 h])
 | .ptr b o=>cases y<;>first|(simp[V.beq]at h;done)|(simp only[V.beq,FT]at h;rw[Nat.eq_of_beq_eq_true h.1,Nat.eq_of_beq_eq_true h.2])
 | .slice b o l c=>cases y<;>first|(simp[V.beq]at h;done)|(simp only[V.beq,FT,decide_eq_true_eq]at h;rw[Nat.eq_of_beq_eq_true h.1.1.1,Nat.eq_of_beq_eq_true h.1.1.2,Nat.eq_of_beq_eq_true h.1.2,h.2])
 | .map b=>cases y<;>first|(simp[V.beq]at h;done)|(simp only[V.beq]at h;rw[Nat.eq_of_beq_eq_true h])
 | .func f a c=>cases y<;>first|(simp[V.beq]at h;done)|(simp only[V.beq,FT,decide_eq_true_eq]at h;rw[h.1.1,VL.beq_eq h.1.2,VL.beq_eq h.2])
 | .undef | .nilptr | .nilslice | .nilmap | .nilfunc | .niliface=>cases y<;>first|rfl|(simp[V.beq]at h;done)
end
end
section
variable [Globs]
section
variable {P:Program} {tab:Tab}
def Ar (P:Program) (o:AOper) (fr:Fr) (aw:AW) (v:V) (aw1:AW):Prop :=
 ∀(ops:Array Oper) (N i:Nat) (o':Oper),ops[i]? = some o'→Ie P N ops o'=some o→∀(a:Act) (w:World) (m:Map) (base:Nat) (Q:Exit→Act→World→Prop) (K:Act→World→Prop),FR m N fr a.tmps→R aw w m base→
  (∀(w':World) (m':Map) (v':Value),VR m' v v'→R aw1 w' m' base→Goes aw aw1 w w' m m'→K (a.put o.dst v') w')→wpOp P ops Q i K a w
def JvH (P:Program) (o:AOper) (fr:Fr) (aw:AW) (v:V) (aw1:AW):Prop :=
 (wanted fr o.guard=some false∧aw1=aw)∨
 (wanted fr o.guard=some true∧v=v.at aw.next∧∀(o':Oper),Ab P o'.op=some o.op→∃x,aw1=aw.new x∧x.lone=true∧∀(act:Act) (w:World) (m:Map) (N:Nat),FR m N fr act.tmps→Dw P o' act w m x v.at)
def EI (P:Program) (o:AOper) (fr:Fr) (aw:AW) (v:V) (aw1:AW):Prop :=
 Ar P o fr aw v aw1∧(o.op.quiet=true→aw1=aw)∧(wanted fr o.guard=some false→v = .undef)∧(o.op.loose=true→JvH P o fr aw v aw1)
variable {fr:Fr} {aw:AW}
theorem RU {o:AOp}{aw':AW}{r:Res}(hl:o.loose=true)(h:aop o fr aw=some (r,aw')):∃v,r = .val v:=by
 cases o<;>first|(cases hl;done)|skip
 all_goals simp only[aop]at h
 all_goals ((repeat' split at h)<;>first|(cases h;exact⟨_,rfl⟩)|(cases h;done))
variable {o:AOper}
theorem NR (hw:wanted fr o.guard=some false):Ar P o fr aw .undef aw:=by
 intro ops N i o' ho hc a w m base Q K hfr hR hK;obtain⟨g1,g2,g3,g4⟩:=Cs hc;have hwant:=Aq hfr g1 hw;simp only[wpOp,ho,hwant,FM,if_false];rw[←g3];exact hK w m undef rfl hR (.refl _ _ _)
variable {aw1:AW} {v:V}
theorem Jjy (hw:wanted fr o.guard=some true)(ha:aop o.op fr aw=some (.val v,aw1)):Ar P o fr aw v aw1:=by
 intro ops N i o' ho hc a w m base Q K hfr hR hK;obtain⟨g1,g2,g3,g4⟩:=Cs hc;have hwant:=Aq hfr g1 hw;obtain⟨v',w',m',k1,k2,k3,k4⟩:=Nb (o:=o') hR hfr g2 ha;simp only[wpOp,ho,hwant,if_true];refine .inl ?_;simp only[Oper.wp,k1,Oper.upon_value];rw[←g3];exact hK w' m' v' k2 k3 k4
theorem Jnr (hw:wanted fr o.guard=some true)(ha:aop o.op fr aw=some (.skip,aw1)):Ar P o fr aw .undef aw1:=by
 intro ops N i o' ho hc a w m base Q K hfr hR hK;obtain⟨g1,g2,g3,g4⟩:=Cs hc;have hwant:=Aq hfr g1 hw;obtain⟨w',m',k1,k3,k4⟩:=Nb (o:=o') hR hfr g2 ha;simp only[wpOp,ho,hwant,if_true];refine .inl ?_;simp only[Oper.wp,k1,Oper.upon_skip];rw[←g3];exact hK w' m' undef rfl k3 k4
variable {args:List V}
theorem Jnq {aw0:AW}{f:Nat}(hw:wanted fr o.guard=some true)(ha:aop o.op fr aw=some (.call f args,aw0))(hg:NH P f args aw0 v aw1):Ar P o fr aw v aw1:=by
 intro ops N i o' ho hc a w m base Q K hfr hR hK;obtain⟨g1,g2,g3,g4⟩:=Cs hc;have hwant:=Aq hfr g1 hw;obtain⟨rfl,args',k1,k2⟩:=Nb (o:=o') hR hfr g2 ha;simp only[wpOp,ho,hwant,if_true];refine .inl ?_;simp only[Oper.wp,k1,Jlg hg.1,Oper.upon_enter];refine (hg.2 w m base args' hR k2).mono ?_;rintro e w' ⟨v',m',rfl,q1,q2,q3⟩;show K _ _;rw[←g3];exact hK w' m' v' q1 q2 q3
theorem JoD (T:TabOK P tab){aw0:AW}{f:Nat}(hw:wanted fr o.guard=some true)(ha:aop o.op fr aw=some (.call f args,aw0))(hx:tab.ext f args aw0 v aw1):Ar P o fr aw v aw1:=by
 intro ops N i o' ho hc a w m base Q K hfr hR hK;obtain⟨g1,g2,g3,g4⟩:=Cs hc;have hwant:=Aq hfr g1 hw;obtain⟨rfl,args',k1,k2⟩:=Nb (o:=o') hR hfr g2 ha;obtain⟨v',w',m',q1,q2,q3,q4⟩:=T.ext f args _ v _ hx w m base args' hR k2;simp only[wpOp,ho,hwant,if_true];refine .inl ?_;simp only[Oper.wp,k1,q1,Oper.upon_value];rw[←g3];exact hK w' m' v' q2 q3 q4
def FrAt (l:List DOper) (st:List Stp) (fr:Fr) (i:Nat) (x:Nat) (v:V):Prop :=
 (∃(k:Nat) (dk:DOper) (sk:Stp),k<i∧l[k]? = some dk∧st[k]? = some sk∧dk.op.dst=some x∧sk.v=v)∨((∀(k:Nat) (dk:DOper),k<i→l[k]? = some dk→dk.op.dst≠some x)∧fr.get x=some v)
def EpAt (l:List DOper) (st:List Stp) (aw:AW) (i:Nat) (x:AW):Prop :=
 ((∀(e:Nat) (de:DOper),e<i→l[e]? = some de→de.eff=false)∧x=aw)∨
 ∃(e:Nat) (de:DOper) (se:Stp),e<i∧l[e]? = some de∧de.eff=true∧st[e]? = some se∧x=se.aw1∧∀(e':Nat) (de':DOper),e<e'→e'<i→l[e']? = some de'→de'.eff=false
structure PassG (P:Program) (l:List DOper) (fr:Fr) (aw:AW) (st:List Stp) (fr':Fr) (aw':AW):Prop where
 len:st.length=l.length
 one:∀(i:Nat) (d:DOper) (s:Stp),l[i]? = some d→st[i]? = some s→EI P d.op s.fe s.aw0 s.v s.aw1
 fe:∀(i:Nat) (d:DOper) (s:Stp) (x:Nat) (v:V),l[i]? = some d→st[i]? = some s→s.fe.get x=some v→x∉d.hide∧FrAt l st fr i x v
 ep:∀(i:Nat) (d:DOper) (s:Stp),l[i]? = some d→st[i]? = some s→EpAt l st aw i s.aw0
 fin:∀(x:Nat) (v:V),fr'.get x=some v→FrAt l st fr l.length x v
 epFin:EpAt l st aw l.length aw'
variable {d:DOper} {l:List DOper} {st:List Stp}
theorem FrAt.cons {s:Stp}{i x:Nat}(h:FrAt l st (OB fr d.op.dst s.v) i x v):FrAt (d::l) (s::st) fr (i+1) x v:=by
 rcases h with⟨k,dk,sk,h1,h2,h3,h4,h5⟩|⟨h1,h2⟩
 ·exact .inl ⟨k+1,dk,sk,by omega,by simpa using h2,by simpa using h3,h4,h5⟩
 ·have tail:∀k dk,k<i→l[k]? = some dk→dk.op.dst≠some x:=h1;cases hd:d.op.dst with
  | none =>
   rw[hd]at h2;refine .inr ⟨fun k dk hk hl=>?_,h2⟩;cases k with
   | zero=>simp at hl;subst hl;rw[hd];simp
   | succ k=>exact tail k dk Fh (by simpa using hl)
  | some y =>
   rw[hd]at h2;rcases T.get_put h2 with⟨rfl,rfl⟩|⟨q1,q2⟩
   ·exact .inl ⟨0,d,s,by omega,rfl,rfl,hd,rfl⟩
   ·refine .inr ⟨fun k dk hk hl=>?_,q2⟩;cases k with
    | zero=>simp at hl;subst hl;rw[hd];simp;omega
    | succ k=>exact tail k dk Fh (by simpa using hl)
theorem EpAt.cons {s:Stp}{i:Nat}{x:AW}(hq:d.eff=false→s.aw1=aw)(h:EpAt l st s.aw1 i x):EpAt (d::l) (s::st) aw (i+1) x:=by
 rcases h with⟨h1,rfl⟩|⟨e,de,se,h1,h2,h3,h4,h5,h6⟩
 ·cases hd:d.eff with
  | false =>
   refine .inl ⟨fun e de he hl=>?_,hq hd⟩;cases e with
   | zero=>simp at hl;subst hl;exact hd
   | succ e=>exact h1 e de Fh (by simpa using hl)
  | true =>
   refine .inr ⟨0,d,s,by omega,rfl,hd,rfl,rfl,fun e' de' h2 h3 hl=>?_⟩;cases e' with
   | zero=>omega
   | succ e'=>exact h1 e' de' Fh (by simpa using hl)
 ·refine .inr ⟨e+1,de,se,by omega,by simpa using h2,h3,by simpa using h4,h5,fun e' de' h7 h8 hl=>?_⟩;cases e' with
  | zero=>omega
  | succ e'=>exact h6 e' de' Fh Fh (by simpa using hl)
theorem PassG.nil:PassG P [] fr aw [] fr aw where
 len:=rfl
 one i d s h:=by simp at h
 fe i d s x v h:=by simp at h
 ep i d s h:=by simp at h
 fin x v h:=.inr ⟨fun k dk hk=>by simp at hk,h⟩
 epFin:=.inl ⟨fun e de he=>by simp at he,rfl⟩
theorem PassG.cons {fr':Fr}{aw':AW}(hq:d.eff=true∨d.op.op.quiet=true)(h1:EI P d.op (Om fr d.hide) aw v aw1)(h:PassG P l (OB fr d.op.dst v) aw1 st fr' aw'): PassG P (d::l) fr aw (⟨Om fr d.hide,v,aw,aw1⟩::st) fr' aw':=by
 have hq':d.eff=false→aw1=aw:=fun he=>by
  rcases hq with hq|hq
  ·rw[hq]at he;cases he
  ·exact h1.2.1 hq
 exact {
  len:=by simp[h.len]
  one:=fun i d' s hl hs=>by
   cases i with
   | zero=>simp at hl hs;subst hl hs;exact h1
   | succ i=>exact h.one i d' s (by simpa using hl) (by simpa using hs)
  fe:=fun i d' s x u hl hs hg=>by
   cases i with
   | zero =>
    simp at hl hs;subst hl hs;obtain⟨q1,q2⟩:=JlW hg;exact⟨q1,.inr ⟨fun k dk hk=>by omega,q2⟩⟩
   | succ i =>
    obtain⟨q1,q2⟩:=h.fe i d' s x u (by simpa using hl) (by simpa using hs) hg;exact⟨q1,q2.cons (s:=⟨Om fr d.hide,v,aw,aw1⟩)⟩
  ep:=fun i d' s hl hs=>by
   cases i with
   | zero=>simp at hl hs;subst hl hs;exact .inl ⟨fun e de he=>by omega,rfl⟩
   | succ i=>exact (h.ep i d' s (by simpa using hl) (by simpa using hs)).cons (s:=⟨Om fr d.hide,v,aw,aw1⟩) hq'
  fin:=fun x u hg=>(h.fin x u hg).cons (s:=⟨Om fr d.hide,v,aw,aw1⟩)
  epFin:=h.epFin.cons (s:=⟨Om fr d.hide,v,aw,aw1⟩) hq'}
end
end
section
variable [Globs]
theorem Dr {fr fr2:Fr}:∀{l:List Opd},(∀x∈l,x.ev fr2=x.ev fr)→evs fr2 l=evs fr l
 | [],_=>rfl
 | x::l,h=>by simp only[evs,h x Fj,Dr (l:=l) fun y hy=>h y (by simp[hy])]
theorem NZ {fr fr2:Fr}:∀{l:List (Nat×Nat×Opd)},(∀x∈l.map (·.2.2),x.ev fr2=x.ev fr)→Lg fr2 l=Lg fr l
 | [],_=>rfl
 | (a,b,x)::l,h=>by simp only[Lg,h x Fj,NZ (l:=l) fun y hy=>h y (by simp only[Kv,FJ];exact .inr hy)]
variable {fr:Fr}
theorem CV {fr2:Fr}{o:Option Opd}(h:∀x∈Af o,x.ev fr2=x.ev fr):Be fr2 o=Be fr o:=by
 cases o with
 | none=>rfl
 | some x=>simp only[Be,h x (by simp[Af])]
variable {o:AOp} {aw:AW}
theorem Ak {fr2:Fr}(h:∀x∈o.opds,x.ev fr2=x.ev fr):aop o fr2 aw=aop o fr aw:=by
 cases o<;>simp only[AOp.opds,FJ,F3,or_false,forall_eq_or_imp,forall_eq,Ka]at h<;>simp only[aop]
 case pick=>obtain⟨h1,h2,h3⟩:=h;rw[h1,h2,h3]
 case bin=>rw[h.1,h.2]
 case eqv=>rw[h.1,h.2]
 case eqAgg=>rw[h.1,h.2]
 case indexAddr=>rw[h.1,h.2]
 case indexArr=>rw[h.1,h.2]
 case indexStr=>rw[h.1,h.2]
 case indexAgg=>rw[h.1,h.2]
 case store=>rw[h.1,h.2]
 case mkSlice=>rw[h.1,h.2]
 case lookup=>rw[h.1,h.2]
 case mapEntry=>rw[h.1,h.2]
 case delete=>rw[h.1,h.2]
 case append=>rw[h.1,h.2]
 case copy=>rw[h.1,h.2]
 case build=>rw[NZ h]
 case buildSlice=>rw[NZ h]
 case slice=>rw[h.1,CV fun x hx=>h.2 x (.inl (.inl hx)),CV fun x hx=>h.2 x (.inl (.inr hx)),CV fun x hx=>h.2 x (.inr hx)]
 case sliceArr=>rw[h.1,CV fun x hx=>h.2 x (.inl (.inl hx)),CV fun x hx=>h.2 x (.inl (.inr hx)),CV fun x hx=>h.2 x (.inr hx)]
 case sliceStr=>rw[h.1,CV fun x hx=>h.2 x (.inl hx),CV fun x hx=>h.2 x (.inr hx)]
 case mapUpdate=>obtain⟨h1,h2,h3⟩:=h;rw[h1,h2,h3]
 case entryStore=>obtain⟨h1,h2,h3⟩:=h;rw[h1,h2,h3]
 case mkFunc=>rw[Dr fun x hx=>h x (.inl hx),Dr fun x hx=>h x (.inr hx)]
 case mn=>rw[Dr h]
 case mx=>rw[Dr h]
 case call=>rw[h.1,Dr h.2]
 case inv=>rw[h.1,Dr h.2]
 all_goals rw[h]
theorem Jo9 {hs:List Nat}{x:Opd}(h:x.clear hs=true):x.ev (Om fr hs)=x.ev fr:=by
 cases x with
 | const v=>rfl
 | tmp t =>
  simp only[Opd.clear,Bool.not_eq_true']at h;have hn:t∉hs:=fun hm=>by rw[memN_iff.2 hm]at h;cases h
  show (Om fr hs).get t=fr.get t;clear h;induction hs generalizing fr with
  | nil=>rfl
  | cons y hs ih =>
   simp only[FJ,not_or]at hn;show (Om (T.del fr y) hs).get t=_;rw[ih hn.2,T.get_delk,if_neg hn.1]
structure Agree (o:AOper) (fr fr2:Fr):Prop where
 op:∀x∈o.op.opds,x.ev fr2=x.ev fr
 guard:wanted fr2 o.guard=wanted fr o.guard
theorem Agree.refl (o:AOper)(fr:Fr):Agree o fr fr:=⟨fun _ _=>rfl,rfl⟩
variable {d:DOper}
theorem Rc (h:d.clear=true):Agree d.op fr (Om fr d.hide):=by
 simp only[DOper.clear,FT,List.all_eq_true]at h;refine⟨fun x hx=>Jo9 (h.1 x hx),?_⟩;have h2:=h.2;revert h2;generalize d.op.guard=g;intro h2;cases g with
 | none=>rfl
 | some p =>
  obtain⟨g,b⟩:=p;have:(Om fr d.hide).get g=fr.get g:=Jo9 (x:=.tmp g) h2;simp only[wanted,this]
section
variable {P:Program} {tab:Tab}
theorem JrV {o:AOper}(hw:wanted fr o.guard=some false):EI P o fr aw .undef aw:=⟨NR hw,fun _=>rfl,fun _=>rfl,fun _=> .inl ⟨hw,rfl⟩⟩
theorem JtJ {o:AOper}{aw1:AW}{v:V}(hw:wanted fr o.guard=some true)(ha:aop o.op fr aw=some (.val v,aw1)):EI P o fr aw v aw1:=by
 refine⟨Jjy hw ha,fun hq=>(IU hq ha).1,fun h=>(by rw[hw]at h;cases h),fun hl=> .inr ⟨hw,?_,fun o' hc=>(JtA hc hl ha).2⟩⟩;clear hw;revert ha hl;generalize o.op=ao;intro ha hl;cases ao<;>first|(cases hl;done)|skip
 all_goals simp only[aop]at ha
 all_goals ((repeat' split at ha)<;>first|(cases ha;rfl)|(cases ha;done))
mutual
theorem VL.beq_refl:∀(l:List V),VL.beq l l=true
 | []=>rfl
 | x::l=>by simp only[VL.beq,V.beq_refl x,VL.beq_refl l,Bool.and_self]
theorem V.beq_refl:∀(v:V),V.beq v v=true
 | .undef | .nilptr | .nilslice | .nilmap | .nilfunc | .niliface=>rfl
 | .bool true=>rfl
 | .bool false=>rfl
 | .int k n=>by simp[V.beq]
 | .str l=>by simp only[V.beq];exact eqL_iff.2 rfl
 | .ptr b o=>by simp[V.beq]
 | .slice b o l c=>by simp[V.beq]
 | .map b=>by simp[V.beq]
 | .func f a c=>by simp only[V.beq,decide_true,VL.beq_refl a,VL.beq_refl c,Bool.and_self]
 | .iface t v=>by simp only[V.beq,Nat.beq_refl,V.beq_refl v,Bool.and_self]
 | .agg l=>by simp only[V.beq,VL.beq_refl l]
 | .tuple l=>by simp only[V.beq,VL.beq_refl l]
end
theorem Jpw {v:V}{aw1:AW}(hp:o.pure=true)(h:aop o fr aw=some (.val v,aw1))(aw':AW):aop o fr aw'=some (.val v,aw'):=by
 have hv:∀{x:Option V},valOf x aw=some (.val v,aw1)→valOf x aw'=some (.val v,aw'):=by
  intro x hx;cases x with
  | none=>cases hx
  | some y=>cases hx;rfl
 cases o<;>first|(simp only[AOp.pure]at hp;cases hp;done)|skip
 all_goals simp only[aop]at h ⊢
 all_goals first
  | exact hv h
  | (repeat' split at h)<;>first|(exact hv h)|(cases h;done)|(cases h;simp_all)
def chk (l:List DOper) (st:List Stp) (p:Nat×Nat):Prop :=
 match l[p.1]?,st[p.1]?,st[p.2]? with
 | some d,some s,some se=>(wanted s.fe d.op.guard=some false∨(wanted s.fe d.op.guard=some true∧(∃a,aop d.op.op s.fe se.aw0=some (.val s.v,a))∧(∃a,aop d.op.op s.fe se.aw1=some (.val s.v,a))))
 | _,_,_=>False
def LF (l:List DOper) (st:List Stp):List (Nat×Nat)→Prop
 | []=>True
 | p::ps=>chk l st p∧LF l st ps
theorem JkE {l:List DOper}{st:List Stp}:∀{ps:List (Nat×Nat)},LF l st ps→∀p∈ps,chk l st p
 | [],_,p,h=>by simp at h
 | q::ps,h,p,hp=>by
  rcases List.mem_cons.1 hp with rfl|hp
  ·exact h.1
  ·exact JkE h.2 p hp
def Ny (d:DOper) (s:Stp):Prop:=wanted s.fe d.op.guard=some false∨(wanted s.fe d.op.guard=some true∧(d.op.op.quiet=true→∃a,aop d.op.op s.fe s.aw0=some (.val s.v,a)))
theorem JqJ (h:o.pure=true):o.quiet=true:=by cases o<;>first|rfl|(simp[AOp.pure]at h)
variable {s:Stp}
theorem MH {a:AW}(hw:wanted s.fe d.op.guard=some true)(h:aop d.op.op s.fe aw=some (.val s.v,a)):TP d s aw=true:=by
 simp only[TP,hw,h,V.beq_refl]
variable {l:List DOper} {st:List Stp}
theorem JkI (hlen:st.length=l.length)(hone:∀(i:Nat) (d:DOper) (s:Stp),l[i]? = some d→st[i]? = some s→Ny d s)(hc:LF l st (DR l)):SV l st=true:=by
 simp only[SV,List.all_eq_true,List.mem_range];intro i hi;obtain⟨d,hd⟩:∃d,l[i]? = some d:=⟨l[i],FB hi⟩;obtain⟨s,hs⟩:∃s,st[i]? = some s:=⟨st[i]'(by omega),FB Fh⟩;simp only[hd,hs,Bool.or_eq_true,List.all_eq_true,List.mem_range];by_cases hde:d.eff=true
 ·exact .inl hde
 refine .inr fun e he=>?_;obtain⟨de,hde'⟩:∃d,l[e]? = some d:=⟨l[e],FB he⟩;obtain⟨se,hse⟩:∃s,st[e]? = some s:=⟨st[e]'(by omega),FB Fh⟩;simp only[hde',hse,Bool.or_eq_true,FT,Bool.not_eq_true'];by_cases h1:de.eff=false
 ·exact .inl (.inl (.inl h1))
 by_cases h2:OJ i de.anc=true
 ·exact .inl (.inl (.inr h2))
 by_cases h3:OJ e d.anc=true
 ·exact .inl (.inr h3)
 refine .inr ?_;have hat:=hone i d s hd hs;rcases hat with hw|⟨hw,hq⟩
 ·have:∀a,TP d s a=true:=fun a=>by simp only[TP,hw]
  exact⟨this _,this _⟩
 ·by_cases hp:d.op.op.pure=true
  ·obtain⟨a,ha⟩:=hq (JqJ hp);exact⟨MH hw (Jpw hp ha _),MH hw (Jpw hp ha _)⟩
  ·have hmem:(i,e)∈DR l:=by
    simp only[DR,List.mem_flatMap,List.mem_range];refine⟨i,hi,?_⟩;simp only[hd];rw[if_neg (by simp[hde,hp])];simp only[JrX,List.mem_filterMap,List.mem_range];refine⟨e,he,?_⟩;simp only[hde'];rw[if_pos (by simp[h1,h2,h3])]
   have:=JkE hc _ hmem;simp only[chk,hd,hs,hse]at this;rcases this with h4|⟨_,⟨a,ha⟩,b,hb⟩
   ·rw[hw]at h4;cases h4
   ·exact⟨MH hw ha,MH hw hb⟩
structure Sim (ld:List DOper) (st st2:List Stp):Prop where
 len:st2.length=st.length
 pt:∀(i:Nat) (d:DOper) (s s2:Stp),ld[i]? = some d→st[i]? = some s→st2[i]? = some s2→Agree d.op s.fe s2.fe∧s2.v=s.v∧s2.aw0=s.aw0∧s2.aw1=s.aw1
theorem Sim.refl (ld:List DOper)(st:List Stp):Sim ld st st:=⟨rfl,fun i d s s2 _ h1 h2=>by rw[h1]at h2;cases h2;exact⟨.refl _ _,rfl,rfl,rfl⟩⟩
variable {ld:List DOper} {st2:List Stp}
theorem Sim.cons {s2:Stp}(h1:Agree d.op s.fe s2.fe∧s2.v=s.v∧s2.aw0=s.aw0∧s2.aw1=s.aw1)(h:Sim ld st st2):Sim (d::ld) (s::st) (s2::st2):=by
 refine⟨by simp[h.len],fun i d' s' s2' hd hs hs2=>?_⟩;cases i with
 | zero=>simp at hd hs hs2;subst hd hs hs2;exact h1
 | succ i=>exact h.pt i d' s' s2' (by simpa using hd) (by simpa using hs) (by simpa using hs2)
theorem JlD {s2:Stp}(h:Agree d.op s.fe s2.fe∧s2.v=s.v∧s2.aw0=s.aw0∧s2.aw1=s.aw1)(aw:AW):TP d s2 aw=TP d s aw:=by
 unfold TP;rw[h.1.guard,Ak h.1.op,h.2.1]
theorem Jvx {i:Nat}(h:ld[i]? = some d):(ld.map DOper.unh)[i]? = some d.unh:=by simp[h]
theorem Jox (hs:Sim ld st st2)(hl:st.length=ld.length)(hld:l=ld∨l=ld.map DOper.unh)(h:SV l st=true):SV ld st2=true:=by
 have hlen:l.length=ld.length:=by rcases hld with rfl|rfl<;>simp
 have get:∀{i:Nat} {d:DOper},ld[i]? = some d→∃d',l[i]? = some d'∧d'.eff=d.eff∧d'.anc=d.anc∧d'.op=d.op:=by
  intro i d hd;rcases hld with rfl|rfl
  ·exact⟨d,hd,rfl,rfl,rfl⟩
  ·exact⟨d.unh,Jvx hd,rfl,rfl,rfl⟩
 have hl2:=hs.len;simp only[SV,List.all_eq_true,List.mem_range]at h ⊢;intro i hi;obtain⟨d,hd⟩:∃d,ld[i]? = some d:=⟨ld[i],FB hi⟩;obtain⟨s,hs1⟩:∃s,st[i]? = some s:=⟨st[i],FB Fh⟩;obtain⟨s2,hs2⟩:∃s,st2[i]? = some s:=⟨st2[i],FB Fh⟩;obtain⟨d',hd',e1,e2,e3⟩:=get hd;have h0:=h i Fh;simp only[hd',hs1,Bool.or_eq_true,List.all_eq_true,List.mem_range]at h0;simp only[hd,hs2,Bool.or_eq_true,List.all_eq_true,List.mem_range];rcases h0 with h0|h0
 ·exact .inl (by rw[←e1];exact h0)
 refine .inr fun e he=>?_;obtain⟨de,hde⟩:∃d,ld[e]? = some d:=⟨ld[e],FB he⟩;obtain⟨t,ht1⟩:∃s,st[e]? = some s:=⟨st[e],FB Fh⟩;obtain⟨t2,ht2⟩:∃s,st2[e]? = some s:=⟨st2[e],FB Fh⟩;obtain⟨de',hde',f1,f2,f3⟩:=get hde;have h1:=h0 e Fh;simp only[hde',ht1]at h1;simp only[hde,ht2];have q:=hs.pt i d s s2 hd hs1 hs2;have q':=hs.pt e de t t2 hde ht1 ht2;have ag:∀aw,TP d' s aw=TP d s aw:=fun aw=>by simp only[TP,e3]
 rw[JlD q,JlD q,q'.2.2.1,q'.2.2.2,←f1,←f2,←e2,←ag,←ag];exact h1
end
end
end Go.AE
