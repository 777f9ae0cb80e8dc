/- A part of the proof. -/
import Derived.Test.YtegdcbdicpfbpaaGreatDoorJdB
import Derived.Laws.BytesString
import Derived.Lib.AppendStr
open Int renaming ofNat → Fq
set_option linter.unusedVariables false
set_option linter.unusedSectionVars false
set_option linter.unusedSimpArgs false
namespace Go.AE
variable [Globs]
section
variable {P:Program} {o:Oper} {act:Act} {aw aw':AW} {w:World} {m:Map} {base N:Nat} {fr:Fr}
variable {b off n:Nat} {l:List V} {e:Emb}
theorem Dv (hR:R aw w m base)(hm:m b=some e)(h:aw.load b off n=some l): ∃ys:List Value,ys.length=n∧VRs m l ys∧∀j v,ys[j]? = some v→w.cell? ((⟨e.c,e.s+off,none⟩:Addr).add j)=some v:=by
 unfold AW.load at h;split at h
 ·rename_i lb sh hb;split at h
  ·rename_i hal;obtain⟨cur,t,lo,hi,h1,h2,h3,h4,h5⟩:=hR.blk b e _ hm hb hal;obtain⟨q1,q2⟩:=M4 h;have hlen:off+n≤lb.length∨n=0:=by simp at q2;omega
   refine⟨(cur.toList.drop (e.s+off)).take n,?_,?_,?_⟩
   ·simp;omega
   ·subst q1;refine VRs.of_get ?_ (fun i x y hx hy=>?_)
    ·simp;omega
    ·simp only[List.getElem?_take,Kr]at hx hy;split at hx
     ·rename_i hi';rw[if_pos hi']at hy;obtain⟨z,z1,z2⟩:=h5 _ _ hx;simp only[Array.getElem?_toList]at hy;rw[show e.s+off+i=e.s+(off+i)from by omega]at hy;rw[z1]at hy;cases hy;exact z2
     ·cases hx
   ·intro j v hj;simp only[List.getElem?_take,Kr]at hj;split at hj
    ·have hadd:(⟨e.c,e.s+off,none⟩:Addr).add j=⟨e.c,e.s+off+j,none⟩:=by unfold Addr.add;split<;>simp_all
     rw[hadd];simp only[World.cell?,h1];simpa using hj
    ·cases hj
  ·cases h
 ·cases h
theorem ME (hR:R aw w m base)(hm:m b=some e)(h:aw.load b off n=some l): ∃ys:List Value,ys.length=n∧VRs m l ys∧(loadCells ⟨e.c,e.s+off,none⟩ n).run P w = .ok ys.toArray w:=by
 obtain⟨ys,h1,h2,h3⟩:=Dv hR hm h;refine⟨ys,h1,h2,?_⟩;rw[←h1];exact run_loadCells_list w _ ys h3
variable {v:V}
theorem RQ (hR:R aw w m base)(hm:m b=some e)(h:aw.load b off 1=some [v]): ∃y,VR m v y∧(load ⟨e.c,e.s+off,none⟩).run P w = .ok y w:=by
 obtain⟨ys,h1,h2,h3⟩:=Dv hR hm h;obtain⟨y,r,rfl,k1,k2⟩:=h2;have:=h3 0 y Fj;simp only[Addr.add_zero']at this;exact⟨y,k1,by simp[this]⟩
variable {t:TypeId} {x:Operand} {a:Opd}
theorem Jtz (hR:R aw w m base)(hfr:FR m N fr act.tmps)(ho:o.op = .load t x)(hx:La x=some a)(hs:sizeOf? P t=some n)(hg:Sl P t=some true)(h1:a.ev fr=some (.ptr b off))(h2:aw.load b off n=some l):OpOK P o act aw aw w m base (.val (.agg l)):=by
 obtain⟨e,hm,e1⟩:=Li hfr hx h1;obtain⟨ys,k1,k2,k3⟩:=ME (P:=P) hR hm h2;refine OpOK.quiet hR (v':=.agg ys.toArray) ?_ ⟨_,rfl,k2⟩;simp[execOp,ho,e1,Instr.loadAt,Instr.sureAddr,loadVar,IW hg,TY hs,k3]
theorem Jty (hR:R aw w m base)(hfr:FR m N fr act.tmps)(ho:o.op = .load t x)(hx:La x=some a)(hg:Sl P t=some false)(h1:a.ev fr=some (.ptr b off))(h2:aw.load b off 1=some [v]):OpOK P o act aw aw w m base (.val v):=by
 obtain⟨e,hm,e1⟩:=Li hfr hx h1;obtain⟨y,k1,k2⟩:=RQ (P:=P) hR hm h2;refine OpOK.quiet hR (v':=y) ?_ k1;simp only[execOp,ho,e1,Instr.loadAt,Instr.sureAddr,loadVar,Sem.run_bind,Sem.run_pure,Result.andThen_ok,IW hg,FM,if_false,k2]
theorem Ra {α:Type}(a:Array α)(i:Nat)(f:α→α)(x:α)(h:a[i]? = some x):a.modify i f=a.setIfInBounds i (f x):=by
 apply Array.ext
 ·simp
 ·intro j h1 h2;simp only[Array.size_modify]at h1;rw[Array.getElem_modify,Array.getElem_setIfInBounds]
  ·by_cases hij:i=j
   ·subst hij
    have:a[i]=x:=by
     have:=(Array.getElem?_eq_some_iff.1 h).2;exact this
    simp[this]
   ·simp[hij]
  ·exact h1
variable {c lo hi:Nat}
theorem JjL {k:Nat}{cur:Array Value}{v:Value}(h:w.heap[c]? = some (.cells cur t (lo,hi))):w.setCell ⟨c,k,none⟩ v=Oa w c (.cells (cur.setIfInBounds k v) t (lo,hi)):=by
 unfold World.setCell Oa;rw[Ra _ _ _ _ h];rfl
theorem NU {o1 o2:Obj}:Oa (Oa w c o1) c o2=Oa w c o2:=by
 simp only[Oa]
 congr 1
 exact Array.setIfInBounds_setIfInBounds ..
theorem JjM {o1:Obj}(h:w.heap[c]? = some o1):Oa w c o1=w:=by
 have:w.heap.setIfInBounds c o1=w.heap:=by
  apply Array.ext
  ·simp
  ·intro j h1 h2;rw[Array.getElem_setIfInBounds]
   ·by_cases hij:c=j
    ·subst hij;simp;exact ((Array.getElem?_eq_some_iff.1 h).2).symm
    ·simp[hij]
   ·exact h2
 simp[Oa,this]
theorem NT (c off:Nat)(t:TypeId)(lo hi:Nat):∀(vs:List Value) (i:Nat) (cur:Array Value) (w:World),w.heap[c]? = some (.cells cur t (lo,hi))→(lo=hi∨cur.size≤lo)→off+i+vs.length≤cur.size→(∀v∈vs,v.oneCell'=true)→ ∃cur':Array Value,(storeCells ⟨c,off,none⟩ vs i).run P w = .ok () (Oa w c (.cells cur' t (lo,hi)))∧cur'.size=cur.size∧∀j,cur'[j]? = if off+i≤j∧j<off+i+vs.length then vs[j-(off+i)]? else cur[j]?
 | [],i,cur,w,hg,hf,_,_=>by
  refine⟨cur,?_,rfl,fun j=>?_⟩
  ·rw[JjM hg];rfl
  ·rw[if_neg Fj]
 | v::vs,i,cur,w,hg,hf,hl,h1=>by
  simp only[FC]at hl;have hk:off+i<cur.size:=Fh;have hadd:(⟨c,off,none⟩:Addr).add i=⟨c,off+i,none⟩:=by unfold Addr.add;split<;>simp_all
  have hcell:w.cell? ⟨c,off+i,none⟩=some cur[off+i]:=by simp[World.cell?,hg,hk]
  have hfro:w.frozen? ⟨c,off+i,none⟩=false:=by
   simp only[World.frozen?,hg,Bool.and_eq_false_iff,decide_eq_false_iff_not];omega
  have hst:(store ((⟨c,off,none⟩:Addr).add i) v).run P w = .ok () (Oa w c (.cells (cur.setIfInBounds (off+i) v) t (lo,hi))):=by
   rw[hadd,run_store P w _ v _ (h1 v Fj),hcell];simp[hfro,JjL hg]
  have hc:c<w.heap.size:=(Array.getElem?_eq_some_iff.1 hg).1;obtain⟨cur',k1,k2,k3⟩:=NT c off t lo hi vs (i+1) (cur.setIfInBounds (off+i) v) (Oa w c (.cells (cur.setIfInBounds (off+i) v) t (lo,hi))) (IP hc) (by simpa using hf) (by simp;omega) (fun x hx=>h1 x (by simp[hx]));refine⟨cur',?_,by simpa using k2,fun j=>?_⟩
  ·simp only[storeCells,Sem.run_bind,hst,Result.andThen_ok,k1,NU]
  ·rw[k3 j];simp only[FC];by_cases c1:off+(i+1)≤j∧j<off+(i+1)+vs.length
   ·rw[if_pos c1,if_pos Fh];have:j-(off+i)=(j-(off+(i+1)))+1:=Fh;rw[this,Kh]
   ·rw[if_neg c1];by_cases c2:j=off+i
    ·subst c2;rw[if_pos Fh];simp[hk]
    ·rw[if_neg Fh,Array.getElem?_setIfInBounds_ne Fh]
theorem Jwj {x:Value}(h:VR m v x)(h1:v.one=true):x.oneCell'=true:=by
 cases v<;>simp only[V.one]at h1
 case agg=>cases h1
 case tuple=>cases h1
 case undef=>cases h1
 case str=>obtain⟨s,rfl,_⟩:=h;rfl
 case ptr=>obtain⟨e,_,rfl⟩:=h;rfl
 case map=>obtain⟨e,_,rfl⟩:=h;rfl
 case iface=>obtain⟨y,rfl,_⟩:=h;rfl
 case func=>obtain⟨f',c',rfl,_⟩:=h;rfl
 case slice b off len cap =>
  obtain⟨e,_,h2⟩:=h;cases cap with
  | known c=>simp only[]at h2;subst h2;rfl
  | upTo z=>obtain⟨ad,cp,rfl,_⟩:=h2;rfl
 all_goals (cases h;rfl)
theorem AZ:∀{l:List V} {l':List Value},VRs m l l'→Lv l=true→∀x∈l',x.oneCell'=true
 | [],l',h,_,x,hx=>by cases h;cases hx
 | v::l,l',h,ha,x,hx=>by
  obtain⟨y,ys,rfl,h2,h3⟩:=h;simp only[Lv]at ha;split at ha
  ·rename_i h1;rcases List.mem_cons.1 hx with rfl|hx
   ·exact Jwj h2 h1
   ·exact AZ h3 ha x hx
  ·cases ha
theorem El (hR:R aw w m base){vs:List V}{ys:List Value}(hm:m b=some e)(hv:VRs m vs ys)(h:aw.store b off vs=some aw'): ∃w',(storeCells ⟨e.c,e.s+off,none⟩ ys).run P w = .ok () w'∧R aw' w' m base∧Goes aw aw' w w' m m:=by
 unfold AW.store at h;split at h
 ·rename_i l sh hb
  have main:∀l',aw.alive b sh=true→sh≠.ro→Lv vs=true→over l off vs=some l'→∃w',(storeCells ⟨e.c,e.s+off,none⟩ ys).run P w = .ok () w'∧R (aw.turn b (.cells l' sh)) w' m base∧Goes aw (aw.turn b (.cells l' sh)) w w' m m:=by
   intro l' hal hro h1 ho;obtain⟨cur,t,lo,hi,k1,k2,k3,k4,k5⟩:=hR.blk b e _ hm hb hal;obtain⟨g1,g2,g3⟩:=getElem?_over ho;have hlen:=hv.length;obtain⟨cur',r1,r2,r3⟩:=NT (P:=P) e.c (e.s+off) t lo hi ys 0 cur w k1 ((k4.resolve_left hro).imp (·.1) (·.2)) Fh (AZ hv h1);have hrr:=hR.turn (b:=b) (e:=e) (x:=.cells l sh) (y:=.cells l' sh) (o:=.cells cur' t (lo,hi)) hm hb hal (by intro hc;cases hc;exact hro rfl) rfl ?_
   ·exact⟨_,r1,hrr.1,hrr.2⟩
   ·intro _;have hc:=(hR.lt b e hm).2;refine⟨cur',t,lo,hi,IP hc,by omega,by omega,.inr ((k4.resolve_left hro).imp id (fun h=>⟨h.1,by omega⟩)),fun i x hx=>?_⟩;rw[g3]at hx;rw[r3];by_cases hi':off≤i∧i<off+vs.length
    ·rw[if_pos hi']at hx;rw[if_pos Fh];obtain⟨z,z1,z2⟩:=hv.get hx;exact⟨z,by rw[show e.s+i-(e.s+off+0)=i-off from by omega];exact z1,z2⟩
    ·rw[if_neg hi']at hx;rw[if_neg Fh];exact k5 i x hx
  split at h
  ·rename_i h1 h3;split at h
   ·rename_i l' hl';cases h;exact main l' (by assumption) Fj (by assumption) hl'
   ·cases h
  ·rename_i h1 h3;split at h
   ·rename_i l' hl';cases h;exact main l' (by assumption) Fj (by assumption) hl'
   ·cases h
  ·rename_i f h1 h3;split at h
   ·rename_i l' hl';cases h;exact main l' (by assumption) Fj (by assumption) hl'
   ·cases h
  ·cases h
 ·cases h
theorem Jt5 (hR:R aw w m base)(hfr:FR m N fr act.tmps){v:Operand}{c:Opd}(ho:o.op = .store t x v)(hx:La x=some a)(hc:La v=some c)(hs:sizeOf? P t=some n){vv:V}(h1:a.ev fr=some (.ptr b off))(h2:c.ev fr=some vv)(h3:vv.cells.length=n)(h4:aw.store b off vv.cells=some aw'):OpOK P o act aw aw' w m base .skip:=by
 obtain⟨e,hm,e1⟩:=Li hfr hx h1;have hv:=(Li hfr hc h2).cells;obtain⟨w',k1,k2,k3⟩:=El (P:=P) hR hm hv h4;have hsz:(act.eval v).cells.size=n:=by have:=hv.length;simpa[h3]using this
 refine⟨w',m,?_,k2,k3⟩;simp[execOp,ho,e1,Instr.storeAt,Instr.sureAddr,storeVar,TY hs,hsz,k1]
variable {cs:Array Value}
theorem Ao (hR:R aw w m base)(hlh:lo=hi)(hc:CR m l 0 cs)(hl:l.length≤cs.size): R (aw.fresh l) (w.alloc (.cells cs t (lo,hi))) (m.set aw.next ⟨w.heap.size,0,cs.size⟩) base∧Goes aw (aw.fresh l) w (w.alloc (.cells cs t (lo,hi))) m (m.set aw.next ⟨w.heap.size,0,cs.size⟩):=by
 have hnone:m aw.next=none:=by
  cases h:m aw.next with
  | none=>rfl
  | some e=>exact absurd (hR.lt _ _ h).1 Fh
 refine hR.new (.cells l .own) _ cs.size rfl ?_;intro _;exact⟨cs,t,lo,hi,Cw w _,rfl,by simpa using hl,.inr (.inl ⟨hlh,fun _=>rfl⟩),hc.mono (Map.le_set hnone)⟩
theorem Jnm (hR:R aw w m base)(hlh:lo=hi∨cs.size≤lo)(hc:CR m l 0 cs)(hl:l.length≤cs.size): R (aw.freshLax l) (w.alloc (.cells cs t (lo,hi))) (m.set aw.next ⟨w.heap.size,0,cs.size⟩) base∧Goes aw (aw.freshLax l) w (w.alloc (.cells cs t (lo,hi))) m (m.set aw.next ⟨w.heap.size,0,cs.size⟩):=by
 have hnone:m aw.next=none:=by
  cases h:m aw.next with
  | none=>rfl
  | some e=>exact absurd (hR.lt _ _ h).1 Fh
 refine hR.new (.cells l .lax) _ cs.size rfl ?_;intro _;exact⟨cs,t,lo,hi,Cw w _,rfl,by simpa using hl,.inr (hlh.imp (fun h=>⟨h,fun _=>rfl⟩) (fun h=>⟨by simp,h⟩)),hc.mono (Map.le_set hnone)⟩
theorem VRs.CR (h:VRs m l cs.toList):CR m l 0 cs:=fun i x hx=>by
 obtain⟨y,y1,y2⟩:=h.get hx;exact⟨y,by simpa using y1,y2⟩
theorem Mi (hR:R aw w m base):m aw.next=none:=by
 cases h:m aw.next with
 | none=>rfl
 | some e=>exact absurd (hR.lt _ _ h).1 Fh
theorem JsK (hR:R aw w m base){z:V}(ho:o.op = .alloc t)(hz:BG P t=some z):OpOK P o act aw (aw.fresh z.cells) w m base (.val (.ptr aw.next 0)):=by
 obtain⟨z',hz1,hz2⟩:=Iy (P:=P) (w:=w) (m:=m) hz;obtain⟨r1,r2⟩:=Ao hR (t:=t) (lo:=0) (hi:=0) rfl hz2.cells.CR (by have:=hz2.cells.length;simp at this;omega);refine⟨.pointer (some ⟨w.heap.size,0,none⟩),_,_,?_,⟨_,Map.set_same _ _ _,rfl⟩,r1,r2⟩;simp[execOp,ho,Instr.alloc,hz1,newVar,newRow]
theorem JvU (hR:R aw w m base)(hfr:FR m N fr act.tmps)(ho:o.op = .box t x)(hx:La x=some a)(h1:a.ev fr=some v): OpOK P o act aw (aw.fresh v.cells) w m base (.val (.ptr aw.next 0)):=by
 have hv:=(Li hfr hx h1).cells;obtain⟨r1,r2⟩:=Ao hR (t:=t) (lo:=0) (hi:=0) rfl hv.CR (by have:=hv.length;simp at this;omega);refine⟨.pointer (some ⟨w.heap.size,0,none⟩),_,_,?_,⟨_,Map.set_same _ _ _,rfl⟩,r1,r2⟩;simp[execOp,ho,Instr.box,newVar,newRow]
theorem JpD (l:List V):∀(n i:Nat),((List.replicate n l).flatten)[i]? = if i<n*l.length then l[i % l.length]? else none
 | 0,i=>by simp
 | n+1,i=>by
  rw[List.replicate_succ,List.flatten_cons,List.getElem?_append];have hs:(n+1)*l.length=n*l.length+l.length:=Nat.succ_mul ..;split
  ·rename_i h;rw[if_pos Fh,Nat.mod_eq_of_lt h]
  ·rename_i h;rw[JpD l n];have:i % l.length=(i-l.length) % l.length:=by rw[Nat.mod_eq_sub_mod Fh]
   rw[this];by_cases h2:i-l.length<n*l.length
   ·rw[if_pos h2,if_pos Fh]
   ·rw[if_neg h2,if_neg Fh]
theorem Ew {z:Array Value}(h:VRs m l z.toList)(n k:Nat)(hk:k=n*l.length):VRs m (List.replicate n l).flatten ((Array.range k).map (fun i=>z[i % z.size]!)).toList:=by
 have hl:=h.length;simp only[Array.length_toList]at hl;refine VRs.of_get (by simp[hk]) (fun i x y hx hy=>?_);rw[JpD]at hx;split at hx
 ·rename_i hi;obtain⟨u,u1,u2⟩:=h.get hx;simp only[Array.getElem?_toList]at u1;simp only[Array.getElem?_toList,Array.getElem?_map,Array.getElem?_range,Option.map_eq_some_iff]at hy;obtain⟨q,hq,rfl⟩:=hy;split at hq
  ·cases hq;rw[getElem!_def,hl,u1];exact u2
  ·cases hq
 ·cases hx
theorem Jir (hR:R aw w m base)(hfr:FR m N fr act.tmps){el:TypeId}{len:Nat}{parts:Array (Nat×Operand)}{i:TypeInfo}{zs:List V}{r:List (Nat×Nat×Opd)}(ho:o.op = .buildSlice t len parts)(hu:P.underlying t=some (.slice el))(hi:P.info? el=some i)(hmax:len*i.size≤16777216)(hz:(len*i.size=0∧zs=[])∨(len*i.size≠0∧∃z,BG P el=some z∧z.cells.length=i.size∧zs=(List.replicate len z.cells).flatten))(hc:IX (fun j=>some (j*i.size,i.size)) parts.toList=some r){ps:List (Nat×Nat×V)}(h1:Lg fr r=some ps)(h2:Lj zs ps=some l): OpOK P o act aw (aw.fresh l) w m base (.val (.slice aw.next 0 len (.known len))):=by
 have e:(parts.map fun p=>(p.1,act.eval p.2)).toList=parts.toList.map fun p=>(p.1,act.eval p.2):=Fj;have hs:(sizeOf el).run P w = .ok i.size w:=by simp[sizeOf,typeInfo,hi]
 rcases hz with⟨h0,rfl⟩|⟨h0,z,hz,hzl,rfl⟩
 ·obtain⟨cs',k1,k2⟩:=Dx (cs:=#[]) hfr hc h1 h2 rfl;obtain⟨r1,r2⟩:=Ao hR (t:=el) (lo:=0) (hi:=0) rfl k2.CR (by have:=k2.length;simp at this;omega);refine⟨.slice (some ⟨w.heap.size,0,none⟩) len len,_,_,?_,⟨_,Map.set_same _ _ _,rfl⟩,r1,r2⟩;have hmax':¬(len*i.size>2 ^ 24):=Fh;simp only[execOp,ho,Instr.buildSlice,Sem.run_bind,run_underlying hu,Result.andThen_ok,hs,if_neg hmax',if_pos h0,Sem.run_pure,e];have e2:(Array.range (len*i.size)).map (fun x=>(#[]:Array Value)[x % (#[]:Array Value).size]!) = #[]:=by rw[h0];simp
  rw[e2,k1];simp[newRow]
 ·obtain⟨z',hz1,hz2⟩:=Iy (P:=P) (w:=w) (m:=m) hz;have hv:=Ew hz2.cells len (len*i.size) (by rw[hzl]);obtain⟨cs',k1,k2⟩:=Dx hfr hc h1 h2 hv;obtain⟨r1,r2⟩:=Ao hR (t:=el) (lo:=0) (hi:=0) rfl k2.CR (by have:=k2.length;simp at this;omega);refine⟨.slice (some ⟨w.heap.size,0,none⟩) len len,_,_,?_,⟨_,Map.set_same _ _ _,rfl⟩,r1,r2⟩;have hmax':¬(len*i.size>2 ^ 24):=Fh;simp only[execOp,ho,Instr.buildSlice,Sem.run_bind,run_underlying hu,Result.andThen_ok,hs,if_neg hmax',if_neg h0,Sem.run_pure,e,hz1];rw[k1];simp[newRow]
end
section
variable [Globs]
section
variable {P:Program} {o:Oper} {act:Act} {aw aw':AW} {w:World} {m:Map} {base N:Nat} {fr:Fr}
variable {t:TypeId} {i:TypeInfo}
theorem JqD (hR:R aw w m base)(hfr:FR m N fr act.tmps){el:TypeId}{l c:Operand}{al ac:Opd}{z:V}(ho:o.op = .makeSlice t l c)(hl:La l=some al)(hc:La c=some ac)(hu:P.underlying t=some (.slice el))(hi:P.info? el=some i)(hz:BG P el=some z)(hzl:z.cells.length=i.size)(hpos:0<i.size){lv cv:V}{ln cn:Nat}(h1:al.ev fr=some lv)(h2:ac.ev fr=some cv)(h3:idx lv=some ln)(h4:idx cv=some cn)(h5:ln≤cn)(h6:cn≤70368744177664)(h7:cn*i.bytes≤70368744177664): OpOK P o act aw (aw.fresh ((List.replicate cn z.cells).flatten)) w m base (.val (.slice aw.next 0 ln (.known cn))):=by
 obtain⟨k1,e1⟩:=Ch h3 (Li hfr hl h1);obtain⟨k2,e2⟩:=Ch h4 (Li hfr hc h2);obtain⟨z',hz1,hz2⟩:=Iy (P:=P) (w:=w) (m:=m) hz;have hv:=Ew hz2.cells cn (cn*i.size) (by rw[hzl]);obtain⟨r1,r2⟩:=Ao hR (t:=el) (lo:=0) (hi:=0) rfl hv.CR (by simp[hzl]);refine⟨.slice (some ⟨w.heap.size,0,none⟩) ln cn,_,_,?_,⟨_,Map.set_same _ _ _,rfl⟩,r1,r2⟩;have w1:IntKind.i64.wrap (ln:Int)=ln:=IntWalk.i64_in _ Fh;have w2:IntKind.i64.wrap (cn:Int)=cn:=IntWalk.i64_in _ Fh
 have hb:¬((i.bytes:Int)*(cn:Int)>2 ^ 48):=by
  rw[Int.mul_comm];have:((cn*i.bytes:Nat):Int)≤70368744177664:=Fh;rw[Int.natCast_mul]at this;omega
 have hs:(sizeOf el).run P w = .ok i.size w:=by simp[sizeOf,typeInfo,hi]
 simp only[execOp,ho,Instr.makeSlice,Sem.run_bind,run_underlying hu,Result.andThen_ok,e1,e2,asInt,asIntOf,Sem.run_pure,typeInfo,run_program,hi,w1,w2]
 have hcond:(decide ((cn:Int)<0)||decide ((i.bytes:Int)*(cn:Int)>2 ^ 48)||decide ((ln:Int)<0)||decide ((ln:Int)>(cn:Int)))=false:=by
  simp only[Bool.or_eq_false_iff,decide_eq_false_iff_not];refine⟨⟨⟨by omega,hb⟩,by omega⟩,by omega⟩
 rw[if_neg (by rw[hcond];simp)];simp only[run_askRoom,Sem.run_bind,Sem.run_pure,Result.andThen_ok,hs,Int.toNat_natCast];by_cases h0:cn*i.size=0
 ·rw[if_pos h0];have q1:(Array.range (cn*i.size)).map (fun x=>(#[]:Array Value)[x % (#[]:Array Value).size]!) = #[]:=by rw[h0];simp
  have q2:(Array.range (cn*i.size)).map (fun x=>z'.cells[x % z'.cells.size]!) = #[]:=by rw[h0];simp
  simp only[Sem.run_pure,Result.andThen_ok,q1,q2,newRow,Sem.run_bind,run_newObj];rfl
 ·rw[if_neg h0];simp[hz1,newRow]
theorem NV (s:ByteArray):VRs m (CX (LH s)) (Lib.strCells s):=by
 simp only[CX,LH,Lib.strCells,List.map_map];induction s.data.toList with
 | nil=>rfl
 | cons x xs ih=>exact⟨_,_,rfl,rfl,ih⟩
variable {x:Value} {k:Nat}
theorem A8 (hR:R aw w m base){esz:Nat}{v:V}(hx:VR m v x){news:List V}(h:aw.elems esz v=some (k,news)): news.length=k*esz∧(Builtin.lenOf x).run P w = .ok k w∧∃ns:Array Value,VRs m news ns.toList∧∀w1:World,w1.heap=w.heap→(Builtin.firstCells esz k x).run P w1 = .ok ns w1:=by
 cases v<;>simp only[AW.elems]at h
 case nilslice =>
  cases h;cases hx;exact⟨by simp,rfl,#[],rfl,fun w1 _=>rfl⟩
 case slice b off len cap =>
  have hlen:(Builtin.lenOf x).run P w = .ok len w:=by
   obtain⟨e,_,h2⟩:=hx;cases cap with
   | known c=>simp only[]at h2;subst h2;rfl
   | upTo z=>obtain⟨ad,cp,rfl,_⟩:=h2;rfl
  cases len with
  | zero =>
   cases h;refine⟨by simp,hlen,#[],rfl,fun w1 _=>?_⟩;obtain⟨e,_,h2⟩:=hx;cases cap with
   | known c=>simp only[]at h2;subst h2;simp[Builtin.firstCells,loadCells,loadCellsFrom]
   | upTo z=>obtain⟨ad,cp,rfl,_⟩:=h2;simp[Builtin.firstCells,loadCells,loadCellsFrom]
  | succ len =>
   have h:(match aw.load b off ((len+1)*esz)with|some l=>some (len+1,l)|none=>none)=some (k,news):=h;split at h
   ·rename_i l hl;cases h;obtain⟨e,hm,h2⟩:=hx;obtain⟨ys,y1,y2,y3⟩:=Dv hR hm hl;refine⟨by have:=y2.length;omega,hlen,ys.toArray,y2,fun w1 hw=>?_⟩;have hcell:∀a,w1.cell? a=w.cell? a:=fun a=>by simp[World.cell?,hw]
    have hload:(loadCells ⟨e.c,e.s+off,none⟩ ((len+1)*esz)).run P w1 = .ok ys.toArray w1:=by
     rw[←y1];exact run_loadCells_list w1 _ ys (fun j v hj=>by rw[hcell];exact y3 j v hj)
    cases cap with
    | known c=>simp only[]at h2;subst h2;exact hload
    | upTo z =>
     obtain⟨ad,cp,rfl,hle,hcase⟩:=h2;rcases hcase with⟨rfl,_⟩|h0
     ·exact hload
     ·omega
   ·cases h
 case str l =>
  split at h
  ·rename_i h1;cases h;subst h1;obtain⟨s,rfl,rfl⟩:=hx;refine⟨by simp[CX],by rw[Cb];rfl,(Lib.strCells s).toArray,NV s,fun w1 _=>?_⟩;rw[Cb];exact Lib.run_firstCells_string w1 1 s
  ·cases h
 all_goals cases h
variable {u:TypeId} {d:TypeDesc}
theorem JrU (hu:P.underlying u=some d)(hd:∀k,d≠.int k):
  (do pure ((←underlying u) matches .int _):Sem Bool).run P w = .ok false w:=by
 simp only[Sem.run_bind,run_underlying hu,Result.andThen_ok];cases d<;>first|rfl|exact absurd rfl (hd _)
variable {ty e:TypeId} {ba:Option Addr} {sLen sCap:Nat} {ns:Array Value}
theorem ET (ht:P.underlying t=some (.slice e))(hu:P.underlying u=some d)(hd:∀k,d≠.int k)(hi:P.info? e=some i)
 (hlen:(Builtin.lenOf x).run P w = .ok k w)(hcells:(Builtin.firstCells i.size k x).run P w = .ok ns w)(hroom:sLen+k≤sCap){w':World}
 (hst:match ba with|some a=>(storeCells (a.add (sLen*i.size)) ns.toList).run P w = .ok () w'|none=>w'=w):
  (Builtin.append_ #[t,u] ty #[.slice ba sLen sCap,x]).run P w = .ok (.slice ba (sLen+k) sCap) w':=by
 have hn:=JrU (w:=w) hu hd;simp only[Sem.run_bind,run_underlying hu,Result.andThen_ok]at hn;have hs:(sizeOf e).run P w = .ok i.size w:=by simp[sizeOf,typeInfo,hi]
 cases ba with
 | none =>
  subst hst;simp[Builtin.append_,run_underlying ht,run_underlying hu,hs,hn,hlen,hcells,hroom]
 | some a=>simp[Builtin.append_,run_underlying ht,run_underlying hu,hs,hn,hlen,hcells,hroom,hst]
theorem Jgq {z:Value}(ht:P.underlying t=some (.slice e))(hu:P.underlying u=some d)(hd:∀k,d≠.int k)(hi:P.info? e=some i)(hz:i.zero=some z){os:Array Value}(hlen:(Builtin.lenOf x).run P w = .ok k w)(hold:(Builtin.firstCells i.size sLen (.slice ba sLen sCap)).run P w.drew = .ok os w.drew)(hcells:(Builtin.firstCells i.size k x).run P w.drew = .ok ns w.drew)(hno:sCap<sLen+k)(h63:sLen+k≤70368744177664)(hb:(sLen+k)*i.bytes≤70368744177664): (Builtin.append_ #[t,u] ty #[.slice ba sLen sCap,x]).run P w = .ok (.slice (some ⟨w.heap.size,0,none⟩) (sLen+k) (grownCap w (sLen+k) sCap e)) (w.drew.alloc (.cells (os++ns++Builtin.zeroCells z.cells (grownCap w (sLen+k) sCap e-(sLen+k))) e)):=by
 have hn:=JrU (w:=w) hu hd;simp only[Sem.run_bind,run_underlying hu,Result.andThen_ok]at hn;have hs:(sizeOf e).run P w = .ok i.size w:=by simp[sizeOf,typeInfo,hi]
 have hroom:¬(sLen+k≤sCap):=Fh;have h63':¬(9223372036854775807<((sLen:Int)+(k:Int))):=Fh;have hfit:=growslice_fits hno (show (sLen+k)*i.bytes≤140737488355328 by omega);have hfit':¬(281474976710656<Builtin.nextslicecap (sLen+k) sCap*i.bytes):=Fh;have hdrew:({w with drawn:=w.drawn+1}:World)=w.drew:=rfl;simp[Builtin.append_,run_underlying ht,run_underlying hu,hs,hn,hlen,hroom,h63',hfit',Question.forced,hdrew,hold,hcells,zeroValue,typeInfo,hi,hz,newRow,grownCap]
end
end
section
variable [Globs]
section
variable {P:Program} {o:Oper} {act:Act} {aw aw':AW} {w:World} {m:Map} {base N:Nat} {fr:Fr}
theorem Rx (z:Array Value)(n:Nat):(Builtin.zeroCells z n).size=n*z.size:=by simp[Builtin.zeroCells]
variable {l:List V} {ns:Array Value} {z:Value} {t:TypeId}
theorem Jtu (hR:R aw w m base){os:Array Value}{need cap esz:Nat}(hl:VRs m l (os++ns).toList)(hz:z.cells.size=esz)(hsz:(os++ns).size=need*esz)(hcap:need≤cap): R (aw.fresh l) (w.drew.alloc (.cells (os++ns++Builtin.zeroCells z.cells (cap-need)) t)) (m.set aw.next ⟨w.heap.size,0,cap*esz⟩) base∧ Goes aw (aw.fresh l) w (w.drew.alloc (.cells (os++ns++Builtin.zeroCells z.cells (cap-need)) t)) m (m.set aw.next ⟨w.heap.size,0,cap*esz⟩):=by
 have htot:(os++ns++Builtin.zeroCells z.cells (cap-need)).size=cap*esz:=by
  rw[Array.size_append,hsz,Rx,hz,←Nat.add_mul]
  congr 1;omega
 have hc:CR m l 0 (os++ns++Builtin.zeroCells z.cells (cap-need)):=by
  intro i x hx;obtain⟨y,y1,y2⟩:=hl.get hx;simp only[Array.getElem?_toList]at y1;have hlt:i<(os++ns).size:=(Array.getElem?_eq_some_iff.1 y1).1;refine⟨y,?_,y2⟩;rw[FV,Array.getElem?_append_left hlt];exact y1
 have hlen:=hl.length;simp only[Array.length_toList]at hlen
 have hll:l.length≤(os++ns++Builtin.zeroCells z.cells (cap-need)).size:=by
  rw[Array.size_append];omega
 obtain⟨r1,r2⟩:=Ao hR.drew (t:=t) (lo:=0) (hi:=0) rfl hc hll;rw[htot]at r1 r2;exact⟨r1,Goes.trans hR (Goes.drew aw w m) r2⟩
variable {u e:TypeId} {i:TypeInfo} {d:TypeDesc} {news:List V}
theorem NY (hR:R aw w m base){ty:TypeId}(ht:P.underlying t=some (.slice e))(hu:P.underlying u=some d)(hd:∀k,d≠.int k)(hi:P.info? e=some i)(hz:i.zero=some z)(hzs:z.cells.size=i.size){b off len k:Nat}{S x:Value}(hs:VR m (.slice b off len (.upTo i.size)) S)(hnl:news.length=k*i.size)(hlen:(Builtin.lenOf x).run P w = .ok k w)(hns:VRs m news ns.toList)(hcells:∀w1:World,w1.heap=w.heap→(Builtin.firstCells i.size k x).run P w1 = .ok ns w1)(hk:0<k)(h63:len+k≤70368744177664)(hb:(len+k)*i.bytes≤70368744177664)(hone:Lv news=true){v:V}(h:aw.appendFam i.size b off len k news=some (v,aw')): ∃v' w' m',(Builtin.append_ #[t,u] ty #[S,x]).run P w = .ok v' w'∧VR m' v v'∧R aw' w' m' base∧Goes aw aw' w w' m m':=by
 unfold AW.appendFam at h;split at h
 ·rename_i l f hbk;split at h
  ·rename_i F hal hF hfront;cases h;have hfr:off+len*i.size=l.length:=Nat.eq_of_beq_eq_true hfront;obtain⟨en,hm,ad,cp,rfl,hle,hcase⟩:=hs;obtain⟨cur,tt,lo,hi',p1,p2,p3,p4,p5⟩:=hR.blk b en _ hm hbk hal;have hblt:=hR.lt b en hm;have hnsz:ns.size=k*i.size:=by have:=hns.length;simp at this;omega
   have hnone:=Mi hR;by_cases hroom:len+k≤cp
   ·-- it lies where it lay
    rcases hcase with⟨rfl,htot⟩|h0
    ·have hfit:(len+k)*i.size≤cp*i.size:=Nat.mul_le_mul_right _ hroom;rw[Nat.add_mul]at hfit;obtain⟨cur',r1,r2,r3⟩:=NT (P:=P) en.c (en.s+off+len*i.size) tt lo hi' ns.toList 0 cur w p1 ((p4.resolve_left Fj).imp (·.1) (·.2)) (by simp;omega) (AZ hns hone)
     have hst:(storeCells ((⟨en.c,en.s+off,none⟩:Addr).add (len*i.size)) ns.toList).run P w = .ok () (Oa w en.c (.cells cur' tt (lo,hi'))):=by
      rw[Addr.add_lit];exact r1
     have hrun:=ET (ty:=ty) ht hu hd hi hlen (hcells w rfl) hroom (ba:=some ⟨en.c,en.s+off,none⟩) hst
     have hg:=hR.grow (F:=F) (l2:=l.drop off++news) (en:=⟨en.c,en.s+off,en.tot⟩) (w':=Oa w en.c (.cells cur' tt (lo,hi'))) hm hbk hal hF (by simp[Oa]) (by simpa[Oa]using hblt.2) rfl rfl rfl
      (.inl ⟨rfl,by simp;omega,fun c2 t2 lo2 hi2 hc2=>by
       rw[p1]at hc2;cases hc2;refine⟨cur',IP hblt.2,r2,fun j hj=>?_⟩;rw[r3,if_neg Fh]⟩)
      (fun c hc hne=>C9 hne) ?_
     ·refine⟨_,_,_,hrun,⟨_,Map.set_same _ _ _,_,_,rfl,hroom,.inl ⟨rfl,?_⟩⟩,hg.1,hg.2⟩;simp only[KF];exact htot
     ·intro _;refine⟨cur',tt,lo,hi',IP hblt.2,by simpa using r2.trans p2,by simp;omega,.inr ((p4.resolve_left Fj).imp (fun h=>⟨h.1,fun q=>by cases q⟩) (fun h=>⟨by simp,by omega⟩)),fun j q hq=>?_⟩;simp only[]at hq ⊢;rw[List.getElem?_append]at hq;split at hq
      ·rename_i hj;simp at hj hq;obtain⟨y,y1,y2⟩:=p5 _ _ hq;refine⟨y,?_,y2.mono (Map.le_set hnone)⟩;rw[r3,if_neg Fh,show en.s+off+j=en.s+(off+j)from by omega];exact y1
      ·rename_i hj;simp at hj hq;obtain⟨y,y1,y2⟩:=hns.get hq;have hjl:j-(l.length-off)<news.length:=(List.getElem?_eq_some_iff.1 hq).1;refine⟨y,?_,y2.mono (Map.le_set hnone)⟩;rw[r3,if_pos (by simp;omega),show en.s+off+j-(en.s+off+len*i.size+0)=j-(l.length-off)from by omega];exact y1
    ·omega
   ·-- it lies anew
    have hold:∃os:Array Value,VRs m (l.drop off) os.toList∧os.size=len*i.size∧(Builtin.firstCells i.size len (.slice (some ad) len cp)).run P w.drew = .ok os w.drew:=by
     rcases hcase with⟨rfl,htot⟩|h0
     ·have hload:aw.load b off (len*i.size)=some (l.drop off):=by
       simp only[AW.load,hbk,hal]
       have:∀(q:List V) (n:Nat),q.length=n→Lr n q=some q:=by
        intro q;induction q with
        | nil=>intro n hn;subst hn;rfl
        | cons a q ih=>intro n hn;subst hn;simp[Lr,ih _ rfl]
       exact this _ _ (by simp;omega)
      obtain⟨ys,y1,y2,y3⟩:=ME (P:=P) hR.drew hm hload;exact⟨ys.toArray,y2,by simpa using y1,y3⟩
     ·have hl0:len=0:=Fh;subst hl0;refine⟨#[],?_,by simp,by simp[Builtin.firstCells,loadCells,loadCellsFrom]⟩;have:l.drop off=[]:=by simp at hfr ⊢;omega
      rw[this];rfl
    obtain⟨os,o1,o2,o3⟩:=hold;have hrun:=Jgq (ty:=ty) ht hu hd hi hz hlen o3 (hcells w.drew rfl) Fh h63 hb (ba:=some ad);have hge:=grownCap_ge w (len+k) cp e;have hsz:(os++ns).size=(len+k)*i.size:=by rw[Array.size_append,o2,hnsz,Nat.add_mul]
    have htot:(os++ns++Builtin.zeroCells z.cells (grownCap w (len+k) cp e-(len+k))).size=grownCap w (len+k) cp e*i.size:=by
     rw[Array.size_append,hsz,Rx,hzs,←Nat.add_mul]
     congr 1;omega
    have hg:=hR.grow (F:=F) (l2:=l.drop off++news) (en:=⟨w.heap.size,0,grownCap w (len+k) cp e*i.size⟩) (w':=w.drew.alloc (.cells (os++ns++Builtin.zeroCells z.cells (grownCap w (len+k) cp e-(len+k))) e)) hm hbk hal hF Fj Fj rfl rfl rfl
      (.inr ⟨FH _,DF w.drew _ hblt.2⟩) (fun c hc hne=>DF w.drew _ hc) ?_
    ·refine⟨_,_,_,hrun,⟨_,Map.set_same _ _ _,_,_,rfl,hge,.inl ⟨rfl,by simp⟩⟩,hg.1,hg.2⟩
    ·intro _;refine⟨_,e,0,0,Cw w.drew _,htot,?_,.inr (.inl ⟨rfl,fun h=>by cases h⟩),?_⟩
     ·simp only[FE,Ki,FV];have:=Nat.mul_le_mul_right i.size hge;rw[Nat.add_mul]at this;omega
     ·intro j q hq;have hv:VRs m (l.drop off++news) (os++ns).toList:=by simpa using o1.append hns
      obtain⟨y,y1,y2⟩:=hv.get hq;simp only[Array.getElem?_toList]at y1;have hlt:j<(os++ns).size:=(Array.getElem?_eq_some_iff.1 y1).1;refine⟨y,?_,y2.mono (Map.le_set hnone)⟩;rw[FV,Array.getElem?_append_left hlt];exact y1
  ·cases h
 ·cases h
theorem JlS {esz b off len:Nat}{cap:Cap}{n:Nat}(h:aw.elems esz (.slice b off len cap)=some (n,l)):n=len:=by
 cases len with
 | zero=>cases h;rfl
 | succ len =>
  have h:(match aw.load b off ((len+1)*esz)with|some l=>some (len+1,l)|none=>none)=some (n,l):=h;split at h
  ·cases h;rfl
  ·cases h
section
variable {t u ty e:TypeId} {i:TypeInfo} {d:TypeDesc} {z:Value} (ht:P.underlying t=some (.slice e)) (hu:P.underlying u=some d) (hd:∀k,d≠.int k) (hi:P.info? e=some i) (hz:i.zero=some z) (hzs:z.cells.size=i.size)
include ht hu hd hi hz hzs
variable {x:Value} {ba:Option Addr}
theorem Rm (hR:R aw w m base){s:V}{S:Value}(hs:VR m s S)(hlen:(Builtin.lenOf x).run P w = .ok 0 w)(hns:ns.size=0)(hcells:(Builtin.firstCells i.size 0 x).run P w = .ok ns w){ln cp:Nat}(hS:S = .slice ba ln cp)(hle:ln≤cp): ∃v' w' m',(Builtin.append_ #[t,u] ty #[S,x]).run P w = .ok v' w'∧VR m' s v'∧R aw w' m' base∧Goes aw aw w w' m m':=by
 subst hS;have hns0:ns = #[]:=Array.eq_empty_of_size_eq_zero hns;subst hns0;refine⟨_,w,m,ET (w':=w) (ty:=ty) ht hu hd hi hlen hcells (by simpa using hle) ?_,hs,hR,.refl _ _ _⟩;cases ba<;>rfl
theorem Jip (hR:R aw w m base){k:Nat}{ln cp:Nat}{old:List V}{os:Array Value}(hlen:(Builtin.lenOf x).run P w = .ok k w)(hns:VRs m news ns.toList)(hnl:news.length=k*i.size)(hcells:∀w1:World,w1.heap=w.heap→(Builtin.firstCells i.size k x).run P w1 = .ok ns w1)(hos:VRs m old os.toList)(hol:old.length=ln*i.size)(hold:∀w1:World,w1.heap=w.heap→(Builtin.firstCells i.size ln (.slice ba ln cp)).run P w1 = .ok os w1)(hno:cp<ln+k)(h63:ln+k≤70368744177664)(hb:(ln+k)*i.bytes≤70368744177664): ∃v' w' m',(Builtin.append_ #[t,u] ty #[.slice ba ln cp,x]).run P w = .ok v' w'∧VR m' (.slice aw.next 0 (ln+k) (.upTo i.size)) v'∧R (aw.fresh (old++news)) w' m' base∧Goes aw (aw.fresh (old++news)) w w' m m':=by
 have hrun:=Jgq (ty:=ty) ht hu hd hi hz hlen (hold w.drew rfl) (hcells w.drew rfl) hno h63 hb;have hge:=grownCap_ge w (ln+k) cp e;have q1:=hos.length;have q2:=hns.length;simp only[Array.length_toList]at q1 q2;obtain⟨r1,r2⟩:=Jtu hR (l:=old++news) (os:=os) (ns:=ns) (z:=z) (t:=e) (need:=ln+k) (esz:=i.size) (cap:=grownCap w (ln+k) cp e) (by simpa using hos.append hns) hzs (by rw[Array.size_append,q1,q2,hol,hnl,Nat.add_mul]) hge;exact⟨_,_,_,hrun,⟨_,Map.set_same _ _ _,_,_,rfl,hge,.inl ⟨rfl,by simp⟩⟩,r1,r2⟩
theorem Joo (hR:R aw w m base){k:Nat}{s:V}{S:Value}(hs:VR m s S)(hnl:news.length=k*i.size)(hlen:(Builtin.lenOf x).run P w = .ok k w)(hns:VRs m news ns.toList)(hcells:∀w1:World,w1.heap=w.heap→(Builtin.firstCells i.size k x).run P w1 = .ok ns w1){v:V}(h:aw.appendV i.size i.bytes s k news=some (v,aw')): ∃v' w' m',(Builtin.append_ #[t,u] ty #[S,x]).run P w = .ok v' w'∧VR m' v v'∧R aw' w' m' base∧Goes aw aw' w w' m m':=by
 have hnsz:ns.size=k*i.size:=by have:=hns.length;simp at this;omega
 cases k with
 | zero =>
  cases s
  case nilslice =>
   cases h;cases hs;exact Rm ht hu hd hi hz hzs hR rfl hlen (by simpa using hnsz) (hcells w rfl) rfl (FH 0)
  case slice b off len cap =>
   obtain⟨en,hm,h2⟩:=id hs;cases cap with
   | known c =>
    simp only[]at h2;have h:(if len≤c then some (V.slice b off len (.known c),aw)else none)=some (v,aw'):=h;split at h
    ·rename_i hle;cases h;exact Rm ht hu hd hi hz hzs hR hs hlen (by simpa using hnsz) (hcells w rfl) h2 hle
    ·cases h
   | upTo q =>
    cases h;obtain⟨ad,cp,h3,hle,_⟩:=h2;exact Rm ht hu hd hi hz hzs hR hs hlen (by simpa using hnsz) (hcells w rfl) h3 hle
  all_goals cases h
 | succ k =>
  cases s
  case nilslice =>
   have h:(if (k+1)*i.bytes≤70368744177664∧(k+1)≤70368744177664 then some (V.slice aw.next 0 (k+1) (.upTo i.size),aw.fresh news)else none)=some (v,aw'):=h;split at h
   ·rename_i hc;cases h;cases hs;have:=Jip (ty:=ty) ht hu hd hi hz hzs hR (ba:=none) (ln:=0) (cp:=0) (old:=[]) (os:=#[]) hlen hns hnl hcells rfl Fj (fun w1 _=>rfl) Fh Fh (by simpa using hc.1);simpa using this
   ·cases h
  case slice b off len cap =>
   cases cap with
   | known c =>
    obtain⟨en,hm,h2⟩:=id hs;simp only[]at h2
    have h:(if (len+(k+1))*i.bytes≤70368744177664∧len+(k+1)≤70368744177664∧len≤c then
      if len+(k+1)≤c then (match aw.store b (off+len*i.size) news with
       | some aw'=>some (V.slice b off (len+(k+1)) (.known c),aw')
       | none=>none)
      else match aw.elems i.size (.slice b off len (.known c))with
       | some (_,old)=>some (V.slice aw.next 0 (len+(k+1)) (.upTo i.size),aw.fresh (old++news))
       | none=>none
     else none)=some (v,aw'):=h
    split at h
    ·rename_i hc;obtain⟨hc1,hc2,hc3⟩:=hc;split at h
     ·rename_i hroom;split at h
      ·rename_i aw1 hst;cases h;subst h2;obtain⟨w',k1,k2,k3⟩:=El (P:=P) hR hm hns hst
       have hst':(storeCells ((⟨en.c,en.s+off,none⟩:Addr).add (len*i.size)) ns.toList).run P w = .ok () w':=by
        rw[Addr.add_lit,show en.s+off+len*i.size=en.s+(off+len*i.size)from by omega];exact k1
       exact⟨_,_,_,ET (ty:=ty) ht hu hd hi hlen (hcells w rfl) hroom (ba:=some ⟨en.c,en.s+off,none⟩) hst',⟨en,hm,rfl⟩,k2,k3⟩
      ·cases h
     ·rename_i hroom;split at h
      ·rename_i n old hold;cases h;have hn:=JlS hold;subst hn;obtain⟨q1,q2,os,q3,q4⟩:=A8 (P:=P) hR hs hold;subst h2;exact Jip (ty:=ty) ht hu hd hi hz hzs hR hlen hns hnl hcells q3 q1 q4 Fh hc2 hc1
      ·cases h
    ·cases h
   | upTo q =>
    have h9:(if q=i.size∧(len+(k+1))*i.bytes≤70368744177664∧len+(k+1)≤70368744177664∧Lv news=true∧0<i.size then aw.appendUp i.size b off len (k+1) news else none)=some (v,aw'):=h;clear h;split at h9
    ·rename_i hc;obtain⟨rfl,hc1,hc2,hc3,hc4⟩:=hc;unfold AW.appendUp at h9;split at h9
     ·rename_i l sh hbk;split at h9
      ·split at h9
       ·-- own: a family is founded
        obtain⟨en,hm,h2⟩:=id hs;obtain⟨f1,f2⟩:=hR.found hm hbk;obtain⟨v',w',m',g1,g2,g3,g4⟩:=NY (ty:=ty) f1 ht hu hd hi hz hzs hs hnl hlen hns hcells Fh hc2 hc1 hc3 h9;exact⟨v',w',m',g1,g2,g3,Goes.trans hR f2 g4⟩
       ·-- lax: a family is founded
        obtain⟨en,hm,h2⟩:=id hs;obtain⟨f1,f2⟩:=hR.foundLax hm hbk;obtain⟨v',w',m',g1,g2,g3,g4⟩:=NY (ty:=ty) f1 ht hu hd hi hz hzs hs hnl hlen hns hcells Fh hc2 hc1 hc3 h9;exact⟨v',w',m',g1,g2,g3,Goes.trans hR f2 g4⟩
       ·exact NY hR ht hu hd hi hz hzs hs hnl hlen hns hcells Fh hc2 hc1 hc3 h9
      ·split at h9
       ·rename_i hble;split at h9
        ·rename_i aw1 hst;cases h9;obtain⟨en,hm,ad,cp,rfl,hle,hcase⟩:=id hs;have hbound:off+(len+(k+1))*i.size≤l.length:=Nat.le_of_ble_eq_true hble
         have hal:aw.alive b sh=true:=by
          unfold AW.store at hst;rw[hbk]at hst;simp only[]at hst;split at hst
          ·assumption
          ·assumption
          ·assumption
          ·cases hst
         obtain⟨cur,tt,lo,hi',p1,p2,p3,p4,p5⟩:=hR.blk b en _ hm hbk hal;rcases hcase with⟨rfl,htot⟩|h0
         ·skip
          have hroom:len+(k+1)≤cp:=by
           apply Nat.le_of_mul_le_mul_right (c:=i.size) _ hc4;omega
          obtain⟨w',k1,k2,k3⟩:=El (P:=P) hR hm hns hst
          have hst':(storeCells ((⟨en.c,en.s+off,none⟩:Addr).add (len*i.size)) ns.toList).run P w = .ok () w':=by
           rw[Addr.add_lit,show en.s+off+len*i.size=en.s+(off+len*i.size)from by omega];exact k1
          exact⟨_,_,_,ET (ty:=ty) ht hu hd hi hlen (hcells w rfl) hroom (ba:=some ⟨en.c,en.s+off,none⟩) hst',⟨en,hm,_,_,rfl,hroom,.inl ⟨rfl,htot⟩⟩,k2,k3⟩
         ·have:0<(len+(k+1))*i.size:=Nat.mul_pos Fh hc4;omega
        ·cases h9
       ·cases h9
     ·cases h9
    ·cases h9
  all_goals cases h
end
variable {ts:Array TypeId} {args:Array Operand} {x:Operand}
theorem Jwu {y:Operand}(ht:ts.toList=[t,u])(ha:args.toList=[x,y]):ts = #[t,u]∧args = #[x,y]:=by
 cases ts;cases args;simp_all
theorem Jq7 (hR:R aw w m base)(hfr:FR m N fr act.tmps){s:Operand}{a b:Opd} 
 (ho:o.op = .call {callee:=.builtin .append,args:=args,argTypes:=ts})(hts:ts.toList=[t,u])(hargs:args.toList=[s,x])(hs:La s=some a)(hx:La x=some b)
 (ht:P.underlying t=some (.slice e))(hu:P.underlying u=some d)(hd:∀k,d≠.int k)(hi:P.info? e=some i)(hz:i.zero=some z)(hzs:z.cells.size=i.size)
 {sv xv v:V}{k:Nat}(h1:a.ev fr=some sv)(h2:b.ev fr=some xv)(h3:aw.elems i.size xv=some (k,news))(h4:aw.appendV i.size i.bytes sv k news=some (v,aw')):
  OpOK P o act aw aw' w m base (.val v):=by
 obtain⟨rfl,rfl⟩:=Jwu hts hargs;have e1:=Li hfr hs h1;have e2:=Li hfr hx h2;obtain⟨q1,q2,ns,q3,q4⟩:=A8 (P:=P) hR e2 h3;obtain⟨v',w',m',g1,g2,g3,g4⟩:=Joo (ty:=o.type) ht hu hd hi hz hzs hR e1 q1 q2 q3 q4 h4;exact⟨v',w',m',TD ho (vs:=#[act.eval s,act.eval x]) Fj (fun _=>rfl) g1,g2,g3,g4⟩
end
end
section
variable [Globs]
section
variable {P:Program} {o:Oper} {act:Act} {aw aw':AW} {w:World} {m:Map} {base N:Nat} {fr:Fr}
variable {esz k:Nat} {v:V}
theorem Jjs (hR:R aw w m base){x:Value}(hx:VR m v x){n:Nat}{news:List V}(h:aw.elems esz v=some (k,news))(hn:n≤k): ∃ns:Array Value,VRs m (news.take (n*esz)) ns.toList∧(Builtin.firstCells esz n x).run P w = .ok ns w:=by
 cases v<;>simp only[AW.elems]at h
 case nilslice =>
  cases h;cases hx;exact⟨#[],by simp;rfl,rfl⟩
 case slice b off len cap =>
  cases len with
  | zero =>
   cases h;obtain rfl:n=0:=Fh;refine⟨#[],by simp;rfl,?_⟩;obtain⟨e,_,h2⟩:=hx;cases cap with
   | known c=>simp only[]at h2;subst h2;simp[Builtin.firstCells,loadCells,loadCellsFrom]
   | upTo z=>obtain⟨ad,cp,rfl,_⟩:=h2;simp[Builtin.firstCells,loadCells,loadCellsFrom]
  | succ len =>
   have h:(match aw.load b off ((len+1)*esz)with|some l=>some (len+1,l)|none=>none)=some (k,news):=h;split at h
   ·rename_i l hl;cases h;obtain⟨e,hm,h2⟩:=hx;obtain⟨ys,y1,y2,y3⟩:=Dv hR hm hl;have hle:n*esz≤ys.length:=by rw[y1];exact Nat.mul_le_mul_right _ hn
    have hload:(loadCells ⟨e.c,e.s+off,none⟩ (n*esz)).run P w = .ok (ys.take (n*esz)).toArray w:=by
     have:=run_loadCells_list (P:=P) w ⟨e.c,e.s+off,none⟩ (ys.take (n*esz)) (fun j v hj=>by
      rw[List.getElem?_take]at hj;split at hj
      ·exact y3 j v hj
      ·cases hj)
     rw[FU,KD hle]at this;exact this
    refine⟨(ys.take (n*esz)).toArray,by simpa using y2.take,?_⟩;cases cap with
    | known c=>simp only[]at h2;subst h2;exact hload
    | upTo z =>
     obtain⟨ad,cp,rfl,hle,hcase⟩:=h2;rcases hcase with⟨rfl,_⟩|h0
     ·exact hload
     ·omega
   ·cases h
 case str l =>
  split at h
  ·rename_i h1;cases h;subst h1;obtain⟨s,rfl,rfl⟩:=hx;refine⟨_,?_,rfl⟩
   have e:((s.extract 0 n).data.map fun b=>Value.int .u8 b.toNat).toList=(Lib.strCells s).take n:=by
    simp only[Array.toList_map,Lib.extract_data,Lib.strCells,FZ,Nat.sub_zero,List.map_take]
   rw[e,KC];exact (NV s).take
  ·cases h
 all_goals cases h
variable {t e:TypeId} {d s:Operand} {a:Opd} {args:Array Operand} {ts:Array TypeId} {tr:List TypeId} {l:List V}
theorem Jo6 (hR:R aw w m base)(hfr:FR m N fr act.tmps){b:Opd} 
 (ho:o.op = .call {callee:=.builtin .copy,args:=args,argTypes:=ts})(hts:ts.toList=t::tr)(hargs:args.toList=[d,s])(hd:La d=some a)(hs:La s=some b)
 (ht:P.underlying t=some (.slice e))(hsz:sizeOf? P e=some esz){bk off len:Nat}{cap:Cap}{sv:V}{cs:List V}(h1:a.ev fr=some (.slice bk off len cap))(h2:b.ev fr=some sv)(h3:aw.elems esz sv=some (k,l))
 (h4:Lr (min k len*esz) l=some cs)(h5:(cs=[]∧aw'=aw)∨(cs≠[]∧aw.store bk off cs=some aw')):OpOK P o act aw aw' w m base (.val (.int .i64 (Fq (min k len)))):=by
 have hargs':args = #[d,s]:=by cases args;simp_all
 have hts':ts=(t::tr).toArray:=by cases ts;simp_all
 subst hargs' hts';have e1:=Li hfr hd h1;have e2:=Li hfr hs h2;obtain⟨q1,q2,_⟩:=A8 (P:=P) hR e2 h3;obtain⟨ns,n1,n2⟩:=Jjs (P:=P) hR e2 h3 (n:=min k len) (Nat.min_le_left _ _);obtain⟨c1,c2⟩:=M4 h4;rw[←c1]at n1
 have hrun:∀(ba:Option Addr) (cp:Nat) (w':World),act.eval d = .slice ba len cp→(match ba with|some a=>(storeCells a ns.toList).run P w = .ok () w'|none=>w'=w)→(Builtin.copy_ (t::tr).toArray o.type #[act.eval d,act.eval s]).run P w = .ok (.int .i64 (Fq (min k len))) w':=by
  intro ba cp w' hda hst;have hmin:Nat.min k len=min k len:=rfl;cases ba with
  | none=>subst hst;simp[Builtin.copy_,run_underlying ht,hda,q2,TY hsz,hmin,n2,goInt]
  | some ad=>simp[Builtin.copy_,run_underlying ht,hda,q2,TY hsz,hmin,n2,goInt,hst]
 obtain⟨en,hm,e3⟩:=e1
 have hw:∃ad cp,act.eval d = .slice (some ad) len cp∧(len=0∨ad=⟨en.c,en.s+off,none⟩):=by
  cases cap with
  | known c=>exact⟨_,c,e3,.inr rfl⟩
  | upTo z =>
   obtain⟨ad,cp,h6,hle,hcase⟩:=e3;rcases hcase with⟨h7,_⟩|h7
   ·exact⟨ad,cp,h6,.inr h7⟩
   ·exact⟨ad,cp,h6,.inl Fh⟩
 obtain⟨ad,cp,h6,h7⟩:=hw;rcases h5 with⟨rfl,rfl⟩|⟨hne,hst⟩
 ·have hns:ns.toList=[]:=n1;refine⟨_,w,m,TD ho (vs:=#[act.eval d,act.eval s]) Fj (fun _=>rfl) (hrun _ cp w h6 ?_),rfl,hR,.refl _ _ _⟩;rw[hns];rfl
 ·have had:ad=⟨en.c,en.s+off,none⟩:=by
   rcases h7 with h7|h7
   ·exfalso;subst h7;simp at c1;exact hne c1
   ·exact h7
  subst had;obtain⟨w',k1,k2,k3⟩:=El (P:=P) hR hm n1 hst;exact⟨_,w',m,TD ho (vs:=#[act.eval d,act.eval s]) Fj (fun _=>rfl) (hrun _ cp w' h6 k1),rfl,k2,k3⟩
theorem JpZ (hR:R aw w m base)(hfr:FR m N fr act.tmps){b:Opd} 
 (ho:o.op = .call {callee:=.builtin .copy,args:=args,argTypes:=ts})(hts:ts.toList=t::tr)(hargs:args.toList=[d,s])(hd:La d=some a)(hs:La s=some b)
 (ht:P.underlying t=some (.slice e))(hsz:sizeOf? P e=some esz){sv:V}(h1:a.ev fr=some .nilslice)(h2:b.ev fr=some sv)(h3:aw.elems esz sv=some (k,l)):
  OpOK P o act aw aw w m base (.val (.int .i64 0)):=by
 have hargs':args = #[d,s]:=by cases args;simp_all
 have hts':ts=(t::tr).toArray:=by cases ts;simp_all
 subst hargs' hts';have e1:act.eval d = .slice none 0 0:=Li hfr hd h1;have e2:=Li hfr hs h2;obtain⟨q1,q2,_⟩:=A8 (P:=P) hR e2 h3;obtain⟨ns,n1,n2⟩:=Jjs (P:=P) hR e2 h3 (n:=0) (Nat.zero_le _);have hmin:Nat.min k 0=0:=Nat.min_zero k;exact⟨_,w,m,TD ho (vs:=#[act.eval d,act.eval s]) Fj (fun _=>rfl) (by simp[Builtin.copy_,run_underlying ht,e1,q2,TY hsz,hmin,n2,goInt]),rfl,hR,.refl _ _ _⟩
theorem Jmy {z:Array Value}(h:VRs m l z.toList)(n:Nat):VRs m (List.replicate n l).flatten (Builtin.zeroCells z n).toList:=by
 have:=h.length;simp only[Array.length_toList]at this;exact Ew h n (n*z.size) (by rw[this])
variable {x:Operand}
theorem QJ (hR:R aw w m base)(hfr:FR m N fr act.tmps){z:V} 
 (ho:o.op = .call {callee:=.builtin .clear,args:=args,argTypes:=ts})(hts:ts.toList=t::tr)(hargs:args.toList=[x])(hx:La x=some a)
 (ht:P.underlying t=some (.slice e))(hz:BG P e=some z)(h1:a.ev fr=some v)
 (h:((v = .nilslice∨∃b off cap,v = .slice b off 0 cap)∧aw'=aw)∨∃b off len cap,v = .slice b off (len+1) cap∧aw.store b off ((List.replicate (len+1) z.cells).flatten)=some aw'):
  OpOK P o act aw aw' w m base (.val (.tuple [])):=by
 have hargs':args = #[x]:=by cases args;simp_all
 have hts':ts=(t::tr).toArray:=by cases ts;simp_all
 subst hargs' hts';have e1:=Li hfr hx h1;obtain⟨z',hz1,hz2⟩:=Iy (P:=P) (w:=w) (m:=m) hz;rcases h with⟨h2,rfl⟩|⟨b,off,len,cap,rfl,hst⟩
 ·have:∃ba cp,act.eval x = .slice ba 0 cp:=by
   rcases h2 with rfl|⟨b,off,cap,rfl⟩
   ·exact⟨none,0,e1⟩
   ·obtain⟨en,hm,e3⟩:=e1;cases cap with
    | known c=>exact⟨_,c,e3⟩
    | upTo q=>obtain⟨ad,cp,h6,_⟩:=e3;exact⟨_,cp,h6⟩
  obtain⟨ba,cp,e4⟩:=this;refine⟨.tuple #[],w,m,TD ho (vs:=#[act.eval x]) Fj (fun _=>rfl) ?_,⟨#[],rfl,rfl⟩,hR,.refl _ _ _⟩;cases ba<;>simp[Builtin.clear_,run_underlying ht,e4]
 ·obtain⟨en,hm,e3⟩:=e1
  have hw:∃cp,act.eval x = .slice (some ⟨en.c,en.s+off,none⟩) (len+1) cp:=by
   cases cap with
   | known c=>exact⟨c,e3⟩
   | upTo z =>
    obtain⟨ad,cp,h6,hle,hcase⟩:=e3;rcases hcase with⟨rfl,_⟩|h7
    ·exact⟨cp,h6⟩
    ·omega
  obtain⟨cp,e4⟩:=hw;obtain⟨w',k1,k2,k3⟩:=El (P:=P) hR hm (Jmy hz2.cells (len+1)) hst;refine⟨.tuple #[],w',m,TD ho (vs:=#[act.eval x]) Fj (fun _=>rfl) ?_,⟨#[],rfl,rfl⟩,k2,k3⟩;simp[Builtin.clear_,run_underlying ht,e4,hz1,k1]
variable {src dst:TypeId}
theorem JpS (hR:R aw w m base)(hfr:FR m N fr act.tmps)(ho:o.op = .convert src dst x)(hs:P.underlying src=some .string)(hd:P.underlying dst=some (.slice e))(he:P.underlying e=some (.int .u8))(hx:La x=some a){l:List Nat}(h1:a.ev fr=some (.str l))(hlen:l.length≤70368744177664):OpOK P o act aw (aw.freshLax (CX l)) w m base (.val (.slice aw.next 0 l.length (.upTo 1))):=by
 obtain⟨s,e1,rfl⟩:=Li hfr hx h1;rw[Cb]at hlen ⊢;have hge:=grownCap_ge w s.size 0 e
 have hsize:((s.data.map fun b:UInt8=>Value.int .u8 b.toNat)++Array.replicate (grownCap w s.size 0 e-s.size) (Value.int .u8 0)).size=grownCap w s.size 0 e:=by
  simp;omega
 have hc:CR m (CX (LH s)) 0 ((s.data.map fun b:UInt8=>Value.int .u8 b.toNat)++Array.replicate (grownCap w s.size 0 e-s.size) (Value.int .u8 0)):=by
  intro i q hq;obtain⟨y,y1,y2⟩:=(NV (m:=m) s).get hq;refine⟨y,?_,y2⟩
  have hlt:i<(s.data.map fun b:UInt8=>Value.int .u8 b.toNat).size:=by
   have:=(List.getElem?_eq_some_iff.1 y1).1;simpa[Lib.strCells]using this
  rw[FV,Array.getElem?_append_left hlt];simpa[Lib.strCells]using y1
 obtain⟨r1,r2⟩:=Jnm hR.drew (t:=e) (lo:=grownCap w s.size 0 e) (hi:=grownCap w s.size 0 e+1) (.inr (by rw[hsize];exact FH _)) hc (by rw[hsize];simp[CX,Cb];exact hge);rw[hsize]at r1 r2;refine⟨.slice (some ⟨w.heap.size,0,none⟩) s.size (grownCap w s.size 0 e),_,_,?_,⟨_,Map.set_same _ _ _,_,_,rfl,hge,.inl ⟨rfl,by simp⟩⟩,r1,Goes.trans hR (Goes.drew aw w m) r2⟩;have hdrew:({w with drawn:=w.drawn+1}:World)=w.drew:=rfl
 have hfz:∀(w:World) (cs:Array Value) (t:TypeId),(w.alloc (.cells cs t)).freeze ⟨w.heap.size,cs.size,none⟩ 1=w.alloc (.cells cs t (cs.size,cs.size+1)):=by
  intro w cs t;simp only[World.freeze,World.alloc,if_neg (show ¬(1=0)by omega)]
  congr 1
  rw[Ra _ _ _ _ (by simp:(w.heap.push (.cells cs t))[w.heap.size]? = some (.cells cs t))];apply Array.ext_getElem?;intro j;by_cases hj:w.heap.size=j
  ·subst hj;simp
  ·rw[Array.getElem?_setIfInBounds_ne hj,Array.getElem?_push,Array.getElem?_push,if_neg (Ne.symm hj),if_neg (Ne.symm hj)]
 have hshape:∀(w:World) (cs:Array Value) (t:TypeId),(w.alloc (.cells cs t)).shape? w.heap.size=some (t,cs.size):=by
  intro w cs t;simp only[World.shape?,Cw]
 simp only[execOp,ho,e1,convert,Sem.run_bind,run_underlying hs,run_underlying hd,run_underlying he,Result.andThen_ok,Conv.stringToBytes,run_choose,Question.forced,FM,if_false,newRow,run_newObj,Sem.run_pure,markStringish,run_shape];have hcap:(Question.appendCap s.size 0 e).cut (w.tape w.drawn (.appendCap s.size 0 e))=grownCap w s.size 0 e:=rfl;rw[hcap];generalize ((s.data.map fun b:UInt8=>Value.int .u8 b.toNat)++Array.replicate (grownCap w s.size 0 e-s.size) (Value.int .u8 0))=B at *;have hworld:({heap:=w.heap.push (.cells B e),tape:=w.tape,drawn:=w.drawn+1,os:=w.os,output:=w.output}:World)=w.drew.alloc (.cells B e):=rfl;rw[hworld];have h1:(w.drew.alloc (.cells B e)).shape? w.heap.size=some (e,B.size):=hshape w.drew B e;rw[h1];simp only[run_freeze,Result.andThen_ok];have h2:(w.drew.alloc (.cells B e)).freeze ⟨w.heap.size,B.size,none⟩ 1=w.drew.alloc (.cells B e (B.size,B.size+1)):=hfz w.drew B e;rw[h2,hsize]
theorem JlK:∀{l:List V} {cs:List Nat} {ys:List Value},EB l=some cs→VRs m l ys→ys=(cs.map fun n=>(Fq n)).map (Value.int .u8)∧∀n∈cs,n<256
 | [],cs,ys,h,hv=>by cases h;cases hv;exact⟨rfl,by simp⟩
 | v::l,cs,ys,h,hv=>by
  unfold EB at h;split at h
  ·rename_i heq;cases heq
  ·rename_i n l' heq;cases heq;split at h
   ·rename_i r hlt hr;cases h;obtain⟨y,yr,rfl,h1,h2⟩:=hv;obtain⟨q1,q2⟩:=JlK hr h2;cases h1;refine⟨by simp[q1],?_⟩;intro k hk;rcases List.mem_cons.1 hk with rfl|hk
    ·exact Nat.blt_eq.mp hlt
    ·exact q2 k hk
   ·cases h
  ·cases h
theorem JnY:∀(cs:List Nat) (s:ByteArray),(∀n∈cs,n<256)→LH ((cs.map fun n=>(Fq n)).foldl (fun r n=>r.push (UInt8.ofNat n.toNat)) s)=LH s++cs
 | [],s,_=>by simp
 | n::cs,s,h=>by
  simp only[Kv,Ku];rw[JnY cs _ (fun k hk=>h k (by simp[hk]))];have hn:n<256:=h n Fj
  have:LH (s.push (UInt8.ofNat (Fq n).toNat))=LH s++[n]:=by
   simp only[LH,ByteArray.data_push,Array.toList_push,List.map_append,Kv,Kw]
   congr 2
   simp[UInt8.toNat_ofNat'];omega
  rw[this];simp
theorem Joe (hR:R aw w m base)(hfr:FR m N fr act.tmps)(ho:o.op = .convert src dst x)(hs:P.underlying src=some (.slice e))(hd:P.underlying dst=some .string)(he:P.underlying e=some (.int .u8))(hx:La x=some a)(h1:a.ev fr=some v){cs:List Nat}(h:(v = .nilslice∧cs=[])∨∃b off len cap n l,v = .slice b off len cap∧aw.elems 1 v=some (n,l)∧EB l=some cs):OpOK P o act aw aw w m base (.val (.str cs)):=by
 have e1:=Li hfr hx h1;rcases h with⟨rfl,rfl⟩|⟨b,off,len,cap,n,l,rfl,h2,h3⟩
 ·cases hq:act.eval x<;>rw[hq]at e1<;>cases e1;refine OpOK.quiet hR (v':=.string .empty) ?_ ⟨_,rfl,rfl⟩;simp[execOp,ho,hq,convert,run_underlying hs,run_underlying hd,run_underlying he,Conv.bytesToString]
 ·have hn:=JlS h2;subst hn;obtain⟨q1,q2,os,q3,q4⟩:=A8 (P:=P) hR e1 h2;obtain⟨p1,p2⟩:=JlK h3 q3
  have hsl:∃ad cp,act.eval x = .slice (some ad) n cp:=by
   obtain⟨en,hm,e3⟩:=e1;cases cap with
   | known c=>exact⟨_,c,e3⟩
   | upTo z=>obtain⟨ad,cp,h6,_⟩:=e3;exact⟨ad,cp,h6⟩
  obtain⟨ad,cp,e4⟩:=hsl;have q5:=q4 w rfl;rw[e4]at q5;simp only[Builtin.firstCells,KC]at q5;have hos:os=((cs.map fun n=>(Fq n)).map (Value.int .u8)).toArray:=by rw[←p1]
  rw[hos]at q5;have:=run_bytesToString (P:=P) w ad n cp _ q5;refine OpOK.quiet hR (v':=.string ((cs.map fun n=>(Fq n)).foldl (fun r n=>r.push (UInt8.ofNat n.toNat)) ByteArray.empty)) ?_ ⟨_,rfl,?_⟩
  ·simp only[execOp,ho,e4,Sem.run_bind,run_convert_bytes_string w src dst e (some ad) n cp hs he hd,this,Result.andThen_ok];rfl
  ·rw[JnY cs _ p2];rfl
end
end
section
variable [Globs]
theorem ER.length {m:Map}:∀{es:List (V×V×Nat)} {l:List MapEntry},ER m es l→l.length=es.length
 | [],l,h=>by cases h;rfl
 | (k,v,n)::es,l,h=>by obtain⟨e,r,rfl,_,_,_,h5⟩:=h;simp[ER.length h5]
theorem ER.get {m:Map}:∀{es:List (V×V×Nat)} {l:List MapEntry},ER m es l→∀{i:Nat} {k v:V} {n:Nat},es[i]? = some (k,v,n)→∃e,l[i]? = some e∧VR m k e.key∧VR m v e.val∧e.born=n
 | [],l,h,i,k,v,n,hx=>by simp at hx
 | (k',v',n')::es,l,h,i,k,v,n,hx=>by
  obtain⟨e,r,rfl,h2,h3,h4,h5⟩:=h;cases i with
  | zero=>simp at hx;obtain⟨rfl,rfl,rfl⟩:=hx;exact⟨e,by simp,h2,h3,h4⟩
  | succ i=>simp at hx;simpa using ER.get h5 hx
theorem ER.set {m:Map}{k v:V}{n:Nat}{e:MapEntry}(hk:VR m k e.key)(hv:VR m v e.val)(hn:e.born=n):∀{es:List (V×V×Nat)} {l:List MapEntry} {i:Nat},ER m es l→ER m (es.set i (k,v,n)) (l.set i e)
 | [],l,i,h=>by cases h;rfl
 | (k',v',n')::es,l,i,h=>by
  obtain⟨e',r,rfl,h2,h3,h4,h5⟩:=h;cases i with
  | zero=>exact⟨e,r,rfl,hk,hv,hn,h5⟩
  | succ i=>exact⟨e',r.set i e,rfl,h2,h3,h4,ER.set hk hv hn h5⟩
theorem ER.push {m:Map}{k v:V}{n:Nat}{e:MapEntry}(hk:VR m k e.key)(hv:VR m v e.val)(hn:e.born=n):∀{es:List (V×V×Nat)} {l:List MapEntry},ER m es l→ER m (es++[(k,v,n)]) (l++[e])
 | [],l,h=>by cases h;exact⟨e,[],rfl,hk,hv,hn,rfl⟩
 | (k',v',n')::es,l,h=>by
  obtain⟨e',r,rfl,h2,h3,h4,h5⟩:=h;exact⟨e',r++[e],rfl,h2,h3,h4,ER.push hk hv hn h5⟩
theorem ER.erase {m:Map}:∀{es:List (V×V×Nat)} {l:List MapEntry} {i:Nat},ER m es l→ER m (es.eraseIdx i) (l.eraseIdx i)
 | [],l,i,h=>by cases h;rfl
 | (k',v',n')::es,l,i,h=>by
  obtain⟨e',r,rfl,h2,h3,h4,h5⟩:=h;cases i with
  | zero=>exact h5
  | succ i=>exact⟨e',r.eraseIdx i,rfl,h2,h3,h4,ER.erase h5⟩
section
variable {P:Program} {o:Oper} {act:Act} {aw aw':AW} {w:World} {m:Map} {base N:Nat} {fr:Fr}
theorem Jis {s:Sc}{a b:V}{x y:Value}(hx:VR m a x)(hy:VR m b y)(h:Cg s a b=some true):x=y∧∀n,Instr.sameBits n x x=true:=by
 unfold Cg at h;split at h
 ·split at h
  ·rename_i hk;simp only[FQ,beq_iff_eq]at h;subst hk h;cases hx;cases hy;exact⟨rfl,fun n=>by cases n<;>simp[Instr.sameBits]⟩
  ·cases h
 ·simp only[FQ,eqL_iff]at h;subst h;obtain⟨s,rfl,h1⟩:=hx;obtain⟨s',rfl,h2⟩:=hy;have:=Jod (h1.trans h2.symm);subst this;exact⟨rfl,fun n=>by cases n<;>simp[Instr.sameBits,beq_toListBytes]⟩
 ·simp only[FQ,beq_iff_eq]at h;subst h;cases hx;cases hy;exact⟨rfl,fun n=>by cases n<;>simp[Instr.sameBits]⟩
 ·cases h
theorem JiI:∀{l:List Sc} {a b:List V} {x y:List Value},VRs m a x→VRs m b y→TR l a b=some true→x=y∧∀n,(x.zip x).all (fun p=>Instr.sameBits n p.1 p.2)=true
 | l,a,b,x,y,ha,hb,h=>by
  unfold TR at h;split at h
  ·cases ha;cases hb;exact⟨rfl,fun n=>rfl⟩
  ·split at h
   ·rename_i he;obtain⟨u,us,rfl,h1,h2⟩:=ha;obtain⟨v,vs,rfl,h3,h4⟩:=hb;obtain⟨q1,q2⟩:=Jis h1 h3 he;obtain⟨q3,q4⟩:=JiI h2 h4 h;subst q1 q3;exact⟨rfl,fun n=>by simp only[List.zip_cons_cons,List.all_cons,q2 n,q4 n,Bool.and_self]⟩
   ·cases h
   ·cases h
  ·cases h
variable {ty:KeyTy}
theorem Jqb {a b:V}{x y:Value}(hx:VR m a x)(hy:VR m b y)(h:CO ty a b=some true):x=y∧Instr.sameBits 10000 x x=true:=by
 unfold CO at h;split at h
 ·obtain⟨h1,h2⟩:=Jis hx hy h;exact⟨h1,h2 _⟩
 ·obtain⟨u,rfl,h1⟩:=hx;obtain⟨v,rfl,h2⟩:=hy;obtain⟨q1,q2⟩:=JiI h1 h2 h;have:u=v:=Array.ext' q1;subst this;refine⟨rfl,?_⟩;show (u.size==u.size&&(u.toList.zip u.toList).all fun (p:Value×Value)=>Instr.sameBits 9999 p.1 p.2)=true;simp only[beq_self_eq_true,Bool.true_and];exact q2 9999
 ·cases h
variable {t:TypeId}
theorem EZ {s:Sc}(ht:Cr P t=some s)(n:Nat)(e:Bool)(x:Value):(Instr.checkKey e (n+1) t x).run P w = .ok () w:=by
 unfold Cr at ht;split at ht
 ·rename_i hu;simp only[Instr.checkKey,Sem.run_bind,run_underlying hu,Result.andThen_ok];cases x<;>rfl
 ·rename_i hu;simp only[Instr.checkKey,Sem.run_bind,run_underlying hu,Result.andThen_ok];cases x<;>rfl
 ·rename_i hu;simp only[Instr.checkKey,Sem.run_bind,run_underlying hu,Result.andThen_ok];cases x<;>rfl
 ·cases ht
theorem Jhc:∀{fs:List Field} {n:Nat} {l:List Sc},IA P fs n=some l→l.length=fs.length
 | [],n,l,h=>by cases h;rfl
 | f::fs,n,l,h=>by
  simp only[IA]at h;split at h
  ·rename_i s q hnm hoff hs hq;cases h;simp[Jhc hq]
  ·cases h
theorem Jov (d:Nat)(e:Bool){fields:Array Field}{cs:Array Value}{l:List Sc}(hu:P.underlying t=some (.struct fields))(hf:IA P fields.toList 0=some l)(hn:fields.toList.length≤cs.size): (Instr.checkKey e (d+2) t (.agg cs)).run P w = .ok () w:=by
 have hu':=run_underlying hu w;rw[Instr.checkKey];simp only[Sem.run_bind,hu',Result.andThen_ok];rw[←Array.forIn_toList];generalize fields.toList=fs at hf hn ⊢;have hn':0+fs.length≤cs.size:=Fh;clear hn hu hu';revert hf hn';generalize 0=n;intro hf hn';induction fs generalizing n l with
 | nil=>simp
 | cons f fs ih =>
  simp only[IA]at hf;split at hf
  ·rename_i s q hnm hoff hs hq;cases hf;have hname:f.name≠"_" := by simpa using hnm
   have hoff':f.offset=n:=Nat.eq_of_beq_eq_true hoff;simp only[FC]at hn';have hg:=Jn8 hs;have p1:(part f.type cs f.offset).run P w = .ok (cs[n]'(by omega)) w:=by simp[part,IW hg,hoff',show n<cs.size by omega]
   simp only[List.forIn_cons,if_pos hname,Sem.run_bind,p1,Result.andThen_ok,EZ hs,Sem.run_pure];exact ih (n+1) hq Fh
  ·cases hf
theorem AX {kt:TypeId}(ht:Ih P kt=some ty){k:V}{K:Value}(hk:VR m k K)(hok:IE ty k=true)(e:Bool):(Instr.checkKey e 10000 kt K).run P w = .ok () w:=by
 unfold Ih at ht;split at ht
 ·rename_i kk hu;exact EZ (s:=.int) (by simp[Cr,hu]) 9999 e K
 ·rename_i hu;exact EZ (s:=.str) (by simp[Cr,hu]) 9999 e K
 ·rename_i hu;exact EZ (s:=.bool) (by simp[Cr,hu]) 9999 e K
 ·rename_i fs hu;split at ht
  ·rename_i l hst hf;cases ht;cases k<;>simp only[IE]at hok
   case agg x =>
    obtain⟨cs,rfl,hcs⟩:=hk;have hlen:=hcs.length;simp only[Array.length_toList]at hlen;have hl2:x.length=l.length:=Nat.eq_of_beq_eq_true hok;exact Jov 9998 e hu hf (by have:=Jhc hf;omega)
   all_goals cases hok
  ·cases ht
 ·cases ht
end
end
section
variable [Globs]
section
variable {P:Program} {o:Oper} {act:Act} {aw aw':AW} {w:World} {m:Map} {base N:Nat} {fr:Fr}
theorem Jhu {s:Sc}{d:TypeDesc}(hd:(match d with | .int _=>some Sc.int | .string=>some .str | .bool=>some .bool|_=>none)=some s){a b:V}{x y:Value}(hx:VR m a x)(hy:VR m b y){r:Bool}(h:Cg s a b=some r):
  Instr.sameNow d x y=some r:=by
 unfold Cg at h;split at h
 ·split at h
  ·rename_i k a k' b hk;subst hk;cases h;cases hx;cases hy;cases d<;>simp at hd;simp[Instr.sameNow]
  ·cases h
 ·cases h;obtain⟨s,rfl,rfl⟩:=hx;obtain⟨s',rfl,rfl⟩:=hy;cases d<;>simp at hd;simp[Instr.sameNow,beq_toListBytes,Qk]
 ·cases h;cases hx;cases hy;cases d<;>simp at hd;simp[Instr.sameNow]
 ·cases h
def Hit (m:Map) (es:List (V×V×Nat)) (i0:Nat) (ty:KeyTy) (k:V):Option (Nat×V×Nat)→Option (Nat×Value)→Prop
 | none,r=>r=none
 | some (i,v,n),r=>∃v' k',r=some (i,v')∧VR m v v'∧i0≤i∧es[i-i0]? = some (k',v,n)∧CO ty k k'=some true
theorem E8 {s:Sc}{d:TypeDesc}(hd:(match d with | .int _=>some Sc.int | .string=>some .str | .bool=>some .bool|_=>none)=some s){k:V}{K:Value}(hk:VR m k K):
  ∀{es:List (V×V×Nat)} {l:List MapEntry} {i:Nat} {r:Option (Nat×V×Nat)},ER m es l→BA (.scalar s) k es i=some r→∃r',Instr.findNow d K l i=some r'∧Hit m es i (.scalar s) k r r'
 | [],l,i,r,hl,h=>by cases hl;cases h;exact⟨none,rfl,rfl⟩
 | (k',v,n)::es,l,i,r,hl,h=>by
  obtain⟨e,es',rfl,h1,h2,h3,h4⟩:=hl;simp only[BA,CO]at h;split at h
  ·rename_i he;cases h;refine⟨some (i,e.val),?_,e.val,k',rfl,h2,FH _,by simp,by simpa[CO]using he⟩;simp[Instr.findNow,Jhu hd hk h1 he]
  ·rename_i he;obtain⟨r',q1,q2⟩:=E8 hd hk h4 h;refine⟨r',by simp[Instr.findNow,Jhu hd hk h1 he,q1],?_⟩;cases r with
   | none=>exact q2
   | some p =>
    obtain⟨j,u,q⟩:=p;obtain⟨v',k'',p1,p2,p3,p4,p5⟩:=q2;refine⟨v',k'',p1,p2,by omega,?_,p5⟩;rw[show j-i=(j-(i+1))+1 by omega,Kh];exact p4
  ·cases h
theorem Jjx {kt:TypeId}{fs:Array Field}{sc:List Sc}(hu:P.underlying kt=some (.struct fs))(hst:P.stoodInHeld kt=false)(hf:IA P fs.toList 0=some sc){k:V}{K:Value}(hk:VR m k K): ∀{es:List (V×V×Nat)} {l:List MapEntry} {i:Nat} {r:Option (Nat×V×Nat)},ER m es l→BA (.cells sc) k es i=some r→∃r',(Instr.findAsking kt K l i).run P w = .ok r' w∧Hit m es i (.cells sc) k r r'
 | [],l,i,r,hl,h=>by cases hl;cases h;exact⟨none,rfl,rfl⟩
 | (k',v,n)::es,l,i,r,hl,h=>by
  obtain⟨e,es',rfl,h1,h2,h3,h4⟩:=hl
  have heq:∀b,CO (.cells sc) k k'=some b→(Op.equal kt K e.key).run P w = .ok b w:=by
   intro b hb;unfold CO at hb;split at hb
   ·rename_i heq;cases heq
   ·rename_i heq;cases heq;obtain⟨xs,rfl,hxs⟩:=hk;obtain⟨ys,hys0,hys⟩:=h1;rw[hys0];exact Jjt (P:=P) (w:=w) 9998 hu hst hf hxs hys hb
   ·cases hb
  simp only[BA]at h;split at h
  ·rename_i he;cases h;refine⟨some (i,e.val),?_,e.val,k',rfl,h2,FH _,by simp,he⟩;simp[Instr.findAsking,heq _ he]
  ·rename_i he;obtain⟨r',q1,q2⟩:=Jjx hu hst hf hk h4 h;refine⟨r',by simp[Instr.findAsking,heq _ he,q1],?_⟩;cases r with
   | none=>exact q2
   | some p =>
    obtain⟨j,u,q⟩:=p;obtain⟨v',k'',p1,p2,p3,p4,p5⟩:=q2;refine⟨v',k'',p1,p2,by omega,?_,p5⟩;rw[show j-i=(j-(i+1))+1 by omega,Kh];exact p4
  ·cases h
variable {kt:TypeId} {ty:KeyTy} {k:V} {es:List (V×V×Nat)} {r:Option (Nat×V×Nat)}
theorem E5 (ht:Ih P kt=some ty){K:Value}(hk:VR m k K){l:List MapEntry}(hl:ER m es l)(h:BA ty k es 0=some r): ∃r',(Instr.findKey kt K l).run P w = .ok r' w∧Hit m es 0 ty k r r':=by
 unfold Ih at ht;split at ht
 ·rename_i kk hu;cases ht;obtain⟨r',q1,q2⟩:=E8 (d:=.int kk) rfl hk hl h;exact⟨r',by simp[Instr.findKey,run_underlying hu,q1],q2⟩
 ·rename_i hu;cases ht;obtain⟨r',q1,q2⟩:=E8 (d:=.string) rfl hk hl h;exact⟨r',by simp[Instr.findKey,run_underlying hu,q1],q2⟩
 ·rename_i hu;cases ht;obtain⟨r',q1,q2⟩:=E8 (d:=.bool) rfl hk hl h;exact⟨r',by simp[Instr.findKey,run_underlying hu,q1],q2⟩
 ·rename_i fs hu;split at ht
  ·rename_i sc hst hf;cases ht;obtain⟨r',q1,q2⟩:=Jjx (P:=P) (w:=w) hu hst hf hk hl h;refine⟨r',?_,q2⟩;cases l with
   | nil =>
    simp only[Instr.findAsking,Sem.run_pure,Result.ok.injEq,and_true]at q1;subst q1;simp[Instr.findKey,run_underlying hu,Instr.findNow]
   | cons e l=>simp[Instr.findKey,run_underlying hu,Instr.findNow,Instr.sameNow,q1]
  ·cases ht
 ·cases ht
variable {v:V} {ob:Option Nat} {ck:Nat}
theorem CU (hR:R aw w m base){x:Value}(hv:VR m v x)(h:aw.entries v=some (ob,es,ck)): (ob=none∧x = .map none∧es=[]∧ck=0)∨∃b e es',ob=some b∧x = .map (some e.c)∧m b=some e∧aw.heap.get b=some (.map es ck)∧w.heap[e.c]? = some (.map es' ck)∧ER m es es'.toList∧ (getObj e.c).run P w = .ok (.map es' ck) w:=by
 unfold AW.entries at h;split at h
 ·cases h;cases hv;exact .inl ⟨rfl,rfl,rfl,rfl⟩
 ·split at h
  ·rename_i hb;cases h;obtain⟨e,hm,rfl⟩:=hv;obtain⟨es',h1,h2⟩:=hR.blk _ e _ hm hb;exact .inr ⟨_,e,es',rfl,rfl,hm,hb,h1,h2,by simp[getObj,Sem.run,h1]⟩
  ·cases h
 ·cases h
theorem Ct {c:Nat}{o1 o2:Obj}(h:w.heap[c]? = some o1)(hn:∀a b d,o1≠.cells a b d):(setObj c o2).run P w = .ok () (Oa w c o2):=by
 cases o1<;>first|exact absurd rfl (hn _ _ _)|(simp[setObj,Sem.run,h,Oa];done)
theorem Dc (hR:R aw w m base){b:Nat}{e:Emb}{es2:List (V×V×Nat)}{ck2:Nat}(hm:m b=some e)(hb:aw.heap.get b=some (.map es ck)){l2:Array MapEntry}(h2:ER m es2 l2.toList): R (aw.turn b (.map es2 ck2)) (Oa w e.c (.map l2 ck2)) m base∧Goes aw (aw.turn b (.map es2 ck2)) w (Oa w e.c (.map l2 ck2)) m m:=
 hR.turn hm hb rfl (by simp[Blk.share]) rfl ⟨l2,IP (hR.lt b e hm).2,h2⟩
variable {i:Nat}
theorem N7 {l:Array MapEntry}{f:MapEntry→MapEntry}{e:MapEntry}(h:l[i]? = some e):(l.modify i f).toList=l.toList.set i (f e):=by
 rw[Ra _ _ _ _ h,Array.toList_setIfInBounds]
variable {t el:TypeId} {x:Operand} {a b:Opd} {mv kv:V}
theorem Jl4 (hR:R aw w m base)(hfr:FR m N fr act.tmps){z:V}{ok:Bool}{k:Operand}(ho:o.op = .lookup t x k ok)(hx:La x=some a)(hk:La k=some b)
 (hu:P.underlying t=some (.map kt el))(ht:Ih P kt=some ty)(hz:BG P el=some z)(h1:a.ev fr=some mv)(h2:b.ev fr=some kv)
 (h3:aw.entries mv=some (ob,es,ck))(h4:IE ty kv=true)(h5:BA ty kv es 0=some r):
  OpOK P o act aw aw w m base (.val (match (generalizing:=false) r with
   | some (_,v,_)=>(match (generalizing:=false) ok with|true=> .tuple [v,.bool true]|false=>v)
   | none=>(match (generalizing:=false) ok with|true=> .tuple [z,.bool false]|false=>z))):=by
 have e1:=Li hfr hx h1;have e2:=Li hfr hk h2;obtain⟨z',hz1,hz2⟩:=Iy (P:=P) (w:=w) (m:=m) hz
 have hes:∃es':Array MapEntry,ER m es es'.toList∧((∃w0,act.eval x = .map none∧es' = #[]∧w0=w)∨∃c,act.eval x = .map (some c)∧(getObj c).run P w = .ok (.map es' ck) w):=by
  rcases CU (P:=P) hR e1 h3 with⟨_,q2,rfl,_⟩|⟨b,e,es',_,q2,_,_,_,q6,q7⟩
  ·exact⟨#[],rfl,.inl ⟨w,q2,rfl,rfl⟩⟩
  ·exact⟨es',q6,.inr ⟨_,q2,q7⟩⟩
 obtain⟨es',q1,q2⟩:=hes;obtain⟨r',p1,p2⟩:=E5 (P:=P) (w:=w) ht e2 q1 h5;have hck:=AX (P:=P) (w:=w) ht e2 h4 es'.isEmpty
 have hrun:∀(v:Value) (bo:Bool),((r'=none∧v=z'∧bo=false)∨∃i,r'=some (i,v)∧bo=true)→(execOp act.eval o).run P w = .ok (.value (if ok then .tuple #[v,.bool bo]else v)) w:=by
  intro v bo hcase;rcases q2 with⟨_,hxe,rfl,_⟩|⟨c,hxe,hg⟩
  ·rcases hcase with⟨rfl,rfl,rfl⟩|⟨i,rfl,rfl⟩
   ·simp only[execOp,ho,Instr.lookup,Sem.run_bind,run_underlying hu,Result.andThen_ok,hxe,hck,p1,hz1,Sem.run_pure]
   ·simp only[execOp,ho,Instr.lookup,Sem.run_bind,run_underlying hu,Result.andThen_ok,hxe,hck,p1,hz1,Sem.run_pure]
  ·rcases hcase with⟨rfl,rfl,rfl⟩|⟨i,rfl,rfl⟩
   ·simp only[execOp,ho,Instr.lookup,Sem.run_bind,run_underlying hu,Result.andThen_ok,hxe,hg,hck,p1,hz1,Sem.run_pure]
   ·simp only[execOp,ho,Instr.lookup,Sem.run_bind,run_underlying hu,Result.andThen_ok,hxe,hg,hck,p1,hz1,Sem.run_pure]
 cases r with
 | none =>
  cases p2;have:=hrun z' false (.inl ⟨rfl,rfl,rfl⟩);cases ok with
  | true=>exact OpOK.quiet hR this ⟨_,rfl,z',[.bool false],rfl,hz2,_,[],rfl,rfl,rfl⟩
  | false=>exact OpOK.quiet hR this hz2
 | some p =>
  obtain⟨i,v,n⟩:=p;obtain⟨v',k',rfl,p3,_⟩:=p2;have:=hrun v' true (.inr ⟨i,rfl,rfl⟩);cases ok with
  | true=>exact OpOK.quiet hR this ⟨_,rfl,v',[.bool true],rfl,p3,_,[],rfl,rfl,rfl⟩
  | false=>exact OpOK.quiet hR this p3
variable {n:Nat}
theorem Jlm {K:Value}(hk:VR m k K){es':Array MapEntry}(hl:ER m es es'.toList){r':Option (Nat×Value)}(h:Hit m es 0 ty k (some (i,v,n)) r'): ∃v' e,r'=some (i,v')∧VR m v v'∧es'[i]? = some e∧e.key=K∧VR m v e.val∧e.born=n∧(∀P w,(Instr.keyThatStays (((es'[i]?).map (·.key)).getD K) K).run P w = .ok K w)∧∃k',es[i]? = some (k',v,n):=by
 obtain⟨v',k',rfl,h2,_,h4,h5⟩:=h;simp only[Nat.sub_zero]at h4;obtain⟨e,q1,q2,q3,q4⟩:=hl.get h4;simp only[Array.getElem?_toList]at q1;obtain⟨p1,p2⟩:=Jqb hk q2 h5;refine⟨v',e,rfl,h2,q1,p1.symm,q3,q4,fun P w=>?_,k',h4⟩;rw[q1,Option.map_some,Option.getD_some,←p1];simp[Instr.keyThatStays,p2]
theorem Joa {k' v0:V}(h:es[i]? = some (k',v0,n)):IL i k v es=es.set i (k,v,n):=by simp[IL,h]
variable {y:Operand} {bk:Nat}
theorem Mc (hR:R aw w m base)(hfr:FR m N fr act.tmps){k:Operand}{c:Opd}(ho:o.op = .mapUpdate t x k y∨o.op = .insert t x k y)(hx:La x=some a)(hk:La k=some b)(hy:La y=some c)
 (hu:P.underlying t=some (.map kt el))(ht:Ih P kt=some ty)(h1:a.ev fr=some mv)(h2:b.ev fr=some kv)(h2':c.ev fr=some v)
 (h3:aw.entries mv=some (some bk,es,ck))(h4:IE ty kv=true)(h5:BA ty kv es 0=some r):
  OpOK P o act aw (match (generalizing:=false) r with|some (i,_,_)=>aw.turn bk (.map (IL i kv v es) ck)|none=>aw.turn bk (.map (es++[(kv,v,ck)]) (ck+1))) w m base .skip:=by
 have e1:=Li hfr hx h1;have e2:=Li hfr hk h2;have e3:=Li hfr hy h2';rcases CU (P:=P) hR e1 h3 with⟨q1,_⟩|⟨b',e,es',q1,q2,q3,q4,q5,q6,q7⟩
 ·cases q1
 ·cases q1;obtain⟨r',p1,p2⟩:=E5 (P:=P) (w:=w) ht e2 q6 h5;have hck:=AX (P:=P) (w:=w) ht e2 h4 false;have hexec:execOp act.eval o=(do Instr.mapUpdate t (act.eval x) (act.eval k) (act.eval y);pure .skip:Sem Next):=by rcases ho with ho|ho<;>simp only[execOp,ho]
  cases r with
  | none =>
   cases p2;obtain⟨g1,g2⟩:=Dc hR (ck2:=ck+1) q3 q4 (l2:=es'.push {key:=act.eval k,val:=act.eval y,born:=ck}) (by rw[Array.toList_push];exact q6.push (e:={key:=act.eval k,val:=act.eval y,born:=ck}) e2 e3 rfl);refine⟨_,m,?_,g1,g2⟩;simp only[hexec,Instr.mapUpdate,Sem.run_bind,run_underlying hu,Result.andThen_ok,q2,q7,hck,p1,Ct q5 Fj,Sem.run_pure]
  | some p =>
   obtain⟨i,v0,n⟩:=p;obtain⟨v',e0,rfl,k1,k2,k3,k4,k5,k6,k',k7⟩:=Jlm e2 q6 p2;obtain⟨g1,g2⟩:=Dc hR (ck2:=ck) q3 q4 (l2:=es'.modify i fun e=>{e with key:=act.eval k,val:=act.eval y}) (by rw[N7 k2];exact q6.set (e:={e0 with key:=act.eval k,val:=act.eval y}) e2 e3 k5);rw[←Joa k7]at g1 g2;refine⟨_,m,?_,g1,g2⟩;simp only[hexec,Instr.mapUpdate,Sem.run_bind,run_underlying hu,Result.andThen_ok,q2,q7,hck,p1,k6,Ct q5 Fj,Sem.run_pure]
theorem JjE (hR:R aw w m base)(hfr:FR m N fr act.tmps){z:V}{k:Operand}(ho:o.op = .mapEntry t x k)(hx:La x=some a)(hk:La k=some b)
 (hu:P.underlying t=some (.map kt el))(ht:Ih P kt=some ty)(hz:BG P el=some z)(h1:a.ev fr=some mv)(h2:b.ev fr=some kv)
 (h3:aw.entries mv=some (some bk,es,ck))(h4:IE ty kv=true)(h5:BA ty kv es 0=some r):
  OpOK P o act aw (match (generalizing:=false) r with|some (i,v,_)=>aw.turn bk (.map (IL i kv v es) ck)|none=>aw.turn bk (.map (es++[(kv,z,ck)]) (ck+1))) w m base
   (.val (match (generalizing:=false) r with|some (_,v,n)=> .tuple [v,.int .i64 (Fq n)]|none=> .tuple [z,.int .i64 (Fq ck)])):=by
 have e1:=Li hfr hx h1;have e2:=Li hfr hk h2;obtain⟨z',hz1,hz2⟩:=Iy (P:=P) (w:=w) (m:=m) hz;rcases CU (P:=P) hR e1 h3 with⟨q1,_⟩|⟨b',e,es',q1,q2,q3,q4,q5,q6,q7⟩
 ·cases q1
 ·cases q1;obtain⟨r',p1,p2⟩:=E5 (P:=P) (w:=w) ht e2 q6 h5;have hck:=AX (P:=P) (w:=w) ht e2 h4 false;cases r with
  | none =>
   cases p2;obtain⟨g1,g2⟩:=Dc hR (ck2:=ck+1) q3 q4 (l2:=es'.push {key:=act.eval k,val:=z',born:=ck}) (by rw[Array.toList_push];exact q6.push (e:={key:=act.eval k,val:=z',born:=ck}) e2 hz2 rfl);refine⟨.tuple #[z',.int .i64 ck],_,m,?_,⟨_,rfl,z',[.int .i64 ck],rfl,hz2,_,[],rfl,rfl,rfl⟩,g1,g2⟩;simp only[execOp,ho,Instr.mapEntry,Sem.run_bind,run_underlying hu,Result.andThen_ok,q2,q7,hck,p1,hz1,Ct q5 Fj,Sem.run_pure,goInt]
  | some p =>
   obtain⟨i,v0,n⟩:=p;obtain⟨v',e0,rfl,k1,k2,k3,k4,k5,k6,k',k7⟩:=Jlm e2 q6 p2;obtain⟨g1,g2⟩:=Dc hR (ck2:=ck) q3 q4 (l2:=es'.modify i fun e=>{e with key:=act.eval k}) (by rw[N7 k2];exact q6.set (e:={e0 with key:=act.eval k}) e2 k4 k5);rw[←Joa k7]at g1 g2;refine⟨.tuple #[v',.int .i64 n],_,m,?_,⟨_,rfl,v',[.int .i64 n],rfl,k1,_,[],rfl,rfl,rfl⟩,g1,g2⟩;simp only[execOp,ho,Instr.mapEntry,Sem.run_bind,run_underlying hu,Result.andThen_ok,q2,q7,hck,p1,k6,Ct q5 Fj,Sem.run_pure,goInt];simp[k2,k5]
theorem JkM:∀{es:List (V×V×Nat)} {l:List MapEntry} (n:Nat),ER m es l→l.findIdx? (fun e=>(e.born:Int)==(n:Int))=es.findIdx? (fun e=>Nat.beq e.2.2 n)
 | [],l,n,h=>by cases h;rfl
 | (k,v,q)::es,l,n,h=>by
  obtain⟨e,r,rfl,_,_,h4,h5⟩:=h
  have hb:((e.born:Int)==(n:Int))=Nat.beq q n:=by
   rw[Bool.eq_iff_iff,beq_iff_eq,Nat.beq_eq,h4];omega
  simp only[List.findIdx?_cons,hb,JkM n h5]
theorem Jmr (hR:R aw w m base)(hfr:FR m N fr act.tmps){s:Operand}{c:Opd}(ho:o.op = .entryStore t x s y)(hx:La x=some a)(hs:La s=some b)(hy:La y=some c){sv:V}{n':Nat}{v0:V}(h1:a.ev fr=some mv)(h2:b.ev fr=some sv)(h2':c.ev fr=some v)(h3:aw.entries mv=some (some bk,es,ck))(h4:idx sv=some n)(h5:es.findIdx? (fun e=>Nat.beq e.2.2 n)=some i)(h6:es[i]? = some (k,v0,n')): OpOK P o act aw (aw.turn bk (.map (es.set i (k,v,n')) ck)) w m base .skip:=by
 have e1:=Li hfr hx h1;obtain⟨ki,e2⟩:=Ch h4 (Li hfr hs h2);have e3:=Li hfr hy h2';rcases CU (P:=P) hR e1 h3 with⟨q1,_⟩|⟨b',e,es',q1,q2,q3,q4,q5,q6,q7⟩
 ·cases q1
 ·cases q1;obtain⟨e0,p1,p2,p3,p4⟩:=q6.get h6;simp only[Array.getElem?_toList]at p1;obtain⟨g1,g2⟩:=Dc hR (ck2:=ck) q3 q4 (l2:=es'.modify i fun e=>{e with val:=act.eval y}) (by rw[N7 p1];exact q6.set (e:={e0 with val:=act.eval y}) p2 e3 p4)
  refine⟨_,m,?_,g1,g2⟩
  have hfi:es'.findIdx? (fun e=>(e.born:Int)==(n:Int))=some i:=by
   rw[←h5,←JkM n q6,←List.findIdx?_toArray]
  simp only[execOp,ho,Instr.entryStore,Sem.run_bind,Result.andThen_ok,q2,e2,asInt,asIntOf,q7,hfi,Ct q5 Fj,Sem.run_pure]
variable {args:Array Operand} {ts:Array TypeId} {tr:List TypeId}
theorem RH (hR:R aw w m base)(hfr:FR m N fr act.tmps){k:Operand} 
 (ho:o.op = .call {callee:=.builtin .delete,args:=args,argTypes:=ts})(hts:ts.toList=t::tr)(hargs:args.toList=[x,k])(hx:La x=some a)(hk:La k=some b)
 (hu:P.underlying t=some (.map kt el))(ht:Ih P kt=some ty)(h1:a.ev fr=some mv)(h2:b.ev fr=some kv)
 (h3:aw.entries mv=some (ob,es,ck))(h4:IE ty kv=true)
 (h:(ob=none∧aw'=aw)∨∃bk r,ob=some bk∧BA ty kv es 0=some r∧aw'=(match (generalizing:=false) r with|some (i,_,_)=>aw.turn bk (.map (es.eraseIdx i) ck)|none=>aw.turn bk (.map es ck))):
  OpOK P o act aw aw' w m base (.val (.tuple [])):=by
 have hargs':args = #[x,k]:=by cases args;simp_all
 have hts':ts=(t::tr).toArray:=by cases ts;simp_all
 subst hargs' hts';have e1:=Li hfr hx h1;have e2:=Li hfr hk h2;rcases CU (P:=P) hR e1 h3 with⟨q1,q2,_⟩|⟨b',e,es',q1,q2,q3,q4,q5,q6,q7⟩
 ·rcases h with⟨_,rfl⟩|⟨bk,r,hb,_⟩
  ·refine⟨.tuple #[],w,m,TD ho (vs:=#[act.eval x,act.eval k]) Fj (fun _=>rfl) ?_,⟨#[],rfl,rfl⟩,hR,.refl _ _ _⟩;have hck:=AX (P:=P) (w:=w) ht e2 h4 true;simp[Builtin.delete_,run_underlying hu,q2,hck]
  ·rw[q1]at hb;cases hb
 ·rcases h with⟨hb,_⟩|⟨bk,r,hb,h5,rfl⟩
  ·rw[q1]at hb;cases hb
  ·rw[q1]at hb;cases hb;obtain⟨r',p1,p2⟩:=E5 (P:=P) (w:=w) ht e2 q6 h5;have hck:=AX (P:=P) (w:=w) ht e2 h4 es'.isEmpty;cases r with
   | none =>
    cases p2;obtain⟨g1,g2⟩:=Dc hR (ck2:=ck) q3 q4 (l2:=es') q6;refine⟨.tuple #[],_,m,TD ho (vs:=#[act.eval x,act.eval k]) Fj (fun _=>rfl) ?_,⟨#[],rfl,rfl⟩,g1,g2⟩;simp[Builtin.delete_,run_underlying hu,q2,q7,hck,p1,Ct q5]
   | some p =>
    obtain⟨i,v0,n⟩:=p;obtain⟨v',e0,rfl,k1,k2,k3,k4,k5,k6,k',k7⟩:=Jlm e2 q6 p2;have hi:i<es'.size:=(Array.getElem?_eq_some_iff.1 k2).1;obtain⟨g1,g2⟩:=Dc hR (ck2:=ck) q3 q4 (l2:=es'.eraseIdxIfInBounds i) (by rw[show (es'.eraseIdxIfInBounds i).toList=es'.toList.eraseIdx i by simp[Array.eraseIdxIfInBounds,hi]];exact q6.erase);refine⟨.tuple #[],_,m,TD ho (vs:=#[act.eval x,act.eval k]) Fj (fun _=>rfl) ?_,⟨#[],rfl,rfl⟩,g1,g2⟩;simp[Builtin.delete_,run_underlying hu,q2,q7,hck,p1,Ct q5]
theorem Jjr (hR:R aw w m base)(hfr:FR m N fr act.tmps) 
 (ho:o.op = .call {callee:=.builtin .clear,args:=args,argTypes:=ts})(hts:ts.toList=t::tr)(hargs:args.toList=[x])(hx:La x=some a)
 (hu:P.underlying t=some (.map kt el))(h1:a.ev fr=some mv)(h3:aw.entries mv=some (ob,es,ck)):
  OpOK P o act aw (match (generalizing:=false) ob with|some bk=>aw.turn bk (.map [] ck)|none=>aw) w m base (.val (.tuple [])):=by
 have hargs':args = #[x]:=by cases args;simp_all
 have hts':ts=(t::tr).toArray:=by cases ts;simp_all
 subst hargs' hts';have e1:=Li hfr hx h1;rcases CU (P:=P) hR e1 h3 with⟨rfl,q2,_⟩|⟨b',e,es',rfl,q2,q3,q4,q5,q6,q7⟩
 ·refine⟨.tuple #[],w,m,TD ho (vs:=#[act.eval x]) Fj (fun _=>rfl) ?_,⟨#[],rfl,rfl⟩,hR,.refl _ _ _⟩;simp[Builtin.clear_,run_underlying hu,q2]
 ·obtain⟨g1,g2⟩:=Dc hR (ck2:=ck) q3 q4 (l2:=#[]) (es2:=[]) rfl;refine⟨.tuple #[],_,m,TD ho (vs:=#[act.eval x]) Fj (fun _=>rfl) ?_,⟨#[],rfl,rfl⟩,g1,g2⟩;simp[Builtin.clear_,run_underlying hu,q2,q7,Ct q5]
theorem JrO (hR:R aw w m base)(hfr:FR m N fr act.tmps) 
 (ho:o.op = .call {callee:=.builtin .len,args:=args,argTypes:=ts})(hts:ts.toList=[t])(hargs:args.toList=[x])(hx:La x=some a)
 (hu:P.underlying t=some (.map kt el))(h1:a.ev fr=some mv)(h3:aw.entries mv=some (ob,es,ck)):
  OpOK P o act aw aw w m base (.val (.int .i64 (Fq es.length))):=by
 obtain⟨rfl,rfl⟩:=Nz hts hargs;have e1:=Li hfr hx h1;refine OpOK.quiet hR (v':=.int .i64 (Fq es.length)) ?_ rfl;refine TD ho (vs:=#[act.eval x]) Fj (fun _=>rfl) ?_;rcases CU (P:=P) hR e1 h3 with⟨_,q2,rfl,_⟩|⟨b',e,es',_,q2,q3,q4,q5,q6,q7⟩
 ·simp[Builtin.len_,run_underlying hu,q2,goInt]
 ·have:=q6.length;simp only[Array.length_toList]at this;simp[Builtin.len_,run_underlying hu,q2,q7,goInt,this]
theorem JtE (hR:R aw w m base)(ho:o.op = .makeMap t none):OpOK P o act aw (aw.new (.map [] 0)) w m base (.val (.map aw.next)):=by
 obtain⟨r1,r2⟩:=hR.new (.map [] 0) (.map #[] 0) 0 rfl ⟨#[],Cw w _,rfl⟩;refine⟨.map (some w.heap.size),_,_,?_,⟨_,Map.set_same _ _ _,rfl⟩,r1,r2⟩;simp[execOp,ho,Instr.makeMap]
end
end
end Go.AE
