/- A part of the proof. -/
import Derived.Test.YtegdcbdicpfbpaaDoorJxJ
import Derived.Test.YtegdcbdicpfbpaaDoorJxI
import Derived.Test.YtegdcbdicpfbpaaDoorJxH
import Derived.Test.YtegdcbdicpfbpaaDoorJxK
open Int renaming ofNat → Fq
open Go.IntKind renaming wrap → KX
set_option linter.unusedVariables false
set_option linter.unusedSectionVars false
set_option linter.unusedSimpArgs false
namespace Go.AE
variable [Globs]
theorem Sq {b:Nat}:(V.map b).cells=[.map b]:=rfl
theorem JiE:V.nilmap.cells=[.nilmap]:=rfl
theorem Jla {f:Fn}{a c:List V}:(V.func f a c).cells=[.func f a c]:=rfl
variable {v:V}
theorem JjU {t:Nat}:(V.iface t v).cells=[.iface t v]:=rfl
theorem Jha:V.niliface.cells=[.niliface]:=rfl
attribute [go_sem] Sq JiE Jla JjU Jha
section
variable {α β:Type} [DecidableEq α]
def Hr:List (α×β)→α→Option β
 | [],_=>none
 | (a,b)::l,k=>if k=a then some b else Hr l k
def Pe:List (α×β)→α→β→List (α×β)
 | [],k,v=>[(k,v)]
 | (a,b)::l,k,v=>if k=a then (a,v)::l else (a,b)::Pe l k v
theorem HD:∀(l:List (α×β)) (k:α) (v:β),Hr (Pe l k v) k=some v
 | [],k,v=>by simp[Pe,Hr]
 | (a,b)::l,k,v=>by
  by_cases h:k=a
  ·simp[Pe,Hr,h]
  ·simp only[Pe,if_neg h,Hr];exact HD l k v
theorem HX:∀(l:List (α×β)) (k k':α) (v:β),k'≠k→Hr (Pe l k v) k'=Hr l k'
 | [],k,k',v,h=>by simp[Pe,Hr,h]
 | (a,b)::l,k,k',v,h=>by
  by_cases hk:k=a
  ·subst hk;simp[Pe,Hr,h]
  ·simp only[Pe,if_neg hk,Hr,HX l k k' v h]
structure KeyE (t:KeyTy) (ke:α→V):Prop where
 eq:∀a b,BH t (ke a) (ke b)=some (decide (a=b))
 ok:∀a,OJ t (ke a)=true
def I7 (ke:α→V) (ve:β→V) (p:α×β) (e:V×V×Nat):Prop:=e.1=ke p.1∧e.2.1=ve p.2
structure MB (ke:α→V) (ve:β→V) (w:AW) (b:Nat) (M:List (α×β)):Prop where
 lt:b<w.next
 get:∃es ck,w.heap.get b=some (.map es ck)∧All2 (I7 ke ve) M es
variable {ke:α→V} {ve:β→V} {t:KeyTy}
def Tq (ve:β→V) (zero:V):Option β→V×Bool
 | some v=>(ve v,true)
 | none=>(zero,false)
variable {w:AW} {b:Nat} {M:List (α×β)}
theorem MB.frm {S:Fw}{w':AW}(h:MB ke ve w b M)(hf:Frm S w w')(hn:¬S b):MB ke ve w' b M:=by
 obtain⟨es,ck,h1,h2⟩:=h.get;exact⟨FK h.lt hf.next,es,ck,(hf.heap b h.lt hn).trans h1,h2⟩
theorem Aj (hk:KeyE t ke){k:α}:∀{M:List (α×β)} {es:List (V×V×Nat)} (i:Nat),All2 (I7 ke ve) M es→ (Hr M k=none→PS t (ke k) es i=some none)∧∀v,Hr M k=some v→∃j n,PS t (ke k) es i=some (some (i+j,ve v,n))∧∀v',All2 (I7 ke ve) (Pe M k v') (OP j (ke k) (ve v') es)
 | [],_,i,.nil=>⟨fun _=>rfl,fun v h=>by simp[Hr]at h⟩
 | (a,b)::M,(x,y,n)::es,i,.cons h1 h2=>by
  obtain⟨q1,q2⟩:=h1;simp only at q1 q2;subst q1;subst q2;by_cases h:k=a
  ·subst h;refine⟨fun hn=>by simp[Hr]at hn,fun v hv=>?_⟩;simp only[Hr,if_true,FP]at hv;subst hv;refine⟨0,n,by simp only[PS,hk.eq,decide_true,KD],fun v'=>?_⟩;simp only[Pe,if_true,OP,Ke,List.set_cons_zero];exact .cons ⟨rfl,rfl⟩ h2
  ·obtain⟨r1,r2⟩:=Aj hk (k:=k) (i+1) h2;refine⟨fun hn=>?_,fun v hv=>?_⟩
   ·simp only[Hr,if_neg h]at hn;simp only[PS,hk.eq,decide_eq_false h];exact r1 hn
   ·simp only[Hr,if_neg h]at hv;obtain⟨j,m,s1,s2⟩:=r2 v hv;refine⟨j+1,m,?_,fun v'=>?_⟩
    ·simp only[PS,hk.eq,decide_eq_false h];rw[s1];congr 3;omega
    ·have:=s2 v';simp only[Pe,if_neg h]
     have e:OP (j+1) (ke k) (ve v') ((ke a,ve b,n)::es)=(ke a,ve b,n)::OP j (ke k) (ve v') es:=by
      simp only[OP,Kg];split<;>simp
     rw[e];exact .cons ⟨rfl,rfl⟩ this
theorem MB.look (hk:KeyE t ke)(h:MB ke ve w b M)(zero:V)(k:α):w.lookV t zero (.map b) (ke k)=some (Tq ve zero (Hr M k)):=by
 obtain⟨es,ck,h1,h2⟩:=h.get;obtain⟨r1,r2⟩:=Aj hk (k:=k) 0 h2;simp only[AW.lookV,AW.entries,h1,hk.ok];cases hg:Hr M k with
 | none=>simp only[r1 hg,Tq]
 | some v=>obtain⟨j,n,s1,_⟩:=r2 v hg;simp only[s1,Tq]
theorem Cv:∀{M:List (α×β)} {k:α},Hr M k=none→∀v,Pe M k v=M++[(k,v)]
 | [],k,_,v=>rfl
 | (a,b)::M,k,h,v=>by
  simp only[Hr]at h;split at h
  ·cases h
  ·rename_i hn;simp only[Pe,if_neg hn,Cv h v,List.cons_append]
theorem A9 {es:List (V×V×Nat)}{ck:Nat}:Frm (fun x=>x=b) w (w.turn b (.map es ck)):=
 ⟨FH _,fun c hc hn=>T.get_put_ne hn,fun c hc hn=>rfl⟩
theorem MB.put (hk:KeyE t ke)(h:MB ke ve w b M)(k:α)(v:β):∃w',w.putV t (.map b) (ke k) (ve v)=some w'∧MB ke ve w' b (Pe M k v)∧Frm (fun x=>x=b) w w'∧w'.next=w.next:=by
 obtain⟨es,ck,h1,h2⟩:=h.get;obtain⟨r1,r2⟩:=Aj hk (k:=k) 0 h2;simp only[AW.putV,AW.entries,h1,hk.ok];cases hg:Hr M k with
 | none =>
  refine⟨w.turn b (.map (es++[(ke k,ve v,ck)]) (ck+1)),by simp only[r1 hg],⟨h.lt,_,_,T.get_put_same,?_⟩,A9,rfl⟩;rw[Cv hg];exact h2.snoc ⟨rfl,rfl⟩
 | some u =>
  obtain⟨j,n,s1,s2⟩:=r2 u hg;refine⟨w.turn b (.map (OP j (ke k) (ve v) es) ck),?_,⟨h.lt,_,_,T.get_put_same,s2 v⟩,A9,rfl⟩;simp only[s1,FU]
theorem MB.len (h:MB ke ve w b M):∃es ck,w.entries (.map b)=some (some b,es,ck)∧es.length=M.length:=by
 obtain⟨es,ck,h1,h2⟩:=h.get;exact⟨es,ck,by simp only[AW.entries,h1],h2.len.symm⟩
theorem MB.new (w:AW):MB ke ve (w.new (.map [] 0)) w.next ([]:List (α×β)):=⟨FV _,[],0,T.get_put_same,.nil⟩
end
variable {S:Fw}
theorem Te (w:AW):Frm S w (w.new (.map [] 0)):=Frm.new w _
theorem Px:KeyE (.scalar .str) V.str:=⟨fun a b=>by
 show some (eqL a b)=_
 congr 1
 by_cases h:a=b
 ·rw[decide_eq_true h];exact eqL_iff.2 h
 ·rw[decide_eq_false h];cases hc:eqL a b with
  | false=>rfl
  | true=>exact absurd (eqL_iff.1 hc) h,fun _=>rfl⟩
theorem JmP:KeyE (.scalar .int) (V.int .i64):=⟨fun a b=>by
 show (if (IntKind.i64:IntKind) = .i64 then some (a==b)else none)=_;rw[if_pos rfl]
 congr 1,fun _=>rfl⟩
inductive Bt (S:Nat→Prop) (w:AW):V→Nat→Nat→List V→Prop
 | nil {esz:Nat}:Bt S w .nilslice esz 0 []
 | blk {b n esz:Nat} {cs:List V} {sh:Share} (hS:S b) (hb:b<w.next) (hx:w.heap.get b=some (.cells cs sh)) (hl:cs.length=n*esz) (he:0<esz) (hn:0<n) (hs:Shr S w b sh):Bt S w (.slice b 0 n (.upTo esz)) esz n cs
variable {w:AW} {esz n:Nat} {cs:List V}
theorem Bt.buf (h:Bt S w v esz n cs):Buf S w v esz n cs:=by
 cases h with
 | nil=>exact .nil
 | blk hS hb hx hl he hn hs=>exact .blk (r:=0) (rest:=[]) hS hb (by rw[Kb];exact hx) hl Fj he Fh hs
theorem Bt.mono {S':Fw}(h:Bt S w v esz n cs)(hs:∀x,S x→S' x):Bt S' w v esz n cs:=by
 cases h with
 | nil=>exact .nil
 | blk hS hb hx hl he hn hsh=>exact .blk (hs _ hS) hb hx hl he hn (hsh.mono hs)
theorem Bt.frm {T:Fw}{w':AW}(h:Bt S w v esz n cs)(hf:Frm T w w')(hd:∀x,S x→¬T x):Bt S w' v esz n cs:=by
 cases h with
 | nil=>exact .nil
 | blk hS hb hx hl he hn hsh=>exact .blk hS (FK hb hf.next) ((hf.heap _ hb (hd _ hS)).trans hx) hl he hn (hsh.frm hf hd)
theorem Bt.len (h:Bt S w v esz n cs):cs.length=n*esz:=h.buf.len
theorem Bt.rd (h:Bt S w v esz n cs):Rd S w v esz n cs:=h.buf.rd
theorem Bt.lenV (h:Bt S w v esz n cs):lenV v=some n:=h.buf.lenV
theorem Bt.one (h:Bt S w v esz n cs):v.one=true∧v.cells=[v]:=by cases h<;>exact⟨rfl,rfl⟩
theorem Bt.inv (h:Bt S w v esz n cs):(v = .nilslice∧n=0∧cs=[])∨∃b,v = .slice b 0 n (.upTo esz)∧S b∧b<w.next:=h.buf.inv
variable {bytes:Nat} {news:List V}
theorem Bt.addN {k:Nat}(h:Bt S w v esz n cs)(he:0<esz)(hl:news.length=k*esz)(h1:HB news=true)(hb:(n+k)*bytes≤70368744177664)(hb':n+k≤70368744177664): ∃v' w' S',w.appendV esz bytes v k news=some (v',w')∧Bt S' w' v' esz (n+k) (cs++news)∧Frm S w w'∧LC S S' w w':=by
 cases k with
 | zero =>
  have:news=[]:=List.length_eq_zero_iff.1 (by simpa using hl);subst this;refine⟨v,w,fun x=>S x∧x<w.next,?_,?_,Frm.refl _,fun b hb=>⟨hb.2,.inl hb.1⟩⟩
  ·cases h<;>rfl
  ·rw[Kb,KD];cases h with
   | nil=>exact .nil
   | blk hS hbw hx hlen he' hn hs =>
    refine .blk ⟨hS,hbw⟩ hbw hx hlen he' hn ?_;rcases hs with rfl|rfl|⟨f,F,rfl,q1,q2,q3⟩
    ·exact .inl rfl
    ·exact .inr (.inl rfl)
    ·exact .inr (.inr ⟨f,F,rfl,⟨q1,q2⟩,q2,q3⟩)
 | succ k =>
  cases h with
  | nil =>
   refine⟨.slice w.next 0 (k+1) (.upTo esz),w.fresh news,fun b=>b=w.next,?_,?_,Frm.new _ _,?_⟩
   ·simp only[AW.appendV];rw[if_pos ⟨by simpa using hb,by omega⟩]
   ·rw[FU];exact .blk rfl (FV _) T.get_put_same (by simpa using hl) he Fh (.inl rfl)
   ·rintro b rfl;exact⟨FV _,.inr (FH _)⟩
  | @blk b _ _ _ sh hS hbw hx hlen he' hn hs =>
   have happ:w.appendV esz bytes (.slice b 0 n (.upTo esz)) (k+1) news=w.appendUp esz b 0 n (k+1) news:=if_pos ⟨rfl,hb,hb',h1,he⟩;rw[happ];have hbeq:Nat.beq (0+n*esz) cs.length=true:=by rw[FU,hlen,Nat.beq_refl]
   have fam:∀(u:AW) (f:Nat) (F:Fam),w.next≤u.next→Frm S w u→u.heap.get b=some (.cells cs (.fam f))→(S f∨w.next≤f)→f<u.next→b<u.next→u.fams.get f=some F→F.last=b→F.floor≤u.next→u.alive b (.fam f)=true→∃v' w' S',u.appendFam esz b 0 n (k+1) news=some (v',w')∧Bt S' w' v' esz (n+(k+1)) (cs++news)∧Frm S w w'∧LC S S' w w':=by
    intro u f F hle hfu hx hSf hfl hbu hF hlast hflo hal;refine⟨.slice u.next 0 (n+(k+1)) (.upTo esz),u.grow b f F (cs.drop 0++news),fun x=>x=u.next∨x=f,?_,?_,?_,?_⟩
    ·simp only[AW.appendFam,hx,hal,hF,hbeq]
    ·have hg:(u.grow b f F (cs.drop 0++news)).fams.get f=some ⟨F.keep,F.floor,u.next⟩:=by
      simp only[AW.grow,T.get_putk,if_true,hlast,Nat.beq_refl]
     refine .blk (sh:=.fam f) (.inl rfl) (FV _) ?_ ?_ he Fh (.inr (.inr ⟨f,⟨F.keep,F.floor,u.next⟩,rfl,.inr rfl,Nat.lt_succ_of_lt hfl,hg,rfl,Nat.le_succ_of_le hflo,?_⟩))
     ·simp only[AW.grow,T.get_putk,if_true,FY]
     ·rw[FE,hlen,hl,Nat.add_mul n]
     ·simp only[AW.alive,hg,Bool.or_eq_true];exact .inr (Nat.ble_eq_true_of_le hflo)
    ·refine hfu.trans (T:=fun x=>x=f∨u.next≤x) ⟨Nat.le_succ _,fun c hc hn=>T.get_put_ne Fh,fun c hc hn=>T.get_put_ne fun e=>hn (.inl e)⟩ (fun x hx h=>h) ?_;rintro x hx (rfl|h)
     ·rcases hSf with h|h
      ·exact h
      ·omega
     ·omega
    ·rintro x (rfl|rfl)
     ·exact⟨FV _,.inr hle⟩
     ·exact⟨Nat.lt_succ_of_lt hfl,hSf⟩
   have fnd:sh = .own∨sh = .lax→∃v' w' S',(w.found b cs).appendFam esz b 0 n (k+1) news=some (v',w')∧Bt S' w' v' esz (n+(k+1)) (cs++news)∧Frm S w w'∧LC S S' w w':=by
    intro _;refine fam (w.found b cs) w.next ⟨b,w.next+1,b⟩ (Nat.le_succ _) ⟨Nat.le_succ _,fun c hc hn=>T.get_put_ne fun e=>hn (e▸hS),fun c hc hn=>T.get_put_ne Fh⟩ T.get_put_same (.inr (FH _)) (FV _) (Nat.lt_succ_of_lt hbw) T.get_put_same rfl (FH _) ?_;simp only[AW.alive,AW.found,T.get_putk,if_true,Nat.beq_refl,Bool.true_or]
   simp only[AW.appendUp,hx,hbeq];rcases hs with rfl|rfl|⟨f,F,rfl,g1,g2,g3,g4,g6,g5⟩
   ·exact fnd (.inl rfl)
   ·exact fnd (.inr rfl)
   ·exact fam w f F (FH _) (Frm.refl _) hx (.inl g1) g2 hbw g3 g4 g6 g5
theorem Bt.push (h:Bt S w v esz n cs)(hS:∀b,S b→b<w.next)(he:0<esz)(hl:news.length=esz)(h1:HB news=true)(hb:(n+1)*bytes≤70368744177664)(hb':n+1≤70368744177664): ∃v' w' S',(w.fresh news).appendV esz bytes v 1 news=some (v',w')∧Bt S' w' v' esz (n+1) (cs++news)∧Frm S w w'∧LC S S' w w':=by
 have hx:Frm (fun _=>False) w (w.fresh news):=Frm.new _ _;obtain⟨v',w',S',h2,h3,h4,h5⟩:=(h.frm hx fun _ _ h=>h).addN (news:=news) (k:=1) (bytes:=bytes) he Fh h1 hb hb';refine⟨v',w',S',h2,h3,hx.trans h4 (fun _ _ h=>h.elim) fun _ _ h=>h,fun b hb=>?_⟩;obtain⟨q1,q2⟩:=h5 b hb;exact⟨q1,q2.imp id fun h=>Kj hx.next h⟩
end Go.AE
namespace Delphi
def okc (i c:Nat):Bool:=(decide (97≤c)&&decide (c≤122))||(decide (i≠0)&&((decide (48≤c)&&decide (c≤57))||decide (c=95)))
def Ls:Nat→List Nat→Bool
 | _,[]=>true
 | i,c::s=>okc i c&&Ls (i+1) s
def BD (s:List Nat):Bool:=Ls 0 s&&(decide (1≤s.length)&&decide (s.length≤16))
theorem Ro:∀(s:List Nat) (i c:Nat),Ls i (s++[c])=(Ls i s&&okc (i+s.length) c)
 | [],i,c=>by simp[Ls]
 | x::s,i,c=>by
  simp only[List.cons_append,Ls,Ro s (i+1) c,FC,Bool.and_assoc]
  congr 3;omega
theorem Qg:∀{s:List Nat} {i k c:Nat},s[k]? = some c→okc (i+k) c=false→Ls i s=false
 | [],i,k,c,h,_=>by simp at h
 | x::s,i,0,c,h,hb=>by simp at h;subst h;simp only[Ls];rw[show okc i x=false from hb];rfl
 | x::s,i,k+1,c,h,hb=>by
  simp only[Ls];rw[Qg (s:=s) (i:=i+1) (k:=k) (c:=c) (by simpa using h) (by rw[←hb];congr 1;omega),Bool.and_false]
structure Tk where
 k:Int
 s:List Nat
 n:Int
def HV (t:Tk):Bool :=
 if t.k=3 then decide (t.s=[])&&(decide (-2147483648≤t.n)&&decide (t.n≤2147483648))
 else if t.k=2 then decide (t.n=0)&&BD t.s else false
end Delphi
set_option maxRecDepth 10000
namespace Go.Proofs.YtegdcbdicpfbpaaDoor.Val
open Go.AE Delphi
variable {tab:Tab}
def WdI (s:List Nat) (fi:Nat) (aw:AW) (q:Nat) (f:Fr) (w:AW):Prop :=
 ∃i,f.get 0=some (.str s)∧f.get fi=some (.int .i64 (Fq i))∧i≤s.length∧q=s.length-i∧Ls 0 (s.take i)=true∧w=aw
variable {s:List Nat}
theorem Ta {i c:Nat}(h:s[i]? = some c)(ho:Ls 0 (s.take i)=true)(hc:okc i c=true):Ls 0 (s.take (i+1))=true:=by
 have hl:i<s.length:=(List.getElem?_eq_some_iff.1 h).1;have e:s.take (i+1)=s.take i++[c]:=by rw[List.take_add_one,h];rfl
 rw[e,Ro,ho,FT,KC Fh,FU,hc];rfl
theorem Jqe (C:Codes tab){aw:AW}{K:V→AW→Prop}(hn:s.length≤9223372036854775807)(hb:∀c∈s,c<256)(h:K (.bool (BD s)) aw):WF tab VT [.str s] aw K:=by
 refine Hy C.Y2 rfl ?_;refine Ho 1000 (by simp only[go_sem,Hn,Jl];rfl) ?_;refine HT (fun q f w=>WdI s 8 aw q f w∧f.get 7=some (.int .i64 (Fq s.length))) (fun f w=>f.get 0=some (.str s)∧Ls 0 s=true∧w=aw) ?_ ?_ s.length ⟨⟨0,(by simp only[go_sem,Hn]<;>rfl),(by simp only[go_sem,Hn]<;>rfl),by omega,rfl,by simp[Ls],rfl⟩,(by simp only[go_sem,Hn]<;>rfl)⟩
 ·rintro q f w ⟨⟨i,f0,f8,hi,rfl,hok,rfl⟩,f7⟩ ih exit;by_cases hlt:i<s.length
  case neg =>
   rw[FW Fh]at hok;refine Hs 1000 (by simp only[go_sem,Jg,f7,f8,hlt];rfl) ?_;exact exit _ _ _ ⟨(by simp only[go_sem,Hn,f0]<;>rfl),hok,rfl⟩ rfl
  obtain⟨c,hc⟩:∃c,s[i]? = some c:=⟨_,FB hlt⟩;have hwr:KX .i64 (Fq i+1)=Fq (i+1):=Hv Fh
  have bad:okc i c=false→BD s=false:=fun hk=>by
   have:=Qg (i:=0) hc (by rw[FU];exact hk);simp only[BD,this,Bool.false_and]
  by_cases a:97≤c
  ·by_cases b:c≤122
   ·refine Ho 1000 (by simp only[go_sem,Hn,Jg,Ji,f0,f7,f8,hlt,hc,hwr,a,b];rfl) ?_;exact ih (s.length-(i+1)) _ _ Fh ⟨⟨i+1,(by simp only[go_sem,Hn,f0]<;>rfl),(by simp only[go_sem,Hn]<;>rfl),by omega,rfl,Ta hc hok (by simp[okc,a,b]),rfl⟩,(by simp only[go_sem,Hn,f7]<;>rfl)⟩
   ·by_cases z:i=0
    ·subst z;refine Ho 1000 (by simp only[go_sem,Hn,Jg,Ji,f0,f7,f8,hlt,hc,hwr,a,b];rfl) ?_;rw[bad (by simp[okc,a,b])]at h;refine Hp ⟨_,by simp only[go_sem,Hn,Jl];rfl,?_⟩;exact h
    ·by_cases d:c<48
     ·have d9:¬48≤c:=Fh;have n9:c≠95:=Fh;refine Ho 1000 (by simp only[go_sem,Hn,Jg,Ji,f0,f7,f8,hlt,hc,hwr,a,b,z,d,d9,n9];rfl) ?_;rw[bad (by simp[okc,a,b,z,d,d9,n9])]at h;refine Hp ⟨_,by simp only[go_sem,Hn,Jl];rfl,?_⟩;exact h
     ·have d9:48≤c:=Fh;by_cases e:57<c
      ·have e9:¬c≤57:=Fh;by_cases n9:c=95
       ·refine Ho 1000 (by simp only[go_sem,Hn,Jg,Ji,f0,f7,f8,hlt,hc,hwr,a,b,z,d,d9,e,e9,n9];rfl) ?_;exact ih (s.length-(i+1)) _ _ Fh ⟨⟨i+1,(by simp only[go_sem,Hn,f0]<;>rfl),(by simp only[go_sem,Hn]<;>rfl),by omega,rfl,Ta hc hok (by simp[okc,a,b,z,d,d9,e,e9,n9]),rfl⟩,(by simp only[go_sem,Hn,f7]<;>rfl)⟩
       ·refine Ho 1000 (by simp only[go_sem,Hn,Jg,Ji,f0,f7,f8,hlt,hc,hwr,a,b,z,d,d9,e,e9,n9];rfl) ?_;rw[bad (by simp[okc,a,b,z,d,d9,e,e9,n9])]at h;refine Hp ⟨_,by simp only[go_sem,Hn,Jl];rfl,?_⟩;exact h
      ·have e9:c≤57:=Fh;refine Ho 1000 (by simp only[go_sem,Hn,Jg,Ji,f0,f7,f8,hlt,hc,hwr,a,b,z,d,d9,e,e9];rfl) ?_;exact ih (s.length-(i+1)) _ _ Fh ⟨⟨i+1,(by simp only[go_sem,Hn,f0]<;>rfl),(by simp only[go_sem,Hn]<;>rfl),by omega,rfl,Ta hc hok (by simp[okc,a,b,z,d,d9,e,e9]),rfl⟩,(by simp only[go_sem,Hn,f7]<;>rfl)⟩
  ·by_cases z:i=0
   ·subst z;refine Ho 1000 (by simp only[go_sem,Hn,Jg,Ji,f0,f7,f8,hlt,hc,hwr,a];rfl) ?_;rw[bad (by simp[okc,a])]at h;refine Hp ⟨_,by simp only[go_sem,Hn,Jl];rfl,?_⟩;exact h
   ·by_cases d:c<48
    ·have d9:¬48≤c:=Fh;have n9:c≠95:=Fh;refine Ho 1000 (by simp only[go_sem,Hn,Jg,Ji,f0,f7,f8,hlt,hc,hwr,a,z,d,d9,n9];rfl) ?_;rw[bad (by simp[okc,a,z,d,d9,n9])]at h;refine Hp ⟨_,by simp only[go_sem,Hn,Jl];rfl,?_⟩;exact h
    ·have d9:48≤c:=Fh;by_cases e:57<c
     ·have e9:¬c≤57:=Fh;by_cases n9:c=95
      ·refine Ho 1000 (by simp only[go_sem,Hn,Jg,Ji,f0,f7,f8,hlt,hc,hwr,a,z,d,d9,e,e9,n9];rfl) ?_;exact ih (s.length-(i+1)) _ _ Fh ⟨⟨i+1,(by simp only[go_sem,Hn,f0]<;>rfl),(by simp only[go_sem,Hn]<;>rfl),by omega,rfl,Ta hc hok (by simp[okc,a,z,d,d9,e,e9,n9]),rfl⟩,(by simp only[go_sem,Hn,f7]<;>rfl)⟩
      ·refine Ho 1000 (by simp only[go_sem,Hn,Jg,Ji,f0,f7,f8,hlt,hc,hwr,a,z,d,d9,e,e9,n9];rfl) ?_;rw[bad (by simp[okc,a,z,d,d9,e,e9,n9])]at h;refine Hp ⟨_,by simp only[go_sem,Hn,Jl];rfl,?_⟩;exact h
     ·have e9:c≤57:=Fh;refine Ho 1000 (by simp only[go_sem,Hn,Jg,Ji,f0,f7,f8,hlt,hc,hwr,a,z,d,d9,e,e9];rfl) ?_;exact ih (s.length-(i+1)) _ _ Fh ⟨⟨i+1,(by simp only[go_sem,Hn,f0]<;>rfl),(by simp only[go_sem,Hn]<;>rfl),by omega,rfl,Ta hc hok (by simp[okc,a,z,d,d9,e,e9]),rfl⟩,(by simp only[go_sem,Hn,f7]<;>rfl)⟩
 ·rintro f w ⟨f0,hok,rfl⟩;cases s with
  | nil =>
   refine Ho 1000 (by simp only[go_sem,Hn,f0];rfl) ?_;refine Hp ⟨_,by simp only[go_sem,Hn,Jl];rfl,?_⟩;exact h
  | cons x t =>
   refine Ho 1000 (by simp only[go_sem,Hn,f0];rfl) ?_;refine Hp ⟨_,by simp only[go_sem,Hn,Jl];rfl,?_⟩;rw[show BD (x::t)=decide ((x::t).length≤16)by simp[BD,hok]]at h;exact h
section
open Go.AE Delphi
variable {tab:Tab}
end
section
open Go.AE Delphi
variable {tab:Tab}
def tkC (t:Tk):List V:=[.int .i64 t.k,.str t.s,.int .i64 t.n]
structure TkOk (t:Tk):Prop where
 len:t.s.length≤9223372036854775807
 byt:∀c∈t.s,c<256
theorem Lc (aw:AW)(l:List V):∃w,aw.fresh l=w∧CB w aw.next l∧Frm (fun _=>False) aw w∧w.next=aw.next+1:=
 ⟨_,rfl,Ph aw l,HJ aw l,rfl⟩
theorem CB.ld {w:AW}{b:Nat}{l:List V}(c:CB w b l)(o n:Nat)(r:List V)(h:HC n (l.drop o)=some r):w.load b o n=some r:=by rw[c.load];exact h
theorem JqR (C:Codes tab){t:Tk}{aw:AW}{K:V→AW→Prop}(ht:TkOk t)(h:∀w,Frm (fun _=>False) aw w→K (.bool (HV t)) w):WF tab VK [.agg (tkC t)] aw K:=by
 refine Hy C.YG rfl ?_;obtain⟨k,s,n⟩:=t;obtain⟨w1,e1,c1,r1,m1⟩:=Lc aw [.int .i64 k,.str s,.int .i64 n];have l0:=CB.ld c1 0 1 _ rfl;have l1:=CB.ld c1 1 1 _ rfl;have l2:=CB.ld c1 2 1 _ rfl;have h:=h w1 r1;by_cases k3:k=3
 ·subst k3;cases s with
  | cons x z =>
   refine Ho 1000 (by simp only[go_sem,Hn,Jb,JG,ZA,tkC,e1,l0,l1,l2];rfl) ?_;refine Hp ⟨_,by simp only[go_sem,Hn,Jb];rfl,?_⟩;exact h
  | nil =>
   have hs:LX BinOp.eql [] []=some (.bool true):=rfl;by_cases a : -2147483648≤n
   ·by_cases b:n≤2147483648
    ·rw[show HV ⟨3,[],n⟩=true by simp[HV,a,b]]at h;refine Ho 1000 (by simp only[go_sem,Hn,Jb,JG,ZA,tkC,e1,l0,l1,l2,hs,a,b];rfl) ?_;refine Hp ⟨_,by simp only[go_sem,Hn,Jb];rfl,?_⟩;exact h
    ·rw[show HV ⟨3,[],n⟩=false by simp[HV,a,b]]at h;refine Ho 1000 (by simp only[go_sem,Hn,Jb,JG,ZA,tkC,e1,l0,l1,l2,hs,a,b];rfl) ?_;refine Hp ⟨_,by simp only[go_sem,Hn,Jb];rfl,?_⟩;exact h
   ·rw[show HV ⟨3,[],n⟩=false by simp[HV,a]]at h;refine Ho 1000 (by simp only[go_sem,Hn,Jb,JG,ZA,tkC,e1,l0,l1,l2,hs,a];rfl) ?_;refine Hp ⟨_,by simp only[go_sem,Hn,Jb];rfl,?_⟩;exact h
 ·by_cases k2:k=2
  ·subst k2;by_cases z:n=0
   ·subst z;rw[show HV ⟨2,s,0⟩=BD s by simp[HV]]at h;refine Ho 1000 (by simp only[go_sem,Hn,Jb,JG,WL,tkC,e1,l0,l1,l2];rfl) ?_;refine Hq (by simp only[go_sem,Hn]) (by simp only[go_sem,Hn];rfl) ?_;refine Jqe C ht.len ht.byt ?_;refine Ho 1000 (by simp only[go_sem,Hn];rfl) ?_;refine Hp ⟨_,by simp only[go_sem,Hn,Jb];rfl,?_⟩;exact h
   ·rw[show HV ⟨2,s,n⟩=false by simp[HV,z]]at h;have z':(n==0)=false:=by simpa using z
    refine Ho 1000 (by simp only[go_sem,Hn,Jb,JG,WL,tkC,e1,l0,l1,l2,z'];rfl) ?_;refine Hp ⟨_,by simp only[go_sem,Hn,Jb];rfl,?_⟩;exact h
  ·rw[show HV ⟨k,s,n⟩=false by simp[HV,k3,k2]]at h;have k3':(k==3)=false:=by simpa using k3
   have k2':(k==2)=false:=by simpa using k2
   refine Ho 1000 (by simp only[go_sem,Hn,Jb,JG,tkC,e1,l0,l1,l2,k3',k2'];rfl) ?_;refine Hp ⟨_,by simp only[go_sem,Hn,Jb];rfl,?_⟩;exact h
end
section
open Go.AE Delphi
variable {tab:Tab}
def OZ (a b:Tk):Bool :=
 if a.k=3 then (if b.k=3 then decide (a.n<b.n)else true)else if b.k=3 then false else Ob a.s b.s
def Bc (a b:Tk):Bool:=(a.k==b.k)&&(eqL a.s b.s&&(a.n==b.n))
theorem Jqy (aw:AW)(l l':List V):∃w,(aw.fresh l).fresh l'=w∧CB w aw.next l∧CB w (aw.next+1) l'∧Frm (fun _=>False) aw w∧w.next=aw.next+2:=by
 have f1:=HJ (S:=fun _=>False) aw l;have f2:=HJ (S:=fun _=>False) (aw.fresh l) l';have n1:(aw.fresh l).next=aw.next+1:=rfl;refine⟨_,rfl,(Ph aw l).frm f2 (fun h=>h),?_,f1.tr f2,rfl⟩;have:=Ph (aw.fresh l) l'
 rwa [n1]at this
variable {K:V→AW→Prop}
theorem JkG (C:Codes tab){a b:Tk}{aw:AW}(h:∀w,Frm (fun _=>False) aw w→K (.bool (OZ a b)) w):WF tab Wm [.agg (tkC a),.agg (tkC b)] aw K:=by
 refine Hy C.YL rfl ?_;obtain⟨k,s,n⟩:=a;obtain⟨k',s',n'⟩:=b;obtain⟨w1,e1,c1,c2,r1,m1⟩:=Jqy aw [.int .i64 k,.str s,.int .i64 n] [.int .i64 k',.str s',.int .i64 n'];have l0:=CB.ld c1 0 1 _ rfl;have l1:=CB.ld c1 1 1 _ rfl;have l2:=CB.ld c1 2 1 _ rfl;have q0:=CB.ld c2 0 1 _ rfl;have q1:=CB.ld c2 1 1 _ rfl;have q2:=CB.ld c2 2 1 _ rfl;have h:=h w1 r1;have nn:∀l,(aw.fresh l).next=aw.next+1:=fun _=>rfl;by_cases h1:k=3
 ·subst h1;by_cases h2:k'=3
  ·subst h2;refine Ho 1000 (by simp only[go_sem,Hn,Jq,ZB,UW,tkC,nn,e1,l0,l1,l2,q0,q1,q2];rfl) ?_;refine Hp ⟨_,by simp only[go_sem,Hn,Jq];rfl,?_⟩;exact h
  ·have h2':(k'==3)=false:=by simpa using h2
   rw[show OZ ⟨3,s,n⟩ ⟨k',s',n'⟩=true by simp[OZ,h2]]at h;refine Ho 1000 (by simp only[go_sem,Hn,Jq,ZB,YK,tkC,nn,e1,l0,l1,l2,q0,q1,q2,h2'];rfl) ?_;refine Hp ⟨_,by simp only[go_sem,Hn,Jq];rfl,?_⟩;exact h
 ·have h1':(k==3)=false:=by simpa using h1
  by_cases h2:k'=3
  ·subst h2;rw[show OZ ⟨k,s,n⟩ ⟨3,s',n'⟩=false by simp[OZ,h1]]at h;refine Ho 1000 (by simp only[go_sem,Hn,Jq,ZB,YK,tkC,nn,e1,l0,l1,l2,q0,q1,q2,h1'];rfl) ?_;refine Hp ⟨_,by simp only[go_sem,Hn,Jq];rfl,?_⟩;exact h
  ·have h2':(k'==3)=false:=by simpa using h2
   rw[show OZ ⟨k,s,n⟩ ⟨k',s',n'⟩=Ob s s' by simp[OZ,h1,h2]]at h;refine Ho 1000 (by simp only[go_sem,Hn,Jq,ZB,YK,tkC,nn,e1,l0,l1,l2,q0,q1,q2,h1',h2',LX];rfl) ?_;refine Hp ⟨_,by simp only[go_sem,Hn,Jq];rfl,?_⟩;exact h
theorem Jo9 (C:Codes tab){a b:Tk}{aw:AW}(h:∀w,Frm (fun _=>False) aw w→K (.bool (Bc a b)) w):WF tab Wl [.agg (tkC a),.agg (tkC b)] aw K:=by
 refine Hy C.YJ rfl ?_;obtain⟨k,s,n⟩:=a;obtain⟨k',s',n'⟩:=b;obtain⟨w1,e1,c1,c2,r1,m1⟩:=Jqy aw [.int .i64 k,.str s,.int .i64 n] [.int .i64 k',.str s',.int .i64 n'];have l0:=CB.ld c1 0 3 _ rfl;have q0:=CB.ld c2 0 3 _ rfl;have h:=h w1 r1;have nn:∀l,(aw.fresh l).next=aw.next+1:=fun _=>rfl
 have he:P0 [.int,.str,.int] [.int .i64 k,.str s,.int .i64 n] [.int .i64 k',.str s',.int .i64 n']=some (Bc ⟨k,s,n⟩ ⟨k',s',n'⟩):=by
  simp only[P0,Ba,Bc,if_true];cases (k==k')<;>cases eqL s s'<;>cases (n==n')<;>rfl
 refine Ho 1000 (by simp only[go_sem,Hn,YI,tkC,nn,e1,l0,q0,he];rfl) ?_;refine Hp ⟨_,by simp only[go_sem,Hn,YI];rfl,?_⟩;simpa[H7]using h
end
section
open Go.AE Delphi
variable {tab:Tab}
end
end Go.Proofs.YtegdcbdicpfbpaaDoor.Val
namespace Go.Proofs.YtegdcbdicpfbpaaDoor
open Go.AE Delphi Val
variable {tab:Tab}
structure PgS (Tw:Fw) (w:AW) (bp:Nat) (ws:List Wd) (v:V) (k:Nat) (wh:Bool) (e:Nat):Prop where
 cb:CB w bp [v,.bool wh,.int .i64 (Fq e)]
 kle:k≤ws.length
 rd:(ws=[]∧v = .nilslice)∨∃b,v = .slice b (k*3) (ws.length-k) (.upTo 3)∧Rd Tw w (.slice b 0 ws.length (.upTo 3)) 3 ws.length (TE ws)
 no:¬Tw bp
 len:ws.length≤4000
variable {Tw:Fw} {w:AW} {bp k e:Nat} {ws:List Wd} {v:V} {wh:Bool}
theorem PgS.frm {S:Fw}{w':AW}(h:PgS Tw w bp ws v k wh e)(hf:Frm S w w')(hn:¬S bp)(hd:∀x,Tw x→¬S x):PgS Tw w' bp ws v k wh e:=by
 refine⟨h.cb.frm hf hn,h.kle,?_,h.no,h.len⟩;rcases h.rd with h1|⟨b,h1,h2⟩
 ·exact .inl h1
 ·exact .inr ⟨b,h1,h2.frm hf hd⟩
theorem PgS.inv (h:PgS Tw w bp ws v k wh e):lenV v=some (ws.length-k)∧v.one=true∧v.cells=[v]∧((ws=[]∧v = .nilslice)∨∃b,v = .slice b (k*3) (ws.length-k) (.upTo 3)∧ ∀i x,ws[k+i]? = some x→w.load b (k*3+i*3) 3=some (P4 x)):=by
 rcases h.rd with⟨rfl,rfl⟩|⟨b,rfl,h2⟩
 ·exact⟨by simp[lenV],rfl,rfl,.inl ⟨rfl,rfl⟩⟩
 ·refine⟨rfl,rfl,rfl,.inr ⟨b,rfl,fun i x hx=>?_⟩⟩;have hw:Wds Tw w bp (.slice b 0 ws.length (.upTo 3)) ws:=⟨h2,h.no,h.len⟩;rcases hw.at with⟨h1,_⟩|⟨b',o,c,h1,_,_,hat⟩
  ·cases h1
  ·cases h1;have:=(hat (k+i) x hx).2.2;rw[FU,Nat.add_mul]at this;exact this
theorem PgS.l0 (h:PgS Tw w bp ws v k wh e):w.load bp 0 1=some [v]:=CB.ld h.cb 0 1 _ rfl
theorem PgS.l1 (h:PgS Tw w bp ws v k wh e):w.load bp 1 1=some [.bool wh]:=CB.ld h.cb 1 1 _ rfl
theorem PgS.l2 (h:PgS Tw w bp ws v k wh e):w.load bp 2 1=some [.int .i64 (Fq e)]:=CB.ld h.cb 2 1 _ rfl
theorem PgS.take (h:PgS Tw w bp ws v k wh e)(hk:k<ws.length):∃b v' w',v = .slice b (k*3) (ws.length-k) (.upTo 3)∧w.sliceW 3 b (k*3) (ws.length-k) (.upTo 3) (some 1) none none=some v'∧w.store bp 0 [v']=some w'∧PgS Tw w' bp ws v' (k+1) wh e∧Frm (fun x=>x=bp) w w'∧v'.cells=[v']:=by
 rcases h.rd with⟨rfl,_⟩|⟨b,h1,h2⟩
 ·simp at hk
 have hf:=HN (w:=w) (b:=bp) (l:=[V.slice b ((k+1)*3) (ws.length-(k+1)) (.upTo 3),V.bool wh,.int .i64 (Fq e)]);refine⟨b,.slice b ((k+1)*3) (ws.length-(k+1)) (.upTo 3),w.put bp [.slice b ((k+1)*3) (ws.length-(k+1)) (.upTo 3),.bool wh,.int .i64 (Fq e)],h1,?_,h.cb.set (i:=0) Fj rfl,⟨H1 h.cb.lt,hk,.inr ⟨b,rfl,h2.frm hf fun x hx he=>h.no (he▸hx)⟩,h.no,h.len⟩,hf,rfl⟩
 have e1:OO 3 b (k*3) (ws.length-k) (.upTo 3) (some 1) none none=some (.slice b ((k+1)*3) (ws.length-(k+1)) (.upTo 3)):=by
  simp only[OO,Option.getD_none,Option.getD_some];rw[if_pos ⟨FH _,by omega,trivial⟩]
  congr 2
  omega
 simp only[AW.sliceW,e1]
section
open Go.AE Delphi Val
variable {tab:Tab}
end
section
open Go.AE Delphi Val
variable {tab:Tab}
end
section
open Go.AE Delphi Val
variable {tab:Tab}
end
section
open Go.AE Delphi Val
variable {tab:Tab}
end
section
open Go.AE Delphi Val
variable {tab:Tab}
structure SB (Tw:Fw) (a w:AW) (bp rb:Nat) (ws:List Wd) (wh:Bool) (hd:Lt) (hv:V) (body:List Lt) (k e:Nat) (v bv:V) (S T:Fw) (xss:List (List V)):Prop where
 p:PgS Tw w bp ws v k wh e
 frm:Frm (fun b=>b=bp) a w
 res:CB w a.next [.int .i64 0,.str [],.nilslice,.nilslice]
 rule:CB w rb [.int .i64 (Fq hd.kind),.str hd.name,hv,bv]
 head:Rd T w hv 3 hd.args.length (Pc hd.args)
 buf:Buf S w bv 3 body.length xss.flatten
 lits:All2 (LtC T w) body xss
 sepS:∀x,S x→a.next<x∧x<w.next∧x≠rb∧¬T x
 sepT:∀x,T x→a.next<x∧x<w.next∧x≠rb
 rbn:a.next<rb
theorem SB.step {a w':AW}{rb:Nat}{hd:Lt}{hv:V}{body:List Lt}{k' e':Nat}{v' bv:V}{S T:Fw}{xss:List (List V)}(h:SB Tw a w bp rb ws wh hd hv body k e v bv S T xss)(hb:bp<a.next)(hp:PgS Tw w' bp ws v' k' wh e')(g:Frm (fun b=>b=bp) w w'):SB Tw a w' bp rb ws wh hd hv body k' e' v' bv S T xss:=by
 have hr:=h.rbn;have n:=g.next;have nS:∀x,S x→¬x=bp:=fun x hx he=>by have:=(h.sepS x hx).1;omega
 have nT:∀x,T x→¬x=bp:=fun x hx he=>by have:=(h.sepT x hx).1;omega
 exact⟨hp,h.frm.tr g,h.res.frm g Fh,h.rule.frm g Fh,h.head.frm g nT,h.buf.frm g nS,h.lits.imp fun _ _ hl=>hl.frm g nT,fun x hx=>by obtain⟨a1,a2,a3⟩:=h.sepS x hx;exact⟨a1,by omega,a3⟩,fun x hx=>by obtain⟨a1,a2,a3⟩:=h.sepT x hx;exact⟨a1,by omega,a3⟩,hr⟩
end
section
open Go.AE Delphi Val
variable {tab:Tab}
structure SR (Tw:Fw) (a w:AW) (bp:Nat) (ws:List Wd) (wh:Bool) (rules:List Rl) (k e:Nat) (v rv:V) (S T:Fw) (xss:List (List V)):Prop where
 p:PgS Tw w bp ws v k wh e
 frm:Frm (fun b=>b=bp) a w
 buf:Buf S w rv 4 rules.length xss.flatten
 rls:All2 (RlC T w) rules xss
 sepS:∀x,S x→a.next≤x∧x<w.next∧¬T x
 sepT:∀x,T x→a.next≤x∧x<w.next
theorem SR.step {a w':AW}{rules:List Rl}{k' e':Nat}{v' rv:V}{S T:Fw}{xss:List (List V)}(h:SR Tw a w bp ws wh rules k e v rv S T xss)(hb:bp<a.next)(hp:PgS Tw w' bp ws v' k' wh e')(g:Frm (fun b=>b=bp) w w'):SR Tw a w' bp ws wh rules k' e' v' rv S T xss:=by
 have n:=g.next;have nS:∀x,S x→¬x=bp:=fun x hx he=>by have:=(h.sepS x hx).1;omega
 have nT:∀x,T x→¬x=bp:=fun x hx he=>by have:=(h.sepT x hx).1;omega
 exact⟨hp,h.frm.tr g,h.buf.frm g nS,h.rls.imp fun _ _ hl=>hl.frm g nT,fun x hx=>by obtain⟨a1,a2,a3⟩:=h.sepS x hx;exact⟨a1,by omega,a3⟩,fun x hx=>by obtain⟨a1,a2⟩:=h.sepT x hx;exact⟨a1,by omega⟩⟩
end
end Go.Proofs.YtegdcbdicpfbpaaDoor
namespace Go.Proofs.YtegdcbdicpfbpaaDoor.Val
open Go.AE Delphi
variable {tab:Tab}
structure St2 (aw:AW) (a b:Tk) (w:AW):Prop where
 a:CB w aw.next (tkC a)
 b:CB w (aw.next+1) (tkC b)
 frm:Frm (fun _=>False) aw w
variable {aw w:AW} {a b:Tk}
theorem St2.step {w':AW}(h:St2 aw a b w)(hf:Frm (fun _=>False) w w'):St2 aw a b w':=⟨h.a.frm hf fun h=>h,h.b.frm hf fun h=>h,h.frm.tr hf⟩
theorem St2.la (h:St2 aw a b w):w.load aw.next 0 3=some (tkC a):=CB.ld h.a 0 3 _ rfl
theorem St2.lb (h:St2 aw a b w):w.load (aw.next+1) 0 3=some (tkC b):=CB.ld h.b 0 3 _ rfl
theorem Bg (t:Tk):(tkC t).length=3:=rfl
theorem St2.set {a' b':Tk}(h:St2 aw a b w):∃w1 w2,w.store aw.next 0 (tkC a')=some w1∧w1.store (aw.next+1) 0 (tkC b')=some w2∧St2 aw a' b' w2:=by
 have s1:=h.a.setAll (vs:=tkC a') rfl rfl;have d1:CB _ aw.next _:=H1 (l:=tkC a') h.a.lt;have f1:=HN (w:=w) (b:=aw.next) (l:=tkC a');have d2:=h.b.frm f1 Fh;have s2:=d2.setAll (vs:=tkC b') rfl rfl;have f2:=HN (w:=w.put aw.next (tkC a')) (b:=aw.next+1) (l:=tkC b');refine⟨_,_,s1,s2,d1.frm f2 Fh,H1 d2.lt,?_⟩;refine (h.frm.trans f1 (fun _ _ h=>h) ?_).trans f2 (fun _ _ h=>h) ?_
 ·rintro x hx rfl;omega
 ·rintro x hx rfl;omega
theorem Q3:∀s:List Nat,eqL s s=true
 | []=>rfl
 | c::s=>by show (Nat.beq c c&&eqL s s)=true;rw[Q3 s,Nat.beq_refl];rfl
section
open Go.AE Delphi
variable {tab:Tab}
def prT (t:Tk):List Nat:=if t.k=3 then P7 t.n else t.s
structure TkPr (t:Tk):Prop where
 num:t.n.natAbs≤2147483648
 len:(prT t).length≤3000000000
def Oi (l:List Tk):List V:=l.flatMap tkC
theorem Jnr {T:Fw}{v:V}{l:List Tk}(h:Rd T w v 3 l.length (Oi l)){i:Nat}{t:Tk}(hi:l[i]? = some t):∃b o c,v = .slice b o l.length c∧T b∧b<w.next∧w.load b (o+i*3) 3=some (tkC t):=by
 have hlt:i<l.length:=(List.getElem?_eq_some_iff.1 hi).1;rcases h.inv with⟨_,q2,_⟩|⟨b,o,c,rfl,hB⟩
 ·omega
 ·refine⟨b,o,c,rfl,hB.own,hB.lt,?_⟩;rw[hB.load (i*3) 3 Fh];have h2:=Cx Bg (i:=i) (j:=0) (k:=3) hi Fh;rw[FU]at h2;exact congrArg some h2
end
end Go.Proofs.YtegdcbdicpfbpaaDoor.Val
namespace Delphi
end Delphi
namespace Go.Proofs.YtegdcbdicpfbpaaDoor
open Go.AE Delphi Val
variable {tab:Tab}
end Go.Proofs.YtegdcbdicpfbpaaDoor
namespace Delphi
def PI (out:Fx) (t:Tm):Fx:=if t.kind=1∧t.name∉out then out++[t.name]else out
def Pa (l:List Tm):Fx:=l.foldl PI []
theorem Jk2 (out:Fx)(t:Tm):(PI out t).length≤out.length+1:=by
 unfold PI;split<;>simp
theorem Il (l:List Tm):(Pa l).length≤l.length:=by
 have:∀(l:List Tm) (out:Fx),(l.foldl PI out).length≤out.length+l.length:=by
  intro l;induction l with
  | nil=>intro out;simp
  | cons t l ih =>
   intro out;rw[Kt,FC];have:=ih (PI out t);have:=Jk2 out t;omega
 simpa[Pa]using this l []
end Delphi
namespace Go.Proofs.YtegdcbdicpfbpaaDoor
open Go.AE Delphi
variable {tab:Tab}
variable {T:Fw} {w:AW} {v:V} {l:List Tm} {i:Nat}
theorem SQ (h:Rd T w v 3 l.length (Pc l)){t:Tm}(hi:l[i]? = some t):∃b o c,v = .slice b o l.length c∧T b∧b<w.next∧w.load b (o+i*3) 3=some (tmC t)∧w.load b (o+i*3) 1=some [.int .i64 (Fq t.kind)]∧w.load b (o+i*3+1) 1=some [.str t.name]:=by
 have hlt:i<l.length:=(List.getElem?_eq_some_iff.1 hi).1;rcases h.inv with⟨_,q2,_⟩|⟨b,o,c,rfl,hB⟩
 ·omega
 ·have part:∀j k,j+k≤3→w.load b (o+i*3+j) k=some (((tmC t).drop j).take k):=by
   intro j k hjk;rw[Ki,hB.load (i*3+j) k Fh];have h2:=Cx L9 (i:=i) (j:=j) (k:=k) hi hjk;rw[FU]at h2;exact congrArg some h2
  exact⟨b,o,c,rfl,hB.own,hB.lt,part 0 3 Fh,part 0 1 Fh,part 1 1 Fh⟩
theorem Sw {l:List Lt}(h:RdL (LtC T) T w v 3 l){t:Lt}(hi:l[i]? = some t):∃b o c u,v = .slice b o l.length c∧T b∧b<w.next∧w.load b (o+i*3) 3=some [.int .i64 (Fq t.kind),.str t.name,u]∧w.load b (o+i*3) 1=some [.int .i64 (Fq t.kind)]∧w.load b (o+i*3+1) 1=some [.str t.name]∧w.load b (o+i*3+2) 1=some [u]∧Rd T w u 3 t.args.length (Pc t.args):=by
 have hlt:i<l.length:=(List.getElem?_eq_some_iff.1 hi).1;rcases h.inv (fun a xs hx=>(LtC.one hx).1)with⟨_,q2⟩|⟨b,o,c,rfl,hT,hb,_,hat⟩
 ·rw[q2]at hlt;simp at hlt
 ·obtain⟨xs,⟨u,rfl,hu⟩,hp⟩:=hat i t hi;exact⟨b,o,c,u,rfl,hT,hb,hp 0 3 Fh,hp 0 1 Fh,hp 1 1 Fh,hp 2 1 Fh,hu⟩
theorem Jq0 {l:List Rl}(h:RdL (RlC T) T w v 4 l){r:Rl}(hi:l[i]? = some r):∃b o c xs,v = .slice b o l.length c∧T b∧b<w.next∧RlC T w r xs∧w.load b (o+i*4) 4=some xs∧∀j k,j+k≤4→w.load b (o+i*4+j) k=some ((xs.drop j).take k):=by
 have hlt:i<l.length:=(List.getElem?_eq_some_iff.1 hi).1;rcases h.inv (fun a xs hx=>(RlC.one hx).1)with⟨_,q2⟩|⟨b,o,c,rfl,hT,hb,_,hat⟩
 ·rw[q2]at hlt;simp at hlt
 ·obtain⟨xs,hx,hp⟩:=hat i r hi;have hl:=hx.one.1;have:=hp 0 4 Fh;rw[FY,FW Fh]at this;exact⟨b,o,c,xs,rfl,hT,hb,hx,this,hp⟩
theorem TC {α:Type}{r:AW→α→List V→Prop}{esz:Nat}{l:List α}(h:RdL r T w v esz l):lenV v=some l.length:=by
 obtain⟨xss,h1,_⟩:=h;exact h1.lenV
def HW (l:Fx):List V:=l.map V.str
theorem Jnm (l:Fx):(HW l).length=l.length:=by simp[HW]
abbrev SM:=MB (α:=List Nat) (β:=Int) V.str (V.int .i64)
def Seen (M:List (List Nat×Int)) (out:Fx) (i:Nat):Prop:=∀x,(Hr M x=none↔x∉out)∧∀c,Hr M x=some c→1≤c∧c≤i
def Jrz (T:Fw) (aw:AW) (lv:V) (l:List Tm) (q:Nat) (f:Fr) (w:AW):Prop :=
 ∃i bm M out ov S,f.get 3=some ov∧f.get 4=some (.map bm)∧f.get 8=some lv∧f.get 9=some (.int .i64 (Fq l.length))∧f.get 10=some (.int .i64 (Fq i))∧i≤l.length∧q=l.length-i∧
  SM w bm M∧aw.next≤bm∧Seen M out i∧Pa l=(l.drop i).foldl PI out∧out.length≤i∧Bt S w ov 1 out.length (HW out)∧(∀x,S x→aw.next≤x∧x<w.next∧x≠bm)∧Frm (fun _=>False) aw w
def JrA (aw:AW) (l:List Tm) (f:Fr) (w:AW):Prop:=∃ov S,f.get 3=some ov∧Bt S w ov 1 (Pa l).length (HW (Pa l))∧(∀x,S x→aw.next≤x∧x<w.next)∧Frm (fun _=>False) aw w
theorem Iw (C:Codes tab){aw:AW}{lv:V}{K:V→AW→Prop}(hl:Rd T aw lv 3 l.length (Pc l))(hn:l.length≤100000)(h:∀v w S,Bt S w v 1 (Pa l).length (HW (Pa l))→Frm (fun _=>False) aw w→(∀x,S x→aw.next≤x∧x<w.next)→K v w):WF tab J1 [lv] aw K:=by
 refine Hy C.Xh rfl ?_;have hlv:=hl.lenV;refine Ho 1000 (by simp only[go_sem,Hn,Xg,GJ,hlv];rfl) ?_;refine HT (Jrz T aw lv l) (JrA aw l) ?_ ?_ l.length ⟨0,aw.next,[],[],.nilslice,fun _=>False,(by simp only[go_sem,Hn]<;>rfl),(by simp only[go_sem,Hn]<;>rfl),(by simp only[go_sem,Hn]<;>rfl),(by simp only[go_sem,Hn]<;>rfl),(by simp only[go_sem,Hn]<;>rfl),by omega,by omega,MB.new aw,FH _,fun x=>⟨by simp[Hr],fun c hc=>by simp[Hr]at hc⟩,rfl,by simp,.nil,fun _ h=>h.elim,Te aw⟩
 ·rintro q f w ⟨i,bm,M,out,ov,S,f3,f4,f8,f9,f10,hi,rfl,hM,hbm,hseen,hfold,hol,hb,hS,hf⟩ ih exit;by_cases hlt:i<l.length
  case neg =>
   rw[List.drop_eq_nil_of_le (by omega:l.length≤i)]at hfold;have hfold:Pa l=out:=hfold;refine Hs 1000 (by simp only[go_sem,ZR,f9,f10,hlt];rfl) ?_;exact exit _ _ _ ⟨ov,S,(by simp only[go_sem,Hn,f3]<;>rfl),by rw[hfold];exact hb,fun x hx=>⟨(hS x hx).1,(hS x hx).2.1⟩,hf⟩ rfl
  obtain⟨t,ht⟩:∃t,l[i]? = some t:=⟨_,FB hlt⟩;obtain⟨b,o,c,rfl,hTb,hbl,a3,a1,a2⟩:=SQ (hl.frm hf fun _ _ h=>h) ht
  have hd:l.drop i=t::l.drop (i+1):=by
   rw[FL hlt];rw[FB hlt]at ht;rw[FX ht]
  rw[hd,Kt]at hfold;have hwr:KX .i64 (Fq i+1)=Fq (i+1):=Hv Fh;obtain⟨w2,s2,c2,r2,n2⟩:=PA w (zs:=[V.int .i64 0,V.str [],V.int .i64 0]) (vs:=tmC t) rfl rfl;have k0:w2.load w.next 0 1=some [.int .i64 (Fq t.kind)]:=by rw[c2.load];rfl
  have k1:w2.load w.next 1 1=some [.str t.name]:=by rw[c2.load];rfl
  have hM2:=hM.frm r2 fun h=>h;have hb2:=hb.frm r2 fun _ _ h=>h;have hf2:=hf.tr r2;have nw:=hf.next;by_cases hk:t.kind=1
  case neg =>
   have he:PI out t=out:=if_neg fun h=>hk h.1;rw[he]at hfold;refine Ho 1000 (by simp only[go_sem,Hn,ZR,Xf,f3,f4,f8,f9,f10,hlt,a3,s2,L9,k0,hk,hwr];rfl) ?_;exact ih _ _ _ Fh ⟨i+1,bm,M,out,ov,S,(by simp only[go_sem,Hn,f3]<;>rfl),(by simp only[go_sem,Hn,f4]<;>rfl),(by simp only[go_sem,Hn,f8]<;>rfl),(by simp only[go_sem,Hn,f9]<;>rfl),(by simp only[go_sem,Hn]<;>rfl),by omega,rfl,hM2,hbm,fun x=>⟨(hseen x).1,fun c hc=>by have:=(hseen x).2 c hc;omega⟩,hfold,by omega,hb2,fun x hx=>by have:=hS x hx;exact⟨this.1,by omega,this.2.2⟩,hf2⟩
  obtain⟨n,hn0,hn1,hgn⟩:∃n:Nat,n≤i∧(n=0↔t.name∉out)∧Tq (V.int .i64) (V.int .i64 0) (Hr M t.name)=(V.int .i64 (Fq n),decide (n≠0)):=by
   cases hg:Hr M t.name with
   | none=>exact⟨0,by omega,by simp[(hseen t.name).1.1 hg],rfl⟩
   | some c =>
    have hc:=(hseen t.name).2 c hg;have hin:¬t.name∉out:=fun h=>by have:=(hseen t.name).1.2 h;rw[this]at hg;cases hg
    refine⟨c.toNat,by omega,⟨fun h=>by omega,fun h=>absurd h hin⟩,?_⟩;have e1:Fq c.toNat=c:=by simp;omega
    have e2:decide (c.toNat≠0)=true:=decide_eq_true Fh;show (V.int .i64 c,true)=_;rw[e1,e2]
  have look:=hM2.look Px (.int .i64 0) t.name;rw[hgn]at look;obtain⟨w3,p3,hM3,r3,n3⟩:=hM2.put Px t.name (Fq (n+1));have hw3:KX .i64 (Fq n+1)=Fq (n+1):=Hv Fh;have k3:w3.load w.next 1 1=some [.str t.name]:=by rw[(c2.frm r3 (by have:=hM.lt;omega)).load];rfl
  have look3:=hM3.look Px (.int .i64 0) t.name;rw[HD]at look3;simp only[Tq]at look3;have hb3:=hb2.frm r3 fun x hx he=>(hS x hx).2.2 he;have hf3:Frm (fun _=>False) aw w3:=hf2.trans r3 (fun _ _ h=>h) (by rintro x hx rfl;omega)
  have seen3:∀out',(∀x,x∈out'↔x∈out∨x=t.name)→Seen (Pe M t.name (Fq (n+1))) out' (i+1):=by
   intro out' ho x;by_cases hx:x=t.name
   ·subst hx;rw[HD];refine⟨⟨fun h=>(by cases h),fun h=>absurd ((ho t.name).2 (.inr rfl)) h⟩,fun c hc=>?_⟩;cases hc;constructor
    ·show (1:Int)≤((n+1:Nat):Int);omega
    ·show ((n+1:Nat):Int)≤_;omega
   ·rw[HX _ _ _ _ hx];refine⟨?_,fun c hc=>by have:=(hseen x).2 c hc;omega⟩;rw[(hseen x).1,ho x];simp[hx]
  by_cases hn:n=0
  ·have hno:=hn1.1 hn;have he:PI out t=out++[t.name]:=if_pos ⟨hk,hno⟩;rw[he]at hfold;subst hn;have hS3:∀b,S b→b<w3.next:=fun b hb=>by have:=(hS b hb).2;omega
   obtain⟨v',w5,S5,u1,u2,u3,u4⟩:=hb3.push (news:=[V.str t.name]) (bytes:=16) hS3 Fh rfl rfl Fh Fh;have b4:=Pl (w:=w3) (esz:=1) (n:=1) (cs:=[V.str t.name]) (c:=.known 1) Fh rfl;have hov:over [V.str []] 0 [V.str t.name]=some [V.str t.name]:=rfl;refine Ho 1000 (by simp only[go_sem,Hn,ZR,Xf,Vn,Vl,GH,f3,f4,f8,f9,f10,hlt,a3,s2,L9,k0,k1,k3,hk,hwr,look,hw3,p3,look3,Hw,HF,hov,u1,b4,FC,FD];rfl) ?_;refine ih _ _ _ Fh ⟨i+1,bm,_,out++[t.name],v',S5,(by simp only[go_sem,Hn]<;>rfl),(by simp only[go_sem,Hn,f4]<;>rfl),(by simp only[go_sem,Hn,f8]<;>rfl),(by simp only[go_sem,Hn,f9]<;>rfl),(by simp only[go_sem,Hn]<;>rfl),by omega,rfl,hM3.frm u3 fun h=>(hS _ h).2.2 rfl,hbm,seen3 _ Fj,hfold,by simp;omega,?_,fun x hx=>?_,hf3.trans u3 (fun _ _ h=>h) fun x hx h=>by have:=(hS x h).1;omega⟩
   ·rw[FE,Ka];have:HW (out++[t.name])=HW out++[V.str t.name]:=by simp[HW]
    rw[this];exact u2
   ·obtain⟨m1,m2⟩:=u4 x hx;have:=hM.lt;rcases m2 with m2|m2
    ·exact⟨(hS x m2).1,m1,(hS x m2).2.2⟩
    ·exact⟨by omega,m1,by omega⟩
  ·have hin:t.name∈out:=Classical.byContradiction fun h=>hn (hn1.2 h);have he:PI out t=out:=if_neg fun h=>h.2 hin;rw[he]at hfold;have hne:¬n+1=1:=Fh;refine Ho 1000 (by simp only[go_sem,Hn,ZR,Xf,Vn,Vl,f3,f4,f8,f9,f10,hlt,a3,s2,L9,k0,k1,k3,hk,hwr,look,hw3,p3,look3,hne];rfl) ?_;exact ih _ _ _ Fh ⟨i+1,bm,_,out,ov,S,(by simp only[go_sem,Hn,f3]<;>rfl),(by simp only[go_sem,Hn,f4]<;>rfl),(by simp only[go_sem,Hn,f8]<;>rfl),(by simp only[go_sem,Hn,f9]<;>rfl),(by simp only[go_sem,Hn]<;>rfl),by omega,rfl,hM3,hbm,seen3 _ (fun x=>⟨.inl,fun h=>h.elim id fun h=>h▸hin⟩),hfold,by omega,hb3,fun x hx=>by have:=hS x hx;exact⟨this.1,by omega,this.2.2⟩,hf3⟩
 ·rintro f w ⟨ov,S,f3,hb,hS,hf⟩;refine Ho 1000 (by simp only[go_sem,Hn,f3];rfl) ?_;refine Hp ⟨_,by simp only[go_sem,Hn,Xg];rfl,?_⟩;exact h ov w S hb hf hS
section
open Go.AE Delphi Val
variable {tab:Tab}
def Hz (t:Tm):Tk:=⟨Fq t.kind,t.name,t.num⟩
theorem Jns (t:Tm):tmC t=tkC (Hz t):=rfl
theorem Jqb (l:List Tm):Pc l=Oi (l.map Hz):=by
 unfold Pc Oi;rw[List.flatMap_map];rfl
def FtC (T:Fw) (w:AW) (f:List Nat×List Tm) (xs:List V):Prop:=∃v,xs=[.str f.1,v]∧Rd T w v 3 f.2.length (Pc f.2)
variable {f:List Nat×List Tm} {xs:List V}
theorem FtC.frm {S:Fw}{w':AW}(h:FtC T w f xs)(hf:Frm S w w')(hd:∀x,T x→¬S x):FtC T w' f xs:=by
 obtain⟨v,h1,h2⟩:=h;exact⟨v,h1,h2.frm hf hd⟩
theorem FtC.one (h:FtC T w f xs):xs.length=2∧HB xs=true:=by
 obtain⟨v,rfl,h2⟩:=h;refine⟨rfl,?_⟩;rcases h2.inv with⟨rfl,_⟩|⟨_,_,_,rfl,_⟩<;>rfl
end
end Go.Proofs.YtegdcbdicpfbpaaDoor
namespace Delphi
def Lv (r:Rl):Fx:=r.body.foldl (fun acc l=>if l.kind=1 then acc else acc++Pa l.args) (Pa r.head.args)
def OM (r:Rl):Fx:=r.body.foldl (fun acc l=>if l.kind=1 then acc++Pa l.args else acc) []
def LF (r:Rl):Bool:=(Lv r).all fun v=>decide (v∈OM r)
structure RBd (r:Rl):Prop where
 head:r.head.args.length≤1000
 body:r.body.length≤1000
 args:∀l∈r.body,l.args.length≤1000
end Delphi
namespace Go.Proofs.YtegdcbdicpfbpaaDoor
open Go.AE Delphi
variable {tab:Tab}
variable {M:List (List Nat×Int)} {i:Nat}
theorem Cu {out:Fx}(h:Seen M out i)(k:List Nat):∃n:Nat,n≤i∧(n=0↔k∉out)∧Tq (V.int .i64) (V.int .i64 0) (Hr M k)=(V.int .i64 (Fq n),decide (n≠0)):=by
 cases hg:Hr M k with
 | none=>exact⟨0,by omega,by simp[(h k).1.1 hg],rfl⟩
 | some c =>
  have hc:=(h k).2 c hg;have hin:¬k∉out:=fun hh=>by have:=(h k).1.2 hh;rw[this]at hg;cases hg
  refine⟨c.toNat,by omega,⟨fun h=>by omega,fun h=>absurd h hin⟩,?_⟩;have e1:Fq c.toNat=c:=by simp;omega
  have e2:decide (c.toNat≠0)=true:=decide_eq_true Fh;show (V.int .i64 c,true)=_;rw[e1,e2]
theorem EE {out out':Fx}{n:Nat}{k:List Nat}(h:Seen M out i)(hn:n≤i)(ho:∀x,x∈out'↔x∈out∨x=k):Seen (Pe M k (Fq (n+1))) out' (i+1):=by
 intro x;by_cases hx:x=k
 ·subst hx;rw[HD];refine⟨⟨fun h=>(by cases h),fun h=>absurd ((ho x).2 (.inr rfl)) h⟩,fun c hc=>?_⟩;cases hc;constructor
  ·show (1:Int)≤((n+1:Nat):Int);omega
  ·show ((n+1:Nat):Int)≤_;omega
 ·rw[HX _ _ _ _ hx];refine⟨?_,fun c hc=>by have:=(h x).2 c hc;omega⟩;rw[(h x).1,ho x];simp[hx]
theorem JkY {T:Fw}{w:AW}{v:V}{l:Fx}(h:Rd T w v 1 l.length (HW l)){s:List Nat}(hi:l[i]? = some s):∃b o c,v = .slice b o l.length c∧T b∧b<w.next∧w.load b (o+i*1) 1=some [.str s]:=by
 have hlt:i<l.length:=(List.getElem?_eq_some_iff.1 hi).1;rcases h.inv with⟨_,q2,_⟩|⟨b,o,c,rfl,hB⟩
 ·omega
 ·refine⟨b,o,c,rfl,hB.own,hB.lt,hB.cell Fh ?_⟩;simp only[HW,F6,KA,hi,Option.map_some]
def MU (a:AW) (bm:Nat) (lv:V) (vs bnd:Fx) (N:Nat) (f0:Fr) (q:Nat) (f:Fr) (w:AW):Prop :=
 ∃j M bnd',f.get 3=some (.map bm)∧f.get 33=some lv∧f.get 34=some (.int .i64 (Fq vs.length))∧f.get 35=some (.int .i64 (Fq j))∧(∀y,y=1∨y=2∨y=4∨y=17∨y=18∨y=19→f.get y=f0.get y)∧j≤vs.length∧q=vs.length-j∧
  SM w bm M∧Seen M bnd' (N+j)∧(∀x,x∈bnd'↔x∈bnd∨x∈vs.take j)∧Frm (fun b=>b=bm) a w∧w.next=a.next
def Jqk (a:AW) (bm:Nat) (vs bnd:Fx) (N:Nat) (f0:Fr) (f:Fr) (w:AW):Prop :=
 ∃M bnd',f.get 3=some (.map bm)∧(∀y,y=1∨y=2∨y=4∨y=17∨y=18∨y=19→f.get y=f0.get y)∧SM w bm M∧Seen M bnd' (N+vs.length)∧(∀x,x∈bnd'↔x∈bnd∨x∈vs)∧Frm (fun b=>b=bm) a w∧w.next=a.next
theorem JnU {T:Fw}{a w:AW}{bm:Nat}{lv:V}{vs bnd:Fx}{N:Nat}{f0 f:Fr}{q:Nat}{s:List SI}{Q:Fr→AW→Prop}(hl:Rd T a lv 1 vs.length (HW vs))(hT:∀x,T x→x≠bm)(hN:N+vs.length≤1000000000)(hI:MU a bm lv vs bnd N f0 q f w)(ih:∀n' f' w',n'<q→MU a bm lv vs bnd N f0 n' f' w'→WS tab (.code (.loop Zi) :: .endB 2::s) f' w' Q)(out:∀s' f' w',Jqk a bm vs bnd N f0 f' w'→Lu 2 s'=some s→WS tab (.code (.exit 2)::s') f' w' Q):WS tab (.code Zi :: .code (.loop Zi) :: .endB 2::s) f w Q:=by
 obtain⟨j,M,bnd',f3,f33,f34,f35,hold,hj,rfl,hM,hseen,hbnd,hf,hn⟩:=hI;by_cases hlt:j<vs.length
 case neg =>
  have:j=vs.length:=Fh;subst this;rw[List.take_length]at hbnd;refine Hs 1000 (by simp only[go_sem,Zi,f34,f35,hlt];rfl) ?_;refine out _ _ _ ⟨M,bnd',(by simp only[go_sem,Hn,f3]<;>rfl),?_,hM,hseen,hbnd,hf,hn⟩ rfl;rintro y hy;rw[←hold y hy];rcases hy with rfl|rfl|rfl|rfl|rfl|rfl<;>exact (by simp only[go_sem,Hn]<;>rfl)
 obtain⟨v,hv⟩:∃v,vs[j]? = some v:=⟨_,FB hlt⟩;obtain⟨b,o,c,rfl,hTb,hbl,a1⟩:=JkY (hl.frm hf fun x hx he=>hT x hx he) hv;obtain⟨n,hn0,hn1,hgn⟩:=Cu hseen v;have look:=hM.look Px (.int .i64 0) v;rw[hgn]at look;obtain⟨w3,p3,hM3,r3,n3⟩:=hM.put Px v (Fq (n+1));have hw3:KX .i64 (Fq n+1)=Fq (n+1):=Hv Fh;have hwr:KX .i64 (Fq j+1)=Fq (j+1):=Hv Fh;refine Ho 1000 (by simp only[go_sem,Hn,Zi,Gw,Gv,f3,f33,f34,f35,hlt,a1,look,hw3,p3,hwr];rfl) ?_;refine ih _ _ _ Fh ⟨j+1,_,v::bnd',(by simp only[go_sem,Hn,f3]<;>rfl),(by simp only[go_sem,Hn,f33]<;>rfl),(by simp only[go_sem,Hn,f34]<;>rfl),(by simp only[go_sem,Hn]<;>rfl),?_,by omega,rfl,hM3,EE hseen hn0 (by intro x;simp[or_comm]),fun x=>?_,hf.tr r3,n3.trans hn⟩
 ·rintro y hy;rw[←hold y hy];rcases hy with rfl|rfl|rfl|rfl|rfl|rfl<;>exact (by simp only[go_sem,Hn]<;>rfl)
 ·have ht:vs.take (j+1)=vs.take j++[v]:=by
   rw[List.take_add_one,hv];rfl
  rw[FJ,hbnd,ht,F9,Kn];constructor
  ·rintro (h|h|h)
   ·exact .inr (.inr h)
   ·exact .inl h
   ·exact .inr (.inl h)
  ·rintro (h|h|h)
   ·exact .inr (.inl h)
   ·exact .inr (.inr h)
   ·exact .inl h
end Go.Proofs.YtegdcbdicpfbpaaDoor
namespace Delphi
def PO (acc:Fx) (l:Lt):Fx:=if l.kind=1 then acc else acc++Pa l.args
def Sa (acc:Fx) (l:Lt):Fx:=if l.kind=1 then acc++Pa l.args else acc
theorem Jju (r:Rl):Lv r=r.body.foldl PO (Pa r.head.args):=rfl
theorem Jm8 (r:Rl):OM r=r.body.foldl Sa []:=rfl
end Delphi
namespace Go.Proofs.YtegdcbdicpfbpaaDoor
open Go.AE Delphi
variable {tab:Tab}
structure SF (f:Fr) (n1 bm:Nat) (nv uv:V) (n i:Nat):Prop where
 f1:f.get 1=some (.ptr n1 0)
 f3:f.get 3=some (.map bm)
 f4:f.get 4=some nv
 f17:f.get 17=some uv
 f18:f.get 18=some (.int .i64 (Fq n))
 f19:f.get 19=some (.int .i64 (Fq i))
structure SW (aw w:AW) (bm:Nat) (M:List (List Nat×Int)) (bnd bl:Fx) (N:Nat) (nv:V) (nd:Fx) (S:Fw):Prop where
 mp:SM w bm M
 seen:Seen M bnd N
 same:∀x,x∈bnd↔x∈bl
 need:Bt S w nv 1 nd.length (HW nd)
 frm:Frm (fun _=>False) aw w
 hbm:aw.next≤bm
 sep:∀x,S x→aw.next≤x∧x<w.next∧x≠bm
def MM (aw:AW) (n1 bm:Nat) (uv:V) (r:Rl) (q:Nat) (f:Fr) (w:AW):Prop :=
 ∃i M bnd bl N nv nd S,SF f n1 bm nv uv r.body.length i∧SW aw w bm M bnd bl N nv nd S∧i≤r.body.length∧q=r.body.length-i∧Lv r=(r.body.drop i).foldl PO nd∧OM r=(r.body.drop i).foldl Sa bl∧N≤1000*i∧nd.length≤1000*(i+1)
def Jqp (aw:AW) (bm:Nat) (r:Rl) (f:Fr) (w:AW):Prop :=
 ∃M bnd N nv S,f.get 3=some (.map bm)∧f.get 4=some nv∧SW aw w bm M bnd (OM r) N nv (Lv r) S∧N≤1000000
theorem Jnl (a b:Fx):HW (a++b)=HW a++HW b:=by simp[HW]
theorem Jnn (a:Fx):HB (HW a)=true:=by rw[Sl];intro v hv;simp only[HW,Kc]at hv;obtain⟨x,_,rfl⟩:=hv;rfl
theorem Jng (C:Codes tab){T:Fw}{aw w:AW}{n1 bm:Nat}{uv:V}{r:Rl}{q:Nat}{f:Fr}{s:List SI}{Q:Fr→AW→Prop}(hu:RdL (LtC T) T aw uv 3 r.body)(hbd:RBd r)(hI:MM aw n1 bm uv r q f w)(ih:∀n' f' w',n'<q→MM aw n1 bm uv r n' f' w'→WS tab (.code (.loop JU) :: .endB 0::s) f' w' Q)(out:∀s' f' w',Jqp aw bm r f' w'→Lu 0 s'=some s→WS tab (.code (.exit 0)::s') f' w' Q):WS tab (.code JU :: .code (.loop JU) :: .endB 0::s) f w Q:=by
 obtain⟨i,M,bnd,bl,N,nv,nd,S,⟨f1,f3,f4,f17,f18,f19⟩,hA,hi,rfl,hnd,hbl,hN,hndl⟩:=hI;by_cases hlt:i<r.body.length
 case neg =>
  rw[List.drop_eq_nil_of_le (by omega:r.body.length≤i)]at hnd hbl;have hnd:Lv r=nd:=hnd;have hbl:OM r=bl:=hbl;refine Hs 1000 (by simp only[go_sem,JU,f18,f19,hlt];rfl) ?_;exact out _ _ _ ⟨M,bnd,N,nv,S,(by simp only[go_sem,Hn,f3]<;>rfl),(by simp only[go_sem,Hn,f4]<;>rfl),by rw[hnd,hbl];exact hA,by have:=hbd.body;have:N≤1000*1000:=Kj hN (Nat.mul_le_mul_left _ Fh);omega⟩ rfl
 obtain⟨t,ht⟩:∃t,r.body[i]? = some t:=⟨_,FB hlt⟩
 have hd:r.body.drop i=t::r.body.drop (i+1):=by
  rw[FL hlt];rw[FB hlt]at ht;rw[FX ht]
 have hargs:=hbd.args t (FI ht);rw[hd,Kt]at hnd hbl;have hwr:KX .i64 (Fq i+1)=Fq (i+1):=Hv (by have:=hbd.body;omega);obtain⟨b,o,c,u,rfl,hTb,hbb,a3,a0,_,_,hru⟩:=Sw (hu.frm (fun _ _ h=>h.frm hA.frm fun _ _ h=>h) hA.frm fun _ _ h=>h) ht;have hone:HB [V.int .i64 (Fq t.kind),.str t.name,u]=true:=by rcases hru.inv with⟨rfl,_⟩|⟨_,_,_,rfl,_⟩<;>rfl
 obtain⟨w2,s2,c2,r2,n2⟩:=PA w (zs:=[V.int .i64 0,V.str [],V.nilslice]) (vs:=[V.int .i64 (Fq t.kind),.str t.name,u]) rfl hone;have k0:w2.load w.next 0 1=some [.int .i64 (Fq t.kind)]:=by rw[c2.load];rfl
 have k2:w2.load w.next 2 1=some [u]:=by rw[c2.load];rfl
 have nw:=hA.frm.next;have hvl:=Il t.args;by_cases hk:t.kind=1
 case neg =>
  have e1:PO nd t=nd++Pa t.args:=if_neg hk;have e2:Sa bl t=bl:=if_neg hk;rw[e1]at hnd;rw[e2]at hbl;refine Ho 1000 (by simp only[go_sem,Hn,JU,Vb,Gu,f4,f17,f18,f19,hlt,a3,s2,k0,k2,hk,FC,FD];rfl) ?_;refine Hq (by simp only[go_sem,Hn]) (by simp only[go_sem,Hn];rfl) ?_;refine Iw C (hru.frm r2 fun _ _ h=>h) Fh fun v w3 S3 q1 q2 q3=>?_;have r3:=r2.tr q2;have need3:=hA.need.frm r3 fun _ _ h=>h;have hel:=q1.rd.elems;obtain⟨v',w4,S4,u1,u2,u3,u4⟩:=need3.addN (news:=HW (Pa t.args)) (k:=(Pa t.args).length) (bytes:=16) Fh (by rw[Jnm];omega) (Jnn _) (by have:=hbd.body;omega) (by have:=hbd.body;omega);have hM3:=(hA.mp.frm r3 fun h=>h).frm u3 fun h=>(hA.sep _ h).2.2 rfl;have n3:=r3.next;refine Ho 1000 (by simp only[go_sem,Hn,f1,f3,f4,f17,f18,f19,hel,u1,hwr];rfl) ?_;refine ih _ _ _ Fh ⟨i+1,M,bnd,bl,N,v',nd++Pa t.args,S4,⟨(by simp only[go_sem,Hn,f1]<;>rfl),(by simp only[go_sem,Hn,f3]<;>rfl),(by simp only[go_sem,Hn]<;>rfl),(by simp only[go_sem,Hn,f17]<;>rfl),(by simp only[go_sem,Hn,f18]<;>rfl),(by simp only[go_sem,Hn]<;>rfl)⟩,⟨hM3,hA.seen,hA.same,by rw[FE,Jnl];exact u2,(hA.frm.tr r3).trans u3 (fun _ _ h=>h) (fun x hx h=>by have:=(hA.sep x h).1;omega),hA.hbm,fun x hx=>?_⟩,by omega,rfl,hnd,hbl,by omega,by rw[FE];omega⟩;obtain⟨m1,m2⟩:=u4 x hx;have:=hA.mp.lt;rcases m2 with m2|m2
  ·exact⟨(hA.sep x m2).1,m1,(hA.sep x m2).2.2⟩
  ·exact⟨by omega,m1,by omega⟩
 ·have e1:PO nd t=nd:=if_pos hk;have e2:Sa bl t=bl++Pa t.args:=if_pos hk;rw[e1]at hnd;rw[e2]at hbl;rw[hk]at a3 s2 k0;refine Ho 1000 (by simp only[go_sem,Hn,JU,Vb,Gx,f17,f18,f19,hlt,a3,s2,k0,k2,FC,FD];rfl) ?_;refine Hq (by simp only[go_sem,Hn]) (by simp only[go_sem,Hn];rfl) ?_;refine Iw C (hru.frm r2 fun _ _ h=>h) Fh fun v w3 S3 q1 q2 q3=>?_;have r3:=r2.tr q2;have n3:=r3.next;have hlv:=q1.lenV;have hM3:=hA.mp.frm r3 fun h=>h;have hbmw:=hA.mp.lt;refine Ho 1000 (by simp only[go_sem,Hn,hlv];rfl) ?_
  refine HT (MU w3 bm v (Pa t.args) bnd N f) (Jqk w3 bm (Pa t.args) bnd N f) (fun n f w hI ih out=>JnU q1.rd (fun x hx he=>by have:=(q3 x hx).1;omega) (by have:=hbd.body;omega) hI ih out) ?_ (Pa t.args).length
   ⟨0,M,bnd,(by simp only[go_sem,Hn,f3]<;>rfl),(by simp only[go_sem,Hn]<;>rfl),(by simp only[go_sem,Hn]<;>rfl),(by simp only[go_sem,Hn]<;>rfl),?_,by omega,rfl,hM3,hA.seen,by simp,Frm.refl _,rfl⟩
  ·rintro f' w4 ⟨M',bnd',g3,hold,hM4,hs4,hb4,hf4,hn4⟩;have g1:=(hold 1 Fj).trans f1;have g4:=(hold 4 Fj).trans f4;have g17:=(hold 17 Fj).trans f17;have g18:=(hold 18 Fj).trans f18;have g19:=(hold 19 Fj).trans f19;refine Ho 1000 (by simp only[go_sem,Hn,g19,hwr];rfl) ?_;exact ih _ _ _ Fh ⟨i+1,M',bnd',bl++Pa t.args,N+(Pa t.args).length,nv,nd,S,⟨(by simp only[go_sem,Hn,g1]<;>rfl),(by simp only[go_sem,Hn,g3]<;>rfl),(by simp only[go_sem,Hn,g4]<;>rfl),(by simp only[go_sem,Hn,g17]<;>rfl),(by simp only[go_sem,Hn,g18]<;>rfl),(by simp only[go_sem,Hn]<;>rfl)⟩,⟨hM4,hs4,fun x=>by rw[hb4,hA.same,F9],(hA.need.frm r3 fun _ _ h=>h).frm hf4 fun x hx he=>(hA.sep x hx).2.2 he,(hA.frm.tr r3).trans hf4 (fun _ _ h=>h) (by rintro x hx rfl;have:=hA.hbm;omega),hA.hbm,fun x hx=>by have:=hA.sep x hx;exact⟨this.1,by omega,this.2.2⟩⟩,by omega,rfl,hnd,hbl,by omega,by omega⟩
  ·rintro y hy;rcases hy with rfl|rfl|rfl|rfl|rfl|rfl<;>exact (by simp only[go_sem,Hn]<;>rfl)
def NdI (aw:AW) (bm:Nat) (nv:V) (nd bl:Fx) (w0:AW) (q:Nat) (f:Fr) (w:AW):Prop :=
 ∃j,f.get 3=some (.map bm)∧f.get 45=some nv∧f.get 46=some (.int .i64 (Fq nd.length))∧f.get 47=some (.int .i64 (Fq j))∧j≤nd.length∧q=nd.length-j∧(∀x∈nd.take j,x∈bl)∧w=w0
theorem Jp5 (C:Codes tab){T:Fw}{aw:AW}{xs:List V}{r:Rl}{K:V→AW→Prop}(hr:RlC T aw r xs)(hbd:RBd r)(h:∀w,Frm (fun _=>False) aw w→K (.bool (LF r)) w):WF tab VV [.agg xs] aw K:=by
 refine Hy C.Xa rfl ?_;have hone:=hr.one;obtain⟨v,u,rfl,hv,hu⟩:=hr;have cb:=Ph aw [V.int .i64 (Fq r.head.kind),.str r.head.name,v,u];have ff:=HJ (S:=fun _=>False) aw [V.int .i64 (Fq r.head.kind),.str r.head.name,v,u];generalize hw1:aw.fresh [V.int .i64 (Fq r.head.kind),.str r.head.name,v,u]=w1 at cb ff;have n1:w1.next=aw.next+1:=by rw[←hw1];rfl
 have fm:=Te (S:=fun _=>False) w1;have cb2:=cb.frm fm fun h=>h;have l2:(w1.new (.map [] 0)).load aw.next 2 1=some [v]:=by rw[cb2.load];rfl
 have f02:=ff.tr fm;refine Ho 1000 (by simp only[go_sem,Hn,ZO,GA,hw1,l2];rfl) ?_;refine Hq (by simp only[go_sem,Hn]) (by simp only[go_sem,Hn];rfl) ?_;refine Iw C (hv.frm f02 fun _ _ h=>h) (by have:=hbd.head;omega) fun nv w3 S3 q1 q2 q3=>?_;have cb3:=cb2.frm q2 fun h=>h;have l3:w3.load aw.next 3 1=some [u]:=by rw[cb3.load];rfl
 have f03:=f02.tr q2;have hlv:=TC hu;have nn:(w1.new (.map [] 0)).next=w1.next+1:=rfl;have hvl:=Il r.head.args;have hM:SM w3 w1.next ([]:List (List Nat×Int)):=(MB.new w1).frm q2 fun h=>h;refine Ho 1000 (by simp only[go_sem,Hn,Gz,l3,hlv];rfl) ?_
 refine HT (MM aw aw.next w1.next u r) (Jqp aw w1.next r) (fun n f w hI ih out=>Jng C hu hbd hI ih out) ?_ r.body.length
  ⟨0,[],[],[],0,nv,Pa r.head.args,S3,⟨(by simp only[go_sem,Hn]<;>rfl),(by simp only[go_sem,Hn]<;>rfl),(by simp only[go_sem,Hn]<;>rfl),(by simp only[go_sem,Hn]<;>rfl),(by simp only[go_sem,Hn]<;>rfl),(by simp only[go_sem,Hn]<;>rfl)⟩,⟨hM,fun x=>⟨by simp[Hr],fun c hc=>by simp[Hr]at hc⟩,fun x=>Iff.rfl,q1,f03,by omega,fun x hx=>by have:=q3 x hx;exact⟨by omega,by omega,by omega⟩⟩,by omega,rfl,rfl,rfl,by omega,by have:=hbd.head;omega⟩
 rintro f w ⟨M,bnd,N,nv',S,f3,f4,hA,hN⟩;have hln:=hA.need.lenV;refine Ho 1000 (by simp only[go_sem,Hn,f4,hln];rfl) ?_;refine HT (NdI aw w1.next nv' (Lv r) (OM r) w) (fun f' w'=>w'=w∧∀x∈Lv r,x∈OM r) ?_ ?_ (Lv r).length ⟨0,(by simp only[go_sem,Hn,f3]<;>rfl),(by simp only[go_sem,Hn]<;>rfl),(by simp only[go_sem,Hn]<;>rfl),(by simp only[go_sem,Hn]<;>rfl),by omega,rfl,by simp,rfl⟩
 ·rintro q f w' ⟨j,f3,f45,f46,f47,hj,rfl,hall,rfl⟩ ih exit;by_cases hlt:j<(Lv r).length
  case neg =>
   rw[FW Fh]at hall;refine Hs 1000 (by simp only[go_sem,Y9,f46,f47,hlt];rfl) ?_;exact exit _ _ _ ⟨rfl,hall⟩ rfl
  obtain⟨x,hx⟩:∃v,(Lv r)[j]? = some v:=⟨_,FB hlt⟩;obtain⟨b,o,c,rfl,_,hbl,a1⟩:=JkY hA.need.rd hx;obtain⟨n,hn0,hn1,hgn⟩:=Cu hA.seen x;have look:=hA.mp.look Px (.int .i64 0) x;rw[hgn]at look
  have hwr:KX .i64 (Fq j+1)=Fq (j+1):=by
   have:(Lv r).length<9223372036854775807:=by
    have:=hA.need.rd;rcases hA.need.rd.inv with⟨h1,_⟩|⟨b',o',c',h1,hB⟩
    ·cases h1
    ·have h3:∀(l:List Lt) (acc:Fx),(∀l'∈l,l'.args.length≤1000)→(l.foldl PO acc).length≤acc.length+1000*l.length:=by
      intro l;induction l with
      | nil=>intro acc _;simp
      | cons t l ih =>
       intro acc hl;have h4:=ih (PO acc t) fun l' hl'=>hl l' (by simp[hl'])
       have h5:(PO acc t).length≤acc.length+1000:=by
        unfold PO;split
        ·omega
        ·have:=Il t.args;have:=hl t Fj;rw[FE];omega
       rw[Kt,FC];omega
     have h4:=h3 r.body (Pa r.head.args) hbd.args;rw[←Jju]at h4;have:=hbd.head;have:=hbd.body;omega
   exact Hv Fh
  by_cases hz:n=0
  ·have hno:x∉OM r:=fun h=>hn1.1 hz ((hA.same x).2 h)
   have hs:LF r=false:=by
    unfold LF;rw[List.all_eq_false];exact⟨x,FI hx,by simpa using hno⟩
   subst hz;refine Ho 1000 (by simp only[go_sem,Hn,Y9,Vd,Vc,Gy,f3,f45,f46,f47,hlt,a1,look];rfl) ?_;refine Hp ⟨_,by simp only[go_sem,Hn,ZO];rfl,?_⟩;have:=h w' hA.frm;rw[hs]at this;exact this
  ·refine Ho 1000 (by simp only[go_sem,Hn,Y9,Vd,Vc,f3,f45,f46,f47,hlt,a1,look,hz,hwr];rfl) ?_;refine ih _ _ _ Fh ⟨j+1,(by simp only[go_sem,Hn,f3]<;>rfl),(by simp only[go_sem,Hn,f45]<;>rfl),(by simp only[go_sem,Hn,f46]<;>rfl),(by simp only[go_sem,Hn]<;>rfl),by omega,rfl,fun y hy=>?_,rfl⟩;have ht:(Lv r).take (j+1)=(Lv r).take j++[x]:=by rw[List.take_add_one,hx];rfl
   rw[ht,F9,Kn]at hy;rcases hy with hy|rfl
   ·exact hall y hy
   ·exact (hA.same y).1 (Classical.byContradiction fun hc=>hz (hn1.2 hc))
 ·rintro f w' ⟨rfl,hall⟩
  have hs:LF r=true:=by
   unfold LF;rw[List.all_eq_true];intro x hx;simpa using hall x hx
  refine Ho 1000 (by simp only[go_sem,Hn];rfl) ?_;refine Hp ⟨_,by simp only[go_sem,Hn,ZO];rfl,?_⟩;have:=h w' hA.frm;rw[hs]at this;exact this
end Go.Proofs.YtegdcbdicpfbpaaDoor
namespace Delphi
variable {v:List Nat}
theorem CE {l:List Tm}:v∈Pa l↔∃t∈l,t.kind=1∧t.name=v:=by
 have:∀(l:List Tm) (out:Fx),v∈l.foldl PI out↔v∈out∨∃t∈l,t.kind=1∧t.name=v:=by
  intro l;induction l with
  | nil=>intro out;simp
  | cons t l ih =>
   intro out;rw[Kt,ih]
   have h:v∈PI out t↔v∈out∨(t.kind=1∧t.name=v):=by
    unfold PI;split
    ·rename_i hc;rw[F9,Kn];exact⟨fun h=>h.imp (fun h=>h) fun h=>⟨hc.1,h.symm⟩,fun h=>h.imp (fun h=>h) fun h=>h.2.symm⟩
    ·rename_i hc;refine⟨.inl,fun h=>h.elim (fun h=>h) ?_⟩;rintro⟨h1,rfl⟩;exact Classical.byContradiction fun hn=>hc ⟨h1,hn⟩
   rw[h];simp only[FJ,exists_eq_or_imp,or_assoc]
 simpa[Pa]using this l []
theorem Jjf {v:List Nat}:∀(l:List Lt) (acc:Fx),v∈l.foldl Sa acc↔v∈acc∨∃x∈l,x.kind=1∧∃t∈x.args,t.kind=1∧t.name=v
 | [],acc=>by simp
 | x::l,acc=>by
  rw[Kt,Jjf l]
  have h:v∈Sa acc x↔v∈acc∨(x.kind=1∧∃t∈x.args,t.kind=1∧t.name=v):=by
   unfold Sa;split
   ·rename_i hc;rw[F9,CE];exact⟨fun h=>h.imp (fun h=>h) fun h=>⟨hc,h⟩,fun h=>h.imp (fun h=>h) fun h=>h.2⟩
   ·rename_i hc;exact⟨.inl,fun h=>h.elim (fun h=>h) fun h=>absurd h.1 hc⟩
  rw[h];simp only[FJ,exists_eq_or_imp,or_assoc]
theorem R7 {v:List Nat}:∀(l:List Lt) (acc:Fx),v∈l.foldl PO acc↔v∈acc∨∃x∈l,x.kind≠1∧∃t∈x.args,t.kind=1∧t.name=v
 | [],acc=>by simp
 | x::l,acc=>by
  rw[Kt,R7 l]
  have h:v∈PO acc x↔v∈acc∨(x.kind≠1∧∃t∈x.args,t.kind=1∧t.name=v):=by
   unfold PO;split
   ·rename_i hc;exact⟨.inl,fun h=>h.elim (fun h=>h) fun h=>absurd hc h.1⟩
   ·rename_i hc;rw[F9,CE];exact⟨fun h=>h.imp (fun h=>h) fun h=>⟨hc,h⟩,fun h=>h.imp (fun h=>h) fun h=>h.2⟩
  rw[h];simp only[FJ,exists_eq_or_imp,or_assoc]
theorem mem_rBound {r:Rl}:v∈OM r↔∃x∈r.body,x.kind=1∧∃t∈x.args,t.kind=1∧t.name=v:=by
 rw[Jm8,Jjf];simp
theorem mem_rNeed {r:Rl}:v∈Lv r↔(∃t∈r.head.args,t.kind=1∧t.name=v)∨∃x∈r.body,x.kind≠1∧∃t∈x.args,t.kind=1∧t.name=v:=by
 rw[Jju,R7,CE]
end Delphi
namespace Go.Proofs.YtegdcbdicpfbpaaDoor
open Go.AE Delphi
variable {tab:Tab}
theorem JjH {α:Type}{l:List α}{i:Nat}{x:α}(h:l[i]? = some x):l.take (i+1)=l.take i++[x]:=by rw[List.take_add_one,h];rfl
section
open Go.AE Delphi
variable {tab:Tab}
def SY (r:Rl):List Lt:=r.head::r.body
end
end Go.Proofs.YtegdcbdicpfbpaaDoor
namespace Delphi
open Go.AE
structure Fa where
 name:List Nat
 args:List (Int×List Nat×Int×Unit)
abbrev Ps:=List (List Nat×Int)
end Delphi
namespace Go.Proofs.YtegdcbdicpfbpaaDoor
open Go.AE Delphi
variable {tab:Tab}
def FaC (T:Fw) (w:AW) (f:Fa) (xs:List V):Prop:=∃v,xs=[.str f.name,v]∧∃cs,Rd T w v 3 f.args.length cs
variable {xs:List V}
theorem FaC.frm {T S:Fw}{w w':AW}{l:Fa}(h:FaC T w l xs)(hf:Frm S w w')(hd:∀x,T x→¬S x):FaC T w' l xs:=by
 obtain⟨v,h1,cs,h2⟩:=h;exact⟨v,h1,cs,h2.frm hf hd⟩
theorem FaC.one {T:Fw}{w:AW}{l:Fa}(h:FaC T w l xs):xs.length=2∧HB xs=true:=by
 obtain⟨v,rfl,cs,h2⟩:=h;refine⟨rfl,?_⟩;rcases h2.inv with⟨rfl,_⟩|⟨_,_,_,rfl,_⟩<;>rfl
end Go.Proofs.YtegdcbdicpfbpaaDoor
namespace Delphi
def st0:Ps×Bool:=([],true)
end Delphi
namespace Go.Proofs.YtegdcbdicpfbpaaDoor
open Go.AE Delphi
variable {tab:Tab}
theorem Al.cut {T:Fw}{w:AW}{b:Nat}{sh:Share}(h:Al T w b sh):Al (fun x=>T x∧x<w.next) w b sh:=by
 rcases h with rfl|rfl|rfl|⟨f,F,rfl,h1,h2,h3⟩
 ·exact .inl rfl
 ·exact .inr (.inl rfl)
 ·exact .inr (.inr (.inl rfl))
 ·exact .inr (.inr (.inr ⟨f,F,rfl,⟨h1,h2⟩,h2,h3⟩))
theorem Rd.cut {T:Fw}{w:AW}{v:V}{esz n:Nat}{cs:List V}(h:Rd T w v esz n cs):Rd (fun x=>T x∧x<w.next) w v esz n cs:=by
 cases h with
 | nil=>exact .nil
 | blk hT hb hx ha hl hcs hc=>exact .blk ⟨hT,hb⟩ hb hx (Al.cut ha) hl hcs hc
end Go.Proofs.YtegdcbdicpfbpaaDoor
namespace Delphi
open Go.AE
theorem aget_app:∀(L:Ps) (k:List Nat) (M:Ps),Hr (L++M) k=(match Hr L k with|some v=>some v|none=>Hr M k)
 | [],k,M=>rfl
 | (a,b)::L,k,M=>by
  by_cases hk:k=a
  ·simp[Hr,hk]
  ·simp only[List.cons_append,Hr,if_neg hk,aget_app L k M]
end Delphi
namespace Go.Proofs.YtegdcbdicpfbpaaDoor
open Go.AE Delphi
variable {tab:Tab}
def JrC (L:Ps):List V:=L.map fun p=>V.str p.1
def JrD (L:Ps):List V:=L.map fun p=>V.int .i64 p.2
structure NW (aw w:AW) (nv wv:V) (L:Ps) (S1 S2:Fw):Prop where
 a:Bt S1 w nv 1 L.length (JrC L)
 b:Bt S2 w wv 1 L.length (JrD L)
 s1:∀x,S1 x→aw.next≤x∧x<w.next∧¬S2 x
 s2:∀x,S2 x→aw.next≤x∧x<w.next
 frm:Frm (fun _=>False) aw w
theorem NW.ext {aw w w2:AW}{nv wv:V}{L:Ps}{S1 S2:Fw}(h:NW aw w nv wv L S1 S2)(hf:Frm (fun _=>False) w w2):NW aw w2 nv wv L S1 S2:=
 ⟨h.a.frm hf fun _ _ h=>h,h.b.frm hf fun _ _ h=>h,fun x hx=>by have h1:=h.s1 x hx;have:=hf.next;exact⟨by omega,by omega,h1.2.2⟩,fun x hx=>by have h1:=h.s2 x hx;have:=hf.next;exact⟨by omega,by omega⟩,h.frm.tr hf⟩
section
open Go.AE Delphi
variable {tab:Tab}
structure LV (T:Fw) (aw w:AW) (lv:V) (r:Rl) (S1 S2 Tl:Fw):Prop where
 rd:∃xss,Rd Tl w lv 3 (SY r).length xss.flatten∧All2 (LtC T aw) (SY r) xss
 sep:∀x,Tl x→x<w.next∧¬S1 x∧¬S2 x
theorem LV.at {T:Fw}{aw w:AW}{lv:V}{r:Rl}{S1 S2 Tl:Fw}(h:LV T aw w lv r S1 S2 Tl){i:Nat}{x:Lt}(hx:(SY r)[i]? = some x):∃b o c u,lv = .slice b o (SY r).length c∧w.load b (o+i*3) 1=some [.int .i64 (Fq x.kind)]∧w.load b (o+i*3+1) 1=some [.str x.name]∧w.load b (o+i*3+2) 1=some [u]∧lenV u=some x.args.length:=by
 obtain⟨xss,h1,h2⟩:=h.rd;have hlt:i<(SY r).length:=(List.getElem?_eq_some_iff.1 hx).1;have h3:RdL (fun _=>LtC T aw) Tl w lv 3 (SY r):=⟨xss,h1,h2⟩;rcases h3.inv (fun a xs hx=>(LtC.one hx).1)with⟨_,q2⟩|⟨b,o,c,rfl,_,_,_,hat⟩
 ·rw[q2]at hlt;simp at hlt
 ·obtain⟨xs,⟨u,rfl,hu⟩,hp⟩:=hat i x hx;exact⟨b,o,c,u,rfl,hp 0 1 Fh,hp 1 1 Fh,hp 2 1 Fh,hu.lenV⟩
end
section
open Go.AE Delphi
variable {tab:Tab}
end
end Go.Proofs.YtegdcbdicpfbpaaDoor
namespace Delphi
def JnQ (rules:List Rl) (nm:List Nat):Prop:=∃r∈rules,r.head.name=nm
instance (rules:List Rl) (nm:List Nat):Decidable (JnQ rules nm):=List.decidableBEx _ rules
end Delphi
namespace Go.Proofs.YtegdcbdicpfbpaaDoor
open Go.AE Delphi
variable {tab:Tab}
end Go.Proofs.YtegdcbdicpfbpaaDoor
namespace Delphi
structure RBr (r:Rl):Prop where
 head:r.head.args.length≤5
 body:r.body.length≤7
 args:∀l∈r.body,l.args.length≤5
theorem RBr.big {r:Rl}(h:RBr r):RBd r:=⟨by have:=h.head;omega,by have:=h.body;omega,fun l hl=>by have:=h.args l hl;omega⟩
end Delphi
namespace Go.Proofs.YtegdcbdicpfbpaaDoor
open Go.AE Delphi
variable {tab:Tab}
variable {s:List Nat} {K:V→AW→Prop}
theorem JpQ (C:Codes tab){n:Nat}{aw:AW}(h:K (.str (s.take n)) aw):WF tab VI [.str s,.int .i64 (Fq n)] aw K:=by
 refine Hy C.YA rfl ?_;by_cases hl:n<s.length
 ·have h1:n≤s.length:=Fh;refine Ho 1000 (by simp only[go_sem,Hn,J7,hl,h1,Nat.zero_le,FY,Nat.sub_zero];rfl) ?_;refine Hp ⟨_,by simp only[go_sem,Hn,J7];rfl,?_⟩;exact h
 ·refine Ho 1000 (by simp only[go_sem,Hn,J7,hl];rfl) ?_;refine Hp ⟨_,by simp only[go_sem,Hn,J7];rfl,?_⟩;rw[FW Fh]at h;exact h
theorem RZ (C:Codes tab){aw:AW}(hb:∀x∈s,x<256)(h:∀w v T rs,rs=(OE (s.take 1200)).1→RdL (RlC T) T w v 4 rs→Frm (fun _=>False) aw w→(∀x,T x→aw.next≤x∧x<w.next)→K v w):WF tab Wf [.str s] aw K:=by
 refine Hy C.Yn rfl ?_;refine Ho 1000 (by simp only[go_sem,Hn,Ym,Uq];rfl) ?_;refine Hq (by simp only[go_sem,Hn]) (by simp only[go_sem,Hn];rfl) ?_;refine JpQ C (n:=1200) ?_;refine Ho 1000 (by simp only[go_sem,Hn];rfl) ?_;refine Hq (by simp only[go_sem,Hn]) (by simp only[go_sem,Hn];rfl) ?_;refine Jke C (by rw[FT];omega) (fun x hx=>hb x (List.mem_of_mem_take hx)) fun w v T h1 h2 h3=>?_;refine Ho 1000 (by simp only[go_sem,Hn];rfl) ?_;refine Hp ⟨_,by simp only[go_sem,Hn,Ym];rfl,?_⟩;exact h w v T _ rfl h1 h2 h3
section
open Go.AE Delphi Val
variable {tab:Tab}
theorem Dr {T:Fw}{w:AW}{v:V}{l:List Lt}(h:RdL (LtC T) T w v 3 l){i:Nat}{t:Lt}(hi:l[i]? = some t):∃b o c xs,v = .slice b o l.length c∧w.load b (o+i*3) 3=some xs∧LtC T w t xs:=by
 have hlt:i<l.length:=(List.getElem?_eq_some_iff.1 hi).1;obtain⟨xss,h1,h2⟩:=h;obtain⟨xs,h3,h4⟩:=Dk (sz:=3) (fun a xs h=>h.one.1) h2 hi;rcases h1.inv with⟨_,q2,_⟩|⟨b,o,c,rfl,hB⟩
 ·omega
 ·refine⟨b,o,c,xs,rfl,?_,h3⟩;rw[hB.load (i*3) 3 Fh];exact congrArg some h4
end
section
open Go.AE Delphi Val
variable {tab:Tab}
end
section
open Go.AE Delphi Val
variable {tab:Tab}
abbrev Fc:=List Nat×List Tk
def FcC (T:Fw) (w:AW) (f:Fc) (xs:List V):Prop:=∃v,xs=[.str f.1,v]∧Rd T w v 3 f.2.length (Oi f.2)
variable {T:Fw} {w:AW} {xs:List V}
theorem FcC.frm {S:Fw}{w':AW}{f:Fc}(h:FcC T w f xs)(hf:Frm S w w')(hd:∀x,T x→¬S x):FcC T w' f xs:=by
 obtain⟨v,h1,h2⟩:=h;exact⟨v,h1,h2.frm hf hd⟩
theorem FcC.one {f:Fc}(h:FcC T w f xs):xs.length=2∧HB xs=true:=by
 obtain⟨v,rfl,h2⟩:=h;refine⟨rfl,?_⟩;rcases h2.inv with⟨rfl,_⟩|⟨_,_,_,rfl,_⟩<;>rfl
abbrev Fcs (T:Fw) (w:AW) (v:V) (l:List Fc):Prop:=RdL (FcC T) T w v 2 l
variable {v:V} {l:List Fc}
theorem Fcs.frm {S:Fw}{w':AW}(h:Fcs T w v l)(hf:Frm S w w')(hd:∀x,T x→¬S x):Fcs T w' v l:=RdL.frm h (fun _ _ h=>h.frm hf hd) hf hd
theorem Fcs.lenV (h:Fcs T w v l):lenV v=some l.length:=by obtain⟨_,h,_⟩:=h;exact h.lenV
theorem Dm (h:Fcs T w v l){i:Nat}{t:Fc}(hi:l[i]? = some t):∃b o c xv,v = .slice b o l.length c∧T b∧b<w.next∧w.load b (o+i*2) 2=some [.str t.1,xv]∧w.load b (o+i*2) 1=some [.str t.1]∧w.load b (o+i*2+1) 1=some [xv]∧Rd T w xv 3 t.2.length (Oi t.2):=by
 have hlt:i<l.length:=(List.getElem?_eq_some_iff.1 hi).1;rcases RdL.inv h (fun a xs h=>h.one.1)with⟨_,rfl⟩|⟨b,o,c,rfl,h1,h2,_,hat⟩
 ·simp at hlt
 ·obtain⟨xs,hx,hl⟩:=hat i t hi;obtain⟨xv,rfl,hx⟩:=hx;exact⟨b,o,c,xv,rfl,h1,h2,hl 0 2 Fh,hl 0 1 Fh,hl 1 1 Fh,hx⟩
end
section
open Go.AE Delphi Val
variable {tab:Tab}
abbrev Bn:=List Nat×Tk
def bnC (b:Bn):List V:=.str b.1::tkC b.2
def I5 (l:List Bn):List V:=l.flatMap bnC
def OX (k:Nat) (a b:Tk):Bool:=if k=3 then Bc a b else if k=4 then !Bc a b else if k=5 then OZ a b else !OZ b a
end
section
open Go.AE Delphi Val
variable {tab:Tab}
end
section
open Go.AE Delphi Val
variable {tab:Tab}
theorem Fcs.mono {T T':Fw}{w:AW}{v:V}{l:List Fc}(h:Fcs T w v l)(ht:∀x,T x→T' x):Fcs T' w v l:=by
 obtain⟨xss,h1,h2⟩:=h;refine⟨xss,h1.mono ht,All2.imp (fun a xs h=>?_) h2⟩;obtain⟨xv,q1,q2⟩:=h;exact⟨xv,q1,q2.mono ht⟩
theorem D6 {α β:Type}{r q:α→β→Prop}{l:List α}{m:List β}(h:All2 r l m)(hq:∀a b,r a b→q a b):All2 q l m:=All2.imp hq h
end
section
open Go.AE Delphi Val
variable {tab:Tab}
end
section
open Go.AE Delphi Val
variable {tab:Tab}
structure WysB (N:Nat) (w:AW) (v:V) (ways:List (List Bn)) (S T:Fw) (cs:List V):Prop where
 b:Buf S w v 1 ways.length cs
 len:cs.length=ways.length
 at':∀(i:Nat) x bs,cs[i]? = some x→ways[i]? = some bs→Rd T w x 4 bs.length (I5 bs)
 s:∀x,S x→N≤x∧x<w.next
 t:∀x,T x→N≤x∧x<w.next∧¬S x
def Wys (N:Nat) (w:AW) (v:V) (ways:List (List Bn)):Prop:=∃S T cs,WysB N w v ways S T cs
variable {N:Nat} {w:AW} {v:V} {ways:List (List Bn)}
theorem Wys.frm {w':AW}(h:Wys N w v ways)(g:Frm (fun _=>False) w w'):Wys N w' v ways:=by
 obtain⟨S,T,cs,h⟩:=h;have n:=g.next;exact⟨S,T,cs,h.b.frm g fun _ _ h=>h,h.len,fun i x bs h1 h2=>(h.at' i x bs h1 h2).frm g fun _ _ h=>h,fun x hx=>⟨(h.s x hx).1,by have:=(h.s x hx).2;omega⟩,fun x hx=>⟨(h.t x hx).1,by have:=(h.t x hx).2.1;omega,(h.t x hx).2.2⟩⟩
theorem Wys.lenV (h:Wys N w v ways):lenV v=some ways.length:=by
 obtain⟨S,T,cs,h⟩:=h;exact h.b.lenV
theorem Wys.nil:Wys N w .nilslice []:=⟨fun _=>False,fun _=>False,[],.nil,rfl,fun i x bs h=>by simp at h,fun _ h=>h.elim,fun _ h=>h.elim⟩
variable {bs:List Bn}
theorem Wys.at (h:Wys N w v ways){i:Nat}(hi:ways[i]? = some bs):∃b o c bv T,v = .slice b o ways.length c∧w.load b (o+i*1) 1=some [bv]∧Rd T w bv 4 bs.length (I5 bs):=by
 obtain⟨S,T,cs,h⟩:=h;have hlt:i<ways.length:=(List.getElem?_eq_some_iff.1 hi).1;have hlc:i<cs.length:=by rw[h.len];exact hlt
 have hb:=h.b;rcases hb.inv with⟨_,h0,_⟩|⟨b,rfl,_⟩
 ·omega
 ·exact⟨b,0,_,cs[i],T,rfl,hb.load1 (FB hlc),h.at' i _ _ (FB hlc) hi⟩
theorem JqY {T:Fw}{esz n:Nat}{cs:List V}(h:Rd T w v esz n cs):v.one=true∧v.cells=[v]:=by
 rcases h.inv with⟨rfl,_⟩|⟨_,_,_,rfl,_⟩<;>exact⟨rfl,rfl⟩
theorem Wys.push {wa:AW}{bv:V}{Tb:Fw}(h:Wys N wa v ways)(g:Frm (fun _=>False) wa w)(hb:Rd Tb w bv 4 bs.length (I5 bs))(hT:∀x,Tb x→wa.next≤x∧x<w.next)(hN:N≤wa.next)(hl:ways.length≤1000000): ∃v' w',(w.fresh [bv]).appendV 1 24 v 1 [bv]=some (v',w')∧Wys N w' v' (ways++[bs])∧Frm (fun x=>N≤x) w w':=by
 obtain⟨S,T,cs,h⟩:=h;have n:=g.next;obtain⟨v',w',S',q1,q2,q3,q4⟩:=(h.b.frm g fun _ _ h=>h).push (news:=[bv]) (bytes:=24) (fun x hx=>by have:=(h.s x hx).2;omega) Fh rfl (by simp only[HB,(JqY hb).1]) Fh Fh;have n':=q3.next;have hS':∀x,S' x→S x∨w.next≤x:=fun x hx=>(q4 x hx).2;refine⟨v',w',q1,⟨S',fun x=>T x∨Tb x,cs++[bv],by rw[FE];exact q2,by rw[FE,FE,h.len];rfl,?_,fun x hx=>?_,fun x hx=>?_⟩,q3.mono fun x _ hx=>(h.s x hx).1⟩
 ·intro i x bs' h1 h2;by_cases hi:i<cs.length
  ·rw[F4 hi]at h1;rw[F4 (by rw[←h.len];exact hi)]at h2;exact (((h.at' i x bs' h1 h2).frm g fun _ _ h=>h).frm q3 fun y hy hs=>(h.t y hy).2.2 hs).mono fun y hy=> .inl hy
  ·have hic:i=cs.length:=by
    have:=(List.getElem?_eq_some_iff.1 h1).1;rw[FE]at this;simp at this;omega
   subst hic;rw[F3 (FH _),Nat.sub_self]at h1;rw[h.len,F3 (FH _),Nat.sub_self]at h2;simp only[Ke,FP]at h1 h2;subst h1 h2;exact (hb.frm q3 fun y hy hs=>by have:=(h.s y hs).2;have:=(hT y hy).1;omega).mono fun y hy=> .inr hy
 ·refine⟨?_,(q4 x hx).1⟩;rcases hS' x hx with h1|h1
  ·exact (h.s x h1).1
  ·omega
 ·rcases hx with hx|hx
  ·refine⟨(h.t x hx).1,by have:=(h.t x hx).2.1;omega,fun hs=>?_⟩;rcases hS' x hs with h1|h1
   ·exact (h.t x hx).2.2 h1
   ·have:=(h.t x hx).2.1;omega
  ·refine⟨by have:=(hT x hx).1;omega,by have:=(hT x hx).2;omega,fun hs=>?_⟩;rcases hS' x hs with h1|h1
   ·have:=(h.s x h1).2;have:=(hT x hx).1;omega
   ·have:=(hT x hx).2;omega
theorem PF {α:Type}{l:List α}{i:Nat}{t:α}(h:l[i]? = some t):l.take (i+1)=l.take i++[t]:=by rw[List.take_add_one,h];rfl
end
section
open Go.AE Delphi Val
variable {tab:Tab}
def WysR (w:AW) (v:V) (ways:List (List Bn)):Prop:=∃T cs,Rd T w v 1 ways.length cs∧(cs.length=ways.length)∧∀(i:Nat) x bs,cs[i]? = some x→ways[i]? = some bs→Rd T w x 4 bs.length (I5 bs)
variable {w:AW} {v:V} {ways:List (List Bn)}
theorem Wys.r {N:Nat}(h:Wys N w v ways):WysR w v ways:=by
 obtain⟨S,T,cs,h⟩:=h;exact⟨fun x=>S x∨T x,cs,h.b.rd.mono fun x hx=> .inl hx,h.len,fun i x bs h1 h2=>(h.at' i x bs h1 h2).mono fun y hy=> .inr hy⟩
theorem WysR.frm {w':AW}(h:WysR w v ways)(g:Frm (fun _=>False) w w'):WysR w' v ways:=by
 obtain⟨T,cs,h1,h2,h3⟩:=h;exact⟨T,cs,h1.frm g fun _ _ h=>h,h2,fun i x bs q1 q2=>(h3 i x bs q1 q2).frm g fun _ _ h=>h⟩
theorem WysR.lenV (h:WysR w v ways):lenV v=some ways.length:=by
 obtain⟨T,cs,h,_⟩:=h;exact h.lenV
theorem WysR.at (h:WysR w v ways){i:Nat}{bs:List Bn}(hi:ways[i]? = some bs):∃b o c bv T,v = .slice b o ways.length c∧w.load b (o+i*1) 1=some [bv]∧Rd T w bv 4 bs.length (I5 bs):=by
 obtain⟨T,cs,h1,h2,h3⟩:=h;have hlt:i<ways.length:=(List.getElem?_eq_some_iff.1 hi).1;have hlc:i<cs.length:=by rw[h2];exact hlt
 rcases h1.inv with⟨_,h0,_⟩|⟨b,o,c,rfl,hB⟩
 ·omega
 ·refine⟨b,o,c,cs[i],T,rfl,?_,h3 i _ _ (FB hlc) hi⟩;rw[KA];exact hB.cell Fh (FB hlc)
end
section
open Go.AE Delphi Val
variable {tab:Tab}
end
end Go.Proofs.YtegdcbdicpfbpaaDoor
