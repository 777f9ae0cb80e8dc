/- A part of the proof. -/
import Derived.Test.YtegdcbdicpfbpaaDoorJhJ
import Derived.Test.YtegdcbdicpfbpaaDoorJhI
import Derived.Test.YtegdcbdicpfbpaaDoorJhH
import Derived.Test.YtegdcbdicpfbpaaDoorJhK
set_option linter.unusedVariables false
set_option linter.unusedSectionVars false
set_option linter.unusedSimpArgs false
namespace Go.AE
variable [Globs]
theorem JbQ {b:Nat}:(V.map b).cells=[.map b]:=rfl
theorem JhL:V.nilmap.cells=[.nilmap]:=rfl
theorem Jkf {f:Fn}{a c:List V}:(V.func f a c).cells=[.func f a c]:=rfl
variable {v:V}
theorem JiZ {t:Nat}:(V.iface t v).cells=[.iface t v]:=rfl
theorem Jgn:V.niliface.cells=[.niliface]:=rfl
attribute [go_sem] JbQ JhL Jkf JiZ Jgn
section
variable {α β:Type} [DecidableEq α]
def HE:List (α×β)→α→Option β
 | [],_=>none
 | (a,b)::l,k=>if k=a then some b else HE l k
def Pj:List (α×β)→α→β→List (α×β)
 | [],k,v=>[(k,v)]
 | (a,b)::l,k,v=>if k=a then (a,v)::l else (a,b)::Pj l k v
theorem HT:∀(l:List (α×β)) (k:α) (v:β),HE (Pj l k v) k=some v
 | [],k,v=>by simp[Pj,HE]
 | (a,b)::l,k,v=>by
  by_cases h:k=a
  ·simp[Pj,HE,h]
  ·simp only[Pj,if_neg h,HE];exact HT l k v
theorem Pi:∀(l:List (α×β)) (k k':α) (v:β),k'≠k→HE (Pj l k v) k'=HE l k'
 | [],k,k',v,h=>by simp[Pj,HE,h]
 | (a,b)::l,k,k',v,h=>by
  by_cases hk:k=a
  ·subst hk;simp[Pj,HE,h]
  ·simp only[Pj,if_neg hk,HE,Pi l k k' v h]
structure KeyE (t:KeyTy) (ke:α→V):Prop where
 eq:∀a b,JcI t (ke a) (ke b)=some (decide (a=b))
 ok:∀a,JbF t (ke a)=true
def Jhx (ke:α→V) (ve:β→V) (p:α×β) (e:V×V×Nat):Prop:=e.1=ke p.1∧e.2.1=ve p.2
structure MB (ke:α→V) (ve:β→V) (w:AW) (b:Nat) (M:List (α×β)):Prop where
 lt:b<w.next
 get:∃es ck,w.heap.get b=some (.map es ck)∧All2 (Jhx ke ve) M es
variable {ke:α→V} {ve:β→V} {t:KeyTy}
def JeK (ve:β→V) (zero:V):Option β→V×Bool
 | some v=>(ve v,true)
 | none=>(zero,false)
variable {w:AW} {b:Nat} {M:List (α×β)}
theorem MB.frm {S:Fw}{w':AW}(h:MB ke ve w b M)(hf:Frm S w w')(hn:¬S b):MB ke ve w' b M:=by
 obtain⟨es,ck,h1,h2⟩:=h.get;exact⟨FK h.lt hf.next,es,ck,(hf.heap b h.lt hn).trans h1,h2⟩
theorem JeD (hk:KeyE t ke){k:α}:∀{M:List (α×β)} {es:List (V×V×Nat)} (i:Nat),All2 (Jhx ke ve) M es→ (HE M k=none→PX t (ke k) es i=some none)∧∀v,HE M k=some v→∃j n,PX t (ke k) es i=some (some (i+j,ve v,n))∧∀v',All2 (Jhx ke ve) (Pj M k v') (JcD j (ke k) (ve v') es)
 | [],_,i,.nil=>⟨fun _=>rfl,fun v h=>by simp[HE]at h⟩
 | (a,b)::M,(x,y,n)::es,i,.cons h1 h2=>by
  obtain⟨q1,q2⟩:=h1;simp only at q1 q2;subst q1;subst q2;by_cases h:k=a
  ·subst h;refine⟨fun hn=>by simp[HE]at hn,fun v hv=>?_⟩;simp only[HE,if_true,FP]at hv;subst hv;refine⟨0,n,by simp only[PX,hk.eq,decide_true,KC],fun v'=>?_⟩;simp only[Pj,if_true,JcD,Ke,List.set_cons_zero];exact .cons ⟨rfl,rfl⟩ h2
  ·obtain⟨r1,r2⟩:=JeD hk (k:=k) (i+1) h2;refine⟨fun hn=>?_,fun v hv=>?_⟩
   ·simp only[HE,if_neg h]at hn;simp only[PX,hk.eq,decide_eq_false h];exact r1 hn
   ·simp only[HE,if_neg h]at hv;obtain⟨j,m,s1,s2⟩:=r2 v hv;refine⟨j+1,m,?_,fun v'=>?_⟩
    ·simp only[PX,hk.eq,decide_eq_false h];rw[s1];congr 3;omega
    ·have:=s2 v';simp only[Pj,if_neg h]
     have e:JcD (j+1) (ke k) (ve v') ((ke a,ve b,n)::es)=(ke a,ve b,n)::JcD j (ke k) (ve v') es:=by
      simp only[JcD,Kg];split<;>simp
     rw[e];exact .cons ⟨rfl,rfl⟩ this
theorem MB.look (hk:KeyE t ke)(h:MB ke ve w b M)(zero:V)(k:α):w.lookV t zero (.map b) (ke k)=some (JeK ve zero (HE M k)):=by
 obtain⟨es,ck,h1,h2⟩:=h.get;obtain⟨r1,r2⟩:=JeD hk (k:=k) 0 h2;simp only[AW.lookV,AW.entries,h1,hk.ok];cases hg:HE M k with
 | none=>simp only[r1 hg,JeK]
 | some v=>obtain⟨j,n,s1,_⟩:=r2 v hg;simp only[s1,JeK]
theorem Jdb:∀{M:List (α×β)} {k:α},HE M k=none→∀v,Pj M k v=M++[(k,v)]
 | [],k,_,v=>rfl
 | (a,b)::M,k,h,v=>by
  simp only[HE]at h;split at h
  ·cases h
  ·rename_i hn;simp only[Pj,if_neg hn,Jdb h v,List.cons_append]
theorem JeL {es:List (V×V×Nat)}{ck:Nat}:Frm (fun x=>x=b) w (w.turn b (.map es ck)):=
 ⟨FH _,fun c hc hn=>T.get_put_ne hn,fun c hc hn=>rfl⟩
theorem MB.put (hk:KeyE t ke)(h:MB ke ve w b M)(k:α)(v:β):∃w',w.putV t (.map b) (ke k) (ve v)=some w'∧MB ke ve w' b (Pj M k v)∧Frm (fun x=>x=b) w w'∧w'.next=w.next:=by
 obtain⟨es,ck,h1,h2⟩:=h.get;obtain⟨r1,r2⟩:=JeD hk (k:=k) 0 h2;simp only[AW.putV,AW.entries,h1,hk.ok];cases hg:HE M k with
 | none =>
  refine⟨w.turn b (.map (es++[(ke k,ve v,ck)]) (ck+1)),by simp only[r1 hg],⟨h.lt,_,_,T.get_put_same,?_⟩,JeL,rfl⟩;rw[Jdb hg];exact h2.snoc ⟨rfl,rfl⟩
 | some u =>
  obtain⟨j,n,s1,s2⟩:=r2 u hg;refine⟨w.turn b (.map (JcD j (ke k) (ve v) es) ck),?_,⟨h.lt,_,_,T.get_put_same,s2 v⟩,JeL,rfl⟩;simp only[s1,FU]
theorem MB.len (h:MB ke ve w b M):∃es ck,w.entries (.map b)=some (some b,es,ck)∧es.length=M.length:=by
 obtain⟨es,ck,h1,h2⟩:=h.get;exact⟨es,ck,by simp only[AW.entries,h1],h2.len.symm⟩
theorem MB.new (w:AW):MB ke ve (w.new (.map [] 0)) w.next ([]:List (α×β)):=⟨FV _,[],0,T.get_put_same,.nil⟩
end
variable {S:Fw}
theorem Ja4 (w:AW):Frm S w (w.new (.map [] 0)):=Frm.new w _
theorem Px:KeyE (.scalar .str) V.str:=⟨fun a b=>by
 show some (eqL a b)=_
 congr 1
 by_cases h:a=b
 ·rw[decide_eq_true h];exact eqL_iff.2 h
 ·rw[decide_eq_false h];cases hc:eqL a b with
  | false=>rfl
  | true=>exact absurd (eqL_iff.1 hc) h,fun _=>rfl⟩
theorem JlS:KeyE (.scalar .int) (V.int .i64):=⟨fun a b=>by
 show (if (IntKind.i64:IntKind) = .i64 then some (a==b)else none)=_;rw[if_pos rfl]
 congr 1,fun _=>rfl⟩
inductive Bt (S:Nat→Prop) (w:AW):V→Nat→Nat→List V→Prop
 | nil {esz:Nat}:Bt S w .nilslice esz 0 []
 | blk {b n esz:Nat} {cs:List V} {sh:Share} (hS:S b) (hb:b<w.next) (hx:w.heap.get b=some (.cells cs sh)) (hl:cs.length=n*esz) (he:0<esz) (hn:0<n) (hs:Shr S w b sh):Bt S w (.slice b 0 n (.upTo esz)) esz n cs
variable {w:AW} {esz n:Nat} {cs:List V}
theorem Bt.buf (h:Bt S w v esz n cs):Buf S w v esz n cs:=by
 cases h with
 | nil=>exact .nil
 | blk hS hb hx hl he hn hs=>exact .blk (r:=0) (rest:=[]) hS hb (by rw[Kb];exact hx) hl Fj he Fh hs
theorem Bt.mono {S':Fw}(h:Bt S w v esz n cs)(hs:∀x,S x→S' x):Bt S' w v esz n cs:=by
 cases h with
 | nil=>exact .nil
 | blk hS hb hx hl he hn hsh=>exact .blk (hs _ hS) hb hx hl he hn (hsh.mono hs)
theorem Bt.frm {T:Fw}{w':AW}(h:Bt S w v esz n cs)(hf:Frm T w w')(hd:∀x,S x→¬T x):Bt S w' v esz n cs:=by
 cases h with
 | nil=>exact .nil
 | blk hS hb hx hl he hn hsh=>exact .blk hS (FK hb hf.next) ((hf.heap _ hb (hd _ hS)).trans hx) hl he hn (hsh.frm hf hd)
theorem Bt.len (h:Bt S w v esz n cs):cs.length=n*esz:=h.buf.len
theorem Bt.rd (h:Bt S w v esz n cs):Rd S w v esz n cs:=h.buf.rd
theorem Bt.lenV (h:Bt S w v esz n cs):lenV v=some n:=h.buf.lenV
theorem Bt.one (h:Bt S w v esz n cs):v.one=true∧v.cells=[v]:=by cases h<;>exact⟨rfl,rfl⟩
theorem Bt.inv (h:Bt S w v esz n cs):(v = .nilslice∧n=0∧cs=[])∨∃b,v = .slice b 0 n (.upTo esz)∧S b∧b<w.next:=h.buf.inv
variable {bytes:Nat} {news:List V}
theorem Bt.addN {k:Nat}(h:Bt S w v esz n cs)(he:0<esz)(hl:news.length=k*esz)(h1:HM news=true)(hb:(n+k)*bytes≤70368744177664)(hb':n+k≤70368744177664): ∃v' w' S',w.appendV esz bytes v k news=some (v',w')∧Bt S' w' v' esz (n+k) (cs++news)∧Frm S w w'∧JaU S S' w w':=by
 cases k with
 | zero =>
  have:news=[]:=List.length_eq_zero_iff.1 (by simpa using hl);subst this;refine⟨v,w,fun x=>S x∧x<w.next,?_,?_,Frm.refl _,fun b hb=>⟨hb.2,.inl hb.1⟩⟩
  ·cases h<;>rfl
  ·rw[Kb,KC];cases h with
   | nil=>exact .nil
   | blk hS hbw hx hlen he' hn hs =>
    refine .blk ⟨hS,hbw⟩ hbw hx hlen he' hn ?_;rcases hs with rfl|rfl|⟨f,F,rfl,q1,q2,q3⟩
    ·exact .inl rfl
    ·exact .inr (.inl rfl)
    ·exact .inr (.inr ⟨f,F,rfl,⟨q1,q2⟩,q2,q3⟩)
 | succ k =>
  cases h with
  | nil =>
   refine⟨.slice w.next 0 (k+1) (.upTo esz),w.fresh news,fun b=>b=w.next,?_,?_,Frm.new _ _,?_⟩
   ·simp only[AW.appendV];rw[if_pos ⟨by simpa using hb,by omega⟩]
   ·rw[FU];exact .blk rfl (FV _) T.get_put_same (by simpa using hl) he Fh (.inl rfl)
   ·rintro b rfl;exact⟨FV _,.inr (FH _)⟩
  | @blk b _ _ _ sh hS hbw hx hlen he' hn hs =>
   have happ:w.appendV esz bytes (.slice b 0 n (.upTo esz)) (k+1) news=w.appendUp esz b 0 n (k+1) news:=if_pos ⟨rfl,hb,hb',h1,he⟩;rw[happ];have hbeq:Nat.beq (0+n*esz) cs.length=true:=by rw[FU,hlen,Nat.beq_refl]
   have fam:∀(u:AW) (f:Nat) (F:Fam),w.next≤u.next→Frm S w u→u.heap.get b=some (.cells cs (.fam f))→(S f∨w.next≤f)→f<u.next→b<u.next→u.fams.get f=some F→F.last=b→F.floor≤u.next→u.alive b (.fam f)=true→∃v' w' S',u.appendFam esz b 0 n (k+1) news=some (v',w')∧Bt S' w' v' esz (n+(k+1)) (cs++news)∧Frm S w w'∧JaU S S' w w':=by
    intro u f F hle hfu hx hSf hfl hbu hF hlast hflo hal;refine⟨.slice u.next 0 (n+(k+1)) (.upTo esz),u.grow b f F (cs.drop 0++news),fun x=>x=u.next∨x=f,?_,?_,?_,?_⟩
    ·simp only[AW.appendFam,hx,hal,hF,hbeq]
    ·have hg:(u.grow b f F (cs.drop 0++news)).fams.get f=some ⟨F.keep,F.floor,u.next⟩:=by
      simp only[AW.grow,T.get_putk,if_true,hlast,Nat.beq_refl]
     refine .blk (sh:=.fam f) (.inl rfl) (FV _) ?_ ?_ he Fh (.inr (.inr ⟨f,⟨F.keep,F.floor,u.next⟩,rfl,.inr rfl,Nat.lt_succ_of_lt hfl,hg,rfl,Nat.le_succ_of_le hflo,?_⟩))
     ·simp only[AW.grow,T.get_putk,if_true,FY]
     ·rw[FE,hlen,hl,Nat.add_mul n]
     ·simp only[AW.alive,hg,Bool.or_eq_true];exact .inr (Nat.ble_eq_true_of_le hflo)
    ·refine hfu.trans (T:=fun x=>x=f∨u.next≤x) ⟨Nat.le_succ _,fun c hc hn=>T.get_put_ne Fh,fun c hc hn=>T.get_put_ne fun e=>hn (.inl e)⟩ (fun x hx h=>h) ?_;rintro x hx (rfl|h)
     ·rcases hSf with h|h
      ·exact h
      ·omega
     ·omega
    ·rintro x (rfl|rfl)
     ·exact⟨FV _,.inr hle⟩
     ·exact⟨Nat.lt_succ_of_lt hfl,hSf⟩
   have fnd:sh = .own∨sh = .lax→∃v' w' S',(w.found b cs).appendFam esz b 0 n (k+1) news=some (v',w')∧Bt S' w' v' esz (n+(k+1)) (cs++news)∧Frm S w w'∧JaU S S' w w':=by
    intro _;refine fam (w.found b cs) w.next ⟨b,w.next+1,b⟩ (Nat.le_succ _) ⟨Nat.le_succ _,fun c hc hn=>T.get_put_ne fun e=>hn (e▸hS),fun c hc hn=>T.get_put_ne Fh⟩ T.get_put_same (.inr (FH _)) (FV _) (Nat.lt_succ_of_lt hbw) T.get_put_same rfl (FH _) ?_;simp only[AW.alive,AW.found,T.get_putk,if_true,Nat.beq_refl,Bool.true_or]
   simp only[AW.appendUp,hx,hbeq];rcases hs with rfl|rfl|⟨f,F,rfl,g1,g2,g3,g4,g6,g5⟩
   ·exact fnd (.inl rfl)
   ·exact fnd (.inr rfl)
   ·exact fam w f F (FH _) (Frm.refl _) hx (.inl g1) g2 hbw g3 g4 g6 g5
theorem Bt.push (h:Bt S w v esz n cs)(hS:∀b,S b→b<w.next)(he:0<esz)(hl:news.length=esz)(h1:HM news=true)(hb:(n+1)*bytes≤70368744177664)(hb':n+1≤70368744177664): ∃v' w' S',(w.fresh news).appendV esz bytes v 1 news=some (v',w')∧Bt S' w' v' esz (n+1) (cs++news)∧Frm S w w'∧JaU S S' w w':=by
 have hx:Frm (fun _=>False) w (w.fresh news):=Frm.new _ _;obtain⟨v',w',S',h2,h3,h4,h5⟩:=(h.frm hx fun _ _ h=>h).addN (news:=news) (k:=1) (bytes:=bytes) he Fh h1 hb hb';refine⟨v',w',S',h2,h3,hx.trans h4 (fun _ _ h=>h.elim) fun _ _ h=>h,fun b hb=>?_⟩;obtain⟨q1,q2⟩:=h5 b hb;exact⟨q1,q2.imp id fun h=>Kj hx.next h⟩
end Go.AE
namespace Delphi
def okc (i c:Nat):Bool:=(decide (97≤c)&&decide (c≤122))||(decide (i≠0)&&((decide (48≤c)&&decide (c≤57))||decide (c=95)))
def Jap:Nat→List Nat→Bool
 | _,[]=>true
 | i,c::s=>okc i c&&Jap (i+1) s
def Jba (s:List Nat):Bool:=Jap 0 s&&(decide (1≤s.length)&&decide (s.length≤16))
theorem Jge:∀(s:List Nat) (i c:Nat),Jap i (s++[c])=(Jap i s&&okc (i+s.length) c)
 | [],i,c=>by simp[Jap]
 | x::s,i,c=>by
  simp only[List.cons_append,Jap,Jge s (i+1) c,FC,Bool.and_assoc]
  congr 3;omega
theorem JeM:∀{s:List Nat} {i k c:Nat},s[k]? = some c→okc (i+k) c=false→Jap i s=false
 | [],i,k,c,h,_=>by simp at h
 | x::s,i,0,c,h,hb=>by simp at h;subst h;simp only[Jap];rw[show okc i x=false from hb];rfl
 | x::s,i,k+1,c,h,hb=>by
  simp only[Jap];rw[JeM (s:=s) (i:=i+1) (k:=k) (c:=c) (by simpa using h) (by rw[←hb];congr 1;omega),Bool.and_false]
structure Tk where
 k:Int
 s:List Nat
 n:Int
def HY (t:Tk):Bool :=
 if t.k=3 then decide (t.s=[])&&(decide (-2147483648≤t.n)&&decide (t.n≤2147483648))
 else if t.k=2 then decide (t.n=0)&&Jba t.s else false
end Delphi
set_option maxRecDepth 10000
namespace Go.Proofs.YtegdcbdicpfbpaaDoor.Val
open Go.AE Delphi
variable {tab:Tab}
def WdI (s:List Nat) (fi:Nat) (aw:AW) (q:Nat) (f:Fr) (w:AW):Prop :=
 ∃i,f.get 0=some (.str s)∧f.get fi=some (.int .i64 (Int.ofNat i))∧i≤s.length∧q=s.length-i∧Jap 0 (s.take i)=true∧w=aw
variable {s:List Nat}
theorem Jax {i c:Nat}(h:s[i]? = some c)(ho:Jap 0 (s.take i)=true)(hc:okc i c=true):Jap 0 (s.take (i+1))=true:=by
 have hl:i<s.length:=(List.getElem?_eq_some_iff.1 h).1;have e:s.take (i+1)=s.take i++[c]:=by rw[List.take_add_one,h];rfl
 rw[e,Jge,ho,FT,KA Fh,FU,hc];rfl
theorem Jo2 (C:Codes tab){aw:AW}{K:V→AW→Prop}(hn:s.length≤9223372036854775807)(hb:∀c∈s,c<256)(h:K (.bool (Jba s)) aw):WF tab Ua [.str s] aw K:=by
 refine HL C.Xe rfl ?_;refine HB 1000 (by simp only[go_sem,HA,simprocAttr,Jq];rfl) ?_;refine H7 (fun q f w=>WdI s 8 aw q f w∧f.get 7=some (.int .i64 (Int.ofNat s.length))) (fun f w=>f.get 0=some (.str s)∧Jap 0 s=true∧w=aw) ?_ ?_ s.length ⟨⟨0,(by simp only[go_sem,HA,simprocAttr]<;>rfl),(by simp only[go_sem,HA,simprocAttr]<;>rfl),by omega,rfl,by simp[Jap],rfl⟩,(by simp only[go_sem,HA,simprocAttr]<;>rfl)⟩
 ·rintro q f w ⟨⟨i,f0,f8,hi,rfl,hok,rfl⟩,f7⟩ ih exit;by_cases hlt:i<s.length
  case neg =>
   rw[FW Fh]at hok;refine HF 1000 (by simp only[go_sem,simprocAttr,Ji,f7,f8,hlt];rfl) ?_;exact exit _ _ _ ⟨(by simp only[go_sem,HA,simprocAttr,f0]<;>rfl),hok,rfl⟩ rfl
  obtain⟨c,hc⟩:∃c,s[i]? = some c:=⟨_,FB hlt⟩;have hwr:IntKind.wrap .i64 (Int.ofNat i+1)=Int.ofNat (i+1):=HJ Fh
  have bad:okc i c=false→Jba s=false:=fun hk=>by
   have:=JeM (i:=0) hc (by rw[FU];exact hk);simp only[Jba,this,Bool.false_and]
  by_cases a:97≤c
  ·by_cases b:c≤122
   ·refine HB 1000 (by simp only[go_sem,HA,simprocAttr,Ji,Jm,f0,f7,f8,hlt,hc,hwr,a,b];rfl) ?_;exact ih (s.length-(i+1)) _ _ Fh ⟨⟨i+1,(by simp only[go_sem,HA,simprocAttr,f0]<;>rfl),(by simp only[go_sem,HA,simprocAttr]<;>rfl),by omega,rfl,Jax hc hok (by simp[okc,a,b]),rfl⟩,(by simp only[go_sem,HA,simprocAttr,f7]<;>rfl)⟩
   ·by_cases z:i=0
    ·subst z;refine HB 1000 (by simp only[go_sem,HA,simprocAttr,Ji,Jm,f0,f7,f8,hlt,hc,hwr,a,b];rfl) ?_;rw[bad (by simp[okc,a,b])]at h;refine HC ⟨_,by simp only[go_sem,HA,simprocAttr,Jq];rfl,?_⟩;exact h
    ·by_cases d:c<48
     ·have d9:¬48≤c:=Fh;have n9:c≠95:=Fh;refine HB 1000 (by simp only[go_sem,HA,simprocAttr,Ji,Jm,f0,f7,f8,hlt,hc,hwr,a,b,z,d,d9,n9];rfl) ?_;rw[bad (by simp[okc,a,b,z,d,d9,n9])]at h;refine HC ⟨_,by simp only[go_sem,HA,simprocAttr,Jq];rfl,?_⟩;exact h
     ·have d9:48≤c:=Fh;by_cases e:57<c
      ·have e9:¬c≤57:=Fh;by_cases n9:c=95
       ·refine HB 1000 (by simp only[go_sem,HA,simprocAttr,Ji,Jm,f0,f7,f8,hlt,hc,hwr,a,b,z,d,d9,e,e9,n9];rfl) ?_;exact ih (s.length-(i+1)) _ _ Fh ⟨⟨i+1,(by simp only[go_sem,HA,simprocAttr,f0]<;>rfl),(by simp only[go_sem,HA,simprocAttr]<;>rfl),by omega,rfl,Jax hc hok (by simp[okc,a,b,z,d,d9,e,e9,n9]),rfl⟩,(by simp only[go_sem,HA,simprocAttr,f7]<;>rfl)⟩
       ·refine HB 1000 (by simp only[go_sem,HA,simprocAttr,Ji,Jm,f0,f7,f8,hlt,hc,hwr,a,b,z,d,d9,e,e9,n9];rfl) ?_;rw[bad (by simp[okc,a,b,z,d,d9,e,e9,n9])]at h;refine HC ⟨_,by simp only[go_sem,HA,simprocAttr,Jq];rfl,?_⟩;exact h
      ·have e9:c≤57:=Fh;refine HB 1000 (by simp only[go_sem,HA,simprocAttr,Ji,Jm,f0,f7,f8,hlt,hc,hwr,a,b,z,d,d9,e,e9];rfl) ?_;exact ih (s.length-(i+1)) _ _ Fh ⟨⟨i+1,(by simp only[go_sem,HA,simprocAttr,f0]<;>rfl),(by simp only[go_sem,HA,simprocAttr]<;>rfl),by omega,rfl,Jax hc hok (by simp[okc,a,b,z,d,d9,e,e9]),rfl⟩,(by simp only[go_sem,HA,simprocAttr,f7]<;>rfl)⟩
  ·by_cases z:i=0
   ·subst z;refine HB 1000 (by simp only[go_sem,HA,simprocAttr,Ji,Jm,f0,f7,f8,hlt,hc,hwr,a];rfl) ?_;rw[bad (by simp[okc,a])]at h;refine HC ⟨_,by simp only[go_sem,HA,simprocAttr,Jq];rfl,?_⟩;exact h
   ·by_cases d:c<48
    ·have d9:¬48≤c:=Fh;have n9:c≠95:=Fh;refine HB 1000 (by simp only[go_sem,HA,simprocAttr,Ji,Jm,f0,f7,f8,hlt,hc,hwr,a,z,d,d9,n9];rfl) ?_;rw[bad (by simp[okc,a,z,d,d9,n9])]at h;refine HC ⟨_,by simp only[go_sem,HA,simprocAttr,Jq];rfl,?_⟩;exact h
    ·have d9:48≤c:=Fh;by_cases e:57<c
     ·have e9:¬c≤57:=Fh;by_cases n9:c=95
      ·refine HB 1000 (by simp only[go_sem,HA,simprocAttr,Ji,Jm,f0,f7,f8,hlt,hc,hwr,a,z,d,d9,e,e9,n9];rfl) ?_;exact ih (s.length-(i+1)) _ _ Fh ⟨⟨i+1,(by simp only[go_sem,HA,simprocAttr,f0]<;>rfl),(by simp only[go_sem,HA,simprocAttr]<;>rfl),by omega,rfl,Jax hc hok (by simp[okc,a,z,d,d9,e,e9,n9]),rfl⟩,(by simp only[go_sem,HA,simprocAttr,f7]<;>rfl)⟩
      ·refine HB 1000 (by simp only[go_sem,HA,simprocAttr,Ji,Jm,f0,f7,f8,hlt,hc,hwr,a,z,d,d9,e,e9,n9];rfl) ?_;rw[bad (by simp[okc,a,z,d,d9,e,e9,n9])]at h;refine HC ⟨_,by simp only[go_sem,HA,simprocAttr,Jq];rfl,?_⟩;exact h
     ·have e9:c≤57:=Fh;refine HB 1000 (by simp only[go_sem,HA,simprocAttr,Ji,Jm,f0,f7,f8,hlt,hc,hwr,a,z,d,d9,e,e9];rfl) ?_;exact ih (s.length-(i+1)) _ _ Fh ⟨⟨i+1,(by simp only[go_sem,HA,simprocAttr,f0]<;>rfl),(by simp only[go_sem,HA,simprocAttr]<;>rfl),by omega,rfl,Jax hc hok (by simp[okc,a,z,d,d9,e,e9]),rfl⟩,(by simp only[go_sem,HA,simprocAttr,f7]<;>rfl)⟩
 ·rintro f w ⟨f0,hok,rfl⟩;cases s with
  | nil =>
   refine HB 1000 (by simp only[go_sem,HA,simprocAttr,f0];rfl) ?_;refine HC ⟨_,by simp only[go_sem,HA,simprocAttr,Jq];rfl,?_⟩;exact h
  | cons x t =>
   refine HB 1000 (by simp only[go_sem,HA,simprocAttr,f0];rfl) ?_;refine HC ⟨_,by simp only[go_sem,HA,simprocAttr,Jq];rfl,?_⟩;rw[show Jba (x::t)=decide ((x::t).length≤16)by simp[Jba,hok]]at h;exact h
section
open Go.AE Delphi
variable {tab:Tab}
theorem JoI (C:Codes tab){aw:AW}{K:V→AW→Prop}(hn:s.length≤9223372036854775807)(hb:∀c∈s,c<256)(h:K (.bool (Jba s)) aw):WF tab V2 [.str s] aw K:=by
 refine HL C.YP rfl ?_;refine HB 1000 (by simp only[go_sem,HA,simprocAttr,Jo];rfl) ?_;refine H7 (fun q f w=>WdI s 3 aw q f w) (fun f w=>f.get 0=some (.str s)∧Jap 0 s=true∧w=aw) ?_ ?_ s.length ⟨0,(by simp only[go_sem,HA,simprocAttr]<;>rfl),(by simp only[go_sem,HA,simprocAttr]<;>rfl),by omega,rfl,by simp[Jap],rfl⟩
 ·rintro q f w ⟨i,f0,f3,hi,rfl,hok,rfl⟩ ih exit;by_cases hlt:i<s.length
  case neg =>
   rw[FW Fh]at hok;refine HF 1000 (by simp only[go_sem,simprocAttr,Jg,f0,f3,hlt];rfl) ?_;exact exit _ _ _ ⟨(by simp only[go_sem,HA,simprocAttr,f0]<;>rfl),hok,rfl⟩ rfl
  obtain⟨c,hc⟩:∃c,s[i]? = some c:=⟨_,FB hlt⟩;have hwr:IntKind.wrap .i64 (Int.ofNat i+1)=Int.ofNat (i+1):=HJ Fh
  have bad:okc i c=false→Jba s=false:=fun hk=>by
   have:=JeM (i:=0) hc (by rw[FU];exact hk);simp only[Jba,this,Bool.false_and]
  by_cases a:97≤c
  ·by_cases b:c≤122
   ·refine HB 1000 (by simp only[go_sem,HA,simprocAttr,Jg,Jk,f0,f3,hlt,hc,hwr,a,b];rfl) ?_;exact ih (s.length-(i+1)) _ _ Fh ⟨i+1,(by simp only[go_sem,HA,simprocAttr,f0]<;>rfl),(by simp only[go_sem,HA,simprocAttr]<;>rfl),by omega,rfl,Jax hc hok (by simp[okc,a,b]),rfl⟩
   ·by_cases z:i=0
    ·subst z;refine HB 1000 (by simp only[go_sem,HA,simprocAttr,Jg,Jk,f0,f3,hlt,hc,hwr,a,b];rfl) ?_;rw[bad (by simp[okc,a,b])]at h;refine HC ⟨_,by simp only[go_sem,HA,simprocAttr,Jo];rfl,?_⟩;exact h
    ·by_cases d:48≤c
     ·by_cases e9:c≤57
      ·refine HB 1000 (by simp only[go_sem,HA,simprocAttr,Jg,Jk,f0,f3,hlt,hc,hwr,a,b,z,d,e9];rfl) ?_;exact ih (s.length-(i+1)) _ _ Fh ⟨i+1,(by simp only[go_sem,HA,simprocAttr,f0]<;>rfl),(by simp only[go_sem,HA,simprocAttr]<;>rfl),by omega,rfl,Jax hc hok (by simp[okc,a,b,z,d,e9]),rfl⟩
      ·by_cases n9:c=95
       ·refine HB 1000 (by simp only[go_sem,HA,simprocAttr,Jg,Jk,f0,f3,hlt,hc,hwr,a,b,z,d,e9,n9];rfl) ?_;exact ih (s.length-(i+1)) _ _ Fh ⟨i+1,(by simp only[go_sem,HA,simprocAttr,f0]<;>rfl),(by simp only[go_sem,HA,simprocAttr]<;>rfl),by omega,rfl,Jax hc hok (by simp[okc,a,b,z,d,e9,n9]),rfl⟩
       ·refine HB 1000 (by simp only[go_sem,HA,simprocAttr,Jg,Jk,f0,f3,hlt,hc,hwr,a,b,z,d,e9,n9];rfl) ?_;rw[bad (by simp[okc,a,b,z,d,e9,n9])]at h;refine HC ⟨_,by simp only[go_sem,HA,simprocAttr,Jo];rfl,?_⟩;exact h
     ·have n9:c≠95:=Fh;refine HB 1000 (by simp only[go_sem,HA,simprocAttr,Jg,Jk,f0,f3,hlt,hc,hwr,a,b,z,d,n9];rfl) ?_;rw[bad (by simp[okc,a,b,z,d,n9])]at h;refine HC ⟨_,by simp only[go_sem,HA,simprocAttr,Jo];rfl,?_⟩;exact h
  ·by_cases z:i=0
   ·subst z;refine HB 1000 (by simp only[go_sem,HA,simprocAttr,Jg,Jk,f0,f3,hlt,hc,hwr,a];rfl) ?_;rw[bad (by simp[okc,a])]at h;refine HC ⟨_,by simp only[go_sem,HA,simprocAttr,Jo];rfl,?_⟩;exact h
   ·by_cases d:48≤c
    ·by_cases e9:c≤57
     ·refine HB 1000 (by simp only[go_sem,HA,simprocAttr,Jg,Jk,f0,f3,hlt,hc,hwr,a,z,d,e9];rfl) ?_;exact ih (s.length-(i+1)) _ _ Fh ⟨i+1,(by simp only[go_sem,HA,simprocAttr,f0]<;>rfl),(by simp only[go_sem,HA,simprocAttr]<;>rfl),by omega,rfl,Jax hc hok (by simp[okc,a,z,d,e9]),rfl⟩
     ·by_cases n9:c=95
      ·refine HB 1000 (by simp only[go_sem,HA,simprocAttr,Jg,Jk,f0,f3,hlt,hc,hwr,a,z,d,e9,n9];rfl) ?_;exact ih (s.length-(i+1)) _ _ Fh ⟨i+1,(by simp only[go_sem,HA,simprocAttr,f0]<;>rfl),(by simp only[go_sem,HA,simprocAttr]<;>rfl),by omega,rfl,Jax hc hok (by simp[okc,a,z,d,e9,n9]),rfl⟩
      ·refine HB 1000 (by simp only[go_sem,HA,simprocAttr,Jg,Jk,f0,f3,hlt,hc,hwr,a,z,d,e9,n9];rfl) ?_;rw[bad (by simp[okc,a,z,d,e9,n9])]at h;refine HC ⟨_,by simp only[go_sem,HA,simprocAttr,Jo];rfl,?_⟩;exact h
    ·have n9:c≠95:=Fh;refine HB 1000 (by simp only[go_sem,HA,simprocAttr,Jg,Jk,f0,f3,hlt,hc,hwr,a,z,d,n9];rfl) ?_;rw[bad (by simp[okc,a,z,d,n9])]at h;refine HC ⟨_,by simp only[go_sem,HA,simprocAttr,Jo];rfl,?_⟩;exact h
 ·rintro f w ⟨f0,hok,rfl⟩;cases s with
  | nil =>
   refine HB 1000 (by simp only[go_sem,HA,simprocAttr,f0];rfl) ?_;refine HC ⟨_,by simp only[go_sem,HA,simprocAttr,Jo];rfl,?_⟩;exact h
  | cons x t =>
   refine HB 1000 (by simp only[go_sem,HA,simprocAttr,f0];rfl) ?_;refine HC ⟨_,by simp only[go_sem,HA,simprocAttr,Jo];rfl,?_⟩;rw[show Jba (x::t)=decide ((x::t).length≤16)by simp[Jba,hok]]at h;exact h
end
section
open Go.AE Delphi
variable {tab:Tab}
def tkC (t:Tk):List V:=[.int .i64 t.k,.str t.s,.int .i64 t.n]
structure TkOk (t:Tk):Prop where
 len:t.s.length≤9223372036854775807
 byt:∀c∈t.s,c<256
theorem PU (aw:AW)(l:List V):∃w,aw.fresh l=w∧CB w aw.next l∧Frm (fun _=>False) aw w∧w.next=aw.next+1:=
 ⟨_,rfl,Pw aw l,HU aw l,rfl⟩
theorem CB.ld {w:AW}{b:Nat}{l:List V}(c:CB w b l)(o n:Nat)(r:List V)(h:HN n (l.drop o)=some r):w.load b o n=some r:=by rw[c.load];exact h
variable {K:V→AW→Prop}
theorem Jpz (C:Codes tab){t:Tk}{aw:AW}(ht:TkOk t)(h:∀w,Frm (fun _=>False) aw w→K (.bool (HY t)) w):WF tab V3 [.agg (tkC t)] aw K:=by
 refine HL C.YQ rfl ?_;obtain⟨k,s,n⟩:=t;obtain⟨w1,e1,c1,r1,m1⟩:=PU aw [.int .i64 k,.str s,.int .i64 n];have l0:=CB.ld c1 0 1 _ rfl;have l1:=CB.ld c1 1 1 _ rfl;have l2:=CB.ld c1 2 1 _ rfl;have h:=h w1 r1;by_cases k3:k=3
 ·subst k3;cases s with
  | cons x z =>
   refine HB 1000 (by simp only[go_sem,HA,simprocAttr,Jc,JO,ZJ,tkC,e1,l0,l1,l2];rfl) ?_;refine HC ⟨_,by simp only[go_sem,HA,simprocAttr,Jc];rfl,?_⟩;exact h
  | nil =>
   have hs:Ja8 BinOp.eql [] []=some (.bool true):=rfl;by_cases a : -2147483648≤n
   ·by_cases b:n≤2147483648
    ·rw[show HY ⟨3,[],n⟩=true by simp[HY,a,b]]at h;refine HB 1000 (by simp only[go_sem,HA,simprocAttr,Jc,JO,ZJ,tkC,e1,l0,l1,l2,hs,a,b];rfl) ?_;refine HC ⟨_,by simp only[go_sem,HA,simprocAttr,Jc];rfl,?_⟩;exact h
    ·rw[show HY ⟨3,[],n⟩=false by simp[HY,a,b]]at h;refine HB 1000 (by simp only[go_sem,HA,simprocAttr,Jc,JO,ZJ,tkC,e1,l0,l1,l2,hs,a,b];rfl) ?_;refine HC ⟨_,by simp only[go_sem,HA,simprocAttr,Jc];rfl,?_⟩;exact h
   ·rw[show HY ⟨3,[],n⟩=false by simp[HY,a]]at h;refine HB 1000 (by simp only[go_sem,HA,simprocAttr,Jc,JO,ZJ,tkC,e1,l0,l1,l2,hs,a];rfl) ?_;refine HC ⟨_,by simp only[go_sem,HA,simprocAttr,Jc];rfl,?_⟩;exact h
 ·by_cases k2:k=2
  ·subst k2;by_cases z:n=0
   ·subst z;rw[show HY ⟨2,s,0⟩=Jba s by simp[HY]]at h;refine HB 1000 (by simp only[go_sem,HA,simprocAttr,Jc,JO,W9,tkC,e1,l0,l1,l2];rfl) ?_;refine HD (by simp only[go_sem,HA,simprocAttr]) (by simp only[go_sem,HA,simprocAttr];rfl) ?_;refine Jo2 C ht.len ht.byt ?_;refine HB 1000 (by simp only[go_sem,HA,simprocAttr];rfl) ?_;refine HC ⟨_,by simp only[go_sem,HA,simprocAttr,Jc];rfl,?_⟩;exact h
   ·rw[show HY ⟨2,s,n⟩=false by simp[HY,z]]at h;have z':(n==0)=false:=by simpa using z
    refine HB 1000 (by simp only[go_sem,HA,simprocAttr,Jc,JO,W9,tkC,e1,l0,l1,l2,z'];rfl) ?_;refine HC ⟨_,by simp only[go_sem,HA,simprocAttr,Jc];rfl,?_⟩;exact h
  ·rw[show HY ⟨k,s,n⟩=false by simp[HY,k3,k2]]at h;have k3':(k==3)=false:=by simpa using k3
   have k2':(k==2)=false:=by simpa using k2
   refine HB 1000 (by simp only[go_sem,HA,simprocAttr,Jc,JO,tkC,e1,l0,l1,l2,k3',k2'];rfl) ?_;refine HC ⟨_,by simp only[go_sem,HA,simprocAttr,Jc];rfl,?_⟩;exact h
theorem JcM (C:Codes tab){t:Tk}{aw:AW}(ht:TkOk t)(h:∀w,Frm (fun _=>False) aw w→K (.bool (HY t)) w):WF tab Zx [.agg (tkC t)] aw K:=by
 refine HL C.Yz rfl ?_;obtain⟨k,s,n⟩:=t;obtain⟨w1,e1,c1,r1,m1⟩:=PU aw [.int .i64 k,.str s,.int .i64 n];have l0:=CB.ld c1 0 1 _ rfl;have l1:=CB.ld c1 1 1 _ rfl;have l2:=CB.ld c1 2 1 _ rfl;have h:=h w1 r1;by_cases k3:k=3
 ·subst k3;cases s with
  | cons x z =>
   refine HB 1000 (by simp only[go_sem,HA,simprocAttr,Jb,JL,ZG,tkC,e1,l0,l1,l2];rfl) ?_;refine HC ⟨_,by simp only[go_sem,HA,simprocAttr,Jb];rfl,?_⟩;exact h
  | nil =>
   have hs:Ja8 BinOp.eql [] []=some (.bool true):=rfl;by_cases a : -2147483648≤n
   ·by_cases b:n≤2147483648
    ·rw[show HY ⟨3,[],n⟩=true by simp[HY,a,b]]at h;refine HB 1000 (by simp only[go_sem,HA,simprocAttr,Jb,JL,ZG,tkC,e1,l0,l1,l2,hs,a,b];rfl) ?_;refine HC ⟨_,by simp only[go_sem,HA,simprocAttr,Jb];rfl,?_⟩;exact h
    ·rw[show HY ⟨3,[],n⟩=false by simp[HY,a,b]]at h;refine HB 1000 (by simp only[go_sem,HA,simprocAttr,Jb,JL,ZG,tkC,e1,l0,l1,l2,hs,a,b];rfl) ?_;refine HC ⟨_,by simp only[go_sem,HA,simprocAttr,Jb];rfl,?_⟩;exact h
   ·rw[show HY ⟨3,[],n⟩=false by simp[HY,a]]at h;refine HB 1000 (by simp only[go_sem,HA,simprocAttr,Jb,JL,ZG,tkC,e1,l0,l1,l2,hs,a];rfl) ?_;refine HC ⟨_,by simp only[go_sem,HA,simprocAttr,Jb];rfl,?_⟩;exact h
 ·by_cases k2:k=2
  ·subst k2;by_cases z:n=0
   ·subst z;rw[show HY ⟨2,s,0⟩=Jba s by simp[HY]]at h;refine HB 1000 (by simp only[go_sem,HA,simprocAttr,Jb,JL,WM,tkC,e1,l0,l1,l2];rfl) ?_;refine HD (by simp only[go_sem,HA,simprocAttr]) (by simp only[go_sem,HA,simprocAttr];rfl) ?_;refine JoI C ht.len ht.byt ?_;refine HB 1000 (by simp only[go_sem,HA,simprocAttr];rfl) ?_;refine HC ⟨_,by simp only[go_sem,HA,simprocAttr,Jb];rfl,?_⟩;exact h
   ·rw[show HY ⟨2,s,n⟩=false by simp[HY,z]]at h;have z':(n==0)=false:=by simpa using z
    refine HB 1000 (by simp only[go_sem,HA,simprocAttr,Jb,JL,WM,tkC,e1,l0,l1,l2,z'];rfl) ?_;refine HC ⟨_,by simp only[go_sem,HA,simprocAttr,Jb];rfl,?_⟩;exact h
  ·rw[show HY ⟨k,s,n⟩=false by simp[HY,k3,k2]]at h;have k3':(k==3)=false:=by simpa using k3
   have k2':(k==2)=false:=by simpa using k2
   refine HB 1000 (by simp only[go_sem,HA,simprocAttr,Jb,JL,tkC,e1,l0,l1,l2,k3',k2'];rfl) ?_;refine HC ⟨_,by simp only[go_sem,HA,simprocAttr,Jb];rfl,?_⟩;exact h
end
section
open Go.AE Delphi
variable {tab:Tab}
def PR (a b:Tk):Bool :=
 if a.k=3 then (if b.k=3 then decide (a.n<b.n)else true)else if b.k=3 then false else Ja3 a.s b.s
def P0 (a b:Tk):Bool:=(a.k==b.k)&&(eqL a.s b.s&&(a.n==b.n))
theorem Jkb (aw:AW)(l l':List V):∃w,(aw.fresh l).fresh l'=w∧CB w aw.next l∧CB w (aw.next+1) l'∧Frm (fun _=>False) aw w∧w.next=aw.next+2:=by
 have f1:=HU (S:=fun _=>False) aw l;have f2:=HU (S:=fun _=>False) (aw.fresh l) l';have n1:(aw.fresh l).next=aw.next+1:=rfl;refine⟨_,rfl,(Pw aw l).frm f2 (fun h=>h),?_,f1.tr f2,rfl⟩;have:=Pw (aw.fresh l) l'
 rwa [n1]at this
variable {a b:Tk} {aw:AW} {K:V→AW→Prop}
theorem JjK (C:Codes tab)(h:∀w,Frm (fun _=>False) aw w→K (.bool (PR a b)) w):WF tab Wv [.agg (tkC a),.agg (tkC b)] aw K:=by
 refine HL C.YV rfl ?_;obtain⟨k,s,n⟩:=a;obtain⟨k',s',n'⟩:=b;obtain⟨w1,e1,c1,c2,r1,m1⟩:=Jkb aw [.int .i64 k,.str s,.int .i64 n] [.int .i64 k',.str s',.int .i64 n'];have l0:=CB.ld c1 0 1 _ rfl;have l1:=CB.ld c1 1 1 _ rfl;have l2:=CB.ld c1 2 1 _ rfl;have q0:=CB.ld c2 0 1 _ rfl;have q1:=CB.ld c2 1 1 _ rfl;have q2:=CB.ld c2 2 1 _ rfl;have h:=h w1 r1;have nn:∀l,(aw.fresh l).next=aw.next+1:=fun _=>rfl;by_cases h1:k=3
 ·subst h1;by_cases h2:k'=3
  ·subst h2;refine HB 1000 (by simp only[go_sem,HA,simprocAttr,Jw,ZK,Gb,tkC,nn,e1,l0,l1,l2,q0,q1,q2];rfl) ?_;refine HC ⟨_,by simp only[go_sem,HA,simprocAttr,Jw];rfl,?_⟩;exact h
  ·have h2':(k'==3)=false:=by simpa using h2
   rw[show PR ⟨3,s,n⟩ ⟨k',s',n'⟩=true by simp[PR,h2]]at h;refine HB 1000 (by simp only[go_sem,HA,simprocAttr,Jw,ZK,YU,tkC,nn,e1,l0,l1,l2,q0,q1,q2,h2'];rfl) ?_;refine HC ⟨_,by simp only[go_sem,HA,simprocAttr,Jw];rfl,?_⟩;exact h
 ·have h1':(k==3)=false:=by simpa using h1
  by_cases h2:k'=3
  ·subst h2;rw[show PR ⟨k,s,n⟩ ⟨3,s',n'⟩=false by simp[PR,h1]]at h;refine HB 1000 (by simp only[go_sem,HA,simprocAttr,Jw,ZK,YU,tkC,nn,e1,l0,l1,l2,q0,q1,q2,h1'];rfl) ?_;refine HC ⟨_,by simp only[go_sem,HA,simprocAttr,Jw];rfl,?_⟩;exact h
  ·have h2':(k'==3)=false:=by simpa using h2
   rw[show PR ⟨k,s,n⟩ ⟨k',s',n'⟩=Ja3 s s' by simp[PR,h1,h2]]at h;refine HB 1000 (by simp only[go_sem,HA,simprocAttr,Jw,ZK,YU,tkC,nn,e1,l0,l1,l2,q0,q1,q2,h1',h2',Ja8];rfl) ?_;refine HC ⟨_,by simp only[go_sem,HA,simprocAttr,Jw];rfl,?_⟩;exact h
theorem Jiy (C:Codes tab)(h:∀w,Frm (fun _=>False) aw w→K (.bool (PR a b)) w):WF tab Wx [.agg (tkC a),.agg (tkC b)] aw K:=by
 refine HL C.YX rfl ?_;obtain⟨k,s,n⟩:=a;obtain⟨k',s',n'⟩:=b;obtain⟨w1,e1,c1,c2,r1,m1⟩:=Jkb aw [.int .i64 k,.str s,.int .i64 n] [.int .i64 k',.str s',.int .i64 n'];have l0:=CB.ld c1 0 1 _ rfl;have l1:=CB.ld c1 1 1 _ rfl;have l2:=CB.ld c1 2 1 _ rfl;have q0:=CB.ld c2 0 1 _ rfl;have q1:=CB.ld c2 1 1 _ rfl;have q2:=CB.ld c2 2 1 _ rfl;have h:=h w1 r1;have nn:∀l,(aw.fresh l).next=aw.next+1:=fun _=>rfl;by_cases h1:k=3
 ·subst h1;by_cases h2:k'=3
  ·subst h2;refine HB 1000 (by simp only[go_sem,HA,simprocAttr,Jx,ZL,tkC,nn,e1,l0,l1,l2,q0,q1,q2];rfl) ?_;refine HC ⟨_,by simp only[go_sem,HA,simprocAttr,Jx];rfl,?_⟩;exact h
  ·have h2':(k'==3)=false:=by simpa using h2
   rw[show PR ⟨3,s,n⟩ ⟨k',s',n'⟩=true by simp[PR,h2]]at h;refine HB 1000 (by simp only[go_sem,HA,simprocAttr,Jx,ZL,tkC,nn,e1,l0,l1,l2,q0,q1,q2,h2',bne];rfl) ?_;refine HC ⟨_,by simp only[go_sem,HA,simprocAttr,Jx];rfl,?_⟩;exact h
 ·have h1':(k==3)=false:=by simpa using h1
  by_cases h2:k'=3
  ·subst h2;rw[show PR ⟨k,s,n⟩ ⟨3,s',n'⟩=false by simp[PR,h1]]at h;refine HB 1000 (by simp only[go_sem,HA,simprocAttr,Jx,ZL,tkC,nn,e1,l0,l1,l2,q0,q1,q2,h1'];rfl) ?_;refine HC ⟨_,by simp only[go_sem,HA,simprocAttr,Jx];rfl,?_⟩;exact h
  ·have h2':(k'==3)=false:=by simpa using h2
   rw[show PR ⟨k,s,n⟩ ⟨k',s',n'⟩=Ja3 s s' by simp[PR,h1,h2]]at h;refine HB 1000 (by simp only[go_sem,HA,simprocAttr,Jx,ZL,tkC,nn,e1,l0,l1,l2,q0,q1,q2,h1',h2',Ja8];rfl) ?_;refine HC ⟨_,by simp only[go_sem,HA,simprocAttr,Jx];rfl,?_⟩;exact h
theorem Jn1 (C:Codes tab)(h:∀w,Frm (fun _=>False) aw w→K (.bool (P0 a b)) w):WF tab Wu [.agg (tkC a),.agg (tkC b)] aw K:=by
 refine HL C.YT rfl ?_;obtain⟨k,s,n⟩:=a;obtain⟨k',s',n'⟩:=b;obtain⟨w1,e1,c1,c2,r1,m1⟩:=Jkb aw [.int .i64 k,.str s,.int .i64 n] [.int .i64 k',.str s',.int .i64 n'];have l0:=CB.ld c1 0 3 _ rfl;have q0:=CB.ld c2 0 3 _ rfl;have h:=h w1 r1;have nn:∀l,(aw.fresh l).next=aw.next+1:=fun _=>rfl
 have he:P3 [.int,.str,.int] [.int .i64 k,.str s,.int .i64 n] [.int .i64 k',.str s',.int .i64 n']=some (P0 ⟨k,s,n⟩ ⟨k',s',n'⟩):=by
  simp only[P3,JaR,P0,if_true];cases (k==k')<;>cases eqL s s'<;>cases (n==n')<;>rfl
 refine HB 1000 (by simp only[go_sem,HA,simprocAttr,YS,tkC,nn,e1,l0,q0,he];rfl) ?_;refine HC ⟨_,by simp only[go_sem,HA,simprocAttr,YS];rfl,?_⟩;simpa[Ph]using h
theorem Jmf (C:Codes tab)(h:∀w,Frm (fun _=>False) aw w→K (.bool (P0 a b)) w):WF tab Ww [.agg (tkC a),.agg (tkC b)] aw K:=by
 refine HL C.YW rfl ?_;obtain⟨k,s,n⟩:=a;obtain⟨k',s',n'⟩:=b;obtain⟨w1,e1,c1,c2,r1,m1⟩:=Jkb aw [.int .i64 k,.str s,.int .i64 n] [.int .i64 k',.str s',.int .i64 n'];have l0:=CB.ld c1 0 1 _ rfl;have l1:=CB.ld c1 1 1 _ rfl;have l2:=CB.ld c1 2 1 _ rfl;have q0:=CB.ld c2 0 1 _ rfl;have q1:=CB.ld c2 1 1 _ rfl;have q2:=CB.ld c2 2 1 _ rfl;have h:=h w1 r1;have nn:∀l,(aw.fresh l).next=aw.next+1:=fun _=>rfl;cases h1:(k==k')with
 | false =>
  rw[show P0 ⟨k,s,n⟩ ⟨k',s',n'⟩=false by simp only[P0,h1,Bool.false_and]]at h;refine HB 1000 (by simp only[go_sem,HA,simprocAttr,JQ,tkC,nn,e1,l0,l1,l2,q0,q1,q2,h1];rfl) ?_;refine HC ⟨_,by simp only[go_sem,HA,simprocAttr,JQ];rfl,?_⟩;exact h
 | true =>
  cases h2:eqL s s' with
  | false =>
   rw[show P0 ⟨k,s,n⟩ ⟨k',s',n'⟩=false by simp only[P0,h1,h2,Bool.false_and,Bool.and_false]]at h;refine HB 1000 (by simp only[go_sem,HA,simprocAttr,JQ,tkC,nn,e1,l0,l1,l2,q0,q1,q2,h1,Ja8,h2];rfl) ?_;refine HC ⟨_,by simp only[go_sem,HA,simprocAttr,JQ];rfl,?_⟩;exact h
  | true =>
   rw[show P0 ⟨k,s,n⟩ ⟨k',s',n'⟩=(n==n')by simp only[P0,h1,h2,Bool.true_and]]at h;refine HB 1000 (by simp only[go_sem,HA,simprocAttr,JQ,tkC,nn,e1,l0,l1,l2,q0,q1,q2,h1,Ja8,h2];rfl) ?_;refine HC ⟨_,by simp only[go_sem,HA,simprocAttr,JQ];rfl,?_⟩;exact h
end
section
open Go.AE Delphi
variable {tab:Tab}
end
end Go.Proofs.YtegdcbdicpfbpaaDoor.Val
namespace Go.Proofs.YtegdcbdicpfbpaaDoor
open Go.AE Delphi Val
variable {tab:Tab}
structure PgS (Tw:Fw) (w:AW) (bp:Nat) (ws:List Wd) (v:V) (k:Nat) (wh:Bool) (e:Nat):Prop where
 cb:CB w bp [v,.bool wh,.int .i64 (Int.ofNat e)]
 kle:k≤ws.length
 rd:(ws=[]∧v = .nilslice)∨∃b,v = .slice b (k*3) (ws.length-k) (.upTo 3)∧Rd Tw w (.slice b 0 ws.length (.upTo 3)) 3 ws.length (JbO ws)
 no:¬Tw bp
 len:ws.length≤4000
variable {Tw:Fw} {w:AW} {bp k e:Nat} {ws:List Wd} {v:V} {wh:Bool}
theorem PgS.frm {S:Fw}{w':AW}(h:PgS Tw w bp ws v k wh e)(hf:Frm S w w')(hn:¬S bp)(hd:∀x,Tw x→¬S x):PgS Tw w' bp ws v k wh e:=by
 refine⟨h.cb.frm hf hn,h.kle,?_,h.no,h.len⟩;rcases h.rd with h1|⟨b,h1,h2⟩
 ·exact .inl h1
 ·exact .inr ⟨b,h1,h2.frm hf hd⟩
theorem PgS.inv (h:PgS Tw w bp ws v k wh e):lenV v=some (ws.length-k)∧v.one=true∧v.cells=[v]∧((ws=[]∧v = .nilslice)∨∃b,v = .slice b (k*3) (ws.length-k) (.upTo 3)∧ ∀i x,ws[k+i]? = some x→w.load b (k*3+i*3) 3=some (P6 x)):=by
 rcases h.rd with⟨rfl,rfl⟩|⟨b,rfl,h2⟩
 ·exact⟨by simp[lenV],rfl,rfl,.inl ⟨rfl,rfl⟩⟩
 ·refine⟨rfl,rfl,rfl,.inr ⟨b,rfl,fun i x hx=>?_⟩⟩;have hw:Wds Tw w bp (.slice b 0 ws.length (.upTo 3)) ws:=⟨h2,h.no,h.len⟩;rcases hw.at with⟨h1,_⟩|⟨b',o,c,h1,_,_,hat⟩
  ·cases h1
  ·cases h1;have:=(hat (k+i) x hx).2.2;rw[FU,Nat.add_mul]at this;exact this
theorem PgS.l0 (h:PgS Tw w bp ws v k wh e):w.load bp 0 1=some [v]:=CB.ld h.cb 0 1 _ rfl
theorem PgS.l1 (h:PgS Tw w bp ws v k wh e):w.load bp 1 1=some [.bool wh]:=CB.ld h.cb 1 1 _ rfl
theorem PgS.l2 (h:PgS Tw w bp ws v k wh e):w.load bp 2 1=some [.int .i64 (Int.ofNat e)]:=CB.ld h.cb 2 1 _ rfl
theorem PgS.take (h:PgS Tw w bp ws v k wh e)(hk:k<ws.length):∃b v' w',v = .slice b (k*3) (ws.length-k) (.upTo 3)∧w.sliceW 3 b (k*3) (ws.length-k) (.upTo 3) (some 1) none none=some v'∧w.store bp 0 [v']=some w'∧PgS Tw w' bp ws v' (k+1) wh e∧Frm (fun x=>x=bp) w w'∧v'.cells=[v']:=by
 rcases h.rd with⟨rfl,_⟩|⟨b,h1,h2⟩
 ·simp at hk
 have hf:=HO (w:=w) (b:=bp) (l:=[V.slice b ((k+1)*3) (ws.length-(k+1)) (.upTo 3),V.bool wh,.int .i64 (Int.ofNat e)]);refine⟨b,.slice b ((k+1)*3) (ws.length-(k+1)) (.upTo 3),w.put bp [.slice b ((k+1)*3) (ws.length-(k+1)) (.upTo 3),.bool wh,.int .i64 (Int.ofNat e)],h1,?_,h.cb.set (i:=0) Fj rfl,⟨H3 h.cb.lt,hk,.inr ⟨b,rfl,h2.frm hf fun x hx he=>h.no (he▸hx)⟩,h.no,h.len⟩,hf,rfl⟩
 have e1:Jbb 3 b (k*3) (ws.length-k) (.upTo 3) (some 1) none none=some (.slice b ((k+1)*3) (ws.length-(k+1)) (.upTo 3)):=by
  simp only[Jbb,Option.getD_none,Option.getD_some];rw[if_pos ⟨FH _,by omega,trivial⟩]
  congr 2
  omega
 simp only[AW.sliceW,e1]
section
open Go.AE Delphi Val
variable {tab:Tab}
end
section
open Go.AE Delphi Val
variable {tab:Tab}
end
section
open Go.AE Delphi Val
variable {tab:Tab}
end
section
open Go.AE Delphi Val
variable {tab:Tab}
end
section
open Go.AE Delphi Val
variable {tab:Tab}
structure SB (Tw:Fw) (a w:AW) (bp rb:Nat) (ws:List Wd) (wh:Bool) (hd:Lt) (hv:V) (body:List Lt) (k e:Nat) (v bv:V) (S T:Fw) (xss:List (List V)):Prop where
 p:PgS Tw w bp ws v k wh e
 frm:Frm (fun b=>b=bp) a w
 res:CB w a.next [.int .i64 0,.str [],.nilslice,.nilslice]
 rule:CB w rb [.int .i64 (Int.ofNat hd.kind),.str hd.name,hv,bv]
 head:Rd T w hv 3 hd.args.length (Pl hd.args)
 buf:Buf S w bv 3 body.length xss.flatten
 lits:All2 (LtC T w) body xss
 sepS:∀x,S x→a.next<x∧x<w.next∧x≠rb∧¬T x
 sepT:∀x,T x→a.next<x∧x<w.next∧x≠rb
 rbn:a.next<rb
theorem SB.step {a w':AW}{rb:Nat}{hd:Lt}{hv:V}{body:List Lt}{k' e':Nat}{v' bv:V}{S T:Fw}{xss:List (List V)}(h:SB Tw a w bp rb ws wh hd hv body k e v bv S T xss)(hb:bp<a.next)(hp:PgS Tw w' bp ws v' k' wh e')(g:Frm (fun b=>b=bp) w w'):SB Tw a w' bp rb ws wh hd hv body k' e' v' bv S T xss:=by
 have hr:=h.rbn;have n:=g.next;have nS:∀x,S x→¬x=bp:=fun x hx he=>by have:=(h.sepS x hx).1;omega
 have nT:∀x,T x→¬x=bp:=fun x hx he=>by have:=(h.sepT x hx).1;omega
 exact⟨hp,h.frm.tr g,h.res.frm g Fh,h.rule.frm g Fh,h.head.frm g nT,h.buf.frm g nS,h.lits.imp fun _ _ hl=>hl.frm g nT,fun x hx=>by obtain⟨a1,a2,a3⟩:=h.sepS x hx;exact⟨a1,by omega,a3⟩,fun x hx=>by obtain⟨a1,a2,a3⟩:=h.sepT x hx;exact⟨a1,by omega,a3⟩,hr⟩
end
section
open Go.AE Delphi Val
variable {tab:Tab}
structure SR (Tw:Fw) (a w:AW) (bp:Nat) (ws:List Wd) (wh:Bool) (rules:List Rl) (k e:Nat) (v rv:V) (S T:Fw) (xss:List (List V)):Prop where
 p:PgS Tw w bp ws v k wh e
 frm:Frm (fun b=>b=bp) a w
 buf:Buf S w rv 4 rules.length xss.flatten
 rls:All2 (RlC T w) rules xss
 sepS:∀x,S x→a.next≤x∧x<w.next∧¬T x
 sepT:∀x,T x→a.next≤x∧x<w.next
theorem SR.step {a w':AW}{rules:List Rl}{k' e':Nat}{v' rv:V}{S T:Fw}{xss:List (List V)}(h:SR Tw a w bp ws wh rules k e v rv S T xss)(hb:bp<a.next)(hp:PgS Tw w' bp ws v' k' wh e')(g:Frm (fun b=>b=bp) w w'):SR Tw a w' bp ws wh rules k' e' v' rv S T xss:=by
 have n:=g.next;have nS:∀x,S x→¬x=bp:=fun x hx he=>by have:=(h.sepS x hx).1;omega
 have nT:∀x,T x→¬x=bp:=fun x hx he=>by have:=(h.sepT x hx).1;omega
 exact⟨hp,h.frm.tr g,h.buf.frm g nS,h.rls.imp fun _ _ hl=>hl.frm g nT,fun x hx=>by obtain⟨a1,a2,a3⟩:=h.sepS x hx;exact⟨a1,by omega,a3⟩,fun x hx=>by obtain⟨a1,a2⟩:=h.sepT x hx;exact⟨a1,by omega⟩⟩
end
end Go.Proofs.YtegdcbdicpfbpaaDoor
namespace Go.Proofs.YtegdcbdicpfbpaaDoor.Val
open Go.AE Delphi
variable {tab:Tab}
structure St2 (aw:AW) (a b:Tk) (w:AW):Prop where
 a:CB w aw.next (tkC a)
 b:CB w (aw.next+1) (tkC b)
 frm:Frm (fun _=>False) aw w
variable {aw w:AW} {a b:Tk}
theorem St2.step {w':AW}(h:St2 aw a b w)(hf:Frm (fun _=>False) w w'):St2 aw a b w':=⟨h.a.frm hf fun h=>h,h.b.frm hf fun h=>h,h.frm.tr hf⟩
theorem St2.la (h:St2 aw a b w):w.load aw.next 0 3=some (tkC a):=CB.ld h.a 0 3 _ rfl
theorem St2.lb (h:St2 aw a b w):w.load (aw.next+1) 0 3=some (tkC b):=CB.ld h.b 0 3 _ rfl
theorem Jbg (t:Tk):(tkC t).length=3:=rfl
theorem St2.set {a' b':Tk}(h:St2 aw a b w):∃w1 w2,w.store aw.next 0 (tkC a')=some w1∧w1.store (aw.next+1) 0 (tkC b')=some w2∧St2 aw a' b' w2:=by
 have s1:=h.a.setAll (vs:=tkC a') rfl rfl;have d1:CB _ aw.next _:=H3 (l:=tkC a') h.a.lt;have f1:=HO (w:=w) (b:=aw.next) (l:=tkC a');have d2:=h.b.frm f1 Fh;have s2:=d2.setAll (vs:=tkC b') rfl rfl;have f2:=HO (w:=w.put aw.next (tkC a')) (b:=aw.next+1) (l:=tkC b');refine⟨_,_,s1,s2,d1.frm f2 Fh,H3 d2.lt,?_⟩;refine (h.frm.trans f1 (fun _ _ h=>h) ?_).trans f2 (fun _ _ h=>h) ?_
 ·rintro x hx rfl;omega
 ·rintro x hx rfl;omega
theorem JhU:∀s:List Nat,eqL s s=true
 | []=>rfl
 | c::s=>by show (Nat.beq c c&&eqL s s)=true;rw[JhU s,Nat.beq_refl];rfl
section
open Go.AE Delphi
variable {tab:Tab}
def prT (t:Tk):List Nat:=if t.k=3 then JaV t.n else t.s
structure TkPr (t:Tk):Prop where
 num:t.n.natAbs≤2147483648
 len:(prT t).length≤3000000000
def Jb5 (l:List Tk):List V:=l.flatMap tkC
theorem Jmw {T:Fw}{v:V}{l:List Tk}(h:Rd T w v 3 l.length (Jb5 l)){i:Nat}{t:Tk}(hi:l[i]? = some t):∃b o c,v = .slice b o l.length c∧T b∧b<w.next∧w.load b (o+i*3) 3=some (tkC t):=by
 have hlt:i<l.length:=(List.getElem?_eq_some_iff.1 hi).1;rcases h.inv with⟨_,q2,_⟩|⟨b,o,c,rfl,hB⟩
 ·omega
 ·refine⟨b,o,c,rfl,hB.own,hB.lt,?_⟩;rw[hB.load (i*3) 3 Fh];have h2:=Jdd Jbg (i:=i) (j:=0) (k:=3) hi Fh;rw[FU]at h2;exact congrArg some h2
end
end Go.Proofs.YtegdcbdicpfbpaaDoor.Val
namespace Delphi
end Delphi
namespace Go.Proofs.YtegdcbdicpfbpaaDoor
open Go.AE Delphi Val
variable {tab:Tab}
end Go.Proofs.YtegdcbdicpfbpaaDoor
namespace Delphi
def PO (out:Fx) (t:Tm):Fx:=if t.kind=1∧t.name∉out then out++[t.name]else out
def Pm (l:List Tm):Fx:=l.foldl PO []
theorem Jj5 (out:Fx)(t:Tm):(PO out t).length≤out.length+1:=by
 unfold PO;split<;>simp
theorem Jcr (l:List Tm):(Pm l).length≤l.length:=by
 have:∀(l:List Tm) (out:Fx),(l.foldl PO out).length≤out.length+l.length:=by
  intro l;induction l with
  | nil=>intro out;simp
  | cons t l ih =>
   intro out;rw[Kr,FC];have:=ih (PO out t);have:=Jj5 out t;omega
 simpa[Pm]using this l []
end Delphi
namespace Go.Proofs.YtegdcbdicpfbpaaDoor
open Go.AE Delphi
variable {tab:Tab}
variable {T:Fw} {w:AW} {v:V} {l:List Tm} {i:Nat}
theorem JdG (h:Rd T w v 3 l.length (Pl l)){t:Tm}(hi:l[i]? = some t):∃b o c,v = .slice b o l.length c∧T b∧b<w.next∧w.load b (o+i*3) 3=some (tmC t)∧w.load b (o+i*3) 1=some [.int .i64 (Int.ofNat t.kind)]∧w.load b (o+i*3+1) 1=some [.str t.name]:=by
 have hlt:i<l.length:=(List.getElem?_eq_some_iff.1 hi).1;rcases h.inv with⟨_,q2,_⟩|⟨b,o,c,rfl,hB⟩
 ·omega
 ·have part:∀j k,j+k≤3→w.load b (o+i*3+j) k=some (((tmC t).drop j).take k):=by
   intro j k hjk;rw[Ki,hB.load (i*3+j) k Fh];have h2:=Jdd Jah (i:=i) (j:=j) (k:=k) hi hjk;rw[FU]at h2;exact congrArg some h2
  exact⟨b,o,c,rfl,hB.own,hB.lt,part 0 3 Fh,part 0 1 Fh,part 1 1 Fh⟩
theorem JcT {l:List Lt}(h:RdL (LtC T) T w v 3 l){t:Lt}(hi:l[i]? = some t):∃b o c u,v = .slice b o l.length c∧T b∧b<w.next∧w.load b (o+i*3) 3=some [.int .i64 (Int.ofNat t.kind),.str t.name,u]∧w.load b (o+i*3) 1=some [.int .i64 (Int.ofNat t.kind)]∧w.load b (o+i*3+1) 1=some [.str t.name]∧w.load b (o+i*3+2) 1=some [u]∧Rd T w u 3 t.args.length (Pl t.args):=by
 have hlt:i<l.length:=(List.getElem?_eq_some_iff.1 hi).1;rcases h.inv (fun a xs hx=>(LtC.one hx).1)with⟨_,q2⟩|⟨b,o,c,rfl,hT,hb,_,hat⟩
 ·rw[q2]at hlt;simp at hlt
 ·obtain⟨xs,⟨u,rfl,hu⟩,hp⟩:=hat i t hi;exact⟨b,o,c,u,rfl,hT,hb,hp 0 3 Fh,hp 0 1 Fh,hp 1 1 Fh,hp 2 1 Fh,hu⟩
theorem JpK {l:List Rl}(h:RdL (RlC T) T w v 4 l){r:Rl}(hi:l[i]? = some r):∃b o c xs,v = .slice b o l.length c∧T b∧b<w.next∧RlC T w r xs∧w.load b (o+i*4) 4=some xs∧∀j k,j+k≤4→w.load b (o+i*4+j) k=some ((xs.drop j).take k):=by
 have hlt:i<l.length:=(List.getElem?_eq_some_iff.1 hi).1;rcases h.inv (fun a xs hx=>(RlC.one hx).1)with⟨_,q2⟩|⟨b,o,c,rfl,hT,hb,_,hat⟩
 ·rw[q2]at hlt;simp at hlt
 ·obtain⟨xs,hx,hp⟩:=hat i r hi;have hl:=hx.one.1;have:=hp 0 4 Fh;rw[FY,FW Fh]at this;exact⟨b,o,c,xs,rfl,hT,hb,hx,this,hp⟩
theorem Jc6 {α:Type}{r:AW→α→List V→Prop}{esz:Nat}{l:List α}(h:RdL r T w v esz l):lenV v=some l.length:=by
 obtain⟨xss,h1,_⟩:=h;exact h1.lenV
def H5 (l:Fx):List V:=l.map V.str
theorem Jmq (l:Fx):(H5 l).length=l.length:=by simp[H5]
abbrev SM:=MB (α:=List Nat) (β:=Int) V.str (V.int .i64)
def Seen (M:List (List Nat×Int)) (out:Fx) (i:Nat):Prop:=∀x,(HE M x=none↔x∉out)∧∀c,HE M x=some c→1≤c∧c≤i
def Jqg (T:Fw) (aw:AW) (lv:V) (l:List Tm) (q:Nat) (f:Fr) (w:AW):Prop :=
 ∃i bm M out ov S,f.get 3=some ov∧f.get 4=some (.map bm)∧f.get 8=some lv∧f.get 9=some (.int .i64 (Int.ofNat l.length))∧f.get 10=some (.int .i64 (Int.ofNat i))∧i≤l.length∧q=l.length-i∧
  SM w bm M∧aw.next≤bm∧Seen M out i∧Pm l=(l.drop i).foldl PO out∧out.length≤i∧Bt S w ov 1 out.length (H5 out)∧(∀x,S x→aw.next≤x∧x<w.next∧x≠bm)∧Frm (fun _=>False) aw w
def Jqh (aw:AW) (l:List Tm) (f:Fr) (w:AW):Prop:=∃ov S,f.get 3=some ov∧Bt S w ov 1 (Pm l).length (H5 (Pm l))∧(∀x,S x→aw.next≤x∧x<w.next)∧Frm (fun _=>False) aw w
theorem JdI (C:Codes tab){aw:AW}{lv:V}{K:V→AW→Prop}(hl:Rd T aw lv 3 l.length (Pl l))(hn:l.length≤100000)(h:∀v w S,Bt S w v 1 (Pm l).length (H5 (Pm l))→Frm (fun _=>False) aw w→(∀x,S x→aw.next≤x∧x<w.next)→K v w):WF tab Za [lv] aw K:=by
 refine HL C.Xt rfl ?_;have hlv:=hl.lenV;refine HB 1000 (by simp only[go_sem,HA,simprocAttr,Xs,GZ,hlv];rfl) ?_;refine H7 (Jqg T aw lv l) (Jqh aw l) ?_ ?_ l.length ⟨0,aw.next,[],[],.nilslice,fun _=>False,(by simp only[go_sem,HA,simprocAttr]<;>rfl),(by simp only[go_sem,HA,simprocAttr]<;>rfl),(by simp only[go_sem,HA,simprocAttr]<;>rfl),(by simp only[go_sem,HA,simprocAttr]<;>rfl),(by simp only[go_sem,HA,simprocAttr]<;>rfl),by omega,by omega,MB.new aw,FH _,fun x=>⟨by simp[HE],fun c hc=>by simp[HE]at hc⟩,rfl,by simp,.nil,fun _ h=>h.elim,Ja4 aw⟩
 ·rintro q f w ⟨i,bm,M,out,ov,S,f3,f4,f8,f9,f10,hi,rfl,hM,hbm,hseen,hfold,hol,hb,hS,hf⟩ ih exit;by_cases hlt:i<l.length
  case neg =>
   rw[List.drop_eq_nil_of_le (by omega:l.length≤i)]at hfold;have hfold:Pm l=out:=hfold;refine HF 1000 (by simp only[go_sem,simprocAttr,Z1,f9,f10,hlt];rfl) ?_;exact exit _ _ _ ⟨ov,S,(by simp only[go_sem,HA,simprocAttr,f3]<;>rfl),by rw[hfold];exact hb,fun x hx=>⟨(hS x hx).1,(hS x hx).2.1⟩,hf⟩ rfl
  obtain⟨t,ht⟩:∃t,l[i]? = some t:=⟨_,FB hlt⟩;obtain⟨b,o,c,rfl,hTb,hbl,a3,a1,a2⟩:=JdG (hl.frm hf fun _ _ h=>h) ht
  have hd:l.drop i=t::l.drop (i+1):=by
   rw[FL hlt];rw[FB hlt]at ht;rw[FX ht]
  rw[hd,Kr]at hfold;have hwr:IntKind.wrap .i64 (Int.ofNat i+1)=Int.ofNat (i+1):=HJ Fh;obtain⟨w2,s2,c2,r2,n2⟩:=PE w (zs:=[V.int .i64 0,V.str [],V.int .i64 0]) (vs:=tmC t) rfl rfl;have k0:w2.load w.next 0 1=some [.int .i64 (Int.ofNat t.kind)]:=by rw[c2.load];rfl
  have k1:w2.load w.next 1 1=some [.str t.name]:=by rw[c2.load];rfl
  have hM2:=hM.frm r2 fun h=>h;have hb2:=hb.frm r2 fun _ _ h=>h;have hf2:=hf.tr r2;have nw:=hf.next;by_cases hk:t.kind=1
  case neg =>
   have he:PO out t=out:=if_neg fun h=>hk h.1;rw[he]at hfold;refine HB 1000 (by simp only[go_sem,HA,simprocAttr,Z1,Xr,f3,f4,f8,f9,f10,hlt,a3,s2,Jah,k0,hk,hwr];rfl) ?_;exact ih _ _ _ Fh ⟨i+1,bm,M,out,ov,S,(by simp only[go_sem,HA,simprocAttr,-Int.reduceOfNat,f3]<;>rfl),(by simp only[go_sem,HA,simprocAttr,-Int.reduceOfNat,f4]<;>rfl),(by simp only[go_sem,HA,simprocAttr,-Int.reduceOfNat,f8]<;>rfl),(by simp only[go_sem,HA,simprocAttr,-Int.reduceOfNat,f9]<;>rfl),(by simp only[go_sem,HA,simprocAttr,-Int.reduceOfNat]<;>rfl),by omega,rfl,hM2,hbm,fun x=>⟨(hseen x).1,fun c hc=>by have:=(hseen x).2 c hc;omega⟩,hfold,by omega,hb2,fun x hx=>by have:=hS x hx;exact⟨this.1,by omega,this.2.2⟩,hf2⟩
  obtain⟨n,hn0,hn1,hgn⟩:∃n:Nat,n≤i∧(n=0↔t.name∉out)∧JeK (V.int .i64) (V.int .i64 0) (HE M t.name)=(V.int .i64 (Int.ofNat n),decide (n≠0)):=by
   cases hg:HE M t.name with
   | none=>exact⟨0,by omega,by simp[(hseen t.name).1.1 hg],rfl⟩
   | some c =>
    have hc:=(hseen t.name).2 c hg;have hin:¬t.name∉out:=fun h=>by have:=(hseen t.name).1.2 h;rw[this]at hg;cases hg
    refine⟨c.toNat,by omega,⟨fun h=>by omega,fun h=>absurd h hin⟩,?_⟩;have e1:Int.ofNat c.toNat=c:=by simp;omega
    have e2:decide (c.toNat≠0)=true:=decide_eq_true Fh;show (V.int .i64 c,true)=_;rw[e1,e2]
  have look:=hM2.look Px (.int .i64 0) t.name;rw[hgn]at look;obtain⟨w3,p3,hM3,r3,n3⟩:=hM2.put Px t.name (Int.ofNat (n+1));have hw3:IntKind.wrap .i64 (Int.ofNat n+1)=Int.ofNat (n+1):=HJ Fh;have k3:w3.load w.next 1 1=some [.str t.name]:=by rw[(c2.frm r3 (by have:=hM.lt;omega)).load];rfl
  have look3:=hM3.look Px (.int .i64 0) t.name;rw[HT]at look3;simp only[JeK]at look3;have hb3:=hb2.frm r3 fun x hx he=>(hS x hx).2.2 he;have hf3:Frm (fun _=>False) aw w3:=hf2.trans r3 (fun _ _ h=>h) (by rintro x hx rfl;omega)
  have seen3:∀out',(∀x,x∈out'↔x∈out∨x=t.name)→Seen (Pj M t.name (Int.ofNat (n+1))) out' (i+1):=by
   intro out' ho x;by_cases hx:x=t.name
   ·subst hx;rw[HT];refine⟨⟨fun h=>(by cases h),fun h=>absurd ((ho t.name).2 (.inr rfl)) h⟩,fun c hc=>?_⟩;cases hc;constructor
    ·show (1:Int)≤((n+1:Nat):Int);omega
    ·show ((n+1:Nat):Int)≤_;omega
   ·rw[Pi _ _ _ _ hx];refine⟨?_,fun c hc=>by have:=(hseen x).2 c hc;omega⟩;rw[(hseen x).1,ho x];simp[hx]
  by_cases hn:n=0
  ·have hno:=hn1.1 hn;have he:PO out t=out++[t.name]:=if_pos ⟨hk,hno⟩;rw[he]at hfold;subst hn;have hS3:∀b,S b→b<w3.next:=fun b hb=>by have:=(hS b hb).2;omega
   obtain⟨v',w5,S5,u1,u2,u3,u4⟩:=hb3.push (news:=[V.str t.name]) (bytes:=16) hS3 Fh rfl rfl Fh Fh;have b4:=PG (w:=w3) (esz:=1) (n:=1) (cs:=[V.str t.name]) (c:=.known 1) Fh rfl;have hov:over [V.str []] 0 [V.str t.name]=some [V.str t.name]:=rfl;refine HB 1000 (by simp only[go_sem,HA,simprocAttr,-Int.reduceOfNat,Z1,Xr,VA,Vz,GY,f3,f4,f8,f9,f10,hlt,a3,s2,Jah,k0,k1,k3,hk,hwr,look,hw3,p3,look3,HI,HQ,hov,u1,b4,FC,FD];rfl) ?_;refine ih _ _ _ Fh ⟨i+1,bm,_,out++[t.name],v',S5,(by simp only[go_sem,HA,simprocAttr,-Int.reduceOfNat]<;>rfl),(by simp only[go_sem,HA,simprocAttr,-Int.reduceOfNat,f4]<;>rfl),(by simp only[go_sem,HA,simprocAttr,-Int.reduceOfNat,f8]<;>rfl),(by simp only[go_sem,HA,simprocAttr,-Int.reduceOfNat,f9]<;>rfl),(by simp only[go_sem,HA,simprocAttr,-Int.reduceOfNat]<;>rfl),by omega,rfl,hM3.frm u3 fun h=>(hS _ h).2.2 rfl,hbm,seen3 _ Fj,hfold,by simp;omega,?_,fun x hx=>?_,hf3.trans u3 (fun _ _ h=>h) fun x hx h=>by have:=(hS x h).1;omega⟩
   ·rw[FE,Ka];have:H5 (out++[t.name])=H5 out++[V.str t.name]:=by simp[H5]
    rw[this];exact u2
   ·obtain⟨m1,m2⟩:=u4 x hx;have:=hM.lt;rcases m2 with m2|m2
    ·exact⟨(hS x m2).1,m1,(hS x m2).2.2⟩
    ·exact⟨by omega,m1,by omega⟩
  ·have hin:t.name∈out:=Classical.byContradiction fun h=>hn (hn1.2 h);have he:PO out t=out:=if_neg fun h=>h.2 hin;rw[he]at hfold;have hne:¬n+1=1:=Fh;refine HB 1000 (by simp only[go_sem,HA,simprocAttr,Z1,Xr,VA,Vz,f3,f4,f8,f9,f10,hlt,a3,s2,Jah,k0,k1,k3,hk,hwr,look,hw3,p3,look3,hne];rfl) ?_;exact ih _ _ _ Fh ⟨i+1,bm,_,out,ov,S,(by simp only[go_sem,HA,simprocAttr,f3]<;>rfl),(by simp only[go_sem,HA,simprocAttr,f4]<;>rfl),(by simp only[go_sem,HA,simprocAttr,f8]<;>rfl),(by simp only[go_sem,HA,simprocAttr,f9]<;>rfl),(by simp only[go_sem,HA,simprocAttr]<;>rfl),by omega,rfl,hM3,hbm,seen3 _ (fun x=>⟨.inl,fun h=>h.elim id fun h=>h▸hin⟩),hfold,by omega,hb3,fun x hx=>by have:=hS x hx;exact⟨this.1,by omega,this.2.2⟩,hf3⟩
 ·rintro f w ⟨ov,S,f3,hb,hS,hf⟩;refine HB 1000 (by simp only[go_sem,HA,simprocAttr,f3];rfl) ?_;refine HC ⟨_,by simp only[go_sem,HA,simprocAttr,Xs];rfl,?_⟩;exact h ov w S hb hf hS
section
open Go.AE Delphi Val
variable {tab:Tab}
def H2 (t:Tm):Tk:=⟨Int.ofNat t.kind,t.name,t.num⟩
theorem Jmx (t:Tm):tmC t=tkC (H2 t):=rfl
theorem JoZ (l:List Tm):Pl l=Jb5 (l.map H2):=by
 unfold Pl Jb5;rw[List.flatMap_map];rfl
def FtC (T:Fw) (w:AW) (f:List Nat×List Tm) (xs:List V):Prop:=∃v,xs=[.str f.1,v]∧Rd T w v 3 f.2.length (Pl f.2)
variable {f:List Nat×List Tm} {xs:List V}
theorem FtC.frm {S:Fw}{w':AW}(h:FtC T w f xs)(hf:Frm S w w')(hd:∀x,T x→¬S x):FtC T w' f xs:=by
 obtain⟨v,h1,h2⟩:=h;exact⟨v,h1,h2.frm hf hd⟩
theorem FtC.one (h:FtC T w f xs):xs.length=2∧HM xs=true:=by
 obtain⟨v,rfl,h2⟩:=h;refine⟨rfl,?_⟩;rcases h2.inv with⟨rfl,_⟩|⟨_,_,_,rfl,_⟩<;>rfl
end
end Go.Proofs.YtegdcbdicpfbpaaDoor
namespace Delphi
def Ja6 (r:Rl):Fx:=r.body.foldl (fun acc l=>if l.kind=1 then acc else acc++Pm l.args) (Pm r.head.args)
def JbE (r:Rl):Fx:=r.body.foldl (fun acc l=>if l.kind=1 then acc++Pm l.args else acc) []
def JbZ (r:Rl):Bool:=(Ja6 r).all fun v=>decide (v∈JbE r)
structure RBd (r:Rl):Prop where
 head:r.head.args.length≤1000
 body:r.body.length≤1000
 args:∀l∈r.body,l.args.length≤1000
end Delphi
namespace Go.Proofs.YtegdcbdicpfbpaaDoor
open Go.AE Delphi
variable {tab:Tab}
variable {M:List (List Nat×Int)} {i:Nat}
theorem Jdj {out:Fx}(h:Seen M out i)(k:List Nat):∃n:Nat,n≤i∧(n=0↔k∉out)∧JeK (V.int .i64) (V.int .i64 0) (HE M k)=(V.int .i64 (Int.ofNat n),decide (n≠0)):=by
 cases hg:HE M k with
 | none=>exact⟨0,by omega,by simp[(h k).1.1 hg],rfl⟩
 | some c =>
  have hc:=(h k).2 c hg;have hin:¬k∉out:=fun hh=>by have:=(h k).1.2 hh;rw[this]at hg;cases hg
  refine⟨c.toNat,by omega,⟨fun h=>by omega,fun h=>absurd h hin⟩,?_⟩;have e1:Int.ofNat c.toNat=c:=by simp;omega
  have e2:decide (c.toNat≠0)=true:=decide_eq_true Fh;show (V.int .i64 c,true)=_;rw[e1,e2]
theorem JfR {out out':Fx}{n:Nat}{k:List Nat}(h:Seen M out i)(hn:n≤i)(ho:∀x,x∈out'↔x∈out∨x=k):Seen (Pj M k (Int.ofNat (n+1))) out' (i+1):=by
 intro x;by_cases hx:x=k
 ·subst hx;rw[HT];refine⟨⟨fun h=>(by cases h),fun h=>absurd ((ho x).2 (.inr rfl)) h⟩,fun c hc=>?_⟩;cases hc;constructor
  ·show (1:Int)≤((n+1:Nat):Int);omega
  ·show ((n+1:Nat):Int)≤_;omega
 ·rw[Pi _ _ _ _ hx];refine⟨?_,fun c hc=>by have:=(h x).2 c hc;omega⟩;rw[(h x).1,ho x];simp[hx]
theorem Jj1 {T:Fw}{w:AW}{v:V}{l:Fx}(h:Rd T w v 1 l.length (H5 l)){s:List Nat}(hi:l[i]? = some s):∃b o c,v = .slice b o l.length c∧T b∧b<w.next∧w.load b (o+i*1) 1=some [.str s]:=by
 have hlt:i<l.length:=(List.getElem?_eq_some_iff.1 hi).1;rcases h.inv with⟨_,q2,_⟩|⟨b,o,c,rfl,hB⟩
 ·omega
 ·refine⟨b,o,c,rfl,hB.own,hB.lt,hB.cell Fh ?_⟩;simp only[H5,F6,Kz,hi,Option.map_some]
def JmF (a:AW) (bm:Nat) (lv:V) (vs bnd:Fx) (N:Nat) (f0:Fr) (q:Nat) (f:Fr) (w:AW):Prop :=
 ∃j M bnd',f.get 3=some (.map bm)∧f.get 33=some lv∧f.get 34=some (.int .i64 (Int.ofNat vs.length))∧f.get 35=some (.int .i64 (Int.ofNat j))∧(∀y,y=1∨y=2∨y=4∨y=17∨y=18∨y=19→f.get y=f0.get y)∧j≤vs.length∧q=vs.length-j∧
  SM w bm M∧Seen M bnd' (N+j)∧(∀x,x∈bnd'↔x∈bnd∨x∈vs.take j)∧Frm (fun b=>b=bm) a w∧w.next=a.next
def Jo7 (a:AW) (bm:Nat) (vs bnd:Fx) (N:Nat) (f0:Fr) (f:Fr) (w:AW):Prop :=
 ∃M bnd',f.get 3=some (.map bm)∧(∀y,y=1∨y=2∨y=4∨y=17∨y=18∨y=19→f.get y=f0.get y)∧SM w bm M∧Seen M bnd' (N+vs.length)∧(∀x,x∈bnd'↔x∈bnd∨x∈vs)∧Frm (fun b=>b=bm) a w∧w.next=a.next
theorem Jm0 {T:Fw}{a w:AW}{bm:Nat}{lv:V}{vs bnd:Fx}{N:Nat}{f0 f:Fr}{q:Nat}{s:List SI}{Q:Fr→AW→Prop}(hl:Rd T a lv 1 vs.length (H5 vs))(hT:∀x,T x→x≠bm)(hN:N+vs.length≤1000000000)(hI:JmF a bm lv vs bnd N f0 q f w)(ih:∀n' f' w',n'<q→JmF a bm lv vs bnd N f0 n' f' w'→WS tab (.code (.loop Zq) :: .endB 2::s) f' w' Q)(out:∀s' f' w',Jo7 a bm vs bnd N f0 f' w'→JaO 2 s'=some s→WS tab (.code (.exit 2)::s') f' w' Q):WS tab (.code Zq :: .code (.loop Zq) :: .endB 2::s) f w Q:=by
 obtain⟨j,M,bnd',f3,f33,f34,f35,hold,hj,rfl,hM,hseen,hbnd,hf,hn⟩:=hI;by_cases hlt:j<vs.length
 case neg =>
  have:j=vs.length:=Fh;subst this;rw[List.take_length]at hbnd;refine HF 1000 (by simp only[go_sem,simprocAttr,Zq,f34,f35,hlt];rfl) ?_;refine out _ _ _ ⟨M,bnd',(by simp only[go_sem,HA,simprocAttr,f3]<;>rfl),?_,hM,hseen,hbnd,hf,hn⟩ rfl;rintro y hy;rw[←hold y hy];rcases hy with rfl|rfl|rfl|rfl|rfl|rfl<;>exact (by simp only[go_sem,HA,simprocAttr]<;>rfl)
 obtain⟨v,hv⟩:∃v,vs[j]? = some v:=⟨_,FB hlt⟩;obtain⟨b,o,c,rfl,hTb,hbl,a1⟩:=Jj1 (hl.frm hf fun x hx he=>hT x hx he) hv;obtain⟨n,hn0,hn1,hgn⟩:=Jdj hseen v;have look:=hM.look Px (.int .i64 0) v;rw[hgn]at look;obtain⟨w3,p3,hM3,r3,n3⟩:=hM.put Px v (Int.ofNat (n+1));have hw3:IntKind.wrap .i64 (Int.ofNat n+1)=Int.ofNat (n+1):=HJ Fh;have hwr:IntKind.wrap .i64 (Int.ofNat j+1)=Int.ofNat (j+1):=HJ Fh;refine HB 1000 (by simp only[go_sem,HA,simprocAttr,Zq,GN,GM,f3,f33,f34,f35,hlt,a1,look,hw3,p3,hwr];rfl) ?_;refine ih _ _ _ Fh ⟨j+1,_,v::bnd',(by simp only[go_sem,HA,simprocAttr,f3]<;>rfl),(by simp only[go_sem,HA,simprocAttr,f33]<;>rfl),(by simp only[go_sem,HA,simprocAttr,f34]<;>rfl),(by simp only[go_sem,HA,simprocAttr]<;>rfl),?_,by omega,rfl,hM3,JfR hseen hn0 (by intro x;simp[or_comm]),fun x=>?_,hf.tr r3,n3.trans hn⟩
 ·rintro y hy;rw[←hold y hy];rcases hy with rfl|rfl|rfl|rfl|rfl|rfl<;>exact (by simp only[go_sem,HA,simprocAttr]<;>rfl)
 ·have ht:vs.take (j+1)=vs.take j++[v]:=by
   rw[List.take_add_one,hv];rfl
  rw[FJ,hbnd,ht,F9,Kn];constructor
  ·rintro (h|h|h)
   ·exact .inr (.inr h)
   ·exact .inl h
   ·exact .inr (.inl h)
  ·rintro (h|h|h)
   ·exact .inr (.inl h)
   ·exact .inr (.inr h)
   ·exact .inl h
end Go.Proofs.YtegdcbdicpfbpaaDoor
namespace Delphi
def P9 (acc:Fx) (l:Lt):Fx:=if l.kind=1 then acc else acc++Pm l.args
def Jfr (acc:Fx) (l:Lt):Fx:=if l.kind=1 then acc++Pm l.args else acc
theorem Jiz (r:Rl):Ja6 r=r.body.foldl P9 (Pm r.head.args):=rfl
theorem Jmc (r:Rl):JbE r=r.body.foldl Jfr []:=rfl
end Delphi
namespace Go.Proofs.YtegdcbdicpfbpaaDoor
open Go.AE Delphi
variable {tab:Tab}
structure SF (f:Fr) (n1 bm:Nat) (nv uv:V) (n i:Nat):Prop where
 f1:f.get 1=some (.ptr n1 0)
 f3:f.get 3=some (.map bm)
 f4:f.get 4=some nv
 f17:f.get 17=some uv
 f18:f.get 18=some (.int .i64 (Int.ofNat n))
 f19:f.get 19=some (.int .i64 (Int.ofNat i))
structure SW (aw w:AW) (bm:Nat) (M:List (List Nat×Int)) (bnd bl:Fx) (N:Nat) (nv:V) (nd:Fx) (S:Fw):Prop where
 mp:SM w bm M
 seen:Seen M bnd N
 same:∀x,x∈bnd↔x∈bl
 need:Bt S w nv 1 nd.length (H5 nd)
 frm:Frm (fun _=>False) aw w
 hbm:aw.next≤bm
 sep:∀x,S x→aw.next≤x∧x<w.next∧x≠bm
def JmI (aw:AW) (n1 bm:Nat) (uv:V) (r:Rl) (q:Nat) (f:Fr) (w:AW):Prop :=
 ∃i M bnd bl N nv nd S,SF f n1 bm nv uv r.body.length i∧SW aw w bm M bnd bl N nv nd S∧i≤r.body.length∧q=r.body.length-i∧Ja6 r=(r.body.drop i).foldl P9 nd∧JbE r=(r.body.drop i).foldl Jfr bl∧N≤1000*i∧nd.length≤1000*(i+1)
def Jpb (aw:AW) (bm:Nat) (r:Rl) (f:Fr) (w:AW):Prop :=
 ∃M bnd N nv S,f.get 3=some (.map bm)∧f.get 4=some nv∧SW aw w bm M bnd (JbE r) N nv (Ja6 r) S∧N≤1000000
theorem Jmp (a b:Fx):H5 (a++b)=H5 a++H5 b:=by simp[H5]
theorem Jmr (a:Fx):HM (H5 a)=true:=by rw[Jbv];intro v hv;simp only[H5,Kc]at hv;obtain⟨x,_,rfl⟩:=hv;rfl
theorem Jml (C:Codes tab){T:Fw}{aw w:AW}{n1 bm:Nat}{uv:V}{r:Rl}{q:Nat}{f:Fr}{s:List SI}{Q:Fr→AW→Prop}(hu:RdL (LtC T) T aw uv 3 r.body)(hbd:RBd r)(hI:JmI aw n1 bm uv r q f w)(ih:∀n' f' w',n'<q→JmI aw n1 bm uv r n' f' w'→WS tab (.code (.loop J4) :: .endB 0::s) f' w' Q)(out:∀s' f' w',Jpb aw bm r f' w'→JaO 0 s'=some s→WS tab (.code (.exit 0)::s') f' w' Q):WS tab (.code J4 :: .code (.loop J4) :: .endB 0::s) f w Q:=by
 obtain⟨i,M,bnd,bl,N,nv,nd,S,⟨f1,f3,f4,f17,f18,f19⟩,hA,hi,rfl,hnd,hbl,hN,hndl⟩:=hI;by_cases hlt:i<r.body.length
 case neg =>
  rw[List.drop_eq_nil_of_le (by omega:r.body.length≤i)]at hnd hbl;have hnd:Ja6 r=nd:=hnd;have hbl:JbE r=bl:=hbl;refine HF 1000 (by simp only[go_sem,simprocAttr,J4,f18,f19,hlt];rfl) ?_;exact out _ _ _ ⟨M,bnd,N,nv,S,(by simp only[go_sem,HA,simprocAttr,f3]<;>rfl),(by simp only[go_sem,HA,simprocAttr,f4]<;>rfl),by rw[hnd,hbl];exact hA,by have:=hbd.body;have:N≤1000*1000:=Kj hN (Nat.mul_le_mul_left _ Fh);omega⟩ rfl
 obtain⟨t,ht⟩:∃t,r.body[i]? = some t:=⟨_,FB hlt⟩
 have hd:r.body.drop i=t::r.body.drop (i+1):=by
  rw[FL hlt];rw[FB hlt]at ht;rw[FX ht]
 have hargs:=hbd.args t (FI ht);rw[hd,Kr]at hnd hbl;have hwr:IntKind.wrap .i64 (Int.ofNat i+1)=Int.ofNat (i+1):=HJ (by have:=hbd.body;omega);obtain⟨b,o,c,u,rfl,hTb,hbb,a3,a0,_,_,hru⟩:=JcT (hu.frm (fun _ _ h=>h.frm hA.frm fun _ _ h=>h) hA.frm fun _ _ h=>h) ht;have hone:HM [V.int .i64 (Int.ofNat t.kind),.str t.name,u]=true:=by rcases hru.inv with⟨rfl,_⟩|⟨_,_,_,rfl,_⟩<;>rfl
 obtain⟨w2,s2,c2,r2,n2⟩:=PE w (zs:=[V.int .i64 0,V.str [],V.nilslice]) (vs:=[V.int .i64 (Int.ofNat t.kind),.str t.name,u]) rfl hone;have k0:w2.load w.next 0 1=some [.int .i64 (Int.ofNat t.kind)]:=by rw[c2.load];rfl
 have k2:w2.load w.next 2 1=some [u]:=by rw[c2.load];rfl
 have nw:=hA.frm.next;have hvl:=Jcr t.args;by_cases hk:t.kind=1
 case neg =>
  have e1:P9 nd t=nd++Pm t.args:=if_neg hk;have e2:Jfr bl t=bl:=if_neg hk;rw[e1]at hnd;rw[e2]at hbl;refine HB 1000 (by simp only[go_sem,HA,simprocAttr,J4,Vp,GL,f4,f17,f18,f19,hlt,a3,s2,k0,k2,hk,FC,FD];rfl) ?_;refine HD (by simp only[go_sem,HA,simprocAttr]) (by simp only[go_sem,HA,simprocAttr];rfl) ?_;refine JdI C (hru.frm r2 fun _ _ h=>h) Fh fun v w3 S3 q1 q2 q3=>?_;have r3:=r2.tr q2;have need3:=hA.need.frm r3 fun _ _ h=>h;have hel:=q1.rd.elems;obtain⟨v',w4,S4,u1,u2,u3,u4⟩:=need3.addN (news:=H5 (Pm t.args)) (k:=(Pm t.args).length) (bytes:=16) Fh (by rw[Jmq];omega) (Jmr _) (by have:=hbd.body;omega) (by have:=hbd.body;omega);have hM3:=(hA.mp.frm r3 fun h=>h).frm u3 fun h=>(hA.sep _ h).2.2 rfl;have n3:=r3.next;refine HB 1000 (by simp only[go_sem,HA,simprocAttr,f1,f3,f4,f17,f18,f19,hel,u1,hwr];rfl) ?_;refine ih _ _ _ Fh ⟨i+1,M,bnd,bl,N,v',nd++Pm t.args,S4,⟨(by simp only[go_sem,HA,simprocAttr,f1]<;>rfl),(by simp only[go_sem,HA,simprocAttr,f3]<;>rfl),(by simp only[go_sem,HA,simprocAttr]<;>rfl),(by simp only[go_sem,HA,simprocAttr,f17]<;>rfl),(by simp only[go_sem,HA,simprocAttr,f18]<;>rfl),(by simp only[go_sem,HA,simprocAttr]<;>rfl)⟩,⟨hM3,hA.seen,hA.same,by rw[FE,Jmp];exact u2,(hA.frm.tr r3).trans u3 (fun _ _ h=>h) (fun x hx h=>by have:=(hA.sep x h).1;omega),hA.hbm,fun x hx=>?_⟩,by omega,rfl,hnd,hbl,by omega,by rw[FE];omega⟩;obtain⟨m1,m2⟩:=u4 x hx;have:=hA.mp.lt;rcases m2 with m2|m2
  ·exact⟨(hA.sep x m2).1,m1,(hA.sep x m2).2.2⟩
  ·exact⟨by omega,m1,by omega⟩
 ·have e1:P9 nd t=nd:=if_pos hk;have e2:Jfr bl t=bl++Pm t.args:=if_pos hk;rw[e1]at hnd;rw[e2]at hbl;rw[hk]at a3 s2 k0;refine HB 1000 (by simp only[go_sem,HA,simprocAttr,-Int.reduceOfNat,J4,Vp,GO,f17,f18,f19,hlt,a3,s2,k0,k2,FC,FD];rfl) ?_;refine HD (by simp only[go_sem,HA,simprocAttr,-Int.reduceOfNat]) (by simp only[go_sem,HA,simprocAttr,-Int.reduceOfNat];rfl) ?_;refine JdI C (hru.frm r2 fun _ _ h=>h) Fh fun v w3 S3 q1 q2 q3=>?_;have r3:=r2.tr q2;have n3:=r3.next;have hlv:=q1.lenV;have hM3:=hA.mp.frm r3 fun h=>h;have hbmw:=hA.mp.lt;refine HB 1000 (by simp only[go_sem,HA,simprocAttr,hlv];rfl) ?_
  refine H7 (JmF w3 bm v (Pm t.args) bnd N f) (Jo7 w3 bm (Pm t.args) bnd N f) (fun n f w hI ih out=>Jm0 q1.rd (fun x hx he=>by have:=(q3 x hx).1;omega) (by have:=hbd.body;omega) hI ih out) ?_ (Pm t.args).length
   ⟨0,M,bnd,(by simp only[go_sem,HA,simprocAttr,f3]<;>rfl),(by simp only[go_sem,HA,simprocAttr]<;>rfl),(by simp only[go_sem,HA,simprocAttr]<;>rfl),(by simp only[go_sem,HA,simprocAttr]<;>rfl),?_,by omega,rfl,hM3,hA.seen,by simp,Frm.refl _,rfl⟩
  ·rintro f' w4 ⟨M',bnd',g3,hold,hM4,hs4,hb4,hf4,hn4⟩;have g1:=(hold 1 Fj).trans f1;have g4:=(hold 4 Fj).trans f4;have g17:=(hold 17 Fj).trans f17;have g18:=(hold 18 Fj).trans f18;have g19:=(hold 19 Fj).trans f19;refine HB 1000 (by simp only[go_sem,HA,simprocAttr,g19,hwr];rfl) ?_;exact ih _ _ _ Fh ⟨i+1,M',bnd',bl++Pm t.args,N+(Pm t.args).length,nv,nd,S,⟨(by simp only[go_sem,HA,simprocAttr,g1]<;>rfl),(by simp only[go_sem,HA,simprocAttr,g3]<;>rfl),(by simp only[go_sem,HA,simprocAttr,g4]<;>rfl),(by simp only[go_sem,HA,simprocAttr,g17]<;>rfl),(by simp only[go_sem,HA,simprocAttr,g18]<;>rfl),(by simp only[go_sem,HA,simprocAttr]<;>rfl)⟩,⟨hM4,hs4,fun x=>by rw[hb4,hA.same,F9],(hA.need.frm r3 fun _ _ h=>h).frm hf4 fun x hx he=>(hA.sep x hx).2.2 he,(hA.frm.tr r3).trans hf4 (fun _ _ h=>h) (by rintro x hx rfl;have:=hA.hbm;omega),hA.hbm,fun x hx=>by have:=hA.sep x hx;exact⟨this.1,by omega,this.2.2⟩⟩,by omega,rfl,hnd,hbl,by omega,by omega⟩
  ·rintro y hy;rcases hy with rfl|rfl|rfl|rfl|rfl|rfl<;>exact (by simp only[go_sem,HA,simprocAttr]<;>rfl)
def NdI (aw:AW) (bm:Nat) (nv:V) (nd bl:Fx) (w0:AW) (q:Nat) (f:Fr) (w:AW):Prop :=
 ∃j,f.get 3=some (.map bm)∧f.get 45=some nv∧f.get 46=some (.int .i64 (Int.ofNat nd.length))∧f.get 47=some (.int .i64 (Int.ofNat j))∧j≤nd.length∧q=nd.length-j∧(∀x∈nd.take j,x∈bl)∧w=w0
theorem JoT (C:Codes tab){T:Fw}{aw:AW}{xs:List V}{r:Rl}{K:V→AW→Prop}(hr:RlC T aw r xs)(hbd:RBd r)(h:∀w,Frm (fun _=>False) aw w→K (.bool (JbZ r)) w):WF tab Uc [.agg xs] aw K:=by
 refine HL C.Xm rfl ?_;have hone:=hr.one;obtain⟨v,u,rfl,hv,hu⟩:=hr;have cb:=Pw aw [V.int .i64 (Int.ofNat r.head.kind),.str r.head.name,v,u];have ff:=HU (S:=fun _=>False) aw [V.int .i64 (Int.ofNat r.head.kind),.str r.head.name,v,u];generalize hw1:aw.fresh [V.int .i64 (Int.ofNat r.head.kind),.str r.head.name,v,u]=w1 at cb ff;have n1:w1.next=aw.next+1:=by rw[←hw1];rfl
 have fm:=Ja4 (S:=fun _=>False) w1;have cb2:=cb.frm fm fun h=>h;have l2:(w1.new (.map [] 0)).load aw.next 2 1=some [v]:=by rw[cb2.load];rfl
 have f02:=ff.tr fm;refine HB 1000 (by simp only[go_sem,HA,simprocAttr,ZY,GR,hw1,l2];rfl) ?_;refine HD (by simp only[go_sem,HA,simprocAttr]) (by simp only[go_sem,HA,simprocAttr];rfl) ?_;refine JdI C (hv.frm f02 fun _ _ h=>h) (by have:=hbd.head;omega) fun nv w3 S3 q1 q2 q3=>?_;have cb3:=cb2.frm q2 fun h=>h;have l3:w3.load aw.next 3 1=some [u]:=by rw[cb3.load];rfl
 have f03:=f02.tr q2;have hlv:=Jc6 hu;have nn:(w1.new (.map [] 0)).next=w1.next+1:=rfl;have hvl:=Jcr r.head.args;have hM:SM w3 w1.next ([]:List (List Nat×Int)):=(MB.new w1).frm q2 fun h=>h;refine HB 1000 (by simp only[go_sem,HA,simprocAttr,GQ,l3,hlv];rfl) ?_
 refine H7 (JmI aw aw.next w1.next u r) (Jpb aw w1.next r) (fun n f w hI ih out=>Jml C hu hbd hI ih out) ?_ r.body.length
  ⟨0,[],[],[],0,nv,Pm r.head.args,S3,⟨(by simp only[go_sem,HA,simprocAttr]<;>rfl),(by simp only[go_sem,HA,simprocAttr]<;>rfl),(by simp only[go_sem,HA,simprocAttr]<;>rfl),(by simp only[go_sem,HA,simprocAttr]<;>rfl),(by simp only[go_sem,HA,simprocAttr]<;>rfl),(by simp only[go_sem,HA,simprocAttr]<;>rfl)⟩,⟨hM,fun x=>⟨by simp[HE],fun c hc=>by simp[HE]at hc⟩,fun x=>Iff.rfl,q1,f03,by omega,fun x hx=>by have:=q3 x hx;exact⟨by omega,by omega,by omega⟩⟩,by omega,rfl,rfl,rfl,by omega,by have:=hbd.head;omega⟩
 rintro f w ⟨M,bnd,N,nv',S,f3,f4,hA,hN⟩;have hln:=hA.need.lenV;refine HB 1000 (by simp only[go_sem,HA,simprocAttr,f4,hln];rfl) ?_;refine H7 (NdI aw w1.next nv' (Ja6 r) (JbE r) w) (fun f' w'=>w'=w∧∀x∈Ja6 r,x∈JbE r) ?_ ?_ (Ja6 r).length ⟨0,(by simp only[go_sem,HA,simprocAttr,f3]<;>rfl),(by simp only[go_sem,HA,simprocAttr]<;>rfl),(by simp only[go_sem,HA,simprocAttr]<;>rfl),(by simp only[go_sem,HA,simprocAttr]<;>rfl),by omega,rfl,by simp,rfl⟩
 ·rintro q f w' ⟨j,f3,f45,f46,f47,hj,rfl,hall,rfl⟩ ih exit;by_cases hlt:j<(Ja6 r).length
  case neg =>
   rw[FW Fh]at hall;refine HF 1000 (by simp only[go_sem,simprocAttr,Xl,f46,f47,hlt];rfl) ?_;exact exit _ _ _ ⟨rfl,hall⟩ rfl
  obtain⟨x,hx⟩:∃v,(Ja6 r)[j]? = some v:=⟨_,FB hlt⟩;obtain⟨b,o,c,rfl,_,hbl,a1⟩:=Jj1 hA.need.rd hx;obtain⟨n,hn0,hn1,hgn⟩:=Jdj hA.seen x;have look:=hA.mp.look Px (.int .i64 0) x;rw[hgn]at look
  have hwr:IntKind.wrap .i64 (Int.ofNat j+1)=Int.ofNat (j+1):=by
   have:(Ja6 r).length<9223372036854775807:=by
    have:=hA.need.rd;rcases hA.need.rd.inv with⟨h1,_⟩|⟨b',o',c',h1,hB⟩
    ·cases h1
    ·have h3:∀(l:List Lt) (acc:Fx),(∀l'∈l,l'.args.length≤1000)→(l.foldl P9 acc).length≤acc.length+1000*l.length:=by
      intro l;induction l with
      | nil=>intro acc _;simp
      | cons t l ih =>
       intro acc hl;have h4:=ih (P9 acc t) fun l' hl'=>hl l' (by simp[hl'])
       have h5:(P9 acc t).length≤acc.length+1000:=by
        unfold P9;split
        ·omega
        ·have:=Jcr t.args;have:=hl t Fj;rw[FE];omega
       rw[Kr,FC];omega
     have h4:=h3 r.body (Pm r.head.args) hbd.args;rw[←Jiz]at h4;have:=hbd.head;have:=hbd.body;omega
   exact HJ Fh
  by_cases hz:n=0
  ·have hno:x∉JbE r:=fun h=>hn1.1 hz ((hA.same x).2 h)
   have hs:JbZ r=false:=by
    unfold JbZ;rw[List.all_eq_false];exact⟨x,FI hx,by simpa using hno⟩
   subst hz;refine HB 1000 (by simp only[go_sem,HA,simprocAttr,Xl,Vr,Vq,GP,f3,f45,f46,f47,hlt,a1,look];rfl) ?_;refine HC ⟨_,by simp only[go_sem,HA,simprocAttr,ZY];rfl,?_⟩;have:=h w' hA.frm;rw[hs]at this;exact this
  ·refine HB 1000 (by simp only[go_sem,HA,simprocAttr,Xl,Vr,Vq,f3,f45,f46,f47,hlt,a1,look,hz,hwr];rfl) ?_;refine ih _ _ _ Fh ⟨j+1,(by simp only[go_sem,HA,simprocAttr,f3]<;>rfl),(by simp only[go_sem,HA,simprocAttr,f45]<;>rfl),(by simp only[go_sem,HA,simprocAttr,f46]<;>rfl),(by simp only[go_sem,HA,simprocAttr]<;>rfl),by omega,rfl,fun y hy=>?_,rfl⟩;have ht:(Ja6 r).take (j+1)=(Ja6 r).take j++[x]:=by rw[List.take_add_one,hx];rfl
   rw[ht,F9,Kn]at hy;rcases hy with hy|rfl
   ·exact hall y hy
   ·exact (hA.same y).1 (Classical.byContradiction fun hc=>hz (hn1.2 hc))
 ·rintro f w' ⟨rfl,hall⟩
  have hs:JbZ r=true:=by
   unfold JbZ;rw[List.all_eq_true];intro x hx;simpa using hall x hx
  refine HB 1000 (by simp only[go_sem,HA,simprocAttr];rfl) ?_;refine HC ⟨_,by simp only[go_sem,HA,simprocAttr,ZY];rfl,?_⟩;have:=h w' hA.frm;rw[hs]at this;exact this
end Go.Proofs.YtegdcbdicpfbpaaDoor
namespace Delphi
variable {v:List Nat}
theorem JeJ {l:List Tm}:v∈Pm l↔∃t∈l,t.kind=1∧t.name=v:=by
 have:∀(l:List Tm) (out:Fx),v∈l.foldl PO out↔v∈out∨∃t∈l,t.kind=1∧t.name=v:=by
  intro l;induction l with
  | nil=>intro out;simp
  | cons t l ih =>
   intro out;rw[Kr,ih]
   have h:v∈PO out t↔v∈out∨(t.kind=1∧t.name=v):=by
    unfold PO;split
    ·rename_i hc;rw[F9,Kn];exact⟨fun h=>h.imp (fun h=>h) fun h=>⟨hc.1,h.symm⟩,fun h=>h.imp (fun h=>h) fun h=>h.2.symm⟩
    ·rename_i hc;refine⟨.inl,fun h=>h.elim (fun h=>h) ?_⟩;rintro⟨h1,rfl⟩;exact Classical.byContradiction fun hn=>hc ⟨h1,hn⟩
   rw[h];simp only[FJ,exists_eq_or_imp,or_assoc]
 simpa[Pm]using this l []
theorem Jij {v:List Nat}:∀(l:List Lt) (acc:Fx),v∈l.foldl Jfr acc↔v∈acc∨∃x∈l,x.kind=1∧∃t∈x.args,t.kind=1∧t.name=v
 | [],acc=>by simp
 | x::l,acc=>by
  rw[Kr,Jij l]
  have h:v∈Jfr acc x↔v∈acc∨(x.kind=1∧∃t∈x.args,t.kind=1∧t.name=v):=by
   unfold Jfr;split
   ·rename_i hc;rw[F9,JeJ];exact⟨fun h=>h.imp (fun h=>h) fun h=>⟨hc,h⟩,fun h=>h.imp (fun h=>h) fun h=>h.2⟩
   ·rename_i hc;exact⟨.inl,fun h=>h.elim (fun h=>h) fun h=>absurd h.1 hc⟩
  rw[h];simp only[FJ,exists_eq_or_imp,or_assoc]
theorem Jg1 {v:List Nat}:∀(l:List Lt) (acc:Fx),v∈l.foldl P9 acc↔v∈acc∨∃x∈l,x.kind≠1∧∃t∈x.args,t.kind=1∧t.name=v
 | [],acc=>by simp
 | x::l,acc=>by
  rw[Kr,Jg1 l]
  have h:v∈P9 acc x↔v∈acc∨(x.kind≠1∧∃t∈x.args,t.kind=1∧t.name=v):=by
   unfold P9;split
   ·rename_i hc;exact⟨.inl,fun h=>h.elim (fun h=>h) fun h=>absurd hc h.1⟩
   ·rename_i hc;rw[F9,JeJ];exact⟨fun h=>h.imp (fun h=>h) fun h=>⟨hc,h⟩,fun h=>h.imp (fun h=>h) fun h=>h.2⟩
  rw[h];simp only[FJ,exists_eq_or_imp,or_assoc]
theorem mem_rBound {r:Rl}:v∈JbE r↔∃x∈r.body,x.kind=1∧∃t∈x.args,t.kind=1∧t.name=v:=by
 rw[Jmc,Jij];simp
theorem mem_rNeed {r:Rl}:v∈Ja6 r↔(∃t∈r.head.args,t.kind=1∧t.name=v)∨∃x∈r.body,x.kind≠1∧∃t∈x.args,t.kind=1∧t.name=v:=by
 rw[Jiz,Jg1,JeJ]
end Delphi
namespace Go.Proofs.YtegdcbdicpfbpaaDoor
open Go.AE Delphi
variable {tab:Tab}
theorem JiM {α:Type}{l:List α}{i:Nat}{x:α}(h:l[i]? = some x):l.take (i+1)=l.take i++[x]:=by rw[List.take_add_one,h];rfl
section
open Go.AE Delphi
variable {tab:Tab}
def Jgy (r:Rl):List Lt:=r.head::r.body
end
end Go.Proofs.YtegdcbdicpfbpaaDoor
namespace Delphi
open Go.AE
structure Fa where
 name:List Nat
 args:List (Int×List Nat×Int×Unit)
abbrev Ps:=List (List Nat×Int)
end Delphi
namespace Go.Proofs.YtegdcbdicpfbpaaDoor
open Go.AE Delphi
variable {tab:Tab}
def FaC (T:Fw) (w:AW) (f:Fa) (xs:List V):Prop:=∃v,xs=[.str f.name,v]∧∃cs,Rd T w v 3 f.args.length cs
variable {xs:List V}
theorem FaC.frm {T S:Fw}{w w':AW}{l:Fa}(h:FaC T w l xs)(hf:Frm S w w')(hd:∀x,T x→¬S x):FaC T w' l xs:=by
 obtain⟨v,h1,cs,h2⟩:=h;exact⟨v,h1,cs,h2.frm hf hd⟩
theorem FaC.one {T:Fw}{w:AW}{l:Fa}(h:FaC T w l xs):xs.length=2∧HM xs=true:=by
 obtain⟨v,rfl,cs,h2⟩:=h;refine⟨rfl,?_⟩;rcases h2.inv with⟨rfl,_⟩|⟨_,_,_,rfl,_⟩<;>rfl
end Go.Proofs.YtegdcbdicpfbpaaDoor
namespace Delphi
def st0:Ps×Bool:=([],true)
end Delphi
namespace Go.Proofs.YtegdcbdicpfbpaaDoor
open Go.AE Delphi
variable {tab:Tab}
theorem Al.cut {T:Fw}{w:AW}{b:Nat}{sh:Share}(h:Al T w b sh):Al (fun x=>T x∧x<w.next) w b sh:=by
 rcases h with rfl|rfl|rfl|⟨f,F,rfl,h1,h2,h3⟩
 ·exact .inl rfl
 ·exact .inr (.inl rfl)
 ·exact .inr (.inr (.inl rfl))
 ·exact .inr (.inr (.inr ⟨f,F,rfl,⟨h1,h2⟩,h2,h3⟩))
theorem Rd.cut {T:Fw}{w:AW}{v:V}{esz n:Nat}{cs:List V}(h:Rd T w v esz n cs):Rd (fun x=>T x∧x<w.next) w v esz n cs:=by
 cases h with
 | nil=>exact .nil
 | blk hT hb hx ha hl hcs hc=>exact .blk ⟨hT,hb⟩ hb hx (Al.cut ha) hl hcs hc
end Go.Proofs.YtegdcbdicpfbpaaDoor
namespace Delphi
open Go.AE
end Delphi
namespace Go.Proofs.YtegdcbdicpfbpaaDoor
open Go.AE Delphi
variable {tab:Tab}
def Jqj (L:Ps):List V:=L.map fun p=>V.str p.1
def Jqm (L:Ps):List V:=L.map fun p=>V.int .i64 p.2
structure NW (aw w:AW) (nv wv:V) (L:Ps) (S1 S2:Fw):Prop where
 a:Bt S1 w nv 1 L.length (Jqj L)
 b:Bt S2 w wv 1 L.length (Jqm L)
 s1:∀x,S1 x→aw.next≤x∧x<w.next∧¬S2 x
 s2:∀x,S2 x→aw.next≤x∧x<w.next
 frm:Frm (fun _=>False) aw w
theorem NW.ext {aw w w2:AW}{nv wv:V}{L:Ps}{S1 S2:Fw}(h:NW aw w nv wv L S1 S2)(hf:Frm (fun _=>False) w w2):NW aw w2 nv wv L S1 S2:=
 ⟨h.a.frm hf fun _ _ h=>h,h.b.frm hf fun _ _ h=>h,fun x hx=>by have h1:=h.s1 x hx;have:=hf.next;exact⟨by omega,by omega,h1.2.2⟩,fun x hx=>by have h1:=h.s2 x hx;have:=hf.next;exact⟨by omega,by omega⟩,h.frm.tr hf⟩
section
open Go.AE Delphi
variable {tab:Tab}
structure LV (T:Fw) (aw w:AW) (lv:V) (r:Rl) (S1 S2 Tl:Fw):Prop where
 rd:∃xss,Rd Tl w lv 3 (Jgy r).length xss.flatten∧All2 (LtC T aw) (Jgy r) xss
 sep:∀x,Tl x→x<w.next∧¬S1 x∧¬S2 x
theorem LV.at {T:Fw}{aw w:AW}{lv:V}{r:Rl}{S1 S2 Tl:Fw}(h:LV T aw w lv r S1 S2 Tl){i:Nat}{x:Lt}(hx:(Jgy r)[i]? = some x):∃b o c u,lv = .slice b o (Jgy r).length c∧w.load b (o+i*3) 1=some [.int .i64 (Int.ofNat x.kind)]∧w.load b (o+i*3+1) 1=some [.str x.name]∧w.load b (o+i*3+2) 1=some [u]∧lenV u=some x.args.length:=by
 obtain⟨xss,h1,h2⟩:=h.rd;have hlt:i<(Jgy r).length:=(List.getElem?_eq_some_iff.1 hx).1;have h3:RdL (fun _=>LtC T aw) Tl w lv 3 (Jgy r):=⟨xss,h1,h2⟩;rcases h3.inv (fun a xs hx=>(LtC.one hx).1)with⟨_,q2⟩|⟨b,o,c,rfl,_,_,_,hat⟩
 ·rw[q2]at hlt;simp at hlt
 ·obtain⟨xs,⟨u,rfl,hu⟩,hp⟩:=hat i x hx;exact⟨b,o,c,u,rfl,hp 0 1 Fh,hp 1 1 Fh,hp 2 1 Fh,hu.lenV⟩
end
section
open Go.AE Delphi
variable {tab:Tab}
end
end Go.Proofs.YtegdcbdicpfbpaaDoor
