/- A part of the proof. -/
import Derived.WalkKit
import Derived.Orders
import Derived.Scope
open Int renaming ofNat → Fq
set_option linter.unusedVariables false
set_option linter.unusedSectionVars false
theorem Fh {p:Prop} (h:p:=by omega):p:=h
theorem Fj {p:Prop} (h:p:=by simp):p:=h
theorem Fp {p:Prop} (h:p:=by kernel_rfl):p:=h
abbrev Fw:=Nat→Prop
abbrev Fx:=List (List Nat)
abbrev Fy:=List (List Int)
abbrev FB:=@List.getElem?_eq_getElem
abbrev FC:=@List.length_cons
abbrev FD:=@List.length_nil
abbrev FE:=@List.length_append
abbrev FH:=@Nat.le_refl
abbrev FI:=@List.mem_of_getElem?
abbrev FJ:=@List.mem_cons
abbrev FK:=@Nat.lt_of_lt_of_le
abbrev FL:=@List.drop_eq_getElem_cons
abbrev FM:=@Bool.false_eq_true
abbrev FO:=@List.mem_cons_of_mem
abbrev FQ:=@Option.some.injEq
abbrev FT:=@Bool.and_eq_true
abbrev FU:=@List.length_take
abbrev FV:=@Nat.zero_add
abbrev FW:=@Nat.lt_succ_self
abbrev FX:=@List.take_of_length_le
abbrev FY:=@Option.some.inj
abbrev FZ:=@List.drop_zero
abbrev F3:=@List.not_mem_nil
abbrev F4:=@List.getElem?_append_right
abbrev F5:=@List.getElem?_append_left
abbrev F6:=@List.append_assoc
abbrev F7:=@List.getElem?_map
abbrev F9:=@List.length_map
abbrev Ka:=@List.mem_append
abbrev Kb:=@List.length_singleton
abbrev Kc:=@List.append_nil
abbrev Ke:=@List.mem_map
abbrev Kg:=@List.getElem?_cons_zero
abbrev Kh:=@List.getElem?_cons_succ
abbrev Ki:=@List.length_drop
abbrev Kj:=@Nat.add_assoc
abbrev Kk:=@Nat.le_trans
abbrev Kl:=@Nat.lt_irrefl
abbrev Km:=@List.length_filter_le
abbrev Kn:=@List.length_set
abbrev Ko:=@List.mem_singleton
abbrev Kq:=@List.getElem?_set
abbrev Kr:=@List.getElem?_drop
abbrev Kt:=@List.getElem?_take_of_lt
abbrev Ku:=@List.foldl_cons
abbrev Kv:=@List.map_cons
abbrev Kw:=@List.map_nil
abbrev Kz:=@List.flatMap_cons
abbrev KA:=@Nat.add_comm
abbrev KC:=@Nat.mul_one
abbrev KD:=@Nat.min_eq_left
abbrev KE:=@List.getElem_mem
abbrev KF:=@Nat.add_zero
abbrev KG:=@Nat.lt_or_ge
abbrev KH:=@Nat.le_of_lt
abbrev KI:=@List.mem_filter
namespace Go.AE
structure F8 (α:Type) where
 a0:α
 a1:α
 a2:α
 a3:α
 a4:α
 a5:α
 a6:α
 a7:α
namespace F8
variable {α:Type}
def nth (f:F8 α):Nat→α
 | 0=>f.a0
 | 1=>f.a1
 | 2=>f.a2
 | 3=>f.a3
 | 4=>f.a4
 | 5=>f.a5
 | 6=>f.a6
 | _=>f.a7
def set (x:α):Nat→F8 α→F8 α
 | 0,⟨a0,a1,a2,a3,a4,a5,a6,a7⟩=>⟨x,a1,a2,a3,a4,a5,a6,a7⟩
 | 1,⟨a0,a1,a2,a3,a4,a5,a6,a7⟩=>⟨a0,x,a2,a3,a4,a5,a6,a7⟩
 | 2,⟨a0,a1,a2,a3,a4,a5,a6,a7⟩=>⟨a0,a1,x,a3,a4,a5,a6,a7⟩
 | 3,⟨a0,a1,a2,a3,a4,a5,a6,a7⟩=>⟨a0,a1,a2,x,a4,a5,a6,a7⟩
 | 4,⟨a0,a1,a2,a3,a4,a5,a6,a7⟩=>⟨a0,a1,a2,a3,x,a5,a6,a7⟩
 | 5,⟨a0,a1,a2,a3,a4,a5,a6,a7⟩=>⟨a0,a1,a2,a3,a4,x,a6,a7⟩
 | 6,⟨a0,a1,a2,a3,a4,a5,a6,a7⟩=>⟨a0,a1,a2,a3,a4,a5,x,a7⟩
 | _,⟨a0,a1,a2,a3,a4,a5,a6,a7⟩=>⟨a0,a1,a2,a3,a4,a5,a6,x⟩
theorem nth_set {f:F8 α}{x:α}{d e:Nat}(hd:d<8)(he:e<8):(f.set x d).nth e=if e=d then x else f.nth e:=by
 obtain⟨a0,a1,a2,a3,a4,a5,a6,a7⟩:=f
 match d,hd with
 | 0,_|1,_|2,_|3,_|4,_|5,_|6,_|7,_ =>
  match e,he with
  | 0,_|1,_|2,_|3,_|4,_|5,_|6,_|7,_=>rfl
end F8
def FN (α:Type):Nat→Type
 | 0=>Option α
 | n+1=>F8 (FN α n)
def FN.e (α:Type):(n:Nat)→FN α n
 | 0=>(none:Option α)
 | n+1=>let x:=FN.e α n;(⟨x,x,x,x,x,x,x,x⟩:F8 (FN α n))
structure GG (α:Type) (n:Nat) where
 g:FN α n→Option α
 p:Option α→FN α n→FN α n
def GG.up {α:Type} {n:Nat} (s:GG α n):Nat→GG α (n+1)
 | 0=>⟨fun f=>s.g (F8.a0 f),fun v f=>match f with|⟨a0,a1,a2,a3,a4,a5,a6,a7⟩=>(⟨s.p v a0,a1,a2,a3,a4,a5,a6,a7⟩:F8 (FN α n))⟩
 | 1=>⟨fun f=>s.g (F8.a1 f),fun v f=>match f with|⟨a0,a1,a2,a3,a4,a5,a6,a7⟩=>(⟨a0,s.p v a1,a2,a3,a4,a5,a6,a7⟩:F8 (FN α n))⟩
 | 2=>⟨fun f=>s.g (F8.a2 f),fun v f=>match f with|⟨a0,a1,a2,a3,a4,a5,a6,a7⟩=>(⟨a0,a1,s.p v a2,a3,a4,a5,a6,a7⟩:F8 (FN α n))⟩
 | 3=>⟨fun f=>s.g (F8.a3 f),fun v f=>match f with|⟨a0,a1,a2,a3,a4,a5,a6,a7⟩=>(⟨a0,a1,a2,s.p v a3,a4,a5,a6,a7⟩:F8 (FN α n))⟩
 | 4=>⟨fun f=>s.g (F8.a4 f),fun v f=>match f with|⟨a0,a1,a2,a3,a4,a5,a6,a7⟩=>(⟨a0,a1,a2,a3,s.p v a4,a5,a6,a7⟩:F8 (FN α n))⟩
 | 5=>⟨fun f=>s.g (F8.a5 f),fun v f=>match f with|⟨a0,a1,a2,a3,a4,a5,a6,a7⟩=>(⟨a0,a1,a2,a3,a4,s.p v a5,a6,a7⟩:F8 (FN α n))⟩
 | 6=>⟨fun f=>s.g (F8.a6 f),fun v f=>match f with|⟨a0,a1,a2,a3,a4,a5,a6,a7⟩=>(⟨a0,a1,a2,a3,a4,a5,s.p v a6,a7⟩:F8 (FN α n))⟩
 | _=>⟨fun f=>s.g (F8.a7 f),fun v f=>match f with|⟨a0,a1,a2,a3,a4,a5,a6,a7⟩=>(⟨a0,a1,a2,a3,a4,a5,a6,s.p v a7⟩:F8 (FN α n))⟩
theorem GG.up_g {α:Type}{n:Nat}(s:GG α n)(d:Nat)(f:FN α (n+1)):(s.up d).g f=s.g (F8.nth f d):=by
 match d with
 | 0|1|2|3|4|5|6=>rfl
 | _+7=>rfl
theorem GG.up_p {α:Type}{n:Nat}(s:GG α n)(d:Nat)(v:Option α)(f:FN α (n+1)):(s.up d).p v f=F8.set (s.p v (F8.nth f d)) d f:=by
 match d with
 | 0|1|2|3|4|5|6=>rfl
 | _+7=>rfl
def Io (α:Type):(n:Nat)→Nat→GG α n
 | 0,_=>⟨fun x=>x,fun v _=>v⟩
 | n+1,k=>(Io α n (Nat.mod k (Nat.pow 8 n))).up (Nat.div k (Nat.pow 8 n))
theorem JtL (n:Nat):0<Nat.pow 8 n:=Nat.pow_pos Fh
theorem Qy {α:Type}:∀{n k j:Nat} {v:Option α} {f:FN α n},k<8 ^ n→j<8 ^ n→(Io α n j).g ((Io α n k).p v f)=if j=k then v else (Io α n j).g f
 | 0,k,j,v,f,hk,hj=>by
  have:j=k:=by simp at hk hj;omega
  rw[if_pos this];rfl
 | n+1,k,j,v,f,hk,hj=>by
  have hp:0<8 ^ n:=JtL n;have hps:8 ^ (n+1)=8 ^ n*8:=Nat.pow_succ 8 n;have dk:k / 8 ^ n<8:=Nat.div_lt_of_lt_mul Fh;have dj:j / 8 ^ n<8:=Nat.div_lt_of_lt_mul Fh;show ((Io α n (j % 8 ^ n)).up (j / 8 ^ n)).g (((Io α n (k % 8 ^ n)).up (k / 8 ^ n)).p v f)=if j=k then v else ((Io α n (j % 8 ^ n)).up (j / 8 ^ n)).g f;rw[GG.up_g,GG.up_p,GG.up_g];refine (congrArg _ (F8.nth_set (α:=FN α n) (f:=f) dk dj)).trans ?_;by_cases h:j / 8 ^ n=k / 8 ^ n
  ·rw[if_pos h,Qy (Nat.mod_lt _ hp) (Nat.mod_lt _ hp),h];have e1:=Nat.div_add_mod j (8 ^ n);have e2:=Nat.div_add_mod k (8 ^ n);by_cases h2:j % 8 ^ n=k % 8 ^ n
   ·rw[if_pos h2,if_pos (by rw[←e1,←e2,h,h2])]
   ·rw[if_neg h2,if_neg (by rintro rfl;exact h2 rfl)]
  ·rw[if_neg h,if_neg (by rintro rfl;exact h rfl)]
theorem Jns {α:Type}:∀{n k:Nat},(Io α n k).g (FN.e α n)=none
 | 0,k=>rfl
 | n+1,k=>by
  show ((Io α n (k % 8 ^ n)).up (k / 8 ^ n)).g _=none;rw[GG.up_g]
  have:∀d,F8.nth (FN.e α (n+1)) d=FN.e α n:=by
   intro d
   match d with
   | 0|1|2|3|4|5|6=>rfl
   | _+7=>rfl
  rw[this,Jns]
structure T (α:Type) where
 lo:FN α 3
 hi:FN α 6
 far:List (Nat×Option α)
namespace T
variable {α:Type}
def Nr (k:Nat):List (Nat×Option α)→Option α
 | []=>none
 | (x,v)::l=>match Nat.beq x k with
  | true=>v
  | false=>Nr k l
structure GT (α:Type) where
 g:T α→Option α
 p:Option α→T α→T α
def Dn (α:Type) (k:Nat):GT α :=
 match Nat.blt k 512 with
 | true=>⟨fun t=>(Io α 3 k).g t.lo,fun v t=>match t with|⟨lo,hi,far⟩=>⟨(Io α 3 k).p v lo,hi,far⟩⟩
 | false=>match Nat.blt k 262144 with
  | true=>⟨fun t=>(Io α 6 k).g t.hi,fun v t=>match t with|⟨lo,hi,far⟩=>⟨lo,(Io α 6 k).p v hi,far⟩⟩
  | false=>⟨fun t=>Nr k t.far,fun v t=>match t with|⟨lo,hi,far⟩=>⟨lo,hi,(k,v)::far⟩⟩
@[irreducible] def get (t:T α) (k:Nat):Option α:=(Dn α k).g t
@[irreducible] def put (t:T α) (k:Nat) (x:α):T α:=(Dn α k).p (some x) t
@[irreducible] def del (t:T α) (k:Nat):T α:=(Dn α k).p none t
@[irreducible] def e:T α:=⟨FN.e α 3,FN.e α 6,[]⟩
variable {k j:Nat} {t:T α}
theorem Jlz {v:Option α}:(Dn α j).g ((Dn α k).p v t)=if j=k then v else (Dn α j).g t:=by
 obtain⟨lo,hi,far⟩:=t;unfold Dn;cases h1:Nat.blt k 512 with
 | true =>
  have k1:k<512:=Nat.blt_eq.mp h1;cases h2:Nat.blt j 512 with
  | true=>exact Qy (n:=3) k1 (Nat.blt_eq.mp h2)
  | false =>
   have j1:¬j<512:=fun h=>by rw[Nat.blt_eq.mpr h]at h2;cases h2
   rw[if_neg Fh];cases h3:Nat.blt j 262144<;>rfl
 | false =>
  have k1:¬k<512:=fun h=>by rw[Nat.blt_eq.mpr h]at h1;cases h1
  cases h3:Nat.blt k 262144 with
  | true =>
   have k2:k<262144:=Nat.blt_eq.mp h3;cases h2:Nat.blt j 512 with
   | true =>
    have:=Nat.blt_eq.mp h2;rw[if_neg Fh]
   | false =>
    cases h4:Nat.blt j 262144 with
    | true=>exact Qy (n:=6) k2 (Nat.blt_eq.mp h4)
    | false =>
     have j1:¬j<262144:=fun h=>by rw[Nat.blt_eq.mpr h]at h4;cases h4
     rw[if_neg Fh]
  | false =>
   have k2:¬k<262144:=fun h=>by rw[Nat.blt_eq.mpr h]at h3;cases h3
   cases h2:Nat.blt j 512 with
   | true =>
    have:=Nat.blt_eq.mp h2;rw[if_neg Fh]
   | false =>
    cases h4:Nat.blt j 262144 with
    | true =>
     have:=Nat.blt_eq.mp h4;rw[if_neg Fh]
    | false =>
     show Nr j ((k,v)::far)=_;simp only[Nr];cases hb:Nat.beq k j with
     | true=>rw[if_pos (Nat.eq_of_beq_eq_true hb).symm]
     | false=>rw[if_neg (fun h=>by rw[h,Nat.beq_refl]at hb;cases hb)]
theorem get_e (k:Nat):(T.e:T α).get k=none:=by
 unfold get e Dn;split
 ·exact Jns
 ·split
  ·exact Jns
  ·rfl
variable {x:α}
theorem get_put_same:(t.put k x).get k=some x:=by
 unfold get put;rw[Jlz,if_pos rfl]
theorem get_put_ne (h:j≠k):(t.put k x).get j=t.get j:=by
 unfold get put;rw[Jlz,if_neg h]
theorem get_put {u:α}(h:(t.put k x).get j=some u):(j=k∧u=x)∨(j≠k∧t.get j=some u):=by
 by_cases hj:j=k
 ·subst hj;rw[get_put_same]at h;exact .inl ⟨rfl,(FY h).symm⟩
 ·rw[get_put_ne hj]at h;exact .inr ⟨hj,h⟩
theorem get_delk:(t.del k).get j=if j=k then none else t.get j:=by
 unfold get del;rw[Jlz]
theorem get_del {u:α}(h:(t.del k).get j=some u):j≠k∧t.get j=some u:=by
 rw[get_delk]at h;by_cases hj:j=k
 ·rw[if_pos hj]at h;cases h
 ·rw[if_neg hj]at h;exact⟨hj,h⟩
end T
inductive Cap where
 | known (c:Nat)
 | upTo (esz:Nat)       -- as far as the block goes;elements of so many cells
 deriving DecidableEq
inductive V where
 | undef
 | bool (b:Bool)
 | int (k:IntKind) (n:Int)
 | str (l:List Nat)
 | ptr (b off:Nat)
 | nilptr
 | slice (b off len:Nat) (cap:Cap)
 | nilslice
 | map (b:Nat)
 | nilmap
 | func (fn:Fn) (first captured:List V)
 | nilfunc
 | iface (t:TypeId) (v:V)
 | niliface
 | agg (l:List V)
 | tuple (l:List V)
 deriving Inhabited
structure Emb where
 c:Nat
 s:Nat
 tot:Nat
abbrev Map:=Nat→Option Emb
def LH (s:ByteArray):List Nat:=s.data.toList.map UInt8.toNat
mutual
def VR (m:Map):V→Value→Prop
 | .undef,v=>v=undef
 | .bool b,v=>v = .bool b
 | .int k n,v=>v = .int k n
 | .str l,v=>∃s,v = .string s∧LH s=l
 | .ptr b off,v=>∃e,m b=some e∧v = .pointer (some ⟨e.c,e.s+off,none⟩)
 | .nilptr,v=>v = .pointer none
 | .slice b off len cap,v=>∃e,m b=some e∧match cap with
  | .known c=>v = .slice (some ⟨e.c,e.s+off,none⟩) len c
  | .upTo esz=>∃a cp,v = .slice (some a) len cp∧len≤cp∧((a=⟨e.c,e.s+off,none⟩∧e.s+off+cp*esz=e.tot)∨(cp=0∧e.s+off=e.tot))
 | .nilslice,v=>v = .slice none 0 0
 | .map b,v=>∃e,m b=some e∧v = .map (some e.c)
 | .nilmap,v=>v = .map none
 | .func fn f c,v=>∃f' c',v = .func fn f' c'∧VRs m f f'.toList∧VRs m c c'.toList
 | .nilfunc,v=>v = .nilFunc
 | .iface t x,v=>∃y,v = .iface t y∧VR m x y
 | .niliface,v=>v = .nilIface
 | .agg l,v=>∃a,v = .agg a∧VRs m l a.toList
 | .tuple l,v=>∃a,v = .tuple a∧VRs m l a.toList
def VRs (m:Map):List V→List Value→Prop
 | [],l=>l=[]
 | x::xs,l=>∃y ys,l=y::ys∧VR m x y∧VRs m xs ys
end
def Map.le (m m':Map):Prop:=∀b e,m b=some e→m' b=some e
theorem Map.le.refl (m:Map):m.le m:=fun _ _ h=>h
theorem Map.le.trans {m m' m'':Map}(h:m.le m')(h':m'.le m''):m.le m'':=fun _ _ h1=>h' _ _ (h _ _ h1)
mutual
theorem VR.mono {m m':Map}(hm:m.le m'):∀{x:V} {v:Value},VR m x v→VR m' x v:=by
 intro x v h
 match x with
 | .undef | .bool _ | .int _ _ | .str _ | .nilptr | .nilslice | .nilmap | .nilfunc | .niliface=>exact h
 | .ptr b off=>obtain⟨e,h1,h2⟩:=h;exact⟨e,hm _ _ h1,h2⟩
 | .slice b off len cap=>obtain⟨e,h1,h2⟩:=h;exact⟨e,hm _ _ h1,h2⟩
 | .map b=>obtain⟨e,h1,h2⟩:=h;exact⟨e,hm _ _ h1,h2⟩
 | .func fn f c=>obtain⟨f',c',h1,h2,h3⟩:=h;exact⟨f',c',h1,VRs.mono hm h2,VRs.mono hm h3⟩
 | .iface t y=>obtain⟨y',h1,h2⟩:=h;exact⟨y',h1,VR.mono hm h2⟩
 | .agg l=>obtain⟨a,h1,h2⟩:=h;exact⟨a,h1,VRs.mono hm h2⟩
 | .tuple l=>obtain⟨a,h1,h2⟩:=h;exact⟨a,h1,VRs.mono hm h2⟩
theorem VRs.mono {m m':Map}(hm:m.le m'):∀{x:List V} {v:List Value},VRs m x v→VRs m' x v:=by
 intro x v h
 match x with
 | []=>exact h
 | x::xs=>obtain⟨y,ys,h1,h2,h3⟩:=h;exact⟨y,ys,h1,VR.mono hm h2,VRs.mono hm h3⟩
end
theorem VRs.length {m:Map}:∀{l:List V} {l':List Value},VRs m l l'→l'.length=l.length
 | [],l',h=>by cases h;rfl
 | x::xs,l',h=>by obtain⟨y,ys,rfl,_,h3⟩:=h;simp[VRs.length h3]
theorem VRs.get {m:Map}:∀{l:List V} {l':List Value},VRs m l l'→∀{i:Nat} {x:V},l[i]? = some x→∃y,l'[i]? = some y∧VR m x y
 | [],l',h,i,x,hx=>by simp at hx
 | x::xs,l',h,i,z,hx=>by
  obtain⟨y,ys,rfl,h2,h3⟩:=h;cases i with
  | zero=>simp at hx;subst hx;exact⟨y,by simp,h2⟩
  | succ i=>simp at hx;simpa using VRs.get h3 hx
theorem VRs.of_get {m:Map}:∀{l:List V} {l':List Value},l'.length=l.length→(∀(i:Nat) (x:V) (y:Value),l[i]? = some x→l'[i]? = some y→VR m x y)→VRs m l l'
 | [],l',h,_=>by cases l' with|nil=>rfl|cons _ _=>simp at h
 | x::xs,l',h,hg=>by
  cases l' with
  | nil=>simp at h
  | cons y ys=>exact⟨y,ys,rfl,hg 0 x y Fj Fj,VRs.of_get (by simpa using h) (fun i a b ha hb=>hg (i+1) a b (by simpa using ha) (by simpa using hb))⟩
theorem VRs.append {m:Map}:∀{l:List V} {l':List Value} {k:List V} {k':List Value},VRs m l l'→VRs m k k'→VRs m (l++k) (l'++k')
 | [],l',k,k',h,h'=>by cases h;exact h'
 | x::xs,l',k,k',h,h'=>by obtain⟨y,ys,rfl,h2,h3⟩:=h;exact⟨y,ys++k',rfl,h2,VRs.append h3 h'⟩
class Globs where
 gl:List (Nat×List V)
def GlobIn [Globs] (m:Map):Prop:=∀i g l,Globs.gl[i]? = some (g,l)→m i=some ⟨g,0,l.length⟩
theorem GlobIn.le [Globs]{m m':Map}(h:GlobIn m)(hm:m.le m'):GlobIn m':=fun i g l hg=>hm _ _ (h i g l hg)
def NM (g:Nat):List (Nat×List V)→Nat→Option Nat
 | [],_=>none
 | (x,_)::l,i=>match Nat.beq x g with
  | true=>some i
  | false=>NM g l (i+1)
theorem Jpg {g:Nat}:∀{l:List (Nat×List V)} {k i:Nat},NM g l k=some i→∃j n,i=k+j∧l[j]? = some (g,n)
 | [],k,i,h=>by cases h
 | (x,n)::l,k,i,h=>by
  simp only[NM]at h;split at h
  ·rename_i hb;cases h;have:=Nat.eq_of_beq_eq_true hb;subst this;exact⟨0,n,rfl,rfl⟩
  ·obtain⟨j,n',h1,h2⟩:=Jpg h;exact⟨j+1,n',by omega,by simpa using h2⟩
def pow10V:List V:=[.int .u64 1,.int .u64 10,.int .u64 100,.int .u64 1000,.int .u64 10000,.int .u64 100000,.int .u64 1000000,.int .u64 10000000,.int .u64 100000000,.int .u64 1000000000,.int .u64 10000000000,.int .u64 100000000000,.int .u64 1000000000000,.int .u64 10000000000000,.int .u64 100000000000000,.int .u64 1000000000000000,.int .u64 10000000000000000,.int .u64 100000000000000000,.int .u64 1000000000000000000,.int .u64 10000000000000000000]
section
variable [Globs]
inductive Share where
 | own
 | lax
 | fam (f:Nat)
 | ro
 deriving DecidableEq
inductive Blk where
 | cells (l:List V) (sh:Share)
 | map (es:List (V×V×Nat)) (clock:Nat)
 | mapIter (m:Option Nat) (since:Nat) (seen:List Nat) (last:Nat)
structure Fam where
 keep:Nat
 floor:Nat
 last:Nat
structure AW where
 heap:T Blk
 next:Nat
 fams:T Fam
def AW.empty:AW:=⟨.e,0,.e⟩
def AW.alive (aw:AW) (b:Nat):Share→Bool
 | .fam f=>match aw.fams.get f with
  | some F=>Nat.beq b F.keep||Nat.ble F.floor b
  | none=>false
 | _=>true
def CR (m:Map) (l:List V) (s:Nat) (cur:Array Value):Prop:=∀(i:Nat) (x:V),l[i]? = some x→∃y,cur[s+i]? = some y∧VR m x y
variable {m:Map} {l:List V}
theorem CR.mono {m':Map}(hm:m.le m'){s:Nat}{cur:Array Value}(h:CR m l s cur):CR m' l s cur:=
 fun i x hx=>let ⟨y,h1,h2⟩:=h i x hx;⟨y,h1,h2.mono hm⟩
def ER (m:Map):List (V×V×Nat)→List MapEntry→Prop
 | [],l=>l=[]
 | (k,v,n)::xs,l=>∃e es,l=e::es∧VR m k e.key∧VR m v e.val∧e.born=n∧ER m xs es
theorem ER.mono {m m':Map}(hm:m.le m'):∀{l:List (V×V×Nat)} {l':List MapEntry},ER m l l'→ER m' l l'
 | [],_,h=>h
 | (k,v,n)::xs,_,h=>by
  obtain⟨e,es,h1,h2,h3,h4,h5⟩:=h;exact⟨e,es,h1,h2.mono hm,h3.mono hm,h4,ER.mono hm h5⟩
def MR (m:Map):Option Nat→Option Nat→Prop
 | none,r=>r=none
 | some b,r=>∃e,m b=some e∧r=some e.c
theorem MR.mono {m':Map}(hm:m.le m'){x r:Option Nat}(h:MR m x r):MR m' x r:=by
 cases x with
 | none=>exact h
 | some b=>obtain⟨e,h1,h2⟩:=h;exact⟨e,hm _ _ h1,h2⟩
def BR (aw:AW) (m:Map) (w:World) (b:Nat) (e:Emb):Blk→Prop
 | .cells l sh=>aw.alive b sh=true→∃cur t lo hi,w.heap[e.c]? = some (.cells cur t (lo,hi))∧cur.size=e.tot∧e.s+l.length≤e.tot∧(sh = .ro∨(lo=hi∧(sh = .own→e.s=0))∨(sh≠.own∧cur.size≤lo))∧CR m l e.s cur
 | .map es ck=>∃es',w.heap[e.c]? = some (.map es' ck)∧ER m es es'.toList
 | .mapIter x since seen last=>e.s=0∧∃r,w.heap[e.c]? = some (.mapIter r since seen.toArray last)∧MR m x r
def Blk.mates:Blk→Blk→Bool
 | .cells _ (.fam f),.cells _ (.fam g)=>f==g
 | .cells _ .ro,.cells _ .ro=>true
 | _,_=>false
def AW.live (aw:AW) (b:Nat):Blk→Bool
 | .cells _ sh=>aw.alive b sh
 | _=>true
structure R (aw:AW) (w:World) (m:Map) (base:Nat):Prop where
 glob:GlobIn m
 gblk:∀(i g:Nat) (l:List V),Globs.gl[i]? = some (g,l)→aw.heap.get i=some (.cells l .ro)
 famlt:∀b e l f,m b=some e→aw.heap.get b=some (.cells l (.fam f))→f<aw.next
 size:base≤w.heap.size
 lt:∀b e,m b=some e→b<aw.next∧e.c<w.heap.size
 base:∀b e,m b=some e→base≤e.c∨∃l,aw.heap.get b=some (.cells l .ro)
 blk:∀b e x,m b=some e→aw.heap.get b=some x→BR aw m w b e x
 apart:∀b e x b' e' x',m b=some e→aw.heap.get b=some x→m b'=some e'→aw.heap.get b'=some x'→aw.live b x=true→aw.live b' x'=true→b≠b'→e.c=e'.c→x.mates x'=true
 fam:∀f F,aw.fams.get f=some F→F.floor≤aw.next∧∀b e l e' l',m b=some e→aw.heap.get b=some (.cells l (.fam f))→aw.alive b (.fam f)=true→
  m F.last=some e'→aw.heap.get F.last=some (.cells l' (.fam f))→e.c=e'.c→e.s+l.length≤e'.s+l'.length
variable {aw:AW} {w:World} {base:Nat} {x:Blk}
theorem R.gnew (hR:R aw w m base){i g:Nat}(h:Globs.gl[i]? = some (g,l)):(aw.heap.put aw.next x).get i=some (.cells l .ro):=by
 have:=(hR.lt i _ (hR.glob i g l h)).1;rw[T.get_put_ne Fh];exact hR.gblk i g l h
variable {b:Nat}
theorem R.gput (hR:R aw w m base){y:Blk}(hx:aw.heap.get b=some x)(hn:∀l,x≠.cells l .ro){i g:Nat}(h:Globs.gl[i]? = some (g,l)):(aw.heap.put b y).get i=some (.cells l .ro):=by
 have h1:=hR.gblk i g l h;rw[T.get_put_ne ?_];exact h1;rintro rfl;rw[hx]at h1;cases h1;exact hn l rfl
structure Goes (aw aw':AW) (w w':World) (m m':Map):Prop where
 le:m.le m'
 new:∀b e,m' b=some e→m b=some e∨(aw.next≤b∧(w.heap.size≤e.c∨∃b₀ e₀ x,m b₀=some e₀∧e₀.c=e.c∧aw.heap.get b₀=some x∧∀l,x≠.cells l .ro))
 next:aw.next≤aw'.next
 size:w.heap.size≤w'.heap.size
 os:w'.os=w.os
 tape:w'.tape=w.tape
 output:w'.output=w.output
 ro:∀b l,aw.heap.get b=some (.cells l .ro)→b<aw.next→aw'.heap.get b=some (.cells l .ro)
 roOld:∀b l,aw'.heap.get b=some (.cells l .ro)→b<aw.next→∃l',aw.heap.get b=some (.cells l' .ro)
 frame:∀c,c<w.heap.size→(∀b e x,m b=some e→aw.heap.get b=some x→(∀l,x≠.cells l .ro)→e.c≠c)→w'.heap[c]? = w.heap[c]?
 none:∀b,b<aw.next→aw.heap.get b=none→aw'.heap.get b=none
 unm:∀b,b<aw.next→m b=Option.none→aw'.heap.get b=aw.heap.get b
theorem Goes.refl (aw:AW)(w:World)(m:Map):Goes aw aw w w m m:=
 ⟨.refl m,fun _ _ h=> .inl h,FH _,FH _,rfl,rfl,rfl,fun _ _ h _=>h,fun _ l h _=>⟨l,h⟩,fun _ _ _=>rfl,fun _ _ h=>h,fun _ _ _=>rfl⟩
variable {aw1:AW} {w1:World} {m1:Map}
theorem Goes.still (h:Goes aw aw1 w w1 m m1)(hb:b<aw.next)(hm:m b=Option.none):m1 b=Option.none:=by
 cases hx:m1 b with
 | none=>rfl
 | some e =>
  rcases h.new b e hx with h1|⟨h1,_⟩
  ·rw[hm]at h1;cases h1
  ·omega
theorem Goes.back (h:Goes aw aw1 w w1 m m1)(hb:b<aw.next)(hx:aw1.heap.get b=some x)(hro:∀l,x≠.cells l .ro):∃y,aw.heap.get b=some y∧∀l,y≠.cells l .ro:=by
 cases hg:aw.heap.get b with
 | none=>rw[h.none b hb hg]at hx;cases hx
 | some y =>
  refine⟨y,rfl,fun l hy=>?_⟩;rw[hy]at hg;have:=h.ro b l hg hb;rw[hx]at this;exact hro l (FY this)
theorem Goes.trans {aw2:AW}{w2:World}{m2:Map}(hR:R aw w m base)(h:Goes aw aw1 w w1 m m1)(h':Goes aw1 aw2 w1 w2 m1 m2):Goes aw aw2 w w2 m m2 where
 le:=h.le.trans h'.le
 new b e hb:=by
  rcases h'.new b e hb with h1|⟨hn,h1|⟨b0,e0,x,h1,h2,h3,h4⟩⟩
  ·exact h.new b e h1
  ·exact .inr ⟨Kk h.next hn,.inl (Kk h.size h1)⟩
  ·refine .inr ⟨Kk h.next hn,?_⟩;rcases h.new b0 e0 h1 with h5|⟨_,h5|⟨b1,e1,x1,h5,h6,h7,h8⟩⟩
   ·obtain⟨y,y1,y2⟩:=h.back (hR.lt b0 e0 h5).1 h3 h4;exact .inr ⟨b0,e0,y,h5,h2,y1,y2⟩
   ·exact .inl Fh
   ·exact .inr ⟨b1,e1,x1,h5,by omega,h7,h8⟩
 next:=Kk h.next h'.next
 size:=Kk h.size h'.size
 os:=h'.os.trans h.os
 tape:=h'.tape.trans h.tape
 output:=h'.output.trans h.output
 ro b l hl hb:=h'.ro b l (h.ro b l hl hb) (by have:=h.next;omega)
 roOld b l hl hb:=by
  obtain⟨l',h1⟩:=h'.roOld b l hl (by have:=h.next;omega);exact h.roOld b l' h1 hb
 frame c hc hno:=by
  rw[h'.frame c (by have:=h.size;omega),h.frame c hc hno];intro b e x hb hx hro hec;rcases h.new b e hb with h1|⟨_,h1|⟨b0,e0,y,h1,h2,h3,h4⟩⟩
  ·obtain⟨y,y1,y2⟩:=h.back (hR.lt b e h1).1 hx hro;exact hno b e y h1 y1 y2 hec
  ·omega
  ·exact hno b0 e0 y h1 h3 h4 Fh
 none b hb hx:=h'.none b (by have:=h.next;omega) (h.none b hb hx)
 unm b hb hm:=by
  rw[h'.unm b (by have:=h.next;omega) (h.still hb hm),h.unm b hb hm]
end
section
variable [Globs]
def Map.set (m:Map) (b:Nat) (e:Emb):Map:=fun x=>if x=b then some e else m x
theorem Map.set_same (m:Map)(b:Nat)(e:Emb):m.set b e b=some e:=by simp[Map.set]
variable {b:Nat}
theorem Map.set_ne (m:Map){x:Nat}(e:Emb)(h:x≠b):m.set b e x=m x:=by simp[Map.set,h]
variable {m:Map} {e:Emb}
theorem Map.le_set (h:m b=none):m.le (m.set b e):=by
 intro x y hx;by_cases hxb:x=b
 ·subst hxb;rw[h]at hx;cases hx
 ·rw[Map.set_ne _ _ hxb];exact hx
theorem Map.set_cases {x:Nat}{y:Emb}(h:m.set b e x=some y):(x=b∧y=e)∨(x≠b∧m x=some y):=by
 by_cases hx:x=b
 ·subst hx;rw[Map.set_same]at h;exact .inl ⟨rfl,(FY h).symm⟩
 ·rw[Map.set_ne _ _ hx]at h;exact .inr ⟨hx,h⟩
variable {aw:AW} {w:World} {x:Blk}
theorem BR.mono {aw':AW}{m':Map}{w':World}(hm:m.le m')(ha:∀sh l,x = .cells l sh→aw'.alive b sh=true→aw.alive b sh=true)(hw:w'.heap[e.c]? = w.heap[e.c]?)(h:BR aw m w b e x):BR aw' m' w' b e x:=by
 cases x with
 | cells l sh =>
  intro hal;obtain⟨cur,t,lo,hi,h1,h2,h3,h4,h5⟩:=h (ha sh l rfl hal);exact⟨cur,t,lo,hi,hw.trans h1,h2,h3,h4,h5.mono hm⟩
 | map es ck=>obtain⟨es',h1,h2⟩:=h;exact⟨es',hw.trans h1,h2.mono hm⟩
 | mapIter y s q l=>obtain⟨h0,r,h1,h2⟩:=h;exact⟨h0,r,hw.trans h1,h2.mono hm⟩
def AW.new (aw:AW) (x:Blk):AW:={aw with heap:=aw.heap.put aw.next x,next:=aw.next+1}
def Blk.lone:Blk→Bool
 | .cells _ .own=>true
 | .cells _ .lax=>true
 | .cells _ _=>false
 | _=>true
theorem Cw (w:World)(o:Obj):(w.alloc o).heap[w.heap.size]? = some o:=by
 show (w.heap.push o)[w.heap.size]? = _;simp
variable {c:Nat}
theorem DF (w:World)(o:Obj)(h:c<w.heap.size):(w.alloc o).heap[c]? = w.heap[c]?:=by
 show (w.heap.push o)[c]? = _;rw[Array.getElem?_push,if_neg Fh]
theorem MC {y:Blk}:(aw.new x).live b y=aw.live b y:=by cases y<;>rfl
variable {base:Nat}
theorem R.new (hR:R aw w m base)(x:Blk)(o:Obj)(tot:Nat)(hx:x.lone=true)(hb:BR (aw.new x) (m.set aw.next ⟨w.heap.size,0,tot⟩) (w.alloc o) aw.next ⟨w.heap.size,0,tot⟩ x): R (aw.new x) (w.alloc o) (m.set aw.next ⟨w.heap.size,0,tot⟩) base∧Goes aw (aw.new x) w (w.alloc o) m (m.set aw.next ⟨w.heap.size,0,tot⟩):=by
 have hnone:m aw.next=none:=by
  cases h:m aw.next with
  | none=>rfl
  | some e=>exact absurd (hR.lt _ _ h).1 Fh
 have hle:m.le (m.set aw.next ⟨w.heap.size,0,tot⟩):=Map.le_set hnone;have hsz:(w.alloc o).heap.size=w.heap.size+1:=Fj;constructor
 ·constructor
  ·exact hR.glob.le hle
  ·exact fun i g l h=>hR.gnew h
  ·intro b e l f h hy;rcases Map.set_cases h with⟨rfl,rfl⟩|⟨h1,h2⟩
   ·rcases T.get_put hy with⟨_,q5⟩|⟨q3,_⟩
    ·subst q5;simp[Blk.lone]at hx
    ·exact absurd rfl q3
   ·simp only[AW.new]at hy ⊢;rw[T.get_put_ne h1]at hy;have:=hR.famlt b e l f h2 hy;omega
  ·have:=hR.size;omega
  ·intro b e h;rcases Map.set_cases h with⟨rfl,rfl⟩|⟨h1,h2⟩
   ·exact⟨by simp[AW.new],by simp⟩
   ·have:=hR.lt b e h2;exact⟨by simp only[AW.new];omega,by omega⟩
  ·intro b e h;rcases Map.set_cases h with⟨rfl,rfl⟩|⟨h1,h2⟩
   ·exact .inl hR.size
   ·rcases hR.base b e h2 with h3|⟨l,h3⟩
    ·exact .inl h3
    ·exact .inr ⟨l,by simp only[AW.new];rw[T.get_put_ne h1];exact h3⟩
  ·intro b e y h hy;rcases Map.set_cases h with⟨rfl,rfl⟩|⟨h1,h2⟩
   ·rcases T.get_put hy with⟨_,rfl⟩|⟨h3,_⟩
    ·exact hb
    ·exact absurd rfl h3
   ·have hy':aw.heap.get b=some y:=by simp only[AW.new]at hy;rw[T.get_put_ne h1]at hy;exact hy
    exact BR.mono hle (fun _ _ _ h=>h) (DF w o (hR.lt b e h2).2) (hR.blk b e y h2 hy')
  ·intro b e y b' e' y' h hy h' hy' hl hl' hne hec;rcases Map.set_cases h with⟨rfl,rfl⟩|⟨h1,h2⟩
   ·rcases Map.set_cases h' with⟨rfl,rfl⟩|⟨h3,h4⟩
    ·exact absurd rfl hne
    ·have:=(hR.lt b' e' h4).2;simp at hec;omega
   ·rcases Map.set_cases h' with⟨rfl,rfl⟩|⟨h3,h4⟩
    ·have:=(hR.lt b e h2).2;simp at hec;omega
    ·simp only[AW.new]at hy hy';rw[T.get_put_ne h1]at hy;rw[T.get_put_ne h3]at hy';exact hR.apart b e y b' e' y' h2 hy h4 hy' (by rw[MC]at hl;exact hl) (by rw[MC]at hl';exact hl') hne hec
  ·intro f F hf;obtain⟨h1,h2⟩:=hR.fam f F hf;refine⟨by simp only[AW.new];omega,?_⟩;intro b e l e' l' hb1 hb2 hb3 hl1 hl2 hec
   have key:∀{b:Nat} {e:Emb} {l:List V},(m.set aw.next ⟨w.heap.size,0,tot⟩) b=some e→(aw.new x).heap.get b=some (.cells l (.fam f))→m b=some e∧aw.heap.get b=some (.cells l (.fam f)):=by
    intro b e l q1 q2;rcases Map.set_cases q1 with⟨rfl,rfl⟩|⟨q3,q4⟩
    ·rcases T.get_put q2 with⟨_,q5⟩|⟨q3,_⟩
     ·subst q5;simp[Blk.lone]at hx
     ·exact absurd rfl q3
    ·simp only[AW.new]at q2;rw[T.get_put_ne q3]at q2;exact⟨q4,q2⟩
   obtain⟨k1,k2⟩:=key hb1 hb2;obtain⟨k3,k4⟩:=key hl1 hl2;exact h2 b e l e' l' k1 k2 hb3 k3 k4 hec
 ·constructor
  ·exact hle
  ·intro b e h;rcases Map.set_cases h with⟨rfl,rfl⟩|⟨h1,h2⟩
   ·exact .inr ⟨FH _,.inl (FH _)⟩
   ·exact .inl h2
  ·simp[AW.new]
  ·omega
  ·rfl
  ·rfl
  ·rfl
  ·intro b l h hlt;simp only[AW.new];rw[T.get_put_ne Fh];exact h
  ·intro b l h hlt;simp only[AW.new]at h;rw[T.get_put_ne Fh]at h;exact⟨l,h⟩
  ·intro c hc _;exact DF w o hc
  ·intro b hlt h;simp only[AW.new];rw[T.get_put_ne Fh];exact h
  ·intro b hlt _;simp only[AW.new];rw[T.get_put_ne Fh]
theorem R.drew (hR:R aw w m base):R aw w.drew m base:=
 ⟨hR.glob,hR.gblk,hR.famlt,hR.size,hR.lt,hR.base,fun b e x h1 h2=>BR.mono (.refl m) (fun _ _ _ h=>h) rfl (hR.blk b e x h1 h2),hR.apart,hR.fam⟩
theorem Goes.drew (aw:AW)(w:World)(m:Map):Goes aw aw w w.drew m m:=
 ⟨.refl m,fun _ _ h=> .inl h,FH _,FH _,rfl,rfl,rfl,fun _ _ h _=>h,fun _ l h _=>⟨l,h⟩,fun _ _ _=>rfl,fun _ _ h=>h,fun _ _ _=>rfl⟩
def Oa (w:World) (c:Nat) (o:Obj):World:={w with heap:=w.heap.setIfInBounds c o}
variable {o:Obj}
theorem IP (h:c<w.heap.size):(Oa w c o).heap[c]? = some o:=by simp[Oa,h]
theorem C9 {d:Nat}(h:d≠c):(Oa w c o).heap[d]? = w.heap[d]?:=by
 simp only[Oa];exact Array.getElem?_setIfInBounds_ne (Ne.symm h)
def AW.kill (aw:AW) (b:Nat):Share→T Fam
 | .fam f=>aw.fams.put f ⟨b,aw.next,b⟩
 | _=>aw.fams
def AW.turn (aw:AW) (b:Nat) (x:Blk):AW :=
 {aw with heap:=aw.heap.put b x,fams:=match x with | .cells _ sh=>aw.kill b sh|_=>aw.fams}
def Blk.share:Blk→Option Share
 | .cells _ sh=>some sh
 | _=>none
theorem Re {b':Nat}{sh':Share}(hlt:b'<aw.next)(hne:b'≠b)(h:(aw.turn b x).alive b' sh'=true): aw.alive b' sh'=true∧∀f,x.share=some (.fam f)→sh'≠.fam f:=by
 cases sh' with
 | own=>exact⟨rfl,fun f _ h=>by cases h⟩
 | lax=>exact⟨rfl,fun f _ h=>by cases h⟩
 | ro=>exact⟨rfl,fun f _ h=>by cases h⟩
 | fam g =>
  cases x with
  | map es ck=>exact⟨h,fun f hf=>by simp[Blk.share]at hf⟩
  | mapIter a c d e=>exact⟨h,fun f hf=>by simp[Blk.share]at hf⟩
  | cells l sh =>
   cases sh with
   | own=>exact⟨h,fun f hf=>by simp[Blk.share]at hf⟩
   | lax=>exact⟨h,fun f hf=>by simp[Blk.share]at hf⟩
   | ro=>exact⟨h,fun f hf=>by simp[Blk.share]at hf⟩
   | fam f =>
    simp only[AW.alive,AW.turn,AW.kill]at h;split at h
    ·rename_i F hF;rcases T.get_put hF with⟨rfl,rfl⟩|⟨h1,h2⟩
     ·simp only[Bool.or_eq_true,Nat.ble_eq]at h;rcases h with h|h
      ·exact absurd (Nat.eq_of_beq_eq_true h) hne
      ·omega
     ·refine⟨?_,fun f' hf'=>?_⟩
      ·simp only[AW.alive,h2];exact h
      ·simp only[Blk.share,FQ,Share.fam.injEq]at hf';intro hc;cases hc;exact h1 hf'.symm
    ·cases h
theorem R.turn (hR:R aw w m base){y:Blk}(hm:m b=some e)(hx:aw.heap.get b=some x)(hl:aw.live b x=true)(hro:x.share≠some .ro)(hs:y.share=x.share)(hb:BR (aw.turn b y) m (Oa w e.c o) b e y): R (aw.turn b y) (Oa w e.c o) m base∧Goes aw (aw.turn b y) w (Oa w e.c o) m m:=by
 have hlt:=hR.lt b e hm;have hsz:(Oa w e.c o).heap.size=w.heap.size:=by simp[Oa]
 have away:∀(b':Nat) (e':Emb) (z:Blk),m b'=some e'→aw.heap.get b'=some z→(aw.turn b y).live b' z=true→b'≠b→aw.live b' z=true∧e'.c≠e.c:=by
  intro b' e' z h1 h2 h3 h4;have hlt':=(hR.lt b' e' h1).1;cases z with
  | map es ck =>
   refine⟨rfl,fun hec=>?_⟩;have:=hR.apart b' e' _ b e x h1 h2 hm hx rfl hl h4 hec;cases x<;>simp[Blk.mates]at this
  | mapIter r1 r2 r3 r4 =>
   refine⟨rfl,fun hec=>?_⟩;have:=hR.apart b' e' _ b e x h1 h2 hm hx rfl hl h4 hec;cases x<;>simp[Blk.mates]at this
  | cells l' sh' =>
   obtain⟨k1,k2⟩:=Re hlt' h4 h3;refine⟨k1,fun hec=>?_⟩;have hmt:=hR.apart b' e' _ b e x h1 h2 hm hx k1 hl h4 hec;cases x with
   | map es ck=>simp[Blk.mates]at hmt
   | mapIter r1 r2 r3 r4=>simp[Blk.mates]at hmt
   | cells l sh =>
    cases sh with
    | own=>cases sh'<;>simp[Blk.mates]at hmt
    | lax=>cases sh'<;>simp[Blk.mates]at hmt
    | ro=>exact hro rfl
    | fam f =>
     cases sh' with
     | own=>simp[Blk.mates]at hmt
     | lax=>simp[Blk.mates]at hmt
     | ro=>simp[Blk.mates]at hmt
     | fam g =>
      simp only[Blk.mates,beq_iff_eq]at hmt;exact k2 f (by rw[hs];rfl) (by rw[hmt])
 constructor
 ·constructor
  ·exact hR.glob
  ·exact fun i g l h=>hR.gput hx (fun l hl=>hro (by rw[hl];rfl)) h
  ·intro b' e' l f h hy;by_cases hbb:b'=b
   ·subst hbb;rcases T.get_put hy with⟨_,h3⟩|⟨h3,_⟩
    ·cases x with
     | cells lx shx =>
      rw[←h3]at hs;simp only[Blk.share,FQ]at hs;subst hs;exact hR.famlt b' e lx f hm hx
     | map es ck=>rw[←h3]at hs;simp[Blk.share]at hs
     | mapIter r1 r2 r3 r4=>rw[←h3]at hs;simp[Blk.share]at hs
    ·exact absurd rfl h3
   ·simp only[AW.turn]at hy ⊢;rw[T.get_put_ne hbb]at hy;exact hR.famlt b' e' l f h hy
  ·rw[hsz];exact hR.size
  ·intro b' e' h;rw[hsz];exact hR.lt b' e' h
  ·intro b' e' h;rcases hR.base b' e' h with h1|⟨l,h1⟩
   ·exact .inl h1
   ·refine .inr ⟨l,?_⟩
    have hne:b'≠b:=by
     rintro rfl;rw[hx]at h1;cases h1;exact hro rfl
    simp only[AW.turn];rw[T.get_put_ne hne];exact h1
  ·intro b' e' z h hz;by_cases hbb:b'=b
   ·subst hbb;rw[hm]at h;cases h;rcases T.get_put hz with⟨_,rfl⟩|⟨h3,_⟩
    ·exact hb
    ·exact absurd rfl h3
   ·have hz':aw.heap.get b'=some z:=by simp only[AW.turn]at hz;rw[T.get_put_ne hbb]at hz;exact hz
    have hold:=hR.blk b' e' z h hz';cases z with
    | cells l' sh' =>
     intro hal;have⟨q1,q2⟩:=away b' e' _ h hz' hal hbb;obtain⟨cur,t,lo,hi,p1,p2,p3,p4,p5⟩:=hold q1;exact⟨cur,t,lo,hi,by rw[C9 q2];exact p1,p2,p3,p4,p5⟩
    | map es ck =>
     have⟨q1,q2⟩:=away b' e' _ h hz' rfl hbb;obtain⟨es',p1,p2⟩:=hold;exact⟨es',by rw[C9 q2];exact p1,p2⟩
    | mapIter r1 r2 r3 r4 =>
     have⟨q1,q2⟩:=away b' e' _ h hz' rfl hbb;obtain⟨p0,r,p1,p2⟩:=hold;exact⟨p0,r,by rw[C9 q2];exact p1,p2⟩
  ·intro b1 e1 z1 b2 e2 z2 h1 hz1 h2 hz2 hl1 hl2 hne hec;by_cases hb1:b1=b
   ·subst hb1;rw[hm]at h1;cases h1;have hb2:b2≠b1:=Ne.symm hne;have hz2':aw.heap.get b2=some z2:=by simp only[AW.turn]at hz2;rw[T.get_put_ne hb2]at hz2;exact hz2
    exact absurd hec.symm (away b2 e2 z2 h2 hz2' hl2 hb2).2
   ·have hz1':aw.heap.get b1=some z1:=by simp only[AW.turn]at hz1;rw[T.get_put_ne hb1]at hz1;exact hz1
    have⟨q1,q2⟩:=away b1 e1 z1 h1 hz1' hl1 hb1;by_cases hb2:b2=b
    ·subst hb2;rw[hm]at h2;cases h2;exact absurd hec q2
    ·have hz2':aw.heap.get b2=some z2:=by simp only[AW.turn]at hz2;rw[T.get_put_ne hb2]at hz2;exact hz2
     have⟨q3,q4⟩:=away b2 e2 z2 h2 hz2' hl2 hb2;exact hR.apart b1 e1 z1 b2 e2 z2 h1 hz1' h2 hz2' q1 q3 hne hec
  ·intro f F hf
   have step:aw.fams.get f=some F∨(F=⟨b,aw.next,b⟩∧y.share=some (.fam f)):=by
    simp only[AW.turn]at hf;split at hf
    ·rename_i l sh;cases sh with
     | own=>exact .inl hf
     | lax=>exact .inl hf
     | ro=>exact .inl hf
     | fam g =>
      simp only[AW.kill]at hf;rcases T.get_put hf with⟨rfl,rfl⟩|⟨_,h2⟩
      ·exact .inr ⟨rfl,rfl⟩
      ·exact .inl h2
    ·exact .inl hf
   have flo:F.floor≤(aw.turn b y).next:=by
    rcases step with h|⟨rfl,_⟩
    ·exact (hR.fam f F h).1
    ·exact FH _
   refine⟨flo,?_⟩;intro b1 e1 l1 e2 l2 h1 hz1 ha1 h2 hz2 hec;by_cases hlast:b1=F.last
   ·subst hlast;rw[h1]at h2;cases h2;rw[hz1]at hz2;cases hz2;omega
   ·-- two unlike blocks of one family: the turned one is none of them,if both are still to be read
    by_cases hyf:y.share=some (.fam f)
    ·-- the family is the turned block's: only it is still to be read
     exfalso
     have hb1:b1=b:=by
      apply Classical.byContradiction;intro hb1;exact (Re (hR.lt b1 e1 h1).1 hb1 ha1).2 f hyf rfl
     subst hb1;rcases step with h|⟨rfl,_⟩
     ·-- F is the new one all the same
      cases y with
      | cells ly shy =>
       simp only[Blk.share,FQ]at hyf;subst hyf;simp only[AW.turn,AW.kill]at hf;rcases T.get_put hf with⟨_,rfl⟩|⟨h3,_⟩
       ·exact hlast rfl
       ·exact h3 rfl
      | map es ck=>simp[Blk.share]at hyf
      | mapIter r1 r2 r3 r4=>simp[Blk.share]at hyf
     ·exact hlast rfl
    ·have hF:aw.fams.get f=some F:=by
      rcases step with h|⟨_,h⟩
      ·exact h
      ·exact absurd h hyf
     have hb1:b1≠b:=by
      rintro rfl;rcases T.get_put hz1 with⟨_,h3⟩|⟨h3,_⟩
      ·exact hyf (by rw[←h3];rfl)
      ·exact h3 rfl
     have hb2:F.last≠b:=by
      intro h;rw[h]at hz2;rcases T.get_put hz2 with⟨_,h3⟩|⟨h3,_⟩
      ·exact hyf (by rw[←h3];rfl)
      ·exact h3 rfl
     have hz1':aw.heap.get b1=some (.cells l1 (.fam f)):=by simp only[AW.turn]at hz1;rw[T.get_put_ne hb1]at hz1;exact hz1
     have hz2':aw.heap.get F.last=some (.cells l2 (.fam f)):=by simp only[AW.turn]at hz2;rw[T.get_put_ne hb2]at hz2;exact hz2
     exact (hR.fam f F hF).2 b1 e1 l1 e2 l2 h1 hz1' (Re (hR.lt b1 e1 h1).1 hb1 ha1).1 h2 hz2' hec
 ·constructor
  ·exact .refl m
  ·intro b' e' h;exact .inl h
  ·exact FH _
  ·rw[hsz];exact FH _
  ·rfl
  ·rfl
  ·rfl
  ·intro b' l h _
   have hne:b'≠b:=by
    rintro rfl;rw[hx]at h;cases h;exact hro rfl
   simp only[AW.turn];rw[T.get_put_ne hne];exact h
  ·intro b' l h _;by_cases hne:b'=b
   ·subst hne;rcases T.get_put h with⟨_,h3⟩|⟨h3,_⟩
    ·rw[←h3]at hs;exact absurd hs.symm hro
    ·exact absurd rfl h3
   ·simp only[AW.turn]at h;rw[T.get_put_ne hne]at h;exact⟨l,h⟩
  ·intro c hc hno;apply C9;intro hce;refine hno b e x hm hx (fun l hl'=>?_) hce.symm;cases hl';exact hro rfl
  ·intro b' hlt' h
   have hne:b'≠b:=by
    rintro rfl;rw[hx]at h;cases h
   simp only[AW.turn];rw[T.get_put_ne hne];exact h
  ·intro b' _ hno
   have hne:b'≠b:=by
    rintro rfl;rw[hm]at hno;cases hno
   simp only[AW.turn];rw[T.get_put_ne hne]
end
section
variable [Globs]
def AW.found (aw:AW) (b:Nat) (l:List V):AW :=
 {heap:=aw.heap.put b (.cells l (.fam aw.next)),next:=aw.next+1,fams:=aw.fams.put aw.next ⟨b,aw.next+1,b⟩}
variable {aw:AW} {w:World} {m:Map} {base b:Nat} {e:Emb} {l:List V}
theorem R.found (hR:R aw w m base)(hm:m b=some e)(hx:aw.heap.get b=some (.cells l .own)): R (aw.found b l) w m base∧Goes aw (aw.found b l) w w m m:=by
 have hlt:=hR.lt b e hm
 have old:∀{b':Nat} {e':Emb} {z:Blk},m b'=some e'→b'≠b→(aw.found b l).heap.get b'=some z→aw.heap.get b'=some z∧((aw.found b l).live b' z=true→aw.live b' z=true):=by
  intro b' e' z h hne hz;have hz':aw.heap.get b'=some z:=by simp only[AW.found]at hz;rw[T.get_put_ne hne]at hz;exact hz
  refine⟨hz',fun hl=>?_⟩;cases z with
  | cells l' sh' =>
   cases sh' with
   | own=>rfl
   | lax=>rfl
   | ro=>rfl
   | fam g =>
    have hg:=hR.famlt b' e' l' g h hz';simp only[AW.live,AW.alive,AW.found]at hl ⊢;rw[T.get_put_ne Fh]at hl;exact hl
  | map es ck=>rfl
  | mapIter r1 r2 r3 r4=>rfl
 have self:∀{z:Blk},(aw.found b l).heap.get b=some z→z = .cells l (.fam aw.next):=by
  intro z hz;rcases T.get_put hz with⟨_,h3⟩|⟨h3,_⟩
  ·exact h3
  ·exact absurd rfl h3
 constructor
 ·constructor
  ·exact hR.glob
  ·exact fun i g l h=>hR.gput hx (fun l hl=>by cases hl) h
  ·intro b' e' l' f h hy;by_cases hbb:b'=b
   ·subst hbb;have:=self hy;cases this;simp[AW.found]
   ·have:=hR.famlt b' e' l' f h (old h hbb hy).1;simp only[AW.found];omega
  ·exact hR.size
  ·intro b' e' h;have:=hR.lt b' e' h;exact⟨by simp only[AW.found];omega,this.2⟩
  ·intro b' e' h;rcases hR.base b' e' h with h1|⟨l',h1⟩
   ·exact .inl h1
   ·refine .inr ⟨l',?_⟩
    have hne:b'≠b:=by
     rintro rfl;rw[hx]at h1;cases h1
    simp only[AW.found];rw[T.get_put_ne hne];exact h1
  ·intro b' e' z h hz;by_cases hbb:b'=b
   ·subst hbb;rw[hm]at h;cases h;have:=self hz;subst this;intro _;obtain⟨cur,t,lo,hi,p1,p2,p3,p4,p5⟩:=hR.blk b' e _ hm hx rfl;exact⟨cur,t,lo,hi,p1,p2,p3,.inr ((p4.resolve_left Fj).imp (fun h=>⟨h.1,fun q=>by cases q⟩) (fun h=>⟨by simp,h.2⟩)),p5⟩
   ·have⟨q1,q2⟩:=old h hbb hz;have hb:=hR.blk b' e' z h q1;cases z with
    | cells l' sh'=>exact fun hal=>hb (q2 hal)
    | map es ck=>exact hb
    | mapIter r1 r2 r3 r4=>exact hb
  ·intro b1 e1 z1 b2 e2 z2 h1 hz1 h2 hz2 hl1 hl2 hne hec;by_cases hb1:b1=b
   ·exfalso;subst hb1;rw[hm]at h1;cases h1;have⟨q1,q2⟩:=old h2 (Ne.symm hne) hz2;have:=hR.apart b1 e _ b2 e2 z2 hm hx h2 q1 rfl (q2 hl2) hne hec;cases z2<;>simp[Blk.mates]at this
   ·by_cases hb2:b2=b
    ·exfalso;subst hb2;rw[hm]at h2;cases h2;have⟨q1,q2⟩:=old h1 hb1 hz1;have:=hR.apart b1 e1 z1 b2 e _ h1 q1 hm hx (q2 hl1) rfl hne hec;cases z1 with
     | cells lx shx=>cases shx<;>simp[Blk.mates]at this
     | map es ck=>simp[Blk.mates]at this
     | mapIter r1 r2 r3 r4=>simp[Blk.mates]at this
    ·have⟨q1,q2⟩:=old h1 hb1 hz1;have⟨q3,q4⟩:=old h2 hb2 hz2;exact hR.apart b1 e1 z1 b2 e2 z2 h1 q1 h2 q3 (q2 hl1) (q4 hl2) hne hec
  ·intro f F hf;simp only[AW.found]at hf;rcases T.get_put hf with⟨rfl,rfl⟩|⟨h1,h2⟩
   ·refine⟨by simp[AW.found],?_⟩;intro b1 e1 l1 e2 l2 h1 hz1 ha1 h2 hz2 hec
    have hb1:b1=b:=by
     apply Classical.byContradiction;intro hb1;have:=hR.famlt b1 e1 l1 _ h1 (old h1 hb1 hz1).1;omega
    subst hb1;simp only[]at h2 hz2;rw[h1]at h2;cases h2;rw[hz1]at hz2;cases hz2;omega
   ·obtain⟨k1,k2⟩:=hR.fam f F h2;refine⟨by simp only[AW.found];omega,?_⟩;intro b1 e1 l1 e2 l2 g1 hz1 ha1 g2 hz2 hec
    have hb1:b1≠b:=by
     rintro rfl;have:=self hz1;cases this;exact h1 rfl
    have hb2:F.last≠b:=by
     intro hb;rw[hb]at hz2;have:=self hz2;cases this;exact h1 rfl
    have⟨q1,q2⟩:=old g1 hb1 hz1;exact k2 b1 e1 l1 e2 l2 g1 q1 (q2 ha1) g2 (old g2 hb2 hz2).1 hec
 ·constructor
  ·exact .refl m
  ·intro b' e' h;exact .inl h
  ·simp[AW.found]
  ·exact FH _
  ·rfl
  ·rfl
  ·rfl
  ·intro b' l' h _
   have hne:b'≠b:=by
    rintro rfl;rw[hx]at h;cases h
   simp only[AW.found];rw[T.get_put_ne hne];exact h
  ·intro b' l' h _;by_cases hne:b'=b
   ·subst hne;have:=self h;cases this
   ·simp only[AW.found]at h;rw[T.get_put_ne hne]at h;exact⟨l',h⟩
  ·intro c hc _;rfl
  ·intro b' hlt' h
   have hne:b'≠b:=by
    rintro rfl;rw[hx]at h;cases h
   simp only[AW.found];rw[T.get_put_ne hne];exact h
  ·intro b' _ hno
   have hne:b'≠b:=by
    rintro rfl;rw[hm]at hno;cases hno
   simp only[AW.found];rw[T.get_put_ne hne]
theorem R.foundLax (hR:R aw w m base)(hm:m b=some e)(hx:aw.heap.get b=some (.cells l .lax)): R (aw.found b l) w m base∧Goes aw (aw.found b l) w w m m:=by
 have hlt:=hR.lt b e hm
 have old:∀{b':Nat} {e':Emb} {z:Blk},m b'=some e'→b'≠b→(aw.found b l).heap.get b'=some z→aw.heap.get b'=some z∧((aw.found b l).live b' z=true→aw.live b' z=true):=by
  intro b' e' z h hne hz;have hz':aw.heap.get b'=some z:=by simp only[AW.found]at hz;rw[T.get_put_ne hne]at hz;exact hz
  refine⟨hz',fun hl=>?_⟩;cases z with
  | cells l' sh' =>
   cases sh' with
   | own=>rfl
   | lax=>rfl
   | ro=>rfl
   | fam g =>
    have hg:=hR.famlt b' e' l' g h hz';simp only[AW.live,AW.alive,AW.found]at hl ⊢;rw[T.get_put_ne Fh]at hl;exact hl
  | map es ck=>rfl
  | mapIter r1 r2 r3 r4=>rfl
 have self:∀{z:Blk},(aw.found b l).heap.get b=some z→z = .cells l (.fam aw.next):=by
  intro z hz;rcases T.get_put hz with⟨_,h3⟩|⟨h3,_⟩
  ·exact h3
  ·exact absurd rfl h3
 constructor
 ·constructor
  ·exact hR.glob
  ·exact fun i g l h=>hR.gput hx (fun l hl=>by cases hl) h
  ·intro b' e' l' f h hy;by_cases hbb:b'=b
   ·subst hbb;have:=self hy;cases this;simp[AW.found]
   ·have:=hR.famlt b' e' l' f h (old h hbb hy).1;simp only[AW.found];omega
  ·exact hR.size
  ·intro b' e' h;have:=hR.lt b' e' h;exact⟨by simp only[AW.found];omega,this.2⟩
  ·intro b' e' h;rcases hR.base b' e' h with h1|⟨l',h1⟩
   ·exact .inl h1
   ·refine .inr ⟨l',?_⟩
    have hne:b'≠b:=by
     rintro rfl;rw[hx]at h1;cases h1
    simp only[AW.found];rw[T.get_put_ne hne];exact h1
  ·intro b' e' z h hz;by_cases hbb:b'=b
   ·subst hbb;rw[hm]at h;cases h;have:=self hz;subst this;intro _;obtain⟨cur,t,lo,hi,p1,p2,p3,p4,p5⟩:=hR.blk b' e _ hm hx rfl;exact⟨cur,t,lo,hi,p1,p2,p3,.inr ((p4.resolve_left Fj).imp (fun h=>⟨h.1,fun q=>by cases q⟩) (fun h=>⟨by simp,h.2⟩)),p5⟩
   ·have⟨q1,q2⟩:=old h hbb hz;have hb:=hR.blk b' e' z h q1;cases z with
    | cells l' sh'=>exact fun hal=>hb (q2 hal)
    | map es ck=>exact hb
    | mapIter r1 r2 r3 r4=>exact hb
  ·intro b1 e1 z1 b2 e2 z2 h1 hz1 h2 hz2 hl1 hl2 hne hec;by_cases hb1:b1=b
   ·exfalso;subst hb1;rw[hm]at h1;cases h1;have⟨q1,q2⟩:=old h2 (Ne.symm hne) hz2;have:=hR.apart b1 e _ b2 e2 z2 hm hx h2 q1 rfl (q2 hl2) hne hec;cases z2<;>simp[Blk.mates]at this
   ·by_cases hb2:b2=b
    ·exfalso;subst hb2;rw[hm]at h2;cases h2;have⟨q1,q2⟩:=old h1 hb1 hz1;have:=hR.apart b1 e1 z1 b2 e _ h1 q1 hm hx (q2 hl1) rfl hne hec;cases z1 with
     | cells lx shx=>cases shx<;>simp[Blk.mates]at this
     | map es ck=>simp[Blk.mates]at this
     | mapIter r1 r2 r3 r4=>simp[Blk.mates]at this
    ·have⟨q1,q2⟩:=old h1 hb1 hz1;have⟨q3,q4⟩:=old h2 hb2 hz2;exact hR.apart b1 e1 z1 b2 e2 z2 h1 q1 h2 q3 (q2 hl1) (q4 hl2) hne hec
  ·intro f F hf;simp only[AW.found]at hf;rcases T.get_put hf with⟨rfl,rfl⟩|⟨h1,h2⟩
   ·refine⟨by simp[AW.found],?_⟩;intro b1 e1 l1 e2 l2 h1 hz1 ha1 h2 hz2 hec
    have hb1:b1=b:=by
     apply Classical.byContradiction;intro hb1;have:=hR.famlt b1 e1 l1 _ h1 (old h1 hb1 hz1).1;omega
    subst hb1;simp only[]at h2 hz2;rw[h1]at h2;cases h2;rw[hz1]at hz2;cases hz2;omega
   ·obtain⟨k1,k2⟩:=hR.fam f F h2;refine⟨by simp only[AW.found];omega,?_⟩;intro b1 e1 l1 e2 l2 g1 hz1 ha1 g2 hz2 hec
    have hb1:b1≠b:=by
     rintro rfl;have:=self hz1;cases this;exact h1 rfl
    have hb2:F.last≠b:=by
     intro hb;rw[hb]at hz2;have:=self hz2;cases this;exact h1 rfl
    have⟨q1,q2⟩:=old g1 hb1 hz1;exact k2 b1 e1 l1 e2 l2 g1 q1 (q2 ha1) g2 (old g2 hb2 hz2).1 hec
 ·constructor
  ·exact .refl m
  ·intro b' e' h;exact .inl h
  ·simp[AW.found]
  ·exact FH _
  ·rfl
  ·rfl
  ·rfl
  ·intro b' l' h _
   have hne:b'≠b:=by
    rintro rfl;rw[hx]at h;cases h
   simp only[AW.found];rw[T.get_put_ne hne];exact h
  ·intro b' l' h _;by_cases hne:b'=b
   ·subst hne;have:=self h;cases this
   ·simp only[AW.found]at h;rw[T.get_put_ne hne]at h;exact⟨l',h⟩
  ·intro c hc _;rfl
  ·intro b' hlt' h
   have hne:b'≠b:=by
    rintro rfl;rw[hx]at h;cases h
   simp only[AW.found];rw[T.get_put_ne hne];exact h
  ·intro b' _ hno
   have hne:b'≠b:=by
    rintro rfl;rw[hm]at hno;cases hno
   simp only[AW.found];rw[T.get_put_ne hne]
def AW.grow (aw:AW) (b f:Nat) (F:Fam) (l2:List V):AW :=
 {heap:=aw.heap.put aw.next (.cells l2 (.fam f)),next:=aw.next+1,
  fams:=aw.fams.put f (match Nat.beq F.last b with|true=>⟨F.keep,F.floor,aw.next⟩|false=>⟨b,aw.next,aw.next⟩)}
variable {l2:List V}
theorem Jqo {f:Nat}{F:Fam}{b':Nat}{sh:Share}(hF:aw.fams.get f=some F)(hb:aw.alive b (.fam f)=true)(hlt:b'<aw.next)(h:(aw.grow b f F l2).alive b' sh=true):aw.alive b' sh=true∧(sh = .fam f→F.last=b∨b'=b):=by
 cases sh with
 | own=>exact⟨rfl,fun h=>by cases h⟩
 | lax=>exact⟨rfl,fun h=>by cases h⟩
 | ro=>exact⟨rfl,fun h=>by cases h⟩
 | fam g =>
  simp only[AW.alive,AW.grow]at h;split at h
  ·rename_i G hG;rcases T.get_put hG with⟨rfl,rfl⟩|⟨h1,h2⟩
   ·cases hq:Nat.beq F.last b with
    | true =>
     rw[hq]at h;refine⟨?_,fun _=> .inl (Nat.eq_of_beq_eq_true hq)⟩;simp only[AW.alive,hF];exact h
    | false =>
     rw[hq]at h;simp only[Bool.or_eq_true,Nat.ble_eq]at h
     have:b'=b:=by
      rcases h with h|h
      ·exact Nat.eq_of_beq_eq_true h
      ·omega
     subst this;exact⟨hb,fun _=> .inr rfl⟩
   ·refine⟨by simp only[AW.alive,h2];exact h,fun hc=>?_⟩;cases hc;exact absurd rfl h1
  ·cases h
theorem R.grow {w':World}(hR:R aw w m base){f:Nat}{en:Emb}{F:Fam}(hm:m b=some e)(hx:aw.heap.get b=some (.cells l (.fam f)))(hal:aw.alive b (.fam f)=true)(hF:aw.fams.get f=some F)(hsz:w.heap.size≤w'.heap.size)(hen:en.c<w'.heap.size)(hos:w'.os=w.os)(htape:w'.tape=w.tape)(hout:w'.output=w.output)(hcase:(en.c=e.c∧e.s+l.length≤en.s+l2.length∧(∀cur t lo hi,w.heap[e.c]? = some (.cells cur t (lo,hi))→∃cur',w'.heap[e.c]? = some (.cells cur' t (lo,hi))∧cur'.size=cur.size∧∀i,i<e.s+l.length→cur'[i]? = cur[i]?))∨ (w.heap.size≤en.c∧w'.heap[e.c]? = w.heap[e.c]?))(hoth:∀c,c<w.heap.size→c≠e.c→w'.heap[c]? = w.heap[c]?)(hnew:BR (aw.grow b f F l2) (m.set aw.next en) w' aw.next en (.cells l2 (.fam f))): R (aw.grow b f F l2) w' (m.set aw.next en) base∧Goes aw (aw.grow b f F l2) w w' m (m.set aw.next en):=by
 have hnone:m aw.next=none:=by
  cases h:m aw.next with
  | none=>rfl
  | some e=>exact absurd (hR.lt _ _ h).1 Fh
 have hle:m.le (m.set aw.next en):=Map.le_set hnone;have hbl:=hR.lt b e hm;have hfl:=hR.famlt b e l f hm hx
 have old:∀{b':Nat} {e':Emb} {z:Blk},m b'=some e'→(aw.grow b f F l2).heap.get b'=some z→aw.heap.get b'=some z:=by
  intro b' e' z h hz;have:=(hR.lt b' e' h).1;simp only[AW.grow]at hz;rw[T.get_put_ne Fh]at hz;exact hz
 have live:∀{b':Nat} {e':Emb} {z:Blk},m b'=some e'→(aw.grow b f F l2).live b' z=true→aw.live b' z=true∧(z.share=some (.fam f)→F.last=b∨b'=b):=by
  intro b' e' z h hl;cases z with
  | cells l' sh' =>
   obtain⟨h1,h2⟩:=Jqo hF hal (hR.lt b' e' h).1 hl;refine⟨h1,fun hs=>h2 ?_⟩;simpa[Blk.share]using hs
  | map es ck=>exact⟨rfl,fun h=>by simp[Blk.share]at h⟩
  | mapIter r1 r2 r3 r4=>exact⟨rfl,fun h=>by simp[Blk.share]at h⟩
 have mate:∀{b':Nat} {e':Emb} {z:Blk},m b'=some e'→aw.heap.get b'=some z→(aw.grow b f F l2).live b' z=true→e'.c=e.c→∃l',z = .cells l' (.fam f)∧e'.s+l'.length≤e.s+l.length:=by
  intro b' e' z h hz hl hec;obtain⟨h1,h2⟩:=live h hl;by_cases hbb:b'=b
  ·subst hbb;rw[hm]at h;cases h;rw[hx]at hz;cases hz;exact⟨l,rfl,FH _⟩
  ·have hmt:=hR.apart b' e' z b e _ h hz hm hx h1 hal hbb hec;cases z with
   | cells l' sh' =>
    cases sh' with
    | own=>simp[Blk.mates]at hmt
    | lax=>simp[Blk.mates]at hmt
    | ro=>simp[Blk.mates]at hmt
    | fam g =>
     simp only[Blk.mates,beq_iff_eq]at hmt;subst hmt;refine⟨l',rfl,?_⟩;have hlast:F.last=b:=(h2 rfl).resolve_right hbb;have hm':m F.last=some e:=by rw[hlast];exact hm
     have hx':aw.heap.get F.last=some (.cells l (.fam g)):=by rw[hlast];exact hx
     exact (hR.fam g F hF).2 b' e' l' e l h hz h1 hm' hx' hec
   | map es ck=>simp[Blk.mates]at hmt
   | mapIter r1 r2 r3 r4=>simp[Blk.mates]at hmt
 have hself:∀{z:Blk},(aw.grow b f F l2).heap.get aw.next=some z→z = .cells l2 (.fam f):=by
  intro z hz;rcases T.get_put hz with⟨_,h3⟩|⟨h3,_⟩
  ·exact h3
  ·exact absurd rfl h3
 constructor
 ·constructor
  ·exact hR.glob.le hle
  ·exact fun i g l h=>hR.gnew h
  ·intro b' e' l' g h hy;rcases Map.set_cases h with⟨rfl,rfl⟩|⟨h1,h2⟩
   ·have:=hself hy;cases this;simp only[AW.grow];omega
   ·have:=hR.famlt b' e' l' g h2 (old h2 hy);simp only[AW.grow];omega
  ·have:=hR.size;omega
  ·intro b' e' h;rcases Map.set_cases h with⟨rfl,rfl⟩|⟨h1,h2⟩
   ·exact⟨by simp[AW.grow],hen⟩
   ·have:=hR.lt b' e' h2;exact⟨by simp only[AW.grow];omega,by omega⟩
  ·intro b' e' h;rcases Map.set_cases h with⟨rfl,rfl⟩|⟨h1,h2⟩
   ·rcases hcase with⟨h1,_⟩|⟨h1,_⟩
    ·rcases hR.base b e hm with h3|⟨l',h3⟩
     ·exact .inl Fh
     ·rw[hx]at h3;cases h3
    ·exact .inl (Kk hR.size h1)
   ·rcases hR.base b' e' h2 with h3|⟨l',h3⟩
    ·exact .inl h3
    ·exact .inr ⟨l',by simp only[AW.grow];rw[T.get_put_ne h1];exact h3⟩
  ·intro b' e' z h hz;rcases Map.set_cases h with⟨rfl,rfl⟩|⟨h1,h2⟩
   ·have:=hself hz;subst this;exact hnew
   ·have hz':=old h2 hz;have hold:=hR.blk b' e' z h2 hz';have hlt':=hR.lt b' e' h2;by_cases hec:e'.c=e.c
    ·-- it lies where b lies
     rcases hcase with⟨q1,q2,q3⟩|⟨q1,q2⟩
     ·cases z with
      | cells l' sh' =>
       intro hl;obtain⟨l'',hz2,hle2⟩:=mate h2 hz' hl hec;cases hz2;obtain⟨cur,t,lo,hi,p1,p2,p3,p4,p5⟩:=hold (live (z:=.cells l' (.fam f)) h2 hl).1;rw[hec]at p1;obtain⟨cur',r1,r2,r3⟩:=q3 cur t lo hi p1;refine⟨cur',t,lo,hi,by rw[hec];exact r1,by omega,p3,.inr ((p4.resolve_left Fj).elim .inl (fun h=> .inr ⟨h.1,by omega⟩)),fun i x hi'=>?_⟩;obtain⟨y,hy1,hy2⟩:=p5 i x hi';have hil:i<l'.length:=(List.getElem?_eq_some_iff.1 hi').1;exact⟨y,by rw[r3 _ Fh];exact hy1,hy2.mono hle⟩
      | map es ck=>obtain⟨l'',hz2,_⟩:=mate h2 hz' rfl hec;cases hz2
      | mapIter r1 r2 r3 r4=>obtain⟨l'',hz2,_⟩:=mate h2 hz' rfl hec;cases hz2
     ·refine BR.mono hle (fun sh l hz2 hl=>?_) (by rw[hec];exact q2) hold;subst hz2;exact (live (z:=.cells l sh) h2 hl).1
    ·refine BR.mono hle (fun sh l hz2 hl=>?_) (hoth e'.c hlt'.2 hec) hold;subst hz2;exact (live (z:=.cells l sh) h2 hl).1
  ·intro b1 e1 z1 b2 e2 z2 h1 hz1 h2 hz2 hl1 hl2 hne hec;rcases Map.set_cases h1 with⟨rfl,rfl⟩|⟨k1,k2⟩
   ·have:=hself hz1;subst this;rcases Map.set_cases h2 with⟨rfl,rfl⟩|⟨k3,k4⟩
    ·exact absurd rfl hne
    ·rcases hcase with⟨q1,_⟩|⟨q1,_⟩
     ·obtain⟨l',hz,_⟩:=mate k4 (old k4 hz2) hl2 Fh;subst hz;simp[Blk.mates]
     ·have:=(hR.lt b2 e2 k4).2;omega
   ·rcases Map.set_cases h2 with⟨rfl,rfl⟩|⟨k3,k4⟩
    ·have:=hself hz2;subst this;rcases hcase with⟨q1,_⟩|⟨q1,_⟩
     ·obtain⟨l',hz,_⟩:=mate k2 (old k2 hz1) hl1 Fh;subst hz;simp[Blk.mates]
     ·have:=(hR.lt b1 e1 k2).2;omega
    ·exact hR.apart b1 e1 z1 b2 e2 z2 k2 (old k2 hz1) k4 (old k4 hz2) (live k2 hl1).1 (live k4 hl2).1 hne hec
  ·intro g G hG;simp only[AW.grow]at hG;rcases T.get_put hG with⟨rfl,rfl⟩|⟨h1,h2⟩
   ·have hlast:(match Nat.beq F.last b with|true=>(⟨F.keep,F.floor,aw.next⟩:Fam)|false=>⟨b,aw.next,aw.next⟩).last=aw.next:=by split<;>rfl
    have hfl':(match Nat.beq F.last b with|true=>(⟨F.keep,F.floor,aw.next⟩:Fam)|false=>⟨b,aw.next,aw.next⟩).floor≤(aw.grow b g F l2).next:=by
     split
     ·have:=(hR.fam g F hF).1;simp only[AW.grow];omega
     ·simp[AW.grow]
    refine⟨hfl',?_⟩;rw[hlast];intro b1 e1 l1 e2 l2' g1 hz1 ha1 g2 hz2 hec;have h0:=hself hz2;cases h0;rw[Map.set_same]at g2;cases g2;rcases Map.set_cases g1 with⟨rfl,rfl⟩|⟨k1,k2⟩
    ·have:=hself hz1;cases this;omega
    ·rcases hcase with⟨q1,q2,_⟩|⟨q1,_⟩
     ·obtain⟨l',hz,hle2⟩:=mate k2 (old k2 hz1) ha1 Fh;cases hz;omega
     ·have:=(hR.lt b1 e1 k2).2;omega
   ·obtain⟨k1,k2⟩:=hR.fam g G h2;refine⟨by simp only[AW.grow];omega,?_⟩;intro b1 e1 l1 e2 l2' g1 hz1 ha1 g2 hz2 hec;rcases Map.set_cases g1 with⟨rfl,rfl⟩|⟨k3,k4⟩
    ·have:=hself hz1;cases this;exact absurd rfl h1
    ·rcases Map.set_cases g2 with⟨h5,rfl⟩|⟨k5,k6⟩
     ·rw[h5]at hz2;have:=hself hz2;cases this;exact absurd rfl h1
     ·exact k2 b1 e1 l1 e2 l2' k4 (old k4 hz1) (live (z:=.cells l1 (.fam g)) k4 ha1).1 k6 (old k6 hz2) hec
 ·constructor
  ·exact hle
  ·intro b' e' h;rcases Map.set_cases h with⟨rfl,rfl⟩|⟨h1,h2⟩
   ·rcases hcase with⟨q1,_⟩|⟨q1,_⟩
    ·exact .inr ⟨FH _,.inr ⟨b,e,_,hm,q1.symm,hx,fun l' hl'=>by cases hl'⟩⟩
    ·exact .inr ⟨FH _,.inl q1⟩
   ·exact .inl h2
  ·simp[AW.grow]
  ·exact hsz
  ·exact hos
  ·exact htape
  ·exact hout
  ·intro b' l' h hlt;simp only[AW.grow];rw[T.get_put_ne Fh];exact h
  ·intro b' l' h hlt;simp only[AW.grow]at h;rw[T.get_put_ne Fh]at h;exact⟨l',h⟩
  ·intro c hc hno;refine hoth c hc (fun hce=>?_);exact hno b e _ hm hx (fun l' hl'=>by cases hl') hce.symm
  ·intro b' hlt h;simp only[AW.grow];rw[T.get_put_ne Fh];exact h
  ·intro b' hlt _;simp only[AW.grow];rw[T.get_put_ne Fh]
end
section
variable [Globs]
inductive Opd where
 | tmp (t:Nat)
 | const (v:V)
inductive EqTy where
 | bool|ptr|slice|map|func|iface
 deriving DecidableEq
inductive Sc where
 | int|str|bool
 deriving DecidableEq
inductive KeyTy where
 | scalar (s:Sc)
 | cells (l:List Sc)
inductive AOp where
 | mov (x:Opd)
 | pick (c a b:Opd)
 | bin (op:BinOp) (x y:Opd)
 | eqv (neg:Bool) (ty:EqTy) (x y:Opd)
 | eqAgg (neg:Bool) (l:List Sc) (x y:Opd)
 | un (op:UnOp) (x:Opd)
 | conv (k:IntKind) (x:Opd)
 | convStr (x:Opd)
 | bytesOf (x:Opd)
 | strOf (x:Opd)
 | nilCheck (x:Opd)
 | fieldAddr (off:Nat) (x:Opd)
 | indexAddr (esz:Nat) (x i:Opd)
 | indexArr (n esz:Nat) (x i:Opd)
 | indexStr (x i:Opd)
 | indexAgg (n esz:Nat) (agg:Bool) (x i:Opd)
 | field (off sz:Nat) (agg:Bool) (x:Opd)
 | load (sz:Nat) (agg:Bool) (a:Opd)
 | store (sz:Nat) (a v:Opd)
 | alloc (zero:List V)
 | box (x:Opd)
 | build (zero:List V) (parts:List (Nat×Nat×Opd))
 | buildSlice (len:Nat) (zero:List V) (parts:List (Nat×Nat×Opd))
 | mkSlice (esz bytes:Nat) (zero:List V) (l c:Opd)
 | slice (esz:Nat) (x:Opd) (lo hi mx:Option Opd)
 | sliceStr (x:Opd) (lo hi:Option Opd)
 | sliceArr (n esz:Nat) (x:Opd) (lo hi mx:Option Opd)
 | mkMap
 | lookup (key:KeyTy) (zero:V) (ok:Bool) (m k:Opd)
 | mapUpdate (key:KeyTy) (m k v:Opd)
 | mapEntry (key:KeyTy) (zero:V) (m k:Opd)
 | entryStore (m s v:Opd)
 | delete (key:KeyTy) (m k:Opd)
 | mkIface (t:TypeId) (x:Opd)
 | typeAssert (t:TypeId) (zero:V) (ok:Bool) (x:Opd)
 | mkFunc (fn:Fn) (first cap:List Opd)
 | extract (i:Nat) (x:Opd)
 | lenStr (x:Opd)
 | lenSl (x:Opd)
 | lenMap (x:Opd)
 | lenArr (n:Nat)
 | cap (x:Opd)
 | mn (xs:List Opd)
 | mx (xs:List Opd)
 | append (esz bytes:Nat) (s x:Opd)
 | copy (esz:Nat) (d s:Opd)
 | clear (zero:List V) (x:Opd)
 | clearMap (x:Opd)
 | call (f:Opd) (args:List Opd)
 | inv (tbl:List (Nat×Nat×Option (Nat×Bool))) (x:Opd) (args:List Opd)
 | rangeMap (x:Opd)
 | nextMap (x:Opd)
 | entry (x:Opd)
 | stuck
abbrev Fr:=T V
def Opd.ev (fr:Fr):Opd→Option V
 | .tmp t=>fr.get t
 | .const v=>some v
def evs (fr:Fr):List Opd→Option (List V)
 | []=>some []
 | x::xs=>match x.ev fr with
  | some v=>match evs fr xs with
   | some vs=>some (v::vs)
   | none=>none
  | none=>none
def V.one:V→Bool
 | .agg _=>false
 | .tuple _=>false
 | .undef=>false
 | _=>true
def Lv:List V→Bool
 | []=>true
 | v::l=>match v.one with
  | true=>Lv l
  | false=>false
def V.cells:V→List V
 | .agg l=>l
 | v=>[v]
def Sm (op:BinOp) (k:IntKind) (x y:Int):Int :=
 let a:=BitVec.ofInt k.bits x
 let b:=BitVec.ofInt k.bits y
 k.wrap ((match op with | .and=>a &&& b | .or=>a ||| b | .xor=>a ^^^ b|_=>a &&& ~~~b).toNat)
def NK (op:BinOp) (k:IntKind) (a b:Int):Option V :=
 match op with
 | .add=>some (.int k (k.wrap (a+b)))
 | .sub=>some (.int k (k.wrap (a-b)))
 | .mul=>some (.int k (k.wrap (a*b)))
 | .quo=>if b=0 then none else some (.int k (k.wrap (a.tdiv b)))
 | .rem=>if b=0 then none else some (.int k (a.tmod b))
 | .and=>some (.int k (Sm .and k a b))
 | .or=>some (.int k (Sm .or k a b))
 | .xor=>some (.int k (Sm .xor k a b))
 | .andNot=>some (.int k (Sm .andNot k a b))
 | .eql=>some (.bool (a==b))
 | .neq=>some (.bool (a != b))
 | .lss=>some (.bool (decide (a<b)))
 | .leq=>some (.bool (decide (a≤b)))
 | .gtr=>some (.bool (decide (a>b)))
 | .geq=>some (.bool (decide (a≥b)))
 | .shl=>none
 | .shr=>none
def AJ (op:BinOp) (k:IntKind) (a b:Int):Option V :=
 if b<0 then none else
 match op with
 | .shl=>some (.int k (k.wrap (a*2 ^ (min b.toNat k.bits))))
 | .shr=>some (.int k (a.fdiv (2 ^ (min b.toNat k.bits))))
 | _=>none
def Oq:List Nat→List Nat→Bool
 | _,[]=>false
 | [],_::_=>true
 | a::x,b::y=>Nat.blt a b||(Nat.beq a b&&Oq x y)
def eqL:List Nat→List Nat→Bool
 | [],[]=>true
 | a::x,b::y=>Nat.beq a b&&eqL x y
 | _,_=>false
def Oi (op:BinOp) (a b:List Nat):Option V :=
 match op with
 | .add=>if a.length+b.length≤4611686018427387904 then some (.str (a++b)) else none
 | .eql=>some (.bool (eqL a b))
 | .neq=>some (.bool (!eqL a b))
 | .lss=>some (.bool (Oq a b))
 | .leq=>some (.bool (Oq a b||eqL a b))
 | .gtr=>some (.bool (!(Oq a b||eqL a b)))
 | .geq=>some (.bool (!Oq a b))
 | _=>none
def D9 (op:BinOp):V→V→Option V
 | .int k a,.int k' b=>match op with
  | .shl=>AJ .shl k a b
  | .shr=>AJ .shr k a b
  | op=>if k=k' then NK op k a b else none
 | .str a,.str b=>Oi op a b
 | _,_=>none
def eqV:EqTy→V→V→Option Bool
 | .bool,.bool a,.bool b=>some (a==b)
 | .ptr,.nilptr,.nilptr=>some true
 | .ptr,.nilptr,.ptr _ _=>some false
 | .ptr,.ptr _ _,.nilptr=>some false
 | .ptr,.ptr b o,.ptr b' o'=>if b=b' then some (Nat.beq o o') else none
 | .slice,.nilslice,.nilslice=>some true
 | .slice,.nilslice,.slice _ _ _ _=>some false
 | .slice,.slice _ _ _ _,.nilslice=>some false
 | .map,.nilmap,.nilmap=>some true
 | .map,.nilmap,.map _=>some false
 | .map,.map _,.nilmap=>some false
 | .func,.nilfunc,.nilfunc=>some true
 | .func,.nilfunc,.func _ _ _=>some false
 | .func,.func _ _ _,.nilfunc=>some false
 | .iface,.niliface,.niliface=>some true
 | .iface,.niliface,.iface _ _=>some false
 | .iface,.iface _ _,.niliface=>some false
 | _,_,_=>none
def Cg:Sc→V→V→Option Bool
 | .int,.int k a,.int k' b=>if k=k' then some (a==b) else none
 | .str,.str a,.str b=>some (eqL a b)
 | .bool,.bool a,.bool b=>some (a==b)
 | _,_,_=>none
def TR:List Sc→List V→List V→Option Bool
 | [],[],[]=>some true
 | s::l,a::x,b::y=>match Cg s a b with
  | some true=>TR l x y
  | some false=>some false
  | none=>none
 | _,_,_=>none
def aUn (op:UnOp):V→Option V
 | .int k n=>match op with
  | .neg=>some (.int k (k.wrap (0-n)))
  | .xor=>some (.int k (Sm .xor k (if k.signed then -1 else k.max) n))
  | _=>none
 | .bool b=>match op with
  | .not=>some (.bool (!b))
  | _=>none
 | _=>none
def Lr:Nat→List V→Option (List V)
 | 0,_=>some []
 | n+1,v::l=>match Lr n l with
  | some r=>some (v::r)
  | none=>none
 | _+1,[]=>none
def AW.load (aw:AW) (b off n:Nat):Option (List V) :=
 match aw.heap.get b with
 | some (.cells l sh)=>match aw.alive b sh with
  | true=>Lr n (l.drop off)
  | false=>none
 | _=>none
def over:List V→Nat→List V→Option (List V)
 | l,0,[]=>some l
 | _::l,0,v::vs=>match over l 0 vs with
  | some r=>some (v::r)
  | none=>none
 | x::l,off+1,vs=>match over l off vs with
  | some r=>some (x::r)
  | none=>none
 | _,_,_=>none
def AW.store (aw:AW) (b off:Nat) (vs:List V):Option AW :=
 match aw.heap.get b with
 | some (.cells l sh)=>match aw.alive b sh,sh,Lv vs with
  | true,.own,true=>match over l off vs with
   | some l'=>some (aw.turn b (.cells l' sh))
   | none=>none
  | true,.lax,true=>match over l off vs with
   | some l'=>some (aw.turn b (.cells l' sh))
   | none=>none
  | true,.fam f,true=>match over l off vs with
   | some l'=>some (aw.turn b (.cells l' sh))
   | none=>none
  | _,_,_=>none
 | _=>none
inductive Res where
 | val (v:V)
 | skip
 | call (f:Nat) (args:List V)
def valOf (o:Option V) (aw:AW):Option (Res×AW) :=
 match o with
 | some v=>some (.val v,aw)
 | none=>none
def Cj (l:List V) (off sz:Nat) (agg:Bool):Option V :=
 match agg with
 | true=>match Lr sz (l.drop off) with
  | some r=>some (.agg r)
  | none=>none
 | false=>(l.drop off).head?
def idx:V→Option Nat
 | .int _ (.ofNat n)=>some n
 | _=>none
def Lj:List V→List (Nat×Nat×V)→Option (List V)
 | l,[]=>some l
 | l,(off,sz,v)::rest=>if v.cells.length=sz then match over l off v.cells with
   | some l'=>Lj l' rest
   | none=>none
  else none
def Lg (fr:Fr):List (Nat×Nat×Opd)→Option (List (Nat×Nat×V))
 | []=>some []
 | (o,s,x)::rest=>match x.ev fr with
  | some v=>match Lg fr rest with
   | some r=>some ((o,s,v)::r)
   | none=>none
  | none=>none
def AW.fresh (aw:AW) (l:List V):AW:=aw.new (.cells l .own)
def AW.freshLax (aw:AW) (l:List V):AW:=aw.new (.cells l .lax)
def Be (fr:Fr):Option Opd→Option (Option Nat)
 | none=>some none
 | some x=>match x.ev fr with
  | some v=>match idx v with
   | some n=>some (some n)
   | none=>none
  | none=>none
def TS (esz:Nat) (b off len:Nat) (cap:Cap) (lo hi mx:Option Nat):Option V :=
 match cap with
 | .known c =>
  let m:=mx.getD c
  let h:=hi.getD len
  let l:=lo.getD 0
  if m≤c∧h≤m∧l≤h∧(mx.isSome=true→hi.isSome=true) then some (.slice b (if m=l then off else off+l*esz) (h-l) (.known (m-l))) else none
 | .upTo e =>
  let h:=hi.getD len
  let l:=lo.getD 0
  match mx with
  | none=>if h≤len∧l≤h∧e=esz then some (.slice b (off+l*esz) (h-l) (.upTo esz)) else none
  | some m=>if m≤len∧h≤m∧l≤h∧(l<m∨(l=0∧0<len))∧hi.isSome=true then some (.slice b (off+l*esz) (h-l) (.known (m-l))) else none
def AW.sliceUp (aw:AW) (esz b off:Nat) (cap:Cap) (lo hi mx:Option Nat):Option V :=
 match cap,hi,mx with
 | .upTo e,some h,none=>match aw.heap.get b with
  | some (.cells l sh)=>if aw.alive b sh=true∧e=esz∧0<esz∧off+h*esz≤l.length∧lo.getD 0<h then some (.slice b (off+lo.getD 0*esz) (h-lo.getD 0) (.upTo esz)) else none
  | _=>none
 | _,_,_=>none
def AW.sliceW (aw:AW) (esz b off len:Nat) (cap:Cap) (lo hi mx:Option Nat):Option V :=
 match TS esz b off len cap lo hi mx with
 | some v=>some v
 | none=>aw.sliceUp esz b off cap lo hi mx
def CX (l:List Nat):List V:=l.map fun c=> .int .u8 (Fq c)
def EB:List V→Option (List Nat)
 | []=>some []
 | .int .u8 (.ofNat n)::l=>match Nat.blt n 256,EB l with
  | true,some r=>some (n::r)
  | _,_=>none
 | _::_=>none
def AW.elems (aw:AW) (esz:Nat):V→Option (Nat×List V)
 | .nilslice=>some (0,[])
 | .slice b off len _=>match len with
  | 0=>some (0,[])
  | len=>match aw.load b off (len*esz) with
   | some l=>some (len,l)
   | none=>none
 | .str l=>if esz=1 then some (l.length,CX l) else none
 | _=>none
def AW.appendFam (aw:AW) (esz b off len k:Nat) (news:List V):Option (V×AW) :=
 match aw.heap.get b with
 | some (.cells l (.fam f))=>match aw.alive b (.fam f),aw.fams.get f,Nat.beq (off+len*esz) l.length with
  | true,some F,true=>some (.slice aw.next 0 (len+k) (.upTo esz),aw.grow b f F (l.drop off++news))
  | _,_,_=>none
 | _=>none
def AW.appendUp (aw:AW) (esz b off len k:Nat) (news:List V):Option (V×AW) :=
 match aw.heap.get b with
 | some (.cells l sh)=>match Nat.beq (off+len*esz) l.length with
  | true=>match sh with
   | .own=>(aw.found b l).appendFam esz b off len k news
   | .lax=>(aw.found b l).appendFam esz b off len k news
   | _=>aw.appendFam esz b off len k news
  | false=>match Nat.ble (off+(len+k)*esz) l.length with
   | true=>match aw.store b (off+len*esz) news with
    | some aw'=>some (.slice b off (len+k) (.upTo esz),aw')
    | none=>none
   | false=>none
 | _=>none
def AW.appendV (aw:AW) (esz bytes:Nat) (s:V) (k:Nat) (news:List V):Option (V×AW) :=
 match k with
 | 0=>match s with
  | .nilslice=>some (s,aw)
  | .slice _ _ _ (.upTo _)=>some (s,aw)
  | .slice _ _ len (.known c)=>if len≤c then some (s,aw) else none
  | _=>none
 | k=>match s with
  | .nilslice=>if k*bytes≤70368744177664∧k≤70368744177664 then some (.slice aw.next 0 k (.upTo esz),aw.fresh news) else none
  | .slice b off len (.known c) =>
   if (len+k)*bytes≤70368744177664∧len+k≤70368744177664∧len≤c then
    if len+k≤c then match aw.store b (off+len*esz) news with
     | some aw'=>some (.slice b off (len+k) (.known c),aw')
     | none=>none
    else match aw.elems esz (.slice b off len (.known c)) with
     | some (_,old)=>some (.slice aw.next 0 (len+k) (.upTo esz),aw.fresh (old++news))
     | none=>none
   else none
  | .slice b off len (.upTo e) =>
   if e=esz∧(len+k)*bytes≤70368744177664∧len+k≤70368744177664∧Lv news=true∧0<esz then aw.appendUp esz b off len k news else none
  | _=>none
def CO:KeyTy→V→V→Option Bool
 | .scalar s,a,b=>Cg s a b
 | .cells l,.agg x,.agg y=>TR l x y
 | _,_,_=>none
def BA (t:KeyTy) (k:V):List (V×V×Nat)→Nat→Option (Option (Nat×V×Nat))
 | [],_=>some none
 | (k',v,n)::es,i=>match CO t k k' with
  | some true=>some (some (i,v,n))
  | some false=>BA t k es (i+1)
  | none=>none
def IE:KeyTy→V→Bool
 | .scalar .int,.int _ _=>true
 | .scalar .str,.str _=>true
 | .scalar .bool,.bool _=>true
 | .cells l,.agg x=>Nat.beq x.length l.length
 | _,_=>false
def AW.entries (aw:AW):V→Option (Option Nat×List (V×V×Nat)×Nat)
 | .nilmap=>some (none,[],0)
 | .map b=>match aw.heap.get b with
  | some (.map es ck)=>some (some b,es,ck)
  | _=>none
 | _=>none
def IL (i:Nat) (k v:V) (es:List (V×V×Nat)):List (V×V×Nat) :=
 match es[i]? with
 | some (_,_,n)=>es.set i (k,v,n)
 | none=>es
def EN:V→List V→Option V
 | v,[]=>some v
 | .int k x,.int _ y::rest=>EN (.int k (if y<x then y else x)) rest
 | _,_=>none
def EM:V→List V→Option V
 | v,[]=>some v
 | .int k x,.int _ y::rest=>EM (.int k (if x<y then y else x)) rest
 | _,_=>none
def AW.lookV (aw:AW) (t:KeyTy) (zero:V) (m k:V):Option (V×Bool) :=
 match aw.entries m,IE t k with
 | some (_,es,_),true=>match BA t k es 0 with
  | some (some (_,v,_))=>some (v,true)
  | some none=>some (zero,false)
  | none=>none
 | _,_=>none
def AW.putV (aw:AW) (t:KeyTy) (m k v:V):Option AW :=
 match aw.entries m,IE t k with
 | some (some b,es,ck),true=>match BA t k es 0 with
  | some (some (i,_,_))=>some (aw.turn b (.map (IL i k v es) ck))
  | some none=>some (aw.turn b (.map (es++[(k,v,ck)]) (ck+1)))
  | none=>none
 | _,_=>none
def lenV:V→Option Nat
 | .nilslice=>some 0
 | .slice _ _ n _=>some n
 | _=>none
def L9:List (Nat×Nat×Option (Nat×Bool))→Nat→Option (Nat×Option (Nat×Bool))
 | [],_=>none
 | (t',r)::l,t=>match Nat.beq t' t with
  | true=>some r
  | false=>L9 l t
def OJ (x:Nat):List Nat→Bool
 | []=>false
 | y::l=>match Nat.beq x y with
  | true=>true
  | false=>OJ x l
def AA (since:Nat):List (V×V×Nat)→Bool
 | []=>true
 | e::es=>match Nat.blt e.2.2 since with
  | true=>AA since es
  | false=>false
def unseen (seen:List Nat):List (V×V×Nat)→List (V×V×Nat)
 | []=>[]
 | e::es=>match OJ e.2.2 seen with
  | true=>unseen seen es
  | false=>e::unseen seen es
def EG:List Nat→Option Nat
 | []=>none
 | x::l=>match l with
  | []=>some x
  | _=>EG l
def findS (st:Nat):List (V×V×Nat)→Option (V×V)
 | []=>none
 | (k,v,n)::es=>match Nat.beq n st with
  | true=>some (k,v)
  | false=>findS st es
def aop (o:AOp) (fr:Fr) (aw:AW):Option (Res×AW) :=
 match o with
 | .stuck=>none
 | .mov x=>valOf (x.ev fr) aw
 | .pick c a b=>match c.ev fr with
  | some (.bool true)=>valOf (a.ev fr) aw
  | some (.bool false)=>valOf (b.ev fr) aw
  | _=>none
 | .bin op x y=>match x.ev fr,y.ev fr with
  | some a,some b=>valOf (D9 op a b) aw
  | _,_=>none
 | .eqv neg ty x y=>match x.ev fr,y.ev fr with
  | some a,some b=>match eqV ty a b with
   | some r=>some (.val (.bool (neg != r)),aw)
   | none=>none
  | _,_=>none
 | .eqAgg neg l x y=>match x.ev fr,y.ev fr with
  | some (.agg a),some (.agg b)=>match TR l a b with
   | some r=>some (.val (.bool (neg != r)),aw)
   | none=>none
  | _,_=>none
 | .un op x=>match x.ev fr with
  | some a=>valOf (aUn op a) aw
  | none=>none
 | .conv k x=>match x.ev fr with
  | some (.int _ n)=>some (.val (.int k (k.wrap n)),aw)
  | _=>none
 | .convStr x=>match x.ev fr with
  | some (.str l)=>some (.val (.str l),aw)
  | _=>none
 | .bytesOf x=>match x.ev fr with
  | some (.str l)=>if l.length≤70368744177664 then some (.val (.slice aw.next 0 l.length (.upTo 1)),aw.freshLax (CX l)) else none
  | _=>none
 | .strOf x=>match x.ev fr with
  | some .nilslice=>some (.val (.str []),aw)
  | some (.slice b off len cap)=>match aw.elems 1 (.slice b off len cap) with
   | some (_,l)=>match EB l with
    | some cs=>some (.val (.str cs),aw)
    | none=>none
   | none=>none
  | _=>none
 | .nilCheck x=>match x.ev fr with
  | some (.ptr b off)=>some (.val (.ptr b off),aw)
  | some (.func (.func f) a c)=>some (.val (.func (.func f) a c),aw)
  | some (.iface t v)=>some (.val (.iface t v),aw)
  | _=>none
 | .fieldAddr off x=>match x.ev fr with
  | some (.ptr b o)=>some (.val (.ptr b (o+off)),aw)
  | _=>none
 | .indexAddr esz x i=>match x.ev fr,i.ev fr with
  | some (.slice b off len _),some iv=>match idx iv with
   | some n=>if n<len then some (.val (.ptr b (off+n*esz)),aw) else none
   | none=>none
  | _,_=>none
 | .indexArr n esz x i=>match x.ev fr,i.ev fr with
  | some (.ptr b off),some iv=>match idx iv with
   | some j=>if j<n then some (.val (.ptr b (off+j*esz)),aw) else none
   | none=>none
  | _,_=>none
 | .indexStr x i=>match x.ev fr,i.ev fr with
  | some (.str l),some iv=>match idx iv with
   | some n=>match l[n]? with
    | some c=>some (.val (.int .u8 (Fq c)),aw)
    | none=>none
   | none=>none
  | _,_=>none
 | .indexAgg n esz agg x i=>match x.ev fr,i.ev fr with
  | some (.agg l),some iv=>match idx iv with
   | some j=>if j<n then valOf (Cj l (j*esz) esz agg) aw else none
   | none=>none
  | _,_=>none
 | .field off sz agg x=>match x.ev fr with
  | some (.agg l)=>valOf (Cj l off sz agg) aw
  | _=>none
 | .load sz agg a=>match a.ev fr with
  | some (.ptr b off)=>match agg with
   | true=>match aw.load b off sz with
    | some l=>some (.val (.agg l),aw)
    | none=>none
   | false=>match aw.load b off 1 with
    | some [v]=>some (.val v,aw)
    | _=>none
  | _=>none
 | .store sz a v=>match a.ev fr,v.ev fr with
  | some (.ptr b off),some v=>if v.cells.length=sz then match aw.store b off v.cells with
    | some aw'=>some (.skip,aw')
    | none=>none
   else none
  | _,_=>none
 | .alloc zero=>some (.val (.ptr aw.next 0),aw.fresh zero)
 | .box x=>match x.ev fr with
  | some v=>some (.val (.ptr aw.next 0),aw.fresh v.cells)
  | none=>none
 | .build zero parts=>match Lg fr parts with
  | some ps=>match Lj zero ps with
   | some l=>some (.val (.agg l),aw)
   | none=>none
  | none=>none
 | .buildSlice len zero parts=>match Lg fr parts with
  | some ps=>match Lj zero ps with
   | some l=>some (.val (.slice aw.next 0 len (.known len)),aw.fresh l)
   | none=>none
  | none=>none
 | .mkSlice esz bytes zero l c=>match l.ev fr,c.ev fr with
  | some lv,some cv=>match idx lv,idx cv with
   | some l,some c=>if l≤c∧c≤70368744177664∧c*bytes≤70368744177664 then
     some (.val (.slice aw.next 0 l (.known c)),aw.fresh ((List.replicate c zero).flatten))
    else none
   | _,_=>none
  | _,_=>none
 | .slice esz x lo hi mx=>match x.ev fr,Be fr lo,Be fr hi,Be fr mx with
  | some (.slice b off len cap),some lo,some hi,some mx=>valOf (aw.sliceW esz b off len cap lo hi mx) aw
  | some .nilslice,some lo,some hi,some mx=>match lo.getD 0,hi.getD 0,mx.getD 0 with
   | 0,0,0=>if mx.isSome=true→hi.isSome=true then some (.val .nilslice,aw) else none
   | _,_,_=>none
  | _,_,_,_=>none
 | .sliceStr x lo hi=>match x.ev fr,Be fr lo,Be fr hi with
  | some (.str s),some lo,some hi =>
   let h:=hi.getD s.length
   let l:=lo.getD 0
   if h≤s.length∧l≤h then some (.val (.str ((s.drop l).take (h-l))),aw) else none
  | _,_,_=>none
 | .sliceArr n esz x lo hi mx=>match x.ev fr,Be fr lo,Be fr hi,Be fr mx with
  | some (.ptr b off),some lo,some hi,some mx=>valOf (TS esz b off n (.known n) lo hi mx) aw
  | _,_,_,_=>none
 | .mkMap=>some (.val (.map aw.next),aw.new (.map [] 0))
 | .lookup t zero ok m k=>match m.ev fr,k.ev fr with
  | some m,some k=>match aw.lookV t zero m k with
   | some (v,b)=>some (.val (match ok with|true=> .tuple [v,.bool b]|false=>v),aw)
   | none=>none
  | _,_=>none
 | .mapUpdate t m k v=>match m.ev fr,k.ev fr,v.ev fr with
  | some m,some k,some v=>match aw.putV t m k v with
   | some aw'=>some (.skip,aw')
   | none=>none
  | _,_,_=>none
 | .mapEntry t zero m k=>match m.ev fr,k.ev fr with
  | some m,some k=>match aw.entries m,IE t k with
   | some (some b,es,ck),true=>match BA t k es 0 with
    | some (some (i,v,n))=>some (.val (.tuple [v,.int .i64 (Fq n)]),aw.turn b (.map (IL i k v es) ck))
    | some none=>some (.val (.tuple [zero,.int .i64 (Fq ck)]),aw.turn b (.map (es++[(k,zero,ck)]) (ck+1)))
    | none=>none
   | _,_=>none
  | _,_=>none
 | .entryStore m s v=>match m.ev fr,s.ev fr,v.ev fr with
  | some m,some s,some v=>match aw.entries m,idx s with
   | some (some b,es,ck),some n=>match es.findIdx? (fun e=>Nat.beq e.2.2 n) with
    | some i=>match es[i]? with
     | some (k,_,n)=>some (.skip,aw.turn b (.map (es.set i (k,v,n)) ck))
     | none=>none
    | none=>none
   | _,_=>none
  | _,_,_=>none
 | .delete t m k=>match m.ev fr,k.ev fr with
  | some m,some k=>match aw.entries m,IE t k with
   | some (none,_,_),true=>some (.val (.tuple []),aw)
   | some (some b,es,ck),true=>match BA t k es 0 with
    | some (some (i,_,_))=>some (.val (.tuple []),aw.turn b (.map (es.eraseIdx i) ck))
    | some none=>some (.val (.tuple []),aw.turn b (.map es ck))
    | none=>none
   | _,_=>none
  | _,_=>none
 | .mkIface t x=>match x.ev fr with
  | some v=>some (.val (.iface t v),aw)
  | none=>none
 | .typeAssert t zero ok x=>match x.ev fr with
  | some (.iface t' v)=>match Nat.beq t' t with
   | true=>some (.val (match ok with|true=> .tuple [v,.bool true]|false=>v),aw)
   | false=>match ok with
    | true=>some (.val (.tuple [zero,.bool false]),aw)
    | false=>none
  | some .niliface=>match ok with
   | true=>some (.val (.tuple [zero,.bool false]),aw)
   | false=>none
  | _=>none
 | .mkFunc fn first cap=>match evs fr first,evs fr cap with
  | some f,some c=>some (.val (.func fn f c),aw)
  | _,_=>none
 | .extract i x=>match x.ev fr with
  | some (.tuple l)=>valOf (l[i]?) aw
  | _=>none
 | .lenStr x=>match x.ev fr with
  | some (.str l)=>some (.val (.int .i64 (Fq l.length)),aw)
  | _=>none
 | .lenSl x=>match x.ev fr with
  | some v=>match lenV v with
   | some n=>some (.val (.int .i64 (Fq n)),aw)
   | none=>none
  | none=>none
 | .lenMap x=>match x.ev fr with
  | some m=>match aw.entries m with
   | some (_,es,_)=>some (.val (.int .i64 (Fq es.length)),aw)
   | none=>none
  | none=>none
 | .lenArr n=>some (.val (.int .i64 (Fq n)),aw)
 | .cap x=>match x.ev fr with
  | some (.slice _ _ _ (.known c))=>some (.val (.int .i64 (Fq c)),aw)
  | some .nilslice=>some (.val (.int .i64 (Fq 0)),aw)
  | _=>none
 | .mn xs=>match evs fr xs with
  | some (v::rest)=>valOf (EN v rest) aw
  | _=>none
 | .mx xs=>match evs fr xs with
  | some (v::rest)=>valOf (EM v rest) aw
  | _=>none
 | .append esz bytes s x=>match s.ev fr,x.ev fr with
  | some s,some x=>match aw.elems esz x with
   | some (k,news)=>match aw.appendV esz bytes s k news with
    | some (v,aw')=>some (.val v,aw')
    | none=>none
   | none=>none
  | _,_=>none
 | .copy esz d s=>match d.ev fr,s.ev fr with
  | some (.slice b off len _),some s=>match aw.elems esz s with
   | some (k,l)=>match Lr (min k len*esz) l with
    | some cs=>match cs with
     | []=>some (.val (.int .i64 (Fq (min k len))),aw)
     | cs=>match aw.store b off cs with
      | some aw'=>some (.val (.int .i64 (Fq (min k len))),aw')
      | none=>none
    | none=>none
   | none=>none
  | some .nilslice,some s=>match aw.elems esz s with
   | some (k,l)=>some (.val (.int .i64 0),aw)
   | none=>none
  | _,_=>none
 | .clear zero x=>match x.ev fr with
  | some .nilslice=>some (.val (.tuple []),aw)
  | some (.slice b off len _)=>match len with
   | 0=>some (.val (.tuple []),aw)
   | len=>match aw.store b off ((List.replicate len zero).flatten) with
    | some aw'=>some (.val (.tuple []),aw')
    | none=>none
  | _=>none
 | .clearMap x=>match x.ev fr with
  | some m=>match aw.entries m with
   | some (none,_,_)=>some (.val (.tuple []),aw)
   | some (some b,_,ck)=>some (.val (.tuple []),aw.turn b (.map [] ck))
   | none=>none
  | none=>none
 | .call f args=>match f.ev fr,evs fr args with
  | some (.func (.func f) first cap),some args=>some (.call f (first++args++cap),aw)
  | _,_=>none
 | .inv tbl x args=>match x.ev fr,evs fr args with
  | some (.iface t v),some args=>match L9 tbl t with
   | some (f,none)=>some (.call f (v::args),aw)
   | some (f,some (sz,agg))=>match v with
    | .ptr b off=>match agg with
     | true=>match aw.load b off sz with
      | some l=>some (.call f (.agg l::args),aw)
      | none=>none
     | false=>match aw.load b off 1 with
      | some [u]=>some (.call f (u::args),aw)
      | _=>none
    | _=>none
   | none=>none
  | _,_=>none
 | .rangeMap x=>match x.ev fr with
  | some m=>match aw.entries m with
   | some (b,_,ck)=>some (.val (.ptr aw.next 0),aw.new (.mapIter b (match b with|some _=>ck|none=>0) [] (match b with|some _=>ck|none=>0)))
   | none=>none
  | none=>none
 | .nextMap x=>match x.ev fr with
  | some (.ptr r 0)=>match aw.heap.get r with
   | some (.mapIter none _ _ _)=>some (.val (.tuple [.bool false]),aw)
   | some (.mapIter (some b) since seen last)=>match aw.heap.get b with
    | some (.map es ck)=>match Nat.ble since last&&AA since es with
     | true=>match unseen seen es with
      | []=>some (.val (.tuple [.bool false]),aw)
      | [(k,v,n)]=>some (.val (.tuple [.bool true,k,v]),aw.turn r (.mapIter (some b) since (seen++[n]) ck))
      | _=>none
     | false=>none
    | _=>none
   | _=>none
  | _=>none
 | .entry x=>match x.ev fr with
  | some (.ptr r 0)=>match aw.heap.get r with
   | some (.mapIter (some b) _ seen last)=>match aw.heap.get b,EG seen with
    | some (.map es ck),some st=>match Nat.beq ck last with
     | true=>match findS st es with
      | some (k,v)=>some (.val (.tuple [k,v]),aw)
      | none=>none
     | false=>none
    | _,_=>none
   | _=>none
  | _=>none
end
end Go.AE
