/- A part of the proof. -/
import Derived.Test.YtegdcbdicpfbpaaGreatDoorJrT
set_option linter.unusedVariables false
set_option maxRecDepth 10000
set_option linter.unusedSimpArgs false
namespace Go.Proofs.YtegdcbdicpfbpaaGreatDoor
open Go.AE Delphi Val
variable {tab:Tab}
structure CuF (f:Fr) (lv:V) (n:Int) (ov:V) (i fb:Nat):Prop where
 f0:f.get 0=some lv
 f1:f.get 1=some (.int .i64 n)
 f5:f.get 5=some ov
 f6:f.get 6=some (.int .i64 (Int.ofNat i))
 f7:f.get 7=some (.ptr fb 0)
variable {lv:V} {l:List Fc} {st:List SI} {Q:Fr→AW→Prop}
theorem JsB (C:Codes tab){T:Fw}{ov:V}{n:Int}{i fb:Nat}{fc:Fc}{nm:List Nat}{w:AW}{f:Fr}(hx:Fcs T w lv l)(hfc:l[i]? = some fc)(hT:∀x,T x→x<w.next∧x≠fb)(hF:CuF f lv n ov i fb)(f8:f.get 8=some (.int .i64 (Int.ofNat 0)))(hb:CB w fb [.str nm,.nilslice])(h:∀f' w' av S,CuF f' lv n ov i fb→CB w' fb [.str nm,av]→Bt S w' av 3 (fc.2.take 4).length (JcY ((fc.2.take 4).map Jem))→Frm (fun x=>x=fb) w w'→(∀x,S x→w.next≤x∧x<w'.next)→WS tab st f' w' Q): WS tab (.code (.loop ZO) :: .endB 2::st) f w Q:=by
 refine Jba (fun q f w1=>∃m av S,CuF f lv n ov i fb∧f.get 8=some (.int .i64 (Int.ofNat m))∧CB w1 fb [.str nm,av]∧Bt S w1 av 3 m (JcY ((fc.2.take m).map Jem))∧Frm (fun x=>x=fb) w w1∧(∀x,S x→w.next≤x∧x<w1.next)∧m≤fc.2.length∧m≤4∧q=4-m)
  (fun f w1=>∃av S,CuF f lv n ov i fb∧CB w1 fb [.str nm,av]∧Bt S w1 av 3 (fc.2.take 4).length (JcY ((fc.2.take 4).map Jem))∧Frm (fun x=>x=fb) w w1∧(∀x,S x→w.next≤x∧x<w1.next)) ?_ ?_ 4
  ⟨0,.nilslice,fun _=>False,hF,f8,hb,.nil,Frm.refl _,fun _ h=>h.elim,Nat.zero_le _,by omega,rfl⟩
 ·rintro q f w1 ⟨m,av,S,⟨f0,f1,f5,f6,f7⟩,f8,hc,hB,g,hS,hm,hm4,rfl⟩ ih out;have hil:i<l.length:=(List.getElem?_eq_some_iff.1 hfc).1;obtain⟨b,o,c,xv,rfl,_,_,l2,l0,l1,hxa⟩:=Jd2 (hx.frm g fun x hx=>(hT x hx).2) hfc;have hxl:=hxa.lenV;have hbl:=hb.lt
  have stop:(fc.2.take 4).length=m→CB w1 fb [.str nm,av]→∃av S,CuF (f) (.slice b o l.length c) n ov i fb∧CB w1 fb [.str nm,av]∧Bt S w1 av 3 (fc.2.take 4).length (JcY ((fc.2.take 4).map Jem))∧Frm (fun x=>x=fb) w w1∧(∀x,S x→w.next≤x∧x<w1.next):=by
   intro e hc;have e2:fc.2.take 4=fc.2.take m:=by rw[←e,FU,List.take_eq_take_iff];omega
   rw[e2];refine⟨av,S,⟨f0,f1,f5,f6,f7⟩,hc,?_,g,hS⟩;have e3:(fc.2.take m).length=m:=by rw[←e2];exact e
   rw[e3];exact hB
  by_cases hlt:m<fc.2.length
  case neg =>
   obtain⟨av',S',⟨q0,q1,q5,q6,q7⟩,h2,h3,h4,h5⟩:=stop (by rw[FU];omega) hc;refine Ja2 1000 (by simp only[go_sem,simprocAttr,ZO,f0,f6,f8,hil,l1,hxl,hlt];rfl) ?_;exact out _ _ _ ⟨av',S',⟨(by simp only[go_sem,JaX,simprocAttr,q0]<;>rfl),(by simp only[go_sem,JaX,simprocAttr,q1]<;>rfl),(by simp only[go_sem,JaX,simprocAttr,q5]<;>rfl),(by simp only[go_sem,JaX,simprocAttr,q6]<;>rfl),(by simp only[go_sem,JaX,simprocAttr,q7]<;>rfl)⟩,h2,h3,h4,h5⟩ rfl
  by_cases h4:m<4
  case neg =>
   obtain⟨av',S',⟨q0,q1,q5,q6,q7⟩,h2,h3,h4',h5⟩:=stop (by rw[FU];omega) hc;refine Ja2 1000 (by simp only[go_sem,simprocAttr,ZO,f0,f6,f8,hil,l1,hxl,hlt,h4];rfl) ?_;exact out _ _ _ ⟨av',S',⟨(by simp only[go_sem,JaX,simprocAttr,q0]<;>rfl),(by simp only[go_sem,JaX,simprocAttr,q1]<;>rfl),(by simp only[go_sem,JaX,simprocAttr,q5]<;>rfl),(by simp only[go_sem,JaX,simprocAttr,q6]<;>rfl),(by simp only[go_sem,JaX,simprocAttr,q7]<;>rfl)⟩,h2,h3,h4',h5⟩ rfl
  obtain⟨t,ht⟩:∃t,fc.2[m]? = some t:=⟨_,FB hlt⟩;obtain⟨ab,ao,ac,rfl,a3⟩:=JkZ hxa ht;have k1:w1.load fb 1 1=some [av]:=CB.ld hc 1 1 _ rfl;refine Fz (by simp only[go_sem,JaX,simprocAttr,ZO,Ha,f0,f6,f8,hil,l1,hxl,hlt,h4];rfl) ?_;refine JbM ?_;refine Jbn 100 (by simp only[go_sem,JaX,simprocAttr,f0,f6,f7,f8,k1,hil,l1,hlt,a3,JcA];rfl) ?_;refine Jb4 Ff Fe ?_;refine Juo C fun w2 g2=>?_;have hc2:=hc.frm g2 fun h=>h;have k1':w2.load fb 1 1=some [av]:=CB.ld hc2 1 1 _ rfl;have hB2:=hB.frm g2 fun _ _ h=>h;have hn1:=g.next;have hn2:=g2.next;obtain⟨v',w3,S3,u1,u2,u3,u4⟩:=hB2.push (news:=tkC (Jem t)) (bytes:=32) (fun x hx=>by have:=hS x hx;omega) Fh rfl rfl Fh Fh;have hel:(w2.fresh (tkC (Jem t))).elems 3 (.slice w2.next 0 1 (.known 1))=some (1,tkC (Jem t)):=JbH Fh rfl;have hov:over [V.int .i64 0,V.str [],V.int .i64 0] 0 (tkC (Jem t))=some (tkC (Jem t)):=rfl;have k1'':(w2.fresh (tkC (Jem t))).load fb 1 1=some [av]:=CB.ld (hc2.frm (Jbc (S:=fun _=>False) _ _) fun h=>h) 1 1 _ rfl;have hc3:=hc2.frm u3 fun h=>by have:=(hS _ h).1;omega
  have s3:w3.store fb 1 [v']=some (w3.put fb [.str nm,v']):=hc3.set (i:=1) (v:=v') Fj u2.one.1;have c4:=Jbx (l:=[V.str nm,v']) hc3.lt;have g4:Frm (fun x=>x=fb) w3 (w3.put fb [.str nm,v']):=Jbj;have hcc:V.cells (.agg (tkC (Jem t)))=tkC (Jem t):=rfl;have hwr:IntKind.wrap .i64 (Int.ofNat m+1)=Int.ofNat (m+1):=Ja3 Fh;have hvc:=u2.one.2;refine Jbn 100 (by simp only[go_sem,JaX,simprocAttr,f7,hcc,JcA,Ja4,Jbe,hov,FC,FD,hel,u1,hvc,s3];rfl) ?_;refine JbO ⟨(show Jbg _ _ [(1,10),(1,11)]from by simp only[go_sem,JaX,simprocAttr,Jbg,chk,List.reverse_cons,List.reverse_nil,JbE,JbR,JbP,JbQ,List.getElem?_nil,false_or,or_true,or_false,exists_eq',FQ,Prod.mk.injEq,Bool.true_eq_false,FM,and_true,true_and,implies_true,k1,k1',k1'']),?_⟩;have hn3:=u3.next;obtain⟨w4,e4⟩:∃w4,w4=w3.put fb [.str nm,v']:=⟨_,rfl⟩;have hn4:w4.next=w3.next:=by rw[e4];rfl
  rw[←e4]at c4 g4 ⊢;refine Fz (by simp only[go_sem,JaX,simprocAttr,f8,hwr];rfl) ?_;refine ih _ _ _ Fh ⟨m+1,v',S3,⟨(Fg f0),(Fg f1),(Fg f5),(Fg f6),(Fg f7)⟩,Fb,c4,?_,((g.tr g2.no).trans u3 (fun _ _ h=>h) fun x hx h=>by have:=(hS x h).1;omega).tr g4,fun x hx=>?_,by omega,by omega,rfl⟩
  ·rw[Jbz ht,List.map_append,Kv,Kw,Jj9]
   exact u2.frm g4 fun x hx h=>by
    rcases (u4 x hx).2 with h1|h1
    ·have:=(hS x h1).1;omega
    ·omega
  ·refine⟨?_,by rw[hn4];exact (u4 x hx).1⟩;rcases (u4 x hx).2 with h1|h1
   ·exact (hS x h1).1
   ·omega
 ·rintro f w1 ⟨av,S,hF,hc,hB,g,hS⟩;exact h f w1 av S hF hc hB g hS
theorem Jvx (C:Codes tab){U:Fw}{ov:V}{n:Int}{i fb:Nat}{out:List Fc}{fc:Fc}{av:V}{b0:Bool}{w:AW}{f:Fr}(ho:Fcs U w ov out)(hol:out.length≤100000)(hb:CB w fb [.str fc.1,av])(hav:lenV av=some fc.2.length)(hF:CuF f lv n ov i fb)(f9:f.get 9=some (.bool b0))(f10:f.get 10=some (.int .i64 (Int.ofNat 0)))(h:∀f',CuF f' lv n ov i fb→f'.get 9=some (.bool (b0&&Jfn out fc))→WS tab st f' w Q): WS tab (.code (.loop JY) :: .endB 4::st) f w Q:=by
 have hlo:=ho.lenV
 refine Jba (fun q f w1=>∃m,CuF f lv n ov i fb∧f.get 9=some (.bool (b0&&Jfn (out.take m) fc))∧f.get 10=some (.int .i64 (Int.ofNat m))∧w1=w∧m≤out.length∧q=out.length-m)
  (fun f w1=>CuF f lv n ov i fb∧f.get 9=some (.bool (b0&&Jfn out fc))∧w1=w) ?_ ?_ out.length ⟨0,hF,by rw[f9];simp[Jfn],f10,rfl,Nat.zero_le _,rfl⟩
 ·rintro q f w1 ⟨m,⟨f0,f1,f5,f6,f7⟩,f9,f10,rfl,hm,rfl⟩ ih exit;by_cases hlt:m<out.length
  case neg =>
   obtain rfl:m=out.length:=Fh;rw[List.take_length]at f9;refine Ja2 1000 (by simp only[go_sem,simprocAttr,JY,f5,f10,hlo,hlt];rfl) ?_;exact exit _ _ _ ⟨⟨(Fg f0),(Fg f1),(Fg f5),(Fg f6),(Fg f7)⟩,(Fg f9),rfl⟩ rfl
  obtain⟨x,hx⟩:∃x,out[m]? = some x:=⟨_,FB hlt⟩;obtain⟨b,o,c,xv,rfl,_,_,l2,l0,l1,hxa⟩:=Jd2 ho hx;have hxl:=hxa.lenV;have k0:w1.load fb 0 1=some [.str fc.1]:=CB.ld hb 0 1 _ rfl;have k1:w1.load fb 1 1=some [av]:=CB.ld hb 1 1 _ rfl;have hwr:IntKind.wrap .i64 (Int.ofNat m+1)=Int.ofNat (m+1):=Ja3 Fh
  have ea:Jfn (out.take (m+1)) fc=(Jfn (out.take m) fc&&(!decide (x.1=fc.1)||decide (x.2.length=fc.2.length))):=by
   unfold Jfn;rw[Jbz hx,List.all_append];simp
  cases hb9:(b0&&Jfn (out.take m) fc)with
  | false =>
   have e9:(b0&&Jfn (out.take (m+1)) fc)=false:=by rw[ea,←Bool.and_assoc,hb9];rfl
   rw[hb9]at f9;refine Fz (by simp only[go_sem,JaX,simprocAttr,JY,ZP,f5,f9,f10,hlo,hlt,hwr];rfl) ?_;exact ih _ _ _ Fh ⟨m+1,⟨(Fg f0),(Fg f1),(Fg f5),(Fg f6),(Fg f7)⟩,by rw[e9];exact Fb,Fb,rfl,by omega,rfl⟩
  | true =>
   rw[hb9]at f9;by_cases hn:x.1=fc.1
   ·have e9:(b0&&Jfn (out.take (m+1)) fc)=decide (x.2.length=fc.2.length):=by rw[ea,←Bool.and_assoc,hb9,decide_eq_true hn];rfl
    have hne:Jck BinOp.neq x.1 fc.1=some (.bool false):=by
     simp only[Jck];rw[hn,eqL_iff.2 rfl];rfl
    have hle:(Int.ofNat x.2.length==Int.ofNat fc.2.length)=decide (x.2.length=fc.2.length):=by
     by_cases hq:x.2.length=fc.2.length
     ·rw[hq,decide_eq_true rfl];simp
     ·rw[decide_eq_false hq];simp only[beq_eq_false_iff_ne,ne_eq];exact fun h=>hq (Int.ofNat.inj h)
    by_cases hq:x.2.length=fc.2.length
    ·rw[decide_eq_true hq]at hle e9;refine Fz (by simp only[go_sem,JaX,simprocAttr,JY,ZP,f5,f7,f9,f10,hlo,hlt,l0,l1,k0,k1,hne,hxl,hav,hle,hq,hwr];rfl) ?_;exact ih _ _ _ Fh ⟨m+1,⟨(Fg f0),(Fg f1),(Fg f5),(Fg f6),(Fg f7)⟩,by rw[e9];exact Fb,Fb,rfl,by omega,rfl⟩
    ·rw[decide_eq_false hq]at hle e9;refine Fz (by simp only[go_sem,JaX,simprocAttr,JY,ZP,f5,f7,f9,f10,hlo,hlt,l0,l1,k0,k1,hne,hxl,hav,hle,hq,hwr];rfl) ?_;exact ih _ _ _ Fh ⟨m+1,⟨(Fg f0),(Fg f1),(Fg f5),(Fg f6),(Fg f7)⟩,by rw[e9];exact Fb,Fb,rfl,by omega,rfl⟩
   ·have e9:(b0&&Jfn (out.take (m+1)) fc)=true:=by rw[ea,←Bool.and_assoc,hb9,decide_eq_false hn];rfl
    have hne:Jck BinOp.neq x.1 fc.1=some (.bool true):=by
     simp only[Jck];cases he:eqL x.1 fc.1 with
     | true=>exact absurd (eqL_iff.1 he) hn
     | false=>rfl
    refine Fz (by simp only[go_sem,JaX,simprocAttr,JY,ZP,f5,f7,f9,f10,hlo,hlt,l0,k0,hne,hwr];rfl) ?_;exact ih _ _ _ Fh ⟨m+1,⟨(Fg f0),(Fg f1),(Fg f5),(Fg f6),(Fg f7)⟩,by rw[e9];exact Fb,Fb,rfl,by omega,rfl⟩
 ·rintro f w1 ⟨hF,h9,rfl⟩;exact h f hF h9
theorem Jf5 (n:Nat)(l:List Fc)(f:Fc):Jcc n (l++[f])=JeL n (Jcc n l) f:=by unfold Jcc;rw[List.foldl_append];rfl
theorem Jij (n:Nat)(l:List Fc):(Jcc n l).length≤n:=by
 unfold Jcc
 have:∀(l:List Fc) (o:List Fc),o.length≤n→(l.foldl (JeL n) o).length≤n:=by
  intro l;induction l with
  | nil=>intro o h;exact h
  | cons f l ih =>
   intro o h;rw[Ku];refine ih _ ?_;unfold JeL;split
   ·rename_i hc;rw[FE,Kb];omega
   ·exact h
 exact this l [] Fj
theorem JpB {n:Nat}(m:List Fc)(h:(Jcc n l).length=n):Jcc n (l++m)=Jcc n l:=by
 induction m generalizing l with
 | nil=>rw[Kc]
 | cons f m ih =>
  have e:Jcc n (l++[f])=Jcc n l:=by
   rw[Jf5];unfold JeL;rw[if_neg Fh]
  have:l++f::m=(l++[f])++m:=Fj;rw[this,ih (by rw[e];exact h),e]
theorem JsA (C:Codes tab){T:Fw}{n:Nat}{aw:AW}{K:V→AW→Prop}(hx:Fcs T aw lv l)(hT:∀x,T x→x<aw.next)(hll:l.length≤9223372036854775807)(hn:n≤1000)(hnb:∀f∈l,∀c∈f.1,c<256)(htb:∀f∈l,∀t∈f.2,∀c∈t.s,c<256)(h:∀w v S,Fcs S w v (Jcc n l)→Frm (fun _=>False) aw w→(∀x,S x→aw.next≤x∧x<w.next)→K v w):WF tab Gc [lv,.int .i64 (Int.ofNat n)] aw K:=by
 refine Ja7 C.YU rfl ?_;have hlv:=hx.lenV;refine Fz (by simp only[go_sem,JaX,simprocAttr,YT];rfl) ?_
 refine Jba (fun q f w=>∃i ov S U,f.get 0=some lv∧f.get 1=some (.int .i64 (Int.ofNat n))∧f.get 5=some ov∧f.get 6=some (.int .i64 (Int.ofNat i))∧FcsB S U w ov (Jcc n (l.take i))∧(∀x,S x→aw.next≤x∧x<w.next∧¬U x)∧(∀x,U x→aw.next≤x∧x<w.next)∧Frm (fun _=>False) aw w∧i≤l.length∧q=l.length-i)
  (fun f w=>∃ov S,f.get 5=some ov∧Fcs S w ov (Jcc n l)∧Frm (fun _=>False) aw w∧(∀x,S x→aw.next≤x∧x<w.next)) ?_ ?_ l.length
  ⟨0,.nilslice,fun _=>False,fun _=>False,Fb,Fb,Fb,Fb,FcsB.nil,fun _ h=>h.elim,fun _ h=>h.elim,Frm.refl _,Nat.zero_le _,rfl⟩
 ·rintro q f w ⟨i,ov,S,U,f0,f1,f5,f6,hB,hS,hU,g,hi,rfl⟩ ih out;have fin:∀x,(S x∨U x)→aw.next≤x∧x<w.next:=fun x hx=>hx.elim (fun h=>⟨(hS x h).1,(hS x h).2.1⟩) (hU x);have hlo:=hB.rd (U:=fun x=>S x∨U x) (fun _ h=> .inl h) fun _ h=> .inr h;have hlo':=hlo.lenV;by_cases hlt:i<l.length
  case neg =>
   obtain rfl:i=l.length:=Fh;rw[List.take_length]at hlo;refine Ja2 1000 (by simp only[go_sem,simprocAttr,YS,f0,f6,hlv,hlt];rfl) ?_;exact out _ _ _ ⟨ov,_,(Fg f5),hlo,g,fin⟩ rfl
  have hcl:=Jij n (l.take i);by_cases hon:(Jcc n (l.take i)).length<n
  case neg =>
   have e:Jcc n l=Jcc n (l.take i):=by
    have:=JpB (n:=n) (l:=l.take i) (l.drop i) Fh;rw[List.take_append_drop]at this;exact this
   refine Ja2 1000 (by simp only[go_sem,simprocAttr,YS,f0,f1,f5,f6,hlv,hlt,hlo',hon];rfl) ?_;exact out _ _ _ ⟨ov,_,(Fg f5),by rw[e];exact hlo,g,fin⟩ rfl
  obtain⟨fc,hfc⟩:∃fc,l[i]? = some fc:=⟨_,FB hlt⟩;have hfm:=FI hfc;have hxw:=hx.frm g fun _ _ h=>h;obtain⟨b,o,c,xv,rfl,_,_,l2,l0,l1,hxa⟩:=Jd2 hxw hfc;refine Fz (by simp only[go_sem,JaX,simprocAttr,YS,Hd,f0,f1,f5,f6,hlv,hlt,hlo',hon,l0];rfl) ?_;refine Ja0 Ff Fe ?_;refine JoV C (n:=16) ?_;obtain⟨w2,s2,c2,r2,n2⟩:=Jb1 w (zs:=[V.str [],V.nilslice]) (vs:=[V.str (fc.1.take 16),V.nilslice]) rfl rfl;have hov1:over [V.str [],V.nilslice] 0 [V.str (fc.1.take 16)]=some [V.str (fc.1.take 16),V.nilslice]:=rfl;have hwr:IntKind.wrap .i64 (Int.ofNat i+1)=Int.ofNat (i+1):=Ja3 Fh;have gn:=g.next;refine Fz (by simp only[go_sem,JaX,simprocAttr,Ja4,Jbe,hov1,FC,FD,s2];rfl) ?_;refine JsB (i:=i) (fc:=fc) (ov:=ov) (n:=Int.ofNat n) (fb:=w.next) (nm:=fc.1.take 16) C (hxw.frm r2 fun _ _ h=>h) hfc (fun x hx=>⟨by have:=hT x hx;omega,by have:=hT x hx;omega⟩) ⟨(Fg f0),(Fg f1),(Fg f5),(Fg f6),Fb⟩ Fb c2 fun f3 w3 av Sa hF3 c3 hB3 g3 hSa=>?_;have hF3':=hF3;obtain⟨q0,q1,q5,q6,q7⟩:=hF3;have hn3:=g3.next
  have hln:lenV av=some (Jc1 fc).2.length:=by
   have:=hB3.lenV;rw[this];unfold Jc1;rw[F9]
  have hfcC:FcC Sa w3 (Jc1 fc) [.str (fc.1.take 16),av]:=⟨av,rfl,by
   have e:(Jc1 fc).2.length=(fc.2.take 4).length:=by unfold Jc1;rw[F9]
   rw[e];exact hB3.rd⟩
  have k2:w3.load w.next 0 2=some [.str (fc.1.take 16),av]:=c3.all rfl;have h4:(Jc1 fc).2.length≤4:=by unfold Jc1;rw[F9,FU];omega
  have hnl:(Jc1 fc).1.length≤16:=by unfold Jc1;rw[FU];omega
  refine Fz (by simp only[go_sem,JaX,simprocAttr,Hc,q7,k2];rfl) ?_;refine Ja0 Ff Fe ?_;refine Jqb C hfcC Fh Fh (fun c hc=>hnb fc hfm c (List.mem_of_mem_take hc)) (fun t ht=>?_) fun w4 g4=>?_
  ·unfold Jc1 at ht;obtain⟨u,hu,rfl⟩:=List.mem_map.1 ht;refine⟨by show (u.s.take 20).length≤9223372036854775807;rw[FU];omega,fun c hc=>htb fc hfm u (List.mem_of_mem_take hu) c (List.mem_of_mem_take hc)⟩
  have c4:=c3.frm g4 fun h=>h;have g24:Frm (fun x=>x=w.next) w2 w4:=g3.tr g4.no;have g04:Frm (fun _=>False) w w4:=r2.trans g24 (fun _ _ h=>h) fun x hx h=>by omega
  have hB4:=hB.frm g04 (fun _ _ h=>h) fun _ _ h=>h;have ho4:=hB4.rd (U:=fun x=>S x∨U x) (fun _ h=> .inl h) fun _ h=> .inr h;refine JaY 1000 Fe ?_;refine Jvx (i:=i) (fc:=Jc1 fc) (b0:=Jgt (Jc1 fc)) (out:=Jcc n (l.take i)) (fb:=w.next) C ho4 Fh c4 hln ⟨(by simp only[go_sem,JaX,simprocAttr,q0]<;>rfl),(by simp only[go_sem,JaX,simprocAttr,q1]<;>rfl),(by simp only[go_sem,JaX,simprocAttr,q5]<;>rfl),(by simp only[go_sem,JaX,simprocAttr,q6]<;>rfl),(by simp only[go_sem,JaX,simprocAttr,q7]<;>rfl)⟩ Fb Fb fun f5 hF5 h9=>?_;obtain⟨p0,p1,p5,p6,p7⟩:=hF5;have hn4:=g04.next;have k2':w4.load w.next 0 2=some [.str (fc.1.take 16),av]:=c4.all rfl;have esn:Jcc n (l.take (i+1))=JeL n (Jcc n (l.take i)) (Jc1 fc |> fun _=>fc):=by rw[Jbz hfc,Jf5]
  cases hb:(Jgt (Jc1 fc)&&Jfn (Jcc n (l.take i)) (Jc1 fc))with
  | false =>
   have e:Jcc n (l.take (i+1))=Jcc n (l.take i):=by
    rw[Jbz hfc,Jf5];unfold JeL;rw[if_neg (by rw[hb];simp)]
   rw[hb]at h9;refine Fz (by simp only[go_sem,JaX,simprocAttr,h9,p6,hwr];rfl) ?_;refine ih _ _ _ Fh ⟨i+1,ov,S,U,(by simp only[go_sem,JaX,simprocAttr,p0]<;>rfl),(by simp only[go_sem,JaX,simprocAttr,p1]<;>rfl),(by simp only[go_sem,JaX,simprocAttr,p5]<;>rfl),Fb,by rw[e];exact hB4,fun x hx=>by have:=hS x hx;exact⟨this.1,by omega,this.2.2⟩,fun x hx=>by have:=hU x hx;exact⟨this.1,by omega⟩,g.tr g04,by omega,rfl⟩
  | true =>
   have e:Jcc n (l.take (i+1))=Jcc n (l.take i)++[Jc1 fc]:=by
    rw[Jbz hfc,Jf5];unfold JeL;rw[if_pos ⟨hon,hb⟩]
   rw[hb]at h9;have hn23:=g3.next;have hn34:=g4.next;obtain⟨v',w5,S5,u1,u2,u3,u4⟩:=hB4.push (hfcC.frm g4 fun _ _ h=>h) (fun x hx=>by have:=hS x hx;omega) (fun x hx=>⟨fun hs=>(hS x hs).2.2 hx,by have:=hU x hx;omega⟩) (fun x hx=>⟨fun hs=>by have:=hS x hs;have:=hSa x hx;omega,by have:=hSa x hx;omega⟩) Fh
   have hvc:v'.cells=[v']:=by
    obtain⟨xss,q,_⟩:=u2;exact q.one.2
   have hel:(w4.fresh [V.str (fc.1.take 16),av]).elems 2 (.slice w4.next 0 1 (.known 1))=some (1,[V.str (fc.1.take 16),av]):=JbH Fh rfl;have hcc:V.cells (.agg [V.str (fc.1.take 16),av])=[V.str (fc.1.take 16),av]:=rfl;have hone:=hfcC.one;have hov2:over [V.str [],V.nilslice] 0 [V.str (fc.1.take 16),av]=some [V.str (fc.1.take 16),av]:=rfl;refine Fz (by simp only[go_sem,JaX,simprocAttr,h9,Hb,p5,p7,k2',hcc,Ja4,Jbe,hov2,FC,FD,hel,u1,p6,hwr];rfl) ?_;have hn5:=u3.next;refine ih _ _ _ Fh ⟨i+1,v',S5,fun x=>U x∨Sa x,(by simp only[go_sem,JaX,simprocAttr,p0]<;>rfl),(by simp only[go_sem,JaX,simprocAttr,p1]<;>rfl),Fb,Fb,by rw[e];exact u2,fun x hx=>?_,fun x hx=>?_,(g.tr g04).trans u3 (fun _ _ h=>h) fun x hx h=>by have:=(hS x h).1;omega,by omega,rfl⟩
   ·refine⟨?_,(u4 x hx).1,fun hh=>?_⟩
    ·rcases (u4 x hx).2 with h1|h1
     ·exact (hS x h1).1
     ·omega
    ·rcases (u4 x hx).2 with h1|h1
     ·rcases hh with hh|hh
      ·exact (hS x h1).2.2 hh
      ·have:=hS x h1;have:=hSa x hh;omega
     ·rcases hh with hh|hh
      ·have:=hU x hh;omega
      ·have:=hSa x hh;omega
   ·rcases hx with hh|hh
    ·have:=hU x hh;exact⟨this.1,by omega⟩
    ·have:=hSa x hh;exact⟨by omega,by omega⟩
 ·rintro f w ⟨ov,S,f5,hF,g,hS⟩;refine Fz (by simp only[go_sem,JaX,simprocAttr,f5];rfl) ?_;refine JaZ ⟨_,by simp only[go_sem,JaX,simprocAttr,YT];rfl,?_⟩;exact h w ov S hF g hS
section
open Go.AE Delphi Val
variable {tab:Tab}
variable {w:AW}
theorem Jvv {S:Fw}{v:V}{l:List Int}(h:Bt S w v 1 l.length (Rel.rowC l)):Rel.RowV S w v l:=by
 generalize hn:l.length=n at h;generalize hc:Rel.rowC l=cs at h;cases h with
 | nil =>
  have:l=[]:=List.length_eq_zero_iff.1 hn;subst this;exact .nil
 | blk hS hb hx hl he hp hs =>
  subst hc;refine .blk hS hb hx ?_ hn;rcases hs with rfl|rfl|⟨f,F,h1,h2,h3,h4,_,_,h7⟩
  ·exact .inl rfl
  ·exact .inr (.inl rfl)
  ·exact .inr (.inr (.inr ⟨f,F,h1,h2,h3,h4,h7⟩))
def Jf9 (s:List Int×List Tk) (c:Tk):List Int×List Tk:=(s.1++[Int.ofNat (idT s.2 c).1],(idT s.2 c).2)
def Jbo (ts:List Tk) (args:List Tk):List Int×List Tk:=args.foldl Jf9 ([],ts)
theorem Jje (ts:List Tk)(args:List Tk)(c:Tk):Jbo ts (args++[c])=Jf9 (Jbo ts args) c:=by unfold Jbo;rw[List.foldl_append];rfl
theorem Jfb (ts:List Tk)(args:List Tk):(Jbo ts args).1.length=args.length∧(Jbo ts args).2.length≤ts.length+args.length:=by
 have:∀(args:List Tk) (s:List Int×List Tk),(args.foldl Jf9 s).1.length=s.1.length+args.length∧(args.foldl Jf9 s).2.length≤s.2.length+args.length:=by
  intro args;induction args with
  | nil=>intro s;exact⟨rfl,FH _⟩
  | cons c args ih =>
   intro s;obtain⟨h1,h2⟩:=ih (Jf9 s c);have h3:=Jk2 s.2 c;have h4:(Jf9 s c).1.length=s.1.length+1:=by unfold Jf9;simp
   have h5:(Jf9 s c).2.length≤s.2.length+1:=h3;rw[Ku,h1,h4,FC];exact⟨by omega,by omega⟩
 simpa[Jbo]using this args ([],ts)
abbrev Jd6:=List (List Nat×(Nat×List (List Int)))
def JdF (M:Jd6) (f:Fc):Jd6:=match Ja1 M f.1 with
 | none=>Jb5 M f.1 (f.2.length,[])
 | some _=>M
def Jc3 (M:Jd6) (f:Fc):Nat×List (List Int):=(Ja1 (JdF M f) f.1).getD (0,[])
def JfM (s:List Tk×Jd6) (f:Fc):List Tk×Jd6:=((Jbo s.1 f.2).2,Jb5 (JdF s.2 f) f.1 ((Jc3 s.2 f).1,JdX (Jc3 s.2 f).2 (Jbo s.1 f.2).1))
def Jbu (ts:List Tk) (l:List Fc):List Tk×Jd6:=l.foldl JfM (ts,[])
theorem JhD (ts:List Tk)(l:List Fc)(f:Fc):Jbu ts (l++[f])=JfM (Jbu ts l) f:=by unfold Jbu;rw[List.foldl_append];rfl
structure LaidW (B sm:Nat) (w:AW) (M:Jd6) (MV:List (List Nat×V)) (Sf:List Nat→Fw):Prop where
 pm:PM w sm MV
 key:∀nm,Ja1 M nm=none→Ja1 MV nm=none
 set:∀nm x,Ja1 M nm=some x→∃p,Ja1 MV nm=some p∧Rel.SetOf (Sf nm) w p x.1 x.2
 dis:∀nm nm' x,Sf nm x→Sf nm' x→nm=nm'
 lo:∀nm x,Sf nm x→B≤x∧x<w.next∧x≠sm
theorem LaidW.frm {B sm:Nat}{w':AW}{M:Jd6}{MV:List (List Nat×V)}{Sf:List Nat→Fw}{R:Fw}(h:LaidW B sm w M MV Sf)(g:Frm R w w')(hs:¬R sm)(hf:∀nm x,Sf nm x→¬R x):LaidW B sm w' M MV Sf:=
 ⟨h.pm.frm g hs,h.key,fun nm x hx=>by obtain⟨p,h1,h2⟩:=h.set nm x hx;exact⟨p,h1,h2.frm g (hf nm)⟩,h.dis,fun nm x hx=>by
  obtain⟨h1,h2,h3⟩:=h.lo nm x hx;have:=g.next;exact⟨h1,by omega,h3⟩⟩
structure LdF (f:Fr) (tb:Nat) (lv:V) (b5 i b4:Nat):Prop where
 f0:f.get 0=some (.ptr tb 0)
 f1:f.get 1=some lv
 f4:f.get 4=some (.ptr b4 0)
 f5:f.get 5=some (.ptr b5 0)
 f6:f.get 6=some (.int .i64 (Int.ofNat i))
theorem Js7 (C:Codes tab){T S:Fw}{tb mb b5 b4 i:Nat}{tv:V}{ts:List Tk}{fc:Fc}{f:Fr}(hx:Fcs T w lv l)(hfc:l[i]? = some fc)(hT:∀x,T x→x<w.next∧¬S x∧x≠tb∧x≠mb)(ht:TabW tb mb tv S ts w)(hts:ts.length≤50000)(hal:fc.2.length≤1000)(hok:∀t∈fc.2,TkOk t)(hF:LdF f tb lv b5 i b4)(f7:f.get 7=some .nilslice)(f8:f.get 8=some (.int .i64 (Int.ofNat 0)))(h:∀f' w' rv R tv' S',LdF f' tb lv b5 i b4→f'.get 7=some rv→Rel.RowV R w' rv (Jbo ts fc.2).1→TabW tb mb tv' S' (Jbo ts fc.2).2 w'→Frm (fun x=>S x∨x=tb∨x=mb) w w'→(∀x,S' x→S x∨w.next≤x)→(∀x,R x→w.next≤x∧x<w'.next)→WS tab st f' w' Q): WS tab (.code (.loop ZT) :: .endB 2::st) f w Q:=by
 have hil:i<l.length:=(List.getElem?_eq_some_iff.1 hfc).1;have htS:=ht.s
 refine Jba (fun q f w1=>∃m rv R tv1 S1,LdF f tb lv b5 i b4∧f.get 7=some rv∧f.get 8=some (.int .i64 (Int.ofNat m))∧Bt R w1 rv 1 m (Rel.rowC (Jbo ts (fc.2.take m)).1)∧TabW tb mb tv1 S1 (Jbo ts (fc.2.take m)).2 w1∧Frm (fun x=>S x∨x=tb∨x=mb) w w1∧(∀x,S1 x→S x∨w.next≤x)∧(∀x,R x→w.next≤x∧x<w1.next∧¬S1 x)∧m≤fc.2.length∧q=fc.2.length-m)
  (fun f w1=>∃rv R tv1 S1,LdF f tb lv b5 i b4∧f.get 7=some rv∧Bt R w1 rv 1 fc.2.length (Rel.rowC (Jbo ts fc.2).1)∧TabW tb mb tv1 S1 (Jbo ts fc.2).2 w1∧Frm (fun x=>S x∨x=tb∨x=mb) w w1∧(∀x,S1 x→S x∨w.next≤x)∧(∀x,R x→w.next≤x∧x<w1.next)) ?_ ?_ fc.2.length
  ⟨0,.nilslice,fun _=>False,tv,S,hF,f7,f8,.nil,ht,Frm.refl _,fun x hx=> .inl hx,fun _ h=>h.elim,Nat.zero_le _,rfl⟩
 ·rintro q f w1 ⟨m,rv,R,tv1,S1,⟨f0,f1,f4,f5,f6⟩,f7,f8,hB,hT1,g,hS1,hR,hm,rfl⟩ ih out
  have hTR:∀x,T x→¬(S x∨x=tb∨x=mb):=fun x hx h=>by
   obtain⟨_,h1,h2,h3⟩:=hT x hx;rcases h with h|h|h
   ·exact h1 h
   ·exact h2 h
   ·exact h3 h
  obtain⟨b,o,c,xv,rfl,_,_,l2,l0,l1,hxa⟩:=Jd2 (hx.frm g hTR) hfc;have hxl:=hxa.lenV;by_cases hlt:m<fc.2.length
  case neg =>
   obtain rfl:m=fc.2.length:=Fh;rw[List.take_length]at hB hT1;refine Ja2 1000 (by simp only[go_sem,simprocAttr,ZT,f1,f6,f8,hil,l1,hxl,hlt];rfl) ?_;exact out _ _ _ ⟨rv,R,tv1,S1,⟨(Fg f0),(Fg f1),(Fg f4),(Fg f5),(Fg f6)⟩,(Fg f7),hB,hT1,g,hS1,fun x hx=>⟨(hR x hx).1,(hR x hx).2.1⟩⟩ rfl
  obtain⟨t,ht'⟩:∃t,fc.2[m]? = some t:=⟨_,FB hlt⟩;obtain⟨ab,ao,ac,rfl,a3⟩:=JkZ hxa ht';have hln:=(Jfb ts (fc.2.take m)).2;rw[FU]at hln;refine Fz (by simp only[go_sem,JaX,simprocAttr,ZT,Ho,f0,f1,f6,f7,f8,hil,l1,hxl,hlt,a3,JcA];rfl) ?_;refine Ja0 Ff Fe ?_;refine Jky C hT1 Fh (hok t (FI ht')) fun w2 tv2 S2 t2 g2 s2=>?_;have n1:=g.next;have n2:=g2.next
  have hRn:∀x,R x→¬(S1 x∨x=tb∨x=mb):=fun x hx h=>by
   have:=hR x hx;rcases h with h|h|h
   ·exact this.2.2 h
   ·have:=ht.a.lt;omega
   ·have:=ht.m.lt;omega
  have hB2:=hB.frm g2 hRn;obtain⟨v',w3,R3,u1,u2,u3,u4⟩:=hB2.push (news:=[.int .i64 (Int.ofNat (idT (Jbo ts (fc.2.take m)).2 t).1)]) (bytes:=8) (fun x hx=>by have:=hR x hx;omega) Fh rfl rfl Fh Fh;have hel:(w2.fresh [.int .i64 (Int.ofNat (idT (Jbo ts (fc.2.take m)).2 t).1)]).elems 1 (.slice w2.next 0 1 (.known 1))=some (1,[.int .i64 (Int.ofNat (idT (Jbo ts (fc.2.take m)).2 t).1)]):=JbH Fh rfl;have hov:over [V.int .i64 0] 0 [.int .i64 (Int.ofNat (idT (Jbo ts (fc.2.take m)).2 t).1)]=some [.int .i64 (Int.ofNat (idT (Jbo ts (fc.2.take m)).2 t).1)]:=rfl;have hwr:IntKind.wrap .i64 (Int.ofNat m+1)=Int.ofNat (m+1):=Ja3 Fh;refine Fz (by simp only[go_sem,JaX,simprocAttr,f7,Ja4,Jbe,hov,FC,FD,hel,u1,f8,hwr];rfl) ?_;have hRt:∀x,R x→x≠tb∧x≠mb:=fun x hx=>⟨fun e=>hRn x hx (.inr (.inl e)),fun e=>hRn x hx (.inr (.inr e))⟩
  have t3:TabW tb mb tv2 S2 (idT (Jbo ts (fc.2.take m)).2 t).2 w3:=t2.step u3 (fun e=>(hRt _ e).1 rfl) (fun e=>(hRt _ e).2 rfl) fun x hx e=>by
   rcases s2 x hx with h|h
   ·exact (hR x e).2.2 h
   ·have:=(hR x e).2.1;omega
  have esn:Jbo ts (fc.2.take (m+1))=((Jbo ts (fc.2.take m)).1++[Int.ofNat (idT (Jbo ts (fc.2.take m)).2 t).1],(idT (Jbo ts (fc.2.take m)).2 t).2):=by rw[Jbz ht',Jje];rfl
  have n3:=u3.next;refine ih _ _ _ Fh ⟨m+1,v',R3,tv2,S2,⟨(Fg f0),(Fg f1),(Fg f4),(Fg f5),(Fg f6)⟩,Fb,Fb,?_,by rw[esn];exact t3,?_,fun x hx=>?_,fun x hx=>?_,by omega,rfl⟩
  ·rw[esn];have e:Rel.rowC ((Jbo ts (fc.2.take m)).1++[Int.ofNat (idT (Jbo ts (fc.2.take m)).2 t).1])=Rel.rowC (Jbo ts (fc.2.take m)).1++[.int .i64 (Int.ofNat (idT (Jbo ts (fc.2.take m)).2 t).1)]:=by unfold Rel.rowC;rw[List.map_append];rfl
   rw[e];exact u2
  ·refine (g.trans g2 (fun _ _ h=>h) fun x hx h=>?_).trans u3 (fun _ _ h=>h) fun x hx h=>by have:=(hR x h).1;omega
   rcases h with h|h|h
   ·rcases hS1 x h with h|h
    ·exact .inl h
    ·omega
   ·exact .inr (.inl h)
   ·exact .inr (.inr h)
  ·rcases s2 x hx with h|h
   ·exact hS1 x h
   ·right;omega
  ·refine⟨?_,(u4 x hx).1,fun hs=>?_⟩
   ·rcases (u4 x hx).2 with h|h
    ·exact (hR x h).1
    ·omega
   ·rcases (u4 x hx).2 with h|h
    ·rcases s2 x hs with h2|h2
     ·exact (hR x h).2.2 h2
     ·have:=(hR x h).2.1;omega
    ·have:=(t2.s x hs).1;omega
 ·rintro f w1 ⟨rv,R,tv1,S1,hF,h7,hB,hT1,g,hS1,hR⟩;have hl:=(Jfb ts fc.2).1;exact h f w1 rv R tv1 S1 hF h7 (Jvv (by rw[hl];exact hB)) hT1 g hS1 hR
end
section
open Go.AE Delphi Val
variable {tab:Tab}
variable {w:AW} {MV:List (List Nat×V)} {Sf:List Nat→Fw} {x:Nat×List (List Int)}
theorem LaidW.upd {B sm:Nat}{w':AW}{M:Jd6}{MV':List (List Nat×V)}{R S':Fw}{nm:List Nat}{p:V}(h:LaidW B sm w M MV Sf)(g:Frm R w w')(hpm:PM w' sm MV')(hmv:∀n,Ja1 MV' n=if n=nm then some p else Ja1 MV n)(hset:Rel.SetOf S' w' p x.1 x.2)(hR:∀n y,n≠nm→Sf n y→¬R y)(hS':∀y,S' y→B≤y∧y<w'.next∧y≠sm∧∀n,n≠nm→¬Sf n y):LaidW B sm w' (Jb5 M nm x) MV' (fun n y=>if n=nm then S' y else Sf n y):=by
 refine⟨hpm,fun n hn=>?_,fun n y hn=>?_,fun n n' y h1 h2=>?_,fun n y hy=>?_⟩
 ·rw[hmv];by_cases he:n=nm
  ·subst he;rw[Jbi]at hn;cases hn
  ·rw[if_neg he];rw[JbD _ _ _ _ he]at hn;exact h.key n hn
 ·by_cases he:n=nm
  ·subst he;rw[Jbi]at hn;cases hn;refine⟨p,by rw[hmv,if_pos rfl],?_⟩;simp only[if_true];exact hset
  ·rw[JbD _ _ _ _ he]at hn;obtain⟨q,h1,h2⟩:=h.set n y hn;refine⟨q,by rw[hmv,if_neg he];exact h1,?_⟩;simp only[if_neg he];exact h2.frm g fun z hz=>hR n z he hz
 ·by_cases he:n=nm<;>by_cases he':n'=nm
  ·rw[he,he']
  ·simp only[if_pos he]at h1;simp only[if_neg he']at h2;exact absurd h2 ((hS' y h1).2.2.2 n' he')
  ·simp only[if_neg he]at h1;simp only[if_pos he']at h2;exact absurd h1 ((hS' y h2).2.2.2 n he)
  ·simp only[if_neg he]at h1;simp only[if_neg he']at h2;exact h.dis n n' y h1 h2
 ·by_cases he:n=nm
  ·simp only[if_pos he]at hy;have:=hS' y hy;exact⟨this.1,this.2.1,this.2.2.1⟩
  ·simp only[if_neg he]at hy;obtain⟨h1,h2,h3⟩:=h.lo n y hy;have:=g.next;exact⟨h1,by omega,h3⟩
structure FcsL (l:List Fc):Prop where
 len:l.length≤1000
 ok:∀f∈l,f.2.length≤4∧f.1.length≤16∧∀t∈f.2,TkOk t
 ar:∀f∈l,∀g∈l,f.1=g.1→f.2.length=g.2.length
structure LaidS (B sm tb mb b5:Nat) (w0 w:AW) (S0 S:Fw) (M:Jd6) (MV:List (List Nat×V)) (Sf:List Nat→Fw):Prop where
 lw:LaidW B sm w M MV Sf
 box:CB w b5 [.map sm]
 sd:∀n x,Sf n x→¬S x∧x≠tb∧x≠mb∧x≠b5
 ss:∀x,S x→x≠sm∧x≠b5
 ne:sm≠tb∧sm≠mb∧b5≠tb∧b5≠mb∧sm≠b5
 f:Frm (fun x=>S0 x∨x=tb∨x=mb) w0 w
 s:∀x,S x→S0 x∨w0.next≤x
structure LaidP (l:List Fc) (M:Jd6):Prop where
 ar:∀nm x,Ja1 M nm=some x→∃g∈l,g.1=nm∧x.1=g.2.length
 len:∀nm x,Ja1 M nm=some x→x.2.length≤l.length
variable {ts:List Tk}
theorem JgE (hl:FcsL l):LaidP l (Jbu ts l).2∧(Jbu ts l).1.length≤ts.length+4*l.length:=by
 suffices h:∀i,i≤l.length→LaidP (l.take i) (Jbu ts (l.take i)).2∧(Jbu ts (l.take i)).1.length≤ts.length+4*i by
  have:=h l.length (FH _)
  rwa [List.take_length]at this
 intro i;induction i with
 | zero=>intro _;exact⟨⟨fun nm x h=>by simp[Jbu,Ja1]at h,fun nm x h=>by simp[Jbu,Ja1]at h⟩,by simp[Jbu]⟩
 | succ i ih =>
  intro hi;obtain⟨h1,h2⟩:=ih Fh;obtain⟨fc,hfc⟩:∃fc,l[i]? = some fc:=⟨_,FB Fh⟩;have hfm:=FI hfc;rw[Jbz hfc,JhD];have hil:(l.take i).length=i:=by rw[FU];omega
  have hx:(Jc3 (Jbu ts (l.take i)).2 fc).1=fc.2.length∧(Jc3 (Jbu ts (l.take i)).2 fc).2.length≤i:=by
   unfold Jc3 JdF;cases hg:Ja1 (Jbu ts (l.take i)).2 fc.1 with
   | none =>
    simp only;rw[Jbi];exact⟨rfl,Nat.zero_le _⟩
   | some x =>
    simp only;rw[hg];obtain⟨g,hgm,hgn,hga⟩:=h1.ar _ _ hg;refine⟨?_,by have:=h1.len _ _ hg;rw[hil]at this;exact this⟩;show x.1=_;rw[hga];exact hl.ar g (List.mem_of_mem_take hgm) fc hfm hgn
  have h0:∀nm x,nm≠fc.1→Ja1 (JdF (Jbu ts (l.take i)).2 fc) nm=some x→Ja1 (Jbu ts (l.take i)).2 nm=some x:=by
   intro nm x hne h;unfold JdF at h;cases hg:Ja1 (Jbu ts (l.take i)).2 fc.1 with
   | none=>rw[hg]at h;simp only at h;rwa [JbD _ _ _ _ hne]at h
   | some y=>rw[hg]at h;exact h
  refine⟨⟨fun nm x h=>?_,fun nm x h=>?_⟩,?_⟩
  ·by_cases he:nm=fc.1
   ·subst he;unfold JfM at h;simp only at h;rw[Jbi]at h;cases h;exact⟨fc,by simp,rfl,hx.1⟩
   ·unfold JfM at h;simp only at h;rw[JbD _ _ _ _ he]at h;obtain⟨g,h3,h4,h5⟩:=h1.ar _ _ (h0 nm x he h);exact⟨g,List.mem_append_left _ h3,h4,h5⟩
  ·rw[FE,hil,Kb];by_cases he:nm=fc.1
   ·subst he;unfold JfM at h;simp only at h;rw[Jbi]at h;cases h;show (JdX _ _).length≤_;have h6:=hx.2;unfold JdX;split
    ·omega
    ·rw[Jna];omega
   ·unfold JfM at h;simp only at h;rw[JbD _ _ _ _ he]at h;have:=h1.len _ _ (h0 nm x he h);rw[hil]at this;omega
  ·have:=(Jfb (Jbu ts (l.take i)).1 fc.2).2;have h7:=(hl.ok fc hfm).1;show (Jbo (Jbu ts (l.take i)).1 fc.2).2.length≤_;omega
theorem SetOf.ptr {S:Fw}{p:V}{n:Nat}{rows:Fy}(h:Rel.SetOf S w p n rows):∃b,p = .ptr b 0∧n≤4∧∀x,S x→x<w.next:=by
 obtain⟨bp,lv,cs,S0,T,rfl,h⟩:=h;exact⟨bp,rfl,h.w4,h.hS⟩
theorem Js5 (C:Codes tab)(P:Jhe tab){B sm tb mb b5 b4 i:Nat}{T S0 S R:Fw}{tv rv:V}{fc:Fc}{M:Jd6}{row:List Int}{w0:AW}{f:Fr}(hx:Fcs T w lv l)(hfc:l[i]? = some fc)(hT:∀y,T y→y<w.next∧∀n,¬Sf n y)(ht:TabW tb mb tv S ts w)(hL:LaidS B sm tb mb b5 w0 w S0 S M MV Sf)(hg:Ja1 M fc.1=some x)(hr:Rel.RowV R w rv row)(hrl:row.length=x.1)(hxl:x.2.length≤1000000)(hb4:b4<w.next∧∀n,¬Sf n b4)(hw0:w0.next≤B)(hBw:B≤w.next)(hF:LdF f tb lv b5 i b4)(f7:f.get 7=some rv)(h:∀f' w' Sf',LdF f' tb lv b5 i b4→TabW tb mb tv S ts w'→LaidS B sm tb mb b5 w0 w' S0 S (Jb5 M fc.1 (x.1,JdX x.2 row)) MV Sf'→Frm (fun y=>Sf fc.1 y) w w'→(∀n y,Sf' n y→Sf n y∨w.next≤y)→WS tab st f' w' Q): WS tab (.code Y1::st) f w Q:=by
 obtain⟨f0,f1,f4,f5,f6⟩:=hF;have hil:i<l.length:=(List.getElem?_eq_some_iff.1 hfc).1;obtain⟨b,o,c,xv,rfl,_,_,l2,l0,l1,hxa⟩:=Jd2 hx hfc;obtain⟨p,hp,hset⟩:=hL.lw.set fc.1 x hg;obtain⟨bp,rfl,hw4,hSn⟩:=SetOf.ptr hset;have look:=hL.lw.pm.look Jci .nilptr fc.1;rw[hp]at look;have look:w.lookV (.scalar .str) .nilptr (.map sm) (.str fc.1)=some (.ptr bp 0,true):=look;have k0:w.load b5 0 1=some [.map sm]:=CB.ld hL.box 0 1 _ rfl;refine Fz (by simp only[go_sem,JaX,simprocAttr,Y1,f1,f5,f6,f7,k0,hil,l0,look];rfl) ?_;refine Ja0 Ff Fe ?_
 have same:∀n,Ja1 MV n=if n=fc.1 then some (.ptr bp 0)else Ja1 MV n:=fun n=>by
  by_cases he:n=fc.1
  ·rw[if_pos he,he,hp]
  ·rw[if_neg he]
 have hsm:=hL.lw.pm.lt;refine Rel.add_ok C P hset hr hxl Fh (fun hn=>?_) fun hw hn w2 So2 g1 g2 g3=>?_
 ·have e:JdX x.2 row=x.2:=by
   unfold JdX;rw[if_pos];exact Classical.byContradiction fun hc=>hn ⟨hrl,hc⟩
  rw[e]at h
  have hu:=hL.lw.upd (nm:=fc.1) (x:=(x.1,x.2)) (Frm.refl (S:=fun _=>False) w) hL.lw.pm same hset (fun _ _ _ _ h=>h) (fun y hy=>by
   have:=hL.lw.lo fc.1 y hy;exact⟨this.1,this.2.1,this.2.2,fun n hne hy'=>hne (hL.lw.dis n fc.1 y hy' hy)⟩)
  refine Ja2 1 Fe ?_;refine h _ _ _ ⟨(Fg f0),(Fg f1),(Fg f4),(Fg f5),(Fg f6)⟩ ht ⟨hu,hL.box,fun n y hy=>?_,hL.ss,hL.ne,hL.f,hL.s⟩ (Frm.refl _) fun n y hy=>?_
  ·by_cases he:n=fc.1
   ·rw[if_pos he]at hy;exact hL.sd _ y hy
   ·rw[if_neg he]at hy;exact hL.sd _ y hy
  ·by_cases he:n=fc.1
   ·rw[if_pos he]at hy;rw[he];exact .inl hy
   ·rw[if_neg he]at hy;exact .inl hy
 ·have e:JdX x.2 row=Rel.insR x.2 row:=by unfold JdX;rw[if_neg hn]
  rw[e]at h;have hnS:∀y,Sf fc.1 y→y<w.next:=fun y hy=>(hL.lw.lo fc.1 y hy).2.1;have hpm:PM w2 sm MV:=hL.lw.pm.frm g2 fun hh=>(hL.lw.lo fc.1 sm hh).2.2 rfl
  have hu:=hL.lw.upd (nm:=fc.1) (x:=(x.1,Rel.insR x.2 row)) g2 hpm same g1 (fun n y hne hy hh=>hne (hL.lw.dis n fc.1 y hy hh)) (fun y hy=>by
   rcases (g3 y hy).2 with h1|h1
   ·have:=hL.lw.lo fc.1 y h1;exact⟨this.1,(g3 y hy).1,this.2.2,fun n hne hy'=>hne (hL.lw.dis n fc.1 y hy' h1)⟩
   ·exact⟨by omega,(g3 y hy).1,by omega,fun n _ hy'=>by have:=(hL.lw.lo n y hy').2.1;omega⟩)
  have t2:=ht.step g2 (fun hh=>(hL.sd _ _ hh).2.1 rfl) (fun hh=>(hL.sd _ _ hh).2.2.1 rfl) fun y hy hh=>(hL.sd _ y hh).1 hy;have hSS:=ht.s;have htb:=ht.a.lt;have hmb:=ht.m.lt;have hbx:=hL.box.lt;refine Ja2 1 Fe ?_;refine h _ _ _ ⟨(Fg f0),(Fg f1),(Fg f4),(Fg f5),(Fg f6)⟩ t2 ⟨hu,hL.box.frm g2 fun hh=>(hL.sd _ _ hh).2.2.2 rfl,fun n y hy=>?_,hL.ss,hL.ne,?_,hL.s⟩ g2 fun n y hy=>?_
  ·by_cases he:n=fc.1
   ·rw[if_pos he]at hy;rcases (g3 y hy).2 with h1|h1
    ·exact hL.sd _ y h1
    ·exact⟨fun hs=>by have:=(hSS y hs).1;omega,by omega,by omega,by omega⟩
   ·rw[if_neg he]at hy;exact hL.sd _ y hy
  ·exact hL.f.trans g2 (fun _ _ h=>h) fun y hy hh=>by have:=(hL.lw.lo fc.1 y hh).1;omega
  ·by_cases he:n=fc.1
   ·rw[if_pos he]at hy;rcases (g3 y hy).2 with h1|h1
    ·rw[he];exact .inl h1
    ·exact .inr h1
   ·rw[if_neg he]at hy;exact .inl hy
end
section
open Go.AE Delphi Val
variable {tab:Tab}
theorem JlF (M:Jd6)(f:Fc):Ja1 (JdF M f) f.1=some (Jc3 M f):=by
 unfold Jc3 JdF;cases hg:Ja1 M f.1 with
 | none=>simp only;rw[Jbi];rfl
 | some x=>simp only;rw[hg];rfl
theorem JoU (C:Codes tab)(P:Jhe tab){T S:Fw}{tb mb:Nat}{tv:V}{ts:List Tk}{aw:AW}{K:V→AW→Prop}(hx:Fcs T aw lv l)(hl:FcsL l)(hT:∀x,T x→x<aw.next∧¬S x∧x≠tb∧x≠mb)(ht:TabW tb mb tv S ts aw)(hts:ts.length≤20000)(h:∀w sm b5 tv' S' MV Sf,TabW tb mb tv' S' (Jbu ts l).1 w→LaidS (aw.next+1) sm tb mb b5 aw w S S' (Jbu ts l).2 MV Sf→aw.next≤sm→K (.agg [.map sm]) w):WF tab VC [.ptr tb 0,lv] aw K:=by
 refine Ja7 C.Y2 rfl ?_;have hlv:=hx.lenV;have htb:=ht.a.lt;have hmb:=ht.m.lt;have hSl:∀x,S x→x<aw.next:=fun x hx=>(ht.s x hx).1;obtain⟨w1,e1,c1,r1,m1⟩:=Jb8 aw [V.nilmap];have cm:PM (w1.new (.map [] 0)) w1.next ([]:List (List Nat×V)):=MB.new w1;have fm:Frm (fun _=>False) w1 (w1.new (.map [] 0)):=Jev w1;have nm1:(w1.new (.map [] 0)).next=w1.next+1:=rfl;generalize hw2:w1.new (.map [] 0)=w2 at cm fm nm1;obtain⟨w3,s3,c3,r3,n3⟩:=Jb1 w2 (zs:=[V.nilmap]) (vs:=[V.map w1.next]) rfl rfl;have f01:=r1.tr (fm.tr r3);have hov:over [V.nilmap] 0 [V.map w1.next]=some [V.map w1.next]:=rfl;have hll:=hl.len;refine Fz (by simp only[go_sem,JaX,simprocAttr,ZV,Hp,e1,hw2,Ja4,Jbe,JeZ,hov,FC,FD,s3];rfl) ?_;have n1:=r1.next
 refine Jba (fun q f w=>∃i tv' S' MV Sf,LdF f tb lv w2.next i aw.next∧TabW tb mb tv' S' (Jbu ts (l.take i)).1 w∧LaidS (aw.next+1) w1.next tb mb w2.next aw w S S' (Jbu ts (l.take i)).2 MV Sf∧CB w aw.next [.nilmap]∧(∀n y,Sf n y→w2.next<y)∧(∀y,S' y→y≠aw.next)∧i≤l.length∧q=l.length-i)
  (fun f w=>∃tv' S' MV Sf,f.get 4=some (.ptr aw.next 0)∧f.get 5=some (.ptr w2.next 0)∧TabW tb mb tv' S' (Jbu ts l).1 w∧LaidS (aw.next+1) w1.next tb mb w2.next aw w S S' (Jbu ts l).2 MV Sf∧CB w aw.next [.nilmap]∧(∀n y,Sf n y→w2.next<y)∧(∀y,S' y→y≠aw.next)) ?_ ?_ l.length
  ⟨0,tv,S,[],fun _ _=>False,⟨Fb,Fb,Fb,Fb,Fb⟩,ht.step0 f01,⟨⟨cm.frm r3 fun h=>h,fun nm h=>rfl,fun nm x h=>by simp[Jbu,Ja1]at h,fun _ _ _ h=>h.elim,fun _ _ h=>h.elim⟩,c3,fun _ _ h=>h.elim,fun x hx=>by have:=hSl x hx;exact⟨by omega,by omega⟩,⟨by omega,by omega,by omega,by omega,by omega⟩,f01.no,fun x hx=> .inl hx⟩,(c1.frm (fm.tr r3) fun h=>h),fun _ _ h=>h.elim,fun y hy=>by have:=hSl y hy;omega,Nat.zero_le _,rfl⟩
 ·rintro q f w ⟨i,tv',S',MV,Sf,⟨f0,f1,f4,f5,f6⟩,htw,hLw,hbx,hSf,hSa,hi,rfl⟩ ih out;by_cases hil:i<l.length
  case neg =>
   obtain rfl:i=l.length:=Fh;rw[List.take_length]at htw hLw;refine Ja2 1000 (by simp only[go_sem,simprocAttr,ZU,f1,f6,hlv,hil];rfl) ?_;exact out _ _ _ ⟨tv',S',MV,Sf,(Fg f4),(Fg f5),htw,hLw,hbx,hSf,hSa⟩ rfl
  obtain⟨fc,hfc⟩:∃fc,l[i]? = some fc:=⟨_,FB hil⟩;have hfm:=FI hfc;obtain⟨ha4,hn16,hok⟩:=hl.ok fc hfm;have hpi:LaidP (l.take i) (Jbu ts (l.take i)).2∧(Jbu ts (l.take i)).1.length≤ts.length+4*(l.take i).length:=JgE ⟨by rw[FU];omega,fun f hf=>hl.ok f (List.mem_of_mem_take hf),fun f hf g hg=>hl.ar f (List.mem_of_mem_take hf) g (List.mem_of_mem_take hg)⟩;have hit:(l.take i).length=i:=by rw[FU];omega
  rw[hit]at hpi
  have hTR:∀x,T x→¬(S x∨x=tb∨x=mb):=fun x hx h=>by
   obtain⟨_,h1,h2,h3⟩:=hT x hx;rcases h with h|h|h
   ·exact h1 h
   ·exact h2 h
   ·exact h3 h
  have gn:=hLw.f.next
  have hTw:∀{w':AW} {S2:Fw},w.next≤w'.next→(∀x,S2 x→S x∨aw.next≤x)→∀x,T x→x<w'.next∧¬S2 x∧x≠tb∧x≠mb:=fun hn hs x hx=>by
   obtain⟨h0,h1,h2,h3⟩:=hT x hx;exact⟨by omega,fun hh=>by rcases hs x hh with h|h;exact h1 h;omega,h2,h3⟩
  have hxw:=hx.frm hLw.f hTR;obtain⟨b,o,c,xv,rfl,_,_,l2,l0,l1,hxa⟩:=Jd2 hxw hfc;have hxl:=hxa.lenV;have look:=hLw.lw.pm.look Jci .nilptr fc.1;have k0:w.load w2.next 0 1=some [.map w1.next]:=CB.ld hLw.box 0 1 _ rfl;have hwr:IntKind.wrap .i64 (Int.ofNat i+1)=Int.ofNat (i+1):=Ja3 Fh;have hb5:=hLw.box.lt;have esn:Jbu ts (l.take (i+1))=JfM (Jbu ts (l.take i)) fc:=by rw[Jbz hfc,JhD]
  have hx1:(Jc3 (Jbu ts (l.take i)).2 fc).1=fc.2.length∧(Jc3 (Jbu ts (l.take i)).2 fc).2.length≤i:=by
   unfold Jc3 JdF;cases hg:Ja1 (Jbu ts (l.take i)).2 fc.1 with
   | none=>simp only;rw[Jbi];exact⟨rfl,Nat.zero_le _⟩
   | some x =>
    simp only;rw[hg];obtain⟨g,hgm,hgn,hga⟩:=hpi.1.ar _ _ hg;refine⟨?_,by have:=hpi.1.len _ _ hg;rw[hit]at this;exact this⟩;show x.1=_;rw[hga];exact hl.ar g (List.mem_of_mem_take hgm) fc hfm hgn
  have rest:∀(fr:Fr) (w4:AW) (MV4:List (List Nat×V)) (Sf4:List Nat→Fw),LdF fr tb (.slice b o l.length c) w2.next i aw.next→fr.get 7=some .nilslice→fr.get 8=some (.int .i64 (Int.ofNat 0))→w.next≤w4.next→TabW tb mb tv' S' (Jbu ts (l.take i)).1 w4→LaidS (aw.next+1) w1.next tb mb w2.next aw w4 S S' (JdF (Jbu ts (l.take i)).2 fc) MV4 Sf4→CB w4 aw.next [.nilmap]→(∀n y,Sf4 n y→w2.next<y)→WS tab (.code (.loop ZT) :: .endB 2 :: .code Y1 :: .endB 1 :: .code (.region [⟨some 15,none,.mov (.tmp 6)⟩,⟨some 16,none,.bin .add (.tmp 15) (.const (.int .i64 1))⟩,⟨some 6,none,.mov (.tmp 16)⟩]) :: .code (.loop ZU) :: .endB 0::[.code (.seq (.region [⟨some 73,none,.load 1 true (.tmp 5)⟩,⟨none,none,.store 1 (.tmp 4) (.tmp 73)⟩]) .ret)]) fr w4 (fun fr' aw'=>∃vs,Jcv fr' aw' ZV.results=some vs∧K (JbT vs) aw'):=by
   intro fr w4 MV4 Sf4 hF4 h7 h8 hn4 ht4 hL4 hb4 hSf4;have hx4:=hx.frm hL4.f hTR;refine Js7 (i:=i) C hx4 hfc (hTw hn4 fun x hx=>hLw.s x hx) ht4 Fh Fh hok hF4 h7 h8 fun f5 w5 rv R tv5 S5 hF5 g7 hrv t5 g5 s5 hR5=>?_;have n5:=g5.next;have hn4':=hL4.f.next
   have d5:∀n x,Sf4 n x→¬(S' x∨x=tb∨x=mb):=fun n x hx h=>by
    obtain⟨h1,h2,h3,_⟩:=hL4.sd n x hx;rcases h with h|h|h
    ·exact h1 h
    ·exact h2 h
    ·exact h3 h
   have hL5:LaidS (aw.next+1) w1.next tb mb w2.next aw w5 S S5 (JdF (Jbu ts (l.take i)).2 fc) MV4 Sf4:=by
    refine⟨hL4.lw.frm g5 (fun h=>?_) d5,hL4.box.frm g5 (fun h=>?_),fun n x hx=>⟨fun hs=>?_,(hL4.sd n x hx).2⟩,fun x hx=>?_,hL4.ne,?_,fun x hx=>?_⟩
    ·rcases h with h|h|h
     ·exact (hL4.ss _ h).1 rfl
     ·exact hL4.ne.1 h
     ·exact hL4.ne.2.1 h
    ·rcases h with h|h|h
     ·exact (hL4.ss _ h).2 rfl
     ·exact hL4.ne.2.2.1 h
     ·exact hL4.ne.2.2.2.1 h
    ·rcases s5 x hs with h|h
     ·exact (hL4.sd n x hx).1 h
     ·have:=(hL4.lw.lo n x hx).2.1;omega
    ·rcases s5 x hx with h|h
     ·exact hL4.ss x h
     ·have:=hL4.box.lt;have:=hL4.lw.pm.lt;exact⟨by omega,by omega⟩
    ·refine hL4.f.trans g5 (fun _ _ h=>h) fun x hx h=>?_;rcases h with h|h|h
     ·rcases hLw.s x h with h|h
      ·exact .inl h
      ·omega
     ·exact .inr (.inl h)
     ·exact .inr (.inr h)
    ·rcases s5 x hx with h|h
     ·exact hLw.s x h
     ·right;omega
   have hb5':=hb4.frm g5 (fun h=>by
    rcases h with h|h|h
    ·exact hSa _ h rfl
    ·omega
    ·omega)
   have hrl:=(Jfb (Jbu ts (l.take i)).1 fc.2).1;have hxw5:=hx.frm hL5.f hTR;refine Js5 (x:=Jc3 (Jbu ts (l.take i)).2 fc) C P hxw5 hfc (fun y hy=>⟨by have:=(hT y hy).1;omega,fun n hs=>by have:=(hL5.lw.lo n y hs).1;have:=(hT y hy).1;omega⟩) t5 hL5 (JlF _ _) hrv (by rw[hrl,hx1.1]) Fh ⟨hb5'.lt,fun n hs=>by have:=(hL5.lw.lo n _ hs).1;omega⟩ Fh Fh hF5 g7 fun f6 w6 Sf6 hF6 t6 hL6 g6 s6=>?_;obtain⟨p0,p1,p4,p5,p6⟩:=hF6;have n6:=g6.next;refine Fz (by simp only[go_sem,JaX,simprocAttr,p6,hwr];rfl) ?_;refine ih _ _ _ Fh ⟨i+1,tv5,S5,MV4,Sf6,⟨(by simp only[go_sem,JaX,simprocAttr,p0]<;>rfl),(by simp only[go_sem,JaX,simprocAttr,p1]<;>rfl),(by simp only[go_sem,JaX,simprocAttr,p4]<;>rfl),(by simp only[go_sem,JaX,simprocAttr,p5]<;>rfl),Fb⟩,?_,?_,hb5'.frm g6 (fun hs=>by have:=(hL5.lw.lo _ _ hs).1;omega),fun n y hy=>?_,fun y hy=>?_,by omega,rfl⟩
   ·rw[esn];exact t6
   ·rw[esn];exact hL6
   ·rcases s6 n y hy with h|h
    ·exact hSf4 n y h
    ·have:=hL4.box.lt;omega
   ·rcases s5 y hy with h|h
    ·exact hSa y h
    ·have:=hb4.lt;omega
  cases hg:Ja1 (Jbu ts (l.take i)).2 fc.1 with
  | some x =>
   have e0:JdF (Jbu ts (l.take i)).2 fc=(Jbu ts (l.take i)).2:=by unfold JdF;rw[hg]
   obtain⟨p,hp,hset⟩:=hLw.lw.set _ _ hg;obtain⟨bp,rfl,_⟩:=SetOf.ptr hset;rw[hp]at look;have look:w.lookV (.scalar .str) .nilptr (.map w1.next) (.str fc.1)=some (.ptr bp 0,true):=look;have hpn:eqV .ptr (.ptr bp 0) .nilptr=some false:=rfl;refine Fz (by simp only[go_sem,JaX,simprocAttr,ZU,VX,f1,f5,f6,hlv,hil,k0,l0,look,hpn];rfl) ?_;exact rest _ w MV Sf ⟨(Fg f0),(Fg f1),(Fg f4),(Fg f5),(Fg f6)⟩ Fb Fb (FH _) htw (by rw[e0];exact hLw) hbx hSf
  | none =>
   have e0:JdF (Jbu ts (l.take i)).2 fc=Jb5 (Jbu ts (l.take i)).2 fc.1 (fc.2.length,[]):=by unfold JdF;rw[hg]
   have hmn:=hLw.lw.key _ hg;rw[hmn]at look;have look:w.lookV (.scalar .str) .nilptr (.map w1.next) (.str fc.1)=some (.nilptr,false):=look;have hpn:eqV .ptr .nilptr .nilptr=some true:=rfl;refine Fz (by simp only[go_sem,JaX,simprocAttr,ZU,VX,f1,f5,f6,hlv,hil,k0,l0,look,hpn,Hn];rfl) ?_;refine JbM ?_;refine Jbn 100 (by simp only[go_sem,JaX,simprocAttr,f1,f5,f6,hil,k0,l0,l1,hxl];rfl) ?_;refine Jb4 Ff Fe ?_;refine Rel.new_ok C ha4 fun w4 hset g4 n4=>?_;have k0':w4.load w2.next 0 1=some [.map w1.next]:=CB.ld (hLw.box.frm g4 fun h=>h) 0 1 _ rfl
   have l0':w4.load b (o+i*2) 1=some [.str fc.1]:=by
    obtain⟨b',o',c',xv',e',_,_,_,q0,_,_⟩:=Jd2 (hxw.frm g4 fun _ _ h=>h) hfc;cases e';exact q0
   obtain⟨w5,u1,u2,u3,u4⟩:=(hLw.lw.pm.frm g4 fun h=>h).put Jci fc.1 (.ptr w.next 0)
   have hMp:∀n,Ja1 (Jb5 MV fc.1 (V.ptr w.next 0)) n=if n=fc.1 then some (.ptr w.next 0)else Ja1 MV n:=fun n=>by
    by_cases he:n=fc.1
    ·rw[if_pos he,he,Jbi]
    ·rw[if_neg he,JbD _ _ _ _ he]
   have hsml:=hLw.lw.pm.lt;have g45:Frm (fun y=>y=w1.next) w w5:=g4.no.tr u3
   have hup:=hLw.lw.upd (nm:=fc.1) (x:=(fc.2.length,[])) g45 u2 hMp (hset.frm u3 fun x hx e=>by omega) (fun n y _ hy e=>(hLw.lw.lo n y hy).2.2 e) (fun y hy=>by
    subst hy;exact⟨by omega,by omega,by omega,fun n _ hs=>by have:=(hLw.lw.lo n _ hs).2.1;omega⟩)
   refine Jbn 100 (by simp only[go_sem,JaX,simprocAttr,f1,f6,hil,u1];rfl) ?_;refine JbO ⟨(show Jbg _ _ [(1,13),(6,13)]from by simp only[go_sem,JaX,simprocAttr,Jbg,chk,List.reverse_cons,List.reverse_nil,JbE,JbR,JbP,JbQ,List.getElem?_nil,false_or,or_true,or_false,exists_eq',FQ,Prod.mk.injEq,Bool.true_eq_false,FM,and_true,true_and,implies_true,k0,k0',l0,l0']),?_⟩;have hn5:=g45.next;have hn5':=u3.next;have hSS:=htw.s;refine JaY 1000 Fe ?_;refine rest _ w5 _ _ ⟨(Fg f0),(Fg f1),(Fg f4),(Fg f5),(Fg f6)⟩ Fb Fb Fh (htw.step g45 (fun e=>by omega) (fun e=>by omega) fun x hx e=>(hLw.ss x hx).1 e) ⟨by rw[e0];exact hup,hLw.box.frm g45 (fun e=>by have:=hLw.ne;omega),fun n x hx=>?_,hLw.ss,hLw.ne,?_,hLw.s⟩ (hbx.frm g45 fun e=>by omega) fun n y hy=>?_
   ·by_cases he:n=fc.1
    ·rw[if_pos he]at hx;exact⟨fun hs=>by have:=(hSS x hs).1;omega,by omega,by omega,by omega⟩
    ·rw[if_neg he]at hx;exact hLw.sd n x hx
   ·exact hLw.f.trans g45 (fun _ _ h=>h) fun x hx e=>by omega
   ·by_cases he:n=fc.1
    ·rw[if_pos he]at hy;omega
    ·rw[if_neg he]at hy;exact hSf n y hy
 ·rintro f w ⟨tv',S',MV,Sf,f4,f5,htw,hLw,hbx,hSf,hSa⟩;have k0:w.load w2.next 0 1=some [.map w1.next]:=CB.ld hLw.box 0 1 _ rfl;have st:=hbx.setAll (vs:=[V.map w1.next]) rfl rfl;have c4:=Jbx (l:=[V.map w1.next]) hbx.lt;have g4:Frm (fun x=>x=aw.next) w (w.put aw.next [V.map w1.next]):=Jbj;have k4:(w.put aw.next [V.map w1.next]).load aw.next 0 1=some [.map w1.next]:=CB.ld c4 0 1 _ rfl;have hcm:V.cells (.agg [.map w1.next])=[V.map w1.next]:=rfl;refine Fz (by simp only[go_sem,JaX,simprocAttr,f4,f5,k0,FC,FD,st,hcm];rfl) ?_;refine JaZ ⟨_,by simp only[go_sem,JaX,simprocAttr,ZV,f4,k4];rfl,?_⟩;have d4:∀n x,Sf n x→¬x=aw.next:=fun n x hx e=>by have:=(hLw.lw.lo n x hx).1;omega
  refine h _ w1.next w2.next tv' S' MV Sf (htw.step g4 Fh Fh fun x hx e=>hSa x hx e) ⟨hLw.lw.frm g4 Fh d4,hLw.box.frm g4 Fh,hLw.sd,hLw.ss,hLw.ne,?_,hLw.s⟩ Fh;exact hLw.f.trans g4 (fun _ _ h=>h) fun x hx e=>by omega
end
section
open Go.AE Delphi Val
variable {tab:Tab}
def JcS (ts:List Tk) (nm:List Nat) (rows:Fy):List Fc:=rows.foldl (fun o r=>JcF o (nm,r.map (Jbq ts))) []
theorem Job (ts:List Tk)(nm:List Nat)(rows:Fy)(r:List Int):JcS ts nm (rows++[r])=JcF (JcS ts nm rows) (nm,r.map (Jbq ts)):=by unfold JcS;rw[List.foldl_append];rfl
theorem Jko (ts:List Tk)(nm:List Nat)(rows:Fy):(JcS ts nm rows).length≤rows.length∧∀n,(∀r∈rows,r.length≤n)→∀f∈JcS ts nm rows,f.2.length≤n:=by
 unfold JcS
 have:∀(rows:Fy) (o:List Fc),(rows.foldl (fun o r=>JcF o (nm,r.map (Jbq ts))) o).length≤o.length+rows.length∧∀n,(∀f∈o,f.2.length≤n)→(∀r∈rows,r.length≤n)→∀f∈rows.foldl (fun o r=>JcF o (nm,r.map (Jbq ts))) o,f.2.length≤n:=by
  intro rows;induction rows with
  | nil=>intro o;exact⟨by simp,fun n h _=>h⟩
  | cons r rows ih =>
   intro o;obtain⟨h1,h2⟩:=ih (JcF o (nm,r.map (Jbq ts)));rw[Ku,FC];have:=Jjx o (nm,r.map (Jbq ts));refine⟨by omega,fun n h3 h4=>h2 n (fun f hf=>?_) fun x hx=>h4 x (FO _ hx)⟩;rcases JhH hf with h|rfl
   ·exact h3 f h
   ·show (r.map (Jbq ts)).length≤n;rw[F9];exact h4 r Fj
 obtain⟨h1,h2⟩:=this rows [];exact⟨by simpa using h1,fun n h=>h2 n Fj h⟩
structure FtF (f:Fr) (tb:Nat) (nm:List Nat) (rv ov:V) (i fb:Nat):Prop where
 f0:f.get 0=some (.ptr tb 0)
 f1:f.get 1=some (.str nm)
 f2:f.get 2=some rv
 f7:f.get 7=some ov
 f8:f.get 8=some (.int .i64 (Int.ofNat i))
 f9:f.get 9=some (.ptr fb 0)
def RowsRd (T:Fw) (w:AW) (v:V) (rows:Fy):Prop:=∃cs,Rd T w v 1 rows.length cs∧Rel.RowsV T w cs rows
variable {T:Fw} {w:AW} {v:V} {rows:Fy}
theorem RowsRd.frm {R:Fw}{w':AW}(h:RowsRd T w v rows)(g:Frm R w w')(hd:∀x,T x→¬R x):RowsRd T w' v rows:=by
 obtain⟨cs,h1,h2⟩:=h;exact⟨cs,h1.frm g hd,h2.frm g hd⟩
theorem RowsRd.lenV (h:RowsRd T w v rows):lenV v=some rows.length:=by obtain⟨cs,h1,h2⟩:=h;exact h1.lenV
variable {r:List Int}
theorem RowsRd.at (h:RowsRd T w v rows){i:Nat}(hi:rows[i]? = some r):∃b o c rv,v = .slice b o rows.length c∧w.load b (o+i*1) 1=some [rv]∧Rel.RowV T w rv r:=by
 obtain⟨cs,h1,h2⟩:=h;obtain⟨rv,h3,h4⟩:=h2.at hi;have hlt:i<rows.length:=(List.getElem?_eq_some_iff.1 hi).1;rcases h1.inv with⟨_,h0,_⟩|⟨b,o,c,rfl,hB⟩
 ·omega
 ·exact⟨b,o,c,rv,rfl,by rw[KC];exact hB.cell Fh h3,h4⟩
variable {S:Fw}
theorem Jrq {N:Nat}{cs:List V}(h:Rel.ListOf N w v rows cs S T):RowsRd (fun x=>S x∨T x) w v rows:=⟨cs,h.1.rd.mono fun _ h=> .inl h,h.2.1.mono fun _ h=> .inr h⟩
variable {rv:V} {ts:List Tk} {nm:List Nat}
theorem JpQ (C:Codes tab){tb mb i fb:Nat}{tv ov:V}{f:Fr}(hx:RowsRd T w rv rows)(hr:rows[i]? = some r)(hT:∀x,T x→x≠fb)(ht:TabW tb mb tv S ts w)(hfb:¬S fb∧tb≠fb∧mb≠fb)(hts:ts.length≤100000)(hrn:∀n∈r,1≤n∧n≤(ts.length:Int))(hrl:r.length≤1000)(hF:FtF f tb nm rv ov i fb)(f10:f.get 10=some (.int .i64 (Int.ofNat 0)))(hb:CB w fb [.str nm,.nilslice])(h:∀f' w' av R,FtF f' tb nm rv ov i fb→CB w' fb [.str nm,av]→Rd R w' av 3 r.length (JcY (r.map (Jbq ts)))→Frm (fun x=>x=fb) w w'→(∀x,R x→w.next≤x∧x<w'.next)→WS tab st f' w' Q): WS tab (.code (.loop Y7) :: .endB 2::st) f w Q:=by
 have hil:i<rows.length:=(List.getElem?_eq_some_iff.1 hr).1
 refine Jba (fun q f w1=>∃m av R,FtF f tb nm rv ov i fb∧f.get 10=some (.int .i64 (Int.ofNat m))∧CB w1 fb [.str nm,av]∧Bt R w1 av 3 m (JcY ((r.take m).map (Jbq ts)))∧Frm (fun x=>x=fb) w w1∧(∀x,R x→w.next≤x∧x<w1.next)∧m≤r.length∧q=r.length-m)
  (fun f w1=>∃av R,FtF f tb nm rv ov i fb∧CB w1 fb [.str nm,av]∧Bt R w1 av 3 r.length (JcY (r.map (Jbq ts)))∧Frm (fun x=>x=fb) w w1∧(∀x,R x→w.next≤x∧x<w1.next)) ?_ ?_ r.length
  ⟨0,.nilslice,fun _=>False,hF,f10,hb,.nil,Frm.refl _,fun _ h=>h.elim,Nat.zero_le _,rfl⟩
 ·rintro q f w1 ⟨m,av,R,⟨f0,f1,f2,f7,f8,f9⟩,f10,hc,hB,g,hR,hm,rfl⟩ ih out;obtain⟨b,o,c,xv,rfl,lr,hrv⟩:=(hx.frm g hT).at hr;have hxl:=JhT hrv;by_cases hlt:m<r.length
  case neg =>
   obtain rfl:m=r.length:=Fh;rw[List.take_length]at hB;refine Ja2 1000 (by simp only[go_sem,simprocAttr,Y7,f2,f8,f10,hil,lr,hxl,hlt];rfl) ?_;exact out _ _ _ ⟨av,R,⟨(Fg f0),(Fg f1),(Fg f2),(Fg f7),(Fg f8),(Fg f9)⟩,hc,hB,g,hR⟩ rfl
  obtain⟨n,hn⟩:∃n,r[m]? = some n:=⟨_,FB hlt⟩;obtain⟨rb,rc,rfl,ln⟩:=JfP hrv hn;have hnr:=hrn n (FI hn);have k1:w1.load fb 1 1=some [av]:=CB.ld hc 1 1 _ rfl;have ht1:=ht.step g hfb.2.1 hfb.2.2 fun x hx e=>hfb.1 (e▸hx);have gn:=g.next;refine Fz (by simp only[go_sem,JaX,simprocAttr,Y7,Hw,f2,f8,f10,hil,lr,hxl,hlt];rfl) ?_;refine JbM ?_;refine Jbn 100 (by simp only[go_sem,JaX,simprocAttr,f0,f2,f8,f9,f10,k1,hil,lr,hlt,ln];rfl) ?_;refine Jb4 Ff Fe ?_;refine Jpi C ht1 hts ⟨by omega,by omega⟩ fun w2 u g2 hu1 hu2=>?_;have hu:=JnR hu1 hu2;have hc2:=hc.frm g2 fun h=>h;have k1':w2.load fb 1 1=some [av]:=CB.ld hc2 1 1 _ rfl;have hB2:=hB.frm g2 fun _ _ h=>h;have gn2:=g2.next;have hbl:=hb.lt;obtain⟨v',w3,R3,u1,u2,u3,u4⟩:=hB2.push (news:=tkC u) (bytes:=32) (fun x hx=>by have:=hR x hx;omega) Fh rfl rfl Fh Fh;have hel:(w2.fresh (tkC u)).elems 3 (.slice w2.next 0 1 (.known 1))=some (1,tkC u):=JbH Fh rfl;have hov:over [V.int .i64 0,V.str [],V.int .i64 0] 0 (tkC u)=some (tkC u):=rfl;have k1'':(w2.fresh (tkC u)).load fb 1 1=some [av]:=CB.ld (hc2.frm (Jbc (S:=fun _=>False) _ _) fun h=>h) 1 1 _ rfl;have hc3:=hc2.frm u3 fun h=>by have:=(hR _ h).1;omega
  have s3:w3.store fb 1 [v']=some (w3.put fb [.str nm,v']):=hc3.set (i:=1) (v:=v') Fj u2.one.1;have c4:=Jbx (l:=[V.str nm,v']) hc3.lt;have g4:Frm (fun x=>x=fb) w3 (w3.put fb [.str nm,v']):=Jbj;have hcc:V.cells (.agg (tkC u))=tkC u:=rfl;have hwr:IntKind.wrap .i64 (Int.ofNat m+1)=Int.ofNat (m+1):=Ja3 Fh;have hvc:=u2.one.2;refine Jbn 100 (by simp only[go_sem,JaX,simprocAttr,f9,hcc,JcA,Ja4,Jbe,hov,FC,FD,hel,u1,hvc,s3];rfl) ?_;refine JbO ⟨(show Jbg _ _ [(1,10),(1,11)]from by simp only[go_sem,JaX,simprocAttr,Jbg,chk,List.reverse_cons,List.reverse_nil,JbE,JbR,JbP,JbQ,List.getElem?_nil,false_or,or_true,or_false,exists_eq',FQ,Prod.mk.injEq,Bool.true_eq_false,FM,and_true,true_and,implies_true,k1,k1',k1'']),?_⟩;have hn3:=u3.next;obtain⟨w4,e4⟩:∃w4,w4=w3.put fb [.str nm,v']:=⟨_,rfl⟩;have hn4:w4.next=w3.next:=by rw[e4];rfl
  rw[←e4]at c4 g4 ⊢;refine Fz (by simp only[go_sem,JaX,simprocAttr,f10,hwr];rfl) ?_;refine ih _ _ _ Fh ⟨m+1,v',R3,⟨(Fg f0),(Fg f1),(Fg f2),(Fg f7),(Fg f8),(Fg f9)⟩,Fb,c4,?_,((g.tr g2.no).trans u3 (fun _ _ h=>h) fun x hx h=>by have:=(hR x h).1;omega).tr g4,fun x hx=>?_,by omega,rfl⟩
  ·rw[Jbz hn,List.map_append,Kv,Kw,Jj9,←hu]
   exact u2.frm g4 fun x hx h=>by
    rcases (u4 x hx).2 with h1|h1
    ·have:=(hR x h1).1;omega
    ·omega
  ·refine⟨?_,by rw[hn4];exact (u4 x hx).1⟩;rcases (u4 x hx).2 with h1|h1
   ·exact (hR x h1).1
   ·omega
 ·rintro f w1 ⟨av,R,hF,hc,hB,g,hR⟩;exact h f w1 av R hF hc hB.rd g hR
variable {K:V→AW→Prop}
theorem JsP (C:Codes tab){tb mb:Nat}{tv:V}{aw:AW}(hx:RowsRd T aw rv rows)(hT:∀x,T x→x<aw.next)(ht:TabW tb mb tv S ts aw)(hts:ts.length≤100000)(hrn:∀r∈rows,∀n∈r,1≤n∧n≤(ts.length:Int))(hrl:∀r∈rows,r.length≤1000)(hl:rows.length≤500000)(h:∀w v,Fcs (fun x=>aw.next≤x∧x<w.next) w v (JcS ts nm rows)→Frm (fun _=>False) aw w→K v w):WF tab Gh [.ptr tb 0,.str nm,rv] aw K:=by
 refine Ja7 C.Y9 rfl ?_;have hlv:=hx.lenV;refine Fz (by simp only[go_sem,JaX,simprocAttr,Y8];rfl) ?_
 refine Jba (fun q f w=>∃i ov,f.get 0=some (.ptr tb 0)∧f.get 1=some (.str nm)∧f.get 2=some rv∧f.get 7=some ov∧f.get 8=some (.int .i64 (Int.ofNat i))∧Fcs (fun x=>aw.next≤x∧x<w.next) w ov (JcS ts nm (rows.take i))∧(JcS ts nm (rows.take i)=[]→ov = .nilslice)∧Frm (fun _=>False) aw w∧i≤rows.length∧q=rows.length-i)
  (fun f w=>∃ov,f.get 7=some ov∧Fcs (fun x=>aw.next≤x∧x<w.next) w ov (JcS ts nm rows)∧Frm (fun _=>False) aw w) ?_ ?_ rows.length
  ⟨0,.nilslice,Fb,Fb,Fb,Fb,Fb,⟨[],.nil,.nil⟩,fun _=>rfl,Frm.refl _,Nat.zero_le _,rfl⟩
 ·rintro q f w ⟨i,ov,f0,f1,f2,f7,f8,ho,hnil,g,hi,rfl⟩ ih out;by_cases hil:i<rows.length
  case neg =>
   obtain rfl:i=rows.length:=Fh;rw[List.take_length]at ho;refine Ja2 1000 (by simp only[go_sem,simprocAttr,V5,f2,f8,hlv,hil];rfl) ?_;exact out _ _ _ ⟨ov,(Fg f7),ho,g⟩ rfl
  obtain⟨r,hr⟩:∃r,rows[i]? = some r:=⟨_,FB hil⟩;have hrm:=FI hr;obtain⟨w2,s2,c2,r2,n2⟩:=Jb1 w (zs:=[V.str [],V.nilslice]) (vs:=[V.str nm,V.nilslice]) rfl rfl;have hov1:over [V.str [],V.nilslice] 0 [V.str nm]=some [V.str nm,V.nilslice]:=rfl;have hwr:IntKind.wrap .i64 (Int.ofNat i+1)=Int.ofNat (i+1):=Ja3 Fh;have gn:=g.next;have hSS:=ht.s;have htb:=ht.a.lt;have hmb:=ht.m.lt;have hrl':=hrl r hrm;obtain⟨hfl,hfw⟩:=Jko ts nm (rows.take i);rw[FU]at hfl;have hfw:=hfw 1000 fun x hx=>hrl x (List.mem_of_mem_take hx);have esn:JcS ts nm (rows.take (i+1))=JcF (JcS ts nm (rows.take i)) (nm,r.map (Jbq ts)):=by rw[Jbz hr,Job]
  refine Fz (by simp only[go_sem,JaX,simprocAttr,V5,Hy,f1,f2,f8,hlv,hil,Ja4,Jbe,hov1,FC,FD,s2];rfl) ?_;refine JpQ (i:=i) (fb:=w.next) (nm:=nm) (ov:=ov) C ((hx.frm g fun _ _ h=>h).frm r2 fun _ _ h=>h) hr (fun x hx=>by have:=hT x hx;omega) ((ht.step0 g).step0 r2) ⟨fun hs=>by have:=(hSS _ hs).1;omega,by omega,by omega⟩ hts (hrn r hrm) hrl' ⟨(Fg f0),(Fg f1),(Fg f2),(Fg f7),(Fg f8),Fb⟩ Fb c2 fun f3 w3 av R hF3 c3 hB3 g3 hR=>?_;obtain⟨q0,q1,q2,q7,q8,q9⟩:=hF3;have gn3:=g3.next;have g03:Frm (fun _=>False) w w3:=r2.trans g3 (fun _ _ h=>h) fun x hx h=>by omega
  have k2:w3.load w.next 0 2=some [.str nm,av]:=c3.all rfl;have hfc:FcC R w3 (nm,r.map (Jbq ts)) [.str nm,av]:=⟨av,rfl,by show Rd R w3 av 3 (r.map (Jbq ts)).length _;rw[F9];exact hB3⟩;refine Fz (by simp only[go_sem,JaX,simprocAttr,Hx,q7,q9,k2];rfl) ?_;refine Ja0 Ff Fe ?_;refine Jpd C (ho.frm g03 fun _ _ h=>h) hnil hfc Fh hfw (by show (r.map (Jbq ts)).length≤1000;rw[F9];exact hrl') ?_;intro w4 v4 q3 q4 q5;have gn4:=q5.next;refine Fz (by simp only[go_sem,JaX,simprocAttr,q8,hwr];rfl) ?_;refine ih _ _ _ Fh ⟨i+1,v4,(by simp only[go_sem,JaX,simprocAttr,q0]<;>rfl),(by simp only[go_sem,JaX,simprocAttr,q1]<;>rfl),(by simp only[go_sem,JaX,simprocAttr,q2]<;>rfl),Fb,Fb,?_,fun e=>q4 (by rw[←esn];exact e),(g.tr g03).tr q5,by omega,rfl⟩;rw[esn];refine q3.mono fun x hx=>?_;rcases hx with hx|hx|hx
  ·exact⟨hx.1,by omega⟩
  ·have:=hR x hx;exact⟨by omega,by omega⟩
  ·exact⟨by omega,hx.2⟩
 ·rintro f w ⟨ov,f7,ho,g⟩;refine Fz (by simp only[go_sem,JaX,simprocAttr,f7];rfl) ?_;refine JaZ ⟨_,by simp only[go_sem,JaX,simprocAttr,Y8];rfl,?_⟩;exact h w ov ho g
theorem Jlr:∀{a b:List Int},a.length=b.length→Rel.cmpL a b<0→∃(d:Nat),∃x y:Int,a[d]? = some x∧b[d]? = some y∧x<y∧∀j,j<d→a[j]? = b[j]?
 | [],[],_,h=>by simp[Rel.cmpL]at h
 | [],_::_,hl,_=>by simp at hl
 | _::_,[],hl,_=>by simp at hl
 | x::a,y::b,hl,h=>by
  unfold Rel.cmpL at h;by_cases hc:Rel.cmpI x y=0
  ·rw[if_pos hc]at h;obtain⟨d,u,v,h1,h2,h3,h4⟩:=Jlr (by simpa using hl) h
   have hxy:x=y:=by
    unfold Rel.cmpI at hc;split at hc
    ·cases hc
    ·split at hc
     ·cases hc
     ·omega
   refine⟨d+1,u,v,by simpa using h1,by simpa using h2,h3,fun j hj=>?_⟩;cases j with
   | zero=>rw[hxy];rfl
   | succ j=>simpa using h4 j Fh
  ·rw[if_neg hc]at h;refine⟨0,x,y,rfl,rfl,?_,fun j hj=>by omega⟩;unfold Rel.cmpI at h;split at h
   ·assumption
   ·split at h
    ·exact absurd h (by decide)
    ·exact absurd h (by decide)
theorem JuL (C:Codes tab){wd:Nat}{aw:AW}(hx:RowsRd T aw rv rows)(hrise:Rel.Rise rows)(hw:∀r∈rows,r.length=wd)(hwd:wd≤1000)(hl:rows.length≤1000000)(h:K (.bool true) aw):WF tab Gf [rv] aw K:=by
 refine Ja7 C.Y5 rfl ?_;have hlv:=hx.lenV;refine Fz (by simp only[go_sem,JaX,simprocAttr,Y4];rfl) ?_;refine Jba (fun q f w=>∃i,f.get 0=some rv∧f.get 3=some (.int .i64 (Int.ofNat i))∧w=aw∧1≤i∧q=rows.length+1-i) (fun f w=>w=aw) ?_ ?_ rows.length ⟨1,Fb,Fb,rfl,FH _,by omega⟩
 ·rintro q f w ⟨i,f0,f3,rfl,h1,rfl⟩ ih out;by_cases hil:i<rows.length
  case neg =>
   refine Ja2 1000 (by simp only[go_sem,simprocAttr,V2,f0,f3,hlv,hil];rfl) ?_;exact out _ _ _ rfl rfl
  obtain⟨p,rfl⟩:∃p,i=p+1:=⟨i-1,by omega⟩;have hpl:p<rows.length:=Fh;obtain⟨r,hr⟩:∃r,rows[p+1]? = some r:=⟨_,FB hil⟩;obtain⟨r0,hr0⟩:∃r,rows[p]? = some r:=⟨_,FB hpl⟩;have hlt:=List.pairwise_iff_getElem.1 hrise p (p+1) hpl hil Fh;rw[FB hil]at hr;rw[FB hpl]at hr0;have e1:=FY hr;have e0:=FY hr0;rw[e1,e0]at hlt;have hwr:=hw r (by rw[←e1];exact KE _);have hwr0:=hw r0 (by rw[←e0];exact KE _);obtain⟨d,x,y,hxd,hyd,hxy,heq⟩:=Jlr (hwr0.trans hwr.symm) hlt;have hdl:d<wd:=by have:=(List.getElem?_eq_some_iff.1 hxd).1;omega
  obtain⟨b,o,c,v1,rfl,lr,hrv⟩:=hx.at (i:=p+1) (r:=r) (by rw[FB hil,e1]);obtain⟨b',o',c',v0,e',lr0,hrv0⟩:=hx.at (i:=p) (r:=r0) (by rw[FB hpl,e0]);cases e';have hl1:=JhT hrv;have hl0:=JhT hrv0;rw[hwr]at hl1;rw[hwr0]at hl0
  have hwm:IntKind.wrap .i64 (Int.ofNat (p+1)-1)=Int.ofNat p:=by
   rw[show Int.ofNat (p+1)-1=Int.ofNat p by show ((p+1:Nat):Int)-1=(p:Int);omega];exact JdM (by show (-9223372036854775808:Int)≤(p:Int);omega) (by show (p:Int)≤_;omega)
  have hwi:IntKind.wrap .i64 (Int.ofNat (p+1)+1)=Int.ofNat (p+1+1):=Ja3 Fh;refine Fz (by simp only[go_sem,JaX,simprocAttr,V2,Hs,f0,f3,hlv,hil];rfl) ?_;refine Jba (fun q f w'=>∃k,f.get 0=some (.slice b o rows.length c)∧f.get 3=some (.int .i64 (Int.ofNat (p+1)))∧f.get 5=some (.int .i64 (Int.ofNat k))∧w'=w∧k≤d∧q=d-k) (fun f w'=>f.get 0=some (.slice b o rows.length c)∧f.get 3=some (.int .i64 (Int.ofNat (p+1)))∧f.get 4=some (.bool true)∧w'=w) ?_ ?_ d ⟨0,(Fg f0),(Fg f3),Fb,rfl,Nat.zero_le _,rfl⟩
  ·rintro q f w' ⟨k,g0,g3,g5,rfl,hk,rfl⟩ ih' out';have hkw:k<wd:=Fh;by_cases hkd:k=d
   ·subst hkd;obtain⟨rb,rc,rfl,ln⟩:=JfP hrv hyd;obtain⟨rb0,rc0,rfl,ln0⟩:=JfP hrv0 hxd;have hne:(x != y)=true:=by simp;omega
    have hne':¬x=y:=Fh;rw[hwr]at lr;rw[hwr0]at lr0;refine Ja2 1000 (by simp only[go_sem,simprocAttr,V1,V0,Hr,g0,g3,g5,hil,hpl,lr,lr0,hl1,hl0,hkw,hwm,ln,ln0,hne,hne',hxy,hwr,hwr0];rfl) ?_;exact out' _ _ _ ⟨(Fg g0),(Fg g3),Fb,rfl⟩ rfl
   ·have hk':k<d:=Fh;have hkl:k<r.length:=Fh;obtain⟨z,hz⟩:∃z,r[k]? = some z:=⟨_,FB hkl⟩;have hz0:r0[k]? = some z:=by rw[heq k hk',hz]
    obtain⟨rb,rc,rfl,ln⟩:=JfP hrv hz;obtain⟨rb0,rc0,rfl,ln0⟩:=JfP hrv0 hz0;have hne:(z != z)=false:=Fj;have hwk:IntKind.wrap .i64 (Int.ofNat k+1)=Int.ofNat (k+1):=Ja3 Fh;rw[hwr]at lr;rw[hwr0]at lr0;refine Fz (by simp only[go_sem,JaX,simprocAttr,V1,V0,g0,g3,g5,hil,hpl,lr,lr0,hl1,hl0,hkw,hwm,ln,ln0,hne,hwr,hwr0,hwk];rfl) ?_;exact ih' _ _ _ Fh ⟨k+1,(Fg g0),(Fg g3),Fb,rfl,by omega,rfl⟩
  ·rintro f w' ⟨g0,g3,g4,rfl⟩;refine Fz (by simp only[go_sem,JaX,simprocAttr,g3,g4,hwi];rfl) ?_;exact ih _ _ _ Fh ⟨p+1+1,(Fg g0),Fb,rfl,by omega,rfl⟩
 ·rintro f w rfl;refine JaY 1000 Fe ?_;refine JaZ ⟨_,by simp only[go_sem,JaX,simprocAttr,Y4];rfl,?_⟩;exact h
end
section
open Go.AE Delphi Val
variable {ts:List Tk}
theorem Jp1 (hg:TsGood ts):∀(args:List Tk),(∀c∈args,Jbd c=true)→∃y,(Jbo ts args).2=ts++y∧TsGood (Jbo ts args).2∧(∀n∈(Jbo ts args).1,1≤n∧n≤((Jbo ts args).2.length:Int))∧(Jbo ts args).1.map (Jbq (Jbo ts args).2)=args:=by
 intro args hm
 suffices h:∀k,k≤args.length→∃y,(Jbo ts (args.take k)).2=ts++y∧TsGood (Jbo ts (args.take k)).2∧(∀n∈(Jbo ts (args.take k)).1,1≤n∧n≤((Jbo ts (args.take k)).2.length:Int))∧(Jbo ts (args.take k)).1.map (Jbq (Jbo ts (args.take k)).2)=args.take k by
  have:=h args.length (FH _)
  rwa [List.take_length]at this
 intro k;induction k with
 | zero=>intro _;exact⟨[],by simp[Jbo],by simpa[Jbo]using hg,by simp[Jbo],by simp[Jbo]⟩
 | succ k ih =>
  intro hk;obtain⟨y,h1,h2,h3,h4⟩:=ih Fh;obtain⟨c,hc⟩:∃c,args[k]? = some c:=⟨_,FB Fh⟩;rw[Jbz hc,Jje];obtain⟨z,i1,i2,i3,i4⟩:=Jm4 (ts:=(Jbo ts (args.take k)).2) (hm c (FI hc));have hg2:=h2.id c;unfold Jf9;simp only;have hle:((Jbo ts (args.take k)).2.length:Int)≤((idT (Jbo ts (args.take k)).2 c).2.length:Int):=by rw[i1,FE];omega
  refine⟨y++z,by rw[i1,h1,F6],hg2,fun n hn=>?_,?_⟩
  ·rcases List.mem_append.1 hn with hn|hn
   ·have:=h3 n hn;exact⟨this.1,by omega⟩
   ·simp only[FJ,F3,or_false]at hn;subst hn;exact⟨by show (1:Int)≤((_:Nat):Int);omega,by show ((_:Nat):Int)≤_;omega⟩
  ·rw[List.map_append,Kv,Kw,i4]
   congr 1
   refine (List.map_congr_left fun n hn=>?_).trans h4;have:=h3 n hn;rw[i1];exact JdV this.1 this.2
structure LaidT (ts:List Tk) (M:Jd6) (l:List Fc):Prop where
 good:TsGood ts
 mem:∀nm args,fsT ts (Ja1 M nm) args↔(nm,args)∈l
 rng:∀nm x,Ja1 M nm=some x→∀r∈x.2,r.length=x.1∧∀n∈r,1≤n∧n≤(ts.length:Int)
variable {y:List Tk}
theorem Jrg {q:Option (Nat×List (List Int))}(hq:∀x,q=some x→∀r∈x.2,∀n∈r,1≤n∧n≤(ts.length:Int)){args:List Tk}:fsT (ts++y) q args↔fsT ts q args:=by
 unfold fsT
 have e:∀x,q=some x→∀r∈x.2,r.map (Jbq (ts++y))=r.map (Jbq ts):=fun x hx r hr=>List.map_congr_left fun n hn=>by
  have:=hq x hx r hr n hn;exact JdV this.1 this.2
 constructor
 ·rintro⟨x,r,h1,h2,h3⟩;exact⟨x,r,h1,h2,by rw[h3,e x h1 r h2]⟩
 ·rintro⟨x,r,h1,h2,h3⟩;exact⟨x,r,h1,h2,by rw[h3,e x h1 r h2]⟩
theorem LaidT.ext {M:Jd6}(h:LaidT ts M l)(hg:TsGood (ts++y)):LaidT (ts++y) M l:=
 ⟨hg,fun nm args=>by rw[Jrg fun x hx r hr n hn=>(h.rng nm x hx r hr).2 n hn];exact h.mem nm args,fun nm x hx r hr=>⟨(h.rng nm x hx r hr).1,fun n hn=>by
  have:=(h.rng nm x hx r hr).2 n hn;rw[FE];exact⟨this.1,by omega⟩⟩⟩
theorem JlG (hg:TsGood ts)(hl:FcsL l)(hm:JdW l):(∃y,(Jbu ts l).1=ts++y)∧LaidT (Jbu ts l).1 (Jbu ts l).2 l:=by
 suffices h:∀i,i≤l.length→(∃y,(Jbu ts (l.take i)).1=ts++y)∧LaidT (Jbu ts (l.take i)).1 (Jbu ts (l.take i)).2 (l.take i)by
  have:=h l.length (FH _)
  rwa [List.take_length]at this
 intro i;induction i with
 | zero=>intro _;exact⟨⟨[],by simp[Jbu]⟩,by simpa[Jbu]using hg,fun nm args=>by simp[Jbu,Ja1,fsT],fun nm x hx=>by simp[Jbu,Ja1]at hx⟩
 | succ i ih =>
  intro hi;obtain⟨⟨y,hy⟩,hT⟩:=ih Fh;obtain⟨fc,hfc⟩:∃fc,l[i]? = some fc:=⟨_,FB Fh⟩;have hfm:=FI hfc;obtain⟨hp,_⟩:LaidP (l.take i) (Jbu ts (l.take i)).2∧_:=JgE (ts:=ts) ⟨by rw[FU];have:=hl.len;omega,fun f hf=>hl.ok f (List.mem_of_mem_take hf),fun f hf g hg=>hl.ar f (List.mem_of_mem_take hf) g (List.mem_of_mem_take hg)⟩;rw[Jbz hfc,JhD];generalize Jbu ts (l.take i)=s at hy hT hp;obtain⟨ts1,M⟩:=s;simp only at hy hT hp;obtain⟨z,j1,j2,j3,j4⟩:=Jp1 hT.good fc.2 (hm fc hfm);have hx:=JlF M fc;have hrl:=(Jfb ts1 fc.2).1;unfold JfM;simp only
  have hold:∀r,r∈(Jc3 M fc).2↔∃x,Ja1 M fc.1=some x∧r∈x.2:=by
   intro r;unfold Jc3 JdF;cases hg:Ja1 M fc.1 with
   | none=>simp only;rw[Jbi];simp
   | some x=>simp only;rw[hg];simp
  have hwd:(Jc3 M fc).1=fc.2.length:=by
   unfold Jc3 JdF;cases hg:Ja1 M fc.1 with
   | none=>simp only;rw[Jbi];rfl
   | some x =>
    simp only;rw[hg];obtain⟨g,hgm,hgn,hga⟩:=hp.ar _ _ hg;show x.1=_;rw[hga];exact hl.ar g (List.mem_of_mem_take hgm) fc hfm hgn
  have hne:∀nm,nm≠fc.1→Ja1 (Jb5 (JdF M fc) fc.1 ((Jc3 M fc).1,JdX (Jc3 M fc).2 (Jbo ts1 fc.2).1)) nm=Ja1 M nm:=by
   intro nm h;rw[JbD _ _ _ _ h];unfold JdF;cases hg:Ja1 M fc.1 with
   | none=>simp only;rw[JbD _ _ _ _ h]
   | some x=>rfl
  have e1:∀nm x,Ja1 M nm=some x→∀r∈x.2,∀n∈r,1≤n∧n≤(ts1.length:Int):=fun nm x hx r hr=>(hT.rng nm x hx r hr).2;refine⟨⟨y++z,by rw[j1,hy,F6]⟩,j2,fun nm args=>?_,fun nm x hx' r hr=>?_⟩
  ·rw[Ka];by_cases he:nm=fc.1
   ·subst he;rw[Jbi]
    have:fsT (Jbo ts1 fc.2).2 (some ((Jc3 M fc).1,JdX (Jc3 M fc).2 (Jbo ts1 fc.2).1)) args↔(fsT ts1 (Ja1 M fc.1) args∨args=fc.2):=by
     constructor
     ·rintro⟨x,r,h1,h2,h3⟩;cases h1;rcases mem_addR.1 h2 with h2|rfl
      ·obtain⟨x,hx1,hx2⟩:=(hold r).1 h2;left;refine⟨x,r,hx1,hx2,?_⟩;rw[h3,j1];refine List.map_congr_left fun n hn=>?_;have:=e1 _ _ hx1 r hx2 n hn;exact JdV this.1 this.2
      ·exact .inr (h3.trans j4)
     ·rintro (⟨x,r,h1,h2,h3⟩|rfl)
      ·refine⟨_,r,rfl,mem_addR.2 (.inl ((hold r).2 ⟨x,h1,h2⟩)),?_⟩;rw[h3,j1];refine (List.map_congr_left fun n hn=>?_).symm;have:=e1 _ _ h1 r h2 n hn;exact JdV this.1 this.2
      ·exact⟨_,_,rfl,mem_addR.2 (.inr rfl),j4.symm⟩
    rw[this,hT.mem];simp only[FJ,F3,or_false];constructor
    ·rintro (h|rfl)
     ·exact .inl h
     ·exact .inr rfl
    ·rintro (h|h)
     ·exact .inl h
     ·exact .inr (congrArg Prod.snd h)
   ·rw[hne nm he,j1,Jrg (e1 nm),hT.mem];constructor
    ·exact .inl
    ·rintro (h|h)
     ·exact h
     ·simp only[FJ,F3,or_false]at h;exact absurd (congrArg Prod.fst h) he
  ·have hle:(ts1.length:Int)≤((Jbo ts1 fc.2).2.length:Int):=by rw[j1,FE];omega
   by_cases he:nm=fc.1
   ·subst he;rw[Jbi]at hx';cases hx';rcases mem_addR.1 hr with hr|rfl
    ·obtain⟨x,hx1,hx2⟩:=(hold r).1 hr;have:=hT.rng _ _ hx1 r hx2;refine⟨?_,fun n hn=>⟨(this.2 n hn).1,by have:=(this.2 n hn).2;omega⟩⟩;show r.length=(Jc3 M fc).1;rw[this.1,hwd];obtain⟨g,hgm,hgn,hga⟩:=hp.ar _ _ hx1;rw[hga];exact hl.ar g (List.mem_of_mem_take hgm) fc hfm hgn
    ·exact⟨by show _=(Jc3 M fc).1;rw[hwd,hrl],j3⟩
   ·rw[hne nm he]at hx';have:=hT.rng _ _ hx' r hr;exact⟨this.1,fun n hn=>⟨(this.2 n hn).1,by have:=(this.2 n hn).2;omega⟩⟩
variable {r:List Int}
theorem Jqh {rows:Fy}(h:rows.Nodup)(hn:r∉rows):(Rel.insR rows r).Nodup:=by
 unfold Rel.insR;have h1:(rows.take (Rel.posn rows r)++rows.drop (Rel.posn rows r)).Nodup:=by rw[List.take_append_drop];exact h
 rw[List.nodup_append]at h1;obtain⟨a1,a2,a3⟩:=h1;have n1:r∉rows.take (Rel.posn rows r):=fun hh=>hn (List.mem_of_mem_take hh);have n2:r∉rows.drop (Rel.posn rows r):=fun hh=>hn (List.mem_of_mem_drop hh);rw[F6,List.nodup_append];refine⟨a1,List.nodup_cons.2 ⟨n2,a2⟩,?_⟩;rintro a ha b hb rfl;rcases List.mem_cons.1 hb with rfl|hb
 ·exact n1 ha
 ·exact a3 a ha a hb rfl
theorem Jqg {rows:Fy}(h:rows.Nodup):(JdX rows r).Nodup:=by
 unfold JdX;split
 ·exact h
 ·rename_i hn;exact Jqh h hn
theorem Jjn {rec:Vm→JS→JS}(h:∀M s,s.rows.Nodup→(rec M s).rows.Nodup)(l:Lt)(M:Vm):∀(rows:Fy) (s:JS),s.rows.Nodup→(Jb3 rec l M rows s).rows.Nodup
 | [],s,hs=>hs
 | r::rows,s,hs=>by
  unfold Jb3;rw[Ku];refine Jjn h l M rows _ ?_;split
  ·exact h _ _ hs
  ·exact hs
theorem JfC (E:JE):∀(n k:Nat) (M:Vm) (s:JS),s.rows.Nodup→(Jce E n k M s).rows.Nodup
 | 0,k,M,s,h=>by
  unfold Jce;split
  ·exact h
  ·exact Jqg h
 | n+1,k,M,s,h=>by
  unfold Jce;split
  ·exact h
  ·unfold goJ;split
   ·exact Jjn (fun M s hs=>JfC E n (k+1) M s hs) _ _ _ _ h
   split
   ·split
    ·exact h
    ·exact JfC E n (k+1) _ _ h
   ·split
    ·exact JfC E n (k+1) _ _ h
    ·exact h
theorem Jh6 {ts:List Tk}(hg:TsGood ts):∀{rows:Fy},rows.Nodup→(∀r∈rows,∀n∈r,1≤n∧n≤(ts.length:Int))→(rows.map fun r=>r.map (Jbq ts)).Nodup
 | [],_,_=>by simp
 | r::rows,h,hr=>by
  obtain⟨h1,h2⟩:=List.nodup_cons.1 h;rw[Kv,List.nodup_cons];refine⟨fun hm=>?_,Jh6 hg h2 fun x hx=>hr x (FO _ hx)⟩;obtain⟨x,hx,he⟩:=List.mem_map.1 hm
  have:∀(a b:List Int),(∀n∈a,1≤n∧n≤(ts.length:Int))→(∀n∈b,1≤n∧n≤(ts.length:Int))→a.map (Jbq ts)=b.map (Jbq ts)→a=b:=by
   intro a;induction a with
   | nil=>intro b _ _ h;cases b with|nil=>rfl|cons _ _=>simp at h
   | cons n a ih =>
    intro b ha hb h;cases b with
    | nil=>simp at h
    | cons m b =>
     simp only[Kv,List.cons.injEq]at h;have hm:=hb m Fj;rw[JiL hg hm.1 hm.2 h.1,ih b (fun k hk=>ha k (FO _ hk)) (fun k hk=>hb k (FO _ hk)) h.2]
  rw[this x r (hr x (FO _ hx)) (hr r Fj) he]at hx;exact h1 hx
theorem Jru {s:List Nat}(h:Ji4 s):Jc5 s=true∧s.length≤16:=by
 obtain⟨c,t,rfl,h1,h2,h3⟩:=h
 have hall:∀(t:List Nat) (i:Nat),0<i→(∀x∈t,JbG x=true)→Jc4 i t=true:=by
  intro t;induction t with
  | nil=>intro i _ _;rfl
  | cons x t ih =>
   intro i hi h;unfold Jc4;rw[ih (i+1) Fh fun y hy=>h y (FO _ hy),Bool.and_true];have:=h x Fj;unfold JbG JdK Jbp at this;unfold okc;rw[decide_eq_true (show i≠0 by omega),Bool.true_and];exact this
 refine⟨?_,h3⟩;unfold Jc5 Jc4;rw[hall t 1 Fh fun x hx=>h2 x (FO _ hx),Bool.and_true]
 have e1:okc 0 c=true:=by
  unfold okc;unfold JdK at h1;rw[h1];rfl
 rw[e1,Bool.true_and,decide_eq_true h3,decide_eq_true (by simp:1≤(c::t).length)];rfl
theorem Jqf {c:Nat}(h:JbG c=true):c<256:=by
 unfold JbG JdK Jbp at h;simp only[Bool.or_eq_true,FT,decide_eq_true_eq]at h;omega
theorem Jr3 {t:Tm}(hw:TmW t)(hx:TmX Jc6 t)(hk:t.kind≠1):Jbd (Jbb t)=true∧TkOk (Jbb t):=by
 rcases hw with⟨h1,_⟩|⟨h1,h2⟩|⟨h1,h2,h3⟩
 ·exact absurd h1 hk
 ·have hn:=hx.2.1 h1;obtain⟨w1,w2⟩:=Jru hn;refine⟨?_,⟨by show t.name.length≤9223372036854775807;omega,fun c hc=>?_⟩⟩
  ·unfold Jbd Jbb;simp only[h1,h2,w1];rfl
  ·obtain⟨c0,t0,e,_,h5,_⟩:=hn;exact Jqf (h5 c hc)
 ·refine⟨?_,⟨by show t.name.length≤9223372036854775807;rw[h2];simp,fun c hc=>by have hc:c∈t.name:=hc;rw[h2]at hc;simp at hc⟩⟩;unfold Jbd Jbb;simp only[h1,h2];have a1 : -2147483648≤t.num:=Fh;have a2:t.num≤2147483648:=Fh;simp[a1,a2]
theorem JnF {r:Rl}(h:RG r):(∀t∈r.head.args,t.kind≠1→Jbd (Jbb t)=true∧TkOk (Jbb t))∧(∀l∈r.body,∀t∈l.args,t.kind≠1→Jbd (Jbb t)=true∧TkOk (Jbb t))∧(∀l∈r.body,l.kind≠1→l.kind≠2→3≤l.kind∧l.kind≤6∧l.args.length=2)∧RBr r∧r.head.args.length≤4:=by
 obtain⟨hx,hl⟩:=h;refine⟨fun t ht hk=>Jr3 (hx.w.ht t ht) (hx.tm t ht) hk,fun l hlm t ht hk=>Jr3 ((hx.bd l hlm).w.tm t ht) ((hx.bd l hlm).tm t ht) hk,fun l hlm h1 h2=>?_,⟨by have:=hl.hd;omega,by have:=hl.bd;omega,fun l hlm=>by have:l.args.length≤4:=hl.ls l hlm;omega⟩,hl.hd⟩;rcases (hx.bd l hlm).w.kind with h3|h3
 ·rcases h3 with h3|h3
  ·exact absurd h3 h1
  ·exact absurd h3 h2
 ·exact⟨h3.1,h3.2.1,h3.2.2.1⟩
end
end Go.Proofs.YtegdcbdicpfbpaaGreatDoor
