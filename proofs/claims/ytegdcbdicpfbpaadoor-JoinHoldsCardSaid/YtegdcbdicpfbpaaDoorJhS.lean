/- A part of the proof. -/
import Derived.Test.YtegdcbdicpfbpaaDoorJhO
import Derived.Test.YtegdcbdicpfbpaaDoorJhR
import Derived.Test.YtegdcbdicpfbpaaDoorTie
import Derived.Test.YtegdcbdicpfbpaaDoorCards
import Derived.ProofKit
import Derived.LaidMore
import Derived.OpenShut
import Derived.Stop.Joined
import Derived.SevenTiedAt
import Derived.HandedShaped
set_option linter.unusedVariables false
namespace Go.Proofs.YtegdcbdicpfbpaaDoor.joinHolds
open Go Go.ChangeShapes Go.WideShapes Go.ChangeAt Go.RowKit Go.AE
open Go.ChangeMaps (open_string)
theorem own:ownKnob Tryd.prog.godebug=none:=by kernel_rfl
theorem bytes (s:ByteArray):∀x∈Pf s,x<256:=by
 intro x hx;simp only[Pf,Kc]at hx;obtain⟨b,_,rfl⟩:=hx;exact b.toNat_lt
theorem dum (W:World)(h:W.ShapedOpen Tryd.prog):∃cur ty lo hi,W.heap[0]? = some (.cells cur ty (lo,hi)):=by
 have h0:∃zt,(((begin Tryd.prog (fun _ _=>0) default).world).heap[0]?).bind Obj.row? = some zt:=Option.isSome_iff_exists.1 Fp;obtain⟨⟨z,ty⟩,hz⟩:=h0;obtain⟨cs,h1,_⟩:=h.1 0 z ty (by decide +kernel) hz;exact⟨cs,ty,_,_,h1⟩
theorem Jeg {H:Type}{enc:TypeId×Value→H}{W:World}{arr:Array Value}{d:DataW H}{p:List MemPlace}(ht:DataW.Trod enc Tryd.prog W 0 (fun _=>true) true 25 (.agg arr) d p){aw:AW}{m:Map}(hR:R aw W m W.heap.size)(hA:JeW aw m): ∃aw' m' t,R aw' W m' W.heap.size∧JeW aw' m'∧m.le m'∧VR m' (.agg (Val.tkC t)) (.agg arr)∧Val.TkOk t:=by
 obtain⟨fuel,hf⟩:=ht;have op:=Jit (enc:=enc) (w:=W) (P:=Tryd.prog) Tryd.underlying25 rfl Fp (Jdn (k:=1) (Jg3 Tryd.underlying3 Fp) Fp rfl (Jdn (k:=1) (Jl6 Tryd.underlying9 Fp) Fp rfl (Jdn (k:=1) (Jg3 Tryd.underlying2 Fp) Fp rfl JkU)));obtain⟨aw',m',a,xs,h1,h2,h3,h4,h5,h6⟩:=op.go hf hR hA;obtain⟨x1,x2,rfl,⟨rfl,_⟩,x3,x4,rfl,⟨rfl,hb,hl⟩,x5,x6,rfl,⟨rfl,_⟩,rfl⟩:=h6;exact⟨aw',m',⟨a.1,a.2.1,a.2.2.1⟩,h1,h2,h3,⟨arr,rfl,h5⟩,⟨Kj hl (by decide),hb⟩⟩
theorem walk {H:Type}{enc:TypeId×Value→H}(W:World)(n0:Int)(a1:Array Value)(a2:Array Value)(a3:Array Value)(a4:Array Value)(b5:Bool)(b6:Bool)(b7:Bool){d1:DataW H}{p1:List MemPlace}(ht1:DataW.Trod enc Tryd.prog W 0 (fun _=>true) true 25 (.agg a1) d1 p1){d2:DataW H}{p2:List MemPlace}(ht2:DataW.Trod enc Tryd.prog W 0 (fun _=>true) true 25 (.agg a2) d2 p2){d3:DataW H}{p3:List MemPlace}(ht3:DataW.Trod enc Tryd.prog W 0 (fun _=>true) true 25 (.agg a3) d3 p3){d4:DataW H}{p4:List MemPlace}(ht4:DataW.Trod enc Tryd.prog W 0 (fun _=>true) true 25 (.agg a4) d4 p4)(hg:JcV W)(hd:∃cur ty lo hi,W.heap[0]? = some (.cells cur ty (lo,hi))):Calls Tryd.prog 4 #[.int .i64 n0,.agg a1,.agg a2,.agg a3,.agg a4,.bool b5,.bool b6,.bool b7] W fun e W'=>e = .returned (.bool true)∧Below W.heap.size W W':=by
 obtain⟨aw1,m1,t1,hR1,hA1,hm1,hv1,ok1⟩:=Jeg ht1 (R.start hg) (fun b e x h hx=>JiS hx);obtain⟨aw2,m2,t2,hR2,hA2,hm2,hv2,ok2⟩:=Jeg ht2 hR1 hA1;obtain⟨aw3,m3,t3,hR3,hA3,hm3,hv3,ok3⟩:=Jeg ht3 hR2 hA2;obtain⟨aw4,m4,t4,hR4,hA4,hm4,hv4,ok4⟩:=Jeg ht4 hR3 hA3;obtain⟨v,aw',h1,rfl,h2⟩:=Jhg codesS Jpw Jqi (aw:=aw4) (k:=n0) (va:=b5) (vb:=b6) (known:=b7) ok1 ok2 ok3 ok4;refine ((JmX Joe h1).2 W _ _ #[.int .i64 n0,.agg a1,.agg a2,.agg a3,.agg a4,.bool b5,.bool b6,.bool b7] hR4 ⟨_,_,rfl,rfl,_,_,rfl,(((hv1.mono hm2).mono hm3).mono hm4),_,_,rfl,((hv2.mono hm3).mono hm4),_,_,rfl,(hv3.mono hm4),_,_,rfl,hv4,_,_,rfl,rfl,_,_,rfl,rfl,_,_,rfl,rfl,rfl⟩).mono ?_;rintro e w' ⟨v',m',rfl,rfl,_,hb⟩;exact⟨rfl,hb.belowRo hA4⟩
theorem Jm7 (os:Os)(args:Array Value):laidMetH Tryd.prog Rows.joinHoldsRow.laid ((World.doorLaid Tryd.prog 400 os).forCall (fun _ _=>0) ⟨#[],args,[]⟩).memory:=
 laidMetH_of_parts3 (fuel:=8) (laidMet_of_run' 8 Fp Fp) Fp Fp
set_option maxRecDepth 100000 in
theorem lifted (os:Os)(started:os.Started)(H:Type)(enc:TypeId×Value→H): ReturnsInHanded {} Tryd.checked os 4 .any (fun w args=>(Rows.joinHoldsSpec.pre enc Tryd.prog Tryd.f4 [] false w args∧laidMetH Tryd.prog Rows.joinHoldsRow.laid w)∧sizedMet enc Tryd.prog Tryd.f4 (OpenSpec.ofChange Rows.joinHoldsSpec) false w args) (Rows.joinHoldsSpec.post enc Tryd.prog Tryd.f4 false true false false):=by
 refine JeP (C:=Tryd.checked) (X:=fun w _=>laidMetH Tryd.prog Rows.joinHoldsRow.laid w) (fun _ _ _ hh h=>h.of_heap hh) own started Fp Tryd.func4
  (ChangeSpec.witness_shaped (enc:=enc) (C:=Tryd.checked) (os:=os) (X:=fun w _=>laidMetH Tryd.prog Rows.joinHoldsRow.laid w) false (World.doorLaid Tryd.prog 400 os) #[.int .i64 1,.agg #[.int .i64 0,.string ⟨#[]⟩,.int .i64 0],.agg #[.int .i64 0,.string ⟨#[]⟩,.int .i64 0],.agg #[.int .i64 0,.string ⟨#[]⟩,.int .i64 0],.agg #[.int .i64 0,.string ⟨#[]⟩,.int .i64 0],.bool true,.bool true,.bool true] 8 rfl (World.shaped_of_RefB Fp Fp) Fp Fp Fp (Jm7 os _)) ?_
 intro W base args ds gs before hval0 hW _ _ hL hsh _;have hval:∀(j:Nat) t v,Tryd.f4.params[j]? = some t→args[j]? = some v→Value.okWide Tryd.prog W .any base t v:=hval0;have hW':=hW;obtain⟨p,q,hA0,hV,rfl,hfz,hnd⟩:=hW;have hA:DataW.TrodAll enc Tryd.prog W 0 (fun _=>true) true Tryd.f4.params.toList args.toList ds p:=hA0;rw[Tryd.params4]at hA hval;obtain⟨v0,vs0,d0,ds0,p0,q0,hargs,rfl,rfl,h0,hA⟩:=trodAll_cons hA;obtain⟨v1,vs1,d1,ds1,p1,q1,rfl,rfl,rfl,h1,hA⟩:=trodAll_cons hA;obtain⟨v2,vs2,d2,ds2,p2,q2,rfl,rfl,rfl,h2,hA⟩:=trodAll_cons hA;obtain⟨v3,vs3,d3,ds3,p3,q3,rfl,rfl,rfl,h3,hA⟩:=trodAll_cons hA;obtain⟨v4,vs4,d4,ds4,p4,q4,rfl,rfl,rfl,h4,hA⟩:=trodAll_cons hA;obtain⟨v5,vs5,d5,ds5,p5,q5,rfl,rfl,rfl,h5,hA⟩:=trodAll_cons hA;obtain⟨v6,vs6,d6,ds6,p6,q6,rfl,rfl,rfl,h6,hA⟩:=trodAll_cons hA;obtain⟨v7,vs7,d7,ds7,p7,q7,rfl,rfl,rfl,h7,hA⟩:=trodAll_cons hA;obtain⟨rfl,rfl,rfl⟩:=trodAll_nil hA;obtain rfl:args = #[v0,v1,v2,v3,v4,v5,v6,v7]:=by cases args;simp_all
 clear hargs;obtain⟨rfl,rfl⟩:=trodVars_none hV;obtain⟨n0,rfl,rfl,rfl,hs0⟩:=open_int Tryd.underlying3 (hval 0 3 v0 rfl rfl) h0;obtain⟨a1,rfl,_⟩:=okWide_struct Tryd.underlying25 (hval 1 25 v1 rfl rfl);obtain⟨a2,rfl,_⟩:=okWide_struct Tryd.underlying25 (hval 2 25 v2 rfl rfl);obtain⟨a3,rfl,_⟩:=okWide_struct Tryd.underlying25 (hval 3 25 v3 rfl rfl);obtain⟨a4,rfl,_⟩:=okWide_struct Tryd.underlying25 (hval 4 25 v4 rfl rfl);obtain⟨b5,rfl⟩:=okWide_bool Tryd.underlying4 (hval 5 4 v5 rfl rfl);obtain⟨b6,rfl⟩:=okWide_bool Tryd.underlying4 (hval 6 4 v6 rfl rfl);obtain⟨b7,rfl⟩:=okWide_bool Tryd.underlying4 (hval 7 4 v7 rfl rfl);refine (walk W n0 a1 a2 a3 a4 b5 b6 b7 h1 h2 h3 h4 (JkC hL (List.mem_filter.2 ⟨.tail _ (.tail _ (.head _)),rfl⟩)) (dum W hsh)).mono fun e W' ⟨he,hg⟩=>?_;subst he;exact⟨_,rfl,Jnt (tb:=4) hW' Fp (by rw[Tryd.params4];decide +kernel) hg rfl rfl Tryd.underlying4 rfl rfl rfl⟩
theorem over:Rows.joinHoldsRow.holds Tryd.pinned (OpenSpec.ofChange Rows.joinHoldsSpec):=
 OpenClaim.holds_of_wide 4 Tryd.f4 rfl rfl rfl rfl rfl rfl rfl ⟨rfl,rfl,rfl,rfl,rfl⟩ rfl rfl rfl rfl rfl Fp Tryd.func4 Fp
  (of_decide_eq_true Fp) (by unfold Func.isWrapper;first|(rw[if_pos (by decide +kernel)];kernel_rfl)|(rw[if_neg (by decide +kernel)];exact⟨rfl,rfl⟩))
  (fun os started H enc _=>lifted os started H enc)
theorem proved:Rows.JoinHoldsCardSaid:=
 Claim7.holds_tied_plain_at .later [] [.data,.data,.data] true (true, "8f1337235a945ed3769cf52a1e6762d44b910db9e377e7aa7912d3d72c61ad0b") true
  over (fun _ h=>by cases h) Fp (fun _ h=>by cases h) joinHolds_row_tie rfl ⟨rfl,rfl⟩ Fp rfl
  (fun f fn hf hfn=>by
   obtain rfl:f=4:=FX ((show Tryd.prog.funcNamed "delphi/delphilaw13.JoinHolds" = some 4 by kernel_rfl).symm.trans hf) |>.symm;obtain rfl:fn=Tryd.f4:=(FX (Tryd.func4.symm.trans hfn)).symm
   exact⟨by kernel_rfl,fun j t ht=>by
    rw[Tryd.params4]at ht;rcases j with _|_|_|_|_|_|_|_|j<;>simp at ht<;>subst ht<;>decide +kernel⟩)
  Fp
#print axioms proved
end Go.Proofs.YtegdcbdicpfbpaaDoor.joinHolds
