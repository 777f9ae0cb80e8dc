/- A part of the proof. -/
import Derived.Test.YtegdcbdicpfbpaaGreatDoorJrQ
import Derived.Test.YtegdcbdicpfbpaaGreatDoorJrV
import Derived.Test.YtegdcbdicpfbpaaGreatDoorTie
import Derived.Test.YtegdcbdicpfbpaaGreatDoorCards
import Derived.ProofKit
import Derived.LaidMore
import Derived.OpenShut
import Derived.Stop.Joined
import Derived.SevenTiedAt
import Derived.HandedShaped
set_option linter.unusedVariables false
namespace Go.Proofs.YtegdcbdicpfbpaaGreatDoor.joinRule
open Go Go.ChangeShapes Go.WideShapes Go.ChangeAt Go.RowKit Go.AE
open Go.ChangeMaps (open_string)
theorem own:ownKnob Tryz.prog.godebug=none:=by kernel_rfl
theorem bytes (s:ByteArray):∀x∈JbB s,x<256:=by
 intro x hx;simp only[JbB,Ke]at hx;obtain⟨b,_,rfl⟩:=hx;exact b.toNat_lt
theorem dum (W:World)(h:W.ShapedOpen Tryz.prog):∃cur ty lo hi,W.heap[0]? = some (.cells cur ty (lo,hi)):=by
 have h0:∃zt,(((begin Tryz.prog (fun _ _=>0) default).world).heap[0]?).bind Obj.row? = some zt:=Option.isSome_iff_exists.1 Fp;obtain⟨⟨z,ty⟩,hz⟩:=h0;obtain⟨cs,h1,_⟩:=h.1 0 z ty (by decide +kernel) hz;exact⟨cs,ty,_,_,h1⟩
set_option maxRecDepth 100000 in
theorem JwB {H:Type}{enc:TypeId×Value→H}{W:World}(hd:∃cur ty lo hi,W.heap[0]? = some (.cells cur ty (lo,hi))):Opens enc Tryz.prog W 22 (List FP) (JgW JiQ):=
 Jjm Tryz.underlying22 Fp (by decide +kernel) (JiA Tryz.underlying52 rfl Fp (JeK (k:=1) (JlN Tryz.underlying9 Fp) Fp rfl (JeK (k:=1) (Jjm Tryz.underlying29 Fp (by decide +kernel) (JiA Tryz.underlying62 rfl Fp (JeK (k:=1) (JlM Tryz.underlying3 Fp) Fp rfl (JeK (k:=1) (JlN Tryz.underlying9 Fp) Fp rfl (JeK (k:=1) (JlM Tryz.underlying2 Fp) Fp rfl JkK)))) hd) Fp rfl JkK))) hd
theorem walk {H:Type}{enc:TypeId×Value→H}(W:World)(s0:ByteArray)(v1:Value)(hc1:v1.cells.toList=[v1]){d1:DataW H}{p1:List MemPlace}(ht1:DataW.Trod enc Tryz.prog W 0 (fun _=>true) true 22 v1 d1 p1)(hg:Jgj W)(hd:∃cur ty lo hi,W.heap[0]? = some (.cells cur ty (lo,hi))):Calls Tryz.prog 3 #[.string s0,v1] W fun e W'=>e = .returned (.bool true)∧Below W.heap.size W W':=by
 obtain⟨aw1,m1,l1,x1,hR1,hA1,hm1,hx1,hv1,hrel1⟩:=Jry (JwB hd) hc1 ht1 (R.start hg) (fun b e x h hx=>JnX hx);obtain⟨v,aw',h1,rfl,h2⟩:=Jnd codesS JvL Jwz (s:=JbB s0) (facts:=l1.map fcP) (fv0:=x1) (aw:=aw1) (bytes s0) (Jhw hrel1).1 (fun _ h=>h) (Jhw hrel1).2.1 (Jhw hrel1).2.2.1 (Jhw hrel1).2.2.2;refine ((Jsv Jub h1).2 W _ _ #[.string s0,v1] hR1 ⟨_,_,rfl,⟨s0,rfl,rfl⟩,_,_,rfl,hv1,rfl⟩).mono ?_;rintro e w' ⟨v',m',rfl,rfl,_,hb⟩;exact⟨rfl,hb.belowRo hA1⟩
theorem JsE (os:Os)(args:Array Value):laidMetH Tryz.prog Rows.joinRuleRow.laid ((World.doorLaid Tryz.prog 400 os).forCall (fun _ _=>0) ⟨#[],args,[]⟩).memory:=
 laidMetH_of_parts3 (fuel:=8) (laidMet_of_run' 8 Fp Fp) Fp Fp
set_option maxRecDepth 100000 in
theorem lifted (os:Os)(started:os.Started)(H:Type)(enc:TypeId×Value→H): ReturnsInHanded {} Tryz.checked os 3 .any (fun w args=>(Rows.joinRuleSpec.pre enc Tryz.prog Tryz.f3 [] false w args∧laidMetH Tryz.prog Rows.joinRuleRow.laid w)∧sizedMet enc Tryz.prog Tryz.f3 (OpenSpec.ofChange Rows.joinRuleSpec) false w args) (Rows.joinRuleSpec.post enc Tryz.prog Tryz.f3 false true false false):=by
 refine JiE (C:=Tryz.checked) (X:=fun w _=>laidMetH Tryz.prog Rows.joinRuleRow.laid w) (fun _ _ _ hh h=>h.of_heap hh) own started Fp Tryz.func3
  (ChangeSpec.witness_shaped (enc:=enc) (C:=Tryz.checked) (os:=os) (X:=fun w _=>laidMetH Tryz.prog Rows.joinRuleRow.laid w) false (World.doorLaid Tryz.prog 400 os) #[.string ⟨#[97]⟩,.slice none 0 0] 8 rfl (World.shaped_of_RefB Fp Fp) Fp Fp Fp (JsE os _)) ?_
 intro W base args ds gs before hval0 hW _ _ hL hsh _;have hval:∀(j:Nat) t v,Tryz.f3.params[j]? = some t→args[j]? = some v→Value.okWide Tryz.prog W .any base t v:=hval0;have hW':=hW;obtain⟨p,q,hA0,hV,rfl,hfz,hnd⟩:=hW;have hA:DataW.TrodAll enc Tryz.prog W 0 (fun _=>true) true Tryz.f3.params.toList args.toList ds p:=hA0;rw[Tryz.params3]at hA hval;obtain⟨v0,v1,d0,d1,p0,p1,rfl,rfl,rfl,h0,h1⟩:=trodAll_two hA;obtain⟨rfl,rfl⟩:=trodVars_none hV;obtain⟨s0,rfl,rfl,rfl,hs0⟩:=open_string Tryz.underlying9 (hval 0 9 v0 rfl rfl) h0;obtain⟨a1,len1,cap1,rfl⟩:=okWide_slice Tryz.underlying22 (hval 1 22 v1 rfl rfl);refine (walk W s0 _ rfl h1 (JpX hL (List.mem_filter.2 ⟨.tail _ (.tail _ (.head _)),rfl⟩)) (dum W hsh)).mono fun e W' ⟨he,hg⟩=>?_;subst he;exact⟨_,rfl,Js9 (tb:=4) hW' Fp (by rw[Tryz.params3];decide +kernel) hg rfl rfl Tryz.underlying4 rfl rfl rfl⟩
theorem over:Rows.joinRuleRow.holds Tryz.pinned (OpenSpec.ofChange Rows.joinRuleSpec):=
 OpenClaim.holds_of_wide 3 Tryz.f3 rfl rfl rfl rfl rfl rfl rfl ⟨rfl,rfl,rfl,rfl,rfl⟩ rfl rfl rfl rfl rfl Fp Tryz.func3 Fp
  (of_decide_eq_true Fp) (by unfold Func.isWrapper;first|(rw[if_pos (by decide +kernel)];kernel_rfl)|(rw[if_neg (by decide +kernel)];exact⟨rfl,rfl⟩))
  (fun os started H enc _=>lifted os started H enc)
theorem proved:Rows.JoinRuleCardSaid:=
 Claim7.holds_tied_plain_at .later [] [.data,.data,.data] true (true, "3762a6fc36db121969d3ef59877ea1c21e174ff143d0f8cd60f2d24b9df40337") true
  over (fun _ h=>by cases h) Fp (fun _ h=>by cases h) joinRule_row_tie rfl ⟨rfl,rfl⟩ Fp rfl
  (fun f fn hf hfn=>by
   obtain rfl:f=3:=FY ((show Tryz.prog.funcNamed "delphi/delphilaw13.JoinRule" = some 3 by kernel_rfl).symm.trans hf) |>.symm;obtain rfl:fn=Tryz.f3:=(FY (Tryz.func3.symm.trans hfn)).symm
   exact⟨by kernel_rfl,fun j t ht=>by
    rw[Tryz.params3]at ht;rcases j with _|_|j<;>simp at ht<;>subst ht<;>decide +kernel⟩)
  Fp
#print axioms proved
end Go.Proofs.YtegdcbdicpfbpaaGreatDoor.joinRule
