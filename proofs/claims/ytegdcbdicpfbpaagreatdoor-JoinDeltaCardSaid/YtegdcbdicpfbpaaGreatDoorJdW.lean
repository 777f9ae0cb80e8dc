/- A part of the proof. -/
import Derived.Test.YtegdcbdicpfbpaaGreatDoorJdQ
import Derived.Test.YtegdcbdicpfbpaaGreatDoorJdU
import Derived.Test.YtegdcbdicpfbpaaGreatDoorJdV
import Derived.Test.YtegdcbdicpfbpaaGreatDoorTie
import Derived.Test.YtegdcbdicpfbpaaGreatDoorCards
import Derived.ProofKit
import Derived.LaidMore
import Derived.OpenShut
import Derived.Stop.Joined
import Derived.SevenTiedAt
import Derived.HandedShaped
set_option linter.unusedVariables false
namespace Go.Proofs.YtegdcbdicpfbpaaGreatDoor.joinDelta
open Go Go.ChangeShapes Go.WideShapes Go.ChangeAt Go.RowKit Go.AE
open Go.ChangeMaps (open_string)
theorem own:ownKnob Tryz.prog.godebug=none:=by kernel_rfl
theorem bytes (s:ByteArray):∀x∈LH s,x<256:=by
 intro x hx;simp only[LH,Ke]at hx;obtain⟨b,_,rfl⟩:=hx;exact b.toNat_lt
theorem dum (W:World)(h:W.ShapedOpen Tryz.prog):∃cur ty lo hi,W.heap[0]? = some (.cells cur ty (lo,hi)):=by
 have h0:∃zt,(((begin Tryz.prog (fun _ _=>0) default).world).heap[0]?).bind Obj.row? = some zt:=Option.isSome_iff_exists.1 Fp;obtain⟨⟨z,ty⟩,hz⟩:=h0;obtain⟨cs,h1,_⟩:=h.1 0 z ty (by decide +kernel) hz;exact⟨cs,ty,_,_,h1⟩
set_option maxRecDepth 100000 in
theorem EO {H:Type} {enc:TypeId×Value→H} {W:World} (hd:∃cur ty lo hi,W.heap[0]? = some (.cells cur ty (lo,hi))):Opens enc Tryz.prog W 22 (List FP) (DL DU) :=
 Ma Tryz.underlying22 (by kernel_rfl) (by decide +kernel) (EX Tryz.underlying52 rfl (by kernel_rfl) (Ca (k:=1) (Mk Tryz.underlying9 (by kernel_rfl)) (by kernel_rfl) rfl (Ca (k:=1) (Ma Tryz.underlying29 (by kernel_rfl) (by decide +kernel) (EX Tryz.underlying62 rfl (by kernel_rfl) (Ca (k:=1) (Mj Tryz.underlying3 (by kernel_rfl)) (by kernel_rfl) rfl (Ca (k:=1) (Mk Tryz.underlying9 (by kernel_rfl)) (by kernel_rfl) rfl (Ca (k:=1) (Mj Tryz.underlying2 (by kernel_rfl)) (by kernel_rfl) rfl Mt)))) hd) (by kernel_rfl) rfl Mt))) hd
set_option maxRecDepth 100000 in
theorem Jw3 {H:Type} {enc:TypeId×Value→H} {W:World} (hd:∃cur ty lo hi,W.heap[0]? = some (.cells cur ty (lo,hi))):Opens enc Tryz.prog W 22 (List FP) (DL DU) :=
 Ma Tryz.underlying22 (by kernel_rfl) (by decide +kernel) (EX Tryz.underlying52 rfl (by kernel_rfl) (Ca (k:=1) (Mk Tryz.underlying9 (by kernel_rfl)) (by kernel_rfl) rfl (Ca (k:=1) (Ma Tryz.underlying29 (by kernel_rfl) (by decide +kernel) (EX Tryz.underlying62 rfl (by kernel_rfl) (Ca (k:=1) (Mj Tryz.underlying3 (by kernel_rfl)) (by kernel_rfl) rfl (Ca (k:=1) (Mk Tryz.underlying9 (by kernel_rfl)) (by kernel_rfl) rfl (Ca (k:=1) (Mj Tryz.underlying2 (by kernel_rfl)) (by kernel_rfl) rfl Mt)))) hd) (by kernel_rfl) rfl Mt))) hd
theorem walk {H:Type} {enc:TypeId×Value→H} (W:World) (s0:ByteArray) (v1:Value) (v2:Value) (n3:Int) (hc1:v1.cells.toList=[v1]) {d1:DataW H} {p1:List MemPlace} (ht1:DataW.Trod enc Tryz.prog W 0 (fun _=>true) true 22 v1 d1 p1) (hc2:v2.cells.toList=[v2]) {d2:DataW H} {p2:List MemPlace} (ht2:DataW.Trod enc Tryz.prog W 0 (fun _=>true) true 22 v2 d2 p2) (hg:Ed W) (hd:∃cur ty lo hi,W.heap[0]? = some (.cells cur ty (lo,hi))):Calls Tryz.prog 4 #[.string s0,v1,v2,.int .i64 n3] W fun e W'=>e = .returned (.bool true)∧Below W.heap.size W W':=by
 obtain ⟨aw1,m1,l1,x1,hR1,hA1,hm1,hx1,hv1,hrel1⟩:=Jl9 (EO hd) hc1 ht1 (R.start hg) (fun b e x h hx=>Jom hx)
 obtain ⟨aw2,m2,l2,x2,hR2,hA2,hm2,hx2,hv2,hrel2⟩:=Jl9 (Jw3 hd) hc2 ht2 hR1 hA1
 obtain ⟨v,aw',h1,rfl,h2⟩:=Jmt codesS Jwc Jw1 (s:=LH s0) (facts:=l1.map fcP) (delta:=l2.map fcP) (fv0:=x1) (dv0:=x2) (a:=n3) (aw:=aw2) (bytes s0) (CW ((EO (enc:=enc) hd).ext hx2 hrel1)).1 (fun _ h=>h) (CW ((EO (enc:=enc) hd).ext hx2 hrel1)).2.1 (CW ((EO (enc:=enc) hd).ext hx2 hrel1)).2.2.1 (CW ((EO (enc:=enc) hd).ext hx2 hrel1)).2.2.2 (CW hrel2).1 (fun _ h=>h) (CW hrel2).2.1 (CW hrel2).2.2.1 (CW hrel2).2.2.2
 refine ((JsR Juy h1).2 W _ _ #[.string s0,v1,v2,.int .i64 n3] hR2 ⟨_,_,rfl,⟨s0,rfl,rfl⟩,_,_,rfl,(hv1.mono hm2),_,_,rfl,hv2,_,_,rfl,rfl,rfl⟩).mono ?_
 rintro e w' ⟨v',m',rfl,rfl,_,hb⟩
 exact ⟨rfl,hb.belowRo hA2⟩
theorem JsZ (os:Os)(args:Array Value):laidMetH Tryz.prog Rows.joinDeltaRow.laid ((World.doorLaid Tryz.prog 400 os).forCall (fun _ _=>0) ⟨#[],args,[]⟩).memory:=
 laidMetH_of_parts3 (fuel:=8) (laidMet_of_run' 8 Fp Fp) Fp Fp
set_option maxRecDepth 100000 in
theorem lifted (os:Os) (started:os.Started) (H:Type) (enc:TypeId×Value→H) :
  ReturnsInHanded {} Tryz.checked os 4 .any (fun w args=>(Rows.joinDeltaSpec.pre enc Tryz.prog Tryz.f4 [] false w args∧laidMetH Tryz.prog Rows.joinDeltaRow.laid w)∧sizedMet enc Tryz.prog Tryz.f4 (OpenSpec.ofChange Rows.joinDeltaSpec) false w args)
   (Rows.joinDeltaSpec.post enc Tryz.prog Tryz.f4 false true false false):=by
 refine Ji1 (C:=Tryz.checked) (X:=fun w _=>laidMetH Tryz.prog Rows.joinDeltaRow.laid w) (fun _ _ _ hh h=>h.of_heap hh) own started (by kernel_rfl) Tryz.func4
  (ChangeSpec.witness_shaped (enc:=enc) (C:=Tryz.checked) (os:=os) (X:=fun w _=>laidMetH Tryz.prog Rows.joinDeltaRow.laid w) false (World.doorLaid Tryz.prog 400 os) #[.string ⟨#[97]⟩,.slice none 0 0,.slice none 0 0,.int .i64 1] 8 rfl (World.shaped_of_RefB (by kernel_rfl) (by kernel_rfl)) (by kernel_rfl) (by kernel_rfl) (by kernel_rfl) (JsZ os _)) ?_
 intro W base args ds gs before hval0 hW _ _ hL hsh _
 have hval:∀(j:Nat) t v,Tryz.f4.params[j]? = some t→args[j]? = some v→Value.okWide Tryz.prog W .any base t v:=hval0
 have hW':=hW
 obtain ⟨p,q,hA0,hV,rfl,hfz,hnd⟩:=hW
 have hA:DataW.TrodAll enc Tryz.prog W 0 (fun _=>true) true Tryz.f4.params.toList args.toList ds p:=hA0
 rw [Tryz.params4] at hA hval
 obtain ⟨v0,vs0,d0,ds0,p0,q0,hargs,rfl,rfl,h0,hA⟩:=trodAll_cons hA
 obtain ⟨v1,vs1,d1,ds1,p1,q1,rfl,rfl,rfl,h1,hA⟩:=trodAll_cons hA
 obtain ⟨v2,vs2,d2,ds2,p2,q2,rfl,rfl,rfl,h2,hA⟩:=trodAll_cons hA
 obtain ⟨v3,vs3,d3,ds3,p3,q3,rfl,rfl,rfl,h3,hA⟩:=trodAll_cons hA
 obtain ⟨rfl,rfl,rfl⟩:=trodAll_nil hA
 obtain rfl:args = #[v0,v1,v2,v3]:=by cases args;simp_all
 clear hargs
 obtain ⟨rfl,rfl⟩:=trodVars_none hV
 obtain ⟨s0,rfl,rfl,rfl,hs0⟩:=open_string Tryz.underlying9 (hval 0 9 v0 rfl rfl) h0
 obtain ⟨a1,len1,cap1,rfl⟩:=okWide_slice Tryz.underlying22 (hval 1 22 v1 rfl rfl)
 obtain ⟨a2,len2,cap2,rfl⟩:=okWide_slice Tryz.underlying22 (hval 2 22 v2 rfl rfl)
 obtain ⟨n3,rfl,rfl,rfl,hs3⟩:=open_int Tryz.underlying3 (hval 3 3 v3 rfl rfl) h3
 refine (walk W s0 _ _ n3 rfl h1 rfl h2 (Jqm hL (List.mem_filter.2 ⟨.tail _ (.tail _ (.head _)),rfl⟩)) (dum W hsh)).mono fun e W' ⟨he,hg⟩=>?_
 subst he
 exact ⟨_,rfl,Jtv (tb:=4) hW' (by kernel_rfl) (by rw [Tryz.params4];decide +kernel) hg rfl rfl Tryz.underlying4 rfl rfl rfl⟩
theorem over:Rows.joinDeltaRow.holds Tryz.pinned (OpenSpec.ofChange Rows.joinDeltaSpec):=
 OpenClaim.holds_of_wide 4 Tryz.f4 rfl rfl rfl rfl rfl rfl rfl ⟨rfl,rfl,rfl,rfl,rfl⟩ rfl rfl rfl rfl rfl Fp Tryz.func4 Fp
  (of_decide_eq_true Fp) (by unfold Func.isWrapper;first|(rw[if_pos (by decide +kernel)];kernel_rfl)|(rw[if_neg (by decide +kernel)];exact⟨rfl,rfl⟩))
  (fun os started H enc _=>lifted os started H enc)
theorem proved:Rows.JoinDeltaCardSaid:=
 Claim7.holds_tied_plain_at .later [] [.data,.data,.data] true (true, "3762a6fc36db121969d3ef59877ea1c21e174ff143d0f8cd60f2d24b9df40337") true
  over (fun _ h=>by cases h) Fp (fun _ h=>by cases h) joinDelta_row_tie rfl ⟨rfl,rfl⟩ Fp rfl
  (fun f fn hf hfn=>by
   obtain rfl:f=4:=FY ((show Tryz.prog.funcNamed "delphi/delphilaw13.JoinDelta" = some 4 by kernel_rfl).symm.trans hf) |>.symm;obtain rfl:fn=Tryz.f4:=(FY (Tryz.func4.symm.trans hfn)).symm
   exact⟨by kernel_rfl,fun j t ht=>by
    rw[Tryz.params4]at ht;rcases j with _|_|_|_|j<;>simp at ht<;>subst ht<;>decide +kernel⟩)
  Fp
#print axioms proved
end Go.Proofs.YtegdcbdicpfbpaaGreatDoor.joinDelta
