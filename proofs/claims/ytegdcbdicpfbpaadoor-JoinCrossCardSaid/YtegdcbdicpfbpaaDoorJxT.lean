/- A part of the proof. -/
import Derived.Test.YtegdcbdicpfbpaaDoorJxO
import Derived.Test.YtegdcbdicpfbpaaDoorJxS
import Derived.Test.YtegdcbdicpfbpaaDoorTie
import Derived.Test.YtegdcbdicpfbpaaDoorCards
import Derived.ProofKit
import Derived.LaidMore
import Derived.OpenShut
import Derived.Stop.Joined
import Derived.SevenTiedAt
import Derived.HandedShaped
set_option linter.unusedVariables false
namespace Go.Proofs.YtegdcbdicpfbpaaDoor.joinCross
open Go Go.ChangeShapes Go.WideShapes Go.ChangeAt Go.RowKit Go.AE
open Go.ChangeMaps (open_string)
theorem own:ownKnob Tryd.prog.godebug=none:=by kernel_rfl
theorem bytes (s:ByteArray):∀x∈H6 s,x<256:=by
 intro x hx;simp only[H6,Kc]at hx;obtain⟨b,_,rfl⟩:=hx;exact b.toNat_lt
theorem dum (W:World)(h:W.ShapedOpen Tryd.prog):∃cur ty lo hi,W.heap[0]? = some (.cells cur ty (lo,hi)):=by
 have h0:∃zt,(((begin Tryd.prog (fun _ _=>0) default).world).heap[0]?).bind Obj.row? = some zt:=Option.isSome_iff_exists.1 Fp;obtain⟨⟨z,ty⟩,hz⟩:=h0;obtain⟨cs,h1,_⟩:=h.1 0 z ty (by decide +kernel) hz;exact⟨cs,ty,_,_,h1⟩
theorem walk {H:Type}{enc:TypeId×Value→H}(W:World)(n0:Int)(n1:Int)(hg:Ij W)(hd:∃cur ty lo hi,W.heap[0]? = some (.cells cur ty (lo,hi))):Calls Tryd.prog 3 #[.int .i64 n0,.int .i64 n1] W fun e W'=>e = .returned (.bool true)∧Below W.heap.size W W':=by
 obtain⟨v,aw',h1,rfl,h2⟩:=Jib codesS JqP JrB (aw:=AW.start) (n:=n0) (m:=n1);refine ((JnR Jpn h1).2 W _ _ #[.int .i64 n0,.int .i64 n1] (R.start hg) ⟨_,_,rfl,rfl,_,_,rfl,rfl,rfl⟩).mono ?_;rintro e w' ⟨v',m',rfl,rfl,_,hb⟩;exact⟨rfl,hb.belowRo (fun b e x h hx=>JjN hx)⟩
theorem Jn5 (os:Os)(args:Array Value):laidMetH Tryd.prog Rows.joinCrossRow.laid ((World.doorLaid Tryd.prog 400 os).forCall (fun _ _=>0) ⟨#[],args,[]⟩).memory:=
 laidMetH_of_parts3 (fuel:=8) (laidMet_of_run' 8 Fp Fp) Fp Fp
set_option maxRecDepth 100000 in
theorem lifted (os:Os)(started:os.Started)(H:Type)(enc:TypeId×Value→H): ReturnsInHanded {} Tryd.checked os 3 .any (fun w args=>(Rows.joinCrossSpec.pre enc Tryd.prog Tryd.f3 [] false w args∧laidMetH Tryd.prog Rows.joinCrossRow.laid w)∧sizedMet enc Tryd.prog Tryd.f3 (OpenSpec.ofChange Rows.joinCrossSpec) false w args) (Rows.joinCrossSpec.post enc Tryd.prog Tryd.f3 false true false false):=by
 refine Jfg (C:=Tryd.checked) (X:=fun w _=>laidMetH Tryd.prog Rows.joinCrossRow.laid w) (fun _ _ _ hh h=>h.of_heap hh) own started Fp Tryd.func3
  (ChangeSpec.witness_shaped (enc:=enc) (C:=Tryd.checked) (os:=os) (X:=fun w _=>laidMetH Tryd.prog Rows.joinCrossRow.laid w) false (World.doorLaid Tryd.prog 400 os) #[.int .i64 1,.int .i64 1] 8 rfl (World.shaped_of_RefB Fp Fp) Fp Fp Fp (Jn5 os _)) ?_
 intro W base args ds gs before hval0 hW _ _ hL hsh _;have hval:∀(j:Nat) t v,Tryd.f3.params[j]? = some t→args[j]? = some v→Value.okWide Tryd.prog W .any base t v:=hval0;have hW':=hW;obtain⟨p,q,hA0,hV,rfl,hfz,hnd⟩:=hW;have hA:DataW.TrodAll enc Tryd.prog W 0 (fun _=>true) true Tryd.f3.params.toList args.toList ds p:=hA0;rw[Tryd.params3]at hA hval;obtain⟨v0,vs0,d0,ds0,p0,q0,hargs,rfl,rfl,h0,hA⟩:=trodAll_cons hA;obtain⟨v1,vs1,d1,ds1,p1,q1,rfl,rfl,rfl,h1,hA⟩:=trodAll_cons hA;obtain⟨rfl,rfl,rfl⟩:=trodAll_nil hA;obtain rfl:args = #[v0,v1]:=by cases args;simp_all
 clear hargs;obtain⟨rfl,rfl⟩:=trodVars_none hV;obtain⟨n0,rfl,rfl,rfl,hs0⟩:=open_int Tryd.underlying3 (hval 0 3 v0 rfl rfl) h0;obtain⟨n1,rfl,rfl,rfl,hs1⟩:=open_int Tryd.underlying3 (hval 1 3 v1 rfl rfl) h1;refine (walk (H:=H) (enc:=enc) W n0 n1 (Jlx hL (List.mem_filter.2 ⟨.tail _ (.tail _ (.head _)),rfl⟩)) (dum W hsh)).mono fun e W' ⟨he,hg⟩=>?_;subst he;exact⟨_,rfl,Jox (tb:=4) hW' Fp (by rw[Tryd.params3];decide +kernel) hg rfl rfl Tryd.underlying4 rfl rfl rfl⟩
theorem over:Rows.joinCrossRow.holds Tryd.pinned (OpenSpec.ofChange Rows.joinCrossSpec):=
 OpenClaim.holds_of_wide 3 Tryd.f3 rfl rfl rfl rfl rfl rfl rfl ⟨rfl,rfl,rfl,rfl,rfl⟩ rfl rfl rfl rfl rfl Fp Tryd.func3 Fp
  (of_decide_eq_true Fp) (by unfold Func.isWrapper;first|(rw[if_pos (by decide +kernel)];kernel_rfl)|(rw[if_neg (by decide +kernel)];exact⟨rfl,rfl⟩))
  (fun os started H enc _=>lifted os started H enc)
theorem proved:Rows.JoinCrossCardSaid:=
 Claim7.holds_tied_plain_at .later [] [.data,.data,.data] true (true, "8f1337235a945ed3769cf52a1e6762d44b910db9e377e7aa7912d3d72c61ad0b") true
  over (fun _ h=>by cases h) Fp (fun _ h=>by cases h) joinCross_row_tie rfl ⟨rfl,rfl⟩ Fp rfl
  (fun f fn hf hfn=>by
   obtain rfl:f=3:=FX ((show Tryd.prog.funcNamed "delphi/delphilaw13.JoinCross" = some 3 by kernel_rfl).symm.trans hf) |>.symm;obtain rfl:fn=Tryd.f3:=(FX (Tryd.func3.symm.trans hfn)).symm
   exact⟨by kernel_rfl,fun j t ht=>by
    rw[Tryd.params3]at ht;rcases j with _|_|j<;>simp at ht<;>subst ht<;>decide +kernel⟩)
  Fp
#print axioms proved
end Go.Proofs.YtegdcbdicpfbpaaDoor.joinCross
