/- The seat's table: what functions do; begun laws. -/
import Derived.Test.YtjidefnbancmfaaLC
import Derived.Test.YtjidefnbancmfaaAgW
import Derived.Test.YtjidefnbancmfaaIns3
set_option linter.unusedVariables false
namespace Go.Proofs.Ytjidefnbancmfaa
open Go.AE
def baseT (P : Program) : XTab where
  code := (XTab.of P).code
  prim f args aw := match f with
    | 54 => insPrim 24 args aw
    | _ => none
  ext f args aw := match f with
    | 96 => extIdx args
    | _ => none
theorem base_ok : TabOK Try.prog (baseT Try.prog).tab where
  mixed := by kernel_rfl
  code := (XTab.of_ok (P := Try.prog) (by kernel_rfl)).code
  prim f args aw v aw' h := by
    simp only [XTab.tab, baseT] at h
    split at h
    · refine ⟨⟨_, Try.func54, by kernel_rfl, by decide +kernel⟩, fun w m base args' hR hargs => ?_⟩
      exact insPrim_ok (te := 78) (zero := Value.slice none 0 0) (fun b off n c i vb voff m vc cs vs w => ins_shift b off n c i vb voff m vc cs vs w) (fun b off n c i vb voff m vc cs vs w => ins_grow b off n c i vb voff m vc cs vs w) rfl h w m base args' hR hargs
    · cases h
  ext f args aw v h w m base args' hR hargs := by
    simp only [XTab.tab, baseT] at h
    split at h
    · exact extIdx_ok Try.func96 (by kernel_rfl) (by kernel_rfl) (by kernel_rfl) (by kernel_rfl) h w m args' hargs
    · cases h
/-- a closed run, told of any state. -/
theorem begun_good {f : Nat} (hf : ∃ fn, Try.prog.funcs[f]? = some fn ∧ fn.body.isSome = true ∧ fn.name ≠ "runtime.NumGoroutine") (h : isTrue (xCall (baseT Try.prog) (xRunK (baseT Try.prog) 100000) f [] AW.empty) = true) (aw : AW) : GoodC Try.prog f [] aw (.bool true) aw := by
  refine ⟨hf, fun w m base args' hR hargs => ?_⟩
  have hz : args' = #[] := by cases args'; cases hargs; rfl
  subst hz
  refine (closed_ok base_ok (runK_true h) w).mono ?_
  rintro e w' ⟨rfl, hb⟩
  obtain ⟨h1, h2⟩ := hR.below hb
  exact ⟨.bool true, m, rfl, rfl, h1, h2⟩
def tabW (P : Program) (L : List Nat) : Tab where
  code := (XTab.of P).code
  prim f args aw v aw' := (baseT P).tab.prim f args aw v aw' ∨ (f ∈ L ∧ args = [] ∧ v = .bool true ∧ aw' = aw)
  ext := (baseT P).tab.ext
theorem tabW_ok {L : List Nat} (hL : ∀ f ∈ L, ∀ aw, GoodC Try.prog f [] aw (.bool true) aw) : TabOK Try.prog (tabW Try.prog L) where
  mixed := base_ok.mixed
  code := base_ok.code
  prim f args aw v aw' h := by
    rcases h with h | ⟨h1, rfl, rfl, rfl⟩
    · exact base_ok.prim f args aw v aw' h
    · exact hL f h1 _
  ext := base_ok.ext
theorem codesW (L : List Nat) : Codes (tabW Try.prog L) := codesOf rfl
theorem extW (L : List Nat) : ∀ (s : List Nat) (c : Nat) (aw : AW), c < 256 → (tabW Try.prog L).ext 96 [.str s, .int .u8 (Int.ofNat c)] aw (idxV (idxN s c)) := by
  intro s c aw hc
  show extIdx [.str s, .int .u8 (Int.ofNat c)] = some _
  simp only [extIdx]
  have : Nat.blt c 256 = true := Nat.blt_eq.mpr hc
  rw [this]
end Go.Proofs.Ytjidefnbancmfaa
