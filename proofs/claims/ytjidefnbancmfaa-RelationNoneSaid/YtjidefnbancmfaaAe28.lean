/- AE, part 28: what a closed run of the abstract steps says of the model. -/
import Derived.Test.YtjidefnbancmfaaAe27
import Derived.Below
set_option linter.unusedVariables false
set_option linter.unusedSimpArgs false
open Go.RowKit
namespace Go.AE

def isTrue : Option (V × AW) → Bool
  | some (.bool true, _) => true
  | _ => false
theorem R.empty (w : World) : R AW.empty w (fun _ => none) w.heap.size where
  famlt b e l f h := by cases h
  size := Nat.le_refl _
  lt b e h := by cases h
  base b e h := by cases h
  blk b e x h := by cases h
  apart b e x b' e' x' h := by cases h
  fam f F h := by simp [AW.empty, T.get] at h
/-- a world with new blocks alone. -/
theorem Goes.below {aw aw' : AW} {w w' : World} {m m' : Map} (h : Goes aw aw' w w' m m') (hm : ∀ b, m b = Option.none) : Below w.heap.size w w' :=
  ⟨h.os, h.tape, h.output, h.size, fun k hk => h.frame k hk fun b e x hb => by rw [hm] at hb; cases hb⟩
theorem closed_ok {P : Program} {x : XTab} (T : TabOK P x.tab) {n f : Nat} (h : isTrue (xCall x (xRun x n) f [] AW.empty) = true) (w : World) :
    Calls P f #[] w fun e w' => e = .returned (.bool true) ∧ Below w.heap.size w w' := by
  unfold isTrue at h
  split at h
  · rename_i aw' hr
    refine ((callR_ok T (run_ok hr)).2 w _ _ #[] (R.empty w) rfl).mono ?_
    rintro e w' ⟨v', m', rfl, rfl, _, hg⟩
    exact ⟨rfl, hg.below fun _ => rfl⟩
  · cases h
/-- the program's own functions. -/
def XTab.of (P : Program) : XTab where
  code f := match P.funcs[f]? with
    | some fn => cFun P fn
    | none => none
  prim _ _ _ := none
  ext _ _ _ := none
theorem XTab.of_ok {P : Program} (hm : P.follows .mixedOrders = true) : TabOK P (XTab.of P).tab where
  mixed := hm
  code f af h := by
    simp only [XTab.tab, XTab.of] at h
    split at h
    · rename_i fn hfn
      have h0 := h
      unfold cFun at h
      split at h
      · rename_i c hc; exact ⟨fn, c, hfn, hc, h0⟩
      · cases h
    · cases h
  prim f args aw v aw' h := by cases h
  ext f args aw v h := by cases h
end Go.AE
