/- The law's beginning, carried out. -/
import Derived.Test.YtjidefnbancmfaaT1
namespace Go.Proofs.Ytjidefnbancmfaa
open Go.AE
theorem run23 : isTrue (xCall (baseT Try.prog) (xRunK (baseT Try.prog) 100000) 23 [] AW.empty) = true := by kernel_rfl
theorem good23 (aw : AW) : GoodC Try.prog 23 [] aw (.bool true) aw := begun_good ⟨_, Try.func23, by kernel_rfl, by decide +kernel⟩ run23 aw
end Go.Proofs.Ytjidefnbancmfaa
