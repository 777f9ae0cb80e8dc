/- The law's beginning, carried out. -/
import Derived.Test.YtjidefnbancmfaaT3
namespace Go.Proofs.Ytjidefnbancmfaa
open Go.AE
theorem run30 : isTrue (xCall (baseT Try.prog) (xRunK (baseT Try.prog) 100000) 30 [] AW.empty) = true := by kernel_rfl
theorem good30 (aw : AW) : GoodC Try.prog 30 [] aw (.bool true) aw := begun_good ⟨_, Try.func30, by kernel_rfl, by decide +kernel⟩ run30 aw
end Go.Proofs.Ytjidefnbancmfaa
