/-
  'ShowNames' run by the kernel, by the layer's evaluator: true.
-/
import Derived.Test.YtjehfpfgpnmpoaaGreatDoorTbA
set_option linter.all false
set_option maxRecDepth 100000
namespace Go.Proofs.YtjehfpfgpnmpoaaGreatDoor
open Go Go.Ev
theorem run_ShowNames : xtop tb 100000 5 = true := by kernel_rfl
end Go.Proofs.YtjehfpfgpnmpoaaGreatDoor
