/-
  'ParseEdges' run by the kernel, by the layer's evaluator, over the calls that were run: true.
-/
import Derived.Test.YtjehfpfgpnmpoaaGreatDoorMParseEdgesT3
set_option linter.all false
set_option maxRecDepth 100000
namespace Go.Proofs.YtjehfpfgpnmpoaaGreatDoor.runParseEdges
open Go Go.Ev
theorem tbOK_run : TbOK Tryz.prog tb3 base := tb3OK
theorem run_ParseEdges : xtop tb3 100000000 4 = true := by kernel_rfl
end Go.Proofs.YtjehfpfgpnmpoaaGreatDoor.runParseEdges
