/-
  'ModelEdges' run by the kernel, by the layer's evaluator, over the calls that were run: true.
-/
import Derived.Test.YthdlmflmglgcpaaGreatDoorMModelEdgesT2
set_option linter.all false
set_option maxRecDepth 100000
namespace Go.Proofs.YthdlmflmglgcpaaGreatDoor.runModelEdges
open Go Go.Ev
theorem tbOK_run : TbOK Tryz.prog tb2 base := tb2OK
theorem run_ModelEdges : xtop tb2 100000000 4 = true := by kernel_rfl
end Go.Proofs.YthdlmflmglgcpaaGreatDoor.runModelEdges
