/-
  CALLS OF THE RUN OF 'ModelEdges', each run by the kernel from the objects that it leans on.
-/
import Derived.Test.YthdlmflmglgcpaaGreatDoorTbA
import Derived.Test.YthdlmflmglgcpaaGreatDoorMModelEdgesD
set_option linter.all false
set_option maxRecDepth 100000
namespace Go.Proofs.YthdlmflmglgcpaaGreatDoor.runModelEdges
open Go Go.Ev
theorem r3 : xmemo tb 100000000 1 m3 = true := by kernel_rfl
theorem k3 : MemOK Tryz.prog base 13 m3 := memo_ok tbOK r3
theorem r15 : xmemo tb 100000000 1 m15 = true := by kernel_rfl
theorem k15 : MemOK Tryz.prog base 13 m15 := memo_ok tbOK r15
theorem r22 : xmemo tb 100000000 1122 m22 = true := by kernel_rfl
theorem k22 : MemOK Tryz.prog base 14 m22 := memo_ok tbOK r22
theorem r30 : xmemo tb 100000000 1 m30 = true := by kernel_rfl
theorem k30 : MemOK Tryz.prog base 13 m30 := memo_ok tbOK r30
end Go.Proofs.YthdlmflmglgcpaaGreatDoor.runModelEdges
