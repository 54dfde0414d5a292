/-
  CALLS OF THE RUN OF 'ModelEdges', each run by the kernel from the objects that it leans on.
-/
import Derived.Test.YthdlmflmglgcpaaGreatDoorTbA
import Derived.Test.YthdlmflmglgcpaaGreatDoorMModelEdgesD
set_option linter.all false
set_option maxRecDepth 100000
namespace Go.Proofs.YthdlmflmglgcpaaGreatDoor.runModelEdges
open Go Go.Ev
theorem r6 : xmemo tb 100000000 1 m6 = true := by kernel_rfl
theorem k6 : MemOK Tryz.prog base 13 m6 := memo_ok tbOK r6
theorem r21 : xmemo tb 100000000 1 m21 = true := by kernel_rfl
theorem k21 : MemOK Tryz.prog base 13 m21 := memo_ok tbOK r21
theorem r27 : xmemo tb 100000000 1 m27 = true := by kernel_rfl
theorem k27 : MemOK Tryz.prog base 13 m27 := memo_ok tbOK r27
theorem r33 : xmemo tb 100000000 1 m33 = true := by kernel_rfl
theorem k33 : MemOK Tryz.prog base 13 m33 := memo_ok tbOK r33
end Go.Proofs.YthdlmflmglgcpaaGreatDoor.runModelEdges
