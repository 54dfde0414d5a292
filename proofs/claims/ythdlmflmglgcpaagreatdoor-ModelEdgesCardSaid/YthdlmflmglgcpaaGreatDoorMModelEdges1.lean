/-
  CALLS OF THE RUN OF 'ModelEdges', each run by the kernel from the objects that it leans on.
-/
import Derived.Test.YthdlmflmglgcpaaGreatDoorTbA
import Derived.Test.YthdlmflmglgcpaaGreatDoorMModelEdgesD
set_option linter.all false
set_option maxRecDepth 100000
namespace Go.Proofs.YthdlmflmglgcpaaGreatDoor.runModelEdges
open Go Go.Ev
theorem r4 : xmemo tb 100000000 991 m4 = true := by kernel_rfl
theorem k4 : MemOK Tryz.prog base 14 m4 := memo_ok tbOK r4
theorem r12 : xmemo tb 100000000 1 m12 = true := by kernel_rfl
theorem k12 : MemOK Tryz.prog base 13 m12 := memo_ok tbOK r12
theorem r18 : xmemo tb 100000000 1 m18 = true := by kernel_rfl
theorem k18 : MemOK Tryz.prog base 13 m18 := memo_ok tbOK r18
theorem r24 : xmemo tb 100000000 1 m24 = true := by kernel_rfl
theorem k24 : MemOK Tryz.prog base 13 m24 := memo_ok tbOK r24
end Go.Proofs.YthdlmflmglgcpaaGreatDoor.runModelEdges
