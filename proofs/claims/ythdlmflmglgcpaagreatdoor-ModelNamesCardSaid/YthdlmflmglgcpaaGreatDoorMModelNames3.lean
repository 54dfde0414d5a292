/-
  CALLS OF THE RUN OF 'ModelNames', each run by the kernel from the objects that it leans on.
-/
import Derived.Test.YthdlmflmglgcpaaGreatDoorTbA
import Derived.Test.YthdlmflmglgcpaaGreatDoorMModelNamesT1
set_option linter.all false
set_option maxRecDepth 100000
namespace Go.Proofs.YthdlmflmglgcpaaGreatDoor.runModelNames
open Go Go.Ev
theorem r3 : xmemo tb1 100000000 9 m3 = true := by kernel_rfl
theorem k3 : MemOK Tryz.prog base 7 m3 := memo_ok tb1OK r3
theorem r7 : xmemo tb1 100000000 3453 m7 = true := by kernel_rfl
theorem k7 : MemOK Tryz.prog base 7 m7 := memo_ok tb1OK r7
theorem r8 : xmemo tb1 100000000 3565 m8 = true := by kernel_rfl
theorem k8 : MemOK Tryz.prog base 7 m8 := memo_ok tb1OK r8
end Go.Proofs.YthdlmflmglgcpaaGreatDoor.runModelNames
