/-
  CALLS OF THE RUN OF 'ModelNames', each run by the kernel from the objects that it leans on.
-/
import Derived.Test.YthdlmflmglgcpaaGreatDoorTbA
import Derived.Test.YthdlmflmglgcpaaGreatDoorMModelNamesD
set_option linter.all false
set_option maxRecDepth 100000
namespace Go.Proofs.YthdlmflmglgcpaaGreatDoor.runModelNames
open Go Go.Ev
theorem r5 : xmemo tb 100000000 1372 m5 = true := by kernel_rfl
theorem k5 : MemOK Tryz.prog base 14 m5 := memo_ok tbOK r5
end Go.Proofs.YthdlmflmglgcpaaGreatDoor.runModelNames
