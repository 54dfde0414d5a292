/-
  CALLS OF THE RUN OF 'ModelNames', each run by the kernel from the objects that it leans on.
-/
import Derived.Test.YthdlmflmglgcpaaGreatDoorTbA
import Derived.Test.YthdlmflmglgcpaaGreatDoorMModelNamesD
set_option linter.all false
set_option maxRecDepth 100000
namespace Go.Proofs.YthdlmflmglgcpaaGreatDoor.runModelNames
open Go Go.Ev
theorem r4 : xmemo tb 100000000 45 m4 = true := by kernel_rfl
theorem k4 : MemOK Tryz.prog base 13 m4 := memo_ok tbOK r4
end Go.Proofs.YthdlmflmglgcpaaGreatDoor.runModelNames
