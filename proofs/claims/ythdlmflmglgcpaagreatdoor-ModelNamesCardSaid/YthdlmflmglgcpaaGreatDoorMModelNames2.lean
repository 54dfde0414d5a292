/-
  CALLS OF THE RUN OF 'ModelNames', each run by the kernel from the objects that it leans on.
-/
import Derived.Test.YthdlmflmglgcpaaGreatDoorTbA
import Derived.Test.YthdlmflmglgcpaaGreatDoorMModelNamesD
set_option linter.all false
set_option maxRecDepth 100000
namespace Go.Proofs.YthdlmflmglgcpaaGreatDoor.runModelNames
open Go Go.Ev
theorem r0 : xmemo tb 100000000 1 m0 = true := by kernel_rfl
theorem k0 : MemOK Tryz.prog base 13 m0 := memo_ok tbOK r0
theorem r1 : xmemo tb 100000000 2 m1 = true := by kernel_rfl
theorem k1 : MemOK Tryz.prog base 14 m1 := memo_ok tbOK r1
theorem r2 : xmemo tb 100000000 11 m2 = true := by kernel_rfl
theorem k2 : MemOK Tryz.prog base 9 m2 := memo_ok tbOK r2
theorem r6 : xmemo tb 100000000 3455 m6 = true := by kernel_rfl
theorem k6 : MemOK Tryz.prog base 9 m6 := memo_ok tbOK r6
end Go.Proofs.YthdlmflmglgcpaaGreatDoor.runModelNames
