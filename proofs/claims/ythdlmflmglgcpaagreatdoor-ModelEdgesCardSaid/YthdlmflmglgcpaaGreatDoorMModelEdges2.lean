/-
  CALLS OF THE RUN OF 'ModelEdges', each run by the kernel from the objects that it leans on.
-/
import Derived.Test.YthdlmflmglgcpaaGreatDoorTbA
import Derived.Test.YthdlmflmglgcpaaGreatDoorMModelEdgesD
set_option linter.all false
set_option maxRecDepth 100000
namespace Go.Proofs.YthdlmflmglgcpaaGreatDoor.runModelEdges
open Go Go.Ev
theorem r0 : xmemo tb 100000000 1 m0 = true := by kernel_rfl
theorem k0 : MemOK Tryz.prog base 13 m0 := memo_ok tbOK r0
theorem r1 : xmemo tb 100000000 1039 m1 = true := by kernel_rfl
theorem k1 : MemOK Tryz.prog base 14 m1 := memo_ok tbOK r1
theorem r7 : xmemo tb 100000000 833 m7 = true := by kernel_rfl
theorem k7 : MemOK Tryz.prog base 14 m7 := memo_ok tbOK r7
theorem r9 : xmemo tb 100000000 1 m9 = true := by kernel_rfl
theorem k9 : MemOK Tryz.prog base 13 m9 := memo_ok tbOK r9
theorem r10 : xmemo tb 100000000 979 m10 = true := by kernel_rfl
theorem k10 : MemOK Tryz.prog base 14 m10 := memo_ok tbOK r10
theorem r13 : xmemo tb 100000000 974 m13 = true := by kernel_rfl
theorem k13 : MemOK Tryz.prog base 14 m13 := memo_ok tbOK r13
theorem r16 : xmemo tb 100000000 828 m16 = true := by kernel_rfl
theorem k16 : MemOK Tryz.prog base 14 m16 := memo_ok tbOK r16
theorem r19 : xmemo tb 100000000 1134 m19 = true := by kernel_rfl
theorem k19 : MemOK Tryz.prog base 14 m19 := memo_ok tbOK r19
theorem r25 : xmemo tb 100000000 1004 m25 = true := by kernel_rfl
theorem k25 : MemOK Tryz.prog base 14 m25 := memo_ok tbOK r25
theorem r28 : xmemo tb 100000000 1122 m28 = true := by kernel_rfl
theorem k28 : MemOK Tryz.prog base 14 m28 := memo_ok tbOK r28
theorem r31 : xmemo tb 100000000 858 m31 = true := by kernel_rfl
theorem k31 : MemOK Tryz.prog base 14 m31 := memo_ok tbOK r31
theorem r34 : xmemo tb 100000000 838 m34 = true := by kernel_rfl
theorem k34 : MemOK Tryz.prog base 14 m34 := memo_ok tbOK r34
theorem r36 : xmemo tb 100000000 11 m36 = true := by kernel_rfl
theorem k36 : MemOK Tryz.prog base 9 m36 := memo_ok tbOK r36
end Go.Proofs.YthdlmflmglgcpaaGreatDoor.runModelEdges
