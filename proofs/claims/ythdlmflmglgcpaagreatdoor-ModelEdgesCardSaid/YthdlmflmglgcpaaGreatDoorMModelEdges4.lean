/-
  CALLS OF THE RUN OF 'ModelEdges', each run by the kernel from the objects that it leans on.
-/
import Derived.Test.YthdlmflmglgcpaaGreatDoorTbA
import Derived.Test.YthdlmflmglgcpaaGreatDoorMModelEdgesT1
set_option linter.all false
set_option maxRecDepth 100000
namespace Go.Proofs.YthdlmflmglgcpaaGreatDoor.runModelEdges
open Go Go.Ev
theorem r2 : xmemo tb1 100000000 0 m2 = true := by kernel_rfl
theorem k2 : MemOK Tryz.prog base 11 m2 := memo_ok tb1OK r2
theorem r5 : xmemo tb1 100000000 0 m5 = true := by kernel_rfl
theorem k5 : MemOK Tryz.prog base 11 m5 := memo_ok tb1OK r5
theorem r8 : xmemo tb1 100000000 0 m8 = true := by kernel_rfl
theorem k8 : MemOK Tryz.prog base 11 m8 := memo_ok tb1OK r8
theorem r11 : xmemo tb1 100000000 0 m11 = true := by kernel_rfl
theorem k11 : MemOK Tryz.prog base 11 m11 := memo_ok tb1OK r11
theorem r14 : xmemo tb1 100000000 0 m14 = true := by kernel_rfl
theorem k14 : MemOK Tryz.prog base 11 m14 := memo_ok tb1OK r14
theorem r17 : xmemo tb1 100000000 0 m17 = true := by kernel_rfl
theorem k17 : MemOK Tryz.prog base 11 m17 := memo_ok tb1OK r17
theorem r20 : xmemo tb1 100000000 0 m20 = true := by kernel_rfl
theorem k20 : MemOK Tryz.prog base 11 m20 := memo_ok tb1OK r20
theorem r23 : xmemo tb1 100000000 0 m23 = true := by kernel_rfl
theorem k23 : MemOK Tryz.prog base 11 m23 := memo_ok tb1OK r23
theorem r26 : xmemo tb1 100000000 0 m26 = true := by kernel_rfl
theorem k26 : MemOK Tryz.prog base 11 m26 := memo_ok tb1OK r26
theorem r29 : xmemo tb1 100000000 0 m29 = true := by kernel_rfl
theorem k29 : MemOK Tryz.prog base 11 m29 := memo_ok tb1OK r29
theorem r32 : xmemo tb1 100000000 0 m32 = true := by kernel_rfl
theorem k32 : MemOK Tryz.prog base 11 m32 := memo_ok tb1OK r32
theorem r35 : xmemo tb1 100000000 0 m35 = true := by kernel_rfl
theorem k35 : MemOK Tryz.prog base 11 m35 := memo_ok tb1OK r35
theorem r37 : xmemo tb1 100000000 9 m37 = true := by kernel_rfl
theorem k37 : MemOK Tryz.prog base 7 m37 := memo_ok tb1OK r37
end Go.Proofs.YthdlmflmglgcpaaGreatDoor.runModelEdges
