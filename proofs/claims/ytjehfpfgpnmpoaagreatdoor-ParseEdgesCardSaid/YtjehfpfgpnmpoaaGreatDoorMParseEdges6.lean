/-
  CALLS OF THE RUN OF 'ParseEdges', each run by the kernel from the objects that it leans on.
-/
import Derived.Test.YtjehfpfgpnmpoaaGreatDoorTbE
import Derived.Test.YtjehfpfgpnmpoaaGreatDoorMParseEdgesT2
set_option linter.all false
set_option maxRecDepth 100000
namespace Go.Proofs.YtjehfpfgpnmpoaaGreatDoor.runParseEdges
open Go Go.Ev
theorem r2 : xmemo tb2 100000000 0 m2 = true := by kernel_rfl
theorem k2 : MemOK Tryz.prog base 7 m2 := memo_ok tb2OK r2
theorem r5 : xmemo tb2 100000000 0 m5 = true := by kernel_rfl
theorem k5 : MemOK Tryz.prog base 7 m5 := memo_ok tb2OK r5
theorem r8 : xmemo tb2 100000000 0 m8 = true := by kernel_rfl
theorem k8 : MemOK Tryz.prog base 7 m8 := memo_ok tb2OK r8
theorem r11 : xmemo tb2 100000000 0 m11 = true := by kernel_rfl
theorem k11 : MemOK Tryz.prog base 7 m11 := memo_ok tb2OK r11
theorem r14 : xmemo tb2 100000000 0 m14 = true := by kernel_rfl
theorem k14 : MemOK Tryz.prog base 7 m14 := memo_ok tb2OK r14
end Go.Proofs.YtjehfpfgpnmpoaaGreatDoor.runParseEdges
