/-
  THE TABLE OF THE CALLS UP TO HERE.
-/
import Derived.Test.YthdlmflmglgcpaaGreatDoorTbA
import Derived.Test.YthdlmflmglgcpaaGreatDoorMModelEdges4
import Derived.Test.YthdlmflmglgcpaaGreatDoorMModelEdgesT1
set_option linter.all false
set_option maxRecDepth 100000
namespace Go.Proofs.YthdlmflmglgcpaaGreatDoor.runModelEdges
open Go Go.Ev
def T2 : Tr (List Memo) := (.node none (.node none (.node none (.node (some [m37]) .nil .nil) (.node (some [m2, m5, m8, m11, m14, m17, m20, m23, m26, m29, m32, m35]) .nil .nil)) (.node none (.node (some [m36]) .nil .nil) (.node (some [m0, m3, m6, m9, m12, m15, m18, m21, m24, m27, m30, m33]) .nil .nil))) (.node none .nil (.node none .nil (.node (some [m1, m4, m7, m10, m13, m16, m19, m22, m25, m28, m31, m34]) .nil .nil))))
theorem q2_13 : ∀ m, m ∈ [m0, m3, m6, m9, m12, m15, m18, m21, m24, m27, m30, m33] → MemOK Tryz.prog base 13 m := List.forall_mem_cons.2 ⟨k0, List.forall_mem_cons.2 ⟨k3, List.forall_mem_cons.2 ⟨k6, List.forall_mem_cons.2 ⟨k9, List.forall_mem_cons.2 ⟨k12, List.forall_mem_cons.2 ⟨k15, List.forall_mem_cons.2 ⟨k18, List.forall_mem_cons.2 ⟨k21, List.forall_mem_cons.2 ⟨k24, List.forall_mem_cons.2 ⟨k27, List.forall_mem_cons.2 ⟨k30, List.forall_mem_cons.2 ⟨k33, fun _ h => absurd h List.not_mem_nil⟩⟩⟩⟩⟩⟩⟩⟩⟩⟩⟩⟩
theorem q2_14 : ∀ m, m ∈ [m1, m4, m7, m10, m13, m16, m19, m22, m25, m28, m31, m34] → MemOK Tryz.prog base 14 m := List.forall_mem_cons.2 ⟨k1, List.forall_mem_cons.2 ⟨k4, List.forall_mem_cons.2 ⟨k7, List.forall_mem_cons.2 ⟨k10, List.forall_mem_cons.2 ⟨k13, List.forall_mem_cons.2 ⟨k16, List.forall_mem_cons.2 ⟨k19, List.forall_mem_cons.2 ⟨k22, List.forall_mem_cons.2 ⟨k25, List.forall_mem_cons.2 ⟨k28, List.forall_mem_cons.2 ⟨k31, List.forall_mem_cons.2 ⟨k34, fun _ h => absurd h List.not_mem_nil⟩⟩⟩⟩⟩⟩⟩⟩⟩⟩⟩⟩
theorem q2_11 : ∀ m, m ∈ [m2, m5, m8, m11, m14, m17, m20, m23, m26, m29, m32, m35] → MemOK Tryz.prog base 11 m := List.forall_mem_cons.2 ⟨k2, List.forall_mem_cons.2 ⟨k5, List.forall_mem_cons.2 ⟨k8, List.forall_mem_cons.2 ⟨k11, List.forall_mem_cons.2 ⟨k14, List.forall_mem_cons.2 ⟨k17, List.forall_mem_cons.2 ⟨k20, List.forall_mem_cons.2 ⟨k23, List.forall_mem_cons.2 ⟨k26, List.forall_mem_cons.2 ⟨k29, List.forall_mem_cons.2 ⟨k32, List.forall_mem_cons.2 ⟨k35, fun _ h => absurd h List.not_mem_nil⟩⟩⟩⟩⟩⟩⟩⟩⟩⟩⟩⟩
theorem q2_9 : ∀ m, m ∈ [m36] → MemOK Tryz.prog base 9 m := List.forall_mem_cons.2 ⟨k36, fun _ h => absurd h List.not_mem_nil⟩
theorem q2_7 : ∀ m, m ∈ [m37] → MemOK Tryz.prog base 7 m := List.forall_mem_cons.2 ⟨k37, fun _ h => absurd h List.not_mem_nil⟩
noncomputable def tb2 : Tb := tb.with T2
theorem tb2OK : TbOK Tryz.prog tb2 base := tbOK_with tbOK (t := T2) (show T2.All (fun q ms => ∀ m, m ∈ ms → MemOK Tryz.prog base q m) (fun i => i) from ⟨trivial, ⟨trivial, ⟨trivial, ⟨q2_7, trivial, trivial⟩, ⟨q2_11, trivial, trivial⟩⟩, ⟨trivial, ⟨q2_9, trivial, trivial⟩, ⟨q2_13, trivial, trivial⟩⟩⟩, ⟨trivial, trivial, ⟨trivial, trivial, ⟨q2_14, trivial, trivial⟩⟩⟩⟩)
end Go.Proofs.YthdlmflmglgcpaaGreatDoor.runModelEdges
