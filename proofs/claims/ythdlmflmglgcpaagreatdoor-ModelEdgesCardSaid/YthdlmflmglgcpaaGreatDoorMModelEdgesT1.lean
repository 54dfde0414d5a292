/-
  THE TABLE OF THE CALLS UP TO HERE.
-/
import Derived.Test.YthdlmflmglgcpaaGreatDoorTbA
import Derived.Test.YthdlmflmglgcpaaGreatDoorMModelEdges0
import Derived.Test.YthdlmflmglgcpaaGreatDoorMModelEdges1
import Derived.Test.YthdlmflmglgcpaaGreatDoorMModelEdges2
import Derived.Test.YthdlmflmglgcpaaGreatDoorMModelEdges3
set_option linter.all false
set_option maxRecDepth 100000
namespace Go.Proofs.YthdlmflmglgcpaaGreatDoor.runModelEdges
open Go Go.Ev
def T1 : Tr (List Memo) := (.node none (.node none .nil (.node none (.node (some [m36]) .nil .nil) (.node (some [m0, m3, m6, m9, m12, m15, m18, m21, m24, m27, m30, m33]) .nil .nil))) (.node none .nil (.node none .nil (.node (some [m1, m4, m7, m10, m13, m16, m19, m22, m25, m28, m31, m34]) .nil .nil))))
theorem q1_13 : ∀ m, m ∈ [m0, m3, m6, m9, m12, m15, m18, m21, m24, m27, m30, m33] → MemOK Tryz.prog base 13 m := List.forall_mem_cons.2 ⟨k0, List.forall_mem_cons.2 ⟨k3, List.forall_mem_cons.2 ⟨k6, List.forall_mem_cons.2 ⟨k9, List.forall_mem_cons.2 ⟨k12, List.forall_mem_cons.2 ⟨k15, List.forall_mem_cons.2 ⟨k18, List.forall_mem_cons.2 ⟨k21, List.forall_mem_cons.2 ⟨k24, List.forall_mem_cons.2 ⟨k27, List.forall_mem_cons.2 ⟨k30, List.forall_mem_cons.2 ⟨k33, fun _ h => absurd h List.not_mem_nil⟩⟩⟩⟩⟩⟩⟩⟩⟩⟩⟩⟩
theorem q1_14 : ∀ m, m ∈ [m1, m4, m7, m10, m13, m16, m19, m22, m25, m28, m31, m34] → MemOK Tryz.prog base 14 m := List.forall_mem_cons.2 ⟨k1, List.forall_mem_cons.2 ⟨k4, List.forall_mem_cons.2 ⟨k7, List.forall_mem_cons.2 ⟨k10, List.forall_mem_cons.2 ⟨k13, List.forall_mem_cons.2 ⟨k16, List.forall_mem_cons.2 ⟨k19, List.forall_mem_cons.2 ⟨k22, List.forall_mem_cons.2 ⟨k25, List.forall_mem_cons.2 ⟨k28, List.forall_mem_cons.2 ⟨k31, List.forall_mem_cons.2 ⟨k34, fun _ h => absurd h List.not_mem_nil⟩⟩⟩⟩⟩⟩⟩⟩⟩⟩⟩⟩
theorem q1_9 : ∀ m, m ∈ [m36] → MemOK Tryz.prog base 9 m := List.forall_mem_cons.2 ⟨k36, fun _ h => absurd h List.not_mem_nil⟩
noncomputable def tb1 : Tb := tb.with T1
theorem tb1OK : TbOK Tryz.prog tb1 base := tbOK_with tbOK (t := T1) (show T1.All (fun q ms => ∀ m, m ∈ ms → MemOK Tryz.prog base q m) (fun i => i) from ⟨trivial, ⟨trivial, trivial, ⟨trivial, ⟨q1_9, trivial, trivial⟩, ⟨q1_13, trivial, trivial⟩⟩⟩, ⟨trivial, trivial, ⟨trivial, trivial, ⟨q1_14, trivial, trivial⟩⟩⟩⟩)
end Go.Proofs.YthdlmflmglgcpaaGreatDoor.runModelEdges
