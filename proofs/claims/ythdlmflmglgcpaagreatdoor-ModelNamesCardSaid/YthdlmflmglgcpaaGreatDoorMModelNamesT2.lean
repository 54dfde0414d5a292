/-
  THE TABLE OF THE CALLS UP TO HERE.
-/
import Derived.Test.YthdlmflmglgcpaaGreatDoorTbA
import Derived.Test.YthdlmflmglgcpaaGreatDoorMModelNames3
import Derived.Test.YthdlmflmglgcpaaGreatDoorMModelNamesT1
set_option linter.all false
set_option maxRecDepth 100000
namespace Go.Proofs.YthdlmflmglgcpaaGreatDoor.runModelNames
open Go Go.Ev
def T2 : Tr (List Memo) := (.node none (.node none (.node none (.node (some [m3, m7, m8]) .nil .nil) .nil) (.node none (.node (some [m2, m6]) .nil .nil) (.node (some [m0, m4]) .nil .nil))) (.node none .nil (.node none .nil (.node (some [m1, m5]) .nil .nil))))
theorem q2_13 : ∀ m, m ∈ [m0, m4] → MemOK Tryz.prog base 13 m := List.forall_mem_cons.2 ⟨k0, List.forall_mem_cons.2 ⟨k4, fun _ h => absurd h List.not_mem_nil⟩⟩
theorem q2_14 : ∀ m, m ∈ [m1, m5] → MemOK Tryz.prog base 14 m := List.forall_mem_cons.2 ⟨k1, List.forall_mem_cons.2 ⟨k5, fun _ h => absurd h List.not_mem_nil⟩⟩
theorem q2_9 : ∀ m, m ∈ [m2, m6] → MemOK Tryz.prog base 9 m := List.forall_mem_cons.2 ⟨k2, List.forall_mem_cons.2 ⟨k6, fun _ h => absurd h List.not_mem_nil⟩⟩
theorem q2_7 : ∀ m, m ∈ [m3, m7, m8] → MemOK Tryz.prog base 7 m := List.forall_mem_cons.2 ⟨k3, List.forall_mem_cons.2 ⟨k7, List.forall_mem_cons.2 ⟨k8, fun _ h => absurd h List.not_mem_nil⟩⟩⟩
noncomputable def tb2 : Tb := tb.with T2
theorem tb2OK : TbOK Tryz.prog tb2 base := tbOK_with tbOK (t := T2) (show T2.All (fun q ms => ∀ m, m ∈ ms → MemOK Tryz.prog base q m) (fun i => i) from ⟨trivial, ⟨trivial, ⟨trivial, ⟨q2_7, trivial, trivial⟩, trivial⟩, ⟨trivial, ⟨q2_9, trivial, trivial⟩, ⟨q2_13, trivial, trivial⟩⟩⟩, ⟨trivial, trivial, ⟨trivial, trivial, ⟨q2_14, trivial, trivial⟩⟩⟩⟩)
end Go.Proofs.YthdlmflmglgcpaaGreatDoor.runModelNames
