/-
  THE TABLE OF THE CALLS UP TO HERE.
-/
import Derived.Test.YthdlmflmglgcpaaGreatDoorTbA
import Derived.Test.YthdlmflmglgcpaaGreatDoorMModelNames0
import Derived.Test.YthdlmflmglgcpaaGreatDoorMModelNames1
import Derived.Test.YthdlmflmglgcpaaGreatDoorMModelNames2
set_option linter.all false
set_option maxRecDepth 100000
namespace Go.Proofs.YthdlmflmglgcpaaGreatDoor.runModelNames
open Go Go.Ev
def T1 : Tr (List Memo) := (.node none (.node none .nil (.node none (.node (some [m2, m6]) .nil .nil) (.node (some [m0, m4]) .nil .nil))) (.node none .nil (.node none .nil (.node (some [m1, m5]) .nil .nil))))
theorem q1_13 : ∀ m, m ∈ [m0, m4] → MemOK Tryz.prog base 13 m := List.forall_mem_cons.2 ⟨k0, List.forall_mem_cons.2 ⟨k4, fun _ h => absurd h List.not_mem_nil⟩⟩
theorem q1_14 : ∀ m, m ∈ [m1, m5] → MemOK Tryz.prog base 14 m := List.forall_mem_cons.2 ⟨k1, List.forall_mem_cons.2 ⟨k5, fun _ h => absurd h List.not_mem_nil⟩⟩
theorem q1_9 : ∀ m, m ∈ [m2, m6] → MemOK Tryz.prog base 9 m := List.forall_mem_cons.2 ⟨k2, List.forall_mem_cons.2 ⟨k6, fun _ h => absurd h List.not_mem_nil⟩⟩
noncomputable def tb1 : Tb := tb.with T1
theorem tb1OK : TbOK Tryz.prog tb1 base := tbOK_with tbOK (t := T1) (show T1.All (fun q ms => ∀ m, m ∈ ms → MemOK Tryz.prog base q m) (fun i => i) from ⟨trivial, ⟨trivial, trivial, ⟨trivial, ⟨q1_9, trivial, trivial⟩, ⟨q1_13, trivial, trivial⟩⟩⟩, ⟨trivial, trivial, ⟨trivial, trivial, ⟨q1_14, trivial, trivial⟩⟩⟩⟩)
end Go.Proofs.YthdlmflmglgcpaaGreatDoor.runModelNames
