/-
  What the listed package-level variables give a run, and a world that meets the condition.
-/
import Derived.Test.YtjehfpfgpnmpoaaGreatDoorRows
import Derived.Test.YtjehfpfgpnmpoaaGreatDoorTbE
import Derived.ChangeSame
import Derived.ChangeVars
import Derived.JoinedOf
import Derived.RowKit
import Derived.RowKitTokens
import Derived.LaidLaws
import Derived.LaidHandle
import Derived.Stop.Joined
import Derived.Below
set_option linter.all false
set_option maxRecDepth 100000
namespace Go.Proofs.YtjehfpfgpnmpoaaGreatDoor
open Go.ChangeShapes Go.WideShapes Go.RowKit
theorem Tryz.own : ownKnob Tryz.prog.godebug = none := by kernel_rfl
def laidList : List (String × DataW Unit) := [("unicode/utf8.acceptRanges", Rows.laid_unicode_utf8_acceptRanges), ("errors.errorType", Rows.laid_errors_errorType), ("unicode/utf8.first", Rows.laid_unicode_utf8_first)]
theorem Tryz.et : Tryz.prog.globalNamed "errors.errorType" = some 0 := by kernel_rfl
theorem Tryz.rt : (Tryz.prog.cutTypes.find? (fun x => x.1 == "internal/reflectlite.rtype")).map (fun x => x.2) = some 158 := by kernel_rfl
theorem Tryz.oneRow : ((List.range 336).filter fun t => Tryz.prog.rowNamed t [101, 114, 114, 111, 114]) = [30] := by kernel_rfl
theorem Tryz.size : Tryz.prog.types.size = 336 := by kernel_rfl
theorem handle_of_laid {W : World} (h : laidMetH Tryz.prog laidList W) : W.cell? ⟨0, 0, none⟩ = some (.iface 158 (.agg #[.pointer (some ⟨4, 30, none⟩)])) := by
  have h' : laidMet Tryz.prog (laidList.filter fun x => x.2.handleName?.isNone) W ∧ handlesMet Tryz.prog [("errors.errorType", Rows.laid_errors_errorType)] W := h
  obtain ⟨name, u, ty, e1, e2, e3, e4, e5⟩ := h'.2 _ (List.mem_singleton.2 rfl)
  have en : name = [101, 114, 114, 111, 114] := (Option.some.inj e1).symm
  subst en
  obtain rfl := Option.some.inj (Tryz.rt.symm.trans e2)
  have hm : ty ∈ (List.range 336).filter fun t => Tryz.prog.rowNamed t [101, 114, 114, 111, 114] := List.mem_filter.2 ⟨List.mem_range.2 (by rw [← Tryz.size]; exact e3), e4⟩
  rw [Tryz.oneRow] at hm
  obtain rfl := List.mem_singleton.1 hm
  have hh : typeHandle Tryz.prog 30 = .pointer (some ⟨4, 30, none⟩) := by kernel_rfl
  rw [hh] at e5
  simpa using World.var?_cell Tryz.et e5 0
theorem base_of_laid {W : World} (h : laidMetH Tryz.prog laidList W) : ∀ b o c, base b o = some c → W.cell? ⟨b, o, none⟩ = some c := by
  intro b o c hc
  have hc : (bif Nat.beq b 0 && Nat.beq o 0 then some (.iface 158 (.agg #[.pointer (some ⟨4, 30, none⟩)]) : Value) else none) = some c := hc
  cases h1 : (Nat.beq b 0 && Nat.beq o 0) with
  | true =>
    rw [h1, cond_true] at hc
    simp only [Bool.and_eq_true, Nat.beq_eq] at h1
    obtain ⟨rfl, rfl⟩ := h1
    rw [← Option.some.inj hc]; exact handle_of_laid h
  | false => rw [h1] at hc; cases hc
/-- a datum's cells -/
def flatD : Nat → DataW Unit → List Value
  | 0, _ => []
  | _ + 1, .lit (.int k n) => [.int k n]
  | _ + 1, .lit (.bool b) => [.bool b]
  | _ + 1, .lit (.string b) => [.string ⟨b.toArray⟩]
  | f + 1, .agg l => l.flatMap (flatD f)
  | _ + 1, _ => []
def layAt (h : Array Obj) (g : Nat) (cs : List Value) : Array Obj := h.modify g fun
  | .cells _ t frozen => .cells cs.toArray t frozen
  | o => o
noncomputable def laidWorld (os : Os) : World :=
  let w0 := World.holding Tryz.prog os ⟨#[], #[], []⟩
  { w0 with heap := (layAt (layAt (layAt w0.heap 3 (flatD 9 Rows.laid_unicode_utf8_acceptRanges)) 0 [.iface 158 (.agg #[.pointer (some ⟨4, 30, none⟩)])]) 2 (flatD 9 Rows.laid_unicode_utf8_first)) }
theorem laidWorld_met (os : Os) (args : Array Value) : laidMetH Tryz.prog laidList ((laidWorld os).forCall (fun _ _ => 0) ⟨#[], args, []⟩).memory :=
  laidMetH_of_parts (laidMet_of_run' 12 (by kernel_rfl) (by kernel_rfl)) (by kernel_rfl)
end Go.Proofs.YtjehfpfgpnmpoaaGreatDoor
