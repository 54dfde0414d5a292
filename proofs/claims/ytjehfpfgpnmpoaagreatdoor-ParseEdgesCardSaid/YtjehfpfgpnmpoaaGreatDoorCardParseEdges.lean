/-
  THE LAW ParseEdges: for every input (it has none) it returns true and leaves what was there as it was. Conditions: the card's own (the listed package-level variables start as the program's text lays them). By the kernel's run of an own evaluator of the model, whose soundness is proved in the texts YtjehfpfgpnmpoaaGreatDoorEvA to YtjehfpfgpnmpoaaGreatDoorXY.
-/
import Derived.Test.YtjehfpfgpnmpoaaGreatDoorJoinTbE
import Derived.Test.YtjehfpfgpnmpoaaGreatDoorRunParseEdges
import Derived.Test.YtjehfpfgpnmpoaaGreatDoorCards
import Derived.Test.YtjehfpfgpnmpoaaGreatDoorTie
import Derived.SevenTiedAt
set_option linter.all false
set_option maxRecDepth 100000
namespace Go.Proofs.YtjehfpfgpnmpoaaGreatDoor.lawParseEdges
open Go.ChangeShapes Go.WideShapes Go.RowKit
theorem calls {W : World} (hL : laidMetH Tryz.prog laidList W) : Calls Tryz.prog 4 #[] W fun e w' => e = .returned (.bool true) ∧ Go.Ev.Kept W w' :=
  Go.Ev.xtop_fn runParseEdges.tbOK_run Tryz.func4 (by kernel_rfl) (show Tryz.f4.body = some _ from rfl) runParseEdges.run_ParseEdges (base_of_laid hL)
theorem lifted (os : Os) (started : os.Started) (H : Type) (enc : TypeId × Value → H) :
    ReturnsInHanded {} Tryz.checked os 4 .any (fun w args => (Rows.parseEdgesSpec.pre enc Tryz.prog Tryz.f4 [] false w args ∧ laidMetH Tryz.prog laidList w) ∧ sizedMet enc Tryz.prog Tryz.f4 (OpenSpec.ofChange Rows.parseEdgesSpec) false w args)
      (Rows.parseEdgesSpec.post enc Tryz.prog Tryz.f4 false true false false) := by
  refine returnsInHanded_of_change_and (C := Tryz.checked) (X := fun w _ => laidMetH Tryz.prog laidList w) (fun _ _ _ hh h => h.of_heap hh) Tryz.own started (by kernel_rfl) Tryz.func4
    (ChangeSpec.witness_at (enc := enc) (C := Tryz.checked) (os := os) (X := fun w _ => laidMetH Tryz.prog laidList w) false (laidWorld os) #[] 8 rfl (by kernel_rfl) (by kernel_rfl) (by kernel_rfl) (by kernel_rfl) (by kernel_rfl) (laidWorld_met os _)) ?_
  intro W basev args ds gs before hval0 hW _ _ hL _
  have hW' := hW
  obtain ⟨p, q, hA0, hV0, rfl, hfz, hnd⟩ := hW
  have hA : DataW.TrodAll enc Tryz.prog W 0 (fun _ => true) true [] args.toList ds p := hA0
  have hV : DataW.TrodVars enc Tryz.prog W (fun _ => true) [] gs q := hV0
  obtain ⟨ha, rfl, rfl⟩ := trodAll_nil hA
  obtain rfl : args = #[] := by cases args; simp only at ha; subst ha; rfl
  obtain ⟨rfl, rfl⟩ : gs = [] ∧ q = [] := by
    cases gs with
    | nil => exact ⟨rfl, hV⟩
    | cons g r => exact absurd hV (by intro h; cases h)
  have e1 : Rows.parseEdgesSpec.fn H ([] ++ []) = { results := [.lit (.bool true)], args := [] } := rfl
  refine (calls hL).mono fun e W' ⟨he, hw⟩ => ?_
  subst he
  refine ⟨_, rfl, _, _, _, [], [], [], hW', ?_, ?_, ?_, ?_, fun h => by cases h⟩
  · rw [e1]; exact trodAll_mk1 (shut_bool Tryz.underlying4 true)
  · rw [e1]; exact trodAll_mk0
  · rw [e1]; rfl
  · exact Below.frame ⟨hw.os, hw.tape, hw.output, hw.size, hw.heap⟩ _
theorem row_holds : Rows.ParseEdgesSaid :=
  OpenClaim.holds_of_wide 4 Tryz.f4 rfl rfl rfl rfl rfl rfl rfl ⟨rfl, rfl, rfl, rfl, rfl⟩ rfl rfl rfl rfl rfl (by kernel_rfl) Tryz.func4 (by kernel_rfl)
    (of_decide_eq_true (by kernel_rfl)) (by unfold Func.isWrapper; rw [if_neg (of_decide_eq_false (by kernel_rfl))]; exact ⟨rfl, rfl⟩)
    (fun os started H enc _ => lifted os started H enc)
theorem proved : Rows.ParseEdgesCardSaid :=
  Claim7.holds_tied_plain_at .later [] [.data, .handle, .pinned] true (true, "8163f964a1f46f391e2288e930045ccaec2a750c5d45237c83380e4d7d627a1d") true
    row_holds (fun _ h => by cases h) (by kernel_rfl) (fun _ h => by cases h) parseEdges_row_tie rfl ⟨rfl, rfl⟩ (by kernel_rfl) rfl
    (fun f fn hf hfn => by
      obtain rfl : f = 4 := Option.some.inj ((show Tryz.prog.funcNamed "credence/credencelaw07.ParseEdges" = some 4 by kernel_rfl).symm.trans hf) |>.symm
      obtain rfl : fn = Tryz.f4 := (Option.some.inj (Tryz.func4.symm.trans hfn)).symm
      exact ⟨by kernel_rfl, fun j t ht => by
        rw [Tryz.params4] at ht
        simp at ht⟩)
    (by kernel_rfl)
#print axioms proved
end Go.Proofs.YtjehfpfgpnmpoaaGreatDoor.lawParseEdges
