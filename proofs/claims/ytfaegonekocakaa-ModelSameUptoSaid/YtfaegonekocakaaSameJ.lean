/-
  'ModelSameUptoSaid' IS PROVED: WHATEVER THE TWO NETWORKS, OF BULK AT MOST 1048576: the program's answer on likeness is the document's, and the networks read as they did. No further condition.
-/
import Derived.Test.YtfaegonekocakaaSame
import Derived.Test.YtfaegonekocakaaEvR
import Derived.Test.YtfaegonekocakaaRows
import Derived.WalkKit
import Derived.ProofKit
import Derived.OpenShut
import Derived.JoinedCond
set_option linter.all false
namespace Go.Ev
open Go.Proofs Go.Proofs.Ytfaegonekocakaa
set_option maxRecDepth 10000
set_option linter.unusedSimpArgs false
set_option linter.unusedVariables false
theorem bulk_one {H : Type} (d : DataW H) : 1 ≤ Rows.uptoBulk d := by
  cases d with
  | lit l => cases l <;> simp [Rows.uptoBulk]
  | _ => simp [Rows.uptoBulk]
theorem bulk_part {H : Type} {d : DataW H} {l : List (DataW H)} (h : d ∈ l) : Rows.uptoBulk d ≤ Rows.uptoBulkAll l := by
  induction l with
  | nil => cases h
  | cons x r ih =>
    simp only [Rows.uptoBulkAll]
    rcases List.mem_cons.1 h with rfl | h
    · omega
    · have := ih h; omega
theorem bulk_len {H : Type} (l : List (DataW H)) : l.length ≤ Rows.uptoBulkAll l := by
  induction l with
  | nil => simp [Rows.uptoBulkAll]
  | cons x r ih => have := bulk_one x; simp only [Rows.uptoBulkAll, List.length_cons]; omega
theorem bulk_ok {H : Type} : Bulk (H := H) Rows.uptoBulk where
  len e s := by have := bulk_len e; simp only [Rows.uptoBulk]; omega
  mem e s d h := by have := bulk_part h; simp only [Rows.uptoBulk]; omega
  part ps d h := by have := bulk_part h; simp only [Rows.uptoBulk]; omega
section
variable {H : Type} {enc : TypeId × Value → H} {M : Nat}
theorem rd_nat : Rdr enc Try.prog Rows.uptoBulk M 31 (fun l => tn l) (fun l => l.length ≤ M) :=
  rdr_map (fun l => l) (fun _ => rfl) (fun _ h => h.1) (rdr_slice (sz := 1) bulk_ok Try.underlying31 (by kernel_rfl) (by decide) (fun _ => rfl) (rdr_u32 Try.underlying40))
theorem rd_int : Rdr enc Try.prog Rows.uptoBulk M 33 (fun p : Bool × List UInt32 => tI p.1 p.2) (fun p => p.2.length ≤ M) :=
  rdr_map (fun p => p) (fun _ => rfl) (fun _ h => h.2) (rdr_struct2 (s0 := 1) (s1 := 1) bulk_ok Try.underlying33 rfl (by kernel_rfl) rfl (by kernel_rfl) (by kernel_rfl) (rdr_bool Try.underlying4) rd_nat)
theorem rd_rat : Rdr enc Try.prog Rows.uptoBulk M 35 tRt (fun r => r.mag.length ≤ M ∧ r.den.length ≤ M) :=
  rdr_map (fun p : (Bool × List UInt32) × List UInt32 => ⟨p.1.1, p.1.2, p.2⟩) (fun _ => rfl) (fun _ h => h) (rdr_struct2 (s0 := 2) (s1 := 1) bulk_ok Try.underlying35 rfl (by kernel_rfl) rfl (by kernel_rfl) (by kernel_rfl) rd_int rd_nat)
theorem rd_rats : Rdr enc Try.prog Rows.uptoBulk M 29 tRL (fun l => l.length ≤ M ∧ ∀ r ∈ l, r.mag.length ≤ M ∧ r.den.length ≤ M) :=
  rdr_slice (sz := 3) bulk_ok Try.underlying29 (by kernel_rfl) (by decide) (fun _ => rfl) rd_rat
theorem rd_ratss : Rdr enc Try.prog Rows.uptoBulk M 25 tRLL (fun l => l.length ≤ M ∧ ∀ x ∈ l, x.length ≤ M ∧ ∀ r ∈ x, r.mag.length ≤ M ∧ r.den.length ≤ M) :=
  rdr_slice (sz := 1) bulk_ok Try.underlying25 (by kernel_rfl) (by decide) (fun _ => rfl) rd_rats
theorem rd_strs : Rdr enc Try.prog Rows.uptoBulk M 22 tSL (fun l => l.length ≤ M) :=
  rdr_map (fun l => l) (fun _ => rfl) (fun _ h => h.1) (rdr_slice (sz := 1) bulk_ok Try.underlying22 (by kernel_rfl) (by decide) (fun _ => rfl) (rdr_string Try.underlying9))
theorem rd_strss : Rdr enc Try.prog Rows.uptoBulk M 23 tSLL (fun l => l.length ≤ M ∧ ∀ x ∈ l, x.length ≤ M) :=
  rdr_slice (sz := 1) bulk_ok Try.underlying23 (by kernel_rfl) (by decide) (fun _ => rfl) rd_strs
theorem rd_ints : Rdr enc Try.prog Rows.uptoBulk M 38 tIL (fun l => l.length ≤ M) :=
  rdr_map (fun l => l) (fun _ => rfl) (fun _ h => h.1) (rdr_slice (sz := 1) bulk_ok Try.underlying38 (by kernel_rfl) (by decide) (fun _ => rfl) (rdr_int Try.underlying3))
theorem rd_intss : Rdr enc Try.prog Rows.uptoBulk M 24 tILL (fun l => l.length ≤ M ∧ ∀ x ∈ l, x.length ≤ M) :=
  rdr_slice (sz := 1) bulk_ok Try.underlying24 (by kernel_rfl) (by decide) (fun _ => rfl) rd_ints
theorem rd_net (hM : M ≤ 1073741824) : Rdr enc Try.prog Rows.uptoBulk M 27 tNt SmOK :=
  rdr_map (fun p : ByteArray × List ByteArray × List (List ByteArray) × List (List Int) × List (List Rt) => ⟨p.1, p.2.1, p.2.2.1, p.2.2.2.1, p.2.2.2.2⟩) (fun _ => rfl)
    (fun _ ⟨_, h1, h2, h3, h4⟩ => ⟨Nat.le_trans h1 hM, Nat.le_trans h2.1 hM, fun x hx => Nat.le_trans (h2.2 x hx) hM, Nat.le_trans h3.1 hM, fun x hx => Nat.le_trans (h3.2 x hx) hM, Nat.le_trans h4.1 hM, fun x hx => Nat.le_trans (h4.2 x hx).1 hM, fun x hx y hy => ⟨Nat.le_trans ((h4.2 x hx).2 y hy).1 hM, Nat.le_trans ((h4.2 x hx).2 y hy).2 hM⟩⟩)
    (rdr_struct5 (s0 := 1) (s1 := 1) (s2 := 1) (s3 := 1) (s4 := 1) bulk_ok Try.underlying27 rfl (by kernel_rfl) rfl (by kernel_rfl) rfl (by kernel_rfl) rfl (by kernel_rfl) rfl (by kernel_rfl) (by kernel_rfl) (rdr_string Try.underlying9) rd_strs rd_strss rd_intss rd_ratss)
end
end Go.Ev
namespace Go.Proofs.Ytfaegonekocakaa.lawModelSame
open Go.Ev Go.ChangeShapes Go.WideShapes Go.ChangeAt Go.RowKit
set_option linter.unusedVariables false
set_option linter.unusedSimpArgs false
theorem own : ownKnob Try.prog.godebug = none := by kernel_rfl
theorem laidOut : laidOutB Try.prog = true := by kernel_rfl
/-- an argument: a network, of bounded bulk -/
theorem open_net {H : Type} {enc : TypeId × Value → H} {W : World} {base : Nat} {v : Value} {d : DataW H} {p : List MemPlace} (hval : Value.okWide Try.prog W .any base 27 v)
    (h : DataW.Trod enc Try.prog W 0 (fun _ => true) true 27 v d p) (hb : Rows.uptoBulk d ≤ 1048576) : ∃ n : Nt, SmOK n ∧ RdT (memS W) (tNt n) v := by
  unfold Value.okWide at hval
  rw [Try.underlying27] at hval
  obtain ⟨cs, rfl, _, _⟩ := hval
  obtain ⟨fuel, hf⟩ := h
  obtain ⟨n, h1, h2⟩ := rd_net (enc := enc) (M := 1048576) (by decide) W _ _ fuel _ d p hf hb
  exact ⟨n, h1, rd_agg h2⟩
/-- WHAT THE WALK GIVES, FOR ALL ARGUMENTS OF BOUNDED BULK. -/
theorem contract (H : Type) (enc : TypeId × Value → H) (W : World) (base : Nat) (args : Array Value) (ds gs : List (DataW H)) (before : List MemPlace)
    (hval : ∀ (j : Nat) t v, Try.f3.params[j]? = some t → args[j]? = some v → Value.okWide Try.prog W .any base t v)
    (hW : DataW.Whole enc Try.prog Try.f3.params.toList Rows.modelSameSpec.vars false W args.toList ds gs before) (hk : Rows.uptoSmall H (ds ++ gs) = true) :
    Calls Try.prog 3 args W fun e W' => ∃ v, e = .returned v ∧ Rows.modelSameSpec.post enc Try.prog Try.f3 false true false false W args v W' := by
  have hW' := hW
  obtain ⟨p, q, hA0, hV, rfl, hfz, hnd⟩ := hW
  have hA : DataW.TrodAll enc Try.prog W 0 (fun _ => true) true Try.f3.params.toList args.toList ds p := hA0
  rw [Try.params3] at hA hval
  obtain ⟨v0, v1, d0, d1, p0, p1, rfl, rfl, rfl, h0, h1⟩ := trodAll_two hA
  obtain ⟨rfl, rfl⟩ := trodVars_none hV
  have hb : Rows.uptoBulkAll [d0, d1] ≤ 1048576 := of_decide_eq_true hk
  simp only [Rows.uptoBulkAll] at hb
  obtain ⟨n0, s0, r0⟩ := open_net (hval 0 _ v0 rfl rfl) h0 (by omega)
  obtain ⟨n1, s1, r1⟩ := open_net (hval 1 _ v1 rfl rfl) h1 (by omega)
  have hlt : ∀ x ∈ p0 ++ p1, x.block < W.heap.size := fun x hx => hW'.lt x (by simpa using hx)
  refine ((ModelSame_ok n0 n1 s0 s1).2 (memS W) W #[v0, v1] (fun b o c h => h) ⟨rfl, fun j t x ht hx => ?_⟩).mono fun e W' hp => ?_
  · match j with
    | 0 => simp at ht hx; subst ht; subst hx; exact r0
    | 1 => simp at ht hx; subst ht; subst hx; exact r1
    | j + 2 => simp at ht
  · obtain ⟨v, N, rfl, hbelow, _, hr⟩ := hp
    have hv : v = .bool true := by cases hr; rfl
    subst hv
    refine ⟨_, rfl, _, _, _, [], p0 ++ p1, [], hW', ?_, ?_, ?_, World.keptBut_mono (fun p hp => ⟨hp, ?_⟩) (hbelow.frame _), fun h => by cases h⟩
    · exact trodAll_cons_mk (shut_bool Try.underlying4 _) trodAll_mk0
    · exact trodAll_mk2 (Below.trod laidOut (by kernel_rfl) (of_decide_eq_true (by kernel_rfl)) h0 hbelow fun x hx => hlt x (by simp [hx])) (Below.trod laidOut (by kernel_rfl) (of_decide_eq_true (by kernel_rfl)) h1 hbelow fun x hx => hlt x (by simp [hx]))
    · rfl
    · exact .inr (.inl (by simpa using hp))
set_option maxRecDepth 100000 in
theorem lifted (os : Os) (started : os.Started) (H : Type) (enc : TypeId × Value → H) (F : Stop.Interp) :
    ReturnsInHanded {} Try.checked os 3 .any ((Rows.OpenSpec.upto Rows.modelSameSpec).pre6 enc Try.prog Try.f3 Rows.modelSameUptoRow.domain false) (((Rows.OpenSpec.upto Rows.modelSameSpec).at F).post enc Try.prog Try.f3 false true false false) := by
  refine returnsInHanded_of_cond (C := Try.checked) (s := Rows.OpenSpec.upto Rows.modelSameSpec) (k := Rows.uptoSmall) rfl own started (by kernel_rfl) Try.func3
    (OpenSpec.witness (enc := enc) (C := Try.checked) (s := Rows.OpenSpec.upto Rows.modelSameSpec) (k := Rows.uptoSmall) rfl false ⟨#[], #[.agg #[.string .empty, .slice none 0 0, .slice none 0 0, .slice none 0 0, .slice none 0 0], .agg #[.string .empty, .slice none 0 0, .slice none 0 0, .slice none 0 0, .slice none 0 0]], []⟩ 8 (by kernel_rfl) (by kernel_rfl) (by kernel_rfl)
      (x := ([.agg [.lit (.string []), .nil, .nil, .nil, .nil], .agg [.lit (.string []), .nil, .nil, .nil, .nil]], [], [])) (by kernel_rfl) rfl (by kernel_rfl)) ?_
  intro W base args ds gs before hval hW _ hk _
  exact contract H enc W base args ds gs before hval hW hk
theorem over : Rows.modelSameUptoRow.holds Try.pinned (Rows.OpenSpec.upto Rows.modelSameSpec) :=
  OpenClaim.holds_of_cond 3 Try.f3 rfl rfl rfl rfl rfl rfl rfl ⟨rfl, rfl, rfl, rfl, rfl⟩ rfl rfl rfl rfl rfl (by kernel_rfl) Try.func3 (by kernel_rfl)
    (of_decide_eq_true (by kernel_rfl)) (by unfold Func.isWrapper; first | (rw [if_pos (by decide +kernel)]; kernel_rfl) | (rw [if_neg (by decide +kernel)]; exact ⟨rfl, rfl⟩))
    (fun os started H enc _ F => lifted os started H enc F)
theorem proved : Rows.ModelSameUptoSaid :=
  over
end Go.Proofs.Ytfaegonekocakaa.lawModelSame
