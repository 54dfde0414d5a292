import Derived.Test.YtekgeekghclfaaaGreatMChk
import Derived.Test.YtekgeekghclfaaaGreatEvR
import Derived.Test.YtekgeekghclfaaaGreatRows
import Derived.WalkKit
import Derived.ProofKit
import Derived.OpenShut
import Derived.JoinedCond
/-
  'ModelCheckUptoSaid' IS PROVED: WHATEVER THE NETWORK, OF BULK AT MOST 1048576: why it may not be is told as the document tells it, and the network reads as it did. No further condition.
-/
set_option linter.all false
namespace Go.Ev
open Go.Proofs Go.Proofs.YtekgeekghclfaaaGreat
set_option maxRecDepth 10000
set_option linter.unusedSimpArgs false
set_option linter.unusedVariables false
theorem bulk_one {H : Type} (d : DataW H) : 1 ≤ Rows.uptoBulk d := by
  cases d with
  | lit l => cases l <;> simp [Rows.uptoBulk]
  | _ => simp [Rows.uptoBulk]
theorem bulk_part {H : Type} {d : DataW H} {l : List (DataW H)} (h : d ∈ l) : Rows.uptoBulk d ≤ Rows.uptoBulkAll l := by
  induction l with
  | nil => cases h
  | cons x r ih =>
    simp only [Rows.uptoBulkAll]
    rcases List.mem_cons.1 h with rfl | h
    · omega
    · have := ih h; omega
theorem bulk_len {H : Type} (l : List (DataW H)) : l.length ≤ Rows.uptoBulkAll l := by
  induction l with
  | nil => simp [Rows.uptoBulkAll]
  | cons x r ih => have := bulk_one x; simp only [Rows.uptoBulkAll, List.length_cons]; omega
theorem bulk_sum {H : Type} (l : List (DataW H)) : (l.map Rows.uptoBulk).sum = Rows.uptoBulkAll l := by
  induction l with
  | nil => rfl
  | cons x r ih => simp only [Rows.uptoBulkAll, List.map_cons, List.sum_cons, ih]
theorem bulk_ok {H : Type} : Bulk (H := H) Rows.uptoBulk where
  len e s := by have := bulk_len e; simp only [Rows.uptoBulk]; omega
  mem e s d h := by have := bulk_part h; simp only [Rows.uptoBulk]; omega
  part ps d h := by have := bulk_part h; simp only [Rows.uptoBulk]; omega
  sum e s := by have := bulk_sum e; simp only [Rows.uptoBulk]; omega
section
variable {H : Type} {enc : TypeId × Value → H} {M : Nat}
theorem rd_nat : Rdr enc Tryz.prog Rows.uptoBulk M 37 (fun l => tn l) (fun l => l.length ≤ M) :=
  rdr_map (fun l => l) (fun _ => rfl) (fun _ h => h.1) (rdr_slice (sz := 1) bulk_ok Tryz.underlying37 (by kernel_rfl) (by decide) (fun _ => rfl) (rdr_u32 Tryz.underlying46))
theorem rd_int : Rdr enc Tryz.prog Rows.uptoBulk M 39 (fun p : Bool × List UInt32 => tI p.1 p.2) (fun p => p.2.length ≤ M) :=
  rdr_map (fun p => p) (fun _ => rfl) (fun _ h => h.2) (rdr_struct2 (s0 := 1) (s1 := 1) bulk_ok Tryz.underlying39 rfl (by kernel_rfl) rfl (by kernel_rfl) (by kernel_rfl) (rdr_bool Tryz.underlying4) rd_nat)
theorem rd_rat : Rdr enc Tryz.prog Rows.uptoBulk M 41 tRt (fun r => r.mag.length ≤ M ∧ r.den.length ≤ M) :=
  rdr_map (fun p : (Bool × List UInt32) × List UInt32 => ⟨p.1.1, p.1.2, p.2⟩) (fun _ => rfl) (fun _ h => h) (rdr_struct2 (s0 := 2) (s1 := 1) bulk_ok Tryz.underlying41 rfl (by kernel_rfl) rfl (by kernel_rfl) (by kernel_rfl) rd_int rd_nat)
theorem rd_ratM : Rdr enc Tryz.prog Rows.uptoBulk M 41 tRt (fun r => (r.mag.length ≤ M ∧ r.den.length ≤ M) ∧ 1 ≤ M) := fun W sp hd fuel cs d ps h hb => by
  obtain ⟨a, h1, h2⟩ := rd_rat W sp hd fuel cs d ps h hb
  exact ⟨a, ⟨h1, Nat.le_trans (bulk_one d) hb⟩, h2⟩
theorem rd_rats : Rdr enc Tryz.prog Rows.uptoBulk M 48 tRL (fun l => l.length ≤ M ∧ bulkR l ≤ 4 * M) :=
  rdr_map (fun l => l) (fun _ => rfl) (fun _ h => ⟨h.1, h.2.2⟩) (rdr_sliceS (sz := 3) (good := fun m (r : Rt) => (r.mag.length ≤ m ∧ r.den.length ≤ m) ∧ 1 ≤ m) szR 4 bulk_ok Tryz.underlying48 (by kernel_rfl) (by decide) (fun _ => rfl) (fun m => rd_ratM) (fun m a h => by unfold szR; omega) (fun m a hm h => ⟨⟨Nat.le_trans h.1.1 hm, Nat.le_trans h.1.2 hm⟩, Nat.le_trans h.2 hm⟩))
theorem rd_ratss : Rdr enc Tryz.prog Rows.uptoBulk M 25 tRLL (fun l => l.length ≤ M ∧ ∀ x ∈ l, x.length ≤ M ∧ bulkR x ≤ 4 * M) :=
  rdr_slice (sz := 1) bulk_ok Tryz.underlying25 (by kernel_rfl) (by decide) (fun _ => rfl) rd_rats
theorem rd_strs : Rdr enc Tryz.prog Rows.uptoBulk M 22 tSL (fun l => l.length ≤ M) :=
  rdr_map (fun l => l) (fun _ => rfl) (fun _ h => h.1) (rdr_slice (sz := 1) bulk_ok Tryz.underlying22 (by kernel_rfl) (by decide) (fun _ => rfl) (rdr_string Tryz.underlying9))
theorem rd_strss : Rdr enc Tryz.prog Rows.uptoBulk M 23 tSLL (fun l => l.length ≤ M ∧ ∀ x ∈ l, x.length ≤ M) :=
  rdr_slice (sz := 1) bulk_ok Tryz.underlying23 (by kernel_rfl) (by decide) (fun _ => rfl) rd_strs
theorem rd_ints : Rdr enc Tryz.prog Rows.uptoBulk M 31 tIL (fun l => l.length ≤ M) :=
  rdr_map (fun l => l) (fun _ => rfl) (fun _ h => h.1) (rdr_slice (sz := 1) bulk_ok Tryz.underlying31 (by kernel_rfl) (by decide) (fun _ => rfl) (rdr_int Tryz.underlying3))
theorem rd_intss : Rdr enc Tryz.prog Rows.uptoBulk M 24 tILL (fun l => l.length ≤ M ∧ ∀ x ∈ l, x.length ≤ M) :=
  rdr_slice (sz := 1) bulk_ok Tryz.underlying24 (by kernel_rfl) (by decide) (fun _ => rfl) rd_ints
theorem rd_net (hM : M ≤ 1048576) : Rdr enc Tryz.prog Rows.uptoBulk M 27 tNt CkOK :=
  rdr_map (fun p : ByteArray × List ByteArray × List (List ByteArray) × List (List Int) × List (List Rt) => ⟨p.1, p.2.1, p.2.2.1, p.2.2.2.1, p.2.2.2.2⟩) (fun _ => rfl)
    (fun _ ⟨_, h1, h2, h3, h4⟩ => ⟨Nat.le_trans h1 hM, Nat.le_trans h2.1 hM, fun x hx => Nat.le_trans (h2.2 x hx) hM, Nat.le_trans h3.1 hM, fun x hx => Nat.le_trans (h3.2 x hx) hM, Nat.le_trans h4.1 hM, fun x hx => ⟨Nat.le_trans (h4.2 x hx).1 hM, by have := (h4.2 x hx).2; omega⟩⟩)
    (rdr_struct5 (s0 := 1) (s1 := 1) (s2 := 1) (s3 := 1) (s4 := 1) bulk_ok Tryz.underlying27 rfl (by kernel_rfl) rfl (by kernel_rfl) rfl (by kernel_rfl) rfl (by kernel_rfl) rfl (by kernel_rfl) (by kernel_rfl) (rdr_string Tryz.underlying9) rd_strs rd_strss rd_intss rd_ratss)
end
end Go.Ev
namespace Go.Proofs.YtekgeekghclfaaaGreat.lawModelCheck
open Go.Ev Go.ChangeShapes Go.WideShapes Go.ChangeAt Go.RowKit
set_option maxRecDepth 100000
set_option linter.unusedVariables false
set_option linter.unusedSimpArgs false
theorem own : ownKnob Tryz.prog.godebug = none := by kernel_rfl
theorem laidOut : laidOutB Tryz.prog = true := by kernel_rfl
theorem okWide_agg {P : Program} {W : World} {r : Reach} {base : Nat} {t : TypeId} {fs : Array Field} {v : Value} (ht : P.underlying t = some (.struct fs)) (h : Value.okWide P W r base t v) : ∃ cs, v = .agg cs := by
  unfold Value.okWide at h
  rw [ht] at h
  obtain ⟨cs, rfl, _, _⟩ := h
  exact ⟨cs, rfl⟩
/-- an argument: a network, of bounded bulk -/
theorem open_net {H : Type} {enc : TypeId × Value → H} {W : World} {base : Nat} {v : Value} {d : DataW H} {p : List MemPlace} (hval : Value.okWide Tryz.prog W .any base 27 v)
    (h : DataW.Trod enc Tryz.prog W 0 (fun _ => true) true 27 v d p) (hb : Rows.uptoBulk d ≤ 1048576) : ∃ n : Nt, CkOK n ∧ RdT (memS W) (tNt n) v := by
  obtain ⟨cs, rfl⟩ := okWide_agg Tryz.underlying27 hval
  obtain ⟨fuel, hf⟩ := h
  obtain ⟨n, h1, h2⟩ := rd_net (enc := enc) (M := 1048576) (Nat.le_refl _) W _ _ fuel _ d p hf hb
  exact ⟨n, h1, rd_agg h2⟩
/-- WHAT THE WALK GIVES, FOR ALL ARGUMENTS OF BOUNDED BULK. -/
theorem contract (H : Type) (enc : TypeId × Value → H) (W : World) (base : Nat) (args : Array Value) (ds gs : List (DataW H)) (before : List MemPlace)
    (hval : ∀ (j : Nat) t v, Tryz.f3.params[j]? = some t → args[j]? = some v → Value.okWide Tryz.prog W .any base t v)
    (hW : DataW.Whole enc Tryz.prog Tryz.f3.params.toList Rows.modelCheckSpec.vars false W args.toList ds gs before) (hk : Rows.uptoSmall H (ds ++ gs) = true) :
    Calls Tryz.prog 3 args W fun e W' => ∃ v, e = .returned v ∧ Rows.modelCheckSpec.post enc Tryz.prog Tryz.f3 false true false false W args v W' := by
  have hW' := hW
  obtain ⟨p, q, hA0, hV, rfl, hfz, hnd⟩ := hW
  have hA : DataW.TrodAll enc Tryz.prog W 0 (fun _ => true) true Tryz.f3.params.toList args.toList ds p := hA0
  rw [Tryz.params3] at hA hval
  obtain ⟨v0, d0, rfl, rfl, h0⟩ := trodAll_one hA
  obtain ⟨rfl, rfl⟩ := trodVars_none hV
  have hb : Rows.uptoBulkAll [d0] ≤ 1048576 := of_decide_eq_true hk
  simp only [Rows.uptoBulkAll] at hb
  obtain ⟨n0, s0, r0⟩ := open_net (hval 0 _ v0 rfl rfl) h0 (by omega)
  have hlt : ∀ x ∈ p, x.block < W.heap.size := fun x hx => hW'.lt x (by simpa using hx)
  refine ((ModelCheck_ok n0 s0).2 (memS W) W #[v0] (fun b o c h => h) ⟨rfl, fun j t x ht hx => ?_⟩).mono fun e W' hp => ?_
  · match j with
    | 0 => simp at ht hx; subst ht; subst hx; exact r0
    | j + 1 => simp at ht
  · obtain ⟨v, N, rfl, hbelow, _, hr⟩ := hp
    have hv : v = .bool true := by cases hr; rfl
    subst hv
    refine ⟨_, rfl, _, _, _, [], p, [], hW', ?_, ?_, ?_, World.keptBut_mono (fun p hp => ⟨hp, ?_⟩) (hbelow.frame _), fun h => by cases h⟩
    · exact trodAll_cons_mk (shut_bool Tryz.underlying4 _) trodAll_mk0
    · exact trodAll_mk1 (Below.trod laidOut (by kernel_rfl) (of_decide_eq_true (by kernel_rfl)) h0 hbelow fun x hx => hlt x hx)
    · rfl
    · exact .inr (.inl (by simpa using hp))
theorem lifted (os : Os) (started : os.Started) (H : Type) (enc : TypeId × Value → H) (F : Stop.Interp) :
    ReturnsInHanded {} Tryz.checked os 3 .any ((Rows.OpenSpec.upto Rows.modelCheckSpec).pre6 enc Tryz.prog Tryz.f3 Rows.modelCheckUptoRow.domain false) (((Rows.OpenSpec.upto Rows.modelCheckSpec).at F).post enc Tryz.prog Tryz.f3 false true false false) := by
  refine returnsInHanded_of_cond (C := Tryz.checked) (s := Rows.OpenSpec.upto Rows.modelCheckSpec) (k := Rows.uptoSmall) rfl own started (by kernel_rfl) Tryz.func3
    (OpenSpec.witness (enc := enc) (C := Tryz.checked) (s := Rows.OpenSpec.upto Rows.modelCheckSpec) (k := Rows.uptoSmall) rfl false ⟨#[], #[.agg #[.string .empty, .slice none 0 0, .slice none 0 0, .slice none 0 0, .slice none 0 0]], []⟩ 8 (by kernel_rfl) (by kernel_rfl) (by kernel_rfl)
      (x := ([.agg [.lit (.string []), .nil, .nil, .nil, .nil]], [], [])) (by kernel_rfl) rfl (by kernel_rfl)) ?_
  intro W base args ds gs before hval hW _ hk _
  exact contract H enc W base args ds gs before hval hW hk
theorem over : Rows.modelCheckUptoRow.holds Tryz.pinned (Rows.OpenSpec.upto Rows.modelCheckSpec) :=
  OpenClaim.holds_of_cond 3 Tryz.f3 rfl rfl rfl rfl rfl rfl rfl ⟨rfl, rfl, rfl, rfl, rfl⟩ rfl rfl rfl rfl rfl (by kernel_rfl) Tryz.func3 (by kernel_rfl)
    (of_decide_eq_true (by kernel_rfl)) (by unfold Func.isWrapper; first | (rw [if_pos (by decide +kernel)]; kernel_rfl) | (rw [if_neg (by decide +kernel)]; exact ⟨rfl, rfl⟩))
    (fun os started H enc _ F => lifted os started H enc F)
theorem proved : Rows.ModelCheckUptoSaid :=
  over
end Go.Proofs.YtekgeekghclfaaaGreat.lawModelCheck
