/-
  LISTS COMPARED, ELEMENT BY ELEMENT; NETWORKS COMPARED: the walks. Written by a program of our own.
-/
import Derived.Test.YtfaegonekocakaaWhole
set_option linter.all false
namespace Go.Ev
open Go.Proofs
set_option maxRecDepth 10000
set_option maxHeartbeats 4000000
set_option linter.unusedSimpArgs false
set_option linter.unusedVariables false
def allEq {α : Type} (f : α → α → Bool) : List α → List α → Bool
  | [], [] => true
  | x :: r, y :: s => f x y && allEq f r s
  | _, _ => false
theorem allEq_len {α : Type} {f : α → α → Bool} : ∀ {a b : List α}, a.length ≠ b.length → allEq f a b = false
  | [], [], h => absurd rfl h
  | [], _ :: _, _ => rfl
  | _ :: _, [], _ => rfl
  | x :: r, y :: s, h => by
    simp only [allEq]
    rw [allEq_len (by simpa using h), Bool.and_false]
theorem allEq_step {α : Type} [Inhabited α] {f : α → α → Bool} {a b : List α} {i : Nat} (hl : a.length = b.length) (hi : i < a.length) :
    allEq f (a.drop i) (b.drop i) = (f (a.getD i default) (b.getD i default) && allEq f (a.drop (i + 1)) (b.drop (i + 1))) := by
  have hi' : i < b.length := by omega
  rw [List.drop_eq_getElem_cons hi, List.drop_eq_getElem_cons hi']
  simp [allEq, List.getD, hi, hi']
theorem allEq_end {α : Type} {f : α → α → Bool} {a b : List α} {i : Nat} (hl : a.length = b.length) (hi : a.length ≤ i) : allEq f (a.drop i) (b.drop i) = true := by
  rw [List.drop_eq_nil_of_le hi, List.drop_eq_nil_of_le (by omega)]; rfl
theorem allEq_refl {α : Type} {f : α → α → Bool} : ∀ (a : List α), (∀ x ∈ a, f x x = true) → allEq f a a = true
  | [], _ => rfl
  | x :: r, h => by simp only [allEq]; rw [h x (by simp), allEq_refl r fun y hy => h y (by simp [hy])]; rfl
theorem getD_mem {α : Type} [Inhabited α] {l : List α} {i : Nat} (h : i < l.length) : l.getD i default ∈ l := by
  rw [List.getD, List.getElem?_eq_getElem h]; simp
/-- a name; a list of names; an int -/
def tS (s : ByteArray) : T := .con (.string s)
def tSL (l : List ByteArray) : T := .sl (l.map tS)
def tSLL (l : List (List ByteArray)) : T := .sl (l.map tSL)
def tI64 (n : Int) : T := .con (.int .i64 n)
def tIL (l : List Int) : T := .sl (l.map tI64)
def tILL (l : List (List Int)) : T := .sl (l.map tIL)
structure Rt where
  neg : Bool
  mag : List UInt32
  den : List UInt32
instance : Inhabited Rt := ⟨⟨false, [], []⟩⟩
def tRt (r : Rt) : T := tR r.neg r.mag r.den
def tRL (l : List Rt) : T := .sl (l.map tRt)
def tRLL (l : List (List Rt)) : T := .sl (l.map tRL)
def strEq (a b : ByteArray) : Bool := a.toList == b.toList
def intEq (a b : Int) : Bool := a == b
def ratEq (a b : Rt) : Bool := signZ (iv a.neg a.mag * denv b.den - iv b.neg b.mag * denv a.den) == 0
def RtOK (a : Rt) : Prop := a.mag.length ≤ 137438953472 ∧ a.den.length ≤ 137438953472
theorem EqS_ok (a b : List ByteArray) (ha : a.length ≤ 4611686018427387904) (hb : b.length ≤ 4611686018427387904) : Ok Try.prog 8 [tSL a, tSL b] true (.con (.bool (allEq strEq a b))) := by
  refine ok_of_ev (fun _ _ _ h => h) mix Try.func8 rfl rfl (by kernel_rfl) (Nat.le_of_ble_eq_true rfl) ?_
  repeat' (first
      | (with_reducible (first | refine seq_i ?_ | refine blk_i ?_ | refine X.seq_n ?_ | refine X.seq_r ?_ | refine X.seq_x ?_ | refine X.blk_n ?_ | refine X.blk_r ?_ | refine X.blk_s ?_ | refine X.blk_o (by decide) ?_ | refine skip_i ?_ | refine ret_i ?_ | refine exit_i ?_))
      | (with_reducible (refine reg_i ?_); intro K hK)
      | (with_reducible (refine drw_i ?_); intro K hK)
      | ((with_reducible refine cond_t ?hc ?_); (case hc => rfl))
      | ((with_reducible refine cond_f ?hc ?_); (case hc => rfl))
      | ((with_reducible refine cond_m ?_); refine And.intro ?_ ?_; all_goals (intro hb; (try simp only [decide_eq_true_eq, decide_eq_false_iff_not, beq_iff_eq, beq_eq_false_iff_ne, bne_iff_ne, bne_eq_false_iff_eq, Bool.not_eq_true, Bool.not_eq_false, Bool.not_eq_true', Bool.not_eq_false', ne_eq, gt_iff_lt, ge_iff_le, Int.not_lt, Int.not_le, List.length_map, List.length_drop, List.length_take, Decidable.not_not, Bool.and_eq_true, Bool.or_eq_true, true_and, and_true] at hb); (try (exfalso; first | omega | exact Bool.noConfusion hb | exact False.elim hb | exact absurd rfl hb | exact absurd trivial hb))))
      | (refine hK _ ?_; clear hK K)
      | (refine hK _ _ rfl ?_; clear hK K)
      | (have hg := hK; clear hg; refine And.intro rfl ?_)
      | (have hg := hK; clear hg; refine And.intro (allsz_map fun _ => rfl) ?_)
      | (have hg := hK; clear hg; refine And.intro (allv_map fun _ => rfl) ?_)
      | (have hg := hK; clear hg; refine And.intro (allv_map2 fun _ => rfl) ?_)
      | (have hg := hK; clear hg; refine And.intro (Nat.le_of_ble_eq_true rfl) ?_)
      | (have hg := hK; clear hg; refine And.intro (by first | omega | decide | (simp only [Int.toNat_natCast, List.length_map, List.length_drop, List.length_take, List.length_nil, List.length_cons, List.length_append, List.length_replicate, List.length_set, Nat.zero_add]; omega)) ?_)
      | (have hg := hK; clear hg; refine fresh_n ?_)
      | (have hg := hK; clear hg; refine freshO_n ?_)
      | (have hg := hK; clear hg; refine And.intro (by64 (Nat.le_of_ble_eq_true rfl) (by first | omega | (simp only [Int.toNat_natCast, List.length_map, List.length_drop, List.length_take, List.length_nil, List.length_cons, List.length_append, List.length_replicate, List.length_set, Nat.zero_add]; omega))) ?_)
      | (have hg := hK; clear hg; refine And.intro (by64i (Nat.le_of_ble_eq_true rfl) (by first | omega | (simp only [Int.toNat_natCast, List.length_map, List.length_drop, List.length_take, List.length_nil, List.length_cons, List.length_append, List.length_replicate, List.length_set, Nat.zero_add]; omega)) (by first | omega | (simp only [Int.toNat_natCast, List.length_map, List.length_drop, List.length_take, List.length_nil, List.length_cons, List.length_append, List.length_replicate, List.length_set, Nat.zero_add]; omega))) ?_)
      | (have hg := hK; clear hg; refine at_q (by first | omega | (simp only [Int.toNat_natCast, List.length_map, List.length_drop, List.length_take, List.length_nil, List.length_cons, List.length_append, List.length_replicate, List.length_set, Nat.zero_add]; omega)) ?_; intro hu)
      | (have hg := hK; clear hg; refine Exists.intro _ (And.intro (wrapAny (by first | (simp only [kmin, kmax]; omega) | (simp only [kmin, kmax, List.length_map, List.length_replicate, List.length_append]; omega)) (by first | (simp only [kmin, kmax]; omega) | (simp only [kmin, kmax, List.length_map, List.length_replicate, List.length_append]; omega))) ?_))
      | (have hg := hK; clear hg; refine mul_q (by first | omega | (simp only [Int.toNat_natCast, List.length_map, List.length_drop, List.length_take, List.length_nil, List.length_cons, List.length_append, List.length_replicate, List.length_set, Nat.zero_add]; omega)) (by first | omega | (simp only [Int.toNat_natCast, List.length_map, List.length_drop, List.length_take, List.length_nil, List.length_cons, List.length_append, List.length_replicate, List.length_set, Nat.zero_add]; omega)) (by first | omega | (simp only [Int.toNat_natCast, List.length_map, List.length_drop, List.length_take, List.length_nil, List.length_cons, List.length_append, List.length_replicate, List.length_set, Nat.zero_add]; omega)) (by first | omega | (simp only [Int.toNat_natCast, List.length_map, List.length_drop, List.length_take, List.length_nil, List.length_cons, List.length_append, List.length_replicate, List.length_set, Nat.zero_add]; omega)) ?_; intro hm1 hm2)
      | (have hg := hK; clear hg; refine Exists.intro _ (And.intro (at_map (by first | omega | (simp only [Int.toNat_natCast, List.length_map, List.length_drop, List.length_take, List.length_nil, List.length_cons, List.length_append, List.length_replicate, List.length_set, Nat.zero_add]; omega))) ?_))
      | (have hg := hK; clear hg; refine Exists.intro _ (And.intro rfl ?_))
      | (have hg := hK; clear hg; refine And.intro ?_ ?_ <;> (intro hb; (try simp only [decide_eq_true_eq, decide_eq_false_iff_not, beq_iff_eq, beq_eq_false_iff_ne, bne_iff_ne, bne_eq_false_iff_eq, Bool.not_eq_true, Bool.not_eq_false, Bool.not_eq_true', Bool.not_eq_false', ne_eq, gt_iff_lt, ge_iff_le, Int.not_lt, Int.not_le, List.length_map, List.length_drop, List.length_take, Decidable.not_not, Bool.and_eq_true, Bool.or_eq_true, true_and, and_true] at hb); (try (exfalso; first | omega | exact Bool.noConfusion hb | exact False.elim hb | exact absurd rfl hb | exact absurd trivial hb))))
      | (have hg := hK; clear hg; intro b0 hb))
  · exact And.intro trivial (fz_con (by rw [allEq_len (by omega)]))
  have hl : a.length = b.length := by omega
  refine loop_i Nat (fun i => ⟨Try.f8.ntmps, [(0, .ro false (tSL a)), (1, .ro false (tSL b)), (12, .con (.int .i64 a.length)), (13, .con (.int .i64 i))], []⟩) (fun i => i ≤ a.length ∧ allEq strEq a b = allEq strEq (a.drop i) (b.drop i)) (fun i => a.length - i) [] 0 trivial ⟨Nat.zero_le _, rfl⟩ ⟨rfl, ⟨rfl, trivial, rfl, trivial, ?_, trivial, rfl, trivial, trivial⟩, trivial, trivial⟩ ?_
  · show V.con (.int .i64 ((a.map tS).length : Nat)) = _; rw [List.length_map]
  rintro i ⟨h0, h1⟩
  repeat' (first
      | (with_reducible (first | refine seq_i ?_ | refine blk_i ?_ | refine X.seq_n ?_ | refine X.seq_r ?_ | refine X.seq_x ?_ | refine X.blk_n ?_ | refine X.blk_r ?_ | refine X.blk_s ?_ | refine X.blk_o (by decide) ?_ | refine skip_i ?_ | refine ret_i ?_ | refine exit_i ?_))
      | (with_reducible (refine reg_i ?_); intro K hK)
      | (with_reducible (refine drw_i ?_); intro K hK)
      | ((with_reducible refine cond_t ?hc ?_); (case hc => rfl))
      | ((with_reducible refine cond_f ?hc ?_); (case hc => rfl))
      | ((with_reducible refine cond_m ?_); refine And.intro ?_ ?_; all_goals (intro hb; (try simp only [decide_eq_true_eq, decide_eq_false_iff_not, beq_iff_eq, beq_eq_false_iff_ne, bne_iff_ne, bne_eq_false_iff_eq, Bool.not_eq_true, Bool.not_eq_false, Bool.not_eq_true', Bool.not_eq_false', ne_eq, gt_iff_lt, ge_iff_le, Int.not_lt, Int.not_le, List.length_map, List.length_drop, List.length_take, Decidable.not_not, Bool.and_eq_true, Bool.or_eq_true, true_and, and_true] at hb); (try (exfalso; first | omega | exact Bool.noConfusion hb | exact False.elim hb | exact absurd rfl hb | exact absurd trivial hb))))
      | (refine hK _ ?_; clear hK K)
      | (refine hK _ _ rfl ?_; clear hK K)
      | (have hg := hK; clear hg; refine And.intro rfl ?_)
      | (have hg := hK; clear hg; refine And.intro (allsz_map fun _ => rfl) ?_)
      | (have hg := hK; clear hg; refine And.intro (allv_map fun _ => rfl) ?_)
      | (have hg := hK; clear hg; refine And.intro (allv_map2 fun _ => rfl) ?_)
      | (have hg := hK; clear hg; refine And.intro (Nat.le_of_ble_eq_true rfl) ?_)
      | (have hg := hK; clear hg; refine And.intro (by first | omega | decide | (simp only [Int.toNat_natCast, List.length_map, List.length_drop, List.length_take, List.length_nil, List.length_cons, List.length_append, List.length_replicate, List.length_set, Nat.zero_add]; omega)) ?_)
      | (have hg := hK; clear hg; refine fresh_n ?_)
      | (have hg := hK; clear hg; refine freshO_n ?_)
      | (have hg := hK; clear hg; refine And.intro (by64 (Nat.le_of_ble_eq_true rfl) (by first | omega | (simp only [Int.toNat_natCast, List.length_map, List.length_drop, List.length_take, List.length_nil, List.length_cons, List.length_append, List.length_replicate, List.length_set, Nat.zero_add]; omega))) ?_)
      | (have hg := hK; clear hg; refine And.intro (by64i (Nat.le_of_ble_eq_true rfl) (by first | omega | (simp only [Int.toNat_natCast, List.length_map, List.length_drop, List.length_take, List.length_nil, List.length_cons, List.length_append, List.length_replicate, List.length_set, Nat.zero_add]; omega)) (by first | omega | (simp only [Int.toNat_natCast, List.length_map, List.length_drop, List.length_take, List.length_nil, List.length_cons, List.length_append, List.length_replicate, List.length_set, Nat.zero_add]; omega))) ?_)
      | (have hg := hK; clear hg; refine at_q (by first | omega | (simp only [Int.toNat_natCast, List.length_map, List.length_drop, List.length_take, List.length_nil, List.length_cons, List.length_append, List.length_replicate, List.length_set, Nat.zero_add]; omega)) ?_; intro hu)
      | (have hg := hK; clear hg; refine Exists.intro _ (And.intro (wrapAny (by first | (simp only [kmin, kmax]; omega) | (simp only [kmin, kmax, List.length_map, List.length_replicate, List.length_append]; omega)) (by first | (simp only [kmin, kmax]; omega) | (simp only [kmin, kmax, List.length_map, List.length_replicate, List.length_append]; omega))) ?_))
      | (have hg := hK; clear hg; refine mul_q (by first | omega | (simp only [Int.toNat_natCast, List.length_map, List.length_drop, List.length_take, List.length_nil, List.length_cons, List.length_append, List.length_replicate, List.length_set, Nat.zero_add]; omega)) (by first | omega | (simp only [Int.toNat_natCast, List.length_map, List.length_drop, List.length_take, List.length_nil, List.length_cons, List.length_append, List.length_replicate, List.length_set, Nat.zero_add]; omega)) (by first | omega | (simp only [Int.toNat_natCast, List.length_map, List.length_drop, List.length_take, List.length_nil, List.length_cons, List.length_append, List.length_replicate, List.length_set, Nat.zero_add]; omega)) (by first | omega | (simp only [Int.toNat_natCast, List.length_map, List.length_drop, List.length_take, List.length_nil, List.length_cons, List.length_append, List.length_replicate, List.length_set, Nat.zero_add]; omega)) ?_; intro hm1 hm2)
      | (have hg := hK; clear hg; refine Exists.intro _ (And.intro (at_map (by first | omega | (simp only [Int.toNat_natCast, List.length_map, List.length_drop, List.length_take, List.length_nil, List.length_cons, List.length_append, List.length_replicate, List.length_set, Nat.zero_add]; omega))) ?_))
      | (have hg := hK; clear hg; refine Exists.intro _ (And.intro rfl ?_))
      | (have hg := hK; clear hg; refine And.intro ?_ ?_ <;> (intro hb; (try simp only [decide_eq_true_eq, decide_eq_false_iff_not, beq_iff_eq, beq_eq_false_iff_ne, bne_iff_ne, bne_eq_false_iff_eq, Bool.not_eq_true, Bool.not_eq_false, Bool.not_eq_true', Bool.not_eq_false', ne_eq, gt_iff_lt, ge_iff_le, Int.not_lt, Int.not_le, List.length_map, List.length_drop, List.length_take, Decidable.not_not, Bool.and_eq_true, Bool.or_eq_true, true_and, and_true] at hb); (try (exfalso; first | omega | exact Bool.noConfusion hb | exact False.elim hb | exact absurd rfl hb | exact absurd trivial hb))))
      | (have hg := hK; clear hg; intro b0 hb))
  · refine And.intro trivial (fz_con ?_)
    rw [h1, allEq_step hl (by omega)]
    have : strEq (a.getD i default) (b.getD i default) = false := by simpa [strEq] using hb
    rw [this]; rfl
  · refine ⟨i + 1, ⟨by omega, ?_⟩, by omega, rfl, ⟨rfl, trivial, rfl, trivial, rfl, trivial, rfl, trivial, trivial⟩, trivial, trivial⟩
    rw [h1, allEq_step hl (by omega)]
    have : strEq (a.getD i default) (b.getD i default) = true := by simpa [strEq] using hb
    rw [this]; rfl
  · refine And.intro trivial (fz_con ?_)
    rw [h1, allEq_end hl (by omega)]
theorem EqI_ok (a b : List Int) (ha : a.length ≤ 4611686018427387904) (hb : b.length ≤ 4611686018427387904) : Ok Try.prog 11 [tIL a, tIL b] true (.con (.bool (allEq intEq a b))) := by
  refine ok_of_ev (fun _ _ _ h => h) mix Try.func11 rfl rfl (by kernel_rfl) (Nat.le_of_ble_eq_true rfl) ?_
  repeat' (first
      | (with_reducible (first | refine seq_i ?_ | refine blk_i ?_ | refine X.seq_n ?_ | refine X.seq_r ?_ | refine X.seq_x ?_ | refine X.blk_n ?_ | refine X.blk_r ?_ | refine X.blk_s ?_ | refine X.blk_o (by decide) ?_ | refine skip_i ?_ | refine ret_i ?_ | refine exit_i ?_))
      | (with_reducible (refine reg_i ?_); intro K hK)
      | (with_reducible (refine drw_i ?_); intro K hK)
      | ((with_reducible refine cond_t ?hc ?_); (case hc => rfl))
      | ((with_reducible refine cond_f ?hc ?_); (case hc => rfl))
      | ((with_reducible refine cond_m ?_); refine And.intro ?_ ?_; all_goals (intro hb; (try simp only [decide_eq_true_eq, decide_eq_false_iff_not, beq_iff_eq, beq_eq_false_iff_ne, bne_iff_ne, bne_eq_false_iff_eq, Bool.not_eq_true, Bool.not_eq_false, Bool.not_eq_true', Bool.not_eq_false', ne_eq, gt_iff_lt, ge_iff_le, Int.not_lt, Int.not_le, List.length_map, List.length_drop, List.length_take, Decidable.not_not, Bool.and_eq_true, Bool.or_eq_true, true_and, and_true] at hb); (try (exfalso; first | omega | exact Bool.noConfusion hb | exact False.elim hb | exact absurd rfl hb | exact absurd trivial hb))))
      | (refine hK _ ?_; clear hK K)
      | (refine hK _ _ rfl ?_; clear hK K)
      | (have hg := hK; clear hg; refine And.intro rfl ?_)
      | (have hg := hK; clear hg; refine And.intro (allsz_map fun _ => rfl) ?_)
      | (have hg := hK; clear hg; refine And.intro (allv_map fun _ => rfl) ?_)
      | (have hg := hK; clear hg; refine And.intro (allv_map2 fun _ => rfl) ?_)
      | (have hg := hK; clear hg; refine And.intro (Nat.le_of_ble_eq_true rfl) ?_)
      | (have hg := hK; clear hg; refine And.intro (by first | omega | decide | (simp only [Int.toNat_natCast, List.length_map, List.length_drop, List.length_take, List.length_nil, List.length_cons, List.length_append, List.length_replicate, List.length_set, Nat.zero_add]; omega)) ?_)
      | (have hg := hK; clear hg; refine fresh_n ?_)
      | (have hg := hK; clear hg; refine freshO_n ?_)
      | (have hg := hK; clear hg; refine And.intro (by64 (Nat.le_of_ble_eq_true rfl) (by first | omega | (simp only [Int.toNat_natCast, List.length_map, List.length_drop, List.length_take, List.length_nil, List.length_cons, List.length_append, List.length_replicate, List.length_set, Nat.zero_add]; omega))) ?_)
      | (have hg := hK; clear hg; refine And.intro (by64i (Nat.le_of_ble_eq_true rfl) (by first | omega | (simp only [Int.toNat_natCast, List.length_map, List.length_drop, List.length_take, List.length_nil, List.length_cons, List.length_append, List.length_replicate, List.length_set, Nat.zero_add]; omega)) (by first | omega | (simp only [Int.toNat_natCast, List.length_map, List.length_drop, List.length_take, List.length_nil, List.length_cons, List.length_append, List.length_replicate, List.length_set, Nat.zero_add]; omega))) ?_)
      | (have hg := hK; clear hg; refine at_q (by first | omega | (simp only [Int.toNat_natCast, List.length_map, List.length_drop, List.length_take, List.length_nil, List.length_cons, List.length_append, List.length_replicate, List.length_set, Nat.zero_add]; omega)) ?_; intro hu)
      | (have hg := hK; clear hg; refine Exists.intro _ (And.intro (wrapAny (by first | (simp only [kmin, kmax]; omega) | (simp only [kmin, kmax, List.length_map, List.length_replicate, List.length_append]; omega)) (by first | (simp only [kmin, kmax]; omega) | (simp only [kmin, kmax, List.length_map, List.length_replicate, List.length_append]; omega))) ?_))
      | (have hg := hK; clear hg; refine mul_q (by first | omega | (simp only [Int.toNat_natCast, List.length_map, List.length_drop, List.length_take, List.length_nil, List.length_cons, List.length_append, List.length_replicate, List.length_set, Nat.zero_add]; omega)) (by first | omega | (simp only [Int.toNat_natCast, List.length_map, List.length_drop, List.length_take, List.length_nil, List.length_cons, List.length_append, List.length_replicate, List.length_set, Nat.zero_add]; omega)) (by first | omega | (simp only [Int.toNat_natCast, List.length_map, List.length_drop, List.length_take, List.length_nil, List.length_cons, List.length_append, List.length_replicate, List.length_set, Nat.zero_add]; omega)) (by first | omega | (simp only [Int.toNat_natCast, List.length_map, List.length_drop, List.length_take, List.length_nil, List.length_cons, List.length_append, List.length_replicate, List.length_set, Nat.zero_add]; omega)) ?_; intro hm1 hm2)
      | (have hg := hK; clear hg; refine Exists.intro _ (And.intro (at_map (by first | omega | (simp only [Int.toNat_natCast, List.length_map, List.length_drop, List.length_take, List.length_nil, List.length_cons, List.length_append, List.length_replicate, List.length_set, Nat.zero_add]; omega))) ?_))
      | (have hg := hK; clear hg; refine Exists.intro _ (And.intro rfl ?_))
      | (have hg := hK; clear hg; refine And.intro ?_ ?_ <;> (intro hb; (try simp only [decide_eq_true_eq, decide_eq_false_iff_not, beq_iff_eq, beq_eq_false_iff_ne, bne_iff_ne, bne_eq_false_iff_eq, Bool.not_eq_true, Bool.not_eq_false, Bool.not_eq_true', Bool.not_eq_false', ne_eq, gt_iff_lt, ge_iff_le, Int.not_lt, Int.not_le, List.length_map, List.length_drop, List.length_take, Decidable.not_not, Bool.and_eq_true, Bool.or_eq_true, true_and, and_true] at hb); (try (exfalso; first | omega | exact Bool.noConfusion hb | exact False.elim hb | exact absurd rfl hb | exact absurd trivial hb))))
      | (have hg := hK; clear hg; intro b0 hb))
  · exact And.intro trivial (fz_con (by rw [allEq_len (by omega)]))
  have hl : a.length = b.length := by omega
  refine loop_i Nat (fun i => ⟨Try.f11.ntmps, [(0, .ro false (tIL a)), (1, .ro false (tIL b)), (12, .con (.int .i64 a.length)), (13, .con (.int .i64 i))], []⟩) (fun i => i ≤ a.length ∧ allEq intEq a b = allEq intEq (a.drop i) (b.drop i)) (fun i => a.length - i) [] 0 trivial ⟨Nat.zero_le _, rfl⟩ ⟨rfl, ⟨rfl, trivial, rfl, trivial, ?_, trivial, rfl, trivial, trivial⟩, trivial, trivial⟩ ?_
  · show V.con (.int .i64 ((a.map tI64).length : Nat)) = _; rw [List.length_map]
  rintro i ⟨h0, h1⟩
  repeat' (first
      | (with_reducible (first | refine seq_i ?_ | refine blk_i ?_ | refine X.seq_n ?_ | refine X.seq_r ?_ | refine X.seq_x ?_ | refine X.blk_n ?_ | refine X.blk_r ?_ | refine X.blk_s ?_ | refine X.blk_o (by decide) ?_ | refine skip_i ?_ | refine ret_i ?_ | refine exit_i ?_))
      | (with_reducible (refine reg_i ?_); intro K hK)
      | (with_reducible (refine drw_i ?_); intro K hK)
      | ((with_reducible refine cond_t ?hc ?_); (case hc => rfl))
      | ((with_reducible refine cond_f ?hc ?_); (case hc => rfl))
      | ((with_reducible refine cond_m ?_); refine And.intro ?_ ?_; all_goals (intro hb; (try simp only [decide_eq_true_eq, decide_eq_false_iff_not, beq_iff_eq, beq_eq_false_iff_ne, bne_iff_ne, bne_eq_false_iff_eq, Bool.not_eq_true, Bool.not_eq_false, Bool.not_eq_true', Bool.not_eq_false', ne_eq, gt_iff_lt, ge_iff_le, Int.not_lt, Int.not_le, List.length_map, List.length_drop, List.length_take, Decidable.not_not, Bool.and_eq_true, Bool.or_eq_true, true_and, and_true] at hb); (try (exfalso; first | omega | exact Bool.noConfusion hb | exact False.elim hb | exact absurd rfl hb | exact absurd trivial hb))))
      | (refine hK _ ?_; clear hK K)
      | (refine hK _ _ rfl ?_; clear hK K)
      | (have hg := hK; clear hg; refine And.intro rfl ?_)
      | (have hg := hK; clear hg; refine And.intro (allsz_map fun _ => rfl) ?_)
      | (have hg := hK; clear hg; refine And.intro (allv_map fun _ => rfl) ?_)
      | (have hg := hK; clear hg; refine And.intro (allv_map2 fun _ => rfl) ?_)
      | (have hg := hK; clear hg; refine And.intro (Nat.le_of_ble_eq_true rfl) ?_)
      | (have hg := hK; clear hg; refine And.intro (by first | omega | decide | (simp only [Int.toNat_natCast, List.length_map, List.length_drop, List.length_take, List.length_nil, List.length_cons, List.length_append, List.length_replicate, List.length_set, Nat.zero_add]; omega)) ?_)
      | (have hg := hK; clear hg; refine fresh_n ?_)
      | (have hg := hK; clear hg; refine freshO_n ?_)
      | (have hg := hK; clear hg; refine And.intro (by64 (Nat.le_of_ble_eq_true rfl) (by first | omega | (simp only [Int.toNat_natCast, List.length_map, List.length_drop, List.length_take, List.length_nil, List.length_cons, List.length_append, List.length_replicate, List.length_set, Nat.zero_add]; omega))) ?_)
      | (have hg := hK; clear hg; refine And.intro (by64i (Nat.le_of_ble_eq_true rfl) (by first | omega | (simp only [Int.toNat_natCast, List.length_map, List.length_drop, List.length_take, List.length_nil, List.length_cons, List.length_append, List.length_replicate, List.length_set, Nat.zero_add]; omega)) (by first | omega | (simp only [Int.toNat_natCast, List.length_map, List.length_drop, List.length_take, List.length_nil, List.length_cons, List.length_append, List.length_replicate, List.length_set, Nat.zero_add]; omega))) ?_)
      | (have hg := hK; clear hg; refine at_q (by first | omega | (simp only [Int.toNat_natCast, List.length_map, List.length_drop, List.length_take, List.length_nil, List.length_cons, List.length_append, List.length_replicate, List.length_set, Nat.zero_add]; omega)) ?_; intro hu)
      | (have hg := hK; clear hg; refine Exists.intro _ (And.intro (wrapAny (by first | (simp only [kmin, kmax]; omega) | (simp only [kmin, kmax, List.length_map, List.length_replicate, List.length_append]; omega)) (by first | (simp only [kmin, kmax]; omega) | (simp only [kmin, kmax, List.length_map, List.length_replicate, List.length_append]; omega))) ?_))
      | (have hg := hK; clear hg; refine mul_q (by first | omega | (simp only [Int.toNat_natCast, List.length_map, List.length_drop, List.length_take, List.length_nil, List.length_cons, List.length_append, List.length_replicate, List.length_set, Nat.zero_add]; omega)) (by first | omega | (simp only [Int.toNat_natCast, List.length_map, List.length_drop, List.length_take, List.length_nil, List.length_cons, List.length_append, List.length_replicate, List.length_set, Nat.zero_add]; omega)) (by first | omega | (simp only [Int.toNat_natCast, List.length_map, List.length_drop, List.length_take, List.length_nil, List.length_cons, List.length_append, List.length_replicate, List.length_set, Nat.zero_add]; omega)) (by first | omega | (simp only [Int.toNat_natCast, List.length_map, List.length_drop, List.length_take, List.length_nil, List.length_cons, List.length_append, List.length_replicate, List.length_set, Nat.zero_add]; omega)) ?_; intro hm1 hm2)
      | (have hg := hK; clear hg; refine Exists.intro _ (And.intro (at_map (by first | omega | (simp only [Int.toNat_natCast, List.length_map, List.length_drop, List.length_take, List.length_nil, List.length_cons, List.length_append, List.length_replicate, List.length_set, Nat.zero_add]; omega))) ?_))
      | (have hg := hK; clear hg; refine Exists.intro _ (And.intro rfl ?_))
      | (have hg := hK; clear hg; refine And.intro ?_ ?_ <;> (intro hb; (try simp only [decide_eq_true_eq, decide_eq_false_iff_not, beq_iff_eq, beq_eq_false_iff_ne, bne_iff_ne, bne_eq_false_iff_eq, Bool.not_eq_true, Bool.not_eq_false, Bool.not_eq_true', Bool.not_eq_false', ne_eq, gt_iff_lt, ge_iff_le, Int.not_lt, Int.not_le, List.length_map, List.length_drop, List.length_take, Decidable.not_not, Bool.and_eq_true, Bool.or_eq_true, true_and, and_true] at hb); (try (exfalso; first | omega | exact Bool.noConfusion hb | exact False.elim hb | exact absurd rfl hb | exact absurd trivial hb))))
      | (have hg := hK; clear hg; intro b0 hb))
  · refine And.intro trivial (fz_con ?_)
    rw [h1, allEq_step hl (by omega)]
    have : intEq (a.getD i default) (b.getD i default) = false := by simpa [intEq] using hb
    rw [this]; rfl
  · refine ⟨i + 1, ⟨by omega, ?_⟩, by omega, rfl, ⟨rfl, trivial, rfl, trivial, rfl, trivial, rfl, trivial, trivial⟩, trivial, trivial⟩
    rw [h1, allEq_step hl (by omega)]
    have : intEq (a.getD i default) (b.getD i default) = true := by simpa [intEq] using hb
    rw [this]; rfl
  · refine And.intro trivial (fz_con ?_)
    rw [h1, allEq_end hl (by omega)]
theorem rEqS_ok (a b : List ByteArray) (ha : a.length ≤ 4611686018427387904) (hb : b.length ≤ 4611686018427387904) : Ok Try.prog 17 [tSL a, tSL b] true (.con (.bool (allEq strEq a b))) := by
  refine ok_of_ev (fun _ _ _ h => h) mix Try.func17 rfl rfl (by kernel_rfl) (Nat.le_of_ble_eq_true rfl) ?_
  repeat' (first
      | (with_reducible (first | refine seq_i ?_ | refine blk_i ?_ | refine X.seq_n ?_ | refine X.seq_r ?_ | refine X.seq_x ?_ | refine X.blk_n ?_ | refine X.blk_r ?_ | refine X.blk_s ?_ | refine X.blk_o (by decide) ?_ | refine skip_i ?_ | refine ret_i ?_ | refine exit_i ?_))
      | (with_reducible (refine reg_i ?_); intro K hK)
      | (with_reducible (refine drw_i ?_); intro K hK)
      | ((with_reducible refine cond_t ?hc ?_); (case hc => rfl))
      | ((with_reducible refine cond_f ?hc ?_); (case hc => rfl))
      | ((with_reducible refine cond_m ?_); refine And.intro ?_ ?_; all_goals (intro hb; (try simp only [decide_eq_true_eq, decide_eq_false_iff_not, beq_iff_eq, beq_eq_false_iff_ne, bne_iff_ne, bne_eq_false_iff_eq, Bool.not_eq_true, Bool.not_eq_false, Bool.not_eq_true', Bool.not_eq_false', ne_eq, gt_iff_lt, ge_iff_le, Int.not_lt, Int.not_le, List.length_map, List.length_drop, List.length_take, Decidable.not_not, Bool.and_eq_true, Bool.or_eq_true, true_and, and_true] at hb); (try (exfalso; first | omega | exact Bool.noConfusion hb | exact False.elim hb | exact absurd rfl hb | exact absurd trivial hb))))
      | (refine hK _ ?_; clear hK K)
      | (refine hK _ _ rfl ?_; clear hK K)
      | (have hg := hK; clear hg; refine And.intro rfl ?_)
      | (have hg := hK; clear hg; refine And.intro (allsz_map fun _ => rfl) ?_)
      | (have hg := hK; clear hg; refine And.intro (allv_map fun _ => rfl) ?_)
      | (have hg := hK; clear hg; refine And.intro (allv_map2 fun _ => rfl) ?_)
      | (have hg := hK; clear hg; refine And.intro (Nat.le_of_ble_eq_true rfl) ?_)
      | (have hg := hK; clear hg; refine And.intro (by first | omega | decide | (simp only [Int.toNat_natCast, List.length_map, List.length_drop, List.length_take, List.length_nil, List.length_cons, List.length_append, List.length_replicate, List.length_set, Nat.zero_add]; omega)) ?_)
      | (have hg := hK; clear hg; refine fresh_n ?_)
      | (have hg := hK; clear hg; refine freshO_n ?_)
      | (have hg := hK; clear hg; refine And.intro (by64 (Nat.le_of_ble_eq_true rfl) (by first | omega | (simp only [Int.toNat_natCast, List.length_map, List.length_drop, List.length_take, List.length_nil, List.length_cons, List.length_append, List.length_replicate, List.length_set, Nat.zero_add]; omega))) ?_)
      | (have hg := hK; clear hg; refine And.intro (by64i (Nat.le_of_ble_eq_true rfl) (by first | omega | (simp only [Int.toNat_natCast, List.length_map, List.length_drop, List.length_take, List.length_nil, List.length_cons, List.length_append, List.length_replicate, List.length_set, Nat.zero_add]; omega)) (by first | omega | (simp only [Int.toNat_natCast, List.length_map, List.length_drop, List.length_take, List.length_nil, List.length_cons, List.length_append, List.length_replicate, List.length_set, Nat.zero_add]; omega))) ?_)
      | (have hg := hK; clear hg; refine at_q (by first | omega | (simp only [Int.toNat_natCast, List.length_map, List.length_drop, List.length_take, List.length_nil, List.length_cons, List.length_append, List.length_replicate, List.length_set, Nat.zero_add]; omega)) ?_; intro hu)
      | (have hg := hK; clear hg; refine Exists.intro _ (And.intro (wrapAny (by first | (simp only [kmin, kmax]; omega) | (simp only [kmin, kmax, List.length_map, List.length_replicate, List.length_append]; omega)) (by first | (simp only [kmin, kmax]; omega) | (simp only [kmin, kmax, List.length_map, List.length_replicate, List.length_append]; omega))) ?_))
      | (have hg := hK; clear hg; refine mul_q (by first | omega | (simp only [Int.toNat_natCast, List.length_map, List.length_drop, List.length_take, List.length_nil, List.length_cons, List.length_append, List.length_replicate, List.length_set, Nat.zero_add]; omega)) (by first | omega | (simp only [Int.toNat_natCast, List.length_map, List.length_drop, List.length_take, List.length_nil, List.length_cons, List.length_append, List.length_replicate, List.length_set, Nat.zero_add]; omega)) (by first | omega | (simp only [Int.toNat_natCast, List.length_map, List.length_drop, List.length_take, List.length_nil, List.length_cons, List.length_append, List.length_replicate, List.length_set, Nat.zero_add]; omega)) (by first | omega | (simp only [Int.toNat_natCast, List.length_map, List.length_drop, List.length_take, List.length_nil, List.length_cons, List.length_append, List.length_replicate, List.length_set, Nat.zero_add]; omega)) ?_; intro hm1 hm2)
      | (have hg := hK; clear hg; refine Exists.intro _ (And.intro (at_map (by first | omega | (simp only [Int.toNat_natCast, List.length_map, List.length_drop, List.length_take, List.length_nil, List.length_cons, List.length_append, List.length_replicate, List.length_set, Nat.zero_add]; omega))) ?_))
      | (have hg := hK; clear hg; refine Exists.intro _ (And.intro rfl ?_))
      | (have hg := hK; clear hg; refine And.intro ?_ ?_ <;> (intro hb; (try simp only [decide_eq_true_eq, decide_eq_false_iff_not, beq_iff_eq, beq_eq_false_iff_ne, bne_iff_ne, bne_eq_false_iff_eq, Bool.not_eq_true, Bool.not_eq_false, Bool.not_eq_true', Bool.not_eq_false', ne_eq, gt_iff_lt, ge_iff_le, Int.not_lt, Int.not_le, List.length_map, List.length_drop, List.length_take, Decidable.not_not, Bool.and_eq_true, Bool.or_eq_true, true_and, and_true] at hb); (try (exfalso; first | omega | exact Bool.noConfusion hb | exact False.elim hb | exact absurd rfl hb | exact absurd trivial hb))))
      | (have hg := hK; clear hg; intro b0 hb))
  · exact And.intro trivial (fz_con (by rw [allEq_len (by omega)]))
  have hl : a.length = b.length := by omega
  refine loop_i Nat (fun i => ⟨Try.f17.ntmps, [(0, .ro false (tSL a)), (1, .ro false (tSL b)), (5, .con (.int .i64 i))], []⟩) (fun i => i ≤ a.length ∧ allEq strEq a b = allEq strEq (a.drop i) (b.drop i)) (fun i => a.length - i) [] 0 trivial ⟨Nat.zero_le _, rfl⟩ ⟨rfl, ⟨rfl, trivial, rfl, trivial, rfl, trivial, trivial⟩, trivial, trivial⟩ ?_
  
  rintro i ⟨h0, h1⟩
  repeat' (first
      | (with_reducible (first | refine seq_i ?_ | refine blk_i ?_ | refine X.seq_n ?_ | refine X.seq_r ?_ | refine X.seq_x ?_ | refine X.blk_n ?_ | refine X.blk_r ?_ | refine X.blk_s ?_ | refine X.blk_o (by decide) ?_ | refine skip_i ?_ | refine ret_i ?_ | refine exit_i ?_))
      | (with_reducible (refine reg_i ?_); intro K hK)
      | (with_reducible (refine drw_i ?_); intro K hK)
      | ((with_reducible refine cond_t ?hc ?_); (case hc => rfl))
      | ((with_reducible refine cond_f ?hc ?_); (case hc => rfl))
      | ((with_reducible refine cond_m ?_); refine And.intro ?_ ?_; all_goals (intro hb; (try simp only [decide_eq_true_eq, decide_eq_false_iff_not, beq_iff_eq, beq_eq_false_iff_ne, bne_iff_ne, bne_eq_false_iff_eq, Bool.not_eq_true, Bool.not_eq_false, Bool.not_eq_true', Bool.not_eq_false', ne_eq, gt_iff_lt, ge_iff_le, Int.not_lt, Int.not_le, List.length_map, List.length_drop, List.length_take, Decidable.not_not, Bool.and_eq_true, Bool.or_eq_true, true_and, and_true] at hb); (try (exfalso; first | omega | exact Bool.noConfusion hb | exact False.elim hb | exact absurd rfl hb | exact absurd trivial hb))))
      | (refine hK _ ?_; clear hK K)
      | (refine hK _ _ rfl ?_; clear hK K)
      | (have hg := hK; clear hg; refine And.intro rfl ?_)
      | (have hg := hK; clear hg; refine And.intro (allsz_map fun _ => rfl) ?_)
      | (have hg := hK; clear hg; refine And.intro (allv_map fun _ => rfl) ?_)
      | (have hg := hK; clear hg; refine And.intro (allv_map2 fun _ => rfl) ?_)
      | (have hg := hK; clear hg; refine And.intro (Nat.le_of_ble_eq_true rfl) ?_)
      | (have hg := hK; clear hg; refine And.intro (by first | omega | decide | (simp only [Int.toNat_natCast, List.length_map, List.length_drop, List.length_take, List.length_nil, List.length_cons, List.length_append, List.length_replicate, List.length_set, Nat.zero_add]; omega)) ?_)
      | (have hg := hK; clear hg; refine fresh_n ?_)
      | (have hg := hK; clear hg; refine freshO_n ?_)
      | (have hg := hK; clear hg; refine And.intro (by64 (Nat.le_of_ble_eq_true rfl) (by first | omega | (simp only [Int.toNat_natCast, List.length_map, List.length_drop, List.length_take, List.length_nil, List.length_cons, List.length_append, List.length_replicate, List.length_set, Nat.zero_add]; omega))) ?_)
      | (have hg := hK; clear hg; refine And.intro (by64i (Nat.le_of_ble_eq_true rfl) (by first | omega | (simp only [Int.toNat_natCast, List.length_map, List.length_drop, List.length_take, List.length_nil, List.length_cons, List.length_append, List.length_replicate, List.length_set, Nat.zero_add]; omega)) (by first | omega | (simp only [Int.toNat_natCast, List.length_map, List.length_drop, List.length_take, List.length_nil, List.length_cons, List.length_append, List.length_replicate, List.length_set, Nat.zero_add]; omega))) ?_)
      | (have hg := hK; clear hg; refine at_q (by first | omega | (simp only [Int.toNat_natCast, List.length_map, List.length_drop, List.length_take, List.length_nil, List.length_cons, List.length_append, List.length_replicate, List.length_set, Nat.zero_add]; omega)) ?_; intro hu)
      | (have hg := hK; clear hg; refine Exists.intro _ (And.intro (wrapAny (by first | (simp only [kmin, kmax]; omega) | (simp only [kmin, kmax, List.length_map, List.length_replicate, List.length_append]; omega)) (by first | (simp only [kmin, kmax]; omega) | (simp only [kmin, kmax, List.length_map, List.length_replicate, List.length_append]; omega))) ?_))
      | (have hg := hK; clear hg; refine mul_q (by first | omega | (simp only [Int.toNat_natCast, List.length_map, List.length_drop, List.length_take, List.length_nil, List.length_cons, List.length_append, List.length_replicate, List.length_set, Nat.zero_add]; omega)) (by first | omega | (simp only [Int.toNat_natCast, List.length_map, List.length_drop, List.length_take, List.length_nil, List.length_cons, List.length_append, List.length_replicate, List.length_set, Nat.zero_add]; omega)) (by first | omega | (simp only [Int.toNat_natCast, List.length_map, List.length_drop, List.length_take, List.length_nil, List.length_cons, List.length_append, List.length_replicate, List.length_set, Nat.zero_add]; omega)) (by first | omega | (simp only [Int.toNat_natCast, List.length_map, List.length_drop, List.length_take, List.length_nil, List.length_cons, List.length_append, List.length_replicate, List.length_set, Nat.zero_add]; omega)) ?_; intro hm1 hm2)
      | (have hg := hK; clear hg; refine Exists.intro _ (And.intro (at_map (by first | omega | (simp only [Int.toNat_natCast, List.length_map, List.length_drop, List.length_take, List.length_nil, List.length_cons, List.length_append, List.length_replicate, List.length_set, Nat.zero_add]; omega))) ?_))
      | (have hg := hK; clear hg; refine Exists.intro _ (And.intro rfl ?_))
      | (have hg := hK; clear hg; refine And.intro ?_ ?_ <;> (intro hb; (try simp only [decide_eq_true_eq, decide_eq_false_iff_not, beq_iff_eq, beq_eq_false_iff_ne, bne_iff_ne, bne_eq_false_iff_eq, Bool.not_eq_true, Bool.not_eq_false, Bool.not_eq_true', Bool.not_eq_false', ne_eq, gt_iff_lt, ge_iff_le, Int.not_lt, Int.not_le, List.length_map, List.length_drop, List.length_take, Decidable.not_not, Bool.and_eq_true, Bool.or_eq_true, true_and, and_true] at hb); (try (exfalso; first | omega | exact Bool.noConfusion hb | exact False.elim hb | exact absurd rfl hb | exact absurd trivial hb))))
      | (have hg := hK; clear hg; intro b0 hb))
  · refine And.intro trivial (fz_con ?_)
    rw [h1, allEq_step hl (by omega)]
    have : strEq (a.getD i default) (b.getD i default) = false := by simpa [strEq] using hb
    rw [this]; rfl
  · refine ⟨i + 1, ⟨by omega, ?_⟩, by omega, rfl, ⟨rfl, trivial, rfl, trivial, rfl, trivial, trivial⟩, trivial, trivial⟩
    rw [h1, allEq_step hl (by omega)]
    have : strEq (a.getD i default) (b.getD i default) = true := by simpa [strEq] using hb
    rw [this]; rfl
  · refine And.intro trivial (fz_con ?_)
    rw [h1, allEq_end hl (by omega)]
theorem rEqI_ok (a b : List Int) (ha : a.length ≤ 4611686018427387904) (hb : b.length ≤ 4611686018427387904) : Ok Try.prog 23 [tIL a, tIL b] true (.con (.bool (allEq intEq a b))) := by
  refine ok_of_ev (fun _ _ _ h => h) mix Try.func23 rfl rfl (by kernel_rfl) (Nat.le_of_ble_eq_true rfl) ?_
  repeat' (first
      | (with_reducible (first | refine seq_i ?_ | refine blk_i ?_ | refine X.seq_n ?_ | refine X.seq_r ?_ | refine X.seq_x ?_ | refine X.blk_n ?_ | refine X.blk_r ?_ | refine X.blk_s ?_ | refine X.blk_o (by decide) ?_ | refine skip_i ?_ | refine ret_i ?_ | refine exit_i ?_))
      | (with_reducible (refine reg_i ?_); intro K hK)
      | (with_reducible (refine drw_i ?_); intro K hK)
      | ((with_reducible refine cond_t ?hc ?_); (case hc => rfl))
      | ((with_reducible refine cond_f ?hc ?_); (case hc => rfl))
      | ((with_reducible refine cond_m ?_); refine And.intro ?_ ?_; all_goals (intro hb; (try simp only [decide_eq_true_eq, decide_eq_false_iff_not, beq_iff_eq, beq_eq_false_iff_ne, bne_iff_ne, bne_eq_false_iff_eq, Bool.not_eq_true, Bool.not_eq_false, Bool.not_eq_true', Bool.not_eq_false', ne_eq, gt_iff_lt, ge_iff_le, Int.not_lt, Int.not_le, List.length_map, List.length_drop, List.length_take, Decidable.not_not, Bool.and_eq_true, Bool.or_eq_true, true_and, and_true] at hb); (try (exfalso; first | omega | exact Bool.noConfusion hb | exact False.elim hb | exact absurd rfl hb | exact absurd trivial hb))))
      | (refine hK _ ?_; clear hK K)
      | (refine hK _ _ rfl ?_; clear hK K)
      | (have hg := hK; clear hg; refine And.intro rfl ?_)
      | (have hg := hK; clear hg; refine And.intro (allsz_map fun _ => rfl) ?_)
      | (have hg := hK; clear hg; refine And.intro (allv_map fun _ => rfl) ?_)
      | (have hg := hK; clear hg; refine And.intro (allv_map2 fun _ => rfl) ?_)
      | (have hg := hK; clear hg; refine And.intro (Nat.le_of_ble_eq_true rfl) ?_)
      | (have hg := hK; clear hg; refine And.intro (by first | omega | decide | (simp only [Int.toNat_natCast, List.length_map, List.length_drop, List.length_take, List.length_nil, List.length_cons, List.length_append, List.length_replicate, List.length_set, Nat.zero_add]; omega)) ?_)
      | (have hg := hK; clear hg; refine fresh_n ?_)
      | (have hg := hK; clear hg; refine freshO_n ?_)
      | (have hg := hK; clear hg; refine And.intro (by64 (Nat.le_of_ble_eq_true rfl) (by first | omega | (simp only [Int.toNat_natCast, List.length_map, List.length_drop, List.length_take, List.length_nil, List.length_cons, List.length_append, List.length_replicate, List.length_set, Nat.zero_add]; omega))) ?_)
      | (have hg := hK; clear hg; refine And.intro (by64i (Nat.le_of_ble_eq_true rfl) (by first | omega | (simp only [Int.toNat_natCast, List.length_map, List.length_drop, List.length_take, List.length_nil, List.length_cons, List.length_append, List.length_replicate, List.length_set, Nat.zero_add]; omega)) (by first | omega | (simp only [Int.toNat_natCast, List.length_map, List.length_drop, List.length_take, List.length_nil, List.length_cons, List.length_append, List.length_replicate, List.length_set, Nat.zero_add]; omega))) ?_)
      | (have hg := hK; clear hg; refine at_q (by first | omega | (simp only [Int.toNat_natCast, List.length_map, List.length_drop, List.length_take, List.length_nil, List.length_cons, List.length_append, List.length_replicate, List.length_set, Nat.zero_add]; omega)) ?_; intro hu)
      | (have hg := hK; clear hg; refine Exists.intro _ (And.intro (wrapAny (by first | (simp only [kmin, kmax]; omega) | (simp only [kmin, kmax, List.length_map, List.length_replicate, List.length_append]; omega)) (by first | (simp only [kmin, kmax]; omega) | (simp only [kmin, kmax, List.length_map, List.length_replicate, List.length_append]; omega))) ?_))
      | (have hg := hK; clear hg; refine mul_q (by first | omega | (simp only [Int.toNat_natCast, List.length_map, List.length_drop, List.length_take, List.length_nil, List.length_cons, List.length_append, List.length_replicate, List.length_set, Nat.zero_add]; omega)) (by first | omega | (simp only [Int.toNat_natCast, List.length_map, List.length_drop, List.length_take, List.length_nil, List.length_cons, List.length_append, List.length_replicate, List.length_set, Nat.zero_add]; omega)) (by first | omega | (simp only [Int.toNat_natCast, List.length_map, List.length_drop, List.length_take, List.length_nil, List.length_cons, List.length_append, List.length_replicate, List.length_set, Nat.zero_add]; omega)) (by first | omega | (simp only [Int.toNat_natCast, List.length_map, List.length_drop, List.length_take, List.length_nil, List.length_cons, List.length_append, List.length_replicate, List.length_set, Nat.zero_add]; omega)) ?_; intro hm1 hm2)
      | (have hg := hK; clear hg; refine Exists.intro _ (And.intro (at_map (by first | omega | (simp only [Int.toNat_natCast, List.length_map, List.length_drop, List.length_take, List.length_nil, List.length_cons, List.length_append, List.length_replicate, List.length_set, Nat.zero_add]; omega))) ?_))
      | (have hg := hK; clear hg; refine Exists.intro _ (And.intro rfl ?_))
      | (have hg := hK; clear hg; refine And.intro ?_ ?_ <;> (intro hb; (try simp only [decide_eq_true_eq, decide_eq_false_iff_not, beq_iff_eq, beq_eq_false_iff_ne, bne_iff_ne, bne_eq_false_iff_eq, Bool.not_eq_true, Bool.not_eq_false, Bool.not_eq_true', Bool.not_eq_false', ne_eq, gt_iff_lt, ge_iff_le, Int.not_lt, Int.not_le, List.length_map, List.length_drop, List.length_take, Decidable.not_not, Bool.and_eq_true, Bool.or_eq_true, true_and, and_true] at hb); (try (exfalso; first | omega | exact Bool.noConfusion hb | exact False.elim hb | exact absurd rfl hb | exact absurd trivial hb))))
      | (have hg := hK; clear hg; intro b0 hb))
  · exact And.intro trivial (fz_con (by rw [allEq_len (by omega)]))
  have hl : a.length = b.length := by omega
  refine loop_i Nat (fun i => ⟨Try.f23.ntmps, [(0, .ro false (tIL a)), (1, .ro false (tIL b)), (5, .con (.int .i64 i))], []⟩) (fun i => i ≤ a.length ∧ allEq intEq a b = allEq intEq (a.drop i) (b.drop i)) (fun i => a.length - i) [] 0 trivial ⟨Nat.zero_le _, rfl⟩ ⟨rfl, ⟨rfl, trivial, rfl, trivial, rfl, trivial, trivial⟩, trivial, trivial⟩ ?_
  
  rintro i ⟨h0, h1⟩
  repeat' (first
      | (with_reducible (first | refine seq_i ?_ | refine blk_i ?_ | refine X.seq_n ?_ | refine X.seq_r ?_ | refine X.seq_x ?_ | refine X.blk_n ?_ | refine X.blk_r ?_ | refine X.blk_s ?_ | refine X.blk_o (by decide) ?_ | refine skip_i ?_ | refine ret_i ?_ | refine exit_i ?_))
      | (with_reducible (refine reg_i ?_); intro K hK)
      | (with_reducible (refine drw_i ?_); intro K hK)
      | ((with_reducible refine cond_t ?hc ?_); (case hc => rfl))
      | ((with_reducible refine cond_f ?hc ?_); (case hc => rfl))
      | ((with_reducible refine cond_m ?_); refine And.intro ?_ ?_; all_goals (intro hb; (try simp only [decide_eq_true_eq, decide_eq_false_iff_not, beq_iff_eq, beq_eq_false_iff_ne, bne_iff_ne, bne_eq_false_iff_eq, Bool.not_eq_true, Bool.not_eq_false, Bool.not_eq_true', Bool.not_eq_false', ne_eq, gt_iff_lt, ge_iff_le, Int.not_lt, Int.not_le, List.length_map, List.length_drop, List.length_take, Decidable.not_not, Bool.and_eq_true, Bool.or_eq_true, true_and, and_true] at hb); (try (exfalso; first | omega | exact Bool.noConfusion hb | exact False.elim hb | exact absurd rfl hb | exact absurd trivial hb))))
      | (refine hK _ ?_; clear hK K)
      | (refine hK _ _ rfl ?_; clear hK K)
      | (have hg := hK; clear hg; refine And.intro rfl ?_)
      | (have hg := hK; clear hg; refine And.intro (allsz_map fun _ => rfl) ?_)
      | (have hg := hK; clear hg; refine And.intro (allv_map fun _ => rfl) ?_)
      | (have hg := hK; clear hg; refine And.intro (allv_map2 fun _ => rfl) ?_)
      | (have hg := hK; clear hg; refine And.intro (Nat.le_of_ble_eq_true rfl) ?_)
      | (have hg := hK; clear hg; refine And.intro (by first | omega | decide | (simp only [Int.toNat_natCast, List.length_map, List.length_drop, List.length_take, List.length_nil, List.length_cons, List.length_append, List.length_replicate, List.length_set, Nat.zero_add]; omega)) ?_)
      | (have hg := hK; clear hg; refine fresh_n ?_)
      | (have hg := hK; clear hg; refine freshO_n ?_)
      | (have hg := hK; clear hg; refine And.intro (by64 (Nat.le_of_ble_eq_true rfl) (by first | omega | (simp only [Int.toNat_natCast, List.length_map, List.length_drop, List.length_take, List.length_nil, List.length_cons, List.length_append, List.length_replicate, List.length_set, Nat.zero_add]; omega))) ?_)
      | (have hg := hK; clear hg; refine And.intro (by64i (Nat.le_of_ble_eq_true rfl) (by first | omega | (simp only [Int.toNat_natCast, List.length_map, List.length_drop, List.length_take, List.length_nil, List.length_cons, List.length_append, List.length_replicate, List.length_set, Nat.zero_add]; omega)) (by first | omega | (simp only [Int.toNat_natCast, List.length_map, List.length_drop, List.length_take, List.length_nil, List.length_cons, List.length_append, List.length_replicate, List.length_set, Nat.zero_add]; omega))) ?_)
      | (have hg := hK; clear hg; refine at_q (by first | omega | (simp only [Int.toNat_natCast, List.length_map, List.length_drop, List.length_take, List.length_nil, List.length_cons, List.length_append, List.length_replicate, List.length_set, Nat.zero_add]; omega)) ?_; intro hu)
      | (have hg := hK; clear hg; refine Exists.intro _ (And.intro (wrapAny (by first | (simp only [kmin, kmax]; omega) | (simp only [kmin, kmax, List.length_map, List.length_replicate, List.length_append]; omega)) (by first | (simp only [kmin, kmax]; omega) | (simp only [kmin, kmax, List.length_map, List.length_replicate, List.length_append]; omega))) ?_))
      | (have hg := hK; clear hg; refine mul_q (by first | omega | (simp only [Int.toNat_natCast, List.length_map, List.length_drop, List.length_take, List.length_nil, List.length_cons, List.length_append, List.length_replicate, List.length_set, Nat.zero_add]; omega)) (by first | omega | (simp only [Int.toNat_natCast, List.length_map, List.length_drop, List.length_take, List.length_nil, List.length_cons, List.length_append, List.length_replicate, List.length_set, Nat.zero_add]; omega)) (by first | omega | (simp only [Int.toNat_natCast, List.length_map, List.length_drop, List.length_take, List.length_nil, List.length_cons, List.length_append, List.length_replicate, List.length_set, Nat.zero_add]; omega)) (by first | omega | (simp only [Int.toNat_natCast, List.length_map, List.length_drop, List.length_take, List.length_nil, List.length_cons, List.length_append, List.length_replicate, List.length_set, Nat.zero_add]; omega)) ?_; intro hm1 hm2)
      | (have hg := hK; clear hg; refine Exists.intro _ (And.intro (at_map (by first | omega | (simp only [Int.toNat_natCast, List.length_map, List.length_drop, List.length_take, List.length_nil, List.length_cons, List.length_append, List.length_replicate, List.length_set, Nat.zero_add]; omega))) ?_))
      | (have hg := hK; clear hg; refine Exists.intro _ (And.intro rfl ?_))
      | (have hg := hK; clear hg; refine And.intro ?_ ?_ <;> (intro hb; (try simp only [decide_eq_true_eq, decide_eq_false_iff_not, beq_iff_eq, beq_eq_false_iff_ne, bne_iff_ne, bne_eq_false_iff_eq, Bool.not_eq_true, Bool.not_eq_false, Bool.not_eq_true', Bool.not_eq_false', ne_eq, gt_iff_lt, ge_iff_le, Int.not_lt, Int.not_le, List.length_map, List.length_drop, List.length_take, Decidable.not_not, Bool.and_eq_true, Bool.or_eq_true, true_and, and_true] at hb); (try (exfalso; first | omega | exact Bool.noConfusion hb | exact False.elim hb | exact absurd rfl hb | exact absurd trivial hb))))
      | (have hg := hK; clear hg; intro b0 hb))
  · refine And.intro trivial (fz_con ?_)
    rw [h1, allEq_step hl (by omega)]
    have : intEq (a.getD i default) (b.getD i default) = false := by simpa [intEq] using hb
    rw [this]; rfl
  · refine ⟨i + 1, ⟨by omega, ?_⟩, by omega, rfl, ⟨rfl, trivial, rfl, trivial, rfl, trivial, trivial⟩, trivial, trivial⟩
    rw [h1, allEq_step hl (by omega)]
    have : intEq (a.getD i default) (b.getD i default) = true := by simpa [intEq] using hb
    rw [this]; rfl
  · refine And.intro trivial (fz_con ?_)
    rw [h1, allEq_end hl (by omega)]
theorem EqFS_ok (F : FuncId) (f : List ByteArray → List ByteArray → Bool) (a b : List (List ByteArray)) (ha : a.length ≤ 4611686018427387904) (hb : b.length ≤ 4611686018427387904) (hF : ∀ x ∈ a, ∀ y ∈ b, Ok Try.prog F [tSL x, tSL y] true (.con (.bool (f x y)))) :
    Ok Try.prog 9 [tSLL a, tSLL b, .con (.func (.func F) #[] #[])] true (.con (.bool (allEq f a b))) := by
  refine ok_of_ev (fun _ _ _ h => h) mix Try.func9 rfl rfl (by kernel_rfl) (Nat.le_of_ble_eq_true rfl) ?_
  repeat' (first
      | (with_reducible (first | refine seq_i ?_ | refine blk_i ?_ | refine X.seq_n ?_ | refine X.seq_r ?_ | refine X.seq_x ?_ | refine X.blk_n ?_ | refine X.blk_r ?_ | refine X.blk_s ?_ | refine X.blk_o (by decide) ?_ | refine skip_i ?_ | refine ret_i ?_ | refine exit_i ?_))
      | (with_reducible (refine reg_i ?_); intro K hK)
      | (with_reducible (refine drw_i ?_); intro K hK)
      | ((with_reducible refine cond_t ?hc ?_); (case hc => rfl))
      | ((with_reducible refine cond_f ?hc ?_); (case hc => rfl))
      | ((with_reducible refine cond_m ?_); refine And.intro ?_ ?_; all_goals (intro hb; (try simp only [decide_eq_true_eq, decide_eq_false_iff_not, beq_iff_eq, beq_eq_false_iff_ne, bne_iff_ne, bne_eq_false_iff_eq, Bool.not_eq_true, Bool.not_eq_false, Bool.not_eq_true', Bool.not_eq_false', ne_eq, gt_iff_lt, ge_iff_le, Int.not_lt, Int.not_le, List.length_map, List.length_drop, List.length_take, Decidable.not_not, Bool.and_eq_true, Bool.or_eq_true, true_and, and_true] at hb); (try (exfalso; first | omega | exact Bool.noConfusion hb | exact False.elim hb | exact absurd rfl hb | exact absurd trivial hb))))
      | (refine hK _ ?_; clear hK K)
      | (refine hK _ _ rfl ?_; clear hK K)
      | (have hg := hK; clear hg; refine And.intro rfl ?_)
      | (have hg := hK; clear hg; refine And.intro (allsz_map fun _ => rfl) ?_)
      | (have hg := hK; clear hg; refine And.intro (allv_map fun _ => rfl) ?_)
      | (have hg := hK; clear hg; refine And.intro (allv_map2 fun _ => rfl) ?_)
      | (have hg := hK; clear hg; refine And.intro (Nat.le_of_ble_eq_true rfl) ?_)
      | (have hg := hK; clear hg; refine And.intro (by first | omega | decide | (simp only [Int.toNat_natCast, List.length_map, List.length_drop, List.length_take, List.length_nil, List.length_cons, List.length_append, List.length_replicate, List.length_set, Nat.zero_add]; omega)) ?_)
      | (have hg := hK; clear hg; refine fresh_n ?_)
      | (have hg := hK; clear hg; refine freshO_n ?_)
      | (have hg := hK; clear hg; refine And.intro (by64 (Nat.le_of_ble_eq_true rfl) (by first | omega | (simp only [Int.toNat_natCast, List.length_map, List.length_drop, List.length_take, List.length_nil, List.length_cons, List.length_append, List.length_replicate, List.length_set, Nat.zero_add]; omega))) ?_)
      | (have hg := hK; clear hg; refine And.intro (by64i (Nat.le_of_ble_eq_true rfl) (by first | omega | (simp only [Int.toNat_natCast, List.length_map, List.length_drop, List.length_take, List.length_nil, List.length_cons, List.length_append, List.length_replicate, List.length_set, Nat.zero_add]; omega)) (by first | omega | (simp only [Int.toNat_natCast, List.length_map, List.length_drop, List.length_take, List.length_nil, List.length_cons, List.length_append, List.length_replicate, List.length_set, Nat.zero_add]; omega))) ?_)
      | (have hg := hK; clear hg; refine at_q (by first | omega | (simp only [Int.toNat_natCast, List.length_map, List.length_drop, List.length_take, List.length_nil, List.length_cons, List.length_append, List.length_replicate, List.length_set, Nat.zero_add]; omega)) ?_; intro hu)
      | (have hg := hK; clear hg; refine Exists.intro _ (And.intro (wrapAny (by first | (simp only [kmin, kmax]; omega) | (simp only [kmin, kmax, List.length_map, List.length_replicate, List.length_append]; omega)) (by first | (simp only [kmin, kmax]; omega) | (simp only [kmin, kmax, List.length_map, List.length_replicate, List.length_append]; omega))) ?_))
      | (have hg := hK; clear hg; refine mul_q (by first | omega | (simp only [Int.toNat_natCast, List.length_map, List.length_drop, List.length_take, List.length_nil, List.length_cons, List.length_append, List.length_replicate, List.length_set, Nat.zero_add]; omega)) (by first | omega | (simp only [Int.toNat_natCast, List.length_map, List.length_drop, List.length_take, List.length_nil, List.length_cons, List.length_append, List.length_replicate, List.length_set, Nat.zero_add]; omega)) (by first | omega | (simp only [Int.toNat_natCast, List.length_map, List.length_drop, List.length_take, List.length_nil, List.length_cons, List.length_append, List.length_replicate, List.length_set, Nat.zero_add]; omega)) (by first | omega | (simp only [Int.toNat_natCast, List.length_map, List.length_drop, List.length_take, List.length_nil, List.length_cons, List.length_append, List.length_replicate, List.length_set, Nat.zero_add]; omega)) ?_; intro hm1 hm2)
      | (have hg := hK; clear hg; refine Exists.intro _ (And.intro (at_map (by first | omega | (simp only [Int.toNat_natCast, List.length_map, List.length_drop, List.length_take, List.length_nil, List.length_cons, List.length_append, List.length_replicate, List.length_set, Nat.zero_add]; omega))) ?_))
      | (have hg := hK; clear hg; refine Exists.intro _ (And.intro rfl ?_))
      | (have hg := hK; clear hg; refine And.intro ?_ ?_ <;> (intro hb; (try simp only [decide_eq_true_eq, decide_eq_false_iff_not, beq_iff_eq, beq_eq_false_iff_ne, bne_iff_ne, bne_eq_false_iff_eq, Bool.not_eq_true, Bool.not_eq_false, Bool.not_eq_true', Bool.not_eq_false', ne_eq, gt_iff_lt, ge_iff_le, Int.not_lt, Int.not_le, List.length_map, List.length_drop, List.length_take, Decidable.not_not, Bool.and_eq_true, Bool.or_eq_true, true_and, and_true] at hb); (try (exfalso; first | omega | exact Bool.noConfusion hb | exact False.elim hb | exact absurd rfl hb | exact absurd trivial hb))))
      | (have hg := hK; clear hg; intro b0 hb))
  · exact And.intro trivial (fz_con (by rw [allEq_len (by omega)]))
  have hl : a.length = b.length := by omega
  refine loop_i Nat (fun i => ⟨Try.f9.ntmps, [(0, .ro false (tSLL a)), (1, .ro false (tSLL b)), (2, .con (.func (.func F) #[] #[])), (15, .ro false (tSLL a)), (16, .con (.int .i64 a.length)), (17, .con (.int .i64 i))], []⟩) (fun i => i ≤ a.length ∧ allEq f a b = allEq f (a.drop i) (b.drop i)) (fun i => a.length - i) [] 0 trivial ⟨Nat.zero_le _, rfl⟩ ⟨rfl, ⟨rfl, trivial, rfl, trivial, rfl, trivial, rfl, trivial, ?_, trivial, rfl, trivial, trivial⟩, trivial, trivial⟩ ?_
  · show V.con (.int .i64 ((a.map tSL).length : Nat)) = _; rw [List.length_map]
  rintro i ⟨h0, h1⟩
  repeat' (first
      | (with_reducible (first | refine seq_i ?_ | refine blk_i ?_ | refine X.seq_n ?_ | refine X.seq_r ?_ | refine X.seq_x ?_ | refine X.blk_n ?_ | refine X.blk_r ?_ | refine X.blk_s ?_ | refine X.blk_o (by decide) ?_ | refine skip_i ?_ | refine ret_i ?_ | refine exit_i ?_))
      | (with_reducible (refine reg_i ?_); intro K hK)
      | (with_reducible (refine drw_i ?_); intro K hK)
      | ((with_reducible refine cond_t ?hc ?_); (case hc => rfl))
      | ((with_reducible refine cond_f ?hc ?_); (case hc => rfl))
      | ((with_reducible refine cond_m ?_); refine And.intro ?_ ?_; all_goals (intro hb; (try simp only [decide_eq_true_eq, decide_eq_false_iff_not, beq_iff_eq, beq_eq_false_iff_ne, bne_iff_ne, bne_eq_false_iff_eq, Bool.not_eq_true, Bool.not_eq_false, Bool.not_eq_true', Bool.not_eq_false', ne_eq, gt_iff_lt, ge_iff_le, Int.not_lt, Int.not_le, List.length_map, List.length_drop, List.length_take, Decidable.not_not, Bool.and_eq_true, Bool.or_eq_true, true_and, and_true] at hb); (try (exfalso; first | omega | exact Bool.noConfusion hb | exact False.elim hb | exact absurd rfl hb | exact absurd trivial hb))))
      | (refine hK _ ?_; clear hK K)
      | (refine hK _ _ rfl ?_; clear hK K)
      | (have hg := hK; clear hg; refine And.intro rfl ?_)
      | (have hg := hK; clear hg; refine And.intro (allsz_map fun _ => rfl) ?_)
      | (have hg := hK; clear hg; refine And.intro (allv_map fun _ => rfl) ?_)
      | (have hg := hK; clear hg; refine And.intro (allv_map2 fun _ => rfl) ?_)
      | (have hg := hK; clear hg; refine And.intro (Nat.le_of_ble_eq_true rfl) ?_)
      | (have hg := hK; clear hg; refine And.intro (by first | omega | decide | (simp only [Int.toNat_natCast, List.length_map, List.length_drop, List.length_take, List.length_nil, List.length_cons, List.length_append, List.length_replicate, List.length_set, Nat.zero_add]; omega)) ?_)
      | (have hg := hK; clear hg; refine fresh_n ?_)
      | (have hg := hK; clear hg; refine freshO_n ?_)
      | (have hg := hK; clear hg; refine And.intro (by64 (Nat.le_of_ble_eq_true rfl) (by first | omega | (simp only [Int.toNat_natCast, List.length_map, List.length_drop, List.length_take, List.length_nil, List.length_cons, List.length_append, List.length_replicate, List.length_set, Nat.zero_add]; omega))) ?_)
      | (have hg := hK; clear hg; refine And.intro (by64i (Nat.le_of_ble_eq_true rfl) (by first | omega | (simp only [Int.toNat_natCast, List.length_map, List.length_drop, List.length_take, List.length_nil, List.length_cons, List.length_append, List.length_replicate, List.length_set, Nat.zero_add]; omega)) (by first | omega | (simp only [Int.toNat_natCast, List.length_map, List.length_drop, List.length_take, List.length_nil, List.length_cons, List.length_append, List.length_replicate, List.length_set, Nat.zero_add]; omega))) ?_)
      | (have hg := hK; clear hg; refine at_q (by first | omega | (simp only [Int.toNat_natCast, List.length_map, List.length_drop, List.length_take, List.length_nil, List.length_cons, List.length_append, List.length_replicate, List.length_set, Nat.zero_add]; omega)) ?_; intro hu)
      | (have hg := hK; clear hg; refine Exists.intro _ (And.intro (wrapAny (by first | (simp only [kmin, kmax]; omega) | (simp only [kmin, kmax, List.length_map, List.length_replicate, List.length_append]; omega)) (by first | (simp only [kmin, kmax]; omega) | (simp only [kmin, kmax, List.length_map, List.length_replicate, List.length_append]; omega))) ?_))
      | (have hg := hK; clear hg; refine mul_q (by first | omega | (simp only [Int.toNat_natCast, List.length_map, List.length_drop, List.length_take, List.length_nil, List.length_cons, List.length_append, List.length_replicate, List.length_set, Nat.zero_add]; omega)) (by first | omega | (simp only [Int.toNat_natCast, List.length_map, List.length_drop, List.length_take, List.length_nil, List.length_cons, List.length_append, List.length_replicate, List.length_set, Nat.zero_add]; omega)) (by first | omega | (simp only [Int.toNat_natCast, List.length_map, List.length_drop, List.length_take, List.length_nil, List.length_cons, List.length_append, List.length_replicate, List.length_set, Nat.zero_add]; omega)) (by first | omega | (simp only [Int.toNat_natCast, List.length_map, List.length_drop, List.length_take, List.length_nil, List.length_cons, List.length_append, List.length_replicate, List.length_set, Nat.zero_add]; omega)) ?_; intro hm1 hm2)
      | (have hg := hK; clear hg; refine Exists.intro _ (And.intro (at_map (by first | omega | (simp only [Int.toNat_natCast, List.length_map, List.length_drop, List.length_take, List.length_nil, List.length_cons, List.length_append, List.length_replicate, List.length_set, Nat.zero_add]; omega))) ?_))
      | (have hg := hK; clear hg; refine Exists.intro _ (And.intro rfl ?_))
      | (have hg := hK; clear hg; refine Or.inl (Exists.intro _ (Exists.intro _ (And.intro (hF (a.getD i default) (getD_mem (by omega)) (b.getD i default) (getD_mem (by omega))) ?_))))
      | (have hg := hK; clear hg; refine And.intro ?_ ?_ <;> (intro hb; (try simp only [decide_eq_true_eq, decide_eq_false_iff_not, beq_iff_eq, beq_eq_false_iff_ne, bne_iff_ne, bne_eq_false_iff_eq, Bool.not_eq_true, Bool.not_eq_false, Bool.not_eq_true', Bool.not_eq_false', ne_eq, gt_iff_lt, ge_iff_le, Int.not_lt, Int.not_le, List.length_map, List.length_drop, List.length_take, Decidable.not_not, Bool.and_eq_true, Bool.or_eq_true, true_and, and_true] at hb); (try (exfalso; first | omega | exact Bool.noConfusion hb | exact False.elim hb | exact absurd rfl hb | exact absurd trivial hb))))
      | (have hg := hK; clear hg; intro b0 hb))
  · refine And.intro trivial (fz_con ?_)
    rw [h1, allEq_step hl (by omega)]
    have : f (a.getD i default) (b.getD i default) = false := by simpa using hb
    rw [this]; rfl
  · refine ⟨i + 1, ⟨by omega, ?_⟩, by omega, rfl, ⟨rfl, trivial, rfl, trivial, rfl, trivial, rfl, trivial, rfl, trivial, rfl, trivial, trivial⟩, trivial, trivial⟩
    rw [h1, allEq_step hl (by omega)]
    have : f (a.getD i default) (b.getD i default) = true := by simpa using hb
    rw [this]; rfl
  · refine And.intro trivial (fz_con ?_)
    rw [h1, allEq_end hl (by omega)]
theorem EqFI_ok (F : FuncId) (f : List Int → List Int → Bool) (a b : List (List Int)) (ha : a.length ≤ 4611686018427387904) (hb : b.length ≤ 4611686018427387904) (hF : ∀ x ∈ a, ∀ y ∈ b, Ok Try.prog F [tIL x, tIL y] true (.con (.bool (f x y)))) :
    Ok Try.prog 10 [tILL a, tILL b, .con (.func (.func F) #[] #[])] true (.con (.bool (allEq f a b))) := by
  refine ok_of_ev (fun _ _ _ h => h) mix Try.func10 rfl rfl (by kernel_rfl) (Nat.le_of_ble_eq_true rfl) ?_
  repeat' (first
      | (with_reducible (first | refine seq_i ?_ | refine blk_i ?_ | refine X.seq_n ?_ | refine X.seq_r ?_ | refine X.seq_x ?_ | refine X.blk_n ?_ | refine X.blk_r ?_ | refine X.blk_s ?_ | refine X.blk_o (by decide) ?_ | refine skip_i ?_ | refine ret_i ?_ | refine exit_i ?_))
      | (with_reducible (refine reg_i ?_); intro K hK)
      | (with_reducible (refine drw_i ?_); intro K hK)
      | ((with_reducible refine cond_t ?hc ?_); (case hc => rfl))
      | ((with_reducible refine cond_f ?hc ?_); (case hc => rfl))
      | ((with_reducible refine cond_m ?_); refine And.intro ?_ ?_; all_goals (intro hb; (try simp only [decide_eq_true_eq, decide_eq_false_iff_not, beq_iff_eq, beq_eq_false_iff_ne, bne_iff_ne, bne_eq_false_iff_eq, Bool.not_eq_true, Bool.not_eq_false, Bool.not_eq_true', Bool.not_eq_false', ne_eq, gt_iff_lt, ge_iff_le, Int.not_lt, Int.not_le, List.length_map, List.length_drop, List.length_take, Decidable.not_not, Bool.and_eq_true, Bool.or_eq_true, true_and, and_true] at hb); (try (exfalso; first | omega | exact Bool.noConfusion hb | exact False.elim hb | exact absurd rfl hb | exact absurd trivial hb))))
      | (refine hK _ ?_; clear hK K)
      | (refine hK _ _ rfl ?_; clear hK K)
      | (have hg := hK; clear hg; refine And.intro rfl ?_)
      | (have hg := hK; clear hg; refine And.intro (allsz_map fun _ => rfl) ?_)
      | (have hg := hK; clear hg; refine And.intro (allv_map fun _ => rfl) ?_)
      | (have hg := hK; clear hg; refine And.intro (allv_map2 fun _ => rfl) ?_)
      | (have hg := hK; clear hg; refine And.intro (Nat.le_of_ble_eq_true rfl) ?_)
      | (have hg := hK; clear hg; refine And.intro (by first | omega | decide | (simp only [Int.toNat_natCast, List.length_map, List.length_drop, List.length_take, List.length_nil, List.length_cons, List.length_append, List.length_replicate, List.length_set, Nat.zero_add]; omega)) ?_)
      | (have hg := hK; clear hg; refine fresh_n ?_)
      | (have hg := hK; clear hg; refine freshO_n ?_)
      | (have hg := hK; clear hg; refine And.intro (by64 (Nat.le_of_ble_eq_true rfl) (by first | omega | (simp only [Int.toNat_natCast, List.length_map, List.length_drop, List.length_take, List.length_nil, List.length_cons, List.length_append, List.length_replicate, List.length_set, Nat.zero_add]; omega))) ?_)
      | (have hg := hK; clear hg; refine And.intro (by64i (Nat.le_of_ble_eq_true rfl) (by first | omega | (simp only [Int.toNat_natCast, List.length_map, List.length_drop, List.length_take, List.length_nil, List.length_cons, List.length_append, List.length_replicate, List.length_set, Nat.zero_add]; omega)) (by first | omega | (simp only [Int.toNat_natCast, List.length_map, List.length_drop, List.length_take, List.length_nil, List.length_cons, List.length_append, List.length_replicate, List.length_set, Nat.zero_add]; omega))) ?_)
      | (have hg := hK; clear hg; refine at_q (by first | omega | (simp only [Int.toNat_natCast, List.length_map, List.length_drop, List.length_take, List.length_nil, List.length_cons, List.length_append, List.length_replicate, List.length_set, Nat.zero_add]; omega)) ?_; intro hu)
      | (have hg := hK; clear hg; refine Exists.intro _ (And.intro (wrapAny (by first | (simp only [kmin, kmax]; omega) | (simp only [kmin, kmax, List.length_map, List.length_replicate, List.length_append]; omega)) (by first | (simp only [kmin, kmax]; omega) | (simp only [kmin, kmax, List.length_map, List.length_replicate, List.length_append]; omega))) ?_))
      | (have hg := hK; clear hg; refine mul_q (by first | omega | (simp only [Int.toNat_natCast, List.length_map, List.length_drop, List.length_take, List.length_nil, List.length_cons, List.length_append, List.length_replicate, List.length_set, Nat.zero_add]; omega)) (by first | omega | (simp only [Int.toNat_natCast, List.length_map, List.length_drop, List.length_take, List.length_nil, List.length_cons, List.length_append, List.length_replicate, List.length_set, Nat.zero_add]; omega)) (by first | omega | (simp only [Int.toNat_natCast, List.length_map, List.length_drop, List.length_take, List.length_nil, List.length_cons, List.length_append, List.length_replicate, List.length_set, Nat.zero_add]; omega)) (by first | omega | (simp only [Int.toNat_natCast, List.length_map, List.length_drop, List.length_take, List.length_nil, List.length_cons, List.length_append, List.length_replicate, List.length_set, Nat.zero_add]; omega)) ?_; intro hm1 hm2)
      | (have hg := hK; clear hg; refine Exists.intro _ (And.intro (at_map (by first | omega | (simp only [Int.toNat_natCast, List.length_map, List.length_drop, List.length_take, List.length_nil, List.length_cons, List.length_append, List.length_replicate, List.length_set, Nat.zero_add]; omega))) ?_))
      | (have hg := hK; clear hg; refine Exists.intro _ (And.intro rfl ?_))
      | (have hg := hK; clear hg; refine And.intro ?_ ?_ <;> (intro hb; (try simp only [decide_eq_true_eq, decide_eq_false_iff_not, beq_iff_eq, beq_eq_false_iff_ne, bne_iff_ne, bne_eq_false_iff_eq, Bool.not_eq_true, Bool.not_eq_false, Bool.not_eq_true', Bool.not_eq_false', ne_eq, gt_iff_lt, ge_iff_le, Int.not_lt, Int.not_le, List.length_map, List.length_drop, List.length_take, Decidable.not_not, Bool.and_eq_true, Bool.or_eq_true, true_and, and_true] at hb); (try (exfalso; first | omega | exact Bool.noConfusion hb | exact False.elim hb | exact absurd rfl hb | exact absurd trivial hb))))
      | (have hg := hK; clear hg; intro b0 hb))
  · exact And.intro trivial (fz_con (by rw [allEq_len (by omega)]))
  have hl : a.length = b.length := by omega
  refine loop_i Nat (fun i => ⟨Try.f10.ntmps, [(0, .ro false (tILL a)), (1, .ro false (tILL b)), (2, .con (.func (.func F) #[] #[])), (15, .ro false (tILL a)), (16, .con (.int .i64 a.length)), (17, .con (.int .i64 i))], []⟩) (fun i => i ≤ a.length ∧ allEq f a b = allEq f (a.drop i) (b.drop i)) (fun i => a.length - i) [] 0 trivial ⟨Nat.zero_le _, rfl⟩ ⟨rfl, ⟨rfl, trivial, rfl, trivial, rfl, trivial, rfl, trivial, ?_, trivial, rfl, trivial, trivial⟩, trivial, trivial⟩ ?_
  · show V.con (.int .i64 ((a.map tIL).length : Nat)) = _; rw [List.length_map]
  rintro i ⟨h0, h1⟩
  repeat' (first
      | (with_reducible (first | refine seq_i ?_ | refine blk_i ?_ | refine X.seq_n ?_ | refine X.seq_r ?_ | refine X.seq_x ?_ | refine X.blk_n ?_ | refine X.blk_r ?_ | refine X.blk_s ?_ | refine X.blk_o (by decide) ?_ | refine skip_i ?_ | refine ret_i ?_ | refine exit_i ?_))
      | (with_reducible (refine reg_i ?_); intro K hK)
      | (with_reducible (refine drw_i ?_); intro K hK)
      | ((with_reducible refine cond_t ?hc ?_); (case hc => rfl))
      | ((with_reducible refine cond_f ?hc ?_); (case hc => rfl))
      | ((with_reducible refine cond_m ?_); refine And.intro ?_ ?_; all_goals (intro hb; (try simp only [decide_eq_true_eq, decide_eq_false_iff_not, beq_iff_eq, beq_eq_false_iff_ne, bne_iff_ne, bne_eq_false_iff_eq, Bool.not_eq_true, Bool.not_eq_false, Bool.not_eq_true', Bool.not_eq_false', ne_eq, gt_iff_lt, ge_iff_le, Int.not_lt, Int.not_le, List.length_map, List.length_drop, List.length_take, Decidable.not_not, Bool.and_eq_true, Bool.or_eq_true, true_and, and_true] at hb); (try (exfalso; first | omega | exact Bool.noConfusion hb | exact False.elim hb | exact absurd rfl hb | exact absurd trivial hb))))
      | (refine hK _ ?_; clear hK K)
      | (refine hK _ _ rfl ?_; clear hK K)
      | (have hg := hK; clear hg; refine And.intro rfl ?_)
      | (have hg := hK; clear hg; refine And.intro (allsz_map fun _ => rfl) ?_)
      | (have hg := hK; clear hg; refine And.intro (allv_map fun _ => rfl) ?_)
      | (have hg := hK; clear hg; refine And.intro (allv_map2 fun _ => rfl) ?_)
      | (have hg := hK; clear hg; refine And.intro (Nat.le_of_ble_eq_true rfl) ?_)
      | (have hg := hK; clear hg; refine And.intro (by first | omega | decide | (simp only [Int.toNat_natCast, List.length_map, List.length_drop, List.length_take, List.length_nil, List.length_cons, List.length_append, List.length_replicate, List.length_set, Nat.zero_add]; omega)) ?_)
      | (have hg := hK; clear hg; refine fresh_n ?_)
      | (have hg := hK; clear hg; refine freshO_n ?_)
      | (have hg := hK; clear hg; refine And.intro (by64 (Nat.le_of_ble_eq_true rfl) (by first | omega | (simp only [Int.toNat_natCast, List.length_map, List.length_drop, List.length_take, List.length_nil, List.length_cons, List.length_append, List.length_replicate, List.length_set, Nat.zero_add]; omega))) ?_)
      | (have hg := hK; clear hg; refine And.intro (by64i (Nat.le_of_ble_eq_true rfl) (by first | omega | (simp only [Int.toNat_natCast, List.length_map, List.length_drop, List.length_take, List.length_nil, List.length_cons, List.length_append, List.length_replicate, List.length_set, Nat.zero_add]; omega)) (by first | omega | (simp only [Int.toNat_natCast, List.length_map, List.length_drop, List.length_take, List.length_nil, List.length_cons, List.length_append, List.length_replicate, List.length_set, Nat.zero_add]; omega))) ?_)
      | (have hg := hK; clear hg; refine at_q (by first | omega | (simp only [Int.toNat_natCast, List.length_map, List.length_drop, List.length_take, List.length_nil, List.length_cons, List.length_append, List.length_replicate, List.length_set, Nat.zero_add]; omega)) ?_; intro hu)
      | (have hg := hK; clear hg; refine Exists.intro _ (And.intro (wrapAny (by first | (simp only [kmin, kmax]; omega) | (simp only [kmin, kmax, List.length_map, List.length_replicate, List.length_append]; omega)) (by first | (simp only [kmin, kmax]; omega) | (simp only [kmin, kmax, List.length_map, List.length_replicate, List.length_append]; omega))) ?_))
      | (have hg := hK; clear hg; refine mul_q (by first | omega | (simp only [Int.toNat_natCast, List.length_map, List.length_drop, List.length_take, List.length_nil, List.length_cons, List.length_append, List.length_replicate, List.length_set, Nat.zero_add]; omega)) (by first | omega | (simp only [Int.toNat_natCast, List.length_map, List.length_drop, List.length_take, List.length_nil, List.length_cons, List.length_append, List.length_replicate, List.length_set, Nat.zero_add]; omega)) (by first | omega | (simp only [Int.toNat_natCast, List.length_map, List.length_drop, List.length_take, List.length_nil, List.length_cons, List.length_append, List.length_replicate, List.length_set, Nat.zero_add]; omega)) (by first | omega | (simp only [Int.toNat_natCast, List.length_map, List.length_drop, List.length_take, List.length_nil, List.length_cons, List.length_append, List.length_replicate, List.length_set, Nat.zero_add]; omega)) ?_; intro hm1 hm2)
      | (have hg := hK; clear hg; refine Exists.intro _ (And.intro (at_map (by first | omega | (simp only [Int.toNat_natCast, List.length_map, List.length_drop, List.length_take, List.length_nil, List.length_cons, List.length_append, List.length_replicate, List.length_set, Nat.zero_add]; omega))) ?_))
      | (have hg := hK; clear hg; refine Exists.intro _ (And.intro rfl ?_))
      | (have hg := hK; clear hg; refine Or.inl (Exists.intro _ (Exists.intro _ (And.intro (hF (a.getD i default) (getD_mem (by omega)) (b.getD i default) (getD_mem (by omega))) ?_))))
      | (have hg := hK; clear hg; refine And.intro ?_ ?_ <;> (intro hb; (try simp only [decide_eq_true_eq, decide_eq_false_iff_not, beq_iff_eq, beq_eq_false_iff_ne, bne_iff_ne, bne_eq_false_iff_eq, Bool.not_eq_true, Bool.not_eq_false, Bool.not_eq_true', Bool.not_eq_false', ne_eq, gt_iff_lt, ge_iff_le, Int.not_lt, Int.not_le, List.length_map, List.length_drop, List.length_take, Decidable.not_not, Bool.and_eq_true, Bool.or_eq_true, true_and, and_true] at hb); (try (exfalso; first | omega | exact Bool.noConfusion hb | exact False.elim hb | exact absurd rfl hb | exact absurd trivial hb))))
      | (have hg := hK; clear hg; intro b0 hb))
  · refine And.intro trivial (fz_con ?_)
    rw [h1, allEq_step hl (by omega)]
    have : f (a.getD i default) (b.getD i default) = false := by simpa using hb
    rw [this]; rfl
  · refine ⟨i + 1, ⟨by omega, ?_⟩, by omega, rfl, ⟨rfl, trivial, rfl, trivial, rfl, trivial, rfl, trivial, rfl, trivial, rfl, trivial, trivial⟩, trivial, trivial⟩
    rw [h1, allEq_step hl (by omega)]
    have : f (a.getD i default) (b.getD i default) = true := by simpa using hb
    rw [this]; rfl
  · refine And.intro trivial (fz_con ?_)
    rw [h1, allEq_end hl (by omega)]
theorem EqFRL_ok (F : FuncId) (f : List Rt → List Rt → Bool) (a b : List (List Rt)) (ha : a.length ≤ 4611686018427387904) (hb : b.length ≤ 4611686018427387904) (hF : ∀ x ∈ a, ∀ y ∈ b, Ok Try.prog F [tRL x, tRL y] true (.con (.bool (f x y)))) :
    Ok Try.prog 12 [tRLL a, tRLL b, .con (.func (.func F) #[] #[])] true (.con (.bool (allEq f a b))) := by
  refine ok_of_ev (fun _ _ _ h => h) mix Try.func12 rfl rfl (by kernel_rfl) (Nat.le_of_ble_eq_true rfl) ?_
  repeat' (first
      | (with_reducible (first | refine seq_i ?_ | refine blk_i ?_ | refine X.seq_n ?_ | refine X.seq_r ?_ | refine X.seq_x ?_ | refine X.blk_n ?_ | refine X.blk_r ?_ | refine X.blk_s ?_ | refine X.blk_o (by decide) ?_ | refine skip_i ?_ | refine ret_i ?_ | refine exit_i ?_))
      | (with_reducible (refine reg_i ?_); intro K hK)
      | (with_reducible (refine drw_i ?_); intro K hK)
      | ((with_reducible refine cond_t ?hc ?_); (case hc => rfl))
      | ((with_reducible refine cond_f ?hc ?_); (case hc => rfl))
      | ((with_reducible refine cond_m ?_); refine And.intro ?_ ?_; all_goals (intro hb; (try simp only [decide_eq_true_eq, decide_eq_false_iff_not, beq_iff_eq, beq_eq_false_iff_ne, bne_iff_ne, bne_eq_false_iff_eq, Bool.not_eq_true, Bool.not_eq_false, Bool.not_eq_true', Bool.not_eq_false', ne_eq, gt_iff_lt, ge_iff_le, Int.not_lt, Int.not_le, List.length_map, List.length_drop, List.length_take, Decidable.not_not, Bool.and_eq_true, Bool.or_eq_true, true_and, and_true] at hb); (try (exfalso; first | omega | exact Bool.noConfusion hb | exact False.elim hb | exact absurd rfl hb | exact absurd trivial hb))))
      | (refine hK _ ?_; clear hK K)
      | (refine hK _ _ rfl ?_; clear hK K)
      | (have hg := hK; clear hg; refine And.intro rfl ?_)
      | (have hg := hK; clear hg; refine And.intro (allsz_map fun _ => rfl) ?_)
      | (have hg := hK; clear hg; refine And.intro (allv_map fun _ => rfl) ?_)
      | (have hg := hK; clear hg; refine And.intro (allv_map2 fun _ => rfl) ?_)
      | (have hg := hK; clear hg; refine And.intro (Nat.le_of_ble_eq_true rfl) ?_)
      | (have hg := hK; clear hg; refine And.intro (by first | omega | decide | (simp only [Int.toNat_natCast, List.length_map, List.length_drop, List.length_take, List.length_nil, List.length_cons, List.length_append, List.length_replicate, List.length_set, Nat.zero_add]; omega)) ?_)
      | (have hg := hK; clear hg; refine fresh_n ?_)
      | (have hg := hK; clear hg; refine freshO_n ?_)
      | (have hg := hK; clear hg; refine And.intro (by64 (Nat.le_of_ble_eq_true rfl) (by first | omega | (simp only [Int.toNat_natCast, List.length_map, List.length_drop, List.length_take, List.length_nil, List.length_cons, List.length_append, List.length_replicate, List.length_set, Nat.zero_add]; omega))) ?_)
      | (have hg := hK; clear hg; refine And.intro (by64i (Nat.le_of_ble_eq_true rfl) (by first | omega | (simp only [Int.toNat_natCast, List.length_map, List.length_drop, List.length_take, List.length_nil, List.length_cons, List.length_append, List.length_replicate, List.length_set, Nat.zero_add]; omega)) (by first | omega | (simp only [Int.toNat_natCast, List.length_map, List.length_drop, List.length_take, List.length_nil, List.length_cons, List.length_append, List.length_replicate, List.length_set, Nat.zero_add]; omega))) ?_)
      | (have hg := hK; clear hg; refine at_q (by first | omega | (simp only [Int.toNat_natCast, List.length_map, List.length_drop, List.length_take, List.length_nil, List.length_cons, List.length_append, List.length_replicate, List.length_set, Nat.zero_add]; omega)) ?_; intro hu)
      | (have hg := hK; clear hg; refine Exists.intro _ (And.intro (wrapAny (by first | (simp only [kmin, kmax]; omega) | (simp only [kmin, kmax, List.length_map, List.length_replicate, List.length_append]; omega)) (by first | (simp only [kmin, kmax]; omega) | (simp only [kmin, kmax, List.length_map, List.length_replicate, List.length_append]; omega))) ?_))
      | (have hg := hK; clear hg; refine mul_q (by first | omega | (simp only [Int.toNat_natCast, List.length_map, List.length_drop, List.length_take, List.length_nil, List.length_cons, List.length_append, List.length_replicate, List.length_set, Nat.zero_add]; omega)) (by first | omega | (simp only [Int.toNat_natCast, List.length_map, List.length_drop, List.length_take, List.length_nil, List.length_cons, List.length_append, List.length_replicate, List.length_set, Nat.zero_add]; omega)) (by first | omega | (simp only [Int.toNat_natCast, List.length_map, List.length_drop, List.length_take, List.length_nil, List.length_cons, List.length_append, List.length_replicate, List.length_set, Nat.zero_add]; omega)) (by first | omega | (simp only [Int.toNat_natCast, List.length_map, List.length_drop, List.length_take, List.length_nil, List.length_cons, List.length_append, List.length_replicate, List.length_set, Nat.zero_add]; omega)) ?_; intro hm1 hm2)
      | (have hg := hK; clear hg; refine Exists.intro _ (And.intro (at_map (by first | omega | (simp only [Int.toNat_natCast, List.length_map, List.length_drop, List.length_take, List.length_nil, List.length_cons, List.length_append, List.length_replicate, List.length_set, Nat.zero_add]; omega))) ?_))
      | (have hg := hK; clear hg; refine Exists.intro _ (And.intro rfl ?_))
      | (have hg := hK; clear hg; refine And.intro ?_ ?_ <;> (intro hb; (try simp only [decide_eq_true_eq, decide_eq_false_iff_not, beq_iff_eq, beq_eq_false_iff_ne, bne_iff_ne, bne_eq_false_iff_eq, Bool.not_eq_true, Bool.not_eq_false, Bool.not_eq_true', Bool.not_eq_false', ne_eq, gt_iff_lt, ge_iff_le, Int.not_lt, Int.not_le, List.length_map, List.length_drop, List.length_take, Decidable.not_not, Bool.and_eq_true, Bool.or_eq_true, true_and, and_true] at hb); (try (exfalso; first | omega | exact Bool.noConfusion hb | exact False.elim hb | exact absurd rfl hb | exact absurd trivial hb))))
      | (have hg := hK; clear hg; intro b0 hb))
  · exact And.intro trivial (fz_con (by rw [allEq_len (by omega)]))
  have hl : a.length = b.length := by omega
  refine loop_i Nat (fun i => ⟨Try.f12.ntmps, [(0, .ro false (tRLL a)), (1, .ro false (tRLL b)), (2, .con (.func (.func F) #[] #[])), (15, .ro false (tRLL a)), (16, .con (.int .i64 a.length)), (17, .con (.int .i64 i))], []⟩) (fun i => i ≤ a.length ∧ allEq f a b = allEq f (a.drop i) (b.drop i)) (fun i => a.length - i) [] 0 trivial ⟨Nat.zero_le _, rfl⟩ ⟨rfl, ⟨rfl, trivial, rfl, trivial, rfl, trivial, rfl, trivial, ?_, trivial, rfl, trivial, trivial⟩, trivial, trivial⟩ ?_
  · show V.con (.int .i64 ((a.map tRL).length : Nat)) = _; rw [List.length_map]
  rintro i ⟨h0, h1⟩
  repeat' (first
      | (with_reducible (first | refine seq_i ?_ | refine blk_i ?_ | refine X.seq_n ?_ | refine X.seq_r ?_ | refine X.seq_x ?_ | refine X.blk_n ?_ | refine X.blk_r ?_ | refine X.blk_s ?_ | refine X.blk_o (by decide) ?_ | refine skip_i ?_ | refine ret_i ?_ | refine exit_i ?_))
      | (with_reducible (refine reg_i ?_); intro K hK)
      | (with_reducible (refine drw_i ?_); intro K hK)
      | ((with_reducible refine cond_t ?hc ?_); (case hc => rfl))
      | ((with_reducible refine cond_f ?hc ?_); (case hc => rfl))
      | ((with_reducible refine cond_m ?_); refine And.intro ?_ ?_; all_goals (intro hb; (try simp only [decide_eq_true_eq, decide_eq_false_iff_not, beq_iff_eq, beq_eq_false_iff_ne, bne_iff_ne, bne_eq_false_iff_eq, Bool.not_eq_true, Bool.not_eq_false, Bool.not_eq_true', Bool.not_eq_false', ne_eq, gt_iff_lt, ge_iff_le, Int.not_lt, Int.not_le, List.length_map, List.length_drop, List.length_take, Decidable.not_not, Bool.and_eq_true, Bool.or_eq_true, true_and, and_true] at hb); (try (exfalso; first | omega | exact Bool.noConfusion hb | exact False.elim hb | exact absurd rfl hb | exact absurd trivial hb))))
      | (refine hK _ ?_; clear hK K)
      | (refine hK _ _ rfl ?_; clear hK K)
      | (have hg := hK; clear hg; refine And.intro rfl ?_)
      | (have hg := hK; clear hg; refine And.intro (allsz_map fun _ => rfl) ?_)
      | (have hg := hK; clear hg; refine And.intro (allv_map fun _ => rfl) ?_)
      | (have hg := hK; clear hg; refine And.intro (allv_map2 fun _ => rfl) ?_)
      | (have hg := hK; clear hg; refine And.intro (Nat.le_of_ble_eq_true rfl) ?_)
      | (have hg := hK; clear hg; refine And.intro (by first | omega | decide | (simp only [Int.toNat_natCast, List.length_map, List.length_drop, List.length_take, List.length_nil, List.length_cons, List.length_append, List.length_replicate, List.length_set, Nat.zero_add]; omega)) ?_)
      | (have hg := hK; clear hg; refine fresh_n ?_)
      | (have hg := hK; clear hg; refine freshO_n ?_)
      | (have hg := hK; clear hg; refine And.intro (by64 (Nat.le_of_ble_eq_true rfl) (by first | omega | (simp only [Int.toNat_natCast, List.length_map, List.length_drop, List.length_take, List.length_nil, List.length_cons, List.length_append, List.length_replicate, List.length_set, Nat.zero_add]; omega))) ?_)
      | (have hg := hK; clear hg; refine And.intro (by64i (Nat.le_of_ble_eq_true rfl) (by first | omega | (simp only [Int.toNat_natCast, List.length_map, List.length_drop, List.length_take, List.length_nil, List.length_cons, List.length_append, List.length_replicate, List.length_set, Nat.zero_add]; omega)) (by first | omega | (simp only [Int.toNat_natCast, List.length_map, List.length_drop, List.length_take, List.length_nil, List.length_cons, List.length_append, List.length_replicate, List.length_set, Nat.zero_add]; omega))) ?_)
      | (have hg := hK; clear hg; refine at_q (by first | omega | (simp only [Int.toNat_natCast, List.length_map, List.length_drop, List.length_take, List.length_nil, List.length_cons, List.length_append, List.length_replicate, List.length_set, Nat.zero_add]; omega)) ?_; intro hu)
      | (have hg := hK; clear hg; refine Exists.intro _ (And.intro (wrapAny (by first | (simp only [kmin, kmax]; omega) | (simp only [kmin, kmax, List.length_map, List.length_replicate, List.length_append]; omega)) (by first | (simp only [kmin, kmax]; omega) | (simp only [kmin, kmax, List.length_map, List.length_replicate, List.length_append]; omega))) ?_))
      | (have hg := hK; clear hg; refine mul_q (by first | omega | (simp only [Int.toNat_natCast, List.length_map, List.length_drop, List.length_take, List.length_nil, List.length_cons, List.length_append, List.length_replicate, List.length_set, Nat.zero_add]; omega)) (by first | omega | (simp only [Int.toNat_natCast, List.length_map, List.length_drop, List.length_take, List.length_nil, List.length_cons, List.length_append, List.length_replicate, List.length_set, Nat.zero_add]; omega)) (by first | omega | (simp only [Int.toNat_natCast, List.length_map, List.length_drop, List.length_take, List.length_nil, List.length_cons, List.length_append, List.length_replicate, List.length_set, Nat.zero_add]; omega)) (by first | omega | (simp only [Int.toNat_natCast, List.length_map, List.length_drop, List.length_take, List.length_nil, List.length_cons, List.length_append, List.length_replicate, List.length_set, Nat.zero_add]; omega)) ?_; intro hm1 hm2)
      | (have hg := hK; clear hg; refine Exists.intro _ (And.intro (at_map (by first | omega | (simp only [Int.toNat_natCast, List.length_map, List.length_drop, List.length_take, List.length_nil, List.length_cons, List.length_append, List.length_replicate, List.length_set, Nat.zero_add]; omega))) ?_))
      | (have hg := hK; clear hg; refine Exists.intro _ (And.intro rfl ?_))
      | (have hg := hK; clear hg; refine Or.inl (Exists.intro _ (Exists.intro _ (And.intro (hF (a.getD i default) (getD_mem (by omega)) (b.getD i default) (getD_mem (by omega))) ?_))))
      | (have hg := hK; clear hg; refine And.intro ?_ ?_ <;> (intro hb; (try simp only [decide_eq_true_eq, decide_eq_false_iff_not, beq_iff_eq, beq_eq_false_iff_ne, bne_iff_ne, bne_eq_false_iff_eq, Bool.not_eq_true, Bool.not_eq_false, Bool.not_eq_true', Bool.not_eq_false', ne_eq, gt_iff_lt, ge_iff_le, Int.not_lt, Int.not_le, List.length_map, List.length_drop, List.length_take, Decidable.not_not, Bool.and_eq_true, Bool.or_eq_true, true_and, and_true] at hb); (try (exfalso; first | omega | exact Bool.noConfusion hb | exact False.elim hb | exact absurd rfl hb | exact absurd trivial hb))))
      | (have hg := hK; clear hg; intro b0 hb))
  · refine And.intro trivial (fz_con ?_)
    rw [h1, allEq_step hl (by omega)]
    have : f (a.getD i default) (b.getD i default) = false := by simpa using hb
    rw [this]; rfl
  · refine ⟨i + 1, ⟨by omega, ?_⟩, by omega, rfl, ⟨rfl, trivial, rfl, trivial, rfl, trivial, rfl, trivial, rfl, trivial, rfl, trivial, trivial⟩, trivial, trivial⟩
    rw [h1, allEq_step hl (by omega)]
    have : f (a.getD i default) (b.getD i default) = true := by simpa using hb
    rw [this]; rfl
  · refine And.intro trivial (fz_con ?_)
    rw [h1, allEq_end hl (by omega)]
theorem EqFR_ok (F : FuncId) (f : Rt → Rt → Bool) (a b : List (Rt)) (ha : a.length ≤ 4611686018427387904) (hb : b.length ≤ 4611686018427387904) (hF : ∀ x ∈ a, ∀ y ∈ b, Ok Try.prog F [tRt x, tRt y] true (.con (.bool (f x y)))) :
    Ok Try.prog 14 [tRL a, tRL b, .con (.func (.func F) #[] #[])] true (.con (.bool (allEq f a b))) := by
  refine ok_of_ev (fun _ _ _ h => h) mix Try.func14 rfl rfl (by kernel_rfl) (Nat.le_of_ble_eq_true rfl) ?_
  repeat' (first
      | (with_reducible (first | refine seq_i ?_ | refine blk_i ?_ | refine X.seq_n ?_ | refine X.seq_r ?_ | refine X.seq_x ?_ | refine X.blk_n ?_ | refine X.blk_r ?_ | refine X.blk_s ?_ | refine X.blk_o (by decide) ?_ | refine skip_i ?_ | refine ret_i ?_ | refine exit_i ?_))
      | (with_reducible (refine reg_i ?_); intro K hK)
      | (with_reducible (refine drw_i ?_); intro K hK)
      | ((with_reducible refine cond_t ?hc ?_); (case hc => rfl))
      | ((with_reducible refine cond_f ?hc ?_); (case hc => rfl))
      | ((with_reducible refine cond_m ?_); refine And.intro ?_ ?_; all_goals (intro hb; (try simp only [decide_eq_true_eq, decide_eq_false_iff_not, beq_iff_eq, beq_eq_false_iff_ne, bne_iff_ne, bne_eq_false_iff_eq, Bool.not_eq_true, Bool.not_eq_false, Bool.not_eq_true', Bool.not_eq_false', ne_eq, gt_iff_lt, ge_iff_le, Int.not_lt, Int.not_le, List.length_map, List.length_drop, List.length_take, Decidable.not_not, Bool.and_eq_true, Bool.or_eq_true, true_and, and_true] at hb); (try (exfalso; first | omega | exact Bool.noConfusion hb | exact False.elim hb | exact absurd rfl hb | exact absurd trivial hb))))
      | (refine hK _ ?_; clear hK K)
      | (refine hK _ _ rfl ?_; clear hK K)
      | (have hg := hK; clear hg; refine And.intro rfl ?_)
      | (have hg := hK; clear hg; refine And.intro (allsz_map fun _ => rfl) ?_)
      | (have hg := hK; clear hg; refine And.intro (allv_map fun _ => rfl) ?_)
      | (have hg := hK; clear hg; refine And.intro (allv_map2 fun _ => rfl) ?_)
      | (have hg := hK; clear hg; refine And.intro (Nat.le_of_ble_eq_true rfl) ?_)
      | (have hg := hK; clear hg; refine And.intro (by first | omega | decide | (simp only [Int.toNat_natCast, List.length_map, List.length_drop, List.length_take, List.length_nil, List.length_cons, List.length_append, List.length_replicate, List.length_set, Nat.zero_add]; omega)) ?_)
      | (have hg := hK; clear hg; refine fresh_n ?_)
      | (have hg := hK; clear hg; refine freshO_n ?_)
      | (have hg := hK; clear hg; refine And.intro (by64 (Nat.le_of_ble_eq_true rfl) (by first | omega | (simp only [Int.toNat_natCast, List.length_map, List.length_drop, List.length_take, List.length_nil, List.length_cons, List.length_append, List.length_replicate, List.length_set, Nat.zero_add]; omega))) ?_)
      | (have hg := hK; clear hg; refine And.intro (by64i (Nat.le_of_ble_eq_true rfl) (by first | omega | (simp only [Int.toNat_natCast, List.length_map, List.length_drop, List.length_take, List.length_nil, List.length_cons, List.length_append, List.length_replicate, List.length_set, Nat.zero_add]; omega)) (by first | omega | (simp only [Int.toNat_natCast, List.length_map, List.length_drop, List.length_take, List.length_nil, List.length_cons, List.length_append, List.length_replicate, List.length_set, Nat.zero_add]; omega))) ?_)
      | (have hg := hK; clear hg; refine at_q (by first | omega | (simp only [Int.toNat_natCast, List.length_map, List.length_drop, List.length_take, List.length_nil, List.length_cons, List.length_append, List.length_replicate, List.length_set, Nat.zero_add]; omega)) ?_; intro hu)
      | (have hg := hK; clear hg; refine Exists.intro _ (And.intro (wrapAny (by first | (simp only [kmin, kmax]; omega) | (simp only [kmin, kmax, List.length_map, List.length_replicate, List.length_append]; omega)) (by first | (simp only [kmin, kmax]; omega) | (simp only [kmin, kmax, List.length_map, List.length_replicate, List.length_append]; omega))) ?_))
      | (have hg := hK; clear hg; refine mul_q (by first | omega | (simp only [Int.toNat_natCast, List.length_map, List.length_drop, List.length_take, List.length_nil, List.length_cons, List.length_append, List.length_replicate, List.length_set, Nat.zero_add]; omega)) (by first | omega | (simp only [Int.toNat_natCast, List.length_map, List.length_drop, List.length_take, List.length_nil, List.length_cons, List.length_append, List.length_replicate, List.length_set, Nat.zero_add]; omega)) (by first | omega | (simp only [Int.toNat_natCast, List.length_map, List.length_drop, List.length_take, List.length_nil, List.length_cons, List.length_append, List.length_replicate, List.length_set, Nat.zero_add]; omega)) (by first | omega | (simp only [Int.toNat_natCast, List.length_map, List.length_drop, List.length_take, List.length_nil, List.length_cons, List.length_append, List.length_replicate, List.length_set, Nat.zero_add]; omega)) ?_; intro hm1 hm2)
      | (have hg := hK; clear hg; refine Exists.intro _ (And.intro (at_map (by first | omega | (simp only [Int.toNat_natCast, List.length_map, List.length_drop, List.length_take, List.length_nil, List.length_cons, List.length_append, List.length_replicate, List.length_set, Nat.zero_add]; omega))) ?_))
      | (have hg := hK; clear hg; refine Exists.intro _ (And.intro rfl ?_))
      | (have hg := hK; clear hg; refine And.intro ?_ ?_ <;> (intro hb; (try simp only [decide_eq_true_eq, decide_eq_false_iff_not, beq_iff_eq, beq_eq_false_iff_ne, bne_iff_ne, bne_eq_false_iff_eq, Bool.not_eq_true, Bool.not_eq_false, Bool.not_eq_true', Bool.not_eq_false', ne_eq, gt_iff_lt, ge_iff_le, Int.not_lt, Int.not_le, List.length_map, List.length_drop, List.length_take, Decidable.not_not, Bool.and_eq_true, Bool.or_eq_true, true_and, and_true] at hb); (try (exfalso; first | omega | exact Bool.noConfusion hb | exact False.elim hb | exact absurd rfl hb | exact absurd trivial hb))))
      | (have hg := hK; clear hg; intro b0 hb))
  · exact And.intro trivial (fz_con (by rw [allEq_len (by omega)]))
  have hl : a.length = b.length := by omega
  refine loop_i Nat (fun i => ⟨Try.f14.ntmps, [(0, .ro false (tRL a)), (1, .ro false (tRL b)), (2, .con (.func (.func F) #[] #[])), (15, .ro false (tRL a)), (16, .con (.int .i64 a.length)), (17, .con (.int .i64 i))], []⟩) (fun i => i ≤ a.length ∧ allEq f a b = allEq f (a.drop i) (b.drop i)) (fun i => a.length - i) [] 0 trivial ⟨Nat.zero_le _, rfl⟩ ⟨rfl, ⟨rfl, trivial, rfl, trivial, rfl, trivial, rfl, trivial, ?_, trivial, rfl, trivial, trivial⟩, trivial, trivial⟩ ?_
  · show V.con (.int .i64 ((a.map tRt).length : Nat)) = _; rw [List.length_map]
  rintro i ⟨h0, h1⟩
  repeat' (first
      | (with_reducible (first | refine seq_i ?_ | refine blk_i ?_ | refine X.seq_n ?_ | refine X.seq_r ?_ | refine X.seq_x ?_ | refine X.blk_n ?_ | refine X.blk_r ?_ | refine X.blk_s ?_ | refine X.blk_o (by decide) ?_ | refine skip_i ?_ | refine ret_i ?_ | refine exit_i ?_))
      | (with_reducible (refine reg_i ?_); intro K hK)
      | (with_reducible (refine drw_i ?_); intro K hK)
      | ((with_reducible refine cond_t ?hc ?_); (case hc => rfl))
      | ((with_reducible refine cond_f ?hc ?_); (case hc => rfl))
      | ((with_reducible refine cond_m ?_); refine And.intro ?_ ?_; all_goals (intro hb; (try simp only [decide_eq_true_eq, decide_eq_false_iff_not, beq_iff_eq, beq_eq_false_iff_ne, bne_iff_ne, bne_eq_false_iff_eq, Bool.not_eq_true, Bool.not_eq_false, Bool.not_eq_true', Bool.not_eq_false', ne_eq, gt_iff_lt, ge_iff_le, Int.not_lt, Int.not_le, List.length_map, List.length_drop, List.length_take, Decidable.not_not, Bool.and_eq_true, Bool.or_eq_true, true_and, and_true] at hb); (try (exfalso; first | omega | exact Bool.noConfusion hb | exact False.elim hb | exact absurd rfl hb | exact absurd trivial hb))))
      | (refine hK _ ?_; clear hK K)
      | (refine hK _ _ rfl ?_; clear hK K)
      | (have hg := hK; clear hg; refine And.intro rfl ?_)
      | (have hg := hK; clear hg; refine And.intro (allsz_map fun _ => rfl) ?_)
      | (have hg := hK; clear hg; refine And.intro (allv_map fun _ => rfl) ?_)
      | (have hg := hK; clear hg; refine And.intro (allv_map2 fun _ => rfl) ?_)
      | (have hg := hK; clear hg; refine And.intro (Nat.le_of_ble_eq_true rfl) ?_)
      | (have hg := hK; clear hg; refine And.intro (by first | omega | decide | (simp only [Int.toNat_natCast, List.length_map, List.length_drop, List.length_take, List.length_nil, List.length_cons, List.length_append, List.length_replicate, List.length_set, Nat.zero_add]; omega)) ?_)
      | (have hg := hK; clear hg; refine fresh_n ?_)
      | (have hg := hK; clear hg; refine freshO_n ?_)
      | (have hg := hK; clear hg; refine And.intro (by64 (Nat.le_of_ble_eq_true rfl) (by first | omega | (simp only [Int.toNat_natCast, List.length_map, List.length_drop, List.length_take, List.length_nil, List.length_cons, List.length_append, List.length_replicate, List.length_set, Nat.zero_add]; omega))) ?_)
      | (have hg := hK; clear hg; refine And.intro (by64i (Nat.le_of_ble_eq_true rfl) (by first | omega | (simp only [Int.toNat_natCast, List.length_map, List.length_drop, List.length_take, List.length_nil, List.length_cons, List.length_append, List.length_replicate, List.length_set, Nat.zero_add]; omega)) (by first | omega | (simp only [Int.toNat_natCast, List.length_map, List.length_drop, List.length_take, List.length_nil, List.length_cons, List.length_append, List.length_replicate, List.length_set, Nat.zero_add]; omega))) ?_)
      | (have hg := hK; clear hg; refine at_q (by first | omega | (simp only [Int.toNat_natCast, List.length_map, List.length_drop, List.length_take, List.length_nil, List.length_cons, List.length_append, List.length_replicate, List.length_set, Nat.zero_add]; omega)) ?_; intro hu)
      | (have hg := hK; clear hg; refine Exists.intro _ (And.intro (wrapAny (by first | (simp only [kmin, kmax]; omega) | (simp only [kmin, kmax, List.length_map, List.length_replicate, List.length_append]; omega)) (by first | (simp only [kmin, kmax]; omega) | (simp only [kmin, kmax, List.length_map, List.length_replicate, List.length_append]; omega))) ?_))
      | (have hg := hK; clear hg; refine mul_q (by first | omega | (simp only [Int.toNat_natCast, List.length_map, List.length_drop, List.length_take, List.length_nil, List.length_cons, List.length_append, List.length_replicate, List.length_set, Nat.zero_add]; omega)) (by first | omega | (simp only [Int.toNat_natCast, List.length_map, List.length_drop, List.length_take, List.length_nil, List.length_cons, List.length_append, List.length_replicate, List.length_set, Nat.zero_add]; omega)) (by first | omega | (simp only [Int.toNat_natCast, List.length_map, List.length_drop, List.length_take, List.length_nil, List.length_cons, List.length_append, List.length_replicate, List.length_set, Nat.zero_add]; omega)) (by first | omega | (simp only [Int.toNat_natCast, List.length_map, List.length_drop, List.length_take, List.length_nil, List.length_cons, List.length_append, List.length_replicate, List.length_set, Nat.zero_add]; omega)) ?_; intro hm1 hm2)
      | (have hg := hK; clear hg; refine Exists.intro _ (And.intro (at_map (by first | omega | (simp only [Int.toNat_natCast, List.length_map, List.length_drop, List.length_take, List.length_nil, List.length_cons, List.length_append, List.length_replicate, List.length_set, Nat.zero_add]; omega))) ?_))
      | (have hg := hK; clear hg; refine Exists.intro _ (And.intro rfl ?_))
      | (have hg := hK; clear hg; refine Or.inl (Exists.intro _ (Exists.intro _ (And.intro (hF (a.getD i default) (getD_mem (by omega)) (b.getD i default) (getD_mem (by omega))) ?_))))
      | (have hg := hK; clear hg; refine And.intro ?_ ?_ <;> (intro hb; (try simp only [decide_eq_true_eq, decide_eq_false_iff_not, beq_iff_eq, beq_eq_false_iff_ne, bne_iff_ne, bne_eq_false_iff_eq, Bool.not_eq_true, Bool.not_eq_false, Bool.not_eq_true', Bool.not_eq_false', ne_eq, gt_iff_lt, ge_iff_le, Int.not_lt, Int.not_le, List.length_map, List.length_drop, List.length_take, Decidable.not_not, Bool.and_eq_true, Bool.or_eq_true, true_and, and_true] at hb); (try (exfalso; first | omega | exact Bool.noConfusion hb | exact False.elim hb | exact absurd rfl hb | exact absurd trivial hb))))
      | (have hg := hK; clear hg; intro b0 hb))
  · refine And.intro trivial (fz_con ?_)
    rw [h1, allEq_step hl (by omega)]
    have : f (a.getD i default) (b.getD i default) = false := by simpa using hb
    rw [this]; rfl
  · refine ⟨i + 1, ⟨by omega, ?_⟩, by omega, rfl, ⟨rfl, trivial, rfl, trivial, rfl, trivial, rfl, trivial, rfl, trivial, rfl, trivial, trivial⟩, trivial, trivial⟩
    rw [h1, allEq_step hl (by omega)]
    have : f (a.getD i default) (b.getD i default) = true := by simpa using hb
    rw [this]; rfl
  · refine And.intro trivial (fz_con ?_)
    rw [h1, allEq_end hl (by omega)]
theorem rlists_ok (a b : List (List Int)) (ha : a.length ≤ 4611686018427387904) (hb : b.length ≤ 4611686018427387904) (hx : ∀ x ∈ a, x.length ≤ 4611686018427387904) (hy : ∀ x ∈ b, x.length ≤ 4611686018427387904) : Ok Try.prog 18 [tILL a, tILL b] true (.con (.bool (allEq (allEq intEq) a b))) := by
  refine ok_of_ev (fun _ _ _ h => h) mix Try.func18 rfl rfl (by kernel_rfl) (Nat.le_of_ble_eq_true rfl) ?_
  repeat' (first
      | (with_reducible (first | refine seq_i ?_ | refine blk_i ?_ | refine X.seq_n ?_ | refine X.seq_r ?_ | refine X.seq_x ?_ | refine X.blk_n ?_ | refine X.blk_r ?_ | refine X.blk_s ?_ | refine X.blk_o (by decide) ?_ | refine skip_i ?_ | refine ret_i ?_ | refine exit_i ?_))
      | (with_reducible (refine reg_i ?_); intro K hK)
      | (with_reducible (refine drw_i ?_); intro K hK)
      | ((with_reducible refine cond_t ?hc ?_); (case hc => rfl))
      | ((with_reducible refine cond_f ?hc ?_); (case hc => rfl))
      | ((with_reducible refine cond_m ?_); refine And.intro ?_ ?_; all_goals (intro hb; (try simp only [decide_eq_true_eq, decide_eq_false_iff_not, beq_iff_eq, beq_eq_false_iff_ne, bne_iff_ne, bne_eq_false_iff_eq, Bool.not_eq_true, Bool.not_eq_false, Bool.not_eq_true', Bool.not_eq_false', ne_eq, gt_iff_lt, ge_iff_le, Int.not_lt, Int.not_le, List.length_map, List.length_drop, List.length_take, Decidable.not_not, Bool.and_eq_true, Bool.or_eq_true, true_and, and_true] at hb); (try (exfalso; first | omega | exact Bool.noConfusion hb | exact False.elim hb | exact absurd rfl hb | exact absurd trivial hb))))
      | (refine hK _ ?_; clear hK K)
      | (refine hK _ _ rfl ?_; clear hK K)
      | (have hg := hK; clear hg; refine And.intro rfl ?_)
      | (have hg := hK; clear hg; refine And.intro (allsz_map fun _ => rfl) ?_)
      | (have hg := hK; clear hg; refine And.intro (allv_map fun _ => rfl) ?_)
      | (have hg := hK; clear hg; refine And.intro (allv_map2 fun _ => rfl) ?_)
      | (have hg := hK; clear hg; refine And.intro (Nat.le_of_ble_eq_true rfl) ?_)
      | (have hg := hK; clear hg; refine And.intro (by first | omega | decide | (simp only [Int.toNat_natCast, List.length_map, List.length_drop, List.length_take, List.length_nil, List.length_cons, List.length_append, List.length_replicate, List.length_set, Nat.zero_add]; omega)) ?_)
      | (have hg := hK; clear hg; refine fresh_n ?_)
      | (have hg := hK; clear hg; refine freshO_n ?_)
      | (have hg := hK; clear hg; refine And.intro (by64 (Nat.le_of_ble_eq_true rfl) (by first | omega | (simp only [Int.toNat_natCast, List.length_map, List.length_drop, List.length_take, List.length_nil, List.length_cons, List.length_append, List.length_replicate, List.length_set, Nat.zero_add]; omega))) ?_)
      | (have hg := hK; clear hg; refine And.intro (by64i (Nat.le_of_ble_eq_true rfl) (by first | omega | (simp only [Int.toNat_natCast, List.length_map, List.length_drop, List.length_take, List.length_nil, List.length_cons, List.length_append, List.length_replicate, List.length_set, Nat.zero_add]; omega)) (by first | omega | (simp only [Int.toNat_natCast, List.length_map, List.length_drop, List.length_take, List.length_nil, List.length_cons, List.length_append, List.length_replicate, List.length_set, Nat.zero_add]; omega))) ?_)
      | (have hg := hK; clear hg; refine at_q (by first | omega | (simp only [Int.toNat_natCast, List.length_map, List.length_drop, List.length_take, List.length_nil, List.length_cons, List.length_append, List.length_replicate, List.length_set, Nat.zero_add]; omega)) ?_; intro hu)
      | (have hg := hK; clear hg; refine Exists.intro _ (And.intro (wrapAny (by first | (simp only [kmin, kmax]; omega) | (simp only [kmin, kmax, List.length_map, List.length_replicate, List.length_append]; omega)) (by first | (simp only [kmin, kmax]; omega) | (simp only [kmin, kmax, List.length_map, List.length_replicate, List.length_append]; omega))) ?_))
      | (have hg := hK; clear hg; refine mul_q (by first | omega | (simp only [Int.toNat_natCast, List.length_map, List.length_drop, List.length_take, List.length_nil, List.length_cons, List.length_append, List.length_replicate, List.length_set, Nat.zero_add]; omega)) (by first | omega | (simp only [Int.toNat_natCast, List.length_map, List.length_drop, List.length_take, List.length_nil, List.length_cons, List.length_append, List.length_replicate, List.length_set, Nat.zero_add]; omega)) (by first | omega | (simp only [Int.toNat_natCast, List.length_map, List.length_drop, List.length_take, List.length_nil, List.length_cons, List.length_append, List.length_replicate, List.length_set, Nat.zero_add]; omega)) (by first | omega | (simp only [Int.toNat_natCast, List.length_map, List.length_drop, List.length_take, List.length_nil, List.length_cons, List.length_append, List.length_replicate, List.length_set, Nat.zero_add]; omega)) ?_; intro hm1 hm2)
      | (have hg := hK; clear hg; refine Exists.intro _ (And.intro (at_map (by first | omega | (simp only [Int.toNat_natCast, List.length_map, List.length_drop, List.length_take, List.length_nil, List.length_cons, List.length_append, List.length_replicate, List.length_set, Nat.zero_add]; omega))) ?_))
      | (have hg := hK; clear hg; refine Exists.intro _ (And.intro rfl ?_))
      | (have hg := hK; clear hg; refine And.intro ?_ ?_ <;> (intro hb; (try simp only [decide_eq_true_eq, decide_eq_false_iff_not, beq_iff_eq, beq_eq_false_iff_ne, bne_iff_ne, bne_eq_false_iff_eq, Bool.not_eq_true, Bool.not_eq_false, Bool.not_eq_true', Bool.not_eq_false', ne_eq, gt_iff_lt, ge_iff_le, Int.not_lt, Int.not_le, List.length_map, List.length_drop, List.length_take, Decidable.not_not, Bool.and_eq_true, Bool.or_eq_true, true_and, and_true] at hb); (try (exfalso; first | omega | exact Bool.noConfusion hb | exact False.elim hb | exact absurd rfl hb | exact absurd trivial hb))))
      | (have hg := hK; clear hg; intro b0 hb))
  · exact And.intro trivial (fz_con (by rw [allEq_len (by omega)]))
  have hl : a.length = b.length := by omega
  refine loop_i Nat (fun i => ⟨Try.f18.ntmps, [(0, .ro false (tILL a)), (1, .ro false (tILL b)), (5, .con (.int .i64 i))], []⟩) (fun i => i ≤ a.length ∧ allEq (allEq intEq) a b = allEq (allEq intEq) (a.drop i) (b.drop i)) (fun i => a.length - i) [] 0 trivial ⟨Nat.zero_le _, rfl⟩ ⟨rfl, ⟨rfl, trivial, rfl, trivial, rfl, trivial, trivial⟩, trivial, trivial⟩ ?_
  rintro i ⟨h0, h1⟩
  repeat' (first
      | (with_reducible (first | refine seq_i ?_ | refine blk_i ?_ | refine X.seq_n ?_ | refine X.seq_r ?_ | refine X.seq_x ?_ | refine X.blk_n ?_ | refine X.blk_r ?_ | refine X.blk_s ?_ | refine X.blk_o (by decide) ?_ | refine skip_i ?_ | refine ret_i ?_ | refine exit_i ?_))
      | (with_reducible (refine reg_i ?_); intro K hK)
      | (with_reducible (refine drw_i ?_); intro K hK)
      | ((with_reducible refine cond_t ?hc ?_); (case hc => rfl))
      | ((with_reducible refine cond_f ?hc ?_); (case hc => rfl))
      | ((with_reducible refine cond_m ?_); refine And.intro ?_ ?_; all_goals (intro hb; (try simp only [decide_eq_true_eq, decide_eq_false_iff_not, beq_iff_eq, beq_eq_false_iff_ne, bne_iff_ne, bne_eq_false_iff_eq, Bool.not_eq_true, Bool.not_eq_false, Bool.not_eq_true', Bool.not_eq_false', ne_eq, gt_iff_lt, ge_iff_le, Int.not_lt, Int.not_le, List.length_map, List.length_drop, List.length_take, Decidable.not_not, Bool.and_eq_true, Bool.or_eq_true, true_and, and_true] at hb); (try (exfalso; first | omega | exact Bool.noConfusion hb | exact False.elim hb | exact absurd rfl hb | exact absurd trivial hb))))
      | (refine hK _ ?_; clear hK K)
      | (refine hK _ _ rfl ?_; clear hK K)
      | (have hg := hK; clear hg; refine And.intro rfl ?_)
      | (have hg := hK; clear hg; refine And.intro (allsz_map fun _ => rfl) ?_)
      | (have hg := hK; clear hg; refine And.intro (allv_map fun _ => rfl) ?_)
      | (have hg := hK; clear hg; refine And.intro (allv_map2 fun _ => rfl) ?_)
      | (have hg := hK; clear hg; refine And.intro (Nat.le_of_ble_eq_true rfl) ?_)
      | (have hg := hK; clear hg; refine And.intro (by first | omega | decide | (simp only [Int.toNat_natCast, List.length_map, List.length_drop, List.length_take, List.length_nil, List.length_cons, List.length_append, List.length_replicate, List.length_set, Nat.zero_add]; omega)) ?_)
      | (have hg := hK; clear hg; refine fresh_n ?_)
      | (have hg := hK; clear hg; refine freshO_n ?_)
      | (have hg := hK; clear hg; refine And.intro (by64 (Nat.le_of_ble_eq_true rfl) (by first | omega | (simp only [Int.toNat_natCast, List.length_map, List.length_drop, List.length_take, List.length_nil, List.length_cons, List.length_append, List.length_replicate, List.length_set, Nat.zero_add]; omega))) ?_)
      | (have hg := hK; clear hg; refine And.intro (by64i (Nat.le_of_ble_eq_true rfl) (by first | omega | (simp only [Int.toNat_natCast, List.length_map, List.length_drop, List.length_take, List.length_nil, List.length_cons, List.length_append, List.length_replicate, List.length_set, Nat.zero_add]; omega)) (by first | omega | (simp only [Int.toNat_natCast, List.length_map, List.length_drop, List.length_take, List.length_nil, List.length_cons, List.length_append, List.length_replicate, List.length_set, Nat.zero_add]; omega))) ?_)
      | (have hg := hK; clear hg; refine at_q (by first | omega | (simp only [Int.toNat_natCast, List.length_map, List.length_drop, List.length_take, List.length_nil, List.length_cons, List.length_append, List.length_replicate, List.length_set, Nat.zero_add]; omega)) ?_; intro hu)
      | (have hg := hK; clear hg; refine Exists.intro _ (And.intro (wrapAny (by first | (simp only [kmin, kmax]; omega) | (simp only [kmin, kmax, List.length_map, List.length_replicate, List.length_append]; omega)) (by first | (simp only [kmin, kmax]; omega) | (simp only [kmin, kmax, List.length_map, List.length_replicate, List.length_append]; omega))) ?_))
      | (have hg := hK; clear hg; refine mul_q (by first | omega | (simp only [Int.toNat_natCast, List.length_map, List.length_drop, List.length_take, List.length_nil, List.length_cons, List.length_append, List.length_replicate, List.length_set, Nat.zero_add]; omega)) (by first | omega | (simp only [Int.toNat_natCast, List.length_map, List.length_drop, List.length_take, List.length_nil, List.length_cons, List.length_append, List.length_replicate, List.length_set, Nat.zero_add]; omega)) (by first | omega | (simp only [Int.toNat_natCast, List.length_map, List.length_drop, List.length_take, List.length_nil, List.length_cons, List.length_append, List.length_replicate, List.length_set, Nat.zero_add]; omega)) (by first | omega | (simp only [Int.toNat_natCast, List.length_map, List.length_drop, List.length_take, List.length_nil, List.length_cons, List.length_append, List.length_replicate, List.length_set, Nat.zero_add]; omega)) ?_; intro hm1 hm2)
      | (have hg := hK; clear hg; refine Exists.intro _ (And.intro (at_map (by first | omega | (simp only [Int.toNat_natCast, List.length_map, List.length_drop, List.length_take, List.length_nil, List.length_cons, List.length_append, List.length_replicate, List.length_set, Nat.zero_add]; omega))) ?_))
      | (have hg := hK; clear hg; refine Exists.intro _ (And.intro rfl ?_))
      | (have hg := hK; clear hg; refine Or.inl (Exists.intro _ (Exists.intro _ (And.intro (rEqI_ok (a.getD i default) (b.getD i default) (hx _ (getD_mem (by omega))) (hy _ (getD_mem (by omega)))) ?_))))
      | (have hg := hK; clear hg; refine And.intro ?_ ?_ <;> (intro hb; (try simp only [decide_eq_true_eq, decide_eq_false_iff_not, beq_iff_eq, beq_eq_false_iff_ne, bne_iff_ne, bne_eq_false_iff_eq, Bool.not_eq_true, Bool.not_eq_false, Bool.not_eq_true', Bool.not_eq_false', ne_eq, gt_iff_lt, ge_iff_le, Int.not_lt, Int.not_le, List.length_map, List.length_drop, List.length_take, Decidable.not_not, Bool.and_eq_true, Bool.or_eq_true, true_and, and_true] at hb); (try (exfalso; first | omega | exact Bool.noConfusion hb | exact False.elim hb | exact absurd rfl hb | exact absurd trivial hb))))
      | (have hg := hK; clear hg; intro b0 hb))
  · refine And.intro trivial (fz_con ?_)
    rw [h1, allEq_step hl (by omega)]
    have : allEq intEq (a.getD i default) (b.getD i default) = false := by simpa using hb
    rw [this]; rfl
  · refine ⟨i + 1, ⟨by omega, ?_⟩, by omega, rfl, ⟨rfl, trivial, rfl, trivial, rfl, trivial, trivial⟩, trivial, trivial⟩
    rw [h1, allEq_step hl (by omega)]
    have : allEq intEq (a.getD i default) (b.getD i default) = true := by simpa using hb
    rw [this]; rfl
  · refine And.intro trivial (fz_con ?_)
    rw [h1, allEq_end hl (by omega)]
theorem EqR1_ok (x y : Rt) (hx : RtOK x) (hy : RtOK y) : Ok Try.prog 15 [tRt x, tRt y] true (.con (.bool (ratEq x y))) := by
  refine ok_of_ev (fun _ _ _ h => h) mix Try.func15 rfl rfl (by kernel_rfl) (Nat.le_of_ble_eq_true rfl) ?_
  repeat' (first
      | (with_reducible (first | refine seq_i ?_ | refine blk_i ?_ | refine X.seq_n ?_ | refine X.seq_r ?_ | refine X.seq_x ?_ | refine X.blk_n ?_ | refine X.blk_r ?_ | refine X.blk_s ?_ | refine X.blk_o (by decide) ?_ | refine skip_i ?_ | refine ret_i ?_ | refine exit_i ?_))
      | (with_reducible (refine reg_i ?_); intro K hK)
      | (with_reducible (refine drw_i ?_); intro K hK)
      | ((with_reducible refine cond_t ?hc ?_); (case hc => rfl))
      | ((with_reducible refine cond_f ?hc ?_); (case hc => rfl))
      | ((with_reducible refine cond_m ?_); refine And.intro ?_ ?_; all_goals (intro hb; (try simp only [decide_eq_true_eq, decide_eq_false_iff_not, beq_iff_eq, beq_eq_false_iff_ne, bne_iff_ne, bne_eq_false_iff_eq, Bool.not_eq_true, Bool.not_eq_false, Bool.not_eq_true', Bool.not_eq_false', ne_eq, gt_iff_lt, ge_iff_le, Int.not_lt, Int.not_le, List.length_map, List.length_drop, List.length_take, Decidable.not_not, Bool.and_eq_true, Bool.or_eq_true, true_and, and_true] at hb); (try (exfalso; first | omega | exact Bool.noConfusion hb | exact False.elim hb | exact absurd rfl hb | exact absurd trivial hb))))
      | (refine hK _ ?_; clear hK K)
      | (refine hK _ _ rfl ?_; clear hK K)
      | (have hg := hK; clear hg; refine And.intro rfl ?_)
      | (have hg := hK; clear hg; refine And.intro (allsz_map fun _ => rfl) ?_)
      | (have hg := hK; clear hg; refine And.intro (allv_map fun _ => rfl) ?_)
      | (have hg := hK; clear hg; refine And.intro (allv_map2 fun _ => rfl) ?_)
      | (have hg := hK; clear hg; refine And.intro (Nat.le_of_ble_eq_true rfl) ?_)
      | (have hg := hK; clear hg; refine And.intro (by first | omega | decide | (simp only [Int.toNat_natCast, List.length_map, List.length_drop, List.length_take, List.length_nil, List.length_cons, List.length_append, List.length_replicate, List.length_set, Nat.zero_add]; omega)) ?_)
      | (have hg := hK; clear hg; refine fresh_n ?_)
      | (have hg := hK; clear hg; refine freshO_n ?_)
      | (have hg := hK; clear hg; refine And.intro (by64 (Nat.le_of_ble_eq_true rfl) (by first | omega | (simp only [Int.toNat_natCast, List.length_map, List.length_drop, List.length_take, List.length_nil, List.length_cons, List.length_append, List.length_replicate, List.length_set, Nat.zero_add]; omega))) ?_)
      | (have hg := hK; clear hg; refine And.intro (by64i (Nat.le_of_ble_eq_true rfl) (by first | omega | (simp only [Int.toNat_natCast, List.length_map, List.length_drop, List.length_take, List.length_nil, List.length_cons, List.length_append, List.length_replicate, List.length_set, Nat.zero_add]; omega)) (by first | omega | (simp only [Int.toNat_natCast, List.length_map, List.length_drop, List.length_take, List.length_nil, List.length_cons, List.length_append, List.length_replicate, List.length_set, Nat.zero_add]; omega))) ?_)
      | (have hg := hK; clear hg; refine at_q (by first | omega | (simp only [Int.toNat_natCast, List.length_map, List.length_drop, List.length_take, List.length_nil, List.length_cons, List.length_append, List.length_replicate, List.length_set, Nat.zero_add]; omega)) ?_; intro hu)
      | (have hg := hK; clear hg; refine Exists.intro _ (And.intro (wrapAny (by first | (simp only [kmin, kmax]; omega) | (simp only [kmin, kmax, List.length_map, List.length_replicate, List.length_append]; omega)) (by first | (simp only [kmin, kmax]; omega) | (simp only [kmin, kmax, List.length_map, List.length_replicate, List.length_append]; omega))) ?_))
      | (have hg := hK; clear hg; refine mul_q (by first | omega | (simp only [Int.toNat_natCast, List.length_map, List.length_drop, List.length_take, List.length_nil, List.length_cons, List.length_append, List.length_replicate, List.length_set, Nat.zero_add]; omega)) (by first | omega | (simp only [Int.toNat_natCast, List.length_map, List.length_drop, List.length_take, List.length_nil, List.length_cons, List.length_append, List.length_replicate, List.length_set, Nat.zero_add]; omega)) (by first | omega | (simp only [Int.toNat_natCast, List.length_map, List.length_drop, List.length_take, List.length_nil, List.length_cons, List.length_append, List.length_replicate, List.length_set, Nat.zero_add]; omega)) (by first | omega | (simp only [Int.toNat_natCast, List.length_map, List.length_drop, List.length_take, List.length_nil, List.length_cons, List.length_append, List.length_replicate, List.length_set, Nat.zero_add]; omega)) ?_; intro hm1 hm2)
      | (have hg := hK; clear hg; refine Exists.intro _ (And.intro (at_map (by first | omega | (simp only [Int.toNat_natCast, List.length_map, List.length_drop, List.length_take, List.length_nil, List.length_cons, List.length_append, List.length_replicate, List.length_set, Nat.zero_add]; omega))) ?_))
      | (have hg := hK; clear hg; refine Exists.intro _ (And.intro rfl ?_))
      | (have hg := hK; clear hg; refine Or.inl (Exists.intro _ (Exists.intro _ (And.intro (CmpR_ok x.neg y.neg x.mag x.den y.mag y.den hx.1 hx.2 hy.1 hy.2) ?_))))
      | (have hg := hK; clear hg; refine And.intro ?_ ?_ <;> (intro hb; (try simp only [decide_eq_true_eq, decide_eq_false_iff_not, beq_iff_eq, beq_eq_false_iff_ne, bne_iff_ne, bne_eq_false_iff_eq, Bool.not_eq_true, Bool.not_eq_false, Bool.not_eq_true', Bool.not_eq_false', ne_eq, gt_iff_lt, ge_iff_le, Int.not_lt, Int.not_le, List.length_map, List.length_drop, List.length_take, Decidable.not_not, Bool.and_eq_true, Bool.or_eq_true, true_and, and_true] at hb); (try (exfalso; first | omega | exact Bool.noConfusion hb | exact False.elim hb | exact absurd rfl hb | exact absurd trivial hb))))
      | (have hg := hK; clear hg; intro b0 hb))
  exact And.intro trivial (fz_con rfl)
theorem EqRL1_ok (a b : List Rt) (ha : a.length ≤ 4611686018427387904) (hb : b.length ≤ 4611686018427387904) (hx : ∀ x ∈ a, RtOK x) (hy : ∀ x ∈ b, RtOK x) : Ok Try.prog 13 [tRL a, tRL b] true (.con (.bool (allEq ratEq a b))) := by
  refine ok_of_ev (fun _ _ _ h => h) mix Try.func13 rfl rfl (by kernel_rfl) (Nat.le_of_ble_eq_true rfl) ?_
  repeat' (first
      | (with_reducible (first | refine seq_i ?_ | refine blk_i ?_ | refine X.seq_n ?_ | refine X.seq_r ?_ | refine X.seq_x ?_ | refine X.blk_n ?_ | refine X.blk_r ?_ | refine X.blk_s ?_ | refine X.blk_o (by decide) ?_ | refine skip_i ?_ | refine ret_i ?_ | refine exit_i ?_))
      | (with_reducible (refine reg_i ?_); intro K hK)
      | (with_reducible (refine drw_i ?_); intro K hK)
      | ((with_reducible refine cond_t ?hc ?_); (case hc => rfl))
      | ((with_reducible refine cond_f ?hc ?_); (case hc => rfl))
      | ((with_reducible refine cond_m ?_); refine And.intro ?_ ?_; all_goals (intro hb; (try simp only [decide_eq_true_eq, decide_eq_false_iff_not, beq_iff_eq, beq_eq_false_iff_ne, bne_iff_ne, bne_eq_false_iff_eq, Bool.not_eq_true, Bool.not_eq_false, Bool.not_eq_true', Bool.not_eq_false', ne_eq, gt_iff_lt, ge_iff_le, Int.not_lt, Int.not_le, List.length_map, List.length_drop, List.length_take, Decidable.not_not, Bool.and_eq_true, Bool.or_eq_true, true_and, and_true] at hb); (try (exfalso; first | omega | exact Bool.noConfusion hb | exact False.elim hb | exact absurd rfl hb | exact absurd trivial hb))))
      | (refine hK _ ?_; clear hK K)
      | (refine hK _ _ rfl ?_; clear hK K)
      | (have hg := hK; clear hg; refine And.intro rfl ?_)
      | (have hg := hK; clear hg; refine And.intro (allsz_map fun _ => rfl) ?_)
      | (have hg := hK; clear hg; refine And.intro (allv_map fun _ => rfl) ?_)
      | (have hg := hK; clear hg; refine And.intro (allv_map2 fun _ => rfl) ?_)
      | (have hg := hK; clear hg; refine And.intro (Nat.le_of_ble_eq_true rfl) ?_)
      | (have hg := hK; clear hg; refine And.intro (by first | omega | decide | (simp only [Int.toNat_natCast, List.length_map, List.length_drop, List.length_take, List.length_nil, List.length_cons, List.length_append, List.length_replicate, List.length_set, Nat.zero_add]; omega)) ?_)
      | (have hg := hK; clear hg; refine fresh_n ?_)
      | (have hg := hK; clear hg; refine freshO_n ?_)
      | (have hg := hK; clear hg; refine And.intro (by64 (Nat.le_of_ble_eq_true rfl) (by first | omega | (simp only [Int.toNat_natCast, List.length_map, List.length_drop, List.length_take, List.length_nil, List.length_cons, List.length_append, List.length_replicate, List.length_set, Nat.zero_add]; omega))) ?_)
      | (have hg := hK; clear hg; refine And.intro (by64i (Nat.le_of_ble_eq_true rfl) (by first | omega | (simp only [Int.toNat_natCast, List.length_map, List.length_drop, List.length_take, List.length_nil, List.length_cons, List.length_append, List.length_replicate, List.length_set, Nat.zero_add]; omega)) (by first | omega | (simp only [Int.toNat_natCast, List.length_map, List.length_drop, List.length_take, List.length_nil, List.length_cons, List.length_append, List.length_replicate, List.length_set, Nat.zero_add]; omega))) ?_)
      | (have hg := hK; clear hg; refine at_q (by first | omega | (simp only [Int.toNat_natCast, List.length_map, List.length_drop, List.length_take, List.length_nil, List.length_cons, List.length_append, List.length_replicate, List.length_set, Nat.zero_add]; omega)) ?_; intro hu)
      | (have hg := hK; clear hg; refine Exists.intro _ (And.intro (wrapAny (by first | (simp only [kmin, kmax]; omega) | (simp only [kmin, kmax, List.length_map, List.length_replicate, List.length_append]; omega)) (by first | (simp only [kmin, kmax]; omega) | (simp only [kmin, kmax, List.length_map, List.length_replicate, List.length_append]; omega))) ?_))
      | (have hg := hK; clear hg; refine mul_q (by first | omega | (simp only [Int.toNat_natCast, List.length_map, List.length_drop, List.length_take, List.length_nil, List.length_cons, List.length_append, List.length_replicate, List.length_set, Nat.zero_add]; omega)) (by first | omega | (simp only [Int.toNat_natCast, List.length_map, List.length_drop, List.length_take, List.length_nil, List.length_cons, List.length_append, List.length_replicate, List.length_set, Nat.zero_add]; omega)) (by first | omega | (simp only [Int.toNat_natCast, List.length_map, List.length_drop, List.length_take, List.length_nil, List.length_cons, List.length_append, List.length_replicate, List.length_set, Nat.zero_add]; omega)) (by first | omega | (simp only [Int.toNat_natCast, List.length_map, List.length_drop, List.length_take, List.length_nil, List.length_cons, List.length_append, List.length_replicate, List.length_set, Nat.zero_add]; omega)) ?_; intro hm1 hm2)
      | (have hg := hK; clear hg; refine Exists.intro _ (And.intro (at_map (by first | omega | (simp only [Int.toNat_natCast, List.length_map, List.length_drop, List.length_take, List.length_nil, List.length_cons, List.length_append, List.length_replicate, List.length_set, Nat.zero_add]; omega))) ?_))
      | (have hg := hK; clear hg; refine Exists.intro _ (And.intro rfl ?_))
      | (have hg := hK; clear hg; refine Or.inl (Exists.intro _ (Exists.intro _ (And.intro (EqFR_ok 15 ratEq a b ha hb (fun x h y h2 => EqR1_ok x y (hx x h) (hy y h2))) ?_))))
      | (have hg := hK; clear hg; refine And.intro ?_ ?_ <;> (intro hb; (try simp only [decide_eq_true_eq, decide_eq_false_iff_not, beq_iff_eq, beq_eq_false_iff_ne, bne_iff_ne, bne_eq_false_iff_eq, Bool.not_eq_true, Bool.not_eq_false, Bool.not_eq_true', Bool.not_eq_false', ne_eq, gt_iff_lt, ge_iff_le, Int.not_lt, Int.not_le, List.length_map, List.length_drop, List.length_take, Decidable.not_not, Bool.and_eq_true, Bool.or_eq_true, true_and, and_true] at hb); (try (exfalso; first | omega | exact Bool.noConfusion hb | exact False.elim hb | exact absurd rfl hb | exact absurd trivial hb))))
      | (have hg := hK; clear hg; intro b0 hb))
  exact And.intro trivial (fz_con rfl)
