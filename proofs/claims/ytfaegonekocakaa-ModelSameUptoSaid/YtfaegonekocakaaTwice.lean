/-
  LIMBS DOUBLED: credencelaw19.twice: the walk. (naturals)
-/
import Derived.Test.YtfaegonekocakaaTwin
set_option linter.all false
namespace Go.Ev
open Go.Proofs
set_option maxRecDepth 10000
set_option maxHeartbeats 4000000
set_option linter.unusedSimpArgs false
set_option linter.unusedVariables false
def twG : Nat → List UInt32 → List UInt32
  | c, [] => [UInt32.ofNat c, 0]
  | c, x :: r => UInt32.ofNat (c + 2 * x.toNat) :: twG ((c + 2 * x.toNat) / 4294967296) r
theorem twG_len : ∀ (l : List UInt32) (c : Nat), (twG c l).length = l.length + 2
  | [], c => rfl
  | x :: r, c => by simp only [twG, List.length_cons]; rw [twG_len r]
theorem twG_step {l : List UInt32} {c i : Nat} (h : i < l.length) : twG c (l.drop i) = UInt32.ofNat (c + 2 * (l.getD i default).toNat) :: twG ((c + 2 * (l.getD i default).toNat) / 4294967296) (l.drop (i + 1)) := by
  rw [List.drop_eq_getElem_cons h, twG]; simp [List.getD, h]
theorem shr32 {a : Int} {Q : Int → Prop} (ha : 0 ≤ a) (h : ∀ r, r = a / 4294967296 → Q r) : ∃ r, r = a.fdiv (2 ^ (min (32 : Int).toNat IntKind.u64.bits)) ∧ Q r := by
  refine ⟨_, rfl, h _ ?_⟩
  show a.fdiv 4294967296 = _
  exact Int.fdiv_eq_ediv_of_nonneg _ (by decide)
theorem allv_two {e e2 : V} {n : Nat} (h : e.cells.length = n) (h2 : e2.cells.length = n) : ∀ y ∈ [e, e2], y.cells.length = n := by
  intro y hy
  rcases List.mem_cons.1 hy with rfl | hy
  · exact h
  · rw [List.mem_singleton.1 hy]; exact h2
theorem twice_ok (l : List UInt32) (hl : l.length ≤ 1099511627776) : Ok Try.prog 5 [tn l] true (tn (twG 0 l)) := by
  refine ok_of_ev (fun _ _ _ h => h) mix Try.func5 rfl rfl (by kernel_rfl) (Nat.le_of_ble_eq_true rfl) ?_
  repeat' (first
      | (with_reducible (first | refine seq_i ?_ | refine blk_i ?_ | refine X.seq_n ?_ | refine X.seq_r ?_ | refine X.seq_x ?_ | refine X.blk_n ?_ | refine X.blk_r ?_ | refine X.blk_s ?_ | refine X.blk_o (by decide) ?_ | refine skip_i ?_ | refine ret_i ?_ | refine exit_i ?_))
      | (with_reducible (refine reg_i ?_); intro K hK)
      | (with_reducible (refine drw_i ?_); intro K hK)
      | ((with_reducible refine cond_t ?hc ?_); (case hc => rfl))
      | ((with_reducible refine cond_f ?hc ?_); (case hc => rfl))
      | ((with_reducible refine cond_m ?_); refine And.intro ?_ ?_; all_goals (intro hb; (try simp only [Int.toNat_natCast, decide_eq_true_eq, decide_eq_false_iff_not, beq_iff_eq, beq_eq_false_iff_ne, bne_iff_ne, bne_eq_false_iff_eq, Bool.not_eq_true, Bool.not_eq_false, Bool.not_eq_true', Bool.not_eq_false', ne_eq, gt_iff_lt, ge_iff_le, Int.not_lt, Int.not_le, List.length_map, List.length_drop, List.length_take, Decidable.not_not, Bool.and_eq_true, Bool.or_eq_true, true_and, and_true] at hb); (try (exfalso; first | omega | exact Bool.noConfusion hb | exact False.elim hb | exact absurd rfl hb | exact absurd trivial hb))))
      | (refine hK _ ?_; clear hK K)
      | (refine hK _ _ rfl ?_; clear hK K)
      | (have hg := hK; clear hg; refine And.intro rfl ?_)
      | (have hg := hK; clear hg; refine And.intro (allsz_map fun _ => rfl) ?_)
      | (have hg := hK; clear hg; refine And.intro (allv_map fun _ => rfl) ?_)
      | (have hg := hK; clear hg; refine And.intro (allv_map2 fun _ => rfl) ?_)
      | (have hg := hK; clear hg; refine And.intro (Nat.le_of_ble_eq_true rfl) ?_)
      | (have hg := hK; clear hg; refine And.intro (by first | omega | decide | (simp only [Int.toNat_natCast, List.length_map, List.length_drop, List.length_take, List.length_nil, List.length_cons, List.length_append, List.length_replicate, List.length_set, Nat.zero_add]; omega)) ?_)
      | (have hg := hK; clear hg; refine fresh_n ?_)
      | (have hg := hK; clear hg; refine freshO_n ?_)
      | (have hg := hK; clear hg; refine And.intro (by64 (Nat.le_of_ble_eq_true rfl) (by first | omega | (simp only [Int.toNat_natCast, List.length_map, List.length_drop, List.length_take, List.length_nil, List.length_cons, List.length_append, List.length_replicate, List.length_set, Nat.zero_add]; omega))) ?_)
      | (have hg := hK; clear hg; refine And.intro (by64i (Nat.le_of_ble_eq_true rfl) (by first | omega | (simp only [Int.toNat_natCast, List.length_map, List.length_drop, List.length_take, List.length_nil, List.length_cons, List.length_append, List.length_replicate, List.length_set, Nat.zero_add]; omega)) (by first | omega | (simp only [Int.toNat_natCast, List.length_map, List.length_drop, List.length_take, List.length_nil, List.length_cons, List.length_append, List.length_replicate, List.length_set, Nat.zero_add]; omega))) ?_)
      | (have hg := hK; clear hg; refine at_q (by first | omega | (simp only [Int.toNat_natCast, List.length_map, List.length_drop, List.length_take, List.length_nil, List.length_cons, List.length_append, List.length_replicate, List.length_set, Nat.zero_add]; omega)) ?_; intro hu)
      | (have hg := hK; clear hg; refine Exists.intro _ (And.intro (wrapAny (by first | (simp only [kmin, kmax]; omega) | (simp only [kmin, kmax, List.length_map, List.length_replicate, List.length_append]; omega)) (by first | (simp only [kmin, kmax]; omega) | (simp only [kmin, kmax, List.length_map, List.length_replicate, List.length_append]; omega))) ?_))
      | (have hg := hK; clear hg; refine mul_q (by first | omega | (simp only [Int.toNat_natCast, List.length_map, List.length_drop, List.length_take, List.length_nil, List.length_cons, List.length_append, List.length_replicate, List.length_set, Nat.zero_add]; omega)) (by first | omega | (simp only [Int.toNat_natCast, List.length_map, List.length_drop, List.length_take, List.length_nil, List.length_cons, List.length_append, List.length_replicate, List.length_set, Nat.zero_add]; omega)) (by first | omega | (simp only [Int.toNat_natCast, List.length_map, List.length_drop, List.length_take, List.length_nil, List.length_cons, List.length_append, List.length_replicate, List.length_set, Nat.zero_add]; omega)) (by first | omega | (simp only [Int.toNat_natCast, List.length_map, List.length_drop, List.length_take, List.length_nil, List.length_cons, List.length_append, List.length_replicate, List.length_set, Nat.zero_add]; omega)) ?_; intro hm1 hm2)
      | (have hg := hK; clear hg; refine Exists.intro _ (And.intro (at_map (by first | omega | (simp only [Int.toNat_natCast, List.length_map, List.length_drop, List.length_take, List.length_nil, List.length_cons, List.length_append, List.length_replicate, List.length_set, Nat.zero_add]; omega))) ?_))
      | (have hg := hK; clear hg; refine Exists.intro _ (And.intro rfl ?_))
      | (have hg := hK; clear hg; refine And.intro ?_ ?_ <;> (intro hb; (try simp only [Int.toNat_natCast, decide_eq_true_eq, decide_eq_false_iff_not, beq_iff_eq, beq_eq_false_iff_ne, bne_iff_ne, bne_eq_false_iff_eq, Bool.not_eq_true, Bool.not_eq_false, Bool.not_eq_true', Bool.not_eq_false', ne_eq, gt_iff_lt, ge_iff_le, Int.not_lt, Int.not_le, List.length_map, List.length_drop, List.length_take, Decidable.not_not, Bool.and_eq_true, Bool.or_eq_true, true_and, and_true] at hb); (try (exfalso; first | omega | exact Bool.noConfusion hb | exact False.elim hb | exact absurd rfl hb | exact absurd trivial hb))))
      | (have hg := hK; clear hg; intro b0 hb))
  refine loop_i (List UInt32 × Nat) (fun (o, c) => ⟨Try.f5.ntmps, [(0, .ro false (tn l)), (3, .own 0 o.length 0 o.length), (4, .con (.int .u64 c)), (5, .con (.int .i64 (o.length : Nat)))], [(0, ⟨1, o.map cu, o.length, true⟩)]⟩)
    (fun (o, c) => c ≤ 2 ∧ o.length ≤ l.length ∧ o ++ twG c (l.drop o.length) = twG 0 l) (fun (o, c) => l.length - o.length) [(3, 0, 1)] ([], 0) ⟨rfl, rfl, trivial⟩ ⟨by omega, by simp, rfl⟩ ⟨rfl, ⟨rfl, trivial, rfl, rfl, rfl, trivial, rfl, trivial, trivial⟩, ⟨rfl, trivial⟩, clObjs_cu' _ _ _⟩ ?_
  rintro ⟨o, c⟩ ⟨g0, g1, g2⟩
  repeat' (first
      | (first | (refine And.intro (allv_one rfl) ?_) | (refine shr32 (by omega) ?_; intro r hr))
      | (with_reducible (first | refine seq_i ?_ | refine blk_i ?_ | refine X.seq_n ?_ | refine X.seq_r ?_ | refine X.seq_x ?_ | refine X.blk_n ?_ | refine X.blk_r ?_ | refine X.blk_s ?_ | refine X.blk_o (by decide) ?_ | refine skip_i ?_ | refine ret_i ?_ | refine exit_i ?_))
      | (with_reducible (refine reg_i ?_); intro K hK)
      | (with_reducible (refine drw_i ?_); intro K hK)
      | ((with_reducible refine cond_t ?hc ?_); (case hc => rfl))
      | ((with_reducible refine cond_f ?hc ?_); (case hc => rfl))
      | ((with_reducible refine cond_m ?_); refine And.intro ?_ ?_; all_goals (intro hb; (try simp only [Int.toNat_natCast, decide_eq_true_eq, decide_eq_false_iff_not, beq_iff_eq, beq_eq_false_iff_ne, bne_iff_ne, bne_eq_false_iff_eq, Bool.not_eq_true, Bool.not_eq_false, Bool.not_eq_true', Bool.not_eq_false', ne_eq, gt_iff_lt, ge_iff_le, Int.not_lt, Int.not_le, List.length_map, List.length_drop, List.length_take, Decidable.not_not, Bool.and_eq_true, Bool.or_eq_true, true_and, and_true] at hb); (try (exfalso; first | omega | exact Bool.noConfusion hb | exact False.elim hb | exact absurd rfl hb | exact absurd trivial hb))))
      | (refine hK _ ?_; clear hK K)
      | (refine hK _ _ rfl ?_; clear hK K)
      | (have hg := hK; clear hg; refine And.intro rfl ?_)
      | (have hg := hK; clear hg; refine And.intro (allsz_map fun _ => rfl) ?_)
      | (have hg := hK; clear hg; refine And.intro (allv_map fun _ => rfl) ?_)
      | (have hg := hK; clear hg; refine And.intro (allv_map2 fun _ => rfl) ?_)
      | (have hg := hK; clear hg; refine And.intro (Nat.le_of_ble_eq_true rfl) ?_)
      | (have hg := hK; clear hg; refine And.intro (by first | omega | decide | (simp only [Int.toNat_natCast, List.length_map, List.length_drop, List.length_take, List.length_nil, List.length_cons, List.length_append, List.length_replicate, List.length_set, Nat.zero_add]; omega)) ?_)
      | (have hg := hK; clear hg; refine fresh_n ?_)
      | (have hg := hK; clear hg; refine freshO_n ?_)
      | (have hg := hK; clear hg; refine And.intro (by64 (Nat.le_of_ble_eq_true rfl) (by first | omega | (simp only [Int.toNat_natCast, List.length_map, List.length_drop, List.length_take, List.length_nil, List.length_cons, List.length_append, List.length_replicate, List.length_set, Nat.zero_add]; omega))) ?_)
      | (have hg := hK; clear hg; refine And.intro (by64i (Nat.le_of_ble_eq_true rfl) (by first | omega | (simp only [Int.toNat_natCast, List.length_map, List.length_drop, List.length_take, List.length_nil, List.length_cons, List.length_append, List.length_replicate, List.length_set, Nat.zero_add]; omega)) (by first | omega | (simp only [Int.toNat_natCast, List.length_map, List.length_drop, List.length_take, List.length_nil, List.length_cons, List.length_append, List.length_replicate, List.length_set, Nat.zero_add]; omega))) ?_)
      | (have hg := hK; clear hg; refine at_q (by first | omega | (simp only [Int.toNat_natCast, List.length_map, List.length_drop, List.length_take, List.length_nil, List.length_cons, List.length_append, List.length_replicate, List.length_set, Nat.zero_add]; omega)) ?_; intro hu)
      | (have hg := hK; clear hg; refine Exists.intro _ (And.intro (wrapAny (by first | (simp only [kmin, kmax]; omega) | (simp only [kmin, kmax, List.length_map, List.length_replicate, List.length_append]; omega)) (by first | (simp only [kmin, kmax]; omega) | (simp only [kmin, kmax, List.length_map, List.length_replicate, List.length_append]; omega))) ?_))
      | (have hg := hK; clear hg; refine mul_q (by first | omega | (simp only [Int.toNat_natCast, List.length_map, List.length_drop, List.length_take, List.length_nil, List.length_cons, List.length_append, List.length_replicate, List.length_set, Nat.zero_add]; omega)) (by first | omega | (simp only [Int.toNat_natCast, List.length_map, List.length_drop, List.length_take, List.length_nil, List.length_cons, List.length_append, List.length_replicate, List.length_set, Nat.zero_add]; omega)) (by first | omega | (simp only [Int.toNat_natCast, List.length_map, List.length_drop, List.length_take, List.length_nil, List.length_cons, List.length_append, List.length_replicate, List.length_set, Nat.zero_add]; omega)) (by first | omega | (simp only [Int.toNat_natCast, List.length_map, List.length_drop, List.length_take, List.length_nil, List.length_cons, List.length_append, List.length_replicate, List.length_set, Nat.zero_add]; omega)) ?_; intro hm1 hm2)
      | (have hg := hK; clear hg; refine Exists.intro _ (And.intro (at_map (by first | omega | (simp only [Int.toNat_natCast, List.length_map, List.length_drop, List.length_take, List.length_nil, List.length_cons, List.length_append, List.length_replicate, List.length_set, Nat.zero_add]; omega))) ?_))
      | (have hg := hK; clear hg; refine Exists.intro _ (And.intro rfl ?_))
      | (have hg := hK; clear hg; refine And.intro ?_ ?_ <;> (intro hb; (try simp only [Int.toNat_natCast, decide_eq_true_eq, decide_eq_false_iff_not, beq_iff_eq, beq_eq_false_iff_ne, bne_iff_ne, bne_eq_false_iff_eq, Bool.not_eq_true, Bool.not_eq_false, Bool.not_eq_true', Bool.not_eq_false', ne_eq, gt_iff_lt, ge_iff_le, Int.not_lt, Int.not_le, List.length_map, List.length_drop, List.length_take, Decidable.not_not, Bool.and_eq_true, Bool.or_eq_true, true_and, and_true] at hb); (try (exfalso; first | omega | exact Bool.noConfusion hb | exact False.elim hb | exact absurd rfl hb | exact absurd trivial hb))))
      | (have hg := hK; clear hg; intro b0 hb))
  · obtain ⟨xi, hxi⟩ : ∃ n, (l.getD o.length default).toNat = n := ⟨_, rfl⟩
    have eo : ((o.length : Int)).toNat = o.length := rfl
    rw [eo, hxi] at hu hr
    have hi : o.length < l.length := by omega
    have el : (o ++ [UInt32.ofNat (c + 2 * xi)]).length = o.length + 1 := by simp
    refine ⟨(o ++ [UInt32.ofNat (c + 2 * xi)], (c + 2 * xi) / 4294967296), ⟨by omega, by rw [el]; omega, ?gv⟩, ?gm, rfl, ⟨rfl, trivial, ?g5, rfl, ?g6, trivial, ?g7, trivial, trivial⟩, ⟨?gd, trivial⟩, clObjs_cu' _ _ _⟩
    case gv => rw [← g2, el, twG_step hi, hxi, List.append_assoc]; rfl
    case gm =>
      show l.length - (o ++ [UInt32.ofNat (c + 2 * xi)]).length < l.length - o.length
      rw [el]; omega
    case g5 =>
      show V.own 0 (o.length + 1) 0 (o.length + 1) = V.own 0 (o ++ [UInt32.ofNat (c + 2 * xi)]).length 0 (o ++ [UInt32.ofNat (c + 2 * xi)]).length
      rw [el]
    case g6 => exact congrArg (fun n => V.con (.int .u64 n)) (by omega)
    case g7 =>
      show V.con (.int .i64 ((o.length : Int) + 1)) = V.con (.int .i64 (((o ++ [UInt32.ofNat (c + 2 * xi)]).length : Nat) : Int))
      rw [el]; rfl
    case gd =>
      show some (Obj.mk 1 (List.take o.length (o.map cu) ++ [V.con (.int .u32 (IntKind.u32.wrap ((c : Int) + 2 * ((l.getD ((o.length : Int)).toNat default).toNat : Int))))]) (o.length + 1) true) = some (Obj.mk 1 ((o ++ [UInt32.ofNat (c + 2 * xi)]).map cu) (o ++ [UInt32.ofNat (c + 2 * xi)]).length true)
      have e5 : ((c : Int) + 2 * (xi : Int)).toNat = c + 2 * xi := by omega
      rw [el, eo, hxi, wrap32 (by omega), e5, List.take_of_length_le (by simp), List.map_append]
      rfl
  · refine And.intro (allv_two rfl rfl) ?_
    repeat' (first
        | (with_reducible (first | refine seq_i ?_ | refine blk_i ?_ | refine X.seq_n ?_ | refine X.seq_r ?_ | refine X.seq_x ?_ | refine X.blk_n ?_ | refine X.blk_r ?_ | refine X.blk_s ?_ | refine X.blk_o (by decide) ?_ | refine skip_i ?_ | refine ret_i ?_ | refine exit_i ?_))
        | (with_reducible (refine reg_i ?_); intro K hK)
        | (with_reducible (refine drw_i ?_); intro K hK)
        | ((with_reducible refine cond_t ?hc ?_); (case hc => rfl))
        | ((with_reducible refine cond_f ?hc ?_); (case hc => rfl))
        | ((with_reducible refine cond_m ?_); refine And.intro ?_ ?_; all_goals (intro hb; (try simp only [Int.toNat_natCast, decide_eq_true_eq, decide_eq_false_iff_not, beq_iff_eq, beq_eq_false_iff_ne, bne_iff_ne, bne_eq_false_iff_eq, Bool.not_eq_true, Bool.not_eq_false, Bool.not_eq_true', Bool.not_eq_false', ne_eq, gt_iff_lt, ge_iff_le, Int.not_lt, Int.not_le, List.length_map, List.length_drop, List.length_take, Decidable.not_not, Bool.and_eq_true, Bool.or_eq_true, true_and, and_true] at hb); (try (exfalso; first | omega | exact Bool.noConfusion hb | exact False.elim hb | exact absurd rfl hb | exact absurd trivial hb))))
        | (refine hK _ ?_; clear hK K)
        | (refine hK _ _ rfl ?_; clear hK K)
        | (have hg := hK; clear hg; refine And.intro rfl ?_)
        | (have hg := hK; clear hg; refine And.intro (allsz_map fun _ => rfl) ?_)
        | (have hg := hK; clear hg; refine And.intro (allv_map fun _ => rfl) ?_)
        | (have hg := hK; clear hg; refine And.intro (allv_map2 fun _ => rfl) ?_)
        | (have hg := hK; clear hg; refine And.intro (Nat.le_of_ble_eq_true rfl) ?_)
        | (have hg := hK; clear hg; refine And.intro (by first | omega | decide | (simp only [Int.toNat_natCast, List.length_map, List.length_drop, List.length_take, List.length_nil, List.length_cons, List.length_append, List.length_replicate, List.length_set, Nat.zero_add]; omega)) ?_)
        | (have hg := hK; clear hg; refine fresh_n ?_)
        | (have hg := hK; clear hg; refine freshO_n ?_)
        | (have hg := hK; clear hg; refine And.intro (by64 (Nat.le_of_ble_eq_true rfl) (by first | omega | (simp only [Int.toNat_natCast, List.length_map, List.length_drop, List.length_take, List.length_nil, List.length_cons, List.length_append, List.length_replicate, List.length_set, Nat.zero_add]; omega))) ?_)
        | (have hg := hK; clear hg; refine And.intro (by64i (Nat.le_of_ble_eq_true rfl) (by first | omega | (simp only [Int.toNat_natCast, List.length_map, List.length_drop, List.length_take, List.length_nil, List.length_cons, List.length_append, List.length_replicate, List.length_set, Nat.zero_add]; omega)) (by first | omega | (simp only [Int.toNat_natCast, List.length_map, List.length_drop, List.length_take, List.length_nil, List.length_cons, List.length_append, List.length_replicate, List.length_set, Nat.zero_add]; omega))) ?_)
        | (have hg := hK; clear hg; refine at_q (by first | omega | (simp only [Int.toNat_natCast, List.length_map, List.length_drop, List.length_take, List.length_nil, List.length_cons, List.length_append, List.length_replicate, List.length_set, Nat.zero_add]; omega)) ?_; intro hu)
        | (have hg := hK; clear hg; refine Exists.intro _ (And.intro (wrapAny (by first | (simp only [kmin, kmax]; omega) | (simp only [kmin, kmax, List.length_map, List.length_replicate, List.length_append]; omega)) (by first | (simp only [kmin, kmax]; omega) | (simp only [kmin, kmax, List.length_map, List.length_replicate, List.length_append]; omega))) ?_))
        | (have hg := hK; clear hg; refine mul_q (by first | omega | (simp only [Int.toNat_natCast, List.length_map, List.length_drop, List.length_take, List.length_nil, List.length_cons, List.length_append, List.length_replicate, List.length_set, Nat.zero_add]; omega)) (by first | omega | (simp only [Int.toNat_natCast, List.length_map, List.length_drop, List.length_take, List.length_nil, List.length_cons, List.length_append, List.length_replicate, List.length_set, Nat.zero_add]; omega)) (by first | omega | (simp only [Int.toNat_natCast, List.length_map, List.length_drop, List.length_take, List.length_nil, List.length_cons, List.length_append, List.length_replicate, List.length_set, Nat.zero_add]; omega)) (by first | omega | (simp only [Int.toNat_natCast, List.length_map, List.length_drop, List.length_take, List.length_nil, List.length_cons, List.length_append, List.length_replicate, List.length_set, Nat.zero_add]; omega)) ?_; intro hm1 hm2)
        | (have hg := hK; clear hg; refine Exists.intro _ (And.intro (at_map (by first | omega | (simp only [Int.toNat_natCast, List.length_map, List.length_drop, List.length_take, List.length_nil, List.length_cons, List.length_append, List.length_replicate, List.length_set, Nat.zero_add]; omega))) ?_))
        | (have hg := hK; clear hg; refine Exists.intro _ (And.intro rfl ?_))
        | (have hg := hK; clear hg; refine And.intro ?_ ?_ <;> (intro hb; (try simp only [Int.toNat_natCast, decide_eq_true_eq, decide_eq_false_iff_not, beq_iff_eq, beq_eq_false_iff_ne, bne_iff_ne, bne_eq_false_iff_eq, Bool.not_eq_true, Bool.not_eq_false, Bool.not_eq_true', Bool.not_eq_false', ne_eq, gt_iff_lt, ge_iff_le, Int.not_lt, Int.not_le, List.length_map, List.length_drop, List.length_take, Decidable.not_not, Bool.and_eq_true, Bool.or_eq_true, true_and, and_true] at hb); (try (exfalso; first | omega | exact Bool.noConfusion hb | exact False.elim hb | exact absurd rfl hb | exact absurd trivial hb))))
        | (have hg := hK; clear hg; intro b0 hb))
    have e0 : l.drop o.length = [] := List.drop_eq_nil_of_le (by omega)
    rw [e0] at g2
    have ec : (UInt32.ofNat c).toNat = c := by rw [UInt32.toNat_ofNat']; omega
    refine And.intro trivial (fz_own (l := o ++ [UInt32.ofNat c, 0]) (F := cu) (G := tu32) rfl rfl rfl (by rw [List.length_append]; rfl) ?_ (fun a _ => fze_con _) (by rw [← g2]; rfl))
    show (List.drop 0 (List.take o.length (o.map cu) ++ [V.con (.int .u32 (c : Int)), V.con (.int .u32 0)])).take (o.length + 2) = (o ++ [UInt32.ofNat c, 0]).map cu
    rw [List.drop_zero, List.take_of_length_le (l := o.map cu) (by simp), List.take_of_length_le (by simp), List.map_append]
    show _ = o.map cu ++ [V.con (.int .u32 ((UInt32.ofNat c).toNat : Nat)), V.con (.int .u32 0)]
    rw [ec]
