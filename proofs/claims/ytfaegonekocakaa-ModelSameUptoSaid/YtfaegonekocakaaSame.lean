/-
  ANY TWO NETWORKS COMPARED ALIKE: credencelaw19.ModelSame: the walk. (naturals)
-/
import Derived.Test.YtfaegonekocakaaTwice
set_option linter.all false
namespace Go.Ev
open Go.Proofs
set_option maxRecDepth 10000
set_option maxHeartbeats 4000000
set_option linter.unusedSimpArgs false
set_option linter.unusedVariables false
theorem tn_shE : ∀ (l : List (List Rt)) (b : Nat), (ownE nul b l).map (V.shA 20) = ownE nul (b + 20) l
  | [], b => rfl
  | x :: r, b => by
    show V.own (b + 20) (nul x) 0 x.length :: (ownE nul (b + 1) r).map (V.shA 20) = _
    rw [tn_shE r (b + 1), show b + 1 + 20 = b + 20 + 1 by omega]; rfl
theorem tn_shL : ∀ (l : List (List Rt)) (b : Nat), shO 20 (innL nul b l) = innL nul (b + 20) l
  | [], b => rfl
  | x :: r, b => by
    show (b + 20, (inO nul x).sh 20) :: shO 20 (innL nul (b + 1) r) = _
    rw [tn_shL r (b + 1), show b + 1 + 20 = b + 20 + 1 by omega]
    have : (inO nul x).sh 20 = inO nul x := by
      simp only [Obj.sh, inO, List.map_map]
      congr 1
    rw [this]; rfl
theorem tw_sh (n : Nt) : shO 20 (twO n) = (20, ⟨1, ownE nul 21 n.tables, 0, true⟩) :: innL nul 21 n.tables := by
  show (0 + 20, Obj.sh 20 _) :: shO 20 (innL nul 1 n.tables) = _
  rw [tn_shL, Obj.sh, tn_shE]
theorem ownE_same : ∀ {l l' : List (List Rt)} {b : Nat}, l.map List.length = l'.map List.length → ownE nul b l = ownE nul b l'
  | [], [], b, h => rfl
  | [], _ :: _, b, h => by simp at h
  | _ :: _, [], b, h => by simp at h
  | x :: r, y :: s, b, h => by
    simp only [List.map_cons, List.cons.injEq] at h
    simp only [ownE, h.1, ownE_same h.2]; rfl
/-- the third network, told in tables; what is done, and what is left -/
def zNt (a : Nt) (d : List (List Rt)) : Nt := ⟨a.name, a.names, a.values, a.parents, d⟩
def zbx (a : Nt) : Obj := mbx a (.ro false (tSL a.names)) (.ro false (tSLL a.values)) (.ro false (tILL a.parents)) (.own 20 0 0 a.tables.length)
def stM1 (N : Nat) (a b : Nt) (d : List (List Rt)) : St := ⟨N, [(2, .ref 0 0 0 0), (3, .ref 1 0 0 0), (5, .ref 2 0 0 0), (6, .ref 3 0 0 0), (7, .ref 4 0 0 0), (8, .con (.int .i64 d.length))],
  [(0, bxNt a), (1, bxNt b), (2, bxNt a), (3, bxNt b), (4, zbx a), (20, ⟨1, ownE nul 21 a.tables, 0, true⟩)] ++ innL nul 21 (d ++ a.tables.drop d.length)⟩
def stM2 (N : Nat) (a b : Nt) (i c : Nat) (r0 d : List Rt) (tl : OH) : St := ⟨N, [(2, .ref 0 0 0 0), (3, .ref 1 0 0 0), (5, .ref 2 0 0 0), (6, .ref 3 0 0 0), (7, .ref 4 0 0 0), (8, .con (.int .i64 i)), (9, .con (.int .i64 d.length))],
  [(0, bxNt a), (1, bxNt b), (2, bxNt a), (3, bxNt b), (4, zbx a), (20, ⟨1, ownE nul 21 a.tables, 0, true⟩), (c, inO nul (d ++ r0.drop d.length))] ++ tl⟩
def stM0 (N : Nat) (a b : Nt) : St := ⟨N, [(2, .ref 0 0 0 0), (3, .ref 1 0 0 0), (5, .ref 2 0 0 0), (6, .ref 3 0 0 0), (7, .ref 4 0 0 0)],
  [(0, bxNt a), (1, bxNt b), (2, bxNt a), (3, bxNt b), (4, zbx a), (20, ⟨1, ownE nul 21 a.tables, 0, true⟩)] ++ innL nul 21 a.tables⟩
def stM3 (N : Nat) (a b : Nt) (d : List (List Rt)) : St := ⟨N, [(2, .ref 0 0 0 0), (3, .ref 1 0 0 0), (5, .ref 2 0 0 0), (6, .ref 3 0 0 0), (7, .ref 4 0 0 0)],
  [(0, bxNt a), (1, bxNt b), (2, bxNt a), (3, bxNt b), (4, bxNt (zNt a d))]⟩
structure SmOK (n : Nt) : Prop where
  names : n.names.length ≤ 1073741824
  values : n.values.length ≤ 1073741824
  value : ∀ x ∈ n.values, x.length ≤ 1073741824
  parents : n.parents.length ≤ 1073741824
  parent : ∀ x ∈ n.parents, x.length ≤ 1073741824
  tables : n.tables.length ≤ 1073741824
  table : ∀ x ∈ n.tables, x.length ≤ 1073741824
  rat : ∀ x ∈ n.tables, ∀ y ∈ x, y.mag.length ≤ 1073741824 ∧ y.den.length ≤ 1073741824
theorem SmOK.ok {n : Nt} (h : SmOK n) : NtOK n := ⟨h.names, h.values, h.value, h.parents, h.parent, h.tables, h.table, fun x hx y hy => ⟨Nat.le_trans (h.rat x hx y hy).1 (by decide), Nat.le_trans (h.rat x hx y hy).2 (by decide)⟩⟩
def RowOK (x : List Rt) : Prop := x.length ≤ 1073741824 ∧ ∀ y ∈ x, RtOK y
theorem zOK {n : Nt} (h : NtOK n) {d : List (List Rt)} (hd : ∀ x ∈ d, RowOK x) (hl : d.length ≤ n.tables.length) : NtOK (zNt n d) :=
  ⟨h.names, h.values, h.value, h.parents, h.parent, Nat.le_trans hl h.tables, fun x hx => (hd x hx).1, fun x hx => (hd x hx).2⟩
theorem strEq_refl (x : ByteArray) : strEq x x = true := by simp [strEq]
theorem intEq_refl (x : Int) : intEq x x = true := by simp [intEq]
theorem ratEq_refl (x : Rt) : ratEq x x = true := by
  unfold ratEq
  rw [Int.sub_self]; rfl
theorem sameNt_refl (n : Nt) : sameNt n n = true := by
  have h1 := allEq_refl (f := strEq) n.names (fun x _ => strEq_refl x)
  have h2 := allEq_refl (f := allEq strEq) n.values (fun x _ => allEq_refl x (fun y _ => strEq_refl y))
  have h3 := allEq_refl (f := allEq intEq) n.parents (fun x _ => allEq_refl x (fun y _ => intEq_refl y))
  have h4 := allEq_refl (f := allEq ratEq) n.tables (fun x _ => allEq_refl x (fun y _ => ratEq_refl y))
  simp [sameNt, strEq_refl, h1, h2, h3, h4]
theorem fd_rt {oh oh1 : OH} (r : Rt) (j : Nat) (v : V) (u : T) (h1 : (rtV r).cells[j]? = some v) (h2 : (tRt r).cells[j]? = some u) : Fd1 oh oh1 false v u := by
  match j with
  | 0 => simp [rtV, V.cells] at h1; simp [tRt, tR, T.cells] at h2; subst h1; subst h2; exact .con _
  | 1 => simp [rtV, V.cells] at h1; simp [tRt, tR, T.cells] at h2; subst h1; subst h2; exact .ro false _ fun h => Bool.noConfusion h
  | 2 => simp [rtV, V.cells] at h1; simp [tRt, tR, T.cells] at h2; subst h1; subst h2; exact .ro false _ fun h => Bool.noConfusion h
  | j + 3 => simp [rtV, V.cells] at h1
theorem fd_tabs {oh oh1 : OH} {d : List (List Rt)} {len : Nat} (hT : oget oh 20 = some ⟨1, ownE nul 21 d, 0, true⟩) (hd : ∀ j, j < d.length → oget oh (21 + j) = some (inO nul (d.getD j default)))
    (hn : ∀ j, 20 ≤ j → oget oh1 j = none) (hl : d.length = len) : Fd1 oh oh1 false (.own 20 0 0 len) (tRLL d) := by
  have key : ∀ (i : Nat) (e : V) (t : T), (ownE nul 21 d)[0 + i]? = some e → (d.map tRL)[i]? = some t → ∃ k, k < d.length ∧ e = .own (21 + k) 0 0 (d.getD k default).length ∧ t = tRL (d.getD k default) := by
    intro i e t h1 h2
    rw [List.getElem?_map] at h2
    obtain ⟨a, ha, rfl⟩ := Option.map_eq_some_iff.1 h2
    have hi : i < d.length := (List.getElem?_eq_some_iff.1 ha).1
    rw [Nat.zero_add, ownE_get hi] at h1
    have : d.getD i default = a := by rw [List.getD, ha]; rfl
    exact ⟨i, hi, by simpa [nul] using h1.symm, by rw [this]⟩
  refine .own 20 0 0 len _ _ hT (hn 20 (by omega)) rfl rfl (by simpa using hl) (fun i e t _ h1 h2 => ?_) (fun i e t j v u _ h1 h2 h3 h4 => ?_)
  · obtain ⟨k, hk, rfl, rfl⟩ := key i e t h1 h2
    rfl
  · obtain ⟨k, hk, rfl, rfl⟩ := key i e t h1 h2
    cases j with
    | succ j => simp [V.cells] at h3
    | zero =>
      simp [V.cells] at h3; simp [tRL, T.cells] at h4; subst h3; subst h4
      exact fd_map (F := rtV) (G := tRt) (l := d.getD k default) (hd k hk) (hn _ (by omega)) rfl (fun _ _ => rfl) (fun a _ j v u => fd_rt a j v u)
theorem getD_app {d l : List (List Rt)} {j : Nat} (h : j < d.length) : (d ++ l).getD j default = d.getD j default := by
  rw [List.getD, List.getD, List.getElem?_append_left h]
theorem getD_app2 {d l : List (List Rt)} {j : Nat} (h : d.length ≤ j) : (d ++ l.drop d.length).getD j default = l.getD j default := by
  rw [List.getD, List.getD, List.getElem?_append_right h, List.getElem?_drop, show d.length + (j - d.length) = j by omega]
theorem drop_one {α : Type} [Inhabited α] {l : List α} {k : Nat} (h : k < l.length) : l.drop k = l.getD k default :: l.drop (k + 1) := by
  rw [List.drop_eq_getElem_cons h]; simp [List.getD, h]
/-- a row, one number of which is told anew -/
theorem row_set {d r : List Rt} {x : Rt} (h : d.length < r.length) : (d ++ [x]) ++ r.drop (d ++ [x]).length = (d ++ r.drop d.length).set d.length x := by
  rw [drop_one h, List.set_append_right _ _ (Nat.le_refl _), Nat.sub_self, List.set_cons_zero, List.length_append, List.append_assoc]; rfl
theorem row_get {d r : List Rt} (h : d.length < r.length) : (d ++ r.drop d.length)[d.length]? = some (r.getD d.length default) := by
  rw [drop_one h, List.getElem?_append_right (Nat.le_refl _), Nat.sub_self]; rfl
theorem getD3 {d l : List (List Rt)} {x : List Rt} {m : Nat} (h : m ≠ d.length) : ((d ++ [x]) ++ l.drop (d ++ [x]).length).getD m default = (d ++ l.drop d.length).getD m default := by
  rcases Nat.lt_or_ge m d.length with h1 | h1
  · rw [getD_app (by simp; omega), getD_app h1, getD_app h1]
  · rw [getD_app2 (by simp; omega), getD_app2 h1]
theorem lc_int {oh oh1 : OH} {n m : Int} (h : n = m) : Lc oh oh1 (.con (.int .i64 n)) (.con (.int .i64 m)) := by subst h; exact Lc.same _ trivial
theorem ModelSame_ok (a b : Nt) (sa : SmOK a) (sb : SmOK b) : Ok Try.prog 3 [tNt a, tNt b] true (.con (.bool true)) := by
  have na := sa.ok
  have nb := sb.ok
  have n4 := na.tables
  refine ok_of_ev (fun _ _ _ h => h) mix Try.func3 rfl rfl (by kernel_rfl) (Nat.le_of_ble_eq_true rfl) ?_
  repeat' (first
      | (refine seq_k (a := Code.region 3 _ _) Unit (fun _ => stM0 Try.f3.ntmps a b) (fun _ => True) ?_ ?_)
      | (with_reducible (first | refine seq_i ?_ | refine blk_i ?_ | refine X.seq_n ?_ | refine X.seq_r ?_ | refine X.seq_x ?_ | refine X.blk_n ?_ | refine X.blk_r ?_ | refine X.blk_s ?_ | refine X.blk_o (by decide) ?_ | refine skip_i ?_ | refine ret_i ?_ | refine exit_i ?_))
      | (with_reducible (refine reg_i ?_); intro K hK)
      | (with_reducible (refine drw_i ?_); intro K hK)
      | ((with_reducible refine cond_t ?hc ?_); (case hc => rfl))
      | ((with_reducible refine cond_f ?hc ?_); (case hc => rfl))
      | ((with_reducible refine cond_m ?_); refine And.intro ?_ ?_; all_goals (intro hb; (try simp only [Int.toNat_natCast, decide_eq_true_eq, decide_eq_false_iff_not, beq_iff_eq, beq_eq_false_iff_ne, bne_iff_ne, bne_eq_false_iff_eq, Bool.not_eq_true, Bool.not_eq_false, Bool.not_eq_true', Bool.not_eq_false', ne_eq, gt_iff_lt, ge_iff_le, Int.not_lt, Int.not_le, List.length_map, List.length_drop, List.length_take, Decidable.not_not, Bool.and_eq_true, Bool.or_eq_true, true_and, and_true] at hb); (try (exfalso; first | omega | exact Bool.noConfusion hb | exact False.elim hb | exact absurd rfl hb | exact absurd trivial hb))))
      | (refine hK _ ?_; clear hK K)
      | (refine hK _ _ rfl ?_; clear hK K)
      | (have hg := hK; clear hg; refine And.intro rfl ?_)
      | (have hg := hK; clear hg; refine And.intro (allsz_map fun _ => rfl) ?_)
      | (have hg := hK; clear hg; refine And.intro (allv_map fun _ => rfl) ?_)
      | (have hg := hK; clear hg; refine And.intro (allv_map2 fun _ => rfl) ?_)
      | (have hg := hK; clear hg; refine And.intro (Nat.le_of_ble_eq_true rfl) ?_)
      | (have hg := hK; clear hg; refine And.intro (by first | omega | decide | (simp only [Int.toNat_natCast, List.length_map, List.length_drop, List.length_take, List.length_nil, List.length_cons, List.length_append, List.length_replicate, List.length_set, Nat.zero_add]; omega)) ?_)
      | (have hg := hK; clear hg; refine fresh_n ?_)
      | (have hg := hK; clear hg; refine freshO_n ?_)
      | (have hg := hK; clear hg; refine And.intro (by64 (Nat.le_of_ble_eq_true rfl) (by first | omega | (simp only [Int.toNat_natCast, List.length_map, List.length_drop, List.length_take, List.length_nil, List.length_cons, List.length_append, List.length_replicate, List.length_set, Nat.zero_add]; omega))) ?_)
      | (have hg := hK; clear hg; refine And.intro (by64i (Nat.le_of_ble_eq_true rfl) (by first | omega | (simp only [Int.toNat_natCast, List.length_map, List.length_drop, List.length_take, List.length_nil, List.length_cons, List.length_append, List.length_replicate, List.length_set, Nat.zero_add]; omega)) (by first | omega | (simp only [Int.toNat_natCast, List.length_map, List.length_drop, List.length_take, List.length_nil, List.length_cons, List.length_append, List.length_replicate, List.length_set, Nat.zero_add]; omega))) ?_)
      | (have hg := hK; clear hg; refine at_q (by first | omega | (simp only [Int.toNat_natCast, List.length_map, List.length_drop, List.length_take, List.length_nil, List.length_cons, List.length_append, List.length_replicate, List.length_set, Nat.zero_add]; omega)) ?_; intro hu)
      | (have hg := hK; clear hg; refine Exists.intro _ (And.intro (wrapAny (by first | (simp only [kmin, kmax]; omega) | (simp only [kmin, kmax, List.length_map, List.length_replicate, List.length_append]; omega)) (by first | (simp only [kmin, kmax]; omega) | (simp only [kmin, kmax, List.length_map, List.length_replicate, List.length_append]; omega))) ?_))
      | (have hg := hK; clear hg; refine mul_q (by first | omega | (simp only [Int.toNat_natCast, List.length_map, List.length_drop, List.length_take, List.length_nil, List.length_cons, List.length_append, List.length_replicate, List.length_set, Nat.zero_add]; omega)) (by first | omega | (simp only [Int.toNat_natCast, List.length_map, List.length_drop, List.length_take, List.length_nil, List.length_cons, List.length_append, List.length_replicate, List.length_set, Nat.zero_add]; omega)) (by first | omega | (simp only [Int.toNat_natCast, List.length_map, List.length_drop, List.length_take, List.length_nil, List.length_cons, List.length_append, List.length_replicate, List.length_set, Nat.zero_add]; omega)) (by first | omega | (simp only [Int.toNat_natCast, List.length_map, List.length_drop, List.length_take, List.length_nil, List.length_cons, List.length_append, List.length_replicate, List.length_set, Nat.zero_add]; omega)) ?_; intro hm1 hm2)
      | (have hg := hK; clear hg; refine Exists.intro _ (And.intro (at_map (by first | omega | (simp only [Int.toNat_natCast, List.length_map, List.length_drop, List.length_take, List.length_nil, List.length_cons, List.length_append, List.length_replicate, List.length_set, Nat.zero_add]; omega))) ?_))
      | (have hg := hK; clear hg; refine Exists.intro _ (And.intro rfl ?_))
      | (have hg := hK; clear hg; refine Or.inl (Exists.intro _ (Exists.intro _ (And.intro (Twin_data b nb) ?_))))
      | (have hg := hK; clear hg; refine Or.inl (Exists.intro _ (Exists.intro _ (And.intro (Twin_data a na) ?_))))
      | (have hg := hK; clear hg; refine And.intro ?_ ?_ <;> (intro hb; (try simp only [Int.toNat_natCast, decide_eq_true_eq, decide_eq_false_iff_not, beq_iff_eq, beq_eq_false_iff_ne, bne_iff_ne, bne_eq_false_iff_eq, Bool.not_eq_true, Bool.not_eq_false, Bool.not_eq_true', Bool.not_eq_false', ne_eq, gt_iff_lt, ge_iff_le, Int.not_lt, Int.not_le, List.length_map, List.length_drop, List.length_take, Decidable.not_not, Bool.and_eq_true, Bool.or_eq_true, true_and, and_true] at hb); (try (exfalso; first | omega | exact Bool.noConfusion hb | exact False.elim hb | exact absurd rfl hb | exact absurd trivial hb))))
      | (have hg := hK; clear hg; intro b0 hb))
  case refine_2 =>
    intro R hR
    have hf4 : ∀ B : OH, oget B 4 = none → oget (shO 20 (twO a) ++ B) 4 = none := fun B h => (og_app_none (by rw [tw_sh]; exact on_skip (by omega) (innL_none (Or.inl (by omega))))).trans h
    have hB : ∀ (B : OH) (i : Nat) (o : Obj), i < 20 → oget B i = some o → oget (shO 20 (twO a) ++ B) i = some o := fun B i o hi h => (og_app_none (by rw [tw_sh]; exact on_skip (by omega) (innL_none (Or.inl (by omega))))).trans h
    have hT : ∀ (B : OH), oget (shO 20 (twO a) ++ B) 20 = some ⟨1, ownE nul 21 a.tables, 0, true⟩ := fun B => og_app_some (by rw [tw_sh]; exact og_here _ _ _)
    have hL : ∀ (B : OH) (i : Nat) (o : Obj), oget (innL nul 21 a.tables) i = some o → oget (shO 20 (twO a) ++ B) i = some o := fun B i o h => og_app_some (by
      have := (innL_get h).1
      rw [tw_sh]; exact og_skip (by omega) h)
    refine reg_0 ?_
    intro K hK
    repeat' (first
        | (with_reducible (first | refine seq_i ?_ | refine blk_i ?_ | refine X.seq_n ?_ | refine X.seq_r ?_ | refine X.seq_x ?_ | refine X.blk_n ?_ | refine X.blk_r ?_ | refine X.blk_s ?_ | refine X.blk_o (by decide) ?_ | refine skip_i ?_ | refine ret_i ?_ | refine exit_i ?_))
        | (with_reducible (refine reg_i ?_); intro K hK)
        | (with_reducible (refine drw_i ?_); intro K hK)
        | ((with_reducible refine cond_t ?hc ?_); (case hc => rfl))
        | ((with_reducible refine cond_f ?hc ?_); (case hc => rfl))
        | ((with_reducible refine cond_m ?_); refine And.intro ?_ ?_; all_goals (intro hb; (try simp only [Int.toNat_natCast, decide_eq_true_eq, decide_eq_false_iff_not, beq_iff_eq, beq_eq_false_iff_ne, bne_iff_ne, bne_eq_false_iff_eq, Bool.not_eq_true, Bool.not_eq_false, Bool.not_eq_true', Bool.not_eq_false', ne_eq, gt_iff_lt, ge_iff_le, Int.not_lt, Int.not_le, List.length_map, List.length_drop, List.length_take, Decidable.not_not, Bool.and_eq_true, Bool.or_eq_true, true_and, and_true] at hb); (try (exfalso; first | omega | exact Bool.noConfusion hb | exact False.elim hb | exact absurd rfl hb | exact absurd trivial hb))))
        | (refine hK _ ?_; clear hK K)
        | (refine hK _ _ rfl ?_; clear hK K)
        | (have hg := hK; clear hg; refine And.intro rfl ?_)
        | (have hg := hK; clear hg; refine And.intro (allsz_map fun _ => rfl) ?_)
        | (have hg := hK; clear hg; refine And.intro (allv_map fun _ => rfl) ?_)
        | (have hg := hK; clear hg; refine And.intro (allv_map2 fun _ => rfl) ?_)
        | (have hg := hK; clear hg; refine And.intro (Nat.le_of_ble_eq_true rfl) ?_)
        | (have hg := hK; clear hg; refine And.intro (by first | omega | decide | (simp only [Int.toNat_natCast, List.length_map, List.length_drop, List.length_take, List.length_nil, List.length_cons, List.length_append, List.length_replicate, List.length_set, Nat.zero_add]; omega)) ?_)
        | (have hg := hK; clear hg; refine freshO_d 20 rfl ?_)
        | (have hg := hK; clear hg; refine fresh_c 4 ?hf ?_; (case hf => exact hf4 _ rfl))
        | (have hg := hK; clear hg; refine freshO_n ?_)
        | (have hg := hK; clear hg; refine And.intro (by64 (Nat.le_of_ble_eq_true rfl) (by first | omega | (simp only [Int.toNat_natCast, List.length_map, List.length_drop, List.length_take, List.length_nil, List.length_cons, List.length_append, List.length_replicate, List.length_set, Nat.zero_add]; omega))) ?_)
        | (have hg := hK; clear hg; refine And.intro (by64i (Nat.le_of_ble_eq_true rfl) (by first | omega | (simp only [Int.toNat_natCast, List.length_map, List.length_drop, List.length_take, List.length_nil, List.length_cons, List.length_append, List.length_replicate, List.length_set, Nat.zero_add]; omega)) (by first | omega | (simp only [Int.toNat_natCast, List.length_map, List.length_drop, List.length_take, List.length_nil, List.length_cons, List.length_append, List.length_replicate, List.length_set, Nat.zero_add]; omega))) ?_)
        | (have hg := hK; clear hg; refine at_q (by first | omega | (simp only [Int.toNat_natCast, List.length_map, List.length_drop, List.length_take, List.length_nil, List.length_cons, List.length_append, List.length_replicate, List.length_set, Nat.zero_add]; omega)) ?_; intro hu)
        | (have hg := hK; clear hg; refine Exists.intro _ (And.intro (wrapAny (by first | (simp only [kmin, kmax]; omega) | (simp only [kmin, kmax, List.length_map, List.length_replicate, List.length_append]; omega)) (by first | (simp only [kmin, kmax]; omega) | (simp only [kmin, kmax, List.length_map, List.length_replicate, List.length_append]; omega))) ?_))
        | (have hg := hK; clear hg; refine mul_q (by first | omega | (simp only [Int.toNat_natCast, List.length_map, List.length_drop, List.length_take, List.length_nil, List.length_cons, List.length_append, List.length_replicate, List.length_set, Nat.zero_add]; omega)) (by first | omega | (simp only [Int.toNat_natCast, List.length_map, List.length_drop, List.length_take, List.length_nil, List.length_cons, List.length_append, List.length_replicate, List.length_set, Nat.zero_add]; omega)) (by first | omega | (simp only [Int.toNat_natCast, List.length_map, List.length_drop, List.length_take, List.length_nil, List.length_cons, List.length_append, List.length_replicate, List.length_set, Nat.zero_add]; omega)) (by first | omega | (simp only [Int.toNat_natCast, List.length_map, List.length_drop, List.length_take, List.length_nil, List.length_cons, List.length_append, List.length_replicate, List.length_set, Nat.zero_add]; omega)) ?_; intro hm1 hm2)
        | (have hg := hK; clear hg; refine Exists.intro _ (And.intro (at_map (by first | omega | (simp only [Int.toNat_natCast, List.length_map, List.length_drop, List.length_take, List.length_nil, List.length_cons, List.length_append, List.length_replicate, List.length_set, Nat.zero_add]; omega))) ?_))
        | (have hg := hK; clear hg; refine Exists.intro _ (And.intro rfl ?_))
        | (have hg := hK; clear hg; refine Or.inr (Exists.intro _ (Exists.intro _ (And.intro (Twin_ok a na) ?_))))
        | (have hg := hK; clear hg; refine And.intro ?_ ?_ <;> (intro hb; (try simp only [Int.toNat_natCast, decide_eq_true_eq, decide_eq_false_iff_not, beq_iff_eq, beq_eq_false_iff_ne, bne_iff_ne, bne_eq_false_iff_eq, Bool.not_eq_true, Bool.not_eq_false, Bool.not_eq_true', Bool.not_eq_false', ne_eq, gt_iff_lt, ge_iff_le, Int.not_lt, Int.not_le, List.length_map, List.length_drop, List.length_take, Decidable.not_not, Bool.and_eq_true, Bool.or_eq_true, true_and, and_true] at hb); (try (exfalso; first | omega | exact Bool.noConfusion hb | exact False.elim hb | exact absurd rfl hb | exact absurd trivial hb))))
        | (have hg := hK; clear hg; intro b0 hb))
    refine hR _ () trivial (lf_of ?_ ?_ (innL_flat _ _ _) ?_)
    · exact ⟨Lc.same _ rfl, Lc.same _ rfl, Lc.same _ rfl, Lc.same _ rfl, Lc.same _ rfl, trivial⟩
    · refine ⟨lfOb_same (og_skip (by omega) (og_skip (by omega) (hB _ _ _ (by omega) rfl))) (bx_flat a), lfOb_same (og_skip (by omega) (og_skip (by omega) (hB _ _ _ (by omega) rfl))) (bx_flat b), lfOb_same (og_skip (by omega) (og_skip (by omega) (hB _ _ _ (by omega) rfl))) (bx_flat a), lfOb_same (og_skip (by omega) (og_skip (by omega) (hB _ _ _ (by omega) rfl))) (bx_flat b), lfOb_keep (og_here _ _ _) (mb_lv trivial trivial trivial rfl), lfOb_keep (og_skip (by omega) (og_skip (by omega) (hT _))) (own_lv fun j hj => os_of (og_skip (by omega) (og_skip (by omega) (og_skip (by omega) (og_skip (by omega) (og_skip (by omega) (og_skip (by omega) (innL_some hj)))))))), trivial⟩
    · intro i o h
      exact og_skip (by have := (innL_get h).1; omega) (og_skip (by have := (innL_get h).1; omega) (hL _ _ _ h))
  case refine_1 =>
    intro _ _
    refine seq_k (a := Code.seq (Code.region 4 _ _) _) (List (List Rt)) (stM3 Try.f3.ntmps a b) (fun d => d.length ≤ a.tables.length ∧ (∀ x ∈ d, RowOK x)) ?tail ?head
    case head =>
      intro R hR
      repeat' (first
          | (with_reducible (first | refine seq_i ?_ | refine blk_i ?_ | refine X.seq_n ?_ | refine X.seq_r ?_ | refine X.seq_x ?_ | refine X.blk_n ?_ | refine X.blk_r ?_ | refine X.blk_s ?_ | refine X.blk_o (by decide) ?_ | refine skip_i ?_ | refine ret_i ?_ | refine exit_i ?_))
          | (with_reducible (refine reg_i ?_); intro K hK)
          | (with_reducible (refine drw_i ?_); intro K hK)
          | ((with_reducible refine cond_t ?hc ?_); (case hc => rfl))
          | ((with_reducible refine cond_f ?hc ?_); (case hc => rfl))
          | ((with_reducible refine cond_m ?_); refine And.intro ?_ ?_; all_goals (intro hb; (try simp only [Int.toNat_natCast, decide_eq_true_eq, decide_eq_false_iff_not, beq_iff_eq, beq_eq_false_iff_ne, bne_iff_ne, bne_eq_false_iff_eq, Bool.not_eq_true, Bool.not_eq_false, Bool.not_eq_true', Bool.not_eq_false', ne_eq, gt_iff_lt, ge_iff_le, Int.not_lt, Int.not_le, List.length_map, List.length_drop, List.length_take, Decidable.not_not, Bool.and_eq_true, Bool.or_eq_true, true_and, and_true] at hb); (try (exfalso; first | omega | exact Bool.noConfusion hb | exact False.elim hb | exact absurd rfl hb | exact absurd trivial hb))))
          | (refine hK _ ?_; clear hK K)
          | (refine hK _ _ rfl ?_; clear hK K)
          | (have hg := hK; clear hg; refine And.intro rfl ?_)
          | (have hg := hK; clear hg; refine And.intro (allsz_map fun _ => rfl) ?_)
          | (have hg := hK; clear hg; refine And.intro (allv_map fun _ => rfl) ?_)
          | (have hg := hK; clear hg; refine And.intro (allv_map2 fun _ => rfl) ?_)
          | (have hg := hK; clear hg; refine And.intro (Nat.le_of_ble_eq_true rfl) ?_)
          | (have hg := hK; clear hg; refine And.intro (by first | omega | decide | (simp only [Int.toNat_natCast, List.length_map, List.length_drop, List.length_take, List.length_nil, List.length_cons, List.length_append, List.length_replicate, List.length_set, Nat.zero_add]; omega)) ?_)
          | (have hg := hK; clear hg; refine fresh_n ?_)
          | (have hg := hK; clear hg; refine freshO_n ?_)
          | (have hg := hK; clear hg; refine And.intro (by64 (Nat.le_of_ble_eq_true rfl) (by first | omega | (simp only [Int.toNat_natCast, List.length_map, List.length_drop, List.length_take, List.length_nil, List.length_cons, List.length_append, List.length_replicate, List.length_set, Nat.zero_add]; omega))) ?_)
          | (have hg := hK; clear hg; refine And.intro (by64i (Nat.le_of_ble_eq_true rfl) (by first | omega | (simp only [Int.toNat_natCast, List.length_map, List.length_drop, List.length_take, List.length_nil, List.length_cons, List.length_append, List.length_replicate, List.length_set, Nat.zero_add]; omega)) (by first | omega | (simp only [Int.toNat_natCast, List.length_map, List.length_drop, List.length_take, List.length_nil, List.length_cons, List.length_append, List.length_replicate, List.length_set, Nat.zero_add]; omega))) ?_)
          | (have hg := hK; clear hg; refine at_q (by first | omega | (simp only [Int.toNat_natCast, List.length_map, List.length_drop, List.length_take, List.length_nil, List.length_cons, List.length_append, List.length_replicate, List.length_set, Nat.zero_add]; omega)) ?_; intro hu)
          | (have hg := hK; clear hg; refine Exists.intro _ (And.intro (wrapAny (by first | (simp only [kmin, kmax]; omega) | (simp only [kmin, kmax, List.length_map, List.length_replicate, List.length_append]; omega)) (by first | (simp only [kmin, kmax]; omega) | (simp only [kmin, kmax, List.length_map, List.length_replicate, List.length_append]; omega))) ?_))
          | (have hg := hK; clear hg; refine mul_q (by first | omega | (simp only [Int.toNat_natCast, List.length_map, List.length_drop, List.length_take, List.length_nil, List.length_cons, List.length_append, List.length_replicate, List.length_set, Nat.zero_add]; omega)) (by first | omega | (simp only [Int.toNat_natCast, List.length_map, List.length_drop, List.length_take, List.length_nil, List.length_cons, List.length_append, List.length_replicate, List.length_set, Nat.zero_add]; omega)) (by first | omega | (simp only [Int.toNat_natCast, List.length_map, List.length_drop, List.length_take, List.length_nil, List.length_cons, List.length_append, List.length_replicate, List.length_set, Nat.zero_add]; omega)) (by first | omega | (simp only [Int.toNat_natCast, List.length_map, List.length_drop, List.length_take, List.length_nil, List.length_cons, List.length_append, List.length_replicate, List.length_set, Nat.zero_add]; omega)) ?_; intro hm1 hm2)
          | (have hg := hK; clear hg; refine Exists.intro _ (And.intro (at_map (by first | omega | (simp only [Int.toNat_natCast, List.length_map, List.length_drop, List.length_take, List.length_nil, List.length_cons, List.length_append, List.length_replicate, List.length_set, Nat.zero_add]; omega))) ?_))
          | (have hg := hK; clear hg; refine Exists.intro _ (And.intro rfl ?_))
          | (have hg := hK; clear hg; refine And.intro ?_ ?_ <;> (intro hb; (try simp only [Int.toNat_natCast, decide_eq_true_eq, decide_eq_false_iff_not, beq_iff_eq, beq_eq_false_iff_ne, bne_iff_ne, bne_eq_false_iff_eq, Bool.not_eq_true, Bool.not_eq_false, Bool.not_eq_true', Bool.not_eq_false', ne_eq, gt_iff_lt, ge_iff_le, Int.not_lt, Int.not_le, List.length_map, List.length_drop, List.length_take, Decidable.not_not, Bool.and_eq_true, Bool.or_eq_true, true_and, and_true] at hb); (try (exfalso; first | omega | exact Bool.noConfusion hb | exact False.elim hb | exact absurd rfl hb | exact absurd trivial hb))))
          | (have hg := hK; clear hg; intro b0 hb))
      refine loop_f (List (List Rt)) (stM1 Try.f3.ntmps a b) (fun d => d.length ≤ a.tables.length ∧ (∀ x ∈ d, RowOK x) ∧ d.map List.length = (a.tables.take d.length).map List.length) (fun d => a.tables.length - d.length) [] ⟨Nat.zero_le _, by simp, rfl⟩ (lf_of ?_ ?_ (innL_flat _ _ _) ?_) ?_
      · exact ⟨Lc.same _ rfl, Lc.same _ rfl, Lc.same _ rfl, Lc.same _ rfl, Lc.same _ rfl, Lc.same _ trivial, trivial⟩
      · exact ⟨lfOb_same rfl (bx_flat a), lfOb_same rfl (bx_flat b), lfOb_same rfl (bx_flat a), lfOb_same rfl (bx_flat b), lfOb_keep rfl (mb_lv trivial trivial trivial rfl), lfOb_keep rfl (own_lv fun j hj => os_of (og_skip (by omega) (og_skip (by omega) (og_skip (by omega) (og_skip (by omega) (og_skip (by omega) (og_skip (by omega) (innL_some hj)))))))), trivial⟩
      · intro i o h
        have hi := (innL_get h).1
        exact og_skip (by omega) (og_skip (by omega) (og_skip (by omega) (og_skip (by omega) (og_skip (by omega) (og_skip (by omega) h)))))
      rintro d ⟨h0, h1, h2⟩
      repeat' (first
          | (with_reducible (first | refine seq_i ?_ | refine blk_i ?_ | refine X.seq_n ?_ | refine X.seq_r ?_ | refine X.seq_x ?_ | refine X.blk_n ?_ | refine X.blk_r ?_ | refine X.blk_s ?_ | refine X.blk_o (by decide) ?_ | refine skip_i ?_ | refine ret_i ?_ | refine exit_i ?_))
          | (with_reducible (refine reg_i ?_); intro K hK)
          | (with_reducible (refine drw_i ?_); intro K hK)
          | ((with_reducible refine cond_t ?hc ?_); (case hc => rfl))
          | ((with_reducible refine cond_f ?hc ?_); (case hc => rfl))
          | ((with_reducible refine cond_m ?_); refine And.intro ?_ ?_; all_goals (intro hb; (try simp only [Int.toNat_natCast, decide_eq_true_eq, decide_eq_false_iff_not, beq_iff_eq, beq_eq_false_iff_ne, bne_iff_ne, bne_eq_false_iff_eq, Bool.not_eq_true, Bool.not_eq_false, Bool.not_eq_true', Bool.not_eq_false', ne_eq, gt_iff_lt, ge_iff_le, Int.not_lt, Int.not_le, List.length_map, List.length_drop, List.length_take, Decidable.not_not, Bool.and_eq_true, Bool.or_eq_true, true_and, and_true] at hb); (try (exfalso; first | omega | exact Bool.noConfusion hb | exact False.elim hb | exact absurd rfl hb | exact absurd trivial hb))))
          | (refine hK _ ?_; clear hK K)
          | (refine hK _ _ rfl ?_; clear hK K)
          | (have hg := hK; clear hg; refine And.intro rfl ?_)
          | (have hg := hK; clear hg; refine And.intro (allsz_map fun _ => rfl) ?_)
          | (have hg := hK; clear hg; refine And.intro (allv_map fun _ => rfl) ?_)
          | (have hg := hK; clear hg; refine And.intro (allv_map2 fun _ => rfl) ?_)
          | (have hg := hK; clear hg; refine And.intro (Nat.le_of_ble_eq_true rfl) ?_)
          | (have hg := hK; clear hg; refine And.intro (by first | omega | decide | (simp only [Int.toNat_natCast, List.length_map, List.length_drop, List.length_take, List.length_nil, List.length_cons, List.length_append, List.length_replicate, List.length_set, Nat.zero_add]; omega)) ?_)
          | (have hg := hK; clear hg; refine fresh_n ?_)
          | (have hg := hK; clear hg; refine freshO_n ?_)
          | (have hg := hK; clear hg; refine And.intro (by64 (Nat.le_of_ble_eq_true rfl) (by first | omega | (simp only [Int.toNat_natCast, List.length_map, List.length_drop, List.length_take, List.length_nil, List.length_cons, List.length_append, List.length_replicate, List.length_set, Nat.zero_add]; omega))) ?_)
          | (have hg := hK; clear hg; refine And.intro (by64i (Nat.le_of_ble_eq_true rfl) (by first | omega | (simp only [Int.toNat_natCast, List.length_map, List.length_drop, List.length_take, List.length_nil, List.length_cons, List.length_append, List.length_replicate, List.length_set, Nat.zero_add]; omega)) (by first | omega | (simp only [Int.toNat_natCast, List.length_map, List.length_drop, List.length_take, List.length_nil, List.length_cons, List.length_append, List.length_replicate, List.length_set, Nat.zero_add]; omega))) ?_)
          | (have hg := hK; clear hg; refine at_q (by first | omega | (simp only [Int.toNat_natCast, List.length_map, List.length_drop, List.length_take, List.length_nil, List.length_cons, List.length_append, List.length_replicate, List.length_set, Nat.zero_add]; omega)) ?_; intro hu)
          | (have hg := hK; clear hg; refine Exists.intro _ (And.intro (wrapAny (by first | (simp only [kmin, kmax]; omega) | (simp only [kmin, kmax, List.length_map, List.length_replicate, List.length_append]; omega)) (by first | (simp only [kmin, kmax]; omega) | (simp only [kmin, kmax, List.length_map, List.length_replicate, List.length_append]; omega))) ?_))
          | (have hg := hK; clear hg; refine mul_q (by first | omega | (simp only [Int.toNat_natCast, List.length_map, List.length_drop, List.length_take, List.length_nil, List.length_cons, List.length_append, List.length_replicate, List.length_set, Nat.zero_add]; omega)) (by first | omega | (simp only [Int.toNat_natCast, List.length_map, List.length_drop, List.length_take, List.length_nil, List.length_cons, List.length_append, List.length_replicate, List.length_set, Nat.zero_add]; omega)) (by first | omega | (simp only [Int.toNat_natCast, List.length_map, List.length_drop, List.length_take, List.length_nil, List.length_cons, List.length_append, List.length_replicate, List.length_set, Nat.zero_add]; omega)) (by first | omega | (simp only [Int.toNat_natCast, List.length_map, List.length_drop, List.length_take, List.length_nil, List.length_cons, List.length_append, List.length_replicate, List.length_set, Nat.zero_add]; omega)) ?_; intro hm1 hm2)
          | (have hg := hK; clear hg; refine Exists.intro _ (And.intro (at_map (by first | omega | (simp only [Int.toNat_natCast, List.length_map, List.length_drop, List.length_take, List.length_nil, List.length_cons, List.length_append, List.length_replicate, List.length_set, Nat.zero_add]; omega))) ?_))
          | (have hg := hK; clear hg; refine Exists.intro _ (And.intro rfl ?_))
          | (have hg := hK; clear hg; refine And.intro ?_ ?_ <;> (intro hb; (try simp only [Int.toNat_natCast, decide_eq_true_eq, decide_eq_false_iff_not, beq_iff_eq, beq_eq_false_iff_ne, bne_iff_ne, bne_eq_false_iff_eq, Bool.not_eq_true, Bool.not_eq_false, Bool.not_eq_true', Bool.not_eq_false', ne_eq, gt_iff_lt, ge_iff_le, Int.not_lt, Int.not_le, List.length_map, List.length_drop, List.length_take, Decidable.not_not, Bool.and_eq_true, Bool.or_eq_true, true_and, and_true] at hb); (try (exfalso; first | omega | exact Bool.noConfusion hb | exact False.elim hb | exact absurd rfl hb | exact absurd trivial hb))))
          | (have hg := hK; clear hg; intro b0 hb))
      · have hi : d.length < a.tables.length := by omega
        have hr0 := sa.rat (a.tables.getD d.length default) (getD_mem hi)
        have hr1 := na.table (a.tables.getD d.length default) (getD_mem hi)
        have hgT : (ownE nul 21 a.tables)[0 + d.length]? = some (.own (21 + d.length) 0 0 (a.tables.getD d.length default).length) := by rw [Nat.zero_add, ownE_get hi]; rfl
        have hc0 : oget (innL nul 21 (d ++ a.tables.drop d.length)) (21 + d.length) = some (inO nul (a.tables.getD d.length default)) := by
          rw [innL_some (by simp; omega), getD_app2 (Nat.le_refl _)]
        obtain ⟨tl, htl⟩ : ∃ tl, innL nul 21 (d ++ a.tables.drop d.length) = tl := ⟨_, rfl⟩
        obtain ⟨c, hc⟩ : ∃ c, 21 + d.length = c := ⟨_, rfl⟩
        obtain ⟨r0, hr⟩ : ∃ r0, a.tables.getD d.length default = r0 := ⟨_, rfl⟩
        rw [htl, hc, hr] at hc0
        rw [hr] at hr0 hr1
        rw [hc, hr] at hgT
        have hnt : ∀ j, j < 21 → oget tl j = none := fun j hj => by rw [← htl]; exact innL_none (Or.inl hj)
        have hcl : ∀ (o : Obj) (j : Nat), j < a.tables.length → (oget ([(0, bxNt a), (1, bxNt b), (2, bxNt a), (3, bxNt b), (4, zbx a), (20, ⟨1, ownE nul 21 a.tables, 0, true⟩), (c, o)] ++ tl) (21 + j)).isSome = true := by
          intro o j hj
          refine os_skip (by omega) (os_skip (by omega) (os_skip (by omega) (os_skip (by omega) (os_skip (by omega) (os_skip (by omega) ?_)))))
          by_cases e : c = 21 + j
          · rw [← e]; exact os_here _ _ _
          · exact os_skip e (os_of (o := inO nul ((d ++ a.tables.drop d.length).getD j default)) (by show oget tl _ = _; rw [← htl]; exact innL_some (by simp; omega)))
        have hne : ∀ (o : Obj) (i : Nat), oget [(0, bxNt a), (1, bxNt b), (2, bxNt a), (3, bxNt b), (4, zbx a), (20, ⟨1, ownE nul 21 a.tables, 0, true⟩), (c, o)] i = none → c ≠ i := by
          intro o i h e
          subst e
          have := os_skip (c := c) (x := bxNt a) (show 0 ≠ c by omega) (os_skip (x := bxNt b) (show 1 ≠ c by omega) (os_skip (x := bxNt a) (show 2 ≠ c by omega) (os_skip (x := bxNt b) (show 3 ≠ c by omega) (os_skip (x := zbx a) (show 4 ≠ c by omega) (os_skip (x := ⟨1, ownE nul 21 a.tables, 0, true⟩) (show 20 ≠ c by omega) (os_here c o []))))))
          rw [h] at this
          cases this
        refine loop_f (List Rt) (fun dd => stM2 Try.f3.ntmps a b d.length c r0 dd tl) (fun dd => dd.length ≤ r0.length ∧ ∀ y ∈ dd, RtOK y) (fun dd => r0.length - dd.length) [] ⟨Nat.zero_le _, by simp⟩ (lf_of2 ?_ ?_ (htl ▸ innL_flat _ _ _) ?_) ?_
        · exact ⟨Lc.same _ rfl, Lc.same _ rfl, Lc.same _ rfl, Lc.same _ rfl, Lc.same _ rfl, Lc.same _ trivial, Lc.same _ trivial, trivial⟩
        · refine ⟨lfOb_same rfl (bx_flat a), lfOb_same rfl (bx_flat b), lfOb_same rfl (bx_flat a), lfOb_same rfl (bx_flat b), lfOb_keep rfl (mb_lv trivial trivial trivial rfl), lfOb_keep rfl (own_lv (hcl _)), lfOb_same ?hc (fun e he => ?hf), trivial⟩
          case hc => exact og_skip (by omega) (og_skip (by omega) (og_skip (by omega) (og_skip (by omega) (og_skip (by omega) (og_skip (by omega) (by show oget (innL _ _ _) _ = _; rw [htl]; exact hc0))))))
          case hf =>
            obtain ⟨r, -, rfl⟩ := List.mem_map.1 he
            exact rtV_flat r
        · intro i o hf h
          have := hne _ i hf
          have h21 : ¬ i < 21 := fun h9 => by rw [hnt i h9] at h; cases h
          exact og_skip (by omega) (og_skip (by omega) (og_skip (by omega) (og_skip (by omega) (og_skip (by omega) (og_skip (by omega) (by show oget (innL _ _ _) _ = _; rw [htl]; exact h))))))
        rintro dd ⟨g0, g1⟩
        have hrow : dd.length < r0.length → (inO nul (dd ++ r0.drop dd.length)).el[0 + dd.length]? = some (rtV (r0.getD dd.length default)) := fun h => by
          rw [Nat.zero_add]
          show ((dd ++ r0.drop dd.length).map rtV)[dd.length]? = _
          rw [List.getElem?_map, row_get h]; rfl
        have hx := getD_all (p := fun (y : Rt) => y.mag.length ≤ 1073741824 ∧ y.den.length ≤ 1073741824) hr0 ⟨Nat.zero_le _, Nat.zero_le _⟩ dd.length
        have hx1 := hx.1
        have hx2 := hx.2
        repeat' (first
            | (refine Exists.intro _ (And.intro (hrow (by omega)) ?_))
            | (with_reducible (first | refine seq_i ?_ | refine blk_i ?_ | refine X.seq_n ?_ | refine X.seq_r ?_ | refine X.seq_x ?_ | refine X.blk_n ?_ | refine X.blk_r ?_ | refine X.blk_s ?_ | refine X.blk_o (by decide) ?_ | refine skip_i ?_ | refine ret_i ?_ | refine exit_i ?_))
            | (with_reducible (refine reg_i ?_); intro K hK)
            | (with_reducible (refine drw_i ?_); intro K hK)
            | ((with_reducible refine cond_t ?hc ?_); (case hc => rfl))
            | ((with_reducible refine cond_f ?hc ?_); (case hc => rfl))
            | ((with_reducible refine cond_m ?_); refine And.intro ?_ ?_; all_goals (intro hb; (try simp only [Int.toNat_natCast, decide_eq_true_eq, decide_eq_false_iff_not, beq_iff_eq, beq_eq_false_iff_ne, bne_iff_ne, bne_eq_false_iff_eq, Bool.not_eq_true, Bool.not_eq_false, Bool.not_eq_true', Bool.not_eq_false', ne_eq, gt_iff_lt, ge_iff_le, Int.not_lt, Int.not_le, List.length_map, List.length_drop, List.length_take, Decidable.not_not, Bool.and_eq_true, Bool.or_eq_true, true_and, and_true] at hb); (try (exfalso; first | omega | exact Bool.noConfusion hb | exact False.elim hb | exact absurd rfl hb | exact absurd trivial hb))))
            | (refine hK _ ?_; clear hK K)
            | (refine hK _ _ rfl ?_; clear hK K)
            | (have hg := hK; clear hg; refine And.intro rfl ?_)
            | (have hg := hK; clear hg; refine And.intro (allsz_map fun _ => rfl) ?_)
            | (have hg := hK; clear hg; refine And.intro (allv_map fun _ => rfl) ?_)
            | (have hg := hK; clear hg; refine And.intro (allv_map2 fun _ => rfl) ?_)
            | (have hg := hK; clear hg; refine And.intro (Nat.le_of_ble_eq_true rfl) ?_)
            | (have hg := hK; clear hg; refine And.intro (by first | omega | decide | (simp only [Int.toNat_natCast, List.length_map, List.length_drop, List.length_take, List.length_nil, List.length_cons, List.length_append, List.length_replicate, List.length_set, Nat.zero_add]; omega)) ?_)
            | (have hg := hK; clear hg; refine fresh_c 5 ?hf ?_; (case hf => ((repeat (refine on_skip (by omega) ?_)); exact hnt 5 (by omega))))
            | (have hg := hK; clear hg; refine freshO_n ?_)
            | (have hg := hK; clear hg; refine And.intro (by64 (Nat.le_of_ble_eq_true rfl) (by first | omega | (simp only [Int.toNat_natCast, List.length_map, List.length_drop, List.length_take, List.length_nil, List.length_cons, List.length_append, List.length_replicate, List.length_set, Nat.zero_add]; omega))) ?_)
            | (have hg := hK; clear hg; refine And.intro (by64i (Nat.le_of_ble_eq_true rfl) (by first | omega | (simp only [Int.toNat_natCast, List.length_map, List.length_drop, List.length_take, List.length_nil, List.length_cons, List.length_append, List.length_replicate, List.length_set, Nat.zero_add]; omega)) (by first | omega | (simp only [Int.toNat_natCast, List.length_map, List.length_drop, List.length_take, List.length_nil, List.length_cons, List.length_append, List.length_replicate, List.length_set, Nat.zero_add]; omega))) ?_)
            | (have hg := hK; clear hg; refine at_q (by first | omega | (simp only [Int.toNat_natCast, List.length_map, List.length_drop, List.length_take, List.length_nil, List.length_cons, List.length_append, List.length_replicate, List.length_set, Nat.zero_add]; omega)) ?_; intro hu)
            | (have hg := hK; clear hg; refine Exists.intro _ (And.intro (wrapAny (by first | (simp only [kmin, kmax]; omega) | (simp only [kmin, kmax, List.length_map, List.length_replicate, List.length_append]; omega)) (by first | (simp only [kmin, kmax]; omega) | (simp only [kmin, kmax, List.length_map, List.length_replicate, List.length_append]; omega))) ?_))
            | (have hg := hK; clear hg; refine mul_q (by first | omega | (simp only [Int.toNat_natCast, List.length_map, List.length_drop, List.length_take, List.length_nil, List.length_cons, List.length_append, List.length_replicate, List.length_set, Nat.zero_add]; omega)) (by first | omega | (simp only [Int.toNat_natCast, List.length_map, List.length_drop, List.length_take, List.length_nil, List.length_cons, List.length_append, List.length_replicate, List.length_set, Nat.zero_add]; omega)) (by first | omega | (simp only [Int.toNat_natCast, List.length_map, List.length_drop, List.length_take, List.length_nil, List.length_cons, List.length_append, List.length_replicate, List.length_set, Nat.zero_add]; omega)) (by first | omega | (simp only [Int.toNat_natCast, List.length_map, List.length_drop, List.length_take, List.length_nil, List.length_cons, List.length_append, List.length_replicate, List.length_set, Nat.zero_add]; omega)) ?_; intro hm1 hm2)
            | (have hg := hK; clear hg; refine Exists.intro _ (And.intro (at_map (by first | omega | (simp only [Int.toNat_natCast, List.length_map, List.length_drop, List.length_take, List.length_nil, List.length_cons, List.length_append, List.length_replicate, List.length_set, Nat.zero_add]; omega))) ?_))
            | (have hg := hK; clear hg; refine Exists.intro _ (And.intro rfl ?_))
            | (have hg := hK; clear hg; refine Or.inl (Exists.intro _ (Exists.intro _ (And.intro (twice_ok (r0.getD dd.length default).mag (by omega)) ?_))))
            | (have hg := hK; clear hg; refine Or.inl (Exists.intro _ (Exists.intro _ (And.intro (twice_ok (r0.getD dd.length default).den (by omega)) ?_))))
            | (have hg := hK; clear hg; refine And.intro ?_ ?_ <;> (intro hb; (try simp only [Int.toNat_natCast, decide_eq_true_eq, decide_eq_false_iff_not, beq_iff_eq, beq_eq_false_iff_ne, bne_iff_ne, bne_eq_false_iff_eq, Bool.not_eq_true, Bool.not_eq_false, Bool.not_eq_true', Bool.not_eq_false', ne_eq, gt_iff_lt, ge_iff_le, Int.not_lt, Int.not_le, List.length_map, List.length_drop, List.length_take, Decidable.not_not, Bool.and_eq_true, Bool.or_eq_true, true_and, and_true] at hb); (try (exfalso; first | omega | exact Bool.noConfusion hb | exact False.elim hb | exact absurd rfl hb | exact absurd trivial hb))))
            | (have hg := hK; clear hg; intro b0 hb)
            | (first | (refine Exists.intro _ (And.intro hgT ?_)) | (refine use_s (o := inO nul (dd ++ r0.drop dd.length)) ?hu rfl rfl ?_; (case hu => ((repeat (refine og_skip (by omega) ?_)); exact og_here _ _ _)))))
        · have hlt : dd.length < r0.length := by omega
          refine ⟨dd ++ [⟨(r0.getD dd.length default).neg, twG 0 (r0.getD dd.length default).mag, twG 0 (r0.getD dd.length default).den⟩], ⟨by rw [List.length_append]; exact hlt, ?gok_0⟩, by show r0.length - (dd ++ [_]).length < r0.length - dd.length; rw [List.length_append]; show _ - (_ + 1) < _; omega, lf_of2 ?ge_0 ?go_0 (htl ▸ innL_flat _ _ _) ?gs_0⟩
          case gok_0 =>
            intro y hy
            rcases List.mem_append.1 hy with hy | hy
            · exact g1 y hy
            · rw [List.mem_singleton.1 hy]
              exact ⟨by rw [twG_len]; omega, by rw [twG_len]; omega⟩
          case ge_0 => exact ⟨Lc.same _ rfl, Lc.same _ rfl, Lc.same _ rfl, Lc.same _ rfl, Lc.same _ rfl, Lc.same _ trivial, lc_int (by rw [List.length_append]; rfl), trivial⟩
          case go_0 =>
            refine ⟨lfOb_same ?h0_0 (bx_flat a), lfOb_same ?h1_0 (bx_flat b), lfOb_same ?h2_0 (bx_flat a), lfOb_same ?h3_0 (bx_flat b), lfOb_keep ?h4_0 (mb_lv trivial trivial trivial rfl), lfOb_keep ?h5_0 (own_lv (hcl _)), lfOb_set (F := rtV) (l := dd ++ r0.drop dd.length) (k := 0 + dd.length) (a := ⟨(r0.getD dd.length default).neg, twG 0 (r0.getD dd.length default).mag, twG 0 (r0.getD dd.length default).den⟩) (og_here _ _ _) (by rw [Nat.zero_add]; exact row_set hlt) (fun _ _ => rtV_flat _) (lv_agg ⟨Lc.same _ trivial, Lc.frz false (.ro true _) (tn _) (.ro true _ fun h => Bool.noConfusion h), Lc.frz false (.ro true _) (tn _) (.ro true _ fun h => Bool.noConfusion h), trivial⟩), trivial⟩
            case h0_0 => ((repeat (refine og_skip (by omega) ?_)); exact og_here _ _ _)
            case h1_0 => ((repeat (refine og_skip (by omega) ?_)); exact og_here _ _ _)
            case h2_0 => ((repeat (refine og_skip (by omega) ?_)); exact og_here _ _ _)
            case h3_0 => ((repeat (refine og_skip (by omega) ?_)); exact og_here _ _ _)
            case h4_0 => ((repeat (refine og_skip (by omega) ?_)); exact og_here _ _ _)
            case h5_0 => ((repeat (refine og_skip (by omega) ?_)); exact og_here _ _ _)
          case gs_0 =>
            intro i o hf h
            have := hne _ i hf
            have h21 : ¬ i < 21 := fun h9 => by rw [hnt i h9] at h; cases h
            ((repeat (refine og_skip (by omega) ?_)); exact h)
        · have hlt : dd.length < r0.length := by omega
          refine ⟨dd ++ [r0.getD dd.length default], ⟨by rw [List.length_append]; exact hlt, ?gok_1⟩, by show r0.length - (dd ++ [_]).length < r0.length - dd.length; rw [List.length_append]; show _ - (_ + 1) < _; omega, lf_of2 ?ge_1 ?go_1 (htl ▸ innL_flat _ _ _) ?gs_1⟩
          case gok_1 =>
            intro y hy
            rcases List.mem_append.1 hy with hy | hy
            · exact g1 y hy
            · rw [List.mem_singleton.1 hy]
              exact ⟨by omega, by omega⟩
          case ge_1 => exact ⟨Lc.same _ rfl, Lc.same _ rfl, Lc.same _ rfl, Lc.same _ rfl, Lc.same _ rfl, Lc.same _ trivial, lc_int (by rw [List.length_append]; rfl), trivial⟩
          case go_1 =>
            refine ⟨lfOb_same ?h0_1 (bx_flat a), lfOb_same ?h1_1 (bx_flat b), lfOb_same ?h2_1 (bx_flat a), lfOb_same ?h3_1 (bx_flat b), lfOb_keep ?h4_1 (mb_lv trivial trivial trivial rfl), lfOb_keep ?h5_1 (own_lv (hcl _)), lfOb_set (F := rtV) (l := dd ++ r0.drop dd.length) (k := 0 + dd.length) (a := r0.getD dd.length default) (og_here _ _ _) (by rw [Nat.zero_add]; exact row_set hlt) (fun _ _ => rtV_flat _) (rtV_flat _).lv, trivial⟩
            case h0_1 => ((repeat (refine og_skip (by omega) ?_)); exact og_here _ _ _)
            case h1_1 => ((repeat (refine og_skip (by omega) ?_)); exact og_here _ _ _)
            case h2_1 => ((repeat (refine og_skip (by omega) ?_)); exact og_here _ _ _)
            case h3_1 => ((repeat (refine og_skip (by omega) ?_)); exact og_here _ _ _)
            case h4_1 => ((repeat (refine og_skip (by omega) ?_)); exact og_here _ _ _)
            case h5_1 => ((repeat (refine og_skip (by omega) ?_)); exact og_here _ _ _)
          case gs_1 =>
            intro i o hf h
            have := hne _ i hf
            have h21 : ¬ i < 21 := fun h9 => by rw [hnt i h9] at h; cases h
            ((repeat (refine og_skip (by omega) ?_)); exact h)
        · have hlt : dd.length < r0.length := by omega
          refine ⟨dd ++ [r0.getD dd.length default], ⟨by rw [List.length_append]; exact hlt, ?gok_2⟩, by show r0.length - (dd ++ [_]).length < r0.length - dd.length; rw [List.length_append]; show _ - (_ + 1) < _; omega, lf_of2 ?ge_2 ?go_2 (htl ▸ innL_flat _ _ _) ?gs_2⟩
          case gok_2 =>
            intro y hy
            rcases List.mem_append.1 hy with hy | hy
            · exact g1 y hy
            · rw [List.mem_singleton.1 hy]
              exact ⟨by omega, by omega⟩
          case ge_2 => exact ⟨Lc.same _ rfl, Lc.same _ rfl, Lc.same _ rfl, Lc.same _ rfl, Lc.same _ rfl, Lc.same _ trivial, lc_int (by rw [List.length_append]; rfl), trivial⟩
          case go_2 =>
            refine ⟨lfOb_same ?h0_2 (bx_flat a), lfOb_same ?h1_2 (bx_flat b), lfOb_same ?h2_2 (bx_flat a), lfOb_same ?h3_2 (bx_flat b), lfOb_keep ?h4_2 (mb_lv trivial trivial trivial rfl), lfOb_keep ?h5_2 (own_lv (hcl _)), lfOb_set (F := rtV) (l := dd ++ r0.drop dd.length) (k := 0 + dd.length) (a := r0.getD dd.length default) (og_here _ _ _) (by rw [Nat.zero_add]; exact row_set hlt) (fun _ _ => rtV_flat _) (rtV_flat _).lv, trivial⟩
            case h0_2 => ((repeat (refine og_skip (by omega) ?_)); exact og_here _ _ _)
            case h1_2 => ((repeat (refine og_skip (by omega) ?_)); exact og_here _ _ _)
            case h2_2 => ((repeat (refine og_skip (by omega) ?_)); exact og_here _ _ _)
            case h3_2 => ((repeat (refine og_skip (by omega) ?_)); exact og_here _ _ _)
            case h4_2 => ((repeat (refine og_skip (by omega) ?_)); exact og_here _ _ _)
            case h5_2 => ((repeat (refine og_skip (by omega) ?_)); exact og_here _ _ _)
          case gs_2 =>
            intro i o hf h
            have := hne _ i hf
            have h21 : ¬ i < 21 := fun h9 => by rw [hnt i h9] at h; cases h
            ((repeat (refine og_skip (by omega) ?_)); exact h)
        · have hdd : dd.length = r0.length := by omega
          have e0 : dd ++ r0.drop dd.length = dd := by rw [List.drop_eq_nil_of_le (by omega), List.append_nil]
          have e1 : (d ++ [dd]).length = d.length + 1 := by simp
          refine ⟨d ++ [dd], ⟨by omega, ?gr_3, ?gm_3⟩, by show _ - (d ++ [dd]).length < _ - d.length; omega, lf_of ?ge_3 ?go_3 (innL_flat _ _ _) ?gs_3⟩
          case gr_3 =>
            intro y hy
            rcases List.mem_append.1 hy with hy | hy
            · exact h1 y hy
            · rw [List.mem_singleton.1 hy]
              exact ⟨by omega, g1⟩
          case gm_3 =>
            rw [e1, take_one hi, List.map_append, List.map_append, h2, hr]
            show _ ++ [dd.length] = _ ++ [r0.length]
            rw [hdd]
          case ge_3 => exact ⟨Lc.same _ rfl, Lc.same _ rfl, Lc.same _ rfl, Lc.same _ rfl, Lc.same _ rfl, lc_int (by rw [e1]; rfl), trivial⟩
          case go_3 =>
            refine ⟨lfOb_same ?h0_3 (bx_flat a), lfOb_same ?h1_3 (bx_flat b), lfOb_same ?h2_3 (bx_flat a), lfOb_same ?h3_3 (bx_flat b), lfOb_keep ?h4_3 (mb_lv trivial trivial trivial rfl), lfOb_keep ?h5_3 (own_lv fun j hj => os_of (og_skip (by omega) (og_skip (by omega) (og_skip (by omega) (og_skip (by omega) (og_skip (by omega) (og_skip (by omega) (innL_some (by simp; omega))))))))), trivial⟩
            case h0_3 => ((repeat (refine og_skip (by omega) ?_)); exact og_here _ _ _)
            case h1_3 => ((repeat (refine og_skip (by omega) ?_)); exact og_here _ _ _)
            case h2_3 => ((repeat (refine og_skip (by omega) ?_)); exact og_here _ _ _)
            case h3_3 => ((repeat (refine og_skip (by omega) ?_)); exact og_here _ _ _)
            case h4_3 => ((repeat (refine og_skip (by omega) ?_)); exact og_here _ _ _)
            case h5_3 => ((repeat (refine og_skip (by omega) ?_)); exact og_here _ _ _)
          case gs_3 =>
            intro j o h
            obtain ⟨q1, q2, q3⟩ := innL_get h
            have q2' : j < 21 + a.tables.length := by simp at q2; omega
            by_cases ej : j = c
            · subst ej
              repeat (refine og_skip (by omega) ?_)
              refine (og_here _ _ _).trans ?_
              rw [q3, e0, show j - 21 = d.length by omega]
              rw [getD_app (by omega), List.getD, List.getElem?_append_right (Nat.le_refl _), Nat.sub_self]; rfl
            · have q4 : oget tl j = some o := by
                rw [q3, getD3 (by omega), ← htl]
                have := innL_some (f := nul) (b := 21) (l := d ++ a.tables.drop d.length) (j := j - 21) (by simp; omega)
                rwa [show 21 + (j - 21) = j by omega] at this
              ((repeat (refine og_skip (by omega) ?_)); exact q4)
      · have e1 : d.map List.length = a.tables.map List.length := by rw [h2, List.take_of_length_le (by omega)]
        have e2 : a.tables.drop d.length = [] := List.drop_eq_nil_of_le (by omega)
        refine hR _ d ⟨h0, h1⟩ (lf_of0 ?_ ?_)
        · exact ⟨Lc.same _ rfl, Lc.same _ rfl, Lc.same _ rfl, Lc.same _ rfl, Lc.same _ rfl, trivial⟩
        · refine ⟨lfOb_same rfl (bx_flat a), lfOb_same rfl (bx_flat b), lfOb_same rfl (bx_flat a), lfOb_same rfl (bx_flat b), lfOb_one rfl (lv_agg ⟨Lc.same _ trivial, Lc.same _ trivial, Lc.same _ trivial, Lc.same _ trivial, Lc.frz false (.own 20 0 0 a.tables.length) (tRLL d) (fd_tabs (by rw [ownE_same e1]; rfl) (fun j hj => ?_) (fun j hj => ?_) (by omega)), trivial⟩), trivial⟩
          · rw [← getD_app (l := a.tables.drop d.length) hj]
            exact og_skip (by omega) (og_skip (by omega) (og_skip (by omega) (og_skip (by omega) (og_skip (by omega) (og_skip (by omega) (innL_some (by simp; omega)))))))
          · exact on_skip (by omega) (on_skip (by omega) (on_skip (by omega) (on_skip (by omega) (on_skip (by omega) rfl))))
    case tail =>
      rintro d ⟨h0, h1⟩
      have nz := zOK na h1 h0
      repeat' (first
          | (with_reducible (first | refine seq_i ?_ | refine blk_i ?_ | refine X.seq_n ?_ | refine X.seq_r ?_ | refine X.seq_x ?_ | refine X.blk_n ?_ | refine X.blk_r ?_ | refine X.blk_s ?_ | refine X.blk_o (by decide) ?_ | refine skip_i ?_ | refine ret_i ?_ | refine exit_i ?_))
          | (with_reducible (refine reg_i ?_); intro K hK)
          | (with_reducible (refine drw_i ?_); intro K hK)
          | ((with_reducible refine cond_t ?hc ?_); (case hc => rfl))
          | ((with_reducible refine cond_f ?hc ?_); (case hc => rfl))
          | ((with_reducible refine cond_m ?_); refine And.intro ?_ ?_; all_goals (intro hb; (try simp only [Int.toNat_natCast, decide_eq_true_eq, decide_eq_false_iff_not, beq_iff_eq, beq_eq_false_iff_ne, bne_iff_ne, bne_eq_false_iff_eq, Bool.not_eq_true, Bool.not_eq_false, Bool.not_eq_true', Bool.not_eq_false', ne_eq, gt_iff_lt, ge_iff_le, Int.not_lt, Int.not_le, List.length_map, List.length_drop, List.length_take, Decidable.not_not, Bool.and_eq_true, Bool.or_eq_true, true_and, and_true] at hb); (try (exfalso; first | omega | exact Bool.noConfusion hb | exact False.elim hb | exact absurd rfl hb | exact absurd trivial hb))))
          | (refine hK _ ?_; clear hK K)
          | (refine hK _ _ rfl ?_; clear hK K)
          | (have hg := hK; clear hg; refine And.intro rfl ?_)
          | (have hg := hK; clear hg; refine And.intro (allsz_map fun _ => rfl) ?_)
          | (have hg := hK; clear hg; refine And.intro (allv_map fun _ => rfl) ?_)
          | (have hg := hK; clear hg; refine And.intro (allv_map2 fun _ => rfl) ?_)
          | (have hg := hK; clear hg; refine And.intro (Nat.le_of_ble_eq_true rfl) ?_)
          | (have hg := hK; clear hg; refine And.intro (by first | omega | decide | (simp only [Int.toNat_natCast, List.length_map, List.length_drop, List.length_take, List.length_nil, List.length_cons, List.length_append, List.length_replicate, List.length_set, Nat.zero_add]; omega)) ?_)
          | (have hg := hK; clear hg; refine fresh_n ?_)
          | (have hg := hK; clear hg; refine freshO_n ?_)
          | (have hg := hK; clear hg; refine And.intro (by64 (Nat.le_of_ble_eq_true rfl) (by first | omega | (simp only [Int.toNat_natCast, List.length_map, List.length_drop, List.length_take, List.length_nil, List.length_cons, List.length_append, List.length_replicate, List.length_set, Nat.zero_add]; omega))) ?_)
          | (have hg := hK; clear hg; refine And.intro (by64i (Nat.le_of_ble_eq_true rfl) (by first | omega | (simp only [Int.toNat_natCast, List.length_map, List.length_drop, List.length_take, List.length_nil, List.length_cons, List.length_append, List.length_replicate, List.length_set, Nat.zero_add]; omega)) (by first | omega | (simp only [Int.toNat_natCast, List.length_map, List.length_drop, List.length_take, List.length_nil, List.length_cons, List.length_append, List.length_replicate, List.length_set, Nat.zero_add]; omega))) ?_)
          | (have hg := hK; clear hg; refine at_q (by first | omega | (simp only [Int.toNat_natCast, List.length_map, List.length_drop, List.length_take, List.length_nil, List.length_cons, List.length_append, List.length_replicate, List.length_set, Nat.zero_add]; omega)) ?_; intro hu)
          | (have hg := hK; clear hg; refine Exists.intro _ (And.intro (wrapAny (by first | (simp only [kmin, kmax]; omega) | (simp only [kmin, kmax, List.length_map, List.length_replicate, List.length_append]; omega)) (by first | (simp only [kmin, kmax]; omega) | (simp only [kmin, kmax, List.length_map, List.length_replicate, List.length_append]; omega))) ?_))
          | (have hg := hK; clear hg; refine mul_q (by first | omega | (simp only [Int.toNat_natCast, List.length_map, List.length_drop, List.length_take, List.length_nil, List.length_cons, List.length_append, List.length_replicate, List.length_set, Nat.zero_add]; omega)) (by first | omega | (simp only [Int.toNat_natCast, List.length_map, List.length_drop, List.length_take, List.length_nil, List.length_cons, List.length_append, List.length_replicate, List.length_set, Nat.zero_add]; omega)) (by first | omega | (simp only [Int.toNat_natCast, List.length_map, List.length_drop, List.length_take, List.length_nil, List.length_cons, List.length_append, List.length_replicate, List.length_set, Nat.zero_add]; omega)) (by first | omega | (simp only [Int.toNat_natCast, List.length_map, List.length_drop, List.length_take, List.length_nil, List.length_cons, List.length_append, List.length_replicate, List.length_set, Nat.zero_add]; omega)) ?_; intro hm1 hm2)
          | (have hg := hK; clear hg; refine Exists.intro _ (And.intro (at_map (by first | omega | (simp only [Int.toNat_natCast, List.length_map, List.length_drop, List.length_take, List.length_nil, List.length_cons, List.length_append, List.length_replicate, List.length_set, Nat.zero_add]; omega))) ?_))
          | (have hg := hK; clear hg; refine Exists.intro _ (And.intro rfl ?_))
          | (have hg := hK; clear hg; refine Or.inl (Exists.intro _ (Exists.intro _ (And.intro (SameNt_ok a b na nb) ?_))))
          | (have hg := hK; clear hg; refine Or.inl (Exists.intro _ (Exists.intro _ (And.intro (rSameNt_ok a b na nb) ?_))))
          | (have hg := hK; clear hg; refine Or.inl (Exists.intro _ (Exists.intro _ (And.intro (SameNt_ok a (zNt a d) na nz) ?_))))
          | (have hg := hK; clear hg; refine Or.inl (Exists.intro _ (Exists.intro _ (And.intro (rSameNt_ok a (zNt a d) na nz) ?_))))
          | (have hg := hK; clear hg; refine Or.inl (Exists.intro _ (Exists.intro _ (And.intro (SameNt_ok a a na na) ?_))))
          | (have hg := hK; clear hg; refine And.intro ?_ ?_ <;> (intro hb; (try simp only [Int.toNat_natCast, decide_eq_true_eq, decide_eq_false_iff_not, beq_iff_eq, beq_eq_false_iff_ne, bne_iff_ne, bne_eq_false_iff_eq, Bool.not_eq_true, Bool.not_eq_false, Bool.not_eq_true', Bool.not_eq_false', ne_eq, gt_iff_lt, ge_iff_le, Int.not_lt, Int.not_le, List.length_map, List.length_drop, List.length_take, Decidable.not_not, Bool.and_eq_true, Bool.or_eq_true, true_and, and_true] at hb); (try (exfalso; first | omega | exact Bool.noConfusion hb | exact False.elim hb | exact absurd rfl hb | exact absurd trivial hb))))
          | (have hg := hK; clear hg; intro b0 hb))
      exact And.intro trivial (fz_con (congrArg Value.bool (sameNt_refl a)))
