import Derived.Test.YtekgeekghclfaaaGreatRefb
set_option linter.all false
namespace Go.Ev
open Go.Proofs
set_option maxRecDepth 10000
set_option maxHeartbeats 4000000
set_option linter.unusedSimpArgs false
set_option linter.unusedVariables false
def tI (n : Bool) (m : List UInt32) : T := .agg [.con (.bool n), tn m]
def iv (n : Bool) (m : List UInt32) : Int := if n then -(val m : Int) else val m
def tZ (z : Int) : T := tI (decide (z < 0)) (lm z.natAbs)
theorem fz_agg2 {oh : OH} {f : Bool} {v1 v2 : V} {t1 t2 : T} (h1 : Fz1 oh f v1 t1) (h2 : Fz1 oh f v2 t2) : FzA oh f (.agg [v1, v2]) (.agg [t1, t2]) := by
  refine ⟨rfl, fun j v t a b => ?_⟩
  match j with
  | 0 => simp at a b; subst a; subst b; exact h1
  | 1 => simp at a b; subst a; subst b; exact h2
  | j + 2 => simp at a
theorem ret_cell {P : Program} {fn : Func} {f : Bool} {r : T} {s : St} {a t id ver sz : Nat} {l : List V} {fs : List (Nat × Nat)} {z : List Value} (hr : fn.results.toList = [.cell a t]) (ht : tk P t = .st fs z) (hz : z.length = l.length) (h0 : 0 < l.length)
    (ha : eget s.env a = .ref id ver 0 0) (ho : oget s.oh id = some ⟨sz, [.agg l], ver, true⟩) (hf : FzA s.oh f (.agg l) r) : RetOK P fn f r .ret s := by
  refine ⟨trivial, ?_⟩
  rw [hr]
  show sload (tk P t) s.oh (eget s.env a) _
  rw [ha, ht]
  show use s.oh id ver _
  unfold use
  rw [ho]
  refine ⟨rfl, rfl, .agg l, rfl, by simp only [TK.size]; omega, by simp only [TK.size, V.cells]; omega, ?_⟩
  show FzA s.oh f (V.ofCells true ((l.drop 0).take z.length)) r
  rw [List.drop_zero, hz, List.take_length]
  exact hf
theorem lm_nil_iff (n : Nat) : lm n = [] ↔ n = 0 := by
  constructor
  · intro h; have := val_lm n; rw [h] at this; simpa [val] using this.symm
  · intro h; subst h; unfold lm; rfl
theorem rMake_ok (n : Bool) (m : List UInt32) (hm : m.length ≤ 2199023255552) : Ok Tryz.prog 90 [.con (.bool n), tn m] true (tZ (iv n m)) := by
  have hl := norm_le m
  have hn := norm_lm m
  have ez : (iv n m).natAbs = val m := by unfold iv; split <;> omega
  unfold tZ
  rw [ez, ← hn]
  cases n with
  | false =>
    have hd : decide (iv false m < 0) = false := by simp [iv]
    rw [hd]
    refine ok_of_ev (fun _ _ _ h => h) mix Tryz.func90 rfl rfl (by kernel_rfl) (Nat.le_of_ble_eq_true rfl) ?_
    repeat' (first|(with_reducible first|refine zA ?_|refine zB ?_|refine zC ?_|refine zD ?_|refine zE ?_|refine zF ?_|refine zG ?_|refine zH ?_|refine zI ?_|refine zJ ?_|refine zK ?_|refine zL ?_)|(with_reducible refine reg_i ?_;intro K hK)|(with_reducible refine drw_i ?_;intro K hK)|((with_reducible refine cond_t ?hc ?_);(case hc=>rfl))|((with_reducible refine cond_f ?hc ?_);(case hc=>rfl))|((with_reducible refine cond_m ?_);refine And.intro ?_ ?_;all_goals(intro hb;(try simp only [sb] at hb);try exact ex0))|(refine hK _ ?_;clear hK K)|(refine hK _ _ rfl ?_;clear hK K)|(have hg:=hK;clear hg;first|(refine And.intro ?zz ?_;case zz=>first|exact rfl|exact zO rfl|omega|exact gI)|(refine fresh_n ?_)|(refine freshO_n ?_)|(refine at_Q ?_;intro hu)|(refine zP wA ?_)|(refine mul_Q ?_;intro hm1 hm2)|(refine zP at_M ?_)|(refine zP rfl ?_)|(refine zQ (rNorm_ok m (by omega)) ?_)|(refine And.intro ?_ ?_;all_goals(intro hb;(try simp only [sb] at hb);try exact ex0))|(intro b0 hb)))
    exact ret_cell (l := [.con (.bool false), .ro true (tn (norm m))]) rfl tk39 rfl (Nat.zero_lt_succ _) rfl rfl (fz_agg2 (.con _) (.ro true _ fun h => h))
  | true =>
    refine ok_of_ev (fun _ _ _ h => h) mix Tryz.func90 rfl rfl (by kernel_rfl) (Nat.le_of_ble_eq_true rfl) ?_
    repeat' (first|(with_reducible first|refine zA ?_|refine zB ?_|refine zC ?_|refine zD ?_|refine zE ?_|refine zF ?_|refine zG ?_|refine zH ?_|refine zI ?_|refine zJ ?_|refine zK ?_|refine zL ?_)|(with_reducible refine reg_i ?_;intro K hK)|(with_reducible refine drw_i ?_;intro K hK)|((with_reducible refine cond_t ?hc ?_);(case hc=>rfl))|((with_reducible refine cond_f ?hc ?_);(case hc=>rfl))|((with_reducible refine cond_m ?_);refine And.intro ?_ ?_;all_goals(intro hb;(try simp only [sb] at hb);try exact ex0))|(refine hK _ ?_;clear hK K)|(refine hK _ _ rfl ?_;clear hK K)|(have hg:=hK;clear hg;first|(refine And.intro ?zz ?_;case zz=>first|exact rfl|exact zO rfl|omega|exact gI)|(refine fresh_n ?_)|(refine freshO_n ?_)|(refine at_Q ?_;intro hu)|(refine zP wA ?_)|(refine mul_Q ?_;intro hm1 hm2)|(refine zP at_M ?_)|(refine zP rfl ?_)|(refine zQ (rNorm_ok m (by omega)) ?_)|(refine And.intro ?_ ?_;all_goals(intro hb;(try simp only [sb] at hb);try exact ex0))|(intro b0 hb)))
    refine ret_cell (l := [V.con (.bool (decide ((0 : Int) < (((norm m).map tu32).length : Int)))), .ro true (tn (norm m))]) rfl tk39 rfl (Nat.zero_lt_succ _) rfl rfl (fz_agg2 (f := true) (?_ : Fz1 _ true (V.con (.bool (decide ((0 : Int) < (((norm m).map tu32).length : Int))))) _) (.ro true _ fun h => h))
    have e : decide ((0 : Int) < (((norm m).map tu32).length : Int)) = decide (iv true m < 0) := by
      rw [List.length_map]
      have h1 := lm_nil_iff (val m)
      rw [← hn] at h1
      have h2 : iv true m = -(val m : Int) := rfl
      rw [h2, decide_eq_decide]
      constructor
      · intro h
        have : norm m ≠ [] := fun h9 => by rw [h9] at h; simp at h
        have : val m ≠ 0 := fun h9 => this (h1.2 h9)
        omega
      · intro h
        have : norm m ≠ [] := fun h9 => by have := h1.1 h9; omega
        have := List.length_pos_iff.2 this
        omega
    rw [e]
    exact .con _
theorem fz_Z {oh : OH} (z : Int) : FzA oh true (.agg [V.con (.bool (decide (z < 0))), .ro true (tn (lm z.natAbs))]) (tZ z) := fz_agg2 (.con _) (.ro true _ fun h => h)
theorem rNormI_ok (n : Bool) (m : List UInt32) (hm : m.length ≤ 2199023255552) : Ok Tryz.prog 88 [tI n m] true (tZ (iv n m)) := by
  refine ok_of_ev (fun _ _ _ h => h) mix Tryz.func88 rfl rfl (by kernel_rfl) (Nat.le_of_ble_eq_true rfl) ?_
  repeat' (first|(with_reducible first|refine zA ?_|refine zB ?_|refine zC ?_|refine zD ?_|refine zE ?_|refine zF ?_|refine zG ?_|refine zH ?_|refine zI ?_|refine zJ ?_|refine zK ?_|refine zL ?_)|(with_reducible refine reg_i ?_;intro K hK)|(with_reducible refine drw_i ?_;intro K hK)|((with_reducible refine cond_t ?hc ?_);(case hc=>rfl))|((with_reducible refine cond_f ?hc ?_);(case hc=>rfl))|((with_reducible refine cond_m ?_);refine And.intro ?_ ?_;all_goals(intro hb;(try simp only [sb] at hb);try exact ex0))|(refine hK _ ?_;clear hK K)|(refine hK _ _ rfl ?_;clear hK K)|(have hg:=hK;clear hg;first|(refine And.intro ?zz ?_;case zz=>first|exact rfl|exact zO rfl|omega|exact gI)|(refine fresh_n ?_)|(refine freshO_n ?_)|(refine at_Q ?_;intro hu)|(refine zP wA ?_)|(refine mul_Q ?_;intro hm1 hm2)|(refine zP at_M ?_)|(refine zP rfl ?_)|(refine zQ (rMake_ok n m (by omega)) ?_)|(refine And.intro ?_ ?_;all_goals(intro hb;(try simp only [sb] at hb);try exact ex0))|(intro b0 hb)))
  exact ret_cell (l := [V.con (.bool (decide (iv n m < 0))), .ro true (tn (lm (iv n m).natAbs))]) rfl tk39 rfl (Nat.zero_lt_succ _) rfl rfl (fz_Z _)
theorem iv_not (n : Bool) (m : List UInt32) : iv (!n) m = - iv n m := by cases n <;> simp [iv]
theorem rNegI_ok (n : Bool) (m : List UInt32) (hm : m.length ≤ 2199023255552) : Ok Tryz.prog 109 [tI n m] true (tZ (- iv n m)) := by
  rw [← iv_not]
  refine ok_of_ev (fun _ _ _ h => h) mix Tryz.func109 rfl rfl (by kernel_rfl) (Nat.le_of_ble_eq_true rfl) ?_
  repeat' (first|(with_reducible first|refine zA ?_|refine zB ?_|refine zC ?_|refine zD ?_|refine zE ?_|refine zF ?_|refine zG ?_|refine zH ?_|refine zI ?_|refine zJ ?_|refine zK ?_|refine zL ?_)|(with_reducible refine reg_i ?_;intro K hK)|(with_reducible refine drw_i ?_;intro K hK)|((with_reducible refine cond_t ?hc ?_);(case hc=>rfl))|((with_reducible refine cond_f ?hc ?_);(case hc=>rfl))|((with_reducible refine cond_m ?_);refine And.intro ?_ ?_;all_goals(intro hb;(try simp only [sb] at hb);try exact ex0))|(refine hK _ ?_;clear hK K)|(refine hK _ _ rfl ?_;clear hK K)|(have hg:=hK;clear hg;first|(refine And.intro ?zz ?_;case zz=>first|exact rfl|exact zO rfl|omega|exact gI)|(refine fresh_n ?_)|(refine freshO_n ?_)|(refine at_Q ?_;intro hu)|(refine zP wA ?_)|(refine mul_Q ?_;intro hm1 hm2)|(refine zP at_M ?_)|(refine zP rfl ?_)|(refine zQ (rMake_ok (!n) m (by omega)) ?_)|(refine And.intro ?_ ?_;all_goals(intro hb;(try simp only [sb] at hb);try exact ex0))|(intro b0 hb)))
  exact ret_cell (l := [V.con (.bool (decide (iv (!n) m < 0))), .ro true (tn (lm (iv (!n) m).natAbs))]) rfl tk39 rfl (Nat.zero_lt_succ _) rfl rfl (fz_Z _)
theorem lm_len {n k : Nat} (h : n < 4294967296 ^ k) : (lm n).length ≤ k := by
  rcases can_lm n with h1 | h1
  · rw [h1]; simp
  · by_cases h2 : lm n = []
    · rw [h2]; simp
    · have := can_low (can_lm n) h2
      rw [val_lm] at this
      have h3 : 4294967296 ^ ((lm n).length - 1) < 4294967296 ^ k := Nat.lt_of_le_of_lt this h
      have := (Nat.pow_lt_pow_iff_right (by decide : 1 < 4294967296)).1 h3
      omega
theorem lm_mul_len (a b : List UInt32) : (lm (val a * val b)).length ≤ a.length + b.length := by
  refine lm_len ?_
  rw [Nat.pow_add]
  exact Nat.mul_lt_mul'' (val_lt a) (val_lt b)
theorem iv_mul (n k : Bool) (a b : List UInt32) : iv (n != k) (lm (val a * val b)) = iv n a * iv k b := by
  unfold iv
  rw [val_lm]
  cases n <;> cases k <;> simp [Int.neg_mul, Int.mul_neg]
theorem rMulI_ok (n k : Bool) (a b : List UInt32) (ha : a.length ≤ 549755813888) (hb : b.length ≤ 549755813888) : Ok Tryz.prog 65 [tI n a, tI k b] true (tZ (iv n a * iv k b)) := by
  rw [← iv_mul]
  have hl := lm_mul_len a b
  refine ok_of_ev (fun _ _ _ h => h) mix Tryz.func65 rfl rfl (by kernel_rfl) (Nat.le_of_ble_eq_true rfl) ?_
  repeat' (first|(with_reducible first|refine zA ?_|refine zB ?_|refine zC ?_|refine zD ?_|refine zE ?_|refine zF ?_|refine zG ?_|refine zH ?_|refine zI ?_|refine zJ ?_|refine zK ?_|refine zL ?_)|(with_reducible refine reg_i ?_;intro K hK)|(with_reducible refine drw_i ?_;intro K hK)|((with_reducible refine cond_t ?hc ?_);(case hc=>rfl))|((with_reducible refine cond_f ?hc ?_);(case hc=>rfl))|((with_reducible refine cond_m ?_);refine And.intro ?_ ?_;all_goals(intro hb;(try simp only [sb] at hb);try exact ex0))|(refine hK _ ?_;clear hK K)|(refine hK _ _ rfl ?_;clear hK K)|(have hg:=hK;clear hg;first|(refine And.intro ?zz ?_;case zz=>first|exact rfl|exact zO rfl|omega|exact gI)|(refine fresh_n ?_)|(refine freshO_n ?_)|(refine at_Q ?_;intro hu)|(refine zP wA ?_)|(refine mul_Q ?_;intro hm1 hm2)|(refine zP at_M ?_)|(refine zP rfl ?_)|(refine zQ (rMul_ok a b (by omega) (by omega)) ?_)|(refine zQ (rMake_ok (n != k) (lm (val a * val b)) (by omega)) ?_)|(refine And.intro ?_ ?_;all_goals(intro hb;(try simp only [sb] at hb);try exact ex0))|(intro b0 hb)))
  exact ret_cell (l := [V.con (.bool (decide (iv (n != k) (lm (val a * val b)) < 0))), .ro true (tn (lm (iv (n != k) (lm (val a * val b))).natAbs))]) rfl tk39 rfl (Nat.zero_lt_succ _) rfl rfl (fz_Z _)
theorem lm_add_len (a b : List UInt32) : (lm (val a + val b)).length ≤ max a.length b.length + 1 := by
  refine lm_len ?_
  have h1 := val_lt a
  have h2 := val_lt b
  have h3 : 4294967296 ^ a.length ≤ 4294967296 ^ max a.length b.length := Nat.pow_le_pow_right (by decide) (Nat.le_max_left _ _)
  have h4 : 4294967296 ^ b.length ≤ 4294967296 ^ max a.length b.length := Nat.pow_le_pow_right (by decide) (Nat.le_max_right _ _)
  rw [Nat.pow_succ]
  generalize 4294967296 ^ max a.length b.length = w at *
  omega
theorem lm_sub_len (a b : List UInt32) : (lm (val a - val b)).length ≤ a.length := lm_len (Nat.lt_of_le_of_lt (Nat.sub_le _ _) (val_lt a))
theorem rAddI_truetrue (a b : List UInt32) (ha : a.length ≤ 1099511627776) (hb : b.length ≤ 1099511627776) : Ok Tryz.prog 94 [tI true a, tI true b] true (tZ (iv true a + iv true b)) := by
  rw [show iv true a + iv true b = iv true (lm (val a + val b)) by simp only [iv, val_lm]; simp; try omega]
  have hl := lm_add_len a b
  refine ok_of_ev (fun _ _ _ h => h) mix Tryz.func94 rfl rfl (by kernel_rfl) (Nat.le_of_ble_eq_true rfl) ?_
  repeat' (first|(with_reducible first|refine zA ?_|refine zB ?_|refine zC ?_|refine zD ?_|refine zE ?_|refine zF ?_|refine zG ?_|refine zH ?_|refine zI ?_|refine zJ ?_|refine zK ?_|refine zL ?_)|(with_reducible refine reg_i ?_;intro K hK)|(with_reducible refine drw_i ?_;intro K hK)|((with_reducible refine cond_t ?hc ?_);(case hc=>rfl))|((with_reducible refine cond_f ?hc ?_);(case hc=>rfl))|((with_reducible refine cond_m ?_);refine And.intro ?_ ?_;all_goals(intro hb;(try simp only [sb] at hb);try exact ex0))|(refine hK _ ?_;clear hK K)|(refine hK _ _ rfl ?_;clear hK K)|(have hg:=hK;clear hg;first|(refine And.intro ?zz ?_;case zz=>first|exact rfl|exact zO rfl|omega|exact gI)|(refine fresh_n ?_)|(refine freshO_n ?_)|(refine at_Q ?_;intro hu)|(refine zP wA ?_)|(refine mul_Q ?_;intro hm1 hm2)|(refine zP at_M ?_)|(refine zP rfl ?_)|(refine zQ (rAdd_ok a b (by omega) (by omega)) ?_)|(refine zQ (rMake_ok true (lm (val a + val b)) (by omega)) ?_)|(refine And.intro ?_ ?_;all_goals(intro hb;(try simp only [sb] at hb);try exact ex0))|(intro b0 hb)))
  exact ret_cell (l := [V.con (.bool (decide (iv true (lm (val a + val b)) < 0))), .ro true (tn (lm (iv true (lm (val a + val b))).natAbs))]) rfl tk39 rfl (Nat.zero_lt_succ _) rfl rfl (fz_Z _)
theorem rAddI_falsefalse (a b : List UInt32) (ha : a.length ≤ 1099511627776) (hb : b.length ≤ 1099511627776) : Ok Tryz.prog 94 [tI false a, tI false b] true (tZ (iv false a + iv false b)) := by
  rw [show iv false a + iv false b = iv false (lm (val a + val b)) by simp only [iv, val_lm]; simp; try omega]
  have hl := lm_add_len a b
  refine ok_of_ev (fun _ _ _ h => h) mix Tryz.func94 rfl rfl (by kernel_rfl) (Nat.le_of_ble_eq_true rfl) ?_
  repeat' (first|(with_reducible first|refine zA ?_|refine zB ?_|refine zC ?_|refine zD ?_|refine zE ?_|refine zF ?_|refine zG ?_|refine zH ?_|refine zI ?_|refine zJ ?_|refine zK ?_|refine zL ?_)|(with_reducible refine reg_i ?_;intro K hK)|(with_reducible refine drw_i ?_;intro K hK)|((with_reducible refine cond_t ?hc ?_);(case hc=>rfl))|((with_reducible refine cond_f ?hc ?_);(case hc=>rfl))|((with_reducible refine cond_m ?_);refine And.intro ?_ ?_;all_goals(intro hb;(try simp only [sb] at hb);try exact ex0))|(refine hK _ ?_;clear hK K)|(refine hK _ _ rfl ?_;clear hK K)|(have hg:=hK;clear hg;first|(refine And.intro ?zz ?_;case zz=>first|exact rfl|exact zO rfl|omega|exact gI)|(refine fresh_n ?_)|(refine freshO_n ?_)|(refine at_Q ?_;intro hu)|(refine zP wA ?_)|(refine mul_Q ?_;intro hm1 hm2)|(refine zP at_M ?_)|(refine zP rfl ?_)|(refine zQ (rAdd_ok a b (by omega) (by omega)) ?_)|(refine zQ (rMake_ok false (lm (val a + val b)) (by omega)) ?_)|(refine And.intro ?_ ?_;all_goals(intro hb;(try simp only [sb] at hb);try exact ex0))|(intro b0 hb)))
  exact ret_cell (l := [V.con (.bool (decide (iv false (lm (val a + val b)) < 0))), .ro true (tn (lm (iv false (lm (val a + val b))).natAbs))]) rfl tk39 rfl (Nat.zero_lt_succ _) rfl rfl (fz_Z _)
theorem rAddI_truefalse (a b : List UInt32) (ha : a.length ≤ 1099511627776) (hb : b.length ≤ 1099511627776) : Ok Tryz.prog 94 [tI true a, tI false b] true (tZ (iv true a + iv false b)) := by
  by_cases h : val a < val b
  · rw [show iv true a + iv false b = iv false (lm (val b - val a)) by simp only [iv, val_lm]; simp; try omega]
    have hl := lm_sub_len b a
    refine ok_of_ev (fun _ _ _ h => h) mix Tryz.func94 rfl rfl (by kernel_rfl) (Nat.le_of_ble_eq_true rfl) ?_
    repeat' (first|(with_reducible first|refine zA ?_|refine zB ?_|refine zC ?_|refine zD ?_|refine zE ?_|refine zF ?_|refine zG ?_|refine zH ?_|refine zI ?_|refine zJ ?_|refine zK ?_|refine zL ?_)|(with_reducible refine reg_i ?_;intro K hK)|(with_reducible refine drw_i ?_;intro K hK)|((with_reducible refine cond_t ?hc ?_);(case hc=>rfl))|((with_reducible refine cond_f ?hc ?_);(case hc=>rfl))|((with_reducible refine cond_m ?_);refine And.intro ?_ ?_;all_goals(intro hb;(try simp only [sb] at hb);try exact ex0))|(refine hK _ ?_;clear hK K)|(refine hK _ _ rfl ?_;clear hK K)|(have hg:=hK;clear hg;first|(refine And.intro ?zz ?_;case zz=>first|exact rfl|exact zO rfl|omega|exact gI)|(refine fresh_n ?_)|(refine freshO_n ?_)|(refine at_Q ?_;intro hu)|(refine zP wA ?_)|(refine mul_Q ?_;intro hm1 hm2)|(refine zP at_M ?_)|(refine zP rfl ?_)|(refine zQ (rSub_lt a b (by omega) (by omega) (by omega)) ?_)|(refine zQ (rSub_ge b a (by omega) (by omega) (by omega)) ?_)|(refine zQ (rMake_ok false (lm (val b - val a)) (by omega)) ?_)|(refine And.intro ?_ ?_;all_goals(intro hb;(try simp only [sb] at hb);try exact ex0))|(intro b0 hb)))
    exact ret_cell (l := [V.con (.bool (decide (iv false (lm (val b - val a)) < 0))), .ro true (tn (lm (iv false (lm (val b - val a))).natAbs))]) rfl tk39 rfl (Nat.zero_lt_succ _) rfl rfl (fz_Z _)
  · rw [show iv true a + iv false b = iv true (lm (val a - val b)) by simp only [iv, val_lm]; simp; try omega]
    have hl := lm_sub_len a b
    refine ok_of_ev (fun _ _ _ h => h) mix Tryz.func94 rfl rfl (by kernel_rfl) (Nat.le_of_ble_eq_true rfl) ?_
    repeat' (first|(with_reducible first|refine zA ?_|refine zB ?_|refine zC ?_|refine zD ?_|refine zE ?_|refine zF ?_|refine zG ?_|refine zH ?_|refine zI ?_|refine zJ ?_|refine zK ?_|refine zL ?_)|(with_reducible refine reg_i ?_;intro K hK)|(with_reducible refine drw_i ?_;intro K hK)|((with_reducible refine cond_t ?hc ?_);(case hc=>rfl))|((with_reducible refine cond_f ?hc ?_);(case hc=>rfl))|((with_reducible refine cond_m ?_);refine And.intro ?_ ?_;all_goals(intro hb;(try simp only [sb] at hb);try exact ex0))|(refine hK _ ?_;clear hK K)|(refine hK _ _ rfl ?_;clear hK K)|(have hg:=hK;clear hg;first|(refine And.intro ?zz ?_;case zz=>first|exact rfl|exact zO rfl|omega|exact gI)|(refine fresh_n ?_)|(refine freshO_n ?_)|(refine at_Q ?_;intro hu)|(refine zP wA ?_)|(refine mul_Q ?_;intro hm1 hm2)|(refine zP at_M ?_)|(refine zP rfl ?_)|(refine zQ (rSub_ge a b (by omega) (by omega) (by omega)) ?_)|(refine zQ (rMake_ok true (lm (val a - val b)) (by omega)) ?_)|(refine And.intro ?_ ?_;all_goals(intro hb;(try simp only [sb] at hb);try exact ex0))|(intro b0 hb)))
    exact ret_cell (l := [V.con (.bool (decide (iv true (lm (val a - val b)) < 0))), .ro true (tn (lm (iv true (lm (val a - val b))).natAbs))]) rfl tk39 rfl (Nat.zero_lt_succ _) rfl rfl (fz_Z _)
theorem rAddI_falsetrue (a b : List UInt32) (ha : a.length ≤ 1099511627776) (hb : b.length ≤ 1099511627776) : Ok Tryz.prog 94 [tI false a, tI true b] true (tZ (iv false a + iv true b)) := by
  by_cases h : val a < val b
  · rw [show iv false a + iv true b = iv true (lm (val b - val a)) by simp only [iv, val_lm]; simp; try omega]
    have hl := lm_sub_len b a
    refine ok_of_ev (fun _ _ _ h => h) mix Tryz.func94 rfl rfl (by kernel_rfl) (Nat.le_of_ble_eq_true rfl) ?_
    repeat' (first|(with_reducible first|refine zA ?_|refine zB ?_|refine zC ?_|refine zD ?_|refine zE ?_|refine zF ?_|refine zG ?_|refine zH ?_|refine zI ?_|refine zJ ?_|refine zK ?_|refine zL ?_)|(with_reducible refine reg_i ?_;intro K hK)|(with_reducible refine drw_i ?_;intro K hK)|((with_reducible refine cond_t ?hc ?_);(case hc=>rfl))|((with_reducible refine cond_f ?hc ?_);(case hc=>rfl))|((with_reducible refine cond_m ?_);refine And.intro ?_ ?_;all_goals(intro hb;(try simp only [sb] at hb);try exact ex0))|(refine hK _ ?_;clear hK K)|(refine hK _ _ rfl ?_;clear hK K)|(have hg:=hK;clear hg;first|(refine And.intro ?zz ?_;case zz=>first|exact rfl|exact zO rfl|omega|exact gI)|(refine fresh_n ?_)|(refine freshO_n ?_)|(refine at_Q ?_;intro hu)|(refine zP wA ?_)|(refine mul_Q ?_;intro hm1 hm2)|(refine zP at_M ?_)|(refine zP rfl ?_)|(refine zQ (rSub_lt a b (by omega) (by omega) (by omega)) ?_)|(refine zQ (rSub_ge b a (by omega) (by omega) (by omega)) ?_)|(refine zQ (rMake_ok true (lm (val b - val a)) (by omega)) ?_)|(refine And.intro ?_ ?_;all_goals(intro hb;(try simp only [sb] at hb);try exact ex0))|(intro b0 hb)))
    exact ret_cell (l := [V.con (.bool (decide (iv true (lm (val b - val a)) < 0))), .ro true (tn (lm (iv true (lm (val b - val a))).natAbs))]) rfl tk39 rfl (Nat.zero_lt_succ _) rfl rfl (fz_Z _)
  · rw [show iv false a + iv true b = iv false (lm (val a - val b)) by simp only [iv, val_lm]; simp; try omega]
    have hl := lm_sub_len a b
    refine ok_of_ev (fun _ _ _ h => h) mix Tryz.func94 rfl rfl (by kernel_rfl) (Nat.le_of_ble_eq_true rfl) ?_
    repeat' (first|(with_reducible first|refine zA ?_|refine zB ?_|refine zC ?_|refine zD ?_|refine zE ?_|refine zF ?_|refine zG ?_|refine zH ?_|refine zI ?_|refine zJ ?_|refine zK ?_|refine zL ?_)|(with_reducible refine reg_i ?_;intro K hK)|(with_reducible refine drw_i ?_;intro K hK)|((with_reducible refine cond_t ?hc ?_);(case hc=>rfl))|((with_reducible refine cond_f ?hc ?_);(case hc=>rfl))|((with_reducible refine cond_m ?_);refine And.intro ?_ ?_;all_goals(intro hb;(try simp only [sb] at hb);try exact ex0))|(refine hK _ ?_;clear hK K)|(refine hK _ _ rfl ?_;clear hK K)|(have hg:=hK;clear hg;first|(refine And.intro ?zz ?_;case zz=>first|exact rfl|exact zO rfl|omega|exact gI)|(refine fresh_n ?_)|(refine freshO_n ?_)|(refine at_Q ?_;intro hu)|(refine zP wA ?_)|(refine mul_Q ?_;intro hm1 hm2)|(refine zP at_M ?_)|(refine zP rfl ?_)|(refine zQ (rSub_ge a b (by omega) (by omega) (by omega)) ?_)|(refine zQ (rMake_ok false (lm (val a - val b)) (by omega)) ?_)|(refine And.intro ?_ ?_;all_goals(intro hb;(try simp only [sb] at hb);try exact ex0))|(intro b0 hb)))
    exact ret_cell (l := [V.con (.bool (decide (iv false (lm (val a - val b)) < 0))), .ro true (tn (lm (iv false (lm (val a - val b))).natAbs))]) rfl tk39 rfl (Nat.zero_lt_succ _) rfl rfl (fz_Z _)
theorem rAddI_ok (n k : Bool) (a b : List UInt32) (ha : a.length ≤ 1099511627776) (hb : b.length ≤ 1099511627776) : Ok Tryz.prog 94 [tI n a, tI k b] true (tZ (iv n a + iv k b)) := by
  cases n <;> cases k
  · exact rAddI_falsefalse a b ha hb
  · exact rAddI_falsetrue a b ha hb
  · exact rAddI_truefalse a b ha hb
  · exact rAddI_truetrue a b ha hb
