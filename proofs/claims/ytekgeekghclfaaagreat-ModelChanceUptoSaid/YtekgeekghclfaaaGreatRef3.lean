import Derived.Test.YtekgeekghclfaaaGreatRef2
set_option linter.all false
namespace Go.Ev
open Go.Proofs
set_option maxRecDepth 10000
set_option maxHeartbeats 4000000
set_option linter.unusedSimpArgs false
set_option linter.unusedVariables false
theorem iv_Z (z : Int) : iv (decide (z < 0)) (lm z.natAbs) = z := by
  unfold iv
  rw [val_lm]
  by_cases h : z < 0
  · rw [decide_eq_true h, if_pos rfl]; omega
  · rw [decide_eq_false h, if_neg (by decide)]; omega
theorem iv_abs (n : Bool) (m : List UInt32) : (iv n m).natAbs = val m := by unfold iv; split <;> omega
theorem lm_iv_len (n : Bool) (m : List UInt32) : (lm (iv n m).natAbs).length ≤ m.length := by
  rw [iv_abs, ← norm_lm]; exact norm_le m
theorem lm_ivn_len (n : Bool) (m : List UInt32) : (lm (- iv n m).natAbs).length ≤ m.length := by
  rw [Int.natAbs_neg]; exact lm_iv_len n m
theorem lm_abs0 (z : Int) : (lm z.natAbs).length = 0 ↔ z = 0 := by
  rw [List.length_eq_zero_iff, lm_nil_iff]; omega
def signZ (z : Int) : Int := if z = 0 then 0 else if z < 0 then -1 else 1
theorem rSubI_ok (n k : Bool) (a b : List UInt32) (ha : a.length ≤ 1099511627776) (hb : b.length ≤ 1099511627776) : Ok Tryz.prog 89 [tI n a, tI k b] true (tZ (iv n a - iv k b)) := by
  rw [show iv n a - iv k b = iv n a + iv (decide (- iv k b < 0)) (lm (- iv k b).natAbs) by rw [iv_Z]; omega]
  have hl := lm_ivn_len k b
  refine ok_of_ev (fun _ _ _ h => h) mix Tryz.func89 rfl rfl (by kernel_rfl) (Nat.le_of_ble_eq_true rfl) ?_
  repeat' (first|(with_reducible first|refine zA ?_|refine zB ?_|refine zC ?_|refine zD ?_|refine zE ?_|refine zF ?_|refine zG ?_|refine zH ?_|refine zI ?_|refine zJ ?_|refine zK ?_|refine zL ?_)|(with_reducible refine reg_i ?_;intro K hK)|(with_reducible refine drw_i ?_;intro K hK)|((with_reducible refine cond_t ?hc ?_);(case hc=>rfl))|((with_reducible refine cond_f ?hc ?_);(case hc=>rfl))|((with_reducible refine cond_m ?_);refine And.intro ?_ ?_;all_goals(intro hb;(try simp only [sb] at hb);try exact ex0))|(refine hK _ ?_;clear hK K)|(refine hK _ _ rfl ?_;clear hK K)|(have hg:=hK;clear hg;first|(refine And.intro ?zz ?_;case zz=>first|exact rfl|exact zO rfl|omega|exact gI)|(refine fresh_n ?_)|(refine freshO_n ?_)|(refine at_Q ?_;intro hu)|(refine zP wA ?_)|(refine mul_Q ?_;intro hm1 hm2)|(refine zP at_M ?_)|(refine zP rfl ?_)|(refine zQ (rNegI_ok k b (by omega)) ?_)|(refine zQ (rAddI_ok n (decide (- iv k b < 0)) a (lm (- iv k b).natAbs) (by omega) (by omega)) ?_)|(refine And.intro ?_ ?_;all_goals(intro hb;(try simp only [sb] at hb);try exact ex0))|(intro b0 hb)))
  exact ret_cell (l := [V.con (.bool (decide (iv n a + iv (decide (- iv k b < 0)) (lm (- iv k b).natAbs) < 0))), .ro true (tn (lm (iv n a + iv (decide (- iv k b < 0)) (lm (- iv k b).natAbs)).natAbs))]) rfl tk39 rfl (Nat.zero_lt_succ _) rfl rfl (fz_Z _)
theorem rSignI_ok (n : Bool) (m : List UInt32) (hm : m.length ≤ 2199023255552) : Ok Tryz.prog 63 [tI n m] true (.con (.int .i64 (signZ (iv n m)))) := by
  refine ok_of_ev (fun _ _ _ h => h) mix Tryz.func63 rfl rfl (by kernel_rfl) (Nat.le_of_ble_eq_true rfl) ?_
  repeat' (first|(with_reducible first|refine zA ?_|refine zB ?_|refine zC ?_|refine zD ?_|refine zE ?_|refine zF ?_|refine zG ?_|refine zH ?_|refine zI ?_|refine zJ ?_|refine zK ?_|refine zL ?_)|(with_reducible refine reg_i ?_;intro K hK)|(with_reducible refine drw_i ?_;intro K hK)|((with_reducible refine cond_t ?hc ?_);(case hc=>rfl))|((with_reducible refine cond_f ?hc ?_);(case hc=>rfl))|((with_reducible refine cond_m ?_);refine And.intro ?_ ?_;all_goals(intro hb;(try simp only [sb] at hb);try exact ex0))|(refine hK _ ?_;clear hK K)|(refine hK _ _ rfl ?_;clear hK K)|(have hg:=hK;clear hg;first|(refine And.intro ?zz ?_;case zz=>first|exact rfl|exact zO rfl|omega|exact gI)|(refine fresh_n ?_)|(refine freshO_n ?_)|(refine at_Q ?_;intro hu)|(refine zP wA ?_)|(refine mul_Q ?_;intro hm1 hm2)|(refine zP at_M ?_)|(refine zP rfl ?_)|(refine zQ (rNormI_ok n m (by omega)) ?_)|(refine And.intro ?_ ?_;all_goals(intro hb;(try simp only [sb] at hb);try exact ex0))|(intro b0 hb)))
  · have h0 : iv n m = 0 := (lm_abs0 _).1 (by omega)
    exact And.intro trivial (fz_con (by rw [h0]; rfl))
  · have h0 : iv n m ≠ 0 := fun h => absurd ((lm_abs0 _).2 h) (by omega)
    exact And.intro trivial (fz_con (by unfold signZ; rw [if_neg h0, if_pos (by omega)]))
  · have h0 : iv n m ≠ 0 := fun h => absurd ((lm_abs0 _).2 h) (by omega)
    exact And.intro trivial (fz_con (by unfold signZ; rw [if_neg h0, if_neg (by omega)]))
theorem iv_add_len (n k : Bool) (a b : List UInt32) : (lm (iv n a - iv k b).natAbs).length ≤ max a.length b.length + 1 := by
  have h := lm_add_len a b
  refine Nat.le_trans (lm_len ?_) (Nat.le_refl _)
  have h1 := val_lt a
  have h2 := val_lt b
  have h3 : 4294967296 ^ a.length ≤ 4294967296 ^ max a.length b.length := Nat.pow_le_pow_right (by decide) (Nat.le_max_left _ _)
  have h4 : 4294967296 ^ b.length ≤ 4294967296 ^ max a.length b.length := Nat.pow_le_pow_right (by decide) (Nat.le_max_right _ _)
  have h5 := iv_abs n a
  have h6 := iv_abs k b
  rw [Nat.pow_succ]
  generalize 4294967296 ^ max a.length b.length = w at *
  omega
theorem rCmpI_ok (n k : Bool) (a b : List UInt32) (ha : a.length ≤ 1099511627776) (hb : b.length ≤ 1099511627776) : Ok Tryz.prog 64 [tI n a, tI k b] true (.con (.int .i64 (signZ (iv n a - iv k b)))) := by
  have hl := iv_add_len n k a b
  rw [← iv_Z (iv n a - iv k b)]
  refine ok_of_ev (fun _ _ _ h => h) mix Tryz.func64 rfl rfl (by kernel_rfl) (Nat.le_of_ble_eq_true rfl) ?_
  repeat' (first|(with_reducible first|refine zA ?_|refine zB ?_|refine zC ?_|refine zD ?_|refine zE ?_|refine zF ?_|refine zG ?_|refine zH ?_|refine zI ?_|refine zJ ?_|refine zK ?_|refine zL ?_)|(with_reducible refine reg_i ?_;intro K hK)|(with_reducible refine drw_i ?_;intro K hK)|((with_reducible refine cond_t ?hc ?_);(case hc=>rfl))|((with_reducible refine cond_f ?hc ?_);(case hc=>rfl))|((with_reducible refine cond_m ?_);refine And.intro ?_ ?_;all_goals(intro hb;(try simp only [sb] at hb);try exact ex0))|(refine hK _ ?_;clear hK K)|(refine hK _ _ rfl ?_;clear hK K)|(have hg:=hK;clear hg;first|(refine And.intro ?zz ?_;case zz=>first|exact rfl|exact zO rfl|omega|exact gI)|(refine fresh_n ?_)|(refine freshO_n ?_)|(refine at_Q ?_;intro hu)|(refine zP wA ?_)|(refine mul_Q ?_;intro hm1 hm2)|(refine zP at_M ?_)|(refine zP rfl ?_)|(refine zQ (rSubI_ok n k a b (by omega) (by omega)) ?_)|(refine zQ (rSignI_ok (decide (iv n a - iv k b < 0)) (lm (iv n a - iv k b).natAbs) (by omega)) ?_)|(refine And.intro ?_ ?_;all_goals(intro hb;(try simp only [sb] at hb);try exact ex0))|(intro b0 hb)))
  exact And.intro trivial (fz_con rfl)
theorem rwhole_ok (m : List UInt32) : Ok Tryz.prog 66 [tn m] false (tI false m) := by
  refine ok_of_ev (fun _ _ _ h => h) mix Tryz.func66 rfl rfl (by kernel_rfl) (Nat.le_of_ble_eq_true rfl) ?_
  repeat' (first|(with_reducible first|refine zA ?_|refine zB ?_|refine zC ?_|refine zD ?_|refine zE ?_|refine zF ?_|refine zG ?_|refine zH ?_|refine zI ?_|refine zJ ?_|refine zK ?_|refine zL ?_)|(with_reducible refine reg_i ?_;intro K hK)|(with_reducible refine drw_i ?_;intro K hK)|((with_reducible refine cond_t ?hc ?_);(case hc=>rfl))|((with_reducible refine cond_f ?hc ?_);(case hc=>rfl))|((with_reducible refine cond_m ?_);refine And.intro ?_ ?_;all_goals(intro hb;(try simp only [sb] at hb);try exact ex0))|(refine hK _ ?_;clear hK K)|(refine hK _ _ rfl ?_;clear hK K)|(have hg:=hK;clear hg;first|(refine And.intro ?zz ?_;case zz=>first|exact rfl|exact zO rfl|omega|exact gI)|(refine fresh_n ?_)|(refine freshO_n ?_)|(refine at_Q ?_;intro hu)|(refine zP wA ?_)|(refine mul_Q ?_;intro hm1 hm2)|(refine zP at_M ?_)|(refine zP rfl ?_)|(refine And.intro ?_ ?_;all_goals(intro hb;(try simp only [sb] at hb);try exact ex0))|(intro b0 hb)))
  exact ret_cell (l := [V.con (.bool false), .ro false (tn m)]) rfl tk39 rfl (Nat.zero_lt_succ _) rfl rfl (fz_agg2 (.con _) (.ro false _ fun h => h))
theorem rone_ok : Ok Tryz.prog 92 [] true (tn [1]) := by
  refine ok_of_ev (fun _ _ _ h => h) mix Tryz.func92 rfl rfl (by kernel_rfl) (Nat.le_of_ble_eq_true rfl) ?_
  repeat' (first|(with_reducible first|refine zA ?_|refine zB ?_|refine zC ?_|refine zD ?_|refine zE ?_|refine zF ?_|refine zG ?_|refine zH ?_|refine zI ?_|refine zJ ?_|refine zK ?_|refine zL ?_)|(with_reducible refine reg_i ?_;intro K hK)|(with_reducible refine drw_i ?_;intro K hK)|((with_reducible refine cond_t ?hc ?_);(case hc=>rfl))|((with_reducible refine cond_f ?hc ?_);(case hc=>rfl))|((with_reducible refine cond_m ?_);refine And.intro ?_ ?_;all_goals(intro hb;(try simp only [sb] at hb);try exact ex0))|(refine hK _ ?_;clear hK K)|(refine hK _ _ rfl ?_;clear hK K)|(have hg:=hK;clear hg;first|(refine And.intro ?zz ?_;case zz=>first|exact rfl|exact zO rfl|omega|exact gI)|(refine fresh_n ?_)|(refine freshO_n ?_)|(refine at_Q ?_;intro hu)|(refine zP wA ?_)|(refine mul_Q ?_;intro hm1 hm2)|(refine zP at_M ?_)|(refine zP rfl ?_)|(refine And.intro ?_ ?_;all_goals(intro hb;(try simp only [sb] at hb);try exact ex0))|(intro b0 hb)))
  exact And.intro trivial (fz_own (l := [(1 : UInt32)]) (F := cu) (G := tu32) rfl rfl rfl rfl rfl (fun a _ => fze_con _) rfl)
def tR (n : Bool) (m d : List UInt32) : T := .agg [.con (.bool n), tn m, tn d]
def denv (d : List UInt32) : Nat := if val d = 0 then 1 else val d
theorem lm_one : lm 1 = [1] := by unfold lm; rw [if_neg (by decide)]; unfold lm; rfl
theorem rden_ok (n : Bool) (m d : List UInt32) (hd : d.length ≤ 2199023255552) : Ok Tryz.prog 67 [tR n m d] true (tn (lm (denv d))) := by
  refine ok_of_ev (fun _ _ _ h => h) mix Tryz.func67 rfl rfl (by kernel_rfl) (Nat.le_of_ble_eq_true rfl) ?_
  repeat' (first|(with_reducible first|refine zA ?_|refine zB ?_|refine zC ?_|refine zD ?_|refine zE ?_|refine zF ?_|refine zG ?_|refine zH ?_|refine zI ?_|refine zJ ?_|refine zK ?_|refine zL ?_)|(with_reducible refine reg_i ?_;intro K hK)|(with_reducible refine drw_i ?_;intro K hK)|((with_reducible refine cond_t ?hc ?_);(case hc=>rfl))|((with_reducible refine cond_f ?hc ?_);(case hc=>rfl))|((with_reducible refine cond_m ?_);refine And.intro ?_ ?_;all_goals(intro hb;(try simp only [sb] at hb);try exact ex0))|(refine hK _ ?_;clear hK K)|(refine hK _ _ rfl ?_;clear hK K)|(have hg:=hK;clear hg;first|(refine And.intro ?zz ?_;case zz=>first|exact rfl|exact zO rfl|omega|exact gI)|(refine fresh_n ?_)|(refine freshO_n ?_)|(refine at_Q ?_;intro hu)|(refine zP wA ?_)|(refine mul_Q ?_;intro hm1 hm2)|(refine zP at_M ?_)|(refine zP rfl ?_)|(refine zQ (rNorm_ok d (by omega)) ?_)|(refine zQ (rone_ok) ?_)|(refine And.intro ?_ ?_;all_goals(intro hb;(try simp only [sb] at hb);try exact ex0))|(intro b0 hb)))
  · have h0 : val d = 0 := by
      have h1 : norm d = [] := List.eq_nil_of_length_eq_zero (by omega)
      rw [norm_lm] at h1
      exact (lm_nil_iff _).1 h1
    exact And.intro trivial (fz_ro (by unfold denv; rw [if_pos h0, lm_one]) fun h => h)
  · have h0 : val d ≠ 0 := fun h => by
      have h1 := (lm_nil_iff _).2 h
      rw [← norm_lm] at h1
      rw [h1] at hb; simp at hb
    exact And.intro trivial (fz_ro (by unfold denv; rw [if_neg h0, norm_lm]) fun h => h)
theorem lm_den_len (d : List UInt32) : (lm (denv d)).length ≤ d.length + 1 := by
  refine lm_len ?_
  have h := val_lt d
  have h2 : 4294967296 ^ d.length ≤ 4294967296 ^ (d.length + 1) := Nat.pow_le_pow_right (by decide) (Nat.le_succ _)
  have h3 : 0 < 4294967296 ^ d.length := Nat.pow_pos (by decide)
  have h4 : 4294967296 ^ (d.length + 1) = 4294967296 ^ d.length * 4294967296 := Nat.pow_succ _ _
  unfold denv
  split <;> omega
theorem lm_mulI_len (n : Bool) (a d : List UInt32) : (lm (iv n a * iv false (lm (denv d))).natAbs).length ≤ a.length + (lm (denv d)).length := by
  rw [Int.natAbs_mul, iv_abs, iv_abs]
  exact lm_mul_len _ _
theorem rCmpR_ok (n k : Bool) (a p b q : List UInt32) (ha : a.length ≤ 137438953472) (hp : p.length ≤ 137438953472) (hb : b.length ≤ 137438953472) (hq : q.length ≤ 137438953472) :
    Ok Tryz.prog 41 [tR n a p, tR k b q] true (.con (.int .i64 (signZ (iv n a * denv q - iv k b * denv p)))) := by
  have h1 := lm_den_len p
  have h2 := lm_den_len q
  have h3 := lm_mulI_len n a q
  have h4 := lm_mulI_len k b p
  have e1 : iv false (lm (denv q)) = denv q := by unfold iv; rw [val_lm]; rfl
  have e2 : iv false (lm (denv p)) = denv p := by unfold iv; rw [val_lm]; rfl
  rw [← e1, ← e2]
  rw [← iv_Z (iv n a * iv false (lm (denv q))), ← iv_Z (iv k b * iv false (lm (denv p)))]
  refine ok_of_ev (fun _ _ _ h => h) mix Tryz.func41 rfl rfl (by kernel_rfl) (Nat.le_of_ble_eq_true rfl) ?_
  repeat' (first|(with_reducible first|refine zA ?_|refine zB ?_|refine zC ?_|refine zD ?_|refine zE ?_|refine zF ?_|refine zG ?_|refine zH ?_|refine zI ?_|refine zJ ?_|refine zK ?_|refine zL ?_)|(with_reducible refine reg_i ?_;intro K hK)|(with_reducible refine drw_i ?_;intro K hK)|((with_reducible refine cond_t ?hc ?_);(case hc=>rfl))|((with_reducible refine cond_f ?hc ?_);(case hc=>rfl))|((with_reducible refine cond_m ?_);refine And.intro ?_ ?_;all_goals(intro hb;(try simp only [sb] at hb);try exact ex0))|(refine hK _ ?_;clear hK K)|(refine hK _ _ rfl ?_;clear hK K)|(have hg:=hK;clear hg;first|(refine And.intro ?zz ?_;case zz=>first|exact rfl|exact zO rfl|omega|exact gI)|(refine fresh_n ?_)|(refine freshO_n ?_)|(refine at_Q ?_;intro hu)|(refine zP wA ?_)|(refine mul_Q ?_;intro hm1 hm2)|(refine zP at_M ?_)|(refine zP rfl ?_)|(refine zQ (rden_ok k b q (by omega)) ?_)|(refine zQ (rden_ok n a p (by omega)) ?_)|(refine zQ (rwhole_ok _) ?_)|(refine zQ (rMulI_ok n false a (lm (denv q)) (by omega) (by omega)) ?_)|(refine zQ (rMulI_ok k false b (lm (denv p)) (by omega) (by omega)) ?_)|(refine zQ (rCmpI_ok (decide (iv n a * iv false (lm (denv q)) < 0)) (decide (iv k b * iv false (lm (denv p)) < 0)) (lm (iv n a * iv false (lm (denv q))).natAbs) (lm (iv k b * iv false (lm (denv p))).natAbs) (by omega) (by omega)) ?_)|(refine And.intro ?_ ?_;all_goals(intro hb;(try simp only [sb] at hb);try exact ex0))|(intro b0 hb)))
  exact And.intro trivial (fz_con rfl)
