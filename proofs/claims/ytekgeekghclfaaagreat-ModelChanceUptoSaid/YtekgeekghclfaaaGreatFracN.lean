import Derived.Test.YtekgeekghclfaaaGreatSubN
import Derived.Test.YtekgeekghclfaaaGreatFrac
set_option linter.all false
namespace Go.Ev
open Go.Proofs
set_option maxRecDepth 10000
set_option maxHeartbeats 4000000
set_option linter.unusedSimpArgs false
set_option linter.unusedVariables false
theorem wNorm_ok (n : Bool) (m : List UInt32) (hm : m.length ≤ 2199023255552) : Ok Tryz.prog 85 [tI n m] true (tZ (iv n m)) := by
  refine ok_of_ev (fun _ _ _ h => h) mix Tryz.func85 rfl rfl (by kernel_rfl) (Nat.le_of_ble_eq_true rfl) ?_
  repeat' (first|(with_reducible first|refine zA ?_|refine zB ?_|refine zC ?_|refine zD ?_|refine zE ?_|refine zF ?_|refine zG ?_|refine zH ?_|refine zI ?_|refine zJ ?_|refine zK ?_|refine zL ?_)|(with_reducible refine reg_i ?_;intro K hK)|(with_reducible refine drw_i ?_;intro K hK)|((with_reducible refine cond_t ?hc ?_);(case hc=>rfl))|((with_reducible refine cond_f ?hc ?_);(case hc=>rfl))|((with_reducible refine cond_m ?_);refine And.intro ?_ ?_;all_goals(intro hb;(try simp only [sn,sb] at hb);try exact ex0))|(refine hK _ ?_;clear hK K)|(refine hK _ _ rfl ?_;clear hK K)|(have hg:=hK;clear hg;first|(refine And.intro ?zz ?_;case zz=>first|exact rfl|exact zO rfl|omega|exact gI)|(refine fresh_n ?_)|(refine freshO_n ?_)|(refine at_Q ?_;intro hu)|(refine zP wA ?_)|(refine mul_Q ?_;intro hm1 hm2)|(refine zP at_M ?_)|(refine zP rfl ?_)|(refine zQ (of_ok n m hm) ?_)|(refine And.intro ?_ ?_;all_goals(intro hb;(try simp only [sn,sb] at hb);try exact ex0))|(intro b0 hb)))
  exact ret_cell (l := [V.con (.bool (decide (iv n m < 0))), .ro true (tn (lm (iv n m).natAbs))]) rfl tk39 rfl (Nat.zero_lt_succ _) rfl rfl (fz_Z _)
theorem lowest_ok (n : Bool) (a d : List UInt32) (hd : val d ≠ 0) (ha : a.length ≤ 2147483648) (hl : d.length ≤ 2147483648) : Ok Tryz.prog 57 [.con (.bool n), tn a, tn d] true (tQ (iv n a) (val d)) := by
  have hg0 : Nat.gcd (val a) (val d) ≠ 0 := fun h => hd (Nat.eq_zero_of_gcd_eq_zero_right h)
  have hgd : Nat.gcd (val a) (val d) ≤ val d := Nat.le_of_dvd (Nat.pos_of_ne_zero hd) (Nat.gcd_dvd_right _ _)
  have hgl := lm_len_le hgd
  have hdl := lm_val_len d
  have hal := lm_val_len a
  have h1 := GcdN_ok a d ha hl
  have h2 := DivMod_ok a (lm (Nat.gcd (val a) (val d))) ha (by omega) (by rw [val_lm]; exact hg0)
  have h3 := DivMod_ok d (lm (Nat.gcd (val a) (val d))) hl (by omega) (by rw [val_lm]; exact hg0)
  rw [val_lm] at h2 h3
  have hm := lm_len_le (Nat.div_le_self (val a) (Nat.gcd (val a) (val d)))
  have h4 := wNorm_ok n (lm (val a / Nat.gcd (val a) (val d))) (by omega)
  rw [iv_div, iv_lm] at h4
  have e1 : qz (iv n a) (val d) = (iv n a).tdiv (Nat.gcd (val a) (val d)) := by unfold qz; rw [iv_abs]
  have e2 : qd (iv n a) (val d) = val d / Nat.gcd (val a) (val d) := by unfold qd; rw [iv_abs]
  rw [← e1] at h4
  refine ok_of_ev (fun _ _ _ h => h) mix Tryz.func57 rfl rfl (by kernel_rfl) (Nat.le_of_ble_eq_true rfl) ?_
  repeat' (first|(with_reducible first|refine zA ?_|refine zB ?_|refine zC ?_|refine zD ?_|refine zE ?_|refine zF ?_|refine zG ?_|refine zH ?_|refine zI ?_|refine zJ ?_|refine zK ?_|refine zL ?_)|(with_reducible refine reg_i ?_;intro K hK)|(with_reducible refine drw_i ?_;intro K hK)|((with_reducible refine cond_t ?hc ?_);(case hc=>rfl))|((with_reducible refine cond_f ?hc ?_);(case hc=>rfl))|((with_reducible refine cond_m ?_);refine And.intro ?_ ?_;all_goals(intro hb;(try simp only [sn,sb] at hb);try exact ex0))|(refine hK _ ?_;clear hK K)|(refine hK _ _ rfl ?_;clear hK K)|(have hg:=hK;clear hg;first|(refine And.intro ?zz ?_;case zz=>first|exact rfl|exact zO rfl|omega|exact gI)|(refine fresh_n ?_)|(refine freshO_n ?_)|(refine at_Q ?_;intro hu)|(refine zP wA ?_)|(refine mul_Q ?_;intro hm1 hm2)|(refine zP at_M ?_)|(refine zP rfl ?_)|(refine zQ (h1) ?_)|(refine zQ (h2) ?_)|(refine zQ (h3) ?_)|(refine zQ (h4) ?_)|(refine And.intro ?_ ?_;all_goals(intro hb;(try simp only [sn,sb] at hb);try exact ex0))|(intro b0 hb)))
  rw [← e2]
  exact ret_cell (l := [V.con (.bool (decide (qz (iv n a) (val d) < 0))), .ro true (tn (lm (qz (iv n a) (val d)).natAbs)), .ro true (tn (lm (qd (iv n a) (val d))))]) rfl tk41 rfl (Nat.zero_lt_succ _) rfl rfl rat_eta
theorem iv_same {n k : Bool} {a b : List UInt32} (h : n = k) : iv n (lm (val a + val b)) = iv n a + iv k b := by
  subst h
  unfold iv
  rw [val_lm]
  cases n <;> simp <;> omega
theorem iv_dif {n k : Bool} {a b : List UInt32} (h : n ≠ k) (hle : val b ≤ val a) : iv n (lm (val a - val b)) = iv n a + iv k b := by
  unfold iv
  rw [val_lm]
  cases n <;> cases k <;> first | exact absurd rfl h | (simp; omega)
theorem AddI_ok (n k : Bool) (a b : List UInt32) (ha : a.length ≤ 549755813888) (hb9 : b.length ≤ 549755813888) : Ok Tryz.prog 100 [tI n a, tI k b] true (tZ (iv n a + iv k b)) := by
  have hl := lm_add_len a b
  have hs1 := lm_sub_len a b
  have hs2 := lm_sub_len b a
  refine ok_of_ev (fun _ _ _ h => h) mix Tryz.func100 rfl rfl (by kernel_rfl) (Nat.le_of_ble_eq_true rfl) ?_
  repeat' (first|(with_reducible first|refine zA ?_|refine zB ?_|refine zC ?_|refine zD ?_|refine zE ?_|refine zF ?_|refine zG ?_|refine zH ?_|refine zI ?_|refine zJ ?_|refine zK ?_|refine zL ?_)|(with_reducible refine reg_i ?_;intro K hK)|(with_reducible refine drw_i ?_;intro K hK)|((with_reducible refine cond_t ?hc ?_);(case hc=>rfl))|((with_reducible refine cond_f ?hc ?_);(case hc=>rfl))|((with_reducible refine cond_m ?_);refine And.intro ?_ ?_;all_goals(intro hb;(try simp only [sn,sb] at hb);try exact ex0))|(refine hK _ ?_;clear hK K)|(refine hK _ _ rfl ?_;clear hK K)|(have hg:=hK;clear hg;first|(refine And.intro ?zz ?_;case zz=>first|exact rfl|exact zO rfl|omega|exact gI)|(refine fresh_n ?_)|(refine freshO_n ?_)|(refine at_Q ?_;intro hu)|(refine zP wA ?_)|(refine mul_Q ?_;intro hm1 hm2)|(refine zP at_M ?_)|(refine zP rfl ?_)|(refine zQ (AddN_ok a b (by omega) (by omega)) ?_)|(refine zQ (SubN_ok a b (by omega) (by omega)) ?_)|(refine zQ (SubN_ok b a (by omega) (by omega)) ?_)|(refine zQ (of_ok n (lm (val a + val b)) (by omega)) ?_)|(refine zQ (of_ok n (lm (val a - val b)) (by omega)) ?_)|(refine zQ (of_ok k (lm (val b - val a)) (by omega)) ?_)|(refine And.intro ?_ ?_;all_goals(intro hb;(try simp only [sn,sb] at hb);try exact ex0))|(intro b0 hb)))
  · rw [← iv_same hb]
    exact ret_cell (l := [V.con (.bool (decide (iv n (lm (val a + val b)) < 0))), .ro true (tn (lm (iv n (lm (val a + val b))).natAbs))]) rfl tk39 rfl (Nat.zero_lt_succ _) rfl rfl (fz_Z _)
  · rename_i hk
    rw [← iv_dif hk hb]
    exact ret_cell (l := [V.con (.bool (decide (iv n (lm (val a - val b)) < 0))), .ro true (tn (lm (iv n (lm (val a - val b))).natAbs))]) rfl tk39 rfl (Nat.zero_lt_succ _) rfl rfl (fz_Z _)
  · rename_i hk
    rw [Int.add_comm, ← iv_dif (Ne.symm hk) (by omega)]
    exact ret_cell (l := [V.con (.bool (decide (iv k (lm (val b - val a)) < 0))), .ro true (tn (lm (iv k (lm (val b - val a))).natAbs))]) rfl tk39 rfl (Nat.zero_lt_succ _) rfl rfl (fz_Z _)
theorem AddR_ok (n k : Bool) (a p b q : List UInt32) (ha : a.length ≤ 268435456) (hp : p.length ≤ 268435456) (hb9 : b.length ≤ 268435456) (hq : q.length ≤ 268435456) :
    Ok Tryz.prog 78 [tR n a p, tR k b q] true (tQ (iv n a * denv q + iv k b * denv p) (denv p * denv q)) := by
  have h1 := lm_den_len p
  have h2 := lm_den_len q
  obtain ⟨U, hU⟩ : ∃ U, iv n a * denv q = U := ⟨_, rfl⟩
  obtain ⟨W, hW⟩ : ∃ W, iv k b * denv p = W := ⟨_, rfl⟩
  have hUl : (lm U.natAbs).length ≤ a.length + (lm (denv q)).length := by have := lm_mulI_len n a q; rw [iv_den, hU] at this; exact this
  have hWl : (lm W.natAbs).length ≤ b.length + (lm (denv p)).length := by have := lm_mulI_len k b p; rw [iv_den, hW] at this; exact this
  have h7 := lm_add_bound hUl hWl
  have m1 := over_ok n a (lm (denv q)) (by omega) (by omega)
  have m2 := over_ok k b (lm (denv p)) (by omega) (by omega)
  rw [iv_den, hU] at m1
  rw [iv_den, hW] at m2
  have h3 := AddI_ok (decide (U < 0)) (decide (W < 0)) (lm U.natAbs) (lm W.natAbs) (by omega) (by omega)
  rw [iv_Z, iv_Z] at h3
  have h4 := Mul_ok (lm (denv p)) (lm (denv q)) (by omega) (by omega)
  have h5 := lm_mul_len (lm (denv p)) (lm (denv q))
  rw [val_lm, val_lm] at h4 h5
  have h6 := lowest_ok (decide (U + W < 0)) (lm (U + W).natAbs) (lm (denv p * denv q)) (by rw [val_lm]; exact Nat.mul_ne_zero (denv_pos p) (denv_pos q)) (by omega) (by omega)
  rw [iv_Z, val_lm] at h6
  rw [hU, hW]
  refine ok_of_ev (fun _ _ _ h => h) mix Tryz.func78 rfl rfl (by kernel_rfl) (Nat.le_of_ble_eq_true rfl) ?_
  repeat' (first|(with_reducible first|refine zA ?_|refine zB ?_|refine zC ?_|refine zD ?_|refine zE ?_|refine zF ?_|refine zG ?_|refine zH ?_|refine zI ?_|refine zJ ?_|refine zK ?_|refine zL ?_)|(with_reducible refine reg_i ?_;intro K hK)|(with_reducible refine drw_i ?_;intro K hK)|((with_reducible refine cond_t ?hc ?_);(case hc=>rfl))|((with_reducible refine cond_f ?hc ?_);(case hc=>rfl))|((with_reducible refine cond_m ?_);refine And.intro ?_ ?_;all_goals(intro hb;(try simp only [sn,sb] at hb);try exact ex0))|(refine hK _ ?_;clear hK K)|(refine hK _ _ rfl ?_;clear hK K)|(have hg:=hK;clear hg;first|(refine And.intro ?zz ?_;case zz=>first|exact rfl|exact zO rfl|omega|exact gI)|(refine fresh_n ?_)|(refine freshO_n ?_)|(refine at_Q ?_;intro hu)|(refine zP wA ?_)|(refine mul_Q ?_;intro hm1 hm2)|(refine zP at_M ?_)|(refine zP rfl ?_)|(refine zQ (m1) ?_)|(refine zQ (m2) ?_)|(refine zQ (h3) ?_)|(refine zQ (under_ok n a p (by omega)) ?_)|(refine zQ (under_ok k b q (by omega)) ?_)|(refine zQ (h4) ?_)|(refine zQ (h6) ?_)|(refine And.intro ?_ ?_;all_goals(intro hb;(try simp only [sn,sb] at hb);try exact ex0))|(intro b0 hb)))
  exact ret_cell (l := [V.con (.bool (decide (qz (U + W) (denv p * denv q) < 0))), .ro true (tn (lm (qz (U + W) (denv p * denv q)).natAbs)), .ro true (tn (lm (qd (U + W) (denv p * denv q))))]) rfl tk41 rfl (Nat.zero_lt_succ _) rfl rfl rat_eta
