import Derived.Test.YtekgeekghclfaaaGreatGcd
import Derived.Test.YtekgeekghclfaaaGreatRef3
set_option linter.all false
namespace Go.Ev
open Go.Proofs
set_option maxRecDepth 10000
set_option maxHeartbeats 4000000
set_option linter.unusedSimpArgs false
set_option linter.unusedVariables false
def qz (z : Int) (d : Nat) : Int := z.tdiv (Nat.gcd z.natAbs d)
def qd (z : Int) (d : Nat) : Nat := d / Nat.gcd z.natAbs d
def tQ (z : Int) (d : Nat) : T := tR (decide (qz z d < 0)) (lm (qz z d).natAbs) (lm (qd z d))
theorem iv_div (n : Bool) (m g : Nat) : iv n (lm (m / g)) = (iv n (lm m)).tdiv g := by
  unfold iv
  rw [val_lm, val_lm]
  cases n
  · rfl
  · show -((m / g : Nat) : Int) = (-(m : Int)).tdiv g
    rw [Int.neg_tdiv]; rfl
theorem iv_lm (n : Bool) (a : List UInt32) : iv n (lm (val a)) = iv n a := by unfold iv; rw [val_lm]
theorem lm_val_len (a : List UInt32) : (lm (val a)).length ≤ a.length := by rw [← norm_lm]; exact norm_le a
theorem rat_eta {z : Int} {d : Nat} {oh : OH} : FzA oh true (.agg [V.con (.bool (decide (qz z d < 0))), .ro true (tn (lm (qz z d).natAbs)), .ro true (tn (lm (qd z d)))]) (tQ z d) := by
  refine ⟨rfl, fun j v t a b => ?_⟩
  match j with
  | 0 => simp at a; simp [tQ, tR] at b; subst a; subst b; exact .con _
  | 1 => simp at a; simp [tQ, tR] at b; subst a; subst b; exact .ro true _ fun h => h
  | 2 => simp at a; simp [tQ, tR] at b; subst a; subst b; exact .ro true _ fun h => h
  | j + 3 => simp at a
theorem rlowest_ok (n : Bool) (a d : List UInt32) (hd : val d ≠ 0) (ha : a.length ≤ 10737418240) (hl : d.length ≤ 10737418240) : Ok Tryz.prog 79 [tI n a, tn d] true (tQ (iv n a) (val d)) := by
  have hg0 : Nat.gcd (val a) (val d) ≠ 0 := fun h => hd (Nat.eq_zero_of_gcd_eq_zero_right h)
  have hgd : Nat.gcd (val a) (val d) ≤ val d := Nat.le_of_dvd (Nat.pos_of_ne_zero hd) (Nat.gcd_dvd_right _ _)
  have hgl := lm_len_le hgd
  have hdl := lm_val_len d
  have hal := lm_val_len a
  have h1 := rGcd_ok a d ha hl
  have h2 := rDivMod_ok a (lm (Nat.gcd (val a) (val d))) ha (by omega) (by rw [val_lm]; exact hg0)
  have h3 := rDivMod_ok d (lm (Nat.gcd (val a) (val d))) hl (by omega) (by rw [val_lm]; exact hg0)
  rw [val_lm] at h2 h3
  have hm := lm_len_le (Nat.div_le_self (val a) (Nat.gcd (val a) (val d)))
  have hn := lm_len_le (Nat.div_le_self (val d) (Nat.gcd (val a) (val d)))
  have h4 := rNormI_ok n (lm (val a / Nat.gcd (val a) (val d))) (by omega)
  have h5 := rNormL_ok (lm (val d / Nat.gcd (val a) (val d))) (by omega)
  rw [val_lm] at h5
  rw [iv_div, iv_lm] at h4
  have e1 : qz (iv n a) (val d) = (iv n a).tdiv (Nat.gcd (val a) (val d)) := by unfold qz; rw [iv_abs]
  have e2 : qd (iv n a) (val d) = val d / Nat.gcd (val a) (val d) := by unfold qd; rw [iv_abs]
  rw [← e1] at h4
  refine ok_of_ev (fun _ _ _ h => h) mix Tryz.func79 rfl rfl (by kernel_rfl) (Nat.le_of_ble_eq_true rfl) ?_
  repeat' (first|(with_reducible first|refine zA ?_|refine zB ?_|refine zC ?_|refine zD ?_|refine zE ?_|refine zF ?_|refine zG ?_|refine zH ?_|refine zI ?_|refine zJ ?_|refine zK ?_|refine zL ?_)|(with_reducible refine reg_i ?_;intro K hK)|(with_reducible refine drw_i ?_;intro K hK)|((with_reducible refine cond_t ?hc ?_);(case hc=>rfl))|((with_reducible refine cond_f ?hc ?_);(case hc=>rfl))|((with_reducible refine cond_m ?_);refine And.intro ?_ ?_;all_goals(intro hb;(try simp only [sn,sb] at hb);try exact ex0))|(refine hK _ ?_;clear hK K)|(refine hK _ _ rfl ?_;clear hK K)|(have hg:=hK;clear hg;first|(refine And.intro ?zz ?_;case zz=>first|exact rfl|exact zO rfl|omega|exact gI)|(refine fresh_n ?_)|(refine freshO_n ?_)|(refine at_Q ?_;intro hu)|(refine zP wA ?_)|(refine mul_Q ?_;intro hm1 hm2)|(refine zP at_M ?_)|(refine zP rfl ?_)|(refine zQ (h1) ?_)|(refine zQ (h2) ?_)|(refine zQ (h3) ?_)|(refine zQ (h4) ?_)|(refine zQ (h5) ?_)|(refine And.intro ?_ ?_;all_goals(intro hb;(try simp only [sn,sb] at hb);try exact ex0))|(intro b0 hb)))
  rw [← e2]
  exact ret_cell (l := [V.con (.bool (decide (qz (iv n a) (val d) < 0))), .ro true (tn (lm (qz (iv n a) (val d)).natAbs)), .ro true (tn (lm (qd (iv n a) (val d))))]) rfl tk41 rfl (Nat.zero_lt_succ _) rfl rfl rat_eta
theorem iv_den (d : List UInt32) : iv false (lm (denv d)) = denv d := by unfold iv; rw [val_lm]; rfl
theorem lm_add_bound {x y : Int} {A B : Nat} (hx : (lm x.natAbs).length ≤ A) (hy : (lm y.natAbs).length ≤ B) : (lm (x + y).natAbs).length ≤ max A B + 1 := by
  have h1 := lm_add_len (lm x.natAbs) (lm y.natAbs)
  rw [val_lm, val_lm] at h1
  have h2 := lm_len_le (Int.natAbs_add_le x y)
  omega
theorem denv_pos (d : List UInt32) : denv d ≠ 0 := by
  unfold denv
  split
  · decide
  · assumption
theorem rMulR_ok (n k : Bool) (a p b q : List UInt32) (ha : a.length ≤ 1073741824) (hp : p.length ≤ 1073741824) (hb9 : b.length ≤ 1073741824) (hq : q.length ≤ 1073741824) :
    Ok Tryz.prog 54 [tR n a p, tR k b q] true (tQ (iv n a * iv k b) (denv p * denv q)) := by
  have h1 := lm_den_len p
  have h2 := lm_den_len q
  obtain ⟨Z, hZ⟩ : ∃ Z, iv n a * iv k b = Z := ⟨_, rfl⟩
  have hZl : (lm Z.natAbs).length ≤ a.length + b.length := by
    rw [← hZ, Int.natAbs_mul, iv_abs, iv_abs]; exact lm_mul_len _ _
  have h3 := rMulI_ok n k a b (by omega) (by omega)
  have h4 := rMul_ok (lm (denv p)) (lm (denv q)) (by omega) (by omega)
  have h5 := lm_mul_len (lm (denv p)) (lm (denv q))
  rw [val_lm, val_lm] at h4 h5
  have h6 := rlowest_ok (decide (Z < 0)) (lm Z.natAbs) (lm (denv p * denv q)) (by rw [val_lm]; exact Nat.mul_ne_zero (denv_pos p) (denv_pos q)) (by omega) (by omega)
  rw [iv_Z, val_lm] at h6
  rw [hZ] at h3 ⊢
  refine ok_of_ev (fun _ _ _ h => h) mix Tryz.func54 rfl rfl (by kernel_rfl) (Nat.le_of_ble_eq_true rfl) ?_
  repeat' (first|(with_reducible first|refine zA ?_|refine zB ?_|refine zC ?_|refine zD ?_|refine zE ?_|refine zF ?_|refine zG ?_|refine zH ?_|refine zI ?_|refine zJ ?_|refine zK ?_|refine zL ?_)|(with_reducible refine reg_i ?_;intro K hK)|(with_reducible refine drw_i ?_;intro K hK)|((with_reducible refine cond_t ?hc ?_);(case hc=>rfl))|((with_reducible refine cond_f ?hc ?_);(case hc=>rfl))|((with_reducible refine cond_m ?_);refine And.intro ?_ ?_;all_goals(intro hb;(try simp only [sn,sb] at hb);try exact ex0))|(refine hK _ ?_;clear hK K)|(refine hK _ _ rfl ?_;clear hK K)|(have hg:=hK;clear hg;first|(refine And.intro ?zz ?_;case zz=>first|exact rfl|exact zO rfl|omega|exact gI)|(refine fresh_n ?_)|(refine freshO_n ?_)|(refine at_Q ?_;intro hu)|(refine zP wA ?_)|(refine mul_Q ?_;intro hm1 hm2)|(refine zP at_M ?_)|(refine zP rfl ?_)|(refine zQ (h3) ?_)|(refine zQ (rden_ok n a p (by omega)) ?_)|(refine zQ (rden_ok k b q (by omega)) ?_)|(refine zQ (h4) ?_)|(refine zQ (h6) ?_)|(refine And.intro ?_ ?_;all_goals(intro hb;(try simp only [sn,sb] at hb);try exact ex0))|(intro b0 hb)))
  exact ret_cell (l := [V.con (.bool (decide (qz Z (denv p * denv q) < 0))), .ro true (tn (lm (qz Z (denv p * denv q)).natAbs)), .ro true (tn (lm (qd Z (denv p * denv q))))]) rfl tk41 rfl (Nat.zero_lt_succ _) rfl rfl rat_eta
theorem rAddR_ok (n k : Bool) (a p b q : List UInt32) (ha : a.length ≤ 1073741824) (hp : p.length ≤ 1073741824) (hb9 : b.length ≤ 1073741824) (hq : q.length ≤ 1073741824) :
    Ok Tryz.prog 69 [tR n a p, tR k b q] true (tQ (iv n a * denv q + iv k b * denv p) (denv p * denv q)) := by
  have h1 := lm_den_len p
  have h2 := lm_den_len q
  obtain ⟨U, hU⟩ : ∃ U, iv n a * denv q = U := ⟨_, rfl⟩
  obtain ⟨W, hW⟩ : ∃ W, iv k b * denv p = W := ⟨_, rfl⟩
  have hUl : (lm U.natAbs).length ≤ a.length + (lm (denv q)).length := by have := lm_mulI_len n a q; rw [iv_den, hU] at this; exact this
  have hWl : (lm W.natAbs).length ≤ b.length + (lm (denv p)).length := by have := lm_mulI_len k b p; rw [iv_den, hW] at this; exact this
  have h7 := lm_add_bound hUl hWl
  have m1 := rMulI_ok n false a (lm (denv q)) (by omega) (by omega)
  have m2 := rMulI_ok k false b (lm (denv p)) (by omega) (by omega)
  rw [iv_den, hU] at m1
  rw [iv_den, hW] at m2
  have h3 := rAddI_ok (decide (U < 0)) (decide (W < 0)) (lm U.natAbs) (lm W.natAbs) (by omega) (by omega)
  rw [iv_Z, iv_Z] at h3
  have h4 := rMul_ok (lm (denv p)) (lm (denv q)) (by omega) (by omega)
  have h5 := lm_mul_len (lm (denv p)) (lm (denv q))
  rw [val_lm, val_lm] at h4 h5
  have h6 := rlowest_ok (decide (U + W < 0)) (lm (U + W).natAbs) (lm (denv p * denv q)) (by rw [val_lm]; exact Nat.mul_ne_zero (denv_pos p) (denv_pos q)) (by omega) (by omega)
  rw [iv_Z, val_lm] at h6
  rw [hU, hW]
  refine ok_of_ev (fun _ _ _ h => h) mix Tryz.func69 rfl rfl (by kernel_rfl) (Nat.le_of_ble_eq_true rfl) ?_
  repeat' (first|(with_reducible first|refine zA ?_|refine zB ?_|refine zC ?_|refine zD ?_|refine zE ?_|refine zF ?_|refine zG ?_|refine zH ?_|refine zI ?_|refine zJ ?_|refine zK ?_|refine zL ?_)|(with_reducible refine reg_i ?_;intro K hK)|(with_reducible refine drw_i ?_;intro K hK)|((with_reducible refine cond_t ?hc ?_);(case hc=>rfl))|((with_reducible refine cond_f ?hc ?_);(case hc=>rfl))|((with_reducible refine cond_m ?_);refine And.intro ?_ ?_;all_goals(intro hb;(try simp only [sn,sb] at hb);try exact ex0))|(refine hK _ ?_;clear hK K)|(refine hK _ _ rfl ?_;clear hK K)|(have hg:=hK;clear hg;first|(refine And.intro ?zz ?_;case zz=>first|exact rfl|exact zO rfl|omega|exact gI)|(refine fresh_n ?_)|(refine freshO_n ?_)|(refine at_Q ?_;intro hu)|(refine zP wA ?_)|(refine mul_Q ?_;intro hm1 hm2)|(refine zP at_M ?_)|(refine zP rfl ?_)|(refine zQ (m1) ?_)|(refine zQ (m2) ?_)|(refine zQ (rwhole_ok _) ?_)|(refine zQ (h3) ?_)|(refine zQ (rden_ok n a p (by omega)) ?_)|(refine zQ (rden_ok k b q (by omega)) ?_)|(refine zQ (h4) ?_)|(refine zQ (h6) ?_)|(refine And.intro ?_ ?_;all_goals(intro hb;(try simp only [sn,sb] at hb);try exact ex0))|(intro b0 hb)))
  exact ret_cell (l := [V.con (.bool (decide (qz (U + W) (denv p * denv q) < 0))), .ro true (tn (lm (qz (U + W) (denv p * denv q)).natAbs)), .ro true (tn (lm (qd (U + W) (denv p * denv q))))]) rfl tk41 rfl (Nat.zero_lt_succ _) rfl rfl rat_eta
