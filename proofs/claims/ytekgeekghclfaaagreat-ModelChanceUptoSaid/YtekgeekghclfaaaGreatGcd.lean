import Derived.Test.YtekgeekghclfaaaGreatDiv3
set_option linter.all false
namespace Go.Ev
open Go.Proofs
set_option maxRecDepth 10000
set_option maxHeartbeats 4000000
set_option linter.unusedSimpArgs false
set_option linter.unusedVariables false
theorem lm_len_le {a b : Nat} (h : a ≤ b) : (lm a).length ≤ (lm b).length := by
  rcases Nat.lt_or_ge a b with h1 | h1
  · exact lm_len_lt h1
  · rw [Nat.le_antisymm h h1]; exact Nat.le_refl _
theorem lm_step {n : Nat} (h : n ≠ 0) : lm n = UInt32.ofNat n :: lm (n / 4294967296) := by rw [lm, if_neg h]
theorem dbl_lm (U : Nat) : ∀ c, c ≤ 1 → dblL c (lm U) = lm (c + 2 * U) := by
  induction U using Nat.strongRecOn with
  | _ U ih =>
    intro c hc
    by_cases h0 : U = 0
    · subst h0
      rw [(lm_nil_iff 0).2 rfl]
      unfold dblL
      split
      · rw [lm_step (by omega), (lm_nil_iff _).2 (by omega : (c + 2 * 0) / 4294967296 = 0)]; rfl
      · rw [(lm_nil_iff _).2 (by omega)]
    · rw [lm_step h0, dblL, lm_step (n := c + 2 * U) (by omega), UInt32.toNat_ofNat', ih _ (Nat.div_lt_self (by omega) (by decide)) _ (by omega)]
      congr 1
      · refine UInt32.toNat_inj.1 ?_
        rw [UInt32.toNat_ofNat', UInt32.toNat_ofNat']; omega
      · congr 1; omega
theorem odd_gcd {x y : Nat} (hy : y % 2 = 1) : Nat.gcd (2 * x) y = Nat.gcd x y := by
  have hc : Nat.Coprime 2 y := by
    rw [Nat.coprime_comm, Nat.Coprime, Nat.gcd_comm, Nat.gcd_rec, hy]; rfl
  exact Nat.Coprime.gcd_mul_left_cancel x hc
theorem gcd_less {x y : Nat} (h : x ≤ y) : Nat.gcd x (y - x) = Nat.gcd x y := by
  obtain ⟨z, rfl⟩ : ∃ z, y = x + z := ⟨y - x, by omega⟩
  rw [Nat.add_sub_cancel_left]
  refine Nat.dvd_antisymm (Nat.dvd_gcd (Nat.gcd_dvd_left _ _) (Nat.dvd_add (Nat.gcd_dvd_left _ _) (Nat.gcd_dvd_right _ _))) (Nat.dvd_gcd (Nat.gcd_dvd_left _ _) ?_)
  exact (Nat.dvd_add_right (Nat.gcd_dvd_left _ _)).1 (Nat.gcd_dvd_right x (x + z))
theorem pow_bound {s W L : Nat} (h : 2 ^ s ≤ W) (hW : W < 4294967296 ^ L) : s < 32 * L := by
  rw [show (4294967296 : Nat) = 2 ^ 32 by decide, ← Nat.pow_mul] at hW
  exact (Nat.pow_lt_pow_iff_right (by decide)).1 (Nat.lt_of_le_of_lt h hW)
theorem rNormL_ok (l : List UInt32) (hl : l.length ≤ 2199023255552) : Ok Tryz.prog 91 [tn l] true (tn (lm (val l))) := by
  have := rNorm_ok l hl
  rwa [norm_lm] at this
theorem evenX_ok (U : Nat) (h : (lm U).length ≤ 1099511627776) : Ok Tryz.prog 117 [tn (lm U)] true (.con (.bool (U % 2 == 0))) := by
  have := reven_ok (lm U) (by omega)
  rwa [val_lm] at this
theorem halfX_ok (U : Nat) (h : (lm U).length ≤ 1099511627776) : Ok Tryz.prog 118 [tn (lm U)] true (tn (lm (U / 2))) := by
  have := rhalf_ok (lm U) h
  rwa [val_lm] at this
theorem doubleX_ok (U : Nat) (h : (lm U).length ≤ 1099511627776) : Ok Tryz.prog 120 [tn (lm U), .con (.int .u32 0)] true (tn (lm (2 * U))) := by
  have := rdouble_ok (lm U) 0 (by decide) h
  rwa [dbl_lm U 0 (by decide), Nat.zero_add] at this
theorem cmpX_ok (U Z : Nat) (h : (lm U).length ≤ 1099511627776) (h2 : (lm Z).length ≤ 1099511627776) : Ok Tryz.prog 119 [tn (lm U), tn (lm Z)] true (.con (.int .i64 (cmpN U Z))) := by
  have := rCmp_ok (lm U) (lm Z) (by omega) (by omega)
  rwa [val_lm, val_lm] at this
theorem subX_ok (U Z : Nat) (h : (lm U).length ≤ 1099511627776) (h2 : (lm Z).length ≤ 1099511627776) (hle : Z ≤ U) : Ok Tryz.prog 113 [tn (lm U), tn (lm Z)] true (.tup [tn (lm (U - Z)), .con (.bool true)]) := by
  have := rSub_ge (lm U) (lm Z) h h2 (by rw [val_lm, val_lm]; exact hle)
  rwa [val_lm, val_lm] at this
theorem lm0 (n : Nat) : (lm n).length = 0 ↔ n = 0 := ⟨fun h => (lm_nil_iff n).1 (List.eq_nil_of_length_eq_zero h), fun h => by rw [(lm_nil_iff n).2 h]; rfl⟩
theorem cmpN_le {a b : Nat} (h : cmpN a b ≤ 0) : a ≤ b := by
  rcases Nat.lt_or_ge b a with h1 | h1
  · rw [cmpN_gt h1] at h; omega
  · exact h1
theorem cmpN_pos {a b : Nat} (h : 0 < cmpN a b) : b < a := by
  rcases Nat.lt_or_ge b a with h1 | h1
  · exact h1
  · unfold cmpN at h
    split at h
    · omega
    · rw [if_neg (by omega)] at h; omega
theorem rGcd_ok (a b : List UInt32) (ha : a.length ≤ 10737418240) (hb9 : b.length ≤ 10737418240) : Ok Tryz.prog 101 [tn a, tn b] true (tn (lm (Nat.gcd (val a) (val b)))) := by
  have hla : (lm (val a)).length ≤ 10737418240 := by have := norm_le a; rw [norm_lm] at this; omega
  have hlb : (lm (val b)).length ≤ 10737418240 := by have := norm_le b; rw [norm_lm] at this; omega
  have hva := val_lt a
  obtain ⟨A, hA⟩ : ∃ A, val a = A := ⟨_, rfl⟩
  obtain ⟨B, hB⟩ : ∃ B, val b = B := ⟨_, rfl⟩
  have hna := rNormL_ok a (by omega)
  have hnb := rNormL_ok b (by omega)
  rw [hA] at hna hla hva ⊢
  rw [hB] at hnb hlb ⊢
  refine ok_of_ev (fun _ _ _ h => h) mix Tryz.func101 rfl rfl (by kernel_rfl) (Nat.le_of_ble_eq_true rfl) ?_
  repeat' (first|(refine seq_j (a := Code.block 0 _) (Nat × Nat × Nat) (fun (U, Z, s) => ⟨Tryz.f101.ntmps, [(5, .ro true (tn (lm U))), (6, .ro true (tn (lm Z))), (7, .con (.int .i64 s))], []⟩) (fun (U, Z, s) => 0 < U ∧ U ≤ A ∧ Z ≤ B ∧ s ≤ 343597383680 ∧ Nat.gcd U Z * 2 ^ s = Nat.gcd A B ∧ ¬ (U % 2 = 0 ∧ Z % 2 = 0)) ?_ ?_)|(with_reducible first|refine zA ?_|refine zB ?_|refine zC ?_|refine zD ?_|refine zE ?_|refine zF ?_|refine zG ?_|refine zH ?_|refine zI ?_|refine zJ ?_|refine zK ?_|refine zL ?_)|(with_reducible refine reg_i ?_;intro K hK)|(with_reducible refine drw_i ?_;intro K hK)|((with_reducible refine cond_t ?hc ?_);(case hc=>rfl))|((with_reducible refine cond_f ?hc ?_);(case hc=>rfl))|((with_reducible refine cond_m ?_);refine And.intro ?_ ?_;all_goals(intro hb;(try simp only [sn,sb] at hb);try exact ex0))|(refine hK _ ?_;clear hK K)|(refine hK _ _ rfl ?_;clear hK K)|(have hg:=hK;clear hg;first|(refine And.intro ?zz ?_;case zz=>first|exact rfl|exact zO rfl|omega|exact gI)|(refine fresh_n ?_)|(refine freshO_n ?_)|(refine at_Q ?_;intro hu)|(refine zP wA ?_)|(refine mul_Q ?_;intro hm1 hm2)|(refine zP at_M ?_)|(refine zP rfl ?_)|(refine zQ (hna) ?_)|(refine zQ (hnb) ?_)|(refine And.intro ?_ ?_;all_goals(intro hb;(try simp only [sn,sb] at hb);try exact ex0))|(intro b0 hb)))
  · have h0 : A = 0 := (lm0 A).1 (by omega)
    exact And.intro trivial (fz_ro (by rw [h0, Nat.gcd_zero_left]) fun h => h)
  · have h0 : B = 0 := (lm0 B).1 (by omega)
    exact And.intro trivial (fz_ro (by rw [h0, Nat.gcd_zero_right]) fun h => h)
  rotate_left
  · intro R hR
    have hA0 : A ≠ 0 := fun h => by have := (lm0 A).2 h; omega
    have hB0 : B ≠ 0 := fun h => by have := (lm0 B).2 h; omega
    repeat' (first|(with_reducible first|refine zA ?_|refine zB ?_|refine zC ?_|refine zD ?_|refine zE ?_|refine zF ?_|refine zG ?_|refine zH ?_|refine zI ?_|refine zJ ?_|refine zK ?_|refine zL ?_)|(with_reducible refine reg_i ?_;intro K hK)|(with_reducible refine drw_i ?_;intro K hK)|((with_reducible refine cond_t ?hc ?_);(case hc=>rfl))|((with_reducible refine cond_f ?hc ?_);(case hc=>rfl))|((with_reducible refine cond_m ?_);refine And.intro ?_ ?_;all_goals(intro hb;(try simp only [sn,sb] at hb);try exact ex0))|(refine hK _ ?_;clear hK K)|(refine hK _ _ rfl ?_;clear hK K)|(have hg:=hK;clear hg;first|(refine And.intro ?zz ?_;case zz=>first|exact rfl|exact zO rfl|omega|exact gI)|(refine fresh_n ?_)|(refine freshO_n ?_)|(refine at_Q ?_;intro hu)|(refine zP wA ?_)|(refine mul_Q ?_;intro hm1 hm2)|(refine zP at_M ?_)|(refine zP rfl ?_)|(refine And.intro ?_ ?_;all_goals(intro hb;(try simp only [sn,sb] at hb);try exact ex0))|(intro b0 hb)))
    refine loop_i (Nat × Nat × Nat) (fun (U, Z, s) => ⟨Tryz.f101.ntmps, [(5, .ro true (tn (lm U))), (6, .ro true (tn (lm Z))), (7, .con (.int .i64 s))], []⟩)
      (fun (U, Z, s) => 0 < U ∧ 0 < Z ∧ U * 2 ^ s ≤ A ∧ Z ≤ B ∧ Nat.gcd U Z * 2 ^ s = Nat.gcd A B) (fun (U, Z, s) => U) [] (A, B, 0) trivial ⟨by omega, by omega, by omega, by omega, by omega⟩ ⟨rfl, ⟨rfl, trivial, rfl, trivial, rfl, trivial, trivial⟩, trivial, trivial⟩ ?_
    rintro ⟨U, Z, s⟩ ⟨h1, h2, h3, h4, h5⟩
    have hXA : U ≤ A := Nat.le_trans (Nat.le_mul_of_pos_right _ (Nat.pow_pos (by decide))) h3
    have hX := lm_len_le hXA
    have hY := lm_len_le h4
    have hs : s ≤ 343597383680 := by
      have := pow_bound (s := s) (Nat.le_trans (Nat.le_mul_of_pos_left _ h1) h3) hva
      omega
    repeat' (first|(with_reducible first|refine zA ?_|refine zB ?_|refine zC ?_|refine zD ?_|refine zE ?_|refine zF ?_|refine zG ?_|refine zH ?_|refine zI ?_|refine zJ ?_|refine zK ?_|refine zL ?_)|(with_reducible refine reg_i ?_;intro K hK)|(with_reducible refine drw_i ?_;intro K hK)|((with_reducible refine cond_t ?hc ?_);(case hc=>rfl))|((with_reducible refine cond_f ?hc ?_);(case hc=>rfl))|((with_reducible refine cond_m ?_);refine And.intro ?_ ?_;all_goals(intro hb;(try simp only [sn,sb] at hb);try exact ex0))|(refine hK _ ?_;clear hK K)|(refine hK _ _ rfl ?_;clear hK K)|(have hg:=hK;clear hg;first|(refine And.intro ?zz ?_;case zz=>first|exact rfl|exact zO rfl|omega|exact gI)|(refine fresh_n ?_)|(refine freshO_n ?_)|(refine at_Q ?_;intro hu)|(refine zP wA ?_)|(refine mul_Q ?_;intro hm1 hm2)|(refine zP at_M ?_)|(refine zP rfl ?_)|(refine zQ (evenX_ok U (by omega)) ?_)|(refine zQ (evenX_ok Z (by omega)) ?_)|(refine zQ (halfX_ok U (by omega)) ?_)|(refine zQ (halfX_ok Z (by omega)) ?_)|(refine And.intro ?_ ?_;all_goals(intro hb;(try simp only [sn,sb] at hb);try exact ex0))|(intro b0 hb)))
    · have ex : U % 2 = 0 := by assumption
      have ey : Z % 2 = 0 := by assumption
      obtain ⟨x, rfl⟩ : ∃ x, U = 2 * x := ⟨U / 2, by omega⟩
      obtain ⟨y, rfl⟩ : ∃ y, Z = 2 * y := ⟨Z / 2, by omega⟩
      rw [Nat.gcd_mul_left] at h5
      refine ⟨((2 * x) / 2, (2 * y) / 2, s + 1), ⟨by omega, by omega, ?_, by omega, ?_⟩, by show (2 * x) / 2 < 2 * x; omega, rfl, ⟨rfl, trivial, rfl, trivial, rfl, trivial, trivial⟩, trivial, trivial⟩
      · rw [Nat.mul_div_cancel_left _ (by decide), Nat.pow_succ]
        have : x * (2 ^ s * 2) = 2 * x * 2 ^ s := by ac_rfl
        omega
      · rw [Nat.mul_div_cancel_left _ (by decide), Nat.mul_div_cancel_left _ (by decide), Nat.pow_succ, ← h5]; ac_rfl
    all_goals exact hR _ (U, Z, s) ⟨h1, hXA, h4, hs, h5, fun h => by simp_all⟩ ⟨rfl, ⟨rfl, trivial, rfl, trivial, rfl, trivial, trivial⟩, trivial, trivial⟩
  rintro ⟨U, Z, s⟩ ⟨h1, h2, h3, hs, h5, h6⟩
  obtain ⟨W, hW⟩ : ∃ W, max A B = W := ⟨_, rfl⟩
  have hWl : (lm W).length ≤ 10737418240 := by
    rcases Nat.le_total A B with h | h
    · rw [← hW, Nat.max_eq_right h]; exact hlb
    · rw [← hW, Nat.max_eq_left h]; exact hla
  repeat' (first|(with_reducible first|refine zA ?_|refine zB ?_|refine zC ?_|refine zD ?_|refine zE ?_|refine zF ?_|refine zG ?_|refine zH ?_|refine zI ?_|refine zJ ?_|refine zK ?_|refine zL ?_)|(with_reducible refine reg_i ?_;intro K hK)|(with_reducible refine drw_i ?_;intro K hK)|((with_reducible refine cond_t ?hc ?_);(case hc=>rfl))|((with_reducible refine cond_f ?hc ?_);(case hc=>rfl))|((with_reducible refine cond_m ?_);refine And.intro ?_ ?_;all_goals(intro hb;(try simp only [sn,sb] at hb);try exact ex0))|(refine hK _ ?_;clear hK K)|(refine hK _ _ rfl ?_;clear hK K)|(have hg:=hK;clear hg;first|(refine And.intro ?zz ?_;case zz=>first|exact rfl|exact zO rfl|omega|exact gI)|(refine fresh_n ?_)|(refine freshO_n ?_)|(refine at_Q ?_;intro hu)|(refine zP wA ?_)|(refine mul_Q ?_;intro hm1 hm2)|(refine zP at_M ?_)|(refine zP rfl ?_)|(refine And.intro ?_ ?_;all_goals(intro hb;(try simp only [sn,sb] at hb);try exact ex0))|(intro b0 hb)))
  refine loop_i (Nat × Nat) (fun (U, Z) => ⟨Tryz.f101.ntmps, [(5, .ro true (tn (lm U))), (6, .ro true (tn (lm Z))), (7, .con (.int .i64 s))], []⟩) (fun (U, Z) => 0 < U ∧ U ≤ W ∧ Z ≤ W ∧ Nat.gcd U Z * 2 ^ s = Nat.gcd A B ∧ ¬ (U % 2 = 0 ∧ Z % 2 = 0)) (fun (U, Z) => U + Z) [] (U, Z) trivial ⟨h1, by omega, by omega, h5, h6⟩ ⟨rfl, ⟨rfl, trivial, rfl, trivial, rfl, trivial, trivial⟩, trivial, trivial⟩ ?_
  clear h1 h2 h3 h5 h6 U Z
  rintro ⟨U0, Z0⟩ ⟨h1, h2, h3, h5, h6⟩
  have hX := lm_len_le h2
  have hY := lm_len_le h3
  repeat' (first|(with_reducible first|refine zA ?_|refine zB ?_|refine zC ?_|refine zD ?_|refine zE ?_|refine zF ?_|refine zG ?_|refine zH ?_|refine zI ?_|refine zJ ?_|refine zK ?_|refine zL ?_)|(with_reducible refine reg_i ?_;intro K hK)|(with_reducible refine drw_i ?_;intro K hK)|((with_reducible refine cond_t ?hc ?_);(case hc=>rfl))|((with_reducible refine cond_f ?hc ?_);(case hc=>rfl))|((with_reducible refine cond_m ?_);refine And.intro ?_ ?_;all_goals(intro hb;(try simp only [sn,sb] at hb);try exact ex0))|(refine hK _ ?_;clear hK K)|(refine hK _ _ rfl ?_;clear hK K)|(have hg:=hK;clear hg;first|(refine And.intro ?zz ?_;case zz=>first|exact rfl|exact zO rfl|omega|exact gI)|(refine fresh_n ?_)|(refine freshO_n ?_)|(refine at_Q ?_;intro hu)|(refine zP wA ?_)|(refine mul_Q ?_;intro hm1 hm2)|(refine zP at_M ?_)|(refine zP rfl ?_)|(refine And.intro ?_ ?_;all_goals(intro hb;(try simp only [sn,sb] at hb);try exact ex0))|(intro b0 hb)))
  · have hz0 : 0 < Z0 := by
      rcases Nat.eq_zero_or_pos Z0 with h | h
      · have := (lm0 Z0).2 h; omega
      · exact h
    refine loop_i Nat (fun U => ⟨Tryz.f101.ntmps, [(5, .ro true (tn (lm U))), (6, .ro true (tn (lm Z0))), (7, .con (.int .i64 s))], []⟩) (fun U => 0 < U ∧ U ≤ U0 ∧ Nat.gcd U Z0 * 2 ^ s = Nat.gcd A B ∧ ¬ (U % 2 = 0 ∧ Z0 % 2 = 0)) (fun U => U) [] U0 trivial ⟨h1, Nat.le_refl _, h5, h6⟩ ⟨rfl, ⟨rfl, trivial, rfl, trivial, rfl, trivial, trivial⟩, trivial, trivial⟩ ?_
    rintro U ⟨k1, k2, k3, k4⟩
    have hU := lm_len_le k2
    repeat' (first|(with_reducible first|refine zA ?_|refine zB ?_|refine zC ?_|refine zD ?_|refine zE ?_|refine zF ?_|refine zG ?_|refine zH ?_|refine zI ?_|refine zJ ?_|refine zK ?_|refine zL ?_)|(with_reducible refine reg_i ?_;intro K hK)|(with_reducible refine drw_i ?_;intro K hK)|((with_reducible refine cond_t ?hc ?_);(case hc=>rfl))|((with_reducible refine cond_f ?hc ?_);(case hc=>rfl))|((with_reducible refine cond_m ?_);refine And.intro ?_ ?_;all_goals(intro hb;(try simp only [sn,sb] at hb);try exact ex0))|(refine hK _ ?_;clear hK K)|(refine hK _ _ rfl ?_;clear hK K)|(have hg:=hK;clear hg;first|(refine And.intro ?zz ?_;case zz=>first|exact rfl|exact zO rfl|omega|exact gI)|(refine fresh_n ?_)|(refine freshO_n ?_)|(refine at_Q ?_;intro hu)|(refine zP wA ?_)|(refine mul_Q ?_;intro hm1 hm2)|(refine zP at_M ?_)|(refine zP rfl ?_)|(refine zQ (evenX_ok U (by omega)) ?_)|(refine zQ (halfX_ok U (by omega)) ?_)|(refine And.intro ?_ ?_;all_goals(intro hb;(try simp only [sn,sb] at hb);try exact ex0))|(intro b0 hb)))
    · obtain ⟨u, rfl⟩ : ∃ u, U = 2 * u := ⟨U / 2, by omega⟩
      refine ⟨2 * u / 2, ⟨by omega, by omega, ?_, fun h => by omega⟩, by omega, rfl, ⟨rfl, trivial, rfl, trivial, rfl, trivial, trivial⟩, trivial, trivial⟩
      rw [Nat.mul_div_cancel_left _ (by decide), ← k3, odd_gcd (by omega)]
    have hodd : U % 2 = 1 := by omega
    refine loop_i Nat (fun Z => ⟨Tryz.f101.ntmps, [(5, .ro true (tn (lm U))), (6, .ro true (tn (lm Z))), (7, .con (.int .i64 s))], []⟩) (fun Z => 0 < Z ∧ Z ≤ Z0 ∧ Nat.gcd U Z * 2 ^ s = Nat.gcd A B) (fun Z => Z) [] Z0 trivial ⟨hz0, Nat.le_refl _, k3⟩ ⟨rfl, ⟨rfl, trivial, rfl, trivial, rfl, trivial, trivial⟩, trivial, trivial⟩ ?_
    rintro Z ⟨j1, j2, j3⟩
    have hZ := lm_len_le j2
    repeat' (first|(with_reducible first|refine zA ?_|refine zB ?_|refine zC ?_|refine zD ?_|refine zE ?_|refine zF ?_|refine zG ?_|refine zH ?_|refine zI ?_|refine zJ ?_|refine zK ?_|refine zL ?_)|(with_reducible refine reg_i ?_;intro K hK)|(with_reducible refine drw_i ?_;intro K hK)|((with_reducible refine cond_t ?hc ?_);(case hc=>rfl))|((with_reducible refine cond_f ?hc ?_);(case hc=>rfl))|((with_reducible refine cond_m ?_);refine And.intro ?_ ?_;all_goals(intro hb;(try simp only [sn,sb] at hb);try exact ex0))|(refine hK _ ?_;clear hK K)|(refine hK _ _ rfl ?_;clear hK K)|(have hg:=hK;clear hg;first|(refine And.intro ?zz ?_;case zz=>first|exact rfl|exact zO rfl|omega|exact gI)|(refine fresh_n ?_)|(refine freshO_n ?_)|(refine at_Q ?_;intro hu)|(refine zP wA ?_)|(refine mul_Q ?_;intro hm1 hm2)|(refine zP at_M ?_)|(refine zP rfl ?_)|(refine zQ (evenX_ok Z (by omega)) ?_)|(refine zQ (halfX_ok Z (by omega)) ?_)|(refine zQ (cmpX_ok U Z (by omega) (by omega)) ?_)|(refine zQ (subX_ok U Z (by omega) (by omega) (Nat.le_of_lt (cmpN_pos (by assumption)))) ?_)|(refine zQ (subX_ok Z U (by omega) (by omega) (cmpN_le (by assumption))) ?_)|(refine And.intro ?_ ?_;all_goals(intro hb;(try simp only [sn,sb] at hb);try exact ex0))|(intro b0 hb)))
    · obtain ⟨z, rfl⟩ : ∃ z, Z = 2 * z := ⟨Z / 2, by omega⟩
      refine ⟨2 * z / 2, ⟨by omega, by omega, ?_⟩, by omega, rfl, ⟨rfl, trivial, rfl, trivial, rfl, trivial, trivial⟩, trivial, trivial⟩
      rw [Nat.mul_div_cancel_left _ (by decide), ← j3, Nat.gcd_comm U, Nat.gcd_comm U, odd_gcd hodd]
    · have hlt := cmpN_pos hb
      refine ⟨(Z, U - Z), ⟨by omega, by omega, by omega, ?_, fun h => by omega⟩, by show Z + (U - Z) < U0 + Z0; omega, rfl, ⟨rfl, trivial, rfl, trivial, rfl, trivial, trivial⟩, trivial, trivial⟩
      rw [← j3, gcd_less (Nat.le_of_lt hlt), Nat.gcd_comm]
    · have hle := cmpN_le hb
      refine ⟨(U, Z - U), ⟨by omega, by omega, by omega, ?_, fun h => by omega⟩, by show U + (Z - U) < U0 + Z0; omega, rfl, ⟨rfl, trivial, rfl, trivial, rfl, trivial, trivial⟩, trivial, trivial⟩
      rw [← j3, gcd_less hle]
    all_goals
      exfalso
      have := (lm0 Z).1 (by omega)
      omega
  · have hz0 : Z0 = 0 := (lm0 Z0).1 (by omega)
    subst hz0
    rw [Nat.gcd_zero_right] at h5
    repeat' (first|(with_reducible first|refine zA ?_|refine zB ?_|refine zC ?_|refine zD ?_|refine zE ?_|refine zF ?_|refine zG ?_|refine zH ?_|refine zI ?_|refine zJ ?_|refine zK ?_|refine zL ?_)|(with_reducible refine reg_i ?_;intro K hK)|(with_reducible refine drw_i ?_;intro K hK)|((with_reducible refine cond_t ?hc ?_);(case hc=>rfl))|((with_reducible refine cond_f ?hc ?_);(case hc=>rfl))|((with_reducible refine cond_m ?_);refine And.intro ?_ ?_;all_goals(intro hb;(try simp only [sn,sb] at hb);try exact ex0))|(refine hK _ ?_;clear hK K)|(refine hK _ _ rfl ?_;clear hK K)|(have hg:=hK;clear hg;first|(refine And.intro ?zz ?_;case zz=>first|exact rfl|exact zO rfl|omega|exact gI)|(refine fresh_n ?_)|(refine freshO_n ?_)|(refine at_Q ?_;intro hu)|(refine zP wA ?_)|(refine mul_Q ?_;intro hm1 hm2)|(refine zP at_M ?_)|(refine zP rfl ?_)|(refine And.intro ?_ ?_;all_goals(intro hb;(try simp only [sn,sb] at hb);try exact ex0))|(intro b0 hb)))
    refine loop_i (Nat × Nat) (fun (U, i) => ⟨Tryz.f101.ntmps, [(5, .ro true (tn (lm U))), (7, .con (.int .i64 s)), (8, .con (.int .i64 i))], []⟩) (fun (U, i) => i ≤ s ∧ U ≤ Nat.gcd A B ∧ U * 2 ^ (s - i) = Nat.gcd A B) (fun (U, i) => s - i) [] (U0, 0) trivial ⟨by omega, by rw [← h5]; exact Nat.le_mul_of_pos_right _ (Nat.pow_pos (by decide)), h5⟩ ⟨rfl, ⟨rfl, trivial, rfl, trivial, rfl, trivial, trivial⟩, trivial, trivial⟩ ?_
    rintro ⟨U, i⟩ ⟨k1, k2, k3⟩
    have hU := lm_len_le k2
    have hG : Nat.gcd A B ≤ A := Nat.le_of_dvd (Nat.pos_of_ne_zero fun h => by have := (lm0 A).2 h; omega) (Nat.gcd_dvd_left A B)
    have hU2 := lm_len_le hG
    repeat' (first|(with_reducible first|refine zA ?_|refine zB ?_|refine zC ?_|refine zD ?_|refine zE ?_|refine zF ?_|refine zG ?_|refine zH ?_|refine zI ?_|refine zJ ?_|refine zK ?_|refine zL ?_)|(with_reducible refine reg_i ?_;intro K hK)|(with_reducible refine drw_i ?_;intro K hK)|((with_reducible refine cond_t ?hc ?_);(case hc=>rfl))|((with_reducible refine cond_f ?hc ?_);(case hc=>rfl))|((with_reducible refine cond_m ?_);refine And.intro ?_ ?_;all_goals(intro hb;(try simp only [sn,sb] at hb);try exact ex0))|(refine hK _ ?_;clear hK K)|(refine hK _ _ rfl ?_;clear hK K)|(have hg:=hK;clear hg;first|(refine And.intro ?zz ?_;case zz=>first|exact rfl|exact zO rfl|omega|exact gI)|(refine fresh_n ?_)|(refine freshO_n ?_)|(refine at_Q ?_;intro hu)|(refine zP wA ?_)|(refine mul_Q ?_;intro hm1 hm2)|(refine zP at_M ?_)|(refine zP rfl ?_)|(refine zQ (doubleX_ok U (by omega)) ?_)|(refine And.intro ?_ ?_;all_goals(intro hb;(try simp only [sn,sb] at hb);try exact ex0))|(intro b0 hb)))
    · have e : s - i = (s - (i + 1)) + 1 := by omega
      rw [e, Nat.pow_succ] at k3
      refine ⟨(2 * U, i + 1), ⟨by omega, ?_, ?_⟩, by show s - (i + 1) < s - i; omega, rfl, ⟨rfl, trivial, rfl, trivial, rfl, trivial, trivial⟩, trivial, trivial⟩
      · have : U * (2 ^ (s - (i + 1)) * 2) = 2 * U * 2 ^ (s - (i + 1)) := by ac_rfl
        rw [← k3, this]; exact Nat.le_mul_of_pos_right _ (Nat.pow_pos (by decide))
      · rw [← k3]; ac_rfl
    · have e : s - i = 0 := by omega
      rw [e, Nat.pow_zero, Nat.mul_one] at k3
      exact And.intro trivial (fz_ro (by rw [k3]) fun h => h)
