import Derived.Test.YtekgeekghclfaaaGreatDiv2
set_option linter.all false
namespace Go.Ev
open Go.Proofs
set_option maxRecDepth 10000
set_option maxHeartbeats 4000000
set_option linter.unusedSimpArgs false
set_option linter.unusedVariables false
theorem shl1 {b : Nat} {Q : Int → Prop} (hb : b < 32) (k : Q ((2 ^ b : Nat) : Int)) : ∃ r, r = IntKind.u32.wrap (1 * 2 ^ (min ((b : Nat) : Int).toNat IntKind.u32.bits)) ∧ Q r := by
  refine ⟨_, ?_, k⟩
  have h : 2 ^ b < 4294967296 := Nat.lt_of_lt_of_le (Nat.pow_lt_pow_right (by decide) hb) (by decide)
  have e : (1 : Int) * 2 ^ (min ((b : Nat) : Int).toNat IntKind.u32.bits) = ((2 ^ b : Nat) : Int) := by
    rw [Int.toNat_natCast, show IntKind.u32.bits = 32 from rfl, Nat.min_eq_left (by omega), Int.one_mul]; simp
  rw [e, wrap32 (Int.natCast_nonneg _), Int.toNat_natCast, UInt32.toNat_ofNat', Nat.mod_eq_of_lt h]
theorem put_bit {q : List UInt32} {i Q : Nat} (hi : i / 32 < q.length) (hq : val q = Q * 2 ^ (i + 1)) :
    (q.getD (i / 32) default).toNat + 2 ^ (i % 32) < 4294967296 ∧ val (q.set (i / 32) (UInt32.ofNat ((q.getD (i / 32) default).toNat + 2 ^ (i % 32)))) = (2 * Q + 1) * 2 ^ i := by
  have e1 : 2 ^ i = 4294967296 ^ (i / 32) * 2 ^ (i % 32) := by
    rw [show (4294967296 : Nat) = 2 ^ 32 by decide, ← Nat.pow_mul, ← Nat.pow_add, Nat.div_add_mod]
  have e2 : (4294967296 : Nat) = 2 ^ (i % 32 + 1) * 2 ^ (31 - i % 32) := by
    rw [← Nat.pow_add, show i % 32 + 1 + (31 - i % 32) = 32 by omega]
  obtain ⟨x, hx⟩ : ∃ x, (q.getD (i / 32) default).toNat = x := ⟨_, rfl⟩
  have hxb : x < 4294967296 := by rw [← hx]; exact UInt32.toNat_lt _
  have h1 : val q / 4294967296 ^ (i / 32) = Q * 2 ^ (i % 32 + 1) := by
    rw [hq, Nat.pow_succ 2 i, e1, show Q * (4294967296 ^ (i / 32) * 2 ^ (i % 32) * 2) = 4294967296 ^ (i / 32) * (Q * 2 ^ (i % 32 + 1)) by rw [Nat.pow_succ]; ac_rfl, Nat.mul_div_cancel_left _ (Nat.pow_pos (by decide))]
  rw [val_div_pow, val_drop_step hi, hx] at h1
  obtain ⟨z, hz⟩ : ∃ z, x = 2 ^ (i % 32 + 1) * z := by
    have hd : 2 ^ (i % 32 + 1) ∣ x + 4294967296 * val (q.drop (i / 32 + 1)) := ⟨Q, by rw [h1, Nat.mul_comm]⟩
    have hd2 : 2 ^ (i % 32 + 1) ∣ 4294967296 * val (q.drop (i / 32 + 1)) := Nat.dvd_trans ⟨2 ^ (31 - i % 32), e2⟩ (Nat.dvd_mul_right _ _)
    exact (Nat.dvd_add_left hd2).1 hd
  have hlt : x + 2 ^ (i % 32) < 4294967296 := by
    have hp : 0 < 2 ^ (i % 32) := Nat.pow_pos (by decide)
    have hzl : z < 2 ^ (31 - i % 32) := by
      rw [hz, e2] at hxb
      exact Nat.lt_of_mul_lt_mul_left hxb
    have h2 : 2 ^ (i % 32 + 1) * (z + 1) ≤ 2 ^ (i % 32 + 1) * 2 ^ (31 - i % 32) := Nat.mul_le_mul_left _ hzl
    rw [← e2, Nat.mul_add, ← hz, Nat.pow_succ] at h2
    omega
  refine ⟨by rw [hx]; exact hlt, ?_⟩
  have hs := val_set q (i / 32) (UInt32.ofNat ((q.getD (i / 32) default).toNat + 2 ^ (i % 32))) hi
  rw [hx, UInt32.toNat_ofNat', Nat.mod_eq_of_lt hlt, hq] at hs
  rw [hx]
  rw [Nat.add_mul, Nat.mul_comm (2 ^ (i % 32)), ← e1] at hs
  rw [Nat.add_mul, Nat.one_mul]
  rw [Nat.pow_succ] at hs
  have e3 : Q * (2 ^ i * 2) = 2 * Q * 2 ^ i := by ac_rfl
  omega
theorem div_bit (v i : Nat) : v / 2 ^ i = 2 * (v / 2 ^ (i + 1)) + v / 2 ^ i % 2 := by
  rw [Nat.pow_succ, ← Nat.div_div_eq_div_mul]; omega
theorem cmpN_ge0 {a b : Nat} (h : 0 ≤ cmpN a b) : b ≤ a := by
  rcases Nat.lt_or_ge a b with h1 | h1
  · rw [cmpN_lt h1] at h; omega
  · exact h1
theorem cmpN_neg {a b : Nat} (h : cmpN a b < 0) : a < b := by
  rcases Nat.lt_or_ge a b with h1 | h1
  · exact h1
  · unfold cmpN at h
    rw [if_neg (by omega)] at h
    split at h <;> omega
theorem lm_len_lt {a b : Nat} (h : a < b) : (lm a).length ≤ (lm b).length := by
  rcases Nat.lt_or_ge (lm b).length (lm a).length with h1 | h1
  · have := can_len_lt (can_lm a) h1
    rw [val_lm, val_lm] at this; omega
  · exact h1
theorem rNormD_ok (R b : Nat) (hb : b ≤ 1) (hR : (lm R).length ≤ 1099511627776) : Ok Tryz.prog 91 [tn (dblL b (lm R))] true (tn (lm (b + 2 * R))) := by
  have h := rNorm_ok (dblL b (lm R)) (Nat.le_trans (dblL_len _ _) (by omega))
  rwa [norm_lm, dblL_val _ _ (by omega), val_lm] at h
theorem rDivMod_ok (l b : List UInt32) (hl : l.length ≤ 10737418240) (hb9 : b.length ≤ 10737418240) (h0 : val b ≠ 0) : Ok Tryz.prog 102 [tn l, tn b] true (.tup [tn (lm (val l / val b)), tn (lm (val l % val b)), .con (.int .i64 0)]) := by
  have hy := norm_le b
  have hn := @rbits_le l
  have hvy := val_norm b
  refine ok_of_ev (fun _ _ _ h => h) mix Tryz.func102 rfl rfl (by kernel_rfl) (Nat.le_of_ble_eq_true rfl) ?_
  repeat' (first|(refine quo31 (by omega) ?_)|(with_reducible first|refine zA ?_|refine zB ?_|refine zC ?_|refine zD ?_|refine zE ?_|refine zF ?_|refine zG ?_|refine zH ?_|refine zI ?_|refine zJ ?_|refine zK ?_|refine zL ?_)|(with_reducible refine reg_i ?_;intro K hK)|(with_reducible refine drw_i ?_;intro K hK)|((with_reducible refine cond_t ?hc ?_);(case hc=>rfl))|((with_reducible refine cond_f ?hc ?_);(case hc=>rfl))|((with_reducible refine cond_m ?_);refine And.intro ?_ ?_;all_goals(intro hb;(try simp only [sn,sb] at hb);try exact ex0))|(refine hK _ ?_;clear hK K)|(refine hK _ _ rfl ?_;clear hK K)|(have hg:=hK;clear hg;first|(refine And.intro ?zz ?_;case zz=>first|exact rfl|exact zO rfl|omega|exact gI)|(refine fresh_n ?_)|(refine freshO_n ?_)|(refine at_Q ?_;intro hu)|(refine zP wA ?_)|(refine mul_Q ?_;intro hm1 hm2)|(refine zP at_M ?_)|(refine zP rfl ?_)|(refine zQ (rNorm_ok b (by omega)) ?_)|(refine zQ (rBits_ok l (by omega)) ?_)|(refine And.intro ?_ ?_;all_goals(intro hb;(try simp only [sn,sb] at hb);try exact ex0))|(intro b0 hb)))
  · exfalso
    have h9 : norm b = [] := List.eq_nil_of_length_eq_zero (by omega)
    rw [h9] at hvy
    exact h0 (by rw [← hvy]; rfl)
  obtain ⟨V0, hV0⟩ : ∃ V, val b = V := ⟨_, rfl⟩
  have hcy : norm b = lm V0 := by rw [norm_lm, hV0]
  rw [hV0] at h0 hvy ⊢
  generalize norm b = y at *
  obtain ⟨n, hN⟩ : ∃ n, rbits l = n := ⟨_, rfl⟩
  have hlt := rbits_lt l
  rw [hN] at hn hlt
  refine loop_f (Int × List UInt32 × Nat × Nat) (fun (i, q, Q, R) => ⟨Tryz.f102.ntmps, [(0, .ro false (tn l)), (7, .ro true (tn y)), (9, .own 0 0 0 ((n + 31) / 32)), (10, .ro true (tn (lm R))), (11, .con (.int .i64 i))], [(0, ⟨1, q.map cu, 0, true⟩)]⟩)
    (fun (i, q, Q, R) => -1 ≤ i ∧ i < n ∧ q.length = (n + 31) / 32 ∧ R < V0 ∧ val q = Q * 2 ^ (i + 1).toNat ∧ val l / 2 ^ (i + 1).toNat = V0 * Q + R) (fun (i, q, Q, R) => (i + 1).toNat) ((n : Int) - 1, List.replicate ((n + 31) / 32) 0, 0, 0) ⟨by omega, by omega, by simp, by omega, ?_, ?_⟩ (lf_of0 ?_ ?_) ?_
  · rw [val_replicate, Nat.zero_mul]
  · rw [show ((n : Int) - 1 + 1).toNat = n by omega, Nat.div_eq_of_lt hlt]; rfl
  · refine ⟨Lc.same _ trivial, Lc.same _ trivial, ?_, ?_, ?_, trivial⟩
    · show LV _ _ (V.own 0 0 0 ((((rbits l + 31) / 32 : Nat) : Int)).toNat) _
      rw [hN]; exact Lc.same _ rfl
    · rw [show lm 0 = [] from (lm_nil_iff 0).2 rfl]
      exact Lc.frz true .emp (tn []) .emp
    · show LV _ _ (.con (.int .i64 ((rbits l : Int) - 1))) _
      rw [hN]; exact Lc.same _ trivial
  · refine ⟨lfOb_same ?_ (fun e he => ?_), trivial⟩
    · show some (Obj.mk 1 (List.replicate ((((rbits l + 31) / 32 : Nat) : Int)).toNat (V.con (.int .u32 0))) 0 true) = some (Obj.mk 1 ((List.replicate ((n + 31) / 32) 0).map cu) 0 true)
      rw [hN, List.map_replicate]; rfl
    · obtain ⟨x, -, rfl⟩ := List.mem_map.1 he
      trivial
  rintro ⟨i, q, Q, R⟩ ⟨h1, h2, hql, h3, h4, h5⟩
  have hRl : (lm R).length ≤ 10737418240 := by have := lm_len_lt h3; rw [← hcy] at this; omega
  by_cases hi0 : 0 ≤ i
  · obtain ⟨k, rfl⟩ : ∃ k : Nat, i = k := ⟨i.toNat, by omega⟩
    have hbit := Nat.mod_lt (val l / 2 ^ k) (show 0 < 2 by decide)
    obtain ⟨B, hB⟩ : ∃ B, val l / 2 ^ k % 2 = B := ⟨_, rfl⟩
    have hbo := rBit_ok l k (by omega)
    rw [hB] at hbo hbit
    have hR1 : (lm (B + 2 * R)).length ≤ 10737418242 := by
      have h7 := dblL_len (lm R) B
      have h8 := norm_le (dblL B (lm R))
      rw [norm_lm, dblL_val _ _ (by omega), val_lm] at h8
      omega
    repeat' (first|(first | (refine quo32 (by omega) ?_) | (refine rem32 ?_) | (refine shl1 (by omega) ?_))|(with_reducible first|refine zA ?_|refine zB ?_|refine zC ?_|refine zD ?_|refine zE ?_|refine zF ?_|refine zG ?_|refine zH ?_|refine zI ?_|refine zJ ?_|refine zK ?_|refine zL ?_)|(with_reducible refine reg_i ?_;intro K hK)|(with_reducible refine drw_i ?_;intro K hK)|((with_reducible refine cond_t ?hc ?_);(case hc=>rfl))|((with_reducible refine cond_f ?hc ?_);(case hc=>rfl))|((with_reducible refine cond_m ?_);refine And.intro ?_ ?_;all_goals(intro hb;(try simp only [sn,sb] at hb);try exact ex0))|(refine hK _ ?_;clear hK K)|(refine hK _ _ rfl ?_;clear hK K)|(have hg:=hK;clear hg;first|(refine And.intro ?zz ?_;case zz=>first|exact rfl|exact zO rfl|omega|exact gI)|(refine fresh_n ?_)|(refine freshO_n ?_)|(refine at_Q ?_;intro hu)|(refine zP wA ?_)|(refine mul_Q ?_;intro hm1 hm2)|(refine zP at_M ?_)|(refine zP rfl ?_)|(refine zQ (hbo) ?_)|(refine zQ (rdouble_ok (lm R) B (by omega) (by omega)) ?_)|(refine zQ (rNormD_ok R B (by omega) (by omega)) ?_)|(refine zQ (rCmp_ok (lm (B + 2 * R)) y (by omega) (by omega)) ?_)|(refine zQ (rSub_ge (lm (B + 2 * R)) y (by omega) (by omega) (cmpN_ge0 (by assumption))) ?_)|(refine And.intro ?_ ?_;all_goals(intro hb;(try simp only [sn,sb] at hb);try exact ex0))|(intro b0 hb)))
    · have hge : V0 ≤ B + 2 * R := by have := cmpN_ge0 hb; rwa [val_lm, hvy] at this
      have e0 : (((k / 32 : Nat) : Int)).toNat = k / 32 := rfl
      have hk : k / 32 < q.length := by omega
      obtain ⟨hp1, hp2⟩ := put_bit (i := k) (Q := Q) hk (by rw [h4]; rfl)
      have hdb := div_bit (val l) k
      rw [hB, show val l / 2 ^ (k + 1) = V0 * Q + R from h5] at hdb
      refine ⟨((k : Int) - 1, q.set (k / 32) (UInt32.ofNat ((q.getD (k / 32) default).toNat + 2 ^ (k % 32))), 2 * Q + 1, B + 2 * R - V0), ⟨by omega, by omega, by rw [List.length_set]; exact hql, by omega, ?_, ?_⟩, by show ((k : Int) - 1 + 1).toNat < ((k : Int) + 1).toNat; omega, lf_of0 ?_ ?_⟩
      · rw [show ((k : Int) - 1 + 1).toNat = k by omega]; exact hp2
      · have e7 : V0 * (2 * Q + 1) = 2 * (V0 * Q) + V0 := by rw [Nat.mul_add, Nat.mul_one, Nat.mul_left_comm]
        rw [show ((k : Int) - 1 + 1).toNat = k by omega, hdb]
        omega
      · refine ⟨Lc.same _ trivial, Lc.same _ trivial, Lc.same _ rfl, ?_, Lc.same _ trivial, trivial⟩
        show LV _ _ (.ro true (tn (lm (val (lm (B + 2 * R)) - val y)))) _
        rw [val_lm, hvy]
        exact Lc.same _ trivial
      · refine ⟨lfOb_same ?_ (fun e he => ?_), trivial⟩
        · refine congrArg (fun l => some (Obj.mk 1 l 0 true)) (?_ : (q.map cu).set (0 + k / 32) (V.con (.int .u32 (IntKind.u32.wrap (((q.getD (0 + k / 32) default).toNat : Int) + ((2 ^ (k % 32) : Nat) : Int))))) = _)
          rw [Nat.zero_add, ← Int.natCast_add, wrap32 (Int.natCast_nonneg _), Int.toNat_natCast, set_cu2]
        · obtain ⟨x, -, rfl⟩ := List.mem_map.1 he
          trivial
    · have hlt2 : B + 2 * R < V0 := by have := cmpN_neg hb; rwa [val_lm, hvy] at this
      have hdb := div_bit (val l) k
      rw [hB, show val l / 2 ^ (k + 1) = V0 * Q + R from h5] at hdb
      refine ⟨((k : Int) - 1, q, 2 * Q, B + 2 * R), ⟨by omega, by omega, hql, by omega, ?_, ?_⟩, by show ((k : Int) - 1 + 1).toNat < ((k : Int) + 1).toNat; omega, lf_of0 ?_ ?_⟩
      · rw [show ((k : Int) - 1 + 1).toNat = k by omega, h4, show ((k : Int) + 1).toNat = k + 1 from rfl, Nat.pow_succ]; ac_rfl
      · rw [show ((k : Int) - 1 + 1).toNat = k by omega, hdb]
        have : V0 * (2 * Q) = 2 * (V0 * Q) := by ac_rfl
        omega
      · exact ⟨Lc.same _ trivial, Lc.same _ trivial, Lc.same _ rfl, Lc.same _ trivial, Lc.same _ trivial, trivial⟩
      · refine ⟨lfOb_same rfl (fun e he => ?_), trivial⟩
        obtain ⟨x, -, rfl⟩ := List.mem_map.1 he
        trivial
  · repeat' (first|(with_reducible first|refine zA ?_|refine zB ?_|refine zC ?_|refine zD ?_|refine zE ?_|refine zF ?_|refine zG ?_|refine zH ?_|refine zI ?_|refine zJ ?_|refine zK ?_|refine zL ?_)|(with_reducible refine reg_i ?_;intro K hK)|(with_reducible refine drw_i ?_;intro K hK)|((with_reducible refine cond_t ?hc ?_);(case hc=>rfl))|((with_reducible refine cond_f ?hc ?_);(case hc=>rfl))|((with_reducible refine cond_m ?_);refine And.intro ?_ ?_;all_goals(intro hb;(try simp only [sn,sb] at hb);try exact ex0))|(refine hK _ ?_;clear hK K)|(refine hK _ _ rfl ?_;clear hK K)|(have hg:=hK;clear hg;first|(refine And.intro ?zz ?_;case zz=>first|exact rfl|exact zO rfl|omega|exact gI)|(refine fresh_n ?_)|(refine freshO_n ?_)|(refine at_Q ?_;intro hu)|(refine zP wA ?_)|(refine mul_Q ?_;intro hm1 hm2)|(refine zP at_M ?_)|(refine zP rfl ?_)|(refine And.intro ?_ ?_;all_goals(intro hb;(try simp only [sn,sb] at hb);try exact ex0))|(intro b0 hb)))
    have e1 : (i + 1).toNat = 0 := by omega
    rw [e1, Nat.pow_zero, Nat.mul_one] at h4
    rw [e1, Nat.pow_zero, Nat.div_one] at h5
    have hd1 : val l / V0 = Q := by rw [h5, Nat.mul_add_div (Nat.pos_of_ne_zero h0), Nat.div_eq_of_lt h3, Nat.add_zero]
    have hd2 : val l % V0 = R := by rw [h5, Nat.mul_add_mod, Nat.mod_eq_of_lt h3]
    refine Or.inl (Exists.intro _ (Exists.intro _ (Exists.intro _ (And.intro (rNorm_ok q (by omega)) (Exists.intro [(0, ?o)] (And.intro (lpre1 ?ho) (And.intro ?z (And.intro rfl ?_))))))))
    case ho => exact rfl
    case z =>
      refine fzl1 (fz_own (l := q) (F := cu) (G := tu32) rfl rfl rfl hql ?_ (fun a _ => fze_con _) rfl)
      show List.take _ (List.drop 0 (q.map cu)) = _
      rw [List.drop_zero, List.take_of_length_le (by rw [List.length_map]; omega)]
    repeat' (first|(with_reducible first|refine zA ?_|refine zB ?_|refine zC ?_|refine zD ?_|refine zE ?_|refine zF ?_|refine zG ?_|refine zH ?_|refine zI ?_|refine zJ ?_|refine zK ?_|refine zL ?_)|(with_reducible refine reg_i ?_;intro K hK)|(with_reducible refine drw_i ?_;intro K hK)|((with_reducible refine cond_t ?hc ?_);(case hc=>rfl))|((with_reducible refine cond_f ?hc ?_);(case hc=>rfl))|((with_reducible refine cond_m ?_);refine And.intro ?_ ?_;all_goals(intro hb;(try simp only [sn,sb] at hb);try exact ex0))|(refine hK _ ?_;clear hK K)|(refine hK _ _ rfl ?_;clear hK K)|(have hg:=hK;clear hg;first|(refine And.intro ?zz ?_;case zz=>first|exact rfl|exact zO rfl|omega|exact gI)|(refine fresh_n ?_)|(refine freshO_n ?_)|(refine at_Q ?_;intro hu)|(refine zP wA ?_)|(refine mul_Q ?_;intro hm1 hm2)|(refine zP at_M ?_)|(refine zP rfl ?_)|(refine And.intro ?_ ?_;all_goals(intro hb;(try simp only [sn,sb] at hb);try exact ex0))|(intro b0 hb)))
    rw [hd1, hd2]
    exact ⟨trivial, _, _, _, rfl, fz_ro (by rw [norm_lm, h4]) fun h => h, fz_ro rfl fun h => h, fz_con rfl⟩
