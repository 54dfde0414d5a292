import Derived.Test.YtekgeekghclfaaaGreatDiv
set_option linter.all false
namespace Go.Ev
open Go.Proofs
set_option maxRecDepth 10000
set_option maxHeartbeats 4000000
set_option linter.unusedSimpArgs false
set_option linter.unusedVariables false
def bl (t : Nat) : Nat := if t = 0 then 0 else Nat.log2 t + 1
theorem bl_step {t : Nat} (h : 0 < t) : bl t = bl (t / 2) + 1 := by
  unfold bl
  rw [if_neg (by omega)]
  by_cases h2 : t / 2 = 0
  · rw [if_pos h2]
    have : t = 1 := by omega
    subst this; rfl
  · rw [if_neg h2, Nat.log2_def, if_pos (by omega)]
theorem bl_lt (t : Nat) : t < 2 ^ bl t := by
  unfold bl
  split
  · rename_i h; subst h; decide
  · exact Nat.lt_log2_self
theorem bl_le {t : Nat} (h : t < 4294967296) : bl t ≤ 32 := by
  unfold bl
  split
  · omega
  · rename_i h0
    have := (Nat.log2_lt h0 (k := 32)).2 (by simpa using h)
    omega
def rbits (l : List UInt32) : Nat := if norm l = [] then 0 else 32 * ((norm l).length - 1) + bl ((norm l).getD ((norm l).length - 1) default).toNat
theorem quo32 {n : Nat} {Q : Int → Prop} (h : n ≤ 4611686018427387904) (k : Q ((n / 32 : Nat) : Int)) : ∃ r, r = IntKind.i64.wrap ((n : Int).tdiv 32) ∧ Q r :=
  ⟨_, wrapI (a := ((n / 32 : Nat) : Int)) (by omega) (by omega), k⟩
theorem quo31 {n : Nat} {Q : Int → Prop} (h : n ≤ 4611686018427387904) (k : Q (((n + 31) / 32 : Nat) : Int)) : ∃ r, r = IntKind.i64.wrap (((n : Int) + 31).tdiv 32) ∧ Q r :=
  ⟨_, wrapI (a := (((n + 31) / 32 : Nat) : Int)) (by omega) (by omega), k⟩
theorem rem32 {n : Nat} {Q : Int → Prop} (k : Q ((n % 32 : Nat) : Int)) : ∃ r, r = (n : Int).tmod 32 ∧ Q r := ⟨_, rfl, k⟩
theorem quo2 {n : Nat} {Q : Int → Prop} (h : n < 4294967296) (k : Q ((n / 2 : Nat) : Int)) : ∃ r, r = IntKind.u32.wrap ((n : Int).tdiv 2) ∧ Q r := by
  refine ⟨_, ?_, k⟩
  show _ = IntKind.u32.wrap ((n / 2 : Nat) : Int)
  rw [wrap32 (Int.natCast_nonneg _), Int.toNat_natCast, UInt32.toNat_ofNat', Nat.mod_eq_of_lt (by omega)]
theorem shrN {a b : Nat} {Q : Int → Prop} (hb : b ≤ 64) (k : Q ((a / 2 ^ b : Nat) : Int)) : ∃ r, r = ((a : Nat) : Int).fdiv (2 ^ (min ((b : Nat) : Int).toNat IntKind.u64.bits)) ∧ Q r := by
  refine ⟨_, ?_, k⟩
  rw [Int.toNat_natCast, show IntKind.u64.bits = 64 from rfl, Nat.min_eq_left hb, Int.fdiv_eq_ediv_of_nonneg _ (by exact_mod_cast Nat.zero_le _)]
  simp
theorem val_div_pow (l : List UInt32) (k : Nat) : val l / 4294967296 ^ k = val (l.drop k) := by
  rw [val_split l k, Nat.mul_comm (4294967296 ^ k), Nat.add_mul_div_right _ _ (Nat.pow_pos (by decide))]
  have h1 := val_lt (l.take k)
  have h2 : 4294967296 ^ (l.take k).length ≤ 4294967296 ^ k := Nat.pow_le_pow_right (by decide) (by rw [List.length_take]; omega)
  rw [Nat.div_eq_of_lt (by omega)]; omega
theorem val_bit (l : List UInt32) (i : Nat) : val l / 2 ^ i % 2 = (l.getD (i / 32) 0).toNat / 2 ^ (i % 32) % 2 := by
  have e1 : 2 ^ i = 4294967296 ^ (i / 32) * 2 ^ (i % 32) := by
    rw [show (4294967296 : Nat) = 2 ^ 32 by decide, ← Nat.pow_mul, ← Nat.pow_add, Nat.div_add_mod]
  rw [e1, ← Nat.div_div_eq_div_mul, val_div_pow, val_drop_succ]
  have e2 : (4294967296 : Nat) = 2 ^ (i % 32) * (2 * 2 ^ (31 - i % 32)) := by
    rw [← Nat.pow_succ', ← Nat.pow_add, show i % 32 + (31 - i % 32 + 1) = 32 by omega]
  rw [show (l.getD (i / 32) 0).toNat + 4294967296 * val (l.drop (i / 32 + 1)) = (l.getD (i / 32) 0).toNat + 2 ^ (i % 32) * (2 * (2 ^ (31 - i % 32) * val (l.drop (i / 32 + 1)))) by
    rw [show 4294967296 * val (l.drop (i / 32 + 1)) = 2 ^ (i % 32) * (2 * 2 ^ (31 - i % 32)) * val (l.drop (i / 32 + 1)) by rw [← e2], Nat.mul_assoc, Nat.mul_assoc]]
  rw [Nat.add_mul_div_left _ _ (Nat.pow_pos (by decide)), Nat.add_mul_mod_self_left]
theorem rBits_ok (l : List UInt32) (hl : l.length ≤ 1099511627776) : Ok Tryz.prog 121 [tn l] true (.con (.int .i64 (rbits l))) := by
  have hn := norm_le l
  refine ok_of_ev (fun _ _ _ h => h) mix Tryz.func121 rfl rfl (by kernel_rfl) (Nat.le_of_ble_eq_true rfl) ?_
  repeat' (first|(with_reducible first|refine zA ?_|refine zB ?_|refine zC ?_|refine zD ?_|refine zE ?_|refine zF ?_|refine zG ?_|refine zH ?_|refine zI ?_|refine zJ ?_|refine zK ?_|refine zL ?_)|(with_reducible refine reg_i ?_;intro K hK)|(with_reducible refine drw_i ?_;intro K hK)|((with_reducible refine cond_t ?hc ?_);(case hc=>rfl))|((with_reducible refine cond_f ?hc ?_);(case hc=>rfl))|((with_reducible refine cond_m ?_);refine And.intro ?_ ?_;all_goals(intro hb;(try simp only [sn,sb] at hb);try exact ex0))|(refine hK _ ?_;clear hK K)|(refine hK _ _ rfl ?_;clear hK K)|(have hg:=hK;clear hg;first|(refine And.intro ?zz ?_;case zz=>first|exact rfl|exact zO rfl|omega|exact gI)|(refine fresh_n ?_)|(refine freshO_n ?_)|(refine at_Q ?_;intro hu)|(refine zP wA ?_)|(refine mul_Q ?_;intro hm1 hm2)|(refine zP at_M ?_)|(refine zP rfl ?_)|(refine zQ (rNorm_ok l (by omega)) ?_)|(refine And.intro ?_ ?_;all_goals(intro hb;(try simp only [sn,sb] at hb);try exact ex0))|(intro b0 hb)))
  · have h0 : norm l = [] := List.eq_nil_of_length_eq_zero (by omega)
    exact And.intro trivial (fz_con (congrArg (fun n : Nat => Value.int .i64 n) (by unfold rbits; rw [if_pos h0])))
  have h0 : norm l ≠ [] := fun h => hb (by rw [h]; rfl)
  obtain ⟨m, hm⟩ : ∃ m, norm l = m := ⟨_, rfl⟩
  have e1 : ((((m.map tu32).length : Int)) - 1).toNat = m.length - 1 := by rw [List.length_map]; omega
  rw [hm] at h0 hb hu hn
  rw [e1] at hu
  have hp : 0 < m.length := List.length_pos_iff.2 h0
  refine loop_i (Nat × Nat) (fun (n, t) => ⟨Tryz.f121.ntmps, [(4, .con (.int .i64 n)), (5, .con (.int .u32 t))], []⟩)
    (fun (n, t) => t < 4294967296 ∧ n ≤ 32 * m.length + 32 ∧ n + bl t = rbits l ∧ n + bl t ≤ 32 * m.length) (fun (n, t) => t) [] (32 * (m.length - 1), (m.getD (m.length - 1) default).toNat) trivial ⟨hu, by omega, ?_, ?_⟩ ⟨rfl, ⟨?_, trivial, ?_, trivial, trivial⟩, trivial, trivial⟩ ?_
  · unfold rbits; rw [hm, if_neg h0]
  · have := bl_le hu; omega
  · show V.con (.int .i64 (32 * (((norm l).map tu32).length - 1 : Int))) = _
    rw [hm, List.length_map]
    refine congrArg (fun n => V.con (.int .i64 n)) (by omega)
  · show V.con (.int .u32 (((norm l).getD ((((norm l).map tu32).length : Int) - 1).toNat default).toNat : Nat)) = _
    rw [hm, e1]
  rintro ⟨n, t⟩ ⟨g0, g1, g2, g3⟩
  repeat' (first|(refine quo2 (by omega) ?_)|(with_reducible first|refine zA ?_|refine zB ?_|refine zC ?_|refine zD ?_|refine zE ?_|refine zF ?_|refine zG ?_|refine zH ?_|refine zI ?_|refine zJ ?_|refine zK ?_|refine zL ?_)|(with_reducible refine reg_i ?_;intro K hK)|(with_reducible refine drw_i ?_;intro K hK)|((with_reducible refine cond_t ?hc ?_);(case hc=>rfl))|((with_reducible refine cond_f ?hc ?_);(case hc=>rfl))|((with_reducible refine cond_m ?_);refine And.intro ?_ ?_;all_goals(intro hb;(try simp only [sn,sb] at hb);try exact ex0))|(refine hK _ ?_;clear hK K)|(refine hK _ _ rfl ?_;clear hK K)|(have hg:=hK;clear hg;first|(refine And.intro ?zz ?_;case zz=>first|exact rfl|exact zO rfl|omega|exact gI)|(refine fresh_n ?_)|(refine freshO_n ?_)|(refine at_Q ?_;intro hu)|(refine zP wA ?_)|(refine mul_Q ?_;intro hm1 hm2)|(refine zP at_M ?_)|(refine zP rfl ?_)|(refine And.intro ?_ ?_;all_goals(intro hb;(try simp only [sn,sb] at hb);try exact ex0))|(intro b0 hb)))
  · have hs := bl_step (t := t) (by omega)
    exact ⟨(n + 1, t / 2), ⟨by omega, by omega, by omega, by omega⟩, by show t / 2 < t; omega, rfl, ⟨rfl, trivial, rfl, trivial, trivial⟩, trivial, trivial⟩
  · have ht : t = 0 := by omega
    subst ht
    exact And.intro trivial (fz_con (congrArg (fun n : Nat => Value.int .i64 n) (by rw [← g2]; rfl)))
theorem rbits_lt (l : List UInt32) : val l < 2 ^ rbits l := by
  unfold rbits
  rw [← val_norm l]
  split
  · rename_i h; rw [h]; decide
  · rename_i h
    obtain ⟨m, hm⟩ : ∃ m, norm l = m := ⟨_, rfl⟩
    rw [hm] at h ⊢
    have hp : 0 < m.length := List.length_pos_iff.2 h
    have h1 := val_split m (m.length - 1)
    have h2 := val_drop_step (l := m) (i := m.length - 1) (by omega)
    rw [show m.length - 1 + 1 = m.length by omega, List.drop_length] at h2
    have h3 := val_lt (m.take (m.length - 1))
    rw [List.length_take, Nat.min_eq_left (by omega)] at h3
    have h4 := bl_lt (m.getD (m.length - 1) default).toNat
    have e : 2 ^ (32 * (m.length - 1)) = 4294967296 ^ (m.length - 1) := by rw [Nat.pow_mul]
    have h6 : val (m.drop (m.length - 1)) = (m.getD (m.length - 1) default).toNat := by rw [h2]; rfl
    have h5 : 4294967296 ^ (m.length - 1) * ((m.getD (m.length - 1) default).toNat + 1) ≤ 4294967296 ^ (m.length - 1) * 2 ^ bl (m.getD (m.length - 1) default).toNat := Nat.mul_le_mul_left _ h4
    rw [Nat.mul_add, Nat.mul_one] at h5
    rw [h6] at h1
    rw [Nat.pow_add, e, h1]
    omega
theorem rbits_le {l : List UInt32} : rbits l ≤ 32 * l.length := by
  have hn := norm_le l
  unfold rbits
  split
  · omega
  · rename_i h
    have hp : 0 < (norm l).length := List.length_pos_iff.2 h
    have := bl_le (UInt32.toNat_lt ((norm l).getD ((norm l).length - 1) default))
    omega
theorem rBit_ok (l : List UInt32) (i : Nat) (hi : i ≤ 1099511627776) : Ok Tryz.prog 122 [tn l, .con (.int .i64 i)] true (.con (.int .u32 (val l / 2 ^ i % 2 : Nat))) := by
  refine ok_of_ev (fun _ _ _ h => h) mix Tryz.func122 rfl rfl (by kernel_rfl) (Nat.le_of_ble_eq_true rfl) ?_
  repeat' (first|(first | (refine quo32 (by omega) ?_) | (refine rem32 ?_) | (refine shrN (by omega) ?_))|(with_reducible first|refine zA ?_|refine zB ?_|refine zC ?_|refine zD ?_|refine zE ?_|refine zF ?_|refine zG ?_|refine zH ?_|refine zI ?_|refine zJ ?_|refine zK ?_|refine zL ?_)|(with_reducible refine reg_i ?_;intro K hK)|(with_reducible refine drw_i ?_;intro K hK)|((with_reducible refine cond_t ?hc ?_);(case hc=>rfl))|((with_reducible refine cond_f ?hc ?_);(case hc=>rfl))|((with_reducible refine cond_m ?_);refine And.intro ?_ ?_;all_goals(intro hb;(try simp only [sn,sb] at hb);try exact ex0))|(refine hK _ ?_;clear hK K)|(refine hK _ _ rfl ?_;clear hK K)|(have hg:=hK;clear hg;first|(refine And.intro ?zz ?_;case zz=>first|exact rfl|exact zO rfl|omega|exact gI)|(refine fresh_n ?_)|(refine freshO_n ?_)|(refine at_Q ?_;intro hu)|(refine zP wA ?_)|(refine mul_Q ?_;intro hm1 hm2)|(refine zP at_M ?_)|(refine zP rfl ?_)|(refine zQ (rlimb_ok l ((i / 32 : Nat) : Int) (Int.natCast_nonneg _)) ?_)|(refine And.intro ?_ ?_;all_goals(intro hb;(try simp only [sn,sb] at hb);try exact ex0))|(intro b0 hb)))
  refine And.intro trivial (fz_con (congrArg (Value.int .u32) ?_))
  have h1 := UInt32.toNat_lt (l.getD (i / 32) 0)
  have h2 : (l.getD (i / 32) 0).toNat / 2 ^ (i % 32) < 4294967296 := Nat.lt_of_le_of_lt (Nat.div_le_self _ _) h1
  rw [val_bit]
  show (IntKind.u32.wrap (((l.getD (i / 32) 0).toNat / 2 ^ (i % 32) : Nat) : Int)).tmod ((2 : Nat) : Int) = _
  rw [wrap32 (Int.natCast_nonneg _), Int.toNat_natCast, UInt32.toNat_ofNat', Nat.mod_eq_of_lt h2, tmodn]
