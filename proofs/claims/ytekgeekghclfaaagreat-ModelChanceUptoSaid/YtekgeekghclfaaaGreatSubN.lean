import Derived.Test.YtekgeekghclfaaaGreatGcdN
set_option linter.all false
namespace Go.Ev
open Go.Proofs
set_option maxRecDepth 10000
set_option maxHeartbeats 4000000
set_option linter.unusedSimpArgs false
set_option linter.unusedVariables false
theorem subN_step {x y : List UInt32} {i c t : Nat} {z : List UInt32} (hz : z.length = i) (h : val z + val (y.take i) = val (x.take i) + 4294967296 ^ i * c) (hi : i < x.length) (ht : t = c + (y.getD i default).toNat) (htl : t ≤ 4294967296) :
    val (z ++ [UInt32.ofNat (subd (x.getD i default).toNat t)]) + val (y.take (i + 1)) = val (x.take (i + 1)) + 4294967296 ^ (i + 1) * (if (x.getD i default).toNat < t then 1 else 0) := by
  have h1 := val_take_succ x i hi
  have h2 : val (y.take (i + 1)) = val (y.take i) + (y.getD i default).toNat * 4294967296 ^ i := val_take_next y i
  have h3 := subd_eq (UInt32.toNat_lt (x.getD i default)) htl
  rw [dg_val (subd_lt _ _), hz, h1, h2, Nat.pow_succ]
  generalize (if (x.getD i default).toNat < t then 1 else 0) = q at *
  generalize subd (x.getD i default).toNat t = r at *
  generalize 4294967296 ^ i = w at *
  generalize (x.getD i default).toNat = a at *
  generalize (y.getD i default).toNat = b at *
  have e1 : w * (r + (c + b)) = w * (a + 4294967296 * q) := by rw [← ht, h3]
  rw [Nat.mul_add, Nat.mul_add, Nat.mul_add, ← Nat.mul_assoc] at e1
  have e2 : b * w = w * b := Nat.mul_comm _ _
  have e3 : a * w = w * a := Nat.mul_comm _ _
  omega
theorem subd_w1 {u c : Nat} (hu : u < 4294967296) (hc : c ≤ 1) : IntKind.u32.wrap ((u : Int) - ((c : Nat) : Int)) = ((subd u c : Nat) : Int) := by
  rw [← subd_wrap hu (by omega), ← wrapU32 (a := ((c : Nat) : Int)) (by omega) (by omega)]
theorem less_set {a z : List UInt32} {d : Nat} (h : z.length < a.length) (hd : d < 4294967296) : ((wq a 0 z).map cu).set (0 + z.length) (V.con (.int .u32 ((d : Nat) : Int))) = (wq a 0 (z ++ [UInt32.ofNat d])).map cu := by
  rw [set_cu hd, wq_set (by omega)]
theorem less_ok (a b : List UInt32) (ha : a.length ≤ 1099511627776) (hb9 : b.length ≤ a.length) (h0 : a ≠ []) (hle : val b ≤ val a) :
    OkM Tryz.prog 125 [⟨0, 1, a.map cu, (padL a.length (val a - val b)).map cu⟩] [.own 0 0 0 a.length, .ro false (tn b)] true (.tup []) := by
  have hpos : 0 < a.length := List.length_pos_iff.2 h0
  refine okm_of_ev (fun _ _ _ h => h) mix Tryz.func125 rfl rfl (by kernel_rfl) (by kernel_rfl) (Nat.le_of_ble_eq_true rfl) ?wf ?nd ?_
  case wf => exact wf_cu (padL_len _ _)
  case nd => exact nd_one _
  repeat' (first|(with_reducible first|refine zA ?_|refine zB ?_|refine zC ?_|refine zD ?_|refine zE ?_|refine zF ?_|refine zG ?_|refine zH ?_|refine zI ?_|refine zJ ?_|refine zK ?_|refine zL ?_)|(with_reducible refine reg_i ?_;intro K hK)|(with_reducible refine drw_i ?_;intro K hK)|((with_reducible refine cond_t ?hc ?_);(case hc=>rfl))|((with_reducible refine cond_f ?hc ?_);(case hc=>rfl))|((with_reducible refine cond_m ?_);refine And.intro ?_ ?_;all_goals(intro hb;(try simp only [sn,sb] at hb);try exact ex0))|(refine hK _ ?_;clear hK K)|(refine hK _ _ rfl ?_;clear hK K)|(have hg:=hK;clear hg;first|(refine And.intro ?zz ?_;case zz=>first|exact rfl|exact zO rfl|omega|exact gI)|(refine fresh_n ?_)|(refine freshO_n ?_)|(refine at_Q ?_;intro hu)|(refine zP wA ?_)|(refine mul_Q ?_;intro hm1 hm2)|(refine zP at_M ?_)|(refine zP rfl ?_)|(refine And.intro ?_ ?_;all_goals(intro hb;(try simp only [sn,sb] at hb);try exact ex0))|(intro b0 hb)))
  refine loop_i (List UInt32 × Nat) (fun (z, c) => ⟨Tryz.f125.ntmps, [(0, .own 0 0 0 a.length), (1, .ro false (tn b)), (4, .con (.int .u64 c)), (8, .con (.int .i64 a.length)), (9, .con (.int .i64 z.length))], [(0, ⟨1, (wq a 0 z).map cu, 0, true⟩)]⟩)
    (fun (z, c) => z.length ≤ a.length ∧ c ≤ 1 ∧ val z + val (b.take z.length) = val (a.take z.length) + 4294967296 ^ z.length * c) (fun (z, c) => a.length - z.length) [] ([], 0) trivial ⟨Nat.zero_le _, Nat.zero_le _, by simp [val]⟩ ⟨rfl, ⟨rfl, rfl, rfl, trivial, rfl, trivial, rfl, trivial, rfl, trivial, trivial⟩, ⟨?_, trivial⟩, clObjs_cu _ _⟩ ?_
  · rw [wq_nil]; rfl
  rintro ⟨z, c⟩ ⟨g1, g2, g3⟩
  have hwl : (wq a 0 z).length = a.length := wq_len (by omega)
  have kp := Keep.mk (And.intro g3 hle)
  clear g3 hle
  repeat' (first|(with_reducible first|refine zA ?_|refine zB ?_|refine zC ?_|refine zD ?_|refine zE ?_|refine zF ?_|refine zG ?_|refine zH ?_|refine zI ?_|refine zJ ?_|refine zK ?_|refine zL ?_)|(with_reducible refine reg_i ?_;intro K hK)|(with_reducible refine drw_i ?_;intro K hK)|((with_reducible refine cond_t ?hc ?_);(case hc=>rfl))|((with_reducible refine cond_f ?hc ?_);(case hc=>rfl))|((with_reducible refine cond_m ?_);refine And.intro ?_ ?_;all_goals(intro hb;(try simp only [sn,sb] at hb);try exact ex0))|(refine hK _ ?_;clear hK K)|(refine hK _ _ rfl ?_;clear hK K)|(have hg:=hK;clear hg;first|(refine And.intro ?zz ?_;case zz=>first|exact rfl|exact zO rfl|omega|exact gI)|(refine fresh_n ?_)|(refine freshO_n ?_)|(refine at_Q ?_;intro hu)|(refine zP wA ?_)|(refine mul_Q ?_;intro hm1 hm2)|(refine zP at_M ?_)|(refine zP rfl ?_)|(refine And.intro ?_ ?_;all_goals(intro hb;(try simp only [sn,sb] at hb);try exact ex0))|(intro b0 hb)))
  · obtain ⟨g3, hle⟩ := kp.out
    have hxb := UInt32.toNat_lt (a.getD z.length default)
    have hyb := UInt32.toNat_lt (b.getD z.length default)
    have hwg : (wq a 0 z).getD (0 + z.length) default = a.getD z.length default := by rw [Nat.zero_add]; exact wq0_get (Nat.le_refl _)
    rw [hwg] at hb
    have hst := subN_step (z := z) rfl g3 (show z.length < a.length by omega) (t := (c + (b.getD z.length default).toNat)) rfl (by clear g3 hle; omega)
    refine ⟨(z ++ [UInt32.ofNat (subd (a.getD z.length default).toNat (c + (b.getD z.length default).toNat))], 1), ⟨by rw [List.length_append]; show z.length + 1 ≤ _; omega, by decide, ?ga1⟩, by show a.length - (z ++ [_]).length < a.length - z.length; rw [List.length_append]; show _ - (_ + 1) < _; omega, rfl, ⟨rfl, rfl, rfl, trivial, rfl, trivial, rfl, trivial, ?gc1, trivial, trivial⟩, ⟨?gd1, trivial⟩, clObjs_cu _ _⟩
    case ga1 =>
      rw [List.length_append]
      rw [if_pos (by clear g3 hle; omega)] at hst
      exact hst
    case gc1 =>
      show V.con (.int .i64 ((z.length : Int) + 1)) = V.con (.int .i64 ((z ++ [_]).length : Nat))
      rw [List.length_append]; rfl
    case gd1 =>
      refine congrArg (fun l => some (Obj.mk 1 l 0 true)) (?_ : ((wq a 0 z).map cu).set (0 + z.length) (V.con (.int .u32 (IntKind.u32.wrap ((((wq a 0 z).getD (0 + z.length) default).toNat : Int) - IntKind.u32.wrap (((c + (b.getD z.length default).toNat) : Nat) : Int))))) = _)
      rw [hwg, subd_wrap hxb (by clear g3 hle; omega)]
      exact less_set (by omega) (subd_lt _ _)
  · obtain ⟨g3, hle⟩ := kp.out
    have hxb := UInt32.toNat_lt (a.getD z.length default)
    have hyb := UInt32.toNat_lt (b.getD z.length default)
    have hwg : (wq a 0 z).getD (0 + z.length) default = a.getD z.length default := by rw [Nat.zero_add]; exact wq0_get (Nat.le_refl _)
    rw [hwg] at hb
    have hst := subN_step (z := z) rfl g3 (show z.length < a.length by omega) (t := (c + (b.getD z.length default).toNat)) rfl (by clear g3 hle; omega)
    refine ⟨(z ++ [UInt32.ofNat (subd (a.getD z.length default).toNat (c + (b.getD z.length default).toNat))], 0), ⟨by rw [List.length_append]; show z.length + 1 ≤ _; omega, by decide, ?ga2⟩, by show a.length - (z ++ [_]).length < a.length - z.length; rw [List.length_append]; show _ - (_ + 1) < _; omega, rfl, ⟨rfl, rfl, rfl, trivial, rfl, trivial, rfl, trivial, ?gc2, trivial, trivial⟩, ⟨?gd2, trivial⟩, clObjs_cu _ _⟩
    case ga2 =>
      rw [List.length_append]
      rw [if_neg (by clear g3 hle; omega)] at hst
      exact hst
    case gc2 =>
      show V.con (.int .i64 ((z.length : Int) + 1)) = V.con (.int .i64 ((z ++ [_]).length : Nat))
      rw [List.length_append]; rfl
    case gd2 =>
      refine congrArg (fun l => some (Obj.mk 1 l 0 true)) (?_ : ((wq a 0 z).map cu).set (0 + z.length) (V.con (.int .u32 (IntKind.u32.wrap ((((wq a 0 z).getD (0 + z.length) default).toNat : Int) - IntKind.u32.wrap (((c + (b.getD z.length default).toNat) : Nat) : Int))))) = _)
      rw [hwg, subd_wrap hxb (by clear g3 hle; omega)]
      exact less_set (by omega) (subd_lt _ _)
  · obtain ⟨g3, hle⟩ := kp.out
    have hxb := UInt32.toNat_lt (a.getD z.length default)
    have hyb := UInt32.toNat_lt (b.getD z.length default)
    have hwg : (wq a 0 z).getD (0 + z.length) default = a.getD z.length default := by rw [Nat.zero_add]; exact wq0_get (Nat.le_refl _)
    rw [hwg] at hb
    have hy0 : (b.getD z.length default).toNat = 0 := by
      rw [List.getD, List.getElem?_eq_none (by omega)]; rfl
    have hst := subN_step (z := z) rfl g3 (show z.length < a.length by omega) (t := c) (by rw [hy0]; rfl) (by clear g3 hle; omega)
    refine ⟨(z ++ [UInt32.ofNat (subd (a.getD z.length default).toNat c)], 1), ⟨by rw [List.length_append]; show z.length + 1 ≤ _; omega, by decide, ?ga3⟩, by show a.length - (z ++ [_]).length < a.length - z.length; rw [List.length_append]; show _ - (_ + 1) < _; omega, rfl, ⟨rfl, rfl, rfl, trivial, rfl, trivial, rfl, trivial, ?gc3, trivial, trivial⟩, ⟨?gd3, trivial⟩, clObjs_cu _ _⟩
    case ga3 =>
      rw [List.length_append]
      rw [if_pos (by clear g3 hle; omega)] at hst
      exact hst
    case gc3 =>
      show V.con (.int .i64 ((z.length : Int) + 1)) = V.con (.int .i64 ((z ++ [_]).length : Nat))
      rw [List.length_append]; rfl
    case gd3 =>
      refine congrArg (fun l => some (Obj.mk 1 l 0 true)) (?_ : ((wq a 0 z).map cu).set (0 + z.length) (V.con (.int .u32 (IntKind.u32.wrap ((((wq a 0 z).getD (0 + z.length) default).toNat : Int) - ((c : Nat) : Int))))) = _)
      rw [hwg, subd_w1 hxb g2]
      exact less_set (by omega) (subd_lt _ _)
  · obtain ⟨g3, hle⟩ := kp.out
    have hxb := UInt32.toNat_lt (a.getD z.length default)
    have hyb := UInt32.toNat_lt (b.getD z.length default)
    have hwg : (wq a 0 z).getD (0 + z.length) default = a.getD z.length default := by rw [Nat.zero_add]; exact wq0_get (Nat.le_refl _)
    rw [hwg] at hb
    have hy0 : (b.getD z.length default).toNat = 0 := by
      rw [List.getD, List.getElem?_eq_none (by omega)]; rfl
    have hst := subN_step (z := z) rfl g3 (show z.length < a.length by omega) (t := c) (by rw [hy0]; rfl) (by clear g3 hle; omega)
    refine ⟨(z ++ [UInt32.ofNat (subd (a.getD z.length default).toNat c)], 0), ⟨by rw [List.length_append]; show z.length + 1 ≤ _; omega, by decide, ?ga4⟩, by show a.length - (z ++ [_]).length < a.length - z.length; rw [List.length_append]; show _ - (_ + 1) < _; omega, rfl, ⟨rfl, rfl, rfl, trivial, rfl, trivial, rfl, trivial, ?gc4, trivial, trivial⟩, ⟨?gd4, trivial⟩, clObjs_cu _ _⟩
    case ga4 =>
      rw [List.length_append]
      rw [if_neg (by clear g3 hle; omega)] at hst
      exact hst
    case gc4 =>
      show V.con (.int .i64 ((z.length : Int) + 1)) = V.con (.int .i64 ((z ++ [_]).length : Nat))
      rw [List.length_append]; rfl
    case gd4 =>
      refine congrArg (fun l => some (Obj.mk 1 l 0 true)) (?_ : ((wq a 0 z).map cu).set (0 + z.length) (V.con (.int .u32 (IntKind.u32.wrap ((((wq a 0 z).getD (0 + z.length) default).toNat : Int) - ((c : Nat) : Int))))) = _)
      rw [hwg, subd_w1 hxb g2]
      exact less_set (by omega) (subd_lt _ _)
  · obtain ⟨g3, hle⟩ := kp.out
    have hza : z.length = a.length := by omega
    have hc : c = 0 := by
      rcases Nat.eq_zero_or_pos c with h | h
      · exact h
      · exfalso
        have h1 : c = 1 := by omega
        have h2 := val_lt z
        rw [hza, List.take_length, List.take_of_length_le hb9, h1, Nat.mul_one] at g3
        rw [hza] at h2
        omega
    rw [hza, List.take_length, List.take_of_length_le hb9, hc, Nat.mul_zero] at g3
    have hp : wq a 0 z = padL a.length (val a - val b) := by
      have e1 : wq a 0 z = z := by
        unfold wq
        rw [List.take_zero, List.nil_append, List.drop_of_length_le (by omega), List.append_nil]
      have e2 : val z = val a - val b := by omega
      rw [e1, ← e2, ← hza, padL_val]
    refine ⟨trivial, ?_, ?_, ⟨Tryz.f125.ntmps, [], []⟩, ⟨rfl, trivial, trivial, trivial⟩, ?_, trivial, rfl⟩
    · intro y hy
      obtain rfl := List.mem_singleton.1 hy
      exact congrArg (fun l => some (Obj.mk 1 (l.map cu) 0 true)) hp
    · intro y hy
      obtain rfl := List.mem_singleton.1 hy
      exact ⟨0, .own 0 0 0 a.length, rfl, rfl, rfl, rfl, hpos⟩
    · intro y hy; rfl
theorem less_nil (l b : List UInt32) (hl : l.length = 0) (hb9 : b.length ≤ 1099511627776) : Ok Tryz.prog 125 [tn l, tn b] true (.tup []) := by
  refine ok_of_ev (fun _ _ _ h => h) mix Tryz.func125 rfl rfl (by kernel_rfl) (Nat.le_of_ble_eq_true rfl) ?_
  repeat' (first|(with_reducible first|refine zA ?_|refine zB ?_|refine zC ?_|refine zD ?_|refine zE ?_|refine zF ?_|refine zG ?_|refine zH ?_|refine zI ?_|refine zJ ?_|refine zK ?_|refine zL ?_)|(with_reducible refine reg_i ?_;intro K hK)|(with_reducible refine drw_i ?_;intro K hK)|((with_reducible refine cond_t ?hc ?_);(case hc=>rfl))|((with_reducible refine cond_f ?hc ?_);(case hc=>rfl))|((with_reducible refine cond_m ?_);refine And.intro ?_ ?_;all_goals(intro hb;(try simp only [sn,sb] at hb);try exact ex0))|(refine hK _ ?_;clear hK K)|(refine hK _ _ rfl ?_;clear hK K)|(have hg:=hK;clear hg;first|(refine And.intro ?zz ?_;case zz=>first|exact rfl|exact zO rfl|omega|exact gI)|(refine fresh_n ?_)|(refine freshO_n ?_)|(refine at_Q ?_;intro hu)|(refine zP wA ?_)|(refine mul_Q ?_;intro hm1 hm2)|(refine zP at_M ?_)|(refine zP rfl ?_)|(refine And.intro ?_ ?_;all_goals(intro hb;(try simp only [sn,sb] at hb);try exact ex0))|(intro b0 hb)))
  refine loop_i Unit (fun _ => ⟨Tryz.f125.ntmps, [(8, .con (.int .i64 (l.map tu32).length)), (9, .con (.int .i64 0))], []⟩) (fun _ => True) (fun _ => 0) [] () trivial trivial ⟨rfl, ⟨rfl, trivial, rfl, trivial, trivial⟩, trivial, trivial⟩ ?_
  rintro _ -
  repeat' (first|(with_reducible first|refine zA ?_|refine zB ?_|refine zC ?_|refine zD ?_|refine zE ?_|refine zF ?_|refine zG ?_|refine zH ?_|refine zI ?_|refine zJ ?_|refine zK ?_|refine zL ?_)|(with_reducible refine reg_i ?_;intro K hK)|(with_reducible refine drw_i ?_;intro K hK)|((with_reducible refine cond_t ?hc ?_);(case hc=>rfl))|((with_reducible refine cond_f ?hc ?_);(case hc=>rfl))|((with_reducible refine cond_m ?_);refine And.intro ?_ ?_;all_goals(intro hb;(try simp only [sn,sb] at hb);try exact ex0))|(refine hK _ ?_;clear hK K)|(refine hK _ _ rfl ?_;clear hK K)|(have hg:=hK;clear hg;first|(refine And.intro ?zz ?_;case zz=>first|exact rfl|exact zO rfl|omega|exact gI)|(refine fresh_n ?_)|(refine freshO_n ?_)|(refine at_Q ?_;intro hu)|(refine zP wA ?_)|(refine mul_Q ?_;intro hm1 hm2)|(refine zP at_M ?_)|(refine zP rfl ?_)|(refine And.intro ?_ ?_;all_goals(intro hb;(try simp only [sn,sb] at hb);try exact ex0))|(intro b0 hb)))
  exact ⟨trivial, rfl⟩
theorem SubN_ok (a b : List UInt32) (ha : a.length ≤ 1099511627776) (hb9 : b.length ≤ 1099511627776) : Ok Tryz.prog 116 [tn a, tn b] true (.tup [tn (lm (val a - val b)), .con (.bool (decide (val b ≤ val a)))]) := by
  have hna := norm_le a
  have hnb := norm_le b
  have hva := val_norm a
  have hvb := val_norm b
  have hcx := can_norm a
  have hcy := can_norm b
  refine ok_of_ev (fun _ _ _ h => h) mix Tryz.func116 rfl rfl (by kernel_rfl) (Nat.le_of_ble_eq_true rfl) ?_
  repeat' (first|(with_reducible first|refine zA ?_|refine zB ?_|refine zC ?_|refine zD ?_|refine zE ?_|refine zF ?_|refine zG ?_|refine zH ?_|refine zI ?_|refine zJ ?_|refine zK ?_|refine zL ?_)|(with_reducible refine reg_i ?_;intro K hK)|(with_reducible refine drw_i ?_;intro K hK)|((with_reducible refine cond_t ?hc ?_);(case hc=>rfl))|((with_reducible refine cond_f ?hc ?_);(case hc=>rfl))|((with_reducible refine cond_m ?_);refine And.intro ?_ ?_;all_goals(intro hb;(try simp only [sn,sb] at hb);try exact ex0))|(refine hK _ ?_;clear hK K)|(refine hK _ _ rfl ?_;clear hK K)|(have hg:=hK;clear hg;first|(refine And.intro ?zz ?_;case zz=>first|exact rfl|exact zO rfl|omega|exact gI)|(refine fresh_n ?_)|(refine freshO_n ?_)|(refine at_Q ?_;intro hu)|(refine zP wA ?_)|(refine mul_Q ?_;intro hm1 hm2)|(refine zP at_M ?_)|(refine zP rfl ?_)|(refine zQ (Cmp_ok a b (by omega) (by omega)) ?_)|(refine zQ (trim_ok a (by omega)) ?_)|(refine And.intro ?_ ?_;all_goals(intro hb;(try simp only [sn,sb] at hb);try exact ex0))|(intro b0 hb)))
  · have hlt := cmpN_neg hb
    refine ⟨trivial, _, _, rfl, fz_emp ?_, fz_con ?_⟩
    · rw [Nat.sub_eq_zero_of_le (Nat.le_of_lt hlt), (lm_nil_iff 0).2 rfl]; rfl
    · rw [decide_eq_false (by omega)]
  · have hle := cmpN_ge0 hb
    have hnab : (norm b).length ≤ (norm a).length := by
      rcases Nat.lt_or_ge (norm a).length (norm b).length with h | h
      · have h1 := can_len_lt hcy h
        omega
      · exact h
    by_cases h0 : norm a = []
    · have e0 : (norm a).length = 0 := by rw [h0]; rfl
      repeat' (first|(with_reducible first|refine zA ?_|refine zB ?_|refine zC ?_|refine zD ?_|refine zE ?_|refine zF ?_|refine zG ?_|refine zH ?_|refine zI ?_|refine zJ ?_|refine zK ?_|refine zL ?_)|(with_reducible refine reg_i ?_;intro K hK)|(with_reducible refine drw_i ?_;intro K hK)|((with_reducible refine cond_t ?hc ?_);(case hc=>rfl))|((with_reducible refine cond_f ?hc ?_);(case hc=>rfl))|((with_reducible refine cond_m ?_);refine And.intro ?_ ?_;all_goals(intro hb;(try simp only [sn,sb] at hb);try exact ex0))|(refine hK _ ?_;clear hK K)|(refine hK _ _ rfl ?_;clear hK K)|(have hg:=hK;clear hg;first|(refine And.intro ?zz ?_;case zz=>first|exact rfl|exact zO rfl|omega|exact gI)|(refine fresh_n ?_)|(refine freshO_n ?_)|(refine at_Q ?_;intro hu)|(refine zP wA ?_)|(refine mul_Q ?_;intro hm1 hm2)|(refine zP at_M ?_)|(refine zP rfl ?_)|(refine zQ (clone_ok (norm a) (by omega)) ?_)|(refine zQ (trim_ok b (by omega)) ?_)|(refine zQ (less_nil (norm a) (norm b) e0 (by omega)) ?_)|(refine zQ (own_ok (norm a) (by omega)) ?_)|(refine And.intro ?_ ?_;all_goals(intro hb;(try simp only [sn,sb] at hb);try exact ex0))|(intro b0 hb)))
      have ev0 : val a = 0 := by rw [← hva, h0]; rfl
      refine ⟨trivial, _, _, rfl, fz_ro ?_ fun h => h, fz_con ?_⟩
      · rw [h0, ev0, Nat.zero_sub, (lm_nil_iff 0).2 rfl]; rfl
      · rw [decide_eq_true (by omega)]
    · have hls := less_ok (norm a) (norm b) (by omega) hnab h0 (by omega)
      repeat' (first|(with_reducible first|refine zA ?_|refine zB ?_|refine zC ?_|refine zD ?_|refine zE ?_|refine zF ?_|refine zG ?_|refine zH ?_|refine zI ?_|refine zJ ?_|refine zK ?_|refine zL ?_)|(with_reducible refine reg_i ?_;intro K hK)|(with_reducible refine drw_i ?_;intro K hK)|((with_reducible refine cond_t ?hc ?_);(case hc=>rfl))|((with_reducible refine cond_f ?hc ?_);(case hc=>rfl))|((with_reducible refine cond_m ?_);refine And.intro ?_ ?_;all_goals(intro hb;(try simp only [sn,sb] at hb);try exact ex0))|(refine hK _ ?_;clear hK K)|(refine hK _ _ rfl ?_;clear hK K)|(have hg:=hK;clear hg;first|(refine And.intro ?zz ?_;case zz=>first|exact rfl|exact zO rfl|omega|exact gI)|(refine fresh_n ?_)|(refine freshO_n ?_)|(refine at_Q ?_;intro hu)|(refine zP wA ?_)|(refine mul_Q ?_;intro hm1 hm2)|(refine zP at_M ?_)|(refine zP rfl ?_)|(refine Or.inr (objs_cu (clone_okO (norm a) (by omega) (List.length_pos_iff.2 h0)) ?_))|(refine zQ (trim_ok b (by omega)) ?_)|(refine Or.inr (Or.inl (mut_1 (0) (0) (hls) ?hmo ?hmv ?hma rfl ?_));(case hmo=>rfl);(case hmv=>exact ⟨⟨_, List.mem_singleton.2 rfl, rfl⟩, trivial, trivial⟩);(case hma=>exact ⟨.own 0 0 _, .ro _ _, trivial⟩))|(refine And.intro ?_ ?_;all_goals(intro hb;(try simp only [sn,sb] at hb);try exact ex0))|(intro b0 hb)))
      refine Or.inl (Exists.intro _ (Exists.intro _ (Exists.intro _ (And.intro (own_ok (padL (norm a).length (val (norm a) - val (norm b))) (by rw [padL_len]; omega)) (Exists.intro [(0, ?o)] (And.intro (lpre1 ?ho) (And.intro ?z (And.intro rfl ?_))))))))
      case ho => exact rfl
      case z => exact fzl1 (fzo_cu rfl (padL_len _ _))
      repeat' (first|(with_reducible first|refine zA ?_|refine zB ?_|refine zC ?_|refine zD ?_|refine zE ?_|refine zF ?_|refine zG ?_|refine zH ?_|refine zI ?_|refine zJ ?_|refine zK ?_|refine zL ?_)|(with_reducible refine reg_i ?_;intro K hK)|(with_reducible refine drw_i ?_;intro K hK)|((with_reducible refine cond_t ?hc ?_);(case hc=>rfl))|((with_reducible refine cond_f ?hc ?_);(case hc=>rfl))|((with_reducible refine cond_m ?_);refine And.intro ?_ ?_;all_goals(intro hb;(try simp only [sn,sb] at hb);try exact ex0))|(refine hK _ ?_;clear hK K)|(refine hK _ _ rfl ?_;clear hK K)|(have hg:=hK;clear hg;first|(refine And.intro ?zz ?_;case zz=>first|exact rfl|exact zO rfl|omega|exact gI)|(refine fresh_n ?_)|(refine freshO_n ?_)|(refine at_Q ?_;intro hu)|(refine zP wA ?_)|(refine mul_Q ?_;intro hm1 hm2)|(refine zP at_M ?_)|(refine zP rfl ?_)|(refine And.intro ?_ ?_;all_goals(intro hb;(try simp only [sn,sb] at hb);try exact ex0))|(intro b0 hb)))
      refine ⟨trivial, _, _, rfl, fz_ro ?_ fun h => h, fz_con ?_⟩
      · rw [norm_lm, val_padL _ _ (Nat.lt_of_le_of_lt (Nat.sub_le _ _) (val_lt (norm a))), hva, hvb]
      · rw [decide_eq_true (by omega)]
