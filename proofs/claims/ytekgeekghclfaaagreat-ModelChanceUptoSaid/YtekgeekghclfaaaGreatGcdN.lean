import Derived.Test.YtekgeekghclfaaaGreatDivP
import Derived.Test.YtekgeekghclfaaaGreatGcd
set_option linter.all false
namespace Go.Ev
open Go.Proofs
set_option maxRecDepth 10000
set_option maxHeartbeats 4000000
set_option linter.unusedSimpArgs false
set_option linter.unusedVariables false
theorem GcdN_ok (a b : List UInt32) (ha : a.length ≤ 2147483648) (hb9 : b.length ≤ 2147483648) : Ok Tryz.prog 83 [tn a, tn b] true (tn (lm (Nat.gcd (val a) (val b)))) := by
  have hna := norm_le a
  have hnb := norm_le b
  refine ok_of_ev (fun _ _ _ h => h) mix Tryz.func83 rfl rfl (by kernel_rfl) (Nat.le_of_ble_eq_true rfl) ?_
  repeat' (first|(with_reducible first|refine zA ?_|refine zB ?_|refine zC ?_|refine zD ?_|refine zE ?_|refine zF ?_|refine zG ?_|refine zH ?_|refine zI ?_|refine zJ ?_|refine zK ?_|refine zL ?_)|(with_reducible refine reg_i ?_;intro K hK)|(with_reducible refine drw_i ?_;intro K hK)|((with_reducible refine cond_t ?hc ?_);(case hc=>rfl))|((with_reducible refine cond_f ?hc ?_);(case hc=>rfl))|((with_reducible refine cond_m ?_);refine And.intro ?_ ?_;all_goals(intro hb;(try simp only [sn,sb] at hb);try exact ex0))|(refine hK _ ?_;clear hK K)|(refine hK _ _ rfl ?_;clear hK K)|(have hg:=hK;clear hg;first|(refine And.intro ?zz ?_;case zz=>first|exact rfl|exact zO rfl|omega|exact gI)|(refine fresh_n ?_)|(refine freshO_n ?_)|(refine at_Q ?_;intro hu)|(refine zP wA ?_)|(refine mul_Q ?_;intro hm1 hm2)|(refine zP at_M ?_)|(refine zP rfl ?_)|(refine zQ (own_ok a (by omega)) ?_)|(refine zQ (own_ok b (by omega)) ?_)|(refine And.intro ?_ ?_;all_goals(intro hb;(try simp only [sn,sb] at hb);try exact ex0))|(intro b0 hb)))
  rw [norm_lm] at hna hnb
  refine loop_i (Nat × Nat) (fun (A, B) => ⟨Tryz.f83.ntmps, [(0, .ro true (tn (lm A))), (1, .ro true (tn (lm B)))], []⟩) (fun (A, B) => Nat.gcd A B = Nat.gcd (val a) (val b) ∧ (lm A).length ≤ 2147483648 ∧ (lm B).length ≤ 2147483648) (fun (A, B) => B) [] (val a, val b) trivial ⟨rfl, by omega, by omega⟩ ⟨rfl, ⟨?_, trivial, ?_, trivial, trivial⟩, trivial, trivial⟩ ?_
  · show V.ro true (tn (norm a)) = _
    rw [norm_lm]
  · show V.ro true (tn (norm b)) = _
    rw [norm_lm]
  rintro ⟨A, B⟩ ⟨h1, h2, h3⟩
  by_cases hB : B = 0
  · subst hB
    have e0 : (lm 0).length = 0 := by rw [(lm_nil_iff 0).2 rfl]; rfl
    repeat' (first|(with_reducible first|refine zA ?_|refine zB ?_|refine zC ?_|refine zD ?_|refine zE ?_|refine zF ?_|refine zG ?_|refine zH ?_|refine zI ?_|refine zJ ?_|refine zK ?_|refine zL ?_)|(with_reducible refine reg_i ?_;intro K hK)|(with_reducible refine drw_i ?_;intro K hK)|((with_reducible refine cond_t ?hc ?_);(case hc=>rfl))|((with_reducible refine cond_f ?hc ?_);(case hc=>rfl))|((with_reducible refine cond_m ?_);refine And.intro ?_ ?_;all_goals(intro hb;(try simp only [sn,sb] at hb);try exact ex0))|(refine hK _ ?_;clear hK K)|(refine hK _ _ rfl ?_;clear hK K)|(have hg:=hK;clear hg;first|(refine And.intro ?zz ?_;case zz=>first|exact rfl|exact zO rfl|omega|exact gI)|(refine fresh_n ?_)|(refine freshO_n ?_)|(refine at_Q ?_;intro hu)|(refine zP wA ?_)|(refine mul_Q ?_;intro hm1 hm2)|(refine zP at_M ?_)|(refine zP rfl ?_)|(refine And.intro ?_ ?_;all_goals(intro hb;(try simp only [sn,sb] at hb);try exact ex0))|(intro b0 hb)))
    refine And.intro trivial (fz_ro ?_ fun h => h)
    rw [← h1, Nat.gcd_zero_right]
  · have hd := DivMod_ok (lm A) (lm B) h2 h3 (by rw [val_lm]; exact hB)
    rw [val_lm, val_lm] at hd
    have hp : (lm B).length ≠ 0 := fun e => hB ((lm_nil_iff B).1 (List.eq_nil_of_length_eq_zero e))
    repeat' (first|(with_reducible first|refine zA ?_|refine zB ?_|refine zC ?_|refine zD ?_|refine zE ?_|refine zF ?_|refine zG ?_|refine zH ?_|refine zI ?_|refine zJ ?_|refine zK ?_|refine zL ?_)|(with_reducible refine reg_i ?_;intro K hK)|(with_reducible refine drw_i ?_;intro K hK)|((with_reducible refine cond_t ?hc ?_);(case hc=>rfl))|((with_reducible refine cond_f ?hc ?_);(case hc=>rfl))|((with_reducible refine cond_m ?_);refine And.intro ?_ ?_;all_goals(intro hb;(try simp only [sn,sb] at hb);try exact ex0))|(refine hK _ ?_;clear hK K)|(refine hK _ _ rfl ?_;clear hK K)|(have hg:=hK;clear hg;first|(refine And.intro ?zz ?_;case zz=>first|exact rfl|exact zO rfl|omega|exact gI)|(refine fresh_n ?_)|(refine freshO_n ?_)|(refine at_Q ?_;intro hu)|(refine zP wA ?_)|(refine mul_Q ?_;intro hm1 hm2)|(refine zP at_M ?_)|(refine zP rfl ?_)|(refine zQ (hd) ?_)|(refine And.intro ?_ ?_;all_goals(intro hb;(try simp only [sn,sb] at hb);try exact ex0))|(intro b0 hb)))
    have hlt := Nat.mod_lt A (Nat.pos_of_ne_zero hB)
    have := lm_len_lt hlt
    exact ⟨(B, A % B), ⟨by rw [← h1, Nat.gcd_comm B, ← Nat.gcd_rec, Nat.gcd_comm], h3, by omega⟩, hlt, rfl, ⟨rfl, trivial, rfl, trivial, trivial⟩, trivial, trivial⟩
theorem addN_step {x y : List UInt32} {i c t : Nat} {z : List UInt32} (hz : z.length = i) (h : val z + 4294967296 ^ i * c = val (x.take i) + val (y.take i)) (hi : i < x.length) (ht : t = c + (x.getD i default).toNat + (y.getD i default).toNat) :
    val (z ++ [UInt32.ofNat (t % 4294967296)]) + 4294967296 ^ (i + 1) * (t / 4294967296) = val (x.take (i + 1)) + val (y.take (i + 1)) := by
  have h1 := val_take_succ x i hi
  have h2 : val (y.take (i + 1)) = val (y.take i) + (y.getD i default).toNat * 4294967296 ^ i := val_take_next y i
  have h3 := Nat.div_add_mod t 4294967296
  rw [dg_val (Nat.mod_lt _ (by decide)), hz, h1, h2, Nat.pow_succ]
  generalize t / 4294967296 = q at *
  generalize t % 4294967296 = r at *
  generalize 4294967296 ^ i = w at *
  generalize (x.getD i default).toNat = a at *
  generalize (y.getD i default).toNat = b at *
  have e1 : w * (4294967296 * q + r) = w * c + a * w + b * w := by rw [h3, ht, Nat.mul_add, Nat.mul_add, Nat.mul_comm w a, Nat.mul_comm w b]
  rw [Nat.mul_add, ← Nat.mul_assoc] at e1
  omega
theorem set_mid {z : List UInt32} {d : UInt32} {n : Nat} (h : z.length ≤ n) : (z ++ List.replicate (n + 1 - z.length) 0).set z.length d = (z ++ [d]) ++ List.replicate (n + 1 - (z ++ [d]).length) 0 := by
  rw [List.length_append, List.set_append_right _ _ (Nat.le_refl _), Nat.sub_self, show n + 1 - z.length = (n - z.length) + 1 by omega, List.replicate_succ, List.set_cons_zero, List.append_assoc]
  show _ = z ++ d :: List.replicate (n + 1 - (z.length + 1)) 0
  congr 3; omega
theorem set_midw {z : List UInt32} {n t : Nat} (h : z.length ≤ n) : ((z ++ List.replicate (n + 1 - z.length) 0).map cu).set (0 + z.length) (V.con (.int .u32 (IntKind.u32.wrap ((t : Nat) : Int)))) = ((z ++ [UInt32.ofNat (t % 4294967296)]) ++ List.replicate (n + 1 - (z ++ [UInt32.ofNat (t % 4294967296)]).length) 0).map cu := by
  rw [Nat.zero_add, set_wrap, set_mid h, ← ofN_mod]
theorem AddN_ok (a b : List UInt32) (ha : a.length ≤ 1099511627776) (hb9 : b.length ≤ 1099511627776) : Ok Tryz.prog 115 [tn a, tn b] true (tn (lm (val a + val b))) := by
  have hna := norm_le a
  have hnb := norm_le b
  have hva := val_norm a
  have hvb := val_norm b
  rw [← hva, ← hvb]
  refine ok_of_ev (fun _ _ _ h => h) mix Tryz.func115 rfl rfl (by kernel_rfl) (Nat.le_of_ble_eq_true rfl) ?_
  repeat' (first|(refine seq_j (a := Code.seq _ (Code.cond _ _ _)) (List UInt32 × List UInt32) (fun (x, y) => ⟨Tryz.f115.ntmps, [(0, .ro false (tn x)), (1, .ro false (tn y))], []⟩) (fun (x, y) => y.length ≤ x.length ∧ x.length ≤ 1099511627776 ∧ val x + val y = val (norm a) + val (norm b)) ?_ ?_)|(with_reducible first|refine zA ?_|refine zB ?_|refine zC ?_|refine zD ?_|refine zE ?_|refine zF ?_|refine zG ?_|refine zH ?_|refine zI ?_|refine zJ ?_|refine zK ?_|refine zL ?_)|(with_reducible refine reg_i ?_;intro K hK)|(with_reducible refine drw_i ?_;intro K hK)|((with_reducible refine cond_t ?hc ?_);(case hc=>rfl))|((with_reducible refine cond_f ?hc ?_);(case hc=>rfl))|((with_reducible refine cond_m ?_);refine And.intro ?_ ?_;all_goals(intro hb;(try simp only [sn,sb] at hb);try exact ex0))|(refine hK _ ?_;clear hK K)|(refine hK _ _ rfl ?_;clear hK K)|(have hg:=hK;clear hg;first|(refine And.intro ?zz ?_;case zz=>first|exact rfl|exact zO rfl|omega|exact gI)|(refine fresh_n ?_)|(refine freshO_n ?_)|(refine at_Q ?_;intro hu)|(refine zP wA ?_)|(refine mul_Q ?_;intro hm1 hm2)|(refine zP at_M ?_)|(refine zP rfl ?_)|(refine zQ (trim_ok a (by omega)) ?_)|(refine zQ (trim_ok b (by omega)) ?_)|(refine And.intro ?_ ?_;all_goals(intro hb;(try simp only [sn,sb] at hb);try exact ex0))|(intro b0 hb)))
  · rintro ⟨x, y⟩ ⟨h1, h2, h3⟩
    rw [← h3]
    clear h3 hna hnb hva hvb
    repeat' (first|(with_reducible first|refine zA ?_|refine zB ?_|refine zC ?_|refine zD ?_|refine zE ?_|refine zF ?_|refine zG ?_|refine zH ?_|refine zI ?_|refine zJ ?_|refine zK ?_|refine zL ?_)|(with_reducible refine reg_i ?_;intro K hK)|(with_reducible refine drw_i ?_;intro K hK)|((with_reducible refine cond_t ?hc ?_);(case hc=>rfl))|((with_reducible refine cond_f ?hc ?_);(case hc=>rfl))|((with_reducible refine cond_m ?_);refine And.intro ?_ ?_;all_goals(intro hb;(try simp only [sn,sb] at hb);try exact ex0))|(refine hK _ ?_;clear hK K)|(refine hK _ _ rfl ?_;clear hK K)|(have hg:=hK;clear hg;first|(refine And.intro ?zz ?_;case zz=>first|exact rfl|exact zO rfl|omega|exact gI)|(refine fresh_n ?_)|(refine freshO_n ?_)|(refine at_Q ?_;intro hu)|(refine zP wA ?_)|(refine mul_Q ?_;intro hm1 hm2)|(refine zP at_M ?_)|(refine zP rfl ?_)|(refine And.intro ?_ ?_;all_goals(intro hb;(try simp only [sn,sb] at hb);try exact ex0))|(intro b0 hb)))
    refine loop_i (List UInt32 × Nat) (fun (z, c) => ⟨Tryz.f115.ntmps, [(0, .ro false (tn x)), (1, .ro false (tn y)), (5, .own 0 0 0 (x.length + 1)), (6, .con (.int .u64 c)), (24, .ro false (tn x)), (25, .con (.int .i64 x.length)), (26, .con (.int .i64 z.length))], [(0, ⟨1, (z ++ List.replicate (x.length + 1 - z.length) 0).map cu, 0, true⟩)]⟩)
      (fun (z, c) => z.length ≤ x.length ∧ c ≤ 1 ∧ val z + 4294967296 ^ z.length * c = val (x.take z.length) + val (y.take z.length)) (fun (z, c) => x.length - z.length) [] ([], 0) trivial ⟨Nat.zero_le _, Nat.zero_le _, by simp [val]⟩ ⟨rfl, ⟨rfl, trivial, rfl, trivial, ?_, rfl, rfl, trivial, rfl, trivial, ?_, trivial, rfl, trivial, trivial⟩, ⟨?_, trivial⟩, clObjs_cu _ _⟩ ?_
    · show V.own 0 0 0 (((x.map tu32).length : Int) + 1).toNat = _
      rw [List.length_map]; rfl
    · show V.con (.int .i64 ((x.map tu32).length : Nat)) = _
      rw [List.length_map]
    · refine congrArg (fun l => some (Obj.mk 1 l 0 true)) (?_ : List.replicate (((x.map tu32).length : Int) + 1).toNat (V.con (.int .u32 0)) = _)
      rw [List.length_map, List.nil_append, List.map_replicate]; rfl
    rintro ⟨z, c⟩ ⟨g1, g2, g3⟩
    have hzl : (z ++ List.replicate (x.length + 1 - z.length) (0 : UInt32)).length = x.length + 1 := by simp; omega
    have kp := Keep.mk g3
    clear g3
    repeat' (first|(refine shrD (by omega) ?_)|(with_reducible first|refine zA ?_|refine zB ?_|refine zC ?_|refine zD ?_|refine zE ?_|refine zF ?_|refine zG ?_|refine zH ?_|refine zI ?_|refine zJ ?_|refine zK ?_|refine zL ?_)|(with_reducible refine reg_i ?_;intro K hK)|(with_reducible refine drw_i ?_;intro K hK)|((with_reducible refine cond_t ?hc ?_);(case hc=>rfl))|((with_reducible refine cond_f ?hc ?_);(case hc=>rfl))|((with_reducible refine cond_m ?_);refine And.intro ?_ ?_;all_goals(intro hb;(try simp only [sn,sb] at hb);try exact ex0))|(refine hK _ ?_;clear hK K)|(refine hK _ _ rfl ?_;clear hK K)|(have hg:=hK;clear hg;first|(refine And.intro ?zz ?_;case zz=>first|exact rfl|exact zO rfl|omega|exact gI)|(refine fresh_n ?_)|(refine freshO_n ?_)|(refine at_Q ?_;intro hu)|(refine zP wA ?_)|(refine mul_Q ?_;intro hm1 hm2)|(refine zP at_M ?_)|(refine zP rfl ?_)|(refine And.intro ?_ ?_;all_goals(intro hb;(try simp only [sn,sb] at hb);try exact ex0))|(intro b0 hb)))
    · have g3 := kp.out
      have hxb := UInt32.toNat_lt (x.getD z.length default)
      have hyb := UInt32.toNat_lt (y.getD z.length default)
      have hst := addN_step (z := z) rfl g3 (show z.length < x.length by omega) rfl
      refine ⟨(z ++ [UInt32.ofNat ((c + (x.getD z.length default).toNat + (y.getD z.length default).toNat) % 4294967296)], (c + (x.getD z.length default).toNat + (y.getD z.length default).toNat) / 4294967296), ⟨by rw [List.length_append]; show z.length + 1 ≤ _; omega, by clear g3 hst; omega, by rw [List.length_append]; exact hst⟩, by show x.length - (z ++ [_]).length < x.length - z.length; rw [List.length_append]; show _ - (_ + 1) < _; omega, rfl, ⟨rfl, trivial, rfl, trivial, rfl, rfl, rfl, trivial, rfl, trivial, rfl, trivial, ?gc, trivial, trivial⟩, ⟨?gd, trivial⟩, clObjs_cu _ _⟩
      case gc =>
        show V.con (.int .i64 ((z.length : Int) + 1)) = V.con (.int .i64 ((z ++ [_]).length : Nat))
        rw [List.length_append]; rfl
      case gd =>
        refine congrArg (fun l => some (Obj.mk 1 l 0 true)) (?_ : ((z ++ List.replicate (x.length + 1 - z.length) 0).map cu).set (0 + z.length) (V.con (.int .u32 (IntKind.u32.wrap (((c + (x.getD z.length default).toNat + (y.getD z.length default).toNat) : Nat) : Int)))) = _)
        exact set_midw (by omega)
    · have g3 := kp.out
      have hxb := UInt32.toNat_lt (x.getD z.length default)
      have hyb := UInt32.toNat_lt (y.getD z.length default)
      have hy0 : (y.getD z.length default).toNat = 0 := by
        rw [List.getD, List.getElem?_eq_none (by omega)]; rfl
      have hst := addN_step (z := z) rfl g3 (show z.length < x.length by omega) rfl
      rw [hy0, Nat.add_zero] at hst
      refine ⟨(z ++ [UInt32.ofNat ((c + (x.getD z.length default).toNat) % 4294967296)], (c + (x.getD z.length default).toNat) / 4294967296), ⟨by rw [List.length_append]; show z.length + 1 ≤ _; omega, by clear g3 hst; omega, by rw [List.length_append]; exact hst⟩, by show x.length - (z ++ [_]).length < x.length - z.length; rw [List.length_append]; show _ - (_ + 1) < _; omega, rfl, ⟨rfl, trivial, rfl, trivial, rfl, rfl, rfl, trivial, rfl, trivial, rfl, trivial, ?gc2, trivial, trivial⟩, ⟨?gd2, trivial⟩, clObjs_cu _ _⟩
      case gc2 =>
        show V.con (.int .i64 ((z.length : Int) + 1)) = V.con (.int .i64 ((z ++ [_]).length : Nat))
        rw [List.length_append]; rfl
      case gd2 =>
        refine congrArg (fun l => some (Obj.mk 1 l 0 true)) (?_ : ((z ++ List.replicate (x.length + 1 - z.length) 0).map cu).set (0 + z.length) (V.con (.int .u32 (IntKind.u32.wrap (((c + (x.getD z.length default).toNat) : Nat) : Int)))) = _)
        exact set_midw (by omega)
    · have g3 := kp.out
      have hzx : z.length = x.length := by omega
      clear kp
      have hv : val (z ++ [UInt32.ofNat (c % 4294967296)]) = val x + val y := by
        rw [dg_val (Nat.mod_lt _ (by decide)), Nat.mod_eq_of_lt (by omega), g3, hzx, List.take_length, List.take_of_length_le h1]
      refine Or.inl (Exists.intro _ (Exists.intro _ (Exists.intro _ (And.intro (own_ok (z ++ [UInt32.ofNat (c % 4294967296)]) (by rw [List.length_append]; show z.length + 1 ≤ _; omega)) (Exists.intro [(0, ?o)] (And.intro (lpre1 ?ho) (And.intro ?z (And.intro rfl ?_))))))))
      case ho => exact rfl
      case z =>
        refine fzl1 (fz_own (l := z ++ [UInt32.ofNat (c % 4294967296)]) (F := cu) (G := tu32) rfl rfl rfl (by rw [List.length_append, hzx]; rfl) ?_ (fun a _ => fze_con _) rfl)
        show List.take (x.length + 1) (List.drop 0 (((z ++ List.replicate (x.length + 1 - z.length) 0).map cu).set (0 + (((x.map tu32).length : Nat) : Int).toNat) (V.con (.int .u32 ((c : Nat) : Int))))) = _
        rw [show V.con (.int .u32 ((c : Nat) : Int)) = V.con (.int .u32 (IntKind.u32.wrap ((c : Nat) : Int))) from congrArg (fun n => V.con (.int .u32 n)) (wrapU32 (by omega) (by omega)), List.length_map, Int.toNat_natCast, ← hzx, set_midw (Nat.le_refl _), List.drop_zero, List.take_of_length_le (by simp)]
        rw [show z.length + 1 - (z ++ [UInt32.ofNat (c % 4294967296)]).length = 0 by simp, List.replicate_zero, List.append_nil]
      repeat' (first|(with_reducible first|refine zA ?_|refine zB ?_|refine zC ?_|refine zD ?_|refine zE ?_|refine zF ?_|refine zG ?_|refine zH ?_|refine zI ?_|refine zJ ?_|refine zK ?_|refine zL ?_)|(with_reducible refine reg_i ?_;intro K hK)|(with_reducible refine drw_i ?_;intro K hK)|((with_reducible refine cond_t ?hc ?_);(case hc=>rfl))|((with_reducible refine cond_f ?hc ?_);(case hc=>rfl))|((with_reducible refine cond_m ?_);refine And.intro ?_ ?_;all_goals(intro hb;(try simp only [sn,sb] at hb);try exact ex0))|(refine hK _ ?_;clear hK K)|(refine hK _ _ rfl ?_;clear hK K)|(have hg:=hK;clear hg;first|(refine And.intro ?zz ?_;case zz=>first|exact rfl|exact zO rfl|omega|exact gI)|(refine fresh_n ?_)|(refine freshO_n ?_)|(refine at_Q ?_;intro hu)|(refine zP wA ?_)|(refine mul_Q ?_;intro hm1 hm2)|(refine zP at_M ?_)|(refine zP rfl ?_)|(refine And.intro ?_ ?_;all_goals(intro hb;(try simp only [sn,sb] at hb);try exact ex0))|(intro b0 hb)))
      exact And.intro trivial (fz_ro (by rw [norm_lm, hv]) fun h => h)
  · intro R hR
    repeat' (first|(with_reducible first|refine zA ?_|refine zB ?_|refine zC ?_|refine zD ?_|refine zE ?_|refine zF ?_|refine zG ?_|refine zH ?_|refine zI ?_|refine zJ ?_|refine zK ?_|refine zL ?_)|(with_reducible refine reg_i ?_;intro K hK)|(with_reducible refine drw_i ?_;intro K hK)|((with_reducible refine cond_t ?hc ?_);(case hc=>rfl))|((with_reducible refine cond_f ?hc ?_);(case hc=>rfl))|((with_reducible refine cond_m ?_);refine And.intro ?_ ?_;all_goals(intro hb;(try simp only [sn,sb] at hb);try exact ex0))|(refine hK _ ?_;clear hK K)|(refine hK _ _ rfl ?_;clear hK K)|(have hg:=hK;clear hg;first|(refine And.intro ?zz ?_;case zz=>first|exact rfl|exact zO rfl|omega|exact gI)|(refine fresh_n ?_)|(refine freshO_n ?_)|(refine at_Q ?_;intro hu)|(refine zP wA ?_)|(refine mul_Q ?_;intro hm1 hm2)|(refine zP at_M ?_)|(refine zP rfl ?_)|(refine And.intro ?_ ?_;all_goals(intro hb;(try simp only [sn,sb] at hb);try exact ex0))|(intro b0 hb)))
    · exact hR _ (norm b, norm a) ⟨by omega, by omega, Nat.add_comm _ _⟩ ⟨rfl, ⟨rfl, trivial, rfl, trivial, trivial⟩, trivial, trivial⟩
    · exact hR _ (norm a, norm b) ⟨by omega, by omega, rfl⟩ ⟨rfl, ⟨rfl, trivial, rfl, trivial, trivial⟩, trivial, trivial⟩
