import Derived.Test.YtekgeekghclfaaaGreatRefa
set_option linter.all false
namespace Go.Ev
open Go.Proofs
set_option maxRecDepth 10000
set_option maxHeartbeats 4000000
set_option linter.unusedSimpArgs false
set_option linter.unusedVariables false
theorem rSub_lt (a b : List UInt32) (ha : a.length ≤ 1099511627776) (hb : b.length ≤ 1099511627776) (h : val a < val b) : Ok Tryz.prog 113 [tn a, tn b] true (.tup [tn [], .con (.bool false)]) := by
  refine ok_of_ev (fun _ _ _ h => h) mix Tryz.func113 rfl rfl (by kernel_rfl) (Nat.le_of_ble_eq_true rfl) ?_
  repeat' (first|(with_reducible first|refine zA ?_|refine zB ?_|refine zC ?_|refine zD ?_|refine zE ?_|refine zF ?_|refine zG ?_|refine zH ?_|refine zI ?_|refine zJ ?_|refine zK ?_|refine zL ?_)|(with_reducible refine reg_i ?_;intro K hK)|(with_reducible refine drw_i ?_;intro K hK)|((with_reducible refine cond_t ?hc ?_);(case hc=>rfl))|((with_reducible refine cond_f ?hc ?_);(case hc=>rfl))|((with_reducible refine cond_m ?_);refine And.intro ?_ ?_;all_goals(intro hb;(try simp only [sb] at hb);try exact ex0))|(refine hK _ ?_;clear hK K)|(refine hK _ _ rfl ?_;clear hK K)|(have hg:=hK;clear hg;first|(refine And.intro ?zz ?_;case zz=>first|exact rfl|exact zO rfl|omega|exact gI)|(refine fresh_n ?_)|(refine freshO_n ?_)|(refine at_Q ?_;intro hu)|(refine zP wA ?_)|(refine mul_Q ?_;intro hm1 hm2)|(refine zP at_M ?_)|(refine zP rfl ?_)|(refine zQ (rCmp_ok a b (by omega) (by omega)) ?_)|(refine And.intro ?_ ?_;all_goals(intro hb;(try simp only [sb] at hb);try exact ex0))|(intro b0 hb)))
  · exact And.intro trivial ⟨_, _, rfl, fz_emp rfl, fz_con rfl⟩
  · exfalso; rw [cmpN_lt h] at hb; exact absurd hb (by decide)
theorem cmpN_ge {a b : Nat} (h : b ≤ a) : 0 ≤ cmpN a b := by
  unfold cmpN
  rw [if_neg (by omega)]
  split <;> decide
theorem val_take_lt (l : List UInt32) (n : Nat) (h : val l < 4294967296 ^ n) : val (l.take n) = val l := by
  have hs := val_split l n
  have h0 : val (l.drop n) = 0 := by
    cases hz : val (l.drop n) with
    | zero => rfl
    | succ k =>
      rw [hz, Nat.mul_add, Nat.mul_one] at hs
      omega
  rw [h0, Nat.mul_zero, Nat.add_zero] at hs
  exact hs.symm
theorem sub_step {a b o : List UInt32} {w w' ai bi d : Nat} (h : val (a.take o.length) + w * 4294967296 ^ o.length = val o + val (b.take o.length)) (ha : (a.getD o.length 0).toNat = ai) (hb : (b.getD o.length 0).toNat = bi)
    (hd : d < 4294967296) (hs : ai + w' * 4294967296 = d + (bi + w)) :
    val (a.take (o ++ [UInt32.ofNat d]).length) + w' * 4294967296 ^ (o ++ [UInt32.ofNat d]).length = val (o ++ [UInt32.ofNat d]) + val (b.take (o ++ [UInt32.ofNat d]).length) := by
  rw [show (o ++ [UInt32.ofNat d]).length = o.length + 1 by simp, val_take_next, val_take_next, ha, hb, val_append]
  have e1 : val [UInt32.ofNat d] = d := by simp [val]; omega
  rw [e1, Nat.pow_succ, Nat.mul_comm (4294967296 ^ o.length) d]
  generalize 4294967296 ^ o.length = p at *
  have e2 : ai * p + w' * (p * 4294967296) = d * p + (bi * p + w * p) := by
    rw [Nat.mul_comm p 4294967296, ← Nat.mul_assoc, ← Nat.add_mul, hs, Nat.add_mul, Nat.add_mul]
  omega
theorem rSub_ge (a b : List UInt32) (ha : a.length ≤ 1099511627776) (hb : b.length ≤ 1099511627776) (h : val b ≤ val a) : Ok Tryz.prog 113 [tn a, tn b] true (.tup [tn (lm (val a - val b)), .con (.bool true)]) := by
  refine ok_of_ev (fun _ _ _ h => h) mix Tryz.func113 rfl rfl (by kernel_rfl) (Nat.le_of_ble_eq_true rfl) ?_
  repeat' (first|(with_reducible first|refine zA ?_|refine zB ?_|refine zC ?_|refine zD ?_|refine zE ?_|refine zF ?_|refine zG ?_|refine zH ?_|refine zI ?_|refine zJ ?_|refine zK ?_|refine zL ?_)|(with_reducible refine reg_i ?_;intro K hK)|(with_reducible refine drw_i ?_;intro K hK)|((with_reducible refine cond_t ?hc ?_);(case hc=>rfl))|((with_reducible refine cond_f ?hc ?_);(case hc=>rfl))|((with_reducible refine cond_m ?_);refine And.intro ?_ ?_;all_goals(intro hb;(try simp only [sb] at hb);try exact ex0))|(refine hK _ ?_;clear hK K)|(refine hK _ _ rfl ?_;clear hK K)|(have hg:=hK;clear hg;first|(refine And.intro ?zz ?_;case zz=>first|exact rfl|exact zO rfl|omega|exact gI)|(refine fresh_n ?_)|(refine freshO_n ?_)|(refine at_Q ?_;intro hu)|(refine zP wA ?_)|(refine mul_Q ?_;intro hm1 hm2)|(refine zP at_M ?_)|(refine zP rfl ?_)|(refine zQ (rCmp_ok a b (by omega) (by omega)) ?_)|(refine And.intro ?_ ?_;all_goals(intro hb;(try simp only [sb] at hb);try exact ex0))|(intro b0 hb)))
  · exfalso; have := cmpN_ge h; omega
  · refine loop_i (List UInt32 × Nat) (fun (o, w) => ⟨Tryz.f113.ntmps, [(0, .ro false (tn a)), (1, .ro false (tn b)), (6, .own 0 o.length 0 o.length), (7, .con (.int .u64 w)), (8, .con (.int .i64 (o.length : Nat)))], [(0, ⟨1, o.map cu, o.length, true⟩)]⟩)
      (fun (o, w) => w ≤ 1 ∧ o.length ≤ a.length ∧ val (a.take o.length) + w * 4294967296 ^ o.length = val o + val (b.take o.length)) (fun (o, w) => a.length - o.length) [(6, 0, 1)] ([], 0) ⟨rfl, rfl, trivial⟩ ⟨by omega, by simp, by simp [val]⟩ ⟨rfl, ⟨rfl, trivial, rfl, trivial, rfl, rfl, rfl, trivial, rfl, trivial, trivial⟩, ⟨rfl, trivial⟩, clObjs_cu' _ _ _⟩ ?_
    rintro ⟨o, w⟩ ⟨g0, g1, g2⟩
    have eo : ((o.length : Int)).toNat = o.length := rfl
    have ua := UInt32.toNat_lt (a.getD ((o.length : Int)).toNat 0)
    have ub := UInt32.toNat_lt (b.getD ((o.length : Int)).toNat 0)
    repeat' (first|(with_reducible first|refine zA ?_|refine zB ?_|refine zC ?_|refine zD ?_|refine zE ?_|refine zF ?_|refine zG ?_|refine zH ?_|refine zI ?_|refine zJ ?_|refine zK ?_|refine zL ?_)|(with_reducible refine reg_i ?_;intro K hK)|(with_reducible refine drw_i ?_;intro K hK)|((with_reducible refine cond_t ?hc ?_);(case hc=>rfl))|((with_reducible refine cond_f ?hc ?_);(case hc=>rfl))|((with_reducible refine cond_m ?_);refine And.intro ?_ ?_;all_goals(intro hb;(try simp only [sb] at hb);try exact ex0))|(refine hK _ ?_;clear hK K)|(refine hK _ _ rfl ?_;clear hK K)|(have hg:=hK;clear hg;first|(refine And.intro ?zz ?_;case zz=>first|exact rfl|exact zO rfl|omega|exact gI)|(refine fresh_n ?_)|(refine freshO_n ?_)|(refine at_Q ?_;intro hu)|(refine zP wA ?_)|(refine mul_Q ?_;intro hm1 hm2)|(refine zP at_M ?_)|(refine zP rfl ?_)|(refine zQ (rlimb_ok a (o.length : Int) (by omega)) ?_)|(refine zQ (rlimb_ok b (o.length : Int) (by omega)) ?_)|(refine And.intro ?_ ?_;all_goals(intro hb;(try simp only [sb] at hb);try exact ex0))|(intro b0 hb)))
    · refine And.intro (fun y hy => by have hy : y ∈ [V.con _] := hy; rw [List.mem_singleton.1 hy]; rfl) ?_
      repeat' (first|(with_reducible first|refine zA ?_|refine zB ?_|refine zC ?_|refine zD ?_|refine zE ?_|refine zF ?_|refine zG ?_|refine zH ?_|refine zI ?_|refine zJ ?_|refine zK ?_|refine zL ?_)|(with_reducible refine reg_i ?_;intro K hK)|(with_reducible refine drw_i ?_;intro K hK)|((with_reducible refine cond_t ?hc ?_);(case hc=>rfl))|((with_reducible refine cond_f ?hc ?_);(case hc=>rfl))|((with_reducible refine cond_m ?_);refine And.intro ?_ ?_;all_goals(intro hb;(try simp only [sb] at hb);try exact ex0))|(refine hK _ ?_;clear hK K)|(refine hK _ _ rfl ?_;clear hK K)|(have hg:=hK;clear hg;first|(refine And.intro ?zz ?_;case zz=>first|exact rfl|exact zO rfl|omega|exact gI)|(refine fresh_n ?_)|(refine freshO_n ?_)|(refine at_Q ?_;intro hu)|(refine zP wA ?_)|(refine mul_Q ?_;intro hm1 hm2)|(refine zP at_M ?_)|(refine zP rfl ?_)|(refine And.intro ?_ ?_;all_goals(intro hb;(try simp only [sb] at hb);try exact ex0))|(intro b0 hb)))
      rw [eo] at ua ub
      obtain ⟨ai, hai⟩ : ∃ n, (a.getD o.length 0).toNat = n := ⟨_, rfl⟩
      obtain ⟨bi, hbi⟩ : ∃ n, (b.getD o.length 0).toNat = n := ⟨_, rfl⟩
      rw [eo, hai, hbi] at hb
      rw [hai] at ua
      rw [hbi] at ub
      have el : (o ++ [UInt32.ofNat (ai + 4294967296 - (bi + w))]).length = o.length + 1 := by simp
      have hv := sub_step (w' := 1) (d := ai + 4294967296 - (bi + w)) g2 hai hbi (by omega) (by omega)
      refine ⟨(o ++ [UInt32.ofNat (ai + 4294967296 - (bi + w))], 1), ⟨by omega, by rw [el]; omega, hv⟩, ?gm, rfl, ⟨rfl, trivial, rfl, trivial, ?g5, rfl, rfl, trivial, ?g7, trivial, trivial⟩, ⟨?gd, trivial⟩, clObjs_cu' _ _ _⟩
      case gm =>
        show a.length - (o ++ [UInt32.ofNat (ai + 4294967296 - (bi + w))]).length < a.length - o.length
        rw [el]; omega
      case g5 =>
        show V.own 0 (o.length + 1) 0 (o.length + 1) = V.own 0 (o ++ [UInt32.ofNat (ai + 4294967296 - (bi + w))]).length 0 (o ++ [UInt32.ofNat (ai + 4294967296 - (bi + w))]).length
        rw [el]
      case g7 =>
        show V.con (.int .i64 ((o.length : Int) + 1)) = V.con (.int .i64 (((o ++ [UInt32.ofNat (ai + 4294967296 - (bi + w))]).length : Nat) : Int))
        rw [el]; rfl
      case gd =>
        show some (Obj.mk 1 (List.take o.length (o.map cu) ++ [V.con (.int .u32 (((a.getD ((o.length : Int)).toNat 0).toNat : Int) + 4294967296 - (((b.getD ((o.length : Int)).toNat 0).toNat : Int) + (w : Int))))]) (o.length + 1) true) = some (Obj.mk 1 ((o ++ [UInt32.ofNat (ai + 4294967296 - (bi + w))]).map cu) (o ++ [UInt32.ofNat (ai + 4294967296 - (bi + w))]).length true)
        have e6 : (((a.getD ((o.length : Int)).toNat 0).toNat : Int) + 4294967296 - (((b.getD ((o.length : Int)).toNat 0).toNat : Int) + (w : Int)) : Int) = ((UInt32.ofNat (ai + 4294967296 - (bi + w))).toNat : Nat) := by
          rw [eo, hai, hbi, UInt32.toNat_ofNat']
          omega
        rw [el, e6, List.take_of_length_le (by simp), List.map_append]
        rfl
    · refine And.intro (fun y hy => by have hy : y ∈ [V.con _] := hy; rw [List.mem_singleton.1 hy]; rfl) ?_
      repeat' (first|(with_reducible first|refine zA ?_|refine zB ?_|refine zC ?_|refine zD ?_|refine zE ?_|refine zF ?_|refine zG ?_|refine zH ?_|refine zI ?_|refine zJ ?_|refine zK ?_|refine zL ?_)|(with_reducible refine reg_i ?_;intro K hK)|(with_reducible refine drw_i ?_;intro K hK)|((with_reducible refine cond_t ?hc ?_);(case hc=>rfl))|((with_reducible refine cond_f ?hc ?_);(case hc=>rfl))|((with_reducible refine cond_m ?_);refine And.intro ?_ ?_;all_goals(intro hb;(try simp only [sb] at hb);try exact ex0))|(refine hK _ ?_;clear hK K)|(refine hK _ _ rfl ?_;clear hK K)|(have hg:=hK;clear hg;first|(refine And.intro ?zz ?_;case zz=>first|exact rfl|exact zO rfl|omega|exact gI)|(refine fresh_n ?_)|(refine freshO_n ?_)|(refine at_Q ?_;intro hu)|(refine zP wA ?_)|(refine mul_Q ?_;intro hm1 hm2)|(refine zP at_M ?_)|(refine zP rfl ?_)|(refine And.intro ?_ ?_;all_goals(intro hb;(try simp only [sb] at hb);try exact ex0))|(intro b0 hb)))
      rw [eo] at ua ub
      obtain ⟨ai, hai⟩ : ∃ n, (a.getD o.length 0).toNat = n := ⟨_, rfl⟩
      obtain ⟨bi, hbi⟩ : ∃ n, (b.getD o.length 0).toNat = n := ⟨_, rfl⟩
      rw [eo, hai, hbi] at hb
      rw [hai] at ua
      rw [hbi] at ub
      have el : (o ++ [UInt32.ofNat (ai - (bi + w))]).length = o.length + 1 := by simp
      have hv := sub_step (w' := 0) (d := ai - (bi + w)) g2 hai hbi (by omega) (by omega)
      refine ⟨(o ++ [UInt32.ofNat (ai - (bi + w))], 0), ⟨by omega, by rw [el]; omega, hv⟩, ?gm, rfl, ⟨rfl, trivial, rfl, trivial, ?g5, rfl, rfl, trivial, ?g7, trivial, trivial⟩, ⟨?gd, trivial⟩, clObjs_cu' _ _ _⟩
      case gm =>
        show a.length - (o ++ [UInt32.ofNat (ai - (bi + w))]).length < a.length - o.length
        rw [el]; omega
      case g5 =>
        show V.own 0 (o.length + 1) 0 (o.length + 1) = V.own 0 (o ++ [UInt32.ofNat (ai - (bi + w))]).length 0 (o ++ [UInt32.ofNat (ai - (bi + w))]).length
        rw [el]
      case g7 =>
        show V.con (.int .i64 ((o.length : Int) + 1)) = V.con (.int .i64 (((o ++ [UInt32.ofNat (ai - (bi + w))]).length : Nat) : Int))
        rw [el]; rfl
      case gd =>
        show some (Obj.mk 1 (List.take o.length (o.map cu) ++ [V.con (.int .u32 (((a.getD ((o.length : Int)).toNat 0).toNat : Int) - (((b.getD ((o.length : Int)).toNat 0).toNat : Int) + (w : Int))))]) (o.length + 1) true) = some (Obj.mk 1 ((o ++ [UInt32.ofNat (ai - (bi + w))]).map cu) (o ++ [UInt32.ofNat (ai - (bi + w))]).length true)
        have e6 : (((a.getD ((o.length : Int)).toNat 0).toNat : Int) - (((b.getD ((o.length : Int)).toNat 0).toNat : Int) + (w : Int)) : Int) = ((UInt32.ofNat (ai - (bi + w))).toNat : Nat) := by
          rw [eo, hai, hbi, UInt32.toNat_ofNat']
          omega
        rw [el, e6, List.take_of_length_le (by simp), List.map_append]
        rfl
    · skip
      refine Or.inl (Exists.intro _ (Exists.intro _ (Exists.intro _ (And.intro (rNorm_ok o (by omega)) (Exists.intro [(0, ?o)] (And.intro (lpre1 ?ho) (And.intro ?z (And.intro rfl ?_))))))))
      case ho => exact rfl
      case z =>
        refine fzl1 (fz_own (l := o) (F := fun x => V.con (.int .u32 x.toNat)) (G := tu32) rfl rfl rfl rfl ?_ (fun a _ => fze_con _) rfl)
        show List.take _ (List.drop 0 (o.map cu)) = _
        rw [List.drop_zero, List.take_of_length_le (by rw [List.length_map]; omega)]
        rfl
      repeat' (first|(with_reducible first|refine zA ?_|refine zB ?_|refine zC ?_|refine zD ?_|refine zE ?_|refine zF ?_|refine zG ?_|refine zH ?_|refine zI ?_|refine zJ ?_|refine zK ?_|refine zL ?_)|(with_reducible refine reg_i ?_;intro K hK)|(with_reducible refine drw_i ?_;intro K hK)|((with_reducible refine cond_t ?hc ?_);(case hc=>rfl))|((with_reducible refine cond_f ?hc ?_);(case hc=>rfl))|((with_reducible refine cond_m ?_);refine And.intro ?_ ?_;all_goals(intro hb;(try simp only [sb] at hb);try exact ex0))|(refine hK _ ?_;clear hK K)|(refine hK _ _ rfl ?_;clear hK K)|(have hg:=hK;clear hg;first|(refine And.intro ?zz ?_;case zz=>first|exact rfl|exact zO rfl|omega|exact gI)|(refine fresh_n ?_)|(refine freshO_n ?_)|(refine at_Q ?_;intro hu)|(refine zP wA ?_)|(refine mul_Q ?_;intro hm1 hm2)|(refine zP at_M ?_)|(refine zP rfl ?_)|(refine And.intro ?_ ?_;all_goals(intro hb;(try simp only [sb] at hb);try exact ex0))|(intro b0 hb)))
      have hol : o.length = a.length := by omega
      rw [hol, List.take_length, val_take_lt b a.length (Nat.lt_of_le_of_lt h (val_lt a))] at g2
      have hov := val_lt o
      rw [hol] at hov
      have hw : w = 0 := by
        rcases (show w = 0 ∨ w = 1 by omega) with h1 | h1
        · exact h1
        · subst h1; omega
      subst hw
      exact And.intro trivial ⟨_, _, rfl, fz_ro (by rw [norm_lm]; congr 2; omega) fun h => h, fz_con rfl⟩
