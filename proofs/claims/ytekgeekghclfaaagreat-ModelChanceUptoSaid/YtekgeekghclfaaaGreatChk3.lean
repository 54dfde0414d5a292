import Derived.Test.YtekgeekghclfaaaGreatWholem
import Derived.Test.YtekgeekghclfaaaGreatSorted
set_option linter.all false
namespace Go.Ev
open Go.Proofs
set_option maxRecDepth 10000
set_option maxHeartbeats 4000000
set_option linter.unusedSimpArgs false
set_option linter.unusedVariables false
theorem named_ok (n : Nt) (na : NtOK n) (hl : n.values.length = n.names.length) : Ok Tryz.prog 22 [tNt n] true (.con (.int .i64 (firstE (badN n.names n.values) n.names.length))) := by
  have hnm := na.names
  have hvl := na.values
  refine ok_of_ev (fun _ _ _ h => h) mix Tryz.func22 rfl rfl (by kernel_rfl) (Nat.le_of_ble_eq_true rfl) ?_
  repeat' (first|(with_reducible first|refine zA ?_|refine zB ?_|refine zC ?_|refine zD ?_|refine zE ?_|refine zF ?_|refine zG ?_|refine zH ?_|refine zI ?_|refine zJ ?_|refine zK ?_|refine zL ?_)|(with_reducible refine reg_i ?_;intro K hK)|(with_reducible refine drw_i ?_;intro K hK)|((with_reducible refine cond_t ?hc ?_);(case hc=>rfl))|((with_reducible refine cond_f ?hc ?_);(case hc=>rfl))|((with_reducible refine cond_m ?_);refine And.intro ?_ ?_;all_goals(intro hb;(try simp only [sn,sb] at hb);try exact ex0))|(refine hK _ ?_;clear hK K)|(refine hK _ _ rfl ?_;clear hK K)|(have hg:=hK;clear hg;first|(refine And.intro ?zz ?_;case zz=>first|exact rfl|exact zO rfl|omega|exact gJ)|(refine fresh_c 0 rfl ?_)|(refine freshO_n ?_)|(refine at_Q ?_;intro hu)|(refine zP wA ?_)|(refine mul_Q ?_;intro hm1 hm2)|(refine zP at_M ?_)|(refine zP rfl ?_)|(refine And.intro ?_ ?_;all_goals(intro hb;(try simp only [sn,sb] at hb);try exact ex0))|(intro b0 hb)))
  refine loop_i Nat (fun v => ⟨Tryz.f22.ntmps, [(1, .ref 0 0 0 0), (6, .ro false (tSL n.names)), (7, .con (.int .i64 n.names.length)), (8, .con (.int .i64 v))], [(0, bxNt n)]⟩) (fun v => v ≤ n.names.length ∧ ∀ j ∈ List.range v, badN n.names n.values j = 0) (fun v => n.names.length - v) [] 0 trivial ⟨Nat.zero_le _, by simp⟩ ⟨rfl, ⟨rfl, rfl, rfl, trivial, lenI _ _, trivial, rfl, trivial, trivial⟩, ⟨rfl, trivial⟩, ⟨bx_cl n, trivial⟩⟩ ?_
  rintro v ⟨h0, h1⟩
  by_cases hv : v < n.names.length
  · have hc := Contains_ok (n.names.take v) (n.names.getD v default) (by rw [List.length_take]; omega)
    rw [tSL_cut] at hc
    have ht := twiceS_ok (n.values.getD v default) (le62 (na.value _ (getD_mem (by omega))))
    by_cases hm : n.names.getD v default ∈ n.names.take v
    · rw [decide_eq_true hm] at hc
      have hbd : badN n.names n.values v = 40 := if_pos (.inl hm)
      repeat' (first|(with_reducible first|refine zA ?_|refine zB ?_|refine zC ?_|refine zD ?_|refine zE ?_|refine zF ?_|refine zG ?_|refine zH ?_|refine zI ?_|refine zJ ?_|refine zK ?_|refine zL ?_)|(with_reducible refine reg_i ?_;intro K hK)|(with_reducible refine drw_i ?_;intro K hK)|((with_reducible refine cond_t ?hc ?_);(case hc=>rfl))|((with_reducible refine cond_f ?hc ?_);(case hc=>rfl))|((with_reducible refine cond_m ?_);refine And.intro ?_ ?_;all_goals(intro hb;(try simp only [sn,sb] at hb);try exact ex0))|(refine hK _ ?_;clear hK K)|(refine hK _ _ rfl ?_;clear hK K)|(have hg:=hK;clear hg;first|(refine And.intro ?zz ?_;case zz=>first|exact rfl|exact zO rfl|omega|exact gJ)|(refine fresh_n ?_)|(refine freshO_n ?_)|(refine at_Q ?_;intro hu)|(refine zP wA ?_)|(refine mul_Q ?_;intro hm1 hm2)|(refine zP at_M ?_)|(refine zP rfl ?_)|(refine zQ (hc) ?_)|(refine And.intro ?_ ?_;all_goals(intro hb;(try simp only [sn,sb] at hb);try exact ex0))|(intro b0 hb)))
      rw [firstE_at hv h1 (by omega), hbd]
      exact And.intro trivial (fz_con rfl)
    · rw [decide_eq_false hm] at hc
      by_cases hd : (n.values.getD v default).Nodup
      · rw [decide_eq_false (fun h => h hd)] at ht
        repeat' (first|(with_reducible first|refine zA ?_|refine zB ?_|refine zC ?_|refine zD ?_|refine zE ?_|refine zF ?_|refine zG ?_|refine zH ?_|refine zI ?_|refine zJ ?_|refine zK ?_|refine zL ?_)|(with_reducible refine reg_i ?_;intro K hK)|(with_reducible refine drw_i ?_;intro K hK)|((with_reducible refine cond_t ?hc ?_);(case hc=>rfl))|((with_reducible refine cond_f ?hc ?_);(case hc=>rfl))|((with_reducible refine cond_m ?_);refine And.intro ?_ ?_;all_goals(intro hb;(try simp only [sn,sb] at hb);try exact ex0))|(refine hK _ ?_;clear hK K)|(refine hK _ _ rfl ?_;clear hK K)|(have hg:=hK;clear hg;first|(refine And.intro ?zz ?_;case zz=>first|exact rfl|exact zO rfl|omega|exact gJ)|(refine fresh_n ?_)|(refine freshO_n ?_)|(refine at_Q ?_;intro hu)|(refine zP wA ?_)|(refine mul_Q ?_;intro hm1 hm2)|(refine zP at_M ?_)|(refine zP rfl ?_)|(refine zQ (hc) ?_)|(refine zQ (ht) ?_)|(refine And.intro ?_ ?_;all_goals(intro hb;(try simp only [sn,sb] at hb);try exact ex0))|(intro b0 hb)))
        · have hb2 : badN n.names n.values v = 43 := by
            unfold badN
            rw [if_neg (fun h => h.elim hm fun h => h hd), if_pos (by omega)]
          rw [firstE_at hv h1 (by omega), hb2]
          exact And.intro trivial (fz_con rfl)
        · have hb2 : badN n.names n.values v = 0 := by
            unfold badN
            rw [if_neg (fun h => h.elim hm fun h => h hd), if_neg (by omega)]
          exact ⟨v + 1, ⟨by omega, range_step h1 hb2⟩, by omega, rfl, ⟨rfl, rfl, rfl, trivial, rfl, trivial, rfl, trivial, trivial⟩, ⟨rfl, trivial⟩, ⟨bx_cl n, trivial⟩⟩
      · rw [decide_eq_true hd] at ht
        repeat' (first|(with_reducible first|refine zA ?_|refine zB ?_|refine zC ?_|refine zD ?_|refine zE ?_|refine zF ?_|refine zG ?_|refine zH ?_|refine zI ?_|refine zJ ?_|refine zK ?_|refine zL ?_)|(with_reducible refine reg_i ?_;intro K hK)|(with_reducible refine drw_i ?_;intro K hK)|((with_reducible refine cond_t ?hc ?_);(case hc=>rfl))|((with_reducible refine cond_f ?hc ?_);(case hc=>rfl))|((with_reducible refine cond_m ?_);refine And.intro ?_ ?_;all_goals(intro hb;(try simp only [sn,sb] at hb);try exact ex0))|(refine hK _ ?_;clear hK K)|(refine hK _ _ rfl ?_;clear hK K)|(have hg:=hK;clear hg;first|(refine And.intro ?zz ?_;case zz=>first|exact rfl|exact zO rfl|omega|exact gJ)|(refine fresh_n ?_)|(refine freshO_n ?_)|(refine at_Q ?_;intro hu)|(refine zP wA ?_)|(refine mul_Q ?_;intro hm1 hm2)|(refine zP at_M ?_)|(refine zP rfl ?_)|(refine zQ (hc) ?_)|(refine zQ (ht) ?_)|(refine And.intro ?_ ?_;all_goals(intro hb;(try simp only [sn,sb] at hb);try exact ex0))|(intro b0 hb)))
        have hb : badN n.names n.values v = 40 := if_pos (.inr hd)
        rw [firstE_at hv h1 (by omega), hb]
        exact And.intro trivial (fz_con rfl)
  · repeat' (first|(with_reducible first|refine zA ?_|refine zB ?_|refine zC ?_|refine zD ?_|refine zE ?_|refine zF ?_|refine zG ?_|refine zH ?_|refine zI ?_|refine zJ ?_|refine zK ?_|refine zL ?_)|(with_reducible refine reg_i ?_;intro K hK)|(with_reducible refine drw_i ?_;intro K hK)|((with_reducible refine cond_t ?hc ?_);(case hc=>rfl))|((with_reducible refine cond_f ?hc ?_);(case hc=>rfl))|((with_reducible refine cond_m ?_);refine And.intro ?_ ?_;all_goals(intro hb;(try simp only [sn,sb] at hb);try exact ex0))|(refine hK _ ?_;clear hK K)|(refine hK _ _ rfl ?_;clear hK K)|(have hg:=hK;clear hg;first|(refine And.intro ?zz ?_;case zz=>first|exact rfl|exact zO rfl|omega|exact gJ)|(refine fresh_n ?_)|(refine freshO_n ?_)|(refine at_Q ?_;intro hu)|(refine zP wA ?_)|(refine mul_Q ?_;intro hm1 hm2)|(refine zP at_M ?_)|(refine zP rfl ?_)|(refine And.intro ?_ ?_;all_goals(intro hb;(try simp only [sn,sb] at hb);try exact ex0))|(intro b0 hb)))
    rw [firstE_no (by rw [show n.names.length = v by omega]; exact h1)]
    exact And.intro trivial (fz_con rfl)
theorem tRL_cut (l : List Rt) (i v : Nat) : tRL ((l.drop i).take v) = .sl (((l.map tRt).drop ((i : Nat) : Int).toNat).take ((((i : Nat) : Int) + ((v : Nat) : Int) - ((i : Nat) : Int))).toNat) := by
  have e : ((((i : Nat) : Int) + ((v : Nat) : Int) - ((i : Nat) : Int))).toNat = v := by omega
  rw [e, Int.toNat_natCast, tRL, List.map_take, List.map_drop]
theorem mul_succ_le {k m v : Nat} (h : k < m) : k * v + v ≤ m * v := by
  have := Nat.mul_le_mul_right v (show k + 1 ≤ m from h)
  rwa [Nat.succ_mul] at this
theorem cut_eq {l : List Rt} {v m k : Nat} (h : l.length = m * v) (hk : k < m) : cutL l v k = (l.drop (k * v)).take v := by
  have := mul_succ_le (v := v) hk
  unfold cutL
  rw [Nat.min_eq_left (by omega)]
theorem cutN_dvd {v m : Nat} (hv : 1 ≤ v) : cutN (m * v) v = m := by
  unfold cutN
  rw [Nat.add_sub_assoc hv, Nat.mul_comm, Nat.mul_add_div (by omega), Nat.div_eq_of_lt (by omega)]; rfl
theorem rWhole_ok (l : List Rt) (v m : Nat) (hv : 1 ≤ v) (hv2 : v ≤ 1048576) (hl : l.length ≤ 1048576) (hbk : bulkR l ≤ 268435400) (hm : l.length = m * v) : Ok Tryz.prog 21 [tRL l, .con (.int .i64 v)] true (.con (.bool (wholeB l v))) := by
  have hN : cutN l.length v = m := by rw [hm]; exact cutN_dvd hv
  unfold wholeB
  rw [hN]
  refine ok_of_ev (fun _ _ _ h => h) mix Tryz.func21 rfl rfl (by kernel_rfl) (Nat.le_of_ble_eq_true rfl) ?_
  repeat' (first|(with_reducible first|refine zA ?_|refine zB ?_|refine zC ?_|refine zD ?_|refine zE ?_|refine zF ?_|refine zG ?_|refine zH ?_|refine zI ?_|refine zJ ?_|refine zK ?_|refine zL ?_)|(with_reducible refine reg_i ?_;intro K hK)|(with_reducible refine drw_i ?_;intro K hK)|((with_reducible refine cond_t ?hc ?_);(case hc=>rfl))|((with_reducible refine cond_f ?hc ?_);(case hc=>rfl))|((with_reducible refine cond_m ?_);refine And.intro ?_ ?_;all_goals(intro hb;(try simp only [sn,sb] at hb);try exact ex0))|(refine hK _ ?_;clear hK K)|(refine hK _ _ rfl ?_;clear hK K)|(have hg:=hK;clear hg;first|(refine And.intro ?zz ?_;case zz=>first|exact rfl|exact zO rfl|omega|exact gJ)|(refine fresh_n ?_)|(refine freshO_n ?_)|(refine at_Q ?_;intro hu)|(refine zP wA ?_)|(refine mul_Q ?_;intro hm1 hm2)|(refine zP at_M ?_)|(refine zP rfl ?_)|(refine And.intro ?_ ?_;all_goals(intro hb;(try simp only [sn,sb] at hb);try exact ex0))|(intro b0 hb)))
  refine loop_i (Nat × Nat) (fun z => ⟨Tryz.f21.ntmps, [(0, .ro false (tRL l)), (1, .con (.int .i64 v)), (5, .con (.int .i64 z.2))], []⟩) (fun z => z.1 ≤ m ∧ z.2 = z.1 * v ∧ ∀ k ∈ List.range z.1, oneB (cutL l v k) = true) (fun z => m - z.1) [] (0, 0) trivial ⟨Nat.zero_le _, by simp, by simp⟩ ⟨rfl, ⟨rfl, trivial, rfl, trivial, rfl, trivial, trivial⟩, trivial, trivial⟩ ?_
  rintro ⟨k, i⟩ ⟨h0, h1, h2⟩
  dsimp only at h0 h1 h2
  by_cases hk : k < m
  · have hle : i + v ≤ l.length := by
      have := mul_succ_le (v := v) hk
      omega
    have hc := cut_eq hm hk
    rw [← h1] at hc
    have hbc := bulk_cut l v k
    have hlc := len_cut l v k
    have hsum := rSum_ok rSmall0_ok (cutL l v k) (by omega) (by omega)
    obtain ⟨hq1, hq2, hq3⟩ := sumQ_ok (cutL l v k)
    have hcmp := rCmpR_ok (decide (qz (sumQ (cutL l v k)).1 (sumQ (cutL l v k)).2 < 0)) (decide (qz 1 1 < 0)) (lm (qz (sumQ (cutL l v k)).1 (sumQ (cutL l v k)).2).natAbs) (lm (qd (sumQ (cutL l v k)).1 (sumQ (cutL l v k)).2)) (lm (qz 1 1).natAbs) (lm (qd 1 1)) (by omega) (by omega)
      (by rw [qz_11]; exact Nat.le_trans lm1_len (by decide)) (by rw [qd_11]; exact Nat.le_trans lm1_len (by decide))
    obtain ⟨sq, hsq⟩ : ∃ sq, sumQ (cutL l v k) = sq := ⟨_, rfl⟩
    rw [hsq] at hsum hcmp hq1 hq2 hq3
    have hcm : oneB (cutL l v k) = decide (cmpOne sq = 0) := by unfold oneB; rw [hsq]
    rw [hc, tRL_cut] at hsum
    by_cases h9 : cmpOne sq = 0
    · have hcmp0 : Ok Tryz.prog 41 [tQ sq.1 sq.2, tQ 1 1] true (.con (.int .i64 0)) := by rw [← h9]; exact hcmp
      repeat' (first|(with_reducible first|refine zA ?_|refine zB ?_|refine zC ?_|refine zD ?_|refine zE ?_|refine zF ?_|refine zG ?_|refine zH ?_|refine zI ?_|refine zJ ?_|refine zK ?_|refine zL ?_)|(with_reducible refine reg_i ?_;intro K hK)|(with_reducible refine drw_i ?_;intro K hK)|((with_reducible refine cond_t ?hc ?_);(case hc=>rfl))|((with_reducible refine cond_f ?hc ?_);(case hc=>rfl))|((with_reducible refine cond_m ?_);refine And.intro ?_ ?_;all_goals(intro hb;(try simp only [sn,sb] at hb);try exact ex0))|(refine hK _ ?_;clear hK K)|(refine hK _ _ rfl ?_;clear hK K)|(have hg:=hK;clear hg;first|(refine And.intro ?zz ?_;case zz=>first|exact rfl|exact zO rfl|omega|exact gJ)|(refine fresh_n ?_)|(refine freshO_n ?_)|(refine at_Q ?_;intro hu)|(refine zP wA ?_)|(refine mul_Q ?_;intro hm1 hm2)|(refine zP at_M ?_)|(refine zP rfl ?_)|(refine zQ (hsum) ?_)|(refine zQ (rOne_ok) ?_)|(refine zQ (hcmp0) ?_)|(refine And.intro ?_ ?_;all_goals(intro hb;(try simp only [sn,sb] at hb);try exact ex0))|(intro b0 hb)))
      refine ⟨(k + 1, i + v), ⟨hk, by show i + v = (k + 1) * v; rw [Nat.succ_mul]; omega, range_step h2 (by rw [hcm]; exact decide_eq_true h9)⟩, by show m - (k + 1) < m - k; omega, rfl, ⟨rfl, trivial, rfl, trivial, rfl, trivial, trivial⟩, trivial, trivial⟩
    · have hcmp0 : Ok Tryz.prog 41 [tQ sq.1 sq.2, tQ 1 1] true (.con (.int .i64 (cmpOne sq))) := hcmp
      repeat' (first|(with_reducible first|refine zA ?_|refine zB ?_|refine zC ?_|refine zD ?_|refine zE ?_|refine zF ?_|refine zG ?_|refine zH ?_|refine zI ?_|refine zJ ?_|refine zK ?_|refine zL ?_)|(with_reducible refine reg_i ?_;intro K hK)|(with_reducible refine drw_i ?_;intro K hK)|((with_reducible refine cond_t ?hc ?_);(case hc=>rfl))|((with_reducible refine cond_f ?hc ?_);(case hc=>rfl))|((with_reducible refine cond_m ?_);refine And.intro ?_ ?_;all_goals(intro hb;(try simp only [sn,sb] at hb);try exact ex0))|(refine hK _ ?_;clear hK K)|(refine hK _ _ rfl ?_;clear hK K)|(have hg:=hK;clear hg;first|(refine And.intro ?zz ?_;case zz=>first|exact rfl|exact zO rfl|omega|exact gJ)|(refine fresh_n ?_)|(refine freshO_n ?_)|(refine at_Q ?_;intro hu)|(refine zP wA ?_)|(refine mul_Q ?_;intro hm1 hm2)|(refine zP at_M ?_)|(refine zP rfl ?_)|(refine zQ (hsum) ?_)|(refine zQ (rOne_ok) ?_)|(refine zQ (hcmp0) ?_)|(refine And.intro ?_ ?_;all_goals(intro hb;(try simp only [sn,sb] at hb);try exact ex0))|(intro b0 hb)))
      refine And.intro trivial (fz_con (congrArg Value.bool ?_))
      symm
      rw [List.all_eq_false]
      exact ⟨k, List.mem_range.2 hk, by rw [hcm, decide_eq_false h9]; exact Bool.false_ne_true⟩
  · have hkm : k = m := by omega
    subst hkm
    repeat' (first|(with_reducible first|refine zA ?_|refine zB ?_|refine zC ?_|refine zD ?_|refine zE ?_|refine zF ?_|refine zG ?_|refine zH ?_|refine zI ?_|refine zJ ?_|refine zK ?_|refine zL ?_)|(with_reducible refine reg_i ?_;intro K hK)|(with_reducible refine drw_i ?_;intro K hK)|((with_reducible refine cond_t ?hc ?_);(case hc=>rfl))|((with_reducible refine cond_f ?hc ?_);(case hc=>rfl))|((with_reducible refine cond_m ?_);refine And.intro ?_ ?_;all_goals(intro hb;(try simp only [sn,sb] at hb);try exact ex0))|(refine hK _ ?_;clear hK K)|(refine hK _ _ rfl ?_;clear hK K)|(have hg:=hK;clear hg;first|(refine And.intro ?zz ?_;case zz=>first|exact rfl|exact zO rfl|omega|exact gJ)|(refine fresh_n ?_)|(refine freshO_n ?_)|(refine at_Q ?_;intro hu)|(refine zP wA ?_)|(refine mul_Q ?_;intro hm1 hm2)|(refine zP at_M ?_)|(refine zP rfl ?_)|(refine And.intro ?_ ?_;all_goals(intro hb;(try simp only [sn,sb] at hb);try exact ex0))|(intro b0 hb)))
    refine And.intro trivial (fz_con (congrArg Value.bool ?_))
    symm
    rw [List.all_eq_true]
    exact h2
end Go.Ev
