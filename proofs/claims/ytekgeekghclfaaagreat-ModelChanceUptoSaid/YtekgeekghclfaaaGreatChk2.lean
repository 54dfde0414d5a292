import Derived.Test.YtekgeekghclfaaaGreatChk1
import Derived.Test.YtekgeekghclfaaaGreatOneN
import Derived.Test.YtekgeekghclfaaaGreatTwin
set_option linter.all false
namespace Go.Ev
open Go.Proofs
set_option maxRecDepth 10000
set_option maxHeartbeats 4000000
set_option linter.unusedSimpArgs false
set_option linter.unusedVariables false
def u32Eq (a b : UInt32) : Bool := decide (a.toNat = b.toNat)
def rtEq (a b : Rt) : Bool := (a.neg == b.neg && allEq u32Eq a.mag b.mag) && allEq u32Eq a.den b.den
def exactNt (a b : Nt) : Bool := sameNt a b && allEq (allEq rtEq) a.tables b.tables
theorem u32Eq_refl (x : UInt32) : u32Eq x x = true := by simp [u32Eq]
theorem rtEq_refl (x : Rt) : rtEq x x = true := by
  have h1 := allEq_refl x.mag fun y _ => u32Eq_refl y
  have h2 := allEq_refl x.den fun y _ => u32Eq_refl y
  simp [rtEq, h1, h2]
theorem rSame1_ok (a b : List UInt32) (ha : a.length ≤ 4611686018427387904) (hb0 : b.length ≤ 4611686018427387904) : Ok Tryz.prog 36 [tn a, tn b] true (.con (.bool (allEq u32Eq a b))) := by
  refine ok_of_ev (fun _ _ _ h => h) mix Tryz.func36 rfl rfl (by kernel_rfl) (Nat.le_of_ble_eq_true rfl) ?_
  repeat' (first|(with_reducible first|refine zA ?_|refine zB ?_|refine zC ?_|refine zD ?_|refine zE ?_|refine zF ?_|refine zG ?_|refine zH ?_|refine zI ?_|refine zJ ?_|refine zK ?_|refine zL ?_)|(with_reducible refine reg_i ?_;intro K hK)|(with_reducible refine drw_i ?_;intro K hK)|((with_reducible refine cond_t ?hc ?_);(case hc=>rfl))|((with_reducible refine cond_f ?hc ?_);(case hc=>rfl))|((with_reducible refine cond_m ?_);refine And.intro ?_ ?_;all_goals(intro hb;(try simp only [sn,sb] at hb);try exact ex0))|(refine hK _ ?_;clear hK K)|(refine hK _ _ rfl ?_;clear hK K)|(have hg:=hK;clear hg;first|(refine And.intro ?zz ?_;case zz=>first|exact rfl|exact zO rfl|omega|exact gJ)|(refine fresh_n ?_)|(refine freshO_n ?_)|(refine at_Q ?_;intro hu)|(refine zP wA ?_)|(refine mul_Q ?_;intro hm1 hm2)|(refine zP at_M ?_)|(refine zP rfl ?_)|(refine And.intro ?_ ?_;all_goals(intro hb;(try simp only [sn,sb] at hb);try exact ex0))|(intro b0 hb)))
  · exact And.intro trivial (fz_con (congrArg Value.bool (allEq_len (by omega)).symm))
  have hl : a.length = b.length := by omega
  refine loop_i Nat (fun i => ⟨Tryz.f36.ntmps, [(0, .ro false (tn a)), (1, .ro false (tn b)), (5, .con (.int .i64 i))], []⟩) (fun i => i ≤ a.length ∧ allEq u32Eq a b = allEq u32Eq (a.drop i) (b.drop i)) (fun i => a.length - i) [] 0 trivial ⟨Nat.zero_le _, rfl⟩ ⟨rfl, ⟨rfl, trivial, rfl, trivial, rfl, trivial, trivial⟩, trivial, trivial⟩ ?_
  rintro i ⟨h0, h1⟩
  by_cases hi : i < a.length
  · have hst := allEq_step (f := u32Eq) hl hi
    repeat' (first|(with_reducible first|refine zA ?_|refine zB ?_|refine zC ?_|refine zD ?_|refine zE ?_|refine zF ?_|refine zG ?_|refine zH ?_|refine zI ?_|refine zJ ?_|refine zK ?_|refine zL ?_)|(with_reducible refine reg_i ?_;intro K hK)|(with_reducible refine drw_i ?_;intro K hK)|((with_reducible refine cond_t ?hc ?_);(case hc=>rfl))|((with_reducible refine cond_f ?hc ?_);(case hc=>rfl))|((with_reducible refine cond_m ?_);refine And.intro ?_ ?_;all_goals(intro hb;(try simp only [sn,sb] at hb);try exact ex0))|(refine hK _ ?_;clear hK K)|(refine hK _ _ rfl ?_;clear hK K)|(have hg:=hK;clear hg;first|(refine And.intro ?zz ?_;case zz=>first|exact rfl|exact zO rfl|omega|exact gJ)|(refine fresh_n ?_)|(refine freshO_n ?_)|(refine at_Q ?_;intro hu)|(refine zP wA ?_)|(refine mul_Q ?_;intro hm1 hm2)|(refine zP at_M ?_)|(refine zP rfl ?_)|(refine And.intro ?_ ?_;all_goals(intro hb;(try simp only [sn,sb] at hb);try exact ex0))|(intro b0 hb)))
    · refine And.intro trivial (fz_con (congrArg Value.bool ?_))
      have hf : u32Eq (a.getD i default) (b.getD i default) = false := decide_eq_false (fun h => hb (congrArg Int.ofNat h))
      rw [h1, hst, hf]; rfl
    · have hf : u32Eq (a.getD i default) (b.getD i default) = true := decide_eq_true (Int.ofNat.inj hb)
      exact ⟨i + 1, ⟨by omega, by rw [h1, hst, hf, Bool.true_and]⟩, by omega, rfl, ⟨rfl, trivial, rfl, trivial, rfl, trivial, trivial⟩, trivial, trivial⟩
  · repeat' (first|(with_reducible first|refine zA ?_|refine zB ?_|refine zC ?_|refine zD ?_|refine zE ?_|refine zF ?_|refine zG ?_|refine zH ?_|refine zI ?_|refine zJ ?_|refine zK ?_|refine zL ?_)|(with_reducible refine reg_i ?_;intro K hK)|(with_reducible refine drw_i ?_;intro K hK)|((with_reducible refine cond_t ?hc ?_);(case hc=>rfl))|((with_reducible refine cond_f ?hc ?_);(case hc=>rfl))|((with_reducible refine cond_m ?_);refine And.intro ?_ ?_;all_goals(intro hb;(try simp only [sn,sb] at hb);try exact ex0))|(refine hK _ ?_;clear hK K)|(refine hK _ _ rfl ?_;clear hK K)|(have hg:=hK;clear hg;first|(refine And.intro ?zz ?_;case zz=>first|exact rfl|exact zO rfl|omega|exact gJ)|(refine fresh_n ?_)|(refine freshO_n ?_)|(refine at_Q ?_;intro hu)|(refine zP wA ?_)|(refine mul_Q ?_;intro hm1 hm2)|(refine zP at_M ?_)|(refine zP rfl ?_)|(refine And.intro ?_ ?_;all_goals(intro hb;(try simp only [sn,sb] at hb);try exact ex0))|(intro b0 hb)))
    rw [h1, allEq_end hl (by omega)]
    exact And.intro trivial (fz_con rfl)
theorem rSame2_ok (n k : Bool) (a b : List UInt32) (ha : a.length ≤ 4611686018427387904) (hb0 : b.length ≤ 4611686018427387904) : Ok Tryz.prog 35 [tI n a, tI k b] true (.con (.bool (n == k && allEq u32Eq a b))) := by
  refine ok_of_ev (fun _ _ _ h => h) mix Tryz.func35 rfl rfl (by kernel_rfl) (Nat.le_of_ble_eq_true rfl) ?_
  repeat' (first|(with_reducible first|refine zA ?_|refine zB ?_|refine zC ?_|refine zD ?_|refine zE ?_|refine zF ?_|refine zG ?_|refine zH ?_|refine zI ?_|refine zJ ?_|refine zK ?_|refine zL ?_)|(with_reducible refine reg_i ?_;intro K hK)|(with_reducible refine drw_i ?_;intro K hK)|((with_reducible refine cond_t ?hc ?_);(case hc=>rfl))|((with_reducible refine cond_f ?hc ?_);(case hc=>rfl))|((with_reducible refine cond_m ?_);refine And.intro ?_ ?_;all_goals(intro hb;(try simp only [sn,sb] at hb);try exact ex0))|(refine hK _ ?_;clear hK K)|(refine hK _ _ rfl ?_;clear hK K)|(have hg:=hK;clear hg;first|(refine And.intro ?zz ?_;case zz=>first|exact rfl|exact zO rfl|omega|exact gJ)|(refine fresh_n ?_)|(refine freshO_n ?_)|(refine at_Q ?_;intro hu)|(refine zP wA ?_)|(refine mul_Q ?_;intro hm1 hm2)|(refine zP at_M ?_)|(refine zP rfl ?_)|(refine zQ (rSame1_ok a b ha hb0) ?_)|(refine And.intro ?_ ?_;all_goals(intro hb;(try simp only [sn,sb] at hb);try exact ex0))|(intro b0 hb)))
  · exact And.intro trivial (fz_con (congrArg Value.bool (by rw [show (n == k) = true by simpa using hb, Bool.true_and])))
  · exact And.intro trivial (fz_con (congrArg Value.bool (by rw [show (n == k) = false by simpa using hb, Bool.false_and])))
theorem rSame3_ok (a b : Rt) (ha : RtOK a) (hb0 : RtOK b) : Ok Tryz.prog 14 [tRt a, tRt b] true (.con (.bool (rtEq a b))) := by
  obtain ⟨h1, h2⟩ := ha
  obtain ⟨h3, h4⟩ := hb0
  refine ok_of_ev (fun _ _ _ h => h) mix Tryz.func14 rfl rfl (by kernel_rfl) (Nat.le_of_ble_eq_true rfl) ?_
  repeat' (first|(with_reducible first|refine zA ?_|refine zB ?_|refine zC ?_|refine zD ?_|refine zE ?_|refine zF ?_|refine zG ?_|refine zH ?_|refine zI ?_|refine zJ ?_|refine zK ?_|refine zL ?_)|(with_reducible refine reg_i ?_;intro K hK)|(with_reducible refine drw_i ?_;intro K hK)|((with_reducible refine cond_t ?hc ?_);(case hc=>rfl))|((with_reducible refine cond_f ?hc ?_);(case hc=>rfl))|((with_reducible refine cond_m ?_);refine And.intro ?_ ?_;all_goals(intro hb;(try simp only [sn,sb] at hb);try exact ex0))|(refine hK _ ?_;clear hK K)|(refine hK _ _ rfl ?_;clear hK K)|(have hg:=hK;clear hg;first|(refine And.intro ?zz ?_;case zz=>first|exact rfl|exact zO rfl|omega|exact gJ)|(refine fresh_n ?_)|(refine freshO_n ?_)|(refine at_Q ?_;intro hu)|(refine zP wA ?_)|(refine mul_Q ?_;intro hm1 hm2)|(refine zP at_M ?_)|(refine zP rfl ?_)|(refine zQ (rSame2_ok a.neg b.neg a.mag b.mag (by omega) (by omega)) ?_)|(refine zQ (rSame1_ok a.den b.den (by omega) (by omega)) ?_)|(refine And.intro ?_ ?_;all_goals(intro hb;(try simp only [sn,sb] at hb);try exact ex0))|(intro b0 hb)))
  · exact And.intro trivial (fz_con (congrArg Value.bool (by simp [rtEq, hb])))
  · exact And.intro trivial (fz_con (congrArg Value.bool (by simp_all [rtEq])))
theorem SameList_ok (a b : List Rt) (ha : a.length ≤ 4611686018427387904) (hb0 : b.length ≤ 4611686018427387904) (hx : ∀ r ∈ a, RtOK r) (hy : ∀ r ∈ b, RtOK r) : Ok Tryz.prog 30 [tRL a, tRL b] true (.con (.bool (allEq rtEq a b))) := by
  refine ok_of_ev (fun _ _ _ h => h) mix Tryz.func30 rfl rfl (by kernel_rfl) (Nat.le_of_ble_eq_true rfl) ?_
  repeat' (first|(with_reducible first|refine zA ?_|refine zB ?_|refine zC ?_|refine zD ?_|refine zE ?_|refine zF ?_|refine zG ?_|refine zH ?_|refine zI ?_|refine zJ ?_|refine zK ?_|refine zL ?_)|(with_reducible refine reg_i ?_;intro K hK)|(with_reducible refine drw_i ?_;intro K hK)|((with_reducible refine cond_t ?hc ?_);(case hc=>rfl))|((with_reducible refine cond_f ?hc ?_);(case hc=>rfl))|((with_reducible refine cond_m ?_);refine And.intro ?_ ?_;all_goals(intro hb;(try simp only [sn,sb] at hb);try exact ex0))|(refine hK _ ?_;clear hK K)|(refine hK _ _ rfl ?_;clear hK K)|(have hg:=hK;clear hg;first|(refine And.intro ?zz ?_;case zz=>first|exact rfl|exact zO rfl|omega|exact gJ)|(refine fresh_n ?_)|(refine freshO_n ?_)|(refine at_Q ?_;intro hu)|(refine zP wA ?_)|(refine mul_Q ?_;intro hm1 hm2)|(refine zP at_M ?_)|(refine zP rfl ?_)|(refine And.intro ?_ ?_;all_goals(intro hb;(try simp only [sn,sb] at hb);try exact ex0))|(intro b0 hb)))
  · exact And.intro trivial (fz_con (congrArg Value.bool (allEq_len (by omega)).symm))
  have hl : a.length = b.length := by omega
  refine loop_i Nat (fun i => ⟨Tryz.f30.ntmps, [(0, .ro false (tRL a)), (1, .ro false (tRL b)), (5, .con (.int .i64 i))], []⟩) (fun i => i ≤ a.length ∧ allEq rtEq a b = allEq rtEq (a.drop i) (b.drop i)) (fun i => a.length - i) [] 0 trivial ⟨Nat.zero_le _, rfl⟩ ⟨rfl, ⟨rfl, trivial, rfl, trivial, rfl, trivial, trivial⟩, trivial, trivial⟩ ?_
  rintro i ⟨h0, h1⟩
  by_cases hi : i < a.length
  · have hst := allEq_step (f := rtEq) hl hi
    have hs := rSame3_ok (a.getD i default) (b.getD i default) (hx _ (getD_mem hi)) (hy _ (getD_mem (by omega)))
    repeat' (first|(with_reducible first|refine zA ?_|refine zB ?_|refine zC ?_|refine zD ?_|refine zE ?_|refine zF ?_|refine zG ?_|refine zH ?_|refine zI ?_|refine zJ ?_|refine zK ?_|refine zL ?_)|(with_reducible refine reg_i ?_;intro K hK)|(with_reducible refine drw_i ?_;intro K hK)|((with_reducible refine cond_t ?hc ?_);(case hc=>rfl))|((with_reducible refine cond_f ?hc ?_);(case hc=>rfl))|((with_reducible refine cond_m ?_);refine And.intro ?_ ?_;all_goals(intro hb;(try simp only [sn,sb] at hb);try exact ex0))|(refine hK _ ?_;clear hK K)|(refine hK _ _ rfl ?_;clear hK K)|(have hg:=hK;clear hg;first|(refine And.intro ?zz ?_;case zz=>first|exact rfl|exact zO rfl|omega|exact gJ)|(refine fresh_n ?_)|(refine freshO_n ?_)|(refine at_Q ?_;intro hu)|(refine zP wA ?_)|(refine mul_Q ?_;intro hm1 hm2)|(refine zP at_M ?_)|(refine zP rfl ?_)|(refine zQ (hs) ?_)|(refine And.intro ?_ ?_;all_goals(intro hb;(try simp only [sn,sb] at hb);try exact ex0))|(intro b0 hb)))
    · refine And.intro trivial (fz_con (congrArg Value.bool ?_))
      rw [h1, hst, hb]; rfl
    · exact ⟨i + 1, ⟨by omega, by rw [h1, hst, hb, Bool.true_and]⟩, by omega, rfl, ⟨rfl, trivial, rfl, trivial, rfl, trivial, trivial⟩, trivial, trivial⟩
  · repeat' (first|(with_reducible first|refine zA ?_|refine zB ?_|refine zC ?_|refine zD ?_|refine zE ?_|refine zF ?_|refine zG ?_|refine zH ?_|refine zI ?_|refine zJ ?_|refine zK ?_|refine zL ?_)|(with_reducible refine reg_i ?_;intro K hK)|(with_reducible refine drw_i ?_;intro K hK)|((with_reducible refine cond_t ?hc ?_);(case hc=>rfl))|((with_reducible refine cond_f ?hc ?_);(case hc=>rfl))|((with_reducible refine cond_m ?_);refine And.intro ?_ ?_;all_goals(intro hb;(try simp only [sn,sb] at hb);try exact ex0))|(refine hK _ ?_;clear hK K)|(refine hK _ _ rfl ?_;clear hK K)|(have hg:=hK;clear hg;first|(refine And.intro ?zz ?_;case zz=>first|exact rfl|exact zO rfl|omega|exact gJ)|(refine fresh_n ?_)|(refine freshO_n ?_)|(refine at_Q ?_;intro hu)|(refine zP wA ?_)|(refine mul_Q ?_;intro hm1 hm2)|(refine zP at_M ?_)|(refine zP rfl ?_)|(refine And.intro ?_ ?_;all_goals(intro hb;(try simp only [sn,sb] at hb);try exact ex0))|(intro b0 hb)))
    rw [h1, allEq_end hl (by omega)]
    exact And.intro trivial (fz_con rfl)
theorem sameNt_tables {a b : Nt} (h : sameNt a b = true) : a.tables.length = b.tables.length ∧ ∀ i, i < a.tables.length → (a.tables.getD i default).length = (b.tables.getD i default).length := by
  have h4 : allEq (allEq ratEq) a.tables b.tables = true := by
    simp only [sameNt, Bool.and_eq_true] at h
    exact h.2.2.2.2
  have hl : a.tables.length = b.tables.length := Classical.byContradiction fun hn => by rw [allEq_len hn] at h4; cases h4
  refine ⟨hl, fun i => ?_⟩
  have key : ∀ (k i : Nat), i = k → i ≤ a.tables.length → allEq (allEq ratEq) (a.tables.drop i) (b.tables.drop i) = true := by
    intro k
    induction k with
    | zero => rintro i rfl _; exact h4
    | succ k ih =>
      rintro i rfl hi
      have := ih k rfl (by omega)
      rw [allEq_step hl (by omega), Bool.and_eq_true] at this
      exact this.2
  intro hi
  have := key i i rfl (by omega)
  rw [allEq_step hl hi, Bool.and_eq_true] at this
  exact Classical.byContradiction fun hn => by rw [allEq_len hn] at this; exact Bool.noConfusion this.1
theorem Exact_ok (a b : Nt) (na : NtOK a) (nb : NtOK b) : Ok Tryz.prog 11 [tNt a, tNt b] true (.con (.bool (exactNt a b))) := by
  have na4 := na.tables
  have nb4 := nb.tables
  refine ok_of_ev (fun _ _ _ h => h) mix Tryz.func11 rfl rfl (by kernel_rfl) (Nat.le_of_ble_eq_true rfl) ?_
  repeat' (first|(with_reducible first|refine zA ?_|refine zB ?_|refine zC ?_|refine zD ?_|refine zE ?_|refine zF ?_|refine zG ?_|refine zH ?_|refine zI ?_|refine zJ ?_|refine zK ?_|refine zL ?_)|(with_reducible refine reg_i ?_;intro K hK)|(with_reducible refine drw_i ?_;intro K hK)|((with_reducible refine cond_t ?hc ?_);(case hc=>rfl))|((with_reducible refine cond_f ?hc ?_);(case hc=>rfl))|((with_reducible refine cond_m ?_);refine And.intro ?_ ?_;all_goals(intro hb;(try simp only [sn,sb] at hb);try exact ex0))|(refine hK _ ?_;clear hK K)|(refine hK _ _ rfl ?_;clear hK K)|(have hg:=hK;clear hg;first|(refine And.intro ?zz ?_;case zz=>first|exact rfl|exact zO rfl|omega|exact gJ)|(refine fresh_c 0 rfl ?_)|(refine fresh_c 1 rfl ?_)|(refine freshO_n ?_)|(refine at_Q ?_;intro hu)|(refine zP wA ?_)|(refine mul_Q ?_;intro hm1 hm2)|(refine zP at_M ?_)|(refine zP rfl ?_)|(refine zQ (rSameNt_ok a b na nb) ?_)|(refine And.intro ?_ ?_;all_goals(intro hb;(try simp only [sn,sb] at hb);try exact ex0))|(intro b0 hb)))
  refine loop_i (Nat × Bool) (fun z => ⟨Tryz.f11.ntmps, [(2, .ref 0 0 0 0), (3, .ref 1 0 0 0), (5, .con (.bool z.2)), (6, .con (.int .i64 z.1))], [(0, bxNt a), (1, bxNt b)]⟩)
    (fun z => z.1 ≤ a.tables.length ∧ (z.2 = true → sameNt a b = true) ∧ (z.2 && allEq (allEq rtEq) (a.tables.drop z.1) (b.tables.drop z.1)) = exactNt a b) (fun z => a.tables.length - z.1) [] (0, sameNt a b) trivial ⟨Nat.zero_le _, fun h => h, rfl⟩
    ⟨rfl, ⟨rfl, rfl, rfl, rfl, rfl, trivial, rfl, trivial, trivial⟩, ⟨rfl, rfl, trivial⟩, ⟨bx_cl a, bx_cl b, trivial⟩⟩ ?_
  rintro ⟨i, s⟩ ⟨h0, h1, h2⟩
  dsimp only at h0 h1 h2
  cases s with
  | false =>
    repeat' (first|(with_reducible first|refine zA ?_|refine zB ?_|refine zC ?_|refine zD ?_|refine zE ?_|refine zF ?_|refine zG ?_|refine zH ?_|refine zI ?_|refine zJ ?_|refine zK ?_|refine zL ?_)|(with_reducible refine reg_i ?_;intro K hK)|(with_reducible refine drw_i ?_;intro K hK)|((with_reducible refine cond_t ?hc ?_);(case hc=>rfl))|((with_reducible refine cond_f ?hc ?_);(case hc=>rfl))|((with_reducible refine cond_m ?_);refine And.intro ?_ ?_;all_goals(intro hb;(try simp only [sn,sb] at hb);try exact ex0))|(refine hK _ ?_;clear hK K)|(refine hK _ _ rfl ?_;clear hK K)|(have hg:=hK;clear hg;first|(refine And.intro ?zz ?_;case zz=>first|exact rfl|exact zO rfl|omega|exact gJ)|(refine fresh_n ?_)|(refine freshO_n ?_)|(refine at_Q ?_;intro hu)|(refine zP wA ?_)|(refine mul_Q ?_;intro hm1 hm2)|(refine zP at_M ?_)|(refine zP rfl ?_)|(refine And.intro ?_ ?_;all_goals(intro hb;(try simp only [sn,sb] at hb);try exact ex0))|(intro b0 hb)))
    rw [← h2, Bool.false_and]
    exact And.intro trivial (fz_con rfl)
  | true =>
    obtain ⟨hl, hrow⟩ := sameNt_tables (h1 rfl)
    by_cases hi : i < a.tables.length
    · have hst := allEq_step (f := allEq rtEq) hl hi
      have hs := SameList_ok (a.tables.getD i default) (b.tables.getD i default) (le62 (na.table _ (getD_mem hi))) (le62 (nb.table _ (getD_mem (by omega)))) (na.rat _ (getD_mem hi)) (nb.rat _ (getD_mem (by omega)))
      repeat' (first|(with_reducible first|refine zA ?_|refine zB ?_|refine zC ?_|refine zD ?_|refine zE ?_|refine zF ?_|refine zG ?_|refine zH ?_|refine zI ?_|refine zJ ?_|refine zK ?_|refine zL ?_)|(with_reducible refine reg_i ?_;intro K hK)|(with_reducible refine drw_i ?_;intro K hK)|((with_reducible refine cond_t ?hc ?_);(case hc=>rfl))|((with_reducible refine cond_f ?hc ?_);(case hc=>rfl))|((with_reducible refine cond_m ?_);refine And.intro ?_ ?_;all_goals(intro hb;(try simp only [sn,sb] at hb);try exact ex0))|(refine hK _ ?_;clear hK K)|(refine hK _ _ rfl ?_;clear hK K)|(have hg:=hK;clear hg;first|(refine And.intro ?zz ?_;case zz=>first|exact rfl|exact zO rfl|omega|exact gJ)|(refine fresh_n ?_)|(refine freshO_n ?_)|(refine at_Q ?_;intro hu)|(refine zP wA ?_)|(refine mul_Q ?_;intro hm1 hm2)|(refine zP at_M ?_)|(refine zP rfl ?_)|(refine zQ (hs) ?_)|(refine And.intro ?_ ?_;all_goals(intro hb;(try simp only [sn,sb] at hb);try exact ex0))|(intro b0 hb)))
      refine ⟨(i + 1, allEq rtEq (a.tables.getD i default) (b.tables.getD i default)), ⟨by show i + 1 ≤ _; omega, fun _ => h1 rfl, ?_⟩, by show _ - (i + 1) < _ - i; omega, rfl, ⟨rfl, rfl, rfl, rfl, rfl, trivial, rfl, trivial, trivial⟩, ⟨rfl, rfl, trivial⟩, ⟨bx_cl a, bx_cl b, trivial⟩⟩
      rw [← h2, hst, Bool.true_and]
    · repeat' (first|(with_reducible first|refine zA ?_|refine zB ?_|refine zC ?_|refine zD ?_|refine zE ?_|refine zF ?_|refine zG ?_|refine zH ?_|refine zI ?_|refine zJ ?_|refine zK ?_|refine zL ?_)|(with_reducible refine reg_i ?_;intro K hK)|(with_reducible refine drw_i ?_;intro K hK)|((with_reducible refine cond_t ?hc ?_);(case hc=>rfl))|((with_reducible refine cond_f ?hc ?_);(case hc=>rfl))|((with_reducible refine cond_m ?_);refine And.intro ?_ ?_;all_goals(intro hb;(try simp only [sn,sb] at hb);try exact ex0))|(refine hK _ ?_;clear hK K)|(refine hK _ _ rfl ?_;clear hK K)|(have hg:=hK;clear hg;first|(refine And.intro ?zz ?_;case zz=>first|exact rfl|exact zO rfl|omega|exact gJ)|(refine fresh_n ?_)|(refine freshO_n ?_)|(refine at_Q ?_;intro hu)|(refine zP wA ?_)|(refine mul_Q ?_;intro hm1 hm2)|(refine zP at_M ?_)|(refine zP rfl ?_)|(refine And.intro ?_ ?_;all_goals(intro hb;(try simp only [sn,sb] at hb);try exact ex0))|(intro b0 hb)))
      rw [← h2, allEq_end hl (by omega)]
      exact And.intro trivial (fz_con rfl)
theorem exactNt_refl (n : Nt) : exactNt n n = true := by
  have h4 := allEq_refl (f := allEq rtEq) n.tables (fun x _ => allEq_refl x (fun y _ => rtEq_refl y))
  have h : sameNt n n = true := by
    have h1 := allEq_refl (f := strEq) n.names (fun x _ => by simp [strEq])
    have h2 := allEq_refl (f := allEq strEq) n.values (fun x _ => allEq_refl x (fun y _ => by simp [strEq]))
    have h3 := allEq_refl (f := allEq intEq) n.parents (fun x _ => allEq_refl x (fun y _ => by simp [intEq]))
    have h4 := allEq_refl (f := allEq ratEq) n.tables (fun x _ => allEq_refl x (fun y _ => by unfold ratEq; rw [Int.sub_self]; rfl))
    simp [sameNt, h1, h2, h3, h4, strEq]
  rw [exactNt, h, h4]; rfl
def fitR (r : Rt) : Rt := ⟨r.neg, r.mag, if val r.den = 0 then [1] else r.den⟩
theorem fitR_denv (r : Rt) : denv (fitR r).den = denv r.den := by
  unfold fitR denv
  dsimp only
  split
  · rename_i h; simp [h, val]
  · rename_i h; simp [h]
theorem fitR_out (r : Rt) : outR (fitR r) = outR r := by
  unfold outR
  rw [fitR_denv]; rfl
theorem fitR_step (s : Int × Nat) (r : Rt) : stepQ s (fitR r) = stepQ s r := by
  unfold stepQ
  rw [fitR_denv]; rfl
theorem fzA3 {oh : OH} {f : Bool} {a b c : V} {x y z : T} (h1 : Fz1 oh f a x) (h2 : Fz1 oh f b y) (h3 : Fz1 oh f c z) : FzA oh f (.agg [a, b, c]) (.agg [x, y, z]) := by
  refine ⟨rfl, fun j v t hv ht => ?_⟩
  match j with
  | 0 => cases hv; cases ht; exact h1
  | 1 => cases hv; cases ht; exact h2
  | 2 => cases hv; cases ht; exact h3
  | j + 3 => simp at hv
theorem fitting_ok (r : Rt) (hr : RtOK r) : Ok Tryz.prog 34 [tRt r] false (tRt (fitR r)) := by
  obtain ⟨h1, h2⟩ := hr
  refine ok_of_ev (fun _ _ _ h => h) mix Tryz.func34 rfl rfl (by kernel_rfl) (Nat.le_of_ble_eq_true rfl) ?_
  repeat' (first|(with_reducible first|refine zA ?_|refine zB ?_|refine zC ?_|refine zD ?_|refine zE ?_|refine zF ?_|refine zG ?_|refine zH ?_|refine zI ?_|refine zJ ?_|refine zK ?_|refine zL ?_)|(with_reducible refine reg_i ?_;intro K hK)|(with_reducible refine drw_i ?_;intro K hK)|((with_reducible refine cond_t ?hc ?_);(case hc=>rfl))|((with_reducible refine cond_f ?hc ?_);(case hc=>rfl))|((with_reducible refine cond_m ?_);refine And.intro ?_ ?_;all_goals(intro hb;(try simp only [sn,sb] at hb);try exact ex0))|(refine hK _ ?_;clear hK K)|(refine hK _ _ rfl ?_;clear hK K)|(have hg:=hK;clear hg;first|(refine And.intro ?zz ?_;case zz=>first|exact rfl|exact zO rfl|omega|exact gJ)|(refine fresh_c 0 rfl ?_)|(refine fresh_c 1 rfl ?_)|(refine freshO_n ?_)|(refine at_Q ?_;intro hu)|(refine zP wA ?_)|(refine mul_Q ?_;intro hm1 hm2)|(refine zP at_M ?_)|(refine zP rfl ?_)|(refine zQ (Norm_ok r.den (by omega)) ?_)|(refine zQ (Of_ok 1) ?_)|(refine And.intro ?_ ?_;all_goals(intro hb;(try simp only [sn,sb] at hb);try exact ex0))|(intro b0 hb)))
  · have h0 : val r.den = 0 := by
      have h1 : norm r.den = [] := List.eq_nil_of_length_eq_zero (by omega)
      rw [norm_lm] at h1
      exact (lm_nil_iff _).1 h1
    have e : (fitR r).den = norm [(1 : UInt64).toUInt32, ((1 : UInt64) >>> 32).toUInt32] := by rw [norm_one]; exact if_pos h0
    refine ret_cell (l := [V.con (.bool r.neg), .ro false (tn r.mag), .ro true (tn (norm [(1 : UInt64).toUInt32, ((1 : UInt64) >>> 32).toUInt32]))]) rfl tk41 rfl (Nat.zero_lt_succ _) rfl rfl ?_
    have : tRt (fitR r) = .agg [.con (.bool r.neg), tn r.mag, tn (norm [(1 : UInt64).toUInt32, ((1 : UInt64) >>> 32).toUInt32])] := by
      show T.agg [.con (.bool r.neg), tn r.mag, tn (fitR r).den] = _
      rw [e]
    rw [this]
    exact fzA3 (.con _) (.ro false _ fun h => h) (.ro true _ fun h => rfl)
  · have h0 : val r.den ≠ 0 := fun h => by
      have h1 := (lm_nil_iff _).2 h
      rw [← norm_lm] at h1
      rw [h1] at hb; simp at hb
    have e : (fitR r).den = r.den := if_neg h0
    refine ret_cell (l := [V.con (.bool r.neg), .ro false (tn r.mag), .ro false (tn r.den)]) rfl tk41 rfl (Nat.zero_lt_succ _) rfl rfl ?_
    have : tRt (fitR r) = .agg [.con (.bool r.neg), tn r.mag, tn r.den] := by
      show T.agg [.con (.bool r.neg), tn r.mag, tn (fitR r).den] = _
      rw [e]
    rw [this]
    exact fzA3 (.con _) (.ro false _ fun h => h) (.ro false _ fun h => h)
def fitE (l : List Rt) (k : Nat) : List V := if k = 0 then List.replicate l.length (.agg [.con (.bool false), .emp, .emp]) else (l.take k).map fun r => rtV (fitR r)
theorem fitE_app {l : List Rt} {k : Nat} (h : k < l.length) : (fitE l k).take k ++ [rtV (fitR (l.getD k default))] = fitE l (k + 1) := by
  have e : fitE l (k + 1) = (l.take (k + 1)).map fun r => rtV (fitR r) := if_neg (by omega)
  rw [e, take_onD h, List.map_append]
  by_cases hk : k = 0
  · subst hk; rfl
  · rw [show fitE l k = (l.take k).map fun r => rtV (fitR r) from if_neg hk, List.take_of_length_le (by rw [List.length_map, List.length_take]; omega)]; rfl
theorem fitE_cl (l : List Rt) (k : Nat) (oh : OH) : ∀ v ∈ fitE l k, v.cl oh := by
  unfold fitE
  split
  · intro v hv
    obtain ⟨_, rfl⟩ := List.mem_replicate.1 hv
    intro u hu
    simp at hu
    rcases hu with rfl | rfl | rfl <;> trivial
  · intro v hv
    obtain ⟨r, -, rfl⟩ := List.mem_map.1 hv
    exact (rtV_flat _).cl oh
theorem fittings_ok (l : List Rt) (hl : l.length ≤ 1048576) (hr : ∀ r ∈ l, RtOK r) : Ok Tryz.prog 26 [tRL l] false (tRL (l.map fitR)) := by
  refine ok_of_ev (fun _ _ _ h => h) mix Tryz.func26 rfl rfl (by kernel_rfl) (Nat.le_of_ble_eq_true rfl) ?_
  repeat' (first|(with_reducible first|refine zA ?_|refine zB ?_|refine zC ?_|refine zD ?_|refine zE ?_|refine zF ?_|refine zG ?_|refine zH ?_|refine zI ?_|refine zJ ?_|refine zK ?_|refine zL ?_)|(with_reducible refine reg_i ?_;intro K hK)|(with_reducible refine drw_i ?_;intro K hK)|((with_reducible refine cond_t ?hc ?_);(case hc=>rfl))|((with_reducible refine cond_f ?hc ?_);(case hc=>rfl))|((with_reducible refine cond_m ?_);refine And.intro ?_ ?_;all_goals(intro hb;(try simp only [sn,sb] at hb);try exact ex0))|(refine hK _ ?_;clear hK K)|(refine hK _ _ rfl ?_;clear hK K)|(have hg:=hK;clear hg;first|(refine And.intro ?zz ?_;case zz=>first|exact rfl|exact zO rfl|omega|exact gJ)|(refine fresh_c 0 rfl ?_)|(refine freshO_n ?_)|(refine at_Q ?_;intro hu)|(refine zP wA ?_)|(refine mul_Q ?_;intro hm1 hm2)|(refine zP at_M ?_)|(refine zP rfl ?_)|(refine And.intro ?_ ?_;all_goals(intro hb;(try simp only [sn,sb] at hb);try exact ex0))|(intro b0 hb)))
  refine loop_i Nat (fun k => ⟨Tryz.f26.ntmps, [(3, .own 0 k 0 k), (9, .ro false (tRL l)), (10, .con (.int .i64 l.length)), (11, .con (.int .i64 k))], [(0, ⟨3, fitE l k, k, true⟩)]⟩) (fun k => k ≤ l.length) (fun k => l.length - k) [] 0 trivial (Nat.zero_le _) ⟨rfl, ⟨rfl, rfl, rfl, trivial, lenI _ _, trivial, rfl, trivial, trivial⟩, ⟨?_, trivial⟩, ⟨fun v hv => fitE_cl l 0 _ v hv, trivial⟩⟩ ?_
  · show some (⟨3, List.replicate (((l.map tRt).length : Nat) : Int).toNat (.agg [.con (.bool false), .emp, .emp]), 0, true⟩ : Obj) = some ⟨3, fitE l 0, 0, true⟩
    rw [Int.toNat_natCast, List.length_map]; rfl
  intro k h0
  by_cases hk : k < l.length
  · have hf := fitting_ok (l.getD k default) (hr _ (getD_mem hk))
    repeat' (first|(with_reducible first|refine zA ?_|refine zB ?_|refine zC ?_|refine zD ?_|refine zE ?_|refine zF ?_|refine zG ?_|refine zH ?_|refine zI ?_|refine zJ ?_|refine zK ?_|refine zL ?_)|(with_reducible refine reg_i ?_;intro K hK)|(with_reducible refine drw_i ?_;intro K hK)|((with_reducible refine cond_t ?hc ?_);(case hc=>rfl))|((with_reducible refine cond_f ?hc ?_);(case hc=>rfl))|((with_reducible refine cond_m ?_);refine And.intro ?_ ?_;all_goals(intro hb;(try simp only [sn,sb] at hb);try exact ex0))|(refine hK _ ?_;clear hK K)|(refine hK _ _ rfl ?_;clear hK K)|(have hg:=hK;clear hg;first|(refine And.intro ?zz ?_;case zz=>first|exact rfl|exact zO rfl|omega|exact gJ)|(refine fresh_c 1 rfl ?_)|(refine fresh_c 2 rfl ?_)|(refine freshO_n ?_)|(refine at_Q ?_;intro hu)|(refine zP wA ?_)|(refine mul_Q ?_;intro hm1 hm2)|(refine zP at_M ?_)|(refine zP rfl ?_)|(refine zQ (hf) ?_)|(refine And.intro ?_ ?_;all_goals(intro hb;(try simp only [sn,sb] at hb);try exact ex0))|(intro b0 hb)))
    refine ⟨k + 1, hk, by omega, rfl, ⟨rfl, rfl, rfl, trivial, rfl, trivial, rfl, trivial, trivial⟩, ⟨?_, trivial⟩, ⟨fun v hv => fitE_cl l (k + 1) _ v hv, trivial⟩⟩
    show some (⟨3, (fitE l k).take k ++ [rtV (fitR (l.getD k default))], k + 1, true⟩ : Obj) = some ⟨3, fitE l (k + 1), k + 1, true⟩
    rw [fitE_app hk]
  · repeat' (first|(with_reducible first|refine zA ?_|refine zB ?_|refine zC ?_|refine zD ?_|refine zE ?_|refine zF ?_|refine zG ?_|refine zH ?_|refine zI ?_|refine zJ ?_|refine zK ?_|refine zL ?_)|(with_reducible refine reg_i ?_;intro K hK)|(with_reducible refine drw_i ?_;intro K hK)|((with_reducible refine cond_t ?hc ?_);(case hc=>rfl))|((with_reducible refine cond_f ?hc ?_);(case hc=>rfl))|((with_reducible refine cond_m ?_);refine And.intro ?_ ?_;all_goals(intro hb;(try simp only [sn,sb] at hb);try exact ex0))|(refine hK _ ?_;clear hK K)|(refine hK _ _ rfl ?_;clear hK K)|(have hg:=hK;clear hg;first|(refine And.intro ?zz ?_;case zz=>first|exact rfl|exact zO rfl|omega|exact gJ)|(refine fresh_n ?_)|(refine freshO_n ?_)|(refine at_Q ?_;intro hu)|(refine zP wA ?_)|(refine mul_Q ?_;intro hm1 hm2)|(refine zP at_M ?_)|(refine zP rfl ?_)|(refine And.intro ?_ ?_;all_goals(intro hb;(try simp only [sn,sb] at hb);try exact ex0))|(intro b0 hb)))
    obtain rfl : k = l.length := by omega
    have he : fitE l l.length = (l.map fitR).map rtV := by
      unfold fitE
      split
      · rename_i h; rw [List.eq_nil_of_length_eq_zero h]; rfl
      · rw [List.take_length, List.map_map]; rfl
    refine And.intro trivial (fz_own (l := l.map fitR) (F := rtV) (G := tRt) (o := ⟨3, fitE l l.length, l.length, true⟩) rfl rfl rfl (by rw [List.length_map]) ?_ (fun a _ => fz_rt a) rfl)
    show List.take _ (List.drop 0 (fitE l l.length)) = _
    rw [he, List.drop_zero, List.take_of_length_le (by rw [List.length_map, List.length_map]; exact Nat.le_refl _)]
theorem IndexFunc_ok (F : FuncId) (f : Rt → Bool) (l : List Rt) (hl : l.length ≤ 4611686018427387904) (hf : ∀ r ∈ l, Ok Tryz.prog F [tRt r] true (.con (.bool (f r)))) :
    ∃ n : Int, Ok Tryz.prog 47 [tRL l, .con (.func (.func F) #[] #[])] true (.con (.int .i64 n)) ∧ (0 ≤ n ↔ l.any f = true) := by
  have key : ∀ (n : Int), (∀ i, i < l.length → (∀ j ∈ List.range i, f (l.getD j default) = false) → f (l.getD i default) = true → n = i) → ((∀ j ∈ List.range l.length, f (l.getD j default) = false) → n = -1) →
      Ok Tryz.prog 47 [tRL l, .con (.func (.func F) #[] #[])] true (.con (.int .i64 n)) := by
    intro n hn1 hn2
    refine ok_of_ev (fun _ _ _ h => h) mix Tryz.func47 rfl rfl (by kernel_rfl) (Nat.le_of_ble_eq_true rfl) ?_
    repeat' (first|(with_reducible first|refine zA ?_|refine zB ?_|refine zC ?_|refine zD ?_|refine zE ?_|refine zF ?_|refine zG ?_|refine zH ?_|refine zI ?_|refine zJ ?_|refine zK ?_|refine zL ?_)|(with_reducible refine reg_i ?_;intro K hK)|(with_reducible refine drw_i ?_;intro K hK)|((with_reducible refine cond_t ?hc ?_);(case hc=>rfl))|((with_reducible refine cond_f ?hc ?_);(case hc=>rfl))|((with_reducible refine cond_m ?_);refine And.intro ?_ ?_;all_goals(intro hb;(try simp only [sn,sb] at hb);try exact ex0))|(refine hK _ ?_;clear hK K)|(refine hK _ _ rfl ?_;clear hK K)|(have hg:=hK;clear hg;first|(refine And.intro ?zz ?_;case zz=>first|exact rfl|exact zO rfl|omega|exact gJ)|(refine fresh_n ?_)|(refine freshO_n ?_)|(refine at_Q ?_;intro hu)|(refine zP wA ?_)|(refine mul_Q ?_;intro hm1 hm2)|(refine zP at_M ?_)|(refine zP rfl ?_)|(refine And.intro ?_ ?_;all_goals(intro hb;(try simp only [sn,sb] at hb);try exact ex0))|(intro b0 hb)))
    refine loop_i Nat (fun k => ⟨Tryz.f47.ntmps, [(0, .ro false (tRL l)), (1, .con (.func (.func F) #[] #[])), (7, .con (.int .i64 l.length)), (8, .con (.int .i64 k))], []⟩) (fun k => k ≤ l.length ∧ ∀ j ∈ List.range k, f (l.getD j default) = false) (fun k => l.length - k) [] 0 trivial ⟨Nat.zero_le _, by simp⟩ ⟨rfl, ⟨rfl, trivial, rfl, trivial, lenI _ _, trivial, rfl, trivial, trivial⟩, trivial, trivial⟩ ?_
    rintro k ⟨h0, h1⟩
    by_cases hk : k < l.length
    · have hfk := hf _ (getD_mem hk)
      repeat' (first|(with_reducible first|refine zA ?_|refine zB ?_|refine zC ?_|refine zD ?_|refine zE ?_|refine zF ?_|refine zG ?_|refine zH ?_|refine zI ?_|refine zJ ?_|refine zK ?_|refine zL ?_)|(with_reducible refine reg_i ?_;intro K hK)|(with_reducible refine drw_i ?_;intro K hK)|((with_reducible refine cond_t ?hc ?_);(case hc=>rfl))|((with_reducible refine cond_f ?hc ?_);(case hc=>rfl))|((with_reducible refine cond_m ?_);refine And.intro ?_ ?_;all_goals(intro hb;(try simp only [sn,sb] at hb);try exact ex0))|(refine hK _ ?_;clear hK K)|(refine hK _ _ rfl ?_;clear hK K)|(have hg:=hK;clear hg;first|(refine And.intro ?zz ?_;case zz=>first|exact rfl|exact zO rfl|omega|exact gJ)|(refine fresh_n ?_)|(refine freshO_n ?_)|(refine at_Q ?_;intro hu)|(refine zP wA ?_)|(refine mul_Q ?_;intro hm1 hm2)|(refine zP at_M ?_)|(refine zP rfl ?_)|(refine zQ (hfk) ?_)|(refine And.intro ?_ ?_;all_goals(intro hb;(try simp only [sn,sb] at hb);try exact ex0))|(intro b0 hb)))
      · exact And.intro trivial (fz_con (congrArg (Value.int .i64) (hn1 k hk h1 hb).symm))
      · exact ⟨k + 1, ⟨by omega, range_step h1 hb⟩, by omega, rfl, ⟨rfl, trivial, rfl, trivial, rfl, trivial, rfl, trivial, trivial⟩, trivial, trivial⟩
    · repeat' (first|(with_reducible first|refine zA ?_|refine zB ?_|refine zC ?_|refine zD ?_|refine zE ?_|refine zF ?_|refine zG ?_|refine zH ?_|refine zI ?_|refine zJ ?_|refine zK ?_|refine zL ?_)|(with_reducible refine reg_i ?_;intro K hK)|(with_reducible refine drw_i ?_;intro K hK)|((with_reducible refine cond_t ?hc ?_);(case hc=>rfl))|((with_reducible refine cond_f ?hc ?_);(case hc=>rfl))|((with_reducible refine cond_m ?_);refine And.intro ?_ ?_;all_goals(intro hb;(try simp only [sn,sb] at hb);try exact ex0))|(refine hK _ ?_;clear hK K)|(refine hK _ _ rfl ?_;clear hK K)|(have hg:=hK;clear hg;first|(refine And.intro ?zz ?_;case zz=>first|exact rfl|exact zO rfl|omega|exact gJ)|(refine fresh_n ?_)|(refine freshO_n ?_)|(refine at_Q ?_;intro hu)|(refine zP wA ?_)|(refine mul_Q ?_;intro hm1 hm2)|(refine zP at_M ?_)|(refine zP rfl ?_)|(refine And.intro ?_ ?_;all_goals(intro hb;(try simp only [sn,sb] at hb);try exact ex0))|(intro b0 hb)))
      rw [show k = l.length by omega] at h1
      exact And.intro trivial (fz_con (congrArg (Value.int .i64) (hn2 h1).symm))
  cases e : (List.range l.length).find? (fun i => f (l.getD i default)) with
  | some i =>
    rw [List.find?_range_eq_some] at e
    obtain ⟨e1, e2, e3⟩ := e
    have hi := List.mem_range.1 e2
    refine ⟨i, key i (fun j hj hj1 hj2 => ?_) (fun h => ?_), fun _ => ?_, fun _ => by omega⟩
    · have h1 : ¬ j < i := fun h => by have := e3 j h; rw [hj2] at this; simp at this
      have h2 : ¬ i < j := fun h => by have := hj1 i (List.mem_range.2 h); rw [e1] at this; cases this
      omega
    · have := h i e2
      rw [e1] at this; cases this
    · rw [List.any_eq_true]; exact ⟨_, getD_mem hi, e1⟩
  | none =>
    have hn : ∀ j ∈ List.range l.length, f (l.getD j default) = false := fun j hj => by simpa using List.find?_eq_none.1 e j hj
    refine ⟨-1, key (-1) (fun j hj _ hj2 => ?_) (fun _ => rfl), fun h => by omega, fun h => ?_⟩
    · rw [hn j (List.mem_range.2 hj)] at hj2; cases hj2
    · obtain ⟨r, hr, hfr⟩ := List.any_eq_true.1 h
      obtain ⟨j, hj, rfl⟩ := List.mem_iff_getElem.1 hr
      have := hn j (List.mem_range.2 hj)
      simp [List.getD, hj] at this
      rw [hfr] at this; cases this
theorem ContainsFunc_ok (F : FuncId) (f : Rt → Bool) (l : List Rt) (hl : l.length ≤ 4611686018427387904) (hf : ∀ r ∈ l, Ok Tryz.prog F [tRt r] true (.con (.bool (f r)))) :
    Ok Tryz.prog 25 [tRL l, .con (.func (.func F) #[] #[])] true (.con (.bool (l.any f))) := by
  obtain ⟨n, hn, hi⟩ := IndexFunc_ok F f l hl hf
  refine ok_of_ev (fun _ _ _ h => h) mix Tryz.func25 rfl rfl (by kernel_rfl) (Nat.le_of_ble_eq_true rfl) ?_
  repeat' (first|(with_reducible first|refine zA ?_|refine zB ?_|refine zC ?_|refine zD ?_|refine zE ?_|refine zF ?_|refine zG ?_|refine zH ?_|refine zI ?_|refine zJ ?_|refine zK ?_|refine zL ?_)|(with_reducible refine reg_i ?_;intro K hK)|(with_reducible refine drw_i ?_;intro K hK)|((with_reducible refine cond_t ?hc ?_);(case hc=>rfl))|((with_reducible refine cond_f ?hc ?_);(case hc=>rfl))|((with_reducible refine cond_m ?_);refine And.intro ?_ ?_;all_goals(intro hb;(try simp only [sn,sb] at hb);try exact ex0))|(refine hK _ ?_;clear hK K)|(refine hK _ _ rfl ?_;clear hK K)|(have hg:=hK;clear hg;first|(refine And.intro ?zz ?_;case zz=>first|exact rfl|exact zO rfl|omega|exact gJ)|(refine fresh_n ?_)|(refine freshO_n ?_)|(refine at_Q ?_;intro hu)|(refine zP wA ?_)|(refine mul_Q ?_;intro hm1 hm2)|(refine zP at_M ?_)|(refine zP rfl ?_)|(refine zQ (hn) ?_)|(refine And.intro ?_ ?_;all_goals(intro hb;(try simp only [sn,sb] at hb);try exact ex0))|(intro b0 hb)))
  refine And.intro trivial (fz_con (congrArg Value.bool ?_))
  cases e : l.any f with
  | true => exact decide_eq_true (hi.2 e)
  | false => exact decide_eq_false fun h => by rw [hi.1 h] at e; cases e
end Go.Ev
