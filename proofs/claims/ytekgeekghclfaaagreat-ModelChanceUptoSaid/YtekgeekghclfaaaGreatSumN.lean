import Derived.Test.YtekgeekghclfaaaGreatFracN
import Derived.Test.YtekgeekghclfaaaGreatEq
set_option linter.all false
namespace Go.Ev
open Go.Proofs
set_option maxRecDepth 10000
set_option maxHeartbeats 4000000
set_option linter.unusedSimpArgs false
set_option linter.unusedVariables false
def stepQ (s : Int × Nat) (r : Rt) : Int × Nat := (qz s.1 s.2 * denv r.den + iv r.neg r.mag * qd s.1 s.2, qd s.1 s.2 * denv r.den)
def sumQ (l : List Rt) : Int × Nat := l.foldl stepQ (0, 1)
def szR (r : Rt) : Nat := r.mag.length + r.den.length + 2
def bulkR (l : List Rt) : Nat := (l.map szR).sum
theorem sumQ_snoc (l : List Rt) (r : Rt) : sumQ (l ++ [r]) = stepQ (sumQ l) r := by unfold sumQ; rw [List.foldl_append]; rfl
theorem bulkR_snoc (l : List Rt) (r : Rt) : bulkR (l ++ [r]) = bulkR l + szR r := by unfold bulkR; simp
theorem take_snoc {α : Type} [Inhabited α] {l : List α} {i : Nat} (h : i < l.length) : l.take (i + 1) = l.take i ++ [l.getD i default] := by
  rw [List.take_succ_eq_append_getElem h]; simp [List.getD, h]
theorem bulkR_take {l : List Rt} {i : Nat} : bulkR (l.take i) ≤ bulkR l := by
  unfold bulkR
  conv => rhs; rw [← List.take_append_drop i l]
  rw [List.map_append, List.sum_append]; omega
theorem bulkR_mem {l : List Rt} {r : Rt} (h : r ∈ l) : szR r ≤ bulkR l := by
  unfold bulkR
  induction l with
  | nil => simp at h
  | cons a s ih =>
    rw [List.map_cons, List.sum_cons]
    rcases List.mem_cons.1 h with rfl | h
    · omega
    · have := ih h; omega
theorem qd_pos {z : Int} {d : Nat} (h : d ≠ 0) : qd z d ≠ 0 := by
  unfold qd
  have hg : Nat.gcd z.natAbs d ∣ d := Nat.gcd_dvd_right _ _
  have := Nat.div_pos (Nat.le_of_dvd (Nat.pos_of_ne_zero h) hg) (Nat.pos_of_dvd_of_pos hg (Nat.pos_of_ne_zero h))
  omega
theorem qd_le (z : Int) (d : Nat) : qd z d ≤ d := Nat.div_le_self _ _
theorem qz_le (z : Int) (d : Nat) : (qz z d).natAbs ≤ z.natAbs := by
  unfold qz
  rw [Int.natAbs_tdiv]
  exact Nat.div_le_self _ _
theorem denv_lm {d : Nat} (h : d ≠ 0) : denv (lm d) = d := by unfold denv; rw [val_lm, if_neg h]
def QOK (s : Int × Nat) (B : Nat) : Prop := s.2 ≠ 0 ∧ (lm (qz s.1 s.2).natAbs).length ≤ B ∧ (lm (qd s.1 s.2)).length ≤ B
theorem QOK.step {s : Int × Nat} {B : Nat} (h : QOK s B) (r : Rt) : QOK (stepQ s r) (B + szR r) := by
  obtain ⟨h1, h2, h3⟩ := h
  have hd := lm_den_len r.den
  have hq := qd_pos (z := s.1) h1
  refine ⟨Nat.mul_ne_zero hq (denv_pos _), ?_, ?_⟩
  · have e1 := lm_len_le (qz_le (stepQ s r).1 (stepQ s r).2)
    refine Nat.le_trans e1 ?_
    have e2 : (lm (qz s.1 s.2 * denv r.den).natAbs).length ≤ B + (lm (denv r.den)).length := by
      rw [Int.natAbs_mul]
      have := lm_mul_len (lm (qz s.1 s.2).natAbs) (lm (denv r.den))
      rw [val_lm, val_lm] at this
      exact Nat.le_trans this (by omega)
    have e3 : (lm (iv r.neg r.mag * qd s.1 s.2).natAbs).length ≤ r.mag.length + B := by
      rw [Int.natAbs_mul, iv_abs]
      have := lm_mul_len r.mag (lm (qd s.1 s.2))
      rw [val_lm] at this
      exact Nat.le_trans this (by omega)
    have e4 := lm_add_bound e2 e3
    unfold szR
    refine Nat.le_trans e4 ?_
    omega
  · have e1 := lm_len_le (qd_le (stepQ s r).1 (stepQ s r).2)
    refine Nat.le_trans e1 ?_
    have := lm_mul_len (lm (qd s.1 s.2)) (lm (denv r.den))
    rw [val_lm, val_lm] at this
    unfold szR
    exact Nat.le_trans this (by omega)
theorem qz_01 : qz 0 1 = 0 := by unfold qz; rfl
theorem qd_01 : qd 0 1 = 1 := by unfold qd; rfl
theorem sumQ_ok (l : List Rt) : QOK (sumQ l) (1 + bulkR l) := by
  suffices h : ∀ n (l : List Rt), l.length = n → QOK (sumQ l) (1 + bulkR l) from h _ l rfl
  intro n
  induction n with
  | zero =>
    intro l hl
    obtain rfl := List.eq_nil_of_length_eq_zero hl
    refine ⟨by decide, ?_, ?_⟩
    · show (lm (qz 0 1).natAbs).length ≤ _
      rw [qz_01, show (0 : Int).natAbs = 0 from rfl, (lm_nil_iff 0).2 rfl]; exact Nat.zero_le _
    · show (lm (qd 0 1)).length ≤ _
      rw [qd_01]
      exact Nat.le_trans (lm_len (n := 1) (k := 1) (by decide)) (by omega)
  | succ n ih =>
    intro l hl
    have hlt : n < l.length := by omega
    have e := take_snoc hlt
    rw [← hl, List.take_length] at e
    have h1 := (ih (l.take n) (by rw [List.length_take]; omega)).step (l.getD n default)
    rw [← sumQ_snoc, Nat.add_assoc, ← bulkR_snoc, ← e] at h1
    exact h1
def rQ (s : Int × Nat) : V := .agg [.con (.bool (decide (qz s.1 s.2 < 0))), .ro true (tn (lm (qz s.1 s.2).natAbs)), .ro true (tn (lm (qd s.1 s.2)))]
def zR : V := .agg [.con (.bool false), .emp, .emp]
theorem norm_one : norm [(1 : UInt64).toUInt32, ((1 : UInt64) >>> 32).toUInt32] = [1] := by rfl
theorem AddQ_ok (s : Int × Nat) (r : Rt) {B : Nat} (hs : QOK s B) (hB : B ≤ 268435456) (hr : szR r ≤ 268435456) : Ok Tryz.prog 78 [tQ s.1 s.2, tRt r] true (tQ (stepQ s r).1 (stepQ s r).2) := by
  obtain ⟨h1, h2, h3⟩ := hs
  unfold szR at hr
  have h := AddR_ok (decide (qz s.1 s.2 < 0)) r.neg (lm (qz s.1 s.2).natAbs) (lm (qd s.1 s.2)) r.mag r.den (by omega) (by omega) (by omega) (by omega)
  rw [iv_Z, denv_lm (qd_pos h1)] at h
  exact h
theorem rAddQ_ok (s : Int × Nat) (r : Rt) {B : Nat} (hs : QOK s B) (hB : B ≤ 268435456) (hr : szR r ≤ 268435456) : Ok Tryz.prog 69 [tQ s.1 s.2, tRt r] true (tQ (stepQ s r).1 (stepQ s r).2) := by
  obtain ⟨h1, h2, h3⟩ := hs
  unfold szR at hr
  have h := rAddR_ok (decide (qz s.1 s.2 < 0)) r.neg (lm (qz s.1 s.2).natAbs) (lm (qd s.1 s.2)) r.mag r.den (by omega) (by omega) (by omega) (by omega)
  rw [iv_Z, denv_lm (qd_pos h1)] at h
  exact h
theorem Sum_ok (l : List Rt) (hl : bulkR l ≤ 268435400) (hl2 : l.length ≤ 268435456) : Ok Tryz.prog 51 [tRL l] true (tQ (sumQ l).1 (sumQ l).2) := by
  refine ok_of_ev (fun _ _ _ h => h) mix Tryz.func51 rfl rfl (by kernel_rfl) (Nat.le_of_ble_eq_true rfl) ?_
  repeat' (first|(with_reducible first|refine zA ?_|refine zB ?_|refine zC ?_|refine zD ?_|refine zE ?_|refine zF ?_|refine zG ?_|refine zH ?_|refine zI ?_|refine zJ ?_|refine zK ?_|refine zL ?_)|(with_reducible refine reg_i ?_;intro K hK)|(with_reducible refine drw_i ?_;intro K hK)|((with_reducible refine cond_t ?hc ?_);(case hc=>rfl))|((with_reducible refine cond_f ?hc ?_);(case hc=>rfl))|((with_reducible refine cond_m ?_);refine And.intro ?_ ?_;all_goals(intro hb;(try simp only [sn,sb] at hb);try exact ex0))|(refine hK _ ?_;clear hK K)|(refine hK _ _ rfl ?_;clear hK K)|(have hg:=hK;clear hg;first|(refine And.intro ?zz ?_;case zz=>first|exact rfl|exact zO rfl|omega|exact gI)|(refine fresh_c 0 rfl ?_)|(refine fresh_c 1 rfl ?_)|(refine fresh_c 2 rfl ?_)|(refine freshO_n ?_)|(refine at_Q ?_;intro hu)|(refine zP wA ?_)|(refine mul_Q ?_;intro hm1 hm2)|(refine zP at_M ?_)|(refine zP rfl ?_)|(refine zQ (Of_ok 1) ?_)|(refine And.intro ?_ ?_;all_goals(intro hb;(try simp only [sn,sb] at hb);try exact ex0))|(intro b0 hb)))
  refine loop_f Nat (fun i => ⟨Tryz.f51.ntmps, [(2, .ref 0 0 0 0), (3, .ref 1 0 0 0), (8, .ro false (tRL l)), (9, .con (.int .i64 l.length)), (10, .con (.int .i64 i))], [(0, ⟨3, [zR], 0, true⟩), (1, ⟨3, [rQ (sumQ (l.take i))], 0, true⟩)]⟩)
    (fun i => i ≤ l.length) (fun i => l.length - i) 0 (Nat.zero_le _) (lf_of0 ?_ ?_) ?_
  · refine ⟨Lc.same _ rfl, Lc.same _ rfl, Lc.same _ trivial, ?_, Lc.same _ trivial, trivial⟩
    show LV _ _ (.con (.int .i64 ((l.map tRt).length : Nat))) _
    rw [List.length_map]; exact Lc.same _ trivial
  · refine ⟨lfOb_keep rfl ?_, lfOb_one rfl ?_, trivial⟩
    · intro x hx
      obtain rfl := List.mem_singleton.1 hx
      exact lv_agg ⟨Lc.same _ trivial, Lc.same _ trivial, Lc.same _ trivial, trivial⟩
    · refine lv_agg ⟨?_, ?_, ?_, trivial⟩
      · show Lc _ _ (.con (.bool false)) (.con (.bool (decide (qz 0 1 < 0))))
        rw [qz_01]; exact Lc.same _ trivial
      · show Lc _ _ .emp (.ro true (tn (lm (qz 0 1).natAbs)))
        rw [qz_01, show (0 : Int).natAbs = 0 from rfl, (lm_nil_iff 0).2 rfl]
        exact Lc.frz true .emp (tn []) .emp
      · show Lc _ _ (.ro true (tn (norm [(1 : UInt64).toUInt32, ((1 : UInt64) >>> 32).toUInt32]))) (.ro true (tn (lm (qd 0 1))))
        rw [norm_one, qd_01, lm_one]
        exact Lc.same _ trivial
  rintro i hi
  by_cases hlt : i < l.length
  · have hb1 := bulkR_take (l := l) (i := i)
    have hm := bulkR_mem (getD_mem hlt)
    have hadd := AddQ_ok (sumQ (l.take i)) (l.getD i default) (sumQ_ok (l.take i)) (by omega) (by omega)
    repeat' (first|(with_reducible first|refine zA ?_|refine zB ?_|refine zC ?_|refine zD ?_|refine zE ?_|refine zF ?_|refine zG ?_|refine zH ?_|refine zI ?_|refine zJ ?_|refine zK ?_|refine zL ?_)|(with_reducible refine reg_i ?_;intro K hK)|(with_reducible refine drw_i ?_;intro K hK)|((with_reducible refine cond_t ?hc ?_);(case hc=>rfl))|((with_reducible refine cond_f ?hc ?_);(case hc=>rfl))|((with_reducible refine cond_m ?_);refine And.intro ?_ ?_;all_goals(intro hb;(try simp only [sn,sb] at hb);try exact ex0))|(refine hK _ ?_;clear hK K)|(refine hK _ _ rfl ?_;clear hK K)|(have hg:=hK;clear hg;first|(refine And.intro ?zz ?_;case zz=>first|exact rfl|exact zO rfl|omega|exact gI)|(refine fresh_c 2 rfl ?_)|(refine freshO_n ?_)|(refine at_Q ?_;intro hu)|(refine zP wA ?_)|(refine mul_Q ?_;intro hm1 hm2)|(refine zP at_M ?_)|(refine zP rfl ?_)|(refine zQ (hadd) ?_)|(refine And.intro ?_ ?_;all_goals(intro hb;(try simp only [sn,sb] at hb);try exact ex0))|(intro b0 hb)))
    have e : sumQ (l.take (i + 1)) = stepQ (sumQ (l.take i)) (l.getD i default) := by rw [take_snoc hlt, sumQ_snoc]
    refine ⟨i + 1, hlt, by omega, lf_of0 ?_ ?_⟩
    · exact ⟨Lc.same _ rfl, Lc.same _ rfl, Lc.same _ trivial, Lc.same _ trivial, Lc.same _ trivial, trivial⟩
    · rw [e]
      refine ⟨lfOb_keep rfl ?_, lfOb_keep rfl ?_, trivial⟩
      · intro x hx
        obtain rfl := List.mem_singleton.1 hx
        exact lv_agg ⟨Lc.same _ trivial, Lc.same _ trivial, Lc.same _ trivial, trivial⟩
      · intro x hx
        obtain rfl := List.mem_singleton.1 hx
        exact lv_agg ⟨Lc.same _ trivial, Lc.same _ trivial, Lc.same _ trivial, trivial⟩
  · repeat' (first|(with_reducible first|refine zA ?_|refine zB ?_|refine zC ?_|refine zD ?_|refine zE ?_|refine zF ?_|refine zG ?_|refine zH ?_|refine zI ?_|refine zJ ?_|refine zK ?_|refine zL ?_)|(with_reducible refine reg_i ?_;intro K hK)|(with_reducible refine drw_i ?_;intro K hK)|((with_reducible refine cond_t ?hc ?_);(case hc=>rfl))|((with_reducible refine cond_f ?hc ?_);(case hc=>rfl))|((with_reducible refine cond_m ?_);refine And.intro ?_ ?_;all_goals(intro hb;(try simp only [sn,sb] at hb);try exact ex0))|(refine hK _ ?_;clear hK K)|(refine hK _ _ rfl ?_;clear hK K)|(have hg:=hK;clear hg;first|(refine And.intro ?zz ?_;case zz=>first|exact rfl|exact zO rfl|omega|exact gI)|(refine fresh_n ?_)|(refine freshO_n ?_)|(refine at_Q ?_;intro hu)|(refine zP wA ?_)|(refine mul_Q ?_;intro hm1 hm2)|(refine zP at_M ?_)|(refine zP rfl ?_)|(refine And.intro ?_ ?_;all_goals(intro hb;(try simp only [sn,sb] at hb);try exact ex0))|(intro b0 hb)))
    have hil : i = l.length := by omega
    rw [hil, List.take_length]
    exact ret_cell (l := [V.con (.bool (decide (qz (sumQ l).1 (sumQ l).2 < 0))), .ro true (tn (lm (qz (sumQ l).1 (sumQ l).2).natAbs)), .ro true (tn (lm (qd (sumQ l).1 (sumQ l).2)))]) rfl tk41 rfl (Nat.zero_lt_succ _) rfl rfl rat_eta
theorem rOf0_ok : Ok Tryz.prog 123 [.con (.int .u64 0)] true (tn (lm 0)) := by
  refine ok_of_ev (fun _ _ _ h => h) mix Tryz.func123 rfl rfl (by kernel_rfl) (Nat.le_of_ble_eq_true rfl) ?_
  repeat' (first|(with_reducible first|refine zA ?_|refine zB ?_|refine zC ?_|refine zD ?_|refine zE ?_|refine zF ?_|refine zG ?_|refine zH ?_|refine zI ?_|refine zJ ?_|refine zK ?_|refine zL ?_)|(with_reducible refine reg_i ?_;intro K hK)|(with_reducible refine drw_i ?_;intro K hK)|((with_reducible refine cond_t ?hc ?_);(case hc=>rfl))|((with_reducible refine cond_f ?hc ?_);(case hc=>rfl))|((with_reducible refine cond_m ?_);refine And.intro ?_ ?_;all_goals(intro hb;(try simp only [sn,sb] at hb);try exact ex0))|(refine hK _ ?_;clear hK K)|(refine hK _ _ rfl ?_;clear hK K)|(have hg:=hK;clear hg;first|(refine And.intro ?zz ?_;case zz=>first|exact rfl|exact zO rfl|omega|exact gI)|(refine fresh_c 0 rfl ?_)|(refine freshO_n ?_)|(refine at_Q ?_;intro hu)|(refine zP wA ?_)|(refine mul_Q ?_;intro hm1 hm2)|(refine zP at_M ?_)|(refine zP rfl ?_)|(refine And.intro ?_ ?_;all_goals(intro hb;(try simp only [sn,sb] at hb);try exact ex0))|(intro b0 hb)))
  refine Or.inl (Exists.intro _ (Exists.intro _ (Exists.intro _ (And.intro (rNorm_ok [0, 0] (by decide)) (Exists.intro [(0, ?o)] (And.intro (lpre1 ?ho) (And.intro ?z (And.intro rfl ?_))))))))
  case ho => exact rfl
  case z => exact fzl1 (fzo_cu (l := [0, 0]) (ver := 0) rfl rfl)
  repeat' (first|(with_reducible first|refine zA ?_|refine zB ?_|refine zC ?_|refine zD ?_|refine zE ?_|refine zF ?_|refine zG ?_|refine zH ?_|refine zI ?_|refine zJ ?_|refine zK ?_|refine zL ?_)|(with_reducible refine reg_i ?_;intro K hK)|(with_reducible refine drw_i ?_;intro K hK)|((with_reducible refine cond_t ?hc ?_);(case hc=>rfl))|((with_reducible refine cond_f ?hc ?_);(case hc=>rfl))|((with_reducible refine cond_m ?_);refine And.intro ?_ ?_;all_goals(intro hb;(try simp only [sn,sb] at hb);try exact ex0))|(refine hK _ ?_;clear hK K)|(refine hK _ _ rfl ?_;clear hK K)|(have hg:=hK;clear hg;first|(refine And.intro ?zz ?_;case zz=>first|exact rfl|exact zO rfl|omega|exact gI)|(refine fresh_n ?_)|(refine freshO_n ?_)|(refine at_Q ?_;intro hu)|(refine zP wA ?_)|(refine mul_Q ?_;intro hm1 hm2)|(refine zP at_M ?_)|(refine zP rfl ?_)|(refine And.intro ?_ ?_;all_goals(intro hb;(try simp only [sn,sb] at hb);try exact ex0))|(intro b0 hb)))
  exact And.intro trivial (fz_ro (by rw [norm_lm]; rfl) fun h => h)
theorem rOf1_ok : Ok Tryz.prog 123 [.con (.int .u64 1)] true (tn (lm 1)) := by
  refine ok_of_ev (fun _ _ _ h => h) mix Tryz.func123 rfl rfl (by kernel_rfl) (Nat.le_of_ble_eq_true rfl) ?_
  repeat' (first|(with_reducible first|refine zA ?_|refine zB ?_|refine zC ?_|refine zD ?_|refine zE ?_|refine zF ?_|refine zG ?_|refine zH ?_|refine zI ?_|refine zJ ?_|refine zK ?_|refine zL ?_)|(with_reducible refine reg_i ?_;intro K hK)|(with_reducible refine drw_i ?_;intro K hK)|((with_reducible refine cond_t ?hc ?_);(case hc=>rfl))|((with_reducible refine cond_f ?hc ?_);(case hc=>rfl))|((with_reducible refine cond_m ?_);refine And.intro ?_ ?_;all_goals(intro hb;(try simp only [sn,sb] at hb);try exact ex0))|(refine hK _ ?_;clear hK K)|(refine hK _ _ rfl ?_;clear hK K)|(have hg:=hK;clear hg;first|(refine And.intro ?zz ?_;case zz=>first|exact rfl|exact zO rfl|omega|exact gI)|(refine fresh_c 0 rfl ?_)|(refine freshO_n ?_)|(refine at_Q ?_;intro hu)|(refine zP wA ?_)|(refine mul_Q ?_;intro hm1 hm2)|(refine zP at_M ?_)|(refine zP rfl ?_)|(refine And.intro ?_ ?_;all_goals(intro hb;(try simp only [sn,sb] at hb);try exact ex0))|(intro b0 hb)))
  refine Or.inl (Exists.intro _ (Exists.intro _ (Exists.intro _ (And.intro (rNorm_ok [1, 0] (by decide)) (Exists.intro [(0, ?o2)] (And.intro (lpre1 ?ho2) (And.intro ?z2 (And.intro rfl ?_))))))))
  case ho2 => exact rfl
  case z2 => exact fzl1 (fzo_cu (l := [1, 0]) (ver := 0) rfl rfl)
  repeat' (first|(with_reducible first|refine zA ?_|refine zB ?_|refine zC ?_|refine zD ?_|refine zE ?_|refine zF ?_|refine zG ?_|refine zH ?_|refine zI ?_|refine zJ ?_|refine zK ?_|refine zL ?_)|(with_reducible refine reg_i ?_;intro K hK)|(with_reducible refine drw_i ?_;intro K hK)|((with_reducible refine cond_t ?hc ?_);(case hc=>rfl))|((with_reducible refine cond_f ?hc ?_);(case hc=>rfl))|((with_reducible refine cond_m ?_);refine And.intro ?_ ?_;all_goals(intro hb;(try simp only [sn,sb] at hb);try exact ex0))|(refine hK _ ?_;clear hK K)|(refine hK _ _ rfl ?_;clear hK K)|(have hg:=hK;clear hg;first|(refine And.intro ?zz ?_;case zz=>first|exact rfl|exact zO rfl|omega|exact gI)|(refine fresh_n ?_)|(refine freshO_n ?_)|(refine at_Q ?_;intro hu)|(refine zP wA ?_)|(refine mul_Q ?_;intro hm1 hm2)|(refine zP at_M ?_)|(refine zP rfl ?_)|(refine And.intro ?_ ?_;all_goals(intro hb;(try simp only [sn,sb] at hb);try exact ex0))|(intro b0 hb)))
  exact And.intro trivial (fz_ro (by rw [norm_lm]; rfl) fun h => h)
theorem rSum_ok (hS : Ok Tryz.prog 68 [.con (.int .i64 0), .con (.int .i64 1)] true (tQ 0 1)) (l : List Rt) (hl : bulkR l ≤ 268435400) (hl2 : l.length ≤ 268435456) : Ok Tryz.prog 43 [tRL l] true (tQ (sumQ l).1 (sumQ l).2) := by
  refine ok_of_ev (fun _ _ _ h => h) mix Tryz.func43 rfl rfl (by kernel_rfl) (Nat.le_of_ble_eq_true rfl) ?_
  repeat' (first|(with_reducible first|refine zA ?_|refine zB ?_|refine zC ?_|refine zD ?_|refine zE ?_|refine zF ?_|refine zG ?_|refine zH ?_|refine zI ?_|refine zJ ?_|refine zK ?_|refine zL ?_)|(with_reducible refine reg_i ?_;intro K hK)|(with_reducible refine drw_i ?_;intro K hK)|((with_reducible refine cond_t ?hc ?_);(case hc=>rfl))|((with_reducible refine cond_f ?hc ?_);(case hc=>rfl))|((with_reducible refine cond_m ?_);refine And.intro ?_ ?_;all_goals(intro hb;(try simp only [sn,sb] at hb);try exact ex0))|(refine hK _ ?_;clear hK K)|(refine hK _ _ rfl ?_;clear hK K)|(have hg:=hK;clear hg;first|(refine And.intro ?zz ?_;case zz=>first|exact rfl|exact zO rfl|omega|exact gI)|(refine fresh_c 0 rfl ?_)|(refine fresh_c 1 rfl ?_)|(refine fresh_c 2 rfl ?_)|(refine freshO_n ?_)|(refine at_Q ?_;intro hu)|(refine zP wA ?_)|(refine mul_Q ?_;intro hm1 hm2)|(refine zP at_M ?_)|(refine zP rfl ?_)|(refine zQ (hS) ?_)|(refine And.intro ?_ ?_;all_goals(intro hb;(try simp only [sn,sb] at hb);try exact ex0))|(intro b0 hb)))
  refine loop_f Nat (fun i => ⟨Tryz.f43.ntmps, [(0, .ro false (tRL l)), (2, .ref 0 0 0 0), (3, .ref 1 0 0 0), (4, .con (.int .i64 i))], [(0, ⟨3, [zR], 0, true⟩), (1, ⟨3, [rQ (sumQ (l.take i))], 0, true⟩)]⟩)
    (fun i => i ≤ l.length) (fun i => l.length - i) 0 (Nat.zero_le _) (lf_of0 ?_ ?_) ?_
  · exact ⟨Lc.same _ trivial, Lc.same _ rfl, Lc.same _ rfl, Lc.same _ trivial, trivial⟩
  · refine ⟨lfOb_keep rfl ?_, lfOb_keep rfl ?_, trivial⟩
    · intro x hx
      obtain rfl := List.mem_singleton.1 hx
      exact lv_agg ⟨Lc.same _ trivial, Lc.same _ trivial, Lc.same _ trivial, trivial⟩
    · intro x hx
      obtain rfl := List.mem_singleton.1 hx
      exact lv_agg ⟨Lc.same _ trivial, Lc.same _ trivial, Lc.same _ trivial, trivial⟩
  rintro i hi
  by_cases hlt : i < l.length
  · have hb1 := bulkR_take (l := l) (i := i)
    have hm := bulkR_mem (getD_mem hlt)
    have hadd := rAddQ_ok (sumQ (l.take i)) (l.getD i default) (sumQ_ok (l.take i)) (by omega) (by omega)
    repeat' (first|(with_reducible first|refine zA ?_|refine zB ?_|refine zC ?_|refine zD ?_|refine zE ?_|refine zF ?_|refine zG ?_|refine zH ?_|refine zI ?_|refine zJ ?_|refine zK ?_|refine zL ?_)|(with_reducible refine reg_i ?_;intro K hK)|(with_reducible refine drw_i ?_;intro K hK)|((with_reducible refine cond_t ?hc ?_);(case hc=>rfl))|((with_reducible refine cond_f ?hc ?_);(case hc=>rfl))|((with_reducible refine cond_m ?_);refine And.intro ?_ ?_;all_goals(intro hb;(try simp only [sn,sb] at hb);try exact ex0))|(refine hK _ ?_;clear hK K)|(refine hK _ _ rfl ?_;clear hK K)|(have hg:=hK;clear hg;first|(refine And.intro ?zz ?_;case zz=>first|exact rfl|exact zO rfl|omega|exact gI)|(refine fresh_c 2 rfl ?_)|(refine freshO_n ?_)|(refine at_Q ?_;intro hu)|(refine zP wA ?_)|(refine mul_Q ?_;intro hm1 hm2)|(refine zP at_M ?_)|(refine zP rfl ?_)|(refine zQ (hadd) ?_)|(refine And.intro ?_ ?_;all_goals(intro hb;(try simp only [sn,sb] at hb);try exact ex0))|(intro b0 hb)))
    have e : sumQ (l.take (i + 1)) = stepQ (sumQ (l.take i)) (l.getD i default) := by rw [take_snoc hlt, sumQ_snoc]
    refine ⟨i + 1, hlt, by omega, lf_of0 ?_ ?_⟩
    · exact ⟨Lc.same _ trivial, Lc.same _ rfl, Lc.same _ rfl, Lc.same _ trivial, trivial⟩
    · rw [e]
      refine ⟨lfOb_keep rfl ?_, lfOb_keep rfl ?_, trivial⟩
      · intro x hx
        obtain rfl := List.mem_singleton.1 hx
        exact lv_agg ⟨Lc.same _ trivial, Lc.same _ trivial, Lc.same _ trivial, trivial⟩
      · intro x hx
        obtain rfl := List.mem_singleton.1 hx
        exact lv_agg ⟨Lc.same _ trivial, Lc.same _ trivial, Lc.same _ trivial, trivial⟩
  · repeat' (first|(with_reducible first|refine zA ?_|refine zB ?_|refine zC ?_|refine zD ?_|refine zE ?_|refine zF ?_|refine zG ?_|refine zH ?_|refine zI ?_|refine zJ ?_|refine zK ?_|refine zL ?_)|(with_reducible refine reg_i ?_;intro K hK)|(with_reducible refine drw_i ?_;intro K hK)|((with_reducible refine cond_t ?hc ?_);(case hc=>rfl))|((with_reducible refine cond_f ?hc ?_);(case hc=>rfl))|((with_reducible refine cond_m ?_);refine And.intro ?_ ?_;all_goals(intro hb;(try simp only [sn,sb] at hb);try exact ex0))|(refine hK _ ?_;clear hK K)|(refine hK _ _ rfl ?_;clear hK K)|(have hg:=hK;clear hg;first|(refine And.intro ?zz ?_;case zz=>first|exact rfl|exact zO rfl|omega|exact gI)|(refine fresh_n ?_)|(refine freshO_n ?_)|(refine at_Q ?_;intro hu)|(refine zP wA ?_)|(refine mul_Q ?_;intro hm1 hm2)|(refine zP at_M ?_)|(refine zP rfl ?_)|(refine And.intro ?_ ?_;all_goals(intro hb;(try simp only [sn,sb] at hb);try exact ex0))|(intro b0 hb)))
    have hil : i = l.length := by omega
    rw [hil, List.take_length]
    exact ret_cell (l := [V.con (.bool (decide (qz (sumQ l).1 (sumQ l).2 < 0))), .ro true (tn (lm (qz (sumQ l).1 (sumQ l).2).natAbs)), .ro true (tn (lm (qd (sumQ l).1 (sumQ l).2)))]) rfl tk41 rfl (Nat.zero_lt_succ _) rfl rfl rat_eta
