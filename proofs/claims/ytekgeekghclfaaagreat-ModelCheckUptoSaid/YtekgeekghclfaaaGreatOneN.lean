import Derived.Test.YtekgeekghclfaaaGreatSumN
/-
  THE NUMBERS 0 AND 1, SIGNS, outside: on both sides: the walks. (naturals)
-/
set_option linter.all false
namespace Go.Ev
open Go.Proofs
set_option maxRecDepth 10000
set_option maxHeartbeats 4000000
set_option linter.unusedSimpArgs false
set_option linter.unusedVariables false
theorem iv_flm (u : Nat) : iv false (lm u) = u := by unfold iv; rw [val_lm]; rfl
theorem lm_small {u : Nat} (h : u < 4294967296) : (lm u).length ≤ 1 := lm_len (k := 1) (by omega)
theorem signZ_eq0 {z : Int} : signZ z = 0 ↔ z = 0 := by rcases signZ_cases z with h | h | h <;> omega
theorem iv_ne0 {k : Bool} {d : List UInt32} (h : val d ≠ 0) : iv k d ≠ 0 := by unfold iv; split <;> omega
theorem ret2 {f : Bool} {fn : Func} {P : Program} {s : St} {a t b id ver sz : Nat} {l : List V} {fs : List (Nat × Nat)} {z : List Value} {r : T} {n : Int} (hr : fn.results.toList = [.cell a t, .tmp b]) (ht : tk P t = .st fs z) (hz : z.length = l.length) (h0 : 0 < l.length)
    (ha : eget s.env a = .ref id ver 0 0) (ho : oget s.oh id = some ⟨sz, [.agg l], ver, true⟩) (hb : eget s.env b = .con (.int .i64 n)) (hf : FzA s.oh f (.agg l) r) : RetOK P fn f (.tup [r, .con (.int .i64 n)]) .ret s := by
  refine ⟨trivial, ?_⟩
  rw [hr]
  show sload (tk P t) s.oh (eget s.env a) _
  rw [ha, ht]
  show use s.oh id ver _
  unfold use
  rw [ho]
  refine ⟨rfl, rfl, .agg l, rfl, by simp only [TK.size]; omega, by simp only [TK.size, V.cells]; omega, ?_⟩
  show ∃ t1 t2, _ ∧ FzA s.oh f (V.ofCells true ((l.drop 0).take z.length)) t1 ∧ FzA s.oh f (eget s.env b) t2
  rw [List.drop_zero, hz, List.take_length, hb]
  exact ⟨_, _, rfl, hf, fz_con rfl⟩
theorem rOfI0_ok : Ok Tryz.prog 111 [.con (.int .i64 0)] true (tZ 0) := by
  have h := rMake_ok false (lm 0) (Nat.le_trans (lm_small (by decide)) (by decide))
  rw [iv_flm] at h
  refine ok_of_ev (fun _ _ _ h => h) mix Tryz.func111 rfl rfl (by kernel_rfl) (Nat.le_of_ble_eq_true rfl) ?_
  repeat' (first
   |(with_reducible (first|refine seq_i ?_|refine blk_i ?_|refine X.seq_n ?_|refine X.seq_r ?_|refine X.seq_x ?_|refine X.blk_n ?_|refine X.blk_r ?_|refine X.blk_s ?_|refine X.blk_o (by decide) ?_|refine skip_i ?_|refine ret_i ?_|refine exit_i ?_))
   |(with_reducible (refine reg_i ?_);intro K hK)
   |(with_reducible (refine drw_i ?_);intro K hK)
   |((with_reducible refine cond_t ?hc ?_);(case hc=>rfl))
   |((with_reducible refine cond_f ?hc ?_);(case hc=>rfl))
   |((with_reducible refine cond_m ?_);refine And.intro ?_ ?_;all_goals(intro hb;(try simp only [sn,sb] at hb);try exact ex0))
   |(refine hK _ ?_;clear hK K)
   |(refine hK _ _ rfl ?_;clear hK K)
   |(have hg:=hK;clear hg;first|(refine And.intro ?ga ?_;(case ga=>first|exact rfl|exact Nat.le_of_ble_eq_true rfl|omega|exact gI))|(refine fresh_n ?_)|(refine freshO_n ?_)|(refine at_Q ?_;intro hu)|(refine Exists.intro _ (And.intro wA ?_))|(refine mul_Q ?_;intro hm1 hm2)|(refine Exists.intro _ (And.intro at_M ?_))|(refine Exists.intro _ (And.intro rfl ?_))|(refine Or.inl (Exists.intro _ (Exists.intro _ (And.intro (rOf0_ok) ?_))))|(refine Or.inl (Exists.intro _ (Exists.intro _ (And.intro (h) ?_))))|(refine And.intro ?_ ?_;all_goals(intro hb;(try simp only [sn,sb] at hb);try exact ex0))|(intro b0 hb)))
  exact ret_cell (l := [V.con (.bool (decide ((0 : Int) < 0))), .ro true (tn (lm (0 : Int).natAbs))]) rfl tk39 rfl (Nat.zero_lt_succ _) rfl rfl (fz_Z _)
theorem rOfI1_ok : Ok Tryz.prog 111 [.con (.int .i64 1)] true (tZ 1) := by
  have h := rMake_ok false (lm 1) (Nat.le_trans (lm_small (by decide)) (by decide))
  rw [iv_flm] at h
  refine ok_of_ev (fun _ _ _ h => h) mix Tryz.func111 rfl rfl (by kernel_rfl) (Nat.le_of_ble_eq_true rfl) ?_
  repeat' (first
   |(with_reducible (first|refine seq_i ?_|refine blk_i ?_|refine X.seq_n ?_|refine X.seq_r ?_|refine X.seq_x ?_|refine X.blk_n ?_|refine X.blk_r ?_|refine X.blk_s ?_|refine X.blk_o (by decide) ?_|refine skip_i ?_|refine ret_i ?_|refine exit_i ?_))
   |(with_reducible (refine reg_i ?_);intro K hK)
   |(with_reducible (refine drw_i ?_);intro K hK)
   |((with_reducible refine cond_t ?hc ?_);(case hc=>rfl))
   |((with_reducible refine cond_f ?hc ?_);(case hc=>rfl))
   |((with_reducible refine cond_m ?_);refine And.intro ?_ ?_;all_goals(intro hb;(try simp only [sn,sb] at hb);try exact ex0))
   |(refine hK _ ?_;clear hK K)
   |(refine hK _ _ rfl ?_;clear hK K)
   |(have hg:=hK;clear hg;first|(refine And.intro ?ga ?_;(case ga=>first|exact rfl|exact Nat.le_of_ble_eq_true rfl|omega|exact gI))|(refine fresh_n ?_)|(refine freshO_n ?_)|(refine at_Q ?_;intro hu)|(refine Exists.intro _ (And.intro wA ?_))|(refine mul_Q ?_;intro hm1 hm2)|(refine Exists.intro _ (And.intro at_M ?_))|(refine Exists.intro _ (And.intro rfl ?_))|(refine Or.inl (Exists.intro _ (Exists.intro _ (And.intro (rOf1_ok) ?_))))|(refine Or.inl (Exists.intro _ (Exists.intro _ (And.intro (h) ?_))))|(refine And.intro ?_ ?_;all_goals(intro hb;(try simp only [sn,sb] at hb);try exact ex0))|(intro b0 hb)))
  exact ret_cell (l := [V.con (.bool (decide ((1 : Int) < 0))), .ro true (tn (lm (1 : Int).natAbs))]) rfl tk39 rfl (Nat.zero_lt_succ _) rfl rfl (fz_Z _)
theorem rNew_ok (n k : Bool) (a d : List UInt32) (hd : val d ≠ 0) (ha : a.length ≤ 10737418240) (hl : d.length ≤ 10737418240) : Ok Tryz.prog 110 [tI n a, tI k d] true (.tup [tQ (iv (n != k) a) (val d), .con (.int .i64 0)]) := by
  have hs : signZ (iv k d) ≠ 0 := fun h => iv_ne0 hd (signZ_eq0.1 h)
  refine ok_of_ev (fun _ _ _ h => h) mix Tryz.func110 rfl rfl (by kernel_rfl) (Nat.le_of_ble_eq_true rfl) ?_
  repeat' (first
   |(with_reducible (first|refine seq_i ?_|refine blk_i ?_|refine X.seq_n ?_|refine X.seq_r ?_|refine X.seq_x ?_|refine X.blk_n ?_|refine X.blk_r ?_|refine X.blk_s ?_|refine X.blk_o (by decide) ?_|refine skip_i ?_|refine ret_i ?_|refine exit_i ?_))
   |(with_reducible (refine reg_i ?_);intro K hK)
   |(with_reducible (refine drw_i ?_);intro K hK)
   |((with_reducible refine cond_t ?hc ?_);(case hc=>rfl))
   |((with_reducible refine cond_f ?hc ?_);(case hc=>rfl))
   |((with_reducible refine cond_m ?_);refine And.intro ?_ ?_;all_goals(intro hb;(try simp only [sn,sb] at hb);try exact ex0))
   |(refine hK _ ?_;clear hK K)
   |(refine hK _ _ rfl ?_;clear hK K)
   |(have hg:=hK;clear hg;first|(refine And.intro ?ga ?_;(case ga=>first|exact rfl|exact Nat.le_of_ble_eq_true rfl|omega|exact gI))|(refine fresh_n ?_)|(refine freshO_n ?_)|(refine at_Q ?_;intro hu)|(refine Exists.intro _ (And.intro wA ?_))|(refine mul_Q ?_;intro hm1 hm2)|(refine Exists.intro _ (And.intro at_M ?_))|(refine Exists.intro _ (And.intro rfl ?_))|(refine Or.inl (Exists.intro _ (Exists.intro _ (And.intro (rSignI_ok k d (by omega)) ?_))))|(refine Or.inl (Exists.intro _ (Exists.intro _ (And.intro (rlowest_ok (n != k) a d hd ha hl) ?_))))|(refine And.intro ?_ ?_;all_goals(intro hb;(try simp only [sn,sb] at hb);try exact ex0))|(intro b0 hb)))
  exact ret2 (l := [V.con (.bool (decide (qz (iv (n != k) a) (val d) < 0))), .ro true (tn (lm (qz (iv (n != k) a) (val d)).natAbs)), .ro true (tn (lm (qd (iv (n != k) a) (val d))))]) rfl tk41 rfl (Nat.zero_lt_succ _) rfl rfl rfl rat_eta
theorem rOfQ0_ok : Ok Tryz.prog 93 [.con (.int .i64 0), .con (.int .i64 1)] true (.tup [tQ 0 1, .con (.int .i64 0)]) := by
  have h := rNew_ok (decide ((0 : Int) < 0)) (decide ((1 : Int) < 0)) (lm (0 : Int).natAbs) (lm (1 : Int).natAbs) (by rw [val_lm]; decide) (Nat.le_trans (lm_small (by decide)) (by decide)) (Nat.le_trans (lm_small (by decide)) (by decide))
  rw [val_lm, show iv (decide ((0 : Int) < 0) != decide ((1 : Int) < 0)) (lm (0 : Int).natAbs) = 0 from iv_flm 0] at h
  refine ok_of_ev (fun _ _ _ h => h) mix Tryz.func93 rfl rfl (by kernel_rfl) (Nat.le_of_ble_eq_true rfl) ?_
  repeat' (first
   |(with_reducible (first|refine seq_i ?_|refine blk_i ?_|refine X.seq_n ?_|refine X.seq_r ?_|refine X.seq_x ?_|refine X.blk_n ?_|refine X.blk_r ?_|refine X.blk_s ?_|refine X.blk_o (by decide) ?_|refine skip_i ?_|refine ret_i ?_|refine exit_i ?_))
   |(with_reducible (refine reg_i ?_);intro K hK)
   |(with_reducible (refine drw_i ?_);intro K hK)
   |((with_reducible refine cond_t ?hc ?_);(case hc=>rfl))
   |((with_reducible refine cond_f ?hc ?_);(case hc=>rfl))
   |((with_reducible refine cond_m ?_);refine And.intro ?_ ?_;all_goals(intro hb;(try simp only [sn,sb] at hb);try exact ex0))
   |(refine hK _ ?_;clear hK K)
   |(refine hK _ _ rfl ?_;clear hK K)
   |(have hg:=hK;clear hg;first|(refine And.intro ?ga ?_;(case ga=>first|exact rfl|exact Nat.le_of_ble_eq_true rfl|omega|exact gI))|(refine fresh_n ?_)|(refine freshO_n ?_)|(refine at_Q ?_;intro hu)|(refine Exists.intro _ (And.intro wA ?_))|(refine mul_Q ?_;intro hm1 hm2)|(refine Exists.intro _ (And.intro at_M ?_))|(refine Exists.intro _ (And.intro rfl ?_))|(refine Or.inl (Exists.intro _ (Exists.intro _ (And.intro (rOfI0_ok) ?_))))|(refine Or.inl (Exists.intro _ (Exists.intro _ (And.intro (rOfI1_ok) ?_))))|(refine Or.inl (Exists.intro _ (Exists.intro _ (And.intro (h) ?_))))|(refine And.intro ?_ ?_;all_goals(intro hb;(try simp only [sn,sb] at hb);try exact ex0))|(intro b0 hb)))
  exact ret2 (l := [V.con (.bool (decide (qz 0 1 < 0))), .ro true (tn (lm (qz 0 1).natAbs)), .ro true (tn (lm (qd 0 1)))]) rfl tk41 rfl (Nat.zero_lt_succ _) rfl rfl rfl rat_eta
theorem rOfQ1_ok : Ok Tryz.prog 93 [.con (.int .i64 1), .con (.int .i64 1)] true (.tup [tQ 1 1, .con (.int .i64 0)]) := by
  have h := rNew_ok (decide ((1 : Int) < 0)) (decide ((1 : Int) < 0)) (lm (1 : Int).natAbs) (lm (1 : Int).natAbs) (by rw [val_lm]; decide) (Nat.le_trans (lm_small (by decide)) (by decide)) (Nat.le_trans (lm_small (by decide)) (by decide))
  rw [val_lm, show iv (decide ((1 : Int) < 0) != decide ((1 : Int) < 0)) (lm (1 : Int).natAbs) = 1 from iv_flm 1] at h
  refine ok_of_ev (fun _ _ _ h => h) mix Tryz.func93 rfl rfl (by kernel_rfl) (Nat.le_of_ble_eq_true rfl) ?_
  repeat' (first
   |(with_reducible (first|refine seq_i ?_|refine blk_i ?_|refine X.seq_n ?_|refine X.seq_r ?_|refine X.seq_x ?_|refine X.blk_n ?_|refine X.blk_r ?_|refine X.blk_s ?_|refine X.blk_o (by decide) ?_|refine skip_i ?_|refine ret_i ?_|refine exit_i ?_))
   |(with_reducible (refine reg_i ?_);intro K hK)
   |(with_reducible (refine drw_i ?_);intro K hK)
   |((with_reducible refine cond_t ?hc ?_);(case hc=>rfl))
   |((with_reducible refine cond_f ?hc ?_);(case hc=>rfl))
   |((with_reducible refine cond_m ?_);refine And.intro ?_ ?_;all_goals(intro hb;(try simp only [sn,sb] at hb);try exact ex0))
   |(refine hK _ ?_;clear hK K)
   |(refine hK _ _ rfl ?_;clear hK K)
   |(have hg:=hK;clear hg;first|(refine And.intro ?ga ?_;(case ga=>first|exact rfl|exact Nat.le_of_ble_eq_true rfl|omega|exact gI))|(refine fresh_n ?_)|(refine freshO_n ?_)|(refine at_Q ?_;intro hu)|(refine Exists.intro _ (And.intro wA ?_))|(refine mul_Q ?_;intro hm1 hm2)|(refine Exists.intro _ (And.intro at_M ?_))|(refine Exists.intro _ (And.intro rfl ?_))|(refine Or.inl (Exists.intro _ (Exists.intro _ (And.intro (rOfI1_ok) ?_))))|(refine Or.inl (Exists.intro _ (Exists.intro _ (And.intro (h) ?_))))|(refine And.intro ?_ ?_;all_goals(intro hb;(try simp only [sn,sb] at hb);try exact ex0))|(intro b0 hb)))
  exact ret2 (l := [V.con (.bool (decide (qz 1 1 < 0))), .ro true (tn (lm (qz 1 1).natAbs)), .ro true (tn (lm (qd 1 1)))]) rfl tk41 rfl (Nat.zero_lt_succ _) rfl rfl rfl rat_eta
theorem rSmall0_ok : Ok Tryz.prog 68 [.con (.int .i64 0), .con (.int .i64 1)] true (tQ 0 1) := by
  refine ok_of_ev (fun _ _ _ h => h) mix Tryz.func68 rfl rfl (by kernel_rfl) (Nat.le_of_ble_eq_true rfl) ?_
  repeat' (first
   |(with_reducible (first|refine seq_i ?_|refine blk_i ?_|refine X.seq_n ?_|refine X.seq_r ?_|refine X.seq_x ?_|refine X.blk_n ?_|refine X.blk_r ?_|refine X.blk_s ?_|refine X.blk_o (by decide) ?_|refine skip_i ?_|refine ret_i ?_|refine exit_i ?_))
   |(with_reducible (refine reg_i ?_);intro K hK)
   |(with_reducible (refine drw_i ?_);intro K hK)
   |((with_reducible refine cond_t ?hc ?_);(case hc=>rfl))
   |((with_reducible refine cond_f ?hc ?_);(case hc=>rfl))
   |((with_reducible refine cond_m ?_);refine And.intro ?_ ?_;all_goals(intro hb;(try simp only [sn,sb] at hb);try exact ex0))
   |(refine hK _ ?_;clear hK K)
   |(refine hK _ _ rfl ?_;clear hK K)
   |(have hg:=hK;clear hg;first|(refine And.intro ?ga ?_;(case ga=>first|exact rfl|exact Nat.le_of_ble_eq_true rfl|omega|exact gI))|(refine fresh_n ?_)|(refine freshO_n ?_)|(refine at_Q ?_;intro hu)|(refine Exists.intro _ (And.intro wA ?_))|(refine mul_Q ?_;intro hm1 hm2)|(refine Exists.intro _ (And.intro at_M ?_))|(refine Exists.intro _ (And.intro rfl ?_))|(refine Or.inl (Exists.intro _ (Exists.intro _ (And.intro (rOfQ0_ok) ?_))))|(refine And.intro ?_ ?_;all_goals(intro hb;(try simp only [sn,sb] at hb);try exact ex0))|(intro b0 hb)))
  exact ret_cell (l := [V.con (.bool (decide (qz 0 1 < 0))), .ro true (tn (lm (qz 0 1).natAbs)), .ro true (tn (lm (qd 0 1)))]) rfl tk41 rfl (Nat.zero_lt_succ _) rfl rfl rat_eta
theorem rSmall1_ok : Ok Tryz.prog 68 [.con (.int .i64 1), .con (.int .i64 1)] true (tQ 1 1) := by
  refine ok_of_ev (fun _ _ _ h => h) mix Tryz.func68 rfl rfl (by kernel_rfl) (Nat.le_of_ble_eq_true rfl) ?_
  repeat' (first
   |(with_reducible (first|refine seq_i ?_|refine blk_i ?_|refine X.seq_n ?_|refine X.seq_r ?_|refine X.seq_x ?_|refine X.blk_n ?_|refine X.blk_r ?_|refine X.blk_s ?_|refine X.blk_o (by decide) ?_|refine skip_i ?_|refine ret_i ?_|refine exit_i ?_))
   |(with_reducible (refine reg_i ?_);intro K hK)
   |(with_reducible (refine drw_i ?_);intro K hK)
   |((with_reducible refine cond_t ?hc ?_);(case hc=>rfl))
   |((with_reducible refine cond_f ?hc ?_);(case hc=>rfl))
   |((with_reducible refine cond_m ?_);refine And.intro ?_ ?_;all_goals(intro hb;(try simp only [sn,sb] at hb);try exact ex0))
   |(refine hK _ ?_;clear hK K)
   |(refine hK _ _ rfl ?_;clear hK K)
   |(have hg:=hK;clear hg;first|(refine And.intro ?ga ?_;(case ga=>first|exact rfl|exact Nat.le_of_ble_eq_true rfl|omega|exact gI))|(refine fresh_n ?_)|(refine freshO_n ?_)|(refine at_Q ?_;intro hu)|(refine Exists.intro _ (And.intro wA ?_))|(refine mul_Q ?_;intro hm1 hm2)|(refine Exists.intro _ (And.intro at_M ?_))|(refine Exists.intro _ (And.intro rfl ?_))|(refine Or.inl (Exists.intro _ (Exists.intro _ (And.intro (rOfQ1_ok) ?_))))|(refine And.intro ?_ ?_;all_goals(intro hb;(try simp only [sn,sb] at hb);try exact ex0))|(intro b0 hb)))
  exact ret_cell (l := [V.con (.bool (decide (qz 1 1 < 0))), .ro true (tn (lm (qz 1 1).natAbs)), .ro true (tn (lm (qd 1 1)))]) rfl tk41 rfl (Nat.zero_lt_succ _) rfl rfl rat_eta
theorem rOne_ok : Ok Tryz.prog 42 [] true (tQ 1 1) := by
  refine ok_of_ev (fun _ _ _ h => h) mix Tryz.func42 rfl rfl (by kernel_rfl) (Nat.le_of_ble_eq_true rfl) ?_
  repeat' (first
   |(with_reducible (first|refine seq_i ?_|refine blk_i ?_|refine X.seq_n ?_|refine X.seq_r ?_|refine X.seq_x ?_|refine X.blk_n ?_|refine X.blk_r ?_|refine X.blk_s ?_|refine X.blk_o (by decide) ?_|refine skip_i ?_|refine ret_i ?_|refine exit_i ?_))
   |(with_reducible (refine reg_i ?_);intro K hK)
   |(with_reducible (refine drw_i ?_);intro K hK)
   |((with_reducible refine cond_t ?hc ?_);(case hc=>rfl))
   |((with_reducible refine cond_f ?hc ?_);(case hc=>rfl))
   |((with_reducible refine cond_m ?_);refine And.intro ?_ ?_;all_goals(intro hb;(try simp only [sn,sb] at hb);try exact ex0))
   |(refine hK _ ?_;clear hK K)
   |(refine hK _ _ rfl ?_;clear hK K)
   |(have hg:=hK;clear hg;first|(refine And.intro ?ga ?_;(case ga=>first|exact rfl|exact Nat.le_of_ble_eq_true rfl|omega|exact gI))|(refine fresh_n ?_)|(refine freshO_n ?_)|(refine at_Q ?_;intro hu)|(refine Exists.intro _ (And.intro wA ?_))|(refine mul_Q ?_;intro hm1 hm2)|(refine Exists.intro _ (And.intro at_M ?_))|(refine Exists.intro _ (And.intro rfl ?_))|(refine Or.inl (Exists.intro _ (Exists.intro _ (And.intro (rSmall1_ok) ?_))))|(refine And.intro ?_ ?_;all_goals(intro hb;(try simp only [sn,sb] at hb);try exact ex0))|(intro b0 hb)))
  exact ret_cell (l := [V.con (.bool (decide (qz 1 1 < 0))), .ro true (tn (lm (qz 1 1).natAbs)), .ro true (tn (lm (qd 1 1)))]) rfl tk41 rfl (Nat.zero_lt_succ _) rfl rfl rat_eta
theorem wOf1_ok : Ok Tryz.prog 82 [.con (.int .i64 1)] true (tZ 1) := by
  have h0 := Of_ok 1
  rw [norm_one, show ((1 : UInt64).toNat : Int) = 1 from rfl] at h0
  have h := of_ok false [1] (by decide)
  rw [show iv false [1] = 1 from rfl] at h
  refine ok_of_ev (fun _ _ _ h => h) mix Tryz.func82 rfl rfl (by kernel_rfl) (Nat.le_of_ble_eq_true rfl) ?_
  repeat' (first
   |(with_reducible (first|refine seq_i ?_|refine blk_i ?_|refine X.seq_n ?_|refine X.seq_r ?_|refine X.seq_x ?_|refine X.blk_n ?_|refine X.blk_r ?_|refine X.blk_s ?_|refine X.blk_o (by decide) ?_|refine skip_i ?_|refine ret_i ?_|refine exit_i ?_))
   |(with_reducible (refine reg_i ?_);intro K hK)
   |(with_reducible (refine drw_i ?_);intro K hK)
   |((with_reducible refine cond_t ?hc ?_);(case hc=>rfl))
   |((with_reducible refine cond_f ?hc ?_);(case hc=>rfl))
   |((with_reducible refine cond_m ?_);refine And.intro ?_ ?_;all_goals(intro hb;(try simp only [sn,sb] at hb);try exact ex0))
   |(refine hK _ ?_;clear hK K)
   |(refine hK _ _ rfl ?_;clear hK K)
   |(have hg:=hK;clear hg;first|(refine And.intro ?ga ?_;(case ga=>first|exact rfl|exact Nat.le_of_ble_eq_true rfl|omega|exact gI))|(refine fresh_n ?_)|(refine freshO_n ?_)|(refine at_Q ?_;intro hu)|(refine Exists.intro _ (And.intro wA ?_))|(refine mul_Q ?_;intro hm1 hm2)|(refine Exists.intro _ (And.intro at_M ?_))|(refine Exists.intro _ (And.intro rfl ?_))|(refine Or.inl (Exists.intro _ (Exists.intro _ (And.intro (h0) ?_))))|(refine Or.inl (Exists.intro _ (Exists.intro _ (And.intro (h) ?_))))|(refine And.intro ?_ ?_;all_goals(intro hb;(try simp only [sn,sb] at hb);try exact ex0))|(intro b0 hb)))
  exact ret_cell (l := [V.con (.bool (decide ((1 : Int) < 0))), .ro true (tn (lm (1 : Int).natAbs))]) rfl tk39 rfl (Nat.zero_lt_succ _) rfl rfl (fz_Z _)
theorem New_ok (n k : Bool) (a d : List UInt32) (hd : val d ≠ 0) (ha : a.length ≤ 2147483648) (hl : d.length ≤ 2147483648) : Ok Tryz.prog 81 [tI n a, tI k d] true (.tup [tQ (iv (n != k) a) (val d), .con (.int .i64 0)]) := by
  have hs : signZ (iv k d) ≠ 0 := fun h => iv_ne0 hd (signZ_eq0.1 h)
  refine ok_of_ev (fun _ _ _ h => h) mix Tryz.func81 rfl rfl (by kernel_rfl) (Nat.le_of_ble_eq_true rfl) ?_
  repeat' (first
   |(with_reducible (first|refine seq_i ?_|refine blk_i ?_|refine X.seq_n ?_|refine X.seq_r ?_|refine X.seq_x ?_|refine X.blk_n ?_|refine X.blk_r ?_|refine X.blk_s ?_|refine X.blk_o (by decide) ?_|refine skip_i ?_|refine ret_i ?_|refine exit_i ?_))
   |(with_reducible (refine reg_i ?_);intro K hK)
   |(with_reducible (refine drw_i ?_);intro K hK)
   |((with_reducible refine cond_t ?hc ?_);(case hc=>rfl))
   |((with_reducible refine cond_f ?hc ?_);(case hc=>rfl))
   |((with_reducible refine cond_m ?_);refine And.intro ?_ ?_;all_goals(intro hb;(try simp only [sn,sb] at hb);try exact ex0))
   |(refine hK _ ?_;clear hK K)
   |(refine hK _ _ rfl ?_;clear hK K)
   |(have hg:=hK;clear hg;first|(refine And.intro ?ga ?_;(case ga=>first|exact rfl|exact Nat.le_of_ble_eq_true rfl|omega|exact gI))|(refine fresh_n ?_)|(refine freshO_n ?_)|(refine at_Q ?_;intro hu)|(refine Exists.intro _ (And.intro wA ?_))|(refine mul_Q ?_;intro hm1 hm2)|(refine Exists.intro _ (And.intro at_M ?_))|(refine Exists.intro _ (And.intro rfl ?_))|(refine Or.inl (Exists.intro _ (Exists.intro _ (And.intro (Sign_ok k d (by omega)) ?_))))|(refine Or.inl (Exists.intro _ (Exists.intro _ (And.intro (lowest_ok (n != k) a d hd ha hl) ?_))))|(refine And.intro ?_ ?_;all_goals(intro hb;(try simp only [sn,sb] at hb);try exact ex0))|(intro b0 hb)))
  exact ret2 (l := [V.con (.bool (decide (qz (iv (n != k) a) (val d) < 0))), .ro true (tn (lm (qz (iv (n != k) a) (val d)).natAbs)), .ro true (tn (lm (qd (iv (n != k) a) (val d))))]) rfl tk41 rfl (Nat.zero_lt_succ _) rfl rfl rfl rat_eta
theorem OfQ1_ok : Ok Tryz.prog 56 [.con (.int .i64 1), .con (.int .i64 1)] true (.tup [tQ 1 1, .con (.int .i64 0)]) := by
  have h := New_ok (decide ((1 : Int) < 0)) (decide ((1 : Int) < 0)) (lm (1 : Int).natAbs) (lm (1 : Int).natAbs) (by rw [val_lm]; decide) (Nat.le_trans (lm_small (by decide)) (by decide)) (Nat.le_trans (lm_small (by decide)) (by decide))
  rw [val_lm, show iv (decide ((1 : Int) < 0) != decide ((1 : Int) < 0)) (lm (1 : Int).natAbs) = 1 from iv_flm 1] at h
  refine ok_of_ev (fun _ _ _ h => h) mix Tryz.func56 rfl rfl (by kernel_rfl) (Nat.le_of_ble_eq_true rfl) ?_
  repeat' (first
   |(with_reducible (first|refine seq_i ?_|refine blk_i ?_|refine X.seq_n ?_|refine X.seq_r ?_|refine X.seq_x ?_|refine X.blk_n ?_|refine X.blk_r ?_|refine X.blk_s ?_|refine X.blk_o (by decide) ?_|refine skip_i ?_|refine ret_i ?_|refine exit_i ?_))
   |(with_reducible (refine reg_i ?_);intro K hK)
   |(with_reducible (refine drw_i ?_);intro K hK)
   |((with_reducible refine cond_t ?hc ?_);(case hc=>rfl))
   |((with_reducible refine cond_f ?hc ?_);(case hc=>rfl))
   |((with_reducible refine cond_m ?_);refine And.intro ?_ ?_;all_goals(intro hb;(try simp only [sn,sb] at hb);try exact ex0))
   |(refine hK _ ?_;clear hK K)
   |(refine hK _ _ rfl ?_;clear hK K)
   |(have hg:=hK;clear hg;first|(refine And.intro ?ga ?_;(case ga=>first|exact rfl|exact Nat.le_of_ble_eq_true rfl|omega|exact gI))|(refine fresh_n ?_)|(refine freshO_n ?_)|(refine at_Q ?_;intro hu)|(refine Exists.intro _ (And.intro wA ?_))|(refine mul_Q ?_;intro hm1 hm2)|(refine Exists.intro _ (And.intro at_M ?_))|(refine Exists.intro _ (And.intro rfl ?_))|(refine Or.inl (Exists.intro _ (Exists.intro _ (And.intro (wOf1_ok) ?_))))|(refine Or.inl (Exists.intro _ (Exists.intro _ (And.intro (h) ?_))))|(refine And.intro ?_ ?_;all_goals(intro hb;(try simp only [sn,sb] at hb);try exact ex0))|(intro b0 hb)))
  exact ret2 (l := [V.con (.bool (decide (qz 1 1 < 0))), .ro true (tn (lm (qz 1 1).natAbs)), .ro true (tn (lm (qd 1 1)))]) rfl tk41 rfl (Nat.zero_lt_succ _) rfl rfl rfl rat_eta
theorem one_ok : Ok Tryz.prog 32 [] true (tQ 1 1) := by
  refine ok_of_ev (fun _ _ _ h => h) mix Tryz.func32 rfl rfl (by kernel_rfl) (Nat.le_of_ble_eq_true rfl) ?_
  repeat' (first
   |(with_reducible (first|refine seq_i ?_|refine blk_i ?_|refine X.seq_n ?_|refine X.seq_r ?_|refine X.seq_x ?_|refine X.blk_n ?_|refine X.blk_r ?_|refine X.blk_s ?_|refine X.blk_o (by decide) ?_|refine skip_i ?_|refine ret_i ?_|refine exit_i ?_))
   |(with_reducible (refine reg_i ?_);intro K hK)
   |(with_reducible (refine drw_i ?_);intro K hK)
   |((with_reducible refine cond_t ?hc ?_);(case hc=>rfl))
   |((with_reducible refine cond_f ?hc ?_);(case hc=>rfl))
   |((with_reducible refine cond_m ?_);refine And.intro ?_ ?_;all_goals(intro hb;(try simp only [sn,sb] at hb);try exact ex0))
   |(refine hK _ ?_;clear hK K)
   |(refine hK _ _ rfl ?_;clear hK K)
   |(have hg:=hK;clear hg;first|(refine And.intro ?ga ?_;(case ga=>first|exact rfl|exact Nat.le_of_ble_eq_true rfl|omega|exact gI))|(refine fresh_n ?_)|(refine freshO_n ?_)|(refine at_Q ?_;intro hu)|(refine Exists.intro _ (And.intro wA ?_))|(refine mul_Q ?_;intro hm1 hm2)|(refine Exists.intro _ (And.intro at_M ?_))|(refine Exists.intro _ (And.intro rfl ?_))|(refine Or.inl (Exists.intro _ (Exists.intro _ (And.intro (OfQ1_ok) ?_))))|(refine And.intro ?_ ?_;all_goals(intro hb;(try simp only [sn,sb] at hb);try exact ex0))|(intro b0 hb)))
  exact ret_cell (l := [V.con (.bool (decide (qz 1 1 < 0))), .ro true (tn (lm (qz 1 1).natAbs)), .ro true (tn (lm (qd 1 1)))]) rfl tk41 rfl (Nat.zero_lt_succ _) rfl rfl rat_eta
theorem SignR_ok (r : Rt) (hr : RtOK r) : Ok Tryz.prog 48 [tRt r] true (.con (.int .i64 (signZ (iv r.neg r.mag)))) := by
  obtain ⟨h1, h2⟩ := hr
  refine ok_of_ev (fun _ _ _ h => h) mix Tryz.func48 rfl rfl (by kernel_rfl) (Nat.le_of_ble_eq_true rfl) ?_
  repeat' (first
   |(with_reducible (first|refine seq_i ?_|refine blk_i ?_|refine X.seq_n ?_|refine X.seq_r ?_|refine X.seq_x ?_|refine X.blk_n ?_|refine X.blk_r ?_|refine X.blk_s ?_|refine X.blk_o (by decide) ?_|refine skip_i ?_|refine ret_i ?_|refine exit_i ?_))
   |(with_reducible (refine reg_i ?_);intro K hK)
   |(with_reducible (refine drw_i ?_);intro K hK)
   |((with_reducible refine cond_t ?hc ?_);(case hc=>rfl))
   |((with_reducible refine cond_f ?hc ?_);(case hc=>rfl))
   |((with_reducible refine cond_m ?_);refine And.intro ?_ ?_;all_goals(intro hb;(try simp only [sn,sb] at hb);try exact ex0))
   |(refine hK _ ?_;clear hK K)
   |(refine hK _ _ rfl ?_;clear hK K)
   |(have hg:=hK;clear hg;first|(refine And.intro ?ga ?_;(case ga=>first|exact rfl|exact Nat.le_of_ble_eq_true rfl|omega|exact gI))|(refine fresh_n ?_)|(refine freshO_n ?_)|(refine at_Q ?_;intro hu)|(refine Exists.intro _ (And.intro wA ?_))|(refine mul_Q ?_;intro hm1 hm2)|(refine Exists.intro _ (And.intro at_M ?_))|(refine Exists.intro _ (And.intro rfl ?_))|(refine Or.inl (Exists.intro _ (Exists.intro _ (And.intro (Sign_ok r.neg r.mag (by omega)) ?_))))|(refine And.intro ?_ ?_;all_goals(intro hb;(try simp only [sn,sb] at hb);try exact ex0))|(intro b0 hb)))
  exact And.intro trivial (fz_con rfl)
theorem rSignR_ok (r : Rt) (hr : RtOK r) : Ok Tryz.prog 40 [tRt r] true (.con (.int .i64 (signZ (iv r.neg r.mag)))) := by
  obtain ⟨h1, h2⟩ := hr
  refine ok_of_ev (fun _ _ _ h => h) mix Tryz.func40 rfl rfl (by kernel_rfl) (Nat.le_of_ble_eq_true rfl) ?_
  repeat' (first
   |(with_reducible (first|refine seq_i ?_|refine blk_i ?_|refine X.seq_n ?_|refine X.seq_r ?_|refine X.seq_x ?_|refine X.blk_n ?_|refine X.blk_r ?_|refine X.blk_s ?_|refine X.blk_o (by decide) ?_|refine skip_i ?_|refine ret_i ?_|refine exit_i ?_))
   |(with_reducible (refine reg_i ?_);intro K hK)
   |(with_reducible (refine drw_i ?_);intro K hK)
   |((with_reducible refine cond_t ?hc ?_);(case hc=>rfl))
   |((with_reducible refine cond_f ?hc ?_);(case hc=>rfl))
   |((with_reducible refine cond_m ?_);refine And.intro ?_ ?_;all_goals(intro hb;(try simp only [sn,sb] at hb);try exact ex0))
   |(refine hK _ ?_;clear hK K)
   |(refine hK _ _ rfl ?_;clear hK K)
   |(have hg:=hK;clear hg;first|(refine And.intro ?ga ?_;(case ga=>first|exact rfl|exact Nat.le_of_ble_eq_true rfl|omega|exact gI))|(refine fresh_n ?_)|(refine freshO_n ?_)|(refine at_Q ?_;intro hu)|(refine Exists.intro _ (And.intro wA ?_))|(refine mul_Q ?_;intro hm1 hm2)|(refine Exists.intro _ (And.intro at_M ?_))|(refine Exists.intro _ (And.intro rfl ?_))|(refine Or.inl (Exists.intro _ (Exists.intro _ (And.intro (rSignI_ok r.neg r.mag (by omega)) ?_))))|(refine And.intro ?_ ?_;all_goals(intro hb;(try simp only [sn,sb] at hb);try exact ex0))|(intro b0 hb)))
  exact And.intro trivial (fz_con rfl)
theorem qd_11 : qd 1 1 = 1 := by unfold qd; rfl
theorem qz_11 : qz 1 1 = 1 := by unfold qz; rfl
/-- below 0, or above 1 -/
def outR (r : Rt) : Bool := decide (signZ (iv r.neg r.mag) < 0) || decide (signZ (iv r.neg r.mag - denv r.den) > 0)
theorem lm1_len : (lm 1).length ≤ 1 := lm_small (by decide)
theorem outside_ok (r : Rt) (hr : RtOK r) : Ok Tryz.prog 27 [tRt r] true (.con (.bool (outR r))) := by
  have hc := CmpR_ok r.neg (decide (qz 1 1 < 0)) r.mag r.den (lm (qz 1 1).natAbs) (lm (qd 1 1)) hr.1 hr.2 (by rw [qz_11]; exact Nat.le_trans lm1_len (by decide)) (by rw [qd_11]; exact Nat.le_trans lm1_len (by decide))
  rw [iv_Z, denv_lm (d := qd 1 1) (by rw [qd_11]; decide)] at hc
  have e : iv r.neg r.mag * ((qd 1 1 : Nat) : Int) - qz 1 1 * ((denv r.den : Nat) : Int) = iv r.neg r.mag - denv r.den := by rw [qd_11, qz_11]; omega
  rw [e] at hc
  refine ok_of_ev (fun _ _ _ h => h) mix Tryz.func27 rfl rfl (by kernel_rfl) (Nat.le_of_ble_eq_true rfl) ?_
  repeat' (first
   |(with_reducible (first|refine seq_i ?_|refine blk_i ?_|refine X.seq_n ?_|refine X.seq_r ?_|refine X.seq_x ?_|refine X.blk_n ?_|refine X.blk_r ?_|refine X.blk_s ?_|refine X.blk_o (by decide) ?_|refine skip_i ?_|refine ret_i ?_|refine exit_i ?_))
   |(with_reducible (refine reg_i ?_);intro K hK)
   |(with_reducible (refine drw_i ?_);intro K hK)
   |((with_reducible refine cond_t ?hc ?_);(case hc=>rfl))
   |((with_reducible refine cond_f ?hc ?_);(case hc=>rfl))
   |((with_reducible refine cond_m ?_);refine And.intro ?_ ?_;all_goals(intro hb;(try simp only [sn,sb] at hb);try exact ex0))
   |(refine hK _ ?_;clear hK K)
   |(refine hK _ _ rfl ?_;clear hK K)
   |(have hg:=hK;clear hg;first|(refine And.intro ?ga ?_;(case ga=>first|exact rfl|exact Nat.le_of_ble_eq_true rfl|omega|exact gI))|(refine fresh_n ?_)|(refine freshO_n ?_)|(refine at_Q ?_;intro hu)|(refine Exists.intro _ (And.intro wA ?_))|(refine mul_Q ?_;intro hm1 hm2)|(refine Exists.intro _ (And.intro at_M ?_))|(refine Exists.intro _ (And.intro rfl ?_))|(refine Or.inl (Exists.intro _ (Exists.intro _ (And.intro (SignR_ok r hr) ?_))))|(refine Or.inl (Exists.intro _ (Exists.intro _ (And.intro (one_ok) ?_))))|(refine Or.inl (Exists.intro _ (Exists.intro _ (And.intro (hc) ?_))))|(refine And.intro ?_ ?_;all_goals(intro hb;(try simp only [sn,sb] at hb);try exact ex0))|(intro b0 hb)))
  · exact And.intro trivial (fz_con (by unfold outR; rw [decide_eq_true hb]; rfl))
  · exact And.intro trivial (fz_con (by unfold outR; rw [decide_eq_false (p := signZ (iv r.neg r.mag) < 0) (by omega)]; rfl))
theorem rOutside_ok (r : Rt) (hr : RtOK r) : Ok Tryz.prog 20 [tRt r] true (.con (.bool (outR r))) := by
  have hc := rCmpR_ok r.neg (decide (qz 1 1 < 0)) r.mag r.den (lm (qz 1 1).natAbs) (lm (qd 1 1)) hr.1 hr.2 (by rw [qz_11]; exact Nat.le_trans lm1_len (by decide)) (by rw [qd_11]; exact Nat.le_trans lm1_len (by decide))
  rw [iv_Z, denv_lm (d := qd 1 1) (by rw [qd_11]; decide)] at hc
  have e : iv r.neg r.mag * ((qd 1 1 : Nat) : Int) - qz 1 1 * ((denv r.den : Nat) : Int) = iv r.neg r.mag - denv r.den := by rw [qd_11, qz_11]; omega
  rw [e] at hc
  refine ok_of_ev (fun _ _ _ h => h) mix Tryz.func20 rfl rfl (by kernel_rfl) (Nat.le_of_ble_eq_true rfl) ?_
  repeat' (first
   |(with_reducible (first|refine seq_i ?_|refine blk_i ?_|refine X.seq_n ?_|refine X.seq_r ?_|refine X.seq_x ?_|refine X.blk_n ?_|refine X.blk_r ?_|refine X.blk_s ?_|refine X.blk_o (by decide) ?_|refine skip_i ?_|refine ret_i ?_|refine exit_i ?_))
   |(with_reducible (refine reg_i ?_);intro K hK)
   |(with_reducible (refine drw_i ?_);intro K hK)
   |((with_reducible refine cond_t ?hc ?_);(case hc=>rfl))
   |((with_reducible refine cond_f ?hc ?_);(case hc=>rfl))
   |((with_reducible refine cond_m ?_);refine And.intro ?_ ?_;all_goals(intro hb;(try simp only [sn,sb] at hb);try exact ex0))
   |(refine hK _ ?_;clear hK K)
   |(refine hK _ _ rfl ?_;clear hK K)
   |(have hg:=hK;clear hg;first|(refine And.intro ?ga ?_;(case ga=>first|exact rfl|exact Nat.le_of_ble_eq_true rfl|omega|exact gI))|(refine fresh_n ?_)|(refine freshO_n ?_)|(refine at_Q ?_;intro hu)|(refine Exists.intro _ (And.intro wA ?_))|(refine mul_Q ?_;intro hm1 hm2)|(refine Exists.intro _ (And.intro at_M ?_))|(refine Exists.intro _ (And.intro rfl ?_))|(refine Or.inl (Exists.intro _ (Exists.intro _ (And.intro (rSignR_ok r hr) ?_))))|(refine Or.inl (Exists.intro _ (Exists.intro _ (And.intro (rOne_ok) ?_))))|(refine Or.inl (Exists.intro _ (Exists.intro _ (And.intro (hc) ?_))))|(refine And.intro ?_ ?_;all_goals(intro hb;(try simp only [sn,sb] at hb);try exact ex0))|(intro b0 hb)))
  · exact And.intro trivial (fz_con (by unfold outR; rw [decide_eq_true hb]; rfl))
  · exact And.intro trivial (fz_con (by unfold outR; rw [decide_eq_false (p := signZ (iv r.neg r.mag) < 0) (by omega)]; rfl))
