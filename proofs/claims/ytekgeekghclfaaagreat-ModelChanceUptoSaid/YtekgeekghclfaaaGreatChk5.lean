import Derived.Test.YtekgeekghclfaaaGreatChk4a
set_option linter.all false
namespace Go.Ev
open Go.Proofs
set_option maxRecDepth 10000
set_option maxHeartbeats 4000000
set_option linter.unusedSimpArgs false
set_option linter.unusedVariables false
theorem entE_any {n : Nt} {v : Nat} : entE n v = 0 ↔ ∀ r ∈ n.tables.getD v default, outR r = false := by
  unfold entE
  constructor
  · intro h r hr
    cases e : outR r with
    | false => rfl
    | true => rw [if_pos (List.any_eq_true.2 ⟨r, hr, e⟩)] at h; omega
  · intro h
    rw [if_neg]
    intro h2
    obtain ⟨r, hr, hr2⟩ := List.any_eq_true.1 h2
    rw [h r hr] at hr2; cases hr2
theorem rCheck_ok (n : Nt) (ok : CkOK n) : Ok Tryz.prog 6 [tNt n] true (.con (.int .i64 (checkE n))) := by
  have na := ok.nt
  have c1 := ok.names
  have c2 := ok.values
  have c3 := ok.parents
  have c4 := ok.tables
  by_cases hsh : n.values.length ≠ n.names.length ∨ n.parents.length ≠ n.names.length ∨ n.tables.length ≠ n.names.length
  · have hE : checkE n = 60 := if_pos hsh
    rw [hE]
    refine ok_of_ev (fun _ _ _ h => h) mix Tryz.func6 rfl rfl (by kernel_rfl) (Nat.le_of_ble_eq_true rfl) ?_
    repeat' (first|(with_reducible first|refine zA ?_|refine zB ?_|refine zC ?_|refine zD ?_|refine zE ?_|refine zF ?_|refine zG ?_|refine zH ?_|refine zI ?_|refine zJ ?_|refine zK ?_|refine zL ?_)|(with_reducible refine reg_i ?_;intro K hK)|(with_reducible refine drw_i ?_;intro K hK)|((with_reducible refine cond_t ?hc ?_);(case hc=>rfl))|((with_reducible refine cond_f ?hc ?_);(case hc=>rfl))|((with_reducible refine cond_m ?_);refine And.intro ?_ ?_;all_goals(intro hb;(try simp only [sn,sb] at hb);try exact ex0))|(refine hK _ ?_;clear hK K)|(refine hK _ _ rfl ?_;clear hK K)|(have hg:=hK;clear hg;first|(refine And.intro ?zz ?_;case zz=>first|exact rfl|exact zO rfl|omega|exact gJ)|(refine fresh_c 0 rfl ?_)|(refine freshO_n ?_)|(refine at_Q ?_;intro hu)|(refine zP wA ?_)|(refine mul_Q ?_;intro hm1 hm2)|(refine zP at_M ?_)|(refine zP rfl ?_)|(refine And.intro ?_ ?_;all_goals(intro hb;(try simp only [sn,sb] at hb);try exact ex0))|(intro b0 hb)))
    all_goals first | exact And.intro trivial (fz_con rfl) | (exfalso; omega)
  have hv : n.values.length = n.names.length := by omega
  have hp : n.parents.length = n.names.length := by omega
  have ht : n.tables.length = n.names.length := by omega
  by_cases hk : 1024 < n.names.length
  · have hE : checkE n = 4 := by rw [checkE, if_neg hsh, if_pos hk]
    rw [hE]
    refine ok_of_ev (fun _ _ _ h => h) mix Tryz.func6 rfl rfl (by kernel_rfl) (Nat.le_of_ble_eq_true rfl) ?_
    repeat' (first|(with_reducible first|refine zA ?_|refine zB ?_|refine zC ?_|refine zD ?_|refine zE ?_|refine zF ?_|refine zG ?_|refine zH ?_|refine zI ?_|refine zJ ?_|refine zK ?_|refine zL ?_)|(with_reducible refine reg_i ?_;intro K hK)|(with_reducible refine drw_i ?_;intro K hK)|((with_reducible refine cond_t ?hc ?_);(case hc=>rfl))|((with_reducible refine cond_f ?hc ?_);(case hc=>rfl))|((with_reducible refine cond_m ?_);refine And.intro ?_ ?_;all_goals(intro hb;(try simp only [sn,sb] at hb);try exact ex0))|(refine hK _ ?_;clear hK K)|(refine hK _ _ rfl ?_;clear hK K)|(have hg:=hK;clear hg;first|(refine And.intro ?zz ?_;case zz=>first|exact rfl|exact zO rfl|omega|exact gJ)|(refine fresh_c 0 rfl ?_)|(refine freshO_n ?_)|(refine at_Q ?_;intro hu)|(refine zP wA ?_)|(refine mul_Q ?_;intro hm1 hm2)|(refine zP at_M ?_)|(refine zP rfl ?_)|(refine And.intro ?_ ?_;all_goals(intro hb;(try simp only [sn,sb] at hb);try exact ex0))|(intro b0 hb)))
    all_goals first | exact And.intro trivial (fz_con rfl) | (exfalso; omega)
  have hE : checkE n = if firstE (badN n.names n.values) n.names.length ≠ 0 then firstE (badN n.names n.values) n.names.length else if dagE n.parents ≠ 0 then dagE n.parents else if firstE (shapeE n) n.names.length ≠ 0 then firstE (shapeE n) n.names.length else if firstE (entE n) n.names.length ≠ 0 then firstE (entE n) n.names.length else firstE (rowE n) n.names.length := by
    rw [checkE, if_neg hsh, if_neg hk]
  have hdg := rCheckD_ok n.parents (by omega) (fun l hl => Nat.le_trans (ok.parent l hl) (by decide))
  have hsz := rSizes_ok n na
  rw [hE]
  refine ok_of_ev (fun _ _ _ h => h) mix Tryz.func6 rfl rfl (by kernel_rfl) (Nat.le_of_ble_eq_true rfl) ?_
  repeat' (first|(with_reducible first|refine zA ?_|refine zB ?_|refine zC ?_|refine zD ?_|refine zE ?_|refine zF ?_|refine zG ?_|refine zH ?_|refine zI ?_|refine zJ ?_|refine zK ?_|refine zL ?_)|(with_reducible refine reg_i ?_;intro K hK)|(with_reducible refine drw_i ?_;intro K hK)|((with_reducible refine cond_t ?hc ?_);(case hc=>rfl))|((with_reducible refine cond_f ?hc ?_);(case hc=>rfl))|((with_reducible refine cond_m ?_);refine And.intro ?_ ?_;all_goals(intro hb;(try simp only [sn,sb] at hb);try exact ex0))|(refine hK _ ?_;clear hK K)|(refine hK _ _ rfl ?_;clear hK K)|(have hg:=hK;clear hg;first|(refine And.intro ?zz ?_;case zz=>first|exact rfl|exact zO rfl|omega|exact gJ)|(refine fresh_c 0 rfl ?_)|(refine freshO_n ?_)|(refine at_Q ?_;intro hu)|(refine zP wA ?_)|(refine mul_Q ?_;intro hm1 hm2)|(refine zP at_M ?_)|(refine zP rfl ?_)|(refine And.intro ?_ ?_;all_goals(intro hb;(try simp only [sn,sb] at hb);try exact ex0))|(intro b0 hb)))
  all_goals try (exfalso; omega)
  refine loop_i Nat (fun v => ⟨Tryz.f6.ntmps, [(1, .ref 0 0 0 0), (3, .con (.int .i64 n.names.length)), (4, .con (.int .i64 v))], [(0, bxNt n)]⟩) (fun v => v ≤ n.names.length ∧ ∀ j ∈ List.range v, badN n.names n.values j = 0) (fun v => n.names.length - v) [] 0 trivial ⟨Nat.zero_le _, by simp⟩ ⟨rfl, ⟨rfl, rfl, lenI _ _, trivial, rfl, trivial, trivial⟩, ⟨rfl, trivial⟩, ⟨bx_cl n, trivial⟩⟩ ?_
  rintro v ⟨g0, g1⟩
  by_cases hlt : v < n.names.length
  · have hfi := Find_ok n.names (n.names.getD v default) (le62 na.names)
    have hfl := fnd_lt hlt
    have hvm := getD_mem (l := n.values) (i := v) (by omega)
    have hvl := ok.value _ hvm
    repeat' (first|(with_reducible first|refine zA ?_|refine zB ?_|refine zC ?_|refine zD ?_|refine zE ?_|refine zF ?_|refine zG ?_|refine zH ?_|refine zI ?_|refine zJ ?_|refine zK ?_|refine zL ?_)|(with_reducible refine reg_i ?_;intro K hK)|(with_reducible refine drw_i ?_;intro K hK)|((with_reducible refine cond_t ?hc ?_);(case hc=>rfl))|((with_reducible refine cond_f ?hc ?_);(case hc=>rfl))|((with_reducible refine cond_m ?_);refine And.intro ?_ ?_;all_goals(intro hb;(try simp only [sn,sb] at hb);try exact ex0))|(refine hK _ ?_;clear hK K)|(refine hK _ _ rfl ?_;clear hK K)|(have hg:=hK;clear hg;first|(refine And.intro ?zz ?_;case zz=>first|exact rfl|exact zO rfl|omega|exact gJ)|(refine fresh_n ?_)|(refine freshO_n ?_)|(refine at_Q ?_;intro hu)|(refine zP wA ?_)|(refine mul_Q ?_;intro hm1 hm2)|(refine zP at_M ?_)|(refine zP rfl ?_)|(refine zQ (hfi) ?_)|(refine And.intro ?_ ?_;all_goals(intro hb;(try simp only [sn,sb] at hb);try exact ex0))|(intro b0 hb)))
    refine loop_i (Nat × Bool) (fun z => ⟨Tryz.f6.ntmps, [(1, .ref 0 0 0 0), (3, .con (.int .i64 n.names.length)), (4, .con (.int .i64 v)), (5, .con (.bool z.2)), (6, .con (.int .i64 z.1))], [(0, bxNt n)]⟩) (fun z => z.1 ≤ (n.values.getD v default).length ∧ (z.2 = true ↔ n.names.getD v default ∈ n.names.take v ∨ ¬ ((n.values.getD v default).take z.1).Nodup)) (fun z => (n.values.getD v default).length - z.1) [] (0, decide (fndI n.names (n.names.getD v default) < v)) trivial ⟨Nat.zero_le _, show decide _ = true ↔ _ ∨ ¬ ((n.values.getD v default).take 0).Nodup from by rw [decide_eq_true_eq, hfl]; exact ⟨.inl, fun h => h.resolve_right fun h9 => h9 (by rw [List.take_zero]; exact List.nodup_nil)⟩⟩ ⟨rfl, ⟨rfl, rfl, rfl, trivial, rfl, trivial, rfl, trivial, rfl, trivial, trivial⟩, ⟨rfl, trivial⟩, ⟨bx_cl n, trivial⟩⟩ ?_
    rintro ⟨i, b⟩ ⟨g2, g3⟩
    dsimp only at g2 g3
    by_cases hi : i < (n.values.getD v default).length
    · have hfj := Find_ok (n.values.getD v default) ((n.values.getD v default).getD i default) (by omega)
      have hfjl := fnd_lt hi
      cases b with
      | true =>
        repeat' (first|(with_reducible first|refine zA ?_|refine zB ?_|refine zC ?_|refine zD ?_|refine zE ?_|refine zF ?_|refine zG ?_|refine zH ?_|refine zI ?_|refine zJ ?_|refine zK ?_|refine zL ?_)|(with_reducible refine reg_i ?_;intro K hK)|(with_reducible refine drw_i ?_;intro K hK)|((with_reducible refine cond_t ?hc ?_);(case hc=>rfl))|((with_reducible refine cond_f ?hc ?_);(case hc=>rfl))|((with_reducible refine cond_m ?_);refine And.intro ?_ ?_;all_goals(intro hb;(try simp only [sn,sb] at hb);try exact ex0))|(refine hK _ ?_;clear hK K)|(refine hK _ _ rfl ?_;clear hK K)|(have hg:=hK;clear hg;first|(refine And.intro ?zz ?_;case zz=>first|exact rfl|exact zO rfl|omega|exact gJ)|(refine fresh_n ?_)|(refine freshO_n ?_)|(refine at_Q ?_;intro hu)|(refine zP wA ?_)|(refine mul_Q ?_;intro hm1 hm2)|(refine zP at_M ?_)|(refine zP rfl ?_)|(refine zQ (hfj) ?_)|(refine And.intro ?_ ?_;all_goals(intro hb;(try simp only [sn,sb] at hb);try exact ex0))|(intro b0 hb)))
        refine ⟨(i + 1, true), ⟨by show i + 1 ≤ _; omega, ⟨fun _ => ?_, fun _ => rfl⟩⟩, by show _ - (i + 1) < _ - i; omega, rfl, ⟨rfl, rfl, rfl, trivial, rfl, trivial, rfl, trivial, rfl, trivial, trivial⟩, ⟨rfl, trivial⟩, ⟨bx_cl n, trivial⟩⟩
        rcases g3.1 rfl with h | h
        · exact .inl h
        · refine .inr fun h9 => h ?_
          rw [take_onD hi, List.nodup_append] at h9
          exact h9.1
      | false =>
        have g4 : n.names.getD v default ∉ n.names.take v ∧ ((n.values.getD v default).take i).Nodup := by
          have : ¬ (n.names.getD v default ∈ n.names.take v ∨ ¬ ((n.values.getD v default).take i).Nodup) := fun h => Bool.noConfusion (g3.2 h)
          exact ⟨fun h => this (.inl h), Classical.byContradiction fun h => this (.inr h)⟩
        repeat' (first|(with_reducible first|refine zA ?_|refine zB ?_|refine zC ?_|refine zD ?_|refine zE ?_|refine zF ?_|refine zG ?_|refine zH ?_|refine zI ?_|refine zJ ?_|refine zK ?_|refine zL ?_)|(with_reducible refine reg_i ?_;intro K hK)|(with_reducible refine drw_i ?_;intro K hK)|((with_reducible refine cond_t ?hc ?_);(case hc=>rfl))|((with_reducible refine cond_f ?hc ?_);(case hc=>rfl))|((with_reducible refine cond_m ?_);refine And.intro ?_ ?_;all_goals(intro hb;(try simp only [sn,sb] at hb);try exact ex0))|(refine hK _ ?_;clear hK K)|(refine hK _ _ rfl ?_;clear hK K)|(have hg:=hK;clear hg;first|(refine And.intro ?zz ?_;case zz=>first|exact rfl|exact zO rfl|omega|exact gJ)|(refine fresh_n ?_)|(refine freshO_n ?_)|(refine at_Q ?_;intro hu)|(refine zP wA ?_)|(refine mul_Q ?_;intro hm1 hm2)|(refine zP at_M ?_)|(refine zP rfl ?_)|(refine zQ (hfj) ?_)|(refine And.intro ?_ ?_;all_goals(intro hb;(try simp only [sn,sb] at hb);try exact ex0))|(intro b0 hb)))
        refine ⟨(i + 1, decide (fndI (n.values.getD v default) ((n.values.getD v default).getD i default) < i)), ⟨by show i + 1 ≤ _; omega, ?_⟩, by show _ - (i + 1) < _ - i; omega, rfl, ⟨rfl, rfl, rfl, trivial, rfl, trivial, rfl, trivial, rfl, trivial, trivial⟩, ⟨rfl, trivial⟩, ⟨bx_cl n, trivial⟩⟩
        show decide _ = true ↔ _ ∨ ¬ ((n.values.getD v default).take (i + 1)).Nodup
        rw [decide_eq_true_eq, hfjl]
        constructor
        · intro h; exact .inr fun h9 => nodupS_no hi h (by
            exact absurd h9 (fun h9 => by
              rw [take_onD hi, List.nodup_append] at h9
              exact h9.2.2 _ h _ (by simp) rfl))
        · rintro (h | h)
          · exact absurd h g4.1
          · exact Classical.byContradiction fun h9 => h (nodupS_step hi g4.2 h9)
    · have hil : (n.values.getD v default).length ≤ i := by omega
      rw [List.take_of_length_le hil] at g3
      cases b with
      | true =>
        have hbd : badN n.names n.values v = 40 := if_pos (g3.1 rfl)
        repeat' (first|(with_reducible first|refine zA ?_|refine zB ?_|refine zC ?_|refine zD ?_|refine zE ?_|refine zF ?_|refine zG ?_|refine zH ?_|refine zI ?_|refine zJ ?_|refine zK ?_|refine zL ?_)|(with_reducible refine reg_i ?_;intro K hK)|(with_reducible refine drw_i ?_;intro K hK)|((with_reducible refine cond_t ?hc ?_);(case hc=>rfl))|((with_reducible refine cond_f ?hc ?_);(case hc=>rfl))|((with_reducible refine cond_m ?_);refine And.intro ?_ ?_;all_goals(intro hb;(try simp only [sn,sb] at hb);try exact ex0))|(refine hK _ ?_;clear hK K)|(refine hK _ _ rfl ?_;clear hK K)|(have hg:=hK;clear hg;first|(refine And.intro ?zz ?_;case zz=>first|exact rfl|exact zO rfl|omega|exact gJ)|(refine fresh_n ?_)|(refine freshO_n ?_)|(refine at_Q ?_;intro hu)|(refine zP wA ?_)|(refine mul_Q ?_;intro hm1 hm2)|(refine zP at_M ?_)|(refine zP rfl ?_)|(refine And.intro ?_ ?_;all_goals(intro hb;(try simp only [sn,sb] at hb);try exact ex0))|(intro b0 hb)))
        rw [firstE_at hlt g1 (by omega), hbd, if_pos (by omega)]
        exact And.intro trivial (fz_con rfl)
      | false =>
        have g4 : ¬ (n.names.getD v default ∈ n.names.take v ∨ ¬ (n.values.getD v default).Nodup) := fun h => Bool.noConfusion (g3.2 h)
        repeat' (first|(with_reducible first|refine zA ?_|refine zB ?_|refine zC ?_|refine zD ?_|refine zE ?_|refine zF ?_|refine zG ?_|refine zH ?_|refine zI ?_|refine zJ ?_|refine zK ?_|refine zL ?_)|(with_reducible refine reg_i ?_;intro K hK)|(with_reducible refine drw_i ?_;intro K hK)|((with_reducible refine cond_t ?hc ?_);(case hc=>rfl))|((with_reducible refine cond_f ?hc ?_);(case hc=>rfl))|((with_reducible refine cond_m ?_);refine And.intro ?_ ?_;all_goals(intro hb;(try simp only [sn,sb] at hb);try exact ex0))|(refine hK _ ?_;clear hK K)|(refine hK _ _ rfl ?_;clear hK K)|(have hg:=hK;clear hg;first|(refine And.intro ?zz ?_;case zz=>first|exact rfl|exact zO rfl|omega|exact gJ)|(refine fresh_n ?_)|(refine freshO_n ?_)|(refine at_Q ?_;intro hu)|(refine zP wA ?_)|(refine mul_Q ?_;intro hm1 hm2)|(refine zP at_M ?_)|(refine zP rfl ?_)|(refine And.intro ?_ ?_;all_goals(intro hb;(try simp only [sn,sb] at hb);try exact ex0))|(intro b0 hb)))
        · have hbd : badN n.names n.values v = 43 := by unfold badN; rw [if_neg g4, if_pos (by omega)]
          rw [firstE_at hlt g1 (by omega), hbd, if_pos (by omega)]
          exact And.intro trivial (fz_con rfl)
        · have hbd : badN n.names n.values v = 0 := by unfold badN; rw [if_neg g4, if_neg (by omega)]
          exact ⟨v + 1, ⟨by omega, range_step g1 hbd⟩, by omega, rfl, ⟨rfl, rfl, rfl, trivial, rfl, trivial, trivial⟩, ⟨rfl, trivial⟩, ⟨bx_cl n, trivial⟩⟩
  · have hvk : n.names.length = v := by omega
    have h1 : firstE (badN n.names n.values) n.names.length = 0 := firstE_no (by rw [hvk]; exact g1)
    rw [h1, if_neg (fun h => h rfl)]
    by_cases h2 : dagE n.parents ≠ 0
    · rw [if_pos h2]
      repeat' (first|(with_reducible first|refine zA ?_|refine zB ?_|refine zC ?_|refine zD ?_|refine zE ?_|refine zF ?_|refine zG ?_|refine zH ?_|refine zI ?_|refine zJ ?_|refine zK ?_|refine zL ?_)|(with_reducible refine reg_i ?_;intro K hK)|(with_reducible refine drw_i ?_;intro K hK)|((with_reducible refine cond_t ?hc ?_);(case hc=>rfl))|((with_reducible refine cond_f ?hc ?_);(case hc=>rfl))|((with_reducible refine cond_m ?_);refine And.intro ?_ ?_;all_goals(intro hb;(try simp only [sn,sb] at hb);try exact ex0))|(refine hK _ ?_;clear hK K)|(refine hK _ _ rfl ?_;clear hK K)|(have hg:=hK;clear hg;first|(refine And.intro ?zz ?_;case zz=>first|exact rfl|exact zO rfl|omega|exact gJ)|(refine fresh_n ?_)|(refine freshO_n ?_)|(refine at_Q ?_;intro hu)|(refine zP wA ?_)|(refine mul_Q ?_;intro hm1 hm2)|(refine zP at_M ?_)|(refine zP rfl ?_)|(refine zQ (hdg) ?_)|(refine And.intro ?_ ?_;all_goals(intro hb;(try simp only [sn,sb] at hb);try exact ex0))|(intro b0 hb)))
      all_goals first | exact And.intro trivial (fz_con rfl) | (exfalso; omega)
    have h2 : dagE n.parents = 0 := Classical.byContradiction h2
    rw [h2, if_neg (fun h => h rfl)]
    rw [h2] at hdg
    have fit : Fit n := ⟨hv, hp, ht, by omega, h1, h2⟩
    clear hE g0 g1 hlt
    repeat' (first|(with_reducible first|refine zA ?_|refine zB ?_|refine zC ?_|refine zD ?_|refine zE ?_|refine zF ?_|refine zG ?_|refine zH ?_|refine zI ?_|refine zJ ?_|refine zK ?_|refine zL ?_)|(with_reducible refine reg_i ?_;intro K hK)|(with_reducible refine drw_i ?_;intro K hK)|((with_reducible refine cond_t ?hc ?_);(case hc=>rfl))|((with_reducible refine cond_f ?hc ?_);(case hc=>rfl))|((with_reducible refine cond_m ?_);refine And.intro ?_ ?_;all_goals(intro hb;(try simp only [sn,sb] at hb);try exact ex0))|(refine hK _ ?_;clear hK K)|(refine hK _ _ rfl ?_;clear hK K)|(have hg:=hK;clear hg;first|(refine And.intro ?zz ?_;case zz=>first|exact rfl|exact zO rfl|omega|exact gJ)|(refine fresh_n ?_)|(refine freshO_n ?_)|(refine at_Q ?_;intro hu)|(refine zP wA ?_)|(refine mul_Q ?_;intro hm1 hm2)|(refine zP at_M ?_)|(refine zP rfl ?_)|(refine zQ (hdg) ?_)|(refine zQ (hsz) ?_)|(refine And.intro ?_ ?_;all_goals(intro hb;(try simp only [sn,sb] at hb);try exact ex0))|(intro b0 hb)))
    clear hdg hsz hb hvk
    have zl : (szs n).length = n.names.length := by rw [szs, List.length_map]; exact hv
    refine loop_i Nat (fun v => ⟨Tryz.f6.ntmps, [(1, .ref 0 0 0 0), (3, .con (.int .i64 n.names.length)), (8, .ro true (tIL (szs n))), (9, .con (.int .i64 v))], [(0, bxNt n)]⟩) (fun v => v ≤ n.names.length ∧ ∀ j ∈ List.range v, shapeE n j = 0) (fun v => n.names.length - v) [] 0 trivial ⟨Nat.zero_le _, by simp⟩ ⟨rfl, ⟨rfl, rfl, rfl, trivial, rfl, trivial, rfl, trivial, trivial⟩, ⟨rfl, trivial⟩, ⟨bx_cl n, trivial⟩⟩ ?_
    clear v
    rintro v ⟨g0, g1⟩
    by_cases hlt : v < n.names.length
    · have hps := fit.ps ok hlt
      have hrows := Choices_ok (n.parents.getD v default) (szs n) hps
      have hrr := rowsF_rng (szs n) (n.parents.getD v default) fun s hs => by have := hps.sz s hs; omega
      have hpos := fit.pos hlt
      have hsg : (szs n).getD v default = ((n.values.getD v default).length : Int) := szs_get (by omega)
      have hov := Over_ok (rowsF (szs n) (n.parents.getD v default)) ((szs n).getD v default) (by omega) (by omega)
      have hmu := fit.must ok hlt
      have hm : mustF n v = IntKind.i64.wrap (rowsF (szs n) (n.parents.getD v default) * (szs n).getD v default) := by
        rw [hsg]; exact wrapAny (a := mustF n v) (by simp only [kmin]; omega) (by simp only [kmax]; omega)
      have hmd : rowsF (szs n) (n.parents.getD v default) * (szs n).getD v default = mustF n v := by rw [hsg]; rfl
      rw [hmd] at hov
      repeat' (first|(refine Exists.intro _ (And.intro hm ?_))|(with_reducible first|refine zA ?_|refine zB ?_|refine zC ?_|refine zD ?_|refine zE ?_|refine zF ?_|refine zG ?_|refine zH ?_|refine zI ?_|refine zJ ?_|refine zK ?_|refine zL ?_)|(with_reducible refine reg_i ?_;intro K hK)|(with_reducible refine drw_i ?_;intro K hK)|((with_reducible refine cond_t ?hc ?_);(case hc=>rfl))|((with_reducible refine cond_f ?hc ?_);(case hc=>rfl))|((with_reducible refine cond_m ?_);refine And.intro ?_ ?_;all_goals(intro hb;(try simp only [sn,sb] at hb);try exact ex0))|(refine hK _ ?_;clear hK K)|(refine hK _ _ rfl ?_;clear hK K)|(have hg:=hK;clear hg;first|(refine And.intro ?zz ?_;case zz=>first|exact rfl|exact zO rfl|omega|exact gJ)|(refine fresh_n ?_)|(refine freshO_n ?_)|(refine at_Q ?_;intro hu)|(refine zP wA ?_)|(refine mul_Q ?_;intro hm1 hm2)|(refine zP at_M ?_)|(refine zP rfl ?_)|(refine zQ (hrows) ?_)|(refine zQ (hov) ?_)|(refine And.intro ?_ ?_;all_goals(intro hb;(try simp only [sn,sb] at hb);try exact ex0))|(intro b0 hb)))
      · have hs : shapeE n v = 4 := if_pos (by omega)
        rw [firstE_at hlt g1 (by omega), hs]
        exact And.intro trivial (fz_con rfl)
      · have hs : shapeE n v = 60 := by unfold shapeE; rw [if_neg (by omega), if_pos (by omega)]
        rw [firstE_at hlt g1 (by omega), hs]
        exact And.intro trivial (fz_con rfl)
      · have hs : shapeE n v = 0 := by unfold shapeE; rw [if_neg (by omega), if_neg (by omega)]
        exact ⟨v + 1, ⟨by omega, range_step g1 hs⟩, by omega, rfl, ⟨rfl, rfl, rfl, trivial, rfl, trivial, rfl, trivial, trivial⟩, ⟨rfl, trivial⟩, ⟨bx_cl n, trivial⟩⟩
    · have hvk : n.names.length = v := by omega
      have hs0 : firstE (shapeE n) n.names.length = 0 := firstE_no (by rw [hvk]; exact g1)
      rw [hs0, if_neg (fun h => h rfl)]
      have hsh0 := firstE_zero hs0
      repeat' (first|(with_reducible first|refine zA ?_|refine zB ?_|refine zC ?_|refine zD ?_|refine zE ?_|refine zF ?_|refine zG ?_|refine zH ?_|refine zI ?_|refine zJ ?_|refine zK ?_|refine zL ?_)|(with_reducible refine reg_i ?_;intro K hK)|(with_reducible refine drw_i ?_;intro K hK)|((with_reducible refine cond_t ?hc ?_);(case hc=>rfl))|((with_reducible refine cond_f ?hc ?_);(case hc=>rfl))|((with_reducible refine cond_m ?_);refine And.intro ?_ ?_;all_goals(intro hb;(try simp only [sn,sb] at hb);try exact ex0))|(refine hK _ ?_;clear hK K)|(refine hK _ _ rfl ?_;clear hK K)|(have hg:=hK;clear hg;first|(refine And.intro ?zz ?_;case zz=>first|exact rfl|exact zO rfl|omega|exact gJ)|(refine fresh_n ?_)|(refine freshO_n ?_)|(refine at_Q ?_;intro hu)|(refine zP wA ?_)|(refine mul_Q ?_;intro hm1 hm2)|(refine zP at_M ?_)|(refine zP rfl ?_)|(refine And.intro ?_ ?_;all_goals(intro hb;(try simp only [sn,sb] at hb);try exact ex0))|(intro b0 hb)))
      clear hlt g0 g1 hvk hb
      refine loop_i Nat (fun v => ⟨Tryz.f6.ntmps, [(1, .ref 0 0 0 0), (3, .con (.int .i64 n.names.length)), (8, .ro true (tIL (szs n))), (12, .con (.int .i64 v))], [(0, bxNt n)]⟩) (fun v => v ≤ n.names.length ∧ ∀ j ∈ List.range v, entE n j = 0) (fun v => n.names.length - v) [] 0 trivial ⟨Nat.zero_le _, by simp⟩ ⟨rfl, ⟨rfl, rfl, rfl, trivial, rfl, trivial, rfl, trivial, trivial⟩, ⟨rfl, trivial⟩, ⟨bx_cl n, trivial⟩⟩ ?_
      clear v
      rintro v ⟨g0, g1⟩
      by_cases hlt : v < n.names.length
      · have hmem := getD_mem (l := n.tables) (i := v) (by omega)
        have htl := (ok.table _ hmem).1
        have hrt := ok.rat _ hmem
        repeat' (first|(with_reducible first|refine zA ?_|refine zB ?_|refine zC ?_|refine zD ?_|refine zE ?_|refine zF ?_|refine zG ?_|refine zH ?_|refine zI ?_|refine zJ ?_|refine zK ?_|refine zL ?_)|(with_reducible refine reg_i ?_;intro K hK)|(with_reducible refine drw_i ?_;intro K hK)|((with_reducible refine cond_t ?hc ?_);(case hc=>rfl))|((with_reducible refine cond_f ?hc ?_);(case hc=>rfl))|((with_reducible refine cond_m ?_);refine And.intro ?_ ?_;all_goals(intro hb;(try simp only [sn,sb] at hb);try exact ex0))|(refine hK _ ?_;clear hK K)|(refine hK _ _ rfl ?_;clear hK K)|(have hg:=hK;clear hg;first|(refine And.intro ?zz ?_;case zz=>first|exact rfl|exact zO rfl|omega|exact gJ)|(refine fresh_n ?_)|(refine freshO_n ?_)|(refine at_Q ?_;intro hu)|(refine zP wA ?_)|(refine mul_Q ?_;intro hm1 hm2)|(refine zP at_M ?_)|(refine zP rfl ?_)|(refine And.intro ?_ ?_;all_goals(intro hb;(try simp only [sn,sb] at hb);try exact ex0))|(intro b0 hb)))
        clear hb
        refine loop_i Nat (fun i => ⟨Tryz.f6.ntmps, [(1, .ref 0 0 0 0), (3, .con (.int .i64 n.names.length)), (8, .ro true (tIL (szs n))), (12, .con (.int .i64 v)), (13, .con (.int .i64 i))], [(0, bxNt n)]⟩) (fun i => i ≤ (n.tables.getD v default).length ∧ ∀ r ∈ (n.tables.getD v default).take i, outR r = false) (fun i => (n.tables.getD v default).length - i) [] 0 trivial ⟨Nat.zero_le _, by simp⟩ ⟨rfl, ⟨rfl, rfl, rfl, trivial, rfl, trivial, rfl, trivial, rfl, trivial, trivial⟩, ⟨rfl, trivial⟩, ⟨bx_cl n, trivial⟩⟩ ?_
        rintro i ⟨g2, g3⟩
        by_cases hi : i < (n.tables.getD v default).length
        · have hout := rOutside_ok ((n.tables.getD v default).getD i default) (hrt _ (getD_mem hi))
          repeat' (first|(with_reducible first|refine zA ?_|refine zB ?_|refine zC ?_|refine zD ?_|refine zE ?_|refine zF ?_|refine zG ?_|refine zH ?_|refine zI ?_|refine zJ ?_|refine zK ?_|refine zL ?_)|(with_reducible refine reg_i ?_;intro K hK)|(with_reducible refine drw_i ?_;intro K hK)|((with_reducible refine cond_t ?hc ?_);(case hc=>rfl))|((with_reducible refine cond_f ?hc ?_);(case hc=>rfl))|((with_reducible refine cond_m ?_);refine And.intro ?_ ?_;all_goals(intro hb;(try simp only [sn,sb] at hb);try exact ex0))|(refine hK _ ?_;clear hK K)|(refine hK _ _ rfl ?_;clear hK K)|(have hg:=hK;clear hg;first|(refine And.intro ?zz ?_;case zz=>first|exact rfl|exact zO rfl|omega|exact gJ)|(refine fresh_n ?_)|(refine freshO_n ?_)|(refine at_Q ?_;intro hu)|(refine zP wA ?_)|(refine mul_Q ?_;intro hm1 hm2)|(refine zP at_M ?_)|(refine zP rfl ?_)|(refine zQ (hout) ?_)|(refine And.intro ?_ ?_;all_goals(intro hb;(try simp only [sn,sb] at hb);try exact ex0))|(intro b0 hb)))
          · have hs : entE n v = 45 := if_pos (List.any_eq_true.2 ⟨_, getD_mem hi, hb⟩)
            rw [firstE_at hlt g1 (by omega), hs]
            exact And.intro trivial (fz_con rfl)
          · refine ⟨i + 1, ⟨by omega, fun r hr => ?_⟩, by omega, rfl, ⟨rfl, rfl, rfl, trivial, rfl, trivial, rfl, trivial, rfl, trivial, trivial⟩, ⟨rfl, trivial⟩, ⟨bx_cl n, trivial⟩⟩
            rw [take_onD hi] at hr
            rcases List.mem_append.1 hr with h | h
            · exact g3 r h
            · rw [List.mem_singleton.1 h]; exact hb
        · rw [List.take_of_length_le (by omega)] at g3
          have hs := entE_any.2 g3
          repeat' (first|(with_reducible first|refine zA ?_|refine zB ?_|refine zC ?_|refine zD ?_|refine zE ?_|refine zF ?_|refine zG ?_|refine zH ?_|refine zI ?_|refine zJ ?_|refine zK ?_|refine zL ?_)|(with_reducible refine reg_i ?_;intro K hK)|(with_reducible refine drw_i ?_;intro K hK)|((with_reducible refine cond_t ?hc ?_);(case hc=>rfl))|((with_reducible refine cond_f ?hc ?_);(case hc=>rfl))|((with_reducible refine cond_m ?_);refine And.intro ?_ ?_;all_goals(intro hb;(try simp only [sn,sb] at hb);try exact ex0))|(refine hK _ ?_;clear hK K)|(refine hK _ _ rfl ?_;clear hK K)|(have hg:=hK;clear hg;first|(refine And.intro ?zz ?_;case zz=>first|exact rfl|exact zO rfl|omega|exact gJ)|(refine fresh_n ?_)|(refine freshO_n ?_)|(refine at_Q ?_;intro hu)|(refine zP wA ?_)|(refine mul_Q ?_;intro hm1 hm2)|(refine zP at_M ?_)|(refine zP rfl ?_)|(refine And.intro ?_ ?_;all_goals(intro hb;(try simp only [sn,sb] at hb);try exact ex0))|(intro b0 hb)))
          exact ⟨v + 1, ⟨by omega, range_step g1 hs⟩, by omega, rfl, ⟨rfl, rfl, rfl, trivial, rfl, trivial, rfl, trivial, trivial⟩, ⟨rfl, trivial⟩, ⟨bx_cl n, trivial⟩⟩
      · have hvk : n.names.length = v := by omega
        have hs0 : firstE (entE n) n.names.length = 0 := firstE_no (by rw [hvk]; exact g1)
        rw [hs0, if_neg (fun h => h rfl)]
        repeat' (first|(with_reducible first|refine zA ?_|refine zB ?_|refine zC ?_|refine zD ?_|refine zE ?_|refine zF ?_|refine zG ?_|refine zH ?_|refine zI ?_|refine zJ ?_|refine zK ?_|refine zL ?_)|(with_reducible refine reg_i ?_;intro K hK)|(with_reducible refine drw_i ?_;intro K hK)|((with_reducible refine cond_t ?hc ?_);(case hc=>rfl))|((with_reducible refine cond_f ?hc ?_);(case hc=>rfl))|((with_reducible refine cond_m ?_);refine And.intro ?_ ?_;all_goals(intro hb;(try simp only [sn,sb] at hb);try exact ex0))|(refine hK _ ?_;clear hK K)|(refine hK _ _ rfl ?_;clear hK K)|(have hg:=hK;clear hg;first|(refine And.intro ?zz ?_;case zz=>first|exact rfl|exact zO rfl|omega|exact gJ)|(refine fresh_n ?_)|(refine freshO_n ?_)|(refine at_Q ?_;intro hu)|(refine zP wA ?_)|(refine mul_Q ?_;intro hm1 hm2)|(refine zP at_M ?_)|(refine zP rfl ?_)|(refine And.intro ?_ ?_;all_goals(intro hb;(try simp only [sn,sb] at hb);try exact ex0))|(intro b0 hb)))
        clear hlt g0 g1 hs0 hb hvk
        refine loop_i Nat (fun v => ⟨Tryz.f6.ntmps, [(1, .ref 0 0 0 0), (3, .con (.int .i64 n.names.length)), (8, .ro true (tIL (szs n))), (15, .con (.int .i64 v))], [(0, bxNt n)]⟩) (fun v => v ≤ n.names.length ∧ ∀ j ∈ List.range v, rowE n j = 0) (fun v => n.names.length - v) [] 0 trivial ⟨Nat.zero_le _, by simp⟩ ⟨rfl, ⟨rfl, rfl, rfl, trivial, rfl, trivial, rfl, trivial, trivial⟩, ⟨rfl, trivial⟩, ⟨bx_cl n, trivial⟩⟩ ?_
        clear v
        rintro v ⟨g0, g1⟩
        by_cases hlt : v < n.names.length
        · have hmem := getD_mem (l := n.tables) (i := v) (by omega)
          have hvm := getD_mem (l := n.values) (i := v) (by omega)
          have hpos := fit.pos hlt
          have hvl := ok.value _ hvm
          have htl := ok.table _ hmem
          have hps := fit.ps ok hlt
          have hrr := rowsF_rng (szs n) (n.parents.getD v default) fun s hs => by have := hps.sz s hs; omega
          have hsg : (szs n).getD v default = ((n.values.getD v default).length : Int) := szs_get (by omega)
          have hm : (n.tables.getD v default).length = (rowsF (szs n) (n.parents.getD v default)).toNat * (n.values.getD v default).length := by
            have h9 := hsh0 v hlt
            have h8 : mustF n v = ((n.tables.getD v default).length : Int) := by
              unfold shapeE at h9
              split at h9
              · omega
              · split at h9
                · omega
                · omega
            have h7 : ((rowsF (szs n) (n.parents.getD v default)).toNat : Int) = rowsF (szs n) (n.parents.getD v default) := Int.toNat_of_nonneg (by omega)
            apply Int.ofNat.inj
            show ((n.tables.getD v default).length : Int) = (((rowsF (szs n) (n.parents.getD v default)).toNat * (n.values.getD v default).length : Nat) : Int)
            rw [Int.natCast_mul, h7, ← h8]
            rfl
          have hw := rWhole_ok (n.tables.getD v default) (n.values.getD v default).length (rowsF (szs n) (n.parents.getD v default)).toNat hpos hvl htl.1 (by have := htl.2; omega) hm
          rw [← hsg] at hw
          repeat' (first|(with_reducible first|refine zA ?_|refine zB ?_|refine zC ?_|refine zD ?_|refine zE ?_|refine zF ?_|refine zG ?_|refine zH ?_|refine zI ?_|refine zJ ?_|refine zK ?_|refine zL ?_)|(with_reducible refine reg_i ?_;intro K hK)|(with_reducible refine drw_i ?_;intro K hK)|((with_reducible refine cond_t ?hc ?_);(case hc=>rfl))|((with_reducible refine cond_f ?hc ?_);(case hc=>rfl))|((with_reducible refine cond_m ?_);refine And.intro ?_ ?_;all_goals(intro hb;(try simp only [sn,sb] at hb);try exact ex0))|(refine hK _ ?_;clear hK K)|(refine hK _ _ rfl ?_;clear hK K)|(have hg:=hK;clear hg;first|(refine And.intro ?zz ?_;case zz=>first|exact rfl|exact zO rfl|omega|exact gJ)|(refine fresh_n ?_)|(refine freshO_n ?_)|(refine at_Q ?_;intro hu)|(refine zP wA ?_)|(refine mul_Q ?_;intro hm1 hm2)|(refine zP at_M ?_)|(refine zP rfl ?_)|(refine zQ (hw) ?_)|(refine And.intro ?_ ?_;all_goals(intro hb;(try simp only [sn,sb] at hb);try exact ex0))|(intro b0 hb)))
          · have hs : rowE n v = 46 := if_neg (by rw [hb]; exact Bool.false_ne_true)
            rw [firstE_at hlt g1 (by omega), hs]
            exact And.intro trivial (fz_con rfl)
          · have hs : rowE n v = 0 := if_pos hb
            exact ⟨v + 1, ⟨by omega, range_step g1 hs⟩, by omega, rfl, ⟨rfl, rfl, rfl, trivial, rfl, trivial, rfl, trivial, trivial⟩, ⟨rfl, trivial⟩, ⟨bx_cl n, trivial⟩⟩
        · have hvk : n.names.length = v := by omega
          have hs0 : firstE (rowE n) n.names.length = 0 := firstE_no (by rw [hvk]; exact g1)
          rw [hs0]
          repeat' (first|(with_reducible first|refine zA ?_|refine zB ?_|refine zC ?_|refine zD ?_|refine zE ?_|refine zF ?_|refine zG ?_|refine zH ?_|refine zI ?_|refine zJ ?_|refine zK ?_|refine zL ?_)|(with_reducible refine reg_i ?_;intro K hK)|(with_reducible refine drw_i ?_;intro K hK)|((with_reducible refine cond_t ?hc ?_);(case hc=>rfl))|((with_reducible refine cond_f ?hc ?_);(case hc=>rfl))|((with_reducible refine cond_m ?_);refine And.intro ?_ ?_;all_goals(intro hb;(try simp only [sn,sb] at hb);try exact ex0))|(refine hK _ ?_;clear hK K)|(refine hK _ _ rfl ?_;clear hK K)|(have hg:=hK;clear hg;first|(refine And.intro ?zz ?_;case zz=>first|exact rfl|exact zO rfl|omega|exact gJ)|(refine fresh_n ?_)|(refine freshO_n ?_)|(refine at_Q ?_;intro hu)|(refine zP wA ?_)|(refine mul_Q ?_;intro hm1 hm2)|(refine zP at_M ?_)|(refine zP rfl ?_)|(refine And.intro ?_ ?_;all_goals(intro hb;(try simp only [sn,sb] at hb);try exact ex0))|(intro b0 hb)))
          exact And.intro trivial (fz_con rfl)
end Go.Ev
