import Derived.Test.YtekgeekghclfaaaGreatChk4a
set_option linter.all false
namespace Go.Ev
open Go.Proofs
set_option maxRecDepth 10000
set_option maxHeartbeats 4000000
set_option linter.unusedSimpArgs false
set_option linter.unusedVariables false
theorem Check_ok (n : Nt) (ok : CkOK n) : Ok Tryz.prog 9 [tNt n] true (.con (.int .i64 (checkE n))) := by
  have na := ok.nt
  have c1 := ok.names
  have c2 := ok.values
  have c3 := ok.parents
  have c4 := ok.tables
  by_cases hsh : n.values.length ≠ n.names.length ∨ n.parents.length ≠ n.names.length ∨ n.tables.length ≠ n.names.length
  · have hE : checkE n = 60 := if_pos hsh
    rw [hE]
    refine ok_of_ev (fun _ _ _ h => h) mix Tryz.func9 rfl rfl (by kernel_rfl) (Nat.le_of_ble_eq_true rfl) ?_
    repeat' (first|(with_reducible first|refine zA ?_|refine zB ?_|refine zC ?_|refine zD ?_|refine zE ?_|refine zF ?_|refine zG ?_|refine zH ?_|refine zI ?_|refine zJ ?_|refine zK ?_|refine zL ?_)|(with_reducible refine reg_i ?_;intro K hK)|(with_reducible refine drw_i ?_;intro K hK)|((with_reducible refine cond_t ?hc ?_);(case hc=>rfl))|((with_reducible refine cond_f ?hc ?_);(case hc=>rfl))|((with_reducible refine cond_m ?_);refine And.intro ?_ ?_;all_goals(intro hb;(try simp only [sn,sb] at hb);try exact ex0))|(refine hK _ ?_;clear hK K)|(refine hK _ _ rfl ?_;clear hK K)|(have hg:=hK;clear hg;first|(refine And.intro ?zz ?_;case zz=>first|exact rfl|exact zO rfl|omega|exact gJ)|(refine fresh_c 0 rfl ?_)|(refine freshO_n ?_)|(refine at_Q ?_;intro hu)|(refine zP wA ?_)|(refine mul_Q ?_;intro hm1 hm2)|(refine zP at_M ?_)|(refine zP rfl ?_)|(refine And.intro ?_ ?_;all_goals(intro hb;(try simp only [sn,sb] at hb);try exact ex0))|(intro b0 hb)))
    all_goals first | exact And.intro trivial (fz_con rfl) | (exfalso; omega)
  have hv : n.values.length = n.names.length := by omega
  have hp : n.parents.length = n.names.length := by omega
  have ht : n.tables.length = n.names.length := by omega
  by_cases hk : 1024 < n.names.length
  · have hE : checkE n = 4 := by rw [checkE, if_neg hsh, if_pos hk]
    rw [hE]
    refine ok_of_ev (fun _ _ _ h => h) mix Tryz.func9 rfl rfl (by kernel_rfl) (Nat.le_of_ble_eq_true rfl) ?_
    repeat' (first|(with_reducible first|refine zA ?_|refine zB ?_|refine zC ?_|refine zD ?_|refine zE ?_|refine zF ?_|refine zG ?_|refine zH ?_|refine zI ?_|refine zJ ?_|refine zK ?_|refine zL ?_)|(with_reducible refine reg_i ?_;intro K hK)|(with_reducible refine drw_i ?_;intro K hK)|((with_reducible refine cond_t ?hc ?_);(case hc=>rfl))|((with_reducible refine cond_f ?hc ?_);(case hc=>rfl))|((with_reducible refine cond_m ?_);refine And.intro ?_ ?_;all_goals(intro hb;(try simp only [sn,sb] at hb);try exact ex0))|(refine hK _ ?_;clear hK K)|(refine hK _ _ rfl ?_;clear hK K)|(have hg:=hK;clear hg;first|(refine And.intro ?zz ?_;case zz=>first|exact rfl|exact zO rfl|omega|exact gJ)|(refine fresh_c 0 rfl ?_)|(refine freshO_n ?_)|(refine at_Q ?_;intro hu)|(refine zP wA ?_)|(refine mul_Q ?_;intro hm1 hm2)|(refine zP at_M ?_)|(refine zP rfl ?_)|(refine And.intro ?_ ?_;all_goals(intro hb;(try simp only [sn,sb] at hb);try exact ex0))|(intro b0 hb)))
    all_goals first | exact And.intro trivial (fz_con rfl) | (exfalso; omega)
  have hnm := named_ok n na hv
  have hdg := CheckD_ok n.parents (by omega) (fun l hl => Nat.le_trans (ok.parent l hl) (by decide))
  by_cases h1 : firstE (badN n.names n.values) n.names.length ≠ 0
  · have hE : checkE n = firstE (badN n.names n.values) n.names.length := by rw [checkE, if_neg hsh, if_neg hk, if_pos h1]
    rw [hE]
    refine ok_of_ev (fun _ _ _ h => h) mix Tryz.func9 rfl rfl (by kernel_rfl) (Nat.le_of_ble_eq_true rfl) ?_
    repeat' (first|(with_reducible first|refine zA ?_|refine zB ?_|refine zC ?_|refine zD ?_|refine zE ?_|refine zF ?_|refine zG ?_|refine zH ?_|refine zI ?_|refine zJ ?_|refine zK ?_|refine zL ?_)|(with_reducible refine reg_i ?_;intro K hK)|(with_reducible refine drw_i ?_;intro K hK)|((with_reducible refine cond_t ?hc ?_);(case hc=>rfl))|((with_reducible refine cond_f ?hc ?_);(case hc=>rfl))|((with_reducible refine cond_m ?_);refine And.intro ?_ ?_;all_goals(intro hb;(try simp only [sn,sb] at hb);try exact ex0))|(refine hK _ ?_;clear hK K)|(refine hK _ _ rfl ?_;clear hK K)|(have hg:=hK;clear hg;first|(refine And.intro ?zz ?_;case zz=>first|exact rfl|exact zO rfl|omega|exact gJ)|(refine fresh_c 0 rfl ?_)|(refine freshO_n ?_)|(refine at_Q ?_;intro hu)|(refine zP wA ?_)|(refine mul_Q ?_;intro hm1 hm2)|(refine zP at_M ?_)|(refine zP rfl ?_)|(refine zQ (hnm) ?_)|(refine And.intro ?_ ?_;all_goals(intro hb;(try simp only [sn,sb] at hb);try exact ex0))|(intro b0 hb)))
    all_goals first | exact And.intro trivial (fz_con rfl) | (exfalso; omega)
  have h1 : firstE (badN n.names n.values) n.names.length = 0 := Classical.byContradiction h1
  rw [h1] at hnm
  by_cases h2 : dagE n.parents ≠ 0
  · have hE : checkE n = dagE n.parents := by rw [checkE, if_neg hsh, if_neg hk, h1, if_neg (by omega), if_pos h2]
    rw [hE]
    refine ok_of_ev (fun _ _ _ h => h) mix Tryz.func9 rfl rfl (by kernel_rfl) (Nat.le_of_ble_eq_true rfl) ?_
    repeat' (first|(with_reducible first|refine zA ?_|refine zB ?_|refine zC ?_|refine zD ?_|refine zE ?_|refine zF ?_|refine zG ?_|refine zH ?_|refine zI ?_|refine zJ ?_|refine zK ?_|refine zL ?_)|(with_reducible refine reg_i ?_;intro K hK)|(with_reducible refine drw_i ?_;intro K hK)|((with_reducible refine cond_t ?hc ?_);(case hc=>rfl))|((with_reducible refine cond_f ?hc ?_);(case hc=>rfl))|((with_reducible refine cond_m ?_);refine And.intro ?_ ?_;all_goals(intro hb;(try simp only [sn,sb] at hb);try exact ex0))|(refine hK _ ?_;clear hK K)|(refine hK _ _ rfl ?_;clear hK K)|(have hg:=hK;clear hg;first|(refine And.intro ?zz ?_;case zz=>first|exact rfl|exact zO rfl|omega|exact gJ)|(refine fresh_c 0 rfl ?_)|(refine freshO_n ?_)|(refine at_Q ?_;intro hu)|(refine zP wA ?_)|(refine mul_Q ?_;intro hm1 hm2)|(refine zP at_M ?_)|(refine zP rfl ?_)|(refine zQ (hnm) ?_)|(refine zQ (hdg) ?_)|(refine And.intro ?_ ?_;all_goals(intro hb;(try simp only [sn,sb] at hb);try exact ex0))|(intro b0 hb)))
    all_goals first | exact And.intro trivial (fz_con rfl) | (exfalso; omega)
  have h2 : dagE n.parents = 0 := Classical.byContradiction h2
  rw [h2] at hdg
  have hE : checkE n = if firstE (shapeE n) n.names.length ≠ 0 then firstE (shapeE n) n.names.length else if firstE (entE n) n.names.length ≠ 0 then firstE (entE n) n.names.length else firstE (rowE n) n.names.length := by
    rw [checkE, if_neg hsh, if_neg hk, h1, if_neg (by omega), h2, if_neg (by omega)]
  have fit : Fit n := ⟨hv, hp, ht, by omega, h1, h2⟩
  rw [hE]
  refine ok_of_ev (fun _ _ _ h => h) mix Tryz.func9 rfl rfl (by kernel_rfl) (Nat.le_of_ble_eq_true rfl) ?_
  repeat' (first|(with_reducible first|refine zA ?_|refine zB ?_|refine zC ?_|refine zD ?_|refine zE ?_|refine zF ?_|refine zG ?_|refine zH ?_|refine zI ?_|refine zJ ?_|refine zK ?_|refine zL ?_)|(with_reducible refine reg_i ?_;intro K hK)|(with_reducible refine drw_i ?_;intro K hK)|((with_reducible refine cond_t ?hc ?_);(case hc=>rfl))|((with_reducible refine cond_f ?hc ?_);(case hc=>rfl))|((with_reducible refine cond_m ?_);refine And.intro ?_ ?_;all_goals(intro hb;(try simp only [sn,sb] at hb);try exact ex0))|(refine hK _ ?_;clear hK K)|(refine hK _ _ rfl ?_;clear hK K)|(have hg:=hK;clear hg;first|(refine And.intro ?zz ?_;case zz=>first|exact rfl|exact zO rfl|omega|exact gJ)|(refine fresh_c 0 rfl ?_)|(refine freshO_n ?_)|(refine at_Q ?_;intro hu)|(refine zP wA ?_)|(refine mul_Q ?_;intro hm1 hm2)|(refine zP at_M ?_)|(refine zP rfl ?_)|(refine zQ (hnm) ?_)|(refine zQ (hdg) ?_)|(refine And.intro ?_ ?_;all_goals(intro hb;(try simp only [sn,sb] at hb);try exact ex0))|(intro b0 hb)))
  all_goals try (exfalso; omega)
  refine loop_i Nat (fun v => ⟨Tryz.f9.ntmps, [(1, .ref 0 0 0 0), (49, .ro false (tRLL n.tables)), (50, .con (.int .i64 n.tables.length)), (51, .con (.int .i64 v))], [(0, bxNt n)]⟩) (fun v => v ≤ n.names.length ∧ ∀ j ∈ List.range v, shapeE n j = 0) (fun v => n.names.length - v) [] 0 trivial ⟨Nat.zero_le _, by simp⟩ ⟨rfl, ⟨rfl, rfl, rfl, trivial, lenI _ _, trivial, rfl, trivial, trivial⟩, ⟨rfl, trivial⟩, ⟨bx_cl n, trivial⟩⟩ ?_
  rintro v ⟨g0, g1⟩
  by_cases hlt : v < n.names.length
  · have hps := fit.ps ok hlt
    have hrows := rows_ok n v (by omega) c3 c2 hps
    have hmu := fit.must ok hlt
    have hm : mustF n v = IntKind.i64.wrap (rowsF (szs n) (n.parents.getD v default) * (((n.values.getD v default).map tS).length : Nat)) := by
      rw [lenN]; exact wrapAny (a := mustF n v) (by simp only [kmin]; omega) (by simp only [kmax]; omega)
    repeat' (first|(refine Exists.intro _ (And.intro hm ?_))|(with_reducible first|refine zA ?_|refine zB ?_|refine zC ?_|refine zD ?_|refine zE ?_|refine zF ?_|refine zG ?_|refine zH ?_|refine zI ?_|refine zJ ?_|refine zK ?_|refine zL ?_)|(with_reducible refine reg_i ?_;intro K hK)|(with_reducible refine drw_i ?_;intro K hK)|((with_reducible refine cond_t ?hc ?_);(case hc=>rfl))|((with_reducible refine cond_f ?hc ?_);(case hc=>rfl))|((with_reducible refine cond_m ?_);refine And.intro ?_ ?_;all_goals(intro hb;(try simp only [sn,sb] at hb);try exact ex0))|(refine hK _ ?_;clear hK K)|(refine hK _ _ rfl ?_;clear hK K)|(have hg:=hK;clear hg;first|(refine And.intro ?zz ?_;case zz=>first|exact rfl|exact zO rfl|omega|exact gJ)|(refine fresh_n ?_)|(refine freshO_n ?_)|(refine at_Q ?_;intro hu)|(refine zP wA ?_)|(refine mul_Q ?_;intro hm1 hm2)|(refine zP at_M ?_)|(refine zP rfl ?_)|(refine zQ (hrows) ?_)|(refine And.intro ?_ ?_;all_goals(intro hb;(try simp only [sn,sb] at hb);try exact ex0))|(intro b0 hb)))
    · have hs : shapeE n v = 4 := if_pos (by omega)
      rw [firstE_at hlt g1 (by omega), hs]
      exact And.intro trivial (fz_con rfl)
    · have hs : shapeE n v = 60 := by unfold shapeE; rw [if_neg (by omega), if_pos (by omega)]
      rw [firstE_at hlt g1 (by omega), hs]
      exact And.intro trivial (fz_con rfl)
    · have hs : shapeE n v = 0 := by unfold shapeE; rw [if_neg (by omega), if_neg (by omega)]
      exact ⟨v + 1, ⟨by omega, range_step g1 hs⟩, by omega, rfl, ⟨rfl, rfl, rfl, trivial, rfl, trivial, rfl, trivial, trivial⟩, ⟨rfl, trivial⟩, ⟨bx_cl n, trivial⟩⟩
  · have hvk : n.names.length = v := by omega
    have hs0 : firstE (shapeE n) n.names.length = 0 := firstE_no (by rw [hvk]; exact g1)
    rw [hs0, if_neg (fun h => h rfl)]
    repeat' (first|(with_reducible first|refine zA ?_|refine zB ?_|refine zC ?_|refine zD ?_|refine zE ?_|refine zF ?_|refine zG ?_|refine zH ?_|refine zI ?_|refine zJ ?_|refine zK ?_|refine zL ?_)|(with_reducible refine reg_i ?_;intro K hK)|(with_reducible refine drw_i ?_;intro K hK)|((with_reducible refine cond_t ?hc ?_);(case hc=>rfl))|((with_reducible refine cond_f ?hc ?_);(case hc=>rfl))|((with_reducible refine cond_m ?_);refine And.intro ?_ ?_;all_goals(intro hb;(try simp only [sn,sb] at hb);try exact ex0))|(refine hK _ ?_;clear hK K)|(refine hK _ _ rfl ?_;clear hK K)|(have hg:=hK;clear hg;first|(refine And.intro ?zz ?_;case zz=>first|exact rfl|exact zO rfl|omega|exact gJ)|(refine fresh_n ?_)|(refine freshO_n ?_)|(refine at_Q ?_;intro hu)|(refine zP wA ?_)|(refine mul_Q ?_;intro hm1 hm2)|(refine zP at_M ?_)|(refine zP rfl ?_)|(refine And.intro ?_ ?_;all_goals(intro hb;(try simp only [sn,sb] at hb);try exact ex0))|(intro b0 hb)))
    clear hlt g0 g1 hs0
    refine loop_i Nat (fun v => ⟨Tryz.f9.ntmps, [(1, .ref 0 0 0 0), (74, .ro false (tRLL n.tables)), (75, .con (.int .i64 n.tables.length)), (76, .con (.int .i64 v))], [(0, bxNt n)]⟩) (fun v => v ≤ n.names.length ∧ ∀ j ∈ List.range v, entE n j = 0) (fun v => n.names.length - v) [] 0 trivial ⟨Nat.zero_le _, by simp⟩ ⟨rfl, ⟨rfl, rfl, rfl, trivial, lenI _ _, trivial, rfl, trivial, trivial⟩, ⟨rfl, trivial⟩, ⟨bx_cl n, trivial⟩⟩ ?_
    clear hvk hb v
    rintro v ⟨g0, g1⟩
    by_cases hlt : v < n.names.length
    · have hmem := getD_mem (l := n.tables) (i := v) (by omega)
      have hf := fittings_ok (n.tables.getD v default) (ok.table _ hmem).1 (ok.rat _ hmem)
      have hc := ContainsFunc_ok 27 outR ((n.tables.getD v default).map fitR) (by rw [List.length_map]; exact Nat.le_trans (ok.table _ hmem).1 (by decide)) (fun r hr => by
        obtain ⟨x, hx, rfl⟩ := List.mem_map.1 hr
        exact outside_ok _ (fitR_ok (ok.rat _ hmem x hx)))
      rw [any_fit] at hc
      repeat' (first|(with_reducible first|refine zA ?_|refine zB ?_|refine zC ?_|refine zD ?_|refine zE ?_|refine zF ?_|refine zG ?_|refine zH ?_|refine zI ?_|refine zJ ?_|refine zK ?_|refine zL ?_)|(with_reducible refine reg_i ?_;intro K hK)|(with_reducible refine drw_i ?_;intro K hK)|((with_reducible refine cond_t ?hc ?_);(case hc=>rfl))|((with_reducible refine cond_f ?hc ?_);(case hc=>rfl))|((with_reducible refine cond_m ?_);refine And.intro ?_ ?_;all_goals(intro hb;(try simp only [sn,sb] at hb);try exact ex0))|(refine hK _ ?_;clear hK K)|(refine hK _ _ rfl ?_;clear hK K)|(have hg:=hK;clear hg;first|(refine And.intro ?zz ?_;case zz=>first|exact rfl|exact zO rfl|omega|exact gJ)|(refine fresh_n ?_)|(refine freshO_n ?_)|(refine at_Q ?_;intro hu)|(refine zP wA ?_)|(refine mul_Q ?_;intro hm1 hm2)|(refine zP at_M ?_)|(refine zP rfl ?_)|(refine zQ (hf) ?_)|(refine zQ (hc) ?_)|(refine And.intro ?_ ?_;all_goals(intro hb;(try simp only [sn,sb] at hb);try exact ex0))|(intro b0 hb)))
      · have hs : entE n v = 45 := if_pos hb
        rw [firstE_at hlt g1 (by omega), hs]
        exact And.intro trivial (fz_con rfl)
      · have hs : entE n v = 0 := if_neg (by rw [hb]; exact Bool.false_ne_true)
        exact ⟨v + 1, ⟨by omega, range_step g1 hs⟩, by omega, rfl, ⟨rfl, rfl, rfl, trivial, rfl, trivial, rfl, trivial, trivial⟩, ⟨rfl, trivial⟩, ⟨bx_cl n, trivial⟩⟩
    · have hvk : n.names.length = v := by omega
      have hs0 : firstE (entE n) n.names.length = 0 := firstE_no (by rw [hvk]; exact g1)
      rw [hs0, if_neg (fun h => h rfl)]
      repeat' (first|(with_reducible first|refine zA ?_|refine zB ?_|refine zC ?_|refine zD ?_|refine zE ?_|refine zF ?_|refine zG ?_|refine zH ?_|refine zI ?_|refine zJ ?_|refine zK ?_|refine zL ?_)|(with_reducible refine reg_i ?_;intro K hK)|(with_reducible refine drw_i ?_;intro K hK)|((with_reducible refine cond_t ?hc ?_);(case hc=>rfl))|((with_reducible refine cond_f ?hc ?_);(case hc=>rfl))|((with_reducible refine cond_m ?_);refine And.intro ?_ ?_;all_goals(intro hb;(try simp only [sn,sb] at hb);try exact ex0))|(refine hK _ ?_;clear hK K)|(refine hK _ _ rfl ?_;clear hK K)|(have hg:=hK;clear hg;first|(refine And.intro ?zz ?_;case zz=>first|exact rfl|exact zO rfl|omega|exact gJ)|(refine fresh_n ?_)|(refine freshO_n ?_)|(refine at_Q ?_;intro hu)|(refine zP wA ?_)|(refine mul_Q ?_;intro hm1 hm2)|(refine zP at_M ?_)|(refine zP rfl ?_)|(refine And.intro ?_ ?_;all_goals(intro hb;(try simp only [sn,sb] at hb);try exact ex0))|(intro b0 hb)))
      clear hlt g0 g1 hs0
      refine loop_i Nat (fun v => ⟨Tryz.f9.ntmps, [(1, .ref 0 0 0 0), (85, .ro false (tRLL n.tables)), (86, .con (.int .i64 n.tables.length)), (87, .con (.int .i64 v))], [(0, bxNt n)]⟩) (fun v => v ≤ n.names.length ∧ ∀ j ∈ List.range v, rowE n j = 0) (fun v => n.names.length - v) [] 0 trivial ⟨Nat.zero_le _, by simp⟩ ⟨rfl, ⟨rfl, rfl, rfl, trivial, lenI _ _, trivial, rfl, trivial, trivial⟩, ⟨rfl, trivial⟩, ⟨bx_cl n, trivial⟩⟩ ?_
      clear hvk hb v
      rintro v ⟨g0, g1⟩
      by_cases hlt : v < n.names.length
      · have hmem := getD_mem (l := n.tables) (i := v) (by omega)
        have hvm := getD_mem (l := n.values) (i := v) (by omega)
        have hpos := fit.pos hlt
        have hvl := ok.value _ hvm
        have hf := fittings_ok (n.tables.getD v default) (ok.table _ hmem).1 (ok.rat _ hmem)
        have htl := ok.table _ hmem
        have htl1 := htl.1
        have htl2 := htl.2
        have hbf := bulk_fit (n.tables.getD v default)
        have hw := whole_ok ((n.tables.getD v default).map fitR) ((n.values.getD v default).map tS).length (by rw [List.length_map]; exact hpos) (by rw [List.length_map]; exact hvl) (by rw [List.length_map]; exact htl.1) (by omega)
        have he : wholeB ((n.tables.getD v default).map fitR) ((n.values.getD v default).map tS).length = wholeB (n.tables.getD v default) (n.values.getD v default).length := by rw [wholeB_fit, List.length_map]
        rw [he] at hw
        repeat' (first|(with_reducible first|refine zA ?_|refine zB ?_|refine zC ?_|refine zD ?_|refine zE ?_|refine zF ?_|refine zG ?_|refine zH ?_|refine zI ?_|refine zJ ?_|refine zK ?_|refine zL ?_)|(with_reducible refine reg_i ?_;intro K hK)|(with_reducible refine drw_i ?_;intro K hK)|((with_reducible refine cond_t ?hc ?_);(case hc=>rfl))|((with_reducible refine cond_f ?hc ?_);(case hc=>rfl))|((with_reducible refine cond_m ?_);refine And.intro ?_ ?_;all_goals(intro hb;(try simp only [sn,sb] at hb);try exact ex0))|(refine hK _ ?_;clear hK K)|(refine hK _ _ rfl ?_;clear hK K)|(have hg:=hK;clear hg;first|(refine And.intro ?zz ?_;case zz=>first|exact rfl|exact zO rfl|omega|exact gJ)|(refine fresh_n ?_)|(refine freshO_n ?_)|(refine at_Q ?_;intro hu)|(refine zP wA ?_)|(refine mul_Q ?_;intro hm1 hm2)|(refine zP at_M ?_)|(refine zP rfl ?_)|(refine zQ (hf) ?_)|(refine zQ (hw) ?_)|(refine And.intro ?_ ?_;all_goals(intro hb;(try simp only [sn,sb] at hb);try exact ex0))|(intro b0 hb)))
        · have hs : rowE n v = 46 := if_neg (by rw [hb]; exact Bool.false_ne_true)
          rw [firstE_at hlt g1 (by omega), hs]
          exact And.intro trivial (fz_con rfl)
        · have hs : rowE n v = 0 := if_pos hb
          exact ⟨v + 1, ⟨by omega, range_step g1 hs⟩, by omega, rfl, ⟨rfl, rfl, rfl, trivial, rfl, trivial, rfl, trivial, trivial⟩, ⟨rfl, trivial⟩, ⟨bx_cl n, trivial⟩⟩
      · have hvk : n.names.length = v := by omega
        have hs0 : firstE (rowE n) n.names.length = 0 := firstE_no (by rw [hvk]; exact g1)
        rw [hs0]
        repeat' (first|(with_reducible first|refine zA ?_|refine zB ?_|refine zC ?_|refine zD ?_|refine zE ?_|refine zF ?_|refine zG ?_|refine zH ?_|refine zI ?_|refine zJ ?_|refine zK ?_|refine zL ?_)|(with_reducible refine reg_i ?_;intro K hK)|(with_reducible refine drw_i ?_;intro K hK)|((with_reducible refine cond_t ?hc ?_);(case hc=>rfl))|((with_reducible refine cond_f ?hc ?_);(case hc=>rfl))|((with_reducible refine cond_m ?_);refine And.intro ?_ ?_;all_goals(intro hb;(try simp only [sn,sb] at hb);try exact ex0))|(refine hK _ ?_;clear hK K)|(refine hK _ _ rfl ?_;clear hK K)|(have hg:=hK;clear hg;first|(refine And.intro ?zz ?_;case zz=>first|exact rfl|exact zO rfl|omega|exact gJ)|(refine fresh_n ?_)|(refine freshO_n ?_)|(refine at_Q ?_;intro hu)|(refine zP wA ?_)|(refine mul_Q ?_;intro hm1 hm2)|(refine zP at_M ?_)|(refine zP rfl ?_)|(refine And.intro ?_ ?_;all_goals(intro hb;(try simp only [sn,sb] at hb);try exact ex0))|(intro b0 hb)))
        exact And.intro trivial (fz_con rfl)
end Go.Ev
