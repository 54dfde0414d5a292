import Derived.Test.YtekgeekghclfaaaGreatHeap
set_option linter.all false
namespace Go.Ev
open Go.Proofs
set_option maxRecDepth 10000
set_option maxHeartbeats 4000000
set_option linter.unusedSimpArgs false
set_option linter.unusedVariables false
def lstA (l : List Int) (n i : Nat) : Nat := if 2 * i + 1 < n ∧ l.getD (2 * i + 1) 0 < l.getD i 0 then 2 * i + 1 else i
theorem lstA_le (l : List Int) (n i : Nat) : i ≤ lstA l n i ∧ lstA l n i ≤ 2 * i + 1 ∧ (lstA l n i = i ∨ lstA l n i < n) := by
  unfold lstA; split <;> omega
def stP1 (N len : Nat) (x : Int) (L : List Int) (i : Nat) : St := ⟨N, [(0, .ref 0 0 0 0), (3, .own 1 0 0 len), (4, .con (.int .i64 x)), (5, .con (.int .i64 (len - 1 : Nat))), (6, .con (.int .i64 i))], [(0, ⟨1, [.own 1 0 0 (len - 1)], 0, true⟩), (1, ⟨1, L.map ci, 0, true⟩)]⟩
def stP2 (N len : Nat) (x : Int) (L : List Int) (i j k : Nat) : St := ⟨N, [(0, .ref 0 0 0 0), (3, .own 1 0 0 len), (4, .con (.int .i64 x)), (5, .con (.int .i64 (len - 1 : Nat))), (6, .con (.int .i64 i)), (7, .con (.int .i64 k)), (37, .agg [.con (.int .i64 (2 * i + 1 : Nat)), .con (.int .i64 (2 * i + 2 : Nat))]), (38, .con (.int .i64 j))], [(0, ⟨1, [.own 1 0 0 (len - 1)], 0, true⟩), (1, ⟨1, L.map ci, 0, true⟩)]⟩
theorem wrapN {n : Nat} {a : Int} (h : a = n) (hb : n ≤ 4611686018427387904) : (n : Int) = IntKind.i64.wrap a := by
  rw [h]; exact wrapAny (by simp only [kmin]; omega) (by simp only [kmax]; omega)
theorem arr_cl (oh : OH) (a b : Int) : (V.agg [.con (.int .i64 a), .con (.int .i64 b)]).cl oh := by
  intro v hv
  simp at hv
  rcases hv with rfl | rfl <;> trivial
theorem pop_ok (h : HS) (hl : h.len ≤ h.E.length) (hb : h.len ≤ 1073741824) (h0 : 0 < h.len) : OkG Tryz.prog 96 (hpO h.len h.E 0) [] [.ref 0 0 0 0] (hpO (kPop h).len (kPop h).E 1) (.con (.int .i64 (h.E.getD 0 0))) := by
  refine okg_of_ev (fun _ _ _ h => h) mix 1 (Nat.le_of_ble_eq_true rfl) Tryz.func96 rfl rfl (by kernel_rfl) (by kernel_rfl) (Nat.le_of_ble_eq_true rfl) ?wf ?vs ?po ?le ?_
  case wf => exact hp_wf _ _
  case vs =>
    intro v hv
    obtain rfl := List.mem_singleton.1 hv
    exact rfl
  case po => exact hp_po _ _ _ _ _
  case le => exact hp_le _ _ _ _ _
  have hw : ((h.len - 1 : Nat) : Int) = IntKind.i64.wrap ((h.len : Int) - 1) := wrapN (by omega) (by omega)
  repeat' (first|(refine Exists.intro _ (And.intro hw ?_))|(with_reducible first|refine zA ?_|refine zB ?_|refine zC ?_|refine zD ?_|refine zE ?_|refine zF ?_|refine zG ?_|refine zH ?_|refine zI ?_|refine zJ ?_|refine zK ?_|refine zL ?_)|(with_reducible refine reg_i ?_;intro K hK)|(with_reducible refine drw_i ?_;intro K hK)|((with_reducible refine cond_t ?hc ?_);(case hc=>rfl))|((with_reducible refine cond_f ?hc ?_);(case hc=>rfl))|((with_reducible refine cond_m ?_);refine And.intro ?_ ?_;all_goals(intro hb;(try simp only [sn,sb] at hb);try exact ex0))|(refine hK _ ?_;clear hK K)|(refine hK _ _ rfl ?_;clear hK K)|(have hg:=hK;clear hg;first|(refine And.intro ?zz ?_;case zz=>first|exact rfl|exact zO rfl|omega|exact gJ)|(refine fresh_n ?_)|(refine freshO_n ?_)|(refine at_Q ?_;intro hu)|(refine zP wA ?_)|(refine mul_Q ?_;intro hm1 hm2)|(refine zP at_M ?_)|(refine zP rfl ?_)|(refine And.intro ?_ ?_;all_goals(intro hb;(try simp only [sn,sb] at hb);try exact ex0))|(intro b0 hb)))
  refine loop_f (List Int × Nat) (fun z => stP1 Tryz.f96.ntmps h.len (h.E.getD 0 0) z.1 z.2) (fun z => downF z.1 (h.len - 1) z.2 = (kPop h).E ∧ z.1.length = h.E.length ∧ z.2 ≤ h.len - 1) (fun z => h.len - z.2) (h.E.set 0 (h.E.getD (h.len - 1) 0), 0) ⟨rfl, by rw [List.length_set], Nat.zero_le _⟩ (lf_of0 ?_ ?_) ?_
  · exact ⟨Lc.same _ rfl, Lc.same _ rfl, Lc.same _ trivial, Lc.same _ trivial, Lc.same _ trivial, trivial⟩
  · refine ⟨lfOb_keep ?_ ?_, lfOb_same ?_ (ci_flat _), trivial⟩
    · show some (⟨1, [.own 1 0 (0 + (0 : Int).toNat) (((h.len - 1 : Nat) : Int) - 0).toNat], 0, true⟩ : Obj) = _
      rw [Int.sub_zero, Int.toNat_natCast]; rfl
    · intro u hu
      obtain rfl := List.mem_singleton.1 hu
      exact Lc.same _ rfl
    · show some (⟨1, (h.E.map ci).set (0 + (0 : Int).toNat) (ci (h.E.getD (0 + ((h.len - 1 : Nat) : Int).toNat) default)), 0, true⟩ : Obj) = _
      rw [Nat.zero_add, Int.toNat_natCast, Nat.zero_add, List.map_set]; rfl
  rintro ⟨L, i⟩ ⟨g0, g1, g2⟩
  dsimp only at g0 g1 g2
  have hw1 : ((2 * i : Nat) : Int) = IntKind.i64.wrap (2 * (i : Int)) := wrapN (by omega) (by omega)
  have hw2 : ((2 * i + 1 : Nat) : Int) = IntKind.i64.wrap (((2 * i : Nat) : Int) + 1) := wrapN (by omega) (by omega)
  have hw3 : ((2 * i + 2 : Nat) : Int) = IntKind.i64.wrap (((2 * i : Nat) : Int) + 2) := wrapN (by omega) (by omega)
  repeat' (first|(first | refine Exists.intro _ (And.intro hw1 ?_) | refine Exists.intro _ (And.intro hw2 ?_) | refine Exists.intro _ (And.intro hw3 ?_))|(with_reducible first|refine zA ?_|refine zB ?_|refine zC ?_|refine zD ?_|refine zE ?_|refine zF ?_|refine zG ?_|refine zH ?_|refine zI ?_|refine zJ ?_|refine zK ?_|refine zL ?_)|(with_reducible refine reg_i ?_;intro K hK)|(with_reducible refine drw_i ?_;intro K hK)|((with_reducible refine cond_t ?hc ?_);(case hc=>rfl))|((with_reducible refine cond_f ?hc ?_);(case hc=>rfl))|((with_reducible refine cond_m ?_);refine And.intro ?_ ?_;all_goals(intro hb;(try simp only [sn,sb] at hb);try exact ex0))|(refine hK _ ?_;clear hK K)|(refine hK _ _ rfl ?_;clear hK K)|(have hg:=hK;clear hg;first|(refine And.intro ?zz ?_;case zz=>first|exact rfl|exact zO rfl|omega|exact gJ)|(refine fresh_n ?_)|(refine freshO_n ?_)|(refine at_Q ?_;intro hu)|(refine zP wA ?_)|(refine mul_Q ?_;intro hm1 hm2)|(refine zP at_M ?_)|(refine zP rfl ?_)|(refine And.intro ?_ ?_;all_goals(intro hb;(try simp only [sn,sb] at hb);try exact ex0))|(intro b0 hb)))
  have hla := lstA_le L (h.len - 1) i
  have hlc := leastF_cases L (h.len - 1) i
  have hlf : leastF L (h.len - 1) i < h.len := by omega
  refine loop_i (Nat × Nat) (fun z => stP2 Tryz.f96.ntmps h.len (h.E.getD 0 0) L i z.1 z.2) (fun z => (z.1 = 0 ∧ z.2 = i) ∨ (z.1 = 1 ∧ z.2 = lstA L (h.len - 1) i) ∨ (z.1 = 2 ∧ z.2 = leastF L (h.len - 1) i)) (fun z => 2 - z.1) [] (0, i) trivial (.inl ⟨rfl, rfl⟩) ⟨rfl, ⟨rfl, rfl, rfl, rfl, rfl, trivial, rfl, trivial, rfl, trivial, rfl, trivial, rfl, arr_cl _ _ _, rfl, trivial, trivial⟩, ⟨rfl, rfl, trivial⟩, ⟨hp_cl0 _ _ _ rfl, ci_cl _ _, trivial⟩⟩ ?_
  rintro ⟨j, k⟩ hj
  dsimp only at hj
  rcases hj with ⟨rfl, rfl⟩ | ⟨rfl, rfl⟩ | ⟨rfl, rfl⟩
  · repeat' (first|(with_reducible first|refine zA ?_|refine zB ?_|refine zC ?_|refine zD ?_|refine zE ?_|refine zF ?_|refine zG ?_|refine zH ?_|refine zI ?_|refine zJ ?_|refine zK ?_|refine zL ?_)|(with_reducible refine reg_i ?_;intro K hK)|(with_reducible refine drw_i ?_;intro K hK)|((with_reducible refine cond_t ?hc ?_);(case hc=>rfl))|((with_reducible refine cond_f ?hc ?_);(case hc=>rfl))|((with_reducible refine cond_m ?_);refine And.intro ?_ ?_;all_goals(intro hb;(try simp only [sn,sb] at hb);try exact ex0))|(refine hK _ ?_;clear hK K)|(refine hK _ _ rfl ?_;clear hK K)|(have hg:=hK;clear hg;first|(refine And.intro ?zz ?_;case zz=>first|exact rfl|exact zO rfl|omega|exact gJ)|(refine fresh_n ?_)|(refine freshO_n ?_)|(refine at_Q ?_;intro hu)|(refine zP wA ?_)|(refine mul_Q ?_;intro hm1 hm2)|(refine zP at_M ?_)|(refine zP rfl ?_)|(refine And.intro ?_ ?_;all_goals(intro hb;(try simp only [sn,sb] at hb);try exact ex0))|(intro b0 hb)))
    · exact ⟨(1, lstA L (h.len - 1) k), .inr (.inl ⟨rfl, rfl⟩), by show 2 - 1 < 2 - 0; omega, rfl, ⟨rfl, rfl, rfl, rfl, rfl, trivial, rfl, trivial, rfl, trivial, congrArg (fun n : Nat => V.con (.int .i64 n)) (by rw [Nat.zero_add, Nat.zero_add] at hb; exact (if_pos ⟨by omega, hb⟩).symm), trivial, rfl, arr_cl _ _ _, rfl, trivial, trivial⟩, ⟨rfl, rfl, trivial⟩, ⟨hp_cl0 _ _ _ rfl, ci_cl _ _, trivial⟩⟩
    · exact ⟨(1, lstA L (h.len - 1) k), .inr (.inl ⟨rfl, rfl⟩), by show 2 - 1 < 2 - 0; omega, rfl, ⟨rfl, rfl, rfl, rfl, rfl, trivial, rfl, trivial, rfl, trivial, congrArg (fun n : Nat => V.con (.int .i64 n)) (by rw [Nat.zero_add, Nat.zero_add] at hb; exact (if_neg fun h9 => by have := h9.2; rw [← Int.not_lt] at hb; exact hb this).symm), trivial, rfl, arr_cl _ _ _, rfl, trivial, trivial⟩, ⟨rfl, rfl, trivial⟩, ⟨hp_cl0 _ _ _ rfl, ci_cl _ _, trivial⟩⟩
    · exact ⟨(1, lstA L (h.len - 1) k), .inr (.inl ⟨rfl, rfl⟩), by show 2 - 1 < 2 - 0; omega, rfl, ⟨rfl, rfl, rfl, rfl, rfl, trivial, rfl, trivial, rfl, trivial, congrArg (fun n : Nat => V.con (.int .i64 n)) ((if_neg fun h9 => by omega).symm), trivial, rfl, arr_cl _ _ _, rfl, trivial, trivial⟩, ⟨rfl, rfl, trivial⟩, ⟨hp_cl0 _ _ _ rfl, ci_cl _ _, trivial⟩⟩
  · repeat' (first|(with_reducible first|refine zA ?_|refine zB ?_|refine zC ?_|refine zD ?_|refine zE ?_|refine zF ?_|refine zG ?_|refine zH ?_|refine zI ?_|refine zJ ?_|refine zK ?_|refine zL ?_)|(with_reducible refine reg_i ?_;intro K hK)|(with_reducible refine drw_i ?_;intro K hK)|((with_reducible refine cond_t ?hc ?_);(case hc=>rfl))|((with_reducible refine cond_f ?hc ?_);(case hc=>rfl))|((with_reducible refine cond_m ?_);refine And.intro ?_ ?_;all_goals(intro hb;(try simp only [sn,sb] at hb);try exact ex0))|(refine hK _ ?_;clear hK K)|(refine hK _ _ rfl ?_;clear hK K)|(have hg:=hK;clear hg;first|(refine And.intro ?zz ?_;case zz=>first|exact rfl|exact zO rfl|omega|exact gJ)|(refine fresh_n ?_)|(refine freshO_n ?_)|(refine at_Q ?_;intro hu)|(refine zP wA ?_)|(refine mul_Q ?_;intro hm1 hm2)|(refine zP at_M ?_)|(refine zP rfl ?_)|(refine And.intro ?_ ?_;all_goals(intro hb;(try simp only [sn,sb] at hb);try exact ex0))|(intro b0 hb)))
    · exact ⟨(2, leastF L (h.len - 1) i), .inr (.inr ⟨rfl, rfl⟩), by show 2 - 2 < 2 - 1; omega, rfl, ⟨rfl, rfl, rfl, rfl, rfl, trivial, rfl, trivial, rfl, trivial, congrArg (fun n : Nat => V.con (.int .i64 n)) (by rw [Nat.zero_add, Nat.zero_add] at hb; exact (if_pos ⟨by omega, hb⟩).symm), trivial, rfl, arr_cl _ _ _, rfl, trivial, trivial⟩, ⟨rfl, rfl, trivial⟩, ⟨hp_cl0 _ _ _ rfl, ci_cl _ _, trivial⟩⟩
    · exact ⟨(2, leastF L (h.len - 1) i), .inr (.inr ⟨rfl, rfl⟩), by show 2 - 2 < 2 - 1; omega, rfl, ⟨rfl, rfl, rfl, rfl, rfl, trivial, rfl, trivial, rfl, trivial, congrArg (fun n : Nat => V.con (.int .i64 n)) (by rw [Nat.zero_add, Nat.zero_add] at hb; exact (if_neg fun h9 => by have := h9.2; rw [← Int.not_lt] at hb; exact hb this).symm), trivial, rfl, arr_cl _ _ _, rfl, trivial, trivial⟩, ⟨rfl, rfl, trivial⟩, ⟨hp_cl0 _ _ _ rfl, ci_cl _ _, trivial⟩⟩
    · exact ⟨(2, leastF L (h.len - 1) i), .inr (.inr ⟨rfl, rfl⟩), by show 2 - 2 < 2 - 1; omega, rfl, ⟨rfl, rfl, rfl, rfl, rfl, trivial, rfl, trivial, rfl, trivial, congrArg (fun n : Nat => V.con (.int .i64 n)) ((if_neg fun h9 => by omega).symm), trivial, rfl, arr_cl _ _ _, rfl, trivial, trivial⟩, ⟨rfl, rfl, trivial⟩, ⟨hp_cl0 _ _ _ rfl, ci_cl _ _, trivial⟩⟩
  · repeat' (first|(refine Exists.intro _ (And.intro (at_setc (by dsimp only; omega)) ?_))|(with_reducible first|refine zA ?_|refine zB ?_|refine zC ?_|refine zD ?_|refine zE ?_|refine zF ?_|refine zG ?_|refine zH ?_|refine zI ?_|refine zJ ?_|refine zK ?_|refine zL ?_)|(with_reducible refine reg_i ?_;intro K hK)|(with_reducible refine drw_i ?_;intro K hK)|((with_reducible refine cond_t ?hc ?_);(case hc=>rfl))|((with_reducible refine cond_f ?hc ?_);(case hc=>rfl))|((with_reducible refine cond_m ?_);refine And.intro ?_ ?_;all_goals(intro hb;(try simp only [sn,sb] at hb);try exact ex0))|(refine hK _ ?_;clear hK K)|(refine hK _ _ rfl ?_;clear hK K)|(have hg:=hK;clear hg;first|(refine And.intro ?zz ?_;case zz=>first|exact rfl|exact zO rfl|omega|exact gJ)|(refine fresh_n ?_)|(refine freshO_n ?_)|(refine at_Q ?_;intro hu)|(refine zP wA ?_)|(refine mul_Q ?_;intro hm1 hm2)|(refine zP at_M ?_)|(refine zP rfl ?_)|(refine And.intro ?_ ?_;all_goals(intro hb;(try simp only [sn,sb] at hb);try exact ex0))|(intro b0 hb)))
    · have he : leastF L (h.len - 1) i = i := by omega
      rw [downF, if_pos he] at g0
      subst g0
      exact ⟨trivial, false, _, rfl, hp_pin rfl (by decide) rfl rfl, hp_end rfl rfl, BmC.con _⟩
    · have he : ¬ leastF L (h.len - 1) i = i := by omega
      refine ⟨(swapL L i (leastF L (h.len - 1) i), leastF L (h.len - 1) i), ⟨?_, by rw [swapL_len]; exact g1, by show leastF _ _ _ ≤ _; omega⟩, by show h.len - leastF _ _ _ < h.len - i; omega, lf_of0 ?_ ?_⟩
      · rw [← g0]
        conv => rhs; rw [downF, if_neg he]
      · exact ⟨Lc.same _ rfl, Lc.same _ rfl, Lc.same _ trivial, Lc.same _ trivial, Lc.same _ trivial, trivial⟩
      · refine ⟨lfOb_keep rfl ?_, lfOb_same ?_ (ci_flat _), trivial⟩
        · intro u hu
          obtain rfl := List.mem_singleton.1 hu
          exact Lc.same _ rfl
        · show some (⟨1, ((L.map ci).set (0 + i) (ci (L.getD (0 + leastF L (h.len - 1) i) default))).set (0 + leastF L (h.len - 1) i) (ci (L.getD (0 + i) default)), 0, true⟩ : Obj) = _
          rw [Nat.zero_add, Nat.zero_add, swap_el]
end Go.Ev
