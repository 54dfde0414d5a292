import Derived.Test.YtekgeekghclfaaaGreatEq
import Derived.Test.YtekgeekghclfaaaGreatLe
import Derived.Test.YtekgeekghclfaaaGreatDagl
set_option linter.all false
namespace Go.Ev
open Go.Proofs
set_option maxRecDepth 10000
set_option maxHeartbeats 4000000
set_option linter.unusedSimpArgs false
set_option linter.unusedVariables false
theorem not_mem_step {l : List Int} {i : Nat} {x : Int} (hi : i < l.length) (h : x ∉ l.take i) (hx : l.getD i default ≠ x) : x ∉ l.take (i + 1) := by
  rw [List.take_succ_eq_append_getElem hi, List.mem_append, List.mem_singleton]
  have : l[i] = l.getD i default := by simp [List.getD, hi]
  rw [this]
  exact fun h2 => h2.elim h (fun e => hx e.symm)
theorem Has_ok (l : List Int) (x : Int) (hl : l.length ≤ 4611686018427387904) : Ok Tryz.prog 62 [tIL l, .con (.int .i64 x)] true (.con (.bool (l.contains x))) := by
  refine ok_of_ev (fun _ _ _ h => h) mix Tryz.func62 rfl rfl (by kernel_rfl) (Nat.le_of_ble_eq_true rfl) ?_
  repeat' (first|(with_reducible first|refine zA ?_|refine zB ?_|refine zC ?_|refine zD ?_|refine zE ?_|refine zF ?_|refine zG ?_|refine zH ?_|refine zI ?_|refine zJ ?_|refine zK ?_|refine zL ?_)|(with_reducible refine reg_i ?_;intro K hK)|(with_reducible refine drw_i ?_;intro K hK)|((with_reducible refine cond_t ?hc ?_);(case hc=>rfl))|((with_reducible refine cond_f ?hc ?_);(case hc=>rfl))|((with_reducible refine cond_m ?_);refine And.intro ?_ ?_;all_goals(intro hb;(try simp only [sn,sb] at hb);try exact ex0))|(refine hK _ ?_;clear hK K)|(refine hK _ _ rfl ?_;clear hK K)|(have hg:=hK;clear hg;first|(refine And.intro ?zz ?_;case zz=>first|exact rfl|exact zO rfl|omega|exact gJ)|(refine fresh_n ?_)|(refine freshO_n ?_)|(refine at_Q ?_;intro hu)|(refine zP wA ?_)|(refine mul_Q ?_;intro hm1 hm2)|(refine zP at_M ?_)|(refine zP rfl ?_)|(refine And.intro ?_ ?_;all_goals(intro hb;(try simp only [sn,sb] at hb);try exact ex0))|(intro b0 hb)))
  refine loop_i Nat (fun i => ⟨Tryz.f62.ntmps, [(0, .ro false (tIL l)), (1, .con (.int .i64 x)), (5, .con (.int .i64 i))], []⟩) (fun i => i ≤ l.length ∧ x ∉ l.take i) (fun i => l.length - i) [] 0 trivial ⟨Nat.zero_le _, by simp⟩ ⟨rfl, ⟨rfl, trivial, rfl, trivial, rfl, trivial, trivial⟩, trivial, trivial⟩ ?_
  rintro i ⟨h0, h1⟩
  repeat' (first|(with_reducible first|refine zA ?_|refine zB ?_|refine zC ?_|refine zD ?_|refine zE ?_|refine zF ?_|refine zG ?_|refine zH ?_|refine zI ?_|refine zJ ?_|refine zK ?_|refine zL ?_)|(with_reducible refine reg_i ?_;intro K hK)|(with_reducible refine drw_i ?_;intro K hK)|((with_reducible refine cond_t ?hc ?_);(case hc=>rfl))|((with_reducible refine cond_f ?hc ?_);(case hc=>rfl))|((with_reducible refine cond_m ?_);refine And.intro ?_ ?_;all_goals(intro hb;(try simp only [sn,sb] at hb);try exact ex0))|(refine hK _ ?_;clear hK K)|(refine hK _ _ rfl ?_;clear hK K)|(have hg:=hK;clear hg;first|(refine And.intro ?zz ?_;case zz=>first|exact rfl|exact zO rfl|omega|exact gJ)|(refine fresh_n ?_)|(refine freshO_n ?_)|(refine at_Q ?_;intro hu)|(refine zP wA ?_)|(refine mul_Q ?_;intro hm1 hm2)|(refine zP at_M ?_)|(refine zP rfl ?_)|(refine And.intro ?_ ?_;all_goals(intro hb;(try simp only [sn,sb] at hb);try exact ex0))|(intro b0 hb)))
  · have hm : l.getD i default ∈ l := getD_mem (by omega)
    exact And.intro trivial (fz_con (congrArg Value.bool (by rw [hb] at hm; simpa using hm)))
  · exact ⟨i + 1, ⟨by omega, not_mem_step (by omega) h1 hb⟩, by omega, rfl, ⟨rfl, trivial, rfl, trivial, rfl, trivial, trivial⟩, trivial, trivial⟩
  · rw [List.take_of_length_le (by omega)] at h1
    exact And.intro trivial (fz_con (congrArg Value.bool (by simpa using h1)))
theorem inRng_iff {P : PL} : inRng P = true ↔ ∀ l ∈ P, ∀ p ∈ l, 0 ≤ p ∧ p < (P.length : Int) := by simp [inRng]
theorem noDup_iff {P : PL} : noDup P = true ↔ ∀ l ∈ P, l.Nodup := by simp [noDup]
theorem inRng_no {P : PL} {i k : Nat} (hi : i < P.length) (hk : k < (P.getD i default).length) (h : ¬ (0 ≤ (P.getD i default).getD k default ∧ (P.getD i default).getD k default < (P.length : Int))) : inRng P = false := by
  cases e : inRng P with
  | false => rfl
  | true => exact absurd (inRng_iff.1 e _ (getD_mem hi) _ (getD_mem hk)) h
theorem all_step {α : Type} [Inhabited α] {p : α → Prop} {l : List α} {i : Nat} (hi : i < l.length) (h : ∀ x ∈ l.take i, p x) (hx : p (l.getD i default)) : ∀ x ∈ l.take (i + 1), p x := by
  rw [List.take_succ_eq_append_getElem hi]
  intro x hm
  rcases List.mem_append.1 hm with hm | hm
  · exact h x hm
  · rw [List.mem_singleton.1 hm]
    have : l[i] = l.getD i default := by simp [List.getD, hi]
    rw [this]; exact hx
theorem all_end {α : Type} {p : α → Prop} {l : List α} {i : Nat} (hi : l.length ≤ i) (h : ∀ x ∈ l.take i, p x) : ∀ x ∈ l, p x := by rwa [List.take_of_length_le hi] at h
theorem nodup_step {l : List Int} {i : Nat} (hi : i < l.length) (h : (l.take i).Nodup) (hx : l.getD i default ∉ l.take i) : (l.take (i + 1)).Nodup := by
  rw [List.take_succ_eq_append_getElem hi, List.nodup_append]
  have : l[i] = l.getD i default := by simp [List.getD, hi]
  exact ⟨h, by simp, fun a ha b hb => by rw [List.mem_singleton.1 hb, this]; exact fun e => hx (e ▸ ha)⟩
theorem nodup_no {l : List Int} {i : Nat} (hi : i < l.length) (hx : l.getD i default ∈ l.take i) : ¬ l.Nodup := fun h => by
  have h2 : (l.take (i + 1)).Nodup := h.sublist (List.take_sublist _ _)
  rw [List.take_succ_eq_append_getElem hi, List.nodup_append] at h2
  have : l[i] = l.getD i default := by simp [List.getD, hi]
  exact h2.2.2 _ hx _ (by rw [this]; simp) rfl
theorem tIL_cut (l : List Int) (k : Nat) : tIL (l.take k) = .sl (((l.map tI64).drop (Int.toNat 0)).take ((k : Int) - 0).toNat) := by
  rw [Int.sub_zero, Int.toNat_natCast, show Int.toNat 0 = 0 from rfl, List.drop_zero, tIL, List.map_take]
theorem inside_ok (P : PL) (hP : P.length ≤ 4611686018427387904) (hR : ∀ l ∈ P, l.length ≤ 4611686018427387904) : Ok Tryz.prog 37 [tILL P] true (.con (.bool (inRng P))) := by
  refine ok_of_ev (fun _ _ _ h => h) mix Tryz.func37 rfl rfl (by kernel_rfl) (Nat.le_of_ble_eq_true rfl) ?_
  repeat' (first|(with_reducible first|refine zA ?_|refine zB ?_|refine zC ?_|refine zD ?_|refine zE ?_|refine zF ?_|refine zG ?_|refine zH ?_|refine zI ?_|refine zJ ?_|refine zK ?_|refine zL ?_)|(with_reducible refine reg_i ?_;intro K hK)|(with_reducible refine drw_i ?_;intro K hK)|((with_reducible refine cond_t ?hc ?_);(case hc=>rfl))|((with_reducible refine cond_f ?hc ?_);(case hc=>rfl))|((with_reducible refine cond_m ?_);refine And.intro ?_ ?_;all_goals(intro hb;(try simp only [sn,sb] at hb);try exact ex0))|(refine hK _ ?_;clear hK K)|(refine hK _ _ rfl ?_;clear hK K)|(have hg:=hK;clear hg;first|(refine And.intro ?zz ?_;case zz=>first|exact rfl|exact zO rfl|omega|exact gJ)|(refine fresh_n ?_)|(refine freshO_n ?_)|(refine at_Q ?_;intro hu)|(refine zP wA ?_)|(refine mul_Q ?_;intro hm1 hm2)|(refine zP at_M ?_)|(refine zP rfl ?_)|(refine And.intro ?_ ?_;all_goals(intro hb;(try simp only [sn,sb] at hb);try exact ex0))|(intro b0 hb)))
  refine loop_i Nat (fun i => ⟨Tryz.f37.ntmps, [(0, .ro false (tILL P)), (3, .con (.int .i64 i))], []⟩) (fun i => i ≤ P.length ∧ ∀ l ∈ P.take i, ∀ p ∈ l, 0 ≤ p ∧ p < (P.length : Int)) (fun i => P.length - i) [] 0 trivial ⟨Nat.zero_le _, by simp⟩ ⟨rfl, ⟨rfl, trivial, rfl, trivial, trivial⟩, trivial, trivial⟩ ?_
  rintro i ⟨h0, h1⟩
  repeat' (first|(with_reducible first|refine zA ?_|refine zB ?_|refine zC ?_|refine zD ?_|refine zE ?_|refine zF ?_|refine zG ?_|refine zH ?_|refine zI ?_|refine zJ ?_|refine zK ?_|refine zL ?_)|(with_reducible refine reg_i ?_;intro K hK)|(with_reducible refine drw_i ?_;intro K hK)|((with_reducible refine cond_t ?hc ?_);(case hc=>rfl))|((with_reducible refine cond_f ?hc ?_);(case hc=>rfl))|((with_reducible refine cond_m ?_);refine And.intro ?_ ?_;all_goals(intro hb;(try simp only [sn,sb] at hb);try exact ex0))|(refine hK _ ?_;clear hK K)|(refine hK _ _ rfl ?_;clear hK K)|(have hg:=hK;clear hg;first|(refine And.intro ?zz ?_;case zz=>first|exact rfl|exact zO rfl|omega|exact gJ)|(refine fresh_n ?_)|(refine freshO_n ?_)|(refine at_Q ?_;intro hu)|(refine zP wA ?_)|(refine mul_Q ?_;intro hm1 hm2)|(refine zP at_M ?_)|(refine zP rfl ?_)|(refine And.intro ?_ ?_;all_goals(intro hb;(try simp only [sn,sb] at hb);try exact ex0))|(intro b0 hb)))
  · have hi : i < P.length := by omega
    have hr := hR _ (getD_mem hi)
    refine loop_i Nat (fun k => ⟨Tryz.f37.ntmps, [(0, .ro false (tILL P)), (3, .con (.int .i64 i)), (4, .con (.int .i64 k))], []⟩) (fun k => k ≤ (P.getD i default).length ∧ ∀ p ∈ (P.getD i default).take k, 0 ≤ p ∧ p < (P.length : Int)) (fun k => (P.getD i default).length - k) [] 0 trivial ⟨Nat.zero_le _, by simp⟩ ⟨rfl, ⟨rfl, trivial, rfl, trivial, rfl, trivial, trivial⟩, trivial, trivial⟩ ?_
    rintro k ⟨g0, g1⟩
    repeat' (first|(with_reducible first|refine zA ?_|refine zB ?_|refine zC ?_|refine zD ?_|refine zE ?_|refine zF ?_|refine zG ?_|refine zH ?_|refine zI ?_|refine zJ ?_|refine zK ?_|refine zL ?_)|(with_reducible refine reg_i ?_;intro K hK)|(with_reducible refine drw_i ?_;intro K hK)|((with_reducible refine cond_t ?hc ?_);(case hc=>rfl))|((with_reducible refine cond_f ?hc ?_);(case hc=>rfl))|((with_reducible refine cond_m ?_);refine And.intro ?_ ?_;all_goals(intro hb;(try simp only [sn,sb] at hb);try exact ex0))|(refine hK _ ?_;clear hK K)|(refine hK _ _ rfl ?_;clear hK K)|(have hg:=hK;clear hg;first|(refine And.intro ?zz ?_;case zz=>first|exact rfl|exact zO rfl|omega|exact gJ)|(refine fresh_n ?_)|(refine freshO_n ?_)|(refine at_Q ?_;intro hu)|(refine zP wA ?_)|(refine mul_Q ?_;intro hm1 hm2)|(refine zP at_M ?_)|(refine zP rfl ?_)|(refine And.intro ?_ ?_;all_goals(intro hb;(try simp only [sn,sb] at hb);try exact ex0))|(intro b0 hb)))
    · exact And.intro trivial (fz_con (congrArg Value.bool (inRng_no hi (k := k) (by omega) (by omega)).symm))
    · exact And.intro trivial (fz_con (congrArg Value.bool (inRng_no hi (k := k) (by omega) (by omega)).symm))
    · exact ⟨k + 1, ⟨by omega, all_step (by omega) g1 ⟨by omega, by omega⟩⟩, by omega, rfl, ⟨rfl, trivial, rfl, trivial, rfl, trivial, trivial⟩, trivial, trivial⟩
    · exact ⟨i + 1, ⟨by omega, all_step hi h1 (all_end (by omega) g1)⟩, by omega, rfl, ⟨rfl, trivial, rfl, trivial, trivial⟩, trivial, trivial⟩
  · exact And.intro trivial (fz_con (congrArg Value.bool (inRng_iff.2 (all_end (by omega) h1)).symm))
theorem rtwice_ok (P : PL) (hP : P.length ≤ 4611686018427387904) (hR : ∀ l ∈ P, l.length ≤ 4611686018427387904) : Ok Tryz.prog 38 [tILL P] true (.con (.bool (!noDup P))) := by
  refine ok_of_ev (fun _ _ _ h => h) mix Tryz.func38 rfl rfl (by kernel_rfl) (Nat.le_of_ble_eq_true rfl) ?_
  repeat' (first|(with_reducible first|refine zA ?_|refine zB ?_|refine zC ?_|refine zD ?_|refine zE ?_|refine zF ?_|refine zG ?_|refine zH ?_|refine zI ?_|refine zJ ?_|refine zK ?_|refine zL ?_)|(with_reducible refine reg_i ?_;intro K hK)|(with_reducible refine drw_i ?_;intro K hK)|((with_reducible refine cond_t ?hc ?_);(case hc=>rfl))|((with_reducible refine cond_f ?hc ?_);(case hc=>rfl))|((with_reducible refine cond_m ?_);refine And.intro ?_ ?_;all_goals(intro hb;(try simp only [sn,sb] at hb);try exact ex0))|(refine hK _ ?_;clear hK K)|(refine hK _ _ rfl ?_;clear hK K)|(have hg:=hK;clear hg;first|(refine And.intro ?zz ?_;case zz=>first|exact rfl|exact zO rfl|omega|exact gJ)|(refine fresh_n ?_)|(refine freshO_n ?_)|(refine at_Q ?_;intro hu)|(refine zP wA ?_)|(refine mul_Q ?_;intro hm1 hm2)|(refine zP at_M ?_)|(refine zP rfl ?_)|(refine And.intro ?_ ?_;all_goals(intro hb;(try simp only [sn,sb] at hb);try exact ex0))|(intro b0 hb)))
  refine loop_i Nat (fun i => ⟨Tryz.f38.ntmps, [(0, .ro false (tILL P)), (3, .con (.int .i64 i))], []⟩) (fun i => i ≤ P.length ∧ ∀ l ∈ P.take i, l.Nodup) (fun i => P.length - i) [] 0 trivial ⟨Nat.zero_le _, by simp⟩ ⟨rfl, ⟨rfl, trivial, rfl, trivial, trivial⟩, trivial, trivial⟩ ?_
  rintro i ⟨h0, h1⟩
  repeat' (first|(with_reducible first|refine zA ?_|refine zB ?_|refine zC ?_|refine zD ?_|refine zE ?_|refine zF ?_|refine zG ?_|refine zH ?_|refine zI ?_|refine zJ ?_|refine zK ?_|refine zL ?_)|(with_reducible refine reg_i ?_;intro K hK)|(with_reducible refine drw_i ?_;intro K hK)|((with_reducible refine cond_t ?hc ?_);(case hc=>rfl))|((with_reducible refine cond_f ?hc ?_);(case hc=>rfl))|((with_reducible refine cond_m ?_);refine And.intro ?_ ?_;all_goals(intro hb;(try simp only [sn,sb] at hb);try exact ex0))|(refine hK _ ?_;clear hK K)|(refine hK _ _ rfl ?_;clear hK K)|(have hg:=hK;clear hg;first|(refine And.intro ?zz ?_;case zz=>first|exact rfl|exact zO rfl|omega|exact gJ)|(refine fresh_n ?_)|(refine freshO_n ?_)|(refine at_Q ?_;intro hu)|(refine zP wA ?_)|(refine mul_Q ?_;intro hm1 hm2)|(refine zP at_M ?_)|(refine zP rfl ?_)|(refine And.intro ?_ ?_;all_goals(intro hb;(try simp only [sn,sb] at hb);try exact ex0))|(intro b0 hb)))
  · have hi : i < P.length := by omega
    have hr := hR _ (getD_mem hi)
    refine loop_i Nat (fun k => ⟨Tryz.f38.ntmps, [(0, .ro false (tILL P)), (3, .con (.int .i64 i)), (4, .con (.int .i64 k))], []⟩) (fun k => k ≤ (P.getD i default).length ∧ ((P.getD i default).take k).Nodup) (fun k => (P.getD i default).length - k) [] 0 trivial ⟨Nat.zero_le _, by simp⟩ ⟨rfl, ⟨rfl, trivial, rfl, trivial, rfl, trivial, trivial⟩, trivial, trivial⟩ ?_
    rintro k ⟨g0, g1⟩
    have ht : ∀ n, ((P.getD i default).take n).length ≤ 4611686018427387904 := fun n => by rw [List.length_take]; omega
    have hh := Has_ok ((P.getD i default).take k) ((P.getD i default).getD k default) (ht _)
    rw [tIL_cut] at hh
    repeat' (first|(with_reducible first|refine zA ?_|refine zB ?_|refine zC ?_|refine zD ?_|refine zE ?_|refine zF ?_|refine zG ?_|refine zH ?_|refine zI ?_|refine zJ ?_|refine zK ?_|refine zL ?_)|(with_reducible refine reg_i ?_;intro K hK)|(with_reducible refine drw_i ?_;intro K hK)|((with_reducible refine cond_t ?hc ?_);(case hc=>rfl))|((with_reducible refine cond_f ?hc ?_);(case hc=>rfl))|((with_reducible refine cond_m ?_);refine And.intro ?_ ?_;all_goals(intro hb;(try simp only [sn,sb] at hb);try exact ex0))|(refine hK _ ?_;clear hK K)|(refine hK _ _ rfl ?_;clear hK K)|(have hg:=hK;clear hg;first|(refine And.intro ?zz ?_;case zz=>first|exact rfl|exact zO rfl|omega|exact gJ)|(refine fresh_n ?_)|(refine freshO_n ?_)|(refine at_Q ?_;intro hu)|(refine zP wA ?_)|(refine mul_Q ?_;intro hm1 hm2)|(refine zP at_M ?_)|(refine zP rfl ?_)|(refine zQ (hh) ?_)|(refine And.intro ?_ ?_;all_goals(intro hb;(try simp only [sn,sb] at hb);try exact ex0))|(intro b0 hb)))
    · have hm : (P.getD i default).getD k default ∈ (P.getD i default).take k := by simpa using hb
      exact And.intro trivial (fz_con (congrArg Value.bool (by
        cases e : noDup P with
        | false => rfl
        | true => exact absurd (noDup_iff.1 e _ (getD_mem hi)) (nodup_no (by omega) hm))))
    · have hm : (P.getD i default).getD k default ∉ (P.getD i default).take k := by simpa using hb
      exact ⟨k + 1, ⟨by omega, nodup_step (by omega) g1 hm⟩, by omega, rfl, ⟨rfl, trivial, rfl, trivial, rfl, trivial, trivial⟩, trivial, trivial⟩
    · rw [List.take_of_length_le (by omega)] at g1
      exact ⟨i + 1, ⟨by omega, all_step hi h1 g1⟩, by omega, rfl, ⟨rfl, trivial, rfl, trivial, trivial⟩, trivial, trivial⟩
  · exact And.intro trivial (fz_con (congrArg Value.bool (by rw [noDup_iff.2 (all_end (by omega) h1)]; rfl)))
def ci (n : Int) : V := .con (.int .i64 n)
theorem fzo_ci {oh : OH} {id ver len : Nat} {l : List Int} {f : Bool} (ho : oget oh id = some ⟨1, l.map ci, ver, true⟩) (hl : l.length = len) : FzA oh f (.own id ver 0 len) (tIL l) := by
  refine fz_own (l := l) (F := ci) (G := tI64) ho rfl rfl hl ?_ (fun a _ => fze_con _) rfl
  show List.take _ (List.drop 0 (l.map ci)) = _
  rw [List.drop_zero, List.take_of_length_le (by rw [List.length_map]; omega)]
theorem ci_flat (l : List Int) : ∀ e ∈ l.map ci, e.flat := by
  intro e he
  obtain ⟨x, -, rfl⟩ := List.mem_map.1 he
  trivial
def stO (N : Nat) (P : PL) (l : List Int) : St := ⟨N, [(0, .ro false (tILL P)), (3, .own 0 l.length 0 l.length)], [(0, ⟨1, l.map ci, l.length, true⟩)]⟩
def stO1 (N : Nat) (P : PL) (l : List Int) (i : Nat) (nx : Int) : St := ⟨N, [(0, .ro false (tILL P)), (3, .own 0 l.length 0 l.length), (4, .con (.int .i64 nx)), (5, .con (.int .i64 i))], [(0, ⟨1, l.map ci, l.length, true⟩)]⟩
def stO2 (N : Nat) (P : PL) (l : List Int) (i : Nat) (k : Nat) (b : Bool) : St := ⟨N, [(0, .ro false (tILL P)), (3, .own 0 l.length 0 l.length), (4, .con (.int .i64 (-1))), (5, .con (.int .i64 i)), (6, .con (.bool b)), (7, .con (.int .i64 k))], [(0, ⟨1, l.map ci, l.length, true⟩)]⟩
theorem clO_ci (l : List Int) (n : Nat) : clObjs [(0, (⟨1, l.map ci, n, true⟩ : Obj))] [(0, ⟨1, l.map ci, n, true⟩)] := by
  refine ⟨fun v hv => ?_, trivial⟩
  obtain ⟨x, -, rfl⟩ := List.mem_map.1 hv
  trivial
theorem all_take {l : List Int} {k : Nat} {f : Int → Bool} (h : k < l.length) : (l.take (k + 1)).all f = ((l.take k).all f && f (l.getD k default)) := by
  rw [List.take_succ_eq_append_getElem h, List.all_append]
  simp [List.getD, h]
theorem nextR_first {P : PL} {l : List Int} {i : Nat} (hi : i < P.length) (h : ∀ j ∈ List.range i, rdy P l j = false) (ht : rdy P l i = true) : nextR P l = some i := by
  unfold nextR
  rw [List.find?_range_eq_some]
  exact ⟨ht, List.mem_range.2 hi, fun j hj => by rw [h j (List.mem_range.2 hj)]; rfl⟩
theorem nextR_nil {P : PL} {l : List Int} (h : ∀ j ∈ List.range P.length, rdy P l j = false) : nextR P l = none := List.find?_eq_none.2 fun j hj => by rw [h j hj]; exact Bool.false_ne_true
theorem rdy_step {P : PL} {l : List Int} {i : Nat} (h : ∀ j ∈ List.range i, rdy P l j = false) (hf : rdy P l i = false) : ∀ j ∈ List.range (i + 1), rdy P l j = false := by
  intro j hj
  rw [List.range_succ, List.mem_append, List.mem_singleton] at hj
  rcases hj with hj | rfl
  · exact h j hj
  · exact hf
theorem rout_ok (P : PL) (hP : P.length ≤ 1073741824) (hR : ∀ l ∈ P, l.length ≤ 1073741824) (hO : OkP P) : Ok Tryz.prog 39 [tILL P] true (tIL (refOut P (P.length + 1) [])) := by
  refine ok_of_ev (fun _ _ _ h => h) mix Tryz.func39 rfl rfl (by kernel_rfl) (Nat.le_of_ble_eq_true rfl) ?_
  repeat' (first|(with_reducible first|refine zA ?_|refine zB ?_|refine zC ?_|refine zD ?_|refine zE ?_|refine zF ?_|refine zG ?_|refine zH ?_|refine zI ?_|refine zJ ?_|refine zK ?_|refine zL ?_)|(with_reducible refine reg_i ?_;intro K hK)|(with_reducible refine drw_i ?_;intro K hK)|((with_reducible refine cond_t ?hc ?_);(case hc=>rfl))|((with_reducible refine cond_f ?hc ?_);(case hc=>rfl))|((with_reducible refine cond_m ?_);refine And.intro ?_ ?_;all_goals(intro hb;(try simp only [sn,sb] at hb);try exact ex0))|(refine hK _ ?_;clear hK K)|(refine hK _ _ rfl ?_;clear hK K)|(have hg:=hK;clear hg;first|(refine And.intro ?zz ?_;case zz=>first|exact rfl|exact zO rfl|omega|exact gJ)|(refine fresh_n ?_)|(refine freshO_n ?_)|(refine at_Q ?_;intro hu)|(refine zP wA ?_)|(refine mul_Q ?_;intro hm1 hm2)|(refine zP at_M ?_)|(refine zP rfl ?_)|(refine And.intro ?_ ?_;all_goals(intro hb;(try simp only [sn,sb] at hb);try exact ex0))|(intro b0 hb)))
  refine loop_i (List Int) (stO Tryz.f39.ntmps P) (fun l => RInv P l ∧ refOut P (P.length + 1 - l.length) l = refOut P (P.length + 1) []) (fun l => P.length + 1 - l.length) [(3, 0, 1)] [] ⟨rfl, rfl, trivial⟩ ⟨⟨by simp, by simp⟩, rfl⟩ ⟨rfl, ⟨rfl, trivial, rfl, rfl, trivial⟩, ⟨rfl, trivial⟩, clO_ci _ _⟩ ?_
  rintro l ⟨h0, h1⟩
  have hln := h0.len
  repeat' (first|(with_reducible first|refine zA ?_|refine zB ?_|refine zC ?_|refine zD ?_|refine zE ?_|refine zF ?_|refine zG ?_|refine zH ?_|refine zI ?_|refine zJ ?_|refine zK ?_|refine zL ?_)|(with_reducible refine reg_i ?_;intro K hK)|(with_reducible refine drw_i ?_;intro K hK)|((with_reducible refine cond_t ?hc ?_);(case hc=>rfl))|((with_reducible refine cond_f ?hc ?_);(case hc=>rfl))|((with_reducible refine cond_m ?_);refine And.intro ?_ ?_;all_goals(intro hb;(try simp only [sn,sb] at hb);try exact ex0))|(refine hK _ ?_;clear hK K)|(refine hK _ _ rfl ?_;clear hK K)|(have hg:=hK;clear hg;first|(refine And.intro ?zz ?_;case zz=>first|exact rfl|exact zO rfl|omega|exact gJ)|(refine fresh_n ?_)|(refine freshO_n ?_)|(refine at_Q ?_;intro hu)|(refine zP wA ?_)|(refine mul_Q ?_;intro hm1 hm2)|(refine zP at_M ?_)|(refine zP rfl ?_)|(refine And.intro ?_ ?_;all_goals(intro hb;(try simp only [sn,sb] at hb);try exact ex0))|(intro b0 hb)))
  refine loop_i (Nat × Int) (fun z => stO1 Tryz.f39.ntmps P l z.1 z.2) (fun z => z.1 ≤ P.length ∧ (z.2 = -1 ∧ (∀ j ∈ List.range z.1, rdy P l j = false) ∨ ∃ j : Nat, z.2 = j ∧ nextR P l = some j)) (fun z => P.length - z.1) [] (0, -1) trivial ⟨Nat.zero_le _, .inl ⟨rfl, by simp⟩⟩ ⟨rfl, ⟨rfl, trivial, rfl, rfl, rfl, trivial, rfl, trivial, trivial⟩, ⟨rfl, trivial⟩, clO_ci _ _⟩ ?_
  rintro ⟨i, nx⟩ ⟨h2, h3⟩
  dsimp only at h2 h3
  repeat' (first|(with_reducible first|refine zA ?_|refine zB ?_|refine zC ?_|refine zD ?_|refine zE ?_|refine zF ?_|refine zG ?_|refine zH ?_|refine zI ?_|refine zJ ?_|refine zK ?_|refine zL ?_)|(with_reducible refine reg_i ?_;intro K hK)|(with_reducible refine drw_i ?_;intro K hK)|((with_reducible refine cond_t ?hc ?_);(case hc=>rfl))|((with_reducible refine cond_f ?hc ?_);(case hc=>rfl))|((with_reducible refine cond_m ?_);refine And.intro ?_ ?_;all_goals(intro hb;(try simp only [sn,sb] at hb);try exact ex0))|(refine hK _ ?_;clear hK K)|(refine hK _ _ rfl ?_;clear hK K)|(have hg:=hK;clear hg;first|(refine And.intro ?zz ?_;case zz=>first|exact rfl|exact zO rfl|omega|exact gJ)|(refine fresh_n ?_)|(refine freshO_n ?_)|(refine at_Q ?_;intro hu)|(refine zP wA ?_)|(refine mul_Q ?_;intro hm1 hm2)|(refine zP at_M ?_)|(refine zP rfl ?_)|(refine' Or.inl (Exists.intro _ (Exists.intro _ (Exists.intro _ (And.intro (Has_ok l i (by omega)) (Exists.intro [(0,_)] (And.intro (lpre1 ?lh) (And.intro ?lz (And.intro rfl ?_))))))));(case lh=>exact rfl);(case lz=>exact fzl2 (fzo_ci rfl rfl) (fz_con rfl)))|(refine And.intro ?_ ?_;all_goals(intro hb;(try simp only [sn,sb] at hb);try exact ex0))|(intro b0 hb)))
  · obtain ⟨rfl, h4⟩ : nx = -1 ∧ ∀ j ∈ List.range i, rdy P l j = false := by
      rcases h3 with h | ⟨j, h, -⟩
      · exact h
      · omega
    have hi : i < P.length := by omega
    have hr := hR _ (getD_mem hi)
    refine loop_i (Nat × Bool) (fun z => stO2 Tryz.f39.ntmps P l i z.1 z.2) (fun z => z.1 ≤ (P.getD i default).length ∧ z.2 = (!l.contains (i : Int) && ((P.getD i default).take z.1).all fun q => l.contains q)) (fun z => (P.getD i default).length - z.1) [] (0, !l.contains (i : Int)) trivial ⟨Nat.zero_le _, by simp⟩ ⟨rfl, ⟨rfl, trivial, rfl, rfl, rfl, trivial, rfl, trivial, rfl, trivial, rfl, trivial, trivial⟩, ⟨rfl, trivial⟩, clO_ci _ _⟩ ?_
    rintro ⟨k, b⟩ ⟨g0, g1⟩
    dsimp only at g0 g1
    repeat' (first|(with_reducible first|refine zA ?_|refine zB ?_|refine zC ?_|refine zD ?_|refine zE ?_|refine zF ?_|refine zG ?_|refine zH ?_|refine zI ?_|refine zJ ?_|refine zK ?_|refine zL ?_)|(with_reducible refine reg_i ?_;intro K hK)|(with_reducible refine drw_i ?_;intro K hK)|((with_reducible refine cond_t ?hc ?_);(case hc=>rfl))|((with_reducible refine cond_f ?hc ?_);(case hc=>rfl))|((with_reducible refine cond_m ?_);refine And.intro ?_ ?_;all_goals(intro hb;(try simp only [sn,sb] at hb);try exact ex0))|(refine hK _ ?_;clear hK K)|(refine hK _ _ rfl ?_;clear hK K)|(have hg:=hK;clear hg;first|(refine And.intro ?zz ?_;case zz=>first|exact rfl|exact zO rfl|omega|exact gJ)|(refine fresh_n ?_)|(refine freshO_n ?_)|(refine at_Q ?_;intro hu)|(refine zP wA ?_)|(refine mul_Q ?_;intro hm1 hm2)|(refine zP at_M ?_)|(refine zP rfl ?_)|(refine' Or.inl (Exists.intro _ (Exists.intro _ (Exists.intro _ (And.intro (Has_ok l ((P.getD i default).getD k default) (by omega)) (Exists.intro [(0,_)] (And.intro (lpre1 ?lh) (And.intro ?lz (And.intro rfl ?_))))))));(case lh=>exact rfl);(case lz=>exact fzl2 (fzo_ci rfl rfl) (fz_con rfl)))|(refine And.intro ?_ ?_;all_goals(intro hb;(try simp only [sn,sb] at hb);try exact ex0))|(intro b0 hb)))
    · refine ⟨(k + 1, l.contains ((P.getD i default).getD k default)), ⟨by show k + 1 ≤ _; omega, ?_⟩, by show _ - (k + 1) < _ - k; omega, rfl, ⟨rfl, trivial, rfl, rfl, rfl, trivial, rfl, trivial, rfl, trivial, rfl, trivial, trivial⟩, ⟨rfl, trivial⟩, clO_ci _ _⟩
      show _ = (!l.contains (i : Int) && ((P.getD i default).take (k + 1)).all fun q => l.contains q)
      rw [all_take (by omega), ← Bool.and_assoc, ← g1, hb, Bool.true_and]
    · refine ⟨(k + 1, false), ⟨by show k + 1 ≤ _; omega, ?_⟩, by show _ - (k + 1) < _ - k; omega, rfl, ⟨rfl, trivial, rfl, rfl, rfl, trivial, rfl, trivial, rfl, trivial, rfl, trivial, trivial⟩, ⟨rfl, trivial⟩, clO_ci _ _⟩
      show _ = (!l.contains (i : Int) && ((P.getD i default).take (k + 1)).all fun q => l.contains q)
      rw [all_take (by omega), ← Bool.and_assoc, ← g1, hb, Bool.false_and]
    · rw [List.take_of_length_le (by omega)] at g1
      have hrd : rdy P l i = true := by rw [← hb, g1]; rfl
      exact ⟨(i + 1, (i : Int)), ⟨by show i + 1 ≤ _; omega, .inr ⟨i, rfl, nextR_first hi h4 hrd⟩⟩, by show _ - (i + 1) < _ - i; omega, rfl, ⟨rfl, trivial, rfl, rfl, rfl, trivial, rfl, trivial, trivial⟩, ⟨rfl, trivial⟩, clO_ci _ _⟩
    · rw [List.take_of_length_le (by omega)] at g1
      have hrd : rdy P l i = false := by rw [← hb, g1]; rfl
      exact ⟨(i + 1, -1), ⟨by show i + 1 ≤ _; omega, .inl ⟨rfl, rdy_step h4 hrd⟩⟩, by show _ - (i + 1) < _ - i; omega, rfl, ⟨rfl, trivial, rfl, rfl, rfl, trivial, rfl, trivial, trivial⟩, ⟨rfl, trivial⟩, clO_ci _ _⟩
  · obtain ⟨j, rfl, h4⟩ : ∃ j : Nat, nx = j ∧ nextR P l = some j := by
      rcases h3 with ⟨rfl, -⟩ | h
      · omega
      · exact h
    have hs := h0.step hO h4
    have hsl := hs.len
    rw [List.length_append, List.length_singleton] at hsl
    refine ⟨l ++ [(j : Int)], ⟨hs, ?_⟩, by rw [List.length_append, List.length_singleton]; omega, rfl, ⟨rfl, trivial, ?_, rfl, trivial⟩, ⟨?_, trivial⟩, clO_ci _ _⟩
    · rw [← h1, List.length_append, List.length_singleton, show P.length + 1 - l.length = (P.length + 1 - (l.length + 1)) + 1 by omega, refOut, h4]
    · show V.own 0 (l.length + 1) 0 (l.length + 1) = .own 0 (l ++ [(j : Int)]).length 0 (l ++ [(j : Int)]).length
      rw [List.length_append]; rfl
    · show some (⟨1, (l.map ci).take l.length ++ [ci j], l.length + 1, true⟩ : Obj) = some ⟨1, (l ++ [(j : Int)]).map ci, (l ++ [(j : Int)]).length, true⟩
      rw [List.take_of_length_le (by rw [List.length_map]; omega), List.map_append, List.length_append]; rfl
  · obtain ⟨rfl, h4⟩ : nx = -1 ∧ ∀ j ∈ List.range i, rdy P l j = false := by
      rcases h3 with h | ⟨j, h, -⟩
      · exact h
      · omega
    have hi : i = P.length := by omega
    rw [hi] at h4
    have e : refOut P (P.length + 1) [] = l := by
      rw [← h1, show P.length + 1 - l.length = (P.length - l.length) + 1 by omega, refOut, nextR_nil h4]
    rw [e]
    exact And.intro trivial (fzo_ci rfl rfl)
  · obtain ⟨j, rfl, h4⟩ : ∃ j : Nat, nx = j ∧ nextR P l = some j := by
      rcases h3 with ⟨rfl, -⟩ | h
      · omega
      · exact h
    have hs := h0.step hO h4
    have hsl := hs.len
    rw [List.length_append, List.length_singleton] at hsl
    refine ⟨l ++ [(j : Int)], ⟨hs, ?_⟩, by rw [List.length_append, List.length_singleton]; omega, rfl, ⟨rfl, trivial, ?_, rfl, trivial⟩, ⟨?_, trivial⟩, clO_ci _ _⟩
    · rw [← h1, List.length_append, List.length_singleton, show P.length + 1 - l.length = (P.length + 1 - (l.length + 1)) + 1 by omega, refOut, h4]
    · show V.own 0 (l.length + 1) 0 (l.length + 1) = .own 0 (l ++ [(j : Int)]).length 0 (l ++ [(j : Int)]).length
      rw [List.length_append]; rfl
    · show some (⟨1, (l.map ci).take l.length ++ [ci j], l.length + 1, true⟩ : Obj) = some ⟨1, (l ++ [(j : Int)]).map ci, (l ++ [(j : Int)]).length, true⟩
      rw [List.take_of_length_le (by rw [List.length_map]; omega), List.map_append, List.length_append]; rfl
def dagE (P : PL) : Int := if inRng P = false then 3 else if noDup P = false then 40 else if (refOut P (P.length + 1) []).length < P.length then 42 else 0
theorem okp_of {P : PL} (h1 : inRng P = true) (h2 : noDup P = true) : OkP P := ⟨inRng_iff.1 h1, noDup_iff.1 h2⟩
theorem rCheckD_ok (P : PL) (hP : P.length ≤ 1073741824) (hR : ∀ l ∈ P, l.length ≤ 1073741824) : Ok Tryz.prog 17 [tILL P] true (.con (.int .i64 (dagE P))) := by
  have hR2 : ∀ l ∈ P, l.length ≤ 4611686018427387904 := fun l h => Nat.le_trans (hR l h) (by decide)
  refine ok_of_ev (fun _ _ _ h => h) mix Tryz.func17 rfl rfl (by kernel_rfl) (Nat.le_of_ble_eq_true rfl) ?_
  cases h1 : inRng P with
  | false =>
    have hin := inside_ok P (by omega) hR2
    rw [h1] at hin
    repeat' (first|(with_reducible first|refine zA ?_|refine zB ?_|refine zC ?_|refine zD ?_|refine zE ?_|refine zF ?_|refine zG ?_|refine zH ?_|refine zI ?_|refine zJ ?_|refine zK ?_|refine zL ?_)|(with_reducible refine reg_i ?_;intro K hK)|(with_reducible refine drw_i ?_;intro K hK)|((with_reducible refine cond_t ?hc ?_);(case hc=>rfl))|((with_reducible refine cond_f ?hc ?_);(case hc=>rfl))|((with_reducible refine cond_m ?_);refine And.intro ?_ ?_;all_goals(intro hb;(try simp only [sn,sb] at hb);try exact ex0))|(refine hK _ ?_;clear hK K)|(refine hK _ _ rfl ?_;clear hK K)|(have hg:=hK;clear hg;first|(refine And.intro ?zz ?_;case zz=>first|exact rfl|exact zO rfl|omega|exact gJ)|(refine fresh_n ?_)|(refine freshO_n ?_)|(refine at_Q ?_;intro hu)|(refine zP wA ?_)|(refine mul_Q ?_;intro hm1 hm2)|(refine zP at_M ?_)|(refine zP rfl ?_)|(refine zQ (hin) ?_)|(refine And.intro ?_ ?_;all_goals(intro hb;(try simp only [sn,sb] at hb);try exact ex0))|(intro b0 hb)))
    exact And.intro trivial (fz_con (congrArg (Value.int .i64) (by simp [dagE, h1])))
  | true =>
    have hin := inside_ok P (by omega) hR2
    rw [h1] at hin
    cases h2 : noDup P with
    | false =>
      have htw := rtwice_ok P (by omega) hR2
      rw [h2] at htw
      repeat' (first|(with_reducible first|refine zA ?_|refine zB ?_|refine zC ?_|refine zD ?_|refine zE ?_|refine zF ?_|refine zG ?_|refine zH ?_|refine zI ?_|refine zJ ?_|refine zK ?_|refine zL ?_)|(with_reducible refine reg_i ?_;intro K hK)|(with_reducible refine drw_i ?_;intro K hK)|((with_reducible refine cond_t ?hc ?_);(case hc=>rfl))|((with_reducible refine cond_f ?hc ?_);(case hc=>rfl))|((with_reducible refine cond_m ?_);refine And.intro ?_ ?_;all_goals(intro hb;(try simp only [sn,sb] at hb);try exact ex0))|(refine hK _ ?_;clear hK K)|(refine hK _ _ rfl ?_;clear hK K)|(have hg:=hK;clear hg;first|(refine And.intro ?zz ?_;case zz=>first|exact rfl|exact zO rfl|omega|exact gJ)|(refine fresh_n ?_)|(refine freshO_n ?_)|(refine at_Q ?_;intro hu)|(refine zP wA ?_)|(refine mul_Q ?_;intro hm1 hm2)|(refine zP at_M ?_)|(refine zP rfl ?_)|(refine zQ (hin) ?_)|(refine zQ (htw) ?_)|(refine And.intro ?_ ?_;all_goals(intro hb;(try simp only [sn,sb] at hb);try exact ex0))|(intro b0 hb)))
      exact And.intro trivial (fz_con (congrArg (Value.int .i64) (by simp [dagE, h1, h2])))
    | true =>
      have htw := rtwice_ok P (by omega) hR2
      rw [h2] at htw
      have hout := rout_ok P hP hR (okp_of h1 h2)
      repeat' (first|(with_reducible first|refine zA ?_|refine zB ?_|refine zC ?_|refine zD ?_|refine zE ?_|refine zF ?_|refine zG ?_|refine zH ?_|refine zI ?_|refine zJ ?_|refine zK ?_|refine zL ?_)|(with_reducible refine reg_i ?_;intro K hK)|(with_reducible refine drw_i ?_;intro K hK)|((with_reducible refine cond_t ?hc ?_);(case hc=>rfl))|((with_reducible refine cond_f ?hc ?_);(case hc=>rfl))|((with_reducible refine cond_m ?_);refine And.intro ?_ ?_;all_goals(intro hb;(try simp only [sn,sb] at hb);try exact ex0))|(refine hK _ ?_;clear hK K)|(refine hK _ _ rfl ?_;clear hK K)|(have hg:=hK;clear hg;first|(refine And.intro ?zz ?_;case zz=>first|exact rfl|exact zO rfl|omega|exact gJ)|(refine fresh_n ?_)|(refine freshO_n ?_)|(refine at_Q ?_;intro hu)|(refine zP wA ?_)|(refine mul_Q ?_;intro hm1 hm2)|(refine zP at_M ?_)|(refine zP rfl ?_)|(refine zQ (hin) ?_)|(refine zQ (htw) ?_)|(refine zQ (hout) ?_)|(refine And.intro ?_ ?_;all_goals(intro hb;(try simp only [sn,sb] at hb);try exact ex0))|(intro b0 hb)))
      · exact And.intro trivial (fz_con (congrArg (Value.int .i64) (by rw [dagE, h1, h2, if_neg (by decide), if_neg (by decide), if_pos (by omega)])))
      · exact And.intro trivial (fz_con (congrArg (Value.int .i64) (by rw [dagE, h1, h2, if_neg (by decide), if_neg (by decide), if_neg (by omega)])))
end Go.Ev
