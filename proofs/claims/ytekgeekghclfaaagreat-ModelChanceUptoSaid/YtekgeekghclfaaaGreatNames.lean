import Derived.Test.YtekgeekghclfaaaGreatDagp
import Derived.Test.YtekgeekghclfaaaGreatNet
set_option linter.all false
namespace Go.Ev
open Go.Proofs
set_option maxRecDepth 10000
set_option maxHeartbeats 4000000
set_option linter.unusedSimpArgs false
set_option linter.unusedVariables false
theorem baloop_eq (b : ByteArray) : ∀ (k i : Nat) (r : List UInt8), b.size - i = k → ByteArray.toList.loop b i r = r.reverse ++ b.data.toList.drop i := by
  intro k
  induction k with
  | zero =>
    intro i r h
    rw [ByteArray.toList.loop, if_neg (by omega), List.drop_eq_nil_of_le (by show b.data.toList.length ≤ i; rw [Array.length_toList]; exact Nat.le_of_sub_eq_zero h), List.append_nil]
  | succ k ih =>
    intro i r h
    have hlt : i < b.size := by omega
    rw [ByteArray.toList.loop, if_pos hlt, ih (i + 1) _ (by omega)]
    have hl : i < b.data.toList.length := by rw [Array.length_toList]; exact hlt
    rw [List.drop_eq_getElem_cons hl]
    have : b.get! i = b.data.toList[i] := by
      show b.data[i]! = _
      rw [Array.getElem_toList]
      exact getElem!_pos b.data i hlt
    rw [this]; simp
theorem ba_data (b : ByteArray) : b.toList = b.data.toList := by
  unfold ByteArray.toList
  rw [baloop_eq b _ 0 [] rfl]; simp
theorem ba_inj {a b : ByteArray} (h : a.toList = b.toList) : a = b := by
  rw [ba_data, ba_data] at h
  exact ByteArray.ext (Array.toList_inj.1 h)
instance : LawfulBEq ByteArray where
  eq_of_beq h := (ba_iff _ _).1 h
  rfl := (ba_iff _ _).2 rfl
def fnd (l : List ByteArray) (s : ByteArray) : Option Nat := (List.range l.length).find? fun i => decide (l.getD i default = s)
def fndI (l : List ByteArray) (s : ByteArray) : Int := match fnd l s with | some i => i | none => -1
theorem fnd_at {l : List ByteArray} {s : ByteArray} {i : Nat} (hi : i < l.length) (h : ∀ j ∈ List.range i, l.getD j default ≠ s) (he : l.getD i default = s) : fndI l s = i := by
  have : fnd l s = some i := by
    unfold fnd
    rw [List.find?_range_eq_some]
    exact ⟨by simpa using he, List.mem_range.2 hi, fun j hj => by simpa using h j (List.mem_range.2 hj)⟩
  rw [fndI, this]
theorem fnd_no {l : List ByteArray} {s : ByteArray} (h : ∀ j ∈ List.range l.length, l.getD j default ≠ s) : fndI l s = -1 := by
  have : fnd l s = none := List.find?_eq_none.2 fun j hj => by simpa using h j hj
  rw [fndI, this]
theorem fnd_cases (l : List ByteArray) (s : ByteArray) : (∃ i : Nat, fndI l s = i ∧ i < l.length ∧ l.getD i default = s ∧ ∀ j, j < i → l.getD j default ≠ s) ∨ (fndI l s = -1 ∧ s ∉ l) := by
  cases e : fnd l s with
  | some i =>
    have e' := e
    unfold fnd at e'
    rw [List.find?_range_eq_some] at e'
    obtain ⟨h1, h2, h3⟩ := e'
    exact .inl ⟨i, by rw [fndI, e], List.mem_range.1 h2, by simpa using h1, fun j hj => by simpa using h3 j hj⟩
  | none =>
    refine .inr ⟨by rw [fndI, e], fun hm => ?_⟩
    obtain ⟨j, hj, rfl⟩ := List.mem_iff_getElem.1 hm
    have := List.find?_eq_none.1 e j (List.mem_range.2 hj)
    simp [List.getD, hj] at this
theorem range_step {p : Nat → Prop} {i : Nat} (h : ∀ j ∈ List.range i, p j) (hi : p i) : ∀ j ∈ List.range (i + 1), p j := by
  intro j hj
  rw [List.range_succ, List.mem_append, List.mem_singleton] at hj
  rcases hj with hj | rfl
  · exact h j hj
  · exact hi
theorem fnd_mem (l : List ByteArray) (s : ByteArray) : 0 ≤ fndI l s ↔ s ∈ l := by
  rcases fnd_cases l s with ⟨i, h, hi, he, _⟩ | ⟨h, hn⟩
  · rw [h]; exact ⟨fun _ => by rw [← he]; exact getD_mem hi, fun _ => by omega⟩
  · rw [h]; exact ⟨fun h => by omega, fun h => absurd h hn⟩
theorem mem_take_iff {l : List ByteArray} {k : Nat} {s : ByteArray} : s ∈ l.take k ↔ ∃ j, j < k ∧ j < l.length ∧ l.getD j default = s := by
  constructor
  · intro h
    obtain ⟨j, hj, rfl⟩ := List.mem_iff_getElem.1 h
    rw [List.length_take] at hj
    refine ⟨j, by omega, by omega, ?_⟩
    rw [List.getElem_take]; simp [List.getD, show j < l.length by omega]
  · rintro ⟨j, h1, h2, rfl⟩
    rw [List.mem_iff_getElem]
    refine ⟨j, by rw [List.length_take]; omega, ?_⟩
    rw [List.getElem_take]; simp [List.getD, h2]
theorem fnd_lt {l : List ByteArray} {k : Nat} (hk : k < l.length) : fndI l (l.getD k default) < k ↔ l.getD k default ∈ l.take k := by
  rcases fnd_cases l (l.getD k default) with ⟨i, h, hi, he, hf⟩ | ⟨h, hn⟩
  · rw [h, mem_take_iff]
    constructor
    · exact fun hl => ⟨i, by omega, hi, he⟩
    · rintro ⟨j, h1, h2, h3⟩
      have : ¬ j < i := fun hji => hf j hji h3
      omega
  · exact absurd (getD_mem hk) hn
theorem tSL_cut (l : List ByteArray) (k : Nat) : tSL (l.take k) = .sl (((l.map tS).drop (Int.toNat 0)).take ((k : Int) - 0).toNat) := by
  rw [Int.sub_zero, Int.toNat_natCast, show Int.toNat 0 = 0 from rfl, List.drop_zero, tSL, List.map_take]
theorem Find_ok (l : List ByteArray) (s : ByteArray) (hl : l.length ≤ 4611686018427387904) : Ok Tryz.prog 16 [tSL l, tS s] true (.con (.int .i64 (fndI l s))) := by
  refine ok_of_ev (fun _ _ _ h => h) mix Tryz.func16 rfl rfl (by kernel_rfl) (Nat.le_of_ble_eq_true rfl) ?_
  repeat' (first|(with_reducible first|refine zA ?_|refine zB ?_|refine zC ?_|refine zD ?_|refine zE ?_|refine zF ?_|refine zG ?_|refine zH ?_|refine zI ?_|refine zJ ?_|refine zK ?_|refine zL ?_)|(with_reducible refine reg_i ?_;intro K hK)|(with_reducible refine drw_i ?_;intro K hK)|((with_reducible refine cond_t ?hc ?_);(case hc=>rfl))|((with_reducible refine cond_f ?hc ?_);(case hc=>rfl))|((with_reducible refine cond_m ?_);refine And.intro ?_ ?_;all_goals(intro hb;(try simp only [sn,sb] at hb);try exact ex0))|(refine hK _ ?_;clear hK K)|(refine hK _ _ rfl ?_;clear hK K)|(have hg:=hK;clear hg;first|(refine And.intro ?zz ?_;case zz=>first|exact rfl|exact zO rfl|omega|exact gJ)|(refine fresh_n ?_)|(refine freshO_n ?_)|(refine at_Q ?_;intro hu)|(refine zP wA ?_)|(refine mul_Q ?_;intro hm1 hm2)|(refine zP at_M ?_)|(refine zP rfl ?_)|(refine And.intro ?_ ?_;all_goals(intro hb;(try simp only [sn,sb] at hb);try exact ex0))|(intro b0 hb)))
  refine loop_i Nat (fun i => ⟨Tryz.f16.ntmps, [(0, .ro false (tSL l)), (1, .con (.string s)), (5, .con (.int .i64 i))], []⟩) (fun i => i ≤ l.length ∧ ∀ j ∈ List.range i, l.getD j default ≠ s) (fun i => l.length - i) [] 0 trivial ⟨Nat.zero_le _, by simp⟩ ⟨rfl, ⟨rfl, trivial, rfl, trivial, rfl, trivial, trivial⟩, trivial, trivial⟩ ?_
  rintro i ⟨h0, h1⟩
  repeat' (first|(with_reducible first|refine zA ?_|refine zB ?_|refine zC ?_|refine zD ?_|refine zE ?_|refine zF ?_|refine zG ?_|refine zH ?_|refine zI ?_|refine zJ ?_|refine zK ?_|refine zL ?_)|(with_reducible refine reg_i ?_;intro K hK)|(with_reducible refine drw_i ?_;intro K hK)|((with_reducible refine cond_t ?hc ?_);(case hc=>rfl))|((with_reducible refine cond_f ?hc ?_);(case hc=>rfl))|((with_reducible refine cond_m ?_);refine And.intro ?_ ?_;all_goals(intro hb;(try simp only [sn,sb] at hb);try exact ex0))|(refine hK _ ?_;clear hK K)|(refine hK _ _ rfl ?_;clear hK K)|(have hg:=hK;clear hg;first|(refine And.intro ?zz ?_;case zz=>first|exact rfl|exact zO rfl|omega|exact gJ)|(refine fresh_n ?_)|(refine freshO_n ?_)|(refine at_Q ?_;intro hu)|(refine zP wA ?_)|(refine mul_Q ?_;intro hm1 hm2)|(refine zP at_M ?_)|(refine zP rfl ?_)|(refine And.intro ?_ ?_;all_goals(intro hb;(try simp only [sn,sb] at hb);try exact ex0))|(intro b0 hb)))
  · exact And.intro trivial (fz_con (congrArg (Value.int .i64) (fnd_at (by omega) h1 (ba_inj hb)).symm))
  · exact ⟨i + 1, ⟨by omega, range_step h1 fun h => hb (congrArg _ h)⟩, by omega, rfl, ⟨rfl, trivial, rfl, trivial, rfl, trivial, trivial⟩, trivial, trivial⟩
  · have e : i = l.length := by omega
    rw [e] at h1
    exact And.intro trivial (fz_con (congrArg (Value.int .i64) (fnd_no h1).symm))
theorem Index_ok (l : List ByteArray) (s : ByteArray) (hl : l.length ≤ 4611686018427387904) : Ok Tryz.prog 70 [tSL l, tS s] true (.con (.int .i64 (fndI l s))) := by
  refine ok_of_ev (fun _ _ _ h => h) mix Tryz.func70 rfl rfl (by kernel_rfl) (Nat.le_of_ble_eq_true rfl) ?_
  repeat' (first|(with_reducible first|refine zA ?_|refine zB ?_|refine zC ?_|refine zD ?_|refine zE ?_|refine zF ?_|refine zG ?_|refine zH ?_|refine zI ?_|refine zJ ?_|refine zK ?_|refine zL ?_)|(with_reducible refine reg_i ?_;intro K hK)|(with_reducible refine drw_i ?_;intro K hK)|((with_reducible refine cond_t ?hc ?_);(case hc=>rfl))|((with_reducible refine cond_f ?hc ?_);(case hc=>rfl))|((with_reducible refine cond_m ?_);refine And.intro ?_ ?_;all_goals(intro hb;(try simp only [sn,sb] at hb);try exact ex0))|(refine hK _ ?_;clear hK K)|(refine hK _ _ rfl ?_;clear hK K)|(have hg:=hK;clear hg;first|(refine And.intro ?zz ?_;case zz=>first|exact rfl|exact zO rfl|omega|exact gJ)|(refine fresh_n ?_)|(refine freshO_n ?_)|(refine at_Q ?_;intro hu)|(refine zP wA ?_)|(refine mul_Q ?_;intro hm1 hm2)|(refine zP at_M ?_)|(refine zP rfl ?_)|(refine And.intro ?_ ?_;all_goals(intro hb;(try simp only [sn,sb] at hb);try exact ex0))|(intro b0 hb)))
  refine loop_i Nat (fun i => ⟨Tryz.f70.ntmps, [(0, .ro false (tSL l)), (1, .con (.string s)), (7, .con (.int .i64 l.length)), (8, .con (.int .i64 i))], []⟩) (fun i => i ≤ l.length ∧ ∀ j ∈ List.range i, l.getD j default ≠ s) (fun i => l.length - i) [] 0 trivial ⟨Nat.zero_le _, by simp⟩ ⟨rfl, ⟨rfl, trivial, rfl, trivial, lenI _ _, trivial, rfl, trivial, trivial⟩, trivial, trivial⟩ ?_
  rintro i ⟨h0, h1⟩
  repeat' (first|(with_reducible first|refine zA ?_|refine zB ?_|refine zC ?_|refine zD ?_|refine zE ?_|refine zF ?_|refine zG ?_|refine zH ?_|refine zI ?_|refine zJ ?_|refine zK ?_|refine zL ?_)|(with_reducible refine reg_i ?_;intro K hK)|(with_reducible refine drw_i ?_;intro K hK)|((with_reducible refine cond_t ?hc ?_);(case hc=>rfl))|((with_reducible refine cond_f ?hc ?_);(case hc=>rfl))|((with_reducible refine cond_m ?_);refine And.intro ?_ ?_;all_goals(intro hb;(try simp only [sn,sb] at hb);try exact ex0))|(refine hK _ ?_;clear hK K)|(refine hK _ _ rfl ?_;clear hK K)|(have hg:=hK;clear hg;first|(refine And.intro ?zz ?_;case zz=>first|exact rfl|exact zO rfl|omega|exact gJ)|(refine fresh_n ?_)|(refine freshO_n ?_)|(refine at_Q ?_;intro hu)|(refine zP wA ?_)|(refine mul_Q ?_;intro hm1 hm2)|(refine zP at_M ?_)|(refine zP rfl ?_)|(refine And.intro ?_ ?_;all_goals(intro hb;(try simp only [sn,sb] at hb);try exact ex0))|(intro b0 hb)))
  · exact And.intro trivial (fz_con (congrArg (Value.int .i64) (fnd_at (by omega) h1 (ba_inj hb.symm)).symm))
  · exact ⟨i + 1, ⟨by omega, range_step h1 fun h => hb (congrArg _ h.symm)⟩, by omega, rfl, ⟨rfl, trivial, rfl, trivial, rfl, trivial, rfl, trivial, trivial⟩, trivial, trivial⟩
  · have e : i = l.length := by omega
    rw [e] at h1
    exact And.intro trivial (fz_con (congrArg (Value.int .i64) (fnd_no h1).symm))
theorem Contains_ok (l : List ByteArray) (s : ByteArray) (hl : l.length ≤ 4611686018427387904) : Ok Tryz.prog 44 [tSL l, tS s] true (.con (.bool (decide (s ∈ l)))) := by
  refine ok_of_ev (fun _ _ _ h => h) mix Tryz.func44 rfl rfl (by kernel_rfl) (Nat.le_of_ble_eq_true rfl) ?_
  repeat' (first|(with_reducible first|refine zA ?_|refine zB ?_|refine zC ?_|refine zD ?_|refine zE ?_|refine zF ?_|refine zG ?_|refine zH ?_|refine zI ?_|refine zJ ?_|refine zK ?_|refine zL ?_)|(with_reducible refine reg_i ?_;intro K hK)|(with_reducible refine drw_i ?_;intro K hK)|((with_reducible refine cond_t ?hc ?_);(case hc=>rfl))|((with_reducible refine cond_f ?hc ?_);(case hc=>rfl))|((with_reducible refine cond_m ?_);refine And.intro ?_ ?_;all_goals(intro hb;(try simp only [sn,sb] at hb);try exact ex0))|(refine hK _ ?_;clear hK K)|(refine hK _ _ rfl ?_;clear hK K)|(have hg:=hK;clear hg;first|(refine And.intro ?zz ?_;case zz=>first|exact rfl|exact zO rfl|omega|exact gJ)|(refine fresh_n ?_)|(refine freshO_n ?_)|(refine at_Q ?_;intro hu)|(refine zP wA ?_)|(refine mul_Q ?_;intro hm1 hm2)|(refine zP at_M ?_)|(refine zP rfl ?_)|(refine zQ (Index_ok l s hl) ?_)|(refine And.intro ?_ ?_;all_goals(intro hb;(try simp only [sn,sb] at hb);try exact ex0))|(intro b0 hb)))
  refine And.intro trivial (fz_con (congrArg Value.bool ?_))
  show decide (fndI l s ≥ 0) = _
  rw [decide_eq_decide]
  exact fnd_mem l s
def kS (s : ByteArray) : Value := .string s
theorem kS_eq (a b : ByteArray) (h : mkEq (kS a) (kS b) = true) : a = b := (ba_iff a b).1 h
theorem kS_refl (a : ByteArray) : mkEq (kS a) (kS a) = true := (ba_iff a a).2 rfl
theorem kS_ok (a : ByteArray) : mkOK none (kS a) = true := rfl
theorem clO_entS (L : List ByteArray) : clObjs [(0, (⟨0, L.map (entO kS), 0, false⟩ : Obj))] [(0, ⟨0, L.map (entO kS), 0, false⟩)] := by
  refine ⟨fun v hv => ?_, trivial⟩
  obtain ⟨x, -, rfl⟩ := List.mem_map.1 hv
  intro u hu
  simp at hu
  rcases hu with rfl | rfl <;> trivial
theorem nodupS_step {l : List ByteArray} {i : Nat} (hi : i < l.length) (h : (l.take i).Nodup) (hx : l.getD i default ∉ l.take i) : (l.take (i + 1)).Nodup := by
  rw [take_onD hi, List.nodup_append]
  exact ⟨h, by simp, fun a ha b hb => by rw [List.mem_singleton.1 hb]; exact fun e => hx (e ▸ ha)⟩
theorem nodupS_no {l : List ByteArray} {i : Nat} (hi : i < l.length) (hx : l.getD i default ∈ l.take i) : ¬ l.Nodup := fun h => by
  have h2 : (l.take (i + 1)).Nodup := h.sublist (List.take_sublist _ _)
  rw [take_onD hi, List.nodup_append] at h2
  exact h2.2.2 _ hx _ (by simp) rfl
theorem twiceS_ok (l : List ByteArray) (hl : l.length ≤ 4611686018427387904) : Ok Tryz.prog 45 [tSL l] true (.con (.bool (decide (¬ l.Nodup)))) := by
  refine ok_of_ev (fun _ _ _ h => h) mix Tryz.func45 rfl rfl (by kernel_rfl) (Nat.le_of_ble_eq_true rfl) ?_
  repeat' (first|(with_reducible first|refine zA ?_|refine zB ?_|refine zC ?_|refine zD ?_|refine zE ?_|refine zF ?_|refine zG ?_|refine zH ?_|refine zI ?_|refine zJ ?_|refine zK ?_|refine zL ?_)|(with_reducible refine reg_i ?_;intro K hK)|(with_reducible refine drw_i ?_;intro K hK)|((with_reducible refine cond_t ?hc ?_);(case hc=>rfl))|((with_reducible refine cond_f ?hc ?_);(case hc=>rfl))|((with_reducible refine cond_m ?_);refine And.intro ?_ ?_;all_goals(intro hb;(try simp only [sn,sb] at hb);try exact ex0))|(refine hK _ ?_;clear hK K)|(refine hK _ _ rfl ?_;clear hK K)|(have hg:=hK;clear hg;first|(refine And.intro ?zz ?_;case zz=>first|exact rfl|exact zO rfl|omega|exact gJ)|(refine fresh_c 0 rfl ?_)|(refine freshO_n ?_)|(refine at_Q ?_;intro hu)|(refine zP wA ?_)|(refine mul_Q ?_;intro hm1 hm2)|(refine zP at_M ?_)|(refine zP rfl ?_)|(refine And.intro ?_ ?_;all_goals(intro hb;(try simp only [sn,sb] at hb);try exact ex0))|(intro b0 hb)))
  refine loop_i Nat (fun k => ⟨Tryz.f45.ntmps, [(3, .ref 0 0 0 0), (7, .ro false (tSL l)), (8, .con (.int .i64 l.length)), (9, .con (.int .i64 k))], [(0, ⟨0, (l.take k).map (entO kS), 0, false⟩)]⟩) (fun k => k ≤ l.length ∧ (l.take k).Nodup) (fun k => l.length - k) [] 0 trivial ⟨Nat.zero_le _, by simp⟩ ⟨rfl, ⟨rfl, rfl, rfl, trivial, lenI _ _, trivial, rfl, trivial, trivial⟩, ⟨rfl, trivial⟩, clO_entS _⟩ ?_
  rintro k ⟨g0, g1⟩
  by_cases hk : k < l.length
  · by_cases hm : l.getD k default ∈ l.take k
    · repeat' (first|(first | refine And.intro (mEnt_map kS_ok _) ?_ | refine Exists.intro _ (And.intro (mGet_yes kS_refl hm) ?_))|(with_reducible first|refine zA ?_|refine zB ?_|refine zC ?_|refine zD ?_|refine zE ?_|refine zF ?_|refine zG ?_|refine zH ?_|refine zI ?_|refine zJ ?_|refine zK ?_|refine zL ?_)|(with_reducible refine reg_i ?_;intro K hK)|(with_reducible refine drw_i ?_;intro K hK)|((with_reducible refine cond_t ?hc ?_);(case hc=>rfl))|((with_reducible refine cond_f ?hc ?_);(case hc=>rfl))|((with_reducible refine cond_m ?_);refine And.intro ?_ ?_;all_goals(intro hb;(try simp only [sn,sb] at hb);try exact ex0))|(refine hK _ ?_;clear hK K)|(refine hK _ _ rfl ?_;clear hK K)|(have hg:=hK;clear hg;first|(refine And.intro ?zz ?_;case zz=>first|exact rfl|exact zO rfl|omega|exact gJ)|(refine fresh_n ?_)|(refine freshO_n ?_)|(refine at_Q ?_;intro hu)|(refine zP wA ?_)|(refine mul_Q ?_;intro hm1 hm2)|(refine zP at_M ?_)|(refine zP rfl ?_)|(refine And.intro ?_ ?_;all_goals(intro hb;(try simp only [sn,sb] at hb);try exact ex0))|(intro b0 hb)))
      exact And.intro trivial (fz_con (congrArg Value.bool (decide_eq_true (nodupS_no hk hm)).symm))
    · repeat' (first|(first | refine And.intro (mEnt_map kS_ok _) ?_ | refine Exists.intro _ (And.intro (mGet_no kS_eq hm) ?_) | refine Exists.intro _ (And.intro (mPut_no kS_eq hm) ?_))|(with_reducible first|refine zA ?_|refine zB ?_|refine zC ?_|refine zD ?_|refine zE ?_|refine zF ?_|refine zG ?_|refine zH ?_|refine zI ?_|refine zJ ?_|refine zK ?_|refine zL ?_)|(with_reducible refine reg_i ?_;intro K hK)|(with_reducible refine drw_i ?_;intro K hK)|((with_reducible refine cond_t ?hc ?_);(case hc=>rfl))|((with_reducible refine cond_f ?hc ?_);(case hc=>rfl))|((with_reducible refine cond_m ?_);refine And.intro ?_ ?_;all_goals(intro hb;(try simp only [sn,sb] at hb);try exact ex0))|(refine hK _ ?_;clear hK K)|(refine hK _ _ rfl ?_;clear hK K)|(have hg:=hK;clear hg;first|(refine And.intro ?zz ?_;case zz=>first|exact rfl|exact zO rfl|omega|exact gJ)|(refine fresh_n ?_)|(refine freshO_n ?_)|(refine at_Q ?_;intro hu)|(refine zP wA ?_)|(refine mul_Q ?_;intro hm1 hm2)|(refine zP at_M ?_)|(refine zP rfl ?_)|(refine And.intro ?_ ?_;all_goals(intro hb;(try simp only [sn,sb] at hb);try exact ex0))|(intro b0 hb)))
      refine ⟨k + 1, ⟨by omega, nodupS_step hk g1 hm⟩, by omega, rfl, ⟨rfl, rfl, rfl, trivial, rfl, trivial, rfl, trivial, trivial⟩, ⟨?_, trivial⟩, clO_entS _⟩
      rw [take_onD hk]; rfl
  · repeat' (first|(with_reducible first|refine zA ?_|refine zB ?_|refine zC ?_|refine zD ?_|refine zE ?_|refine zF ?_|refine zG ?_|refine zH ?_|refine zI ?_|refine zJ ?_|refine zK ?_|refine zL ?_)|(with_reducible refine reg_i ?_;intro K hK)|(with_reducible refine drw_i ?_;intro K hK)|((with_reducible refine cond_t ?hc ?_);(case hc=>rfl))|((with_reducible refine cond_f ?hc ?_);(case hc=>rfl))|((with_reducible refine cond_m ?_);refine And.intro ?_ ?_;all_goals(intro hb;(try simp only [sn,sb] at hb);try exact ex0))|(refine hK _ ?_;clear hK K)|(refine hK _ _ rfl ?_;clear hK K)|(have hg:=hK;clear hg;first|(refine And.intro ?zz ?_;case zz=>first|exact rfl|exact zO rfl|omega|exact gJ)|(refine fresh_n ?_)|(refine freshO_n ?_)|(refine at_Q ?_;intro hu)|(refine zP wA ?_)|(refine mul_Q ?_;intro hm1 hm2)|(refine zP at_M ?_)|(refine zP rfl ?_)|(refine And.intro ?_ ?_;all_goals(intro hb;(try simp only [sn,sb] at hb);try exact ex0))|(intro b0 hb)))
    rw [List.take_of_length_le (by omega)] at g1
    exact And.intro trivial (fz_con (congrArg Value.bool (decide_eq_false (fun h => h g1)).symm))
def firstE (f : Nat → Int) (n : Nat) : Int := match (List.range n).find? fun v => decide (f v ≠ 0) with | some v => f v | none => 0
theorem firstE_at {f : Nat → Int} {n v : Nat} (hv : v < n) (h : ∀ j ∈ List.range v, f j = 0) (hne : f v ≠ 0) : firstE f n = f v := by
  have : (List.range n).find? (fun v => decide (f v ≠ 0)) = some v := by
    rw [List.find?_range_eq_some]
    exact ⟨by simpa using hne, List.mem_range.2 hv, fun j hj => by simpa using h j (List.mem_range.2 hj)⟩
  rw [firstE, this]
theorem firstE_no {f : Nat → Int} {n : Nat} (h : ∀ j ∈ List.range n, f j = 0) : firstE f n = 0 := by
  have : (List.range n).find? (fun v => decide (f v ≠ 0)) = none := List.find?_eq_none.2 fun j hj => by simpa using h j hj
  rw [firstE, this]
theorem firstE_zero {f : Nat → Int} {n : Nat} (h : firstE f n = 0) : ∀ j, j < n → f j = 0 := by
  intro j hj
  cases e : (List.range n).find? (fun v => decide (f v ≠ 0)) with
  | some v =>
    rw [firstE, e] at h
    have := List.find?_some e
    simp at this
    exact absurd h this
  | none => simpa using List.find?_eq_none.1 e j (List.mem_range.2 hj)
def badN (names : List ByteArray) (values : List (List ByteArray)) (v : Nat) : Int :=
  if names.getD v default ∈ names.take v ∨ ¬ (values.getD v default).Nodup then 40 else if (values.getD v default).length = 0 then 43 else 0
end Go.Ev
