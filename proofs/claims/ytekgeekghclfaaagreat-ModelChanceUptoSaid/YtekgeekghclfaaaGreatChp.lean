import Derived.Test.YtekgeekghclfaaaGreatChr
import Derived.Test.YtekgeekghclfaaaGreatChk4
import Derived.Test.YtekgeekghclfaaaGreatOwnO
set_option linter.all false
namespace Go.Ev
open Go.Proofs
set_option maxRecDepth 10000
set_option maxHeartbeats 4000000
set_option linter.unusedSimpArgs false
set_option linter.unusedVariables false
theorem cu_cl (oh : OH) (l : List UInt32) : ∀ v ∈ l.map cu, v.cl oh := clc oh l
theorem vQ_cl {oh : OH} {i j : Nat} {z : Int} {d : Nat} (h1 : (oget oh i).isSome = true) (h2 : (oget oh j).isSome = true) : ∀ v ∈ [vQ i j z d], v.cl oh := by
  intro v hv
  obtain rfl := List.mem_singleton.1 hv
  intro u hu
  simp at hu
  rcases hu with rfl | rfl | rfl
  · trivial
  · exact h1
  · exact h2
theorem cu_flat (l : List UInt32) : ∀ v ∈ l.map cu, v.flat := by
  intro v hv
  obtain ⟨x, -, rfl⟩ := List.mem_map.1 hv
  trivial
theorem zR_flat : ∀ v ∈ [zR], v.flat := by
  intro v hv
  obtain rfl := List.mem_singleton.1 hv
  intro u hu
  simp at hu
  rcases hu with rfl | rfl <;> trivial
def preL (a b : List UInt32) (v : Nat) : OH := [(0, ⟨1, a.map cu, v, true⟩), (1, ⟨1, b.map cu, v, true⟩)]
theorem preL_two {a b : List UInt32} {v i : Nat} {o : Obj} (h : oget (preL a b v) i = some o) : (i = 0 ∧ o = ⟨1, a.map cu, v, true⟩) ∨ (i = 1 ∧ o = ⟨1, b.map cu, v, true⟩) := oget_two h
theorem preL_after {a b a' b' : List UInt32} {v w i : Nat} {o : Obj} (h : oget (preL a b v ++ preL a' b' w) i = some o) : oget (preL a b v) i = some o := by
  by_cases h0 : i = 0
  · subst h0; exact h
  · by_cases h1 : i = 1
    · subst h1; exact h
    · rw [show preL a b v ++ preL a' b' w = [(0, _), (1, _), (0, _), (1, _)] from rfl, oget, if_neg (Ne.symm h0), oget, if_neg (Ne.symm h1), oget, if_neg (Ne.symm h0), oget, if_neg (Ne.symm h1)] at h
      cases h
theorem rep_set {l : List UInt32} {j : Nat} {x : UInt32} (h : j < l.length) : (List.replicate j x ++ l.drop j).set j x = List.replicate (j + 1) x ++ l.drop (j + 1) := by
  rw [List.set_append_right _ _ (by simp), List.length_replicate, Nat.sub_self, List.drop_eq_getElem_cons h, List.set_cons_zero, List.replicate_succ', List.append_assoc]
  rfl
theorem rep_setw {l : List UInt32} {j : Nat} {x : UInt32} (h : j < l.length) : ((List.replicate j x ++ l.drop j).map cu).set (0 + j) (cu x) = (List.replicate (j + 1) x ++ l.drop (j + 1)).map cu := by
  rw [← rep_set h, List.map_set, Nat.zero_add]
theorem rep_end {l : List UInt32} {j : Nat} {x : UInt32} (h : j = l.length) : List.replicate j x ++ l.drop j = List.replicate l.length x := by
  subst h; rw [List.drop_length, List.append_nil]
theorem rep_len {l : List UInt32} {j : Nat} {x : UInt32} (h : j ≤ l.length) : (List.replicate j x ++ l.drop j).length = l.length := by
  rw [List.length_append, List.length_replicate, List.length_drop]; omega
theorem limbs_g (n : Bool) (a b : List UInt32) (w : UInt32) (ha : a.length ≤ 1073741824) (hb9 : b.length ≤ 1073741824) : OkG Tryz.prog 15 (preL a b 0) [] [.agg [.con (.bool n), .own 0 0 0 a.length, .own 1 0 0 b.length], .con (.int .u32 w.toNat)]
    (preL (List.replicate a.length 7) (List.replicate b.length w) 1) (.con (.bool true)) := by
  refine okg_of_ev (fun _ _ _ h => h) mix 0 (Nat.le_of_ble_eq_true rfl) Tryz.func15 rfl rfl (by kernel_rfl) (by kernel_rfl) (Nat.le_of_ble_eq_true rfl) ?wf ?vs ?po ?le ?_
  case wf =>
    intro i o h
    rcases preL_two h with ⟨rfl, rfl⟩ | ⟨rfl, rfl⟩ <;> exact ⟨rfl, rfl, cu_cl _ _⟩
  case vs =>
    intro v hv
    simp at hv
    rcases hv with rfl | rfl
    · intro u hu
      simp at hu
      rcases hu with rfl | rfl | rfl
      · trivial
      · exact rfl
      · exact rfl
    · trivial
  case po =>
    intro i o h
    rcases preL_two h with ⟨rfl, rfl⟩ | ⟨rfl, rfl⟩ <;> exact .inl rfl
  case le =>
    intro i o o' h1 h2 h3
    rcases preL_two (preL_after h2) with ⟨rfl, rfl⟩ | ⟨rfl, rfl⟩ <;> cases h3
  have bx3 : ∀ (oh : OH), (oget oh 0).isSome = true → (oget oh 1).isSome = true → ∀ v ∈ [V.agg [.con (.bool n), .own 0 0 0 a.length, .own 1 0 0 b.length]], v.cl oh := by
    intro oh h1 h2 v hv
    obtain rfl := List.mem_singleton.1 hv
    intro u hu
    simp at hu
    rcases hu with rfl | rfl | rfl
    · trivial
    · exact h1
    · exact h2
  repeat' (first|(with_reducible first|refine zA ?_|refine zB ?_|refine zC ?_|refine zD ?_|refine zE ?_|refine zF ?_|refine zG ?_|refine zH ?_|refine zI ?_|refine zJ ?_|refine zK ?_|refine zL ?_)|(with_reducible refine reg_i ?_;intro K hK)|(with_reducible refine drw_i ?_;intro K hK)|((with_reducible refine cond_t ?hc ?_);(case hc=>rfl))|((with_reducible refine cond_f ?hc ?_);(case hc=>rfl))|((with_reducible refine cond_m ?_);refine And.intro ?_ ?_;all_goals(intro hb;(try simp only [sn,sb] at hb);try exact ex0))|(refine hK _ ?_;clear hK K)|(refine hK _ _ rfl ?_;clear hK K)|(have hg:=hK;clear hg;first|(refine And.intro ?zz ?_;case zz=>first|exact rfl|exact zO rfl|omega|exact gJ)|(refine fresh_c 2 rfl ?_)|(refine freshO_n ?_)|(refine at_Q ?_;intro hu)|(refine zP wA ?_)|(refine mul_Q ?_;intro hm1 hm2)|(refine zP at_M ?_)|(refine zP rfl ?_)|(refine And.intro ?_ ?_;all_goals(intro hb;(try simp only [sn,sb] at hb);try exact ex0))|(intro b0 hb)))
  refine loop_i Nat (fun j => ⟨Tryz.f15.ntmps, [(1, .con (.int .u32 w.toNat)), (2, .ref 2 0 0 0), (5, .con (.int .i64 j))], [(0, ⟨1, (List.replicate j 7 ++ a.drop j).map cu, 0, true⟩), (1, ⟨1, b.map cu, 0, true⟩), (2, ⟨3, [.agg [.con (.bool n), .own 0 0 0 a.length, .own 1 0 0 b.length]], 0, true⟩)]⟩) (fun j => j ≤ a.length) (fun j => a.length - j) [] 0 trivial (Nat.zero_le _) ⟨rfl, ⟨rfl, trivial, rfl, rfl, rfl, trivial, trivial⟩, ⟨rfl, rfl, rfl, trivial⟩, ⟨cu_cl _ _, cu_cl _ _, bx3 _ rfl rfl, trivial⟩⟩ ?_
  rintro j hj
  have hrl := rep_len (x := 7) hj
  by_cases hlt : j < a.length
  · repeat' (first|(with_reducible first|refine zA ?_|refine zB ?_|refine zC ?_|refine zD ?_|refine zE ?_|refine zF ?_|refine zG ?_|refine zH ?_|refine zI ?_|refine zJ ?_|refine zK ?_|refine zL ?_)|(with_reducible refine reg_i ?_;intro K hK)|(with_reducible refine drw_i ?_;intro K hK)|((with_reducible refine cond_t ?hc ?_);(case hc=>rfl))|((with_reducible refine cond_f ?hc ?_);(case hc=>rfl))|((with_reducible refine cond_m ?_);refine And.intro ?_ ?_;all_goals(intro hb;(try simp only [sn,sb] at hb);try exact ex0))|(refine hK _ ?_;clear hK K)|(refine hK _ _ rfl ?_;clear hK K)|(have hg:=hK;clear hg;first|(refine And.intro ?zz ?_;case zz=>first|exact rfl|exact zO rfl|omega|exact gJ)|(refine fresh_n ?_)|(refine freshO_n ?_)|(refine at_Q ?_;intro hu)|(refine zP wA ?_)|(refine mul_Q ?_;intro hm1 hm2)|(refine zP at_M ?_)|(refine zP rfl ?_)|(refine And.intro ?_ ?_;all_goals(intro hb;(try simp only [sn,sb] at hb);try exact ex0))|(intro b0 hb)))
    exact ⟨j + 1, by omega, by omega, rfl, ⟨rfl, trivial, rfl, rfl, rfl, trivial, trivial⟩, ⟨congrArg (fun l => some (Obj.mk 1 l 0 true)) (rep_setw (x := 7) hlt), rfl, rfl, trivial⟩, ⟨cu_cl _ _, cu_cl _ _, bx3 _ rfl rfl, trivial⟩⟩
  · have hja : j = a.length := by omega
    rw [rep_end hja]
    clear hrl
    repeat' (first|(with_reducible first|refine zA ?_|refine zB ?_|refine zC ?_|refine zD ?_|refine zE ?_|refine zF ?_|refine zG ?_|refine zH ?_|refine zI ?_|refine zJ ?_|refine zK ?_|refine zL ?_)|(with_reducible refine reg_i ?_;intro K hK)|(with_reducible refine drw_i ?_;intro K hK)|((with_reducible refine cond_t ?hc ?_);(case hc=>rfl))|((with_reducible refine cond_f ?hc ?_);(case hc=>rfl))|((with_reducible refine cond_m ?_);refine And.intro ?_ ?_;all_goals(intro hb;(try simp only [sn,sb] at hb);try exact ex0))|(refine hK _ ?_;clear hK K)|(refine hK _ _ rfl ?_;clear hK K)|(have hg:=hK;clear hg;first|(refine And.intro ?zz ?_;case zz=>first|exact rfl|exact zO rfl|omega|exact gJ)|(refine fresh_n ?_)|(refine freshO_n ?_)|(refine at_Q ?_;intro hu)|(refine zP wA ?_)|(refine mul_Q ?_;intro hm1 hm2)|(refine zP at_M ?_)|(refine zP rfl ?_)|(refine And.intro ?_ ?_;all_goals(intro hb;(try simp only [sn,sb] at hb);try exact ex0))|(intro b0 hb)))
    refine loop_i Nat (fun j => ⟨Tryz.f15.ntmps, [(1, .con (.int .u32 w.toNat)), (2, .ref 2 0 0 0), (6, .con (.int .i64 j))], [(0, ⟨1, (List.replicate a.length (7 : UInt32)).map cu, 0, true⟩), (1, ⟨1, (List.replicate j w ++ b.drop j).map cu, 0, true⟩), (2, ⟨3, [.agg [.con (.bool n), .own 0 0 0 a.length, .own 1 0 0 b.length]], 0, true⟩)]⟩) (fun j => j ≤ b.length) (fun j => b.length - j) [] 0 trivial (Nat.zero_le _) ⟨rfl, ⟨rfl, trivial, rfl, rfl, rfl, trivial, trivial⟩, ⟨rfl, rfl, rfl, trivial⟩, ⟨cu_cl _ _, cu_cl _ _, bx3 _ rfl rfl, trivial⟩⟩ ?_
    clear hja hlt hj hb j
    rintro j hj
    have hrl := rep_len (x := w) hj
    by_cases hlt : j < b.length
    · repeat' (first|(with_reducible first|refine zA ?_|refine zB ?_|refine zC ?_|refine zD ?_|refine zE ?_|refine zF ?_|refine zG ?_|refine zH ?_|refine zI ?_|refine zJ ?_|refine zK ?_|refine zL ?_)|(with_reducible refine reg_i ?_;intro K hK)|(with_reducible refine drw_i ?_;intro K hK)|((with_reducible refine cond_t ?hc ?_);(case hc=>rfl))|((with_reducible refine cond_f ?hc ?_);(case hc=>rfl))|((with_reducible refine cond_m ?_);refine And.intro ?_ ?_;all_goals(intro hb;(try simp only [sn,sb] at hb);try exact ex0))|(refine hK _ ?_;clear hK K)|(refine hK _ _ rfl ?_;clear hK K)|(have hg:=hK;clear hg;first|(refine And.intro ?zz ?_;case zz=>first|exact rfl|exact zO rfl|omega|exact gJ)|(refine fresh_n ?_)|(refine freshO_n ?_)|(refine at_Q ?_;intro hu)|(refine zP wA ?_)|(refine mul_Q ?_;intro hm1 hm2)|(refine zP at_M ?_)|(refine zP rfl ?_)|(refine And.intro ?_ ?_;all_goals(intro hb;(try simp only [sn,sb] at hb);try exact ex0))|(intro b0 hb)))
      exact ⟨j + 1, by omega, by omega, rfl, ⟨rfl, trivial, rfl, rfl, rfl, trivial, trivial⟩, ⟨rfl, congrArg (fun l => some (Obj.mk 1 l 0 true)) (rep_setw (x := w) hlt), rfl, trivial⟩, ⟨cu_cl _ _, cu_cl _ _, bx3 _ rfl rfl, trivial⟩⟩
    · have hja : j = b.length := by omega
      rw [rep_end hja]
      clear hrl
      repeat' (first|(with_reducible first|refine zA ?_|refine zB ?_|refine zC ?_|refine zD ?_|refine zE ?_|refine zF ?_|refine zG ?_|refine zH ?_|refine zI ?_|refine zJ ?_|refine zK ?_|refine zL ?_)|(with_reducible refine reg_i ?_;intro K hK)|(with_reducible refine drw_i ?_;intro K hK)|((with_reducible refine cond_t ?hc ?_);(case hc=>rfl))|((with_reducible refine cond_f ?hc ?_);(case hc=>rfl))|((with_reducible refine cond_m ?_);refine And.intro ?_ ?_;all_goals(intro hb;(try simp only [sn,sb] at hb);try exact ex0))|(refine hK _ ?_;clear hK K)|(refine hK _ _ rfl ?_;clear hK K)|(have hg:=hK;clear hg;first|(refine And.intro ?zz ?_;case zz=>first|exact rfl|exact zO rfl|omega|exact gJ)|(refine fresh_n ?_)|(refine freshO_n ?_)|(refine at_Q ?_;intro hu)|(refine zP wA ?_)|(refine mul_Q ?_;intro hm1 hm2)|(refine zP at_M ?_)|(refine zP rfl ?_)|(refine And.intro ?_ ?_;all_goals(intro hb;(try simp only [sn,sb] at hb);try exact ex0))|(intro b0 hb)))
      refine loop_i Nat (fun j => ⟨Tryz.f15.ntmps, [(1, .con (.int .u32 w.toNat)), (2, .ref 2 0 0 0), (7, .con (.int .i64 j))], [(0, ⟨1, (List.replicate a.length (7 : UInt32)).map cu, 0, true⟩), (1, ⟨1, (List.replicate b.length w).map cu, 0, true⟩), (2, ⟨3, [.agg [.con (.bool n), .own 0 0 0 a.length, .own 1 0 0 b.length]], 0, true⟩)]⟩) (fun j => j ≤ a.length) (fun j => a.length - j) [] 0 trivial (Nat.zero_le _) ⟨rfl, ⟨rfl, trivial, rfl, rfl, rfl, trivial, trivial⟩, ⟨rfl, rfl, rfl, trivial⟩, ⟨cu_cl _ _, cu_cl _ _, bx3 _ rfl rfl, trivial⟩⟩ ?_
      clear hja hlt hj hb j
      rintro j hj
      have hrl : (List.replicate a.length (7 : UInt32)).length = a.length := List.length_replicate
      by_cases hlt : j < a.length
      · have hg : (List.replicate a.length (7 : UInt32)).getD (0 + j) default = 7 := by
          rw [Nat.zero_add, List.getD, List.getElem?_replicate, if_pos hlt]; rfl
        repeat' (first|(with_reducible first|refine zA ?_|refine zB ?_|refine zC ?_|refine zD ?_|refine zE ?_|refine zF ?_|refine zG ?_|refine zH ?_|refine zI ?_|refine zJ ?_|refine zK ?_|refine zL ?_)|(with_reducible refine reg_i ?_;intro K hK)|(with_reducible refine drw_i ?_;intro K hK)|((with_reducible refine cond_t ?hc ?_);(case hc=>rfl))|((with_reducible refine cond_f ?hc ?_);(case hc=>rfl))|((with_reducible refine cond_m ?_);refine And.intro ?_ ?_;all_goals(intro hb;(try simp only [sn,sb] at hb);try exact ex0))|(refine hK _ ?_;clear hK K)|(refine hK _ _ rfl ?_;clear hK K)|(have hg:=hK;clear hg;first|(refine And.intro ?zz ?_;case zz=>first|exact rfl|exact zO rfl|omega|exact gJ)|(refine fresh_n ?_)|(refine freshO_n ?_)|(refine at_Q ?_;intro hu)|(refine zP wA ?_)|(refine mul_Q ?_;intro hm1 hm2)|(refine zP at_M ?_)|(refine zP rfl ?_)|(refine And.intro ?_ ?_;all_goals(intro hb;(try simp only [sn,sb] at hb);try exact ex0))|(intro b0 hb)))
        · exfalso
          rw [hg] at hb
          exact hb rfl
        · exact ⟨j + 1, by omega, by omega, rfl, ⟨rfl, trivial, rfl, rfl, rfl, trivial, trivial⟩, ⟨rfl, rfl, rfl, trivial⟩, ⟨cu_cl _ _, cu_cl _ _, bx3 _ rfl rfl, trivial⟩⟩
      · repeat' (first|(with_reducible first|refine zA ?_|refine zB ?_|refine zC ?_|refine zD ?_|refine zE ?_|refine zF ?_|refine zG ?_|refine zH ?_|refine zI ?_|refine zJ ?_|refine zK ?_|refine zL ?_)|(with_reducible refine reg_i ?_;intro K hK)|(with_reducible refine drw_i ?_;intro K hK)|((with_reducible refine cond_t ?hc ?_);(case hc=>rfl))|((with_reducible refine cond_f ?hc ?_);(case hc=>rfl))|((with_reducible refine cond_m ?_);refine And.intro ?_ ?_;all_goals(intro hb;(try simp only [sn,sb] at hb);try exact ex0))|(refine hK _ ?_;clear hK K)|(refine hK _ _ rfl ?_;clear hK K)|(have hg:=hK;clear hg;first|(refine And.intro ?zz ?_;case zz=>first|exact rfl|exact zO rfl|omega|exact gJ)|(refine fresh_n ?_)|(refine freshO_n ?_)|(refine at_Q ?_;intro hu)|(refine zP wA ?_)|(refine mul_Q ?_;intro hm1 hm2)|(refine zP at_M ?_)|(refine zP rfl ?_)|(refine And.intro ?_ ?_;all_goals(intro hb;(try simp only [sn,sb] at hb);try exact ex0))|(intro b0 hb)))
        refine ⟨trivial, false, _, rfl, ?_, ?_, BmC.con _⟩
        · intro i o o' h1 h2 h3
          rcases preL_two (preL_after h2) with ⟨rfl, rfl⟩ | ⟨rfl, rfl⟩ <;> cases h3
        · refine bm_scal fun i o1 ho => ?_
          have key : ∀ (l : List UInt32), ∀ e ∈ l.map cu, ∃ c, e = V.con c := fun l e he => by
            obtain ⟨x, -, rfl⟩ := List.mem_map.1 he
            exact ⟨_, rfl⟩
          rcases preL_two (preL_after ho) with ⟨rfl, rfl⟩ | ⟨rfl, rfl⟩
          · exact ⟨rfl, ⟨0, rfl⟩, key _⟩
          · exact ⟨rfl, ⟨0, rfl⟩, key _⟩
theorem MulQ_okO (s : Int × Nat) (r : Rt) {B : Nat} (hs : QOK s B) (hB : B ≤ 268435456) (hr : szR r ≤ 268435456) : OkO Tryz.prog 33 [tQ s.1 s.2, tRt r] (oQ (stepM s r).1 (stepM s r).2) (vQ 0 1 (stepM s r).1 (stepM s r).2) := by
  obtain ⟨h1, h2, h3⟩ := hs
  unfold szR at hr
  have h := MulR_okO (decide (qz s.1 s.2 < 0)) r.neg (lm (qz s.1 s.2).natAbs) (lm (qd s.1 s.2)) r.mag r.den (by omega) (by omega) (by omega) (by omega)
  rw [iv_Z, denv_lm (qd_pos h1)] at h
  exact h
theorem fz_vQ {oh : OH} {i j v w : Nat} {z : Int} {d : Nat} (hi : oget oh i = some ⟨1, (lm (qz z d).natAbs).map cu, v, true⟩) (hj : oget oh j = some ⟨1, (lm (qd z d)).map cu, w, true⟩) (hv : v = 0) (hw : w = 0) : FzA oh false (vQ i j z d) (tQ z d) := by
  subst hv hw
  exact fzA3 (.con _) (fzo_cu hi rfl) (fzo_cu hj rfl)
theorem Chance_okO (n : Nt) (xs : List Int) (ok : CkOK n) (hB : allR n ≤ 134217728) (hc : checkE n = 0) (hxs : XsOK n xs) :
    OkO Tryz.prog 13 [tNt n, tIL xs] (oQ (chF n xs n.names.length).1 (chF n xs n.names.length).2) (.tup [vQ 0 1 (chF n xs n.names.length).1 (chF n xs n.names.length).2, .con (.int .i64 0)]) := by
  obtain ⟨fit, sh⟩ := check0 hc
  have hv := fit.v
  have hp := fit.p
  have ht := fit.t
  have hk := fit.k
  have hxl := hxs.len
  have c4 := ok.tables
  have hck := Check_ok n ok
  rw [hc] at hck
  refine oko_of_ev (fun _ _ _ h => h) mix Tryz.func13 rfl rfl (by kernel_rfl) (Nat.le_of_ble_eq_true rfl) ?_
  repeat' (first|(with_reducible first|refine zA ?_|refine zB ?_|refine zC ?_|refine zD ?_|refine zE ?_|refine zF ?_|refine zG ?_|refine zH ?_|refine zI ?_|refine zJ ?_|refine zK ?_|refine zL ?_)|(with_reducible refine reg_i ?_;intro K hK)|(with_reducible refine drw_i ?_;intro K hK)|((with_reducible refine cond_t ?hc ?_);(case hc=>rfl))|((with_reducible refine cond_f ?hc ?_);(case hc=>rfl))|((with_reducible refine cond_m ?_);refine And.intro ?_ ?_;all_goals(intro hb;(try simp only [sn,sb] at hb);try exact ex0))|(refine hK _ ?_;clear hK K)|(refine hK _ _ rfl ?_;clear hK K)|(have hg:=hK;clear hg;first|(refine And.intro ?zz ?_;case zz=>first|exact rfl|exact zO rfl|omega|exact gJ)|(refine fresh_c 0 rfl ?_)|(refine fresh_c 1 rfl ?_)|(refine freshO_n ?_)|(refine at_Q ?_;intro hu)|(refine zP wA ?_)|(refine mul_Q ?_;intro hm1 hm2)|(refine zP at_M ?_)|(refine zP rfl ?_)|(refine zQ (hck) ?_)|(refine And.intro ?_ ?_;all_goals(intro hb;(try simp only [sn,sb] at hb);try exact ex0))|(intro b0 hb)))
  refine loop_i Nat (fun k => ⟨Tryz.f13.ntmps, [(1, .ro false (tIL xs)), (2, .ref 0 0 0 0), (4, .ref 1 0 0 0), (5, .con (.int .i64 0)), (28, .ro false (tIL xs)), (29, .con (.int .i64 xs.length)), (30, .con (.int .i64 k))], [(0, bxNt n), (1, ⟨3, [zR], 0, true⟩)]⟩) (fun k => k ≤ xs.length) (fun k => xs.length - k) [] 0 trivial (Nat.zero_le _) ⟨rfl, ⟨rfl, trivial, rfl, rfl, rfl, rfl, rfl, trivial, rfl, trivial, lenI _ _, trivial, rfl, trivial, trivial⟩, ⟨rfl, rfl, trivial⟩, ⟨bx_cl n, zR_cl _, trivial⟩⟩ ?_
  intro k hk0
  by_cases hlt : k < xs.length
  · obtain ⟨x1, x2⟩ := hxs.rng k (by omega)
    have x1 : 0 ≤ xs.getD k default := x1
    have x2 : xs.getD k default < ((n.values.getD k default).length : Int) := x2
    repeat' (first|(with_reducible first|refine zA ?_|refine zB ?_|refine zC ?_|refine zD ?_|refine zE ?_|refine zF ?_|refine zG ?_|refine zH ?_|refine zI ?_|refine zJ ?_|refine zK ?_|refine zL ?_)|(with_reducible refine reg_i ?_;intro K hK)|(with_reducible refine drw_i ?_;intro K hK)|((with_reducible refine cond_t ?hc ?_);(case hc=>rfl))|((with_reducible refine cond_f ?hc ?_);(case hc=>rfl))|((with_reducible refine cond_m ?_);refine And.intro ?_ ?_;all_goals(intro hb;(try simp only [sn,sb] at hb);try exact ex0))|(refine hK _ ?_;clear hK K)|(refine hK _ _ rfl ?_;clear hK K)|(have hg:=hK;clear hg;first|(refine And.intro ?zz ?_;case zz=>first|exact rfl|exact zO rfl|omega|exact gJ)|(refine fresh_n ?_)|(refine freshO_n ?_)|(refine at_Q ?_;intro hu)|(refine zP wA ?_)|(refine mul_Q ?_;intro hm1 hm2)|(refine zP at_M ?_)|(refine zP rfl ?_)|(refine And.intro ?_ ?_;all_goals(intro hb;(try simp only [sn,sb] at hb);try exact ex0))|(intro b0 hb)))
    exact ⟨k + 1, by omega, by omega, rfl, ⟨rfl, trivial, rfl, rfl, rfl, rfl, rfl, trivial, rfl, trivial, rfl, trivial, rfl, trivial, trivial⟩, ⟨rfl, rfl, trivial⟩, ⟨bx_cl n, zR_cl _, trivial⟩⟩
  repeat' (first|(with_reducible first|refine zA ?_|refine zB ?_|refine zC ?_|refine zD ?_|refine zE ?_|refine zF ?_|refine zG ?_|refine zH ?_|refine zI ?_|refine zJ ?_|refine zK ?_|refine zL ?_)|(with_reducible refine reg_i ?_;intro K hK)|(with_reducible refine drw_i ?_;intro K hK)|((with_reducible refine cond_t ?hc ?_);(case hc=>rfl))|((with_reducible refine cond_f ?hc ?_);(case hc=>rfl))|((with_reducible refine cond_m ?_);refine And.intro ?_ ?_;all_goals(intro hb;(try simp only [sn,sb] at hb);try exact ex0))|(refine hK _ ?_;clear hK K)|(refine hK _ _ rfl ?_;clear hK K)|(have hg:=hK;clear hg;first|(refine And.intro ?zz ?_;case zz=>first|exact rfl|exact zO rfl|omega|exact gJ)|(refine fresh_c 4 rfl ?_)|(refine freshO_n ?_)|(refine at_Q ?_;intro hu)|(refine zP wA ?_)|(refine mul_Q ?_;intro hm1 hm2)|(refine zP at_M ?_)|(refine zP rfl ?_)|(refine' Or.inr (objs_2 (one_okO) 2 ?o2a ?o2b ?_);(case o2a=>exact rfl);(case o2b=>exact rfl))|(refine And.intro ?_ ?_;all_goals(intro hb;(try simp only [sn,sb] at hb);try exact ex0))|(intro b0 hb)))
  refine loop_lr Nat (fun k => ⟨Tryz.f13.ntmps, [(1, .ro false (tIL xs)), (2, .ref 0 0 0 0), (4, .ref 1 0 0 0), (5, .con (.int .i64 0)), (9, .ref 4 0 0 0), (51, .ro false (tRLL n.tables)), (52, .con (.int .i64 n.tables.length)), (53, .con (.int .i64 k))], [(0, bxNt n), (1, ⟨3, [zR], 0, true⟩), (4, ⟨3, [vQ 2 3 (chF n xs k).1 (chF n xs k).2], 0, true⟩), (2, ⟨1, (lm (qz (chF n xs k).1 (chF n xs k).2).natAbs).map cu, 0, true⟩), (3, ⟨1, (lm (qd (chF n xs k).1 (chF n xs k).2)).map cu, 0, true⟩)]⟩) (fun k => k ≤ n.names.length) (fun k => n.names.length - k) [] 0 trivial (Nat.zero_le _)
    ⟨rfl, ⟨rfl, trivial, rfl, rfl, rfl, rfl, rfl, trivial, rfl, rfl, rfl, trivial, lenI _ _, trivial, rfl, trivial, trivial⟩, ⟨rfl, rfl, rfl, rfl, rfl, trivial⟩, ⟨bx_cl n, zR_cl _, vQ_cl rfl rfl, cu_cl _ _, cu_cl _ _, trivial⟩⟩ ?_
  clear hlt hk0 hb k
  intro k hk0
  by_cases hlt : k < n.names.length
  · obtain ⟨hR, a1, a2, a3, a4, a5, a6, a7⟩ := idx_rng ok hc hxs hlt
    have hps := fit.ps ok hlt
    have hl := hps.len
    repeat' (first|(with_reducible first|refine zA ?_|refine zB ?_|refine zC ?_|refine zD ?_|refine zE ?_|refine zF ?_|refine zG ?_|refine zH ?_|refine zI ?_|refine zJ ?_|refine zK ?_|refine zL ?_)|(with_reducible refine reg_i ?_;intro K hK)|(with_reducible refine drw_i ?_;intro K hK)|((with_reducible refine cond_t ?hc ?_);(case hc=>rfl))|((with_reducible refine cond_f ?hc ?_);(case hc=>rfl))|((with_reducible refine cond_m ?_);refine And.intro ?_ ?_;all_goals(intro hb;(try simp only [sn,sb] at hb);try exact ex0))|(refine hK _ ?_;clear hK K)|(refine hK _ _ rfl ?_;clear hK K)|(have hg:=hK;clear hg;first|(refine And.intro ?zz ?_;case zz=>first|exact rfl|exact zO rfl|omega|exact gJ)|(refine fresh_n ?_)|(refine freshO_n ?_)|(refine at_Q ?_;intro hu)|(refine zP wA ?_)|(refine mul_Q ?_;intro hm1 hm2)|(refine zP at_M ?_)|(refine zP rfl ?_)|(refine And.intro ?_ ?_;all_goals(intro hb;(try simp only [sn,sb] at hb);try exact ex0))|(intro b0 hb)))
    refine loop_i Nat (fun i => ⟨Tryz.f13.ntmps, [(1, .ro false (tIL xs)), (2, .ref 0 0 0 0), (4, .ref 1 0 0 0), (5, .con (.int .i64 0)), (9, .ref 4 0 0 0), (51, .ro false (tRLL n.tables)), (52, .con (.int .i64 n.tables.length)), (53, .con (.int .i64 k)), (10, .con (.int .i64 k)), (11, .ro false (tRL (n.tables.getD k default))), (12, .con (.int .i64 (atF (szs n) ((n.parents.getD k default).take i) xs))), (62, .ro false (tIL (n.parents.getD k default))), (63, .con (.int .i64 (n.parents.getD k default).length)), (64, .con (.int .i64 i))], [(0, bxNt n), (1, ⟨3, [zR], 0, true⟩), (4, ⟨3, [vQ 2 3 (chF n xs k).1 (chF n xs k).2], 0, true⟩), (2, ⟨1, (lm (qz (chF n xs k).1 (chF n xs k).2).natAbs).map cu, 0, true⟩), (3, ⟨1, (lm (qd (chF n xs k).1 (chF n xs k).2)).map cu, 0, true⟩)]⟩) (fun i => i ≤ (n.parents.getD k default).length) (fun i => (n.parents.getD k default).length - i) [] 0 trivial (Nat.zero_le _)
      ⟨rfl, ⟨rfl, trivial, rfl, rfl, rfl, rfl, rfl, trivial, rfl, rfl, rfl, trivial, rfl, trivial, rfl, trivial, rfl, trivial, rfl, trivial, rfl, trivial, rfl, trivial, lenI _ _, trivial, rfl, trivial, trivial⟩, ⟨rfl, rfl, rfl, rfl, rfl, trivial⟩, ⟨bx_cl n, zR_cl _, vQ_cl rfl rfl, cu_cl _ _, cu_cl _ _, trivial⟩⟩ ?_
    intro i hi0
    by_cases hi : i < (n.parents.getD k default).length
    · obtain ⟨h1, h2, h3, h4, h5, h6, h7, h8, h9, hs⟩ := at_step fit hxs hps hR hi
      have hm : atF (szs n) ((n.parents.getD k default).take i) xs * ((n.values.getD ((n.parents.getD k default).getD i default).toNat default).length : Int) = IntKind.i64.wrap (atF (szs n) ((n.parents.getD k default).take i) xs * (((n.values.getD ((n.parents.getD k default).getD i default).toNat default).map tS).length : Nat)) := by
        rw [lenN]; exact wrap64 h6 (by omega)
      repeat' (first|(refine Exists.intro _ (And.intro hm ?_))|(with_reducible first|refine zA ?_|refine zB ?_|refine zC ?_|refine zD ?_|refine zE ?_|refine zF ?_|refine zG ?_|refine zH ?_|refine zI ?_|refine zJ ?_|refine zK ?_|refine zL ?_)|(with_reducible refine reg_i ?_;intro K hK)|(with_reducible refine drw_i ?_;intro K hK)|((with_reducible refine cond_t ?hc ?_);(case hc=>rfl))|((with_reducible refine cond_f ?hc ?_);(case hc=>rfl))|((with_reducible refine cond_m ?_);refine And.intro ?_ ?_;all_goals(intro hb;(try simp only [sn,sb] at hb);try exact ex0))|(refine hK _ ?_;clear hK K)|(refine hK _ _ rfl ?_;clear hK K)|(have hg:=hK;clear hg;first|(refine And.intro ?zz ?_;case zz=>first|exact rfl|exact zO rfl|omega|exact gJ)|(refine fresh_n ?_)|(refine freshO_n ?_)|(refine at_Q ?_;intro hu)|(refine zP wA ?_)|(refine mul_Q ?_;intro hm1 hm2)|(refine zP at_M ?_)|(refine zP rfl ?_)|(refine And.intro ?_ ?_;all_goals(intro hb;(try simp only [sn,sb] at hb);try exact ex0))|(intro b0 hb)))
      exact ⟨i + 1, by omega, by omega, rfl, ⟨rfl, trivial, rfl, rfl, rfl, rfl, rfl, trivial, rfl, rfl, rfl, trivial, rfl, trivial, rfl, trivial, rfl, trivial, rfl, trivial, congrArg (fun x => V.con (.int .i64 x)) hs.symm, trivial, rfl, trivial, rfl, trivial, rfl, trivial, trivial⟩, ⟨rfl, rfl, rfl, rfl, rfl, trivial⟩, ⟨bx_cl n, zR_cl _, vQ_cl rfl rfl, cu_cl _ _, cu_cl _ _, trivial⟩⟩
    · have hmem := cell_mem ok hc hxs k (by omega)
      have hQ := chF_ok (cell_mem ok hc hxs) k (by omega)
      have hb1 := allR_take (l := n.tables) (k := k)
      have hmt := getD_mem (l := n.tables) (i := k) (by omega)
      have hb2 := bulkR_mem hmem
      have hb3 := (ok.table _ hmt).2
      have hfz := fitR_sz (cellF n xs k)
      have hB' : (n.tables.map bulkR).sum ≤ 134217728 := hB
      have hmu := MulQ_okO (chF n xs k) (fitR (cellF n xs k)) hQ (by omega) (by omega)
      rw [fit_stepM] at hmu
      have hfi := fitting_ok (cellF n xs k) (ok.rat _ hmt _ hmem)
      have hii : i = (n.parents.getD k default).length := by omega
      rw [hii, List.take_length]
      have hm : atF (szs n) (n.parents.getD k default) xs * ((n.values.getD k default).length : Int) = IntKind.i64.wrap (atF (szs n) (n.parents.getD k default) xs * (((n.values.getD k default).map tS).length : Nat)) := by
        rw [lenN]; exact wrap64 a3 (by omega)
      have hi : idxF n xs k = IntKind.i64.wrap (atF (szs n) (n.parents.getD k default) xs * ((n.values.getD k default).length : Int) + xs.getD k default) := wrap64 a5 (by omega)
      repeat' (first|(first | refine Exists.intro _ (And.intro hm ?_) | refine Exists.intro _ (And.intro hi ?_))|(with_reducible first|refine zA ?_|refine zB ?_|refine zC ?_|refine zD ?_|refine zE ?_|refine zF ?_|refine zG ?_|refine zH ?_|refine zI ?_|refine zJ ?_|refine zK ?_|refine zL ?_)|(with_reducible refine reg_i ?_;intro K hK)|(with_reducible refine drw_i ?_;intro K hK)|((with_reducible refine cond_t ?hc ?_);(case hc=>rfl))|((with_reducible refine cond_f ?hc ?_);(case hc=>rfl))|((with_reducible refine cond_m ?_);refine And.intro ?_ ?_;all_goals(intro hb;(try simp only [sn,sb] at hb);try exact ex0))|(refine hK _ ?_;clear hK K)|(refine hK _ _ rfl ?_;clear hK K)|(have hg:=hK;clear hg;first|(refine And.intro ?zz ?_;case zz=>first|exact rfl|exact zO rfl|omega|exact gJ)|(refine fresh_n ?_)|(refine freshO_n ?_)|(refine at_Q ?_;intro hu)|(refine zP wA ?_)|(refine mul_Q ?_;intro hm1 hm2)|(refine zP at_M ?_)|(refine zP rfl ?_)|(refine zQ (hfi) ?_)|(refine' Or.inr (Or.inr (Or.inr (lendo_2 (hmu) ([(2, ⟨1, (lm (qz (chF n xs k).1 (chF n xs k).2).natAbs).map cu, 0, true⟩), (3, ⟨1, (lm (qd (chF n xs k).1 (chF n xs k).2)).map cu, 0, true⟩)]) 5 ?lp ?lz rfl ?o2a ?o2b ?_)));(case lp=>(repeat' (first|exact allp_nil|exact alln_nil|refine allp_cons ?_ ?_|refine alln_cons ?_ ?_|rfl)));(case lz=>exact fzl2 (fz_vQ rfl rfl rfl rfl) (fzA3 (.con _) (.ro false _ (fun h => h)) (.ro false _ (fun h => h))));(case o2a=>exact rfl);(case o2b=>exact rfl))|(refine And.intro ?_ ?_;all_goals(intro hb;(try simp only [sn,sb] at hb);try exact ex0))|(intro b0 hb)))
      refine ⟨k + 1, by omega, by omega, lr_of (lkM [(0, 0, 0), (1, 1, 0), (4, 4, 0), (2, 5, 0), (3, 6, 0)]) ?_ ?_ ?_⟩
      · show ∀ i ∈ [0, 1, 4, 2, 3], ∀ j ∈ [0, 1, 4, 2, 3], lkM [(0, 0, 0), (1, 1, 0), (4, 4, 0), (2, 5, 0), (3, 6, 0)] i = lkM [(0, 0, 0), (1, 1, 0), (4, 4, 0), (2, 5, 0), (3, 6, 0)] j → i = j
        decide
      · rw [chF_succ]
        refine ⟨⟨_, rfl, rfl, rfl, rfl, rfl, rfl, renE_flat (bx_flat n)⟩, ⟨_, rfl, rfl, rfl, rfl, rfl, rfl, renE_flat zR_flat⟩, ⟨_, rfl, rfl, rfl, rfl, rfl, rfl, renE_one (renA_3 (.con _) (renA_own rfl rfl rfl rfl) (renA_own rfl rfl rfl rfl))⟩, ⟨_, rfl, rfl, rfl, rfl, rfl, rfl, renE_flat (cu_flat _)⟩, ⟨_, rfl, rfl, rfl, rfl, rfl, rfl, renE_flat (cu_flat _)⟩, trivial⟩
      · exact ⟨.ro _ _, renA_ref rfl rfl rfl rfl, renA_ref rfl rfl rfl rfl, .con _, renA_ref rfl rfl rfl rfl, .ro _ _, .con _, .con _, trivial⟩
  · obtain rfl : k = n.names.length := by omega
    repeat' (first|(with_reducible first|refine zA ?_|refine zB ?_|refine zC ?_|refine zD ?_|refine zE ?_|refine zF ?_|refine zG ?_|refine zH ?_|refine zI ?_|refine zJ ?_|refine zK ?_|refine zL ?_)|(with_reducible refine reg_i ?_;intro K hK)|(with_reducible refine drw_i ?_;intro K hK)|((with_reducible refine cond_t ?hc ?_);(case hc=>rfl))|((with_reducible refine cond_f ?hc ?_);(case hc=>rfl))|((with_reducible refine cond_m ?_);refine And.intro ?_ ?_;all_goals(intro hb;(try simp only [sn,sb] at hb);try exact ex0))|(refine hK _ ?_;clear hK K)|(refine hK _ _ rfl ?_;clear hK K)|(have hg:=hK;clear hg;first|(refine And.intro ?zz ?_;case zz=>first|exact rfl|exact zO rfl|omega|exact gJ)|(refine fresh_n ?_)|(refine freshO_n ?_)|(refine at_Q ?_;intro hu)|(refine zP wA ?_)|(refine mul_Q ?_;intro hm1 hm2)|(refine zP at_M ?_)|(refine zP rfl ?_)|(refine And.intro ?_ ?_;all_goals(intro hb;(try simp only [sn,sb] at hb);try exact ex0))|(intro b0 hb)))
    exact ret2O (l := [V.con (.bool (decide (qz (chF n xs n.names.length).1 (chF n xs n.names.length).2 < 0))), .own 2 0 0 _, .own 3 0 0 _]) (fun k => if k = 0 then 2 else 3) rfl tk41 rfl (Nat.zero_lt_succ _) rfl rfl rfl (ren_two (v := 0) (w := 0) (by decide) rfl rfl) (ren_q rfl rfl rfl rfl)
theorem Chance_bad (n : Nt) (xs : List Int) (ok : CkOK n) (hx : xs.length ≤ 1048576) (hne : chanceE n xs ≠ 0) : Ok Tryz.prog 13 [tNt n, tIL xs] true (.tup [tR false [] [], .con (.int .i64 (chanceE n xs))]) := by
  have hck := Check_ok n ok
  have hzr : ∀ oh, FzA oh true zR (tR false [] []) := fun oh => fzA3 (.con _) .emp .emp
  unfold chanceE at hne ⊢
  by_cases h1 : checkE n ≠ 0
  · rw [if_pos h1]
    refine ok_of_ev (fun _ _ _ h => h) mix Tryz.func13 rfl rfl (by kernel_rfl) (Nat.le_of_ble_eq_true rfl) ?_
    repeat' (first|(with_reducible first|refine zA ?_|refine zB ?_|refine zC ?_|refine zD ?_|refine zE ?_|refine zF ?_|refine zG ?_|refine zH ?_|refine zI ?_|refine zJ ?_|refine zK ?_|refine zL ?_)|(with_reducible refine reg_i ?_;intro K hK)|(with_reducible refine drw_i ?_;intro K hK)|((with_reducible refine cond_t ?hc ?_);(case hc=>rfl))|((with_reducible refine cond_f ?hc ?_);(case hc=>rfl))|((with_reducible refine cond_m ?_);refine And.intro ?_ ?_;all_goals(intro hb;(try simp only [sn,sb] at hb);try exact ex0))|(refine hK _ ?_;clear hK K)|(refine hK _ _ rfl ?_;clear hK K)|(have hg:=hK;clear hg;first|(refine And.intro ?zz ?_;case zz=>first|exact rfl|exact zO rfl|omega|exact gJ)|(refine fresh_c 0 rfl ?_)|(refine fresh_c 1 rfl ?_)|(refine freshO_n ?_)|(refine at_Q ?_;intro hu)|(refine zP wA ?_)|(refine mul_Q ?_;intro hm1 hm2)|(refine zP at_M ?_)|(refine zP rfl ?_)|(refine zQ (hck) ?_)|(refine And.intro ?_ ?_;all_goals(intro hb;(try simp only [sn,sb] at hb);try exact ex0))|(intro b0 hb)))
    exact ret2 (l := [V.con (.bool false), .emp, .emp]) rfl tk41 rfl (Nat.zero_lt_succ _) rfl rfl rfl (hzr _)
  rw [if_neg h1] at hne ⊢
  have h1 : checkE n = 0 := Classical.byContradiction h1
  rw [h1] at hck
  obtain ⟨fit, sh⟩ := check0 h1
  have hv := fit.v
  have hk := fit.k
  by_cases h2 : xs.length ≠ n.names.length
  · rw [if_pos h2]
    refine ok_of_ev (fun _ _ _ h => h) mix Tryz.func13 rfl rfl (by kernel_rfl) (Nat.le_of_ble_eq_true rfl) ?_
    repeat' (first|(with_reducible first|refine zA ?_|refine zB ?_|refine zC ?_|refine zD ?_|refine zE ?_|refine zF ?_|refine zG ?_|refine zH ?_|refine zI ?_|refine zJ ?_|refine zK ?_|refine zL ?_)|(with_reducible refine reg_i ?_;intro K hK)|(with_reducible refine drw_i ?_;intro K hK)|((with_reducible refine cond_t ?hc ?_);(case hc=>rfl))|((with_reducible refine cond_f ?hc ?_);(case hc=>rfl))|((with_reducible refine cond_m ?_);refine And.intro ?_ ?_;all_goals(intro hb;(try simp only [sn,sb] at hb);try exact ex0))|(refine hK _ ?_;clear hK K)|(refine hK _ _ rfl ?_;clear hK K)|(have hg:=hK;clear hg;first|(refine And.intro ?zz ?_;case zz=>first|exact rfl|exact zO rfl|omega|exact gJ)|(refine fresh_c 0 rfl ?_)|(refine fresh_c 1 rfl ?_)|(refine freshO_n ?_)|(refine at_Q ?_;intro hu)|(refine zP wA ?_)|(refine mul_Q ?_;intro hm1 hm2)|(refine zP at_M ?_)|(refine zP rfl ?_)|(refine zQ (hck) ?_)|(refine And.intro ?_ ?_;all_goals(intro hb;(try simp only [sn,sb] at hb);try exact ex0))|(intro b0 hb)))
    exact ret2 (l := [V.con (.bool false), .emp, .emp]) rfl tk41 rfl (Nat.zero_lt_succ _) rfl rfl rfl (hzr _)
  rw [if_neg h2] at hne ⊢
  refine ok_of_ev (fun _ _ _ h => h) mix Tryz.func13 rfl rfl (by kernel_rfl) (Nat.le_of_ble_eq_true rfl) ?_
  repeat' (first|(with_reducible first|refine zA ?_|refine zB ?_|refine zC ?_|refine zD ?_|refine zE ?_|refine zF ?_|refine zG ?_|refine zH ?_|refine zI ?_|refine zJ ?_|refine zK ?_|refine zL ?_)|(with_reducible refine reg_i ?_;intro K hK)|(with_reducible refine drw_i ?_;intro K hK)|((with_reducible refine cond_t ?hc ?_);(case hc=>rfl))|((with_reducible refine cond_f ?hc ?_);(case hc=>rfl))|((with_reducible refine cond_m ?_);refine And.intro ?_ ?_;all_goals(intro hb;(try simp only [sn,sb] at hb);try exact ex0))|(refine hK _ ?_;clear hK K)|(refine hK _ _ rfl ?_;clear hK K)|(have hg:=hK;clear hg;first|(refine And.intro ?zz ?_;case zz=>first|exact rfl|exact zO rfl|omega|exact gJ)|(refine fresh_c 0 rfl ?_)|(refine fresh_c 1 rfl ?_)|(refine freshO_n ?_)|(refine at_Q ?_;intro hu)|(refine zP wA ?_)|(refine mul_Q ?_;intro hm1 hm2)|(refine zP at_M ?_)|(refine zP rfl ?_)|(refine zQ (hck) ?_)|(refine And.intro ?_ ?_;all_goals(intro hb;(try simp only [sn,sb] at hb);try exact ex0))|(intro b0 hb)))
  refine loop_i Nat (fun k => ⟨Tryz.f13.ntmps, [(1, .ro false (tIL xs)), (2, .ref 0 0 0 0), (4, .ref 1 0 0 0), (5, .con (.int .i64 0)), (28, .ro false (tIL xs)), (29, .con (.int .i64 xs.length)), (30, .con (.int .i64 k))], [(0, bxNt n), (1, ⟨3, [zR], 0, true⟩)]⟩) (fun k => k ≤ xs.length ∧ ∀ j ∈ List.range k, rngE n xs j = 0) (fun k => xs.length - k) [] 0 trivial ⟨Nat.zero_le _, by simp⟩ ⟨rfl, ⟨rfl, trivial, rfl, rfl, rfl, rfl, rfl, trivial, rfl, trivial, lenI _ _, trivial, rfl, trivial, trivial⟩, ⟨rfl, rfl, trivial⟩, ⟨bx_cl n, zR_cl _, trivial⟩⟩ ?_
  rintro k ⟨hk0, hz⟩
  by_cases hlt : k < xs.length
  · by_cases hb2 : xs.getD k default < 0 ∨ ((n.values.getD k default).length : Int) ≤ xs.getD k default
    · have hr : rngE n xs k = 3 := if_pos hb2
      rw [firstE_at hlt hz (by omega), hr]
      by_cases hb3 : xs.getD k default < 0
      · repeat' (first|(with_reducible first|refine zA ?_|refine zB ?_|refine zC ?_|refine zD ?_|refine zE ?_|refine zF ?_|refine zG ?_|refine zH ?_|refine zI ?_|refine zJ ?_|refine zK ?_|refine zL ?_)|(with_reducible refine reg_i ?_;intro K hK)|(with_reducible refine drw_i ?_;intro K hK)|((with_reducible refine cond_t ?hc ?_);(case hc=>rfl))|((with_reducible refine cond_f ?hc ?_);(case hc=>rfl))|((with_reducible refine cond_m ?_);refine And.intro ?_ ?_;all_goals(intro hb;(try simp only [sn,sb] at hb);try exact ex0))|(refine hK _ ?_;clear hK K)|(refine hK _ _ rfl ?_;clear hK K)|(have hg:=hK;clear hg;first|(refine And.intro ?zz ?_;case zz=>first|exact rfl|exact zO rfl|omega|exact gJ)|(refine fresh_n ?_)|(refine freshO_n ?_)|(refine at_Q ?_;intro hu)|(refine zP wA ?_)|(refine mul_Q ?_;intro hm1 hm2)|(refine zP at_M ?_)|(refine zP rfl ?_)|(refine And.intro ?_ ?_;all_goals(intro hb;(try simp only [sn,sb] at hb);try exact ex0))|(intro b0 hb)))
        exact ret2 (l := [V.con (.bool false), .emp, .emp]) rfl tk41 rfl (Nat.zero_lt_succ _) rfl rfl rfl (hzr _)
      · repeat' (first|(with_reducible first|refine zA ?_|refine zB ?_|refine zC ?_|refine zD ?_|refine zE ?_|refine zF ?_|refine zG ?_|refine zH ?_|refine zI ?_|refine zJ ?_|refine zK ?_|refine zL ?_)|(with_reducible refine reg_i ?_;intro K hK)|(with_reducible refine drw_i ?_;intro K hK)|((with_reducible refine cond_t ?hc ?_);(case hc=>rfl))|((with_reducible refine cond_f ?hc ?_);(case hc=>rfl))|((with_reducible refine cond_m ?_);refine And.intro ?_ ?_;all_goals(intro hb;(try simp only [sn,sb] at hb);try exact ex0))|(refine hK _ ?_;clear hK K)|(refine hK _ _ rfl ?_;clear hK K)|(have hg:=hK;clear hg;first|(refine And.intro ?zz ?_;case zz=>first|exact rfl|exact zO rfl|omega|exact gJ)|(refine fresh_n ?_)|(refine freshO_n ?_)|(refine at_Q ?_;intro hu)|(refine zP wA ?_)|(refine mul_Q ?_;intro hm1 hm2)|(refine zP at_M ?_)|(refine zP rfl ?_)|(refine And.intro ?_ ?_;all_goals(intro hb;(try simp only [sn,sb] at hb);try exact ex0))|(intro b0 hb)))
        exact ret2 (l := [V.con (.bool false), .emp, .emp]) rfl tk41 rfl (Nat.zero_lt_succ _) rfl rfl rfl (hzr _)
    · have hr : rngE n xs k = 0 := if_neg hb2
      repeat' (first|(with_reducible first|refine zA ?_|refine zB ?_|refine zC ?_|refine zD ?_|refine zE ?_|refine zF ?_|refine zG ?_|refine zH ?_|refine zI ?_|refine zJ ?_|refine zK ?_|refine zL ?_)|(with_reducible refine reg_i ?_;intro K hK)|(with_reducible refine drw_i ?_;intro K hK)|((with_reducible refine cond_t ?hc ?_);(case hc=>rfl))|((with_reducible refine cond_f ?hc ?_);(case hc=>rfl))|((with_reducible refine cond_m ?_);refine And.intro ?_ ?_;all_goals(intro hb;(try simp only [sn,sb] at hb);try exact ex0))|(refine hK _ ?_;clear hK K)|(refine hK _ _ rfl ?_;clear hK K)|(have hg:=hK;clear hg;first|(refine And.intro ?zz ?_;case zz=>first|exact rfl|exact zO rfl|omega|exact gJ)|(refine fresh_n ?_)|(refine freshO_n ?_)|(refine at_Q ?_;intro hu)|(refine zP wA ?_)|(refine mul_Q ?_;intro hm1 hm2)|(refine zP at_M ?_)|(refine zP rfl ?_)|(refine And.intro ?_ ?_;all_goals(intro hb;(try simp only [sn,sb] at hb);try exact ex0))|(intro b0 hb)))
      exact ⟨k + 1, ⟨by omega, range_step hz hr⟩, by omega, rfl, ⟨rfl, trivial, rfl, rfl, rfl, rfl, rfl, trivial, rfl, trivial, rfl, trivial, rfl, trivial, trivial⟩, ⟨rfl, rfl, trivial⟩, ⟨bx_cl n, zR_cl _, trivial⟩⟩
  · exfalso
    obtain rfl : k = xs.length := by omega
    exact hne (firstE_no hz)
theorem rChance_ok (n : Nt) (xs : List Int) (ok : CkOK n) (hB : allR n ≤ 134217728) (hx : xs.length ≤ 1048576) : Ok Tryz.prog 12 [tNt n, tIL xs] true (.tup [if chanceE n xs = 0 then tQ (chF n xs n.names.length).1 (chF n xs n.names.length).2 else tR false [] [], .con (.int .i64 (chanceE n xs))]) := by
  have hck := rCheck_ok n ok
  have hzr : ∀ oh, FzA oh true zR (tR false [] []) := fun oh => fzA3 (.con _) .emp .emp
  obtain ⟨E, hE⟩ : ∃ E, chanceE n xs = E := ⟨_, rfl⟩
  rw [hE]
  have hE2 := hE
  unfold chanceE at hE
  by_cases h1 : checkE n ≠ 0
  · rw [if_pos h1] at hE
    subst hE
    rw [if_neg h1]
    refine ok_of_ev (fun _ _ _ h => h) mix Tryz.func12 rfl rfl (by kernel_rfl) (Nat.le_of_ble_eq_true rfl) ?_
    repeat' (first|(with_reducible first|refine zA ?_|refine zB ?_|refine zC ?_|refine zD ?_|refine zE ?_|refine zF ?_|refine zG ?_|refine zH ?_|refine zI ?_|refine zJ ?_|refine zK ?_|refine zL ?_)|(with_reducible refine reg_i ?_;intro K hK)|(with_reducible refine drw_i ?_;intro K hK)|((with_reducible refine cond_t ?hc ?_);(case hc=>rfl))|((with_reducible refine cond_f ?hc ?_);(case hc=>rfl))|((with_reducible refine cond_m ?_);refine And.intro ?_ ?_;all_goals(intro hb;(try simp only [sn,sb] at hb);try exact ex0))|(refine hK _ ?_;clear hK K)|(refine hK _ _ rfl ?_;clear hK K)|(have hg:=hK;clear hg;first|(refine And.intro ?zz ?_;case zz=>first|exact rfl|exact zO rfl|omega|exact gJ)|(refine fresh_c 0 rfl ?_)|(refine fresh_c 1 rfl ?_)|(refine freshO_n ?_)|(refine at_Q ?_;intro hu)|(refine zP wA ?_)|(refine mul_Q ?_;intro hm1 hm2)|(refine zP at_M ?_)|(refine zP rfl ?_)|(refine zQ (hck) ?_)|(refine And.intro ?_ ?_;all_goals(intro hb;(try simp only [sn,sb] at hb);try exact ex0))|(intro b0 hb)))
    exact ret2 (l := [V.con (.bool false), .emp, .emp]) rfl tk41 rfl (Nat.zero_lt_succ _) rfl rfl rfl (hzr _)
  rw [if_neg h1] at hE
  have h1 : checkE n = 0 := Classical.byContradiction h1
  rw [h1] at hck
  obtain ⟨fit, sh⟩ := check0 h1
  have hv := fit.v
  have hk := fit.k
  by_cases h2 : xs.length ≠ n.names.length
  · rw [if_pos h2] at hE
    subst hE
    rw [if_neg (by decide)]
    refine ok_of_ev (fun _ _ _ h => h) mix Tryz.func12 rfl rfl (by kernel_rfl) (Nat.le_of_ble_eq_true rfl) ?_
    repeat' (first|(with_reducible first|refine zA ?_|refine zB ?_|refine zC ?_|refine zD ?_|refine zE ?_|refine zF ?_|refine zG ?_|refine zH ?_|refine zI ?_|refine zJ ?_|refine zK ?_|refine zL ?_)|(with_reducible refine reg_i ?_;intro K hK)|(with_reducible refine drw_i ?_;intro K hK)|((with_reducible refine cond_t ?hc ?_);(case hc=>rfl))|((with_reducible refine cond_f ?hc ?_);(case hc=>rfl))|((with_reducible refine cond_m ?_);refine And.intro ?_ ?_;all_goals(intro hb;(try simp only [sn,sb] at hb);try exact ex0))|(refine hK _ ?_;clear hK K)|(refine hK _ _ rfl ?_;clear hK K)|(have hg:=hK;clear hg;first|(refine And.intro ?zz ?_;case zz=>first|exact rfl|exact zO rfl|omega|exact gJ)|(refine fresh_c 0 rfl ?_)|(refine fresh_c 1 rfl ?_)|(refine freshO_n ?_)|(refine at_Q ?_;intro hu)|(refine zP wA ?_)|(refine mul_Q ?_;intro hm1 hm2)|(refine zP at_M ?_)|(refine zP rfl ?_)|(refine zQ (hck) ?_)|(refine And.intro ?_ ?_;all_goals(intro hb;(try simp only [sn,sb] at hb);try exact ex0))|(intro b0 hb)))
    exact ret2 (l := [V.con (.bool false), .emp, .emp]) rfl tk41 rfl (Nat.zero_lt_succ _) rfl rfl rfl (hzr _)
  rw [if_neg h2] at hE
  refine ok_of_ev (fun _ _ _ h => h) mix Tryz.func12 rfl rfl (by kernel_rfl) (Nat.le_of_ble_eq_true rfl) ?_
  repeat' (first|(with_reducible first|refine zA ?_|refine zB ?_|refine zC ?_|refine zD ?_|refine zE ?_|refine zF ?_|refine zG ?_|refine zH ?_|refine zI ?_|refine zJ ?_|refine zK ?_|refine zL ?_)|(with_reducible refine reg_i ?_;intro K hK)|(with_reducible refine drw_i ?_;intro K hK)|((with_reducible refine cond_t ?hc ?_);(case hc=>rfl))|((with_reducible refine cond_f ?hc ?_);(case hc=>rfl))|((with_reducible refine cond_m ?_);refine And.intro ?_ ?_;all_goals(intro hb;(try simp only [sn,sb] at hb);try exact ex0))|(refine hK _ ?_;clear hK K)|(refine hK _ _ rfl ?_;clear hK K)|(have hg:=hK;clear hg;first|(refine And.intro ?zz ?_;case zz=>first|exact rfl|exact zO rfl|omega|exact gJ)|(refine fresh_c 0 rfl ?_)|(refine fresh_c 1 rfl ?_)|(refine freshO_n ?_)|(refine at_Q ?_;intro hu)|(refine zP wA ?_)|(refine mul_Q ?_;intro hm1 hm2)|(refine zP at_M ?_)|(refine zP rfl ?_)|(refine zQ (hck) ?_)|(refine And.intro ?_ ?_;all_goals(intro hb;(try simp only [sn,sb] at hb);try exact ex0))|(intro b0 hb)))
  refine loop_i Nat (fun k => ⟨Tryz.f12.ntmps, [(1, .ro false (tIL xs)), (2, .ref 0 0 0 0), (4, .ref 1 0 0 0), (5, .con (.int .i64 0)), (7, .con (.int .i64 k))], [(0, bxNt n), (1, ⟨3, [zR], 0, true⟩)]⟩) (fun k => k ≤ xs.length ∧ ∀ j ∈ List.range k, rngE n xs j = 0) (fun k => xs.length - k) [] 0 trivial ⟨Nat.zero_le _, by simp⟩ ⟨rfl, ⟨rfl, trivial, rfl, rfl, rfl, rfl, rfl, trivial, rfl, trivial, trivial⟩, ⟨rfl, rfl, trivial⟩, ⟨bx_cl n, zR_cl _, trivial⟩⟩ ?_
  rintro k ⟨hk0, hz⟩
  by_cases hlt : k < xs.length
  · by_cases hb2 : xs.getD k default < 0 ∨ ((n.values.getD k default).length : Int) ≤ xs.getD k default
    · have hr : rngE n xs k = 3 := if_pos hb2
      rw [firstE_at hlt hz (by omega), hr] at hE
      subst hE
      rw [if_neg (by decide)]
      by_cases hb3 : xs.getD k default < 0
      · repeat' (first|(with_reducible first|refine zA ?_|refine zB ?_|refine zC ?_|refine zD ?_|refine zE ?_|refine zF ?_|refine zG ?_|refine zH ?_|refine zI ?_|refine zJ ?_|refine zK ?_|refine zL ?_)|(with_reducible refine reg_i ?_;intro K hK)|(with_reducible refine drw_i ?_;intro K hK)|((with_reducible refine cond_t ?hc ?_);(case hc=>rfl))|((with_reducible refine cond_f ?hc ?_);(case hc=>rfl))|((with_reducible refine cond_m ?_);refine And.intro ?_ ?_;all_goals(intro hb;(try simp only [sn,sb] at hb);try exact ex0))|(refine hK _ ?_;clear hK K)|(refine hK _ _ rfl ?_;clear hK K)|(have hg:=hK;clear hg;first|(refine And.intro ?zz ?_;case zz=>first|exact rfl|exact zO rfl|omega|exact gJ)|(refine fresh_n ?_)|(refine freshO_n ?_)|(refine at_Q ?_;intro hu)|(refine zP wA ?_)|(refine mul_Q ?_;intro hm1 hm2)|(refine zP at_M ?_)|(refine zP rfl ?_)|(refine And.intro ?_ ?_;all_goals(intro hb;(try simp only [sn,sb] at hb);try exact ex0))|(intro b0 hb)))
        exact ret2 (l := [V.con (.bool false), .emp, .emp]) rfl tk41 rfl (Nat.zero_lt_succ _) rfl rfl rfl (hzr _)
      · repeat' (first|(with_reducible first|refine zA ?_|refine zB ?_|refine zC ?_|refine zD ?_|refine zE ?_|refine zF ?_|refine zG ?_|refine zH ?_|refine zI ?_|refine zJ ?_|refine zK ?_|refine zL ?_)|(with_reducible refine reg_i ?_;intro K hK)|(with_reducible refine drw_i ?_;intro K hK)|((with_reducible refine cond_t ?hc ?_);(case hc=>rfl))|((with_reducible refine cond_f ?hc ?_);(case hc=>rfl))|((with_reducible refine cond_m ?_);refine And.intro ?_ ?_;all_goals(intro hb;(try simp only [sn,sb] at hb);try exact ex0))|(refine hK _ ?_;clear hK K)|(refine hK _ _ rfl ?_;clear hK K)|(have hg:=hK;clear hg;first|(refine And.intro ?zz ?_;case zz=>first|exact rfl|exact zO rfl|omega|exact gJ)|(refine fresh_n ?_)|(refine freshO_n ?_)|(refine at_Q ?_;intro hu)|(refine zP wA ?_)|(refine mul_Q ?_;intro hm1 hm2)|(refine zP at_M ?_)|(refine zP rfl ?_)|(refine And.intro ?_ ?_;all_goals(intro hb;(try simp only [sn,sb] at hb);try exact ex0))|(intro b0 hb)))
        exact ret2 (l := [V.con (.bool false), .emp, .emp]) rfl tk41 rfl (Nat.zero_lt_succ _) rfl rfl rfl (hzr _)
    · have hr : rngE n xs k = 0 := if_neg hb2
      repeat' (first|(with_reducible first|refine zA ?_|refine zB ?_|refine zC ?_|refine zD ?_|refine zE ?_|refine zF ?_|refine zG ?_|refine zH ?_|refine zI ?_|refine zJ ?_|refine zK ?_|refine zL ?_)|(with_reducible refine reg_i ?_;intro K hK)|(with_reducible refine drw_i ?_;intro K hK)|((with_reducible refine cond_t ?hc ?_);(case hc=>rfl))|((with_reducible refine cond_f ?hc ?_);(case hc=>rfl))|((with_reducible refine cond_m ?_);refine And.intro ?_ ?_;all_goals(intro hb;(try simp only [sn,sb] at hb);try exact ex0))|(refine hK _ ?_;clear hK K)|(refine hK _ _ rfl ?_;clear hK K)|(have hg:=hK;clear hg;first|(refine And.intro ?zz ?_;case zz=>first|exact rfl|exact zO rfl|omega|exact gJ)|(refine fresh_n ?_)|(refine freshO_n ?_)|(refine at_Q ?_;intro hu)|(refine zP wA ?_)|(refine mul_Q ?_;intro hm1 hm2)|(refine zP at_M ?_)|(refine zP rfl ?_)|(refine And.intro ?_ ?_;all_goals(intro hb;(try simp only [sn,sb] at hb);try exact ex0))|(intro b0 hb)))
      exact ⟨k + 1, ⟨by omega, range_step hz hr⟩, by omega, rfl, ⟨rfl, trivial, rfl, rfl, rfl, rfl, rfl, trivial, rfl, trivial, trivial⟩, ⟨rfl, rfl, trivial⟩, ⟨bx_cl n, zR_cl _, trivial⟩⟩
  · have hke : k = xs.length := by omega
    rw [hke] at hz
    rw [firstE_no hz] at hE
    subst hE
    rw [if_pos rfl]
    have hpr := rProduct_ok n xs ok hB h1 (xs_ok (by omega) (firstE_no hz))
    repeat' (first|(with_reducible first|refine zA ?_|refine zB ?_|refine zC ?_|refine zD ?_|refine zE ?_|refine zF ?_|refine zG ?_|refine zH ?_|refine zI ?_|refine zJ ?_|refine zK ?_|refine zL ?_)|(with_reducible refine reg_i ?_;intro K hK)|(with_reducible refine drw_i ?_;intro K hK)|((with_reducible refine cond_t ?hc ?_);(case hc=>rfl))|((with_reducible refine cond_f ?hc ?_);(case hc=>rfl))|((with_reducible refine cond_m ?_);refine And.intro ?_ ?_;all_goals(intro hb;(try simp only [sn,sb] at hb);try exact ex0))|(refine hK _ ?_;clear hK K)|(refine hK _ _ rfl ?_;clear hK K)|(have hg:=hK;clear hg;first|(refine And.intro ?zz ?_;case zz=>first|exact rfl|exact zO rfl|omega|exact gJ)|(refine fresh_n ?_)|(refine freshO_n ?_)|(refine at_Q ?_;intro hu)|(refine zP wA ?_)|(refine mul_Q ?_;intro hm1 hm2)|(refine zP at_M ?_)|(refine zP rfl ?_)|(refine zQ (hpr) ?_)|(refine And.intro ?_ ?_;all_goals(intro hb;(try simp only [sn,sb] at hb);try exact ex0))|(intro b0 hb)))
    exact ret2 (l := [V.con (.bool (decide (qz (chF n xs n.names.length).1 (chF n xs n.names.length).2 < 0))), .ro true (tn (lm (qz (chF n xs n.names.length).1 (chF n xs n.names.length).2).natAbs)), .ro true (tn (lm (qd (chF n xs n.names.length).1 (chF n xs n.names.length).2)))]) rfl tk41 rfl (Nat.zero_lt_succ _) rfl rfl rfl rat_eta
end Go.Ev
