import Derived.Test.YtekgeekghclfaaaGreatRef
set_option linter.all false
namespace Go.Ev
open Go.Proofs
set_option maxRecDepth 10000
set_option maxHeartbeats 4000000
set_option linter.unusedSimpArgs false
set_option linter.unusedVariables false
theorem clObjs_cu' (oh : OH) (p : List UInt32) (v : Nat) : clObjs oh [(0, ⟨1, p.map cu, v, true⟩)] := by
  refine ⟨fun v hv => ?_, trivial⟩
  obtain ⟨u, _, rfl⟩ := List.mem_map.1 hv
  trivial
theorem val_take_next (l : List UInt32) (n : Nat) : val (l.take (n + 1)) = val (l.take n) + (l.getD n 0).toNat * 4294967296 ^ n := by
  by_cases h : n < l.length
  · exact val_take_succ l n h
  · rw [List.take_of_length_le (by omega), List.take_of_length_le (by omega), limb0 l (by omega)]
    show _ = _ + 0 * _
    rw [Nat.zero_mul, Nat.add_zero]
theorem add_step {a b o : List UInt32} {c ai bi : Nat} (h : val o + c * 4294967296 ^ o.length = val (a.take o.length) + val (b.take o.length)) (ha : (a.getD o.length 0).toNat = ai) (hb : (b.getD o.length 0).toNat = bi) :
    val (o ++ [UInt32.ofNat (c + ai + bi)]) + (c + ai + bi) / 4294967296 * 4294967296 ^ (o ++ [UInt32.ofNat (c + ai + bi)]).length = val (a.take (o ++ [UInt32.ofNat (c + ai + bi)]).length) + val (b.take (o ++ [UInt32.ofNat (c + ai + bi)]).length) := by
  rw [show (o ++ [UInt32.ofNat (c + ai + bi)]).length = o.length + 1 by simp, val_take_next, val_take_next, ha, hb, val_append]
  have e1 : val [UInt32.ofNat (c + ai + bi)] = (c + ai + bi) % 4294967296 := by simp [val]
  rw [e1, Nat.pow_succ, Nat.mul_comm (4294967296 ^ o.length) ((c + ai + bi) % 4294967296)]
  generalize 4294967296 ^ o.length = w at *
  have e2 : (c + ai + bi) % 4294967296 * w + (c + ai + bi) / 4294967296 * (w * 4294967296) = (c + ai + bi) * w := by
    rw [Nat.mul_comm w, ← Nat.mul_assoc, ← Nat.add_mul]
    congr 1
    have := Nat.div_add_mod (c + ai + bi) 4294967296
    omega
  rw [Nat.add_assoc, e2, Nat.add_mul, Nat.add_mul]
  omega
theorem rAdd_ok (a b : List UInt32) (ha : a.length ≤ 1099511627776) (hb : b.length ≤ 1099511627776) : Ok Tryz.prog 112 [tn a, tn b] true (tn (lm (val a + val b))) := by
  refine ok_of_ev (fun _ _ _ h => h) mix Tryz.func112 rfl rfl (by kernel_rfl) (Nat.le_of_ble_eq_true rfl) ?_
  repeat' (first|(with_reducible first|refine zA ?_|refine zB ?_|refine zC ?_|refine zD ?_|refine zE ?_|refine zF ?_|refine zG ?_|refine zH ?_|refine zI ?_|refine zJ ?_|refine zK ?_|refine zL ?_)|(with_reducible refine reg_i ?_;intro K hK)|(with_reducible refine drw_i ?_;intro K hK)|((with_reducible refine cond_t ?hc ?_);(case hc=>rfl))|((with_reducible refine cond_f ?hc ?_);(case hc=>rfl))|((with_reducible refine cond_m ?_);refine And.intro ?_ ?_;all_goals(intro hb;(try simp only [sb] at hb);try exact ex0))|(refine hK _ ?_;clear hK K)|(refine hK _ _ rfl ?_;clear hK K)|(have hg:=hK;clear hg;first|(refine And.intro ?zz ?_;case zz=>first|exact rfl|exact zO rfl|omega|exact gI)|(refine fresh_n ?_)|(refine freshO_n ?_)|(refine at_Q ?_;intro hu)|(refine zP wA ?_)|(refine mul_Q ?_;intro hm1 hm2)|(refine zP at_M ?_)|(refine zP rfl ?_)|(refine And.intro ?_ ?_;all_goals(intro hb;(try simp only [sb] at hb);try exact ex0))|(intro b0 hb)))
  refine loop_i (List UInt32 × Nat) (fun (o, c) => ⟨Tryz.f112.ntmps, [(0, .ro false (tn a)), (1, .ro false (tn b)), (5, .own 0 o.length 0 o.length), (6, .con (.int .u64 c)), (7, .con (.int .i64 (o.length : Nat)))], [(0, ⟨1, o.map cu, o.length, true⟩)]⟩)
    (fun (o, c) => c ≤ 1 ∧ (o.length ≤ max a.length b.length + 1 ∧ (max a.length b.length < o.length → c = 0)) ∧ val o + c * 4294967296 ^ o.length = val (a.take o.length) + val (b.take o.length)) (fun (o, c) => (max a.length b.length - o.length) * 2 + c) [(5, 0, 1)] ([], 0) ⟨rfl, rfl, trivial⟩ ⟨by omega, ⟨by simp, by simp⟩, by simp [val]⟩ ⟨rfl, ⟨rfl, trivial, rfl, trivial, rfl, rfl, rfl, trivial, rfl, trivial, trivial⟩, ⟨rfl, trivial⟩, clObjs_cu' _ _ _⟩ ?_
  rintro ⟨o, c⟩ ⟨g0, ⟨g1, g1'⟩, g2⟩
  have ua := UInt32.toNat_lt (a.getD ((o.length : Int)).toNat 0)
  have ub := UInt32.toNat_lt (b.getD ((o.length : Int)).toNat 0)
  repeat' (first|(with_reducible first|refine zA ?_|refine zB ?_|refine zC ?_|refine zD ?_|refine zE ?_|refine zF ?_|refine zG ?_|refine zH ?_|refine zI ?_|refine zJ ?_|refine zK ?_|refine zL ?_)|(with_reducible refine reg_i ?_;intro K hK)|(with_reducible refine drw_i ?_;intro K hK)|((with_reducible refine cond_t ?hc ?_);(case hc=>rfl))|((with_reducible refine cond_f ?hc ?_);(case hc=>rfl))|((with_reducible refine cond_m ?_);refine And.intro ?_ ?_;all_goals(intro hb;(try simp only [sb] at hb);try exact ex0))|(refine hK _ ?_;clear hK K)|(refine hK _ _ rfl ?_;clear hK K)|(have hg:=hK;clear hg;first|(refine And.intro ?zz ?_;case zz=>first|exact rfl|exact zO rfl|omega|exact gI)|(refine fresh_n ?_)|(refine freshO_n ?_)|(refine at_Q ?_;intro hu)|(refine zP wA ?_)|(refine mul_Q ?_;intro hm1 hm2)|(refine zP at_M ?_)|(refine zP rfl ?_)|(refine zQ (rlimb_ok a (o.length : Int) (by omega)) ?_)|(refine zQ (rlimb_ok b (o.length : Int) (by omega)) ?_)|(refine And.intro ?_ ?_;all_goals(intro hb;(try simp only [sb] at hb);try exact ex0))|(intro b0 hb)))
  · refine And.intro (fun y hy => by have hy : y ∈ [V.con _] := hy; rw [List.mem_singleton.1 hy]; rfl) ?_
    repeat' (first|(with_reducible first|refine zA ?_|refine zB ?_|refine zC ?_|refine zD ?_|refine zE ?_|refine zF ?_|refine zG ?_|refine zH ?_|refine zI ?_|refine zJ ?_|refine zK ?_|refine zL ?_)|(with_reducible refine reg_i ?_;intro K hK)|(with_reducible refine drw_i ?_;intro K hK)|((with_reducible refine cond_t ?hc ?_);(case hc=>rfl))|((with_reducible refine cond_f ?hc ?_);(case hc=>rfl))|((with_reducible refine cond_m ?_);refine And.intro ?_ ?_;all_goals(intro hb;(try simp only [sb] at hb);try exact ex0))|(refine hK _ ?_;clear hK K)|(refine hK _ _ rfl ?_;clear hK K)|(have hg:=hK;clear hg;first|(refine And.intro ?zz ?_;case zz=>first|exact rfl|exact zO rfl|omega|exact gI)|(refine fresh_n ?_)|(refine freshO_n ?_)|(refine at_Q ?_;intro hu)|(refine zP wA ?_)|(refine mul_Q ?_;intro hm1 hm2)|(refine zP at_M ?_)|(refine zP rfl ?_)|(refine And.intro ?_ ?_;all_goals(intro hb;(try simp only [sb] at hb);try exact ex0))|(intro b0 hb)))
    obtain ⟨ai, hai⟩ : ∃ n, (a.getD o.length 0).toNat = n := ⟨_, rfl⟩
    obtain ⟨bi, hbi⟩ : ∃ n, (b.getD o.length 0).toNat = n := ⟨_, rfl⟩
    have eo : ((o.length : Int)).toNat = o.length := rfl
    rw [eo, hai] at ua
    rw [eo, hbi] at ub
    have eT : ((c : Int) + (ai : Int) + (bi : Int)) = ((c + ai + bi : Nat) : Int) := by simp
    have el : (o ++ [UInt32.ofNat (c + ai + bi)]).length = o.length + 1 := by simp
    have hv := add_step (c := c) g2 hai hbi
    have hA : o.length < max a.length b.length ∨ (ai = 0 ∧ bi = 0 ∧ c = 1) := by
      by_cases h9 : o.length < max a.length b.length
      · exact .inl h9
      · refine .inr ⟨by rw [← hai, limb0 a (by omega)]; rfl, by rw [← hbi, limb0 b (by omega)]; rfl, by omega⟩
    refine ⟨(o ++ [UInt32.ofNat (c + ai + bi)], (c + ai + bi) / 4294967296), ⟨by omega, ⟨by rw [el]; omega, by rw [el]; omega⟩, hv⟩, ?gm, rfl, ⟨rfl, trivial, rfl, trivial, ?g5, rfl, ?g6, trivial, ?g7, trivial, trivial⟩, ⟨?gd, trivial⟩, clObjs_cu' _ _ _⟩
    case gm =>
      show (max a.length b.length - (o ++ [UInt32.ofNat (c + ai + bi)]).length) * 2 + (c + ai + bi) / 4294967296 < (max a.length b.length - o.length) * 2 + c
      rw [el]; omega
    case g5 =>
      show V.own 0 (o.length + 1) 0 (o.length + 1) = V.own 0 (o ++ [UInt32.ofNat (c + ai + bi)]).length 0 (o ++ [UInt32.ofNat (c + ai + bi)]).length
      rw [el]
    case g6 =>
      refine congrArg (fun n => V.con (.int .u64 n)) (?_ : IntKind.u64.wrap (((c : Int) + ((a.getD ((o.length : Int)).toNat 0).toNat : Int) + ((b.getD ((o.length : Int)).toNat 0).toNat : Int)).tdiv 4294967296) = _)
      rw [eo, hai, hbi, eT, tdiv_nat]
      exact (wrapU64 (by omega) (by omega)).symm
    case g7 =>
      show V.con (.int .i64 ((o.length : Int) + 1)) = V.con (.int .i64 (((o ++ [UInt32.ofNat (c + ai + bi)]).length : Nat) : Int))
      rw [el]; rfl
    case gd =>
      have e5 : UInt32.ofNat (((c + ai + bi) % 4294967296 : Nat) : Int).toNat = UInt32.ofNat (c + ai + bi) := UInt32.toNat_inj.1 (by rw [Int.toNat_natCast, UInt32.toNat_ofNat', UInt32.toNat_ofNat', Nat.mod_mod])
      show some (Obj.mk 1 (List.take o.length (o.map cu) ++ [V.con (.int .u32 (IntKind.u32.wrap (((c : Int) + ((a.getD ((o.length : Int)).toNat 0).toNat : Int) + ((b.getD ((o.length : Int)).toNat 0).toNat : Int)).tmod 4294967296)))]) (o.length + 1) true) = some (Obj.mk 1 ((o ++ [UInt32.ofNat (c + ai + bi)]).map cu) (o ++ [UInt32.ofNat (c + ai + bi)]).length true)
      rw [el, eo, hai, hbi, eT, tmod_nat, wrap32 (by omega), e5, List.take_of_length_le (by simp), List.map_append]
      rfl
  · refine And.intro (fun y hy => by have hy : y ∈ [V.con _] := hy; rw [List.mem_singleton.1 hy]; rfl) ?_
    repeat' (first|(with_reducible first|refine zA ?_|refine zB ?_|refine zC ?_|refine zD ?_|refine zE ?_|refine zF ?_|refine zG ?_|refine zH ?_|refine zI ?_|refine zJ ?_|refine zK ?_|refine zL ?_)|(with_reducible refine reg_i ?_;intro K hK)|(with_reducible refine drw_i ?_;intro K hK)|((with_reducible refine cond_t ?hc ?_);(case hc=>rfl))|((with_reducible refine cond_f ?hc ?_);(case hc=>rfl))|((with_reducible refine cond_m ?_);refine And.intro ?_ ?_;all_goals(intro hb;(try simp only [sb] at hb);try exact ex0))|(refine hK _ ?_;clear hK K)|(refine hK _ _ rfl ?_;clear hK K)|(have hg:=hK;clear hg;first|(refine And.intro ?zz ?_;case zz=>first|exact rfl|exact zO rfl|omega|exact gI)|(refine fresh_n ?_)|(refine freshO_n ?_)|(refine at_Q ?_;intro hu)|(refine zP wA ?_)|(refine mul_Q ?_;intro hm1 hm2)|(refine zP at_M ?_)|(refine zP rfl ?_)|(refine And.intro ?_ ?_;all_goals(intro hb;(try simp only [sb] at hb);try exact ex0))|(intro b0 hb)))
    obtain ⟨ai, hai⟩ : ∃ n, (a.getD o.length 0).toNat = n := ⟨_, rfl⟩
    obtain ⟨bi, hbi⟩ : ∃ n, (b.getD o.length 0).toNat = n := ⟨_, rfl⟩
    have eo : ((o.length : Int)).toNat = o.length := rfl
    rw [eo, hai] at ua
    rw [eo, hbi] at ub
    have eT : ((c : Int) + (ai : Int) + (bi : Int)) = ((c + ai + bi : Nat) : Int) := by simp
    have el : (o ++ [UInt32.ofNat (c + ai + bi)]).length = o.length + 1 := by simp
    have hv := add_step (c := c) g2 hai hbi
    have hA : o.length < max a.length b.length ∨ (ai = 0 ∧ bi = 0 ∧ c = 1) := by
      by_cases h9 : o.length < max a.length b.length
      · exact .inl h9
      · refine .inr ⟨by rw [← hai, limb0 a (by omega)]; rfl, by rw [← hbi, limb0 b (by omega)]; rfl, by omega⟩
    refine ⟨(o ++ [UInt32.ofNat (c + ai + bi)], (c + ai + bi) / 4294967296), ⟨by omega, ⟨by rw [el]; omega, by rw [el]; omega⟩, hv⟩, ?gm, rfl, ⟨rfl, trivial, rfl, trivial, ?g5, rfl, ?g6, trivial, ?g7, trivial, trivial⟩, ⟨?gd, trivial⟩, clObjs_cu' _ _ _⟩
    case gm =>
      show (max a.length b.length - (o ++ [UInt32.ofNat (c + ai + bi)]).length) * 2 + (c + ai + bi) / 4294967296 < (max a.length b.length - o.length) * 2 + c
      rw [el]; omega
    case g5 =>
      show V.own 0 (o.length + 1) 0 (o.length + 1) = V.own 0 (o ++ [UInt32.ofNat (c + ai + bi)]).length 0 (o ++ [UInt32.ofNat (c + ai + bi)]).length
      rw [el]
    case g6 =>
      refine congrArg (fun n => V.con (.int .u64 n)) (?_ : IntKind.u64.wrap (((c : Int) + ((a.getD ((o.length : Int)).toNat 0).toNat : Int) + ((b.getD ((o.length : Int)).toNat 0).toNat : Int)).tdiv 4294967296) = _)
      rw [eo, hai, hbi, eT, tdiv_nat]
      exact (wrapU64 (by omega) (by omega)).symm
    case g7 =>
      show V.con (.int .i64 ((o.length : Int) + 1)) = V.con (.int .i64 (((o ++ [UInt32.ofNat (c + ai + bi)]).length : Nat) : Int))
      rw [el]; rfl
    case gd =>
      have e5 : UInt32.ofNat (((c + ai + bi) % 4294967296 : Nat) : Int).toNat = UInt32.ofNat (c + ai + bi) := UInt32.toNat_inj.1 (by rw [Int.toNat_natCast, UInt32.toNat_ofNat', UInt32.toNat_ofNat', Nat.mod_mod])
      show some (Obj.mk 1 (List.take o.length (o.map cu) ++ [V.con (.int .u32 (IntKind.u32.wrap (((c : Int) + ((a.getD ((o.length : Int)).toNat 0).toNat : Int) + ((b.getD ((o.length : Int)).toNat 0).toNat : Int)).tmod 4294967296)))]) (o.length + 1) true) = some (Obj.mk 1 ((o ++ [UInt32.ofNat (c + ai + bi)]).map cu) (o ++ [UInt32.ofNat (c + ai + bi)]).length true)
      rw [el, eo, hai, hbi, eT, tmod_nat, wrap32 (by omega), e5, List.take_of_length_le (by simp), List.map_append]
      rfl
  · refine And.intro (fun y hy => by have hy : y ∈ [V.con _] := hy; rw [List.mem_singleton.1 hy]; rfl) ?_
    repeat' (first|(with_reducible first|refine zA ?_|refine zB ?_|refine zC ?_|refine zD ?_|refine zE ?_|refine zF ?_|refine zG ?_|refine zH ?_|refine zI ?_|refine zJ ?_|refine zK ?_|refine zL ?_)|(with_reducible refine reg_i ?_;intro K hK)|(with_reducible refine drw_i ?_;intro K hK)|((with_reducible refine cond_t ?hc ?_);(case hc=>rfl))|((with_reducible refine cond_f ?hc ?_);(case hc=>rfl))|((with_reducible refine cond_m ?_);refine And.intro ?_ ?_;all_goals(intro hb;(try simp only [sb] at hb);try exact ex0))|(refine hK _ ?_;clear hK K)|(refine hK _ _ rfl ?_;clear hK K)|(have hg:=hK;clear hg;first|(refine And.intro ?zz ?_;case zz=>first|exact rfl|exact zO rfl|omega|exact gI)|(refine fresh_n ?_)|(refine freshO_n ?_)|(refine at_Q ?_;intro hu)|(refine zP wA ?_)|(refine mul_Q ?_;intro hm1 hm2)|(refine zP at_M ?_)|(refine zP rfl ?_)|(refine And.intro ?_ ?_;all_goals(intro hb;(try simp only [sb] at hb);try exact ex0))|(intro b0 hb)))
    obtain ⟨ai, hai⟩ : ∃ n, (a.getD o.length 0).toNat = n := ⟨_, rfl⟩
    obtain ⟨bi, hbi⟩ : ∃ n, (b.getD o.length 0).toNat = n := ⟨_, rfl⟩
    have eo : ((o.length : Int)).toNat = o.length := rfl
    rw [eo, hai] at ua
    rw [eo, hbi] at ub
    have eT : ((c : Int) + (ai : Int) + (bi : Int)) = ((c + ai + bi : Nat) : Int) := by simp
    have el : (o ++ [UInt32.ofNat (c + ai + bi)]).length = o.length + 1 := by simp
    have hv := add_step (c := c) g2 hai hbi
    have hA : o.length < max a.length b.length ∨ (ai = 0 ∧ bi = 0 ∧ c = 1) := by
      by_cases h9 : o.length < max a.length b.length
      · exact .inl h9
      · refine .inr ⟨by rw [← hai, limb0 a (by omega)]; rfl, by rw [← hbi, limb0 b (by omega)]; rfl, by omega⟩
    refine ⟨(o ++ [UInt32.ofNat (c + ai + bi)], (c + ai + bi) / 4294967296), ⟨by omega, ⟨by rw [el]; omega, by rw [el]; omega⟩, hv⟩, ?gm, rfl, ⟨rfl, trivial, rfl, trivial, ?g5, rfl, ?g6, trivial, ?g7, trivial, trivial⟩, ⟨?gd, trivial⟩, clObjs_cu' _ _ _⟩
    case gm =>
      show (max a.length b.length - (o ++ [UInt32.ofNat (c + ai + bi)]).length) * 2 + (c + ai + bi) / 4294967296 < (max a.length b.length - o.length) * 2 + c
      rw [el]; omega
    case g5 =>
      show V.own 0 (o.length + 1) 0 (o.length + 1) = V.own 0 (o ++ [UInt32.ofNat (c + ai + bi)]).length 0 (o ++ [UInt32.ofNat (c + ai + bi)]).length
      rw [el]
    case g6 =>
      refine congrArg (fun n => V.con (.int .u64 n)) (?_ : IntKind.u64.wrap (((c : Int) + ((a.getD ((o.length : Int)).toNat 0).toNat : Int) + ((b.getD ((o.length : Int)).toNat 0).toNat : Int)).tdiv 4294967296) = _)
      rw [eo, hai, hbi, eT, tdiv_nat]
      exact (wrapU64 (by omega) (by omega)).symm
    case g7 =>
      show V.con (.int .i64 ((o.length : Int) + 1)) = V.con (.int .i64 (((o ++ [UInt32.ofNat (c + ai + bi)]).length : Nat) : Int))
      rw [el]; rfl
    case gd =>
      have e5 : UInt32.ofNat (((c + ai + bi) % 4294967296 : Nat) : Int).toNat = UInt32.ofNat (c + ai + bi) := UInt32.toNat_inj.1 (by rw [Int.toNat_natCast, UInt32.toNat_ofNat', UInt32.toNat_ofNat', Nat.mod_mod])
      show some (Obj.mk 1 (List.take o.length (o.map cu) ++ [V.con (.int .u32 (IntKind.u32.wrap (((c : Int) + ((a.getD ((o.length : Int)).toNat 0).toNat : Int) + ((b.getD ((o.length : Int)).toNat 0).toNat : Int)).tmod 4294967296)))]) (o.length + 1) true) = some (Obj.mk 1 ((o ++ [UInt32.ofNat (c + ai + bi)]).map cu) (o ++ [UInt32.ofNat (c + ai + bi)]).length true)
      rw [el, eo, hai, hbi, eT, tmod_nat, wrap32 (by omega), e5, List.take_of_length_le (by simp), List.map_append]
      rfl
  · skip
    refine Or.inl (Exists.intro _ (Exists.intro _ (Exists.intro _ (And.intro (rNorm_ok o (by omega)) (Exists.intro [(0, ?o)] (And.intro (lpre1 ?ho) (And.intro ?z (And.intro rfl ?_))))))))
    case ho => exact rfl
    case z =>
      refine fzl1 (fz_own (l := o) (F := fun x => V.con (.int .u32 x.toNat)) (G := tu32) rfl rfl rfl rfl ?_ (fun a _ => fze_con _) rfl)
      show List.take _ (List.drop 0 (o.map cu)) = _
      rw [List.drop_zero, List.take_of_length_le (by rw [List.length_map]; omega)]
      rfl
    repeat' (first|(with_reducible first|refine zA ?_|refine zB ?_|refine zC ?_|refine zD ?_|refine zE ?_|refine zF ?_|refine zG ?_|refine zH ?_|refine zI ?_|refine zJ ?_|refine zK ?_|refine zL ?_)|(with_reducible refine reg_i ?_;intro K hK)|(with_reducible refine drw_i ?_;intro K hK)|((with_reducible refine cond_t ?hc ?_);(case hc=>rfl))|((with_reducible refine cond_f ?hc ?_);(case hc=>rfl))|((with_reducible refine cond_m ?_);refine And.intro ?_ ?_;all_goals(intro hb;(try simp only [sb] at hb);try exact ex0))|(refine hK _ ?_;clear hK K)|(refine hK _ _ rfl ?_;clear hK K)|(have hg:=hK;clear hg;first|(refine And.intro ?zz ?_;case zz=>first|exact rfl|exact zO rfl|omega|exact gI)|(refine fresh_n ?_)|(refine freshO_n ?_)|(refine at_Q ?_;intro hu)|(refine zP wA ?_)|(refine mul_Q ?_;intro hm1 hm2)|(refine zP at_M ?_)|(refine zP rfl ?_)|(refine And.intro ?_ ?_;all_goals(intro hb;(try simp only [sb] at hb);try exact ex0))|(intro b0 hb)))
    have hc0 : c = 0 := by omega
    rw [List.take_of_length_le (by omega), List.take_of_length_le (by omega), hc0, Nat.zero_mul, Nat.add_zero] at g2
    exact And.intro trivial (fz_ro (by rw [norm_lm, g2]) fun h => h)
