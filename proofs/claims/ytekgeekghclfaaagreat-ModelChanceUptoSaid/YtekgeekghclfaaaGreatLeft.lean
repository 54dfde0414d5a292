import Derived.Test.YtekgeekghclfaaaGreatDiv2
set_option linter.all false
namespace Go.Ev
open Go.Proofs
set_option maxRecDepth 10000
set_option maxHeartbeats 4000000
set_option linter.unusedSimpArgs false
set_option linter.unusedVariables false
theorem pow32 {s : Nat} (hs : s < 32) : 2 ^ s < 4294967296 := Nat.lt_of_lt_of_le (Nat.pow_lt_pow_right (by decide) hs) (by decide)
theorem shlA {x s : Nat} {Q : Int → Prop} (hs : s < 32) (k : Q ((x * 2 ^ s % 4294967296 : Nat) : Int)) : ∃ r, r = IntKind.u32.wrap ((x : Int) * 2 ^ (min ((s : Nat) : Int).toNat IntKind.u32.bits)) ∧ Q r := by
  refine ⟨_, ?_, k⟩
  have e : (x : Int) * 2 ^ (min ((s : Nat) : Int).toNat IntKind.u32.bits) = ((x * 2 ^ s : Nat) : Int) := by
    rw [Int.toNat_natCast, show IntKind.u32.bits = 32 from rfl, Nat.min_eq_left (by omega)]; simp
  rw [e, wrap32 (Int.natCast_nonneg _), Int.toNat_natCast, UInt32.toNat_ofNat']
theorem shlB {x s : Nat} {Q : Int → Prop} (hs : s < 32) (hx : x < 4294967296) (k : Q ((x * 2 ^ s : Nat) : Int)) : ∃ r, r = IntKind.u64.wrap ((x : Int) * 2 ^ (min ((s : Nat) : Int).toNat IntKind.u64.bits)) ∧ Q r := by
  refine ⟨_, ?_, k⟩
  have e : (x : Int) * 2 ^ (min ((s : Nat) : Int).toNat IntKind.u64.bits) = ((x * 2 ^ s : Nat) : Int) := by
    rw [Int.toNat_natCast, show IntKind.u64.bits = 64 from rfl, Nat.min_eq_left (by omega)]; simp
  have h : x * 2 ^ s < 4294967296 * 4294967296 := Nat.mul_lt_mul_of_lt_of_lt hx (pow32 hs)
  rw [e]
  exact wrapU64 (Int.natCast_nonneg _) (by omega)
theorem shrC {a : Nat} {Q : Int → Prop} (k : Q ((a / 4294967296 : Nat) : Int)) : ∃ r, r = ((a : Nat) : Int).fdiv (2 ^ (min (32 : Int).toNat IntKind.u64.bits)) ∧ Q r := by
  refine ⟨_, ?_, k⟩
  show _ = ((a : Nat) : Int).fdiv 4294967296
  rw [Int.fdiv_eq_ediv_of_nonneg _ (by decide)]; rfl
theorem or_eq32 {c x s : Nat} (hs : s < 32) (hc : c < 2 ^ s) (hx : x < 4294967296) : IntKind.u32.wrap (((BitVec.ofInt 32 ((c : Nat) : Int) ||| BitVec.ofInt 32 ((x * 2 ^ s % 4294967296 : Nat) : Int)).toNat : Nat) : Int) = ((c + x * 2 ^ s % 4294967296 : Nat) : Int) ∧ c + x * 2 ^ s % 4294967296 < 4294967296 := by
  have hp := pow32 hs
  have e4 : (4294967296 : Nat) = 2 ^ s * 2 ^ (32 - s) := by rw [← Nat.pow_add, show s + (32 - s) = 32 by omega]
  obtain ⟨m, hm⟩ : ∃ m, x * 2 ^ s % 4294967296 = m * 2 ^ s := ⟨x % 2 ^ (32 - s), by rw [e4, Nat.mul_comm x, Nat.mul_mod_mul_left, Nat.mul_comm]⟩
  have hml : m * 2 ^ s < 4294967296 := by rw [← hm]; exact Nat.mod_lt _ (by decide)
  have hlt : c + m * 2 ^ s < 4294967296 := by
    have h1 : m < 2 ^ (32 - s) := by
      rw [e4, Nat.mul_comm] at hml
      exact Nat.lt_of_mul_lt_mul_left hml
    have h2 : (m + 1) * 2 ^ s ≤ 2 ^ (32 - s) * 2 ^ s := Nat.mul_le_mul_right _ h1
    rw [Nat.mul_comm (2 ^ (32 - s)), ← e4, Nat.add_mul, Nat.one_mul] at h2
    omega
  have e1 : BitVec.ofInt 32 ((c : Nat) : Int) = BitVec.ofNat 32 c := BitVec.ofInt_natCast ..
  have e2 : BitVec.ofInt 32 ((m * 2 ^ s : Nat) : Int) = BitVec.ofNat 32 (m * 2 ^ s) := BitVec.ofInt_natCast ..
  have e3 : c ||| m * 2 ^ s = c + m * 2 ^ s := by
    have := Nat.shiftLeft_add_eq_or_of_lt (b := c) (i := s) hc m
    rw [Nat.shiftLeft_eq] at this
    rw [Nat.or_comm, ← this, Nat.add_comm]
  rw [hm]
  refine ⟨?_, hlt⟩
  rw [e1, e2, BitVec.toNat_or, BitVec.toNat_ofNat, BitVec.toNat_ofNat, Nat.mod_eq_of_lt (by omega), Nat.mod_eq_of_lt (by omega), e3, wrap32 (Int.natCast_nonneg _), Int.toNat_natCast, UInt32.toNat_ofNat', Nat.mod_eq_of_lt hlt]
theorem val_take_one {l : List UInt32} {k : Nat} (h : k < l.length) : val (l.take (k + 1)) = val (l.take k) + (l.getD k default).toNat * 4294967296 ^ k := val_take_succ l k h
theorem at_setq {L : List UInt32} {i j : Nat} {v : V} {Q : V → Prop} (h : j < L.length) (hne : i ≠ j) (k : Q (cu (L.getD j default))) : ∃ e, ((L.map cu).set i v)[j]? = some e ∧ Q e := by
  refine ⟨_, ?_, k⟩
  rw [List.getElem?_set_ne hne, List.getElem?_map, List.getElem?_eq_getElem h]
  simp [List.getD, h]
theorem set_two {q : List UInt32} {c a b : UInt32} {n : Nat} (hn : 0 < n) : (((q ++ c :: List.replicate n 0).set q.length a).set (q.length + 1) b) = (q ++ [a]) ++ b :: List.replicate (n - 1) 0 := by
  obtain ⟨m, rfl⟩ : ∃ m, n = m + 1 := ⟨n - 1, by omega⟩
  rw [List.set_append_right _ _ (Nat.le_refl _), Nat.sub_self, List.set_cons_zero, List.set_append_right _ _ (by omega), show q.length + 1 - q.length = 1 by omega, List.set_cons_succ, List.replicate_succ, List.set_cons_zero, List.append_assoc]
  rfl
theorem left_okO (l : List UInt32) (s : Nat) (hs : s < 32) (hl : l.length ≤ 10737418240) : OkO Tryz.prog 107 [tn l, .con (.int .i64 s)] [(0, ⟨1, (padL (l.length + 1) (val l * 2 ^ s)).map cu, 0, true⟩)] (.own 0 0 0 (l.length + 1)) := by
  refine oko_of_ev (fun _ _ _ h => h) mix Tryz.func107 rfl rfl (by kernel_rfl) (Nat.le_of_ble_eq_true rfl) ?_
  repeat' (first|(with_reducible first|refine zA ?_|refine zB ?_|refine zC ?_|refine zD ?_|refine zE ?_|refine zF ?_|refine zG ?_|refine zH ?_|refine zI ?_|refine zJ ?_|refine zK ?_|refine zL ?_)|(with_reducible refine reg_i ?_;intro K hK)|(with_reducible refine drw_i ?_;intro K hK)|((with_reducible refine cond_t ?hc ?_);(case hc=>rfl))|((with_reducible refine cond_f ?hc ?_);(case hc=>rfl))|((with_reducible refine cond_m ?_);refine And.intro ?_ ?_;all_goals(intro hb;(try simp only [sn,sb] at hb);try exact ex0))|(refine hK _ ?_;clear hK K)|(refine hK _ _ rfl ?_;clear hK K)|(have hg:=hK;clear hg;first|(refine And.intro ?zz ?_;case zz=>first|exact rfl|exact zO rfl|omega|exact gI)|(refine fresh_n ?_)|(refine freshO_n ?_)|(refine at_Q ?_;intro hu)|(refine zP wA ?_)|(refine mul_Q ?_;intro hm1 hm2)|(refine zP at_M ?_)|(refine zP rfl ?_)|(refine And.intro ?_ ?_;all_goals(intro hb;(try simp only [sn,sb] at hb);try exact ex0))|(intro b0 hb)))
  refine loop_i (List UInt32 × Nat) (fun (q, c) => ⟨Tryz.f107.ntmps, [(1, .con (.int .i64 s)), (5, .own 0 0 0 (l.length + 1)), (12, .ro false (tn l)), (13, .con (.int .i64 l.length)), (14, .con (.int .i64 (q.length : Nat)))], [(0, ⟨1, (q ++ UInt32.ofNat c :: List.replicate (l.length - q.length) 0).map cu, 0, true⟩)]⟩)
    (fun (q, c) => q.length ≤ l.length ∧ c < 2 ^ s ∧ val q + 4294967296 ^ q.length * c = val (l.take q.length) * 2 ^ s) (fun (q, c) => l.length - q.length) [] ([], 0) trivial ⟨by simp, Nat.pow_pos (by decide), by simp [val]⟩ ⟨rfl, ⟨rfl, trivial, ?_, rfl, rfl, trivial, ?_, trivial, rfl, trivial, trivial⟩, ⟨?_, trivial⟩, clObjs_cu _ _⟩ ?_
  · show V.own _ _ _ _ = _
    simp only [List.length_map]
    rfl
  · show V.con (.int .i64 ((l.map tu32).length : Nat)) = _; rw [List.length_map]
  · show some _ = some _
    congr 1
    congr 1
    simp only [List.length_map]
    show List.replicate ((l.length : Int) + 1).toNat (V.con (.int .u32 0)) = _
    rw [show ((l.length : Int) + 1).toNat = l.length + 1 by omega, List.replicate_succ]
    show _ = cu 0 :: (List.replicate (l.length - 0) 0).map cu
    rw [Nat.sub_zero, List.map_replicate]; rfl
  rintro ⟨q, c⟩ ⟨h1, h2, h3⟩
  repeat' (first|(first | (refine shlA hs ?_) | (refine shlB hs (UInt32.toNat_lt _) ?_) | (refine shrC ?_) | (refine at_setq (by simp; omega) (by omega) ?_))|(with_reducible first|refine zA ?_|refine zB ?_|refine zC ?_|refine zD ?_|refine zE ?_|refine zF ?_|refine zG ?_|refine zH ?_|refine zI ?_|refine zJ ?_|refine zK ?_|refine zL ?_)|(with_reducible refine reg_i ?_;intro K hK)|(with_reducible refine drw_i ?_;intro K hK)|((with_reducible refine cond_t ?hc ?_);(case hc=>rfl))|((with_reducible refine cond_f ?hc ?_);(case hc=>rfl))|((with_reducible refine cond_m ?_);refine And.intro ?_ ?_;all_goals(intro hb;(try simp only [sn,sb] at hb);try exact ex0))|(refine hK _ ?_;clear hK K)|(refine hK _ _ rfl ?_;clear hK K)|(have hg:=hK;clear hg;first|(refine And.intro ?zz ?_;case zz=>first|exact rfl|exact zO rfl|omega|exact gI)|(refine fresh_n ?_)|(refine freshO_n ?_)|(refine at_Q ?_;intro hu)|(refine zP wA ?_)|(refine mul_Q ?_;intro hm1 hm2)|(refine zP at_M ?_)|(refine zP rfl ?_)|(refine And.intro ?_ ?_;all_goals(intro hb;(try simp only [sn,sb] at hb);try exact ex0))|(intro b0 hb)))
  · obtain ⟨x, hx⟩ : ∃ x, (l.getD q.length default).toNat = x := ⟨_, rfl⟩
    have hxb : x < 4294967296 := by rw [← hx]; exact UInt32.toNat_lt _
    have hk : q.length < l.length := by omega
    obtain ⟨ho1, ho2⟩ := or_eq32 hs h2 hxb
    have hp := pow32 hs
    have hcb : c < 4294967296 := Nat.lt_trans h2 hp
    have hc2 : x * 2 ^ s / 4294967296 < 2 ^ s := by
      rw [Nat.div_lt_iff_lt_mul (by decide), Nat.mul_comm]
      exact Nat.mul_lt_mul_of_pos_left hxb (Nat.pow_pos (by decide))
    have el : (q ++ [UInt32.ofNat (c + x * 2 ^ s % 4294967296)]).length = q.length + 1 := by simp
    have hgc : (((q ++ UInt32.ofNat c :: List.replicate (l.length - q.length) 0).getD (0 + q.length) default).toNat : Int) = ((c : Nat) : Int) := by
      rw [Nat.zero_add, List.getD, List.getElem?_append_right (Nat.le_refl _), Nat.sub_self]
      show ((UInt32.ofNat c).toNat : Int) = _
      rw [UInt32.toNat_ofNat', Nat.mod_eq_of_lt hcb]
    refine ⟨(q ++ [UInt32.ofNat (c + x * 2 ^ s % 4294967296)], x * 2 ^ s / 4294967296), ⟨by rw [el]; omega, hc2, ?ga⟩, by show l.length - (q ++ [_]).length < l.length - q.length; rw [List.length_append]; show _ - (_ + 1) < _; omega, rfl, ⟨rfl, trivial, rfl, rfl, rfl, trivial, rfl, trivial, ?gc, trivial, trivial⟩, ⟨?gd, trivial⟩, clObjs_cu _ _⟩
    case ga =>
      rw [el, val_take_one hk, hx, Nat.add_mul, ← h3, val_append]
      have e1 : val [UInt32.ofNat (c + x * 2 ^ s % 4294967296)] = c + x * 2 ^ s % 4294967296 := by
        show (UInt32.ofNat _).toNat + 4294967296 * val [] = _
        rw [UInt32.toNat_ofNat', Nat.mod_eq_of_lt ho2]; rfl
      have e2 := Nat.div_add_mod (x * 2 ^ s) 4294967296
      rw [e1, Nat.pow_succ]
      generalize 4294967296 ^ q.length = w at *
      generalize x * 2 ^ s / 4294967296 = hi at *
      generalize x * 2 ^ s % 4294967296 = lo at *
      have e3 : x * w * 2 ^ s = w * (x * 2 ^ s) := by ac_rfl
      rw [e3, ← e2, Nat.mul_add, Nat.mul_add, Nat.mul_assoc w 4294967296 hi]
      omega
    case gc =>
      show V.con (.int .i64 ((q.length : Int) + 1)) = V.con (.int .i64 (((q ++ [UInt32.ofNat (c + x * 2 ^ s % 4294967296)]).length : Nat) : Int))
      rw [el]; rfl
    case gd =>
      refine congrArg (fun l => some (Obj.mk 1 l 0 true)) (?_ : (((q ++ UInt32.ofNat c :: List.replicate (l.length - q.length) 0).map cu).set (0 + q.length) (V.con (.int .u32 (IntKind.u32.wrap (((BitVec.ofInt 32 (((q ++ UInt32.ofNat c :: List.replicate (l.length - q.length) 0).getD (0 + q.length) default).toNat : Int) ||| BitVec.ofInt 32 (((l.getD q.length default).toNat * 2 ^ s % 4294967296 : Nat) : Int)).toNat : Nat) : Int))))).set (0 + (q.length + 1)) (V.con (.int .u32 (IntKind.u32.wrap (((l.getD q.length default).toNat * 2 ^ s / 4294967296 : Nat) : Int)))) = _)
      rw [hgc, hx, ho1, Nat.zero_add, Nat.zero_add, wrap32 (Int.natCast_nonneg _), Int.toNat_natCast]
      have e9 : (c + x * 2 ^ s % 4294967296) = (UInt32.ofNat (c + x * 2 ^ s % 4294967296)).toNat := by rw [UInt32.toNat_ofNat', Nat.mod_eq_of_lt ho2]
      rw [show ((c + x * 2 ^ s % 4294967296 : Nat) : Int) = (((UInt32.ofNat (c + x * 2 ^ s % 4294967296)).toNat : Nat) : Int) from congrArg _ e9, set_cu2, set_cu2, set_two (by omega), el, show l.length - q.length - 1 = l.length - (q.length + 1) by omega]
  · have hql : q.length = l.length := by omega
    rw [hql, List.take_length] at h3
    have hp := pow32 hs
    have hcb : c < 4294967296 := Nat.lt_trans h2 hp
    have hv : val (q ++ [UInt32.ofNat c]) = val l * 2 ^ s := by
      rw [val_append, hql, ← h3]
      show val q + 4294967296 ^ l.length * ((UInt32.ofNat c).toNat + 4294967296 * val []) = _
      rw [UInt32.toNat_ofNat', Nat.mod_eq_of_lt hcb]; rfl
    have hp2 : padL (l.length + 1) (val l * 2 ^ s) = q ++ [UInt32.ofNat c] := by
      have := padL_val (q ++ [UInt32.ofNat c])
      rwa [List.length_append, hql, hv] at this
    rw [hp2]
    have e9 : q ++ UInt32.ofNat c :: List.replicate (l.length - q.length) 0 = q ++ [UInt32.ofNat c] := by rw [hql, Nat.sub_self]; rfl
    have e8 := congrArg (fun L => some (Obj.mk 1 (List.map cu L) 0 true)) e9
    refine ⟨trivial, false, _, fun _ => 0, rfl, ren_one (id := 0) (ver := 0) e8 (fun e he => ?_), RenC.own 0 0 0 (l.length + 1) _ e8 rfl rfl⟩
    · obtain ⟨x, -, rfl⟩ := List.mem_map.1 he
      exact ⟨_, rfl⟩
theorem left_ok (l : List UInt32) (s : Nat) (hs : s < 32) (hl : l.length ≤ 10737418240) : Ok Tryz.prog 107 [tn l, .con (.int .i64 s)] false (tn (padL (l.length + 1) (val l * 2 ^ s))) := by
  refine ok_of_oko (left_okO l s hs hl) (fz_own (l := padL (l.length + 1) (val l * 2 ^ s)) (F := cu) (G := tu32) rfl rfl rfl ?_ ?_ (fun a _ => fze_con _) rfl)
  · rw [padL_len]
  · rw [List.drop_zero, List.take_of_length_le (by rw [List.length_map, padL_len]; exact Nat.le_refl _)]
