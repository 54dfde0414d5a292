import Derived.Test.YtekgeekghclfaaaGreatNat
set_option linter.all false
namespace Go.Ev
open Go.Proofs
set_option maxRecDepth 10000
set_option maxHeartbeats 4000000
set_option linter.unusedSimpArgs false
set_option linter.unusedVariables false
theorem clObjs_cu (oh : OH) (p : List UInt32) : clObjs oh [(0, ⟨1, p.map cu, 0, true⟩)] := by
  refine ⟨fun v hv => ?_, trivial⟩
  obtain ⟨u, _, rfl⟩ := List.mem_map.1 hv
  trivial
theorem Mul_ok (a b : List UInt32) (ha : a.length ≤ 1099511627776) (hb : b.length ≤ 1099511627776) : Ok Tryz.prog 58 [tn a, tn b] true (tn (lm (val a * val b))) := by
  refine ok_of_ev (fun _ _ _ h => h) mix Tryz.func58 rfl rfl (by kernel_rfl) (Nat.le_of_ble_eq_true rfl) ?_
  have hna := norm_le a
  have hnb := norm_le b
  repeat' (first|(with_reducible first|refine zA ?_|refine zB ?_|refine zC ?_|refine zD ?_|refine zE ?_|refine zF ?_|refine zG ?_|refine zH ?_|refine zI ?_|refine zJ ?_|refine zK ?_|refine zL ?_)|(with_reducible refine reg_i ?_;intro K hK)|(with_reducible refine drw_i ?_;intro K hK)|((with_reducible refine cond_t ?hc ?_);(case hc=>rfl))|((with_reducible refine cond_f ?hc ?_);(case hc=>rfl))|((with_reducible refine cond_m ?_);refine And.intro ?_ ?_;all_goals(intro hb;(try simp only [sb] at hb);try exact ex0))|(refine hK _ ?_;clear hK K)|(refine hK _ _ rfl ?_;clear hK K)|(have hg:=hK;clear hg;first|(refine And.intro ?zz ?_;case zz=>first|exact rfl|exact zO rfl|omega|exact gI)|(refine fresh_n ?_)|(refine freshO_n ?_)|(refine at_Q ?_;intro hu)|(refine zP wA ?_)|(refine mul_Q ?_;intro hm1 hm2)|(refine zP at_M ?_)|(refine zP rfl ?_)|(refine zQ (trim_ok a (by omega)) ?_)|(refine zQ (trim_ok b (by omega)) ?_)|(refine And.intro ?_ ?_;all_goals(intro hb;(try simp only [sb] at hb);try exact ex0))|(intro b0 hb)))
  rw [← val_norm a, ← val_norm b]
  have hx : (norm a).length ≤ 1099511627776 := by omega
  have hy : (norm b).length ≤ 1099511627776 := by omega
  clear hna hnb
  generalize norm a = x at *
  generalize norm b = y at *
  refine loop_i (Int × List UInt32) (fun (i, p) => ⟨Tryz.f58.ntmps, [(1, .ro false (tn y)), (5, .own 0 0 0 (x.length + y.length)), (21, .ro false (tn x)), (22, .con (.int .i64 ((x.map tu32).length : Nat))), (23, .con (.int .i64 i))], [(0, ⟨1, p.map cu, 0, true⟩)]⟩)
    (fun (i, p) => 0 ≤ i ∧ i ≤ x.length ∧ p.length = x.length + y.length ∧ val p = val (x.take i.toNat) * val y) (fun (i, p) => (x.length - i).toNat) [] (0, List.replicate (x.length + y.length) 0) trivial ⟨by omega, by omega, by simp, ?_⟩ ⟨rfl, ⟨rfl, trivial, ?_, rfl, rfl, trivial, rfl, trivial, rfl, trivial, trivial⟩, ⟨?_, trivial⟩, clObjs_cu _ _⟩ ?_
  · rw [val_replicate]; simp [val]
  · show V.own _ _ _ _ = _
    simp only [List.length_map]
    congr 1
  · show some _ = some _
    congr 1
    congr 1
    simp only [List.length_map]
    rw [List.map_replicate, show ((x.length : Int) + (y.length : Int)).toNat = x.length + y.length by omega]
    rfl
  rintro ⟨i, p⟩ ⟨h0, h1, hpl, hpv⟩
  repeat' (first|(with_reducible first|refine zA ?_|refine zB ?_|refine zC ?_|refine zD ?_|refine zE ?_|refine zF ?_|refine zG ?_|refine zH ?_|refine zI ?_|refine zJ ?_|refine zK ?_|refine zL ?_)|(with_reducible refine reg_i ?_;intro K hK)|(with_reducible refine drw_i ?_;intro K hK)|((with_reducible refine cond_t ?hc ?_);(case hc=>rfl))|((with_reducible refine cond_f ?hc ?_);(case hc=>rfl))|((with_reducible refine cond_m ?_);refine And.intro ?_ ?_;all_goals(intro hb;(try simp only [sb] at hb);try exact ex0))|(refine hK _ ?_;clear hK K)|(refine hK _ _ rfl ?_;clear hK K)|(have hg:=hK;clear hg;first|(refine And.intro ?zz ?_;case zz=>first|exact rfl|exact zO rfl|omega|exact gI)|(refine fresh_n ?_)|(refine freshO_n ?_)|(refine at_Q ?_;intro hu)|(refine zP wA ?_)|(refine mul_Q ?_;intro hm1 hm2)|(refine zP at_M ?_)|(refine zP rfl ?_)|(refine And.intro ?_ ?_;all_goals(intro hb;(try simp only [sb] at hb);try exact ex0))|(intro b0 hb)))
  · refine loop_i (Nat × List UInt32 × Nat) (fun (k, q, c) => ⟨Tryz.f58.ntmps, [(1, .ro false (tn y)), (5, .own 0 0 0 (x.length + y.length)), (6, .con (.int .i64 i)), (7, .con (.int .u32 (x.getD i.toNat default).toNat)), (8, .con (.int .u64 c)), (21, .ro false (tn x)), (22, .con (.int .i64 ((x.map tu32).length : Nat))), (23, .con (.int .i64 i)), (28, .ro false (tn y)), (29, .con (.int .i64 ((y.map tu32).length : Nat))), (30, .con (.int .i64 k))], [(0, ⟨1, q.map cu, 0, true⟩)]⟩)
      (fun (k, q, c) => k ≤ y.length ∧ q.length = x.length + y.length ∧ c < 4294967296 ∧ val q + c * 4294967296 ^ (i.toNat + k) = val p + (x.getD i.toNat default).toNat * val (y.take k) * 4294967296 ^ i.toNat ∧ q.drop (i.toNat + k) = p.drop (i.toNat + k)) (fun (k, q, c) => y.length - k) [] (0, p, 0) trivial ⟨by omega, hpl, by decide, by simp [val], rfl⟩ ⟨rfl, ⟨rfl, trivial, rfl, rfl, rfl, trivial, rfl, trivial, rfl, trivial, rfl, trivial, rfl, trivial, rfl, trivial, rfl, trivial, rfl, trivial, rfl, trivial, trivial⟩, ⟨rfl, trivial⟩, clObjs_cu _ _⟩ ?_
    rintro ⟨k, q, c⟩ ⟨g0, g1, g2, g3, g4⟩
    repeat' (first|(with_reducible first|refine zA ?_|refine zB ?_|refine zC ?_|refine zD ?_|refine zE ?_|refine zF ?_|refine zG ?_|refine zH ?_|refine zI ?_|refine zJ ?_|refine zK ?_|refine zL ?_)|(with_reducible refine reg_i ?_;intro K hK)|(with_reducible refine drw_i ?_;intro K hK)|((with_reducible refine cond_t ?hc ?_);(case hc=>rfl))|((with_reducible refine cond_f ?hc ?_);(case hc=>rfl))|((with_reducible refine cond_m ?_);refine And.intro ?_ ?_;all_goals(intro hb;(try simp only [sb] at hb);try exact ex0))|(refine hK _ ?_;clear hK K)|(refine hK _ _ rfl ?_;clear hK K)|(have hg:=hK;clear hg;first|(refine And.intro ?zz ?_;case zz=>first|exact rfl|exact zO rfl|omega|exact gI)|(refine fresh_n ?_)|(refine freshO_n ?_)|(refine at_Q ?_;intro hu)|(refine zP wA ?_)|(refine mul_Q ?_;intro hm1 hm2)|(refine zP at_M ?_)|(refine zP rfl ?_)|(refine And.intro ?_ ?_;all_goals(intro hb;(try simp only [sb] at hb);try exact ex0))|(intro b0 hb)))
    · have ej : (0 + (i + (k : Int)).toNat) = i.toNat + k := by omega
      have ek : ((k : Int)).toNat = k := rfl
      rw [ej] at hu
      rw [ek] at hm1 hm2
      obtain ⟨xi, hxi⟩ : ∃ n, (x.getD i.toNat default).toNat = n := ⟨_, rfl⟩
      obtain ⟨yk, hyk⟩ : ∃ n, (y.getD k default).toNat = n := ⟨_, rfl⟩
      obtain ⟨qj, hqj⟩ : ∃ n, (q.getD (i.toNat + k) default).toNat = n := ⟨_, rfl⟩
      have hstep := mul_step (p := p) (p' := q) (y := y) (xi := xi) (c := c) (i := i.toNat) (k := k) (t := c + (xi * yk + qj)) (by omega) (by omega) (by rw [← hxi]; exact g3) (by rw [hyk, hqj])
      have hT : c + (xi * yk + qj) < 18446744073709551616 := by
        rw [hxi, hyk] at hm2
        have hm2' : ((xi * yk : Nat) : Int) ≤ 18446744065119617025 := by rw [Int.natCast_mul]; exact hm2
        omega
      refine ⟨(k + 1, q.set (i.toNat + k) (UInt32.ofNat (c + (xi * yk + qj))), (c + (xi * yk + qj)) / 4294967296), ⟨by omega, by rw [List.length_set]; exact g1, by omega, ?ga, ?gb⟩, by show y.length - (k + 1) < y.length - k; omega, rfl, ⟨rfl, trivial, rfl, rfl, rfl, trivial, rfl, trivial, ?gc, trivial, rfl, trivial, rfl, trivial, rfl, trivial, rfl, trivial, rfl, trivial, rfl, trivial, trivial⟩, ⟨?gd, trivial⟩, clObjs_cu _ _⟩
      case ga => rw [show i.toNat + (k + 1) = i.toNat + k + 1 by omega, hxi]; exact hstep
      case gb => rw [show i.toNat + (k + 1) = i.toNat + k + 1 by omega]; exact drop_set_succ g4
      case gc =>
        refine congrArg (fun n => V.con (.int .u64 n)) (?_ : Int.fdiv ((c : Int) + (((x.getD i.toNat default).toNat : Int) * ((y.getD ((k : Int)).toNat default).toNat : Int) + ((q.getD (0 + (i + (k : Int)).toNat) default).toNat : Int))) (2 ^ (min (32 : Int).toNat IntKind.u64.bits)) = _)
        rw [ej, ek, hxi, hyk, hqj]
        have e2 : ((2 : Int) ^ (min (32 : Int).toNat IntKind.u64.bits)) = ((4294967296 : Nat) : Int) := rfl
        rw [e2, show ((c : Int) + ((xi : Int) * (yk : Int) + (qj : Int))) = ((c + (xi * yk + qj) : Nat) : Int) by simp]
        exact (Int.ofNat_fdiv _ _).symm
      case gd =>
        refine congrArg (fun l => some (Obj.mk 1 l 0 true)) (?_ : (q.map cu).set (0 + (i + (k : Int)).toNat) (V.con (.int .u32 (IntKind.u32.wrap ((c : Int) + (((x.getD i.toNat default).toNat : Int) * ((y.getD ((k : Int)).toNat default).toNat : Int) + ((q.getD (0 + (i + (k : Int)).toNat) default).toNat : Int)))))) = _)
        rw [ej, ek, hxi, hyk, hqj, List.map_set, show ((c : Int) + ((xi : Int) * (yk : Int) + (qj : Int))) = ((c + (xi * yk + qj) : Nat) : Int) by simp, wrap32 (by omega)]
        rfl
    · have hkk : k = y.length := by omega
      subst hkk
      have ej : (0 + (i + ((y.map tu32).length : Int)).toNat) = i.toNat + y.length := by rw [List.length_map]; omega
      rw [List.take_length] at g3
      have hc32 : (UInt32.ofNat c).toNat = c := by simp; omega
      refine ⟨(i + 1, q.set (i.toNat + y.length) (UInt32.ofNat c)), ⟨by omega, by omega, by rw [List.length_set]; exact g1, ?ga⟩, by show ((x.length : Int) - (i + 1)).toNat < ((x.length : Int) - i).toNat; omega, rfl, ⟨rfl, trivial, rfl, rfl, rfl, trivial, rfl, trivial, rfl, trivial, trivial⟩, ⟨?gd, trivial⟩, clObjs_cu _ _⟩
      case ga =>
        rw [show (i + 1).toNat = i.toNat + 1 by omega]
        exact mul_end (by omega) (by omega) hpv (by rw [hc32]; exact g3) g4
      case gd =>
        refine congrArg (fun l => some (Obj.mk 1 l 0 true)) (?_ : (q.map cu).set (0 + (i + ((y.map tu32).length : Int)).toNat) (V.con (.int .u32 (c : Int))) = _)
        rw [ej, List.map_set]
        refine congrArg (fun v => (q.map cu).set _ v) ?_
        show _ = V.con (.int .u32 (((UInt32.ofNat c).toNat : Nat) : Int))
        rw [hc32]
  · have hii : i.toNat = x.length := by omega
    rw [hii, List.take_length] at hpv
    refine Or.inl (Exists.intro _ (Exists.intro _ (Exists.intro _ (And.intro (own_ok p (by omega)) (Exists.intro [(0, ?o)] (And.intro (lpre1 ?ho) (And.intro ?z (And.intro rfl ?_))))))))
    case ho => exact rfl
    case z =>
      refine fzl1 (fz_own (l := p) (F := fun x => V.con (.int .u32 x.toNat)) (G := tu32) rfl rfl rfl hpl ?_ (fun a _ => fze_con _) rfl)
      show List.take _ (List.drop 0 (p.map cu)) = _
      rw [List.drop_zero, List.take_of_length_le (by rw [List.length_map]; omega)]
      rfl
    repeat' (first|(with_reducible first|refine zA ?_|refine zB ?_|refine zC ?_|refine zD ?_|refine zE ?_|refine zF ?_|refine zG ?_|refine zH ?_|refine zI ?_|refine zJ ?_|refine zK ?_|refine zL ?_)|(with_reducible refine reg_i ?_;intro K hK)|(with_reducible refine drw_i ?_;intro K hK)|((with_reducible refine cond_t ?hc ?_);(case hc=>rfl))|((with_reducible refine cond_f ?hc ?_);(case hc=>rfl))|((with_reducible refine cond_m ?_);refine And.intro ?_ ?_;all_goals(intro hb;(try simp only [sb] at hb);try exact ex0))|(refine hK _ ?_;clear hK K)|(refine hK _ _ rfl ?_;clear hK K)|(have hg:=hK;clear hg;first|(refine And.intro ?zz ?_;case zz=>first|exact rfl|exact zO rfl|omega|exact gI)|(refine fresh_n ?_)|(refine freshO_n ?_)|(refine at_Q ?_;intro hu)|(refine zP wA ?_)|(refine mul_Q ?_;intro hm1 hm2)|(refine zP at_M ?_)|(refine zP rfl ?_)|(refine And.intro ?_ ?_;all_goals(intro hb;(try simp only [sb] at hb);try exact ex0))|(intro b0 hb)))
    exact And.intro trivial (fz_ro (by rw [norm_lm, hpv]) fun h => h)
