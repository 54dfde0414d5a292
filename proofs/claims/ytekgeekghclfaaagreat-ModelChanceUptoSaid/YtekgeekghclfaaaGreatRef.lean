import Derived.Test.YtekgeekghclfaaaGreatNatM
set_option linter.all false
namespace Go.Ev
open Go.Proofs
set_option maxRecDepth 10000
set_option maxHeartbeats 4000000
set_option linter.unusedSimpArgs false
set_option linter.unusedVariables false
theorem rlimb_ok (l : List UInt32) (i : Int) (h0 : 0 ≤ i) : Ok Tryz.prog 124 [tn l, .con (.int .i64 i)] true (.con (.int .u64 (l.getD i.toNat 0).toNat)) := by
  refine ok_of_ev (fun _ _ _ h => h) mix Tryz.func124 rfl rfl (by kernel_rfl) (Nat.le_of_ble_eq_true rfl) ?_
  repeat' (first|(with_reducible first|refine zA ?_|refine zB ?_|refine zC ?_|refine zD ?_|refine zE ?_|refine zF ?_|refine zG ?_|refine zH ?_|refine zI ?_|refine zJ ?_|refine zK ?_|refine zL ?_)|(with_reducible refine reg_i ?_;intro K hK)|(with_reducible refine drw_i ?_;intro K hK)|((with_reducible refine cond_t ?hc ?_);(case hc=>rfl))|((with_reducible refine cond_f ?hc ?_);(case hc=>rfl))|((with_reducible refine cond_m ?_);refine And.intro ?_ ?_;all_goals(intro hb;(try simp only [sb] at hb);try exact ex0))|(refine hK _ ?_;clear hK K)|(refine hK _ _ rfl ?_;clear hK K)|(have hg:=hK;clear hg;first|(refine And.intro ?zz ?_;case zz=>first|exact rfl|exact zO rfl|omega|exact gI)|(refine fresh_n ?_)|(refine freshO_n ?_)|(refine at_Q ?_;intro hu)|(refine zP wA ?_)|(refine mul_Q ?_;intro hm1 hm2)|(refine zP at_M ?_)|(refine zP rfl ?_)|(refine And.intro ?_ ?_;all_goals(intro hb;(try simp only [sb] at hb);try exact ex0))|(intro b0 hb)))
  · exact And.intro trivial (fz_con rfl)
  · exact And.intro trivial (fz_con (by simp [List.getD, List.getElem?_eq_none (show l.length ≤ i.toNat by omega)]))
theorem all1 (f : Bool) (n m : Nat) (l : List UInt32) : ∀ y ∈ List.map (V.ofA f) (List.take n (List.drop m (List.map tu32 l))), y.cells.length = 1 := by
  intro y hy
  obtain ⟨t, ht, rfl⟩ := List.mem_map.1 hy
  obtain ⟨u, _, rfl⟩ := List.mem_map.1 (List.mem_of_mem_drop (List.mem_of_mem_take ht))
  rfl
theorem fz_app {f : Bool} {l : List UInt32} {n k : Nat} (hn : n ≤ l.length) (hk : k = n) : FzA [(0, ⟨1, List.map (V.ofA f) (List.take k (List.drop 0 (List.map tu32 l))), 0, true⟩)] true (.own 0 0 0 (List.map (V.ofA f) (List.take k (List.drop 0 (List.map tu32 l)))).length) (tn (l.take n)) := by
  subst hk
  have e : List.map (V.ofA f) (List.take k (List.drop 0 (List.map tu32 l))) = (l.take k).map cu := by
    rw [List.drop_zero, ← List.map_take, List.map_map]; rfl
  rw [e]
  refine fz_own (l := l.take k) (F := cu) (G := tu32) rfl rfl rfl ?_ ?_ (fun a _ => fze_con _) rfl
  · simp
  · show List.take _ (List.drop 0 ((l.take k).map cu)) = _
    rw [List.drop_zero, List.take_of_length_le (by simp)]
theorem rNorm_ok (l : List UInt32) (hl : l.length ≤ 2199023255552) : Ok Tryz.prog 91 [tn l] true (tn (norm l)) := by
  refine ok_of_ev (fun _ _ _ h => h) mix Tryz.func91 rfl rfl (by kernel_rfl) (Nat.le_of_ble_eq_true rfl) ?_
  repeat' (first|(with_reducible first|refine zA ?_|refine zB ?_|refine zC ?_|refine zD ?_|refine zE ?_|refine zF ?_|refine zG ?_|refine zH ?_|refine zI ?_|refine zJ ?_|refine zK ?_|refine zL ?_)|(with_reducible refine reg_i ?_;intro K hK)|(with_reducible refine drw_i ?_;intro K hK)|((with_reducible refine cond_t ?hc ?_);(case hc=>rfl))|((with_reducible refine cond_f ?hc ?_);(case hc=>rfl))|((with_reducible refine cond_m ?_);refine And.intro ?_ ?_;all_goals(intro hb;(try simp only [sb] at hb);try exact ex0))|(refine hK _ ?_;clear hK K)|(refine hK _ _ rfl ?_;clear hK K)|(have hg:=hK;clear hg;first|(refine And.intro ?zz ?_;case zz=>first|exact rfl|exact zO rfl|omega|exact gI)|(refine fresh_n ?_)|(refine freshO_n ?_)|(refine at_Q ?_;intro hu)|(refine zP wA ?_)|(refine mul_Q ?_;intro hm1 hm2)|(refine zP at_M ?_)|(refine zP rfl ?_)|(refine And.intro ?_ ?_;all_goals(intro hb;(try simp only [sb] at hb);try exact ex0))|(intro b0 hb)))
  refine loop_i Nat (fun n => ⟨Tryz.f91.ntmps, [(0, .ro false (tn l)), (3, .con (.int .i64 (n : Nat)))], []⟩) (fun n => n ≤ l.length ∧ norm (l.take n) = norm l) (fun n => n) [] l.length trivial ⟨Nat.le_refl _, by rw [List.take_length]⟩ ⟨rfl, ⟨rfl, trivial, ?_, trivial, trivial⟩, trivial, trivial⟩ ?_
  · show V.con (.int .i64 ((l.map tu32).length : Int)) = _; rw [List.length_map]
  rintro n ⟨h1, h2⟩
  repeat' (first|(with_reducible first|refine zA ?_|refine zB ?_|refine zC ?_|refine zD ?_|refine zE ?_|refine zF ?_|refine zG ?_|refine zH ?_|refine zI ?_|refine zJ ?_|refine zK ?_|refine zL ?_)|(with_reducible refine reg_i ?_;intro K hK)|(with_reducible refine drw_i ?_;intro K hK)|((with_reducible refine cond_t ?hc ?_);(case hc=>rfl))|((with_reducible refine cond_f ?hc ?_);(case hc=>rfl))|((with_reducible refine cond_m ?_);refine And.intro ?_ ?_;all_goals(intro hb;(try simp only [sb] at hb);try exact ex0))|(refine hK _ ?_;clear hK K)|(refine hK _ _ rfl ?_;clear hK K)|(have hg:=hK;clear hg;first|(refine And.intro ?zz ?_;case zz=>first|exact rfl|exact zO rfl|omega|exact gI)|(refine fresh_n ?_)|(refine freshO_n ?_)|(refine at_Q ?_;intro hu)|(refine zP wA ?_)|(refine mul_Q ?_;intro hm1 hm2)|(refine zP at_M ?_)|(refine zP rfl ?_)|(refine And.intro ?_ ?_;all_goals(intro hb;(try simp only [sb] at hb);try exact ex0))|(intro b0 hb)))
  · have e : ((n : Int) - 1).toNat = n - 1 := by omega
    rw [e] at hb
    refine ⟨n - 1, ⟨by omega, ?_⟩, by omega, rfl, ⟨rfl, trivial, ?_, trivial, trivial⟩, trivial, trivial⟩
    · have hd := norm_drop (l := l.take n) (by
        rw [List.length_take, Nat.min_eq_left h1]
        have h9 : (l.getD (n - 1) default).toNat = 0 := by omega
        have := UInt32.toNat_inj.1 (h9.trans (show 0 = (0 : UInt32).toNat from rfl))
        show (List.take n l).getD (n - 1) default = 0
        have e9 : (List.take n l).getD (n - 1) default = l.getD (n - 1) default := by
          simp only [List.getD, List.getElem?_take, if_pos (show n - 1 < n by omega)]
        rw [e9]; exact this)
      rw [List.length_take, Nat.min_eq_left h1, List.take_take, Nat.min_eq_left (by omega)] at hd
      rw [hd, h2]
    · show V.con (.int .i64 ((n : Int) - 1)) = V.con (.int .i64 ((n - 1 : Nat) : Int))
      rw [show ((n - 1 : Nat) : Int) = (n : Int) - 1 by omega]
  · refine And.intro (all1 _ _ _ _) ?_
    repeat' (first|(with_reducible first|refine zA ?_|refine zB ?_|refine zC ?_|refine zD ?_|refine zE ?_|refine zF ?_|refine zG ?_|refine zH ?_|refine zI ?_|refine zJ ?_|refine zK ?_|refine zL ?_)|(with_reducible refine reg_i ?_;intro K hK)|(with_reducible refine drw_i ?_;intro K hK)|((with_reducible refine cond_t ?hc ?_);(case hc=>rfl))|((with_reducible refine cond_f ?hc ?_);(case hc=>rfl))|((with_reducible refine cond_m ?_);refine And.intro ?_ ?_;all_goals(intro hb;(try simp only [sb] at hb);try exact ex0))|(refine hK _ ?_;clear hK K)|(refine hK _ _ rfl ?_;clear hK K)|(have hg:=hK;clear hg;first|(refine And.intro ?zz ?_;case zz=>first|exact rfl|exact zO rfl|omega|exact gI)|(refine fresh_n ?_)|(refine freshO_n ?_)|(refine at_Q ?_;intro hu)|(refine zP wA ?_)|(refine mul_Q ?_;intro hm1 hm2)|(refine zP at_M ?_)|(refine zP rfl ?_)|(refine And.intro ?_ ?_;all_goals(intro hb;(try simp only [sb] at hb);try exact ex0))|(intro b0 hb)))
    have e : ((n : Int) - 1).toNat = n - 1 := by omega
    rw [e] at hb
    have hn : l.take n = norm l := by
      rw [← h2]
      refine (norm_last fun hz => hb ?_).symm
      rw [List.length_take, Nat.min_eq_left h1] at hz
      have : l.getD (n - 1) default = 0 := by rw [← hz]; simp [List.getD, List.getElem?_take, show n - 1 < n by omega]; rfl
      rw [this]; rfl
    rw [← hn]
    exact And.intro trivial (fz_app h1 (by omega))
  · refine And.intro (all1 _ _ _ _) ?_
    repeat' (first|(with_reducible first|refine zA ?_|refine zB ?_|refine zC ?_|refine zD ?_|refine zE ?_|refine zF ?_|refine zG ?_|refine zH ?_|refine zI ?_|refine zJ ?_|refine zK ?_|refine zL ?_)|(with_reducible refine reg_i ?_;intro K hK)|(with_reducible refine drw_i ?_;intro K hK)|((with_reducible refine cond_t ?hc ?_);(case hc=>rfl))|((with_reducible refine cond_f ?hc ?_);(case hc=>rfl))|((with_reducible refine cond_m ?_);refine And.intro ?_ ?_;all_goals(intro hb;(try simp only [sb] at hb);try exact ex0))|(refine hK _ ?_;clear hK K)|(refine hK _ _ rfl ?_;clear hK K)|(have hg:=hK;clear hg;first|(refine And.intro ?zz ?_;case zz=>first|exact rfl|exact zO rfl|omega|exact gI)|(refine fresh_n ?_)|(refine freshO_n ?_)|(refine at_Q ?_;intro hu)|(refine zP wA ?_)|(refine mul_Q ?_;intro hm1 hm2)|(refine zP at_M ?_)|(refine zP rfl ?_)|(refine And.intro ?_ ?_;all_goals(intro hb;(try simp only [sb] at hb);try exact ex0))|(intro b0 hb)))
    have hn : l.take n = norm l := by
      rw [← h2, show n = 0 by omega]; rfl
    rw [← hn]
    exact And.intro trivial (fz_app h1 (by omega))
theorem tmod_nat (T : Nat) : (T : Int).tmod 4294967296 = ((T % 4294967296 : Nat) : Int) := by
  rw [Int.tmod_eq_emod_of_nonneg (by omega)]; simp
theorem tdiv_nat (T : Nat) : (T : Int).tdiv 4294967296 = ((T / 4294967296 : Nat) : Int) := by
  rw [Int.tdiv_eq_ediv_of_nonneg (by omega)]; simp
theorem rMul_ok (a b : List UInt32) (ha : a.length ≤ 1099511627776) (hb : b.length ≤ 1099511627776) : Ok Tryz.prog 80 [tn a, tn b] true (tn (lm (val a * val b))) := by
  refine ok_of_ev (fun _ _ _ h => h) mix Tryz.func80 rfl rfl (by kernel_rfl) (Nat.le_of_ble_eq_true rfl) ?_
  have hna := norm_le a
  have hnb := norm_le b
  repeat' (first|(with_reducible first|refine zA ?_|refine zB ?_|refine zC ?_|refine zD ?_|refine zE ?_|refine zF ?_|refine zG ?_|refine zH ?_|refine zI ?_|refine zJ ?_|refine zK ?_|refine zL ?_)|(with_reducible refine reg_i ?_;intro K hK)|(with_reducible refine drw_i ?_;intro K hK)|((with_reducible refine cond_t ?hc ?_);(case hc=>rfl))|((with_reducible refine cond_f ?hc ?_);(case hc=>rfl))|((with_reducible refine cond_m ?_);refine And.intro ?_ ?_;all_goals(intro hb;(try simp only [sb] at hb);try exact ex0))|(refine hK _ ?_;clear hK K)|(refine hK _ _ rfl ?_;clear hK K)|(have hg:=hK;clear hg;first|(refine And.intro ?zz ?_;case zz=>first|exact rfl|exact zO rfl|omega|exact gI)|(refine fresh_n ?_)|(refine freshO_n ?_)|(refine at_Q ?_;intro hu)|(refine zP wA ?_)|(refine mul_Q ?_;intro hm1 hm2)|(refine zP at_M ?_)|(refine zP rfl ?_)|(refine zQ (rNorm_ok a (by omega)) ?_)|(refine zQ (rNorm_ok b (by omega)) ?_)|(refine And.intro ?_ ?_;all_goals(intro hb;(try simp only [sb] at hb);try exact ex0))|(intro b0 hb)))
  rw [← val_norm a, ← val_norm b]
  have hx : (norm a).length ≤ 1099511627776 := by omega
  have hy : (norm b).length ≤ 1099511627776 := by omega
  clear hna hnb
  generalize norm a = x at *
  generalize norm b = y at *
  refine loop_i (Int × List UInt32) (fun (i, p) => ⟨Tryz.f80.ntmps, [(5, .ro true (tn x)), (6, .ro true (tn y)), (7, .own 0 0 0 (x.length + y.length)), (8, .con (.int .i64 i))], [(0, ⟨1, p.map cu, 0, true⟩)]⟩)
    (fun (i, p) => 0 ≤ i ∧ i ≤ x.length ∧ p.length = x.length + y.length ∧ val p = val (x.take i.toNat) * val y) (fun (i, p) => (x.length - i).toNat) [] (0, List.replicate (x.length + y.length) 0) trivial ⟨by omega, by omega, by simp, ?_⟩ ⟨rfl, ⟨rfl, trivial, rfl, trivial, ?_, rfl, rfl, trivial, trivial⟩, ⟨?_, trivial⟩, clObjs_cu _ _⟩ ?_
  · rw [val_replicate]; simp [val]
  · show V.own _ _ _ _ = _
    simp only [List.length_map]
    congr 1
  · show some _ = some _
    congr 1
    congr 1
    simp only [List.length_map]
    rw [List.map_replicate, show ((x.length : Int) + (y.length : Int)).toNat = x.length + y.length by omega]
    rfl
  rintro ⟨i, p⟩ ⟨h0, h1, hpl, hpv⟩
  repeat' (first|(with_reducible first|refine zA ?_|refine zB ?_|refine zC ?_|refine zD ?_|refine zE ?_|refine zF ?_|refine zG ?_|refine zH ?_|refine zI ?_|refine zJ ?_|refine zK ?_|refine zL ?_)|(with_reducible refine reg_i ?_;intro K hK)|(with_reducible refine drw_i ?_;intro K hK)|((with_reducible refine cond_t ?hc ?_);(case hc=>rfl))|((with_reducible refine cond_f ?hc ?_);(case hc=>rfl))|((with_reducible refine cond_m ?_);refine And.intro ?_ ?_;all_goals(intro hb;(try simp only [sb] at hb);try exact ex0))|(refine hK _ ?_;clear hK K)|(refine hK _ _ rfl ?_;clear hK K)|(have hg:=hK;clear hg;first|(refine And.intro ?zz ?_;case zz=>first|exact rfl|exact zO rfl|omega|exact gI)|(refine fresh_n ?_)|(refine freshO_n ?_)|(refine at_Q ?_;intro hu)|(refine zP wA ?_)|(refine mul_Q ?_;intro hm1 hm2)|(refine zP at_M ?_)|(refine zP rfl ?_)|(refine And.intro ?_ ?_;all_goals(intro hb;(try simp only [sb] at hb);try exact ex0))|(intro b0 hb)))
  · refine loop_i (Nat × List UInt32 × Nat) (fun (k, q, c) => ⟨Tryz.f80.ntmps, [(5, .ro true (tn x)), (6, .ro true (tn y)), (7, .own 0 0 0 (x.length + y.length)), (8, .con (.int .i64 i)), (9, .con (.int .u64 c)), (10, .con (.int .i64 k))], [(0, ⟨1, q.map cu, 0, true⟩)]⟩)
      (fun (k, q, c) => k ≤ y.length ∧ q.length = x.length + y.length ∧ c < 4294967296 ∧ val q + c * 4294967296 ^ (i.toNat + k) = val p + (x.getD i.toNat default).toNat * val (y.take k) * 4294967296 ^ i.toNat ∧ q.drop (i.toNat + k) = p.drop (i.toNat + k)) (fun (k, q, c) => y.length - k) [] (0, p, 0) trivial ⟨by omega, hpl, by decide, by simp [val], rfl⟩ ⟨rfl, ⟨rfl, trivial, rfl, trivial, rfl, rfl, rfl, trivial, rfl, trivial, rfl, trivial, trivial⟩, ⟨rfl, trivial⟩, clObjs_cu _ _⟩ ?_
    rintro ⟨k, q, c⟩ ⟨g0, g1, g2, g3, g4⟩
    repeat' (first|(with_reducible first|refine zA ?_|refine zB ?_|refine zC ?_|refine zD ?_|refine zE ?_|refine zF ?_|refine zG ?_|refine zH ?_|refine zI ?_|refine zJ ?_|refine zK ?_|refine zL ?_)|(with_reducible refine reg_i ?_;intro K hK)|(with_reducible refine drw_i ?_;intro K hK)|((with_reducible refine cond_t ?hc ?_);(case hc=>rfl))|((with_reducible refine cond_f ?hc ?_);(case hc=>rfl))|((with_reducible refine cond_m ?_);refine And.intro ?_ ?_;all_goals(intro hb;(try simp only [sb] at hb);try exact ex0))|(refine hK _ ?_;clear hK K)|(refine hK _ _ rfl ?_;clear hK K)|(have hg:=hK;clear hg;first|(refine And.intro ?zz ?_;case zz=>first|exact rfl|exact zO rfl|omega|exact gI)|(refine fresh_n ?_)|(refine freshO_n ?_)|(refine at_Q ?_;intro hu)|(refine zP wA ?_)|(refine mul_Q ?_;intro hm1 hm2)|(refine zP at_M ?_)|(refine zP rfl ?_)|(refine And.intro ?_ ?_;all_goals(intro hb;(try simp only [sb] at hb);try exact ex0))|(intro b0 hb)))
    · have ej : (0 + (i + (k : Int)).toNat) = i.toNat + k := by omega
      have ek : ((k : Int)).toNat = k := rfl
      rw [ej] at hu
      rw [ek] at hm1 hm2
      obtain ⟨xi, hxi⟩ : ∃ n, (x.getD i.toNat default).toNat = n := ⟨_, rfl⟩
      obtain ⟨yk, hyk⟩ : ∃ n, (y.getD k default).toNat = n := ⟨_, rfl⟩
      obtain ⟨qj, hqj⟩ : ∃ n, (q.getD (i.toNat + k) default).toNat = n := ⟨_, rfl⟩
      have hstep := mul_step (p := p) (p' := q) (y := y) (xi := xi) (c := c) (i := i.toNat) (k := k) (t := c + (xi * yk + qj)) (by omega) (by omega) (by rw [← hxi]; exact g3) (by rw [hyk, hqj])
      have hT : c + (xi * yk + qj) < 18446744073709551616 := by
        rw [hxi, hyk] at hm2
        have hm2' : ((xi * yk : Nat) : Int) ≤ 18446744065119617025 := by rw [Int.natCast_mul]; exact hm2
        omega
      have eT : ((c : Int) + (xi : Int) * (yk : Int) + (qj : Int)) = ((c + (xi * yk + qj) : Nat) : Int) := by simp [Int.add_assoc]
      refine ⟨(k + 1, q.set (i.toNat + k) (UInt32.ofNat (c + (xi * yk + qj))), (c + (xi * yk + qj)) / 4294967296), ⟨by omega, by rw [List.length_set]; exact g1, by omega, ?ga, ?gb⟩, by show y.length - (k + 1) < y.length - k; omega, rfl, ⟨rfl, trivial, rfl, trivial, rfl, rfl, rfl, trivial, ?gc, trivial, rfl, trivial, trivial⟩, ⟨?gd, trivial⟩, clObjs_cu _ _⟩
      case ga => rw [show i.toNat + (k + 1) = i.toNat + k + 1 by omega, hxi]; exact hstep
      case gb => rw [show i.toNat + (k + 1) = i.toNat + k + 1 by omega]; exact drop_set_succ g4
      case gc =>
        refine congrArg (fun n => V.con (.int .u64 n)) (?_ : IntKind.u64.wrap (((c : Int) + ((x.getD i.toNat default).toNat : Int) * ((y.getD ((k : Int)).toNat default).toNat : Int) + ((q.getD (0 + (i + (k : Int)).toNat) default).toNat : Int)).tdiv 4294967296) = _)
        rw [ej, ek, hxi, hyk, hqj, eT, tdiv_nat]
        exact (wrapU64 (by omega) (by omega)).symm
      case gd =>
        refine congrArg (fun l => some (Obj.mk 1 l 0 true)) (?_ : (q.map cu).set (0 + (i + (k : Int)).toNat) (V.con (.int .u32 (IntKind.u32.wrap (((c : Int) + ((x.getD i.toNat default).toNat : Int) * ((y.getD ((k : Int)).toNat default).toNat : Int) + ((q.getD (0 + (i + (k : Int)).toNat) default).toNat : Int)).tmod 4294967296)))) = _)
        rw [ej, ek, hxi, hyk, hqj, List.map_set, eT, tmod_nat, wrap32 (by omega)]
        have e5 : UInt32.ofNat (((c + (xi * yk + qj)) % 4294967296 : Nat) : Int).toNat = UInt32.ofNat (c + (xi * yk + qj)) := UInt32.toNat_inj.1 (by rw [Int.toNat_natCast, UInt32.toNat_ofNat', UInt32.toNat_ofNat', Nat.mod_mod])
        show (q.map cu).set (i.toNat + k) (cu (UInt32.ofNat (((c + (xi * yk + qj)) % 4294967296 : Nat) : Int).toNat)) = _
        rw [e5]
    · have hkk : k = y.length := by omega
      subst hkk
      have ej : (0 + (i + ((y.map tu32).length : Int)).toNat) = i.toNat + y.length := by rw [List.length_map]; omega
      rw [List.take_length] at g3
      have hc32 : (UInt32.ofNat c).toNat = c := by simp; omega
      refine ⟨(i + 1, q.set (i.toNat + y.length) (UInt32.ofNat c)), ⟨by omega, by omega, by rw [List.length_set]; exact g1, ?ga⟩, by show ((x.length : Int) - (i + 1)).toNat < ((x.length : Int) - i).toNat; omega, rfl, ⟨rfl, trivial, rfl, trivial, rfl, rfl, rfl, trivial, trivial⟩, ⟨?gd, trivial⟩, clObjs_cu _ _⟩
      case ga =>
        rw [show (i + 1).toNat = i.toNat + 1 by omega]
        exact mul_end (by omega) (by omega) hpv (by rw [hc32]; exact g3) g4
      case gd =>
        refine congrArg (fun l => some (Obj.mk 1 l 0 true)) (?_ : (q.map cu).set (0 + (i + ((y.map tu32).length : Int)).toNat) (V.con (.int .u32 (c : Int))) = _)
        rw [ej, List.map_set]
        refine congrArg (fun v => (q.map cu).set _ v) ?_
        show _ = V.con (.int .u32 (((UInt32.ofNat c).toNat : Nat) : Int))
        rw [hc32]
  · have hii : i.toNat = x.length := by omega
    rw [hii, List.take_length] at hpv
    refine Or.inl (Exists.intro _ (Exists.intro _ (Exists.intro _ (And.intro (rNorm_ok p (by omega)) (Exists.intro [(0, ?o)] (And.intro (lpre1 ?ho) (And.intro ?z (And.intro rfl ?_))))))))
    case ho => exact rfl
    case z =>
      refine fzl1 (fz_own (l := p) (F := fun x => V.con (.int .u32 x.toNat)) (G := tu32) rfl rfl rfl hpl ?_ (fun a _ => fze_con _) rfl)
      show List.take _ (List.drop 0 (p.map cu)) = _
      rw [List.drop_zero, List.take_of_length_le (by rw [List.length_map]; omega)]
      rfl
    repeat' (first|(with_reducible first|refine zA ?_|refine zB ?_|refine zC ?_|refine zD ?_|refine zE ?_|refine zF ?_|refine zG ?_|refine zH ?_|refine zI ?_|refine zJ ?_|refine zK ?_|refine zL ?_)|(with_reducible refine reg_i ?_;intro K hK)|(with_reducible refine drw_i ?_;intro K hK)|((with_reducible refine cond_t ?hc ?_);(case hc=>rfl))|((with_reducible refine cond_f ?hc ?_);(case hc=>rfl))|((with_reducible refine cond_m ?_);refine And.intro ?_ ?_;all_goals(intro hb;(try simp only [sb] at hb);try exact ex0))|(refine hK _ ?_;clear hK K)|(refine hK _ _ rfl ?_;clear hK K)|(have hg:=hK;clear hg;first|(refine And.intro ?zz ?_;case zz=>first|exact rfl|exact zO rfl|omega|exact gI)|(refine fresh_n ?_)|(refine freshO_n ?_)|(refine at_Q ?_;intro hu)|(refine zP wA ?_)|(refine mul_Q ?_;intro hm1 hm2)|(refine zP at_M ?_)|(refine zP rfl ?_)|(refine And.intro ?_ ?_;all_goals(intro hb;(try simp only [sb] at hb);try exact ex0))|(intro b0 hb)))
    exact And.intro trivial (fz_ro (by rw [norm_lm, hpv]) fun h => h)
theorem limb0 (l : List UInt32) {n : Nat} (h : l.length ≤ n) : l.getD n 0 = 0 := by simp [List.getD, List.getElem?_eq_none h]
theorem val_drop_succ (l : List UInt32) (i : Nat) : val (l.drop i) = (l.getD i 0).toNat + 4294967296 * val (l.drop (i + 1)) := by
  by_cases h : i < l.length
  · rw [List.drop_eq_getElem_cons h, val]
    simp [List.getD, h]
  · rw [List.drop_eq_nil_of_le (by omega), List.drop_eq_nil_of_le (by omega), limb0 l (by omega)]; rfl
theorem val_split (l : List UInt32) (i : Nat) : val l = val (l.take i) + 4294967296 ^ i * val (l.drop i) := by
  by_cases h : i ≤ l.length
  · conv => lhs; rw [← List.take_append_drop i l]
    rw [val_append, List.length_take, Nat.min_eq_left h]
  · rw [List.take_of_length_le (by omega), List.drop_eq_nil_of_le (by omega)]; simp [val]
theorem val_over {a b : List UInt32} {i : Nat} (h : val (a.drop (i + 1)) = val (b.drop (i + 1))) (hlt : (a.getD i 0).toNat < (b.getD i 0).toNat) : val a < val b := by
  rw [val_split a i, val_split b i, val_drop_succ a, val_drop_succ b, h]
  have h1 := val_lt (a.take i)
  have h2 : 4294967296 ^ (a.take i).length ≤ 4294967296 ^ i := Nat.pow_le_pow_right (by decide) (by simp; omega)
  have h3 : 4294967296 ^ i * ((a.getD i 0).toNat + 1) ≤ 4294967296 ^ i * (b.getD i 0).toNat := Nat.mul_le_mul_left _ hlt
  rw [Nat.mul_add, Nat.mul_add]
  rw [Nat.mul_add, Nat.mul_one] at h3
  omega
theorem rCmp_ok (a b : List UInt32) (ha : a.length ≤ 2199023255552) (hb : b.length ≤ 2199023255552) : Ok Tryz.prog 119 [tn a, tn b] true (.con (.int .i64 (cmpN (val a) (val b)))) := by
  refine ok_of_ev (fun _ _ _ h => h) mix Tryz.func119 rfl rfl (by kernel_rfl) (Nat.le_of_ble_eq_true rfl) ?_
  repeat' (first|(with_reducible first|refine zA ?_|refine zB ?_|refine zC ?_|refine zD ?_|refine zE ?_|refine zF ?_|refine zG ?_|refine zH ?_|refine zI ?_|refine zJ ?_|refine zK ?_|refine zL ?_)|(with_reducible refine reg_i ?_;intro K hK)|(with_reducible refine drw_i ?_;intro K hK)|((with_reducible refine cond_t ?hc ?_);(case hc=>rfl))|((with_reducible refine cond_f ?hc ?_);(case hc=>rfl))|((with_reducible refine cond_m ?_);refine And.intro ?_ ?_;all_goals(intro hb;(try simp only [sb] at hb);try exact ex0))|(refine hK _ ?_;clear hK K)|(refine hK _ _ rfl ?_;clear hK K)|(have hg:=hK;clear hg;first|(refine And.intro ?zz ?_;case zz=>first|exact rfl|exact zO rfl|omega|exact gI)|(refine fresh_n ?_)|(refine freshO_n ?_)|(refine at_Q ?_;intro hu)|(refine zP wA ?_)|(refine mul_Q ?_;intro hm1 hm2)|(refine zP at_M ?_)|(refine zP rfl ?_)|(refine And.intro ?_ ?_;all_goals(intro hb;(try simp only [sb] at hb);try exact ex0))|(intro b0 hb)))
  · refine loop_i Int (fun i => ⟨Tryz.f119.ntmps, [(0, .ro false (tn a)), (1, .ro false (tn b)), (6, .con (.int .i64 i))], []⟩) (fun i => -1 ≤ i ∧ i < b.length ∧ val (a.drop (i + 1).toNat) = val (b.drop (i + 1).toNat)) (fun i => (i + 1).toNat) [] (b.length - 1 : Int) trivial ⟨by omega, by omega, ?_⟩ ⟨rfl, ⟨rfl, trivial, rfl, trivial, ?_, trivial, trivial⟩, trivial, trivial⟩ ?_
    · have e : ((b.length : Int) - 1 + 1).toNat = b.length := by omega
      rw [e, List.drop_eq_nil_of_le (by omega), List.drop_eq_nil_of_le (by omega)]
    · show V.con (.int .i64 (((b.map tu32).length : Int) - 1)) = _; rw [List.length_map]
    rintro i ⟨h0, h1, h2⟩
    repeat' (first|(with_reducible first|refine zA ?_|refine zB ?_|refine zC ?_|refine zD ?_|refine zE ?_|refine zF ?_|refine zG ?_|refine zH ?_|refine zI ?_|refine zJ ?_|refine zK ?_|refine zL ?_)|(with_reducible refine reg_i ?_;intro K hK)|(with_reducible refine drw_i ?_;intro K hK)|((with_reducible refine cond_t ?hc ?_);(case hc=>rfl))|((with_reducible refine cond_f ?hc ?_);(case hc=>rfl))|((with_reducible refine cond_m ?_);refine And.intro ?_ ?_;all_goals(intro hb;(try simp only [sb] at hb);try exact ex0))|(refine hK _ ?_;clear hK K)|(refine hK _ _ rfl ?_;clear hK K)|(have hg:=hK;clear hg;first|(refine And.intro ?zz ?_;case zz=>first|exact rfl|exact zO rfl|omega|exact gI)|(refine fresh_n ?_)|(refine freshO_n ?_)|(refine at_Q ?_;intro hu)|(refine zP wA ?_)|(refine mul_Q ?_;intro hm1 hm2)|(refine zP at_M ?_)|(refine zP rfl ?_)|(refine zQ (rlimb_ok a i (by omega)) ?_)|(refine zQ (rlimb_ok b i (by omega)) ?_)|(refine And.intro ?_ ?_;all_goals(intro hb;(try simp only [sb] at hb);try exact ex0))|(intro b0 hb)))
    · have e : (i + 1).toNat = i.toNat + 1 := by omega
      rw [e] at h2
      exact And.intro trivial (fz_con (by rw [cmpN_lt (val_over h2 (by omega))]))
    · have e : (i + 1).toNat = i.toNat + 1 := by omega
      rw [e] at h2
      exact And.intro trivial (fz_con (by rw [cmpN_gt (val_over h2.symm (by omega))]))
    · have e : (i + 1).toNat = i.toNat + 1 := by omega
      rw [e] at h2
      refine ⟨i - 1, ⟨by omega, by omega, ?_⟩, by omega, rfl, ⟨rfl, trivial, rfl, trivial, rfl, trivial, trivial⟩, trivial, trivial⟩
      rw [show (i - 1 + 1).toNat = i.toNat by omega, val_drop_succ a, val_drop_succ b, h2, show (a.getD i.toNat 0).toNat = (b.getD i.toNat 0).toNat by omega]
    · rw [show (i + 1).toNat = 0 by omega] at h2
      have h2 : val a = val b := h2
      exact And.intro trivial (fz_con (by rw [h2, cmpN_eq]))
  · refine loop_i Int (fun i => ⟨Tryz.f119.ntmps, [(0, .ro false (tn a)), (1, .ro false (tn b)), (6, .con (.int .i64 i))], []⟩) (fun i => -1 ≤ i ∧ i < a.length ∧ val (a.drop (i + 1).toNat) = val (b.drop (i + 1).toNat)) (fun i => (i + 1).toNat) [] (a.length - 1 : Int) trivial ⟨by omega, by omega, ?_⟩ ⟨rfl, ⟨rfl, trivial, rfl, trivial, ?_, trivial, trivial⟩, trivial, trivial⟩ ?_
    · have e : ((a.length : Int) - 1 + 1).toNat = a.length := by omega
      rw [e, List.drop_eq_nil_of_le (by omega), List.drop_eq_nil_of_le (by omega)]
    · show V.con (.int .i64 (((a.map tu32).length : Int) - 1)) = _; rw [List.length_map]
    rintro i ⟨h0, h1, h2⟩
    repeat' (first|(with_reducible first|refine zA ?_|refine zB ?_|refine zC ?_|refine zD ?_|refine zE ?_|refine zF ?_|refine zG ?_|refine zH ?_|refine zI ?_|refine zJ ?_|refine zK ?_|refine zL ?_)|(with_reducible refine reg_i ?_;intro K hK)|(with_reducible refine drw_i ?_;intro K hK)|((with_reducible refine cond_t ?hc ?_);(case hc=>rfl))|((with_reducible refine cond_f ?hc ?_);(case hc=>rfl))|((with_reducible refine cond_m ?_);refine And.intro ?_ ?_;all_goals(intro hb;(try simp only [sb] at hb);try exact ex0))|(refine hK _ ?_;clear hK K)|(refine hK _ _ rfl ?_;clear hK K)|(have hg:=hK;clear hg;first|(refine And.intro ?zz ?_;case zz=>first|exact rfl|exact zO rfl|omega|exact gI)|(refine fresh_n ?_)|(refine freshO_n ?_)|(refine at_Q ?_;intro hu)|(refine zP wA ?_)|(refine mul_Q ?_;intro hm1 hm2)|(refine zP at_M ?_)|(refine zP rfl ?_)|(refine zQ (rlimb_ok a i (by omega)) ?_)|(refine zQ (rlimb_ok b i (by omega)) ?_)|(refine And.intro ?_ ?_;all_goals(intro hb;(try simp only [sb] at hb);try exact ex0))|(intro b0 hb)))
    · have e : (i + 1).toNat = i.toNat + 1 := by omega
      rw [e] at h2
      exact And.intro trivial (fz_con (by rw [cmpN_lt (val_over h2 (by omega))]))
    · have e : (i + 1).toNat = i.toNat + 1 := by omega
      rw [e] at h2
      exact And.intro trivial (fz_con (by rw [cmpN_gt (val_over h2.symm (by omega))]))
    · have e : (i + 1).toNat = i.toNat + 1 := by omega
      rw [e] at h2
      refine ⟨i - 1, ⟨by omega, by omega, ?_⟩, by omega, rfl, ⟨rfl, trivial, rfl, trivial, rfl, trivial, trivial⟩, trivial, trivial⟩
      rw [show (i - 1 + 1).toNat = i.toNat by omega, val_drop_succ a, val_drop_succ b, h2, show (a.getD i.toNat 0).toNat = (b.getD i.toNat 0).toNat by omega]
    · rw [show (i + 1).toNat = 0 by omega] at h2
      have h2 : val a = val b := h2
      exact And.intro trivial (fz_con (by rw [h2, cmpN_eq]))
