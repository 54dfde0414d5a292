import Derived.Test.YtekgeekghclfaaaGreatPop
set_option linter.all false
namespace Go.Ev
open Go.Proofs
set_option maxRecDepth 10000
set_option maxHeartbeats 4000000
set_option linter.unusedSimpArgs false
set_option linter.unusedVariables false
def hpC (n : Nat) (E : List Int) (v : Nat) : OH := [(1, ⟨1, [.own 2 v 0 n], 0, true⟩), (2, ⟨1, E.map ci, v, true⟩)]
theorem rn_hp (n a v : Nat) (E : List Int) : rnO (lkM [(0, 1, 0), (1, 2, v)]) (lkV [(0, 1, 0), (1, 2, v)]) (hpO n E a) = hpC n E (v + a) := by
  have e : (E.map ci).map (V.rnA (lkM [(0, 1, 0), (1, 2, v)]) (lkV [(0, 1, 0), (1, 2, v)])) = E.map ci := rn_map (fun _ => rfl) E
  show [(1, (⟨1, [.own 2 (v + a) 0 n], 0, true⟩ : Obj)), (2, ⟨1, (E.map ci).map (V.rnA (lkM [(0, 1, 0), (1, 2, v)]) (lkV [(0, 1, 0), (1, 2, v)])), v + a, true⟩)] = _
  rw [e]; rfl
def lft (P : PL) (i : Nat) : List Int := (lens P).take i ++ List.replicate (P.length - i) 0
theorem lens_len (P : PL) : (lens P).length = P.length := by simp [lens]
theorem lft_len (P : PL) (i : Nat) (h : i ≤ P.length) : (lft P i).length = P.length := by
  have := lens_len P
  simp [lft]; omega
theorem lft_set {P : PL} {i : Nat} (h : i < P.length) : (lft P i).set i ((P.getD i default).length : Int) = lft P (i + 1) := by
  have hl := lens_len P
  unfold lft
  rw [List.set_append_right _ _ (by rw [List.length_take]; omega), List.length_take, Nat.min_eq_left (by omega), Nat.sub_self, show P.length - i = (P.length - (i + 1)) + 1 by omega, List.replicate_succ, List.set_cons_zero,
    List.take_succ_eq_append_getElem (by omega)]
  have e : (lens P)[i]'(by omega) = ((P.getD i default).length : Int) := by simp [lens, List.getD, h]
  rw [e]; simp
theorem lft_end (P : PL) : lft P P.length = lens P := by
  unfold lft
  rw [List.take_of_length_le (by rw [lens_len]; exact Nat.le_refl _)]; simp
def hpS (l : List Int) (h : HS) : OH := [(0, ⟨1, l.map ci, 0, true⟩), (1, ⟨1, [.own 2 h.v 0 h.len], 0, true⟩), (2, ⟨1, h.E.map ci, h.v, true⟩)]
def stS1 (N : Nat) (P D : PL) (i : Nat) : St := ⟨N, [(1, .ro false (tILL D)), (5, .own 0 0 0 P.length), (6, .ref 1 0 0 0), (16, .ro false (tILL P)), (17, .con (.int .i64 P.length)), (18, .con (.int .i64 i))], hpS (lft P i) (kInit P i)⟩
def stS2 (N n : Nat) (D : PL) (s : KR) : St := ⟨N, [(1, .ro false (tILL D)), (5, .own 0 0 0 n), (6, .ref 1 0 0 0), (9, .own 3 s.out.length 0 s.out.length)], hpS s.m.left s.m.h ++ [(3, ⟨1, s.out.map ci, s.out.length, true⟩)]⟩
def stS3 (N n : Nat) (D : PL) (r out : List Int) (m : KM) (j : Nat) : St := ⟨N, [(1, .ro false (tILL D)), (5, .own 0 0 0 n), (6, .ref 1 0 0 0), (9, .own 3 out.length 0 out.length), (45, .ro false (tIL r)), (46, .con (.int .i64 r.length)), (47, .con (.int .i64 j))], hpS m.left m.h ++ [(3, ⟨1, out.map ci, out.length, true⟩)]⟩
theorem hpS_lf {oh oh1 : OH} {l : List Int} {h : HS} (h0 : oget oh 0 = some ⟨1, l.map ci, 0, true⟩) (h1 : oget oh 1 = some ⟨1, [.own 2 h.v 0 h.len], 0, true⟩) (h2 : oget oh 2 = some ⟨1, h.E.map ci, h.v, true⟩) (h3 : (oget oh1 2).isSome = true) (r : OH)
    (hr : lfObjs oh oh1 r) : lfObjs oh oh1 (hpS l h ++ r) := by
  refine ⟨lfOb_same h0 (ci_flat _), lfOb_keep h1 ?_, lfOb_same h2 (ci_flat _), hr⟩
  intro u hu
  obtain rfl := List.mem_singleton.1 hu
  exact Lc.same _ h3
theorem sorted_ok (P D : PL) (hP : P.length ≤ 1073741824) (hR : ∀ l ∈ P, l.length ≤ 1073741824) (hO : OkP P) (hD : Ch P D) : Ok Tryz.prog 72 [tILL P, tILL D] true (tIL (sortedF P D)) := by
  refine ok_of_ev (fun _ _ _ h => h) mix Tryz.func72 rfl rfl (by kernel_rfl) (Nat.le_of_ble_eq_true rfl) ?_
  repeat' (first|(with_reducible first|refine zA ?_|refine zB ?_|refine zC ?_|refine zD ?_|refine zE ?_|refine zF ?_|refine zG ?_|refine zH ?_|refine zI ?_|refine zJ ?_|refine zK ?_|refine zL ?_)|(with_reducible refine reg_i ?_;intro K hK)|(with_reducible refine drw_i ?_;intro K hK)|((with_reducible refine cond_t ?hc ?_);(case hc=>rfl))|((with_reducible refine cond_f ?hc ?_);(case hc=>rfl))|((with_reducible refine cond_m ?_);refine And.intro ?_ ?_;all_goals(intro hb;(try simp only [sn,sb] at hb);try exact ex0))|(refine hK _ ?_;clear hK K)|(refine hK _ _ rfl ?_;clear hK K)|(have hg:=hK;clear hg;first|(refine And.intro ?zz ?_;case zz=>first|exact rfl|exact zO rfl|omega|exact gJ)|(refine fresh_c 0 rfl ?_)|(refine fresh_c 1 rfl ?_)|(refine freshO_n ?_)|(refine at_Q ?_;intro hu)|(refine zP wA ?_)|(refine mul_Q ?_;intro hm1 hm2)|(refine zP at_M ?_)|(refine zP rfl ?_)|(refine And.intro ?_ ?_;all_goals(intro hb;(try simp only [sn,sb] at hb);try exact ex0))|(intro b0 hb)))
  refine loop_f Nat (stS1 Tryz.f72.ntmps P D) (fun i => i ≤ P.length) (fun i => P.length - i) 0 (Nat.zero_le _) (lf_of0 ?_ ?_) ?_
  · exact ⟨Lc.same _ trivial, lc_own (by rw [Int.toNat_natCast, List.length_map]) rfl, Lc.same _ rfl, Lc.same _ trivial, lc_int2 (by rw [List.length_map]), Lc.same _ trivial, trivial⟩
  · refine ⟨lfOb_same ?_ (ci_flat _), lfOb_one rfl (Lc.adopt 2 _ rfl rfl), lfOb_new rfl, trivial⟩
    show some (⟨1, List.replicate (Int.toNat ((P.map tIL).length : Nat)) (V.con (.int .i64 0)), 0, true⟩ : Obj) = some ⟨1, (lft P 0).map ci, 0, true⟩
    rw [Int.toNat_natCast, List.length_map]
    simp [lft, ci]
  intro i h0
  have hki := kInit_ok P i
  have hll := lft_len P i h0
  by_cases hi : i < P.length
  · have hpush := push_ok (kInit P i) hki.1 (by omega) (i : Int)
    repeat' (first|(with_reducible first|refine zA ?_|refine zB ?_|refine zC ?_|refine zD ?_|refine zE ?_|refine zF ?_|refine zG ?_|refine zH ?_|refine zI ?_|refine zJ ?_|refine zK ?_|refine zL ?_)|(with_reducible refine reg_i ?_;intro K hK)|(with_reducible refine drw_i ?_;intro K hK)|((with_reducible refine cond_t ?hc ?_);(case hc=>rfl))|((with_reducible refine cond_f ?hc ?_);(case hc=>rfl))|((with_reducible refine cond_m ?_);refine And.intro ?_ ?_;all_goals(intro hb;(try simp only [sn,sb] at hb);try exact ex0))|(refine hK _ ?_;clear hK K)|(refine hK _ _ rfl ?_;clear hK K)|(have hg:=hK;clear hg;first|(refine And.intro ?zz ?_;case zz=>first|exact rfl|exact zO rfl|omega|exact gJ)|(refine fresh_n ?_)|(refine freshO_n ?_)|(refine at_Q ?_;intro hu)|(refine zP wA ?_)|(refine mul_Q ?_;intro hm1 hm2)|(refine zP at_M ?_)|(refine zP rfl ?_)|(refine Or.inr (Or.inr (Or.inl (gen_call ([(0, 1, 0), (1, 2, (kInit P i).v)]) (hpush) (pre' := hpC (kInit P i).len (kInit P i).E (kInit P i).v) (nw' := []) (post' := hpC (kPush (kInit P i) i).len (kPush (kInit P i) i).E ((kInit P i).v + 1)) (r' := .tup []) ?hg1 rfl ?hg3 rfl rfl ?hgp ?hgn ?hgi ?_)));(case hg1=>exact rn_hp _ _ _ _);(case hg3=>exact rn_hp _ _ _ _);(case hgp=>(repeat' (first|exact allp_nil|exact alln_nil|refine allp_cons ?_ ?_|refine alln_cons ?_ ?_|rfl)));(case hgn=>(repeat' (first|exact allp_nil|exact alln_nil|refine allp_cons ?_ ?_|refine alln_cons ?_ ?_|rfl)));(case hgi=>(first|exact inj1|exact inj2 (by decide)|exact inj2 (Nat.ne_of_lt (Nat.le_of_ble_eq_true rfl))|exact inj2 (Nat.ne_of_gt (Nat.le_of_ble_eq_true rfl)))))|(refine And.intro ?_ ?_;all_goals(intro hb;(try simp only [sn,sb] at hb);try exact ex0))|(intro b0 hb)))
    · have hr : row P i = [] := List.eq_nil_of_length_eq_zero (by show (P.getD i default).length = 0; omega)
      have hk : kInit P (i + 1) = kPush (kInit P i) i := by rw [kInit_succ, kInit1, if_pos hr]
      refine ⟨i + 1, hi, by omega, lf_of0 ?_ ?_⟩
      · exact ⟨Lc.same _ trivial, Lc.same _ rfl, Lc.same _ rfl, Lc.same _ trivial, Lc.same _ trivial, Lc.same _ trivial, trivial⟩
      · rw [← List.append_nil (hpS _ _)]
        refine hpS_lf ?_ ?_ ?_ rfl _ trivial
        · show some (⟨1, ((lft P i).map ci).set (0 + i) (ci (((P.getD i default).map tI64).length : Nat)), 0, true⟩ : Obj) = _
          rw [Nat.zero_add, lenN, ← List.map_set, lft_set hi]
        · rw [hk]; rfl
        · rw [hk]; rfl
    · have hr : ¬ row P i = [] := fun h9 => by
        have : (P.getD i default).length = 0 := by rw [show P.getD i default = [] from h9]; rfl
        omega
      have hk : kInit P (i + 1) = kInit P i := by rw [kInit_succ, kInit1, if_neg hr]
      refine ⟨i + 1, hi, by omega, lf_of0 ?_ ?_⟩
      · exact ⟨Lc.same _ trivial, Lc.same _ rfl, Lc.same _ rfl, Lc.same _ trivial, Lc.same _ trivial, Lc.same _ trivial, trivial⟩
      · rw [← List.append_nil (hpS _ _)]
        refine hpS_lf ?_ ?_ ?_ rfl _ trivial
        · show some (⟨1, ((lft P i).map ci).set (0 + i) (ci (((P.getD i default).map tI64).length : Nat)), 0, true⟩ : Obj) = _
          rw [Nat.zero_add, lenN, ← List.map_set, lft_set hi]
        · rw [hk]; rfl
        · rw [hk]; rfl
  · repeat' (first|(with_reducible first|refine zA ?_|refine zB ?_|refine zC ?_|refine zD ?_|refine zE ?_|refine zF ?_|refine zG ?_|refine zH ?_|refine zI ?_|refine zJ ?_|refine zK ?_|refine zL ?_)|(with_reducible refine reg_i ?_;intro K hK)|(with_reducible refine drw_i ?_;intro K hK)|((with_reducible refine cond_t ?hc ?_);(case hc=>rfl))|((with_reducible refine cond_f ?hc ?_);(case hc=>rfl))|((with_reducible refine cond_m ?_);refine And.intro ?_ ?_;all_goals(intro hb;(try simp only [sn,sb] at hb);try exact ex0))|(refine hK _ ?_;clear hK K)|(refine hK _ _ rfl ?_;clear hK K)|(have hg:=hK;clear hg;first|(refine And.intro ?zz ?_;case zz=>first|exact rfl|exact zO rfl|omega|exact gJ)|(refine fresh_n ?_)|(refine freshO_n ?_)|(refine at_Q ?_;intro hu)|(refine zP wA ?_)|(refine mul_Q ?_;intro hm1 hm2)|(refine zP at_M ?_)|(refine zP rfl ?_)|(refine And.intro ?_ ?_;all_goals(intro hb;(try simp only [sn,sb] at hb);try exact ex0))|(intro b0 hb)))
    have e : i = P.length := by omega
    subst e
    refine loop_f KR (stS2 Tryz.f72.ntmps P.length D) (fun s => SInv P s ∧ kRun D (P.length + 1 - s.out.length) s = sortedF P D) (fun s => P.length + 1 - s.out.length) ⟨⟨lens P, kInit P P.length⟩, []⟩ ⟨sinv_start P, rfl⟩ (lf_of0 ?_ ?_) ?_
    · exact ⟨Lc.same _ trivial, Lc.same _ rfl, Lc.same _ rfl, Lc.adopt 3 _ rfl rfl, trivial⟩
    · refine hpS_lf ?_ rfl rfl rfl _ ⟨lfOb_new rfl, trivial⟩
      show some (⟨1, (lft P P.length).map ci, 0, true⟩ : Obj) = _
      rw [lft_end]
    clear hki hll h0 hi hb
    rintro s ⟨h1, h2⟩
    have hle := h1.le
    by_cases h0 : 0 < s.m.h.len
    · obtain ⟨p, hp, hpe, hmid⟩ := h1.pop h0
      have hpop := pop_ok s.m.h h1.e (by omega) h0
      have hpD : p < D.length := by rw [hD.len]; exact hp
      repeat' (first|(with_reducible first|refine zA ?_|refine zB ?_|refine zC ?_|refine zD ?_|refine zE ?_|refine zF ?_|refine zG ?_|refine zH ?_|refine zI ?_|refine zJ ?_|refine zK ?_|refine zL ?_)|(with_reducible refine reg_i ?_;intro K hK)|(with_reducible refine drw_i ?_;intro K hK)|((with_reducible refine cond_t ?hc ?_);(case hc=>rfl))|((with_reducible refine cond_f ?hc ?_);(case hc=>rfl))|((with_reducible refine cond_m ?_);refine And.intro ?_ ?_;all_goals(intro hb;(try simp only [sn,sb] at hb);try exact ex0))|(refine hK _ ?_;clear hK K)|(refine hK _ _ rfl ?_;clear hK K)|(have hg:=hK;clear hg;first|(refine And.intro ?zz ?_;case zz=>first|exact rfl|exact zO rfl|omega|exact gJ)|(refine fresh_c 4 rfl ?_)|(refine freshO_n ?_)|(refine at_Q ?_;intro hu)|(refine zP wA ?_)|(refine mul_Q ?_;intro hm1 hm2)|(refine zP at_M ?_)|(refine zP rfl ?_)|(refine Or.inr (Or.inr (Or.inl (gen_call ([(0, 1, 0), (1, 2, s.m.h.v)]) (hpop) (pre' := hpC s.m.h.len s.m.h.E s.m.h.v) (nw' := []) (post' := hpC (kPop s.m.h).len (kPop s.m.h).E (s.m.h.v + 1)) (r' := .con (.int .i64 (s.m.h.E.getD 0 0))) ?hg1 rfl ?hg3 rfl rfl ?hgp ?hgn ?hgi ?_)));(case hg1=>exact rn_hp _ _ _ _);(case hg3=>exact rn_hp _ _ _ _);(case hgp=>(repeat' (first|exact allp_nil|exact alln_nil|refine allp_cons ?_ ?_|refine alln_cons ?_ ?_|rfl)));(case hgn=>(repeat' (first|exact allp_nil|exact alln_nil|refine allp_cons ?_ ?_|refine alln_cons ?_ ?_|rfl)));(case hgi=>(first|exact inj1|exact inj2 (by decide)|exact inj2 (Nat.ne_of_lt (Nat.le_of_ble_eq_true rfl))|exact inj2 (Nat.ne_of_gt (Nat.le_of_ble_eq_true rfl)))))|(refine And.intro ?_ ?_;all_goals(intro hb;(try simp only [sn,sb] at hb);try exact ex0))|(intro b0 hb)))
      have hto := h1.to hO hD h0 hpe
      have hrow : row D p = D.getD p default := rfl
      obtain ⟨r, hr⟩ : ∃ r, row D p = r := ⟨_, rfl⟩
      have hto0 := hto
      rw [hr] at hto
      have hrl : r.length ≤ P.length := by rw [← hr]; exact hD.rowlen p
      refine loop_f Nat (fun j => stS3 Tryz.f72.ntmps P.length D r (s.out ++ [(p : Int)]) (kTo D s j) j) (fun j => j ≤ r.length) (fun j => r.length - j) 0 (Nat.zero_le _) (lf_of0 ?_ ?_) ?_
      · have e1 : (s.out ++ [(p : Int)]).length = s.out.length + 1 := by rw [List.length_append]; rfl
        have e2 : D.getD (s.m.h.E.getD 0 0).toNat default = r := by rw [hpe, Int.toNat_natCast]; exact hr
        refine ⟨Lc.same _ trivial, Lc.same _ rfl, Lc.same _ rfl, ?_, ?_, ?_, Lc.same _ trivial, trivial⟩
        · show LV _ _ (V.own 3 (s.out.length + 1) 0 (s.out.length + 1)) (V.own 3 (s.out ++ [(p : Int)]).length 0 (s.out ++ [(p : Int)]).length)
          rw [e1]; exact Lc.same _ rfl
        · show LV _ _ (V.ro false (tIL (D.getD (s.m.h.E.getD 0 0).toNat default))) _
          rw [e2]; exact Lc.same _ trivial
        · show LV _ _ (V.con (.int .i64 (((D.getD (s.m.h.E.getD 0 0).toNat default).map tI64).length : Nat))) _
          rw [e2, lenN]; exact Lc.same _ trivial
      · refine hpS_lf rfl rfl rfl rfl _ ⟨lfOb_same ?_ (ci_flat _), trivial⟩
        show some (⟨1, (s.out.map ci).take s.out.length ++ [ci (s.m.h.E.getD 0 0)], s.out.length + 1, true⟩ : Obj) = some ⟨1, (s.out ++ [(p : Int)]).map ci, (s.out ++ [(p : Int)]).length, true⟩
        rw [List.take_of_length_le (by rw [List.length_map]; exact Nat.le_refl _), hpe, List.map_append, List.length_append]; rfl
      intro j hj0
      by_cases hj : j < r.length
      · obtain ⟨c, hc, hcP, hcl, hc1, hc2, hchild⟩ := (hto0 j (by rw [hr]; omega)).child hO hD hp (j := j) (by rw [hr]; exact hj)
        have hm := hto j (by omega)
        have hsucc : kTo D s (j + 1) = kChild (kTo D s j) c := by
          rw [kTo_succ (by rw [hpe, Int.toNat_natCast, hr]; exact hj), hpe, Int.toNat_natCast, hc]
        obtain ⟨m, hm0⟩ : ∃ m, kTo D s j = m := ⟨_, rfl⟩
        rw [hm0] at hcl hc1 hc2 hchild hm hsucc ⊢
        rw [hr] at hc
        have hc : r.getD j default = c := hc
        have hc1 : 1 ≤ m.left.getD c default := hc1
        have hc2 : m.left.getD c default ≤ (row P c).length := hc2
        have hRc := hR _ (row_mem hcP)
        have hmlen := hm.e
        have hpush := push_ok m.h hm.e (by have := hm.le; omega) (r.getD j default)
        have hw : (m.left.getD c default - 1) = IntKind.i64.wrap (m.left.getD (0 + (r.getD j default).toNat) default - 1) := by
          rw [hc, Nat.zero_add, Int.toNat_natCast]
          exact wrapAny (by simp only [kmin]; omega) (by simp only [kmax]; omega)
        repeat' (first|(first | refine Exists.intro _ (And.intro hw ?_) | refine Exists.intro _ (And.intro (at_setc (by first | omega | (simp only [ln]; omega))) ?_))|(with_reducible first|refine zA ?_|refine zB ?_|refine zC ?_|refine zD ?_|refine zE ?_|refine zF ?_|refine zG ?_|refine zH ?_|refine zI ?_|refine zJ ?_|refine zK ?_|refine zL ?_)|(with_reducible refine reg_i ?_;intro K hK)|(with_reducible refine drw_i ?_;intro K hK)|((with_reducible refine cond_t ?hc ?_);(case hc=>rfl))|((with_reducible refine cond_f ?hc ?_);(case hc=>rfl))|((with_reducible refine cond_m ?_);refine And.intro ?_ ?_;all_goals(intro hb;(try simp only [sn,sb] at hb);try exact ex0))|(refine hK _ ?_;clear hK K)|(refine hK _ _ rfl ?_;clear hK K)|(have hg:=hK;clear hg;first|(refine And.intro ?zz ?_;case zz=>first|exact rfl|exact zO rfl|omega|exact gJ)|(refine fresh_n ?_)|(refine freshO_n ?_)|(refine at_Q ?_;intro hu)|(refine zP wA ?_)|(refine mul_Q ?_;intro hm1 hm2)|(refine zP at_M ?_)|(refine zP rfl ?_)|(refine Or.inr (Or.inr (Or.inl (gen_call ([(0, 1, 0), (1, 2, m.h.v)]) (hpush) (pre' := hpC m.h.len m.h.E m.h.v) (nw' := []) (post' := hpC (kPush m.h (r.getD j default)).len (kPush m.h (r.getD j default)).E (m.h.v + 1)) (r' := .tup []) ?hg1 rfl ?hg3 rfl rfl ?hgp ?hgn ?hgi ?_)));(case hg1=>exact rn_hp _ _ _ _);(case hg3=>exact rn_hp _ _ _ _);(case hgp=>(repeat' (first|exact allp_nil|exact alln_nil|refine allp_cons ?_ ?_|refine alln_cons ?_ ?_|rfl)));(case hgn=>(repeat' (first|exact allp_nil|exact alln_nil|refine allp_cons ?_ ?_|refine alln_cons ?_ ?_|rfl)));(case hgi=>(first|exact inj1|exact inj2 (by decide)|exact inj2 (Nat.ne_of_lt (Nat.le_of_ble_eq_true rfl))|exact inj2 (Nat.ne_of_gt (Nat.le_of_ble_eq_true rfl)))))|(refine And.intro ?_ ?_;all_goals(intro hb;(try simp only [sn,sb] at hb);try exact ex0))|(intro b0 hb)))
        · rw [hc, Nat.zero_add, Int.toNat_natCast] at hb
          have hb : m.left.getD c default - 1 = 0 := by rw [← getD_set_self (x := m.left.getD c default - 1) hcl]; exact hb
          have hk : kChild m c = ⟨m.left.set c (m.left.getD c default - 1), kPush m.h c⟩ := by unfold kChild; rw [Int.toNat_natCast, if_pos (show m.left.getD c 0 - 1 = 0 from hb)]; rfl
          have hel : ((m.left.map ci).set (0 + (r.getD j default).toNat) (ci (m.left.getD c default - 1))) = (kTo D s (j + 1)).left.map ci := by
            rw [hsucc, hk, hc, Nat.zero_add, Int.toNat_natCast, List.map_set]
          refine ⟨j + 1, hj, by omega, lf_of0 ?_ ?_⟩
          · exact ⟨Lc.same _ trivial, Lc.same _ rfl, Lc.same _ rfl, Lc.same _ rfl, Lc.same _ trivial, Lc.same _ trivial, Lc.same _ trivial, trivial⟩
          · refine hpS_lf ?_ ?_ ?_ rfl _ ⟨lfOb_same rfl (ci_flat _), trivial⟩
            · exact congrArg (fun e => some (⟨1, e, 0, true⟩ : Obj)) hel
            · rw [hsucc, hk, ← hc]; rfl
            · rw [hsucc, hk, ← hc]; rfl
        · rw [hc, Nat.zero_add, Int.toNat_natCast] at hb
          have hb : m.left.getD c default - 1 ≠ 0 := by rw [← getD_set_self (x := m.left.getD c default - 1) hcl]; exact hb
          have hk : kChild m c = ⟨m.left.set c (m.left.getD c default - 1), m.h⟩ := by unfold kChild; rw [Int.toNat_natCast, if_neg (show ¬ m.left.getD c 0 - 1 = 0 from hb)]; rfl
          have hel : ((m.left.map ci).set (0 + (r.getD j default).toNat) (ci (m.left.getD c default - 1))) = (kTo D s (j + 1)).left.map ci := by
            rw [hsucc, hk, hc, Nat.zero_add, Int.toNat_natCast, List.map_set]
          refine ⟨j + 1, hj, by omega, lf_of0 ?_ ?_⟩
          · exact ⟨Lc.same _ trivial, Lc.same _ rfl, Lc.same _ rfl, Lc.same _ rfl, Lc.same _ trivial, Lc.same _ trivial, Lc.same _ trivial, trivial⟩
          · refine hpS_lf ?_ ?_ ?_ rfl _ ⟨lfOb_same rfl (ci_flat _), trivial⟩
            · exact congrArg (fun e => some (⟨1, e, 0, true⟩ : Obj)) hel
            · rw [hsucc, hk]; rfl
            · rw [hsucc, hk]; rfl
      · repeat' (first|(with_reducible first|refine zA ?_|refine zB ?_|refine zC ?_|refine zD ?_|refine zE ?_|refine zF ?_|refine zG ?_|refine zH ?_|refine zI ?_|refine zJ ?_|refine zK ?_|refine zL ?_)|(with_reducible refine reg_i ?_;intro K hK)|(with_reducible refine drw_i ?_;intro K hK)|((with_reducible refine cond_t ?hc ?_);(case hc=>rfl))|((with_reducible refine cond_f ?hc ?_);(case hc=>rfl))|((with_reducible refine cond_m ?_);refine And.intro ?_ ?_;all_goals(intro hb;(try simp only [sn,sb] at hb);try exact ex0))|(refine hK _ ?_;clear hK K)|(refine hK _ _ rfl ?_;clear hK K)|(have hg:=hK;clear hg;first|(refine And.intro ?zz ?_;case zz=>first|exact rfl|exact zO rfl|omega|exact gJ)|(refine fresh_n ?_)|(refine freshO_n ?_)|(refine at_Q ?_;intro hu)|(refine zP wA ?_)|(refine mul_Q ?_;intro hm1 hm2)|(refine zP at_M ?_)|(refine zP rfl ?_)|(refine And.intro ?_ ?_;all_goals(intro hb;(try simp only [sn,sb] at hb);try exact ex0))|(intro b0 hb)))
        have e9 : j = r.length := by omega
        subst e9
        have hst : kStep D s = ⟨kTo D s r.length, s.out ++ [(p : Int)]⟩ := by unfold kStep; rw [hpe, Int.toNat_natCast, hr]
        have hsi := h1.step hO hD h0
        rw [hst] at hsi
        have hle2 := hsi.le
        have e1 : (s.out ++ [(p : Int)]).length = s.out.length + 1 := by rw [List.length_append]; rfl
        refine ⟨⟨kTo D s r.length, s.out ++ [(p : Int)]⟩, ⟨hsi, ?_⟩, by show _ - (s.out ++ [(p : Int)]).length < _; rw [e1]; omega, lf_of0 ?_ ?_⟩
        · rw [← h2, ← hst, show P.length + 1 - s.out.length = (P.length - s.out.length) + 1 by omega, kRun, if_neg (by omega)]
          show kRun D (P.length + 1 - (kStep D s).out.length) _ = _
          rw [hst]
          show kRun D (P.length + 1 - (s.out ++ [(p : Int)]).length) _ = _
          rw [e1, show P.length + 1 - (s.out.length + 1) = P.length - s.out.length by omega]
        · exact ⟨Lc.same _ trivial, Lc.same _ rfl, Lc.same _ rfl, Lc.same _ rfl, trivial⟩
        · exact hpS_lf rfl rfl rfl rfl _ ⟨lfOb_same rfl (ci_flat _), trivial⟩
    · repeat' (first|(with_reducible first|refine zA ?_|refine zB ?_|refine zC ?_|refine zD ?_|refine zE ?_|refine zF ?_|refine zG ?_|refine zH ?_|refine zI ?_|refine zJ ?_|refine zK ?_|refine zL ?_)|(with_reducible refine reg_i ?_;intro K hK)|(with_reducible refine drw_i ?_;intro K hK)|((with_reducible refine cond_t ?hc ?_);(case hc=>rfl))|((with_reducible refine cond_f ?hc ?_);(case hc=>rfl))|((with_reducible refine cond_m ?_);refine And.intro ?_ ?_;all_goals(intro hb;(try simp only [sn,sb] at hb);try exact ex0))|(refine hK _ ?_;clear hK K)|(refine hK _ _ rfl ?_;clear hK K)|(have hg:=hK;clear hg;first|(refine And.intro ?zz ?_;case zz=>first|exact rfl|exact zO rfl|omega|exact gJ)|(refine fresh_n ?_)|(refine freshO_n ?_)|(refine at_Q ?_;intro hu)|(refine zP wA ?_)|(refine mul_Q ?_;intro hm1 hm2)|(refine zP at_M ?_)|(refine zP rfl ?_)|(refine And.intro ?_ ?_;all_goals(intro hb;(try simp only [sn,sb] at hb);try exact ex0))|(intro b0 hb)))
      have e : sortedF P D = s.out := by
        rw [← h2, show P.length + 1 - s.out.length = (P.length - s.out.length) + 1 by omega, kRun, if_pos (by omega)]
      rw [e]
      exact And.intro trivial (fzo_ci rfl rfl)
theorem Order_ok (P : PL) (hP : P.length ≤ 1073741824) (hR : ∀ l ∈ P, l.length ≤ 1073741824) : ∃ l, Ok Tryz.prog 46 [tILL P] true (.tup [tIL l, .con (.int .i64 (dagE P))]) ∧ (dagE P = 0 → Whole P l) := by
  have hf := fits_ok P hP hR
  cases h1 : inRng P with
  | false =>
    rw [h1, if_pos rfl] at hf
    refine ⟨[], ?_, fun h => by simp [dagE, h1] at h⟩
    refine ok_of_ev (fun _ _ _ h => h) mix Tryz.func46 rfl rfl (by kernel_rfl) (Nat.le_of_ble_eq_true rfl) ?_
    repeat' (first|(with_reducible first|refine zA ?_|refine zB ?_|refine zC ?_|refine zD ?_|refine zE ?_|refine zF ?_|refine zG ?_|refine zH ?_|refine zI ?_|refine zJ ?_|refine zK ?_|refine zL ?_)|(with_reducible refine reg_i ?_;intro K hK)|(with_reducible refine drw_i ?_;intro K hK)|((with_reducible refine cond_t ?hc ?_);(case hc=>rfl))|((with_reducible refine cond_f ?hc ?_);(case hc=>rfl))|((with_reducible refine cond_m ?_);refine And.intro ?_ ?_;all_goals(intro hb;(try simp only [sn,sb] at hb);try exact ex0))|(refine hK _ ?_;clear hK K)|(refine hK _ _ rfl ?_;clear hK K)|(have hg:=hK;clear hg;first|(refine And.intro ?zz ?_;case zz=>first|exact rfl|exact zO rfl|omega|exact gJ)|(refine fresh_n ?_)|(refine freshO_n ?_)|(refine at_Q ?_;intro hu)|(refine zP wA ?_)|(refine mul_Q ?_;intro hm1 hm2)|(refine zP at_M ?_)|(refine zP rfl ?_)|(refine zQ (hf) ?_)|(refine And.intro ?_ ?_;all_goals(intro hb;(try simp only [sn,sb] at hb);try exact ex0))|(intro b0 hb)))
    exact ⟨trivial, _, _, rfl, fz_emp rfl, fz_con (congrArg (Value.int .i64) (by simp [dagE, h1]))⟩
  | true =>
    rw [h1, if_neg (by decide)] at hf
    cases h2 : noDup P with
    | false =>
      rw [h2, if_pos rfl] at hf
      refine ⟨[], ?_, fun h => by simp [dagE, h1, h2] at h⟩
      refine ok_of_ev (fun _ _ _ h => h) mix Tryz.func46 rfl rfl (by kernel_rfl) (Nat.le_of_ble_eq_true rfl) ?_
      repeat' (first|(with_reducible first|refine zA ?_|refine zB ?_|refine zC ?_|refine zD ?_|refine zE ?_|refine zF ?_|refine zG ?_|refine zH ?_|refine zI ?_|refine zJ ?_|refine zK ?_|refine zL ?_)|(with_reducible refine reg_i ?_;intro K hK)|(with_reducible refine drw_i ?_;intro K hK)|((with_reducible refine cond_t ?hc ?_);(case hc=>rfl))|((with_reducible refine cond_f ?hc ?_);(case hc=>rfl))|((with_reducible refine cond_m ?_);refine And.intro ?_ ?_;all_goals(intro hb;(try simp only [sn,sb] at hb);try exact ex0))|(refine hK _ ?_;clear hK K)|(refine hK _ _ rfl ?_;clear hK K)|(have hg:=hK;clear hg;first|(refine And.intro ?zz ?_;case zz=>first|exact rfl|exact zO rfl|omega|exact gJ)|(refine fresh_n ?_)|(refine freshO_n ?_)|(refine at_Q ?_;intro hu)|(refine zP wA ?_)|(refine mul_Q ?_;intro hm1 hm2)|(refine zP at_M ?_)|(refine zP rfl ?_)|(refine zQ (hf) ?_)|(refine And.intro ?_ ?_;all_goals(intro hb;(try simp only [sn,sb] at hb);try exact ex0))|(intro b0 hb)))
      exact ⟨trivial, _, _, rfl, fz_emp rfl, fz_con (congrArg (Value.int .i64) (by simp [dagE, h1, h2]))⟩
    | true =>
      rw [h2, if_neg (by decide)] at hf
      have hO := okp_of h1 h2
      have hch := children_ok P hP hR hO
      have hso := sorted_ok P (childF P) hP hR hO (childF_ch hO)
      have hln := sorted_len hO
      have hw := sortedF_whole hO (childF_ch hO)
      by_cases hlt : (sortedF P (childF P)).length < P.length
      · have hd : dagE P = 42 := by rw [dagE, h1, h2, if_neg (by decide), if_neg (by decide), if_pos (by omega)]
        rw [hd]
        refine ⟨[], ?_, fun h => by omega⟩
        refine ok_of_ev (fun _ _ _ h => h) mix Tryz.func46 rfl rfl (by kernel_rfl) (Nat.le_of_ble_eq_true rfl) ?_
        repeat' (first|(with_reducible first|refine zA ?_|refine zB ?_|refine zC ?_|refine zD ?_|refine zE ?_|refine zF ?_|refine zG ?_|refine zH ?_|refine zI ?_|refine zJ ?_|refine zK ?_|refine zL ?_)|(with_reducible refine reg_i ?_;intro K hK)|(with_reducible refine drw_i ?_;intro K hK)|((with_reducible refine cond_t ?hc ?_);(case hc=>rfl))|((with_reducible refine cond_f ?hc ?_);(case hc=>rfl))|((with_reducible refine cond_m ?_);refine And.intro ?_ ?_;all_goals(intro hb;(try simp only [sn,sb] at hb);try exact ex0))|(refine hK _ ?_;clear hK K)|(refine hK _ _ rfl ?_;clear hK K)|(have hg:=hK;clear hg;first|(refine And.intro ?zz ?_;case zz=>first|exact rfl|exact zO rfl|omega|exact gJ)|(refine fresh_n ?_)|(refine freshO_n ?_)|(refine at_Q ?_;intro hu)|(refine zP wA ?_)|(refine mul_Q ?_;intro hm1 hm2)|(refine zP at_M ?_)|(refine zP rfl ?_)|(refine zQ (hf) ?_)|(refine zQ (hch) ?_)|(refine zQ (hso) ?_)|(refine And.intro ?_ ?_;all_goals(intro hb;(try simp only [sn,sb] at hb);try exact ex0))|(intro b0 hb)))
        exact ⟨trivial, _, _, rfl, fz_emp rfl, fz_con rfl⟩
      · have hd : dagE P = 0 := by rw [dagE, h1, h2, if_neg (by decide), if_neg (by decide), if_neg (by omega)]
        rw [hd]
        refine ⟨_, ?_, fun _ => hw⟩
        refine ok_of_ev (fun _ _ _ h => h) mix Tryz.func46 rfl rfl (by kernel_rfl) (Nat.le_of_ble_eq_true rfl) ?_
        repeat' (first|(with_reducible first|refine zA ?_|refine zB ?_|refine zC ?_|refine zD ?_|refine zE ?_|refine zF ?_|refine zG ?_|refine zH ?_|refine zI ?_|refine zJ ?_|refine zK ?_|refine zL ?_)|(with_reducible refine reg_i ?_;intro K hK)|(with_reducible refine drw_i ?_;intro K hK)|((with_reducible refine cond_t ?hc ?_);(case hc=>rfl))|((with_reducible refine cond_f ?hc ?_);(case hc=>rfl))|((with_reducible refine cond_m ?_);refine And.intro ?_ ?_;all_goals(intro hb;(try simp only [sn,sb] at hb);try exact ex0))|(refine hK _ ?_;clear hK K)|(refine hK _ _ rfl ?_;clear hK K)|(have hg:=hK;clear hg;first|(refine And.intro ?zz ?_;case zz=>first|exact rfl|exact zO rfl|omega|exact gJ)|(refine fresh_n ?_)|(refine freshO_n ?_)|(refine at_Q ?_;intro hu)|(refine zP wA ?_)|(refine mul_Q ?_;intro hm1 hm2)|(refine zP at_M ?_)|(refine zP rfl ?_)|(refine zQ (hf) ?_)|(refine zQ (hch) ?_)|(refine zQ (hso) ?_)|(refine And.intro ?_ ?_;all_goals(intro hb;(try simp only [sn,sb] at hb);try exact ex0))|(intro b0 hb)))
        exact ⟨trivial, _, _, rfl, fz_ro rfl fun h => h, fz_con rfl⟩
theorem CheckD_ok (P : PL) (hP : P.length ≤ 1073741824) (hR : ∀ l ∈ P, l.length ≤ 1073741824) : Ok Tryz.prog 23 [tILL P] true (.con (.int .i64 (dagE P))) := by
  obtain ⟨l, ho, -⟩ := Order_ok P hP hR
  refine ok_of_ev (fun _ _ _ h => h) mix Tryz.func23 rfl rfl (by kernel_rfl) (Nat.le_of_ble_eq_true rfl) ?_
  repeat' (first|(with_reducible first|refine zA ?_|refine zB ?_|refine zC ?_|refine zD ?_|refine zE ?_|refine zF ?_|refine zG ?_|refine zH ?_|refine zI ?_|refine zJ ?_|refine zK ?_|refine zL ?_)|(with_reducible refine reg_i ?_;intro K hK)|(with_reducible refine drw_i ?_;intro K hK)|((with_reducible refine cond_t ?hc ?_);(case hc=>rfl))|((with_reducible refine cond_f ?hc ?_);(case hc=>rfl))|((with_reducible refine cond_m ?_);refine And.intro ?_ ?_;all_goals(intro hb;(try simp only [sn,sb] at hb);try exact ex0))|(refine hK _ ?_;clear hK K)|(refine hK _ _ rfl ?_;clear hK K)|(have hg:=hK;clear hg;first|(refine And.intro ?zz ?_;case zz=>first|exact rfl|exact zO rfl|omega|exact gJ)|(refine fresh_n ?_)|(refine freshO_n ?_)|(refine at_Q ?_;intro hu)|(refine zP wA ?_)|(refine mul_Q ?_;intro hm1 hm2)|(refine zP at_M ?_)|(refine zP rfl ?_)|(refine zQ (ho) ?_)|(refine And.intro ?_ ?_;all_goals(intro hb;(try simp only [sn,sb] at hb);try exact ex0))|(intro b0 hb)))
  exact And.intro trivial (fz_con rfl)
end Go.Ev
