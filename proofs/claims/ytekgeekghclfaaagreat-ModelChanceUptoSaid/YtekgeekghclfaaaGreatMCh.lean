import Derived.Test.YtekgeekghclfaaaGreatChp
import Derived.Test.YtekgeekghclfaaaGreatTwin
set_option linter.all false
namespace Go.Ev
open Go.Proofs
set_option maxRecDepth 10000
set_option maxHeartbeats 4000000
set_option linter.unusedSimpArgs false
set_option linter.unusedVariables false
theorem rnO_L (a b : List UInt32) (v i j : Nat) : rnO (lkM [(0, i, 0), (1, j, 0)]) (lkV [(0, i, 0), (1, j, 0)]) (preL a b v) = [(i, ⟨1, a.map cu, v, true⟩), (j, ⟨1, b.map cu, v, true⟩)] := by
  show [(i, (⟨1, (a.map cu).map (V.rnA _ _), 0 + v, true⟩ : Obj)), (j, ⟨1, (b.map cu).map (V.rnA _ _), 0 + v, true⟩)] = _
  rw [rn_map (fun _ => rfl), rn_map (fun _ => rfl), Nat.zero_add]
theorem fz_vNt {oh : OH} (n : Nt) : FzA oh false (vNt n) (tNt n) := by
  refine ⟨rfl, fun j v t hv ht => ?_⟩
  match j with
  | 0 => simp at hv ht; subst hv; subst ht; exact .con _
  | 1 => simp at hv ht; subst hv; subst ht; exact .ro false _ fun h => h
  | 2 => simp at hv ht; subst hv; subst ht; exact .ro false _ fun h => h
  | 3 => simp at hv ht; subst hv; subst ht; exact .ro false _ fun h => h
  | 4 => simp at hv ht; subst hv; subst ht; exact .ro false _ fun h => h
  | j + 5 => simp at hv
def rN : V := .agg [.con (.bool false), .ro false (tn []), .ro false (tn [])]
theorem rN_cl (oh : OH) : ∀ v ∈ [rN], v.cl oh := by
  intro v hv
  obtain rfl := List.mem_singleton.1 hv
  intro u hu
  simp at hu
  rcases hu with rfl | rfl <;> trivial
theorem limbs_nil : Ok Tryz.prog 15 [tR false [] [], .con (.int .u32 9)] true (.con (.bool true)) := by
  refine ok_of_ev (fun _ _ _ h => h) mix Tryz.func15 rfl rfl (by kernel_rfl) (Nat.le_of_ble_eq_true rfl) ?_
  repeat' (first|(with_reducible first|refine zA ?_|refine zB ?_|refine zC ?_|refine zD ?_|refine zE ?_|refine zF ?_|refine zG ?_|refine zH ?_|refine zI ?_|refine zJ ?_|refine zK ?_|refine zL ?_)|(with_reducible refine reg_i ?_;intro K hK)|(with_reducible refine drw_i ?_;intro K hK)|((with_reducible refine cond_t ?hc ?_);(case hc=>rfl))|((with_reducible refine cond_f ?hc ?_);(case hc=>rfl))|((with_reducible refine cond_m ?_);refine And.intro ?_ ?_;all_goals(intro hb;(try simp only [sn,sb] at hb);try exact ex0))|(refine hK _ ?_;clear hK K)|(refine hK _ _ rfl ?_;clear hK K)|(have hg:=hK;clear hg;first|(refine And.intro ?zz ?_;case zz=>first|exact rfl|exact zO rfl|omega|exact gJ)|(refine fresh_c 0 rfl ?_)|(refine freshO_n ?_)|(refine at_Q ?_;intro hu)|(refine zP wA ?_)|(refine mul_Q ?_;intro hm1 hm2)|(refine zP at_M ?_)|(refine zP rfl ?_)|(refine And.intro ?_ ?_;all_goals(intro hb;(try simp only [sn,sb] at hb);try exact ex0))|(intro b0 hb)))
  refine loop_i Unit (fun _ => ⟨Tryz.f15.ntmps, [(1, .con (.int .u32 9)), (2, .ref 0 0 0 0), (5, .con (.int .i64 0))], [(0, ⟨3, [rN], 0, true⟩)]⟩) (fun _ => True) (fun _ => 0) [] () trivial trivial ⟨rfl, ⟨rfl, trivial, rfl, rfl, rfl, trivial, trivial⟩, ⟨rfl, trivial⟩, ⟨rN_cl _, trivial⟩⟩ ?_
  rintro - -
  repeat' (first|(with_reducible first|refine zA ?_|refine zB ?_|refine zC ?_|refine zD ?_|refine zE ?_|refine zF ?_|refine zG ?_|refine zH ?_|refine zI ?_|refine zJ ?_|refine zK ?_|refine zL ?_)|(with_reducible refine reg_i ?_;intro K hK)|(with_reducible refine drw_i ?_;intro K hK)|((with_reducible refine cond_t ?hc ?_);(case hc=>rfl))|((with_reducible refine cond_f ?hc ?_);(case hc=>rfl))|((with_reducible refine cond_m ?_);refine And.intro ?_ ?_;all_goals(intro hb;(try simp only [sn,sb] at hb);try exact ex0))|(refine hK _ ?_;clear hK K)|(refine hK _ _ rfl ?_;clear hK K)|(have hg:=hK;clear hg;first|(refine And.intro ?zz ?_;case zz=>first|exact rfl|exact zO rfl|omega|exact gJ)|(refine fresh_n ?_)|(refine freshO_n ?_)|(refine at_Q ?_;intro hu)|(refine zP wA ?_)|(refine mul_Q ?_;intro hm1 hm2)|(refine zP at_M ?_)|(refine zP rfl ?_)|(refine And.intro ?_ ?_;all_goals(intro hb;(try simp only [sn,sb] at hb);try exact ex0))|(intro b0 hb)))
  refine loop_i Unit (fun _ => ⟨Tryz.f15.ntmps, [(1, .con (.int .u32 9)), (2, .ref 0 0 0 0), (6, .con (.int .i64 0))], [(0, ⟨3, [rN], 0, true⟩)]⟩) (fun _ => True) (fun _ => 0) [] () trivial trivial ⟨rfl, ⟨rfl, trivial, rfl, rfl, rfl, trivial, trivial⟩, ⟨rfl, trivial⟩, ⟨rN_cl _, trivial⟩⟩ ?_
  rintro - -
  repeat' (first|(with_reducible first|refine zA ?_|refine zB ?_|refine zC ?_|refine zD ?_|refine zE ?_|refine zF ?_|refine zG ?_|refine zH ?_|refine zI ?_|refine zJ ?_|refine zK ?_|refine zL ?_)|(with_reducible refine reg_i ?_;intro K hK)|(with_reducible refine drw_i ?_;intro K hK)|((with_reducible refine cond_t ?hc ?_);(case hc=>rfl))|((with_reducible refine cond_f ?hc ?_);(case hc=>rfl))|((with_reducible refine cond_m ?_);refine And.intro ?_ ?_;all_goals(intro hb;(try simp only [sn,sb] at hb);try exact ex0))|(refine hK _ ?_;clear hK K)|(refine hK _ _ rfl ?_;clear hK K)|(have hg:=hK;clear hg;first|(refine And.intro ?zz ?_;case zz=>first|exact rfl|exact zO rfl|omega|exact gJ)|(refine fresh_n ?_)|(refine freshO_n ?_)|(refine at_Q ?_;intro hu)|(refine zP wA ?_)|(refine mul_Q ?_;intro hm1 hm2)|(refine zP at_M ?_)|(refine zP rfl ?_)|(refine And.intro ?_ ?_;all_goals(intro hb;(try simp only [sn,sb] at hb);try exact ex0))|(intro b0 hb)))
  refine loop_i Unit (fun _ => ⟨Tryz.f15.ntmps, [(1, .con (.int .u32 9)), (2, .ref 0 0 0 0), (7, .con (.int .i64 0))], [(0, ⟨3, [rN], 0, true⟩)]⟩) (fun _ => True) (fun _ => 0) [] () trivial trivial ⟨rfl, ⟨rfl, trivial, rfl, rfl, rfl, trivial, trivial⟩, ⟨rfl, trivial⟩, ⟨rN_cl _, trivial⟩⟩ ?_
  rintro - -
  repeat' (first|(with_reducible first|refine zA ?_|refine zB ?_|refine zC ?_|refine zD ?_|refine zE ?_|refine zF ?_|refine zG ?_|refine zH ?_|refine zI ?_|refine zJ ?_|refine zK ?_|refine zL ?_)|(with_reducible refine reg_i ?_;intro K hK)|(with_reducible refine drw_i ?_;intro K hK)|((with_reducible refine cond_t ?hc ?_);(case hc=>rfl))|((with_reducible refine cond_f ?hc ?_);(case hc=>rfl))|((with_reducible refine cond_m ?_);refine And.intro ?_ ?_;all_goals(intro hb;(try simp only [sn,sb] at hb);try exact ex0))|(refine hK _ ?_;clear hK K)|(refine hK _ _ rfl ?_;clear hK K)|(have hg:=hK;clear hg;first|(refine And.intro ?zz ?_;case zz=>first|exact rfl|exact zO rfl|omega|exact gJ)|(refine fresh_n ?_)|(refine freshO_n ?_)|(refine at_Q ?_;intro hu)|(refine zP wA ?_)|(refine mul_Q ?_;intro hm1 hm2)|(refine zP at_M ?_)|(refine zP rfl ?_)|(refine And.intro ?_ ?_;all_goals(intro hb;(try simp only [sn,sb] at hb);try exact ex0))|(intro b0 hb)))
  exact And.intro trivial (fz_con rfl)
theorem ModelChance_ok (n : Nt) (xs : List Int) (ok : CkOK n) (hB : allR n ≤ 134217728) (hx : xs.length ≤ 1048576) : Ok Tryz.prog 4 [tNt n, tIL xs] true (.con (.bool true)) := by
  have na := ok.nt
  have hsm := rEqI_ok xs xs (by omega) (by omega)
  have hsr : allEq intEq xs xs = true := allEq_refl _ (fun x _ => by simp [intEq])
  rw [hsr] at hsm
  have hex := Exact_ok n n na na
  rw [exactNt_refl] at hex
  have hrc := rChance_ok n xs ok hB hx
  have xsC : (xs.map tI64).map (V.ofA false) = xs.map ci := by rw [List.map_map]; rfl
  have hfx : FzA [(2, ⟨1, (xs.map tI64).map (V.ofA false), 0, true⟩)] false (.own 2 0 0 ((xs.map tI64).map (V.ofA false)).length) (tIL xs) := by
    rw [xsC]
    exact fzo_ci rfl (by rw [List.length_map])
  by_cases hE : chanceE n xs = 0
  · rw [if_pos hE, hE] at hrc
    have hc : checkE n = 0 := Classical.byContradiction fun h => by unfold chanceE at hE; rw [if_pos h] at hE; exact h hE
    have hxs : XsOK n xs := by
      unfold chanceE at hE
      rw [if_neg (fun h => h hc)] at hE
      by_cases h2 : xs.length ≠ n.names.length
      · rw [if_pos h2] at hE; omega
      · rw [if_neg h2] at hE; exact xs_ok (by omega) hE
    have hch := Chance_okO n xs ok hB hc hxs
    have ht := (check0 hc).1.t
    obtain ⟨q1, q2, q3⟩ := chF_ok (cell_mem ok hc hxs) n.names.length (by omega)
    have hb1 := allR_take (l := n.tables) (k := n.names.length)
    have hB' : (n.tables.map bulkR).sum ≤ 134217728 := hB
    obtain ⟨z, hz⟩ : ∃ z, (chF n xs n.names.length).1 = z := ⟨_, rfl⟩
    obtain ⟨d, hd⟩ : ∃ d, (chF n xs n.names.length).2 = d := ⟨_, rfl⟩
    rw [hz, hd] at hch hrc q2 q3
    have hsame := rSame3_ok ⟨decide (qz z d < 0), lm (qz z d).natAbs, lm (qd z d)⟩ ⟨decide (qz z d < 0), lm (qz z d).natAbs, lm (qd z d)⟩ ⟨by show (lm _).length ≤ _; omega, by show (lm _).length ≤ _; omega⟩ ⟨by show (lm _).length ≤ _; omega, by show (lm _).length ≤ _; omega⟩
    rw [rtEq_refl] at hsame
    have hsame : Ok Tryz.prog 14 [tQ z d, tQ z d] true (.con (.bool true)) := hsame
    have hli := limbs_g (decide (qz z d < 0)) (lm (qz z d).natAbs) (lm (qd z d)) 9 (by omega) (by omega)
    clear hz hd q1 q2 q3 hb1 hB' hE hB
    refine ok_of_ev (fun _ _ _ h => h) mix Tryz.func4 rfl rfl (by kernel_rfl) (Nat.le_of_ble_eq_true rfl) ?_
    repeat' (first|(with_reducible first|refine zA ?_|refine zB ?_|refine zC ?_|refine zD ?_|refine zE ?_|refine zF ?_|refine zG ?_|refine zH ?_|refine zI ?_|refine zJ ?_|refine zK ?_|refine zL ?_)|(with_reducible refine reg_i ?_;intro K hK)|(with_reducible refine drw_i ?_;intro K hK)|((with_reducible refine cond_t ?hc ?_);(case hc=>rfl))|((with_reducible refine cond_f ?hc ?_);(case hc=>rfl))|((with_reducible refine cond_m ?_);refine And.intro ?_ ?_;all_goals(intro hb;(try simp only [sn,sb] at hb);try exact ex0))|(refine hK _ ?_;clear hK K)|(refine hK _ _ rfl ?_;clear hK K)|(have hg:=hK;clear hg;first|(refine And.intro ?zz ?_;case zz=>first|exact rfl|exact zO rfl|omega|exact gJ)|(refine fresh_c 0 rfl ?_)|(refine fresh_c 1 rfl ?_)|(refine fresh_c 2 rfl ?_)|(refine fresh_c 3 rfl ?_)|(refine fresh_c 6 rfl ?_)|(refine fresh_c 9 rfl ?_)|(refine freshO_n ?_)|(refine at_Q ?_;intro hu)|(refine zP wA ?_)|(refine mul_Q ?_;intro hm1 hm2)|(refine zP at_M ?_)|(refine zP rfl ?_)|(refine zQ (Twin_data n na) ?_)|(refine zQ (hrc) ?_)|(refine' Or.inr (Or.inr (Or.inr (lendo_2 (hch) ([(2, ⟨1, (xs.map tI64).map (V.ofA false), 0, true⟩)]) 4 ?lp ?lz rfl ?o2a ?o2b ?_)));(case lp=>(repeat' (first|exact allp_nil|exact alln_nil|refine allp_cons ?_ ?_|refine alln_cons ?_ ?_|rfl)));(case lz=>exact fzl2 (fz_vNt n) hfx);(case o2a=>exact rfl);(case o2b=>exact rfl))|(refine' Or.inr (Or.inr (Or.inr (lendo_2 (hch) ([(2, ⟨1, (xs.map tI64).map (V.ofA false), 0, true⟩)]) 7 ?lp ?lz rfl ?o2a ?o2b ?_)));(case lp=>(repeat' (first|exact allp_nil|exact alln_nil|refine allp_cons ?_ ?_|refine alln_cons ?_ ?_|rfl)));(case lz=>exact fzl2 (fz_vNt n) hfx);(case o2a=>exact rfl);(case o2b=>exact rfl))|(refine' Or.inl (Exists.intro _ (Exists.intro _ (Exists.intro _ (And.intro (hsame) (Exists.intro ([(4, ⟨1, (lm (qz z d).natAbs).map cu, 0, true⟩), (5, ⟨1, (lm (qd z d)).map cu, 0, true⟩)]) (And.intro ?lp (And.intro ?lz (And.intro rfl ?_))))))));(case lp=>(repeat' (first|exact allp_nil|exact alln_nil|refine allp_cons ?_ ?_|refine alln_cons ?_ ?_|rfl)));(case lz=>exact fzl2 (fz_vQ rfl rfl rfl rfl) (fzA3 (.con _) (.ro true _ (fun h => rfl)) (.ro true _ (fun h => rfl)))))|(refine' Or.inl (Exists.intro _ (Exists.intro _ (Exists.intro _ (And.intro (hsame) (Exists.intro ([(7, ⟨1, (lm (qz z d).natAbs).map cu, 0, true⟩), (8, ⟨1, (lm (qd z d)).map cu, 0, true⟩)]) (And.intro ?lp (And.intro ?lz (And.intro rfl ?_))))))));(case lp=>(repeat' (first|exact allp_nil|exact alln_nil|refine allp_cons ?_ ?_|refine alln_cons ?_ ?_|rfl)));(case lz=>exact fzl2 (fz_vQ rfl rfl rfl rfl) (fzA3 (.con _) (.ro true _ (fun h => rfl)) (.ro true _ (fun h => rfl)))))|(refine Or.inr (Or.inr (Or.inl (gen_call ([(0, 4, 0), (1, 5, 0)]) (hli) (pre' := [(4, ⟨1, (lm (qz z d).natAbs).map cu, 0, true⟩), (5, ⟨1, (lm (qd z d)).map cu, 0, true⟩)]) (nw' := []) (post' := [(4, ⟨1, (List.replicate (lm (qz z d).natAbs).length 7).map cu, 1, true⟩), (5, ⟨1, (List.replicate (lm (qd z d)).length 9).map cu, 1, true⟩)]) (r' := .con (.bool true)) ?hg1 rfl ?hg3 rfl rfl ?hgp ?hgn ?hgi ?_)));(case hg1=>exact rnO_L _ _ _ _ _);(case hg3=>exact rnO_L _ _ _ _ _);(case hgp=>(repeat' (first|exact allp_nil|exact alln_nil|refine allp_cons ?_ ?_|refine alln_cons ?_ ?_|rfl)));(case hgn=>(repeat' (first|exact allp_nil|exact alln_nil|refine allp_cons ?_ ?_|refine alln_cons ?_ ?_|rfl)));(case hgi=>(first|exact inj1|exact inj2 (by decide)|exact inj2 (Nat.ne_of_lt (Nat.le_of_ble_eq_true rfl))|exact inj2 (Nat.ne_of_gt (Nat.le_of_ble_eq_true rfl)))))|(refine zQ (hex) ?_)|(refine' Or.inl (Exists.intro _ (Exists.intro _ (Exists.intro _ (And.intro (hsm) (Exists.intro [(2,_)] (And.intro (lpre1 ?lh) (And.intro ?lz (And.intro rfl ?_))))))));(case lh=>exact rfl);(case lz=>exact fzl2 hfx (fz_ro rfl (fun h => h))))|(refine And.intro ?_ ?_;all_goals(intro hb;(try simp only [sn,sb] at hb);try exact ex0))|(intro b0 hb)))
    exact And.intro trivial (fz_con rfl)
  · rw [if_neg hE] at hrc
    have hch := Chance_bad n xs ok hx hE
    obtain ⟨E, hEe⟩ : ∃ E, chanceE n xs = E := ⟨_, rfl⟩
    rw [hEe] at hch hrc
    have hsame := rSame3_ok ⟨false, [], []⟩ ⟨false, [], []⟩ ⟨Nat.zero_le _, Nat.zero_le _⟩ ⟨Nat.zero_le _, Nat.zero_le _⟩
    rw [rtEq_refl] at hsame
    have hsame : Ok Tryz.prog 14 [tR false [] [], tR false [] []] true (.con (.bool true)) := hsame
    clear hE hEe hB
    refine ok_of_ev (fun _ _ _ h => h) mix Tryz.func4 rfl rfl (by kernel_rfl) (Nat.le_of_ble_eq_true rfl) ?_
    repeat' (first|(with_reducible first|refine zA ?_|refine zB ?_|refine zC ?_|refine zD ?_|refine zE ?_|refine zF ?_|refine zG ?_|refine zH ?_|refine zI ?_|refine zJ ?_|refine zK ?_|refine zL ?_)|(with_reducible refine reg_i ?_;intro K hK)|(with_reducible refine drw_i ?_;intro K hK)|((with_reducible refine cond_t ?hc ?_);(case hc=>rfl))|((with_reducible refine cond_f ?hc ?_);(case hc=>rfl))|((with_reducible refine cond_m ?_);refine And.intro ?_ ?_;all_goals(intro hb;(try simp only [sn,sb] at hb);try exact ex0))|(refine hK _ ?_;clear hK K)|(refine hK _ _ rfl ?_;clear hK K)|(have hg:=hK;clear hg;first|(refine And.intro ?zz ?_;case zz=>first|exact rfl|exact zO rfl|omega|exact gJ)|(refine fresh_c 0 rfl ?_)|(refine fresh_c 1 rfl ?_)|(refine fresh_c 2 rfl ?_)|(refine fresh_c 3 rfl ?_)|(refine fresh_c 4 rfl ?_)|(refine fresh_c 5 rfl ?_)|(refine freshO_n ?_)|(refine at_Q ?_;intro hu)|(refine zP wA ?_)|(refine mul_Q ?_;intro hm1 hm2)|(refine zP at_M ?_)|(refine zP rfl ?_)|(refine zQ (Twin_data n na) ?_)|(refine zQ (hrc) ?_)|(refine' Or.inl (Exists.intro _ (Exists.intro _ (Exists.intro _ (And.intro (hch) (Exists.intro ([(2, ⟨1, (xs.map tI64).map (V.ofA false), 0, true⟩)]) (And.intro ?lp (And.intro ?lz (And.intro rfl ?_))))))));(case lp=>(repeat' (first|exact allp_nil|exact alln_nil|refine allp_cons ?_ ?_|refine alln_cons ?_ ?_|rfl)));(case lz=>exact fzl2 (fz_vNt n) hfx))|(refine zQ (hsame) ?_)|(refine zQ (limbs_nil) ?_)|(refine zQ (hex) ?_)|(refine' Or.inl (Exists.intro _ (Exists.intro _ (Exists.intro _ (And.intro (hsm) (Exists.intro [(2,_)] (And.intro (lpre1 ?lh) (And.intro ?lz (And.intro rfl ?_))))))));(case lh=>exact rfl);(case lz=>exact fzl2 hfx (fz_ro rfl (fun h => h))))|(refine And.intro ?_ ?_;all_goals(intro hb;(try simp only [sn,sb] at hb);try exact ex0))|(intro b0 hb)))
    exact And.intro trivial (fz_con rfl)
end Go.Ev
