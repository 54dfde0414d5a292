import Derived.Test.YtekgeekghclfaaaGreatChk4
import Derived.Test.YtekgeekghclfaaaGreatChk5
import Derived.Test.YtekgeekghclfaaaGreatTwin
/-
  WHY A NETWORK MAY NOT BE: credencelaw19.ModelCheck: the walk. (naturals) (one)
-/
set_option linter.all false
namespace Go.Ev
open Go.Proofs
set_option maxRecDepth 10000
set_option maxHeartbeats 4000000
set_option linter.unusedSimpArgs false
set_option linter.unusedVariables false
theorem sh_ci (k : Nat) (l : List Int) : Obj.sh k ⟨1, l.map ci, 0, true⟩ = ⟨1, l.map ci, 0, true⟩ := by
  unfold Obj.sh
  rw [List.map_map]
  congr 1
theorem set_ci (E : List Int) (k : Nat) (x : Int) : some (⟨1, (E.map ci).set (0 + k) (ci x), 0, true⟩ : Obj) = some ⟨1, (E.set k x).map ci, 0, true⟩ := by rw [List.map_set, Nat.zero_add]
theorem ModelCheck_ok (n : Nt) (ok : CkOK n) : Ok Tryz.prog 3 [tNt n] true (.con (.bool true)) := by
  have na := ok.nt
  have c2 := ok.values
  have zl : (szs n).length = n.values.length := by rw [szs, List.length_map]
  have hsm := rEqI_ok (szs n) (szs n) (by omega) (by omega)
  have hsr : allEq intEq (szs n) (szs n) = true := allEq_refl _ (fun x _ => by simp [intEq])
  rw [hsr] at hsm
  have hex := Exact_ok n n na na
  rw [exactNt_refl] at hex
  have hck := Check_ok n ok
  by_cases hne : n.values = []
  · have z0 : (szs n).length = 0 := by rw [zl, hne]; rfl
    refine ok_of_ev (fun _ _ _ h => h) mix Tryz.func3 rfl rfl (by kernel_rfl) (Nat.le_of_ble_eq_true rfl) ?_
    repeat' (first
     |(with_reducible (first|refine seq_i ?_|refine blk_i ?_|refine X.seq_n ?_|refine X.seq_r ?_|refine X.seq_x ?_|refine X.blk_n ?_|refine X.blk_r ?_|refine X.blk_s ?_|refine X.blk_o (by decide) ?_|refine skip_i ?_|refine ret_i ?_|refine exit_i ?_))
     |(with_reducible (refine reg_i ?_);intro K hK)
     |(with_reducible (refine drw_i ?_);intro K hK)
     |((with_reducible refine cond_t ?hc ?_);(case hc=>rfl))
     |((with_reducible refine cond_f ?hc ?_);(case hc=>rfl))
     |((with_reducible refine cond_m ?_);refine And.intro ?_ ?_;all_goals(intro hb;(try simp only [sn,sb] at hb);try exact ex0))
     |(refine hK _ ?_;clear hK K)
     |(refine hK _ _ rfl ?_;clear hK K)
     |(have hg:=hK;clear hg;first|(refine And.intro ?ga ?_;(case ga=>first|exact rfl|exact Nat.le_of_ble_eq_true rfl|omega|exact gJ))|(refine fresh_c 0 rfl ?_)|(refine fresh_c 1 rfl ?_)|(refine freshO_n ?_)|(refine at_Q ?_;intro hu)|(refine Exists.intro _ (And.intro wA ?_))|(refine mul_Q ?_;intro hm1 hm2)|(refine Exists.intro _ (And.intro at_M ?_))|(refine Exists.intro _ (And.intro rfl ?_))|(refine Or.inl (Exists.intro _ (Exists.intro _ (And.intro (Twin_data n na) ?_))))|(refine Or.inl (Exists.intro _ (Exists.intro _ (And.intro (rCheck_ok n ok) ?_))))|(refine Or.inl (Exists.intro _ (Exists.intro _ (And.intro (Check_ok n ok) ?_))))|(refine Or.inl (Exists.intro _ (Exists.intro _ (And.intro (Sizes_ok n na) ?_))))|(refine Or.inl (Exists.intro _ (Exists.intro _ (And.intro (rSizes_ok n na) ?_))))|(refine Or.inl (Exists.intro _ (Exists.intro _ (And.intro (hsm) ?_))))|(refine Or.inl (Exists.intro _ (Exists.intro _ (And.intro (hex) ?_))))|(refine And.intro ?_ ?_;all_goals(intro hb;(try simp only [sn,sb] at hb);try exact ex0))|(intro b0 hb)))
    refine loop_i Nat (fun k => ⟨Tryz.f3.ntmps, [(1, .ref 0 0 0 0), (3, .ref 1 0 0 0), (4, .con (.int .i64 (checkE n))), (5, .ro true (tIL (szs n))), (6, .ro true (tIL (szs n))), (7, .ro true (tIL (szs n))), (8, .con (.int .i64 k))], [(0, bxNt n), (1, bxNt n)]⟩) (fun k => k = 0) (fun k => 0) [] 0 trivial rfl ⟨rfl, ⟨rfl, rfl, rfl, rfl, rfl, trivial, rfl, trivial, rfl, trivial, rfl, trivial, rfl, trivial, trivial⟩, ⟨rfl, rfl, trivial⟩, ⟨bx_cl n, bx_cl n, trivial⟩⟩ ?_
    rintro k hk0
    repeat' (first
     |(with_reducible (first|refine seq_i ?_|refine blk_i ?_|refine X.seq_n ?_|refine X.seq_r ?_|refine X.seq_x ?_|refine X.blk_n ?_|refine X.blk_r ?_|refine X.blk_s ?_|refine X.blk_o (by decide) ?_|refine skip_i ?_|refine ret_i ?_|refine exit_i ?_))
     |(with_reducible (refine reg_i ?_);intro K hK)
     |(with_reducible (refine drw_i ?_);intro K hK)
     |((with_reducible refine cond_t ?hc ?_);(case hc=>rfl))
     |((with_reducible refine cond_f ?hc ?_);(case hc=>rfl))
     |((with_reducible refine cond_m ?_);refine And.intro ?_ ?_;all_goals(intro hb;(try simp only [sn,sb] at hb);try exact ex0))
     |(refine hK _ ?_;clear hK K)
     |(refine hK _ _ rfl ?_;clear hK K)
     |(have hg:=hK;clear hg;first|(refine And.intro ?ga ?_;(case ga=>first|exact rfl|exact Nat.le_of_ble_eq_true rfl|omega|exact gJ))|(refine fresh_n ?_)|(refine freshO_n ?_)|(refine at_Q ?_;intro hu)|(refine Exists.intro _ (And.intro wA ?_))|(refine mul_Q ?_;intro hm1 hm2)|(refine Exists.intro _ (And.intro at_M ?_))|(refine Exists.intro _ (And.intro rfl ?_))|(refine Or.inl (Exists.intro _ (Exists.intro _ (And.intro (hsm) ?_))))|(refine Or.inl (Exists.intro _ (Exists.intro _ (And.intro (hck) ?_))))|(refine Or.inl (Exists.intro _ (Exists.intro _ (And.intro (hex) ?_))))|(refine And.intro ?_ ?_;all_goals(intro hb;(try simp only [sn,sb] at hb);try exact ex0))|(intro b0 hb)))
    all_goals exact And.intro trivial (fz_con rfl)
  · refine ok_of_ev (fun _ _ _ h => h) mix Tryz.func3 rfl rfl (by kernel_rfl) (Nat.le_of_ble_eq_true rfl) ?_
    repeat' (first
     |(with_reducible (first|refine seq_i ?_|refine blk_i ?_|refine X.seq_n ?_|refine X.seq_r ?_|refine X.seq_x ?_|refine X.blk_n ?_|refine X.blk_r ?_|refine X.blk_s ?_|refine X.blk_o (by decide) ?_|refine skip_i ?_|refine ret_i ?_|refine exit_i ?_))
     |(with_reducible (refine reg_i ?_);intro K hK)
     |(with_reducible (refine drw_i ?_);intro K hK)
     |((with_reducible refine cond_t ?hc ?_);(case hc=>rfl))
     |((with_reducible refine cond_f ?hc ?_);(case hc=>rfl))
     |((with_reducible refine cond_m ?_);refine And.intro ?_ ?_;all_goals(intro hb;(try simp only [sn,sb] at hb);try exact ex0))
     |(refine hK _ ?_;clear hK K)
     |(refine hK _ _ rfl ?_;clear hK K)
     |(have hg:=hK;clear hg;first|(refine And.intro ?ga ?_;(case ga=>first|exact rfl|exact Nat.le_of_ble_eq_true rfl|omega|exact gJ))|(refine fresh_c 0 rfl ?_)|(refine fresh_c 1 rfl ?_)|(refine freshO_d 2 rfl ?_)|(refine freshO_d 3 rfl ?_)|(refine freshO_n ?_)|(refine at_Q ?_;intro hu)|(refine Exists.intro _ (And.intro wA ?_))|(refine mul_Q ?_;intro hm1 hm2)|(refine Exists.intro _ (And.intro at_M ?_))|(refine Exists.intro _ (And.intro rfl ?_))|(refine Or.inl (Exists.intro _ (Exists.intro _ (And.intro (Twin_data n na) ?_))))|(refine Or.inl (Exists.intro _ (Exists.intro _ (And.intro (rCheck_ok n ok) ?_))))|(refine Or.inl (Exists.intro _ (Exists.intro _ (And.intro (Check_ok n ok) ?_))))|(refine Or.inr (Exists.intro _ (Exists.intro _ (And.intro (Sizes_okO n na hne) ?_))))|(refine Or.inl (Exists.intro _ (Exists.intro _ (And.intro (rSizes_ok n na) ?_))))|(refine' Or.inl (Exists.intro _ (Exists.intro _ (Exists.intro _ (And.intro (hsm) (Exists.intro [(2,_)] (And.intro (lpre1 ?lh) (And.intro ?lz (And.intro rfl ?_))))))));(case lh=>exact rfl);(case lz=>exact fzl2 (fzo_ci (congrArg some (sh_ci 2 (szs n))) zl) (fz_ro rfl (fun _ => rfl))))|(refine Or.inl (Exists.intro _ (Exists.intro _ (And.intro (hsm) ?_))))|(refine Or.inl (Exists.intro _ (Exists.intro _ (And.intro (hex) ?_))))|(refine And.intro ?_ ?_;all_goals(intro hb;(try simp only [sn,sb] at hb);try exact ex0))|(intro b0 hb)))
    refine loop_i (Nat × List Int) (fun z => ⟨Tryz.f3.ntmps, [(1, .ref 0 0 0 0), (3, .ref 1 0 0 0), (4, .con (.int .i64 (checkE n))), (5, .own 2 0 0 n.values.length), (6, .own 3 0 0 n.values.length), (7, .ro true (tIL (szs n))), (8, .con (.int .i64 z.1))], [(0, bxNt n), (1, bxNt n), (2, ⟨1, z.2.map ci, 0, true⟩), (3, ⟨1, (szs n).map ci, 0, true⟩)]⟩) (fun z => z.1 ≤ n.values.length ∧ z.2.length = n.values.length) (fun z => n.values.length - z.1) [] (0, szs n) trivial ⟨Nat.zero_le _, zl⟩ ⟨rfl, ⟨rfl, rfl, rfl, rfl, rfl, trivial, rfl, rfl, rfl, rfl, rfl, trivial, rfl, trivial, trivial⟩, ⟨rfl, rfl, congrArg some (sh_ci 2 (szs n)), congrArg some (sh_ci 3 (szs n)), trivial⟩, ⟨bx_cl n, bx_cl n, ci_cl _ _, ci_cl _ _, trivial⟩⟩ ?_
    rintro ⟨k, E⟩ ⟨h0, h1⟩
    dsimp only at h0 h1
    repeat' (first
     |(with_reducible (first|refine seq_i ?_|refine blk_i ?_|refine X.seq_n ?_|refine X.seq_r ?_|refine X.seq_x ?_|refine X.blk_n ?_|refine X.blk_r ?_|refine X.blk_s ?_|refine X.blk_o (by decide) ?_|refine skip_i ?_|refine ret_i ?_|refine exit_i ?_))
     |(with_reducible (refine reg_i ?_);intro K hK)
     |(with_reducible (refine drw_i ?_);intro K hK)
     |((with_reducible refine cond_t ?hc ?_);(case hc=>rfl))
     |((with_reducible refine cond_f ?hc ?_);(case hc=>rfl))
     |((with_reducible refine cond_m ?_);refine And.intro ?_ ?_;all_goals(intro hb;(try simp only [sn,sb] at hb);try exact ex0))
     |(refine hK _ ?_;clear hK K)
     |(refine hK _ _ rfl ?_;clear hK K)
     |(have hg:=hK;clear hg;first|(refine And.intro ?ga ?_;(case ga=>first|exact rfl|exact Nat.le_of_ble_eq_true rfl|omega|exact gJ))|(refine fresh_n ?_)|(refine freshO_n ?_)|(refine at_Q ?_;intro hu)|(refine Exists.intro _ (And.intro wA ?_))|(refine mul_Q ?_;intro hm1 hm2)|(refine Exists.intro _ (And.intro at_M ?_))|(refine Exists.intro _ (And.intro rfl ?_))|(refine' Or.inl (Exists.intro _ (Exists.intro _ (Exists.intro _ (And.intro (hsm) (Exists.intro [(3,_)] (And.intro (lpre1 ?lh) (And.intro ?lz (And.intro rfl ?_))))))));(case lh=>exact rfl);(case lz=>exact fzl2 (fzo_ci rfl zl) (fz_ro rfl (fun _ => rfl))))|(refine Or.inl (Exists.intro _ (Exists.intro _ (And.intro (hck) ?_))))|(refine Or.inl (Exists.intro _ (Exists.intro _ (And.intro (hex) ?_))))|(refine And.intro ?_ ?_;all_goals(intro hb;(try simp only [sn,sb] at hb);try exact ex0))|(intro b0 hb)))
    · exact ⟨(k + 1, E.set k (-1)), ⟨by show k + 1 ≤ _; omega, by show (E.set k (-1)).length = _; rw [List.length_set]; exact h1⟩, by show _ - (k + 1) < _ - k; omega, rfl, ⟨rfl, rfl, rfl, rfl, rfl, trivial, rfl, rfl, rfl, rfl, rfl, trivial, rfl, trivial, trivial⟩, ⟨rfl, rfl, set_ci E k (-1), rfl, trivial⟩, ⟨bx_cl n, bx_cl n, ci_cl _ _, ci_cl _ _, trivial⟩⟩
    · exact And.intro trivial (fz_con rfl)
end Go.Ev
