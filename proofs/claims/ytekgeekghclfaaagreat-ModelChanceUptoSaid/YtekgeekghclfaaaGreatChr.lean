import Derived.Test.YtekgeekghclfaaaGreatChL
import Derived.Test.YtekgeekghclfaaaGreatChk5
set_option linter.all false
namespace Go.Ev
open Go.Proofs
set_option maxRecDepth 10000
set_option maxHeartbeats 4000000
set_option linter.unusedSimpArgs false
set_option linter.unusedVariables false
theorem wrap64 {a : Int} (h0 : 0 ≤ a) (h1 : a ≤ 4611686018427387904) : a = IntKind.i64.wrap a := wrapAny (by simp only [kmin]; omega) (by simp only [kmax]; omega)
theorem zR_cl (oh : OH) : ∀ v ∈ [zR], v.cl oh := by
  intro v hv
  obtain rfl := List.mem_singleton.1 hv
  intro u hu
  simp at hu
  rcases hu with rfl | rfl <;> trivial
theorem rQ_cl (oh : OH) (s : Int × Nat) : ∀ v ∈ [rQ s], v.cl oh := by
  intro v hv
  obtain rfl := List.mem_singleton.1 hv
  intro u hu
  simp at hu
  rcases hu with rfl | rfl | rfl <;> trivial
theorem at_step {n : Nt} {xs ps : List Int} (fit : Fit n) (hxs : XsOK n xs) (hps : PsOK (szs n) ps) (hR : rowsF (szs n) ps ≤ 65536) {i : Nat} (hi : i < ps.length) :
    0 ≤ ps.getD i default ∧ (ps.getD i default).toNat < n.values.length ∧ (ps.getD i default).toNat < xs.length ∧ 0 ≤ atF (szs n) (ps.take i) xs ∧ atF (szs n) (ps.take i) xs ≤ 65536 ∧
    0 ≤ atF (szs n) (ps.take i) xs * ((n.values.getD (ps.getD i default).toNat default).length : Int) ∧ atF (szs n) (ps.take i) xs * ((n.values.getD (ps.getD i default).toNat default).length : Int) ≤ 65536 ∧
    0 ≤ xs.getD (ps.getD i default).toNat default ∧ xs.getD (ps.getD i default).toNat default ≤ 65536 ∧
    atF (szs n) (ps.take (i + 1)) xs = atF (szs n) (ps.take i) xs * ((n.values.getD (ps.getD i default).toNat default).length : Int) + xs.getD (ps.getD i default).toNat default := by
  obtain ⟨h1, h2, h3, h4⟩ := hps.at hi
  have hx := hxs.sz fit
  obtain ⟨x1, x2⟩ := hx _ h2
  obtain ⟨a1, a2, a3⟩ := atF_rng hps hx hR i (by omega)
  obtain ⟨b1, b2, b3⟩ := atF_rng hps hx hR (i + 1) (by omega)
  have hs := atF_snoc (z := szs n) (xs := xs) hi
  have h2' : (ps.getD i default).toNat < n.values.length := by simpa [szs] using h2
  have e4 : (szs n).getD (ps.getD i default).toNat 0 = ((n.values.getD (ps.getD i default).toNat default).length : Int) := szs_get h2'
  have xl : (ps.getD i default).toNat < xs.length := by have := fit.v; have := hxs.len; omega
  rw [e4] at hs x2
  have hx0 : xs.getD (ps.getD i default).toNat 0 = xs.getD (ps.getD i default).toNat default := rfl
  rw [hx0] at x1 x2 hs
  rw [hs] at b1 b2
  have q1 := Int.mul_nonneg a1 (Int.natCast_nonneg (n.values.getD (ps.getD i default).toNat default).length)
  exact ⟨h1, h2', xl, a1, by omega, q1, by omega, x1, by omega, hs⟩
theorem rRow_ok (n : Nt) (xs : List Int) (ok : CkOK n) (fit : Fit n) (hxs : XsOK n xs) (v : Nat) (hv : v < n.names.length) (hR : rowsF (szs n) (n.parents.getD v default) ≤ 65536) :
    Ok Tryz.prog 55 [tNt n, .con (.int .i64 v), tIL xs] true (.con (.int .i64 (atF (szs n) (n.parents.getD v default) xs))) := by
  have hps := fit.ps ok hv
  have hp := fit.p
  have c3 := ok.parents
  have c2 := ok.values
  have hl := hps.len
  refine ok_of_ev (fun _ _ _ h => h) mix Tryz.func55 rfl rfl (by kernel_rfl) (Nat.le_of_ble_eq_true rfl) ?_
  repeat' (first|(with_reducible first|refine zA ?_|refine zB ?_|refine zC ?_|refine zD ?_|refine zE ?_|refine zF ?_|refine zG ?_|refine zH ?_|refine zI ?_|refine zJ ?_|refine zK ?_|refine zL ?_)|(with_reducible refine reg_i ?_;intro K hK)|(with_reducible refine drw_i ?_;intro K hK)|((with_reducible refine cond_t ?hc ?_);(case hc=>rfl))|((with_reducible refine cond_f ?hc ?_);(case hc=>rfl))|((with_reducible refine cond_m ?_);refine And.intro ?_ ?_;all_goals(intro hb;(try simp only [sn,sb] at hb);try exact ex0))|(refine hK _ ?_;clear hK K)|(refine hK _ _ rfl ?_;clear hK K)|(have hg:=hK;clear hg;first|(refine And.intro ?zz ?_;case zz=>first|exact rfl|exact zO rfl|omega|exact gJ)|(refine fresh_c 0 rfl ?_)|(refine freshO_n ?_)|(refine at_Q ?_;intro hu)|(refine zP wA ?_)|(refine mul_Q ?_;intro hm1 hm2)|(refine zP at_M ?_)|(refine zP rfl ?_)|(refine And.intro ?_ ?_;all_goals(intro hb;(try simp only [sn,sb] at hb);try exact ex0))|(intro b0 hb)))
  obtain ⟨ps, hpe⟩ : ∃ ps, n.parents.getD v default = ps := ⟨_, rfl⟩
  rw [hpe] at hps hR hl ⊢
  refine loop_i Nat (fun i => ⟨Tryz.f55.ntmps, [(1, .con (.int .i64 v)), (2, .ro false (tIL xs)), (3, .ref 0 0 0 0), (7, .con (.int .i64 (atF (szs n) (ps.take i) xs))), (8, .con (.int .i64 i))], [(0, bxNt n)]⟩) (fun i => i ≤ ps.length) (fun i => ps.length - i) [] 0 trivial (Nat.zero_le _) ⟨rfl, ⟨rfl, trivial, rfl, trivial, rfl, rfl, rfl, trivial, rfl, trivial, trivial⟩, ⟨rfl, trivial⟩, ⟨bx_cl n, trivial⟩⟩ ?_
  intro i hi0
  have hpl : (n.parents.getD v default).length = ps.length := by rw [hpe]
  by_cases hi : i < ps.length
  · obtain ⟨h1, h2, h3, h4, h5, h6, h7, h8, h9, hs⟩ := at_step fit hxs hps hR hi
    have hg : (n.parents.getD v default).getD i default = ps.getD i default := by rw [hpe]
    rw [← hg] at h1 h2 h3 h6 h7 h8 h9 hs
    have hm : atF (szs n) (ps.take i) xs * ((n.values.getD ((n.parents.getD v default).getD i default).toNat default).length : Int) = IntKind.i64.wrap (atF (szs n) (ps.take i) xs * (((n.values.getD ((n.parents.getD v default).getD i default).toNat default).map tS).length : Nat)) := by
      rw [lenN]; exact wrap64 h6 (by omega)
    repeat' (first|(refine Exists.intro _ (And.intro hm ?_))|(with_reducible first|refine zA ?_|refine zB ?_|refine zC ?_|refine zD ?_|refine zE ?_|refine zF ?_|refine zG ?_|refine zH ?_|refine zI ?_|refine zJ ?_|refine zK ?_|refine zL ?_)|(with_reducible refine reg_i ?_;intro K hK)|(with_reducible refine drw_i ?_;intro K hK)|((with_reducible refine cond_t ?hc ?_);(case hc=>rfl))|((with_reducible refine cond_f ?hc ?_);(case hc=>rfl))|((with_reducible refine cond_m ?_);refine And.intro ?_ ?_;all_goals(intro hb;(try simp only [sn,sb] at hb);try exact ex0))|(refine hK _ ?_;clear hK K)|(refine hK _ _ rfl ?_;clear hK K)|(have hg:=hK;clear hg;first|(refine And.intro ?zz ?_;case zz=>first|exact rfl|exact zO rfl|omega|exact gJ)|(refine fresh_n ?_)|(refine freshO_n ?_)|(refine at_Q ?_;intro hu)|(refine zP wA ?_)|(refine mul_Q ?_;intro hm1 hm2)|(refine zP at_M ?_)|(refine zP rfl ?_)|(refine And.intro ?_ ?_;all_goals(intro hb;(try simp only [sn,sb] at hb);try exact ex0))|(intro b0 hb)))
    exact ⟨i + 1, by omega, by omega, rfl, ⟨rfl, trivial, rfl, trivial, rfl, rfl, congrArg (fun x => V.con (.int .i64 x)) hs.symm, trivial, rfl, trivial, trivial⟩, ⟨rfl, trivial⟩, ⟨bx_cl n, trivial⟩⟩
  · repeat' (first|(with_reducible first|refine zA ?_|refine zB ?_|refine zC ?_|refine zD ?_|refine zE ?_|refine zF ?_|refine zG ?_|refine zH ?_|refine zI ?_|refine zJ ?_|refine zK ?_|refine zL ?_)|(with_reducible refine reg_i ?_;intro K hK)|(with_reducible refine drw_i ?_;intro K hK)|((with_reducible refine cond_t ?hc ?_);(case hc=>rfl))|((with_reducible refine cond_f ?hc ?_);(case hc=>rfl))|((with_reducible refine cond_m ?_);refine And.intro ?_ ?_;all_goals(intro hb;(try simp only [sn,sb] at hb);try exact ex0))|(refine hK _ ?_;clear hK K)|(refine hK _ _ rfl ?_;clear hK K)|(have hg:=hK;clear hg;first|(refine And.intro ?zz ?_;case zz=>first|exact rfl|exact zO rfl|omega|exact gJ)|(refine fresh_n ?_)|(refine freshO_n ?_)|(refine at_Q ?_;intro hu)|(refine zP wA ?_)|(refine mul_Q ?_;intro hm1 hm2)|(refine zP at_M ?_)|(refine zP rfl ?_)|(refine And.intro ?_ ?_;all_goals(intro hb;(try simp only [sn,sb] at hb);try exact ex0))|(intro b0 hb)))
    rw [List.take_of_length_le (by omega)]
    exact And.intro trivial (fz_con rfl)
theorem rMulQ_ok (s : Int × Nat) (r : Rt) {B : Nat} (hs : QOK s B) (hB : B ≤ 268435456) (hr : szR r ≤ 268435456) : Ok Tryz.prog 54 [tQ s.1 s.2, tRt r] true (tQ (stepM s r).1 (stepM s r).2) := by
  obtain ⟨h1, h2, h3⟩ := hs
  unfold szR at hr
  have h := rMulR_ok (decide (qz s.1 s.2 < 0)) r.neg (lm (qz s.1 s.2).natAbs) (lm (qd s.1 s.2)) r.mag r.den (by omega) (by omega) (by omega) (by omega)
  rw [iv_Z, denv_lm (qd_pos h1)] at h
  exact h
theorem rProduct_ok (n : Nt) (xs : List Int) (ok : CkOK n) (hB : allR n ≤ 134217728) (hc : checkE n = 0) (hxs : XsOK n xs) : Ok Tryz.prog 31 [tNt n, tIL xs] true (tQ (chF n xs n.names.length).1 (chF n xs n.names.length).2) := by
  obtain ⟨fit, sh⟩ := check0 hc
  have hv := fit.v
  have hp := fit.p
  have ht := fit.t
  have hk := fit.k
  have hxl := hxs.len
  have c4 := ok.tables
  refine ok_of_ev (fun _ _ _ h => h) mix Tryz.func31 rfl rfl (by kernel_rfl) (Nat.le_of_ble_eq_true rfl) ?_
  repeat' (first|(with_reducible first|refine zA ?_|refine zB ?_|refine zC ?_|refine zD ?_|refine zE ?_|refine zF ?_|refine zG ?_|refine zH ?_|refine zI ?_|refine zJ ?_|refine zK ?_|refine zL ?_)|(with_reducible refine reg_i ?_;intro K hK)|(with_reducible refine drw_i ?_;intro K hK)|((with_reducible refine cond_t ?hc ?_);(case hc=>rfl))|((with_reducible refine cond_f ?hc ?_);(case hc=>rfl))|((with_reducible refine cond_m ?_);refine And.intro ?_ ?_;all_goals(intro hb;(try simp only [sn,sb] at hb);try exact ex0))|(refine hK _ ?_;clear hK K)|(refine hK _ _ rfl ?_;clear hK K)|(have hg:=hK;clear hg;first|(refine And.intro ?zz ?_;case zz=>first|exact rfl|exact zO rfl|omega|exact gJ)|(refine fresh_c 0 rfl ?_)|(refine fresh_c 1 rfl ?_)|(refine fresh_c 2 rfl ?_)|(refine freshO_n ?_)|(refine at_Q ?_;intro hu)|(refine zP wA ?_)|(refine mul_Q ?_;intro hm1 hm2)|(refine zP at_M ?_)|(refine zP rfl ?_)|(refine zQ (rOne_ok) ?_)|(refine And.intro ?_ ?_;all_goals(intro hb;(try simp only [sn,sb] at hb);try exact ex0))|(intro b0 hb)))
  refine loop_i Nat (fun k => ⟨Tryz.f31.ntmps, [(1, .ro false (tIL xs)), (2, .ref 0 0 0 0), (4, .ref 1 0 0 0), (5, .ref 2 0 0 0), (6, .con (.int .i64 k))], [(0, bxNt n), (1, ⟨3, [zR], 0, true⟩), (2, ⟨3, [rQ (chF n xs k)], 0, true⟩)]⟩) (fun k => k ≤ n.names.length) (fun k => n.names.length - k) [] 0 trivial (Nat.zero_le _) ⟨rfl, ⟨rfl, trivial, rfl, rfl, rfl, rfl, rfl, rfl, rfl, trivial, trivial⟩, ⟨rfl, rfl, rfl, trivial⟩, ⟨bx_cl n, zR_cl _, rQ_cl _ _, trivial⟩⟩ ?_
  intro k hk0
  by_cases hlt : k < n.names.length
  · obtain ⟨hR, a1, a2, a3, a4, a5, a6, a7⟩ := idx_rng ok hc hxs hlt
    have hrow := rRow_ok n xs ok fit hxs k hlt hR
    have hmem := cell_mem ok hc hxs k (by omega)
    have hQ := chF_ok (cell_mem ok hc hxs) k (by omega)
    have hb1 := allR_take (l := n.tables) (k := k)
    have hmt := getD_mem (l := n.tables) (i := k) (by omega)
    have hb2 := bulkR_mem hmem
    have hb3 := (ok.table _ hmt).2
    have hB' : (n.tables.map bulkR).sum ≤ 134217728 := hB
    have hmu := rMulQ_ok (chF n xs k) (cellF n xs k) hQ (by omega) (by omega)
    have hm : atF (szs n) (n.parents.getD k default) xs * ((n.values.getD k default).length : Int) = IntKind.i64.wrap (atF (szs n) (n.parents.getD k default) xs * (((n.values.getD k default).map tS).length : Nat)) := by
      rw [lenN]; exact wrap64 a3 (by omega)
    have hi : idxF n xs k = IntKind.i64.wrap (atF (szs n) (n.parents.getD k default) xs * ((n.values.getD k default).length : Int) + xs.getD k default) := wrap64 a5 (by omega)
    repeat' (first|(first | refine Exists.intro _ (And.intro hm ?_) | refine Exists.intro _ (And.intro hi ?_))|(with_reducible first|refine zA ?_|refine zB ?_|refine zC ?_|refine zD ?_|refine zE ?_|refine zF ?_|refine zG ?_|refine zH ?_|refine zI ?_|refine zJ ?_|refine zK ?_|refine zL ?_)|(with_reducible refine reg_i ?_;intro K hK)|(with_reducible refine drw_i ?_;intro K hK)|((with_reducible refine cond_t ?hc ?_);(case hc=>rfl))|((with_reducible refine cond_f ?hc ?_);(case hc=>rfl))|((with_reducible refine cond_m ?_);refine And.intro ?_ ?_;all_goals(intro hb;(try simp only [sn,sb] at hb);try exact ex0))|(refine hK _ ?_;clear hK K)|(refine hK _ _ rfl ?_;clear hK K)|(have hg:=hK;clear hg;first|(refine And.intro ?zz ?_;case zz=>first|exact rfl|exact zO rfl|omega|exact gJ)|(refine fresh_n ?_)|(refine freshO_n ?_)|(refine at_Q ?_;intro hu)|(refine zP wA ?_)|(refine mul_Q ?_;intro hm1 hm2)|(refine zP at_M ?_)|(refine zP rfl ?_)|(refine zQ (hrow) ?_)|(refine zQ (hmu) ?_)|(refine And.intro ?_ ?_;all_goals(intro hb;(try simp only [sn,sb] at hb);try exact ex0))|(intro b0 hb)))
    exact ⟨k + 1, by omega, by omega, rfl, ⟨rfl, trivial, rfl, rfl, rfl, rfl, rfl, rfl, rfl, trivial, trivial⟩, ⟨rfl, rfl, by rw [chF_succ]; rfl, trivial⟩, ⟨bx_cl n, zR_cl _, rQ_cl _ _, trivial⟩⟩
  · obtain rfl : k = n.names.length := by omega
    repeat' (first|(with_reducible first|refine zA ?_|refine zB ?_|refine zC ?_|refine zD ?_|refine zE ?_|refine zF ?_|refine zG ?_|refine zH ?_|refine zI ?_|refine zJ ?_|refine zK ?_|refine zL ?_)|(with_reducible refine reg_i ?_;intro K hK)|(with_reducible refine drw_i ?_;intro K hK)|((with_reducible refine cond_t ?hc ?_);(case hc=>rfl))|((with_reducible refine cond_f ?hc ?_);(case hc=>rfl))|((with_reducible refine cond_m ?_);refine And.intro ?_ ?_;all_goals(intro hb;(try simp only [sn,sb] at hb);try exact ex0))|(refine hK _ ?_;clear hK K)|(refine hK _ _ rfl ?_;clear hK K)|(have hg:=hK;clear hg;first|(refine And.intro ?zz ?_;case zz=>first|exact rfl|exact zO rfl|omega|exact gJ)|(refine fresh_n ?_)|(refine freshO_n ?_)|(refine at_Q ?_;intro hu)|(refine zP wA ?_)|(refine mul_Q ?_;intro hm1 hm2)|(refine zP at_M ?_)|(refine zP rfl ?_)|(refine And.intro ?_ ?_;all_goals(intro hb;(try simp only [sn,sb] at hb);try exact ex0))|(intro b0 hb)))
    exact ret_cell (l := [V.con (.bool (decide (qz (chF n xs n.names.length).1 (chF n xs n.names.length).2 < 0))), .ro true (tn (lm (qz (chF n xs n.names.length).1 (chF n xs n.names.length).2).natAbs)), .ro true (tn (lm (qd (chF n xs n.names.length).1 (chF n xs n.names.length).2)))]) rfl tk41 rfl (Nat.zero_lt_succ _) rfl rfl rat_eta
end Go.Ev
