import Derived.Test.YtekgeekghclfaaaGreatNames
import Derived.Test.YtekgeekghclfaaaGreatHeap
set_option linter.all false
namespace Go.Ev
open Go.Proofs
set_option maxRecDepth 10000
set_option maxHeartbeats 4000000
set_option linter.unusedSimpArgs false
set_option linter.unusedVariables false
def szs (n : Nt) : List Int := n.values.map fun l => (l.length : Int)
theorem szs_take {n : Nt} {k : Nat} (h : k < n.values.length) : (szs n).take (k + 1) = (szs n).take k ++ [((n.values.getD k default).length : Int)] := by
  have hl : k < (szs n).length := by simpa [szs] using h
  rw [List.take_succ_eq_append_getElem hl]
  simp [szs, List.getD, h]
theorem szs_get {n : Nt} {k : Nat} (h : k < n.values.length) : (szs n).getD k default = ((n.values.getD k default).length : Int) := by simp [szs, List.getD, h]
def stZr (N : Nat) (n : Nt) (k : Nat) : St := ⟨N, [(1, .ref 0 0 0 0), (3, .own 1 k 0 k), (4, .con (.int .i64 k))], [(0, bxNt n), (1, ⟨1, ((szs n).take k).map ci, k, true⟩)]⟩
theorem szs_app {n : Nt} {k : Nat} (h : k < n.values.length) : some (⟨1, (((szs n).take k).map ci).take k ++ [ci (((n.values.getD k default).map tS).length : Nat)], k + 1, true⟩ : Obj) = some ⟨1, ((szs n).take (k + 1)).map ci, k + 1, true⟩ := by
  rw [szs_take h, List.map_append, List.take_of_length_le (by rw [List.length_map, List.length_take]; omega), lenN]; rfl
theorem szs_end (n : Nt) : some (⟨1, ((szs n).take n.values.length).map ci, n.values.length, true⟩ : Obj) = some ⟨1, (szs n).map ci, n.values.length, true⟩ := by
  rw [List.take_of_length_le (by simp [szs])]
theorem rSizes_ok (n : Nt) (na : NtOK n) : Ok Tryz.prog 8 [tNt n] true (tIL (szs n)) := by
  have hv := na.values
  refine ok_of_ev (fun _ _ _ h => h) mix Tryz.func8 rfl rfl (by kernel_rfl) (Nat.le_of_ble_eq_true rfl) ?_
  repeat' (first|(with_reducible first|refine zA ?_|refine zB ?_|refine zC ?_|refine zD ?_|refine zE ?_|refine zF ?_|refine zG ?_|refine zH ?_|refine zI ?_|refine zJ ?_|refine zK ?_|refine zL ?_)|(with_reducible refine reg_i ?_;intro K hK)|(with_reducible refine drw_i ?_;intro K hK)|((with_reducible refine cond_t ?hc ?_);(case hc=>rfl))|((with_reducible refine cond_f ?hc ?_);(case hc=>rfl))|((with_reducible refine cond_m ?_);refine And.intro ?_ ?_;all_goals(intro hb;(try simp only [sn,sb] at hb);try exact ex0))|(refine hK _ ?_;clear hK K)|(refine hK _ _ rfl ?_;clear hK K)|(have hg:=hK;clear hg;first|(refine And.intro ?zz ?_;case zz=>first|exact rfl|exact zO rfl|omega|exact gJ)|(refine fresh_c 0 rfl ?_)|(refine fresh_c 2 rfl ?_)|(refine freshO_n ?_)|(refine at_Q ?_;intro hu)|(refine zP wA ?_)|(refine mul_Q ?_;intro hm1 hm2)|(refine zP at_M ?_)|(refine zP rfl ?_)|(refine And.intro ?_ ?_;all_goals(intro hb;(try simp only [sn,sb] at hb);try exact ex0))|(intro b0 hb)))
  refine loop_i Nat (stZr Tryz.f8.ntmps n) (fun k => k ≤ n.values.length) (fun k => n.values.length - k) [(3, 1, 1)] 0 ⟨rfl, rfl, trivial⟩ (Nat.zero_le _) ⟨rfl, ⟨rfl, rfl, rfl, rfl, rfl, trivial, trivial⟩, ⟨rfl, rfl, trivial⟩, ⟨bx_cl n, ci_cl _ _, trivial⟩⟩ ?_
  intro k h0
  have hsl : (szs n).length = n.values.length := by simp [szs]
  repeat' (first|(with_reducible first|refine zA ?_|refine zB ?_|refine zC ?_|refine zD ?_|refine zE ?_|refine zF ?_|refine zG ?_|refine zH ?_|refine zI ?_|refine zJ ?_|refine zK ?_|refine zL ?_)|(with_reducible refine reg_i ?_;intro K hK)|(with_reducible refine drw_i ?_;intro K hK)|((with_reducible refine cond_t ?hc ?_);(case hc=>rfl))|((with_reducible refine cond_f ?hc ?_);(case hc=>rfl))|((with_reducible refine cond_m ?_);refine And.intro ?_ ?_;all_goals(intro hb;(try simp only [sn,sb] at hb);try exact ex0))|(refine hK _ ?_;clear hK K)|(refine hK _ _ rfl ?_;clear hK K)|(have hg:=hK;clear hg;first|(refine And.intro ?zz ?_;case zz=>first|exact rfl|exact zO rfl|omega|exact gJ)|(refine fresh_c 2 rfl ?_)|(refine freshO_n ?_)|(refine at_Q ?_;intro hu)|(refine zP wA ?_)|(refine mul_Q ?_;intro hm1 hm2)|(refine zP at_M ?_)|(refine zP rfl ?_)|(refine And.intro ?_ ?_;all_goals(intro hb;(try simp only [sn,sb] at hb);try exact ex0))|(intro b0 hb)))
  · exact ⟨k + 1, by omega, by omega, rfl, ⟨rfl, rfl, rfl, rfl, rfl, trivial, trivial⟩, ⟨rfl, szs_app (by omega), trivial⟩, ⟨bx_cl n, ci_cl _ _, trivial⟩⟩
  · obtain rfl : k = n.values.length := by omega
    exact And.intro trivial (fzo_ci (l := szs n) (szs_end n) hsl)
def many : Int := 1099511627776
def mulC (k s : Int) : Int := if many < k * s then many else k * s
def rowsF (z ps : List Int) : Int := ps.foldl (fun k p => mulC k (z.getD p.toNat 0)) 1
theorem mulC_rng {k s : Int} (hk : 0 ≤ k ∧ k ≤ many) (hs : 0 ≤ s) : 0 ≤ mulC k s ∧ mulC k s ≤ many := by
  have h := Int.mul_nonneg hk.1 hs
  unfold mulC many at *
  split <;> omega
theorem rowsF_rng (z ps : List Int) (hz : ∀ s ∈ z, 0 ≤ s) : 0 ≤ rowsF z ps ∧ rowsF z ps ≤ many := by
  have key : ∀ (ps : List Int) (k : Int), 0 ≤ k ∧ k ≤ many → 0 ≤ ps.foldl (fun k p => mulC k (z.getD p.toNat 0)) k ∧ ps.foldl (fun k p => mulC k (z.getD p.toNat 0)) k ≤ many := by
    intro ps
    induction ps with
    | nil => exact fun k h => h
    | cons p r ih =>
      intro k h
      refine ih _ (mulC_rng h ?_)
      by_cases hp : p.toNat < z.length
      · have : z.getD p.toNat 0 ∈ z := by simp [List.getD, hp]
        exact hz _ this
      · simp [List.getD, hp]
  exact key ps 1 (by unfold many; omega)
theorem rowsF_snoc {z ps : List Int} {i : Nat} (h : i < ps.length) : rowsF z (ps.take (i + 1)) = mulC (rowsF z (ps.take i)) (z.getD (ps.getD i default).toNat 0) := by
  unfold rowsF
  rw [foldl_take h]; rfl
theorem mul_bnd {k s : Int} (hk : 0 ≤ k ∧ k ≤ many) (hs : 0 ≤ s ∧ s ≤ 1048576) : 0 ≤ k * s ∧ k * s ≤ 1152921504606846976 := by
  have h1 := Int.mul_nonneg hk.1 hs.1
  have h2 : k * s ≤ many * 1048576 := Int.mul_le_mul hk.2 hs.2 hs.1 (by unfold many; omega)
  unfold many at *
  omega
theorem div_gt {k s : Int} (hk : 0 ≤ k) (hs : 1 ≤ s) {m : Int} (hm : 0 ≤ m) : m.tdiv s < k ↔ m < k * s := by
  rw [Int.tdiv_eq_ediv_of_nonneg hm]
  rw [Int.ediv_lt_iff_lt_mul (by omega)]
structure PsOK (z ps : List Int) : Prop where
  rng : ∀ p ∈ ps, 0 ≤ p ∧ p.toNat < z.length
  sz : ∀ s ∈ z, 1 ≤ s ∧ s ≤ 1048576
  len : ps.length ≤ 1048576
  zlen : z.length ≤ 1048576
theorem PsOK.at {z ps : List Int} (h : PsOK z ps) {i : Nat} (hi : i < ps.length) : 0 ≤ ps.getD i default ∧ (ps.getD i default).toNat < z.length ∧ 1 ≤ z.getD (ps.getD i default).toNat default ∧ z.getD (ps.getD i default).toNat default ≤ 1048576 := by
  obtain ⟨h1, h2⟩ := h.rng _ (getD_mem hi)
  have := h.sz _ (getD_mem h2)
  exact ⟨h1, h2, this.1, this.2⟩
theorem Choices_ok (ps z : List Int) (h : PsOK z ps) : Ok Tryz.prog 18 [tIL ps, tIL z] true (.con (.int .i64 (rowsF z ps))) := by
  have hl := h.len
  have hzl := h.zlen
  refine ok_of_ev (fun _ _ _ h => h) mix Tryz.func18 rfl rfl (by kernel_rfl) (Nat.le_of_ble_eq_true rfl) ?_
  repeat' (first|(with_reducible first|refine zA ?_|refine zB ?_|refine zC ?_|refine zD ?_|refine zE ?_|refine zF ?_|refine zG ?_|refine zH ?_|refine zI ?_|refine zJ ?_|refine zK ?_|refine zL ?_)|(with_reducible refine reg_i ?_;intro K hK)|(with_reducible refine drw_i ?_;intro K hK)|((with_reducible refine cond_t ?hc ?_);(case hc=>rfl))|((with_reducible refine cond_f ?hc ?_);(case hc=>rfl))|((with_reducible refine cond_m ?_);refine And.intro ?_ ?_;all_goals(intro hb;(try simp only [sn,sb] at hb);try exact ex0))|(refine hK _ ?_;clear hK K)|(refine hK _ _ rfl ?_;clear hK K)|(have hg:=hK;clear hg;first|(refine And.intro ?zz ?_;case zz=>first|exact rfl|exact zO rfl|omega|exact gJ)|(refine fresh_n ?_)|(refine freshO_n ?_)|(refine at_Q ?_;intro hu)|(refine zP wA ?_)|(refine mul_Q ?_;intro hm1 hm2)|(refine zP at_M ?_)|(refine zP rfl ?_)|(refine And.intro ?_ ?_;all_goals(intro hb;(try simp only [sn,sb] at hb);try exact ex0))|(intro b0 hb)))
  refine loop_i Nat (fun i => ⟨Tryz.f18.ntmps, [(0, .ro false (tIL ps)), (1, .ro false (tIL z)), (5, .con (.int .i64 i))], []⟩) (fun i => i ≤ ps.length) (fun i => ps.length - i) [] 0 trivial (Nat.zero_le _) ⟨rfl, ⟨rfl, trivial, rfl, trivial, rfl, trivial, trivial⟩, trivial, trivial⟩ ?_
  intro i hi0
  by_cases hi : i < ps.length
  · obtain ⟨h1, h2, h3, h4⟩ := h.at hi
    repeat' (first|(with_reducible first|refine zA ?_|refine zB ?_|refine zC ?_|refine zD ?_|refine zE ?_|refine zF ?_|refine zG ?_|refine zH ?_|refine zI ?_|refine zJ ?_|refine zK ?_|refine zL ?_)|(with_reducible refine reg_i ?_;intro K hK)|(with_reducible refine drw_i ?_;intro K hK)|((with_reducible refine cond_t ?hc ?_);(case hc=>rfl))|((with_reducible refine cond_f ?hc ?_);(case hc=>rfl))|((with_reducible refine cond_m ?_);refine And.intro ?_ ?_;all_goals(intro hb;(try simp only [sn,sb] at hb);try exact ex0))|(refine hK _ ?_;clear hK K)|(refine hK _ _ rfl ?_;clear hK K)|(have hg:=hK;clear hg;first|(refine And.intro ?zz ?_;case zz=>first|exact rfl|exact zO rfl|omega|exact gJ)|(refine fresh_n ?_)|(refine freshO_n ?_)|(refine at_Q ?_;intro hu)|(refine zP wA ?_)|(refine mul_Q ?_;intro hm1 hm2)|(refine zP at_M ?_)|(refine zP rfl ?_)|(refine And.intro ?_ ?_;all_goals(intro hb;(try simp only [sn,sb] at hb);try exact ex0))|(intro b0 hb)))
    exact ⟨i + 1, by omega, by omega, rfl, ⟨rfl, trivial, rfl, trivial, rfl, trivial, trivial⟩, trivial, trivial⟩
  · repeat' (first|(with_reducible first|refine zA ?_|refine zB ?_|refine zC ?_|refine zD ?_|refine zE ?_|refine zF ?_|refine zG ?_|refine zH ?_|refine zI ?_|refine zJ ?_|refine zK ?_|refine zL ?_)|(with_reducible refine reg_i ?_;intro K hK)|(with_reducible refine drw_i ?_;intro K hK)|((with_reducible refine cond_t ?hc ?_);(case hc=>rfl))|((with_reducible refine cond_f ?hc ?_);(case hc=>rfl))|((with_reducible refine cond_m ?_);refine And.intro ?_ ?_;all_goals(intro hb;(try simp only [sn,sb] at hb);try exact ex0))|(refine hK _ ?_;clear hK K)|(refine hK _ _ rfl ?_;clear hK K)|(have hg:=hK;clear hg;first|(refine And.intro ?zz ?_;case zz=>first|exact rfl|exact zO rfl|omega|exact gJ)|(refine fresh_n ?_)|(refine freshO_n ?_)|(refine at_Q ?_;intro hu)|(refine zP wA ?_)|(refine mul_Q ?_;intro hm1 hm2)|(refine zP at_M ?_)|(refine zP rfl ?_)|(refine And.intro ?_ ?_;all_goals(intro hb;(try simp only [sn,sb] at hb);try exact ex0))|(intro b0 hb)))
    refine loop_i Nat (fun i => ⟨Tryz.f18.ntmps, [(0, .ro false (tIL ps)), (1, .ro false (tIL z)), (6, .con (.int .i64 (rowsF z (ps.take i)))), (7, .con (.int .i64 i))], []⟩) (fun i => i ≤ ps.length) (fun i => ps.length - i) [] 0 trivial (Nat.zero_le _) ⟨rfl, ⟨rfl, trivial, rfl, trivial, rfl, trivial, rfl, trivial, trivial⟩, trivial, trivial⟩ ?_
    clear hi hi0 hb i
    intro i hi0
    have hrr := rowsF_rng z (ps.take i) fun s hs => by have := h.sz s hs; omega
    by_cases hi : i < ps.length
    · obtain ⟨h1, h2, h3, h4⟩ := h.at hi
      have hmb := mul_bnd hrr ⟨by omega, h4⟩
      have hd := div_gt hrr.1 h3 (m := many) (by decide)
      have hd0 : 0 ≤ many.tdiv (z.getD (ps.getD i default).toNat default) := Int.tdiv_nonneg (by decide) (by omega)
      have hd1 : many.tdiv (z.getD (ps.getD i default).toNat default) ≤ many := by
        rw [Int.tdiv_eq_ediv_of_nonneg (by decide)]
        exact Int.ediv_le_self _ (by decide)
      have hq : many.tdiv (z.getD (ps.getD i default).toNat default) = IntKind.i64.wrap ((1099511627776 : Int).tdiv (z.getD (ps.getD i default).toNat default)) :=
        wrapAny (a := many.tdiv _) (by simp only [kmin]; omega) (by simp only [kmax]; have hm9 : many = 1099511627776 := rfl; omega)
      have hm : rowsF z (ps.take i) * z.getD (ps.getD i default).toNat default = IntKind.i64.wrap (rowsF z (ps.take i) * z.getD (ps.getD i default).toNat default) :=
        wrapAny (by simp only [kmin]; omega) (by simp only [kmax]; omega)
      have hs := rowsF_snoc (z := z) hi
      repeat' (first|(first | refine Exists.intro _ (And.intro hq ?_) | refine Exists.intro _ (And.intro hm ?_))|(with_reducible first|refine zA ?_|refine zB ?_|refine zC ?_|refine zD ?_|refine zE ?_|refine zF ?_|refine zG ?_|refine zH ?_|refine zI ?_|refine zJ ?_|refine zK ?_|refine zL ?_)|(with_reducible refine reg_i ?_;intro K hK)|(with_reducible refine drw_i ?_;intro K hK)|((with_reducible refine cond_t ?hc ?_);(case hc=>rfl))|((with_reducible refine cond_f ?hc ?_);(case hc=>rfl))|((with_reducible refine cond_m ?_);refine And.intro ?_ ?_;all_goals(intro hb;(try simp only [sn,sb] at hb);try exact ex0))|(refine hK _ ?_;clear hK K)|(refine hK _ _ rfl ?_;clear hK K)|(have hg:=hK;clear hg;first|(refine And.intro ?zz ?_;case zz=>first|exact rfl|exact zO rfl|omega|exact gJ)|(refine fresh_n ?_)|(refine freshO_n ?_)|(refine at_Q ?_;intro hu)|(refine zP wA ?_)|(refine mul_Q ?_;intro hm1 hm2)|(refine zP at_M ?_)|(refine zP rfl ?_)|(refine And.intro ?_ ?_;all_goals(intro hb;(try simp only [sn,sb] at hb);try exact ex0))|(intro b0 hb)))
      · have e : (1099511627776 : Int) = rowsF z (ps.take (i + 1)) := by rw [hs]; exact (if_pos (hd.1 hb)).symm
        exact ⟨i + 1, by omega, by omega, rfl, ⟨rfl, trivial, rfl, trivial, congrArg (fun x => V.con (.int .i64 x)) e, trivial, rfl, trivial, trivial⟩, trivial, trivial⟩
      · have e : rowsF z (ps.take i) * z.getD (ps.getD i default).toNat default = rowsF z (ps.take (i + 1)) := by
          rw [hs]; exact (if_neg fun h9 => by have := hd.2 h9; omega).symm
        exact ⟨i + 1, by omega, by omega, rfl, ⟨rfl, trivial, rfl, trivial, congrArg (fun x => V.con (.int .i64 x)) e, trivial, rfl, trivial, trivial⟩, trivial, trivial⟩
    · repeat' (first|(with_reducible first|refine zA ?_|refine zB ?_|refine zC ?_|refine zD ?_|refine zE ?_|refine zF ?_|refine zG ?_|refine zH ?_|refine zI ?_|refine zJ ?_|refine zK ?_|refine zL ?_)|(with_reducible refine reg_i ?_;intro K hK)|(with_reducible refine drw_i ?_;intro K hK)|((with_reducible refine cond_t ?hc ?_);(case hc=>rfl))|((with_reducible refine cond_f ?hc ?_);(case hc=>rfl))|((with_reducible refine cond_m ?_);refine And.intro ?_ ?_;all_goals(intro hb;(try simp only [sn,sb] at hb);try exact ex0))|(refine hK _ ?_;clear hK K)|(refine hK _ _ rfl ?_;clear hK K)|(have hg:=hK;clear hg;first|(refine And.intro ?zz ?_;case zz=>first|exact rfl|exact zO rfl|omega|exact gJ)|(refine fresh_n ?_)|(refine freshO_n ?_)|(refine at_Q ?_;intro hu)|(refine zP wA ?_)|(refine mul_Q ?_;intro hm1 hm2)|(refine zP at_M ?_)|(refine zP rfl ?_)|(refine And.intro ?_ ?_;all_goals(intro hb;(try simp only [sn,sb] at hb);try exact ex0))|(intro b0 hb)))
      rw [List.take_of_length_le (by omega)]
      exact And.intro trivial (fz_con rfl)
theorem rows_ok (n : Nt) (v : Nat) (hv : v < n.parents.length) (hp : n.parents.length ≤ 1048576) (hvl : n.values.length ≤ 1048576) (h : PsOK (szs n) (n.parents.getD v default)) : Ok Tryz.prog 24 [tNt n, .con (.int .i64 v)] true (.con (.int .i64 (rowsF (szs n) (n.parents.getD v default)))) := by
  have hl := h.len
  refine ok_of_ev (fun _ _ _ h => h) mix Tryz.func24 rfl rfl (by kernel_rfl) (Nat.le_of_ble_eq_true rfl) ?_
  repeat' (first|(with_reducible first|refine zA ?_|refine zB ?_|refine zC ?_|refine zD ?_|refine zE ?_|refine zF ?_|refine zG ?_|refine zH ?_|refine zI ?_|refine zJ ?_|refine zK ?_|refine zL ?_)|(with_reducible refine reg_i ?_;intro K hK)|(with_reducible refine drw_i ?_;intro K hK)|((with_reducible refine cond_t ?hc ?_);(case hc=>rfl))|((with_reducible refine cond_f ?hc ?_);(case hc=>rfl))|((with_reducible refine cond_m ?_);refine And.intro ?_ ?_;all_goals(intro hb;(try simp only [sn,sb] at hb);try exact ex0))|(refine hK _ ?_;clear hK K)|(refine hK _ _ rfl ?_;clear hK K)|(have hg:=hK;clear hg;first|(refine And.intro ?zz ?_;case zz=>first|exact rfl|exact zO rfl|omega|exact gJ)|(refine fresh_c 0 rfl ?_)|(refine freshO_n ?_)|(refine at_Q ?_;intro hu)|(refine zP wA ?_)|(refine mul_Q ?_;intro hm1 hm2)|(refine zP at_M ?_)|(refine zP rfl ?_)|(refine And.intro ?_ ?_;all_goals(intro hb;(try simp only [sn,sb] at hb);try exact ex0))|(intro b0 hb)))
  obtain ⟨ps, hps⟩ : ∃ ps, n.parents.getD v default = ps := ⟨_, rfl⟩
  rw [hps] at h hl ⊢
  refine loop_i Nat (fun i => ⟨Tryz.f24.ntmps, [(2, .ref 0 0 0 0), (5, .con (.int .i64 (rowsF (szs n) (ps.take i)))), (12, .ro false (tIL ps)), (13, .con (.int .i64 ps.length)), (14, .con (.int .i64 i))], [(0, bxNt n)]⟩) (fun i => i ≤ ps.length) (fun i => ps.length - i) [] 0 trivial (Nat.zero_le _) ⟨rfl, ⟨rfl, rfl, rfl, trivial, congrArg (fun x => V.ro false (tIL x)) hps, trivial, ?_, trivial, rfl, trivial, trivial⟩, ⟨rfl, trivial⟩, ⟨bx_cl n, trivial⟩⟩ ?_
  · show V.con (.int .i64 (((n.parents.getD v default).map tI64).length : Nat)) = _
    rw [hps, lenN]
  intro i hi0
  have hrr := rowsF_rng (szs n) (ps.take i) fun s hs => by have := h.sz s hs; omega
  by_cases hi : i < ps.length
  · obtain ⟨h1, h2, h3, h4⟩ := h.at hi
    have h2' : (ps.getD i default).toNat < n.values.length := by simpa [szs] using h2
    have e4 : (szs n).getD (ps.getD i default).toNat default = ((n.values.getD (ps.getD i default).toNat default).length : Int) := szs_get h2'
    have hmb := mul_bnd hrr ⟨by omega, h4⟩
    have hs := rowsF_snoc (z := szs n) hi
    have hs : rowsF (szs n) (ps.take (i + 1)) = mulC (rowsF (szs n) (ps.take i)) ((szs n).getD (ps.getD i default).toNat default) := hs
    rw [e4] at hmb hs
    have hm : rowsF (szs n) (ps.take i) * ((n.values.getD (ps.getD i default).toNat default).length : Int) = IntKind.i64.wrap (rowsF (szs n) (ps.take i) * (((n.values.getD (ps.getD i default).toNat default).map tS).length : Nat)) := by
      rw [lenN]; exact wrapAny (by simp only [kmin]; omega) (by simp only [kmax]; omega)
    repeat' (first|(refine Exists.intro _ (And.intro hm ?_))|(with_reducible first|refine zA ?_|refine zB ?_|refine zC ?_|refine zD ?_|refine zE ?_|refine zF ?_|refine zG ?_|refine zH ?_|refine zI ?_|refine zJ ?_|refine zK ?_|refine zL ?_)|(with_reducible refine reg_i ?_;intro K hK)|(with_reducible refine drw_i ?_;intro K hK)|((with_reducible refine cond_t ?hc ?_);(case hc=>rfl))|((with_reducible refine cond_f ?hc ?_);(case hc=>rfl))|((with_reducible refine cond_m ?_);refine And.intro ?_ ?_;all_goals(intro hb;(try simp only [sn,sb] at hb);try exact ex0))|(refine hK _ ?_;clear hK K)|(refine hK _ _ rfl ?_;clear hK K)|(have hg:=hK;clear hg;first|(refine And.intro ?zz ?_;case zz=>first|exact rfl|exact zO rfl|omega|exact gJ)|(refine fresh_n ?_)|(refine freshO_n ?_)|(refine at_Q ?_;intro hu)|(refine zP wA ?_)|(refine mul_Q ?_;intro hm1 hm2)|(refine zP at_M ?_)|(refine zP rfl ?_)|(refine And.intro ?_ ?_;all_goals(intro hb;(try simp only [sn,sb] at hb);try exact ex0))|(intro b0 hb)))
    exact ⟨i + 1, by omega, by omega, rfl, ⟨rfl, rfl, congrArg (fun x => V.con (.int .i64 x)) hs.symm, trivial, rfl, trivial, rfl, trivial, rfl, trivial, trivial⟩, ⟨rfl, trivial⟩, ⟨bx_cl n, trivial⟩⟩
  · repeat' (first|(with_reducible first|refine zA ?_|refine zB ?_|refine zC ?_|refine zD ?_|refine zE ?_|refine zF ?_|refine zG ?_|refine zH ?_|refine zI ?_|refine zJ ?_|refine zK ?_|refine zL ?_)|(with_reducible refine reg_i ?_;intro K hK)|(with_reducible refine drw_i ?_;intro K hK)|((with_reducible refine cond_t ?hc ?_);(case hc=>rfl))|((with_reducible refine cond_f ?hc ?_);(case hc=>rfl))|((with_reducible refine cond_m ?_);refine And.intro ?_ ?_;all_goals(intro hb;(try simp only [sn,sb] at hb);try exact ex0))|(refine hK _ ?_;clear hK K)|(refine hK _ _ rfl ?_;clear hK K)|(have hg:=hK;clear hg;first|(refine And.intro ?zz ?_;case zz=>first|exact rfl|exact zO rfl|omega|exact gJ)|(refine fresh_n ?_)|(refine freshO_n ?_)|(refine at_Q ?_;intro hu)|(refine zP wA ?_)|(refine mul_Q ?_;intro hm1 hm2)|(refine zP at_M ?_)|(refine zP rfl ?_)|(refine And.intro ?_ ?_;all_goals(intro hb;(try simp only [sn,sb] at hb);try exact ex0))|(intro b0 hb)))
    rw [List.take_of_length_le (by omega)]
    exact And.intro trivial (fz_con rfl)
theorem Over_ok (a b : Int) (ha : 0 ≤ a) (hb1 : 1 ≤ b) : Ok Tryz.prog 19 [.con (.int .i64 a), .con (.int .i64 b)] true (.con (.bool (decide (65536 < a * b)))) := by
  have hd := div_gt ha hb1 (m := 65536) (by decide)
  have hd0 : 0 ≤ (65536 : Int).tdiv b := Int.tdiv_nonneg (by decide) (by omega)
  have hd1 : (65536 : Int).tdiv b ≤ 65536 := by
    rw [Int.tdiv_eq_ediv_of_nonneg (by decide)]
    exact Int.ediv_le_self _ (by decide)
  have hq : (65536 : Int).tdiv b = IntKind.i64.wrap ((65536 : Int).tdiv b) := wrapAny (by simp only [kmin]; omega) (by simp only [kmax]; omega)
  refine ok_of_ev (fun _ _ _ h => h) mix Tryz.func19 rfl rfl (by kernel_rfl) (Nat.le_of_ble_eq_true rfl) ?_
  repeat' (first|(refine Exists.intro _ (And.intro hq ?_))|(with_reducible first|refine zA ?_|refine zB ?_|refine zC ?_|refine zD ?_|refine zE ?_|refine zF ?_|refine zG ?_|refine zH ?_|refine zI ?_|refine zJ ?_|refine zK ?_|refine zL ?_)|(with_reducible refine reg_i ?_;intro K hK)|(with_reducible refine drw_i ?_;intro K hK)|((with_reducible refine cond_t ?hc ?_);(case hc=>rfl))|((with_reducible refine cond_f ?hc ?_);(case hc=>rfl))|((with_reducible refine cond_m ?_);refine And.intro ?_ ?_;all_goals(intro hb;(try simp only [sn,sb] at hb);try exact ex0))|(refine hK _ ?_;clear hK K)|(refine hK _ _ rfl ?_;clear hK K)|(have hg:=hK;clear hg;first|(refine And.intro ?zz ?_;case zz=>first|exact rfl|exact zO rfl|omega|exact gJ)|(refine fresh_n ?_)|(refine freshO_n ?_)|(refine at_Q ?_;intro hu)|(refine zP wA ?_)|(refine mul_Q ?_;intro hm1 hm2)|(refine zP at_M ?_)|(refine zP rfl ?_)|(refine And.intro ?_ ?_;all_goals(intro hb;(try simp only [sn,sb] at hb);try exact ex0))|(intro b0 hb)))
  exact And.intro trivial (fz_con (congrArg Value.bool (decide_eq_decide.2 hd)))
end Go.Ev
