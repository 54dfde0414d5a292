import Derived.Test.YtekgeekghclfaaaGreatRef3
set_option linter.all false
namespace Go.Ev
open Go.Proofs
set_option maxRecDepth 10000
set_option maxHeartbeats 4000000
set_option linter.unusedSimpArgs false
set_option linter.unusedVariables false
def tab (n : Nat) : Nat := if n = 0 then 0 else Nat.log2 n + 1
def len32 (x : Nat) : Nat :=
  if x < 65536 then (if x < 256 then tab x else 8 + tab (x / 256)) else (if x / 65536 < 256 then 16 + tab (x / 65536) else 24 + tab (x / 65536 / 256))
theorem len32_zero (x : Nat) : len32 x = 0 ↔ x = 0 := by
  have ht : ∀ n, tab n = 0 ↔ n = 0 := fun n => by unfold tab; split <;> simp_all
  unfold len32
  split
  · split
    · exact ht x
    · omega
  · split <;> omega
def tabS : ByteArray := ⟨((List.range 256).map fun n => UInt8.ofNat (tab n)).toArray⟩
theorem tab_le {n : Nat} (h : n < 256) : tab n ≤ 8 := by
  unfold tab
  split
  · omega
  · have := (Nat.log2_lt (by assumption : n ≠ 0) (k := 8)).2 (by simpa using h)
    omega
theorem shr16 {a : Int} {Q : Int → Prop} (ha : 0 ≤ a) (h : ∀ r, r = a / 65536 → Q r) : ∃ r, r = a.fdiv (2 ^ (min (16 : Int).toNat IntKind.u32.bits)) ∧ Q r := by
  refine ⟨_, rfl, h _ ?_⟩
  show a.fdiv 65536 = _
  exact Int.fdiv_eq_ediv_of_nonneg _ (by decide)
theorem shr8 {a : Int} {Q : Int → Prop} (ha : 0 ≤ a) (h : ∀ r, r = a / 256 → Q r) : ∃ r, r = a.fdiv (2 ^ (min (8 : Int).toNat IntKind.u32.bits)) ∧ Q r := by
  refine ⟨_, rfl, h _ ?_⟩
  show a.fdiv 256 = _
  exact Int.fdiv_eq_ediv_of_nonneg _ (by decide)
theorem ba_get (a : Array UInt8) (i : Nat) : (ByteArray.mk a)[i]? = a[i]? := by
  by_cases h : i < a.size
  · rw [Array.getElem?_eq_getElem h]; exact dif_pos h
  · rw [Array.getElem?_eq_none (by omega)]; exact dif_neg h
theorem tab_q {n : Int} {Q : UInt8 → Prop} (h0 : 0 ≤ n) (h : n < 256) (k : (UInt8.ofNat (tab n.toNat)).toNat = tab n.toNat → tab n.toNat ≤ 8 → Q (UInt8.ofNat (tab n.toNat))) : ∃ b : UInt8, tabS[n.toNat]? = some b ∧ Q b := by
  have hl := tab_le (n := n.toNat) (by omega)
  refine ⟨_, ?_, k (by simp; omega) hl⟩
  have : tabS[n.toNat]? = ((List.range 256).map fun n => UInt8.ofNat (tab n))[n.toNat]? := (ba_get _ _).trans (List.getElem?_toArray ..)
  rw [this, List.getElem?_map, List.getElem?_range (by omega)]; rfl
theorem Len32_ok (x : UInt32) : Ok Tryz.prog 114 [tu32 x] true (.con (.int .i64 (len32 x.toNat))) := by
  have hx := UInt32.toNat_lt x
  refine ok_of_ev (fun _ _ _ h => h) mix Tryz.func114 rfl rfl (by kernel_rfl) (Nat.le_of_ble_eq_true rfl) ?_
  repeat' (first|(first | (refine shr16 (by omega) ?_; intro r hr) | (refine shr8 (by omega) ?_; intro r hr) | (refine tab_q (by omega) (by omega) ?_; intro ht1 ht2))|(with_reducible first|refine zA ?_|refine zB ?_|refine zC ?_|refine zD ?_|refine zE ?_|refine zF ?_|refine zG ?_|refine zH ?_|refine zI ?_|refine zJ ?_|refine zK ?_|refine zL ?_)|(with_reducible refine reg_i ?_;intro K hK)|(with_reducible refine drw_i ?_;intro K hK)|((with_reducible refine cond_t ?hc ?_);(case hc=>rfl))|((with_reducible refine cond_f ?hc ?_);(case hc=>rfl))|((with_reducible refine cond_m ?_);refine And.intro ?_ ?_;all_goals(intro hb;(try simp only [sb] at hb);try exact ex0))|(refine hK _ ?_;clear hK K)|(refine hK _ _ rfl ?_;clear hK K)|(have hg:=hK;clear hg;first|(refine And.intro ?zz ?_;case zz=>first|exact rfl|exact zO rfl|omega|exact gI)|(refine fresh_n ?_)|(refine freshO_n ?_)|(refine at_Q ?_;intro hu)|(refine zP wA ?_)|(refine mul_Q ?_;intro hm1 hm2)|(refine zP at_M ?_)|(refine zP rfl ?_)|(refine And.intro ?_ ?_;all_goals(intro hb;(try simp only [sb] at hb);try exact ex0))|(intro b0 hb)))
  all_goals refine And.intro trivial (fz_con (congrArg (Value.int .i64) ?_))
  all_goals rw [ht1]
  · have e : r.toNat = x.toNat / 65536 / 256 := by omega
    rw [e]; unfold len32; rw [if_neg (by omega), if_neg (by omega)]; omega
  · have e : r.toNat = x.toNat / 65536 := by omega
    rw [e]; unfold len32; rw [if_neg (by omega), if_pos (by omega)]; omega
  · have e : r.toNat = x.toNat / 256 := by omega
    rw [e]; unfold len32; rw [if_pos (by omega), if_neg (by omega)]; omega
  · have e : ((x.toNat : Int)).toNat = x.toNat := by omega
    rw [e]; unfold len32; rw [if_pos (by omega), if_pos (by omega)]; omega
theorem len32_le {x : Nat} (h : x < 4294967296) : len32 x ≤ 32 := by
  unfold len32
  split
  · split
    · have := tab_le (n := x) (by omega); omega
    · have := tab_le (n := x / 256) (by omega); omega
  · split
    · have := tab_le (n := x / 65536) (by omega); omega
    · have := tab_le (n := x / 65536 / 256) (by omega); omega
def bitsN (l : List UInt32) : Nat := if l = [] then 0 else 32 * (l.length - 1) + len32 (l.getD (l.length - 1) default).toNat
theorem bitsN_zero {l : List UInt32} (h : Can l) : bitsN l = 0 ↔ l = [] := by
  unfold bitsN
  split
  · simp_all
  · rename_i hn
    have h1 : l.getD (l.length - 1) default ≠ 0 := by
      rcases h with h | h
      · exact absurd h hn
      · exact h
    have h2 : (l.getD (l.length - 1) default).toNat ≠ 0 := fun h => h1 (UInt32.toNat_inj.1 h)
    have := mt (len32_zero _).1 h2
    constructor
    · intro h; omega
    · intro h; exact absurd h hn
theorem b_q {a : Int} {n : Nat} {Q : Int → Prop} (h0 : 0 ≤ a) (h1 : a ≤ 4611686018427387904) (h : n ≤ 32) (k : Q (a + n)) : ∃ r, r = IntKind.i64.wrap (a + n) ∧ Q r :=
  ⟨_, wrapI (by omega) (by omega), k⟩
theorem Bits_ok (l : List UInt32) (hl : l.length ≤ 2199023255552) : Ok Tryz.prog 97 [tn l] true (.con (.int .i64 (bitsN (norm l)))) := by
  have hn := norm_le l
  refine ok_of_ev (fun _ _ _ h => h) mix Tryz.func97 rfl rfl (by kernel_rfl) (Nat.le_of_ble_eq_true rfl) ?_
  repeat' (first|(refine b_q (by simp only [List.length_map]; omega) (by simp only [List.length_map]; omega) (len32_le (UInt32.toNat_lt _)) ?_)|(with_reducible first|refine zA ?_|refine zB ?_|refine zC ?_|refine zD ?_|refine zE ?_|refine zF ?_|refine zG ?_|refine zH ?_|refine zI ?_|refine zJ ?_|refine zK ?_|refine zL ?_)|(with_reducible refine reg_i ?_;intro K hK)|(with_reducible refine drw_i ?_;intro K hK)|((with_reducible refine cond_t ?hc ?_);(case hc=>rfl))|((with_reducible refine cond_f ?hc ?_);(case hc=>rfl))|((with_reducible refine cond_m ?_);refine And.intro ?_ ?_;all_goals(intro hb;(try simp only [sb] at hb);try exact ex0))|(refine hK _ ?_;clear hK K)|(refine hK _ _ rfl ?_;clear hK K)|(have hg:=hK;clear hg;first|(refine And.intro ?zz ?_;case zz=>first|exact rfl|exact zO rfl|omega|exact gI)|(refine fresh_n ?_)|(refine freshO_n ?_)|(refine at_Q ?_;intro hu)|(refine zP wA ?_)|(refine mul_Q ?_;intro hm1 hm2)|(refine zP at_M ?_)|(refine zP rfl ?_)|(refine zQ (trim_ok l (by omega)) ?_)|(refine zQ (Len32_ok _) ?_)|(refine And.intro ?_ ?_;all_goals(intro hb;(try simp only [sb] at hb);try exact ex0))|(intro b0 hb)))
  · have h0 : norm l = [] := List.eq_nil_of_length_eq_zero (by omega)
    exact And.intro trivial (fz_con (by rw [h0]; rfl))
  · have h0 : norm l ≠ [] := fun h => by rw [h] at hb; simp at hb
    refine And.intro trivial (fz_con (congrArg (Value.int .i64) ?_))
    rw [List.length_map]
    have e : (((norm l).length : Int) - 1).toNat = (norm l).length - 1 := by omega
    rw [e]
    unfold bitsN
    rw [if_neg h0]; omega
theorem signZ_cases (x : Int) : signZ x = 0 ∧ x = 0 ∨ signZ x = -1 ∧ x < 0 ∨ signZ x = 1 ∧ 0 < x := by
  unfold signZ
  split
  · exact .inl ⟨rfl, by assumption⟩
  · split
    · exact .inr (.inl ⟨rfl, by assumption⟩)
    · exact .inr (.inr ⟨rfl, by omega⟩)
theorem cmpN_cases (a b : Nat) : cmpN a b = 0 ∧ a = b ∨ cmpN a b = -1 ∧ a < b ∨ cmpN a b = 1 ∧ b < a := by
  unfold cmpN
  split
  · exact .inr (.inl ⟨rfl, by assumption⟩)
  · split
    · exact .inr (.inr ⟨rfl, by assumption⟩)
    · exact .inl ⟨rfl, by omega⟩
theorem sc_q {s c : Int} {Q : Int → Prop} (hs : -1 ≤ s ∧ s ≤ 1) (hc : -1 ≤ c ∧ c ≤ 1) (k : Q (s * c)) : ∃ r, r = IntKind.i64.wrap (s * c) ∧ Q r := by
  have : s = -1 ∨ s = 0 ∨ s = 1 := by omega
  refine ⟨_, wrapI ?_ ?_, k⟩ <;> rcases this with rfl | rfl | rfl <;> omega
theorem signZ_rng (x : Int) : -1 ≤ signZ x ∧ signZ x ≤ 1 := by rcases signZ_cases x with h | h | h <;> omega
theorem cmpN_rng (a b : Nat) : -1 ≤ cmpN a b ∧ cmpN a b ≤ 1 := by rcases cmpN_cases a b with h | h | h <;> omega
theorem sign_lt {x y : Int} (h : signZ x < signZ y) : signZ (x - y) = -1 := by
  rcases signZ_cases x with h1 | h1 | h1 <;> rcases signZ_cases y with h2 | h2 | h2 <;> rcases signZ_cases (x - y) with h3 | h3 | h3 <;> omega
theorem sign_gt {x y : Int} (h : signZ y < signZ x) : signZ (x - y) = 1 := by
  rcases signZ_cases x with h1 | h1 | h1 <;> rcases signZ_cases y with h2 | h2 | h2 <;> rcases signZ_cases (x - y) with h3 | h3 | h3 <;> omega
theorem sign_eq {x y : Int} (h : signZ x = signZ y) : signZ x * cmpN x.natAbs y.natAbs = signZ (x - y) := by
  rcases signZ_cases x with h1 | h1 | h1 <;> rcases signZ_cases y with h2 | h2 | h2 <;> rcases signZ_cases (x - y) with h3 | h3 | h3 <;> rcases cmpN_cases x.natAbs y.natAbs with h4 | h4 | h4 <;> rw [h1.1, h4.1, h3.1] <;> omega
theorem Sign_ok (n : Bool) (m : List UInt32) (hm : m.length ≤ 2199023255552) : Ok Tryz.prog 74 [tI n m] true (.con (.int .i64 (signZ (iv n m)))) := by
  have hz : bitsN (norm m) = 0 ↔ val m = 0 := by
    rw [bitsN_zero (can_norm m), ← val_norm m]
    constructor
    · intro h; rw [h]; rfl
    · intro h
      refine can_unique (can_norm m) (.inl rfl) ?_
      rw [h]; rfl
  refine ok_of_ev (fun _ _ _ h => h) mix Tryz.func74 rfl rfl (by kernel_rfl) (Nat.le_of_ble_eq_true rfl) ?_
  repeat' (first|(with_reducible first|refine zA ?_|refine zB ?_|refine zC ?_|refine zD ?_|refine zE ?_|refine zF ?_|refine zG ?_|refine zH ?_|refine zI ?_|refine zJ ?_|refine zK ?_|refine zL ?_)|(with_reducible refine reg_i ?_;intro K hK)|(with_reducible refine drw_i ?_;intro K hK)|((with_reducible refine cond_t ?hc ?_);(case hc=>rfl))|((with_reducible refine cond_f ?hc ?_);(case hc=>rfl))|((with_reducible refine cond_m ?_);refine And.intro ?_ ?_;all_goals(intro hb;(try simp only [sb] at hb);try exact ex0))|(refine hK _ ?_;clear hK K)|(refine hK _ _ rfl ?_;clear hK K)|(have hg:=hK;clear hg;first|(refine And.intro ?zz ?_;case zz=>first|exact rfl|exact zO rfl|omega|exact gI)|(refine fresh_n ?_)|(refine freshO_n ?_)|(refine at_Q ?_;intro hu)|(refine zP wA ?_)|(refine mul_Q ?_;intro hm1 hm2)|(refine zP at_M ?_)|(refine zP rfl ?_)|(refine zQ (Bits_ok m (by omega)) ?_)|(refine And.intro ?_ ?_;all_goals(intro hb;(try simp only [sb] at hb);try exact ex0))|(intro b0 hb)))
  · have h0 : val m = 0 := hz.1 (by omega)
    have h1 : iv n m = 0 := by unfold iv; split <;> omega
    exact And.intro trivial (fz_con (by rw [h1]; rfl))
  · rename_i h
    have h0 : val m ≠ 0 := fun h9 => h (by rw [hz.2 h9]; rfl)
    subst hb
    have h1 : iv true m < 0 := by show -(val m : Int) < 0; omega
    exact And.intro trivial (fz_con (by unfold signZ; rw [if_neg (by omega), if_pos h1]))
  · rename_i h
    have h0 : val m ≠ 0 := fun h9 => h (by rw [hz.2 h9]; rfl)
    subst hb
    have h1 : 0 < iv false m := by show (0 : Int) < val m; omega
    exact And.intro trivial (fz_con (by unfold signZ; rw [if_neg (by omega), if_neg (by omega)]))
theorem of_ok (n : Bool) (m : List UInt32) (hm : m.length ≤ 2199023255552) : Ok Tryz.prog 103 [.con (.bool n), tn m] true (tZ (iv n m)) := by
  have hl := norm_le m
  have hn := norm_lm m
  have ez : (iv n m).natAbs = val m := by unfold iv; split <;> omega
  unfold tZ
  rw [ez, ← hn]
  cases n with
  | false =>
    have hd : decide (iv false m < 0) = false := by simp [iv]
    rw [hd]
    refine ok_of_ev (fun _ _ _ h => h) mix Tryz.func103 rfl rfl (by kernel_rfl) (Nat.le_of_ble_eq_true rfl) ?_
    repeat' (first|(with_reducible first|refine zA ?_|refine zB ?_|refine zC ?_|refine zD ?_|refine zE ?_|refine zF ?_|refine zG ?_|refine zH ?_|refine zI ?_|refine zJ ?_|refine zK ?_|refine zL ?_)|(with_reducible refine reg_i ?_;intro K hK)|(with_reducible refine drw_i ?_;intro K hK)|((with_reducible refine cond_t ?hc ?_);(case hc=>rfl))|((with_reducible refine cond_f ?hc ?_);(case hc=>rfl))|((with_reducible refine cond_m ?_);refine And.intro ?_ ?_;all_goals(intro hb;(try simp only [sb] at hb);try exact ex0))|(refine hK _ ?_;clear hK K)|(refine hK _ _ rfl ?_;clear hK K)|(have hg:=hK;clear hg;first|(refine And.intro ?zz ?_;case zz=>first|exact rfl|exact zO rfl|omega|exact gI)|(refine fresh_n ?_)|(refine freshO_n ?_)|(refine at_Q ?_;intro hu)|(refine zP wA ?_)|(refine mul_Q ?_;intro hm1 hm2)|(refine zP at_M ?_)|(refine zP rfl ?_)|(refine zQ (Norm_ok m (by omega)) ?_)|(refine And.intro ?_ ?_;all_goals(intro hb;(try simp only [sb] at hb);try exact ex0))|(intro b0 hb)))
    exact ret_cell (l := [.con (.bool false), .ro true (tn (norm m))]) rfl tk39 rfl (Nat.zero_lt_succ _) rfl rfl (fz_agg2 (.con _) (.ro true _ fun h => h))
  | true =>
    refine ok_of_ev (fun _ _ _ h => h) mix Tryz.func103 rfl rfl (by kernel_rfl) (Nat.le_of_ble_eq_true rfl) ?_
    repeat' (first|(with_reducible first|refine zA ?_|refine zB ?_|refine zC ?_|refine zD ?_|refine zE ?_|refine zF ?_|refine zG ?_|refine zH ?_|refine zI ?_|refine zJ ?_|refine zK ?_|refine zL ?_)|(with_reducible refine reg_i ?_;intro K hK)|(with_reducible refine drw_i ?_;intro K hK)|((with_reducible refine cond_t ?hc ?_);(case hc=>rfl))|((with_reducible refine cond_f ?hc ?_);(case hc=>rfl))|((with_reducible refine cond_m ?_);refine And.intro ?_ ?_;all_goals(intro hb;(try simp only [sb] at hb);try exact ex0))|(refine hK _ ?_;clear hK K)|(refine hK _ _ rfl ?_;clear hK K)|(have hg:=hK;clear hg;first|(refine And.intro ?zz ?_;case zz=>first|exact rfl|exact zO rfl|omega|exact gI)|(refine fresh_n ?_)|(refine freshO_n ?_)|(refine at_Q ?_;intro hu)|(refine zP wA ?_)|(refine mul_Q ?_;intro hm1 hm2)|(refine zP at_M ?_)|(refine zP rfl ?_)|(refine zQ (Norm_ok m (by omega)) ?_)|(refine And.intro ?_ ?_;all_goals(intro hb;(try simp only [sb] at hb);try exact ex0))|(intro b0 hb)))
    refine ret_cell (l := [V.con (.bool (decide ((((norm m).map tu32).length : Int) > 0))), .ro true (tn (norm m))]) rfl tk39 rfl (Nat.zero_lt_succ _) rfl rfl (fz_agg2 (f := true) (?_ : Fz1 _ true (V.con (.bool (decide ((((norm m).map tu32).length : Int) > 0)))) _) (.ro true _ fun h => h))
    have e : decide ((((norm m).map tu32).length : Int) > 0) = decide (iv true m < 0) := by
      rw [List.length_map]
      have h1 := lm_nil_iff (val m)
      rw [← hn] at h1
      have h2 : iv true m = -(val m : Int) := rfl
      rw [h2, decide_eq_decide]
      constructor
      · intro h
        have : norm m ≠ [] := fun h9 => by rw [h9] at h; simp at h
        have : val m ≠ 0 := fun h9 => this (h1.2 h9)
        omega
      · intro h
        have : norm m ≠ [] := fun h9 => by have := h1.1 h9; omega
        have := List.length_pos_iff.2 this
        omega
    rw [e]
    exact .con _
theorem MulI_ok (n k : Bool) (a b : List UInt32) (ha : a.length ≤ 549755813888) (hb : b.length ≤ 549755813888) : Ok Tryz.prog 99 [tI n a, tI k b] true (tZ (iv n a * iv k b)) := by
  rw [← iv_mul]
  have hl := lm_mul_len a b
  refine ok_of_ev (fun _ _ _ h => h) mix Tryz.func99 rfl rfl (by kernel_rfl) (Nat.le_of_ble_eq_true rfl) ?_
  repeat' (first|(with_reducible first|refine zA ?_|refine zB ?_|refine zC ?_|refine zD ?_|refine zE ?_|refine zF ?_|refine zG ?_|refine zH ?_|refine zI ?_|refine zJ ?_|refine zK ?_|refine zL ?_)|(with_reducible refine reg_i ?_;intro K hK)|(with_reducible refine drw_i ?_;intro K hK)|((with_reducible refine cond_t ?hc ?_);(case hc=>rfl))|((with_reducible refine cond_f ?hc ?_);(case hc=>rfl))|((with_reducible refine cond_m ?_);refine And.intro ?_ ?_;all_goals(intro hb;(try simp only [sb] at hb);try exact ex0))|(refine hK _ ?_;clear hK K)|(refine hK _ _ rfl ?_;clear hK K)|(have hg:=hK;clear hg;first|(refine And.intro ?zz ?_;case zz=>first|exact rfl|exact zO rfl|omega|exact gI)|(refine fresh_n ?_)|(refine freshO_n ?_)|(refine at_Q ?_;intro hu)|(refine zP wA ?_)|(refine mul_Q ?_;intro hm1 hm2)|(refine zP at_M ?_)|(refine zP rfl ?_)|(refine zQ (Mul_ok a b (by omega) (by omega)) ?_)|(refine zQ (of_ok (n != k) (lm (val a * val b)) (by omega)) ?_)|(refine And.intro ?_ ?_;all_goals(intro hb;(try simp only [sb] at hb);try exact ex0))|(intro b0 hb)))
  exact ret_cell (l := [V.con (.bool (decide (iv (n != k) (lm (val a * val b)) < 0))), .ro true (tn (lm (iv (n != k) (lm (val a * val b))).natAbs))]) rfl tk39 rfl (Nat.zero_lt_succ _) rfl rfl (fz_Z _)
theorem CmpI_ok (n k : Bool) (a b : List UInt32) (ha : a.length ≤ 2199023255552) (hb : b.length ≤ 2199023255552) : Ok Tryz.prog 75 [tI n a, tI k b] true (.con (.int .i64 (signZ (iv n a - iv k b)))) := by
  refine ok_of_ev (fun _ _ _ h => h) mix Tryz.func75 rfl rfl (by kernel_rfl) (Nat.le_of_ble_eq_true rfl) ?_
  repeat' (first|(refine sc_q (signZ_rng _) (cmpN_rng _ _) ?_)|(with_reducible first|refine zA ?_|refine zB ?_|refine zC ?_|refine zD ?_|refine zE ?_|refine zF ?_|refine zG ?_|refine zH ?_|refine zI ?_|refine zJ ?_|refine zK ?_|refine zL ?_)|(with_reducible refine reg_i ?_;intro K hK)|(with_reducible refine drw_i ?_;intro K hK)|((with_reducible refine cond_t ?hc ?_);(case hc=>rfl))|((with_reducible refine cond_f ?hc ?_);(case hc=>rfl))|((with_reducible refine cond_m ?_);refine And.intro ?_ ?_;all_goals(intro hb;(try simp only [sb] at hb);try exact ex0))|(refine hK _ ?_;clear hK K)|(refine hK _ _ rfl ?_;clear hK K)|(have hg:=hK;clear hg;first|(refine And.intro ?zz ?_;case zz=>first|exact rfl|exact zO rfl|omega|exact gI)|(refine fresh_n ?_)|(refine freshO_n ?_)|(refine at_Q ?_;intro hu)|(refine zP wA ?_)|(refine mul_Q ?_;intro hm1 hm2)|(refine zP at_M ?_)|(refine zP rfl ?_)|(refine zQ (Sign_ok n a (by omega)) ?_)|(refine zQ (Sign_ok k b (by omega)) ?_)|(refine zQ (Cmp_ok a b (by omega) (by omega)) ?_)|(refine And.intro ?_ ?_;all_goals(intro hb;(try simp only [sb] at hb);try exact ex0))|(intro b0 hb)))
  · exact And.intro trivial (fz_con (by rw [sign_lt (by assumption)]))
  · exact And.intro trivial (fz_con (by rw [sign_gt (by assumption)]))
  · exact And.intro trivial (fz_con (by rw [← iv_abs n a, ← iv_abs k b, sign_eq (by omega)]))
theorem over_ok (n : Bool) (a d : List UInt32) (ha : a.length ≤ 549755813888) (hb : d.length ≤ 549755813888) : Ok Tryz.prog 76 [tI n a, tn d] true (tZ (iv n a * iv false d)) := by
  refine ok_of_ev (fun _ _ _ h => h) mix Tryz.func76 rfl rfl (by kernel_rfl) (Nat.le_of_ble_eq_true rfl) ?_
  repeat' (first|(with_reducible first|refine zA ?_|refine zB ?_|refine zC ?_|refine zD ?_|refine zE ?_|refine zF ?_|refine zG ?_|refine zH ?_|refine zI ?_|refine zJ ?_|refine zK ?_|refine zL ?_)|(with_reducible refine reg_i ?_;intro K hK)|(with_reducible refine drw_i ?_;intro K hK)|((with_reducible refine cond_t ?hc ?_);(case hc=>rfl))|((with_reducible refine cond_f ?hc ?_);(case hc=>rfl))|((with_reducible refine cond_m ?_);refine And.intro ?_ ?_;all_goals(intro hb;(try simp only [sb] at hb);try exact ex0))|(refine hK _ ?_;clear hK K)|(refine hK _ _ rfl ?_;clear hK K)|(have hg:=hK;clear hg;first|(refine And.intro ?zz ?_;case zz=>first|exact rfl|exact zO rfl|omega|exact gI)|(refine fresh_n ?_)|(refine freshO_n ?_)|(refine at_Q ?_;intro hu)|(refine zP wA ?_)|(refine mul_Q ?_;intro hm1 hm2)|(refine zP at_M ?_)|(refine zP rfl ?_)|(refine zQ (MulI_ok n false a d (by omega) (by omega)) ?_)|(refine And.intro ?_ ?_;all_goals(intro hb;(try simp only [sb] at hb);try exact ex0))|(intro b0 hb)))
  exact ret_cell (l := [V.con (.bool (decide (iv n a * iv false d < 0))), .ro true (tn (lm (iv n a * iv false d).natAbs))]) rfl tk39 rfl (Nat.zero_lt_succ _) rfl rfl (fz_Z _)
theorem under_ok (n : Bool) (m d : List UInt32) (hd : d.length ≤ 2199023255552) : Ok Tryz.prog 59 [tR n m d] true (tn (lm (denv d))) := by
  refine ok_of_ev (fun _ _ _ h => h) mix Tryz.func59 rfl rfl (by kernel_rfl) (Nat.le_of_ble_eq_true rfl) ?_
  repeat' (first|(with_reducible first|refine zA ?_|refine zB ?_|refine zC ?_|refine zD ?_|refine zE ?_|refine zF ?_|refine zG ?_|refine zH ?_|refine zI ?_|refine zJ ?_|refine zK ?_|refine zL ?_)|(with_reducible refine reg_i ?_;intro K hK)|(with_reducible refine drw_i ?_;intro K hK)|((with_reducible refine cond_t ?hc ?_);(case hc=>rfl))|((with_reducible refine cond_f ?hc ?_);(case hc=>rfl))|((with_reducible refine cond_m ?_);refine And.intro ?_ ?_;all_goals(intro hb;(try simp only [sb] at hb);try exact ex0))|(refine hK _ ?_;clear hK K)|(refine hK _ _ rfl ?_;clear hK K)|(have hg:=hK;clear hg;first|(refine And.intro ?zz ?_;case zz=>first|exact rfl|exact zO rfl|omega|exact gI)|(refine fresh_n ?_)|(refine freshO_n ?_)|(refine at_Q ?_;intro hu)|(refine zP wA ?_)|(refine mul_Q ?_;intro hm1 hm2)|(refine zP at_M ?_)|(refine zP rfl ?_)|(refine zQ (Norm_ok d (by omega)) ?_)|(refine zQ (Of_ok 1) ?_)|(refine And.intro ?_ ?_;all_goals(intro hb;(try simp only [sb] at hb);try exact ex0))|(intro b0 hb)))
  · have h0 : val d ≠ 0 := fun h => by
      have h1 := (lm_nil_iff _).2 h
      rw [← norm_lm] at h1
      rw [h1] at hb; simp at hb
    exact And.intro trivial (fz_ro (by unfold denv; rw [if_neg h0, norm_lm]) fun h => h)
  · have h0 : val d = 0 := by
      have h1 : norm d = [] := List.eq_nil_of_length_eq_zero (by omega)
      rw [norm_lm] at h1
      exact (lm_nil_iff _).1 h1
    exact And.intro trivial (fz_ro (by unfold denv; rw [if_pos h0, lm_one]; rfl) fun h => h)
theorem CmpR_ok (n k : Bool) (a p b q : List UInt32) (ha : a.length ≤ 137438953472) (hp : p.length ≤ 137438953472) (hb : b.length ≤ 137438953472) (hq : q.length ≤ 137438953472) :
    Ok Tryz.prog 49 [tR n a p, tR k b q] true (.con (.int .i64 (signZ (iv n a * denv q - iv k b * denv p)))) := by
  have h1 := lm_den_len p
  have h2 := lm_den_len q
  have h3 := lm_mulI_len n a q
  have h4 := lm_mulI_len k b p
  have e1 : iv false (lm (denv q)) = denv q := by unfold iv; rw [val_lm]; rfl
  have e2 : iv false (lm (denv p)) = denv p := by unfold iv; rw [val_lm]; rfl
  rw [← e1, ← e2]
  rw [← iv_Z (iv n a * iv false (lm (denv q))), ← iv_Z (iv k b * iv false (lm (denv p)))]
  refine ok_of_ev (fun _ _ _ h => h) mix Tryz.func49 rfl rfl (by kernel_rfl) (Nat.le_of_ble_eq_true rfl) ?_
  repeat' (first|(with_reducible first|refine zA ?_|refine zB ?_|refine zC ?_|refine zD ?_|refine zE ?_|refine zF ?_|refine zG ?_|refine zH ?_|refine zI ?_|refine zJ ?_|refine zK ?_|refine zL ?_)|(with_reducible refine reg_i ?_;intro K hK)|(with_reducible refine drw_i ?_;intro K hK)|((with_reducible refine cond_t ?hc ?_);(case hc=>rfl))|((with_reducible refine cond_f ?hc ?_);(case hc=>rfl))|((with_reducible refine cond_m ?_);refine And.intro ?_ ?_;all_goals(intro hb;(try simp only [sb] at hb);try exact ex0))|(refine hK _ ?_;clear hK K)|(refine hK _ _ rfl ?_;clear hK K)|(have hg:=hK;clear hg;first|(refine And.intro ?zz ?_;case zz=>first|exact rfl|exact zO rfl|omega|exact gI)|(refine fresh_n ?_)|(refine freshO_n ?_)|(refine at_Q ?_;intro hu)|(refine zP wA ?_)|(refine mul_Q ?_;intro hm1 hm2)|(refine zP at_M ?_)|(refine zP rfl ?_)|(refine zQ (under_ok k b q (by omega)) ?_)|(refine zQ (under_ok n a p (by omega)) ?_)|(refine zQ (over_ok n a (lm (denv q)) (by omega) (by omega)) ?_)|(refine zQ (over_ok k b (lm (denv p)) (by omega) (by omega)) ?_)|(refine zQ (CmpI_ok (decide (iv n a * iv false (lm (denv q)) < 0)) (decide (iv k b * iv false (lm (denv p)) < 0)) (lm (iv n a * iv false (lm (denv q))).natAbs) (lm (iv k b * iv false (lm (denv p))).natAbs) (by omega) (by omega)) ?_)|(refine And.intro ?_ ?_;all_goals(intro hb;(try simp only [sb] at hb);try exact ex0))|(intro b0 hb)))
  exact And.intro trivial (fz_con rfl)
