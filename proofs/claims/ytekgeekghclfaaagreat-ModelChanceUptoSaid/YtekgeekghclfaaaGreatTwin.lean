import Derived.Test.YtekgeekghclfaaaGreatNet
import Derived.Test.YtekgeekghclfaaaGreatLe
set_option linter.all false
namespace Go.Ev
open Go.Proofs
set_option maxRecDepth 10000
set_option maxHeartbeats 4000000
set_option linter.unusedSimpArgs false
set_option linter.unusedVariables false
theorem getD_all {α : Type} [Inhabited α] {l : List α} {p : α → Prop} (h : ∀ x ∈ l, p x) (h0 : p default) (i : Nat) : p (l.getD i default) := by
  by_cases hi : i < l.length
  · exact h _ (getD_mem hi)
  · rw [List.getD, List.getElem?_eq_none (by omega)]; exact h0
theorem take_one {α : Type} [Inhabited α] {l : List α} {i : Nat} (h : i < l.length) : l.take (i + 1) = l.take i ++ [l.getD i default] := by
  rw [List.take_add_one, List.getD, List.getElem?_eq_getElem h]; rfl
def bzNt : Obj := ⟨5, [.agg [.con (.string ByteArray.empty), .emp, .emp, .emp, .emp]], 0, true⟩
def mbx (n : Nt) (a b c d : V) : Obj := ⟨5, [.agg [.con (.string n.name), a, b, c, d]], 0, true⟩
def roS (x : List ByteArray) : V := .ro false (tSL x)
def roI (x : List Int) : V := .ro false (tIL x)
def stT1 (N : Nat) (n : Nt) (i : Nat) : St := ⟨N, [(1, .ref 0 0 0 0), (2, .ref 1 0 0 0), (3, .ref 2 0 0 0), (4, .con (.int .i64 i))], [(0, bxNt n), (1, bzNt), (2, mbx n (.ro false (tSL n.names)) (.own 4 i 0 i) .emp .emp), (4, ⟨1, (n.values.take i).map roS, i, true⟩)]⟩
def stT2 (N : Nat) (n : Nt) (i : Nat) : St := ⟨N, [(1, .ref 0 0 0 0), (2, .ref 1 0 0 0), (3, .ref 2 0 0 0), (6, .con (.int .i64 i))], [(0, bxNt n), (1, bzNt), (2, mbx n (.ro false (tSL n.names)) (.ro false (tSLL n.values)) (.own 5 i 0 i) .emp), (5, ⟨1, (n.parents.take i).map roI, i, true⟩)]⟩
def rtV (r : Rt) : V := .agg [.con (.bool r.neg), .ro false (tn r.mag), .ro false (tn r.den)]
def inO (f : List Rt → Nat) (l : List Rt) : Obj := ⟨3, l.map rtV, f l, true⟩
def innL (f : List Rt → Nat) : Nat → List (List Rt) → OH
  | _, [] => []
  | b, x :: r => (b, inO f x) :: innL f (b + 1) r
def ownE (f : List Rt → Nat) : Nat → List (List Rt) → List V
  | _, [] => []
  | b, x :: r => .own b (f x) 0 x.length :: ownE f (b + 1) r
theorem innL_app {f : List Rt → Nat} (a : List Rt) : ∀ (l : List (List Rt)) (b : Nat), innL f b (l ++ [a]) = innL f b l ++ [(b + l.length, inO f a)]
  | [], b => rfl
  | x :: r, b => by
    show (b, inO f x) :: innL f (b + 1) (r ++ [a]) = _
    rw [innL_app a r (b + 1), List.length_cons, show b + 1 + r.length = b + (r.length + 1) by omega]; rfl
theorem ownE_app {f : List Rt → Nat} (a : List Rt) : ∀ (l : List (List Rt)) (b : Nat), ownE f b (l ++ [a]) = ownE f b l ++ [.own (b + l.length) (f a) 0 a.length]
  | [], b => rfl
  | x :: r, b => by
    show _ :: ownE f (b + 1) (r ++ [a]) = _
    rw [ownE_app a r (b + 1), List.length_cons, show b + 1 + r.length = b + (r.length + 1) by omega]; rfl
theorem ownE_len {f : List Rt → Nat} : ∀ (l : List (List Rt)) (b : Nat), (ownE f b l).length = l.length
  | [], b => rfl
  | x :: r, b => by show (ownE f (b + 1) r).length + 1 = _; rw [ownE_len r (b + 1)]; rfl
theorem ownE_get {f : List Rt → Nat} : ∀ {l : List (List Rt)} {b j : Nat}, j < l.length → (ownE f b l)[j]? = some (.own (b + j) (f (l.getD j default)) 0 (l.getD j default).length)
  | [], b, j, h => by simp at h
  | x :: r, b, 0, h => by simp [ownE, List.getD]
  | x :: r, b, j + 1, h => by
    have := ownE_get (f := f) (l := r) (b := b + 1) (j := j) (by simpa using h)
    rw [show b + 1 + j = b + (j + 1) by omega] at this
    simp only [ownE, List.getElem?_cons_succ]
    rw [this]; simp [List.getD]
theorem innL_get {f : List Rt → Nat} : ∀ {l : List (List Rt)} {b i : Nat} {o : Obj}, oget (innL f b l) i = some o → b ≤ i ∧ i < b + l.length ∧ o = inO f (l.getD (i - b) default)
  | [], b, i, o, h => by simp [innL, oget] at h
  | x :: r, b, i, o, h => by
    simp only [innL, oget] at h
    split at h
    · rename_i e
      subst e
      refine ⟨Nat.le_refl _, by simp, ?_⟩
      rw [Nat.sub_self]
      simpa using h.symm
    · obtain ⟨h1, h2, h3⟩ := innL_get h
      refine ⟨by omega, by simp; omega, ?_⟩
      rw [h3, show i - b = (i - (b + 1)) + 1 by omega]; simp [List.getD]
theorem innL_some {f : List Rt → Nat} : ∀ {l : List (List Rt)} {b j : Nat}, j < l.length → oget (innL f b l) (b + j) = some (inO f (l.getD j default))
  | [], b, j, h => by simp at h
  | x :: r, b, 0, h => by simp [innL, oget, List.getD]
  | x :: r, b, j + 1, h => by
    have := innL_some (f := f) (l := r) (b := b + 1) (j := j) (by simpa using h)
    rw [show b + 1 + j = b + (j + 1) by omega] at this
    simp only [innL]
    refine og_skip (by omega) ?_
    rw [this]; simp [List.getD]
theorem innL_none {f : List Rt → Nat} {l : List (List Rt)} {b i : Nat} (h : i < b ∨ b + l.length ≤ i) : oget (innL f b l) i = none := by
  cases h2 : oget (innL f b l) i with
  | none => rfl
  | some o => have := innL_get h2; omega
theorem rtV_flat (r : Rt) : (rtV r).flat := by
  intro u hu
  simp at hu
  rcases hu with rfl | rfl | rfl <;> trivial
theorem innL_flat (f : List Rt → Nat) (l : List (List Rt)) (b : Nat) : FlatO (innL f b l) := by
  intro i o h e he
  rw [(innL_get h).2.2] at he
  obtain ⟨r, -, rfl⟩ := List.mem_map.1 he
  exact rtV_flat r
theorem ownE_mem {f : List Rt → Nat} : ∀ {l : List (List Rt)} {b : Nat} {v : V}, v ∈ ownE f b l → ∃ j, j < l.length ∧ v = .own (b + j) (f (l.getD j default)) 0 (l.getD j default).length
  | [], b, v, h => by simp [ownE] at h
  | x :: r, b, v, h => by
    simp only [ownE, List.mem_cons] at h
    rcases h with rfl | h
    · exact ⟨0, by simp, by simp [List.getD]⟩
    · obtain ⟨j, hj, rfl⟩ := ownE_mem h
      exact ⟨j + 1, by simpa using hj, by rw [show b + 1 + j = b + (j + 1) by omega]; simp [List.getD]⟩
theorem oget_snoc {A : OH} {c j : Nat} {x o : Obj} (h : oget (A ++ [(c, x)]) j = some o) : oget A j = some o ∨ (j = c ∧ o = x) := by
  induction A with
  | nil =>
    simp only [List.nil_append, oget] at h
    split at h
    · rename_i e; exact .inr ⟨e.symm, by simpa using h.symm⟩
    · simp at h
  | cons p r ih =>
    obtain ⟨i, y⟩ := p
    simp only [List.cons_append, oget] at h ⊢
    split at h
    · rename_i e; rw [if_pos e]; exact .inl h
    · rename_i e; rw [if_neg e]; exact ih h
def stT3 (N : Nat) (n : Nt) (i : Nat) : St := ⟨N, [(1, .ref 0 0 0 0), (2, .ref 1 0 0 0), (3, .ref 2 0 0 0), (8, .con (.int .i64 i))], [(0, bxNt n), (1, bzNt), (2, mbx n (.ro false (tSL n.names)) (.ro false (tSLL n.values)) (.ro false (tILL n.parents)) (.own 6 i 0 i)), (6, ⟨1, ownE List.length 20 (n.tables.take i), i, true⟩)] ++ innL List.length 20 (n.tables.take i)⟩
def stT4 (N : Nat) (n : Nt) (i k c : Nat) (tl : OH) : St := ⟨N, [(1, .ref 0 0 0 0), (2, .ref 1 0 0 0), (3, .ref 2 0 0 0), (8, .con (.int .i64 i)), (9, .own c k 0 k), (10, .con (.int .i64 k))], [(0, bxNt n), (1, bzNt), (2, mbx n (.ro false (tSL n.names)) (.ro false (tSLL n.values)) (.ro false (tILL n.parents)) (.own 6 i 0 i)), (6, ⟨1, ownE List.length 20 (n.tables.take i), i, true⟩), (c, ⟨3, ((n.tables.getD i default).take k).map rtV, k, true⟩)] ++ tl⟩
theorem one_flat {e : V} (h : e.flat) : ∀ x ∈ [e], x.flat := by
  intro x hx
  obtain rfl : x = e := by simpa using hx
  exact h
theorem bx_flat (n : Nt) : ∀ e ∈ (bxNt n).el, e.flat := one_flat (by
  intro u hu
  simp [vNt] at hu
  rcases hu with rfl | rfl | rfl | rfl | rfl <;> trivial)
theorem bz_flat : ∀ e ∈ bzNt.el, e.flat := one_flat (by
  intro u hu
  simp at hu
  rcases hu with rfl | rfl <;> trivial)
theorem own_lv {oh oh1 : OH} {l : List (List Rt)} {f : List Rt → Nat} {b : Nat} (h : ∀ j, j < l.length → (oget oh1 (b + j)).isSome = true) : ∀ x ∈ ownE f b l, LV oh oh1 x x := by
  intro x hx
  obtain ⟨j, hj, rfl⟩ := ownE_mem hx
  exact Lc.same _ (h j hj)
theorem mb_lv {oh oh1 : OH} {n : Nt} {a b c d : V} (ha : a.cl1 oh1) (hb : b.cl1 oh1) (hc : c.cl1 oh1) (hd : d.cl1 oh1) : ∀ x ∈ (mbx n a b c d).el, LV oh oh1 x x := by
  intro x hx
  obtain rfl : x = .agg [.con (.string n.name), a, b, c, d] := by simpa [mbx] using hx
  exact lv_agg ⟨Lc.same _ trivial, Lc.same _ ha, Lc.same _ hb, Lc.same _ hc, Lc.same _ hd, trivial⟩
theorem os_of {oh : OH} {i : Nat} {o : Obj} (h : oget oh i = some o) : (oget oh i).isSome = true := by rw [h]; rfl
def nul : List Rt → Nat := fun _ => 0
def twO (n : Nt) : OH := (0, ⟨1, ownE nul 1 n.tables, 0, true⟩) :: innL nul 1 n.tables
def twV (n : Nt) : V := .agg [.con (.string n.name), .ro false (tSL n.names), .ro false (tSLL n.values), .ro false (tILL n.parents), .own 0 0 0 n.tables.length]
def twM (i : Nat) : Nat := if i = 0 then 6 else 19 + i
theorem twM_pos {i : Nat} (h : 1 ≤ i) : twM i = 19 + i := if_neg (by omega)
theorem tw_ren {oh : OH} {n : Nt} (h6 : oget oh 6 = some ⟨1, ownE List.length 20 n.tables, n.tables.length, true⟩) (ht : ∀ j, j < n.tables.length → oget oh (20 + j) = some (inO List.length (n.tables.getD j default))) : Ren oh (twO n) twM := by
  have hin : ∀ i o1, oget (twO n) i = some o1 → i = 0 ∧ o1 = ⟨1, ownE nul 1 n.tables, 0, true⟩ ∨ 1 ≤ i ∧ i < 1 + n.tables.length ∧ o1 = inO nul (n.tables.getD (i - 1) default) := by
    intro i o1 h
    simp only [twO, oget] at h
    split at h
    · rename_i e; exact .inl ⟨e.symm, by simpa using h.symm⟩
    · exact .inr (innL_get h)
  refine ⟨fun i j o1 o2 h1 h2 hm => ?_, fun i o1 h1 => ?_⟩
  · rcases hin i o1 h1 with ⟨rfl, -⟩ | ⟨a1, a2, -⟩ <;> rcases hin j o2 h2 with ⟨rfl, -⟩ | ⟨b1, b2, -⟩
    · rfl
    · rw [twM_pos b1] at hm
      have : twM 0 = 6 := rfl
      omega
    · rw [twM_pos a1] at hm
      have : twM 0 = 6 := rfl
      omega
    · rw [twM_pos a1, twM_pos b1] at hm; omega
  · rcases hin i o1 h1 with ⟨rfl, rfl⟩ | ⟨a1, a2, rfl⟩
    · refine ⟨_, h6, rfl, rfl, rfl, rfl, by simp only [ownE_len], fun k e e1 he he1 => ?_⟩
      have hk : k < n.tables.length := by
        rcases Nat.lt_or_ge k n.tables.length with h | h
        · exact h
        · rw [List.getElem?_eq_none (by rw [ownE_len]; exact h)] at he; simp at he
      rw [ownE_get hk] at he he1
      obtain rfl : V.own (20 + k) _ 0 _ = e := by simpa using he
      obtain rfl : V.own (1 + k) (nul (n.tables.getD k default)) 0 _ = e1 := by simpa using he1
      have hm : 20 + k = twM (1 + k) := by rw [twM_pos (by omega)]; omega
      have ht := ht k hk
      rw [hm] at ht ⊢
      exact RenC.own (1 + k) _ 0 _ _ ht rfl (os_skip (by omega) (os_of (innL_some hk)))
    · refine ⟨inO List.length (n.tables.getD (i - 1) default), ?_, rfl, rfl, rfl, rfl, ?_, fun k e e1 he he1 => ?_⟩
      · rw [twM_pos a1, show 19 + i = 20 + (i - 1) by omega]; exact ht (i - 1) (by omega)
      · simp only [inO, List.length_map]
      · simp only [inO] at he he1
        rw [he] at he1
        obtain rfl : e = e1 := by simpa using he1
        obtain ⟨r, -, rfl⟩ := List.mem_map.1 (List.mem_of_getElem? he)
        exact ren_agg ⟨.con _, .ro _ _, .ro _ _, trivial⟩
theorem Twin_ok (n : Nt) (na : NtOK n) : OkO Tryz.prog 5 [tNt n] (twO n) (twV n) := by
  have n1 := na.names
  have n2 := na.values
  have n3 := na.parents
  have n4 := na.tables
  have m2 := getD_all (p := fun (x : List ByteArray) => x.length ≤ 1073741824) na.value (Nat.zero_le _)
  have m3 := getD_all (p := fun (x : List Int) => x.length ≤ 1073741824) na.parent (Nat.zero_le _)
  have m4 := getD_all (p := fun (x : List Rt) => x.length ≤ 1073741824) na.table (Nat.zero_le _)
  refine oko_of_ev (fun _ _ _ h => h) mix Tryz.func5 rfl rfl (by kernel_rfl) (Nat.le_of_ble_eq_true rfl) ?_
  repeat' (first|(refine And.intro (allv_one rfl) ?_)|(with_reducible first|refine zA ?_|refine zB ?_|refine zC ?_|refine zD ?_|refine zE ?_|refine zF ?_|refine zG ?_|refine zH ?_|refine zI ?_|refine zJ ?_|refine zK ?_|refine zL ?_)|(with_reducible refine reg_i ?_;intro K hK)|(with_reducible refine drw_i ?_;intro K hK)|((with_reducible refine cond_t ?hc ?_);(case hc=>rfl))|((with_reducible refine cond_f ?hc ?_);(case hc=>rfl))|((with_reducible refine cond_m ?_);refine And.intro ?_ ?_;all_goals(intro hb;(try simp only [sn,sb] at hb);try exact ex0))|(refine hK _ ?_;clear hK K)|(refine hK _ _ rfl ?_;clear hK K)|(have hg:=hK;clear hg;first|(refine And.intro ?zz ?_;case zz=>first|exact rfl|exact zO rfl|omega|exact gI)|(refine fresh_n ?_)|(refine freshO_n ?_)|(refine at_Q ?_;intro hu)|(refine zP wA ?_)|(refine mul_Q ?_;intro hm1 hm2)|(refine zP at_M ?_)|(refine zP rfl ?_)|(refine And.intro ?_ ?_;all_goals(intro hb;(try simp only [sn,sb] at hb);try exact ex0))|(intro b0 hb)))
  have s1 := fun {oh oh1 : OH} {v : V} (h : v.cl1 oh1) => Lc.same (oh := oh) v h
  refine loop_f Nat (stT1 Tryz.f5.ntmps n) (fun i => i ≤ n.values.length) (fun i => n.values.length - i) 0 (Nat.zero_le _) (lf_of0 ?_ ?_) ?_
  · exact ⟨Lc.same _ rfl, Lc.same _ rfl, Lc.same _ rfl, Lc.same _ trivial, trivial⟩
  · exact ⟨lfOb_same rfl (bx_flat n), lfOb_same rfl bz_flat, lfOb_one rfl (lv_agg ⟨Lc.same _ trivial, Lc.frz false _ _ (fd_copy (ts := n.names.map tS) (f := false) rfl rfl (by simp)), Lc.adopt 4 _ rfl rfl, Lc.same _ trivial, Lc.same _ trivial, trivial⟩), lfOb_new rfl, trivial⟩
  intro i hi
  have m2i := m2 i
  repeat' (first|(refine And.intro (allv_one rfl) ?_)|(with_reducible first|refine zA ?_|refine zB ?_|refine zC ?_|refine zD ?_|refine zE ?_|refine zF ?_|refine zG ?_|refine zH ?_|refine zI ?_|refine zJ ?_|refine zK ?_|refine zL ?_)|(with_reducible refine reg_i ?_;intro K hK)|(with_reducible refine drw_i ?_;intro K hK)|((with_reducible refine cond_t ?hc ?_);(case hc=>rfl))|((with_reducible refine cond_f ?hc ?_);(case hc=>rfl))|((with_reducible refine cond_m ?_);refine And.intro ?_ ?_;all_goals(intro hb;(try simp only [sn,sb] at hb);try exact ex0))|(refine hK _ ?_;clear hK K)|(refine hK _ _ rfl ?_;clear hK K)|(have hg:=hK;clear hg;first|(refine And.intro ?zz ?_;case zz=>first|exact rfl|exact zO rfl|omega|exact gI)|(refine fresh_n ?_)|(refine freshO_n ?_)|(refine at_Q ?_;intro hu)|(refine zP wA ?_)|(refine mul_Q ?_;intro hm1 hm2)|(refine zP at_M ?_)|(refine zP rfl ?_)|(refine And.intro ?_ ?_;all_goals(intro hb;(try simp only [sn,sb] at hb);try exact ex0))|(intro b0 hb)))
  · refine ⟨i + 1, by omega, by show _ - (i + 1) < _ - i; omega, lf_of0 ?_ ?_⟩
    · exact ⟨Lc.same _ rfl, Lc.same _ rfl, Lc.same _ rfl, Lc.same _ trivial, trivial⟩
    · exact ⟨lfOb_same rfl (bx_flat n), lfOb_same rfl bz_flat, lfOb_one rfl (lv_agg ⟨Lc.same _ trivial, Lc.same _ trivial, Lc.same _ rfl, Lc.same _ trivial, Lc.same _ trivial, trivial⟩), lfOb_app (F := roS) (l := n.values.take i) (a := n.values.getD i default) rfl (by simp; omega) (take_one (by omega)) (fun _ _ => trivial) (Lc.frz false _ (tSL _) (fd_copy (f := false) rfl rfl (by simp))), trivial⟩
  refine loop_f Nat (stT2 Tryz.f5.ntmps n) (fun i => i ≤ n.parents.length) (fun i => n.parents.length - i) 0 (Nat.zero_le _) (lf_of0 ?_ ?_) ?_
  · exact ⟨Lc.same _ rfl, Lc.same _ rfl, Lc.same _ rfl, Lc.same _ trivial, trivial⟩
  · exact ⟨lfOb_same rfl (bx_flat n), lfOb_same rfl bz_flat, lfOb_one rfl (lv_agg ⟨Lc.same _ trivial, Lc.same _ trivial, Lc.frz false _ (tSLL n.values) (fd_of (by rw [List.take_of_length_le (by omega)]; rfl) (fd_map (F := roS) (G := tSL) (l := n.values.take i) rfl rfl (by simp; omega) (fun a _ => ofA_len (f := false) (tSL a)) (fun a _ j v u => ofA_fd (f := false) (t := tSL a)))), Lc.adopt 5 _ rfl rfl, Lc.same _ trivial, trivial⟩), lfOb_new rfl, trivial⟩
  clear hb hi m2i i
  intro i hi
  have m3i := m3 i
  repeat' (first|(refine And.intro (allv_one rfl) ?_)|(with_reducible first|refine zA ?_|refine zB ?_|refine zC ?_|refine zD ?_|refine zE ?_|refine zF ?_|refine zG ?_|refine zH ?_|refine zI ?_|refine zJ ?_|refine zK ?_|refine zL ?_)|(with_reducible refine reg_i ?_;intro K hK)|(with_reducible refine drw_i ?_;intro K hK)|((with_reducible refine cond_t ?hc ?_);(case hc=>rfl))|((with_reducible refine cond_f ?hc ?_);(case hc=>rfl))|((with_reducible refine cond_m ?_);refine And.intro ?_ ?_;all_goals(intro hb;(try simp only [sn,sb] at hb);try exact ex0))|(refine hK _ ?_;clear hK K)|(refine hK _ _ rfl ?_;clear hK K)|(have hg:=hK;clear hg;first|(refine And.intro ?zz ?_;case zz=>first|exact rfl|exact zO rfl|omega|exact gI)|(refine fresh_n ?_)|(refine freshO_n ?_)|(refine at_Q ?_;intro hu)|(refine zP wA ?_)|(refine mul_Q ?_;intro hm1 hm2)|(refine zP at_M ?_)|(refine zP rfl ?_)|(refine And.intro ?_ ?_;all_goals(intro hb;(try simp only [sn,sb] at hb);try exact ex0))|(intro b0 hb)))
  · refine ⟨i + 1, by omega, by show _ - (i + 1) < _ - i; omega, lf_of0 ?_ ?_⟩
    · exact ⟨Lc.same _ rfl, Lc.same _ rfl, Lc.same _ rfl, Lc.same _ trivial, trivial⟩
    · exact ⟨lfOb_same rfl (bx_flat n), lfOb_same rfl bz_flat, lfOb_one rfl (lv_agg ⟨Lc.same _ trivial, Lc.same _ trivial, Lc.same _ trivial, Lc.same _ rfl, Lc.same _ trivial, trivial⟩), lfOb_app (F := roI) (l := n.parents.take i) (a := n.parents.getD i default) rfl (by simp; omega) (take_one (by omega)) (fun _ _ => trivial) (Lc.frz false _ (tIL _) (fd_copy (f := false) rfl rfl (by simp))), trivial⟩
  refine loop_f Nat (stT3 Tryz.f5.ntmps n) (fun i => i ≤ n.tables.length) (fun i => n.tables.length - i) 0 (Nat.zero_le _) (lf_of ?_ ?_ (innL_flat _ _ _) (fun i o h => by simp [innL, oget] at h)) ?_
  · exact ⟨Lc.same _ rfl, Lc.same _ rfl, Lc.same _ rfl, Lc.same _ trivial, trivial⟩
  · exact ⟨lfOb_same rfl (bx_flat n), lfOb_same rfl bz_flat, lfOb_one rfl (lv_agg ⟨Lc.same _ trivial, Lc.same _ trivial, Lc.same _ trivial, Lc.frz false _ (tILL n.parents) (fd_of (by rw [List.take_of_length_le (by omega)]; rfl) (fd_map (F := roI) (G := tIL) (l := n.parents.take i) rfl rfl (by simp; omega) (fun a _ => ofA_len (f := false) (tIL a)) (fun a _ j v u => ofA_fd (f := false) (t := tIL a)))), Lc.adopt 6 _ rfl rfl, trivial⟩), lfOb_new rfl, trivial⟩
  clear hb hi m3i i
  intro i hi
  have m4i := m4 i
  repeat' (first|(refine And.intro (allv_one rfl) ?_)|(with_reducible first|refine zA ?_|refine zB ?_|refine zC ?_|refine zD ?_|refine zE ?_|refine zF ?_|refine zG ?_|refine zH ?_|refine zI ?_|refine zJ ?_|refine zK ?_|refine zL ?_)|(with_reducible refine reg_i ?_;intro K hK)|(with_reducible refine drw_i ?_;intro K hK)|((with_reducible refine cond_t ?hc ?_);(case hc=>rfl))|((with_reducible refine cond_f ?hc ?_);(case hc=>rfl))|((with_reducible refine cond_m ?_);refine And.intro ?_ ?_;all_goals(intro hb;(try simp only [sn,sb] at hb);try exact ex0))|(refine hK _ ?_;clear hK K)|(refine hK _ _ rfl ?_;clear hK K)|(have hg:=hK;clear hg;first|(refine And.intro ?zz ?_;case zz=>first|exact rfl|exact zO rfl|omega|exact gI)|(refine fresh_n ?_)|(refine freshO_n ?_)|(refine at_Q ?_;intro hu)|(refine zP wA ?_)|(refine mul_Q ?_;intro hm1 hm2)|(refine zP at_M ?_)|(refine zP rfl ?_)|(refine And.intro ?_ ?_;all_goals(intro hb;(try simp only [sn,sb] at hb);try exact ex0))|(intro b0 hb)))
  · refine loop_f Nat (fun k => stT4 Tryz.f5.ntmps n i k (20 + i) (innL List.length 20 (n.tables.take i))) (fun k => k ≤ (n.tables.getD i default).length) (fun k => (n.tables.getD i default).length - k) 0 (Nat.zero_le _) (lf_of ?_ ?_ (innL_flat _ _ _) ?_) ?_
    · exact ⟨Lc.same _ rfl, Lc.same _ rfl, Lc.same _ rfl, Lc.same _ trivial, Lc.adopt (20 + i) _ (on_skip (by omega) (on_skip (by omega) (on_skip (by omega) (on_skip (by omega) (innL_none (Or.inr (by simp; omega))))))) (og_skip (by omega) (og_skip (by omega) (og_skip (by omega) (og_skip (by omega) (og_here _ _ _))))), Lc.same _ trivial, trivial⟩
    · refine ⟨lfOb_same rfl (bx_flat n), lfOb_same rfl bz_flat, lfOb_one rfl (lv_agg ⟨Lc.same _ trivial, Lc.same _ trivial, Lc.same _ trivial, Lc.same _ trivial, Lc.same _ rfl, trivial⟩), lfOb_keep rfl (own_lv fun j hj => os_of (o := inO List.length ((n.tables.take i).getD j default)) ?_), lfOb_new (on_skip (by omega) (on_skip (by omega) (on_skip (by omega) (on_skip (by omega) (innL_none (Or.inr (by simp; omega))))))), trivial⟩
      have hj' : j < i := by simp at hj; omega
      exact og_skip (by omega) (og_skip (by omega) (og_skip (by omega) (og_skip (by omega) (og_skip (by omega) (innL_some hj)))))
    · intro j o h
      have hj := (innL_get h).1
      exact og_skip (by omega) (og_skip (by omega) (og_skip (by omega) (og_skip (by omega) h)))
    intro k hk
    have hrk := getD_all (p := RtOK) (fun x hx => na.rat _ (getD_mem (l := n.tables) (i := i) (by omega)) x hx) ⟨Nat.zero_le _, Nat.zero_le _⟩ k
    have hrk1 := hrk.1
    have hrk2 := hrk.2
    have hn : ∀ j, j < 20 → oget (innL List.length 20 (n.tables.take i)) j = none := fun j h => innL_none (Or.inl h)
    have hi0 : i ≤ i := Nat.le_refl _
    obtain ⟨c, hc⟩ : ∃ c, 20 + i = c := ⟨_, rfl⟩
    obtain ⟨tl, htl⟩ : ∃ tl, innL List.length 20 (n.tables.take i) = tl := ⟨_, rfl⟩
    rw [htl] at hn
    rw [hc, htl]
    repeat' (first|(first | (refine And.intro (allv_one rfl) ?_))|(with_reducible first|refine zA ?_|refine zB ?_|refine zC ?_|refine zD ?_|refine zE ?_|refine zF ?_|refine zG ?_|refine zH ?_|refine zI ?_|refine zJ ?_|refine zK ?_|refine zL ?_)|(with_reducible refine reg_i ?_;intro K hK)|(with_reducible refine drw_i ?_;intro K hK)|((with_reducible refine cond_t ?hc ?_);(case hc=>rfl))|((with_reducible refine cond_f ?hc ?_);(case hc=>rfl))|((with_reducible refine cond_m ?_);refine And.intro ?_ ?_;all_goals(intro hb;(try simp only [sn,sb] at hb);try exact ex0))|(refine hK _ ?_;clear hK K)|(refine hK _ _ rfl ?_;clear hK K)|(have hg:=hK;clear hg;first|(refine And.intro ?zz ?_;case zz=>first|exact rfl|exact zO rfl|omega|exact gI)|(refine fresh_c 3 ?hf ?_; (case hf => ((repeat (refine on_skip (by omega) ?_)); exact hn 3 (by omega))))|(refine fresh_c 4 ?hf ?_; (case hf => ((repeat (refine on_skip (by omega) ?_)); exact hn 4 (by omega))))|(refine fresh_c 5 ?hf ?_; (case hf => ((repeat (refine on_skip (by omega) ?_)); exact hn 5 (by omega))))|(refine fresh_c 7 ?hf ?_; (case hf => ((repeat (refine on_skip (by omega) ?_)); exact hn 7 (by omega))))|(refine freshO_n ?_)|(refine at_Q ?_;intro hu)|(refine zP wA ?_)|(refine mul_Q ?_;intro hm1 hm2)|(refine zP at_M ?_)|(refine zP rfl ?_)|(refine And.intro ?_ ?_;all_goals(intro hb;(try simp only [sn,sb] at hb);try exact ex0))|(intro b0 hb))|(refine use_s (o := ⟨3, ((n.tables.getD i default).take k).map rtV, k, true⟩) ?hu rfl rfl ?_; (case hu => ((repeat (refine og_skip (by omega) ?_)); exact og_here _ _ _))))
    · refine ⟨k + 1, by omega, by show _ - (k + 1) < _ - k; omega, lf_of ?_ ?_ (htl ▸ innL_flat _ _ _) ?_⟩
      · exact ⟨Lc.same _ rfl, Lc.same _ rfl, Lc.same _ rfl, Lc.same _ trivial, Lc.same _ (os_skip (by omega) (os_skip (by omega) (os_skip (by omega) (os_skip (by omega) (os_here _ _ _))))), Lc.same _ trivial, trivial⟩
      · refine ⟨lfOb_same ?h0 (bx_flat n), lfOb_same ?h1 bz_flat, lfOb_keep ?h2 (mb_lv trivial trivial trivial rfl), lfOb_keep ?h6 (own_lv ?hv), ?_, trivial⟩
        case h0 => ((repeat (refine og_skip (by omega) ?_)); exact og_here _ _ _)
        case h1 => ((repeat (refine og_skip (by omega) ?_)); exact og_here _ _ _)
        case h2 => ((repeat (refine og_skip (by omega) ?_)); exact og_here _ _ _)
        case h6 => ((repeat (refine og_skip (by omega) ?_)); exact og_here _ _ _)
        case hv =>
          intro j hj
          have hj' : j < i := by simp at hj; omega
          refine os_of (o := inO List.length ((n.tables.take i).getD j default)) (og_skip (by omega) (og_skip (by omega) (og_skip (by omega) (og_skip (by omega) (og_skip (by omega) ?_)))))
          rw [← htl]; exact innL_some hj
        refine lfOb_app (F := rtV) (l := (n.tables.getD i default).take k) (a := (n.tables.getD i default).getD k default) (n := k) (og_here _ _ _) (by rw [List.length_take]; omega) (take_one (by omega)) (fun _ _ => rtV_flat _) (lv_agg ⟨Lc.same _ trivial, Lc.frz false _ (tn _) (fd_copy (f := false) (sz := 1) ?h4 ?n4 (by simp)), Lc.frz false _ (tn _) (fd_copy (f := false) (sz := 1) ?h5 ?n5 (by simp)), trivial⟩)
        case h4 => ((repeat (refine og_skip (by omega) ?_)); exact og_here _ _ _)
        case h5 => ((repeat (refine og_skip (by omega) ?_)); exact og_here _ _ _)
        case n4 => ((repeat (refine on_skip (by omega) ?_)); exact hn 4 (by omega))
        case n5 => ((repeat (refine on_skip (by omega) ?_)); exact hn 5 (by omega))
      · intro j o h
        have hj := innL_get (htl ▸ h)
        have hj2 : j < 20 + i := by have := hj.2.1; simp at this; omega
        have hj1 := hj.1
        ((repeat (refine og_skip (by omega) ?_)); exact h)
    · obtain rfl : k = (n.tables.getD i default).length := by omega
      have e1 : n.tables.take (i + 1) = n.tables.take i ++ [n.tables.getD i default] := take_one (by omega)
      have e2 : (n.tables.take i).length = i := by simp; omega
      refine ⟨i + 1, by omega, by show _ - (i + 1) < _ - i; omega, lf_of ?_ ?_ (innL_flat _ _ _) ?_⟩
      · exact ⟨Lc.same _ rfl, Lc.same _ rfl, Lc.same _ rfl, Lc.same _ trivial, trivial⟩
      · refine ⟨lfOb_same ?h0 (bx_flat n), lfOb_same ?h1 bz_flat, lfOb_keep ?h2 (mb_lv trivial trivial trivial rfl), lfOb_app2 (l := ownE List.length 20 (n.tables.take i)) ?h6 (by rw [ownE_len, e2]) (e1 := .own c (n.tables.getD i default).length 0 (n.tables.getD i default).length) ?h7 (own_lv ?hv) (Lc.same _ ?h8), trivial⟩
        case h0 => ((repeat (refine og_skip (by omega) ?_)); exact og_here _ _ _)
        case h1 => ((repeat (refine og_skip (by omega) ?_)); exact og_here _ _ _)
        case h2 => ((repeat (refine og_skip (by omega) ?_)); exact og_here _ _ _)
        case h6 => ((repeat (refine og_skip (by omega) ?_)); exact og_here _ _ _)
        case h7 => rw [e1, ownE_app, e2, hc]
        case hv =>
          intro j hj
          rw [e2] at hj
          exact os_of (og_skip (by omega) (og_skip (by omega) (og_skip (by omega) (og_skip (by omega) (innL_some (by rw [e1, List.length_append, e2]; omega))))))
        case h8 =>
          rw [← hc]
          exact os_of (og_skip (by omega) (og_skip (by omega) (og_skip (by omega) (og_skip (by omega) (innL_some (by rw [e1, List.length_append, e2]; simp))))))
      · intro j o h
        have hj := innL_get h
        have hj2 : j < 20 + (i + 1) := by have := hj.2.1; simp at this; omega
        have hj1 := hj.1
        rw [e1, innL_app, e2, hc, htl] at h
        rcases oget_snoc h with h | ⟨rfl, rfl⟩
        · have hj3 := innL_get (htl ▸ h)
          have hj4 : j < 20 + i := by have := hj3.2.1; simp at this; omega
          ((repeat (refine og_skip (by omega) ?_)); exact h)
        · repeat (refine og_skip (by omega) ?_)
          refine (og_here _ _ _).trans ?_
          rw [List.take_of_length_le (Nat.le_refl _)]
          rfl
  obtain rfl : i = n.tables.length := by omega
  have e1 : n.tables.take n.tables.length = n.tables := List.take_of_length_le (Nat.le_refl _)
  refine ret_cellO (l := [.con (.string n.name), .ro false (tSL n.names), .ro false (tSLL n.values), .ro false (tILL n.parents), .own 6 n.tables.length 0 n.tables.length]) twM rfl tk27 rfl (Nat.zero_lt_succ _) rfl rfl (tw_ren ?h6 ?ht) ?_
  case h6 =>
    repeat (refine og_skip (by omega) ?_)
    refine (og_here _ _ _).trans ?_
    rw [e1]
  case ht =>
    intro j hj
    repeat (refine og_skip (by omega) ?_)
    rw [e1]
    exact innL_some hj
  exact ren_agg ⟨.con _, .ro _ _, .ro _ _, .ro _ _, RenC.own (m := twM) 0 n.tables.length 0 n.tables.length ⟨1, ownE List.length 20 (n.tables.take n.tables.length), n.tables.length, true⟩ rfl rfl rfl, trivial⟩
theorem fz_rt {oh : OH} (r : Rt) : FzE oh false (rtV r) (tRt r) := by
  refine ⟨rfl, fun j v u h1 h2 => ?_⟩
  match j with
  | 0 => simp [rtV, V.cells] at h1; simp [tRt, tR, T.cells] at h2; subst h1; subst h2; exact .con _
  | 1 => simp [rtV, V.cells] at h1; simp [tRt, tR, T.cells] at h2; subst h1; subst h2; exact .ro false _ fun h => Bool.noConfusion h
  | 2 => simp [rtV, V.cells] at h1; simp [tRt, tR, T.cells] at h2; subst h1; subst h2; exact .ro false _ fun h => Bool.noConfusion h
  | j + 3 => simp [rtV, V.cells] at h1
theorem fz_tw (n : Nt) : FzA (twO n) false (twV n) (tNt n) := by
  refine ⟨rfl, fun j v t h1 h2 => ?_⟩
  match j with
  | 0 => simp [twV] at h1; simp [tNt] at h2; subst h1; subst h2; exact .con _
  | 1 => simp [twV] at h1; simp [tNt] at h2; subst h1; subst h2; exact .ro false _ fun h => h
  | 2 => simp [twV] at h1; simp [tNt] at h2; subst h1; subst h2; exact .ro false _ fun h => h
  | 3 => simp [twV] at h1; simp [tNt] at h2; subst h1; subst h2; exact .ro false _ fun h => h
  | 4 =>
    simp [twV] at h1; simp [tNt] at h2; subst h1; subst h2
    have key : ∀ (i : Nat) (e : V) (t : T), (ownE nul 1 n.tables)[0 + i]? = some e → (n.tables.map tRL)[i]? = some t → ∃ k, k < n.tables.length ∧ e = .own (1 + k) 0 0 (n.tables.getD k default).length ∧ t = tRL (n.tables.getD k default) := by
      intro i e t h1 h2
      rw [List.getElem?_map] at h2
      obtain ⟨a, ha, rfl⟩ := Option.map_eq_some_iff.1 h2
      have hi : i < n.tables.length := (List.getElem?_eq_some_iff.1 ha).1
      rw [Nat.zero_add, ownE_get hi] at h1
      have : n.tables.getD i default = a := by rw [List.getD, ha]; rfl
      exact ⟨i, hi, by simpa [nul] using h1.symm, by rw [this]⟩
    refine .own 0 0 0 _ _ _ (og_here _ _ _) rfl rfl (by simp) (fun i e t _ h1 h2 => ?_) (fun i e t j v u _ h1 h2 h3 h4 => ?_)
    · obtain ⟨k, hk, rfl, rfl⟩ := key i e t h1 h2
      rfl
    · obtain ⟨k, hk, rfl, rfl⟩ := key i e t h1 h2
      cases j with
      | succ j => simp [V.cells] at h3
      | zero =>
        simp [V.cells] at h3; simp [tRL, T.cells] at h4; subst h3; subst h4
        exact fz_own (F := rtV) (G := tRt) (l := n.tables.getD k default) (o := inO nul (n.tables.getD k default)) (og_skip (by omega) (innL_some hk)) rfl rfl rfl (by rw [List.drop_zero]; exact List.take_of_length_le (by simp [inO])) (fun a _ => fz_rt a) rfl
  | j + 5 => simp [twV] at h1
theorem Twin_data (n : Nt) (na : NtOK n) : Ok Tryz.prog 5 [tNt n] false (tNt n) := ok_of_oko (Twin_ok n na) (fz_tw n)
