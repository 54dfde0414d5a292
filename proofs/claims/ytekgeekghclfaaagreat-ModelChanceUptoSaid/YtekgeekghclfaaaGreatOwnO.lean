import Derived.Test.YtekgeekghclfaaaGreatOneN
import Derived.Test.YtekgeekghclfaaaGreatLe
set_option linter.all false
namespace Go.Ev
open Go.Proofs
set_option maxRecDepth 10000
set_option maxHeartbeats 4000000
set_option linter.unusedSimpArgs false
set_option linter.unusedVariables false
theorem lf_emp {s : St} {t sz : Nat} {e1 : Env} (h : eget s.env t = .emp) (h1 : ∀ i, eget e1 i = .undef ∨ (eget e1 i = eget s.env i ∧ ∃ c, eget e1 i = .con c) ∨ (eget e1 i = eget s.env i ∧ ∃ f c, eget e1 i = .ro f c)) : Lf ⟨s.n, (t, .own 0 0 0 0) :: e1, [(0, ⟨sz, [], 0, true⟩)]⟩ ⟨s.n, s.env, []⟩ where
  n := rfl
  oh i o1 h1 := by
    refine .inr ⟨rfl, ?_⟩
    unfold oget at h1
    split at h1
    · cases h1; exact ⟨rfl, rfl, rfl⟩
    · cases h1
  env i := by
    by_cases e : t = i
    · subst e
      refine .inr ?_
      show LV _ _ (eget s.env t) (eget ((t, V.own 0 0 0 0) :: e1) t)
      rw [h, show eget ((t, V.own 0 0 0 0) :: e1) t = .own 0 0 0 0 by simp [eget]]
      exact Lc.adopt 0 _ rfl rfl
    · have e2 : eget ((t, V.own 0 0 0 0) :: e1) i = eget e1 i := by simp [eget, e]
      show eget ((t, V.own 0 0 0 0) :: e1) i = _ ∨ LV _ _ (eget s.env i) (eget ((t, V.own 0 0 0 0) :: e1) i)
      rw [e2]
      rcases h1 i with h2 | ⟨h2, c, h3⟩ | ⟨h2, f, c, h3⟩
      · exact .inl h2
      · rw [← h2, h3]; exact .inr (Lc.same _ trivial)
      · rw [← h2, h3]; exact .inr (Lc.same _ trivial)
theorem ren_emp : Ren [(0, ⟨1, [], 0, true⟩)] [(0, obN [])] (fun _ => 0) := ren_obN (ver := 0) rfl
theorem retO_emp {P : Program} {fn : Func} {s : St} {t : Nat} (hr : fn.results.toList = [.tmp t]) (h : eget s.env t = .emp) (ho : s.oh = []) : RetO P fn [(0, obN [])] (.own 0 0 0 0) .ret s := by
  obtain ⟨n, env, oh⟩ := s
  obtain rfl : oh = [] := ho
  refine ⟨trivial, true, ⟨n, [(t, .own 0 0 0 0)], [(0, ⟨1, [], 0, true⟩)]⟩, fun _ => 0, lf_emp (s := ⟨n, env, []⟩) h (fun i => .inl rfl), ren_emp, ?_⟩
  rw [hr]
  simp only [resV]
  rw [show eget [(t, V.own 0 0 0 0)] t = .own 0 0 0 0 by simp [eget]]
  exact RenC.own 0 0 0 _ _ rfl rfl rfl
theorem retO_emp3 {P : Program} {fn : Func} {s : St} {a b c : Nat} {f : Bool} {r : T} {x : Value} (hr : fn.results.toList = [.tmp a, .tmp b, .tmp c]) (h : eget s.env a = .emp) (hb : eget s.env b = .ro f r) (hc : eget s.env c = .con x) (ho : s.oh = []) (hab : a ≠ b) (hac : a ≠ c) (hbc : b ≠ c) :
    RetO P fn [(0, obN [])] (.tup [.own 0 0 0 0, .ro f r, .con x]) .ret s := by
  obtain ⟨n, env, oh⟩ := s
  obtain rfl : oh = [] := ho
  refine ⟨trivial, true, ⟨n, (a, .own 0 0 0 0) :: [(b, .ro f r), (c, .con x)], [(0, ⟨1, [], 0, true⟩)]⟩, fun _ => 0, lf_emp (s := ⟨n, env, []⟩) h (fun i => ?_), ren_emp, ?_⟩
  · by_cases e1 : b = i
    · subst e1; exact .inr (.inr ⟨by simp [eget]; exact hb.symm, f, r, by simp [eget]⟩)
    · by_cases e2 : c = i
      · subst e2; exact .inr (.inl ⟨by simp [eget, hbc]; exact hc.symm, x, by simp [eget, hbc]⟩)
      · exact .inl (by simp [eget, e1, e2])
  rw [hr]
  simp only [resV]
  rw [show eget ((a, V.own 0 0 0 0) :: [(b, V.ro f r), (c, V.con x)]) a = .own 0 0 0 0 by simp [eget], show eget ((a, V.own 0 0 0 0) :: [(b, V.ro f r), (c, V.con x)]) b = .ro f r by simp [eget, hab], show eget ((a, V.own 0 0 0 0) :: [(b, V.ro f r), (c, V.con x)]) c = .con x by simp [eget, hac, hbc]]
  exact ⟨_, _, _, rfl, RenC.own 0 0 0 _ _ rfl rfl rfl, RenC.ro _ _, RenC.con _⟩
theorem own_okA (l : List UInt32) (hl : l.length ≤ 2199023255552) : OkO Tryz.prog 87 [tn l] [(0, obN (norm l))] (.own 0 0 0 (norm l).length) := by
  by_cases h0 : norm l = []
  · rw [h0]
    have h2 : (norm l).length = 0 := by rw [h0]; rfl
    refine oko_of_ev (fun _ _ _ h => h) mix Tryz.func87 rfl rfl (by kernel_rfl) (Nat.le_of_ble_eq_true rfl) ?_
    repeat' (first|(with_reducible first|refine zA ?_|refine zB ?_|refine zC ?_|refine zD ?_|refine zE ?_|refine zF ?_|refine zG ?_|refine zH ?_|refine zI ?_|refine zJ ?_|refine zK ?_|refine zL ?_)|(with_reducible refine reg_i ?_;intro K hK)|(with_reducible refine drw_i ?_;intro K hK)|((with_reducible refine cond_t ?hc ?_);(case hc=>rfl))|((with_reducible refine cond_f ?hc ?_);(case hc=>rfl))|((with_reducible refine cond_m ?_);refine And.intro ?_ ?_;all_goals(intro hb;(try simp only [sn,sb] at hb);try exact ex0))|(refine hK _ ?_;clear hK K)|(refine hK _ _ rfl ?_;clear hK K)|(have hg:=hK;clear hg;first|(refine And.intro ?zz ?_;case zz=>first|exact rfl|exact zO rfl|omega|exact gI)|(refine fresh_n ?_)|(refine freshO_n ?_)|(refine at_Q ?_;intro hu)|(refine zP wA ?_)|(refine mul_Q ?_;intro hm1 hm2)|(refine zP at_M ?_)|(refine zP rfl ?_)|(refine zQ (trim_ok l (by omega)) ?_)|(refine And.intro ?_ ?_;all_goals(intro hb;(try simp only [sn,sb] at hb);try exact ex0))|(intro b0 hb)))
    exact retO_emp rfl rfl rfl
  · exact own_okO l hl h0
theorem ren_two {oh : OH} {i j v w : Nat} {a b : List UInt32} (hij : i ≠ j) (hi : oget oh i = some ⟨1, a.map cu, v, true⟩) (hj : oget oh j = some ⟨1, b.map cu, w, true⟩) : Ren oh [(0, obN a), (1, obN b)] (fun k => if k = 0 then i else j) := by
  have key : ∀ (k : Nat) (o : Obj), oget [(0, obN a), (1, obN b)] k = some o → (k = 0 ∧ o = obN a) ∨ (k = 1 ∧ o = obN b) := by
    intro k o h
    by_cases e1 : k = 0
    · subst e1; exact .inl ⟨rfl, by simpa [oget] using h.symm⟩
    · by_cases e2 : k = 1
      · subst e2; exact .inr ⟨rfl, by simpa [oget] using h.symm⟩
      · simp [oget, Ne.symm e1, Ne.symm e2] at h
  have sc : ∀ (l : List UInt32) (oh oh1 : OH) (m : Nat → Nat) (k : Nat) (e e1 : V), (l.map cu)[k]? = some e → (l.map cu)[k]? = some e1 → RenA m oh oh1 e e1 := by
    intro l oh oh1 m k e e1 h1 h2
    rw [h1] at h2
    obtain rfl : e = e1 := by simpa using h2
    obtain ⟨x, -, rfl⟩ := List.mem_map.1 (List.mem_of_getElem? h1)
    exact RenC.con _
  refine ⟨fun k l o1 o2 h1 h2 e => ?_, fun k o1 h1 => ?_⟩
  · rcases key k o1 h1 with ⟨rfl, -⟩ | ⟨rfl, -⟩ <;> rcases key l o2 h2 with ⟨rfl, -⟩ | ⟨rfl, -⟩
    · rfl
    · exact absurd e hij
    · exact absurd e.symm hij
    · rfl
  · rcases key k o1 h1 with ⟨rfl, rfl⟩ | ⟨rfl, rfl⟩
    · exact ⟨_, hi, rfl, rfl, rfl, rfl, rfl, sc a _ _ _⟩
    · exact ⟨_, hj, rfl, rfl, rfl, rfl, rfl, sc b _ _ _⟩
theorem sh_cu (c : Nat) (l : List UInt32) : (l.map cu).map (V.shA c) = l.map cu := by rw [List.map_map]; rfl
theorem objs_2 {C : CT} {q : FuncId} {ts : List T} {oh : OH} {a b : List UInt32} {v : V} {k : Acc → Prop} (hc : C q ts (.objs [(0, obN a), (1, obN b)] v)) (d : Nat) (h0 : oget oh d = none) (h1 : oget oh (d + 1) = none)
    (h : k ⟨[], [d, d + 1], [(d, ⟨1, a.map cu, 0, true⟩), (d + 1, ⟨1, b.map cu, 0, true⟩)], v.sh d⟩) : ObjK C q ts oh k := by
  refine ⟨_, _, hc, d, fun i hi => ?_, ?_⟩
  · simp only [shO, List.map_cons, List.map_nil, List.mem_cons, List.not_mem_nil, or_false] at hi
    rcases hi with rfl | rfl
    · rw [Nat.zero_add]; exact h0
    · rw [Nat.add_comm]; exact h1
  · show k ⟨[], [0 + d, 1 + d], [(0 + d, ⟨1, (a.map cu).map (V.shA d), 0, true⟩), (1 + d, ⟨1, (b.map cu).map (V.shA d), 0, true⟩)], v.sh d⟩
    rw [sh_cu, sh_cu, Nat.zero_add, Nat.add_comm 1 d]; exact h
theorem lendo_2 {C : CT} {q : FuncId} {ts : List T} {args : List V} {oh : OH} {a b : List UInt32} {v : V} {k : Acc → Prop} (hc : C q ts (.objs [(0, obN a), (1, obN b)] v)) (pre : OH) (d : Nat) (hp : ∀ p ∈ pre, oget oh p.1 = some p.2) (hz : FzL pre args ts) (hv : v.frT = true)
    (h0 : oget oh d = none) (h1 : oget oh (d + 1) = none) (h : k ⟨pre, [d, d + 1], [(d, ⟨1, a.map cu, 0, true⟩), (d + 1, ⟨1, b.map cu, 0, true⟩)], v.sh d⟩) : LendK C q args oh k := by
  refine ⟨ts, _, _, pre, hc, hp, hz, hv, fun p hp e he => ?_, d, fun i hi => ?_, ?_⟩
  · simp only [List.mem_cons, List.not_mem_nil, or_false] at hp
    rcases hp with rfl | rfl
    · obtain ⟨x, -, rfl⟩ := List.mem_map.1 he
      rfl
    · obtain ⟨x, -, rfl⟩ := List.mem_map.1 he
      rfl
  · simp only [shO, List.map_cons, List.map_nil, List.mem_cons, List.not_mem_nil, or_false] at hi
    rcases hi with rfl | rfl
    · rw [Nat.zero_add]; exact h0
    · rw [Nat.add_comm]; exact h1
  · show k ⟨pre, [0 + d, 1 + d], [(0 + d, ⟨1, (a.map cu).map (V.shA d), 0, true⟩), (1 + d, ⟨1, (b.map cu).map (V.shA d), 0, true⟩)], v.sh d⟩
    rw [sh_cu, sh_cu, Nat.zero_add, Nat.add_comm 1 d]; exact h
def oQ (z : Int) (d : Nat) : OH := [(0, obN (lm (qz z d).natAbs)), (1, obN (lm (qd z d)))]
def vQ (i j : Nat) (z : Int) (d : Nat) : V := .agg [.con (.bool (decide (qz z d < 0))), .own i 0 0 (lm (qz z d).natAbs).length, .own j 0 0 (lm (qd z d)).length]
theorem ren_q {oh : OH} {i j : Nat} {z : Int} {d : Nat} {oi oj : Obj} (hi : oget oh i = some oi) (hj : oget oh j = some oj) (vi : oi.ver = 0) (vj : oj.ver = 0) : RenA (fun k => if k = 0 then i else j) oh (oQ z d) (vQ i j z d) (vQ 0 1 z d) := by
  refine ⟨rfl, fun k x y hx hy => ?_⟩
  match k with
  | 0 => simp at hx hy; subst hx; subst hy; exact .con _
  | 1 => simp at hx hy; subst hx; subst hy; exact RenC.own (m := fun k => if k = 0 then i else j) 0 0 0 _ _ hi vi rfl
  | 2 => simp at hx hy; subst hx; subst hy; exact RenC.own (m := fun k => if k = 0 then i else j) 1 0 0 _ _ hj vj rfl
  | k + 3 => simp at hx
theorem Norm_okA (l : List UInt32) (hl : l.length ≤ 2199023255552) : OkO Tryz.prog 60 [tn l] [(0, obN (norm l))] (.own 0 0 0 (norm l).length) := by
  refine oko_of_ev (fun _ _ _ h => h) mix Tryz.func60 rfl rfl (by kernel_rfl) (Nat.le_of_ble_eq_true rfl) ?_
  repeat' (first|(with_reducible first|refine zA ?_|refine zB ?_|refine zC ?_|refine zD ?_|refine zE ?_|refine zF ?_|refine zG ?_|refine zH ?_|refine zI ?_|refine zJ ?_|refine zK ?_|refine zL ?_)|(with_reducible refine reg_i ?_;intro K hK)|(with_reducible refine drw_i ?_;intro K hK)|((with_reducible refine cond_t ?hc ?_);(case hc=>rfl))|((with_reducible refine cond_f ?hc ?_);(case hc=>rfl))|((with_reducible refine cond_m ?_);refine And.intro ?_ ?_;all_goals(intro hb;(try simp only [sn,sb] at hb);try exact ex0))|(refine hK _ ?_;clear hK K)|(refine hK _ _ rfl ?_;clear hK K)|(have hg:=hK;clear hg;first|(refine And.intro ?zz ?_;case zz=>first|exact rfl|exact zO rfl|omega|exact gI)|(refine fresh_n ?_)|(refine freshO_n ?_)|(refine at_Q ?_;intro hu)|(refine zP wA ?_)|(refine mul_Q ?_;intro hm1 hm2)|(refine zP at_M ?_)|(refine zP rfl ?_)|(refine Or.inr (objs_cu (own_okA l hl) ?_))|(refine And.intro ?_ ?_;all_goals(intro hb;(try simp only [sn,sb] at hb);try exact ex0))|(intro b0 hb)))
  exact ⟨trivial, false, _, fun _ => 0, rfl, ren_obN (ver := 0) rfl, RenC.own 0 0 0 _ _ rfl rfl rfl⟩
theorem of_okA (n : Bool) (m : List UInt32) (hm : m.length ≤ 2199023255552) : OkO Tryz.prog 103 [.con (.bool n), tn m] [(0, obN (norm m))] (.agg [.con (.bool (n && decide (norm m ≠ []))), .own 0 0 0 (norm m).length]) := by
  cases n with
  | false =>
    refine oko_of_ev (fun _ _ _ h => h) mix Tryz.func103 rfl rfl (by kernel_rfl) (Nat.le_of_ble_eq_true rfl) ?_
    repeat' (first|(with_reducible first|refine zA ?_|refine zB ?_|refine zC ?_|refine zD ?_|refine zE ?_|refine zF ?_|refine zG ?_|refine zH ?_|refine zI ?_|refine zJ ?_|refine zK ?_|refine zL ?_)|(with_reducible refine reg_i ?_;intro K hK)|(with_reducible refine drw_i ?_;intro K hK)|((with_reducible refine cond_t ?hc ?_);(case hc=>rfl))|((with_reducible refine cond_f ?hc ?_);(case hc=>rfl))|((with_reducible refine cond_m ?_);refine And.intro ?_ ?_;all_goals(intro hb;(try simp only [sn,sb] at hb);try exact ex0))|(refine hK _ ?_;clear hK K)|(refine hK _ _ rfl ?_;clear hK K)|(have hg:=hK;clear hg;first|(refine And.intro ?zz ?_;case zz=>first|exact rfl|exact zO rfl|omega|exact gI)|(refine fresh_c 0 rfl ?_)|(refine fresh_c 1 rfl ?_)|(refine freshO_n ?_)|(refine at_Q ?_;intro hu)|(refine zP wA ?_)|(refine mul_Q ?_;intro hm1 hm2)|(refine zP at_M ?_)|(refine zP rfl ?_)|(refine Or.inr (objs_cu (Norm_okA m (by omega)) ?_))|(refine And.intro ?_ ?_;all_goals(intro hb;(try simp only [sn,sb] at hb);try exact ex0))|(intro b0 hb)))
    exact ret_cellO (l := [.con (.bool false), .own 1 0 0 (norm m).length]) (fun _ => 1) rfl tk39 rfl (Nat.zero_lt_succ _) rfl rfl (ren_obN (ver := 0) rfl) (ren_agg2 (.con _) (RenC.own 0 0 0 _ _ rfl rfl rfl))
  | true =>
    refine oko_of_ev (fun _ _ _ h => h) mix Tryz.func103 rfl rfl (by kernel_rfl) (Nat.le_of_ble_eq_true rfl) ?_
    repeat' (first|(with_reducible first|refine zA ?_|refine zB ?_|refine zC ?_|refine zD ?_|refine zE ?_|refine zF ?_|refine zG ?_|refine zH ?_|refine zI ?_|refine zJ ?_|refine zK ?_|refine zL ?_)|(with_reducible refine reg_i ?_;intro K hK)|(with_reducible refine drw_i ?_;intro K hK)|((with_reducible refine cond_t ?hc ?_);(case hc=>rfl))|((with_reducible refine cond_f ?hc ?_);(case hc=>rfl))|((with_reducible refine cond_m ?_);refine And.intro ?_ ?_;all_goals(intro hb;(try simp only [sn,sb] at hb);try exact ex0))|(refine hK _ ?_;clear hK K)|(refine hK _ _ rfl ?_;clear hK K)|(have hg:=hK;clear hg;first|(refine And.intro ?zz ?_;case zz=>first|exact rfl|exact zO rfl|omega|exact gI)|(refine fresh_c 0 rfl ?_)|(refine fresh_c 1 rfl ?_)|(refine freshO_n ?_)|(refine at_Q ?_;intro hu)|(refine zP wA ?_)|(refine mul_Q ?_;intro hm1 hm2)|(refine zP at_M ?_)|(refine zP rfl ?_)|(refine Or.inr (objs_cu (Norm_okA m (by omega)) ?_))|(refine And.intro ?_ ?_;all_goals(intro hb;(try simp only [sn,sb] at hb);try exact ex0))|(intro b0 hb)))
    have e : decide (((norm m).length : Int) > 0) = decide (norm m ≠ []) := by
      cases norm m with
      | nil => rfl
      | cons a l => exact (decide_eq_true (by simp)).trans (decide_eq_true (by simp)).symm
    exact ret_cellO (l := [.con (.bool (decide (((norm m).length : Int) > 0))), .own 1 0 0 (norm m).length]) (fun _ => 1) rfl tk39 rfl (Nat.zero_lt_succ _) rfl rfl (ren_obN (ver := 0) rfl) (ren_agg2 (by rw [e]; exact .con _) (RenC.own 0 0 0 _ _ rfl rfl rfl))
theorem wNorm_okA (n : Bool) (m : List UInt32) (hm : m.length ≤ 2199023255552) : OkO Tryz.prog 85 [tI n m] [(0, obN (norm m))] (.agg [.con (.bool (n && decide (norm m ≠ []))), .own 0 0 0 (norm m).length]) := by
  refine oko_of_ev (fun _ _ _ h => h) mix Tryz.func85 rfl rfl (by kernel_rfl) (Nat.le_of_ble_eq_true rfl) ?_
  repeat' (first|(with_reducible first|refine zA ?_|refine zB ?_|refine zC ?_|refine zD ?_|refine zE ?_|refine zF ?_|refine zG ?_|refine zH ?_|refine zI ?_|refine zJ ?_|refine zK ?_|refine zL ?_)|(with_reducible refine reg_i ?_;intro K hK)|(with_reducible refine drw_i ?_;intro K hK)|((with_reducible refine cond_t ?hc ?_);(case hc=>rfl))|((with_reducible refine cond_f ?hc ?_);(case hc=>rfl))|((with_reducible refine cond_m ?_);refine And.intro ?_ ?_;all_goals(intro hb;(try simp only [sn,sb] at hb);try exact ex0))|(refine hK _ ?_;clear hK K)|(refine hK _ _ rfl ?_;clear hK K)|(have hg:=hK;clear hg;first|(refine And.intro ?zz ?_;case zz=>first|exact rfl|exact zO rfl|omega|exact gI)|(refine fresh_c 0 rfl ?_)|(refine fresh_c 1 rfl ?_)|(refine freshO_d 2 rfl ?_)|(refine freshO_n ?_)|(refine at_Q ?_;intro hu)|(refine zP wA ?_)|(refine mul_Q ?_;intro hm1 hm2)|(refine zP at_M ?_)|(refine zP rfl ?_)|(refine Or.inr (Exists.intro _ (Exists.intro _ (And.intro (of_okA n m hm) ?_))))|(refine And.intro ?_ ?_;all_goals(intro hb;(try simp only [sn,sb] at hb);try exact ex0))|(intro b0 hb)))
  exact ret_cellO (l := [.con (.bool (n && decide (norm m ≠ []))), .own 2 0 0 (norm m).length]) (fun _ => 2) rfl tk39 rfl (Nat.zero_lt_succ _) rfl rfl (ren_obN (ver := 0) (congrArg some (sh_obN 2 (norm m)))) (ren_agg2 (.con _) (RenC.own 0 0 0 _ _ (congrArg some (sh_obN 2 (norm m))) rfl rfl))
theorem DivMod_okA (a b : List UInt32) (ha : a.length ≤ 2147483648) (hb9 : b.length ≤ 2147483648) (h0 : val b ≠ 0) : OkO Tryz.prog 84 [tn a, tn b] [(0, obN (lm (val a / val b)))] (.tup [.own 0 0 0 (lm (val a / val b)).length, .ro true (tn (lm (val a % val b))), .con (.int .i64 0)]) := by
  rcases Nat.lt_or_ge (val a) (val b) with hlt | h
  · have hna := norm_le a
    have hnb := norm_le b
    have hva := val_norm a
    have hvb := val_norm b
    have e1 : lm (val a / val b) = [] := by rw [Nat.div_eq_of_lt hlt]; exact (lm_nil_iff 0).2 rfl
    rw [e1, Nat.mod_eq_of_lt hlt]
    rw [← hva] at hlt ⊢
    rw [← hvb] at hlt
    refine oko_of_ev (fun _ _ _ h => h) mix Tryz.func84 rfl rfl (by kernel_rfl) (Nat.le_of_ble_eq_true rfl) ?_
    repeat' (first|(with_reducible first|refine zA ?_|refine zB ?_|refine zC ?_|refine zD ?_|refine zE ?_|refine zF ?_|refine zG ?_|refine zH ?_|refine zI ?_|refine zJ ?_|refine zK ?_|refine zL ?_)|(with_reducible refine reg_i ?_;intro K hK)|(with_reducible refine drw_i ?_;intro K hK)|((with_reducible refine cond_t ?hc ?_);(case hc=>rfl))|((with_reducible refine cond_f ?hc ?_);(case hc=>rfl))|((with_reducible refine cond_m ?_);refine And.intro ?_ ?_;all_goals(intro hb;(try simp only [sn,sb] at hb);try exact ex0))|(refine hK _ ?_;clear hK K)|(refine hK _ _ rfl ?_;clear hK K)|(have hg:=hK;clear hg;first|(refine And.intro ?zz ?_;case zz=>first|exact rfl|exact zO rfl|omega|exact gI)|(refine fresh_c 0 rfl ?_)|(refine fresh_c 1 rfl ?_)|(refine fresh_c 2 rfl ?_)|(refine freshO_n ?_)|(refine at_Q ?_;intro hu)|(refine zP wA ?_)|(refine mul_Q ?_;intro hm1 hm2)|(refine zP at_M ?_)|(refine zP rfl ?_)|(refine zQ (trim_ok a (by omega)) ?_)|(refine zQ (trim_ok b (by omega)) ?_)|(refine And.intro ?_ ?_;all_goals(intro hb;(try simp only [sn,sb] at hb);try exact ex0))|(intro b0 hb)))
    · exfalso
      have h9 : norm b = [] := List.eq_nil_of_length_eq_zero (by omega)
      rw [h9] at hvb
      exact h0 (by rw [← hvb]; rfl)
    generalize norm a = x at *
    generalize norm b = y at *
    clear hva hvb
    have hc0 : cmpN (val x) (val y) < 0 := by unfold cmpN; simp [hlt]
    repeat' (first|(with_reducible first|refine zA ?_|refine zB ?_|refine zC ?_|refine zD ?_|refine zE ?_|refine zF ?_|refine zG ?_|refine zH ?_|refine zI ?_|refine zJ ?_|refine zK ?_|refine zL ?_)|(with_reducible refine reg_i ?_;intro K hK)|(with_reducible refine drw_i ?_;intro K hK)|((with_reducible refine cond_t ?hc ?_);(case hc=>rfl))|((with_reducible refine cond_f ?hc ?_);(case hc=>rfl))|((with_reducible refine cond_m ?_);refine And.intro ?_ ?_;all_goals(intro hb;(try simp only [sn,sb] at hb);try exact ex0))|(refine hK _ ?_;clear hK K)|(refine hK _ _ rfl ?_;clear hK K)|(have hg:=hK;clear hg;first|(refine And.intro ?zz ?_;case zz=>first|exact rfl|exact zO rfl|omega|exact gI)|(refine fresh_c 0 rfl ?_)|(refine fresh_c 1 rfl ?_)|(refine fresh_c 2 rfl ?_)|(refine freshO_n ?_)|(refine at_Q ?_;intro hu)|(refine zP wA ?_)|(refine mul_Q ?_;intro hm1 hm2)|(refine zP at_M ?_)|(refine zP rfl ?_)|(refine zQ (Cmp_ok x y (by omega) (by omega)) ?_)|(refine zQ (own_ok x (by omega)) ?_)|(refine And.intro ?_ ?_;all_goals(intro hb;(try simp only [sn,sb] at hb);try exact ex0))|(intro b0 hb)))
    rw [← norm_lm]
    exact retO_emp3 rfl rfl rfl rfl rfl (by decide) (by decide) (by decide)
  · exact DivMod_okO a b ha hb9 h0 h
theorem lowest_okO (n : Bool) (a d : List UInt32) (hd : val d ≠ 0) (ha : a.length ≤ 2147483648) (hl : d.length ≤ 2147483648) : OkO Tryz.prog 57 [.con (.bool n), tn a, tn d] (oQ (iv n a) (val d)) (vQ 0 1 (iv n a) (val d)) := by
  have hg0 : Nat.gcd (val a) (val d) ≠ 0 := fun h => hd (Nat.eq_zero_of_gcd_eq_zero_right h)
  have hgd : Nat.gcd (val a) (val d) ≤ val d := Nat.le_of_dvd (Nat.pos_of_ne_zero hd) (Nat.gcd_dvd_right _ _)
  have hgl := lm_len_le hgd
  have hdl := lm_val_len d
  have hal := lm_val_len a
  have h1 := GcdN_ok a d ha hl
  have h2 := DivMod_ok a (lm (Nat.gcd (val a) (val d))) ha (by omega) (by rw [val_lm]; exact hg0)
  have h3 := DivMod_okA d (lm (Nat.gcd (val a) (val d))) hl (by omega) (by rw [val_lm]; exact hg0)
  rw [val_lm] at h2 h3
  have hm := lm_len_le (Nat.div_le_self (val a) (Nat.gcd (val a) (val d)))
  have h4 := wNorm_okA n (lm (val a / Nat.gcd (val a) (val d))) (by omega)
  have en : norm (lm (val a / Nat.gcd (val a) (val d))) = lm (val a / Nat.gcd (val a) (val d)) := by rw [norm_lm, val_lm]
  have e0 : qz (iv n a) (val d) = iv n (lm (val a / Nat.gcd (val a) (val d))) := by
    unfold qz
    rw [iv_abs, iv_div, iv_lm]
  have e1 : lm (qz (iv n a) (val d)).natAbs = lm (val a / Nat.gcd (val a) (val d)) := by rw [e0, iv_abs, val_lm]
  have e2 : qd (iv n a) (val d) = val d / Nat.gcd (val a) (val d) := by unfold qd; rw [iv_abs]
  have e4 : ∀ (n : Bool) (w : Nat), (n && decide (lm w ≠ [])) = decide (iv n (lm w) < 0) := by
    intro n w
    have e5 : decide (lm w ≠ []) = decide (w ≠ 0) := decide_eq_decide.2 (not_congr (lm_nil_iff w))
    rw [e5]
    unfold iv
    rw [val_lm]
    by_cases hw : w = 0
    · subst hw; cases n <;> rfl
    · cases n with
      | false => exact (decide_eq_false (by simp)).symm
      | true => rw [decide_eq_true hw]; exact (decide_eq_true (by simp; omega)).symm
  have e3 : (n && decide (norm (lm (val a / Nat.gcd (val a) (val d))) ≠ [])) = decide (qz (iv n a) (val d) < 0) := by
    rw [en, e0]
    exact e4 n _
  rw [e3, en] at h4
  have h4 : OkO Tryz.prog 85 [tI n (lm (val a / Nat.gcd (val a) (val d)))] [(0, obN (lm (qz (iv n a) (val d)).natAbs))] (.agg [.con (.bool (decide (qz (iv n a) (val d) < 0))), .own 0 0 0 (lm (qz (iv n a) (val d)).natAbs).length]) := by
    rw [e1]; exact h4
  rw [← e2] at h3
  refine oko_of_ev (fun _ _ _ h => h) mix Tryz.func57 rfl rfl (by kernel_rfl) (Nat.le_of_ble_eq_true rfl) ?_
  repeat' (first|(with_reducible first|refine zA ?_|refine zB ?_|refine zC ?_|refine zD ?_|refine zE ?_|refine zF ?_|refine zG ?_|refine zH ?_|refine zI ?_|refine zJ ?_|refine zK ?_|refine zL ?_)|(with_reducible refine reg_i ?_;intro K hK)|(with_reducible refine drw_i ?_;intro K hK)|((with_reducible refine cond_t ?hc ?_);(case hc=>rfl))|((with_reducible refine cond_f ?hc ?_);(case hc=>rfl))|((with_reducible refine cond_m ?_);refine And.intro ?_ ?_;all_goals(intro hb;(try simp only [sn,sb] at hb);try exact ex0))|(refine hK _ ?_;clear hK K)|(refine hK _ _ rfl ?_;clear hK K)|(have hg:=hK;clear hg;first|(refine And.intro ?zz ?_;case zz=>first|exact rfl|exact zO rfl|omega|exact gI)|(refine fresh_c 0 rfl ?_)|(refine freshO_d 1 rfl ?_)|(refine freshO_d 2 rfl ?_)|(refine freshO_n ?_)|(refine at_Q ?_;intro hu)|(refine zP wA ?_)|(refine mul_Q ?_;intro hm1 hm2)|(refine zP at_M ?_)|(refine zP rfl ?_)|(refine zQ (h1) ?_)|(refine zQ (h2) ?_)|(refine Or.inr (Exists.intro _ (Exists.intro _ (And.intro (h3) ?_))))|(refine Or.inr (Exists.intro _ (Exists.intro _ (And.intro (h4) ?_))))|(refine And.intro ?_ ?_;all_goals(intro hb;(try simp only [sn,sb] at hb);try exact ex0))|(intro b0 hb)))
  refine ret_cellO (l := [.con (.bool (decide (qz (iv n a) (val d) < 0))), .own 2 0 0 (lm (qz (iv n a) (val d)).natAbs).length, .own 1 0 0 (lm (qd (iv n a) (val d))).length]) (fun k => if k = 0 then 2 else 1) rfl tk41 rfl (Nat.zero_lt_succ _) rfl rfl ?_ ?_
  · exact ren_two (v := 0) (w := 0) (by decide) (congrArg some (sh_obN 2 _)) (congrArg some (sh_obN 1 _))
  · exact ren_q rfl rfl rfl rfl
theorem MulR_okO (n k : Bool) (a p b q : List UInt32) (ha : a.length ≤ 268435456) (hp : p.length ≤ 268435456) (hb9 : b.length ≤ 268435456) (hq : q.length ≤ 268435456) :
    OkO Tryz.prog 33 [tR n a p, tR k b q] (oQ (iv n a * iv k b) (denv p * denv q)) (vQ 0 1 (iv n a * iv k b) (denv p * denv q)) := by
  have h1 := lm_den_len p
  have h2 := lm_den_len q
  have hl := lm_mul_len a b
  have h4 := Mul_ok (lm (denv p)) (lm (denv q)) (by omega) (by omega)
  have h5 := lm_mul_len (lm (denv p)) (lm (denv q))
  rw [val_lm, val_lm] at h4 h5
  have h6 := lowest_okO (n != k) (lm (val a * val b)) (lm (denv p * denv q)) (by rw [val_lm]; exact Nat.mul_ne_zero (denv_pos p) (denv_pos q)) (by omega) (by omega)
  rw [iv_mul, val_lm] at h6
  refine oko_of_ev (fun _ _ _ h => h) mix Tryz.func33 rfl rfl (by kernel_rfl) (Nat.le_of_ble_eq_true rfl) ?_
  repeat' (first|(with_reducible first|refine zA ?_|refine zB ?_|refine zC ?_|refine zD ?_|refine zE ?_|refine zF ?_|refine zG ?_|refine zH ?_|refine zI ?_|refine zJ ?_|refine zK ?_|refine zL ?_)|(with_reducible refine reg_i ?_;intro K hK)|(with_reducible refine drw_i ?_;intro K hK)|((with_reducible refine cond_t ?hc ?_);(case hc=>rfl))|((with_reducible refine cond_f ?hc ?_);(case hc=>rfl))|((with_reducible refine cond_m ?_);refine And.intro ?_ ?_;all_goals(intro hb;(try simp only [sn,sb] at hb);try exact ex0))|(refine hK _ ?_;clear hK K)|(refine hK _ _ rfl ?_;clear hK K)|(have hg:=hK;clear hg;first|(refine And.intro ?zz ?_;case zz=>first|exact rfl|exact zO rfl|omega|exact gI)|(refine fresh_c 0 rfl ?_)|(refine fresh_c 1 rfl ?_)|(refine fresh_c 2 rfl ?_)|(refine freshO_n ?_)|(refine at_Q ?_;intro hu)|(refine zP wA ?_)|(refine mul_Q ?_;intro hm1 hm2)|(refine zP at_M ?_)|(refine zP rfl ?_)|(refine zQ (under_ok n a p (by omega)) ?_)|(refine zQ (under_ok k b q (by omega)) ?_)|(refine zQ (Mul_ok a b (by omega) (by omega)) ?_)|(refine zQ (h4) ?_)|(refine' Or.inr (objs_2 (h6) 3 ?o2a ?o2b ?_);(case o2a=>exact rfl);(case o2b=>exact rfl))|(refine And.intro ?_ ?_;all_goals(intro hb;(try simp only [sn,sb] at hb);try exact ex0))|(intro b0 hb)))
  exact ret_cellO (l := [V.con (.bool (decide (qz (iv n a * iv k b) (denv p * denv q) < 0))), .own 3 0 0 _, .own 4 0 0 _]) (fun k => if k = 0 then 3 else 4) rfl tk41 rfl (Nat.zero_lt_succ _) rfl rfl (ren_two (v := 0) (w := 0) (by decide) rfl rfl) (ren_q rfl rfl rfl rfl)
theorem ret2O {fn : Func} {P : Program} {s : St} {oh1 : OH} {a t b id ver sz : Nat} {l : List V} {fs : List (Nat × Nat)} {z : List Value} {r : V} {n : Int} (m : Nat → Nat) (hr : fn.results.toList = [.cell a t, .tmp b]) (ht : tk P t = .st fs z) (hz : z.length = l.length) (h0 : 0 < l.length)
    (ha : eget s.env a = .ref id ver 0 0) (ho : oget s.oh id = some ⟨sz, [.agg l], ver, true⟩) (hb : eget s.env b = .con (.int .i64 n)) (hn : Ren s.oh oh1 m) (hf : RenA m s.oh oh1 (.agg l) r) : RetO P fn oh1 (.tup [r, .con (.int .i64 n)]) .ret s := by
  refine ⟨trivial, false, s, m, rfl, hn, ?_⟩
  rw [hr]
  show sload (tk P t) s.oh (eget s.env a) _
  rw [ha, ht]
  show use s.oh id ver _
  unfold use
  rw [ho]
  refine ⟨rfl, rfl, .agg l, rfl, by simp only [TK.size]; omega, by simp only [TK.size, V.cells]; omega, ?_⟩
  show ∃ r1 r2, _ ∧ RenA m s.oh oh1 (V.ofCells true ((l.drop 0).take z.length)) r1 ∧ RenA m s.oh oh1 (eget s.env b) r2
  rw [List.drop_zero, hz, List.take_length, hb]
  exact ⟨_, _, rfl, hf, .con _⟩
theorem New_okO (n k : Bool) (a d : List UInt32) (hd : val d ≠ 0) (ha : a.length ≤ 2147483648) (hl : d.length ≤ 2147483648) : OkO Tryz.prog 81 [tI n a, tI k d] (oQ (iv (n != k) a) (val d)) (.tup [vQ 0 1 (iv (n != k) a) (val d), .con (.int .i64 0)]) := by
  have hs : signZ (iv k d) ≠ 0 := fun h => iv_ne0 hd (signZ_eq0.1 h)
  refine oko_of_ev (fun _ _ _ h => h) mix Tryz.func81 rfl rfl (by kernel_rfl) (Nat.le_of_ble_eq_true rfl) ?_
  repeat' (first|(with_reducible first|refine zA ?_|refine zB ?_|refine zC ?_|refine zD ?_|refine zE ?_|refine zF ?_|refine zG ?_|refine zH ?_|refine zI ?_|refine zJ ?_|refine zK ?_|refine zL ?_)|(with_reducible refine reg_i ?_;intro K hK)|(with_reducible refine drw_i ?_;intro K hK)|((with_reducible refine cond_t ?hc ?_);(case hc=>rfl))|((with_reducible refine cond_f ?hc ?_);(case hc=>rfl))|((with_reducible refine cond_m ?_);refine And.intro ?_ ?_;all_goals(intro hb;(try simp only [sn,sb] at hb);try exact ex0))|(refine hK _ ?_;clear hK K)|(refine hK _ _ rfl ?_;clear hK K)|(have hg:=hK;clear hg;first|(refine And.intro ?zz ?_;case zz=>first|exact rfl|exact zO rfl|omega|exact gI)|(refine fresh_c 0 rfl ?_)|(refine fresh_c 1 rfl ?_)|(refine fresh_c 2 rfl ?_)|(refine freshO_n ?_)|(refine at_Q ?_;intro hu)|(refine zP wA ?_)|(refine mul_Q ?_;intro hm1 hm2)|(refine zP at_M ?_)|(refine zP rfl ?_)|(refine zQ (Sign_ok k d (by omega)) ?_)|(refine' Or.inr (objs_2 (lowest_okO (n != k) a d hd ha hl) 3 ?o2a ?o2b ?_);(case o2a=>exact rfl);(case o2b=>exact rfl))|(refine And.intro ?_ ?_;all_goals(intro hb;(try simp only [sn,sb] at hb);try exact ex0))|(intro b0 hb)))
  exact ret2O (l := [V.con (.bool (decide (qz (iv (n != k) a) (val d) < 0))), .own 3 0 0 _, .own 4 0 0 _]) (fun k => if k = 0 then 3 else 4) rfl tk41 rfl (Nat.zero_lt_succ _) rfl rfl rfl (ren_two (v := 0) (w := 0) (by decide) rfl rfl) (ren_q rfl rfl rfl rfl)
theorem OfQ1_okO : OkO Tryz.prog 56 [.con (.int .i64 1), .con (.int .i64 1)] (oQ 1 1) (.tup [vQ 0 1 1 1, .con (.int .i64 0)]) := by
  have h := New_okO (decide ((1 : Int) < 0)) (decide ((1 : Int) < 0)) (lm (1 : Int).natAbs) (lm (1 : Int).natAbs) (by rw [val_lm]; decide) (Nat.le_trans (lm_small (by decide)) (by decide)) (Nat.le_trans (lm_small (by decide)) (by decide))
  rw [val_lm, show iv (decide ((1 : Int) < 0) != decide ((1 : Int) < 0)) (lm (1 : Int).natAbs) = 1 from iv_flm 1] at h
  refine oko_of_ev (fun _ _ _ h => h) mix Tryz.func56 rfl rfl (by kernel_rfl) (Nat.le_of_ble_eq_true rfl) ?_
  repeat' (first|(with_reducible first|refine zA ?_|refine zB ?_|refine zC ?_|refine zD ?_|refine zE ?_|refine zF ?_|refine zG ?_|refine zH ?_|refine zI ?_|refine zJ ?_|refine zK ?_|refine zL ?_)|(with_reducible refine reg_i ?_;intro K hK)|(with_reducible refine drw_i ?_;intro K hK)|((with_reducible refine cond_t ?hc ?_);(case hc=>rfl))|((with_reducible refine cond_f ?hc ?_);(case hc=>rfl))|((with_reducible refine cond_m ?_);refine And.intro ?_ ?_;all_goals(intro hb;(try simp only [sn,sb] at hb);try exact ex0))|(refine hK _ ?_;clear hK K)|(refine hK _ _ rfl ?_;clear hK K)|(have hg:=hK;clear hg;first|(refine And.intro ?zz ?_;case zz=>first|exact rfl|exact zO rfl|omega|exact gI)|(refine fresh_c 0 rfl ?_)|(refine freshO_n ?_)|(refine at_Q ?_;intro hu)|(refine zP wA ?_)|(refine mul_Q ?_;intro hm1 hm2)|(refine zP at_M ?_)|(refine zP rfl ?_)|(refine zQ (wOf1_ok) ?_)|(refine' Or.inr (objs_2 (h) 1 ?o2a ?o2b ?_);(case o2a=>exact rfl);(case o2b=>exact rfl))|(refine And.intro ?_ ?_;all_goals(intro hb;(try simp only [sn,sb] at hb);try exact ex0))|(intro b0 hb)))
  exact ret2O (l := [V.con (.bool (decide (qz 1 1 < 0))), .own 1 0 0 _, .own 2 0 0 _]) (fun k => if k = 0 then 1 else 2) rfl tk41 rfl (Nat.zero_lt_succ _) rfl rfl rfl (ren_two (v := 0) (w := 0) (by decide) rfl rfl) (ren_q rfl rfl rfl rfl)
theorem one_okO : OkO Tryz.prog 32 [] (oQ 1 1) (vQ 0 1 1 1) := by
  refine oko_of_ev (fun _ _ _ h => h) mix Tryz.func32 rfl rfl (by kernel_rfl) (Nat.le_of_ble_eq_true rfl) ?_
  repeat' (first|(with_reducible first|refine zA ?_|refine zB ?_|refine zC ?_|refine zD ?_|refine zE ?_|refine zF ?_|refine zG ?_|refine zH ?_|refine zI ?_|refine zJ ?_|refine zK ?_|refine zL ?_)|(with_reducible refine reg_i ?_;intro K hK)|(with_reducible refine drw_i ?_;intro K hK)|((with_reducible refine cond_t ?hc ?_);(case hc=>rfl))|((with_reducible refine cond_f ?hc ?_);(case hc=>rfl))|((with_reducible refine cond_m ?_);refine And.intro ?_ ?_;all_goals(intro hb;(try simp only [sn,sb] at hb);try exact ex0))|(refine hK _ ?_;clear hK K)|(refine hK _ _ rfl ?_;clear hK K)|(have hg:=hK;clear hg;first|(refine And.intro ?zz ?_;case zz=>first|exact rfl|exact zO rfl|omega|exact gI)|(refine fresh_c 0 rfl ?_)|(refine fresh_c 3 rfl ?_)|(refine freshO_n ?_)|(refine at_Q ?_;intro hu)|(refine zP wA ?_)|(refine mul_Q ?_;intro hm1 hm2)|(refine zP at_M ?_)|(refine zP rfl ?_)|(refine' Or.inr (objs_2 (OfQ1_okO) 1 ?o2a ?o2b ?_);(case o2a=>exact rfl);(case o2b=>exact rfl))|(refine And.intro ?_ ?_;all_goals(intro hb;(try simp only [sn,sb] at hb);try exact ex0))|(intro b0 hb)))
  exact ret_cellO (l := [V.con (.bool (decide (qz 1 1 < 0))), .own 1 0 0 _, .own 2 0 0 _]) (fun k => if k = 0 then 1 else 2) rfl tk41 rfl (Nat.zero_lt_succ _) rfl rfl (ren_two (v := 0) (w := 0) (by decide) rfl rfl) (ren_q rfl rfl rfl rfl)
end Go.Ev
