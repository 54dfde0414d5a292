import Derived.Test.YtekgeekghclfaaaGreatDagp
import Derived.Test.YtekgeekghclfaaaGreatNatG
set_option linter.all false
namespace Go.Ev
open Go.Proofs
set_option maxRecDepth 10000
set_option maxHeartbeats 4000000
set_option linter.unusedSimpArgs false
set_option linter.unusedVariables false
theorem oget_two {i : Nat} {a b o : Obj} (h : oget [(0, a), (1, b)] i = some o) : (i = 0 ∧ o = a) ∨ (i = 1 ∧ o = b) := by
  simp only [oget] at h
  split at h
  · rename_i e; cases h; exact .inl ⟨e.symm, rfl⟩
  · split at h
    · rename_i e; cases h; exact .inr ⟨e.symm, rfl⟩
    · cases h
def hpO (n : Nat) (E : List Int) (v : Nat) : OH := [(0, ⟨1, [.own 1 v 0 n], 0, true⟩), (1, ⟨1, E.map ci, v, true⟩)]
theorem hp_cl0 (n v : Nat) (oh : OH) (h : (oget oh 1).isSome = true) : ∀ u ∈ [V.own 1 v 0 n], u.cl oh := by
  intro u hu
  obtain rfl := List.mem_singleton.1 hu
  exact h
theorem ci_cl (E : List Int) (oh : OH) : ∀ u ∈ E.map ci, u.cl oh := by
  intro u hu
  obtain ⟨x, -, rfl⟩ := List.mem_map.1 hu
  trivial
theorem hp_wf (n : Nat) (E : List Int) : ∀ i o, oget (hpO n E 0) i = some o → o.ver = 0 ∧ o.live = true ∧ ∀ v ∈ o.el, v.cl (hpO n E 0) := by
  intro i o h
  rcases oget_two h with ⟨rfl, rfl⟩ | ⟨rfl, rfl⟩
  · exact ⟨rfl, rfl, hp_cl0 _ _ _ rfl⟩
  · exact ⟨rfl, rfl, ci_cl _ _⟩
theorem hp_po (n m v : Nat) (E F : List Int) {nw : List Nat} : ∀ i o, oget (hpO n E v) i = some o → (oget (hpO m F 0) i).isSome = true ∨ i ∈ nw := by
  intro i o h
  rcases oget_two h with ⟨rfl, rfl⟩ | ⟨rfl, rfl⟩ <;> exact .inl rfl
theorem hp_after {n m v : Nat} {E F : List Int} {i : Nat} {o : Obj} (h : oget (hpO n E v ++ hpO m F 0) i = some o) : oget (hpO n E v) i = some o := by
  by_cases h0 : i = 0
  · subst h0; exact h
  · by_cases h1 : i = 1
    · subst h1; exact h
    · rw [show hpO n E v ++ hpO m F 0 = [(0, _), (1, _), (0, _), (1, _)] from rfl, oget, if_neg (Ne.symm h0), oget, if_neg (Ne.symm h1), oget, if_neg (Ne.symm h0), oget, if_neg (Ne.symm h1)] at h
      cases h
theorem hp_le (n m v : Nat) (E F : List Int) : ∀ i o o', oget (hpO n E 0) i = some o → oget (hpO m F (v + 1) ++ hpO n E 0) i = some o' → o'.ver = 0 → o'.live = true → o'.sz = o.sz ∧ o.el.length ≤ o'.el.length := by
  intro i o o' h1 h2 h3 h4
  rcases oget_two (hp_after h2) with ⟨rfl, rfl⟩ | ⟨rfl, rfl⟩
  · cases h1; exact ⟨rfl, Nat.le_refl _⟩
  · cases h3
theorem hp_end {s : St} {n m v : Nat} {E F : List Int} (h0 : oget s.oh 0 = some ⟨1, [.own 1 v 0 m], 0, true⟩) (h1 : oget s.oh 1 = some ⟨1, F.map ci, v, true⟩) : Bm s.oh (hpO m F 1 ++ hpO n E 0) := by
  intro i o h
  rcases oget_two (hp_after h) with ⟨rfl, rfl⟩ | ⟨rfl, rfl⟩
  · refine ⟨_, h0, rfl, rfl, rfl, rfl, fun k e e1 he he1 => ?_⟩
    cases k with
    | zero =>
      cases he; cases he1
      exact BmC.own 1 _ _ 0 _ _ _ h1 rfl (by rfl) rfl
    | succ k => simp at he
  · refine ⟨_, h1, rfl, rfl, rfl, rfl, fun k e e1 he he1 => ?_⟩
    rw [he] at he1; cases he1
    simp only [List.getElem?_map] at he
    obtain ⟨x, -, rfl⟩ := Option.map_eq_some_iff.1 he
    exact BmC.con _
theorem hp_pin {s : St} {vs : List V} {n m v np : Nat} {E F : List Int} (hs : oget s.oh 0 = some ⟨1, [.own 1 v 0 m], 0, true⟩) (hnp : 0 < np) (hv : vs[0]? = some (.ref 0 0 0 0)) (he : eget s.env 0 = .ref 0 0 0 0) :
    ∀ i o o', oget (hpO n E 0) i = some o → oget (hpO m F 1 ++ hpO n E 0) i = some o' → o'.ver = 0 → PinG np vs s i o := by
  intro i o o' h1 h2 h3
  rcases oget_two (hp_after h2) with ⟨rfl, rfl⟩ | ⟨rfl, rfl⟩
  · cases h1
    exact ⟨Nat.zero_lt_one, ⟨_, hs, rfl, rfl, rfl⟩, 0, _, hnp, hv, he, ⟨rfl, rfl⟩⟩
  · cases h3
theorem quoH {i : Nat} (h : 0 < i) (hb : i ≤ 4611686018427387904) : (((i - 1) / 2 : Nat) : Int) = IntKind.i64.wrap (((i : Int) - 1).tdiv 2) := by
  have e : ((i : Int) - 1).tdiv 2 = (((i - 1) / 2 : Nat) : Int) := by
    rw [show ((i : Int) - 1) = ((i - 1 : Nat) : Int) by omega]; rfl
  rw [e]
  exact wrapAny (by simp only [kmin]; omega) (by simp only [kmax]; omega)
theorem at_setc {l : List Int} {a i : Nat} {v : Int} (h : i < l.length) : ((l.map ci).set a (ci v))[i]? = some (ci ((l.set a v).getD i default)) := by
  rw [← List.map_set]; exact at_map (by rw [List.length_set]; exact h)
theorem swap_el (l : List Int) (i j : Nat) : ((l.map ci).set i (ci (l.getD j default))).set j (ci (l.getD i default)) = (swapL l i j).map ci := by
  unfold swapL; rw [List.map_set, List.map_set]; rfl
theorem push_ok (h : HS) (hl : h.len ≤ h.E.length) (hb : h.len ≤ 1073741824) (x : Int) : OkG Tryz.prog 95 (hpO h.len h.E 0) [] [.ref 0 0 0 0, .con (.int .i64 x)] (hpO (kPush h x).len (kPush h x).E 1) (.tup []) := by
  refine okg_of_ev (fun _ _ _ h => h) mix 2 (Nat.le_of_ble_eq_true rfl) Tryz.func95 rfl rfl (by kernel_rfl) (by kernel_rfl) (Nat.le_of_ble_eq_true rfl) ?wf ?vs ?po ?le ?_
  case wf => exact hp_wf _ _
  case vs =>
    intro v hv
    simp at hv
    rcases hv with rfl | rfl
    · exact rfl
    · trivial
  case po => exact hp_po _ _ _ _ _
  case le => exact hp_le _ _ _ _ _
  have hw : ((h.len : Nat) : Int) = IntKind.i64.wrap (((h.len + 1 : Nat) : Int) - 1) := by
    rw [show ((h.len + 1 : Nat) : Int) - 1 = h.len by omega]
    exact wrapAny (by simp only [kmin]; omega) (by simp only [kmax]; omega)
  repeat' (first|(refine Exists.intro _ (And.intro hw ?_))|(with_reducible first|refine zA ?_|refine zB ?_|refine zC ?_|refine zD ?_|refine zE ?_|refine zF ?_|refine zG ?_|refine zH ?_|refine zI ?_|refine zJ ?_|refine zK ?_|refine zL ?_)|(with_reducible refine reg_i ?_;intro K hK)|(with_reducible refine drw_i ?_;intro K hK)|((with_reducible refine cond_t ?hc ?_);(case hc=>rfl))|((with_reducible refine cond_f ?hc ?_);(case hc=>rfl))|((with_reducible refine cond_m ?_);refine And.intro ?_ ?_;all_goals(intro hb;(try simp only [sn,sb] at hb);try exact ex0))|(refine hK _ ?_;clear hK K)|(refine hK _ _ rfl ?_;clear hK K)|(have hg:=hK;clear hg;first|(refine And.intro ?zz ?_;case zz=>first|exact rfl|exact zO rfl|omega|exact gJ)|(refine fresh_n ?_)|(refine freshO_n ?_)|(refine at_Q ?_;intro hu)|(refine zP wA ?_)|(refine mul_Q ?_;intro hm1 hm2)|(refine zP at_M ?_)|(refine zP rfl ?_)|(refine And.intro ?_ ?_;all_goals(intro hb;(try simp only [sn,sb] at hb);try exact ex0))|(intro b0 hb)))
  have hn1 : (h.E.take h.len ++ [x]).length = h.len + 1 := by rw [List.length_append, List.length_take, List.length_singleton]; omega
  refine loop_f (List Int × Nat) (fun z => ⟨Tryz.f95.ntmps, [(0, .ref 0 0 0 0), (4, .con (.int .i64 z.2))], [(0, ⟨1, [.own 1 1 0 (h.len + 1)], 0, true⟩), (1, ⟨1, z.1.map ci, 1, true⟩)]⟩)
    (fun z => siftUp z.1 z.2 = siftUp (h.E.take h.len ++ [x]) h.len ∧ z.1.length = h.len + 1 ∧ z.2 ≤ h.len) (fun z => z.2) (h.E.take h.len ++ [x], h.len) ⟨rfl, hn1, Nat.le_refl _⟩ (lf_of0 ?_ ?_) ?_
  · exact ⟨Lc.same _ rfl, Lc.same _ trivial, trivial⟩
  · refine ⟨lfOb_keep rfl ?_, lfOb_same ?_ (ci_flat _), trivial⟩
    · intro u hu
      obtain rfl := List.mem_singleton.1 hu
      exact Lc.same _ rfl
    · show some (⟨1, (h.E.map ci).take h.len ++ [ci x], 1, true⟩ : Obj) = some ⟨1, (h.E.take h.len ++ [x]).map ci, 1, true⟩
      rw [List.map_append, List.map_take]; rfl
  rintro ⟨l, i⟩ ⟨h0, h1, h2⟩
  dsimp only at h0 h1 h2
  by_cases hi : 0 < i
  · have hq := quoH hi (by omega)
    repeat' (first|(first | refine Exists.intro _ (And.intro hq ?_) | refine Exists.intro _ (And.intro (at_setc (by dsimp only; omega)) ?_))|(with_reducible first|refine zA ?_|refine zB ?_|refine zC ?_|refine zD ?_|refine zE ?_|refine zF ?_|refine zG ?_|refine zH ?_|refine zI ?_|refine zJ ?_|refine zK ?_|refine zL ?_)|(with_reducible refine reg_i ?_;intro K hK)|(with_reducible refine drw_i ?_;intro K hK)|((with_reducible refine cond_t ?hc ?_);(case hc=>rfl))|((with_reducible refine cond_f ?hc ?_);(case hc=>rfl))|((with_reducible refine cond_m ?_);refine And.intro ?_ ?_;all_goals(intro hb;(try simp only [sn,sb] at hb);try exact ex0))|(refine hK _ ?_;clear hK K)|(refine hK _ _ rfl ?_;clear hK K)|(have hg:=hK;clear hg;first|(refine And.intro ?zz ?_;case zz=>first|exact rfl|exact zO rfl|omega|exact gJ)|(refine fresh_n ?_)|(refine freshO_n ?_)|(refine at_Q ?_;intro hu)|(refine zP wA ?_)|(refine mul_Q ?_;intro hm1 hm2)|(refine zP at_M ?_)|(refine zP rfl ?_)|(refine And.intro ?_ ?_;all_goals(intro hb;(try simp only [sn,sb] at hb);try exact ex0))|(intro b0 hb)))
    · have hlt : 0 < i ∧ l.getD i 0 < l.getD ((i - 1) / 2) 0 := ⟨hi, (by simpa only [Nat.zero_add] using hb : l.getD i default < l.getD ((i - 1) / 2) default)⟩
      refine ⟨(swapL l i ((i - 1) / 2), (i - 1) / 2), ⟨?_, by rw [swapL_len]; exact h1, by show (i - 1) / 2 ≤ _; omega⟩, by show (i - 1) / 2 < i; omega, lf_of0 ?_ ?_⟩
      · rw [← h0]
        conv => rhs; rw [siftUp, if_pos hlt]
      · exact ⟨Lc.same _ rfl, Lc.same _ trivial, trivial⟩
      · refine ⟨lfOb_keep rfl ?_, lfOb_same ?_ (ci_flat _), trivial⟩
        · intro u hu
          obtain rfl := List.mem_singleton.1 hu
          exact Lc.same _ rfl
        · show some (⟨1, ((l.map ci).set (0 + i) (ci (l.getD (0 + (i - 1) / 2) default))).set (0 + (i - 1) / 2) (ci (l.getD (0 + i) default)), 1, true⟩ : Obj) = _
          rw [Nat.zero_add, Nat.zero_add, swap_el]
    · have hge : ¬ (0 < i ∧ l.getD i 0 < l.getD ((i - 1) / 2) 0) := fun h9 => by
        have h8 : l.getD ((i - 1) / 2) 0 ≤ l.getD i 0 := (by simpa only [Nat.zero_add] using hb : l.getD ((i - 1) / 2) default ≤ l.getD i default)
        omega
      rw [siftUp, if_neg hge] at h0
      have e : l = (kPush h x).E := h0
      subst e
      exact ⟨trivial, false, _, rfl, hp_pin rfl (by decide) rfl rfl, hp_end rfl rfl, rfl⟩
  · repeat' (first|(with_reducible first|refine zA ?_|refine zB ?_|refine zC ?_|refine zD ?_|refine zE ?_|refine zF ?_|refine zG ?_|refine zH ?_|refine zI ?_|refine zJ ?_|refine zK ?_|refine zL ?_)|(with_reducible refine reg_i ?_;intro K hK)|(with_reducible refine drw_i ?_;intro K hK)|((with_reducible refine cond_t ?hc ?_);(case hc=>rfl))|((with_reducible refine cond_f ?hc ?_);(case hc=>rfl))|((with_reducible refine cond_m ?_);refine And.intro ?_ ?_;all_goals(intro hb;(try simp only [sn,sb] at hb);try exact ex0))|(refine hK _ ?_;clear hK K)|(refine hK _ _ rfl ?_;clear hK K)|(have hg:=hK;clear hg;first|(refine And.intro ?zz ?_;case zz=>first|exact rfl|exact zO rfl|omega|exact gJ)|(refine fresh_n ?_)|(refine freshO_n ?_)|(refine at_Q ?_;intro hu)|(refine zP wA ?_)|(refine mul_Q ?_;intro hm1 hm2)|(refine zP at_M ?_)|(refine zP rfl ?_)|(refine And.intro ?_ ?_;all_goals(intro hb;(try simp only [sn,sb] at hb);try exact ex0))|(intro b0 hb)))
    have hge : ¬ (0 < i ∧ l.getD i 0 < l.getD ((i - 1) / 2) 0) := fun h9 => hi h9.1
    rw [siftUp, if_neg hge] at h0
    have e : l = (kPush h x).E := h0
    subst e
    exact ⟨trivial, false, _, rfl, hp_pin rfl (by decide) rfl rfl, hp_end rfl rfl, rfl⟩
end Go.Ev
