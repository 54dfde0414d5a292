import Derived.Test.YtekgeekghclfaaaGreatLeft
set_option linter.all false
namespace Go.Ev
open Go.Proofs
set_option maxRecDepth 10000
set_option maxHeartbeats 4000000
set_option linter.unusedSimpArgs false
set_option linter.unusedVariables false
theorem wfG_cu (l : List UInt32) : ∀ i o, oget [(0, (⟨1, l.map cu, 0, true⟩ : Obj))] i = some o → o.ver = 0 ∧ o.live = true ∧ ∀ v ∈ o.el, v.cl [(0, (⟨1, l.map cu, 0, true⟩ : Obj))] := by
  intro i o h
  obtain ⟨rfl, rfl⟩ := oget_one h
  refine ⟨rfl, rfl, fun v hv => ?_⟩
  obtain ⟨x, -, rfl⟩ := List.mem_map.1 hv
  trivial
theorem vsG_cu (l : List UInt32) (n : Nat) : ∀ v ∈ [V.own 0 0 0 n], v.cl [(0, (⟨1, l.map cu, 0, true⟩ : Obj))] := by
  intro v hv
  obtain rfl := List.mem_singleton.1 hv
  exact rfl
theorem objs_cu {C : CT} {q : FuncId} {ts : List T} {oh : OH} {l : List UInt32} {off len : Nat} {k : Acc → Prop} (hc : C q ts (.objs [(0, ⟨1, l.map cu, 0, true⟩)] (.own 0 0 off len)))
    (h : fresh oh fun c => k ⟨[], [c], [(c, ⟨1, l.map cu, 0, true⟩)], .own c 0 off len⟩) : ObjK C q ts oh k := by
  obtain ⟨c, h0, hk⟩ := h
  refine ⟨_, _, hc, c, fun i hi => ?_, ?_⟩
  · obtain rfl : i = 0 + c := by simpa [shO] using hi
    rw [Nat.zero_add]; exact h0
  · have e1 : (l.map cu).map (V.shA c) = l.map cu := by rw [List.map_map]; rfl
    show k ⟨[], [0 + c], [(0 + c, ⟨1, (l.map cu).map (V.shA c), 0, true⟩)], .own (0 + c) 0 off len⟩
    rw [e1, Nat.zero_add]; exact hk
theorem lendo_cu {C : CT} {q : FuncId} {ts : List T} {args : List V} {oh : OH} {l : List UInt32} {off len : Nat} {o : Obj} {k : Acc → Prop} (hc : C q ts (.objs [(0, ⟨1, l.map cu, 0, true⟩)] (.own 0 0 off len))) (id : Nat)
    (ho : oget oh id = some o) (hz : FzL [(id, o)] args ts) (h : fresh oh fun c => k ⟨[(id, o)], [c], [(c, ⟨1, l.map cu, 0, true⟩)], .own c 0 off len⟩) : LendK C q args oh k := by
  obtain ⟨c, h0, hk⟩ := h
  refine ⟨ts, _, _, [(id, o)], hc, lpre1 ho, hz, rfl, fun p hp e he => ?_, c, fun i hi => ?_, ?_⟩
  · rw [List.mem_singleton.1 hp] at he
    obtain ⟨x, -, rfl⟩ := List.mem_map.1 he
    rfl
  · obtain rfl : i = 0 + c := by simpa [shO] using hi
    rw [Nat.zero_add]; exact h0
  · have e1 : (l.map cu).map (V.shA c) = l.map cu := by rw [List.map_map]; rfl
    show k ⟨[(id, o)], [0 + c], [(0 + c, ⟨1, (l.map cu).map (V.shA c), 0, true⟩)], .own (0 + c) 0 off len⟩
    rw [e1, Nat.zero_add]; exact hk
theorem fzo_cu {oh : OH} {id ver len : Nat} {l : List UInt32} (ho : oget oh id = some ⟨1, l.map cu, ver, true⟩) (hl : l.length = len) : FzA oh false (.own id ver 0 len) (tn l) := by
  refine fz_own (l := l) (F := cu) (G := tu32) ho rfl rfl hl ?_ (fun a _ => fze_con _) rfl
  show List.take _ (List.drop 0 (l.map cu)) = _
  rw [List.drop_zero, List.take_of_length_le (by rw [List.length_map]; omega)]
theorem arC_own {m vo : Nat → Nat} (i : Nat) {off len off' len' : Nat} (h1 : off' = off) (h2 : len' = len) : ArC m vo (.own (m i) (vo i) off' len') (.own i 0 off len) := by
  subst h1 h2; exact ArC.own i _ _
theorem rnO_cu (m vo : Nat → Nat) {i ver : Nat} (l : List UInt32) : rnO m vo [(i, ⟨1, l.map cu, ver, true⟩)] = [(m i, ⟨1, l.map cu, vo i + ver, true⟩)] := by
  have e : (l.map cu).map (V.rnA m vo) = l.map cu := rn_map (fun _ => rfl) l
  show [(m i, (⟨1, (l.map cu).map (V.rnA m vo), vo i + ver, true⟩ : Obj))] = _
  rw [e]
theorem nopin_cu {A : List UInt32} {B : List V} {C : Nat → Obj → Prop} : ∀ i o o', oget [(0, (⟨1, A.map cu, 0, true⟩ : Obj))] i = some o → oget ([(0, (⟨1, B, 1, true⟩ : Obj))] ++ [(0, (⟨1, A.map cu, 0, true⟩ : Obj))]) i = some o' → o'.ver = 0 → C i o := by
  intro i o o' h1 h2 h3
  obtain ⟨rfl, rfl⟩ := oget_one h1
  rw [List.cons_append, oget_cons_same] at h2
  obtain rfl : (⟨1, B, 1, true⟩ : Obj) = o' := by simpa using h2
  exact absurd (show (1 : Nat) = 0 from h3) (by decide)
theorem bm_cu {oh : OH} {a b : Obj} {l : List UInt32} {ver ver1 : Nat} (ho : oget oh 0 = some ⟨1, l.map cu, ver, true⟩) (hb : b = ⟨1, l.map cu, ver1, true⟩) : Bm oh ([(0, b)] ++ [(0, a)]) := by
  refine bm_scal fun i o1 h => ?_
  by_cases e : i = 0
  · subst e
    rw [List.cons_append, oget_cons_same] at h
    obtain rfl : b = o1 := by simpa using h
    subst hb
    refine ⟨rfl, ⟨ver, ho⟩, fun e he => ?_⟩
    obtain ⟨x, -, rfl⟩ := List.mem_map.1 he
    exact ⟨_, rfl⟩
  · rw [List.cons_append, oget_cons_other _ _ e, List.nil_append, oget_cons_other _ _ e] at h
    cases h
theorem trim_g (l : List UInt32) (hl : l.length ≤ 140737488355328) : OkG Tryz.prog 86 [(0, ⟨1, l.map cu, 0, true⟩)] [] [.own 0 0 0 l.length] [(0, ⟨1, l.map cu, 1, true⟩)] (.own 0 1 0 (norm l).length) := by
  refine okg_of_ev (fun _ _ _ h => h) mix 0 (Nat.le_of_ble_eq_true rfl) Tryz.func86 rfl rfl (by kernel_rfl) (by kernel_rfl) (Nat.le_of_ble_eq_true rfl) ?wf ?vs ?po ?le ?_
  case wf => exact wfG_cu l
  case vs => exact vsG_cu l _
  case po => intro i o h; obtain ⟨rfl, rfl⟩ := oget_one h; exact .inl rfl
  case le => intro i o o' h1 h2; obtain ⟨rfl, rfl⟩ := oget_one h1; intro h3; simp [oget] at h2; subst h2; exact absurd (show (1 : Nat) = 0 from h3) (by decide)
  repeat' (first|(with_reducible first|refine zA ?_|refine zB ?_|refine zC ?_|refine zD ?_|refine zE ?_|refine zF ?_|refine zG ?_|refine zH ?_|refine zI ?_|refine zJ ?_|refine zK ?_|refine zL ?_)|(with_reducible refine reg_i ?_;intro K hK)|(with_reducible refine drw_i ?_;intro K hK)|((with_reducible refine cond_t ?hc ?_);(case hc=>rfl))|((with_reducible refine cond_f ?hc ?_);(case hc=>rfl))|((with_reducible refine cond_m ?_);refine And.intro ?_ ?_;all_goals(intro hb;(try simp only [sn,sb] at hb);try exact ex0))|(refine hK _ ?_;clear hK K)|(refine hK _ _ rfl ?_;clear hK K)|(have hg:=hK;clear hg;first|(refine And.intro ?zz ?_;case zz=>first|exact rfl|exact zO rfl|omega|exact gI)|(refine fresh_n ?_)|(refine freshO_n ?_)|(refine at_Q ?_;intro hu)|(refine zP wA ?_)|(refine mul_Q ?_;intro hm1 hm2)|(refine zP at_M ?_)|(refine zP rfl ?_)|(refine And.intro ?_ ?_;all_goals(intro hb;(try simp only [sn,sb] at hb);try exact ex0))|(intro b0 hb)))
  refine loop_i (List UInt32) (fun l' => ⟨21, [(0, .own 0 0 0 l'.length)], [(0, ⟨1, l.map cu, 0, true⟩)]⟩) (fun l' => norm l' = norm l ∧ l'.length ≤ l.length ∧ l' = l.take l'.length) (fun l' => l'.length) [] l trivial ⟨rfl, Nat.le_refl _, (List.take_length).symm⟩ ⟨rfl, ⟨rfl, rfl, trivial⟩, ⟨rfl, trivial⟩, clObjs_cu _ _⟩ ?_
  rintro l' ⟨hl', hle, htk⟩
  repeat' (first|(with_reducible first|refine zA ?_|refine zB ?_|refine zC ?_|refine zD ?_|refine zE ?_|refine zF ?_|refine zG ?_|refine zH ?_|refine zI ?_|refine zJ ?_|refine zK ?_|refine zL ?_)|(with_reducible refine reg_i ?_;intro K hK)|(with_reducible refine drw_i ?_;intro K hK)|((with_reducible refine cond_t ?hc ?_);(case hc=>rfl))|((with_reducible refine cond_f ?hc ?_);(case hc=>rfl))|((with_reducible refine cond_m ?_);refine And.intro ?_ ?_;all_goals(intro hb;(try simp only [sn,sb] at hb);try exact ex0))|(refine hK _ ?_;clear hK K)|(refine hK _ _ rfl ?_;clear hK K)|(have hg:=hK;clear hg;first|(refine And.intro ?zz ?_;case zz=>first|exact rfl|exact zO rfl|omega|exact gI)|(refine fresh_n ?_)|(refine freshO_n ?_)|(refine at_Q ?_;intro hu)|(refine zP wA ?_)|(refine mul_Q ?_;intro hm1 hm2)|(refine zP at_M ?_)|(refine zP rfl ?_)|(refine And.intro ?_ ?_;all_goals(intro hb;(try simp only [sn,sb] at hb);try exact ex0))|(intro b0 hb)))
  · have e : (↑l'.length - 1 : Int).toNat = l'.length - 1 := by omega
    have e2 : (l'.take (l'.length - 1)).length = l'.length - 1 := by rw [List.length_take]; omega
    have e3 : (l.getD (0 + (l'.length - 1)) default) = l'.getD (l'.length - 1) default := by
      rw [Nat.zero_add, List.getD, List.getD, htk, List.getElem?_take, List.length_take, if_pos (by omega)]
    rw [e, e3] at hb
    have hb := norm_drop (UInt32.toNat_inj.mp (Int.ofNat.inj hb))
    refine ⟨l'.take (l'.length - 1), ⟨hb.trans hl', by rw [e2]; omega, ?_⟩, by rw [e2]; omega, rfl, ⟨?_, rfl, trivial⟩, ⟨rfl, trivial⟩, clObjs_cu _ _⟩
    · rw [e2]
      have e5 : ∀ n, n ≤ l'.length → l'.take n = l.take n := by
        intro n hn
        obtain ⟨k, hk⟩ : ∃ k, l'.length = k := ⟨_, rfl⟩
        rw [hk] at htk hn
        rw [htk, List.take_take, Nat.min_eq_left hn]
      exact e5 _ (by omega)
    · show V.own 0 0 (0 + Int.toNat 0) ((l'.length : Int) - 1 - 0).toNat = _
      rw [e2, Int.sub_zero, e]; rfl
  · have e : (↑l'.length - 1 : Int).toNat = l'.length - 1 := by omega
    have e3 : (l.getD (0 + (l'.length - 1)) default) = l'.getD (l'.length - 1) default := by
      rw [Nat.zero_add, List.getD, List.getD, htk, List.getElem?_take, List.length_take, if_pos (by omega)]
    rw [e, e3] at hb
    rw [← hl', norm_last fun h => hb (congrArg (fun x : UInt32 => Int.ofNat x.toNat) h)]
    exact ⟨trivial, false, _, rfl, nopin_cu, bm_cu rfl rfl, BmC.own 0 0 1 0 _ _ _ rfl rfl rfl rfl⟩
  · have : l' = [] := List.eq_nil_of_length_eq_zero (by omega)
    subst this; rw [← hl']
    exact ⟨trivial, false, _, rfl, nopin_cu, bm_cu rfl rfl, BmC.own 0 0 1 0 _ _ _ rfl rfl rfl rfl⟩
theorem clone_okO (l : List UInt32) (hl : l.length ≤ 2199023255552) (h0 : 0 < l.length) : OkO Tryz.prog 104 [tn l] [(0, ⟨1, l.map cu, 0, true⟩)] (.own 0 0 0 l.length) := by
  refine oko_of_ev (fun _ _ _ h => h) mix Tryz.func104 rfl rfl (by kernel_rfl) (Nat.le_of_ble_eq_true rfl) ?_
  repeat' (first|(with_reducible first|refine zA ?_|refine zB ?_|refine zC ?_|refine zD ?_|refine zE ?_|refine zF ?_|refine zG ?_|refine zH ?_|refine zI ?_|refine zJ ?_|refine zK ?_|refine zL ?_)|(with_reducible refine reg_i ?_;intro K hK)|(with_reducible refine drw_i ?_;intro K hK)|((with_reducible refine cond_t ?hc ?_);(case hc=>rfl))|((with_reducible refine cond_f ?hc ?_);(case hc=>rfl))|((with_reducible refine cond_m ?_);refine And.intro ?_ ?_;all_goals(intro hb;(try simp only [sn,sb] at hb);try exact ex0))|(refine hK _ ?_;clear hK K)|(refine hK _ _ rfl ?_;clear hK K)|(have hg:=hK;clear hg;first|(refine And.intro ?zz ?_;case zz=>first|exact rfl|exact zO rfl|omega|exact gI)|(refine fresh_n ?_)|(refine freshO_n ?_)|(refine at_Q ?_;intro hu)|(refine zP wA ?_)|(refine mul_Q ?_;intro hm1 hm2)|(refine zP at_M ?_)|(refine zP rfl ?_)|(refine And.intro ?_ ?_;all_goals(intro hb;(try simp only [sn,sb] at hb);try exact ex0))|(intro b0 hb)))
  · rename_i h
    have h1 := congrArg List.length (h hb)
    rw [List.length_map, List.length_nil] at h1
    omega
  · have e9 : List.take 0 [] ++ List.map (V.ofA false) (List.map tu32 l) = l.map cu := by
      rw [List.take_nil, List.nil_append, List.map_map]; rfl
    have e8 := congrArg (fun L => some (Obj.mk 1 L 1 true)) e9
    have e7 : 0 + (List.map (V.ofA false) (List.map tu32 l)).length = l.length := by rw [Nat.zero_add, List.length_map, List.length_map]
    refine ⟨trivial, false, _, fun _ => 0, rfl, ren_one (id := 0) (ver := 1) e8 (fun e he => ?_), ?_⟩
    · obtain ⟨x, -, rfl⟩ := List.mem_map.1 he
      exact ⟨_, rfl⟩
    · rw [← e7]
      exact RenC.own 0 1 0 _ _ e8 rfl rfl
