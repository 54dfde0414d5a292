/-
  OWN LAYER 'Ev', PART XN: WHAT IS NOT TOUCHED MAY BE FORGOTTEN, AND PUT BACK BEHIND.
-/
import Derived.Test.YtjehfpfgpnmpoaaGreatDoorXM
set_option linter.all false
namespace Go.Ev

/-- All numbers within are known. -/
inductive CLV (oh : OH) : V → Prop
  | undef : CLV oh .undef
  | con (v : Value) : CLV oh (.con v)
  | ro (f : Bool) (t : T) : CLV oh (.ro f t)
  | emp (n : Bool) : CLV oh (.emp n)
  | own (a b c d : Nat) (h : (oget oh a).isSome = true) : CLV oh (.own a b c d)
  | ref (a b c d : Nat) (h : (oget oh a).isSome = true) : CLV oh (.ref a b c d)
  | mp (a : Nat) (h : (oget oh a).isSome = true) : CLV oh (.mp a)
  | yld (a : Nat) (h : (oget oh a).isSome = true) : CLV oh (.yld a)
  | ifc (t : TypeId) (v : V) (h : CLV oh v) : CLV oh (.ifc t v)
  | clo (fn : Fn) (f c : List V) (h1 : ∀ v, v ∈ f → CLV oh v) (h2 : ∀ v, v ∈ c → CLV oh v) : CLV oh (.clo fn f c)
  | agg (l : List V) (h : ∀ v, v ∈ l → CLV oh v) : CLV oh (.agg l)
  | tup (l : List V) (h : ∀ v, v ∈ l → CLV oh v) : CLV oh (.tup l)

section
variable {g : Gh} {oh oh2 : OH} {w : World}

theorem clv_B {v : V} {x : Value} (hb : v.base = true) (h : RdB g oh v x) : CLV oh v := by
  cases v with
  | undef => exact .undef
  | con v => exact .con v
  | ro f t => exact .ro f t
  | emp n => exact .emp n
  | own a b c d => obtain ⟨_, o, ho, _⟩ := h; exact .own a b c d (by rw [ho]; rfl)
  | ref a b c d => obtain ⟨_, o, ho, _⟩ := h; exact .ref a b c d (by rw [ho]; rfl)
  | mp a => obtain ⟨_, o, ho, _⟩ := h; exact .mp a (by rw [ho]; rfl)
  | yld a => obtain ⟨_, o, ho, _⟩ := h; exact .yld a (by rw [ho]; rfl)
  | _ => cases hb

theorem get_of_size {α β : Type} {l : List α} {a : Array β} (h : a.size = l.length) {v : α} (hv : v ∈ l) : ∃ (j : Nat) (x : β), l[j]? = some v ∧ a[j]? = some x := by
  obtain ⟨j, hj, rfl⟩ := List.mem_iff_getElem.1 hv
  exact ⟨j, a[j]'(by rw [h]; exact hj), by simp [hj], by simp [h, hj]⟩

theorem clv_N {v : V} {x : Value} (h : RdN g oh v x) : CLV oh v := by
  induction h with
  | base v x hb h => exact clv_B hb h
  | ifc t v x _ _ _ ih => exact .ifc t v ih
  | clo fn f c fs cs hf hc _ _ ih1 ih2 =>
    refine .clo fn f c (fun v hv => ?_) (fun v hv => ?_)
    · obtain ⟨j, x, h1, h2⟩ := get_of_size hf hv; exact ih1 j v x h1 h2
    · obtain ⟨j, x, h1, h2⟩ := get_of_size hc hv; exact ih2 j v x h1 h2
  | agg l cs hl _ _ ih =>
    refine .agg l fun v hv => ?_
    obtain ⟨j, x, h1, h2⟩ := get_of_size hl hv; exact ih j v x h1 h2

theorem clv_1 {v : V} {x : Value} (h : RdV1 g oh v x) : CLV oh v := by
  cases v with
  | ifc t v => exact clv_N h
  | clo a b c => exact clv_N h
  | agg l => exact h.elim
  | tup l => exact h.elim
  | undef => exact .undef
  | con v => exact .con v
  | ro f t => exact .ro f t
  | emp n => exact .emp n
  | own a b c d => exact clv_B (v := .own a b c d) rfl h
  | ref a b c d => exact clv_B (v := .ref a b c d) rfl h
  | mp a => exact clv_B (v := .mp a) rfl h
  | yld a => exact clv_B (v := .yld a) rfl h

theorem clv_A {v : V} {x : Value} (h : RdA g oh v x) : CLV oh v := by
  cases v with
  | agg l =>
    obtain ⟨cs, rfl, hl, hr⟩ := h
    refine .agg l fun v hv => ?_
    obtain ⟨j, x, h1, h2⟩ := get_of_size hl hv; exact clv_1 (hr j v x h1 h2).1
  | tup l => exact h.elim
  | ifc t v => exact clv_1 (v := .ifc t v) h
  | clo a b c => exact clv_1 (v := .clo a b c) h
  | undef => exact .undef
  | con v => exact .con v
  | ro f t => exact .ro f t
  | emp n => exact .emp n
  | own a b c d => exact clv_B (v := .own a b c d) rfl h
  | ref a b c d => exact clv_B (v := .ref a b c d) rfl h
  | mp a => exact clv_B (v := .mp a) rfl h
  | yld a => exact clv_B (v := .yld a) rfl h

theorem rdV_A {v : V} {x : Value} (h : RdV g oh v x) (ht : ∀ l, v ≠ .tup l) : RdA g oh v x := by
  cases v with
  | tup l => exact absurd rfl (ht l)
  | _ => exact h

theorem clv_V {v : V} {x : Value} (h : RdV g oh v x) : CLV oh v := by
  by_cases ht : ∃ l, v = .tup l
  · obtain ⟨l, rfl⟩ := ht
    obtain ⟨vs, rfl, hl, hr⟩ := h
    refine .tup l fun v hv => ?_
    obtain ⟨j, x, h1, h2⟩ := get_of_size hl hv; exact clv_A (hr j v x h1 h2)
  · exact clv_A (rdV_A h fun l e => ht ⟨l, e⟩)

/-- The heap's objects speak of known ones alone. -/
def CL (oh : OH) : Prop := ∀ i o, oget oh i = some o → o.live = true → ∀ v, v ∈ o.el → CLV oh v

theorem HR.cl (h : HR g oh w) : CL oh := by
  intro i o ho hl v hv
  obtain ⟨h1, h2⟩ := h.obj i o ho hl
  cases hm : g.m i with
  | none => rw [(h1 hm).1] at hv; cases hv
  | some b =>
    obtain ⟨go, _, _, hk⟩ := h2 b hm
    unfold KindAt at hk
    obtain ⟨j, hj, rfl⟩ := List.mem_iff_getElem.1 hv
    cases hkk : o.k with
    | cells =>
      rw [hkk] at hk
      obtain ⟨arr, ty, _, hba⟩ := hk
      obtain ⟨h3, h4⟩ := hba.2.2.2 j _ (List.getElem?_eq_getElem hj)
      -- an element's cells are known, so is it
      have hc : ∀ u, u ∈ (o.el[j]).cells → CLV oh u := by
        intro u hu
        obtain ⟨q, hq, rfl⟩ := List.mem_iff_getElem.1 hu
        obtain ⟨c, _, _, hr⟩ := h4 q _ (List.getElem?_eq_getElem hq)
        exact clv_1 hr
      cases he : o.el[j] with
      | agg l => rw [he] at hc; exact .agg l hc
      | tup l => rw [he] at hc; exact hc _ (by simp [V.cells])
      | _ => rw [he] at hc; exact hc _ (by simp [V.cells])
    | rows t =>
      rw [hkk] at hk
      obtain ⟨arr, _, hba⟩ := hk
      obtain ⟨h3, h4⟩ := hba.2.2.2 j _ (List.getElem?_eq_getElem hj)
      have hc : ∀ u, u ∈ (o.el[j]).cells → CLV oh u := by
        intro u hu
        obtain ⟨q, hq, rfl⟩ := List.mem_iff_getElem.1 hu
        obtain ⟨c, _, _, hr⟩ := h4 q _ (List.getElem?_eq_getElem hq)
        exact clv_1 hr
      cases he : o.el[j] with
      | agg l => rw [he] at hc; exact .agg l hc
      | tup l => rw [he] at hc; exact hc _ (by simp [V.cells])
      | _ => rw [he] at hc; exact hc _ (by simp [V.cells])
    | typed t =>
      rw [hkk] at hk
      obtain ⟨arr, _, hba, _⟩ := hk
      obtain ⟨h3, h4⟩ := hba.2.2.2 j _ (List.getElem?_eq_getElem hj)
      have hc : ∀ u, u ∈ (o.el[j]).cells → CLV oh u := by
        intro u hu
        obtain ⟨q, hq, rfl⟩ := List.mem_iff_getElem.1 hu
        obtain ⟨c, _, _, hr⟩ := h4 q _ (List.getElem?_eq_getElem hq)
        exact clv_1 hr
      cases he : o.el[j] with
      | agg l => rw [he] at hc; exact .agg l hc
      | tup l => rw [he] at hc; exact hc _ (by simp [V.cells])
      | _ => rw [he] at hc; exact hc _ (by simp [V.cells])
    | bytes =>
      rw [hkk] at hk
      obtain ⟨arr, ty, _, hba⟩ := hk
      obtain ⟨h3, h4⟩ := hba.2.2.2 j _ (List.getElem?_eq_getElem hj)
      have hc : ∀ u, u ∈ (o.el[j]).cells → CLV oh u := by
        intro u hu
        obtain ⟨q, hq, rfl⟩ := List.mem_iff_getElem.1 hu
        obtain ⟨c, _, _, hr⟩ := h4 q _ (List.getElem?_eq_getElem hq)
        exact clv_1 hr
      cases he : o.el[j] with
      | agg l => rw [he] at hc; exact .agg l hc
      | tup l => rw [he] at hc; exact hc _ (by simp [V.cells])
      | _ => rw [he] at hc; exact hc _ (by simp [V.cells])
    | map ks =>
      rw [hkk] at hk
      obtain ⟨es, clock, _, h3, h4, h5⟩ := hk
      have hje : j < es.size := by rw [h3, ← h4]; exact hj
      exact clv_A ((h5 j es[j] (by simp [hje])).2 _ (List.getElem?_eq_getElem hj))
    | loop st p ps a b =>
      rw [hkk] at hk
      obtain ⟨r, D, _, _, _, _, _, _, _, _, h3, h4⟩ := hk
      cases j with
      | zero => exact clv_V (h3 _ (List.getElem?_eq_getElem hj))
      | succ j => exact clv_V (h4 j _ (List.getElem?_eq_getElem hj))
    | dfr t => rw [hkk] at hk; have := hk.2; simp [this] at hj
    | sit s p => rw [hkk] at hk; have := hk.2; simp [this] at hj
    | mit a b => rw [hkk] at hk; exact hk.elim


/-! ### forgotten -/
theorem less_B (hsub : ∀ i o, oget oh i = some o → oget oh2 i = some o) {v : V} {x : Value} (hc : CLV oh v) (h : RdB g oh2 v x) : RdB g oh v x := by
  have key : ∀ {id : Nat} {o : Obj}, (oget oh id).isSome = true → oget oh2 id = some o → oget oh id = some o := by
    intro id o hs h2
    obtain ⟨o', ho'⟩ := Option.isSome_iff_exists.1 hs
    rw [hsub id o' ho'] at h2
    rw [ho', h2]
  cases hc with
  | own a b c d hs => obtain ⟨h1, o, ho, h2⟩ := h; exact ⟨h1, o, key hs ho, h2⟩
  | ref a b c d hs => obtain ⟨h1, o, ho, h2⟩ := h; exact ⟨h1, o, key hs ho, h2⟩
  | mp a hs => obtain ⟨h1, o, ho, h2⟩ := h; exact ⟨h1, o, key hs ho, h2⟩
  | yld a hs => obtain ⟨h1, o, ho, h2⟩ := h; exact ⟨h1, o, key hs ho, h2⟩
  | undef => exact h
  | con => exact h
  | ro => exact h
  | emp => exact h
  | ifc => exact h.elim
  | clo => exact h.elim
  | agg => exact h.elim
  | tup => exact h.elim

theorem less_N (hsub : ∀ i o, oget oh i = some o → oget oh2 i = some o) {v : V} {x : Value} (h : RdN g oh2 v x) : CLV oh v → RdN g oh v x := by
  induction h with
  | base v x hb h => exact fun hc => .base v x hb (less_B hsub hc h)
  | ifc t v x _ h1 hu ih => intro hc; cases hc with | ifc _ _ hc => exact .ifc t v x (ih hc) h1 hu
  | clo fn f c fs cs hf hc' _ _ ih1 ih2 =>
    intro hc
    cases hc with
    | clo _ _ _ c1 c2 => exact .clo fn f c fs cs hf hc' (fun j v x h1 h2 => ih1 j v x h1 h2 (c1 v (List.mem_of_getElem? h1))) (fun j v x h1 h2 => ih2 j v x h1 h2 (c2 v (List.mem_of_getElem? h1)))
  | agg l cs hl _ h1 ih =>
    intro hc
    cases hc with
    | agg _ c1 => exact .agg l cs hl (fun j v x a b => ih j v x a b (c1 v (List.mem_of_getElem? a))) h1

theorem less_1 (hsub : ∀ i o, oget oh i = some o → oget oh2 i = some o) {v : V} {x : Value} (hc : CLV oh v) (h : RdV1 g oh2 v x) : RdV1 g oh v x := by
  have hB := less_B (g := g) hsub hc (x := x)
  have hN := fun h => less_N (g := g) hsub (v := v) (x := x) h hc
  cases v <;> first | exact hN h | exact hB h

theorem less_A (hsub : ∀ i o, oget oh i = some o → oget oh2 i = some o) {v : V} {x : Value} (hc : CLV oh v) (h : RdA g oh2 v x) : RdA g oh v x := by
  cases v with
  | agg l =>
    obtain ⟨cs, rfl, hl, hr⟩ := h
    cases hc with
    | agg _ c1 => exact ⟨cs, rfl, hl, fun j v c a b => ⟨less_1 hsub (c1 v (List.mem_of_getElem? a)) (hr j v c a b).1, (hr j v c a b).2⟩⟩
  | _ => exact less_1 (g := g) (x := x) hsub hc h

theorem less_V (hsub : ∀ i o, oget oh i = some o → oget oh2 i = some o) {v : V} {x : Value} (hc : CLV oh v) (h : RdV g oh2 v x) : RdV g oh v x := by
  cases v with
  | tup l =>
    obtain ⟨cs, rfl, hl, hr⟩ := h
    cases hc with
    | tup _ c1 => exact ⟨cs, rfl, hl, fun j v c a b => less_A hsub (c1 v (List.mem_of_getElem? a)) (hr j v c a b)⟩
  | _ => exact less_A (g := g) (x := x) hsub hc h

theorem clv_cells {v : V} (h : CLV oh v) : ∀ u, u ∈ v.cells → CLV oh u := by
  intro u hu
  cases v with
  | agg l => cases h with | agg _ c1 => exact c1 u hu
  | _ => simp only [V.cells, List.mem_singleton] at hu; subst hu; exact h

theorem HR.forget (hsub : ∀ i o, oget oh i = some o → oget oh2 i = some o) (hcl : CL oh) (h : HR g oh2 w) : HR g oh w := by
  refine ⟨h.base, h.hG, h.hF, fun i o ho hl => ?_, fun i j oi oj b hi hj => h.inj i j oi oj b (hsub _ _ hi) (hsub _ _ hj)⟩
  obtain ⟨h1, h2⟩ := h.obj i o (hsub i o ho) hl
  refine ⟨h1, fun b hb => ?_⟩
  obtain ⟨go, e1, e2, hk⟩ := h2 b hb
  refine ⟨go, e1, e2, ?_⟩
  have hc := hcl i o ho hl
  unfold KindAt at hk ⊢
  cases hkk : o.k with
  | cells =>
    rw [hkk] at hk
    obtain ⟨arr, ty, e, hba⟩ := hk
    refine ⟨arr, ty, e, hba.1, hba.2.1, hba.2.2.1, fun k el he => ?_⟩
    obtain ⟨q1, q2⟩ := hba.2.2.2 k el he
    refine ⟨q1, fun j v hj => ?_⟩
    obtain ⟨c, c1, c2, c3⟩ := q2 j v hj
    exact ⟨c, c1, c2, less_1 hsub (clv_cells (hc el (List.mem_of_getElem? he)) v (List.mem_of_getElem? hj)) c3⟩
  | rows t =>
    rw [hkk] at hk
    obtain ⟨arr, e, hba⟩ := hk
    refine ⟨arr, e, hba.1, hba.2.1, hba.2.2.1, fun k el he => ?_⟩
    obtain ⟨q1, q2⟩ := hba.2.2.2 k el he
    refine ⟨q1, fun j v hj => ?_⟩
    obtain ⟨c, c1, c2, c3⟩ := q2 j v hj
    exact ⟨c, c1, c2, less_1 hsub (clv_cells (hc el (List.mem_of_getElem? he)) v (List.mem_of_getElem? hj)) c3⟩
  | typed t =>
    rw [hkk] at hk
    obtain ⟨arr, e, hba, hn1⟩ := hk
    refine ⟨arr, e, ⟨hba.1, hba.2.1, hba.2.2.1, fun k el he => ?_⟩, hn1⟩
    obtain ⟨q1, q2⟩ := hba.2.2.2 k el he
    refine ⟨q1, fun j v hj => ?_⟩
    obtain ⟨c, c1, c2, c3⟩ := q2 j v hj
    exact ⟨c, c1, c2, less_1 hsub (clv_cells (hc el (List.mem_of_getElem? he)) v (List.mem_of_getElem? hj)) c3⟩
  | bytes =>
    rw [hkk] at hk
    obtain ⟨arr, ty, e, hba⟩ := hk
    refine ⟨arr, ty, e, hba.1, hba.2.1, hba.2.2.1, fun k el he => ?_⟩
    obtain ⟨q1, q2⟩ := hba.2.2.2 k el he
    refine ⟨q1, fun j v hj => ?_⟩
    obtain ⟨c, c1, c2, c3⟩ := q2 j v hj
    exact ⟨c, c1, c2, less_1 hsub (clv_cells (hc el (List.mem_of_getElem? he)) v (List.mem_of_getElem? hj)) c3⟩
  | map ks =>
    rw [hkk] at hk
    obtain ⟨es, clock, e, h3, h4, h5⟩ := hk
    exact ⟨es, clock, e, h3, h4, fun j en hen => ⟨(h5 j en hen).1, fun v hv => less_A hsub (hc v (List.mem_of_getElem? hv)) ((h5 j en hen).2 v hv)⟩⟩
  | loop st p ps a b =>
    rw [hkk] at hk
    obtain ⟨r, D, e1, e2, e3, e4, e5, e6, e7, e8, h3, h4⟩ := hk
    exact ⟨r, D, e1, e2, e3, e4, e5, e6, e7, e8, fun v hv => less_V hsub (hc v (List.mem_of_getElem? hv)) (h3 v hv), fun j v hv => less_V hsub (hc v (List.mem_of_getElem? hv)) (h4 j v hv)⟩
  | dfr t => rw [hkk] at hk; exact hk
  | sit s p => rw [hkk] at hk; exact hk
  | mit a b => rw [hkk] at hk; exact hk

/-! ### put back -/
/-- Behind a run over 'oh' within 'oh2'. -/
theorem HR.back {g' : Gh} {oh' oh3 : OH} {w' : World} {L : List Nat} (hsub : ∀ i o, oget oh i = some o → oget oh2 i = some o) (h2 : HR g oh2 w) (hg : Grow L oh oh')
    (hnew : ∀ i, i ∈ L → oget oh i = none → oget oh2 i = none) (h3 : ∀ i, oget oh3 i = match oget oh' i with | some o => some o | none => oget oh2 i)
    (h' : HR g' oh' w') (hm : Mono g oh g' oh') (hf : Fr g oh w g' oh' w') :
    ∃ g3, HR g3 oh3 w' ∧ Mono g oh2 g3 oh3 ∧ Mono g' oh' g3 oh3 ∧ Fr g oh2 w g3 oh3 w' := by
  let g3 : Gh := { g' with m := fun i => if (oget oh' i).isSome then g'.m i else g.m i, cp := fun i => if (oget oh' i).isSome then g'.cp i else g.cp i }
  have hin : ∀ i o, oget oh' i = some o → oget oh3 i = some o ∧ g3.m i = g'.m i ∧ g3.cp i = g'.cp i := fun i o ho => ⟨by rw [h3, ho], by simp [g3, ho], by simp [g3, ho]⟩
  have hout : ∀ i o, oget oh2 i = some o → oget oh i = none → oget oh' i = none ∧ oget oh3 i = some o ∧ g3.m i = g.m i ∧ g3.cp i = g.cp i := by
    intro i o ho hn
    have hL : i ∉ L := fun hi => by rw [hnew i hi hn] at ho; cases ho
    have hn' : oget oh' i = none := by rw [hg.same i hL]; exact hn
    exact ⟨hn', by rw [h3, hn']; exact ho, by simp [g3, hn'], by simp [g3, hn']⟩
  have m1 : ∀ v x, RdB g' oh' v x → RdB g3 oh3 v x := by
    intro v x h
    cases v with
    | own a b c d =>
      obtain ⟨p1, o, ho, p2, p3⟩ := h
      obtain ⟨q1, q2, q3⟩ := hin a o ho
      exact ⟨p1, o, q1, p2, fun e1 e2 => by have := p3 e1 e2; unfold OwnAt at this ⊢; rw [q2, q3]; exact this⟩
    | ref a b c d =>
      obtain ⟨p1, o, ho, p2, p3⟩ := h
      obtain ⟨q1, q2, q3⟩ := hin a o ho
      exact ⟨p1, o, q1, p2, fun e1 e2 => by rw [q2]; exact p3 e1 e2⟩
    | mp a =>
      obtain ⟨p1, o, ho, p3⟩ := h
      obtain ⟨q1, q2, q3⟩ := hin a o ho
      exact ⟨p1, o, q1, fun e1 e2 => by rw [q2]; exact p3 e1 e2⟩
    | yld a =>
      obtain ⟨p1, o, ho, p3⟩ := h
      obtain ⟨q1, q2, q3⟩ := hin a o ho
      exact ⟨p1, o, q1, fun e1 e2 => by rw [q2]; exact p3 e1 e2⟩
    | ro f t => cases f <;> exact h
    | _ => exact h
  have M1 : Mono g' oh' g3 oh3 := mono_of_rdB m1
  have m2 : ∀ v x, RdB g oh2 v x → RdB g3 oh3 v x := by
    intro v x h
    have old : CLV oh v → RdB g3 oh3 v x := fun hc => m1 v x (hm.rdB v x (less_B hsub hc h))
    have dec : ∀ id, (oget oh id).isSome = true ∨ oget oh id = none := fun id => by cases oget oh id <;> simp
    cases v with
    | own a b c d =>
      rcases dec a with hs | hn
      · exact old (.own a b c d hs)
      · obtain ⟨p1, o, ho, p2, p3⟩ := h
        obtain ⟨_, q1, q2, q3⟩ := hout a o ho hn
        exact ⟨p1, o, q1, p2, fun e1 e2 => by have := p3 e1 e2; unfold OwnAt at this ⊢; rw [q2, q3]; exact this⟩
    | ref a b c d =>
      rcases dec a with hs | hn
      · exact old (.ref a b c d hs)
      · obtain ⟨p1, o, ho, p2, p3⟩ := h
        obtain ⟨_, q1, q2, q3⟩ := hout a o ho hn
        exact ⟨p1, o, q1, p2, fun e1 e2 => by rw [q2]; exact p3 e1 e2⟩
    | mp a =>
      rcases dec a with hs | hn
      · exact old (.mp a hs)
      · obtain ⟨p1, o, ho, p3⟩ := h
        obtain ⟨_, q1, q2, q3⟩ := hout a o ho hn
        exact ⟨p1, o, q1, fun e1 e2 => by rw [q2]; exact p3 e1 e2⟩
    | yld a =>
      rcases dec a with hs | hn
      · exact old (.yld a hs)
      · obtain ⟨p1, o, ho, p3⟩ := h
        obtain ⟨_, q1, q2, q3⟩ := hout a o ho hn
        exact ⟨p1, o, q1, fun e1 e2 => by rw [q2]; exact p3 e1 e2⟩
    | undef => exact h
    | con v => exact h
    | ro f t => exact old (.ro f t)
    | emp n => exact h
    | ifc t v => exact h.elim
    | clo a b c => exact h.elim
    | agg l => exact h.elim
    | tup l => exact h.elim
  have M2 : Mono g oh2 g3 oh3 := mono_of_rdB m2
  have hOwn : ∀ b, Owned g oh b → Owned g oh2 b := by
    rintro b ⟨i, o, ho, hl, hmi⟩; exact ⟨i, o, hsub i o ho, hl, hmi⟩
  have hlt2 : ∀ i o b, oget oh2 i = some o → o.live = true → g.m i = some b → b < w.heap.size := by
    intro i o b ho hl hb
    obtain ⟨go, hh, _⟩ := (h2.obj i o ho hl).2 b hb
    exact lt_of_heap hh
  have hnot : ∀ i o b, oget oh2 i = some o → oget oh i = none → o.live = true → g.m i = some b → ¬ Owned g oh b := by
    rintro i o b ho hn hl hb ⟨j, oj, hj, hlj, hmj⟩
    have := h2.inj i j o oj b ho (hsub j oj hj) hl hlj hb hmj
    subst this
    rw [hn] at hj; cases hj
  have cases3 : ∀ i o, oget oh3 i = some o → (oget oh' i = some o) ∨ (oget oh' i = none ∧ oget oh i = none ∧ oget oh2 i = some o) := by
    intro i o ho
    rw [h3] at ho
    cases hi : oget oh' i with
    | some o' => rw [hi] at ho; exact .inl ho
    | none =>
      rw [hi] at ho
      refine .inr ⟨rfl, ?_, ho⟩
      cases hoh : oget oh i with
      | none => rfl
      | some o' =>
        have hL : i ∉ L := fun hL => by have := hg.some_ i hL; rw [hi] at this; cases this
        rw [hg.same i hL, hoh] at hi; cases hi
  refine ⟨g3, ⟨h'.base, h'.hG, h'.hF, fun i o ho hl => ?_, fun i j oi oj b hi hj hli hlj hmi hmj => ?_⟩, M2, M1, ⟨hf.B, hf.os, hf.tape, hf.output, hf.size, fun b hb hn => hf.keep b hb fun ho => hn (hOwn b ho), ?_, hf.G, hf.F, fun b o c hc => ?_, fun b o c hc => ?_⟩⟩
  · rcases cases3 i o ho with hi | ⟨hi, hn, hi2⟩
    · obtain ⟨_, q2, q3⟩ := hin i o hi
      obtain ⟨p1, p2⟩ := h'.obj i o hi hl
      refine ⟨by rw [q2]; exact p1, fun b hb => ?_⟩
      rw [q2] at hb
      obtain ⟨go, e1, e2, e3⟩ := p2 b hb
      exact ⟨go, e1, e2, by rw [q3]; exact e3.mono M1⟩
    · obtain ⟨_, _, q2, q3⟩ := hout i o hi2 hn
      obtain ⟨p1, p2⟩ := h2.obj i o hi2 hl
      refine ⟨by rw [q2]; exact p1, fun b hb => ?_⟩
      rw [q2] at hb
      obtain ⟨go, e1, e2, e3⟩ := p2 b hb
      have hno := hnot i o b hi2 hn hl hb
      refine ⟨go, by rw [hf.keep b (lt_of_heap e1) hno]; exact e1, fun off => ?_, by rw [q3]; exact e3.mono M2⟩
      cases hG : g3.G b off with
      | none => rfl
      | some c =>
        rcases hf.nG b off c hG with h | h | h
        · rw [e2] at h; cases h
        · exact absurd h hno
        · have := lt_of_heap e1; omega
  · have own' : ∀ i o, oget oh' i = some o → o.live = true → g3.m i = some b → Owned g' oh' b := fun i o hi hl hmi => ⟨i, o, hi, hl, by rw [← (hin i o hi).2.1]; exact hmi⟩
    rcases cases3 i oi hi with hi' | ⟨_, hni, hi2⟩ <;> rcases cases3 j oj hj with hj' | ⟨_, hnj, hj2⟩
    · exact h'.inj i j oi oj b hi' hj' hli hlj (by rw [← (hin i oi hi').2.1]; exact hmi) (by rw [← (hin j oj hj').2.1]; exact hmj)
    · have e := (hout j oj hj2 hnj).2.2.1
      rw [e] at hmj
      rcases hf.own b (own' i oi hi' hli hmi) with h | h
      · exact absurd h (hnot j oj b hj2 hnj hlj hmj)
      · have := hlt2 j oj b hj2 hlj hmj; omega
    · have e := (hout i oi hi2 hni).2.2.1
      rw [e] at hmi
      rcases hf.own b (own' j oj hj' hlj hmj) with h | h
      · exact absurd h (hnot i oi b hi2 hni hli hmi)
      · have := hlt2 i oi b hi2 hli hmi; omega
    · rw [(hout i oi hi2 hni).2.2.1] at hmi
      rw [(hout j oj hj2 hnj).2.2.1] at hmj
      exact h2.inj i j oi oj b hi2 hj2 hli hlj hmi hmj
  · rintro b ⟨i, o, ho, hl, hmi⟩
    rcases cases3 i o ho with hi | ⟨_, hn, hi2⟩
    · rcases hf.own b ⟨i, o, hi, hl, by rw [← (hin i o hi).2.1]; exact hmi⟩ with h | h
      · exact .inl (hOwn b h)
      · exact .inr h
    · rw [(hout i o hi2 hn).2.2.1] at hmi
      exact .inl ⟨i, o, hi2, hl, hmi⟩
  · rcases hf.nG b o c hc with h | h | h
    · exact .inl h
    · exact .inr (.inl (hOwn b h))
    · exact .inr (.inr h)
  · rcases hf.nF b o c hc with h | h | h
    · exact .inl h
    · exact .inr (.inl (hOwn b h))
    · exact .inr (.inr h)

end
end Go.Ev
