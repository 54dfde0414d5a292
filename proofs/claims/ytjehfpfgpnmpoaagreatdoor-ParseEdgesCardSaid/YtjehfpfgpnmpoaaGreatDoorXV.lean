/-
  OWN LAYER 'Ev', PART XV: REGIONS THAT DRAW THEIR ORDER, RUN BY COMPUTATION.
-/
import Derived.Test.YtjehfpfgpnmpoaaGreatDoorXU
set_option linter.all false
namespace Go.Ev

section
variable {P : Program} {B : Sto} {tb : Tb}

/-! ### the same objects -/
theorem mono_eqv {g : Gh} {oh oh2 : OH} (h : ∀ i, oget oh i = oget oh2 i) : Mono g oh g oh2 :=
  RdV1.lift (fun _ _ _ h => h) (fun _ _ _ h => h) fun id o ho => ⟨o, by rw [← h]; exact ho, Nat.le_refl _, fun _ hl => ⟨hl, rfl, Nat.le_refl _, rfl, rfl⟩⟩

theorem HR.eqv {g : Gh} {oh oh2 : OH} {w : World} (h : ∀ i, oget oh i = oget oh2 i) (hr : HR g oh w) : HR g oh2 w := by
  refine ⟨hr.base, hr.hG, hr.hF, fun i o ho hl => ?_, fun i j oi oj b hi hj => hr.inj i j oi oj b (by rw [h]; exact hi) (by rw [h]; exact hj)⟩
  obtain ⟨h1, h2⟩ := hr.obj i o (by rw [h]; exact ho) hl
  refine ⟨h1, fun b hb => ?_⟩
  obtain ⟨go, e1, e2, e3⟩ := h2 b hb
  exact ⟨go, e1, e2, e3.mono (mono_eqv h)⟩

theorem owned_eqv {g : Gh} {oh oh2 : OH} (h : ∀ i, oget oh i = oget oh2 i) {b : Nat} (ho : Owned g oh b) : Owned g oh2 b := by
  obtain ⟨i, o, h1, h2⟩ := ho
  exact ⟨i, o, by rw [← h]; exact h1, h2⟩

theorem Fr.eqv {g g' : Gh} {oh oh' oh2 : OH} {w w' : World} (h : ∀ i, oget oh' i = oget oh2 i) (hf : Fr g oh w g' oh' w') : Fr g oh w g' oh2 w' :=
  ⟨hf.B, hf.os, hf.tape, hf.output, hf.size, hf.keep, fun b hb => hf.own b (owned_eqv (fun i => (h i).symm) hb), hf.G, hf.F, hf.nG, hf.nF⟩

theorem Rel.eqv {g : Gh} {s t : St} {a : Act} {w : World} (h : Eqv s t) (hr : Rel g s a w) : Rel g t a w :=
  ⟨hr.hr.eqv h.2.2, hr.sz.trans h.1, fun k => by rw [← h.2.1]; exact (mono_eqv h.2.2).rdV (hr.env k)⟩

/-! ### a call as one accord -/
def normO (oh : OH) : OH := oh.filterMap fun p => (oget oh p.1).map fun o => (p.1, o)
def pickO (L : List Nat) (oh : OH) : OH := L.filterMap fun i => (oget oh i).map fun o => (i, o)
def callAcc (oh oh' : OH) (L : List Nat) (v : V) : Acc := ⟨normO oh, L.filter fun i => (oget oh i).isNone, pickO L oh', v⟩

theorem normO_1 {oh : OH} {i : Nat} {o : Obj} (h : (i, o) ∈ normO oh) : oget oh i = some o := by
  unfold normO at h
  obtain ⟨p, hp, hq⟩ := List.mem_filterMap.1 h
  obtain ⟨o', ho', he⟩ := Option.map_eq_some_iff.1 hq
  cases he; exact ho'
theorem normO_2 {oh : OH} {i : Nat} {o : Obj} (h : oget oh i = some o) : (i, o) ∈ normO oh := by
  unfold normO
  obtain ⟨p, hp, he⟩ := List.mem_map.1 (oget_mem h)
  exact List.mem_filterMap.2 ⟨p, hp, by rw [he, h]; rfl⟩
theorem pickO_ids {L : List Nat} {oh : OH} (h : ∀ i, i ∈ L → (oget oh i).isSome = true) : idsOf (pickO L oh) = L := by
  unfold pickO idsOf
  induction L with
  | nil => rfl
  | cons a r ih =>
    obtain ⟨o, ho⟩ := Option.isSome_iff_exists.1 (h a (by simp))
    simp only [List.filterMap_cons, ho, Option.map_some, List.map_cons]
    rw [ih fun i hi => h i (by simp [hi])]
theorem pickO_get {oh : OH} {i : Nat} : ∀ {L : List Nat}, (∀ i, i ∈ L → (oget oh i).isSome = true) → oget (pickO L oh) i = if i ∈ L then oget oh i else none
  | [], _ => by simp [pickO, oget]
  | a :: r, h => by
    obtain ⟨o, ho⟩ := Option.isSome_iff_exists.1 (h a (by simp))
    have e : pickO (a :: r) oh = (a, o) :: pickO r oh := by simp [pickO, List.filterMap_cons, ho]
    rw [e]
    by_cases hi : i = a
    · subst hi; rw [oget_cons_same]; simp [ho]
    · rw [oget_cons_other _ _ hi, pickO_get fun i hi => h i (by simp [hi])]; simp [hi]

theorem pick_over {L : List Nat} {oh oh' oh2 : OH} (hg : Grow L oh oh') (hsub : ∀ i o, oget oh i = some o → oget oh2 i = some o) (i : Nat) :
    oget (pickO L oh' ++ oh2) i = match oget oh' i with | some o => some o | none => oget oh2 i := by
  rw [oget_append, pickO_get hg.some_]
  by_cases hi : i ∈ L
  · rw [if_pos hi]; rfl
  · rw [if_neg hi, hg.same i hi]
    cases h : oget oh i with
    | none => rfl
    | some o => exact hsub i o h

theorem Out.mono {Z Z' : Value → World → Prop} {r : Result Next} (h : Out P Z r) (hz : ∀ v w, Z v w → Z' v w) : Out P Z' r := by
  cases r with
  | ok n w =>
    cases n <;> simp only [Out] at h ⊢
    case value v => exact hz _ _ h
    case skip => exact hz _ _ h
    case enter f args => exact h.mono fun e w' he => let ⟨v, h1, h2⟩ := he; ⟨v, h1, hz _ _ h2⟩
    case round l f t x y => exact h.mono fun e w' he => let ⟨v, h1, h2⟩ := he; ⟨v, h1, hz _ _ h2⟩
  | halt x w => simp only [Out] at h

theorem Out.any {Z : Value → World → Prop} {r : Result Next} (h : Out P Z r) : ∃ v w, Z v w := by
  cases r with
  | ok n w =>
    cases n <;> simp only [Out] at h
    case value v => exact ⟨_, _, h⟩
    case skip => exact ⟨_, _, h⟩
    case enter f args =>
      obtain ⟨e, w', fr, ⟨v, h1, h2⟩, _⟩ := h []
      exact ⟨v, w', h2⟩
    case round l f t x y =>
      obtain ⟨e, w', ⟨v, h1, h2⟩, _⟩ := h.2 default [] (room_wide _)
      exact ⟨v, w', h2⟩
  | halt x w => simp only [Out] at h

theorem call_okB {o : Oper} {c : Call} {f : Operand} {st : St} {v : V} {oh' : OH} {L : List Nat} {g0 : Gh} {a0 : Act} {w0 : World} (ho : o.op = .call c) (hc : c.callee = .value f) (hr0 : Rel g0 st a0 w0)
    (hg : Grow L st.oh oh') (h : CallS P B (opd st.env f) (c.args.toList.map (opd st.env)) st.oh v oh') : OpOKB B P o (opd st.env) (callAcc st.oh oh' L v) := by
  intro g oh w ρ hr hB hρ hp hn
  have hsub : ∀ i o, oget st.oh i = some o → oget oh i = some o := fun i o hi => hp i o (normO_2 hi)
  have hl : HR g st.oh w := hr.forget hsub hr0.hr.cl
  have hclv : ∀ x, CLV st.oh (opd st.env x) := fun x => clv_V (opd_rd hr0 x)
  have hmem : ∀ x, x = f ∨ x ∈ c.args → x ∈ o.op.operands := by
    intro x hx
    rw [ho]
    simp only [Op.operands, Call.operands, hc, Array.mem_append]
    rcases hx with rfl | hx
    · left; simp
    · right; exact hx
  have hf := less_V hsub (hclv f) (hρ f (hmem f (.inl rfl)))
  have ha : ArgsR g st.oh (c.args.toList.map (opd st.env)) (c.args.map ρ) := by
    refine ⟨by simp, fun j v x hv hx => ?_⟩
    rw [List.getElem?_map] at hv
    rw [Array.getElem?_map] at hx
    obtain ⟨y, hy, rfl⟩ := Option.map_eq_some_iff.1 hv
    rw [Array.getElem?_toList] at hy
    rw [hy] at hx
    obtain rfl : ρ y = x := by simpa using hx
    exact less_V hsub (hclv y) (hρ y (hmem y (.inr (Array.mem_of_getElem? hy))))
  rw [exec_call ho hc]
  refine (h g w (ρ f) (c.args.map ρ) hl hB hf ha).mono fun x w' hz => ?_
  obtain ⟨g', z1, z2, z3, z4⟩ := hz
  obtain ⟨g3, y1, y2, y3, y4⟩ := HR.back (oh3 := pickO L oh' ++ oh) hsub hr hg (fun i hi hn' => hn i (List.mem_filter.2 ⟨hi, by rw [hn']; rfl⟩)) (pick_over hg hsub) z1 z3 z4
  exact ⟨g3, y1, y3.rdV z2, y2, y4⟩

/-- An accord that is carried out leads on. -/
theorem okB_next {o : Oper} {st : St} {acc : Acc} {g : Gh} {a : Act} {w : World} (hr : Rel g st a w) (hB : g.B = B) (hd : ∀ d, o.dst = some d → d < st.n) (hok : OpOKB B P o (opd st.env) acc)
    (hp : ∀ i ob, (i, ob) ∈ acc.pre → oget st.oh i = some ob) (hn : ∀ i, i ∈ acc.nw → oget st.oh i = none) : ∃ g' a' w', Rel g' (st.app o acc.v acc.post) a' w' ∧ g'.B = B := by
  obtain ⟨v, w', g', h1, h2, h3, h4⟩ := (hok g st.oh w a.eval hr.hr hB (fun x _ => opd_rd hr x) hp hn).any
  exact ⟨g', _, w', hr.put hd h1 h2 h3, h4.B.trans hB⟩

/-! ### who may change places -/
theorem commO_spec {anc : Nat} {y : Fp} : ∀ {l : List (Fp × Nat)} {j : Nat}, commO anc y l j = true → ∀ (m : Nat) (x : Fp × Nat), l[m]? = some x → (x.1.quiet = true ∧ y.quiet = true) ∨ indepF x.1 y = true ∨ Nat.testBit anc (j - 1 - m) = true
  | [], _, _, m, x, hm => by simp at hm
  | x :: r, j, h, m, z, hm => by
    unfold commO at h
    cases hb : ((x.1.quiet && y.quiet) || indepF x.1 y || Nat.testBit anc (j - 1)) with
    | false => rw [hb] at h; cases h
    | true =>
      rw [hb] at h
      cases m with
      | zero =>
        obtain rfl : x = z := by simpa using hm
        simp only [Bool.or_eq_true, Bool.and_eq_true] at hb
        rcases hb with (hb | hb) | hb
        · exact .inl hb
        · exact .inr (.inl hb)
        · exact .inr (.inr hb)
      | succ m =>
        have := commO_spec h m z (by simpa using hm)
        rwa [show j - 1 - (m + 1) = j - 1 - 1 - m by omega]

theorem ancOf_spec {tr : List (Fp × Nat)} {j i : Nat} : ∀ {l : List Edge}, Nat.testBit (ancOf tr j l) i = true → ∃ e ∈ l, Region.binds .any e = true ∧ e.on < j ∧ (i = e.on ∨ Nat.testBit (ancAt tr j e.on) i = true)
  | [], h => by simp [ancOf] at h
  | e :: r, h => by
    unfold ancOf at h
    cases hb : (Region.binds .any e && Nat.blt e.on j) with
    | false =>
      rw [hb] at h
      obtain ⟨e', h1, h2⟩ := ancOf_spec (l := r) h
      exact ⟨e', by simp [h1], h2⟩
    | true =>
      rw [hb] at h
      simp only [cond_true] at h
      have h' : Nat.testBit (2 ^ e.on ||| ancAt tr j e.on ||| ancOf tr j r) i = true := h
      rw [Nat.testBit_or, Nat.testBit_or, Nat.testBit_two_pow] at h'
      simp only [Bool.or_eq_true, decide_eq_true_eq] at h'
      simp only [Bool.and_eq_true, Nat.blt_eq] at hb
      rcases h' with (h' | h') | h'
      · exact ⟨e, by simp, hb.1, hb.2, .inl h'.symm⟩
      · exact ⟨e, by simp, hb.1, hb.2, .inr h'⟩
      · obtain ⟨e', h1, h2⟩ := ancOf_spec (l := r) h'
        exact ⟨e', by simp [h1], h2⟩

theorem disjL_spec : ∀ {l m : List Nat}, disjL l m = true → ∀ i, i ∈ l → i ∉ m
  | [], _, _, i, hi => by simp at hi
  | a :: r, m, h, i, hi => by
    unfold disjL at h
    cases hb : m.any (fun b => Nat.beq a b) with
    | true => rw [hb] at h; cases h
    | false =>
      rw [hb] at h
      rcases List.mem_cons.1 hi with rfl | hi
      · intro hm
        have := List.any_eq_false.1 hb i hm
        exact this (by simp)
      · exact disjL_spec h i hi
theorem allGe_spec {n : Nat} : ∀ {l : List Nat}, allGe n l = true → ∀ i, i ∈ l → n ≤ i
  | [], _, i, hi => by simp at hi
  | a :: r, h, i, hi => by
    unfold allGe at h
    cases hb : Nat.ble n a with
    | false => rw [hb] at h; cases h
    | true =>
      rw [hb] at h
      rcases List.mem_cons.1 hi with rfl | hi
      · exact Nat.le_of_ble_eq_true hb
      · exact allGe_spec h i hi

theorem disj_of {l m : List Nat} (h : ∀ i, i ∈ l → i ∉ m) : disj l m = true := by
  unfold disj
  rw [List.all_eq_true]
  intro i hi
  rw [List.all_eq_true]
  intro j hj
  simp only [Bool.not_eq_true', decide_eq_false_iff_not]
  rintro rfl
  exact h i hi hj

theorem indep_of {a b : Acc} (h1 : ∀ i, i ∈ a.wr → i ∉ b.all) (h2 : ∀ i, i ∈ b.wr → i ∉ a.all) : indep (some a) (some b) = true := by
  simp only [indep, disj_of h1, disj_of h2, Bool.and_self]

theorem fp_indep {x y : Fp} {a b : Option Acc} (ha : FpOK x a) (hb : FpOK y b) (h : (x.quiet = true ∧ y.quiet = true) ∨ indepF x y = true) : indep a b = true := by
  cases a with
  | none => rfl
  | some a =>
    cases b with
    | none => cases h <;> rfl
    | some b =>
      have opwr : ∀ {all wr : List Nat} {a : Acc}, FpOK (.op all wr) (some a) → (∀ i, i ∈ a.wr ↔ i ∈ wr) ∧ (∀ i, i ∈ a.all ↔ i ∈ all) := by
        rintro all wr a ⟨h1, h2⟩
        subst h1; subst h2
        exact ⟨fun i => Iff.rfl, fun i => by simp only [Acc.all, Acc.wr, idsOf, List.mem_append, or_assoc]⟩
      cases x with
      | skip => exact ha.elim
      | op al wr =>
        obtain ⟨a1, a2⟩ := opwr ha
        cases y with
        | skip => exact hb.elim
        | op bl br =>
          obtain ⟨b1, b2⟩ := opwr hb
          rcases h with ⟨q1, q2⟩ | h
          · simp only [Fp.quiet, List.isEmpty_iff] at q1 q2
            exact indep_of (fun i hi => by have := (a1 i).1 hi; simp [q1] at this) (fun i hi => by have := (b1 i).1 hi; simp [q2] at this)
          · simp only [indepF, Bool.and_eq_true] at h
            exact indep_of (fun i hi hm => disjL_spec h.1 i ((a1 i).1 hi) ((b2 i).1 hm)) (fun i hi hm => disjL_spec h.2 i ((b1 i).1 hi) ((a2 i).1 hm))
        | call n br =>
          obtain ⟨b1, b2⟩ := hb
          rcases h with ⟨_, q2⟩ | h
          · cases q2
          · simp only [indepF, Bool.and_eq_true, List.isEmpty_iff] at h
            exact indep_of (fun i hi => by have := (a1 i).1 hi; simp [h.1] at this) (fun i hi hm => disjL_spec h.2 i (b1 i hi) ((a2 i).1 hm))
      | call n ar =>
        obtain ⟨a1, a2⟩ := ha
        cases y with
        | skip => exact hb.elim
        | op bl br =>
          obtain ⟨b1, b2⟩ := opwr hb
          rcases h with ⟨q1, _⟩ | h
          · cases q1
          · simp only [indepF, Bool.and_eq_true] at h
            refine indep_of (fun i hi hm => disjL_spec h.2 i (a1 i hi) ((b2 i).1 hm)) (fun i hi hm => ?_)
            have hi' := (b1 i).1 hi
            have hge := allGe_spec h.1 i hi'
            unfold Acc.all at hm
            rcases List.mem_append.1 hm with hm | hm
            · have := a2 i hm; omega
            · refine disjL_spec h.2 i (a1 i hm) ((b2 i).1 ?_)
              unfold Acc.all; exact List.mem_append.2 (.inr hi)
        | call m br =>
          rcases h with ⟨q1, _⟩ | h
          · cases q1
          · cases h

end
end Go.Ev
