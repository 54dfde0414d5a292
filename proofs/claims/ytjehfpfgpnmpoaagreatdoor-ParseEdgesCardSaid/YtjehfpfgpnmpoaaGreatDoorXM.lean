/-
  OWN LAYER 'Ev', PART XM: WHAT THE RUN COMPUTES IS WHAT THE MACHINE DOES (tables, states).
-/
import Derived.Test.YtjehfpfgpnmpoaaGreatDoorXK
import Derived.RangeFuncLeaves
set_option linter.all false
namespace Go.Ev

theorem Tr.get_nil {α : Type} (n : Nat) : (Tr.nil : Tr α).get n = none := rfl
theorem Tr.get_node {α : Type} (v : Option α) (l r : Tr α) (n : Nat) : (Tr.node v l r).get n = bif Nat.beq n 0 then v else bif Nat.beq (n % 2) 1 then l.get (n / 2) else r.get (n / 2 - 1) := by
  show Bool.rec (motive := fun _ => Option α) (Bool.rec (motive := fun _ => Option α) (r.get (n / 2 - 1)) (l.get (n / 2)) (Nat.beq (n % 2) 1)) v (Nat.beq n 0) = _
  cases Nat.beq n 0 <;> cases Nat.beq (n % 2) 1 <;> rfl
theorem Tr.setF_node {α : Type} (f : Nat) (v : Option α) (l r : Tr α) (n : Nat) (x : α) : Tr.setF (f + 1) (.node v l r) n x = bif Nat.beq n 0 then Tr.node (some x) l r else bif Nat.beq (Nat.mod n 2) 1 then Tr.node v (Tr.setF f l (Nat.div n 2) x) r else Tr.node v l (Tr.setF f r (Nat.pred (Nat.div n 2)) x) := by
  show Bool.rec (motive := fun _ => Tr α) (Bool.rec (motive := fun _ => Tr α) (.node v l (Tr.setF f r (Nat.pred (Nat.div n 2)) x)) (.node v (Tr.setF f l (Nat.div n 2) x) r) (Nat.beq (Nat.mod n 2) 1)) (.node (some x) l r) (Nat.beq n 0) = _
  cases Nat.beq n 0 <;> cases Nat.beq (Nat.mod n 2) 1 <;> rfl
theorem Tr.setF_nil {α : Type} (f : Nat) (n : Nat) (x : α) : Tr.setF (f + 1) .nil n x = Tr.setF (f + 1) (.node none .nil .nil) n x := by
  show Bool.rec (motive := fun _ => Tr α) (Bool.rec (motive := fun _ => Tr α) (.node none .nil (Tr.setF f .nil (Nat.pred (Nat.div n 2)) x)) (.node none (Tr.setF f .nil (Nat.div n 2) x) .nil) (Nat.beq (Nat.mod n 2) 1)) (.node (some x) .nil .nil) (Nat.beq n 0) = _
  rw [Tr.setF_node]
  cases Nat.beq n 0 <;> cases Nat.beq (Nat.mod n 2) 1 <;> rfl

theorem Tr.get_setF {α : Type} (x : α) : ∀ (f : Nat) (t : Tr α) (n m : Nat), n < f → (Tr.setF f t n x).get m = if m = n then some x else t.get m
  | 0, _, _, _, h => absurd h (by omega)
  | f + 1, t, n, m, h => by
    have ih := Tr.get_setF x f
    have key : ∀ (v : Option α) (l r : Tr α), (bif Nat.beq n 0 then Tr.node (some x) l r else bif Nat.beq (Nat.mod n 2) 1 then Tr.node v (Tr.setF f l (Nat.div n 2) x) r else Tr.node v l (Tr.setF f r (Nat.pred (Nat.div n 2)) x)).get m = if m = n then some x else (Tr.node v l r).get m := by
      intro v l r
      by_cases hn : n = 0
      · subst hn
        rw [show Nat.beq 0 0 = true from rfl, cond_true, get_node, get_node]
        by_cases hm : m = 0
        · subst hm; rfl
        · have : Nat.beq m 0 = false := by rw [← Bool.not_eq_true, Nat.beq_eq]; exact hm
          simp [this, hm]
      · have h0 : Nat.beq n 0 = false := by rw [← Bool.not_eq_true, Nat.beq_eq]; exact hn
        rw [h0, cond_false]
        by_cases hodd : n % 2 = 1
        · have h1 : Nat.beq (Nat.mod n 2) 1 = true := by rw [Nat.beq_eq]; exact hodd
          rw [h1, cond_true, get_node, get_node]
          have hlt : Nat.div n 2 < f := by show n / 2 < f; omega
          rw [ih l _ _ hlt]
          by_cases hm : m = 0
          · subst hm; simp [Ne.symm hn]
          · have hm0 : Nat.beq m 0 = false := by rw [← Bool.not_eq_true, Nat.beq_eq]; exact hm
            rw [hm0, cond_false, cond_false]
            by_cases hmo : m % 2 = 1
            · have : Nat.beq (m % 2) 1 = true := by rw [Nat.beq_eq]; exact hmo
              rw [this, cond_true, cond_true]
              have e : (m / 2 = Nat.div n 2) ↔ m = n := by show (m / 2 = n / 2) ↔ _; omega
              simp only [e]
            · have : Nat.beq (m % 2) 1 = false := by rw [← Bool.not_eq_true, Nat.beq_eq]; exact hmo
              rw [this, cond_false, cond_false, if_neg]
              intro e; subst e; exact hmo hodd
        · have h1 : Nat.beq (Nat.mod n 2) 1 = false := by rw [← Bool.not_eq_true, Nat.beq_eq]; exact hodd
          rw [h1, cond_false, get_node, get_node]
          have hlt : Nat.pred (Nat.div n 2) < f := by show n / 2 - 1 < f; omega
          rw [ih r _ _ hlt]
          by_cases hm : m = 0
          · subst hm; simp [Ne.symm hn]
          · have hm0 : Nat.beq m 0 = false := by rw [← Bool.not_eq_true, Nat.beq_eq]; exact hm
            rw [hm0, cond_false, cond_false]
            by_cases hmo : m % 2 = 1
            · have : Nat.beq (m % 2) 1 = true := by rw [Nat.beq_eq]; exact hmo
              rw [this, cond_true, cond_true, if_neg]
              intro e; subst e; exact hodd hmo
            · have : Nat.beq (m % 2) 1 = false := by rw [← Bool.not_eq_true, Nat.beq_eq]; exact hmo
              rw [this, cond_false, cond_false]
              have e : (m / 2 - 1 = Nat.pred (Nat.div n 2)) ↔ m = n := by show (m / 2 - 1 = n / 2 - 1) ↔ _; omega
              simp only [e]
    cases t with
    | nil =>
      have := key none .nil .nil
      rw [Tr.setF_nil, Tr.setF_node]
      refine Eq.trans this ?_
      rw [get_node, Tr.get_nil]
      congr 1
      cases Nat.beq m 0 <;> cases Nat.beq (m % 2) 1 <;> rfl
    | node v l r => rw [Tr.setF_node]; exact key v l r

theorem Tr.get_set {α : Type} (t : Tr α) (n : Nat) (x : α) (m : Nat) : (t.set n x).get m = if m = n then some x else t.get m :=
  Tr.get_setF x (n + 1) t n m (by omega)

/-- A slot's value. -/
noncomputable def slot (e : Tr V) (t : Nat) : V := match e.get t with | some v => v | none => .undef

/-- The run's state and the pure one. -/
structure XR (s : Xs) (st : St) : Prop where
  env : ∀ t, eget st.env t = slot s.env t
  oh : ∀ i, oget st.oh i = s.h.get i
  fresh : ∀ i, s.nx ≤ i → oget st.oh i = none

theorem XR.operand {s : Xs} {st : St} (h : XR s st) (x : Operand) : xopd s.env x = Go.Ev.opd st.env x := by
  cases x with
  | tmp t => exact (h.env t).symm
  | _ => rfl

theorem XR.opdf {s : Xs} {st : St} (h : XR s st) : xopd s.env = Go.Ev.opd st.env := funext h.operand

theorem putAll_get : ∀ (p : OH) (h : Tr Obj) (i : Nat), (putAll p h).get i = (match oget p i with | some o => some o | none => h.get i)
  | [], _, _ => rfl
  | (c, o) :: r, h, i => by
    unfold putAll
    rw [Tr.get_set, putAll_get r h i]
    simp only [oget]
    by_cases e : c = i
    · subst e; simp
    · rw [if_neg (fun q => e q.symm), if_neg e]

theorem forceN_eq {R : Type} (n : Nat) (K : Nat → R) : forceN n K = K n := by cases n <;> rfl
theorem forceI_eq {R : Type} (n : Int) (K : Int → R) : forceI n K = K n := by cases n <;> simp only [forceI, forceN_eq]
theorem forceV_eq {R : Type} (v : V) (K : V → R) : forceV v K = K v := by
  cases v with
  | con x =>
    cases x with
    | bool b => cases b <;> rfl
    | int k n => simp only [forceV, forceI_eq]
    | _ => rfl
  | ref a b c d => simp only [forceV, forceN_eq]
  | own a b c d => simp only [forceV, forceN_eq]
  | _ => rfl

noncomputable def putS (d : Option Tmp) (v : V) (s : Xs) : Xs := match d with | some t => { s with env := s.env.set t v } | none => s
theorem putX_eq (d : Option Tmp) (v : V) (s : Xs) (K : Xs → Bool) : putX d v s K = K (putS d v s) := by
  cases d with
  | none => rfl
  | some t => simp only [putX, forceV_eq, putS]

theorem putS_h (d : Option Tmp) (v : V) (s : Xs) : (putS d v s).h = s.h ∧ (putS d v s).nx = s.nx ∧ (putS d v s).df = s.df ∧ (putS d v s).lg = s.lg := by cases d <;> exact ⟨rfl, rfl, rfl, rfl⟩

theorem slot_set (e : Tr V) (t : Nat) (v : V) (i : Nat) : slot (e.set t v) i = if i = t then v else slot e i := by
  unfold slot
  rw [Tr.get_set]
  by_cases h : i = t <;> simp [h]

theorem XR.put {s : Xs} {st : St} (h : XR s st) (o : Oper) (v : V) : XR (putS o.dst v s) (st.app o v []) := by
  obtain ⟨h1, h2, h3⟩ := h
  unfold St.app putS
  cases hd : o.dst with
  | none => exact ⟨h1, h2, h3⟩
  | some d =>
    refine ⟨fun t => ?_, h2, h3⟩
    simp only [eget_cons, slot_set]
    by_cases e : d = t
    · subst e; simp
    · rw [if_neg e, if_neg (fun q => e q.symm)]; exact h1 t

theorem nxAfter_ge : ∀ (p : OH) (n : Nat), n ≤ nxAfter p n
  | [], n => Nat.le_refl _
  | q :: r, n => by
    unfold nxAfter
    refine Nat.le_trans ?_ (nxAfter_ge r _)
    cases h : Nat.ble n q.1 with
    | true => have := Nat.le_of_ble_eq_true h; simp only [cond_true]; omega
    | false => exact Nat.le_refl _
theorem nxAfter_lt : ∀ (p : OH) (n : Nat) (i : Nat) (o : Obj), oget p i = some o → i < nxAfter p n
  | [], n, i, o, h => by simp [oget] at h
  | q :: r, n, i, o, h => by
    unfold nxAfter
    by_cases e : q.1 = i
    · refine Nat.lt_of_lt_of_le ?_ (nxAfter_ge r _)
      cases hb : Nat.ble n q.1 with
      | true => simp only [cond_true]; omega
      | false =>
        have : ¬ n ≤ q.1 := fun hh => by rw [Nat.ble_eq_true_of_le hh] at hb; cases hb
        simp only [cond_false]; omega
    · refine nxAfter_lt r _ i o ?_
      obtain ⟨c, ob⟩ := q
      simp only [oget] at h
      rw [if_neg e] at h; exact h

/-- The state behind an accord. -/
noncomputable def aft (a : Acc) (d : Option Tmp) (s : Xs) : Xs := putS d a.v { s with h := putAll a.post s.h, nx := nxAfter a.post s.nx, lg := idsOf a.post ++ s.lg }
theorem applyA_eq (a : Acc) (d : Option Tmp) (s : Xs) (K : Xs → Bool) : applyA a d s K = K (aft a d s) := by
  unfold applyA aft
  split
  · rename_i h; rw [putX_eq, h]; rfl
  · rw [forceN_eq, putX_eq]; rfl

theorem XR.app {s : Xs} {st : St} (h : XR s st) (o : Oper) (a : Acc) : XR (aft a o.dst s) (st.app o a.v a.post) := by
  obtain ⟨h1, h2, h3⟩ := h
  have key : XR { s with h := putAll a.post s.h, nx := nxAfter a.post s.nx, lg := idsOf a.post ++ s.lg } { st with oh := a.post ++ st.oh } := by
    refine ⟨h1, fun i => ?_, fun i hi => ?_⟩
    · show oget (a.post ++ st.oh) i = (putAll a.post s.h).get i
      rw [putAll_get, oget_append, h2 i]
      cases oget a.post i <;> rfl
    · simp only [oget_append]
      cases hp : oget a.post i with
      | some o => have := nxAfter_lt a.post s.nx i o hp; simp only at hi; omega
      | none => exact h3 i (Nat.le_trans (nxAfter_ge _ _) hi)
  have := key.put o a.v
  unfold aft
  simpa [St.app] using this

/-- How the objects went on; 'L': those that were written. -/
structure Grow (L : List Nat) (oh oh' : OH) : Prop where
  same : ∀ i, i ∉ L → oget oh' i = oget oh i
  some_ : ∀ i, i ∈ L → (oget oh' i).isSome = true

theorem Grow.refl (oh : OH) : Grow [] oh oh := ⟨fun _ _ => rfl, by simp⟩
theorem Grow.trans {L M : List Nat} {a b c : OH} (h : Grow L a b) (k : Grow M b c) : Grow (M ++ L) a c := by
  refine ⟨fun i hi => ?_, fun i hi => ?_⟩
  · simp only [List.mem_append, not_or] at hi
    rw [k.same i hi.1, h.same i hi.2]
  · by_cases hm : i ∈ M
    · exact k.some_ i hm
    · rw [k.same i hm]
      simp only [List.mem_append] at hi
      exact h.some_ i (hi.resolve_left hm)
theorem Grow.app (p oh : OH) : Grow (idsOf p) oh (p ++ oh) := by
  refine ⟨fun i hi => ?_, fun i hi => ?_⟩
  · rw [oget_append, oget_notin hi]
  · obtain ⟨o, ho⟩ := oget_in hi
    rw [oget_append, ho]; rfl

end Go.Ev
