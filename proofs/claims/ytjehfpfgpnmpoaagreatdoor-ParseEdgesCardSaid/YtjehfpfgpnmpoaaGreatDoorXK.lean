/-
  OWN LAYER 'Ev', PART XK: STATES AND THE MACHINE; A REGION THAT DRAWS ITS ORDER (behind a fence without bounds, so in rounds too).
-/
import Derived.Test.YtjehfpfgpnmpoaaGreatDoorXC
import Derived.Test.YtjehfpfgpnmpoaaGreatDoorXA3
import Derived.OrdersIn
import Derived.DefersIn
set_option linter.all false
namespace Go.Ev

/-- The deferred calls. -/
def DfRel (g : Gh) (oh : OH) : List Df → List Deferred → Prop
  | [], [] => True
  | .coll d :: r, e :: s => (∃ D, e = { target := .collected D, args := #[] } ∧ RdV1 g oh (.ref d 0 0 0) (.pointer (some ⟨D, 0, none⟩))) ∧ DfRel g oh r s
  | .call f args :: r, e :: s => (∃ fv : Value, RdV g oh f fv ∧ ∃ xs : Array Value, xs.size = args.length ∧ (∀ (j : Nat) (v : V) (x : Value), args[j]? = some v → xs[j]? = some x → RdV g oh v x) ∧ ∀ (P : Program) (w : World), (Deferred.ofValue fv xs).run P w = .ok e w) ∧ DfRel g oh r s
  | _, _ => False

theorem DfRel.mono {g g' : Gh} {oh oh' : OH} (h : Mono g oh g' oh') : ∀ {l : List Df} {m : List Deferred}, DfRel g oh l m → DfRel g' oh' l m
  | [], [], _ => trivial
  | .coll d :: r, e :: s, ⟨⟨D, h1, h2⟩, h3⟩ => ⟨⟨D, h1, h _ _ h2⟩, h3.mono h⟩
  | .call f args :: r, e :: s, ⟨⟨fv, h1, xs, h2, h3, h4⟩, h5⟩ => ⟨⟨fv, h.rdV h1, xs, h2, fun j v x a b => h.rdV (h3 j v x a b), h4⟩, h5.mono h⟩
  | [], _ :: _, h => h.elim
  | .coll _ :: _, [], h => h.elim
  | .call _ _ :: _, [], h => h.elim

/-- A state and the machine's. -/
structure Rel (g : Gh) (s : St) (a : Act) (w : World) : Prop where
  hr : HR g s.oh w
  sz : a.tmps.size = s.n
  env : ∀ t, RdV g s.oh (eget s.env t) (a.tmps.getD t Go.undef)

section
variable {P : Program} {g : Gh} {s : St} {a : Act} {w : World}

/-- The operation does what 'a' says, wherever the base is B. -/
def OpOKB (Bs : Sto) (P : Program) (o : Oper) (e : Operand → V) (a : Acc) : Prop :=
  ∀ (g : Gh) (oh : OH) (w : World) (ρ : Operand → Value), HR g oh w → g.B = Bs → (∀ x, x ∈ o.op.operands → RdV g oh (e x) (ρ x)) →
    (∀ i ob, (i, ob) ∈ a.pre → oget oh i = some ob) → (∀ i, i ∈ a.nw → oget oh i = none) →
    Out P (Behind g oh w a) ((execOp ρ o).run P w)
theorem OpOK.toB {Bs : Sto} {P : Program} {o : Oper} {e : Operand → V} {a : Acc} (h : OpOK P o e a) : OpOKB Bs P o e a := fun g oh w ρ a _ => h g oh w ρ a

theorem opd_rd (h : Rel g s a w) (x : Operand) : RdV g s.oh (opd s.env x) (a.eval x) := by
  cases x with
  | tmp t => exact h.env t
  | const v => exact ofConst_ok v
  | global q => exact ⟨rfl, rfl⟩
  | func f => exact ⟨rfl, rfl⟩

theorem eget_cons (d : Nat) (v : V) (e : Env) (t : Nat) : eget ((d, v) :: e) t = if d = t then v else eget e t := by
  rfl

/-- Behind an operation. -/
theorem Rel.put {o : Oper} {post : OH} {g' : Gh} {w' : World} {v : V} {x : Value} (h : Rel g s a w) (hd : ∀ d, o.dst = some d → d < s.n) (h1 : HR g' (post ++ s.oh) w')
    (hv : RdV g' (post ++ s.oh) v x) (hm : Mono g s.oh g' (post ++ s.oh)) : Rel g' (s.app o v post) (a.put o.dst x) w' := by
  cases hdst : o.dst with
  | none =>
    refine ⟨h1, h.sz, fun t => ?_⟩
    simp only [St.app, hdst, Act.put]
    exact hm.rdV (h.env t)
  | some d =>
    refine ⟨h1, by simp [Act.put, St.app, h.sz], fun t => ?_⟩
    simp only [St.app, hdst, Act.put, eget_cons]
    by_cases e : d = t
    · subst e
      have hlt : d < a.tmps.size := by rw [h.sz]; exact hd d hdst
      rw [if_pos rfl, Array.getD_eq_getD_getElem?, Array.getElem?_setIfInBounds_self_of_lt hlt]
      exact hv
    · rw [if_neg e, Array.getD_eq_getD_getElem?, Array.getElem?_setIfInBounds_ne e, ← Array.getD_eq_getD_getElem?]
      exact hm.rdV (h.env t)

theorem getD_put_undef (tm : Array Value) (d : Nat) : (tm.setIfInBounds d Go.undef).getD d Go.undef = Go.undef := by
  rw [Array.getD_eq_getD_getElem?]
  by_cases h : d < tm.size
  · rw [Array.getElem?_setIfInBounds_self_of_lt h]; rfl
  · rw [Array.getElem?_eq_none (by simpa using h)]; rfl

theorem Rel.skip {o : Oper} {u : V} (hu : RdV g s.oh u Go.undef) (h : Rel g s a w) : Rel g (s.app o u []) (a.put o.dst Go.undef) w := by
  cases hdst : o.dst with
  | none => exact ⟨by simpa [St.app] using h.hr, h.sz, fun t => by simpa [St.app, hdst, Act.put] using h.env t⟩
  | some d =>
    refine ⟨by simpa [St.app] using h.hr, by simp [Act.put, St.app, h.sz], fun t => ?_⟩
    simp only [St.app, hdst, Act.put, eget_cons, List.nil_append]
    by_cases e : d = t
    · subst e
      rw [if_pos rfl, getD_put_undef]; exact hu
    · rw [if_neg e, Array.getD_eq_getD_getElem?, Array.getElem?_setIfInBounds_ne e, ← Array.getD_eq_getD_getElem?]
      exact h.env t

theorem skip_val : RdV g s.oh (.tup []) Go.undef := ⟨#[], rfl, rfl, by simp⟩

/-- The fence within which all is run: no bounds; a round's number. -/
def FW (rd : Option Nat) : Fence := { fn := fun _ => True, depth := none, alive := false, round := rd }
theorem FW_none : FW none = Fence.wide := rfl
theorem fw_room (rd : Option Nat) (n : Nat) : (FW rd).room n := fun _ h => by simp [FW] at h
theorem callsIn_fw {rd : Option Nat} {n : Nat} {f : FuncId} {args : Array Value} {R : Ending → World → Prop} (h : Calls P f args w R) : CallsIn (FW rd) n P f args w R :=
  (callsIn_wide (n := n)).2 h
theorem roundIn_fw {rd : Option Nat} {n m : Nat} {l : Nat} {f : FuncId} {tmps : Array Value} {a b : Code} {R : Ending → World → Prop} (h : RoundIn Fence.wide m P l f tmps a b w R) : RoundIn (FW rd) n P l f tmps a b w R :=
  ⟨trivial, fun c cs _ => h.2 c cs (room_wide _)⟩

/-- From what an operation comes to, to the calculus. -/
theorem wp_of_out {o : Oper} {rd : Option Nat} {nn : Nat} {K : Act → World → Prop} {Q : Exit → Act → World → Prop} {Z : Value → World → Prop} (hd : ∀ c, o.op ≠ .defer c) (h : Out P Z ((execOp a.eval o).run P w))
    (hk : ∀ v w', Z v w' → K (a.put o.dst v) w') : o.wpIn (FW rd) nn P a w K Q := by
  unfold Oper.wpIn
  rw [Oper.semAt_eq _ _ _ hd]
  refine ⟨fun _ _ => trivial, ?_⟩
  generalize (execOp a.eval o).run P w = r at *
  cases r with
  | ok n w' =>
    cases n <;> simp only [Out] at h <;> simp only [Oper.uponIn]
    case value v => exact hk _ _ h
    case skip => exact hk _ _ h
    case enter f args =>
      refine ⟨fun e => by simp [FW] at e, (callsIn_fw h).mono fun e w'' he => ?_⟩
      obtain ⟨v, rfl, hz⟩ := he
      exact hk _ _ hz
    case round l f t x y =>
      refine ⟨fun e => by simp [FW] at e, (roundIn_fw h).mono fun e w'' he => ?_⟩
      obtain ⟨v, rfl, hz⟩ := he
      exact hk _ _ hz
  | halt x w' => simp only [Out] at h

/-- An accord, carried out in a state. -/
theorem step_wp {Bs : Sto} {o : Oper} {rd : Option Nat} {nn : Nat} {acc : Acc} {K : Act → World → Prop} {Q : Exit → Act → World → Prop} (hnd : ∀ c, o.op ≠ .defer c) (h : Rel g s a w) (hd : ∀ d, o.dst = some d → d < s.n) (hB : g.B = Bs) (hok : OpOKB Bs P o (opd s.env) acc)
    (hp : ∀ i ob, (i, ob) ∈ acc.pre → oget s.oh i = some ob) (hn : ∀ i, i ∈ acc.nw → oget s.oh i = none)
    (hk : ∀ g' a' w', Rel g' (s.app o acc.v acc.post) a' w' → Fr g s.oh w g' (acc.post ++ s.oh) w' → Mono g s.oh g' (acc.post ++ s.oh) → a'.defers = a.defers → K a' w') : o.wpIn (FW rd) nn P a w K Q := by
  refine wp_of_out hnd (hok g s.oh w a.eval h.hr hB (fun x _ => opd_rd h x) hp hn) fun v w' hz => ?_
  obtain ⟨g', h1, h2, h3, h4⟩ := hz
  exact hk g' _ w' (h.put hd h1 h2 h3) h4 h3 (by cases o.dst <;> rfl)

theorem guard_yields {ops : Array Oper} {j : Nat} {b : Bool} (h : Rel g s a w) (hg : guardVal ops s.env j = .con (.bool b)) : yielded ops a.tmps j = some b := by
  unfold guardVal at hg
  unfold yielded
  cases hd : (ops[j]?).bind (·.dst) with
  | none => simp [hd] at hg
  | some d =>
    simp only [hd] at hg
    have := h.env d
    rw [hg] at this
    have hx : a.tmps.getD d Go.undef = .bool b := this.1
    have : a.tmps[d]? = some (.bool b) := by
      rw [Array.getD_eq_getD_getElem?] at hx
      cases hq : a.tmps[d]? with
      | none => rw [hq] at hx; simp [Go.undef] at hx
      | some q => rw [hq] at hx; simpa using hx
    simp [this]


theorem guard_skipped {ops : Array Oper} {j : Nat} (h : Rel g s a w) (hg : guardVal ops s.env j = .tup []) : yielded ops a.tmps j = none := by
  unfold guardVal at hg
  unfold yielded
  cases hd : (ops[j]?).bind (·.dst) with
  | none => simp [hd] at hg
  | some d =>
    simp only [hd] at hg
    have := h.env d
    rw [hg] at this
    obtain ⟨vs, hx, _⟩ := this
    cases hq : a.tmps[d]? with
    | none => simp [hq]
    | some q =>
      rw [Array.getD_eq_getD_getElem?, hq] at hx
      simp only [Option.getD_some] at hx
      subst hx
      simp [hq]
end
def Eqv (s t : St) : Prop := s.n = t.n ∧ (∀ i, eget s.env i = eget t.env i) ∧ ∀ i, oget s.oh i = oget t.oh i

theorem Eqv.refl (s : St) : Eqv s s := ⟨rfl, fun _ => rfl, fun _ => rfl⟩
theorem Eqv.symm {s t : St} (h : Eqv s t) : Eqv t s := ⟨h.1.symm, fun i => (h.2.1 i).symm, fun i => (h.2.2 i).symm⟩
theorem Eqv.trans {s t u : St} (h : Eqv s t) (k : Eqv t u) : Eqv s u := ⟨h.1.trans k.1, fun i => (h.2.1 i).trans (k.2.1 i), fun i => (h.2.2 i).trans (k.2.2 i)⟩

theorem opd_eqv {s t : St} (h : Eqv s t) : opd s.env = opd t.env := by
  funext x; cases x <;> first | exact h.2.1 _ | rfl

theorem oget_append (p oh : OH) (i : Nat) : oget (p ++ oh) i = (match oget p i with | some o => some o | none => oget oh i) := by
  induction p with
  | nil => rfl
  | cons q r ih =>
    obtain ⟨c, o⟩ := q
    simp only [List.cons_append, oget]
    by_cases h : c = i <;> simp [ih, h]

theorem oget_mem {p : OH} {i : Nat} {o : Obj} (h : oget p i = some o) : i ∈ p.map (·.1) := by
  induction p with
  | nil => simp [oget] at h
  | cons q r ih =>
    obtain ⟨c, o'⟩ := q
    by_cases e : i = c
    · simp [e]
    · rw [oget_cons_other _ _ e] at h; simp [ih h]

theorem oget_notin {p : OH} {i : Nat} (h : i ∉ p.map (·.1)) : oget p i = none := by
  cases hq : oget p i with
  | none => rfl
  | some o => exact absurd (oget_mem hq) h

theorem oget_in {p : OH} {i : Nat} (h : i ∈ p.map (·.1)) : ∃ o, oget p i = some o := by
  induction p with
  | nil => simp at h
  | cons q r ih =>
    obtain ⟨c, o'⟩ := q
    by_cases e : i = c
    · subst e; exact ⟨o', oget_cons_same _ _ _⟩
    · rw [oget_cons_other _ _ e]; exact ih (by simpa [e] using h)

theorem app_eqv {s t : St} (h : Eqv s t) (o : Oper) (v : V) (post : OH) : Eqv (s.app o v post) (t.app o v post) := by
  refine ⟨h.1, fun i => ?_, fun i => ?_⟩
  · cases hd : o.dst with
    | none => simpa [St.app, hd] using h.2.1 i
    | some d => simp only [St.app, hd, eget_cons, h.2.1 i]
  · simp only [St.app, oget_append, h.2.2 i]

section
variable {Bs : Sto} {P : Program} {ops : Array Oper}

def Wanted (ops : Array Oper) (o : Oper) (e : Env) : Prop := match o.guard with | none => True | some (j, want) => guardVal ops e j = .con (.bool want)
def Unwanted (ops : Array Oper) (o : Oper) (e : Env) : Prop := match o.guard with | none => False | some (j, want) => guardVal ops e j = .con (.bool (!want)) ∨ guardVal ops e j = .tup []

def CondAt (Bs : Sto) (P : Program) (ops : Array Oper) (o : Oper) (s : St) : Option Acc → Prop
  | some a => Wanted ops o s.env ∧ OpOKB Bs P o (opd s.env) a ∧ (∀ i ob, (i, ob) ∈ a.pre → oget s.oh i = some ob) ∧ (∀ i, i ∈ a.nw → oget s.oh i = none)
  | none => Unwanted ops o s.env

def vOf : Option Acc → V
  | some a => a.v
  | none => .tup []
def postOf : Option Acc → OH
  | some a => a.post
  | none => []

abbrev Ev := Oper × Option Acc

def St.go (s : St) (x : Ev) : St := s.app x.1 (vOf x.2) (postOf x.2)

def Runs (Bs : Sto) (P : Program) (ops : Array Oper) : List Ev → St → St → Prop
  | [], s, s' => Eqv s s'
  | x :: l, s, s' => CondAt Bs P ops x.1 s x.2 ∧ Runs Bs P ops l (s.go x) s'

theorem guardVal_eqv {s t : St} (h : Eqv s t) (j : Nat) : guardVal ops s.env j = guardVal ops t.env j := by
  unfold guardVal; cases (ops[j]?).bind (·.dst) <;> first | rfl | exact h.2.1 _

theorem condAt_eqv {s t : St} (h : Eqv s t) {o : Oper} {r : Option Acc} (hc : CondAt Bs P ops o s r) : CondAt Bs P ops o t r := by
  cases r with
  | none =>
    simp only [CondAt, Unwanted] at hc ⊢
    split <;> rename_i hg <;> simp only [hg] at hc
    · rw [← guardVal_eqv h]; exact hc
  | some a =>
    obtain ⟨h1, h2, h3, h4⟩ := hc
    refine ⟨?_, by rw [← opd_eqv h]; exact h2, fun i ob hm => by rw [← h.2.2]; exact h3 i ob hm, fun i hm => by rw [← h.2.2]; exact h4 i hm⟩
    simp only [Wanted] at h1 ⊢
    split <;> rename_i hg <;> simp only [hg] at h1
    · trivial
    · rw [← guardVal_eqv h]; exact h1

theorem runs_eqv : ∀ {l : List Ev} {s t s' : St}, Eqv s t → Runs Bs P ops l s s' → Runs Bs P ops l t s'
  | [], _, _, _, h, hr => h.symm.trans hr
  | _ :: _, _, _, _, h, hr => ⟨condAt_eqv h hr.1, runs_eqv (app_eqv h _ _ _) hr.2⟩

theorem OpOKB.congr {o : Oper} {e e' : Operand → V} {a : Acc} (h : OpOKB Bs P o e a) (he : ∀ x, x ∈ o.op.operands → e x = e' x) : OpOKB Bs P o e' a :=
  fun g oh w ρ hr hB hρ hp hn => h g oh w ρ hr hB (fun x hx => by rw [he x hx]; exact hρ x hx) hp hn

theorem disj_spec {l m : List Nat} (h : disj l m = true) : ∀ i, i ∈ l → i ∉ m := by
  intro i hi hm
  have := List.all_eq_true.1 (List.all_eq_true.1 h i hi) i hm
  simp at this

/-- An operation's condition does not turn, whether another one, apart from it, has gone ahead or not. -/
theorem cond_after {x y : Ev} {s : St} (ha : ∀ d, x.1.dst = some d → d ∉ y.1.looksAt ops) (hp : ∀ i, i ∈ (postOf x.2).map (·.1) → ∀ b, y.2 = some b → i ∉ b.all) :
    CondAt Bs P ops y.1 (s.go x) y.2 ↔ CondAt Bs P ops y.1 s y.2 := by
  have heget : ∀ t, t ∈ y.1.looksAt ops → eget (s.go x).env t = eget s.env t := by
    intro t ht
    unfold St.go St.app
    cases hd : x.1.dst with
    | none => rfl
    | some d =>
      simp only [eget_cons]
      rw [if_neg]
      intro e; subst e; exact ha d hd ht
  have hopd : ∀ z, z ∈ y.1.op.operands → opd (s.go x).env z = opd s.env z := by
    intro z hz
    cases z with
    | tmp t => exact heget t (by
        unfold Oper.looksAt
        refine List.mem_append.2 (.inl ?_)
        exact List.mem_filterMap.2 ⟨.tmp t, by simpa using hz, rfl⟩)
    | _ => rfl
  have hg : ∀ j want, y.1.guard = some (j, want) → guardVal ops (s.go x).env j = guardVal ops s.env j := by
    intro j want hg
    unfold guardVal
    cases hd : (ops[j]?).bind (·.dst) with
    | none => rfl
    | some d => exact heget d (by simp [Oper.looksAt, hg, hd])
  cases hy : y.2 with
  | none =>
    simp only [CondAt, Unwanted]
    split
    · exact Iff.rfl
    · rename_i j want hgd; rw [hg j want hgd]
  | some b =>
    have hoh : ∀ i, i ∈ b.all → oget (s.go x).oh i = oget s.oh i := by
      intro i hi
      show oget (postOf x.2 ++ s.oh) i = _
      rw [oget_append, oget_notin fun hm => hp i hm b hy hi]
    have hpre : ∀ i ob, (i, ob) ∈ b.pre → i ∈ b.all := fun i ob hm => by
      unfold Acc.all; exact List.mem_append.2 (.inl (List.mem_map.2 ⟨_, hm, rfl⟩))
    have hnw : ∀ i, i ∈ b.nw → i ∈ b.all := fun i hm => by
      unfold Acc.all Acc.wr; exact List.mem_append.2 (.inr (List.mem_append.2 (.inl hm)))
    have hw : Wanted ops y.1 (s.go x).env ↔ Wanted ops y.1 s.env := by
      unfold Wanted
      split
      · exact Iff.rfl
      · rename_i j want hgd; rw [hg j want hgd]
    simp only [CondAt]
    constructor
    · rintro ⟨h1, h2, h3, h4⟩
      exact ⟨hw.1 h1, h2.congr hopd, fun i ob hm => by rw [← hoh i (hpre i ob hm)]; exact h3 i ob hm, fun i hm => by rw [← hoh i (hnw i hm)]; exact h4 i hm⟩
    · rintro ⟨h1, h2, h3, h4⟩
      exact ⟨hw.2 h1, h2.congr fun z hz => (hopd z hz).symm, fun i ob hm => by rw [hoh i (hpre i ob hm)]; exact h3 i ob hm, fun i hm => by rw [hoh i (hnw i hm)]; exact h4 i hm⟩

theorem indep_spec {x y : Option Acc} (h : indep x y = true) : (∀ i, i ∈ (postOf x).map (·.1) → ∀ b, y = some b → i ∉ b.all) ∧ (∀ i, i ∈ (postOf y).map (·.1) → ∀ b, x = some b → i ∉ b.all) := by
  cases x with
  | none => exact ⟨by simp [postOf], by simp⟩
  | some a =>
    cases y with
    | none => exact ⟨by simp, by simp [postOf]⟩
    | some b =>
      simp only [indep, Bool.and_eq_true] at h
      refine ⟨fun i hi b' hb => ?_, fun i hi a' ha => ?_⟩
      · cases hb; exact disj_spec h.1 i (by unfold Acc.wr; exact List.mem_append.2 (.inr hi))
      · cases ha; exact disj_spec h.2 i (by unfold Acc.wr; exact List.mem_append.2 (.inr hi))

theorem go_comm {x y : Ev} {s : St} (hd : ∀ d, x.1.dst = some d → y.1.dst ≠ some d) (hp : ∀ i, i ∈ (postOf x.2).map (·.1) → i ∉ (postOf y.2).map (·.1)) :
    Eqv ((s.go x).go y) ((s.go y).go x) := by
  refine ⟨rfl, fun t => ?_, fun i => ?_⟩
  · unfold St.go St.app
    cases hx : x.1.dst with
    | none => cases hy : y.1.dst <;> rfl
    | some d =>
      cases hy : y.1.dst with
      | none => rfl
      | some d' =>
        simp only [eget_cons]
        have : d ≠ d' := fun e => hd d hx (e ▸ hy)
        by_cases h1 : d = t <;> by_cases h2 : d' = t <;> simp_all
  · show oget (postOf y.2 ++ (postOf x.2 ++ s.oh)) i = oget (postOf x.2 ++ (postOf y.2 ++ s.oh)) i
    simp only [oget_append]
    by_cases h1 : i ∈ (postOf x.2).map (·.1)
    · rw [oget_notin (hp i h1)]
    · rw [oget_notin h1]

def Free (ops : Array Oper) (y x : Ev) : Prop := y.1.apart ops x.1 = true ∧ indep y.2 x.2 = true

theorem front {x : Ev} {s' : St} : ∀ (A B : List Ev) (s : St), (∀ y ∈ A, Free ops y x) → Runs Bs P ops (A ++ x :: B) s s' → Runs Bs P ops (x :: (A ++ B)) s s'
  | [], B, s, _, h => h
  | y :: A, B, s, hf, h => by
    obtain ⟨h1, h2⟩ := h
    obtain ⟨h3, h4⟩ := front A B (s.go y) (fun z hz => hf z (by simp [hz])) h2
    obtain ⟨hap, hin⟩ := hf y (by simp)
    obtain ⟨a1, a2, a3⟩ := Oper.apart_spec hap
    obtain ⟨i1, i2⟩ := indep_spec hin
    have hpp : ∀ i, i ∈ (postOf y.2).map (·.1) → i ∉ (postOf x.2).map (·.1) := by
      intro i hi hx
      cases hx2 : x.2 with
      | none => rw [hx2] at hx; simp [postOf] at hx
      | some b =>
        rw [hx2] at hx
        refine i1 i hi b hx2 ?_
        unfold Acc.all Acc.wr; exact List.mem_append.2 (.inr (List.mem_append.2 (.inr hx)))
    refine ⟨(cond_after a1 i1).1 h3, (cond_after a3 i2).2 h1, runs_eqv ?_ h4⟩
    exact go_comm a2 hpp

/-- by a chain of edges -/
inductive Chain (ops : Array Oper) : Nat → Nat → Prop
  | one {i j : Nat} (h : edge ops i j = true) : Chain ops i j
  | more {i j k : Nat} (h : Chain ops i j) (h2 : edge ops j k = true) : Chain ops i k

/-! ### whatever order -/
structure Left (P : Program) (ops : Array Oper) (listed : Array Bool) (L : List (Nat × Ev)) : Prop where
  size : listed.size = ops.size
  at_ : ∀ x ∈ L, ops[x.1]? = some x.2.1
  left : ∀ i, i < ops.size → (listed.getD i true = false ↔ ∃ x ∈ L, x.1 = i)
  rise : L.Pairwise fun x y => x.1 < y.1
  free : L.Pairwise fun x y => Chain ops x.1 y.1 ∨ Free ops x.2 y.2
  down : ∀ i j, j < ops.size → listed.getD j true = true → edge ops i j = true → i < ops.size → listed.getD i true = true

theorem getD_set_true {l : Array Bool} {i j : Nat} (h : l.getD j true = true) : (l.setIfInBounds i true).getD j true = true := by
  rw [Array.getD_eq_getD_getElem?] at h ⊢
  by_cases e : i = j
  · subst e
    by_cases hl : i < l.size
    · rw [Array.getElem?_setIfInBounds_self_of_lt hl]; rfl
    · rw [Array.getElem?_eq_none (by simpa using hl)]; rfl
  · rw [Array.getElem?_setIfInBounds_ne e]; exact h

theorem Left.take {listed : Array Bool} {A B : List (Nat × Ev)} {x : Nat × Ev} (h : Left P ops listed (A ++ x :: B)) (hrd : ∀ i, i < ops.size → edge ops i x.1 = true → listed.getD i true = true) : Left P ops (listed.setIfInBounds x.1 true) (A ++ B) := by
  have hsub : (A ++ B).Sublist (A ++ x :: B) := List.Sublist.append (List.Sublist.refl _) (List.sublist_cons_self _ _)
  refine ⟨by simpa using h.size, fun y hy => h.at_ y (hsub.subset hy), fun i hi => ?_, h.rise.sublist hsub, h.free.sublist hsub, fun i j hj hl he hi => ?_⟩
  rotate_left
  · by_cases e : x.1 = j
    · subst e; exact getD_set_true (hrd i hi he)
    · rw [Array.getD_eq_getD_getElem?, Array.getElem?_setIfInBounds_ne e, ← Array.getD_eq_getD_getElem?] at hl
      exact getD_set_true (h.down i j hj hl he hi)
  have hx : x.1 < ops.size := by
    have := h.at_ x (by simp); exact (Array.getElem?_eq_some_iff.1 this).1
  by_cases e : x.1 = i
  · subst e
    constructor
    · intro hg
      rw [Array.getD_eq_getD_getElem?, Array.getElem?_setIfInBounds_self_of_lt (by rw [h.size]; exact hx)] at hg
      simp at hg
    · rintro ⟨y, hy, he⟩
      exfalso
      have hr := h.rise
      rw [List.pairwise_append] at hr
      obtain ⟨_, h2, h3⟩ := hr
      rcases List.mem_append.1 hy with hy | hy
      · have := h3 y hy x (by simp); omega
      · have := (List.pairwise_cons.1 h2).1 y hy; omega
  · rw [Array.getD_eq_getD_getElem?, Array.getElem?_setIfInBounds_ne e, ← Array.getD_eq_getD_getElem?, h.left i hi]
    constructor
    · rintro ⟨y, hy, rfl⟩
      refine ⟨y, ?_, rfl⟩
      simp only [List.mem_append, List.mem_cons] at hy ⊢
      rcases hy with hy | rfl | hy
      · exact .inl hy
      · exact absurd rfl e
      · exact .inr hy
    · rintro ⟨y, hy, rfl⟩
      exact ⟨y, hsub.subset hy, rfl⟩

theorem edge_lt {i j : Nat} (h : edge ops i j = true) : j < ops.size := by
  by_cases hj : j < ops.size
  · exact hj
  · exfalso; unfold edge at h; rw [Array.getElem?_eq_none (by omega)] at h; cases h
theorem Chain.lt {i j : Nat} (h : Chain ops i j) : j < ops.size := by
  cases h with
  | one h => exact edge_lt h
  | more _ h => exact edge_lt h

theorem Left.chain {listed : Array Bool} {L : List (Nat × Ev)} (h : Left P ops listed L) {i j : Nat} (hc : Chain ops i j) : listed.getD j true = true → i < ops.size → listed.getD i true = true := by
  induction hc with
  | one he => exact fun hl hi => h.down _ _ (edge_lt he) hl he hi
  | more hc he ih => exact fun hl hi => ih (h.down _ _ (edge_lt he) hl he hc.lt) hi

theorem any_ok {rd : Option Nat} {nn : Nat} {ds : List Deferred} {n : Nat} {Q : Exit → Act → World → Prop} {send : St} {g0 : Gh} {oh0 : OH} {w0 : World} (hdst : dstB n ops.toList = true) (hB0 : g0.B = Bs) (hback : backB ops = true) (hnd : ∀ o ∈ ops.toList, ∀ c, o.op ≠ .defer c)
    (hQ : ∀ g' a' w' s', Eqv s' send → Rel g' s' a' w' → Fr g0 oh0 w0 g' s'.oh w' → Mono g0 oh0 g' s'.oh → a'.defers = ds → Q .normal a' w') :
    ∀ (fuel : Nat) (listed : Array Bool) (L : List (Nat × Ev)) (s : St) (g : Gh) (a : Act) (w : World), L.length = fuel → Left P ops listed L → Runs Bs P ops (L.map (·.2)) s send →
      Rel g s a w → Fr g0 oh0 w0 g s.oh w → Mono g0 oh0 g s.oh → s.n = n → a.defers = ds → wpAnyIn (FW rd) nn P .any ops Q fuel listed a w
  | 0, listed, L, s, g, a, w, hl, hL, hrun, hr, hf, hmo, hn, hds => by
    obtain rfl : L = [] := List.eq_nil_of_length_eq_zero hl
    refine ⟨?_, hQ g a w s hrun hr hf hmo hds⟩
    unfold Region.ready
    rw [List.filter_eq_nil_iff]
    intro i hi
    have hi : i < ops.size := by simpa using hi
    have : listed.getD i true ≠ false := fun e => by have := (hL.left i hi).1 e; simp at this
    simp [this]
  | fuel + 1, listed, L, s, g, a, w, hl, hL, hrun, hr, hf, hmo, hn, hds => by
    refine ⟨fun he => ?_, fun i hi => ?_⟩
    · -- something is always ready
      exfalso
      match L, hl with
      | x :: L, _ =>
        have hx := hL.at_ x (by simp)
        have hlt : x.1 < ops.size := (Array.getElem?_eq_some_iff.1 hx).1
        have : x.1 ∈ Region.ready .any ops listed := by
          unfold Region.ready
          rw [List.mem_filter]
          refine ⟨by simpa using hlt, ?_⟩
          have h1 := (hL.left x.1 hlt).2 ⟨x, by simp, rfl⟩
          simp only [h1, hx, Option.map_some, Option.getD_some, Bool.not_false, Bool.true_and]
          rw [Array.all_eq_true_iff_forall_mem]
          intro e hem
          cases hb : Region.binds .any e with
          | false => simp
          | true =>
            have hbk := List.all_eq_true.1 hback x.1 (by simpa using hlt)
            simp only [hx] at hbk
            have := List.all_eq_true.1 hbk e (by simpa using hem)
            simp only [hb, Bool.not_true, Bool.false_or] at this
            have hon : e.on < x.1 := by simpa [Nat.blt_eq] using this
            simp only [Bool.not_true, Bool.false_or]
            -- listed: it is not among those that are left
            have hnl : ¬ ∃ y ∈ x :: L, y.1 = e.on := by
              rintro ⟨y, hy, hye⟩
              have hri := (List.pairwise_cons.1 hL.rise).1
              rcases List.mem_cons.1 hy with rfl | hy
              · omega
              · have := hri y hy; omega
            have hne : ¬ listed.getD e.on true = false := fun h => hnl ((hL.left e.on (by omega)).1 h)
            have hlt2 : e.on < listed.size := by rw [hL.size]; omega
            have : listed.getD e.on true = listed.getD e.on false := by simp [Array.getD_eq_getD_getElem?, hlt2]
            rw [← this]; simpa using hne
        rw [he] at this; simp at this
    · -- any that is ready may go first
      unfold Region.ready at hi
      rw [List.mem_filter] at hi
      obtain ⟨hi1, hi2⟩ := hi
      have hilt : i < ops.size := by simpa using hi1
      simp only [Bool.and_eq_true, Bool.not_eq_true'] at hi2
      obtain ⟨x, hx, rfl⟩ := (hL.left i hilt).1 hi2.1
      obtain ⟨A, B, rfl⟩ := List.append_of_mem hx
      have hxo := hL.at_ x (by simp)
      have hall := hi2.2
      simp only [hxo, Option.map_some, Option.getD_some] at hall
      rw [Array.all_eq_true_iff_forall_mem] at hall
      have hready : ∀ i, i < ops.size → edge ops i x.1 = true → listed.getD i true = true := by
        intro i hi he
        unfold edge at he
        simp only [hxo] at he
        obtain ⟨e, hem, hee⟩ := List.any_eq_true.1 he
        simp only [Bool.and_eq_true] at hee
        have hon := Nat.eq_of_beq_eq_true hee.1
        have := hall e (by simpa using hem)
        simp only [hee.2, Bool.not_true, Bool.false_or] at this
        rw [hon] at this
        have hlt2 : i < listed.size := by rw [hL.size]; exact hi
        have e2 : listed.getD i true = listed.getD i false := by simp [Array.getD_eq_getD_getElem?, hlt2]
        rw [e2]; exact this
      have hfree : ∀ y ∈ A, Free ops y.2 x.2 := by
        intro y hy
        have hp := hL.free
        rw [List.pairwise_append] at hp
        rcases hp.2.2 y hy x (by simp) with he | hf
        · exfalso
          have hyo := hL.at_ y (by simp [hy])
          have hylt : y.1 < ops.size := (Array.getElem?_eq_some_iff.1 hyo).1
          have hyl := (hL.left y.1 hylt).2 ⟨y, by simp [hy], rfl⟩
          have : listed.getD y.1 true = true := by
            cases he with
            | one h => exact hready _ hylt h
            | more hc h => exact hL.chain hc (hready _ hc.lt h) hylt
          rw [this] at hyl; cases hyl
        · exact hf
      have hrun2 : Runs Bs P ops (x.2 :: (A.map (·.2) ++ B.map (·.2))) s send := by
        refine front _ _ _ (fun y hy => ?_) (by simpa using hrun)
        obtain ⟨z, hz, rfl⟩ := List.mem_map.1 hy
        exact hfree z hz
      obtain ⟨hcond, hrest⟩ := hrun2
      have hrest' : Runs Bs P ops ((A ++ B).map (·.2)) (s.go x.2) send := by simpa using hrest
      have hlen : (A ++ B).length = fuel := by simp at hl ⊢; omega
      have hd : ∀ d, x.2.1.dst = some d → d < s.n := by
        intro d hd
        have hm : x.2.1 ∈ ops.toList := List.mem_of_getElem? (by simpa using hxo : ops.toList[x.1]? = some x.2.1)
        have := List.all_eq_true.1 hdst x.2.1 hm
        simp only [hd] at this
        rw [hn]; simpa [Nat.blt_eq] using this
      unfold wpOpIn
      simp only [hxo]
      cases hrec : x.2.2 with
      | some acc =>
        rw [hrec] at hcond
        obtain ⟨c1, c2, c3, c4⟩ := hcond
        rw [if_pos]
        · refine step_wp (hnd _ (List.mem_of_getElem? (by simpa using hxo : ops.toList[x.1]? = some x.2.1))) hr hd (hf.B.trans hB0) c2 c3 c4 fun g' a' w' hr' hf' hmo' hds' => ?_
          have hgo : s.go x.2 = s.app x.2.1 acc.v acc.post := by unfold St.go; rw [hrec]; rfl
          rw [hgo] at hrest'
          exact any_ok hdst hB0 hback hnd hQ fuel _ (A ++ B) _ g' a' w' hlen (hL.take hready) hrest' hr' (hf.trans hf') (hmo.trans hmo') hn (hds'.trans hds)
        · unfold Region.wanted
          unfold Wanted at c1
          cases hg : x.2.1.guard with
          | none => rfl
          | some jw =>
            obtain ⟨j, want⟩ := jw
            simp only [hg] at c1
            simp [guard_yields hr c1]
      | none =>
        rw [hrec] at hcond
        rw [if_neg]
        · have hgo : s.go x.2 = s.app x.2.1 (.tup []) [] := by unfold St.go; rw [hrec]; rfl
          rw [hgo] at hrest'
          exact ⟨fun _ _ => trivial, any_ok hdst hB0 hback hnd hQ fuel _ (A ++ B) _ g _ w hlen (hL.take hready) hrest' (hr.skip skip_val) (by simpa [St.app] using hf) (by simpa [St.app] using hmo) hn (by rw [← hds]; cases x.2.1.dst <;> rfl)⟩
        · unfold Region.wanted
          simp only [CondAt, Unwanted] at hcond
          cases hg : x.2.1.guard with
          | none => simp [hg] at hcond
          | some jw =>
            obtain ⟨j, want⟩ := jw
            simp only [hg] at hcond
            rcases hcond with hcond | hcond
            · simp [guard_yields hr hcond]
            · simp [guard_skipped hr hcond]

end
end Go.Ev
