import Derived.Test.YtekgeekghclfaaaGreatEvJ
set_option linter.all false
namespace Go.Ev
structure Rel (γ : Nat → Option Value) (g : Gh) (s : St) (a : Act) (w : World) : Prop where
  hr : HR g s.oh w
  df : a.defers = []
  sz : a.tmps.size = s.n
  env : ∀ t, RdV g s.oh (eget s.env t) (a.tmps.getD t Go.undef)
  par : ∀ t v, γ t = some v → a.tmps.getD t Go.undef = v
section
variable {P : Program} {γ : Nat → Option Value} {g : Gh} {s : St} {a : Act} {w : World}
theorem opd_rd (h : Rel γ g s a w) (x : Operand) : RdV g s.oh (opd s.env x) (a.eval x) := by
  cases x with
  | tmp t => exact h.env t
  | const v => exact ofConst_ok v
  | global q => exact ⟨rfl, rfl⟩
  | func f => exact ⟨rfl, rfl⟩
theorem eget_cons (d : Nat) (v : V) (e : Env) (t : Nat) : eget ((d, v) :: e) t = if d = t then v else eget e t := by
  rfl
theorem Rel.put {o : Oper} {post : OH} {g' : Gh} {w' : World} {v : V} {x : Value} (h : Rel γ g s a w) (hd : ∀ d, o.dst = some d → d < s.n) (hγ : ∀ d, o.dst = some d → γ d = none) (h1 : HR g' (post ++ s.oh) w')
    (hv : RdV g' (post ++ s.oh) v x) (hm : Mono g s.oh g' (post ++ s.oh)) : Rel γ g' (s.app o v post) (a.put o.dst x) w' := by
  cases hdst : o.dst with
  | none =>
    refine ⟨h1, h.df, h.sz, fun t => ?_, by simpa [Act.put] using h.par⟩
    simp only [St.app, hdst, Act.put]
    exact hm.rdV (h.env t)
  | some d =>
    refine ⟨h1, h.df, by simp [Act.put, St.app, h.sz], fun t => ?_, fun t v hv => ?_⟩
    rotate_left
    · have e : d ≠ t := fun e => by rw [← e, hγ d hdst] at hv; cases hv
      simp only [Act.put]
      rw [Array.getD_eq_getD_getElem?, Array.getElem?_setIfInBounds_ne e, ← Array.getD_eq_getD_getElem?]
      exact h.par t v hv
    simp only [St.app, hdst, Act.put, eget_cons]
    by_cases e : d = t
    · subst e
      have hlt : d < a.tmps.size := by rw [h.sz]; exact hd d hdst
      rw [if_pos rfl, Array.getD_eq_getD_getElem?, Array.getElem?_setIfInBounds_self_of_lt hlt]
      exact hv
    · rw [if_neg e, Array.getD_eq_getD_getElem?, Array.getElem?_setIfInBounds_ne e, ← Array.getD_eq_getD_getElem?]
      exact hm.rdV (h.env t)
theorem Rel.skip {o : Oper} (h : Rel γ g s a w) (hγ : ∀ d, o.dst = some d → γ d = none) : Rel γ g (s.app o (.tup []) []) (a.put o.dst Go.undef) w := by
  cases hdst : o.dst with
  | none => exact ⟨by simpa [St.app] using h.hr, h.df, h.sz, fun t => by simpa [St.app, hdst, Act.put] using h.env t, by simpa [Act.put] using h.par⟩
  | some d =>
    refine ⟨by simpa [St.app] using h.hr, h.df, by simp [Act.put, St.app, h.sz], fun t => ?_, fun t v hv => ?_⟩
    rotate_left
    · have e : d ≠ t := fun e => by rw [← e, hγ d hdst] at hv; cases hv
      simp only [Act.put]
      rw [Array.getD_eq_getD_getElem?, Array.getElem?_setIfInBounds_ne e, ← Array.getD_eq_getD_getElem?]
      exact h.par t v hv
    simp only [St.app, hdst, Act.put, eget_cons, List.nil_append]
    by_cases e : d = t
    · rw [if_pos e, Array.getD_eq_getD_getElem?, Array.getElem?_setIfInBounds]
      subst e
      refine ⟨#[], ?_, rfl, fun j v c h => by simp at h⟩
      simp only [if_true]
      split <;> rfl
    · rw [if_neg e, Array.getD_eq_getD_getElem?, Array.getElem?_setIfInBounds_ne e, ← Array.getD_eq_getD_getElem?]
      exact h.env t
theorem wp_of_out {o : Oper} {K : Act → World → Prop} {Q : Exit → Act → World → Prop} {Z : Value → World → Prop} (h : Out P Z ((execOp a.eval o).run P w))
    (hk : ∀ v w', Z v w' → K (a.put o.dst v) w') : o.wp P a w K Q := by
  unfold Oper.wp
  generalize (execOp a.eval o).run P w = r at *
  cases r with
  | ok n w' =>
    cases n <;> simp only [Out] at h <;> simp only [Oper.upon]
    case value v => exact hk _ _ h
    case skip => exact hk _ _ h
    case enter f args =>
      refine h.mono fun e w'' he => ?_
      obtain ⟨v, rfl, hz⟩ := he
      exact hk _ _ hz
  | halt x w' => simp only [Out] at h
theorem step_wp {o : Oper} {acc : Acc} {K : Act → World → Prop} {Q : Exit → Act → World → Prop} (h : Rel γ g s a w) (hd : ∀ d, o.dst = some d → d < s.n) (hγ : ∀ d, o.dst = some d → γ d = none) (hok : OpOK P o (opd s.env) acc)
    (hp : ∀ i ob, (i, ob) ∈ acc.pre → oget s.oh i = some ob) (hn : ∀ i, i ∈ acc.nw → oget s.oh i = none)
    (hk : ∀ g' a' w', Rel γ g' (s.app o acc.v acc.post) a' w' → Fr g s.oh w g' (acc.post ++ s.oh) w' → K a' w') : o.wp P a w K Q := by
  refine wp_of_out (hok g s.oh w a.eval h.hr (fun x _ => opd_rd h x) hp hn) fun v w' hz => ?_
  obtain ⟨g', h1, h2, h3, h4⟩ := hz
  exact hk g' _ w' (h.put hd hγ h1 h2 h3) h4
theorem guard_yields {ops : Array Oper} {j : Nat} {b : Bool} (h : Rel γ g s a w) (hg : guardVal ops s.env j = .con (.bool b)) : yielded ops a.tmps j = some b := by
  unfold guardVal at hg
  unfold yielded
  cases hd : (ops[j]?).bind (·.dst) with
  | none => simp [hd] at hg
  | some d =>
    simp only [hd] at hg
    have := h.env d
    rw [hg] at this
    have hx : a.tmps.getD d Go.undef = .bool b := this.1
    have : a.tmps[d]? = some (.bool b) := by
      rw [Array.getD_eq_getD_getElem?] at hx
      cases hq : a.tmps[d]? with
      | none => rw [hq] at hx; simp [Go.undef] at hx
      | some q => rw [hq] at hx; simpa using hx
    simp [this]
theorem guard_none {ops : Array Oper} {j : Nat} {b : Bool} (h : Rel γ g s a w) (hg : guardVal ops s.env j = .tup []) : yielded ops a.tmps j ≠ some b := by
  unfold guardVal at hg
  unfold yielded
  cases hd : (ops[j]?).bind (·.dst) with
  | none => simp
  | some d =>
    simp only [hd] at hg
    have := h.env d
    rw [hg] at this
    obtain ⟨vs, hx, _, _⟩ := this
    intro e
    simp only [Option.bind_some] at e
    rw [Array.getD_eq_getD_getElem?] at hx
    cases hq : a.tmps[d]? with
    | none => rw [hq] at e; simp at e
    | some q => rw [hq] at hx e; simp at hx; subst hx; simp at e
theorem nil_ok {o : Oper} {t : TypeId} {x : Operand} {pos : Bool} {K : Bool → Prop} (hn : nilTest o = some (t, x, pos)) (h : Rel γ g s a w) (hb : nilB (tk P t) (opd s.env x) K) :
    ∃ b, K b ∧ (execOp a.eval o).run P w = .ok (.value (.bool (b == pos))) w := by
  have key : ∀ (ad : Option Addr) (len cap : Nat), a.eval x = .slice ad len cap → (∃ e, P.underlying t = some (.slice e)) → K ad.isNone →
      ∃ b, K b ∧ (execOp a.eval o).run P w = .ok (.value (.bool (b == pos))) w := by
    rintro ad len cap he ⟨e1, hu⟩ hk
    refine ⟨_, hk, ?_⟩
    have heq : ∀ d, (Op.equalIn (d + 1) t (.slice ad len cap) (.slice none 0 0)).run P w = .ok ad.isNone w := by
      intro d
      cases ad <;> simp [Op.equalIn, run_underlying hu]
    have heq := heq 9999
    unfold nilTest at hn
    split at hn
    · rename_i t' x' t2 ho
      cases hn
      simp only [execOp, ho]
      refine run_val _ w w _ ?_
      show ((do eqGuard .eql t x _ (a.eval x) (.slice none 0 0); binOp .eql t (a.eval x) (.slice none 0 0)) : Sem Value).run P w = _
      rw [he]
      simp [eqGuard_con .eql t x _ (.slice ad len cap) (.slice none 0 0) (by simp) (by simp) w, binOp, Op.equal, Op.maxDepth, heq]
    · rename_i t' x' t2 ho
      cases hn
      simp only [execOp, ho]
      refine run_val _ w w _ ?_
      show ((do eqGuard .neq t x _ (a.eval x) (.slice none 0 0); binOp .neq t (a.eval x) (.slice none 0 0)) : Sem Value).run P w = _
      rw [he]
      simp [eqGuard_con .neq t x _ (.slice ad len cap) (.slice none 0 0) (by simp) (by simp) w, binOp, Op.equal, Op.maxDepth, heq]
    · cases hn
  have hrx := opd_rd h x
  unfold nilB at hb
  split at hb
  · rename_i d1 v1 e1 sz by1 ag1 z1 f l hd hx
    rw [hx] at hrx
    obtain ⟨ad, cap, esz, b, off, c', hxe, _, _, ha, _⟩ := rdT_sl hrx.1
    obtain ⟨_, _, hu, _⟩ := tk_sl hd
    exact key ad _ _ hxe ⟨_, hu⟩ (hb _ fun hn => by
      cases l with
      | nil => rfl
      | cons q r => rw [ha (by simp)] at hn; simp at hn)
  · rename_i d1 v1 e1 sz by1 ag1 z1 hd hx
    rw [hx] at hrx
    obtain ⟨ad, hxe⟩ := hrx
    obtain ⟨_, _, hu, _⟩ := tk_sl hd
    exact key ad _ _ hxe ⟨_, hu⟩ (hb _)
  · exact hb.elim
theorem litBool_elim {v : V} {K : V → Prop} (h : litBool v K) : K v := by
  unfold litBool at h
  split at h
  · rename_i b
    cases b
    · exact h.2 rfl
    · exact h.1 rfl
  · exact h
theorem evOps_ok {C : CT} (hC : ∀ q ts r, C q ts r → OkR P q ts r) {ops : Array Oper} {K : St → Prop} {Q : Exit → Act → World → Prop} {n np : Nat} (hdst : dstB n ops.toList = true) (hnp : ∀ d, np ≤ d → γ d = none) (hpar : parD np ops.toList = true)
    {g0 : Gh} {oh0 : OH} {w0 : World} (hK : ∀ s' g' a' w', K s' → Rel γ g' s' a' w' → Fr g0 oh0 w0 g' s'.oh w' → s'.n = n → Q .normal a' w') :
    ∀ (r : List Oper) (i : Nat) (s : St), ops.toList.drop i = r → evOps P C ops i r s K → ∀ g a w, Rel γ g s a w → Fr g0 oh0 w0 g s.oh w → s.n = n → wpOps P ops Q (List.range' i r.length) a w
  | [], i, s, _, h, g, a, w, hr, hf, hn => by
    simp only [evOps] at h
    simpa [wpOps] using hK s g a w h hr hf hn
  | o :: r, i, s, hdr, h, g, a, w, hr, hf, hn => by
    have hoi : ops[i]? = some o := by
      have : (ops.toList.drop i)[0]? = some o := by rw [hdr]; rfl
      rw [List.getElem?_drop] at this; simpa using this
    have hdr' : ops.toList.drop (i + 1) = r := by
      have : (ops.toList.drop i).drop 1 = r := by rw [hdr]; rfl
      rw [List.drop_drop] at this; exact this
    have hd : ∀ d, o.dst = some d → d < s.n := by
      intro d hd
      have hm : o ∈ ops.toList := List.mem_of_getElem? (by simpa using hoi : ops.toList[i]? = some o)
      have := List.all_eq_true.1 hdst o hm
      simp only [hd] at this
      rw [hn]; simpa [Nat.blt_eq] using this
    have hγ : ∀ d, o.dst = some d → γ d = none := by
      intro d hd
      have hm : o ∈ ops.toList := List.mem_of_getElem? (by simpa using hoi : ops.toList[i]? = some o)
      have := List.all_eq_true.1 hpar o hm
      simp only [hd] at this
      exact hnp d (Nat.le_of_ble_eq_true this)
    have nxt := evOps_ok hC hdst hnp hpar hK r (i + 1)
    simp only [List.length_cons, List.range'_succ, wpOps, hoi]
    simp only [evOps] at h
    have happ : ∀ v post, (s.app o v post).n = n := fun v post => hn
    split at h
    · rename_i hg
      rw [if_pos (by simp [Region.wanted, hg])]
      left
      split at h
      · rename_i t x pos hnt
        obtain ⟨b, hb, hrun⟩ := nil_ok hnt hr h
        refine wp_of_out (Z := fun v w' => v = .bool (b == pos) ∧ w' = w) (by rw [hrun]; exact ⟨rfl, rfl⟩) ?_
        rintro _ _ ⟨rfl, rfl⟩
        exact nxt _ hdr' hb g _ _ (hr.put hd hγ (by simpa using hr.hr) ⟨rfl, rfl⟩ (Mono.refl _ _)) (by simpa [St.app] using hf) (happ _ _)
      · obtain ⟨acc, hok, hp, hnw, h⟩ := step_ok hC h
        refine step_wp hr hd hγ hok hp hnw fun g' a' w' hr' hf' => ?_
        have h2 : evOps P C ops (i + 1) r (s.app o acc.v acc.post) K := by
          split at h
          · exact litBool_elim h
          · exact h
        exact nxt _ hdr' h2 g' a' w' hr' (hf.trans hf') (happ _ _)
    · rename_i j want hg
      split at h
      · rename_i b hgv
        have hy := guard_yields hr hgv
        split at h
        · rename_i hb
          rw [if_pos (by simp [Region.wanted, hg, hy]; simpa using hb)]
          left
          obtain ⟨acc, hok, hp, hnw, h⟩ := step_ok hC h
          refine step_wp hr hd hγ hok hp hnw fun g' a' w' hr' hf' => ?_
          have h2 : evOps P C ops (i + 1) r (s.app o acc.v acc.post) K := by
            split at h
            · exact litBool_elim h
            · exact h
          exact nxt _ hdr' h2 g' a' w' hr' (hf.trans hf') (happ _ _)
        · rename_i hb
          rw [if_neg (by simp [Region.wanted, hg, hy]; simpa using hb)]
          exact nxt _ hdr' h g _ w (hr.skip hγ) (by simpa [St.app] using hf) (happ _ _)
      · rename_i hgv
        rw [if_neg (by simp only [Region.wanted, hg]; intro e; exact guard_none hr hgv (by simpa using e))]
        exact nxt _ hdr' h g _ w (hr.skip hγ) (by simpa [St.app] using hf) (happ _ _)
      · exact h.elim
end
end Go.Ev

set_option linter.all false
namespace Go.Ev
def Eqv (s t : St) : Prop := s.n = t.n ∧ (∀ i, eget s.env i = eget t.env i) ∧ ∀ i, oget s.oh i = oget t.oh i
theorem Eqv.refl (s : St) : Eqv s s := ⟨rfl, fun _ => rfl, fun _ => rfl⟩
theorem Eqv.symm {s t : St} (h : Eqv s t) : Eqv t s := ⟨h.1.symm, fun i => (h.2.1 i).symm, fun i => (h.2.2 i).symm⟩
theorem Eqv.trans {s t u : St} (h : Eqv s t) (k : Eqv t u) : Eqv s u := ⟨h.1.trans k.1, fun i => (h.2.1 i).trans (k.2.1 i), fun i => (h.2.2 i).trans (k.2.2 i)⟩
theorem opd_eqv {s t : St} (h : Eqv s t) : opd s.env = opd t.env := by
  funext x; cases x <;> first | exact h.2.1 _ | rfl
theorem oget_append (p oh : OH) (i : Nat) : oget (p ++ oh) i = (match oget p i with | some o => some o | none => oget oh i) := by
  induction p with
  | nil => rfl
  | cons q r ih =>
    obtain ⟨c, o⟩ := q
    simp only [List.cons_append, oget]
    by_cases h : c = i <;> simp [ih, h]
theorem oget_mem {p : OH} {i : Nat} {o : Obj} (h : oget p i = some o) : i ∈ p.map (·.1) := by
  induction p with
  | nil => simp [oget] at h
  | cons q r ih =>
    obtain ⟨c, o'⟩ := q
    by_cases e : i = c
    · simp [e]
    · rw [oget_cons_other _ _ e] at h; simp [ih h]
theorem oget_notin {p : OH} {i : Nat} (h : i ∉ p.map (·.1)) : oget p i = none := by
  cases hq : oget p i with
  | none => rfl
  | some o => exact absurd (oget_mem hq) h
theorem app_eqv {s t : St} (h : Eqv s t) (o : Oper) (v : V) (post : OH) : Eqv (s.app o v post) (t.app o v post) := by
  refine ⟨h.1, fun i => ?_, fun i => ?_⟩
  · cases hd : o.dst with
    | none => simpa [St.app, hd] using h.2.1 i
    | some d => simp only [St.app, hd, eget_cons, h.2.1 i]
  · simp only [St.app, oget_append, h.2.2 i]
section
variable {P : Program} {ops : Array Oper}
def Wanted (ops : Array Oper) (o : Oper) (e : Env) : Prop := match o.guard with | none => True | some (j, want) => guardVal ops e j = .con (.bool want)
def Unwanted (ops : Array Oper) (o : Oper) (e : Env) : Prop := match o.guard with | none => False | some (j, want) => guardVal ops e j = .con (.bool (!want)) ∨ guardVal ops e j = .tup []
def CondAt (P : Program) (ops : Array Oper) (o : Oper) (s : St) : Option Acc → Prop
  | some a => Wanted ops o s.env ∧ OpOK P o (opd s.env) a ∧ (∀ i ob, (i, ob) ∈ a.pre → oget s.oh i = some ob) ∧ (∀ i, i ∈ a.nw → oget s.oh i = none)
  | none => Unwanted ops o s.env
def vOf : Option Acc → V
  | some a => a.v
  | none => .tup []
def postOf : Option Acc → OH
  | some a => a.post
  | none => []
abbrev Ev := Oper × Option Acc
def St.go (s : St) (x : Ev) : St := s.app x.1 (vOf x.2) (postOf x.2)
def Runs (P : Program) (ops : Array Oper) : List Ev → St → St → Prop
  | [], s, s' => Eqv s s'
  | x :: l, s, s' => CondAt P ops x.1 s x.2 ∧ Runs P ops l (s.go x) s'
theorem guardVal_eqv {s t : St} (h : Eqv s t) (j : Nat) : guardVal ops s.env j = guardVal ops t.env j := by
  unfold guardVal; cases (ops[j]?).bind (·.dst) <;> first | rfl | exact h.2.1 _
theorem condAt_eqv {s t : St} (h : Eqv s t) {o : Oper} {r : Option Acc} (hc : CondAt P ops o s r) : CondAt P ops o t r := by
  cases r with
  | none =>
    simp only [CondAt, Unwanted] at hc ⊢
    split <;> rename_i hg <;> simp only [hg] at hc
    · rw [← guardVal_eqv h]; exact hc
  | some a =>
    obtain ⟨h1, h2, h3, h4⟩ := hc
    refine ⟨?_, by rw [← opd_eqv h]; exact h2, fun i ob hm => by rw [← h.2.2]; exact h3 i ob hm, fun i hm => by rw [← h.2.2]; exact h4 i hm⟩
    simp only [Wanted] at h1 ⊢
    split <;> rename_i hg <;> simp only [hg] at h1
    · trivial
    · rw [← guardVal_eqv h]; exact h1
theorem runs_eqv : ∀ {l : List Ev} {s t s' : St}, Eqv s t → Runs P ops l s s' → Runs P ops l t s'
  | [], _, _, _, h, hr => h.symm.trans hr
  | _ :: _, _, _, _, h, hr => ⟨condAt_eqv h hr.1, runs_eqv (app_eqv h _ _ _) hr.2⟩
theorem OpOK.congr {o : Oper} {e e' : Operand → V} {a : Acc} (h : OpOK P o e a) (he : ∀ x, x ∈ o.op.operands → e x = e' x) : OpOK P o e' a :=
  fun g oh w ρ hr hρ hp hn => h g oh w ρ hr (fun x hx => by rw [he x hx]; exact hρ x hx) hp hn
theorem disj_spec {l m : List Nat} (h : disj l m = true) : ∀ i, i ∈ l → i ∉ m := by
  intro i hi hm
  have := List.all_eq_true.1 (List.all_eq_true.1 h i hi) i hm
  simp at this
theorem cond_after {x y : Ev} {s : St} (ha : ∀ d, x.1.dst = some d → d ∉ y.1.looksAt ops) (hp : ∀ i, i ∈ (postOf x.2).map (·.1) → ∀ b, y.2 = some b → i ∉ b.all) :
    CondAt P ops y.1 (s.go x) y.2 ↔ CondAt P ops y.1 s y.2 := by
  have heget : ∀ t, t ∈ y.1.looksAt ops → eget (s.go x).env t = eget s.env t := by
    intro t ht
    unfold St.go St.app
    cases hd : x.1.dst with
    | none => rfl
    | some d =>
      simp only [eget_cons]
      rw [if_neg]
      intro e; subst e; exact ha d hd ht
  have hopd : ∀ z, z ∈ y.1.op.operands → opd (s.go x).env z = opd s.env z := by
    intro z hz
    cases z with
    | tmp t => exact heget t (by
        unfold Oper.looksAt
        refine List.mem_append.2 (.inl ?_)
        exact List.mem_filterMap.2 ⟨.tmp t, by simpa using hz, rfl⟩)
    | _ => rfl
  have hg : ∀ j want, y.1.guard = some (j, want) → guardVal ops (s.go x).env j = guardVal ops s.env j := by
    intro j want hg
    unfold guardVal
    cases hd : (ops[j]?).bind (·.dst) with
    | none => rfl
    | some d => exact heget d (by simp [Oper.looksAt, hg, hd])
  cases hy : y.2 with
  | none =>
    simp only [CondAt, Unwanted]
    split
    · exact Iff.rfl
    · rename_i j want hgd; rw [hg j want hgd]
  | some b =>
    have hoh : ∀ i, i ∈ b.all → oget (s.go x).oh i = oget s.oh i := by
      intro i hi
      show oget (postOf x.2 ++ s.oh) i = _
      rw [oget_append, oget_notin fun hm => hp i hm b hy hi]
    have hpre : ∀ i ob, (i, ob) ∈ b.pre → i ∈ b.all := fun i ob hm => by
      unfold Acc.all; exact List.mem_append.2 (.inl (List.mem_map.2 ⟨_, hm, rfl⟩))
    have hnw : ∀ i, i ∈ b.nw → i ∈ b.all := fun i hm => by
      unfold Acc.all Acc.wr; exact List.mem_append.2 (.inr (List.mem_append.2 (.inl hm)))
    have hw : Wanted ops y.1 (s.go x).env ↔ Wanted ops y.1 s.env := by
      unfold Wanted
      split
      · exact Iff.rfl
      · rename_i j want hgd; rw [hg j want hgd]
    simp only [CondAt]
    constructor
    · rintro ⟨h1, h2, h3, h4⟩
      exact ⟨hw.1 h1, h2.congr hopd, fun i ob hm => by rw [← hoh i (hpre i ob hm)]; exact h3 i ob hm, fun i hm => by rw [← hoh i (hnw i hm)]; exact h4 i hm⟩
    · rintro ⟨h1, h2, h3, h4⟩
      exact ⟨hw.2 h1, h2.congr fun z hz => (hopd z hz).symm, fun i ob hm => by rw [hoh i (hpre i ob hm)]; exact h3 i ob hm, fun i hm => by rw [hoh i (hnw i hm)]; exact h4 i hm⟩
theorem indep_spec {x y : Option Acc} (h : indep x y = true) : (∀ i, i ∈ (postOf x).map (·.1) → ∀ b, y = some b → i ∉ b.all) ∧ (∀ i, i ∈ (postOf y).map (·.1) → ∀ b, x = some b → i ∉ b.all) := by
  cases x with
  | none => exact ⟨by simp [postOf], by simp⟩
  | some a =>
    cases y with
    | none => exact ⟨by simp, by simp [postOf]⟩
    | some b =>
      simp only [indep, Bool.and_eq_true] at h
      refine ⟨fun i hi b' hb => ?_, fun i hi a' ha => ?_⟩
      · cases hb; exact disj_spec h.1 i (by unfold Acc.wr; exact List.mem_append.2 (.inr hi))
      · cases ha; exact disj_spec h.2 i (by unfold Acc.wr; exact List.mem_append.2 (.inr hi))
theorem go_comm {x y : Ev} {s : St} (hd : ∀ d, x.1.dst = some d → y.1.dst ≠ some d) (hp : ∀ i, i ∈ (postOf x.2).map (·.1) → i ∉ (postOf y.2).map (·.1)) :
    Eqv ((s.go x).go y) ((s.go y).go x) := by
  refine ⟨rfl, fun t => ?_, fun i => ?_⟩
  · unfold St.go St.app
    cases hx : x.1.dst with
    | none => cases hy : y.1.dst <;> rfl
    | some d =>
      cases hy : y.1.dst with
      | none => rfl
      | some d' =>
        simp only [eget_cons]
        have : d ≠ d' := fun e => hd d hx (e ▸ hy)
        by_cases h1 : d = t <;> by_cases h2 : d' = t <;> simp_all
  · show oget (postOf y.2 ++ (postOf x.2 ++ s.oh)) i = oget (postOf x.2 ++ (postOf y.2 ++ s.oh)) i
    simp only [oget_append]
    by_cases h1 : i ∈ (postOf x.2).map (·.1)
    · rw [oget_notin (hp i h1)]
    · rw [oget_notin h1]
def Free (ops : Array Oper) (y x : Ev) : Prop := y.1.apart ops x.1 = true ∧ indep y.2 x.2 = true
theorem front {x : Ev} {s' : St} : ∀ (A B : List Ev) (s : St), (∀ y ∈ A, Free ops y x) → Runs P ops (A ++ x :: B) s s' → Runs P ops (x :: (A ++ B)) s s'
  | [], B, s, _, h => h
  | y :: A, B, s, hf, h => by
    obtain ⟨h1, h2⟩ := h
    obtain ⟨h3, h4⟩ := front A B (s.go y) (fun z hz => hf z (by simp [hz])) h2
    obtain ⟨hap, hin⟩ := hf y (by simp)
    obtain ⟨a1, a2, a3⟩ := Oper.apart_spec hap
    obtain ⟨i1, i2⟩ := indep_spec hin
    have hpp : ∀ i, i ∈ (postOf y.2).map (·.1) → i ∉ (postOf x.2).map (·.1) := by
      intro i hi hx
      cases hx2 : x.2 with
      | none => rw [hx2] at hx; simp [postOf] at hx
      | some b =>
        rw [hx2] at hx
        refine i1 i hi b hx2 ?_
        unfold Acc.all Acc.wr; exact List.mem_append.2 (.inr (List.mem_append.2 (.inr hx)))
    refine ⟨(cond_after a1 i1).1 h3, (cond_after a3 i2).2 h1, runs_eqv ?_ h4⟩
    exact go_comm a2 hpp
theorem evD_run {C : CT} (hC : ∀ q ts r, C q ts r → OkR P q ts r) {K : List (Option Acc) → St → Prop} :
    ∀ (r : List Oper) (i : Nat) (s : St) (tr : List (Option Acc)), evD P C ops i r s tr K →
      ∃ (rs : List (Option Acc)) (s' : St), rs.length = r.length ∧ Runs P ops (r.zip rs) s s' ∧ K (rs.reverse ++ tr) s'
  | [], i, s, tr, h => ⟨[], s, rfl, Eqv.refl s, h⟩
  | o :: r, i, s, tr, h => by
    simp only [evD] at h
    split at h
    · rename_i hg
      obtain ⟨acc, hok, hp, hnw, h⟩ := step_ok hC h
      have h2 : evD P C ops (i + 1) r (s.app o acc.v acc.post) (some acc :: tr) K := by
        split at h
        · exact litBool_elim h
        · exact h
      obtain ⟨rs, s', hl, hr, hK⟩ := evD_run hC r (i + 1) _ _ h2
      exact ⟨some acc :: rs, s', by simp [hl], ⟨⟨by simp [Wanted, hg], hok, hp, hnw⟩, hr⟩, by simpa using hK⟩
    · rename_i j want hg
      split at h
      · rename_i b hgv
        split at h
        · rename_i hb
          obtain ⟨acc, hok, hp, hnw, h⟩ := step_ok hC h
          have h2 : evD P C ops (i + 1) r (s.app o acc.v acc.post) (some acc :: tr) K := by
            split at h
            · exact litBool_elim h
            · exact h
          obtain ⟨rs, s', hl, hr, hK⟩ := evD_run hC r (i + 1) _ _ h2
          exact ⟨some acc :: rs, s', by simp [hl], ⟨⟨by simp only [Wanted, hg]; rw [hgv]; simp at hb; rw [hb], hok, hp, hnw⟩, hr⟩, by simpa using hK⟩
        · rename_i hb
          obtain ⟨rs, s', hl, hr, hK⟩ := evD_run hC r (i + 1) _ _ h
          refine ⟨none :: rs, s', by simp [hl], ⟨?_, hr⟩, by simpa using hK⟩
          simp only [CondAt, Unwanted, hg]
          left
          rw [hgv]
          cases b <;> cases want <;> simp_all
      · rename_i hgv
        obtain ⟨rs, s', hl, hr, hK⟩ := evD_run hC r (i + 1) _ _ h
        refine ⟨none :: rs, s', by simp [hl], ⟨?_, hr⟩, by simpa using hK⟩
        simp only [CondAt, Unwanted, hg]
        exact .inr hgv
      · exact h.elim
theorem commOne_spec {j : Nat} {x : Option Acc} : ∀ {l : List (Option Acc)}, commOne ops j x l = true → ∀ (i : Nat) (a : Option Acc), l.reverse[i]? = some a → (edge ops i j = true ∨ indep a x = true) ∨ edge2 ops i j = true
  | [], _, i, a, h => by simp at h
  | y :: r, hc, i, a, h => by
    simp only [commOne, Bool.and_eq_true, Bool.or_eq_true] at hc
    rw [List.reverse_cons] at h
    by_cases hi : i < r.reverse.length
    · rw [List.getElem?_append_left hi] at h
      exact commOne_spec hc.2 i a h
    · rw [List.getElem?_append_right (by omega)] at h
      have h0 : i - r.reverse.length = 0 := by
        have : i - r.reverse.length < [y].length := (List.getElem?_eq_some_iff.1 h).1
        simp only [List.length_singleton] at this; omega
      rw [h0] at h
      obtain rfl : y = a := by simpa using h
      have : i = r.length := by simp at hi h0; omega
      rw [this]; exact hc.1
theorem commR_spec : ∀ {l : List (Option Acc)}, commR ops l = true → ∀ (i j : Nat) (a b : Option Acc), i < j → l.reverse[i]? = some a → l.reverse[j]? = some b → (edge ops i j = true ∨ indep a b = true) ∨ edge2 ops i j = true
  | [], _, i, j, a, b, _, h, _ => by simp at h
  | y :: r, hc, i, j, a, b, hij, h, k => by
    simp only [commR, Bool.and_eq_true] at hc
    rw [List.reverse_cons] at h k
    by_cases hj : j < r.reverse.length
    · rw [List.getElem?_append_left hj] at k
      rw [List.getElem?_append_left (by omega)] at h
      exact commR_spec hc.2 i j a b hij h k
    · rw [List.getElem?_append_right (by omega)] at k
      have h0 : j - r.reverse.length = 0 := by
        have : j - r.reverse.length < [y].length := (List.getElem?_eq_some_iff.1 k).1
        simp only [List.length_singleton] at this; omega
      rw [h0] at k
      obtain rfl : y = b := by simpa using k
      have hjr : j = r.length := by simp at hj h0; omega
      rw [List.getElem?_append_left (by simp; omega)] at h
      rw [hjr]; exact commOne_spec hc.1 i a h
structure Left (P : Program) (ops : Array Oper) (listed : Array Bool) (L : List (Nat × Ev)) : Prop where
  size : listed.size = ops.size
  at_ : ∀ x ∈ L, ops[x.1]? = some x.2.1
  left : ∀ i, i < ops.size → (listed.getD i true = false ↔ ∃ x ∈ L, x.1 = i)
  rise : L.Pairwise fun x y => x.1 < y.1
  free : L.Pairwise fun x y => (edge ops x.1 y.1 = true ∨ edge2 ops x.1 y.1 = true) ∨ Free ops x.2 y.2
  shut : ∀ i k, edge ops i k = true → listed.getD k false = true → listed.getD i false = true
theorem Left.take {listed : Array Bool} {A B : List (Nat × Ev)} {x : Nat × Ev} (h : Left P ops listed (A ++ x :: B)) (hx0 : ∀ i, edge ops i x.1 = true → listed.getD i false = true) : Left P ops (listed.setIfInBounds x.1 true) (A ++ B) := by
  have hsub : (A ++ B).Sublist (A ++ x :: B) := List.Sublist.append (List.Sublist.refl _) (List.sublist_cons_self _ _)
  refine ⟨by simpa using h.size, fun y hy => h.at_ y (hsub.subset hy), fun i hi => ?_, h.rise.sublist hsub, h.free.sublist hsub, fun i k he hk => ?_⟩
  rotate_left
  · have up : ∀ i, listed.getD i false = true → (listed.setIfInBounds x.1 true).getD i false = true := by
      intro i hi
      by_cases e : x.1 = i
      · subst e
        have hlt : x.1 < listed.size := by
          by_cases e : x.1 < listed.size
          · exact e
          · simp [Array.getD_eq_getD_getElem?, e] at hi
        rw [Array.getD_eq_getD_getElem?, Array.getElem?_setIfInBounds_self_of_lt hlt]; rfl
      · rw [Array.getD_eq_getD_getElem?, Array.getElem?_setIfInBounds_ne e, ← Array.getD_eq_getD_getElem?]; exact hi
    by_cases e : x.1 = k
    · subst e; exact up i (hx0 i he)
    · rw [Array.getD_eq_getD_getElem?, Array.getElem?_setIfInBounds_ne e, ← Array.getD_eq_getD_getElem?] at hk
      exact up i (h.shut i k he hk)
  have hx : x.1 < ops.size := by
    have := h.at_ x (by simp); exact (Array.getElem?_eq_some_iff.1 this).1
  by_cases e : x.1 = i
  · subst e
    constructor
    · intro hg
      rw [Array.getD_eq_getD_getElem?, Array.getElem?_setIfInBounds_self_of_lt (by rw [h.size]; exact hx)] at hg
      simp at hg
    · rintro ⟨y, hy, he⟩
      exfalso
      have hr := h.rise
      rw [List.pairwise_append] at hr
      obtain ⟨_, h2, h3⟩ := hr
      rcases List.mem_append.1 hy with hy | hy
      · have := h3 y hy x (by simp); omega
      · have := (List.pairwise_cons.1 h2).1 y hy; omega
  · rw [Array.getD_eq_getD_getElem?, Array.getElem?_setIfInBounds_ne e, ← Array.getD_eq_getD_getElem?, h.left i hi]
    constructor
    · rintro ⟨y, hy, rfl⟩
      refine ⟨y, ?_, rfl⟩
      simp only [List.mem_append, List.mem_cons] at hy ⊢
      rcases hy with hy | rfl | hy
      · exact .inl hy
      · exact absurd rfl e
      · exact .inr hy
    · rintro ⟨y, hy, rfl⟩
      exact ⟨y, hsub.subset hy, rfl⟩
theorem any_ok {γ : Nat → Option Value} {n np : Nat} (hnp : ∀ d, np ≤ d → γ d = none) (hpar : parD np ops.toList = true) {Q : Exit → Act → World → Prop} {send : St} {g0 : Gh} {oh0 : OH} {w0 : World} (hdst : dstB n ops.toList = true) (hback : backB ops = true)
    (hQ : ∀ g' a' w' s', Eqv s' send → Rel γ g' s' a' w' → Fr g0 oh0 w0 g' s'.oh w' → Q .normal a' w') :
    ∀ (fuel : Nat) (listed : Array Bool) (L : List (Nat × Ev)) (s : St) (g : Gh) (a : Act) (w : World), L.length = fuel → Left P ops listed L → Runs P ops (L.map (·.2)) s send →
      Rel γ g s a w → Fr g0 oh0 w0 g s.oh w → s.n = n → wpAny P .any ops Q fuel listed a w
  | 0, listed, L, s, g, a, w, hl, hL, hrun, hr, hf, hn => by
    obtain rfl : L = [] := List.eq_nil_of_length_eq_zero hl
    refine ⟨?_, hQ g a w s hrun hr hf⟩
    unfold Region.ready
    rw [List.filter_eq_nil_iff]
    intro i hi
    have hi : i < ops.size := by simpa using hi
    have : listed.getD i true ≠ false := fun e => by have := (hL.left i hi).1 e; simp at this
    simp [this]
  | fuel + 1, listed, L, s, g, a, w, hl, hL, hrun, hr, hf, hn => by
    refine ⟨fun he => ?_, fun i hi => ?_⟩
    · -- something is always ready
      exfalso
      match L, hl with
      | x :: L, _ =>
        have hx := hL.at_ x (by simp)
        have hlt : x.1 < ops.size := (Array.getElem?_eq_some_iff.1 hx).1
        have : x.1 ∈ Region.ready .any ops listed := by
          unfold Region.ready
          rw [List.mem_filter]
          refine ⟨by simpa using hlt, ?_⟩
          have h1 := (hL.left x.1 hlt).2 ⟨x, by simp, rfl⟩
          simp only [h1, hx, Option.map_some, Option.getD_some, Bool.not_false, Bool.true_and]
          rw [Array.all_eq_true_iff_forall_mem]
          intro e hem
          cases hb : Region.binds .any e with
          | false => simp
          | true =>
            have hbk := List.all_eq_true.1 hback x.1 (by simpa using hlt)
            simp only [hx] at hbk
            have := List.all_eq_true.1 hbk e (by simpa using hem)
            simp only [hb, Bool.not_true, Bool.false_or] at this
            have hon : e.on < x.1 := by simpa [Nat.blt_eq] using this
            simp only [Bool.not_true, Bool.false_or]
            -- listed: it is not among those that are left
            have hnl : ¬ ∃ y ∈ x :: L, y.1 = e.on := by
              rintro ⟨y, hy, hye⟩
              have hri := (List.pairwise_cons.1 hL.rise).1
              rcases List.mem_cons.1 hy with rfl | hy
              · omega
              · have := hri y hy; omega
            have hne : ¬ listed.getD e.on true = false := fun h => hnl ((hL.left e.on (by omega)).1 h)
            have hlt2 : e.on < listed.size := by rw [hL.size]; omega
            have : listed.getD e.on true = listed.getD e.on false := by simp [Array.getD_eq_getD_getElem?, hlt2]
            rw [← this]; simpa using hne
        rw [he] at this; simp at this
    · -- any that is ready may go first
      unfold Region.ready at hi
      rw [List.mem_filter] at hi
      obtain ⟨hi1, hi2⟩ := hi
      have hilt : i < ops.size := by simpa using hi1
      simp only [Bool.and_eq_true, Bool.not_eq_true'] at hi2
      obtain ⟨x, hx, rfl⟩ := (hL.left i hilt).1 hi2.1
      obtain ⟨A, B, rfl⟩ := List.append_of_mem hx
      have hxo := hL.at_ x (by simp)
      have hall := hi2.2
      simp only [hxo, Option.map_some, Option.getD_some] at hall
      rw [Array.all_eq_true_iff_forall_mem] at hall
      have hdone : ∀ i, edge ops i x.1 = true → listed.getD i false = true := by
        intro i he
        unfold edge at he
        simp only [hxo] at he
        obtain ⟨e, hem, hee⟩ := List.any_eq_true.1 he
        simp only [Bool.and_eq_true] at hee
        have hon := Nat.eq_of_beq_eq_true hee.1
        have := hall e (by simpa using hem)
        simp only [hee.2, Bool.not_true, Bool.false_or] at this
        rw [hon] at this; exact this
      have hfree : ∀ y ∈ A, Free ops y.2 x.2 := by
        intro y hy
        have hp := hL.free
        rw [List.pairwise_append] at hp
        rcases hp.2.2 y hy x (by simp) with he | hf
        · exfalso
          have this : listed.getD y.1 false = true := by
            rcases he with he | he
            · exact hdone y.1 he
            · unfold edge2 at he
              simp only [hxo] at he
              obtain ⟨e, hem, hee⟩ := List.any_eq_true.1 he
              simp only [Bool.and_eq_true] at hee
              refine hL.shut y.1 e.on hee.2 ?_
              have := hall e (by simpa using hem)
              simpa only [hee.1, Bool.not_true, Bool.false_or] using this
          have hyo := hL.at_ y (by simp [hy])
          have hylt : y.1 < ops.size := (Array.getElem?_eq_some_iff.1 hyo).1
          have hyl := (hL.left y.1 hylt).2 ⟨y, by simp [hy], rfl⟩
          have hlt2 : y.1 < listed.size := by rw [hL.size]; exact hylt
          have e2 : listed.getD y.1 true = listed.getD y.1 false := by simp [Array.getD_eq_getD_getElem?, hlt2]
          rw [← e2, hyl] at this; simp at this
        · exact hf
      have hrun2 : Runs P ops (x.2 :: (A.map (·.2) ++ B.map (·.2))) s send := by
        refine front _ _ _ (fun y hy => ?_) (by simpa using hrun)
        obtain ⟨z, hz, rfl⟩ := List.mem_map.1 hy
        exact hfree z hz
      obtain ⟨hcond, hrest⟩ := hrun2
      have hrest' : Runs P ops ((A ++ B).map (·.2)) (s.go x.2) send := by simpa using hrest
      have hlen : (A ++ B).length = fuel := by simp at hl ⊢; omega
      have hd : ∀ d, x.2.1.dst = some d → d < s.n := by
        intro d hd
        have hm : x.2.1 ∈ ops.toList := List.mem_of_getElem? (by simpa using hxo : ops.toList[x.1]? = some x.2.1)
        have := List.all_eq_true.1 hdst x.2.1 hm
        simp only [hd] at this
        rw [hn]; simpa [Nat.blt_eq] using this
      have hγ : ∀ d, x.2.1.dst = some d → γ d = none := by
        intro d hd
        have hm : x.2.1 ∈ ops.toList := List.mem_of_getElem? (by simpa using hxo : ops.toList[x.1]? = some x.2.1)
        have := List.all_eq_true.1 hpar x.2.1 hm
        simp only [hd] at this
        exact hnp d (Nat.le_of_ble_eq_true this)
      unfold wpOp
      simp only [hxo]
      cases hrec : x.2.2 with
      | some acc =>
        rw [hrec] at hcond
        obtain ⟨c1, c2, c3, c4⟩ := hcond
        rw [if_pos]
        · left
          refine step_wp hr hd hγ c2 c3 c4 fun g' a' w' hr' hf' => ?_
          have hgo : s.go x.2 = s.app x.2.1 acc.v acc.post := by unfold St.go; rw [hrec]; rfl
          rw [hgo] at hrest'
          exact any_ok hnp hpar hdst hback hQ fuel _ (A ++ B) _ g' a' w' hlen (hL.take hdone) hrest' hr' (hf.trans hf') hn
        · unfold Region.wanted
          unfold Wanted at c1
          cases hg : x.2.1.guard with
          | none => rfl
          | some jw =>
            obtain ⟨j, want⟩ := jw
            simp only [hg] at c1
            simp [guard_yields hr c1]
      | none =>
        rw [hrec] at hcond
        rw [if_neg]
        · have hgo : s.go x.2 = s.app x.2.1 (.tup []) [] := by unfold St.go; rw [hrec]; rfl
          rw [hgo] at hrest'
          exact any_ok hnp hpar hdst hback hQ fuel _ (A ++ B) _ g _ w hlen (hL.take hdone) hrest' (hr.skip hγ) (by simpa [St.app] using hf) hn
        · unfold Region.wanted
          simp only [CondAt, Unwanted] at hcond
          cases hg : x.2.1.guard with
          | none => simp [hg] at hcond
          | some jw =>
            obtain ⟨j, want⟩ := jw
            simp only [hg] at hcond
            rcases hcond with hcond | hcond
            · simp [guard_yields hr hcond]
            · intro e
              exact guard_none hr hcond (by simpa using e)
end
end Go.Ev

set_option linter.all false
namespace Go.Ev
section
variable {P : Program} {γ : Nat → Option Value} {g : Gh} {oh oh1 : OH} {w : World}
theorem rdV1_less {v : V} {x : Value} (hsub : ∀ i o, oget oh1 i = some o → oget oh i = some o) (hc : v.cl1 oh1) (h : RdV1 g oh v x) : RdV1 g oh1 v x := by
  cases v with
  | undef => exact hc.elim
  | con v => exact h
  | ro f t => exact h
  | emp => exact h
  | own id ver off len =>
    obtain ⟨h1, o, ho, h2, h3⟩ := h
    obtain ⟨o', ho'⟩ := Option.isSome_iff_exists.1 hc
    have := hsub id o' ho'
    rw [ho] at this
    obtain rfl : o = o' := by simpa using this
    exact ⟨h1, o, ho', h2, h3⟩
  | ref id ver i foff =>
    obtain ⟨h1, o, ho, h2, h3⟩ := h
    obtain ⟨o', ho'⟩ := Option.isSome_iff_exists.1 hc
    have := hsub id o' ho'
    rw [ho] at this
    obtain rfl : o = o' := by simpa using this
    exact ⟨⟨h1.1, fun q hq hm => h1.2 q (hsub _ _ hq) hm⟩, o, ho', h2, h3⟩
  | agg l => exact hc.elim
  | tup l => exact hc.elim
theorem rdV_less {v : V} {x : Value} (hsub : ∀ i o, oget oh1 i = some o → oget oh i = some o) (hc : v.cl oh1) (h : RdV g oh v x) : RdV g oh1 v x := by
  cases v with
  | agg l =>
    obtain ⟨cs, rfl, hl, hr⟩ := h
    exact ⟨cs, rfl, hl, fun j u c hu hcj => ⟨rdV1_less hsub (hc u (List.mem_of_getElem? hu)) (hr j u c hu hcj).1, (hr j u c hu hcj).2⟩⟩
  | undef => trivial
  | tup l => exact hc.elim
  | con v => exact rdV1_less (g := g) (v := .con v) hsub hc h
  | ro f t => exact rdV1_less (v := .ro f t) hsub hc h
  | emp => exact rdV1_less (g := g) (v := .emp) hsub hc h
  | own a1 a2 a3 a4 => exact rdV1_less (v := .own a1 a2 a3 a4) hsub hc h
  | ref a1 a2 a3 a4 => exact rdV1_less (v := .ref a1 a2 a3 a4) hsub hc h
theorem leOH_spec {l : OH} (h : leOH oh l) : ∀ i o, oget l i = some o → oget oh i = some o := by
  induction l with
  | nil => intro i o hi; simp [oget] at hi
  | cons p r ih =>
    obtain ⟨c, ob⟩ := p
    intro i o hi
    by_cases e : i = c
    · subst e
      rw [oget_cons_same] at hi
      obtain rfl : ob = o := by simpa using hi
      exact h.1
    · rw [oget_cons_other _ _ e] at hi; exact ih h.2 i o hi
theorem clObjs_spec {l : OH} (h : clObjs oh1 l) : ∀ i o, oget l i = some o → ∀ v ∈ o.el, v.cl oh1 := by
  induction l with
  | nil => intro i o hi; simp [oget] at hi
  | cons p r ih =>
    obtain ⟨c, ob⟩ := p
    intro i o hi
    by_cases e : i = c
    · subst e
      rw [oget_cons_same] at hi
      obtain rfl : ob = o := by simpa using hi
      exact h.1
    · rw [oget_cons_other _ _ e] at hi; exact ih h.2 i o hi
theorem leEnv_spec {e l : Env} (h : leEnv oh1 e l) : ∀ t, eget l t = .undef ∨ (eget e t = eget l t ∧ (eget l t).cl oh1) := by
  induction l with
  | nil => intro t; exact .inl rfl
  | cons p r ih =>
    obtain ⟨d, v⟩ := p
    intro t
    rw [eget_cons]
    by_cases hd : d = t
    · subst hd; rw [if_pos rfl]; exact .inr ⟨h.1, h.2.1⟩
    · rw [if_neg hd]; exact ih h.2.2 t
theorem elAt_less {sz k : Nat} {arr : Array Value} {e : V} (hsub : ∀ i o, oget oh1 i = some o → oget oh i = some o) (hc : e.cl oh1) (h : ElAt g oh sz arr k e) : ElAt g oh1 sz arr k e := by
  refine ⟨h.1, fun j v hj => ?_⟩
  obtain ⟨c, h1, h2, h3⟩ := h.2 j v hj
  refine ⟨c, h1, h2, ?_⟩
  cases e with
  | agg l => exact rdV1_less hsub (hc v (List.mem_of_getElem? hj)) h3
  | undef =>
    cases j with
    | zero => obtain rfl : V.undef = v := by simpa [V.cells] using hj
              trivial
    | succ j => simp [V.cells] at hj
  | con q =>
    cases j with
    | zero => obtain rfl : V.con q = v := by simpa [V.cells] using hj
              exact rdV1_less hsub hc h3
    | succ j => simp [V.cells] at hj
  | ro f t =>
    cases j with
    | zero => obtain rfl : V.ro f t = v := by simpa [V.cells] using hj
              exact rdV1_less hsub hc h3
    | succ j => simp [V.cells] at hj
  | emp =>
    cases j with
    | zero => obtain rfl : V.emp = v := by simpa [V.cells] using hj
              exact rdV1_less hsub hc h3
    | succ j => simp [V.cells] at hj
  | own a1 a2 a3 a4 =>
    cases j with
    | zero => obtain rfl : V.own a1 a2 a3 a4 = v := by simpa [V.cells] using hj
              exact rdV1_less hsub hc h3
    | succ j => simp [V.cells] at hj
  | ref a1 a2 a3 a4 =>
    cases j with
    | zero => obtain rfl : V.ref a1 a2 a3 a4 = v := by simpa [V.cells] using hj
              exact rdV1_less hsub hc h3
    | succ j => simp [V.cells] at hj
  | tup l => exact hc.elim
theorem Rel.less {s1 s : St} {a : Act} (hle : Le s1 s) (h : Rel γ g s a w) : Rel γ g s1 a w ∧ Fr g s.oh w g s1.oh w := by
  obtain ⟨hn, hle1, hle2, hcl⟩ := hle
  have hsub := leOH_spec hle2
  refine ⟨⟨⟨h.hr.hG, h.hr.hF, fun i o ho hl => ?_, fun i j oi oj b hi hj => h.hr.inj i j oi oj b (hsub _ _ hi) (hsub _ _ hj), h.hr.mp.sub fun i o hi _ => ⟨hsub i o hi, rfl⟩⟩, h.df, h.sz.trans hn.symm, fun t => ?_, h.par⟩, ?_⟩
  · obtain ⟨h1, h2⟩ := h.hr.obj i o (hsub i o ho) hl
    refine ⟨h1, fun b hb => ?_⟩
    obtain ⟨arr, ty, hh, hg, hba⟩ := h2 b hb
    exact ⟨arr, ty, hh, hg, hba.1, hba.2.1, hba.2.2.1, fun k e he => elAt_less hsub (clObjs_spec hcl i o ho e (List.mem_of_getElem? he)) (hba.2.2.2 k e he)⟩
  · rcases leEnv_spec hle1 t with hu | ⟨he, hc⟩
    · rw [hu]; trivial
    · have := h.env t
      rw [he] at this
      exact rdV_less hsub hc this
  · refine ⟨rfl, rfl, rfl, Nat.le_refl _, fun _ _ _ _ => rfl, ?_, fun _ _ _ h => h, fun _ _ _ h => h, fun _ _ _ h => .inl h, fun _ _ _ h => .inl h, fun _ arr _ _ h => ⟨arr, h, rfl⟩, fun b hb => .inl (hb.sub fun i o hi _ => ⟨hsub i o hi, rfl⟩)⟩
    rintro b ⟨i, o, ho, hl, hm⟩
    exact .inl ⟨i, o, hsub i o ho, hl, hm⟩
theorem adopt_ok {a : Act} : ∀ (ads : List (Nat × Nat × Nat)) (s : St) (g : Gh), adoptOK s ads → Rel γ g s a w → ∃ g', Rel γ g' (adopt s ads) a w ∧ Fr g s.oh w g' (adopt s ads).oh w
  | [], s, g, _, h => ⟨g, h, Fr.refl _ _ _⟩
  | (t, c, sz) :: r, s, g, ho, h => by
    obtain ⟨he, hn, hr⟩ := ho
    have hb := h.hr.bare c ⟨sz, [], 0, true⟩ rfl (by simp [hn]) rfl
    have h1 : Rel γ { g with m := fun i => if i = c then none else g.m i } { s with env := (t, .own c 0 0 0) :: s.env, oh := (c, ⟨sz, [], 0, true⟩) :: s.oh } a w := by
      refine ⟨hb.1, h.df, h.sz, fun t' => ?_, h.par⟩
      simp only [eget_cons]
      by_cases e : t = t'
      · subst e
        rw [if_pos rfl]
        have := h.env t
        rw [he] at this
        obtain ⟨ad, hx⟩ := this
        rw [hx]
        exact ⟨rfl, _, oget_cons_same _ _ _, Nat.le_refl _, fun _ _ => ⟨ad, 0, rfl, Nat.le_refl _, by simp, by simp⟩⟩
      · rw [if_neg e]; exact hb.2.1.rdV (h.env t')
    obtain ⟨g', h2, h3⟩ := adopt_ok r _ _ hr h1
    exact ⟨g', h2, hb.2.2.trans h3⟩
def Dropped (g : Gh) (oh oh1 : OH) (b : Nat) : Prop := ∃ i o, oget oh i = some o ∧ o.live = true ∧ g.m i = some b ∧ oget oh1 i = none
theorem fd1_ok {f : Bool} {S : Sto} (hr : HR g oh w) (hF : ∀ b o c, g.F b o = some c → S b o = some c) (hG : f = false → ∀ b o c, g.G b o = some c → S b o = some c)
    (hD : ∀ b, Dropped g oh oh1 b → ∀ o c, w.cell? ⟨b, o, none⟩ = some c → S b o = some c) {v : V} {t : T} (h : Fd1 oh oh1 f v t) : ∀ {x : Value}, RdV1 g oh v x → RdT S t x ∧ x.oneCell' = true := by
  induction h with
  | con v => intro x hx; obtain ⟨rfl, h1⟩ := hx; exact ⟨.con _ h1, h1⟩
  | ro f' t hf =>
    intro x hx
    refine ⟨hx.1.mono ?_, hx.2⟩
    cases f' with
    | true => exact hF
    | false =>
      cases f with
      | true => exact absurd (hf rfl) (by simp)
      | false => exact hG rfl
  | emp =>
    intro x hx
    obtain ⟨a, rfl⟩ := hx
    exact ⟨.sl [] a 0 0 0 0 (fun _ _ => Go.undef) (Nat.le_refl _) (by decide) (by simp) (by simp) (by simp) (by simp) (by simp), rfl⟩
  | own id ver off len o ts ho hd hv hl hn hs hc ih =>
    intro x hx
    obtain ⟨hx1, o', ho', _, hat⟩ := hx
    rw [ho] at ho'
    obtain rfl : o = o' := by simpa using ho'
    obtain ⟨a, cap, rfl, hlc, hoff, hcap⟩ := hat hv hl
    refine ⟨?_, rfl⟩
    by_cases hc0 : cap = 0
    · obtain rfl : len = 0 := by omega
      obtain rfl : ts = [] := List.eq_nil_of_length_eq_zero hn
      exact .sl [] a cap 0 0 0 (fun _ _ => Go.undef) (by simp) (by rw [hc0]; decide) (by simp) (by simp) (by simp) (by simp) (by simp)
    · obtain ⟨b, hb, rfl, hcp⟩ := hcap hc0
      obtain ⟨arr, ty, hh, _, hbs, hbl, hbm, hels⟩ := (hr.obj id o ho hl).2 b hb
      have hdrop : Dropped g oh oh1 b := ⟨id, o, ho, hl, hb, hd⟩
      have hel : ∀ i, i < len → ∃ e, o.el[off + i]? = some e := fun i hi => ⟨o.el[off + i]'(by omega), by simp⟩
      have hti : ∀ (i : Nat) (t : T), ts[i]? = some t → i < len := fun i t h => by rw [← hn]; exact (List.getElem?_eq_some_iff.1 h).1
      have hcell : ∀ (i : Nat) (t : T) (j : Nat), ts[i]? = some t → j < t.cells.length →
          ∃ e v c, o.el[off + i]? = some e ∧ e.cells[j]? = some v ∧ arr[(off + i) * o.sz + j]? = some c ∧ c.oneCell' = true ∧ RdV1 g oh v c := by
        intro i t j ht hj
        have hi := hti i t ht
        obtain ⟨e, he⟩ := hel i hi
        have hl2 := hs i e t hi he ht
        obtain ⟨q1, q2⟩ := hels _ e he
        have hje : j < e.cells.length := by omega
        obtain ⟨c, c1, c2, c3⟩ := q2 j e.cells[j] (by simp [hje])
        exact ⟨e, _, c, he, by simp [hje], c1, c2, c3⟩
      have hgetD : ∀ (i j : Nat) (c : Value), arr[(off + i) * o.sz + j]? = some c → arr.getD ((off + i) * o.sz + j) Go.undef = c := by
        intro i j c h; rw [Array.getD_eq_getD_getElem?, h]; rfl
      rw [← hn]
      refine .sl ts _ cap o.sz b (off * o.sz) (fun i j => arr.getD ((off + i) * o.sz + j) Go.undef) (by omega) (by omega) (fun _ => rfl) (fun i t ht => ?_) (fun i t j ht hj => ?_) (fun i t j ht hj => ?_) (fun i t j u ht hu => ?_)
      · have hi := hti i t ht
        obtain ⟨e, he⟩ := hel i hi
        rw [hs i e t hi he ht]; exact (hels _ e he).1
      · obtain ⟨e, v, c, he, hv2, h1, h2, h3⟩ := hcell i t j ht hj
        rw [hgetD i j c h1]
        refine hD b hdrop _ _ ?_
        rw [cell_of_row w b _ arr ty _ hh, ← h1]; congr 1; rw [Nat.add_mul]
      · obtain ⟨e, v, c, he, hv2, h1, h2, h3⟩ := hcell i t j ht hj
        rw [hgetD i j c h1]; exact h2
      · have hj : j < t.cells.length := (List.getElem?_eq_some_iff.1 hu).1
        obtain ⟨e, v, c, he, hv2, h1, h2, h3⟩ := hcell i t j ht hj
        rw [hgetD i j c h1]
        exact (ih i e t j v u (hti i t ht) he ht hv2 hu h3).1
open Classical in
noncomputable def Gh.give (g : Gh) (oh oh1 : OH) (w : World) : Gh :=
  ⟨fun b o => if Dropped g oh oh1 b then w.cell? ⟨b, o, none⟩ else g.G b o, fun b o => if Dropped g oh oh1 b then w.cell? ⟨b, o, none⟩ else g.F b o,
    fun i => if (oget oh i).isSome = true then g.m i else none, g.cp⟩
theorem lv_con2 {oh oh1 : OH} {a b : Value} {v : V} (h : LV oh oh1 (.agg [.con a, .con b]) v) : v = .agg [.con a, .con b] := by
  have one : ∀ (c : Value) (u : V), Lc oh oh1 (.con c) u → u = .con c := by
    intro c u hu
    cases hu with
    | same _ h => rfl
    | frz f _ t h => cases h; rfl
  have key : ∀ (l : List V) (u : V), Lc oh oh1 (.agg l) u → u = .agg l := by
    intro l u hu
    generalize hx : V.agg l = x at hu
    cases hu with
    | same _ h => rfl
    | frz f _ t h => subst hx; cases h
    | adopt c o h0 h1 => cases hx
  cases v with
  | agg l1 =>
    obtain ⟨h1, h2⟩ := h
    match l1, h1 with
    | [x, y], _ => rw [one a x (h2 0 _ _ rfl rfl), one b y (h2 1 _ _ rfl rfl)]
  | undef => cases key _ _ h
  | tup l => cases key _ _ h
  | con q => cases key _ _ h
  | ro f t => cases key _ _ h
  | emp => cases key _ _ h
  | own q1 q2 q3 q4 => cases key _ _ h
  | ref q1 q2 q3 q4 => cases key _ _ h
open Classical in
theorem Rel.lf {s1 s : St} {a : Act} (hle : Lf s1 s) (h : Rel γ g s a w) : Rel γ (g.give s.oh s1.oh w) s1 a w ∧ Fr g s.oh w (g.give s.oh s1.oh w) s1.oh w := by
  have hown : ∀ b, Dropped g s.oh s1.oh b → Owned g s.oh b := fun b ⟨i, o, h1, h2, h3, _⟩ => ⟨i, o, h1, h2, h3⟩
  have hGn : ∀ b, Owned g s.oh b → ∀ o, g.G b o = none := by
    rintro b ⟨i, o, h1, h2, h3⟩ off
    obtain ⟨arr, ty, _, hg, _⟩ := (h.hr.obj i o h1 h2).2 b h3
    exact hg off
  have hGG : ∀ b o c, g.G b o = some c → (g.give s.oh s1.oh w).G b o = some c := by
    intro b o c hc
    show (if Dropped g s.oh s1.oh b then w.cell? ⟨b, o, none⟩ else g.G b o) = some c
    by_cases hd : Dropped g s.oh s1.oh b
    · rw [hGn b (hown b hd) o] at hc; cases hc
    · rw [if_neg hd]; exact hc
  have hFF : ∀ b o c, g.F b o = some c → (g.give s.oh s1.oh w).F b o = some c := by
    intro b o c hc
    show (if Dropped g s.oh s1.oh b then w.cell? ⟨b, o, none⟩ else g.F b o) = some c
    by_cases hd : Dropped g s.oh s1.oh b
    · have := h.hr.hF b o c hc; rw [hGn b (hown b hd) o] at this; cases this
    · rw [if_neg hd]; exact hc
  have hm : ∀ i o, oget s.oh i = some o → (g.give s.oh s1.oh w).m i = g.m i := by
    intro i o ho; simp [Gh.give, ho]
  have hm0 : ∀ i, oget s.oh i = none → (g.give s.oh s1.oh w).m i = none := by
    intro i ho; simp [Gh.give, ho]
  have hc : ∀ v v1, Lc s.oh s1.oh v v1 → ∀ x, RdV1 g s.oh v x → RdV1 (g.give s.oh s1.oh w) s1.oh v1 x ∧ (x.oneCell' = true → x.oneCell' = true) := by
    intro v v1 hl x hx
    refine ⟨?_, id⟩
    cases hl with
    | same v hcl =>
      cases v with
      | undef => exact hcl.elim
      | con q => exact hx
      | ro f t =>
        refine ⟨hx.1.mono ?_, hx.2⟩
        cases f
        · exact hGG
        · exact hFF
      | emp => exact hx
      | own id ver off len =>
        obtain ⟨h1, o, ho, h2, h3⟩ := hx
        obtain ⟨o1, ho1⟩ := Option.isSome_iff_exists.1 hcl
        rcases hle.oh id o1 ho1 with ⟨o', ho', e1, e2, e3, e4, _⟩ | ⟨hn, _⟩
        · rw [ho] at ho'
          obtain rfl : o = o' := by simpa using ho'
          refine ⟨h1, o1, ho1, by omega, fun ev el => ?_⟩
          obtain ⟨ad, cap, p1, p2, p3, p4⟩ := h3 (by omega) (by rw [← e3]; exact el)
          refine ⟨ad, cap, p1, p2, by omega, fun hcap => ?_⟩
          obtain ⟨b, b1, b2, b3⟩ := p4 hcap
          exact ⟨b, by rw [hm id o ho]; exact b1, by rw [e1]; exact b2, b3⟩
        · rw [ho] at hn; cases hn
      | ref id ver i foff =>
        obtain ⟨h1, o, ho, h2, h3⟩ := hx
        obtain ⟨o1, ho1⟩ := Option.isSome_iff_exists.1 hcl
        rcases hle.oh id o1 ho1 with ⟨o', ho', e1, e2, e3, e4, _⟩ | ⟨hn, _⟩
        · rw [ho] at ho'
          obtain rfl : o = o' := by simpa using ho'
          refine ⟨⟨h1.1, fun q hq hmp => ?_⟩, o1, ho1, by omega, fun ev el => ?_⟩
          · rw [ho1] at hq
            obtain rfl : o1 = q := by simpa using hq
            obtain ⟨b, b1, b2⟩ := h1.2 o ho ⟨by rw [← e3]; exact hmp.1, by rw [← e1]; exact hmp.2⟩
            exact ⟨b, (hm id o ho).trans b1, b2⟩
          obtain ⟨b, b1, b2⟩ := h3 (by omega) (by rw [← e3]; exact el)
          exact ⟨b, by rw [hm id o ho]; exact b1, by rw [e1]; exact b2⟩
        · rw [ho] at hn; cases hn
      | agg l => exact hcl.elim
      | tup l => exact hcl.elim
    | frz f v t hf =>
      have := fd1_ok (S := (g.give s.oh s1.oh w).sto f) h.hr (fun b o c hc => by
          cases f with
          | true => exact hFF b o c hc
          | false => exact hGG b o c (h.hr.hF b o c hc)) (fun hf b o c hc => by subst hf; exact hGG b o c hc)
        (fun b hd o c hcl => by
          cases f with
          | true => show (if Dropped g s.oh s1.oh b then w.cell? ⟨b, o, none⟩ else g.F b o) = some c; rw [if_pos hd]; exact hcl
          | false => show (if Dropped g s.oh s1.oh b then w.cell? ⟨b, o, none⟩ else g.G b o) = some c; rw [if_pos hd]; exact hcl) hf hx
      exact ofT1_ok this.1 this.2
    | adopt c o h0 h1 =>
      obtain ⟨ad, rfl⟩ := hx
      rcases hle.oh c o h1 with ⟨o', ho', _⟩ | ⟨_, e1, e2, e3⟩
      · rw [h0] at ho'; cases ho'
      · exact ⟨rfl, o, h1, by omega, fun _ _ => ⟨ad, 0, rfl, Nat.le_refl _, by simp, by simp⟩⟩
  have hA : ∀ v v1, LV s.oh s1.oh v v1 → ∀ x, RdV g s.oh v x → RdV (g.give s.oh s1.oh w) s1.oh v1 x := by
    intro v v1 hl x hx
    have one : ∀ v1, Lc s.oh s1.oh v v1 → RdV1 (g.give s.oh s1.oh w) s1.oh v1 x := by
      intro v1 hlc
      refine (hc v v1 hlc x ?_).1
      cases v with
      | agg l => cases hlc with
        | same _ hcl => exact hcl.elim
        | frz f _ t hf => cases hf
      | tup l => cases hlc with
        | same _ hcl => exact hcl.elim
        | frz f _ t hf => cases hf
      | _ => exact hx
    cases v1 with
    | agg l1 =>
      cases v with
      | agg l =>
        obtain ⟨hll, hlc⟩ := hl
        obtain ⟨cs, rfl, hcl, hr⟩ := hx
        refine ⟨cs, rfl, by omega, fun j u c hu hcj => ?_⟩
        have hj : j < l.length := by rw [hll]; exact (List.getElem?_eq_some_iff.1 hu).1
        obtain ⟨r1, r2⟩ := hr j l[j] c (by simp [hj]) hcj
        exact ⟨(hc _ _ (hlc j l[j] u (by simp [hj]) hu) c r1).1, r2⟩
      | _ => exact hl.elim
    | undef => trivial
    | tup l => exact (one _ hl).elim
    | con q => exact one _ hl
    | ro f t => exact one _ hl
    | emp => exact one _ hl
    | own q1 q2 q3 q4 => exact one _ hl
    | ref q1 q2 q3 q4 => exact one _ hl
  have hlen : ∀ v v1, LV s.oh s1.oh v v1 → v1.cells.length = v.cells.length := by
    intro v v1 hl
    have one : ∀ v1, Lc s.oh s1.oh v v1 → (∀ l, v1 ≠ .agg l) → v1.cells.length = v.cells.length := by
      intro v1 hlc hne
      have h1 : v1.cells.length = 1 := by cases v1 <;> first | rfl | exact absurd rfl (hne _)
      have h2 : v.cells.length = 1 := by
        cases v with
        | agg l => cases hlc with
          | same _ hcl => exact hcl.elim
          | frz f _ t hf => cases hf
        | _ => rfl
      omega
    cases v1 with
    | agg l1 =>
      cases v with
      | agg l => exact hl.1.symm
      | _ => exact hl.elim
    | undef => exact one _ hl (by simp)
    | tup l => exact one _ hl (by simp)
    | con q => exact one _ hl (by simp)
    | ro f t => exact one _ hl (by simp)
    | emp => exact one _ hl (by simp)
    | own q1 q2 q3 q4 => exact one _ hl (by simp)
    | ref q1 q2 q3 q4 => exact one _ hl (by simp)
  have hEl : ∀ sz arr k e e1, LV s.oh s1.oh e e1 → ElAt g s.oh sz arr k e → ElAt (g.give s.oh s1.oh w) s1.oh sz arr k e1 := by
    intro sz arr k e e1 hl he
    obtain ⟨q1, q2⟩ := he
    refine ⟨by rw [hlen e e1 hl]; exact q1, fun j v hv => ?_⟩
    have hj : j < e.cells.length := by rw [← hlen e e1 hl]; exact (List.getElem?_eq_some_iff.1 hv).1
    obtain ⟨c, c1, c2, c3⟩ := q2 j e.cells[j] (by simp [hj])
    refine ⟨c, c1, c2, ?_⟩
    have one : ∀ v1, (∀ l, v1 ≠ .agg l) → v1.cells[j]? = some v → Lc s.oh s1.oh e v1 → RdV1 (g.give s.oh s1.oh w) s1.oh v c := by
      intro v1 hne hv1 hlc
      have e1 : v1.cells = [v1] := by cases v1 <;> first | rfl | exact absurd rfl (hne _)
      have e2 : e.cells = [e] := by
        cases e with
        | agg l => cases hlc with
          | same _ hcl => exact hcl.elim
          | frz f _ t hf => cases hf
        | _ => rfl
      have hj0 : j = 0 := by rw [e2] at hj; simpa using hj
      subst hj0
      have hvv : v1 = v := by rw [e1] at hv1; simpa using hv1
      subst hvv
      have : e.cells[0] = e := by simp [e2]
      rw [this] at c3
      exact (hc e v1 hlc c c3).1
    cases e1 with
    | agg l1 =>
      cases e with
      | agg l => exact (hc _ _ (hl.2 j (V.agg l).cells[j] v (by have : (V.agg l).cells = l := rfl
                                                                simp [this]) hv) c c3).1
      | _ => exact hl.elim
    | undef => exact one _ (by simp) hv hl
    | tup l => exact one _ (by simp) hv hl
    | con q => exact one _ (by simp) hv hl
    | ro f t => exact one _ (by simp) hv hl
    | emp => exact one _ (by simp) hv hl
    | own q1 q2 q3 q4 => exact one _ (by simp) hv hl
    | ref q1 q2 q3 q4 => exact one _ (by simp) hv hl
  have hmx : ∀ i o1, oget s1.oh i = some o1 → isMp o1 → ∃ o, oget s.oh i = some o ∧ isMp o ∧ (g.give s.oh s1.oh w).m i = g.m i ∧ (MapAt g w i o → MapAt (g.give s.oh s1.oh w) w i o1) := by
    intro i o1 ho1 hmp
    rcases hle.oh i o1 ho1 with ⟨o, ho, e1, e2, e3, e4, hels⟩ | ⟨hn, e1, e2, e3⟩
    · refine ⟨o, ho, ⟨by rw [← e3]; exact hmp.1, by rw [← e1]; exact hmp.2⟩, hm i o ho, fun ⟨b, es, clock, q0, q1, q2, q3⟩ => ⟨b, es, clock, (hm i o ho).trans q0, q1, by rw [e4]; exact q2, fun j e v he hv => ?_⟩⟩
      have hj : j < o.el.length := by rw [← e4]; exact (List.getElem?_eq_some_iff.1 hv).1
      have hoj : o.el[j]? = some o.el[j] := List.getElem?_eq_getElem hj
      have h1 := q3 j e _ he hoj
      have h2 := hels j _ v hoj hv
      rw [h1] at h2
      exact lv_con2 h2
    · exact absurd hmp (not_mp e3)
  have hmpk : MpOK (g.give s.oh s1.oh w) s1.oh w := by
    refine ⟨fun i o1 ho1 hmp => ?_, fun i j oi oj b hi hj mi mj e e' => ?_⟩
    · obtain ⟨o, ho, hm1, _, hk⟩ := hmx i o1 ho1 hmp
      exact hk (h.hr.mp.at_ i o ho hm1)
    · obtain ⟨o, ho, hm1, e1, _⟩ := hmx i oi hi mi
      obtain ⟨o', ho', hm2, e2, _⟩ := hmx j oj hj mj
      exact h.hr.mp.inj i j o o' b ho ho' hm1 hm2 (by rw [← e1]; exact e) (by rw [← e2]; exact e')
  refine ⟨⟨⟨?_, ?_, fun i o1 ho1 hl1 => ?_, fun i j oi oj b hi hj hli hlj hmi hmj => ?_, hmpk⟩, h.df, h.sz.trans hle.n.symm, fun t => ?_, h.par⟩, ⟨rfl, rfl, rfl, Nat.le_refl _, fun _ _ _ _ => rfl, ?_, hGG, hFF, ?_, ?_, fun _ arr _ _ h => ⟨arr, h, rfl⟩, fun b ⟨i, o1, ho1, hmp, e⟩ => by
    obtain ⟨o, ho, hm1, e1, _⟩ := hmx i o1 ho1 hmp
    exact .inl ⟨i, o, ho, hm1, e1.symm.trans e⟩⟩⟩
  · intro b o c hcl
    have hcl : (if Dropped g s.oh s1.oh b then w.cell? ⟨b, o, none⟩ else g.G b o) = some c := hcl
    by_cases hd : Dropped g s.oh s1.oh b
    · rw [if_pos hd] at hcl; exact hcl
    · rw [if_neg hd] at hcl; exact h.hr.hG b o c hcl
  · intro b o c hcl
    have hcl : (if Dropped g s.oh s1.oh b then w.cell? ⟨b, o, none⟩ else g.F b o) = some c := hcl
    show (if Dropped g s.oh s1.oh b then w.cell? ⟨b, o, none⟩ else g.G b o) = some c
    by_cases hd : Dropped g s.oh s1.oh b
    · rw [if_pos hd] at hcl ⊢; exact hcl
    · rw [if_neg hd] at hcl ⊢; exact h.hr.hF b o c hcl
  · rcases hle.oh i o1 ho1 with ⟨o, ho, e1, e2, e3, e4, hels⟩ | ⟨hn, e1, e2, e3⟩
    · obtain ⟨h1, h2⟩ := h.hr.obj i o ho (by rw [← e3]; exact hl1)
      refine ⟨fun hmn => ?_, fun b hb => ?_⟩
      · rw [hm i o ho] at hmn
        have := h1 hmn
        exact List.eq_nil_of_length_eq_zero (by rw [e4, this]; rfl)
      · rw [hm i o ho] at hb
        obtain ⟨arr, ty, hh, hg, hba⟩ := h2 b hb
        refine ⟨arr, ty, hh, fun off => ?_, by rw [e1]; exact hba.1, by rw [e4]; exact hba.2.1, hba.2.2.1, fun k e1' he => ?_⟩
        · show (if Dropped g s.oh s1.oh b then w.cell? ⟨b, off, none⟩ else g.G b off) = none
          rw [if_neg]
          · exact hg off
          · rintro ⟨j, oj, hj, hlj, hmj, hn⟩
            have := h.hr.inj i j o oj b ho hj (by rw [← e3]; exact hl1) hlj hb hmj
            subst this
            rw [ho1] at hn; cases hn
        · have hk : k < o.el.length := by rw [← e4]; exact (List.getElem?_eq_some_iff.1 he).1
          rw [e1]
          exact hEl _ _ _ _ _ (hels k o.el[k] e1' (by simp [hk]) he) (hba.2.2.2 k o.el[k] (by simp [hk]))
    · refine ⟨fun _ => e1, fun b hb => ?_⟩
      rw [hm0 i hn] at hb; cases hb
  · rcases hle.oh i oi hi with ⟨o, ho, _, _, e3, _⟩ | ⟨hn, _⟩
    · rcases hle.oh j oj hj with ⟨o', ho', _, _, e3', _⟩ | ⟨hn, _⟩
      · rw [hm i o ho] at hmi
        rw [hm j o' ho'] at hmj
        exact h.hr.inj i j o o' b ho ho' (by rw [← e3]; exact hli) (by rw [← e3']; exact hlj) hmi hmj
      · rw [hm0 j hn] at hmj; cases hmj
    · rw [hm0 i hn] at hmi; cases hmi
  · rcases hle.env t with hu | hl
    · rw [hu]; trivial
    · exact hA _ _ hl _ (h.env t)
  · rintro b ⟨i, o1, ho1, hl1, hmi⟩
    left
    rcases hle.oh i o1 ho1 with ⟨o, ho, e1, e2, e3, e4, hels⟩ | ⟨hn, _⟩
    · rw [hm i o ho] at hmi
      exact ⟨i, o, ho, by rw [← e3]; exact hl1, hmi⟩
    · rw [hm0 i hn] at hmi; cases hmi
  · intro b o c hcl
    have hcl : (if Dropped g s.oh s1.oh b then w.cell? ⟨b, o, none⟩ else g.G b o) = some c := hcl
    by_cases hd : Dropped g s.oh s1.oh b
    · exact .inr (.inl (hown b hd))
    · rw [if_neg hd] at hcl; exact .inl hcl
  · intro b o c hcl
    have hcl : (if Dropped g s.oh s1.oh b then w.cell? ⟨b, o, none⟩ else g.F b o) = some c := hcl
    by_cases hd : Dropped g s.oh s1.oh b
    · exact .inr (.inl (hown b hd))
    · rw [if_neg hd] at hcl; exact .inl hcl
def Gh.ren (g : Gh) (oh1 : OH) (m : Nat → Nat) : Gh := ⟨g.G, g.F, fun i => if (oget oh1 i).isSome = true then g.m (m i) else none, fun i => g.cp (m i)⟩
section
variable {oh1 : OH} {m : Nat → Nat}
theorem renC_ok (hn : Ren oh oh1 m) {v v1 : V} (h : RenC m oh oh1 v v1) {x : Value} (hx : RdV1 g oh v x) : RdV1 (g.ren oh1 m) oh1 v1 x := by
  cases h with
  | con v => exact hx
  | ro f t => exact ⟨by cases f <;> exact hx.1, hx.2⟩
  | emp => exact hx
  | own id ver off len o ho hv h1 =>
    obtain ⟨o1, ho1⟩ := Option.isSome_iff_exists.1 h1
    obtain ⟨o', ho', l0, l1, e1, e2, e3, _⟩ := hn.obj id o1 ho1
    rw [ho] at ho'
    obtain rfl : o = o' := by simpa using ho'
    obtain ⟨x1, o2, ho2, _, hat⟩ := hx
    rw [ho] at ho2
    obtain rfl : o = o2 := by simpa using ho2
    obtain ⟨ad, cap, p1, p2, p3, p4⟩ := hat hv l0
    refine ⟨x1, o1, ho1, by omega, fun _ _ => ⟨ad, cap, p1, p2, by omega, fun hcap => ?_⟩⟩
    obtain ⟨b, b1, b2, b3⟩ := p4 hcap
    exact ⟨b, by simp [Gh.ren, h1, b1], by rw [e2]; exact b2, b3⟩
  | ref id ver i foff o ho hv h1 =>
    obtain ⟨o1, ho1⟩ := Option.isSome_iff_exists.1 h1
    obtain ⟨o', ho', l0, l1, e1, e2, e3, _⟩ := hn.obj id o1 ho1
    rw [ho] at ho'
    obtain rfl : o = o' := by simpa using ho'
    obtain ⟨x1, o2, ho2, _, hat⟩ := hx
    rw [ho] at ho2
    obtain rfl : o = o2 := by simpa using ho2
    obtain ⟨b, b1, b2⟩ := hat hv l0
    exact ⟨refx x1.1 ho1 l1, o1, ho1, by omega, fun _ _ => ⟨b, by simp [Gh.ren, h1, b1], by rw [e2]; exact b2⟩⟩
theorem renC_one {v v1 : V} (h : RenC m oh oh1 v v1) : v.cells = [v] ∧ v1.cells = [v1] := by cases h <;> exact ⟨rfl, rfl⟩
theorem renA_ok (hn : Ren oh oh1 m) {v v1 : V} (h : RenA m oh oh1 v v1) {x : Value} (hx : RdV g oh v x) : RdA (g.ren oh1 m) oh1 v1 x := by
  have one : ∀ v1, RenC m oh oh1 v v1 → RdV1 (g.ren oh1 m) oh1 v1 x := by
    intro v1 hc
    refine renC_ok hn hc ?_
    cases hc <;> exact hx
  cases v1 with
  | agg l1 =>
    cases v with
    | agg l =>
      obtain ⟨hl, hr⟩ := h
      obtain ⟨cs, rfl, hcl, hc⟩ := hx
      refine ⟨cs, rfl, by omega, fun j u c hu hcj => ?_⟩
      have hj : j < l.length := by rw [hl]; exact (List.getElem?_eq_some_iff.1 hu).1
      obtain ⟨r1, r2⟩ := hc j l[j] c (by simp [hj]) hcj
      exact ⟨renC_ok hn (hr j l[j] u (by simp [hj]) hu) r1, r2⟩
    | _ => exact h.elim
  | undef => cases h
  | tup l => cases h
  | con q => exact one _ h
  | ro f t => exact one _ h
  | emp => exact one _ h
  | own q1 q2 q3 q4 => exact one _ h
  | ref q1 q2 q3 q4 => exact one _ h
theorem ren_hr (hn : Ren oh oh1 m) (h : HR g oh w) : HR (g.ren oh1 m) oh1 w ∧ ∀ b, Owned (g.ren oh1 m) oh1 b → Owned g oh b := by
  have hm : ∀ i o1, oget oh1 i = some o1 → (g.ren oh1 m).m i = g.m (m i) := fun i o1 h => by simp [Gh.ren, h]
  refine ⟨⟨h.hG, h.hF, fun i o1 ho1 hl1 => ?_, fun i j oi oj b hi hj hli hlj hmi hmj => ?_, MpOK.none fun i o1 ho1 => (hn.obj i o1 ho1).choose_spec.2.2.1⟩, ?_⟩
  · obtain ⟨o, ho, l0, l1, e1, e2, e3, hels⟩ := hn.obj i o1 ho1
    obtain ⟨h1, h2⟩ := h.obj (m i) o ho l0
    refine ⟨fun hmn => ?_, fun b hb => ?_⟩
    · rw [hm i o1 ho1] at hmn
      exact List.eq_nil_of_length_eq_zero (by rw [e3, h1 hmn]; rfl)
    · rw [hm i o1 ho1] at hb
      obtain ⟨arr, ty, hh, hg, hba⟩ := h2 b hb
      refine ⟨arr, ty, hh, hg, by rw [e2]; exact hba.1, by rw [e3]; exact hba.2.1, hba.2.2.1, fun k e' he => ?_⟩
      have hk : k < o.el.length := by rw [← e3]; exact (List.getElem?_eq_some_iff.1 he).1
      have hra := hels k o.el[k] e' (by simp [hk]) he
      obtain ⟨q1, q2⟩ := hba.2.2.2 k o.el[k] (by simp [hk])
      rw [e2]
      have key : e'.cells.length = o.el[k].cells.length ∧ ∀ (j : Nat) (a b : V), o.el[k].cells[j]? = some a → e'.cells[j]? = some b → RenC m oh oh1 a b := by
        have one : ∀ v1, RenC m oh oh1 o.el[k] v1 → v1.cells.length = o.el[k].cells.length ∧ ∀ (j : Nat) (a b : V), o.el[k].cells[j]? = some a → v1.cells[j]? = some b → RenC m oh oh1 a b := by
          intro v1 hc
          obtain ⟨z1, z2⟩ := renC_one hc
          rw [z1, z2]
          refine ⟨rfl, fun j a b ha hb => ?_⟩
          cases j with
          | zero =>
            simp at ha hb
            subst ha; subst hb; exact hc
          | succ j => simp at ha
        revert hra one
        generalize o.el[k] = e0
        intro hra one
        cases e' with
        | agg l1 =>
          cases e0 with
          | agg l => exact ⟨hra.1.symm, hra.2⟩
          | _ => exact hra.elim
        | undef => cases hra
        | tup l => cases hra
        | con q => exact one _ hra
        | ro f t => exact one _ hra
        | emp => exact one _ hra
        | own q1 q2 q3 q4 => exact one _ hra
        | ref q1 q2 q3 q4 => exact one _ hra
      refine ⟨by rw [key.1]; exact q1, fun j v hv => ?_⟩
      have hj : j < o.el[k].cells.length := by rw [← key.1]; exact (List.getElem?_eq_some_iff.1 hv).1
      obtain ⟨c, c1, c2, c3⟩ := q2 j o.el[k].cells[j] (by simp [hj])
      exact ⟨c, c1, c2, renC_ok hn (key.2 j _ v (by simp [hj]) hv) c3⟩
  · rw [hm i oi hi] at hmi
    rw [hm j oj hj] at hmj
    obtain ⟨o, ho, l0, _⟩ := hn.obj i oi hi
    obtain ⟨o', ho', l0', _⟩ := hn.obj j oj hj
    exact hn.inj i j oi oj hi hj (h.inj (m i) (m j) o o' b ho ho' l0 l0' hmi hmj)
  · rintro b ⟨i, o1, ho1, hl1, hmi⟩
    rw [hm i o1 ho1] at hmi
    obtain ⟨o, ho, l0, _⟩ := hn.obj i o1 ho1
    exact ⟨m i, o, ho, l0, hmi⟩
end
theorem Rel.lr {s1 s : St} {a : Act} (hle : Lr s1 s) (h : Rel γ g s a w) : ∃ g1, Rel γ g1 s1 a w ∧ Fr g s.oh w g1 s1.oh w := by
  obtain ⟨hn, m, hr, he⟩ := hle
  obtain ⟨h1, h2⟩ := ren_hr hr h.hr
  refine ⟨g.ren s1.oh m, ⟨h1, h.df, h.sz.trans hn.symm, fun t => ?_, h.par⟩, rfl, rfl, rfl, Nat.le_refl _, fun _ _ _ _ => rfl, fun b hb => .inl (h2 b hb), fun _ _ _ h => h, fun _ _ _ h => h, fun _ _ _ h => .inl h, fun _ _ _ h => .inl h,
    fun _ arr _ _ h => ⟨arr, h, rfl⟩, fun b hb => absurd hb (MpB.none fun i o1 ho1 => (hr.obj i o1 ho1).choose_spec.2.2.1)⟩
  rcases he t with e | e
  · rw [e]; trivial
  · have k := renA_ok hr e (h.env t)
    generalize eget s1.env t = v1 at e k ⊢
    generalize eget s.env t = v0 at e
    cases v1 with
    | tup l => cases e
    | _ => exact k
theorem Rel.leB {fz : Md} {s1 s : St} {a : Act} (hle : LeB fz s1 s) (h : Rel γ g s a w) : ∃ g1, Rel γ g1 s1 a w ∧ Fr g s.oh w g1 s1.oh w ∧ s1.n = s.n := by
  cases fz with
  | le => exact ⟨g, (h.less hle).1, (h.less hle).2, hle.1⟩
  | lf => exact ⟨_, (h.lf hle).1, (h.lf hle).2, hle.n⟩
  | lr => obtain ⟨g1, h1, h2⟩ := h.lr hle; exact ⟨g1, h1, h2, hle.n⟩
def exitOf : X → Exit
  | .normal => .normal
  | .ret => .ret
  | .exit id => .exit id
def Post (γ : Nat → Option Value) (Q : X → St → Prop) (g : Gh) (oh : OH) (w : World) (n : Nat) (e : Exit) (a : Act) (w' : World) : Prop :=
  ∃ x s' g', e = exitOf x ∧ Q x s' ∧ Rel γ g' s' a w' ∧ Fr g oh w g' s'.oh w' ∧ s'.n = n
theorem Post.from {Q : X → St → Prop} {g1 : Gh} {oh1 : OH} {w1 : World} {n : Nat} {e : Exit} {a : Act} {w' : World} (hf : Fr g oh w g1 oh1 w1) (h : Post γ Q g1 oh1 w1 n e a w') : Post γ Q g oh w n e a w' := by
  obtain ⟨x, s', g', h1, h2, h3, h4, h5⟩ := h
  exact ⟨x, s', g', h1, h2, h3, hf.trans h4, h5⟩
theorem evC_ok {C : CT} (hC : ∀ q ts r, C q ts r → OkR P q ts r) (hmix : P.follows .mixedOrders = true) {n np : Nat} (hnp : ∀ d, np ≤ d → γ d = none) :
    ∀ (c : Code) (s : St) (Q : X → St → Prop), okB n c = true → parB np c = true → evC P C c s Q → s.n = n → ∀ g a w, Rel γ g s a w → c.wp P (Post γ Q g s.oh w n) a w
  | .skip, s, Q, _, _, h, hn, g, a, w, hr => wp_skip ⟨.normal, s, g, rfl, h, hr, Fr.refl _ _ _, hn⟩
  | .ret, s, Q, _, _, h, hn, g, a, w, hr => wp_ret ⟨.ret, s, g, rfl, h, hr, Fr.refl _ _ _, hn⟩
  | .exit id, s, Q, _, _, h, hn, g, a, w, hr => wp_exit ⟨.exit id, s, g, rfl, h, hr, Fr.refl _ _ _, hn⟩
  | .seq x y, s, Q, hb, hbp, h, hn, g, a, w, hr => by
    simp only [okB, Bool.and_eq_true] at hb
    simp only [parB, Bool.and_eq_true] at hbp
    rcases h with h | h
    · refine wp_seq (wp_mono (evC_ok hC hmix hnp x s _ hb.1 hbp.1 h hn g a w hr) fun e a' w' hp => ?_)
      obtain ⟨xx, s', g', rfl, h2, h3, h4, h5⟩ := hp
      cases xx with
      | normal =>
        exact wp_mono (evC_ok hC hmix hnp y s' Q hb.2 hbp.2 h2 h5 g' a' w' h3) fun e a2 w2 hp2 => hp2.from h4
      | ret => exact ⟨.ret, s', g', rfl, h2, h3, h4, h5⟩
      | exit id => exact ⟨.exit id, s', g', rfl, h2, h3, h4, h5⟩
    · refine wp_seq (wp_mono (evC_ok hC hmix hnp x s _ hb.1 hbp.1 h hn g a w hr) fun e a' w' hp => ?_)
      obtain ⟨xx, s', g', rfl, h2, h3, h4, h5⟩ := hp
      cases xx with
      | normal =>
        obtain ⟨fz, s2, hlf, h2⟩ := h2
        obtain ⟨g6, h6, h7, h8⟩ := h3.leB hlf
        exact wp_mono (evC_ok hC hmix hnp y s2 Q hb.2 hbp.2 h2 (h8.trans h5) _ a' w' h6) fun e a2 w2 hp2 => hp2.from (h4.trans h7)
      | ret => exact ⟨.ret, s', g', rfl, h2, h3, h4, h5⟩
      | exit id => exact ⟨.exit id, s', g', rfl, h2, h3, h4, h5⟩
  | .cond c x y, s, Q, hb, hbp, h, hn, g, a, w, hr => by
    simp only [okB, Bool.and_eq_true] at hb
    simp only [parB, Bool.and_eq_true] at hbp
    simp only [evC] at h
    split at h
    · rename_i t hc
      have hv := opd_rd hr c
      rw [hc] at hv
      exact wp_cond_split hv.1 (fun ht => evC_ok hC hmix hnp x s Q hb.1 hbp.1 (h.1 ht) hn g a w hr) (fun ht => evC_ok hC hmix hnp y s Q hb.2 hbp.2 (h.2 ht) hn g a w hr)
    · exact h.elim
  | .block id c, s, Q, hb, hbp, h, hn, g, a, w, hr => by
    refine wp_block (wp_mono (evC_ok hC hmix hnp c s _ hb hbp h hn g a w hr) fun e a' w' hp => ?_)
    obtain ⟨xx, s', g', rfl, h2, h3, h4, h5⟩ := hp
    cases xx with
    | normal => exact ⟨.normal, s', g', rfl, h2, h3, h4, h5⟩
    | ret => exact ⟨.ret, s', g', rfl, h2, h3, h4, h5⟩
    | exit j =>
      simp only [X.block] at h2
      simp only [exitOf, Exit.inBlock]
      by_cases e : j = id
      · rw [if_pos e] at h2 ⊢; exact ⟨.normal, s', g', rfl, h2, h3, h4, h5⟩
      · rw [if_neg e] at h2 ⊢; exact ⟨.exit j, s', g', rfl, h2, h3, h4, h5⟩
  | .loop c, s, Q, hb, hbp, h, hn, g, a, w, hr => by
    obtain ⟨f0, fz, σ, enc, I, μ, ads, z0, had, hI, hle, hround⟩ := h
    obtain ⟨g1, hr1, hf1⟩ := adopt_ok ads s g had hr
    obtain ⟨g2, hr2, hf2, hle1⟩ := hr1.leB hle
    have hn0 : (adopt s ads).n = s.n := by
      have : ∀ (ads : List (Nat × Nat × Nat)) (s : St), (adopt s ads).n = s.n := by
        intro ads; induction ads with
        | nil => intro s; rfl
        | cons p r ih => intro s; obtain ⟨t, c, sz⟩ := p; simp only [adopt]; rw [ih]
      exact this ads s
    -- the invariant: some state of the relation is met; the measure is the least one that fits
    have key : ∀ (m : Nat) (z : σ) (g1 : Gh) (a : Act) (w1 : World), μ z = m → I z → (enc z).n = n → Rel γ g1 (enc z) a w1 → Fr g s.oh w g1 (enc z).oh w1 →
        ∀ (b : Frame) (k : List Item) (cs : List Frame), ∃ e a' w', Post γ Q g s.oh w n e a' w' ∧ Arrives P (lone (b.at a (.code c :: .inLoop c :: k)) cs w1) b k cs e a' w' := by
      intro m
      induction m using Nat.strongRecOn with
      | _ m ih =>
        intro z g1 a w1 hm hI hnz hrz hfz b k cs
        obtain ⟨e, a2, w2, hp, harr⟩ := evC_ok hC hmix hnp c (enc z) _ hb hbp (hround z hI) hnz g1 a w1 hrz b (.inLoop c :: k) cs
        obtain ⟨xx, s', g', rfl, h2, h3, h4, h5⟩ := hp
        cases xx with
        | normal =>
          obtain ⟨z', hI', hlt, hle'⟩ := h2
          obtain ⟨g3, hr', hf', hle1'⟩ := h3.leB hle'
          obtain ⟨e, a3, w3, hq, harr3⟩ := ih (μ z') (by omega) z' g3 a2 w2 rfl hI' (hle1'.trans h5) hr' ((hfz.trans h4).trans hf') b k cs
          exact ⟨e, a3, w3, hq, .of_steps (Steps.trans harr (.one step_inLoop)) harr3⟩
        | ret => exact ⟨.ret, a2, w2, ⟨.ret, s', g', rfl, h2, h3, hfz.trans h4, h5⟩, .pass (x := .inLoop c) rfl (fun _ _ => .inl (by simp)) harr⟩
        | exit id => exact ⟨.exit id, a2, w2, ⟨.exit id, s', g', rfl, h2, h3, hfz.trans h4, h5⟩, .pass (x := .inLoop c) rfl (fun _ _ => .inl (by simp)) harr⟩
    intro b k cs
    obtain ⟨e, a', w', hq, harr⟩ := key (μ z0) z0 g2 a w rfl hI (hle1.trans (hn0.trans hn)) hr2 (hf1.trans hf2) b k cs
    exact ⟨e, a', w', hq, .of_steps (.one step_loop) harr⟩
  | .region id ops false, s, Q, hb, hbp, h, hn, g, a, w, hr => by
    simp only [okB, Bool.and_eq_true] at hb
    simp only [parB, Bool.and_eq_true] at hbp
    refine wp_region ?_
    have := evOps_ok (n := n) (Q := Post γ Q g s.oh w n) hC hb.1 hnp hbp (g0 := g) (oh0 := s.oh) (w0 := w) (fun s' g' a' w' hk hr' hf' hn' => ⟨.normal, s', g', rfl, hk, hr', hf', hn'⟩) ops.toList 0 s rfl h g a w hr (Fr.refl _ _ _) hn
    simpa [List.range_eq_range'] using this
  | .region id ops true, s, Q, hb, hbp, h, hn, g, a, w, hr => by
    simp only [okB, Bool.and_eq_true, Bool.not_true, Bool.false_or] at hb
    simp only [parB] at hbp
    obtain ⟨hdst, hap, hback⟩ := hb
    obtain ⟨rs, s', hl, hrun, hcomm, hq⟩ := evD_run hC ops.toList 0 s [] h
    simp only [List.append_nil] at hcomm
    refine wp_region_any hmix ?_
    have hr' : Rel γ g s a { w with drawn := w.drawn + 1 } := ⟨hr.hr.same rfl, hr.df, hr.sz, hr.env, hr.par⟩
    have hfr : Fr g s.oh w g s.oh { w with drawn := w.drawn + 1 } := ⟨rfl, rfl, rfl, Nat.le_refl _, fun _ _ _ _ => rfl, fun _ h => .inl h, fun _ _ _ h => h, fun _ _ _ h => h, fun _ _ _ h => .inl h, fun _ _ _ h => .inl h, fun _ arr _ _ h => ⟨arr, h, rfl⟩, fun _ h => .inl h⟩
    have hzl : (ops.toList.zip rs).length = ops.size := by simp [hl]
    have hnn : s'.n = n := by
      have : ∀ (l : List Ev) (s s' : St), Runs P ops l s s' → s.n = s'.n := by
        intro l
        induction l with
        | nil => intro s s' h; exact h.1
        | cons x l ih => intro s s' h; exact (ih _ _ h.2 : (s.go x).n = s'.n)
      rw [← this _ _ _ hrun]; exact hn
    refine any_ok (n := n) hnp hbp hdst hback (send := s') (g0 := g) (oh0 := s.oh) (w0 := w) ?_ ops.size (Array.replicate ops.size false) ((List.range ops.size).zip (ops.toList.zip rs)) s g a _ (by simp [hl]) ?_ ?_ hr' hfr hn
    · intro g' a' w' s2 he hr2 hf2
      refine ⟨.normal, s', g', rfl, hq, ?_, ?_, hnn⟩
      · have hoh : ∀ v x, RdV1 g' s2.oh v x → RdV1 g' s'.oh v x := by
          intro v x hx
          cases v with
          | own i1 i2 i3 i4 => obtain ⟨h1, o, ho, h2⟩ := hx; exact ⟨h1, o, by rw [← he.2.2]; exact ho, h2⟩
          | ref i1 i2 i3 i4 => obtain ⟨h1, o, ho, h2⟩ := hx; exact ⟨⟨h1.1, fun q hq hm => h1.2 q (by rw [he.2.2]; exact hq) hm⟩, o, by rw [← he.2.2]; exact ho, h2⟩
          | _ => exact hx
        have hm : Mono g' s2.oh g' s'.oh := hoh
        refine ⟨⟨hr2.hr.hG, hr2.hr.hF, fun i o ho hl => ?_, fun i j oi oj b hi hj => hr2.hr.inj i j oi oj b (by rw [he.2.2]; exact hi) (by rw [he.2.2]; exact hj), hr2.hr.mp.sub fun i o ho _ => ⟨by rw [he.2.2]; exact ho, rfl⟩⟩, hr2.df, hr2.sz.trans he.1, fun t => ?_, hr2.par⟩
        · obtain ⟨h1, h2⟩ := hr2.hr.obj i o (by rw [he.2.2]; exact ho) hl
          refine ⟨h1, fun b hb => ?_⟩
          obtain ⟨arr, ty, hh, hg, hba⟩ := h2 b hb
          exact ⟨arr, ty, hh, hg, hba.mono hm⟩
        · rw [← he.2.1]; exact hm.rdV (hr2.env t)
      · refine ⟨hf2.os, hf2.tape, hf2.output, hf2.size, hf2.keep, fun b hb => hf2.own b ?_, hf2.G, hf2.F, hf2.nG, hf2.nF, hf2.blk, fun b hb => hf2.mown b (hb.sub fun i o ho _ => ⟨by rw [he.2.2]; exact ho, rfl⟩)⟩
        obtain ⟨i, o, ho, hl, hm⟩ := hb
        exact ⟨i, o, by rw [he.2.2]; exact ho, hl, hm⟩
    · have hget : ∀ (i : Nat) (x : Nat × Ev), ((List.range ops.size).zip (ops.toList.zip rs))[i]? = some x → x.1 = i ∧ i < ops.size ∧ ops[i]? = some x.2.1 ∧ rs[i]? = some x.2.2 := by
        intro i x hx
        rw [List.getElem?_zip_eq_some] at hx
        obtain ⟨h1, h2⟩ := hx
        rw [List.getElem?_zip_eq_some] at h2
        have hlt : i < ops.size := by have := (List.getElem?_eq_some_iff.1 h1).1; simpa using this
        rw [List.getElem?_range hlt] at h1
        exact ⟨by simpa using h1.symm, hlt, by simpa using h2.1, h2.2⟩
      refine ⟨by simp, fun x hx => ?_, fun i hi => ?_, ?_, ?_, ?_⟩
      · obtain ⟨i, hi⟩ := List.mem_iff_getElem?.1 hx
        obtain ⟨h1, h2, h3, _⟩ := hget i x hi
        rw [h1]; exact h3
      · constructor
        · intro _
          have : i < ((List.range ops.size).zip (ops.toList.zip rs)).length := by simp [hl]; exact hi
          exact ⟨_, List.getElem_mem this, (hget i _ (List.getElem?_eq_getElem this)).1⟩
        · intro _
          simp [Array.getD_eq_getD_getElem?, hi]
      · rw [List.pairwise_iff_getElem]
        intro i j hi hj hij
        have e1 := (hget i _ (List.getElem?_eq_getElem hi)).1
        have e2 := (hget j _ (List.getElem?_eq_getElem hj)).1
        omega
      · rw [List.pairwise_iff_getElem]
        intro i j hi hj hij
        obtain ⟨e1, l1, o1, r1⟩ := hget i _ (List.getElem?_eq_getElem hi)
        obtain ⟨e2, l2, o2, r2⟩ := hget j _ (List.getElem?_eq_getElem hj)
        rw [e1, e2]
        have hA := List.all_eq_true.1 (List.all_eq_true.1 hap j (by simpa using l2)) i (by simpa using hij)
        simp only [o1, o2, Bool.or_eq_true] at hA
        have hB := commR_spec hcomm i j _ _ hij (by rw [List.reverse_reverse]; exact r1) (by rw [List.reverse_reverse]; exact r2)
        rcases hA with hA | hA
        · exact .inl (.inl hA)
        · rcases hB with (hB | hB) | hB
          · exact .inl (.inl hB)
          · exact .inr ⟨hA, hB⟩
          · exact .inl (.inr hB)
      · intro i k he hk
        rw [Array.getD_eq_getD_getElem?, Array.getElem?_replicate] at hk
        split at hk <;> cases hk
    · have : ((List.range ops.size).zip (ops.toList.zip rs)).map (·.2) = ops.toList.zip rs := List.map_snd_zip (by simp [hl])
      rw [this]; exact hrun
  | .rangeFunc .., s, Q, _, _, h, _, _, _, _, _ => h.elim
  | .scope _, s, Q, _, _, h, _, _, _, _, _ => h.elim
  | .label _, s, Q, _, _, h, _, _, _, _, _ => h.elim
  | .goto _, s, Q, _, _, h, _, _, _, _, _ => h.elim
  | .refuse _, s, Q, _, _, h, _, _, _, _, _ => h.elim
end
end Go.Ev
