/-
  OWN LAYER 'Ev', PART K: A REGION IN THE ORDER OF THE TEXT.
-/
import Derived.Test.YtfaegonekocakaaEvJ
set_option linter.all false
namespace Go.Ev

/-- A state and the machine's. -/
structure Rel (g : Gh) (s : St) (a : Act) (w : World) : Prop where
  hr : HR g s.oh w
  df : a.defers = []
  sz : a.tmps.size = s.n
  env : ∀ t, RdV g s.oh (eget s.env t) (a.tmps.getD t Go.undef)

section
variable {P : Program} {g : Gh} {s : St} {a : Act} {w : World}

theorem opd_rd (h : Rel g s a w) (x : Operand) : RdV g s.oh (opd s.env x) (a.eval x) := by
  cases x with
  | tmp t => exact h.env t
  | const v => exact ofConst_ok v
  | global q => exact ⟨rfl, rfl⟩
  | func f => exact ⟨rfl, rfl⟩

theorem eget_cons (d : Nat) (v : V) (e : Env) (t : Nat) : eget ((d, v) :: e) t = if d = t then v else eget e t := by
  rfl

/-- Behind an operation. -/
theorem Rel.put {o : Oper} {post : OH} {g' : Gh} {w' : World} {v : V} {x : Value} (h : Rel g s a w) (hd : ∀ d, o.dst = some d → d < s.n) (h1 : HR g' (post ++ s.oh) w')
    (hv : RdV g' (post ++ s.oh) v x) (hm : Mono g s.oh g' (post ++ s.oh)) : Rel g' (s.app o v post) (a.put o.dst x) w' := by
  cases hdst : o.dst with
  | none =>
    refine ⟨h1, h.df, h.sz, fun t => ?_⟩
    simp only [St.app, hdst, Act.put]
    exact hm.rdV (h.env t)
  | some d =>
    refine ⟨h1, h.df, by simp [Act.put, St.app, h.sz], fun t => ?_⟩
    simp only [St.app, hdst, Act.put, eget_cons]
    by_cases e : d = t
    · subst e
      have hlt : d < a.tmps.size := by rw [h.sz]; exact hd d hdst
      rw [if_pos rfl, Array.getD_eq_getD_getElem?, Array.getElem?_setIfInBounds_self_of_lt hlt]
      exact hv
    · rw [if_neg e, Array.getD_eq_getD_getElem?, Array.getElem?_setIfInBounds_ne e, ← Array.getD_eq_getD_getElem?]
      exact hm.rdV (h.env t)

theorem Rel.skip {o : Oper} (h : Rel g s a w) : Rel g (s.app o .undef []) (a.put o.dst Go.undef) w := by
  cases hdst : o.dst with
  | none => exact ⟨by simpa [St.app] using h.hr, h.df, h.sz, fun t => by simpa [St.app, hdst, Act.put] using h.env t⟩
  | some d =>
    refine ⟨by simpa [St.app] using h.hr, h.df, by simp [Act.put, St.app, h.sz], fun t => ?_⟩
    simp only [St.app, hdst, Act.put, eget_cons, List.nil_append]
    by_cases e : d = t
    · rw [if_pos e]; trivial
    · rw [if_neg e, Array.getD_eq_getD_getElem?, Array.getElem?_setIfInBounds_ne e, ← Array.getD_eq_getD_getElem?]
      exact h.env t

/-- From what an operation comes to, to the calculus. -/
theorem wp_of_out {o : Oper} {K : Act → World → Prop} {Q : Exit → Act → World → Prop} {Z : Value → World → Prop} (h : Out P Z ((execOp a.eval o).run P w))
    (hk : ∀ v w', Z v w' → K (a.put o.dst v) w') : o.wp P a w K Q := by
  unfold Oper.wp
  generalize (execOp a.eval o).run P w = r at *
  cases r with
  | ok n w' =>
    cases n <;> simp only [Out] at h <;> simp only [Oper.upon]
    case value v => exact hk _ _ h
    case skip => exact hk _ _ h
    case enter f args =>
      refine h.mono fun e w'' he => ?_
      obtain ⟨v, rfl, hz⟩ := he
      exact hk _ _ hz
  | halt x w' => simp only [Out] at h

/-- An accord, carried out in a state. -/
theorem step_wp {o : Oper} {acc : Acc} {K : Act → World → Prop} {Q : Exit → Act → World → Prop} (h : Rel g s a w) (hd : ∀ d, o.dst = some d → d < s.n) (hok : OpOK P o (opd s.env) acc)
    (hp : ∀ i ob, (i, ob) ∈ acc.pre → oget s.oh i = some ob) (hn : ∀ i, i ∈ acc.nw → oget s.oh i = none)
    (hk : ∀ g' a' w', Rel g' (s.app o acc.v acc.post) a' w' → Fr g s.oh w g' (acc.post ++ s.oh) w' → K a' w') : o.wp P a w K Q := by
  refine wp_of_out (hok g s.oh w a.eval h.hr (fun x _ => opd_rd h x) hp hn) fun v w' hz => ?_
  obtain ⟨g', h1, h2, h3, h4⟩ := hz
  exact hk g' _ w' (h.put hd h1 h2 h3) h4

theorem guard_yields {ops : Array Oper} {j : Nat} {b : Bool} (h : Rel g s a w) (hg : guardVal ops s.env j = .con (.bool b)) : yielded ops a.tmps j = some b := by
  unfold guardVal at hg
  unfold yielded
  cases hd : (ops[j]?).bind (·.dst) with
  | none => simp [hd] at hg
  | some d =>
    simp only [hd] at hg
    have := h.env d
    rw [hg] at this
    have hx : a.tmps.getD d Go.undef = .bool b := this.1
    have : a.tmps[d]? = some (.bool b) := by
      rw [Array.getD_eq_getD_getElem?] at hx
      cases hq : a.tmps[d]? with
      | none => rw [hq] at hx; simp [Go.undef] at hx
      | some q => rw [hq] at hx; simpa using hx
    simp [this]

theorem nil_ok {o : Oper} {t : TypeId} {x : Operand} {pos : Bool} {K : Bool → Prop} (hn : nilTest o = some (t, x, pos)) (h : Rel g s a w) (hb : nilB (tk P t) (opd s.env x) K) :
    ∃ b, K b ∧ (execOp a.eval o).run P w = .ok (.value (.bool (b == pos))) w := by
  have key : ∀ (ad : Option Addr) (len cap : Nat), a.eval x = .slice ad len cap → (∃ e, P.underlying t = some (.slice e)) → K ad.isNone →
      ∃ b, K b ∧ (execOp a.eval o).run P w = .ok (.value (.bool (b == pos))) w := by
    rintro ad len cap he ⟨e1, hu⟩ hk
    refine ⟨_, hk, ?_⟩
    have heq : ∀ d, (Op.equalIn (d + 1) t (.slice ad len cap) (.slice none 0 0)).run P w = .ok ad.isNone w := by
      intro d
      cases ad <;> simp [Op.equalIn, run_underlying hu]
    have heq := heq 9999
    unfold nilTest at hn
    split at hn
    · rename_i t' x' t2 ho
      cases hn
      simp only [execOp, ho]
      refine run_val _ w w _ ?_
      show ((do eqGuard .eql t x _ (a.eval x) (.slice none 0 0); binOp .eql t (a.eval x) (.slice none 0 0)) : Sem Value).run P w = _
      rw [he]
      simp [eqGuard_con .eql t x _ (.slice ad len cap) (.slice none 0 0) (by simp) (by simp) w, binOp, Op.equal, Op.maxDepth, heq]
    · rename_i t' x' t2 ho
      cases hn
      simp only [execOp, ho]
      refine run_val _ w w _ ?_
      show ((do eqGuard .neq t x _ (a.eval x) (.slice none 0 0); binOp .neq t (a.eval x) (.slice none 0 0)) : Sem Value).run P w = _
      rw [he]
      simp [eqGuard_con .neq t x _ (.slice ad len cap) (.slice none 0 0) (by simp) (by simp) w, binOp, Op.equal, Op.maxDepth, heq]
    · cases hn
  have hrx := opd_rd h x
  unfold nilB at hb
  split at hb
  · rename_i d1 v1 e1 sz by1 ag1 z1 f l hd hx
    rw [hx] at hrx
    obtain ⟨ad, cap, esz, b, off, c', hxe, _, _, ha, _⟩ := rdT_sl hrx.1
    obtain ⟨_, _, hu, _⟩ := tk_sl hd
    exact key ad _ _ hxe ⟨_, hu⟩ (hb _ fun hn => by
      cases l with
      | nil => rfl
      | cons q r => rw [ha (by simp)] at hn; simp at hn)
  · rename_i d1 v1 e1 sz by1 ag1 z1 hd hx
    rw [hx] at hrx
    obtain ⟨ad, hxe⟩ := hrx
    obtain ⟨_, _, hu, _⟩ := tk_sl hd
    exact key ad _ _ hxe ⟨_, hu⟩ (hb _)
  · exact hb.elim

theorem litBool_elim {v : V} {K : V → Prop} (h : litBool v K) : K v := by
  unfold litBool at h
  split at h
  · rename_i b
    cases b
    · exact h.2 rfl
    · exact h.1 rfl
  · exact h

theorem nil_guard {o : Oper} {t : TypeId} {x : Operand} {pos : Bool} (_ : nilTest o = some (t, x, pos)) : True := trivial

theorem evOps_ok {C : CT} (hC : ∀ q ts r, C q ts r → OkR P q ts r) {ops : Array Oper} {K : St → Prop} {Q : Exit → Act → World → Prop} {n : Nat} (hdst : dstB n ops.toList = true)
    {g0 : Gh} {oh0 : OH} {w0 : World} (hK : ∀ s' g' a' w', K s' → Rel g' s' a' w' → Fr g0 oh0 w0 g' s'.oh w' → s'.n = n → Q .normal a' w') :
    ∀ (r : List Oper) (i : Nat) (s : St), ops.toList.drop i = r → evOps P C ops i r s K → ∀ g a w, Rel g s a w → Fr g0 oh0 w0 g s.oh w → s.n = n → wpOps P ops Q (List.range' i r.length) a w
  | [], i, s, _, h, g, a, w, hr, hf, hn => by
    simp only [evOps] at h
    simpa [wpOps] using hK s g a w h hr hf hn
  | o :: r, i, s, hdr, h, g, a, w, hr, hf, hn => by
    have hoi : ops[i]? = some o := by
      have : (ops.toList.drop i)[0]? = some o := by rw [hdr]; rfl
      rw [List.getElem?_drop] at this; simpa using this
    have hdr' : ops.toList.drop (i + 1) = r := by
      have : (ops.toList.drop i).drop 1 = r := by rw [hdr]; rfl
      rw [List.drop_drop] at this; exact this
    have hd : ∀ d, o.dst = some d → d < s.n := by
      intro d hd
      have hm : o ∈ ops.toList := List.mem_of_getElem? (by simpa using hoi : ops.toList[i]? = some o)
      have := List.all_eq_true.1 hdst o hm
      simp only [hd] at this
      rw [hn]; simpa [Nat.blt_eq] using this
    have nxt := evOps_ok hC hdst hK r (i + 1)
    simp only [List.length_cons, List.range'_succ, wpOps, hoi]
    simp only [evOps] at h
    have happ : ∀ v post, (s.app o v post).n = n := fun v post => hn
    split at h
    · rename_i hg
      rw [if_pos (by simp [Region.wanted, hg])]
      left
      split at h
      · rename_i t x pos hnt
        obtain ⟨b, hb, hrun⟩ := nil_ok hnt hr h
        refine wp_of_out (Z := fun v w' => v = .bool (b == pos) ∧ w' = w) (by rw [hrun]; exact ⟨rfl, rfl⟩) ?_
        rintro _ _ ⟨rfl, rfl⟩
        exact nxt _ hdr' hb g _ _ (hr.put hd (by simpa using hr.hr) ⟨rfl, rfl⟩ (Mono.refl _ _)) (by simpa [St.app] using hf) (happ _ _)
      · obtain ⟨acc, hok, hp, hnw, h⟩ := step_ok hC h
        refine step_wp hr hd hok hp hnw fun g' a' w' hr' hf' => ?_
        have h2 : evOps P C ops (i + 1) r (s.app o acc.v acc.post) K := by
          split at h
          · exact litBool_elim h
          · exact h
        exact nxt _ hdr' h2 g' a' w' hr' (hf.trans hf') (happ _ _)
    · rename_i j want hg
      split at h
      · rename_i b hgv
        have hy := guard_yields hr hgv
        split at h
        · rename_i hb
          rw [if_pos (by simp [Region.wanted, hg, hy]; simpa using hb)]
          left
          obtain ⟨acc, hok, hp, hnw, h⟩ := step_ok hC h
          refine step_wp hr hd hok hp hnw fun g' a' w' hr' hf' => ?_
          exact nxt _ hdr' h g' a' w' hr' (hf.trans hf') (happ _ _)
        · rename_i hb
          rw [if_neg (by simp [Region.wanted, hg, hy]; simpa using hb)]
          exact nxt _ hdr' h g _ w hr.skip (by simpa [St.app] using hf) (happ _ _)
      · exact h.elim

end
end Go.Ev
