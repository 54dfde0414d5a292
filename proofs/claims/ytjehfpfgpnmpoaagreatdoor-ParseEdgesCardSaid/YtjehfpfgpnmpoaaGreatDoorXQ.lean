/-
  OWN LAYER 'Ev', PART XQ: FUNCTIONS ARE ENTERED AND LEFT.
-/
import Derived.Test.YtjehfpfgpnmpoaaGreatDoorXP
set_option linter.all false
namespace Go.Ev

section
variable {P : Program} {B : Sto} {tb : Tb}

def rsem (tmps : Array Value) : ResultVar → Sem Value
  | .tmp t => pure (tmps.getD t Go.undef)
  | .cell p t => do loadVar t (← asAddr (tmps.getD p Go.undef))

theorem results_eq (fn : Func) (tmps : Array Value) : results fn tmps = (do let vs ← fn.results.mapM (rsem tmps); pure (if h : vs.size = 1 then vs[0] else .tuple vs)) := by
  unfold results
  congr 1

theorem rdV_A' {g : Gh} {oh : OH} {v : V} {x : Value} (h : RdV g oh v x) (ht : notTup v = true) : RdA g oh v x :=
  rdV_A h fun l e => by subst e; cases ht

theorem xres_ok (ht : TbOK P tb B) {s : Xs} {st : St} {g : Gh} {a : Act} {w : World} (hx : XR s st) (hr : Rel g st a w) : ∀ {l : List ResultVar} {vs : List V}, xres tb s.h s.env l = some vs →
    ∃ xs : List Value, (l.mapM (rsem a.tmps)).run P w = .ok xs w ∧ xs.length = vs.length ∧ ∀ (j : Nat) (v : V) (x : Value), vs[j]? = some v → xs[j]? = some x → RdA g st.oh v x
  | [], vs, h => by
    cases h
    exact ⟨[], by simp, rfl, by simp⟩
  | .tmp t :: r, vs, h => by
    unfold xres at h
    split at h
    · rename_i v l hv hl
      rw [bifO] at h
      obtain ⟨hnt, h⟩ := h
      cases h
      obtain ⟨xs, h1, h2, h3⟩ := xres_ok ht hx hr hl
      refine ⟨a.tmps.getD t Go.undef :: xs, by simp [List.mapM_cons, rsem, Sem.run_bind, h1, Result.andThen], by simp [h2], fun j v' x' hv' hx' => ?_⟩
      cases j with
      | zero =>
        simp only [List.getElem?_cons_zero, Option.some.injEq] at hv' hx'
        subst hv'; subst hx'
        refine rdV_A' ?_ hnt
        have := hr.env t
        rw [hx.env t] at this
        unfold slot at this
        rw [hv] at this; exact this
      | succ j => exact h3 j v' x' (by simpa using hv') (by simpa using hx')
    · cases h
  | .cell p t :: r, vs, h => by
    unfold xres at h
    split at h
    · rename_i pv hp
      split at h
      · rename_i acc l hv hl
        rw [bifO] at h
        obtain ⟨hnt, h⟩ := h
        cases h
        obtain ⟨xs, h1, h2, h3⟩ := xres_ok ht hx hr hl
        rw [ht.tk] at hv
        obtain ⟨pre, v, hk, hpre, hall⟩ := sload_ok (P := P) (xload_s hx.oh hv)
        subst hk
        have hpv : RdV g st.oh pv (a.tmps.getD p Go.undef) := by
          have := hr.env p
          rw [hx.env p] at this
          unfold slot at this
          rw [hp] at this; exact this
        obtain ⟨rv, q1, q2⟩ := hall g st.oh w _ hr.hr hpv hpre
        have q3 : (rsem a.tmps (.cell p t)).run P w = .ok rv w := by
          unfold Instr.loadAt Instr.sureAddr at q1
          unfold rsem asAddr
          split at q1
          · rename_i ad had
            simp only [had]
            simpa using q1
          · simp at q1
        refine ⟨rv :: xs, by simp [List.mapM_cons, Sem.run_bind, q3, h1, Result.andThen], by simp [h2], fun j v' x' hv' hx' => ?_⟩
        cases j with
        | zero =>
          simp only [List.getElem?_cons_zero, Option.some.injEq] at hv' hx'
          subst hv'; subst hx'
          exact rdV_A' q2 hnt
        | succ j => exact h3 j v' x' (by simpa using hv') (by simpa using hx')
      · cases h
    · cases h

theorem rdA_V {g : Gh} {oh : OH} {v : V} {x : Value} (h : RdA g oh v x) : RdV g oh v x := by
  cases v <;> first | exact h | exact h.elim

theorem xresults_ok (ht : TbOK P tb B) {s : Xs} {st : St} {g : Gh} {a : Act} {w : World} {fn : Func} {vs : List V} (hx : XR s st) (hr : Rel g st a w) (h : xres tb s.h s.env fn.results.toList = some vs) :
    ∃ x, (results fn a.tmps).run P w = .ok x w ∧ RdV g st.oh (tupV vs) x := by
  obtain ⟨xs, h1, h2, h3⟩ := xres_ok ht hx hr h
  refine ⟨if h : xs.toArray.size = 1 then xs.toArray[0] else .tuple xs.toArray, ?_, ?_⟩
  · rw [results_eq, Array.mapM_eq_mapM_toList]
    simp only [map_eq_pure_bind, bind_assoc, pure_bind, Sem.run_bind, h1, Result.andThen, Sem.run_pure]
  · match vs, xs, h2, h3 with
    | [v], [x], _, h3 => exact rdA_V (h3 0 v x rfl rfl)
    | [], [], _, h3 => exact ⟨#[], rfl, rfl, by simp⟩
    | v :: v' :: vs, x :: x' :: xs, h2, h3 =>
      refine ⟨(x :: x' :: xs).toArray, by simp, by simpa using h2, fun j v c hv hc => h3 j v c hv ?_⟩
      simpa using hc

/-! ### entered -/
def envOf : Nat → List V → Env → Env
  | _, [], e => e
  | i, v :: r, e => envOf (i + 1) r ((i, v) :: e)

theorem envOf_argTr : ∀ (l : List V) (i : Nat) (e : Env) (t : Tr V), (∀ k, eget e k = slot t k) → ∀ k, eget (envOf i l e) k = slot (argTr i l t) k
  | [], _, _, _, h, k => h k
  | v :: r, i, e, t, h, k => by
    refine envOf_argTr r (i + 1) _ _ (fun k => ?_) k
    rw [eget_cons, slot_set]
    by_cases hk : i = k
    · subst hk; simp
    · rw [if_neg hk, if_neg (fun q => hk q.symm)]; exact h k

theorem envOf_get : ∀ (l : List V) (i : Nat) (e : Env) (k : Nat), eget (envOf i l e) k = if h : i ≤ k ∧ k < i + l.length then l[k - i]'(by omega) else eget e k
  | [], i, e, k => by rw [dif_neg (by simp)]; rfl
  | v :: r, i, e, k => by
    rw [envOf, envOf_get r (i + 1)]
    by_cases hk : i = k
    · subst hk
      rw [dif_neg (by omega), dif_pos (by simp), eget_cons, if_pos rfl]
      simp
    · by_cases h : i + 1 ≤ k ∧ k < i + 1 + r.length
      · rw [dif_pos h, dif_pos (by simp; omega)]
        have : k - i = (k - (i + 1)) + 1 := by omega
        simp [this]
      · rw [dif_neg h, dif_neg (by simp; omega), eget_cons, if_neg hk]

def startSt (n : Nat) (vs : List V) (oh : OH) : St := ⟨n, envOf 0 vs [], oh⟩

theorem XR.start {s : Xs} {st : St} (hx : XR s st) (n : Nat) (vs : List V) : XR { s with env := argTr 0 vs .nil, df := [] } (startSt n vs st.oh) :=
  ⟨envOf_argTr vs 0 [] .nil fun k => rfl, hx.oh, hx.fresh⟩

theorem rel_start {g : Gh} {oh : OH} {w : World} {vs : List V} {ys : Array Value} {n : Nat} (hr : HR g oh w) (ha : ArgsR g oh vs ys) (hn : vs.length ≤ n) :
    Rel g (startSt n vs oh) { tmps := ys ++ Array.replicate (n - ys.size) Go.undef, defers := [] } w := by
  refine ⟨hr, by simp [startSt, ha.1]; omega, fun t => ?_⟩
  simp only [startSt, envOf_get]
  by_cases h : 0 ≤ t ∧ t < 0 + vs.length
  · rw [dif_pos h]
    have hlt : t < ys.size := by rw [ha.1]; omega
    refine ha.2 t _ _ (by simp [List.getElem?_eq_getElem]) ?_
    rw [Array.getD_eq_getD_getElem?, Array.getElem?_append_left hlt]
    simp [hlt]
  · rw [dif_neg h]; exact True.intro

theorem rdN_V {g : Gh} {oh : OH} {v : V} {x : Value} (h : RdN g oh v x) : RdV g oh v x := by
  cases h with
  | base v x hb h => cases v <;> first | exact h | cases hb
  | ifc t v x h h1 hu => exact RdN.ifc t v x h h1 hu
  | clo fn f c fs cs hf hc h1 h2 => exact RdN.clo fn f c fs cs hf hc h1 h2
  | agg l cs hl h1 h2 =>
    refine ⟨cs, rfl, hl, fun j v c hv hc => ⟨?_, (h2 j v c hv hc).1⟩⟩
    have hn := h1 j v c hv hc
    have hna := (h2 j v c hv hc).2
    cases hn with
    | base v x hb h => rw [RdB.one_base hb]; exact h
    | ifc t v x h q1 q2 => exact RdN.ifc t v x h q1 q2
    | clo fn f c fs cs hf hc' q1 q2 => exact RdN.clo fn f c fs cs hf hc' q1 q2
    | agg l cs q1 q2 q3 => exact absurd rfl (hna l)

theorem rdN_cloV {g : Gh} {oh : OH} {fn : Fn} {p q : List V} {x : Value} (h : RdN g oh (.clo fn p q) x) : ∃ fs cs, x = .func fn fs cs ∧ ArgsR g oh p fs ∧ ArgsR g oh q cs := by
  generalize hv : V.clo fn p q = v at h
  cases h with
  | base _ _ hb _ => subst hv; cases hb
  | clo _ _ _ fs cs hf hc h1 h2 => cases hv; exact ⟨fs, cs, rfl, ⟨hf, fun j v x a b => rdN_V (h1 j v x a b)⟩, ⟨hc, fun j v x a b => rdN_V (h2 j v x a b)⟩⟩
  | ifc => cases hv
  | agg => cases hv

theorem callee_ok {g : Gh} {oh : OH} {f : V} {fv : Value} {fn : Fn} {p q : List V} (hc : f.callee = some (fn, p, q)) (h : RdV g oh f fv) : ∃ fs cs, fv = .func fn fs cs ∧ ArgsR g oh p fs ∧ ArgsR g oh q cs := by
  unfold V.callee at hc
  split at hc
  · rename_i f' a b
    split at hc
    · rename_i ha hb
      cases hc
      have ha' : a = #[] := by rw [← Array.toArray_toList (xs := a), ha]
      have hb' : b = #[] := by rw [← Array.toArray_toList (xs := b), hb]
      obtain ⟨h1, _⟩ := h
      subst ha'; subst hb'
      exact ⟨#[], #[], h1, ⟨rfl, by simp⟩, ⟨rfl, by simp⟩⟩
    · cases hc
  · cases hc; exact rdN_cloV h
  · cases hc

theorem ArgsR.append {g : Gh} {oh : OH} {l m : List V} {xs ys : Array Value} (h : ArgsR g oh l xs) (k : ArgsR g oh m ys) : ArgsR g oh (l ++ m) (xs ++ ys) := by
  refine ⟨by simp [h.1, k.1], fun j v x hv hx => ?_⟩
  by_cases hj : j < l.length
  · rw [List.getElem?_append_left hj] at hv
    rw [Array.getElem?_append_left (by rw [h.1]; exact hj)] at hx
    exact h.2 j v x hv hx
  · rw [List.getElem?_append_right (by omega)] at hv
    rw [Array.getElem?_append_right (by rw [h.1]; omega), h.1] at hx
    exact k.2 _ v x hv hx

theorem ArgsR.mono {g g' : Gh} {oh oh' : OH} (hm : Mono g oh g' oh') {l : List V} {xs : Array Value} (h : ArgsR g oh l xs) : ArgsR g' oh' l xs := ⟨h.1, fun j v x a b => hm.rdV (h.2 j v x a b)⟩

/-- The call that a function value leads to. -/
theorem leads_ok {g : Gh} {oh : OH} {f : V} {fv : Value} {q : FuncId} {p c args : List V} {xs : Array Value} (hc : f.callee = some (.func q, p, c)) (h : RdV g oh f fv) (ha : ArgsR g oh args xs) :
    ∃ (d : Deferred) (ys : Array Value), (∀ (P : Program) w, (Deferred.ofValue fv xs).run P w = .ok d w) ∧ (∃ fn cap, d.target = .fn fn cap) ∧ (∀ (P : Program) w, (invoke d.target d.args).run P w = (callFunc q ys).run P w) ∧ ArgsR g oh (p ++ args ++ c) ys := by
  obtain ⟨fs, cs, rfl, h1, h2⟩ := callee_ok hc h
  exact ⟨{ target := .fn (.func q) cs, args := fs ++ xs }, fs ++ xs ++ cs, fun P w => by simp [Deferred.ofValue], ⟨_, _, rfl⟩, fun P w => by simp [invoke], (h1.append ha).append h2⟩

theorem callFunc_enter {q : FuncId} {fn : Func} {c : Code} (hf : P.funcs[q]? = some fn) (hn : (fn.name == "runtime.NumGoroutine") = false) (hb : fn.body = some c) (ys : Array Value) (w : World) :
    (callFunc q ys).run P w = .ok (.enter q ys) w := by
  unfold callFunc
  have hn' : fn.name ≠ "runtime.NumGoroutine" := by simpa using hn
  simp [Sem.run_bind, program, Sem.run, hf, hn', hb, Result.andThen]

/-! ### a function's end -/
theorem x_out {rec : Rec} (ih : Sound P B rec) (ht : TbOK P tb B) {fn : Func} {df : List Df} {s : Xs} {K : Kt} {st : St} (hx : XR s st) (h : xout tb rec fn df s K = true) : Goal P B (.out fn df) s K st := by
  unfold xout at h
  split at h
  · split at h
    · rename_i l hl
      refine ⟨.normal, _, s, st, [], hx, Grow.refl _, rfl, h, fun _ => fun g a w ds R hr hd hB hR => ?_⟩
      cases ds with
      | cons => exact hd.elim
      | nil =>
        obtain ⟨x, h1, h2⟩ := xresults_ok ht hx hr hl
        exact ⟨x, h1, hR x w ⟨g, hr.hr, h2, Mono.refl _ _, Fr.refl _ _ _⟩⟩
    · cases h
  · rename_i d r
    split at h
    · rename_i o hg
      unfold getDfr at hg
      split at hg
      · rename_i o' ho
        split at hg
        · rename_i hl
          rw [bifO] at hg
          obtain ⟨hv, hg⟩ := hg
          have hv := Nat.eq_of_beq_eq_true hv
          split at hg
          · rename_i hk
            cases hg
            let ob : Obj := { o with k := .dfr true }
            have hx1 : XR (setObj s d ob) { st with oh := (d, ob) :: st.oh } := by
              refine ⟨hx.env, fun i => ?_, fun i hi => ?_⟩
              · show oget ((d, ob) :: st.oh) i = (s.h.set d ob).get i
                rw [Tr.get_set]
                by_cases e : i = d
                · subst e; rw [oget_cons_same]; simp
                · rw [oget_cons_other _ _ e, if_neg e, hx.oh]
              · by_cases e : i = d
                · subst e
                  have := hx.fresh i hi
                  rw [hx.oh, ho] at this; cases this
                · exact (oget_cons_other _ _ e).trans (hx.fresh i hi)
            have hoh : oget st.oh d = some o := by rw [hx.oh]; exact ho
            obtain ⟨x, v, s2, st2, L, hx2, hg2, hl2, hk2, hs2⟩ := ih _ _ _ h _ hx1
            have hs2 := hs2 trivial
            refine ⟨x, v, s2, st2, L ++ [d], hx2, (Grow.app [(d, ob)] st.oh).trans hg2, by rw [hl2]; simp [setObj], hk2, fun _ => fun g a w ds R hr hd hB hR => ?_⟩
            cases ds with
            | nil => exact hd.elim
            | cons e ds =>
              obtain ⟨⟨D, he, hD⟩, hd⟩ := hd
              obtain ⟨_, o2, ho2, _, hat⟩ := hD
              rw [hoh] at ho2
              obtain rfl : o = o2 := by simpa using ho2
              obtain ⟨b, hb, hxe⟩ := hat hv hl
              obtain rfl : D = b := by simpa using hxe
              obtain ⟨go, q1, q2, q3⟩ := (hr.hr.obj d o hoh hl).2 D hb
              unfold KindAt at q3
              rw [hk] at q3
              obtain ⟨rfl, hel⟩ := q3
              have hkind : KindAt g st.oh ob (g.cp d) (.deferred none) := ⟨rfl, hel⟩
              obtain ⟨r1, r2, r3⟩ := hr.hr.put d D o ob _ _ hoh hl hb q1 rfl (Nat.le_refl _) (fun _ => Nat.le_refl _) hkind
              have hr1 : Rel g { st with oh := (d, ob) :: st.oh } a (w.putObj D (.deferred none)) := ⟨r1, hr.sz, fun t => r2.rdV (hr.env t)⟩
              refine ⟨by simp, .inl ⟨D, w.putObj D (.deferred none), by rw [he], run_takeDeferred q1, ?_⟩⟩
              refine hs2 g a _ ds R hr1 (hd.mono r2) hB fun x w' hz => hR x w' ?_
              obtain ⟨g', z1, z2, z3, z4⟩ := hz
              exact ⟨g', z1, z2, r2.trans z3, r3.trans z4⟩
          · cases hg
        · cases hg
      · cases hg
    · cases h
  · rename_i f args r
    obtain ⟨x1, v1, s1, st1, L, hx1, hg1, hl1, hk1, hs1⟩ := ih _ _ _ h st hx
    have hs1 := hs1 trivial
    have hx1' : XR { s1 with env := s.env, df := s.df } ⟨st.n, st.env, st1.oh⟩ := ⟨hx.env, hx1.oh, hx1.fresh⟩
    obtain ⟨x, v, s2, st2, M, hx2, hg2, hl2, hk2, hs2⟩ := ih _ _ _ hk1 _ hx1'
    have hs2 := hs2 trivial
    refine ⟨x, v, s2, st2, M ++ L, hx2, hg1.trans hg2, by rw [hl2]; simp [hl1], hk2, fun _ => fun g a w ds R hr hd hB hR => ?_⟩
    cases ds with
    | nil => exact hd.elim
    | cons e ds =>
      obtain ⟨⟨fv, hfv, xs, hsz, hxs, hrun⟩, hd⟩ := hd
      obtain ⟨d, q, ys, c1, ⟨fn', cap, c2⟩, c3, c4⟩ := hs1 g w fv xs hr.hr hB hfv ⟨hsz, hxs⟩
      obtain rfl : d = e := by
        have e1 := c1 P w
        rw [hrun] at e1
        simpa using e1.symm
      refine ⟨by simp, .inr ⟨by simp [FW], fn', cap, q, ys, c2, c3 w, fun _ _ => trivial, c4.mono fun e' u' w' hz => ?_⟩⟩
      obtain ⟨rfl, x, rfl, g', z1, z2, z3⟩ := hz
      have hr1 : Rel g' ⟨st.n, st.env, st1.oh⟩ a w' := ⟨z1, hr.sz, fun t => z2.rdV (hr.env t)⟩
      refine hs2 g' a w' ds R hr1 (hd.mono z2) (z3.B.trans hB) fun x w2 hz => hR x w2 ?_
      obtain ⟨g2, y1, y2, y3, y4⟩ := hz
      exact ⟨g2, y1, y2, z2.trans y3, z3.trans y4⟩

/-! ### functions -/
def EnterS (P : Program) (B : Sto) (q : FuncId) (vs : List V) (oh : OH) (v : V) (oh' : OH) : Prop :=
  ∀ (g : Gh) (w : World) (ys : Array Value), HR g oh w → g.B = B → ArgsR g oh vs ys →
    (∀ w, (callFunc q ys).run P w = .ok (.enter q ys) w) ∧ Calls P q ys w fun e w' => ∃ x, e = .returned x ∧ RetS v oh' g oh w x w'

/-- What a call brings about. -/
def Brings (s : Xs) (K : Kt) (st : St) (T : V → OH → Prop) : Prop :=
  ∃ x v s' st' L, XR s' st' ∧ Grow L st.oh st'.oh ∧ s'.lg = L ++ s.lg ∧ K x v s' = true ∧ T v st'.oh

theorem x_enter {rec : Rec} (ih : Sound P B rec) (ht : TbOK P tb B) {q : FuncId} {vs : List V} {s : Xs} {K : Kt} {st : St} (hx : XR s st) (h : xenter tb rec q vs s K = true) : Brings s K st fun v oh' => EnterS P B q vs st.oh v oh' := by
  unfold xenter at h
  split at h
  · rename_i fn hfn
    obtain ⟨hP, hname, hok⟩ := ht.fn q fn hfn
    unfold xbodyF at h
    split at h
    · rename_i c hb
      cases hle : Nat.ble vs.length fn.ntmps with
      | false => rw [hle] at h; cases h
      | true =>
        rw [hle, cond_true] at h
        have hle := Nat.le_of_ble_eq_true hle
        obtain ⟨x, v, s1, st1, L, hx1, hg1, hl1, hk1, hs1⟩ := ih _ _ _ h _ (hx.start fn.ntmps vs)
        obtain ⟨hn1, hs1⟩ := hs1 ⟨rfl, hok c hb⟩
        have hleave : rec (.out fn s1.df) s1 K = true ∧ (x = .normal ∨ x = .ret) := by
          cases x with
          | normal => exact ⟨hk1, .inl rfl⟩
          | ret => exact ⟨hk1, .inr rfl⟩
          | exit id => cases hk1
        obtain ⟨hk1, hxx⟩ := hleave
        obtain ⟨x2, v2, s2, st2, M, hx2, hg2, hl2, hk2, hs2⟩ := ih _ _ _ hk1 _ hx1
        have hs2 := hs2 trivial
        refine ⟨x2, v2, s2, st2, M ++ L, hx2, hg1.trans hg2, by rw [hl2, hl1, List.append_assoc], hk2, fun g w ys hr hB ha => ⟨fun w => callFunc_enter hP hname hb ys w, ?_⟩⟩
        have hin : CallsIn (FW none) 0 P q ys w fun e w' => ∃ x, e = .returned x ∧ RetS v2 st2.oh g st.oh w x w' := by
          refine callsIn_of_wp_marks hP hb trivial (wpIn_mono (hs1 g _ w none (rel_start hr ha hle) trivial trivial hB) ?_) rfl
          rintro e a' w' ⟨rfl, g', h2, h3, h4, h5⟩
          have key : LeavesInM (FW none) 0 P fn a'.tmps (fun e w' => ∃ x, e = .returned x ∧ RetS v2 st2.oh g st.oh w x w') a'.defers .returning w' := by
            refine hs2 g' a' w' a'.defers _ h2 h3 (h5.B.trans hB) fun x w2 hz => ⟨x, rfl, ?_⟩
            obtain ⟨g2, z1, z2, z3, z4⟩ := hz
            exact ⟨g2, z1, z2, h4.trans z3, h5.trans z4⟩
          rcases hxx with rfl | rfl <;> exact key
        exact callsIn_wide.1 hin
    · cases h
  · cases h

theorem x_callE {rec : Rec} (ih : Sound P B rec) (ht : TbOK P tb B) {f : V} {args : List V} {s : Xs} {K : Kt} {st : St} (hx : XR s st) (h : xcallE tb rec f args s K = true) : Goal P B (.callE f args) s K st := by
  unfold xcallE at h
  split at h
  · rename_i q p c hc
    obtain ⟨x, v, s1, st1, L, hx1, hg1, hl1, hk1, hs1⟩ := x_enter ih ht hx h
    refine ⟨x, v, s1, st1, L, hx1, hg1, hl1, hk1, fun _ => fun g w fv xs hr hB hf ha => ?_⟩
    obtain ⟨d, ys, h1, h2, h3, h4⟩ := leads_ok hc hf ha
    obtain ⟨k1, k2⟩ := hs1 g w ys hr hB h4
    exact ⟨d, q, ys, fun w => h1 P w, h2, fun w => by rw [h3]; exact k1 w, k2⟩
  · cases h

theorem XR.appN {s : Xs} {st : St} (hx : XR s st) (a : Acc) : XR (aft a none s) ⟨st.n, st.env, a.post ++ st.oh⟩ := by
  obtain ⟨h1, h2, h3⟩ := hx
  refine ⟨h1, fun i => ?_, fun i hi => ?_⟩
  · show oget (a.post ++ st.oh) i = (putAll a.post s.h).get i
    rw [putAll_get, oget_append, h2 i]
    cases oget a.post i <;> rfl
  · simp only [oget_append]
    cases hp : oget a.post i with
    | some o => have := nxAfter_lt a.post s.nx i o hp; simp only [aft, putS] at hi; omega
    | none => exact h3 i (Nat.le_trans (nxAfter_ge _ _) hi)

theorem bifB {b c : Bool} : (bif b then c else false) = true ↔ b = true ∧ c = true := by cases b <;> cases c <;> simp
theorem allGe_sp {n : Nat} : ∀ (l : List Nat), allGe n l = true → ∀ i, i ∈ l → n ≤ i
  | [], _, i, hi => by simp at hi
  | a :: r, h, i, hi => by
    unfold allGe at h
    rw [bifB] at h
    simp only [List.mem_cons] at hi
    rcases hi with rfl | hi
    · exact Nat.le_of_ble_eq_true h.1
    · exact allGe_sp r h.2 i hi

theorem x_callFn {rec : Rec} (ih : Sound P B rec) (ht : TbOK P tb B) {f : V} {q : FuncId} {p c args : List V} {s : Xs} {K : Kt} {st : St} (hc : f.callee = some (.func q, p, c)) (hx : XR s st)
    (h : xcallF tb rec q (p ++ args ++ c) s K = true) : Goal P B (.call f args) s K st := by
  unfold xcallF at h
  split at h
  · rename_i acc hacc
    rw [bifB] at h
    obtain ⟨hge, h⟩ := h
    rw [applyA_eq, forceV_eq] at h
    obtain ⟨l1, l2⟩ := ht.lib q _ st.oh s.h.get acc hx.oh hacc
    refine ⟨.normal, acc.v, _, _, idsOf acc.post, hx.appN acc, Grow.app acc.post st.oh, rfl, h, fun _ => fun g w fv xs hr hB hf ha => ?_⟩
    obtain ⟨d, ys, h1, h2, h3, h4⟩ := leads_ok hc hf ha
    have hrun : (callSem fv xs).run P w = (callFunc q ys).run P w := by
      unfold callSem
      rw [Sem.run_bind, h1]
      exact h3 P w
    rw [hrun]
    exact l1 g st.oh w ys hr hB h4 l2 (fun i hi => hx.fresh i (allGe_sp _ hge i hi))
  · obtain ⟨x, v, s1, st1, L, hx1, hg1, hl1, hk1, hs1⟩ := x_enter ih ht hx h
    refine ⟨x, v, s1, st1, L, hx1, hg1, hl1, hk1, fun _ => CallE.toS fun g w fv xs hr hB hf ha => ?_⟩
    obtain ⟨d, ys, h1, h2, h3, h4⟩ := leads_ok hc hf ha
    obtain ⟨k1, k2⟩ := hs1 g w ys hr hB h4
    exact ⟨d, q, ys, fun w => h1 P w, h2, fun w => by rw [h3]; exact k1 w, k2⟩

theorem x_callD {rec : Rec} (ih : Sound P B rec) (ht : TbOK P tb B) {f : V} {args : List V} {s : Xs} {K : Kt} {st : St} (hx : XR s st) (h : xcallD tb rec f args s K = true) : Goal P B (.callD f args) s K st := by
  unfold xcallD at h
  split at h
  · rename_i q p c hc
    unfold xcallDF at h
    split at h
    · rename_i fn hfn
      obtain ⟨hP, hname, hok⟩ := ht.fn q fn hfn
      unfold xbodyD at h
      split at h
      · rename_i cd hb
        cases hle : Nat.ble (p ++ args ++ c).length fn.ntmps with
        | false => rw [hle] at h; cases h
        | true =>
          rw [hle, cond_true] at h
          have hle := Nat.le_of_ble_eq_true hle
          obtain ⟨x, v, s1, st1, L, hx1, hg1, hl1, hk1, hs1⟩ := ih _ _ _ h _ (hx.start fn.ntmps (p ++ args ++ c))
          obtain ⟨hn1, hs1⟩ := hs1 ⟨rfl, hok cd hb⟩
          have hleave : (x = .normal ∨ x = .ret) ∧ s1.df = [] ∧ ∃ l, xres tb s1.h s1.env fn.results.toList = some l ∧ K .normal (tupV l) s1 = true := by
            unfold xleaveD at hk1
            cases x with
            | exit id => cases hk1
            | normal =>
              simp only at hk1
              split at hk1
              · rename_i hdf
                split at hk1
                · rename_i l hl; exact ⟨.inl rfl, hdf, l, hl, hk1⟩
                · cases hk1
              · cases hk1
            | ret =>
              simp only at hk1
              split at hk1
              · rename_i hdf
                split at hk1
                · rename_i l hl; exact ⟨.inr rfl, hdf, l, hl, hk1⟩
                · cases hk1
              · cases hk1
          obtain ⟨hxx, hdf, l, hl, hk⟩ := hleave
          refine ⟨.normal, _, s1, st1, L, hx1, hg1, hl1, hk, fun _ => fun g w fv xs hr hB hf ha => ?_⟩
          obtain ⟨d, ys, h1, h2, h3, h4⟩ := leads_ok hc hf ha
          refine ⟨d, q, ys, h1, h2, fun w => by rw [h3]; exact callFunc_enter hP hname hb ys w, ?_⟩
          refine (callsDIn_of_wp (R := fun e w' => ∃ x, e = .returned x ∧ ∃ g', HR g' st1.oh w' ∧ Mono g st.oh g' st1.oh ∧ Fr g st.oh w g' st1.oh w') hP hb trivial (wpIn_mono (hs1 g _ w none (rel_start hr h4 hle) trivial trivial hB) ?_) rfl)
          rintro e a' w' ⟨rfl, g', q2, q3, q4, q5⟩
          rw [hdf] at q3
          have hds : a'.defers = [] := by cases hd : a'.defers with | nil => rfl | cons => rw [hd] at q3; exact q3.elim
          obtain ⟨x', r1, r2⟩ := xresults_ok ht hx1 q2 hl
          have key : a'.defers = [] ∧ ∃ v, (results fn a'.tmps).run P w' = .ok v w' ∧ ∃ x, Ending.returned v = .returned x ∧ ∃ g', HR g' st1.oh w' ∧ Mono g st.oh g' st1.oh ∧ Fr g st.oh w g' st1.oh w' :=
            ⟨hds, x', r1, x', rfl, g', q2.hr, q4, q5⟩
          rcases hxx with rfl | rfl <;> exact key
      · cases h
    · cases h
  · cases h

end
end Go.Ev
