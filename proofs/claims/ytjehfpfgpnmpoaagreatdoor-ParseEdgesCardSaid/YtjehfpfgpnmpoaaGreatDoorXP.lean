/-
  OWN LAYER 'Ev', PART XP: OPERATIONS IN THE ORDER OF THE TEXT; CALLS.
-/
import Derived.Test.YtjehfpfgpnmpoaaGreatDoorXO
set_option linter.all false
namespace Go.Ev

def LibOK (P : Program) (B : Sto) (q : FuncId) (vs : List V) (a : Acc) : Prop :=
  ∀ (g : Gh) (oh : OH) (w : World) (xs : Array Value), HR g oh w → g.B = B → ArgsR g oh vs xs → (∀ i ob, (i, ob) ∈ a.pre → oget oh i = some ob) → (∀ i, i ∈ a.nw → oget oh i = none) →
    Out P (Behind g oh w a) ((callFunc q xs).run P w)

/-- The tables fit the program. -/
structure TbOK (P : Program) (tb : Tb) (B : Sto) : Prop where
  mix : P.follows .mixedOrders = true
  tk : ∀ t, tb.tk t = tk P t
  step : ∀ (o : Oper) (e : Operand → V) (oh : OH) (h : Hp) (nx : Nat) (a : Acc), (∀ i, oget oh i = h i) → oget oh nx = none → (∀ c, o.op ≠ .call c) → xstep tb o.op o.type e h nx = some a → Some P o e oh fun b => b = a
  blt : ∀ (o : Oper) (c : Call) (b : Builtin) (e : Operand → V) (oh : OH) (h : Hp) (nx : Nat) (a : Acc), (∀ i, oget oh i = h i) → oget oh nx = none → o.op = .call c → c.callee = .builtin b →
    xbuiltin tb b (c.args.toList.map e) c.argTypes.toList h nx = some a → Some P o e oh fun b => b = a
  lib : ∀ (q : FuncId) (vs : List V) (oh : OH) (h : Hp) (a : Acc), (∀ i, oget oh i = h i) → tb.lib q vs h = some a → LibOK P B q vs a ∧ (∀ i ob, (i, ob) ∈ a.pre → oget oh i = some ob)
  fn : ∀ (q : FuncId) (fn : Func), tb.fn q = some fn → P.funcs[q]? = some fn ∧ (fn.name == "runtime.NumGoroutine") = false ∧ ∀ c, fn.body = some c → okX fn.ntmps c = true
  meth : ∀ t m, tb.meth t m = none

section
variable {P : Program} {B : Sto} {tb : Tb}

def OpS (P : Program) (B : Sto) (rdv : Option Nat) (ops : Array Oper) (o : Oper) (df : List Df) (st st1 : St) (df1 : List Df) : Prop :=
  ∀ (g : Gh) (a : Act) (w : World) (rd : Option Nat) (Q : Exit → Act → World → Prop) (Kn : Act → World → Prop), Rel g st a w → DfRel g st.oh df a.defers → RdOK g st.oh rdv rd → g.B = B →
    (∀ g' a' w', Rel g' st1 a' w' → DfRel g' st1.oh df1 a'.defers → Mono g st.oh g' st1.oh → Fr g st.oh w g' st1.oh w' → Kn a' w') →
    if Region.wanted o (yielded ops a.tmps) = true then o.wpIn (FW rd) 0 P a w Kn Q else (∀ f, o.about P w a.eval = some f → (FW rd).fn f) ∧ Kn (a.put o.dst Go.undef) w

theorem ops_cons {rdv : Option Nat} {ops : Array Oper} {o : Oper} {r : List Oper} {df df1 df2 : List Df} {st st1 st2 : St} (h1 : OpS P B rdv ops o df st st1 df1) (h2 : OpsS P B rdv ops r df1 st1 st2 df2) :
    OpsS P B rdv ops (o :: r) df st st2 df2 := by
  intro i g a w rd Q hdr hr hd hrd hB hQ
  have hoi : ops[i]? = some o := by
    have : (ops.toList.drop i)[0]? = some o := by rw [hdr]; rfl
    rw [List.getElem?_drop] at this; simpa using this
  have hdr' : ops.toList.drop (i + 1) = r := by
    have : (ops.toList.drop i).drop 1 = r := by rw [hdr]; rfl
    rw [List.drop_drop] at this; exact this
  simp only [List.length_cons, List.range'_succ, wpOpsIn, hoi]
  refine h1 g a w rd Q _ hr hd hrd hB fun g' a' w' hr' hd' hm hf => ?_
  exact h2 (i + 1) g' a' w' rd Q hdr' hr' hd' (hrd.mono hm) (hf.B.trans hB) fun a2 w2 hp => hQ a2 w2 (hp.from hm hf)

theorem ops_nil {rdv : Option Nat} {ops : Array Oper} {df : List Df} {st : St} : OpsS P B rdv ops [] df st st df := by
  intro i g a w rd Q hdr hr hd hrd hB hQ
  simp only [List.length_nil, List.range'_zero, wpOpsIn]
  exact hQ a w ⟨rfl, g, hr, hd, Mono.refl _ _, Fr.refl _ _ _⟩

/-! ### is an operation wanted? -/
theorem want_spec {ops : Array Oper} {o : Oper} {s : Xs} {st : St} {b : Bool} (hx : XR s st) (h : xwant ops o s.env = some b) : (b = true → Wanted ops o st.env) ∧ (b = false → Unwanted ops o st.env) := by
  unfold xwant at h
  unfold Wanted Unwanted
  split at h
  · rename_i hg
    rw [hg]
    cases h
    exact ⟨fun _ => trivial, fun e => by cases e⟩
  · rename_i j want hg
    rw [hg]
    simp only
    split at h
    · rename_i d hd
      have hgv : guardVal ops st.env j = slot s.env d := by unfold guardVal; rw [hd]; exact hx.env d
      rw [hgv]
      unfold slot
      split at h
      · rename_i b' hb
        rw [hb]
        cases h
        rw [beqB_iff]
        refine ⟨fun e => ?_, fun e => .inl ?_⟩
        · have : b' = want := by simpa using e
          rw [this]
        · cases b' <;> cases want <;> first | rfl | cases e
      · rename_i hb
        rw [hb]
        cases h
        exact ⟨(by intro e; cases e), fun _ => .inr rfl⟩
      · cases h
    · cases h

theorem wanted_of {ops : Array Oper} {o : Oper} {st : St} {g : Gh} {a : Act} {w : World} (hr : Rel g st a w) (h : Wanted ops o st.env) : Region.wanted o (yielded ops a.tmps) = true := by
  unfold Region.wanted
  unfold Wanted at h
  cases hg : o.guard with
  | none => rfl
  | some jw =>
    obtain ⟨j, want⟩ := jw
    simp only [hg] at h
    simp [guard_yields hr h]

theorem unwanted_of {ops : Array Oper} {o : Oper} {st : St} {g : Gh} {a : Act} {w : World} (hr : Rel g st a w) (h : Unwanted ops o st.env) : ¬ Region.wanted o (yielded ops a.tmps) = true := by
  unfold Region.wanted
  unfold Unwanted at h
  cases hg : o.guard with
  | none => simp [hg] at h
  | some jw =>
    obtain ⟨j, want⟩ := jw
    simp only [hg] at h
    rcases h with h | h
    · simp [guard_yields hr h]
    · simp [guard_skipped hr h]

/-! ### one operation -/
theorem opS_skip {rdv : Option Nat} {ops : Array Oper} {o : Oper} {df : List Df} {st : St} (h : Unwanted ops o st.env) : OpS P B rdv ops o df st (st.app o (.tup []) []) df := by
  intro g a w rd Q Kn hr hd hrd hB hK
  rw [if_neg (unwanted_of hr h)]
  refine ⟨fun _ _ => trivial, hK g _ w (hr.skip skip_val) ?_ ?_ ?_⟩
  · have : (a.put o.dst Go.undef).defers = a.defers := by cases o.dst <;> rfl
    rw [this]; simpa [St.app] using hd
  · simpa [St.app] using Mono.refl g st.oh
  · simpa [St.app] using Fr.refl g st.oh w

theorem opS_step {rdv : Option Nat} {ops : Array Oper} {o : Oper} {df : List Df} {st : St} {acc : Acc} (hnd : ∀ c, o.op ≠ .defer c) (hw : Wanted ops o st.env) (hdst : ∀ d, o.dst = some d → d < st.n)
    (h : Some P o (opd st.env) st.oh fun b => b = acc) : OpS P B rdv ops o df st (st.app o acc.v acc.post) df := by
  obtain ⟨b, hok, hp, hn, rfl⟩ := h
  intro g a w rd Q Kn hr hd hrd hB hK
  rw [if_pos (wanted_of hr hw)]
  refine wp_of_out hnd (hok g st.oh w a.eval hr.hr (fun x _ => opd_rd hr x) hp hn) fun v w' hz => ?_
  obtain ⟨g', h1, h2, h3, h4⟩ := hz
  refine hK g' _ w' (hr.put hdst h1 h2 h3) ?_ h3 h4
  have : (a.put o.dst v).defers = a.defers := by cases o.dst <;> rfl
  rw [this]; exact hd.mono h3

theorem argsR_map {g : Gh} {st : St} {a : Act} {w : World} (hr : Rel g st a w) (l : Array Operand) : ArgsR g st.oh (l.toList.map (opd st.env)) (l.map a.eval) := by
  refine ⟨by simp, fun j v x hv hx => ?_⟩
  rw [List.getElem?_map] at hv
  rw [Array.getElem?_map] at hx
  obtain ⟨y, hy, rfl⟩ := Option.map_eq_some_iff.1 hv
  rw [Array.getElem?_toList] at hy
  rw [hy] at hx
  obtain rfl : a.eval y = x := by simpa using hx
  exact opd_rd hr y

theorem exec_call {o : Oper} {c : Call} {f : Operand} (ho : o.op = .call c) (hc : c.callee = .value f) (ρ : Operand → Value) (w : World) : (execOp ρ o).run P w = (callSem (ρ f) (c.args.map ρ)).run P w := by
  simp only [execOp, ho, resolve, hc, callSem]

theorem opS_call {rdv : Option Nat} {ops : Array Oper} {o : Oper} {c : Call} {f : Operand} {df : List Df} {st : St} {v : V} {oh' : OH} (ho : o.op = .call c) (hc : c.callee = .value f) (hw : Wanted ops o st.env) (hdst : ∀ d, o.dst = some d → d < st.n)
    (h : CallS P B (opd st.env f) (c.args.toList.map (opd st.env)) st.oh v oh') : OpS P B rdv ops o df st (St.app ⟨st.n, st.env, oh'⟩ o v []) df := by
  intro g a w rd Q Kn hr hd hrd hB hK
  rw [if_pos (wanted_of hr hw)]
  refine wp_of_out (fun c' e => by rw [ho] at e; cases e) (Z := RetS v oh' g st.oh w) ?_ fun x w' hz => ?_
  · rw [exec_call ho hc]
    exact h g w (a.eval f) (c.args.map a.eval) hr.hr hB (opd_rd hr f) (argsR_map hr c.args)
  · obtain ⟨g', h1, h2, h3, h4⟩ := hz
    have hr' : Rel g' ⟨st.n, st.env, oh'⟩ a w' := ⟨h1, hr.sz, fun t => h3.rdV (hr.env t)⟩
    have hdf : (a.put o.dst x).defers = a.defers := by cases o.dst <;> rfl
    refine hK g' _ w' (hr'.put (post := []) hdst (by simpa using h1) (by simpa using h2) (by simpa using Mono.refl g' oh')) ?_ (by simpa [St.app] using h3) (by simpa [St.app] using h4)
    rw [hdf]; simpa [St.app] using hd.mono h3

theorem rdN_clo {g : Gh} {oh : OH} {fn : Fn} {p q : List V} {x : Value} (h : RdN g oh (.clo fn p q) x) : ∃ fs cs, x = .func fn fs cs := by
  generalize hv : V.clo fn p q = v at h
  cases h with
  | base _ _ hb _ => subst hv; cases hb
  | clo _ _ _ fs cs => cases hv; exact ⟨fs, cs, rfl⟩
  | ifc => cases hv
  | agg => cases hv

theorem opS_defer {ops : Array Oper} {o : Oper} {c : Call} {f : Operand} {df : List Df} {st : St} (ho : o.op = .defer c) (hc : c.callee = .value f) (hw : Wanted ops o st.env) (hdst : ∀ d, o.dst = some d → d < st.n)
    (hf : ∃ fn a b, opd st.env f = .clo fn a b) : OpS P B none ops o df st (st.app o .undef []) (.call (opd st.env f) (c.args.toList.map (opd st.env)) :: df) := by
  intro g a w rd Q Kn hr hd hrd hB hK
  rw [if_pos (wanted_of hr hw)]
  cases rd with
  | some b => exact hrd.elim
  | none =>
    unfold Oper.wpIn
    refine ⟨fun _ _ => trivial, ?_⟩
    have hfr := opd_rd hr f
    obtain ⟨fn, p, q, hfe⟩ := hf
    rw [hfe] at hfr
    have hav : ∃ fs cs, a.eval f = .func fn fs cs := rdN_clo hfr
    obtain ⟨fs, cs, hav⟩ := hav
    have hrun : (Oper.semAt (FW none).round a.eval o).run P w = .ok (.defer { target := .fn fn cs, args := fs ++ c.args.map a.eval }) w := by
      show (Oper.semAt none a.eval o).run P w = _
      rw [Oper.semAt_none]
      simp [execOp, ho, resolve, hc, hav, Deferred.ofValue]
    rw [hrun]
    simp only [Oper.uponIn]
    have hdf : ((({ a with defers := { target := .fn fn cs, args := fs ++ c.args.map a.eval } :: a.defers } : Act).put o.dst Go.undef)).defers = { target := .fn fn cs, args := fs ++ c.args.map a.eval } :: a.defers := by cases o.dst <;> rfl
    have hr2 : Rel g st { a with defers := { target := .fn fn cs, args := fs ++ c.args.map a.eval } :: a.defers } w := ⟨hr.hr, hr.sz, hr.env⟩
    refine hK g _ w (hr2.skip (u := .undef) trivial) ?_ (by simpa [St.app] using Mono.refl g st.oh) (by simpa [St.app] using Fr.refl g st.oh w)
    rw [hdf]
    have : (st.app o .undef []).oh = st.oh := by simp [St.app]
    rw [this]
    refine ⟨⟨a.eval f, opd_rd hr f, c.args.map a.eval, (argsR_map hr c.args).1, (argsR_map hr c.args).2, fun P w => ?_⟩, hd⟩
    rw [hav]; simp [Deferred.ofValue]

/-! ### the operations of a region, in the order of the text -/
theorem dst_of {n : Nat} {o : Oper} {r : List Oper} (h : dstB n (o :: r) = true) : (∀ d, o.dst = some d → d < n) ∧ dstB n r = true := by
  unfold dstB at h ⊢
  simp only [List.all_cons, Bool.and_eq_true] at h
  refine ⟨fun d hd => ?_, h.2⟩
  have := h.1
  simp only [hd] at this
  simpa [Nat.blt_eq] using this

theorem x_ops {rec : Rec} (ih : Sound P B rec) (ht : TbOK P tb B) {cx : Cx} {ops : Array Oper} {l : List Oper} {s : Xs} {K : Kt} {st : St} (hx : XR s st)
    (h : xops rec tb cx ops l s K = true) : Goal P B (.ops cx ops l) s K st := by
  unfold xops at h
  split at h
  · exact ⟨.normal, .undef, s, st, [], hx, Grow.refl _, rfl, h, fun _ => ⟨rfl, rfl, ops_nil⟩⟩
  · rename_i o r
    -- one operation, and on
    have go : ∀ (s1 : Xs) (st1 : St) (L : List Nat), XR s1 st1 → Grow L st.oh st1.oh → s1.lg = L ++ s.lg → st1.n = st.n → ((∀ d, o.dst = some d → d < st.n) → OpS P B cx.rd ops o s.df st st1 s1.df) →
        rec (.ops cx ops r) s1 K = true → Goal P B (.ops cx ops (o :: r)) s K st := by
      intro s1 st1 L hx1 hg1 hl1 hn1 ho hk
      obtain ⟨x, v, s2, st2, M, hx2, hg2, hl2, hk2, hs2⟩ := ih _ _ _ hk _ hx1
      refine ⟨x, v, s2, st2, M ++ L, hx2, hg1.trans hg2, by rw [hl2, hl1, List.append_assoc], hk2, fun hp => ?_⟩
      obtain ⟨hn, hd⟩ := hp
      obtain ⟨hdo, hdr⟩ := dst_of hd
      obtain ⟨hn2, hxn, hs2⟩ := hs2 ⟨hn1.trans hn, hdr⟩
      exact ⟨hn2.trans hn1, hxn, ops_cons (ho fun d e => by rw [hn]; exact hdo d e) hs2⟩
    split at h
    · rename_i hw
      have hW := (want_spec hx hw).1 rfl
      have hfresh : oget st.oh s.nx = none := hx.fresh _ (Nat.le_refl _)
      have hthen : ∀ (oa : Option Acc), (∀ c, o.op ≠ .defer c) → (∀ acc, oa = some acc → Some P o (opd st.env) st.oh fun b => b = acc) → xthen rec cx ops r o.dst K oa s = true → Goal P B (.ops cx ops (o :: r)) s K st := by
        intro oa hnd hsome hk
        unfold xthen at hk
        split at hk
        · rename_i acc
          rw [applyA_eq] at hk
          have hdf : (aft acc o.dst s).df = s.df := by unfold aft; rw [(putS_h _ _ _).2.2.1]
          have hlg : (aft acc o.dst s).lg = idsOf acc.post ++ s.lg := by unfold aft; rw [(putS_h _ _ _).2.2.2]
          exact go _ _ _ (hx.app o acc) (Grow.app acc.post st.oh) hlg rfl (fun hdo => by rw [hdf]; exact opS_step hnd hW hdo (hsome acc rfl)) hk
        · cases hk
      unfold xop1 at h
      split at h
      · rename_i c ho
        unfold xopCall at h
        split at h
        · rename_i f hc
          -- a call
          have hargs : c.args.toList.map (xopd s.env) = c.args.toList.map (opd st.env) := by rw [hx.opdf]
          rw [hx.operand, hargs] at h
          obtain ⟨x, v, s1, st1, L, hx1, hg1, hl1, hk1, hs1⟩ := ih _ _ _ h st hx
          have hs1 := hs1 trivial
          simp only [xback, putX_eq] at hk1
          have hx1' : XR { s1 with env := s.env, df := s.df } ⟨st.n, st.env, st1.oh⟩ := ⟨hx.env, hx1.oh, hx1.fresh⟩
          have hdf : (putS o.dst v { s1 with env := s.env, df := s.df }).df = s.df := by rw [(putS_h _ _ _).2.2.1]
          have hlg : (putS o.dst v { s1 with env := s.env, df := s.df }).lg = L ++ s.lg := by rw [(putS_h _ _ _).2.2.2]; exact hl1
          have hoh : (St.app ⟨st.n, st.env, st1.oh⟩ o v []).oh = st1.oh := by simp [St.app]
          exact go _ _ L (hx1'.put o v) (by rw [hoh]; exact hg1) hlg rfl (fun hdo => by rw [hdf]; exact opS_call ho hc hW hdo hs1) hk1
        · rename_i x m hc
          split at h
          · rw [ht.meth] at h; cases h
          · cases h
        · rename_i b hc
          refine hthen _ (fun c' e => by rw [ho] at e; cases e) (fun acc hacc => ?_) h
          rw [hx.opdf] at hacc
          exact ht.blt o c b _ st.oh s.h.get s.nx acc hx.oh hfresh ho hc hacc
      · rename_i c ho
        unfold xopDefer at h
        split at h
        · rename_i f hc hrd
          split at h
          · rename_i fn p q hfv
            rw [hx.operand] at hfv
            rw [putX_eq] at h
            have hx1 : XR { s with df := .call (xopd s.env f) (c.args.toList.map (xopd s.env)) :: s.df } st := ⟨hx.env, hx.oh, hx.fresh⟩
            have hdf : (putS o.dst .undef { s with df := .call (xopd s.env f) (c.args.toList.map (xopd s.env)) :: s.df }).df = .call (opd st.env f) (c.args.toList.map (opd st.env)) :: s.df := by rw [(putS_h _ _ _).2.2.1, hx.opdf]
            have hlg : (putS o.dst .undef { s with df := .call (xopd s.env f) (c.args.toList.map (xopd s.env)) :: s.df }).lg = s.lg := by rw [(putS_h _ _ _).2.2.2]
            have hoh : (st.app o .undef []).oh = st.oh := by simp [St.app]
            exact go _ _ [] (hx1.put o .undef) (by rw [hoh]; exact Grow.refl _) hlg rfl (fun hdo => by rw [hdf, hrd]; exact opS_defer ho hc hW hdo ⟨fn, p, q, hfv⟩) h
          · cases h
        · cases h
      · rename_i hnc hnd
        refine hthen _ (fun c' e => hnd c' e) (fun acc hacc => ?_) h
        rw [hx.opdf] at hacc
        exact ht.step o _ st.oh s.h.get s.nx acc hx.oh hfresh (fun c' e => hnc c' e) hacc
    · rename_i hw
      have hW := (want_spec hx hw).2 rfl
      rw [putX_eq] at h
      have hdf : (putS o.dst (.tup []) s).df = s.df := by rw [(putS_h _ _ _).2.2.1]
      have hlg : (putS o.dst (.tup []) s).lg = s.lg := by rw [(putS_h _ _ _).2.2.2]
      have hoh : (st.app o (.tup []) []).oh = st.oh := by simp [St.app]
      exact go _ _ [] (hx.put o (.tup [])) (by rw [hoh]; exact Grow.refl _) hlg rfl (fun _ => by rw [hdf]; exact opS_skip hW) h
    · cases h

end
end Go.Ev
