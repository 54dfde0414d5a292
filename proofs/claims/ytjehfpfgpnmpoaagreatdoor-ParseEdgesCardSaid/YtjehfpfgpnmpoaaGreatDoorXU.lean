/-
  OWN LAYER 'Ev', PART XU: THE STATEMENT 'for .. := range f { .. }'.
-/
import Derived.Test.YtjehfpfgpnmpoaaGreatDoorXS
set_option linter.all false
namespace Go.Ev

section
variable {P : Program} {B : Sto} {tb : Tb}

theorem envList_len (t : Tr V) : ∀ (n i : Nat), (envList t n i).length = n
  | 0, _ => rfl
  | n + 1, i => by simp [envList, envList_len t n]
theorem envList_get (t : Tr V) : ∀ (n i j : Nat) (v : V), (envList t n i)[j]? = some v → v = slot t (i + j)
  | 0, _, j, v, h => by simp [envList] at h
  | n + 1, i, 0, v, h => by simp only [envList, List.getElem?_cons_zero, Option.some.injEq] at h; rw [← h]; rfl
  | n + 1, i, j + 1, v, h => by
    simp only [envList, List.getElem?_cons_succ] at h
    have := envList_get t n (i + 1) j v h
    rw [this]; congr 1; omega

theorem rdB_new {g : Gh} {oh : OH} (c b n : Nat) (ob : Obj) (hv : ob.ver = 0) : RdV (g.at c b n) ((c, ob) :: oh) (.ref c 0 0 0) (.pointer (some ⟨b, 0, none⟩)) :=
  ⟨rfl, ob, oget_cons_same _ _ _, Nat.zero_le _, fun _ _ => ⟨b, by simp [Gh.at], by simp⟩⟩
theorem rdY_new {g : Gh} {oh : OH} (c b n : Nat) (ob : Obj) : RdV1 (g.at c b n) ((c, ob) :: oh) (.yld c) (.func (.yield b) #[] #[]) :=
  ⟨rfl, ob, oget_cons_same _ _ _, fun _ _ => ⟨b, by simp [Gh.at], rfl⟩⟩

/-- What a loop comes to, its block for deferred calls laid. -/
def RfGo (P : Program) (B : Sto) (cx : Cx) (f : V) (ps : Array Tmp) (asg body : Code) (dref : V) (s : Xs) (K : Kt) (st : St) : Prop :=
    ∃ x v s3 st3 L, XR s3 st3 ∧ Grow L st.oh st3.oh ∧ s3.lg = L ++ s.lg ∧ K x v s3 = true ∧ st3.n = st.n ∧ s3.df = s.df ∧
      ∀ (g : Gh) (a : Act) (w : World) (rd : Option Nat) (D : Nat) (fop : Operand) (fn : FuncId), st.n = cx.n → okX cx.n (.rangeFunc fop ps asg body) = true → Rel g st a w → RdV g st.oh dref (.pointer (some ⟨D, 0, none⟩)) → g.B = B →
        RdV g st.oh f (a.eval fop) → ∃ (d : Deferred) (q : FuncId) (ys : Array Value),
          (resolve a.eval (rangeCall fop w.heap.size) 0).run P (w.alloc (.loop { state := .ready, pending := none, fn, tmps := a.tmps, params := ps, assign := asg, body, defers := D })) = .ok d (w.alloc (.loop { state := .ready, pending := none, fn, tmps := a.tmps, params := ps, assign := asg, body, defers := D })) ∧
          (invoke d.target d.args).run P (w.alloc (.loop { state := .ready, pending := none, fn, tmps := a.tmps, params := ps, assign := asg, body, defers := D })) = .ok (.enter q ys) (w.alloc (.loop { state := .ready, pending := none, fn, tmps := a.tmps, params := ps, assign := asg, body, defers := D })) ∧
          ∀ (a' : Act) (Q : Exit → Act → World → Prop), a'.tmps = a.tmps → (∀ g' w', Rel g' st3 a' w' → Mono g st.oh g' st3.oh → Fr g st.oh w g' st3.oh w' → Q (exitOf x) a' w') →
            CallsIn (FW rd) 0 P q ys (w.alloc (.loop { state := .ready, pending := none, fn, tmps := a.tmps, params := ps, assign := asg, body, defers := D })) (rangePost (FW rd) 0 P w.heap.size Q a')

theorem xrf_go {rec : Rec} (ih : Sound P B rec) {cx : Cx} {f : V} {ps : Array Tmp} {asg body : Code} {dref : V} {s : Xs} {K : Kt} {st : St} (hx : XR s st) (h : xrfGo rec cx f ps asg body dref s K = true) :
    RfGo P B cx f ps asg body dref s K st := by
  unfold xrfGo at h
  rw [forceN_eq] at h
  let ob : Obj := ⟨0, dref :: envList s.env cx.n 0, 0, true, .loop .ready none ps asg body⟩
  have hx1 := hx.new ob s.df
  obtain ⟨x1, v1, s1, st1, L1, hx2, hg1, hl1, hk1, hs1⟩ := ih _ _ _ h _ hx1
  have hs1 := hs1 trivial
  unfold xrfEnd at hk1
  split at hk1
  · rename_i o lst p ps' a' b' hgl
    obtain ⟨ho, hlv, hvv, hkk⟩ := getLoop_spec hx2 hgl
    let ob3 : Obj := { o with k := .loop .exhausted p ps' a' b' }
    have hx3 : XR (Go.Ev.setObj { s1 with env := s.env, df := s.df } s.nx ob3) ⟨st.n, st.env, (s.nx, ob3) :: st1.oh⟩ := by
      have hz : XR { s1 with env := s.env, df := s.df } ⟨st.n, st.env, st1.oh⟩ := ⟨hx.env, hx2.oh, hx2.fresh⟩
      exact hz.setObj ho ob3
    -- what remains, whatever is pending
    have main : ∀ (x : X), lst ≠ .busy → K x .undef (Go.Ev.setObj { s1 with env := s.env, df := s.df } s.nx ob3) = true → ((p = none ∧ x = .normal) ∨ (p = some .ret ∧ x = .ret) ∨ ∃ i, p = some (.exit i) ∧ x = .exit i) → RfGo P B cx f ps asg body dref s K st := by
      intro x hbusy hk3 hpx
      refine ⟨x, .undef, _, _, [s.nx] ++ (L1 ++ [s.nx]), hx3, ((Grow.app [(s.nx, ob)] st.oh).trans hg1).trans (Grow.app [(s.nx, ob3)] st1.oh), by simp [Go.Ev.setObj, hl1], hk3, rfl, rfl, ?_⟩
      intro g a w rd D fop fn hn hok hr hD hB hf
      have hok' : (okX cx.n asg = true ∧ okX cx.n body = true) ∧ (ps.toList.all fun p => Nat.blt p cx.n) = true := by simpa only [okX, Bool.and_eq_true] using hok
      obtain ⟨⟨ok1, ok2⟩, ok3⟩ := hok'
      have hsz : a.tmps.size = cx.n := hr.sz.trans hn
      let rcd : Go.Loop := { state := .ready, pending := none, fn, tmps := a.tmps, params := ps, assign := asg, body, defers := D }
      have hkind : KindAt g st.oh ob 0 (.loop rcd) := by
        refine ⟨rcd, D, rfl, rfl, rfl, rfl, rfl, rfl, rfl, ⟨?_, ?_, ?_, ?_⟩, fun v hv => ?_, fun j v hv => ?_⟩
        · show (dref :: envList s.env cx.n 0).length = a.tmps.size + 1
          rw [List.length_cons, envList_len, hsz]
        · show okX a.tmps.size asg = true; rw [hsz]; exact ok1
        · show okX a.tmps.size body = true; rw [hsz]; exact ok2
        · show (ps.toList.all fun p => Nat.blt p a.tmps.size) = true; rw [hsz]; exact ok3
        · have : dref = v := by simpa [ob] using hv
          rw [← this]; exact hD
        · have hv' : (envList s.env cx.n 0)[j]? = some v := by simpa [ob] using hv
          rw [envList_get _ _ _ _ _ hv', Nat.zero_add, ← hx.env]
          exact hr.env j
      obtain ⟨p1, p2, p3⟩ := hr.hr.place s.nx 0 ob (.loop rcd) (fun o' ho' => by rw [hx.fresh _ (Nat.le_refl _)] at ho'; cases ho') hkind
      have hyl := rdY_new (g := g) (oh := st.oh) s.nx w.heap.size 0 ob
      obtain ⟨d, q, ys, c1, c2, c3, c4⟩ := hs1 (g.at s.nx w.heap.size 0) (w.alloc (.loop rcd)) (a.eval fop) #[.func (.yield w.heap.size) #[] #[]] p1 hB (p2.rdV hf) ⟨rfl, fun j v x hv hx => by
        cases j with
        | zero => simp at hv hx; subst hv; subst hx; exact hyl
        | succ j => simp at hv⟩
      refine ⟨d, q, ys, ?_, c3 _, fun a2 Q ha2 hQ => callsIn_fw (c4.mono ?_)⟩
      · have := c1 (w.alloc (.loop rcd))
        simpa [resolve, rangeCall, Act.eval] using this
      · rintro e w3 ⟨xv, rfl, g3, z1, z2, z3, z4⟩
        obtain ⟨L', r3, hm3, hfv3, hheap3, f1, f2, f3, f4, f5, f6, f7, f8, f9⟩ := loop_at z1 ho hlv hvv hkk (z3 _ _ hyl)
        obtain rfl : w.heap.size = L' := by simpa using hfv3
        obtain ⟨t1, t2, t3⟩ := f9 .exhausted p
        have hend := run_endLoop (P := P) hheap3 (by rw [f1]; exact hbusy)
        rw [f2] at hend
        have hq := hQ g3 _ ⟨t1, by rw [ha2]; exact hr.sz, fun t => by rw [ha2]; exact t2.rdV (z3.rdV (p2.rdV (hr.env t)))⟩ ((p2.trans z3).trans t2) ((p3.trans z4).trans t3)
        refine ⟨p, _, hend, ?_⟩
        rcases hpx with ⟨rfl, rfl⟩ | ⟨rfl, rfl⟩ | ⟨i, rfl, rfl⟩
        · exact hq
        · exact wpIn_ret hq
        · exact wpIn_exit hq
    cases lst with
    | busy => cases hk1
    | ready =>
      simp only at hk1
      split at hk1
      · exact main .normal (by simp) hk1 (.inl ⟨rfl, rfl⟩)
      · exact main .ret (by simp) hk1 (.inr (.inl ⟨rfl, rfl⟩))
      · exact main _ (by simp) hk1 (.inr (.inr ⟨_, rfl, rfl⟩))
      · cases hk1
    | done =>
      simp only at hk1
      split at hk1
      · exact main .normal (by simp) hk1 (.inl ⟨rfl, rfl⟩)
      · exact main .ret (by simp) hk1 (.inr (.inl ⟨rfl, rfl⟩))
      · exact main _ (by simp) hk1 (.inr (.inr ⟨_, rfl, rfl⟩))
      · cases hk1
    | exhausted =>
      simp only at hk1
      split at hk1
      · exact main .normal (by simp) hk1 (.inl ⟨rfl, rfl⟩)
      · exact main .ret (by simp) hk1 (.inr (.inl ⟨rfl, rfl⟩))
      · exact main _ (by simp) hk1 (.inr (.inr ⟨_, rfl, rfl⟩))
      · cases hk1
  · cases hk1

theorem x_rangeFunc {rec : Rec} (ih : Sound P B rec) {cx : Cx} {f : Operand} {ps : Array Tmp} {asg body : Code} {s : Xs} {K : Kt} {st : St} (hx : XR s st)
    (h : xrf rec cx (xopd s.env f) ps asg body s K = true) : Goal P B (.code cx (.rangeFunc f ps asg body)) s K st := by
  rw [hx.operand] at h
  unfold xrf at h
  split at h
  · rename_i hrd
    rw [forceN_eq] at h
    let od : Obj := ⟨0, [], 0, true, .dfr false⟩
    have hx1 := hx.new od (.coll s.nx :: s.df)
    obtain ⟨x, v, s3, st3, L, hx3, hg3, hl3, hk3, hn3, hdf3, hsem⟩ := xrf_go ih hx1 h
    refine ⟨x, v, s3, st3, L ++ [s.nx], hx3, (Grow.app [(s.nx, od)] st.oh).trans hg3, by rw [hl3]; simp, hk3, fun hp => ⟨hn3, fun g a w rd hr hd hrdv hB => ?_⟩⟩
    obtain ⟨hn, hok⟩ := hp
    rw [hrd] at hrdv
    cases rd with
    | some _ => exact hrdv.elim
    | none =>
      obtain ⟨p1, p2, p3⟩ := hr.hr.place s.nx 0 od (.deferred (some [])) (fun o' ho' => by rw [hx.fresh _ (Nat.le_refl _)] at ho'; cases ho') ⟨rfl, rfl⟩
      have hr1 : Rel (g.at s.nx w.heap.size 0) { st with oh := (s.nx, od) :: st.oh } a (w.alloc (.deferred (some []))) := ⟨p1, hr.sz, fun t => p2.rdV (hr.env t)⟩
      refine wpIn_rangeFunc fun fn _ => ?_
      obtain ⟨d, q, ys, c1, c2, c3⟩ := hsem (g.at s.nx w.heap.size 0) a (w.alloc (.deferred (some []))) none w.heap.size f fn hn hok hr1 (rdB_new _ _ _ _ rfl) hB (p2.rdV (opd_rd hr f))
      rw [World.size_alloc] at c1 c3
      refine ⟨_, _, _, d, _, q, ys, _, run_enterLoop_outer fn a.tmps ps asg body, c1, fun _ _ => trivial, c2, by simp [FW], ?_⟩
      refine c3 _ _ rfl fun g' w' hr' hm' hf' => ?_
      refine ⟨rfl, g', hr', ?_, p2.trans hm', p3.trans hf'⟩
      rw [hdf3]
      refine ⟨⟨w.heap.size, rfl, ?_⟩, hd.mono (p2.trans hm')⟩
      exact hm' _ _ (show RdV1 _ _ (.ref s.nx 0 0 0) _ from rdB_new s.nx w.heap.size 0 od rfl)
  · rename_i l0 hrd
    split at h
    · rename_i o rest hg
      obtain ⟨lst, p, ps0, a0, b0⟩ := rest
      split at h
      · rename_i dref r hel
        obtain ⟨x, v, s3, st3, L, hx3, hg3, hl3, hk3, hn3, hdf3, hsem⟩ := xrf_go ih hx h
        refine ⟨x, v, s3, st3, L, hx3, hg3, hl3, hk3, fun hp => ⟨hn3, fun g a w rd hr hd hrdv hB => ?_⟩⟩
        obtain ⟨hn, hok⟩ := hp
        rw [hrd] at hrdv
        cases rd with
        | none => exact hrdv.elim
        | some b =>
          obtain ⟨q1, q2, q3, q4⟩ := getLoop_spec hx hg
          obtain ⟨L0, r0, hm0, hfv0, hheap0, f1, f2, f3, f4, f5, f6, f7, f8, f9⟩ := loop_at hr.hr q1 q2 q3 q4 hrdv
          obtain rfl : b = L0 := by simpa using hfv0
          refine wpIn_rangeFunc fun fn _ => ?_
          obtain ⟨d, q, ys, c1, c2, c3⟩ := hsem g a w (some b) r0.defers f fn hn hok hr (f7 dref (by rw [hel]; rfl)) hB (opd_rd hr f)
          refine ⟨_, _, _, d, _, q, ys, _, run_enterLoop_inner hheap0 fn a.tmps ps asg body, c1, fun _ _ => trivial, c2, by simp [FW], ?_⟩
          refine c3 _ _ rfl fun g' w' hr' hm' hf' => ?_
          refine ⟨rfl, g', hr', ?_, hm', hf'⟩
          rw [hdf3]
          exact hd.mono hm'
      · cases h
    · cases h

end
end Go.Ev
