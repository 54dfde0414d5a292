/-
  OWN LAYER 'Ev', PART XS: A RANGE OVER A FUNCTION, AND ITS ROUNDS.
-/
import Derived.Test.YtjehfpfgpnmpoaaGreatDoorXQ
import Derived.RangeFuncNested
set_option linter.all false
namespace Go.Ev

section
variable {P : Program} {B : Sto} {tb : Tb}

theorem XR.setObj {s : Xs} {st : St} (hx : XR s st) {d : Nat} {o : Obj} (ho : oget st.oh d = some o) (ob : Obj) : XR (Go.Ev.setObj s d ob) { st with oh := (d, ob) :: st.oh } := by
  refine ⟨hx.env, fun i => ?_, fun i hi => ?_⟩
  · show oget ((d, ob) :: st.oh) i = (s.h.set d ob).get i
    rw [Tr.get_set]
    by_cases e : i = d
    · subst e; rw [oget_cons_same]; simp
    · rw [oget_cons_other _ _ e, if_neg e, hx.oh]
  · by_cases e : i = d
    · subst e
      have := hx.fresh i hi
      rw [ho] at this; cases this
    · exact (oget_cons_other _ _ e).trans (hx.fresh i hi)

/-- A new object. -/
theorem XR.new {s : Xs} {st : St} (hx : XR s st) (ob : Obj) (df : List Df) : XR { s with df := df, h := s.h.set s.nx ob, nx := Nat.succ s.nx, lg := s.nx :: s.lg } { st with oh := (s.nx, ob) :: st.oh } := by
  refine ⟨hx.env, fun i => ?_, fun i hi => ?_⟩
  · show oget ((s.nx, ob) :: st.oh) i = (s.h.set s.nx ob).get i
    rw [Tr.get_set]
    by_cases e : i = s.nx
    · subst e; rw [oget_cons_same]; simp
    · rw [oget_cons_other _ _ e, if_neg e, hx.oh]
  · have hi : s.nx + 1 ≤ i := hi
    exact (oget_cons_other _ _ (by omega)).trans (hx.fresh i (by omega))

theorem getLoop_spec {s : Xs} {st : St} (hx : XR s st) {l : Nat} {o : Obj} {lst : LoopState} {p : Option Code} {ps : Array Tmp} {a b : Code} (h : getLoop s.h l = some (o, lst, p, ps, a, b)) :
    oget st.oh l = some o ∧ o.live = true ∧ o.ver = 0 ∧ o.k = .loop lst p ps a b := by
  unfold getLoop at h
  split at h
  · rename_i o' ho
    split at h
    · rename_i hl
      rw [bifO] at h
      obtain ⟨hv, h⟩ := h
      split at h
      · rename_i hk
        cases h
        exact ⟨by rw [hx.oh]; exact ho, hl, Nat.eq_of_beq_eq_true hv, hk⟩
      · cases h
    · cases h
  · cases h

/-- The record of a loop. -/
theorem loop_at {g : Gh} {oh : OH} {w : World} {l : Nat} {o : Obj} {lst : LoopState} {p : Option Code} {ps : Array Tmp} {a b : Code} {fv : Value} (hr : HR g oh w)
    (ho : oget oh l = some o) (hl : o.live = true) (hv : o.ver = 0) (hk : o.k = .loop lst p ps a b) (hy : RdV1 g oh (.yld l) fv) :
    ∃ L r, g.m l = some L ∧ fv = .func (.yield L) #[] #[] ∧ w.heap[L]? = some (.loop r) ∧ r.state = lst ∧ r.pending = p ∧ r.params = ps ∧ r.assign = a ∧ r.body = b ∧
      (o.el.length = r.tmps.size + 1 ∧ okX r.tmps.size a = true ∧ okX r.tmps.size b = true ∧ (ps.toList.all fun p => Nat.blt p r.tmps.size) = true) ∧
      (∀ v, o.el[0]? = some v → RdV g oh v (.pointer (some ⟨r.defers, 0, none⟩))) ∧ (∀ (j : Nat) (v : V), o.el[j + 1]? = some v → RdV g oh v (r.tmps.getD j Go.undef)) ∧
      ∀ (lst' : LoopState) (p' : Option Code), HR g ((l, { o with k := .loop lst' p' ps a b }) :: oh) (w.putObj L (.loop { r with state := lst', pending := p' })) ∧
        Mono g oh g ((l, { o with k := .loop lst' p' ps a b }) :: oh) ∧ Fr g oh w g ((l, { o with k := .loop lst' p' ps a b }) :: oh) (w.putObj L (.loop { r with state := lst', pending := p' })) := by
  obtain ⟨_, o2, ho2, hat⟩ := hy
  rw [ho] at ho2
  obtain rfl : o = o2 := by simpa using ho2
  obtain ⟨L, hm, hfv⟩ := hat hv hl
  obtain ⟨go, q1, q2, q3⟩ := (hr.obj l o ho hl).2 L hm
  unfold KindAt at q3
  rw [hk] at q3
  obtain ⟨r, D, rfl, e1, e2, e3, e4, e5, e6, e7, e8, e9⟩ := q3
  subst e6
  refine ⟨L, r, hm, hfv, q1, e1, e2, e3, e4, e5, e7, e8, e9, fun lst' p' => ?_⟩
  refine hr.put l L o _ _ _ ho hl hm q1 rfl (Nat.le_refl _) (fun _ => Nat.le_refl _) ?_
  exact ⟨_, r.defers, rfl, rfl, rfl, e3, e4, e5, rfl, e7, e8, e9⟩

/-! ### a round -/
def zipEnv : List Nat → List V → Env → Env
  | p :: ps, v :: vs, e => zipEnv ps vs ((p, v) :: e)
  | _, _, e => e

theorem zipEnv_set : ∀ (ps : List Nat) (vs : List V) (e : Env) (t : Tr V), (∀ k, eget e k = slot t k) → ∀ k, eget (zipEnv ps vs e) k = slot (zipSet ps vs t) k
  | [], _, _, _, h, k => h k
  | _ :: _, [], _, _, h, k => h k
  | p :: ps, v :: vs, e, t, h, k => by
    refine zipEnv_set ps vs _ _ (fun k => ?_) k
    rw [eget_cons, slot_set]
    by_cases hk : p = k
    · subst hk; simp
    · rw [if_neg hk, if_neg (fun q => hk q.symm)]; exact h k

theorem zip_tmps {g : Gh} {oh : OH} : ∀ (ps : List Nat) (vs : List V) (xs : List Value) (e : Env) (tm : Array Value), xs.length = vs.length → (∀ (j : Nat) (v : V) (x : Value), vs[j]? = some v → xs[j]? = some x → RdV g oh v x) →
    (ps.all fun p => Nat.blt p tm.size) = true → (∀ t, RdV g oh (eget e t) (tm.getD t Go.undef)) →
    ∀ t, RdV g oh (eget (zipEnv ps vs e) t) (((ps.zip xs).foldl (fun tmps (x : Nat × Value) => tmps.setIfInBounds x.1 x.2) tm).getD t Go.undef)
  | [], _, _, _, _, _, _, _, h, t => h t
  | _ :: _, [], [], _, _, _, _, _, h, t => h t
  | p :: ps, v :: vs, x :: xs, e, tm, hl, hvx, hp, h, t => by
    rw [List.all_cons, Bool.and_eq_true, Nat.blt_eq] at hp
    simp only [List.zip_cons_cons, List.foldl_cons, zipEnv]
    refine zip_tmps ps vs xs _ _ (by simpa using hl) (fun j v x a b => hvx (j + 1) v x (by simpa using a) (by simpa using b)) (by simpa using hp.2) (fun k => ?_) t
    rw [eget_cons]
    by_cases hk : p = k
    · subst hk
      rw [if_pos rfl, Array.getD_eq_getD_getElem?, Array.getElem?_setIfInBounds_self_of_lt hp.1]
      exact hvx 0 v x rfl rfl
    · rw [if_neg hk, Array.getD_eq_getD_getElem?, Array.getElem?_setIfInBounds_ne hk, ← Array.getD_eq_getD_getElem?]
      exact h k

theorem foldl_size : ∀ (l : List (Nat × Value)) (tm : Array Value), (l.foldl (fun tmps (x : Nat × Value) => tmps.setIfInBounds x.1 x.2) tm).size = tm.size
  | [], _ => rfl
  | x :: r, tm => by rw [List.foldl_cons, foldl_size r]; simp

theorem fw_inRound (L : Nat) : Fence.wide.inRound L = FW (some L) := rfl

theorem x_yield {rec : Rec} (ih : Sound P B rec) {l : Nat} {args : List V} {s : Xs} {K : Kt} {st : St} (hx : XR s st) (h : xround rec l args s K = true) : Goal P B (.call (.yld l) args) s K st := by
  unfold xround at h
  split at h
  · rename_i o lst p ps a b hg
    obtain ⟨ho, hl, hv, hk⟩ := getLoop_spec hx hg
    cases hsz : Nat.beq ps.size args.length with
    | false => rw [hsz] at h; cases h
    | true =>
      rw [hsz, cond_true] at h
      have hsz := Nat.eq_of_beq_eq_true hsz
      let n := o.el.tail.length
      let st0 : St := ⟨n, zipEnv ps.toList args (envOf 0 o.el.tail []), st.oh⟩
      have hx0 : XR { s with env := zipSet ps.toList args (argTr 0 o.el.tail .nil), df := [] } st0 := ⟨zipEnv_set _ _ _ _ (envOf_argTr o.el.tail 0 [] .nil fun k => rfl), hx.oh, hx.fresh⟩
      obtain ⟨x1, v1, s1, st1, L1, hx1, hg1, hl1, hk1, hs1⟩ := ih _ _ _ h _ hx0
      unfold xroundMid at hk1
      split at hk1
      · split at hk1
        · rename_i o1 p1 ps1 a1 b1 hgl1
          obtain ⟨ho1, hlv1, hvv1, hkk1⟩ := getLoop_spec hx1 hgl1
          obtain ⟨x2, v2, s2, st2, L2, hx2, hg2, hl2, hk2, hs2⟩ := ih _ _ _ hk1 _ (hx1.setObj ho1 { o1 with k := .loop .busy p1 ps1 a1 b1 })
          unfold xroundEnd at hk2
          split at hk2
          · rename_i o2 lst2 p2 ps2 a2 b2 hgl2
            obtain ⟨ho2, hlv2, hvv2, hkk2⟩ := getLoop_spec hx2 hgl2
            -- what the round comes to, whatever way it is left
            have main : ∀ (lst3 : LoopState) (p3 : Option Code) (rv : Bool), (∀ (P : Program) (L : Nat) (r : Go.Loop) (w : World), w.heap[L]? = some (.loop r) → (match x2 with
                | .normal => (Instr.endRound L none).run P w = .ok (.bool rv) (w.putObj L (.loop { r with state := lst3, pending := p3 }))
                | .ret => (Instr.endRound L (some .ret)).run P w = .ok (.bool rv) (w.putObj L (.loop { r with state := lst3, pending := p3 }))
                | .exit id => (Instr.endRound L (some (.exit id))).run P w = .ok (.bool rv) (w.putObj L (.loop { r with state := lst3, pending := p3 })))) →
                K .normal (.con (.bool rv)) (Go.Ev.setObj s2 l { o2 with k := .loop lst3 p3 ps2 a2 b2 }) = true → Goal P B (.call (.yld l) args) s K st := by
              intro lst3 p3 rv hend hk3
              refine ⟨.normal, _, _, _, [l] ++ (L2 ++ ([l] ++ L1)), hx2.setObj ho2 { o2 with k := .loop lst3 p3 ps2 a2 b2 }, ((hg1.trans (Grow.app [(l, _)] st1.oh)).trans hg2).trans (Grow.app [(l, _)] st2.oh), by simp [Go.Ev.setObj, hl2, hl1], hk3, fun _ => fun g w fv xs hr hB hf ha => ?_⟩
              obtain ⟨L, r, hm, rfl, hheap, e1, e2, e3, e4, e5, ⟨e6, e7, e8, e9⟩, e10, e11, _⟩ := loop_at hr ho hl hv hk (show RdV1 g st.oh (.yld l) fv from hf)
              have hn : n = r.tmps.size := by show o.el.tail.length = _; rw [List.length_tail]; omega
              have hrun : (callSem (.func (.yield L) #[] #[]) xs).run P w = .ok (.round L r.fn ((r.params.zip xs).foldl (fun tmps (t, a) => tmps.setIfInBounds t a) r.tmps) r.assign r.body) w := by
                unfold callSem
                rw [Sem.run_bind]
                simp only [Deferred.ofValue, Sem.run_pure, Result.andThen, invoke, Array.empty_append]
                exact run_yield hheap (by rw [e3, ha.1, hsz])
              rw [hrun]
              show RoundIn _ _ _ _ _ _ _ _ _ _
              obtain ⟨hn1, hs1⟩ := hs1 ⟨rfl, by show okX n a = true; rw [hn]; exact e7⟩
              obtain ⟨hn2, hs2⟩ := hs2 ⟨hn1, by show okX n b = true; rw [hn]; exact e8⟩
              have htm : (r.params.zip xs).foldl (fun tmps (t, a) => tmps.setIfInBounds t a) r.tmps = (ps.toList.zip xs.toList).foldl (fun tmps (x : Nat × Value) => tmps.setIfInBounds x.1 x.2) r.tmps := by
                rw [← Array.foldl_toList, Array.toList_zip, e3]
              have hrel : Rel g st0 { tmps := (r.params.zip xs).foldl (fun tmps (t, a) => tmps.setIfInBounds t a) r.tmps, defers := [] } w := by
                refine ⟨hr, ?_, ?_⟩
                · rw [htm, foldl_size, ← hn]
                · simp only
                  rw [htm]
                  refine zip_tmps _ _ _ _ _ (by simpa using ha.1) (fun j v x hv hx => ha.2 j v x hv (by simpa using hx)) e9 fun t => ?_
                  rw [envOf_get]
                  by_cases ht : 0 ≤ t ∧ t < 0 + o.el.tail.length
                  · rw [dif_pos ht]
                    refine e11 t _ ?_
                    rw [← List.getElem?_tail]
                    simp
                  · rw [dif_neg ht]; exact True.intro
              refine roundIn_of_wpIn (F := Fence.wide) trivial ?_
              rw [fw_inRound, e4, e5]
              refine wpIn_mono (hs1 g _ w (some L) hrel trivial (show RdV1 g st.oh (.yld l) (.func (.yield L) #[] #[]) from hf) hB) ?_
              rintro e a' w' ⟨rfl, g1, z1, z2, z3, z4⟩
              show ∃ w₂, _ ∧ _
              obtain ⟨L', r1, hm1, hfv1, hheap1, f1, f2, f3, f4, f5, f6, f7, f8, f9⟩ := loop_at z1.hr ho1 hlv1 hvv1 hkk1 (z3 _ _ (show RdV1 g st.oh (.yld l) (.func (.yield L) #[] #[]) from hf))
              obtain rfl : L = L' := by simpa using hfv1
              obtain ⟨y1, y2, y3⟩ := f9 .busy p1
              refine ⟨_, run_beginRound hheap1 f1, ?_⟩
              have hrec : (.loop { r1 with state := .busy } : Go.Obj) = .loop { r1 with state := .busy, pending := p1 } := by rw [← f2]
              rw [hrec]
              have hrel1 : Rel g1 { st1 with oh := (l, { o1 with k := .loop .busy p1 ps1 a1 b1 }) :: st1.oh } a' (w'.putObj L (.loop { r1 with state := .busy, pending := p1 })) := ⟨y1, z1.sz, fun t => y2.rdV (z1.env t)⟩
              have hyl : RdV1 g1 ((l, { o1 with k := .loop .busy p1 ps1 a1 b1 }) :: st1.oh) (.yld l) (.func (.yield L) #[] #[]) := y2 _ _ (z3 _ _ (show RdV1 g st.oh (.yld l) (.func (.yield L) #[] #[]) from hf))
              refine wpIn_mono (hs2 g1 a' _ (some L) hrel1 (z2.mono y2) hyl (z4.B.trans hB)) ?_
              rintro e a2' w2 ⟨rfl, g2, u1, u2, u3, u4⟩
              obtain ⟨L', r2, hm2, hfv2, hheap2, v1, v2, v3, v4, v5, v6, v7, v8, v9⟩ := loop_at u1.hr ho2 hlv2 hvv2 hkk2 (u3 _ _ hyl)
              obtain rfl : L = L' := by simpa using hfv2
              obtain ⟨t1, t2, t3⟩ := v9 lst3 p3
              have hfin : RetS (.con (.bool rv)) ((l, { o2 with k := .loop lst3 p3 ps2 a2 b2 }) :: st2.oh) g st.oh w (.bool rv) (w2.putObj L (.loop { r2 with state := lst3, pending := p3 })) :=
                ⟨g2, t1, ⟨rfl, rfl⟩, ((z3.trans y2).trans u3).trans t2, ((z4.trans y3).trans u4).trans t3⟩
              have he := hend P L r2 w2 hheap2
              cases x2 with
              | normal => exact ⟨_, _, he, _, rfl, hfin⟩
              | ret => exact ⟨_, _, he, _, rfl, hfin⟩
              | exit id => exact ⟨_, _, he, _, rfl, hfin⟩
            cases x2 with
            | normal => exact main .ready none true (fun P L r w hh => by simpa using run_endRound none hh) hk2
            | ret => exact main .done (some .ret) false (fun P L r w hh => by simpa using run_endRound (some .ret) hh) hk2
            | exit id => exact main .done (some (.exit id)) false (fun P L r w hh => by simpa using run_endRound (some (.exit id)) hh) hk2
          · cases hk2
        · cases hk1
      · cases hk1
  · cases h

end
end Go.Ev
