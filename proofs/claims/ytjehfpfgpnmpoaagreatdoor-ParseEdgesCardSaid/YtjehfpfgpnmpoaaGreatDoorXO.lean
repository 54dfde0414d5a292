/-
  OWN LAYER 'Ev', PART XO: WHAT THE RUN'S TASKS MEAN.
-/
import Derived.Test.YtjehfpfgpnmpoaaGreatDoorXN
set_option linter.all false
namespace Go.Ev

section
variable {P : Program} {B : Sto}

/-- What a call comes to. -/
def RetS (v : V) (oh' : OH) (g : Gh) (oh : OH) (w : World) (x : Value) (w' : World) : Prop :=
  ∃ g', HR g' oh' w' ∧ RdV g' oh' v x ∧ Mono g oh g' oh' ∧ Fr g oh w g' oh' w'

def ArgsR (g : Gh) (oh : OH) (args : List V) (xs : Array Value) : Prop :=
  xs.size = args.length ∧ ∀ (j : Nat) (v : V) (x : Value), args[j]? = some v → xs[j]? = some x → RdV g oh v x

def callSem (fv : Value) (xs : Array Value) : Sem Next := do let d ← Deferred.ofValue fv xs; invoke d.target d.args

def CallS (P : Program) (B : Sto) (f : V) (args : List V) (oh : OH) (v : V) (oh' : OH) : Prop :=
  ∀ (g : Gh) (w : World) (fv : Value) (xs : Array Value), HR g oh w → g.B = B → RdV g oh f fv → ArgsR g oh args xs →
    Out P (RetS v oh' g oh w) ((callSem fv xs).run P w)

def CallE (P : Program) (B : Sto) (f : V) (args : List V) (oh : OH) (v : V) (oh' : OH) : Prop :=
  ∀ (g : Gh) (w : World) (fv : Value) (xs : Array Value), HR g oh w → g.B = B → RdV g oh f fv → ArgsR g oh args xs →
    ∃ (d : Deferred) (q : FuncId) (ys : Array Value), (∀ w, (Deferred.ofValue fv xs).run P w = .ok d w) ∧ (∃ fn cap, d.target = .fn fn cap) ∧
      (∀ w, (invoke d.target d.args).run P w = .ok (.enter q ys) w) ∧ Calls P q ys w fun e w' => ∃ x, e = .returned x ∧ RetS v oh' g oh w x w'

def CallDS (P : Program) (B : Sto) (f : V) (args : List V) (oh : OH) (oh' : OH) : Prop :=
  ∀ (g : Gh) (w : World) (fv : Value) (xs : Array Value), HR g oh w → g.B = B → RdV g oh f fv → ArgsR g oh args xs →
    ∃ (d : Deferred) (q : FuncId) (ys : Array Value), (∀ (P : Program) w, (Deferred.ofValue fv xs).run P w = .ok d w) ∧ (∃ fn cap, d.target = .fn fn cap) ∧
      (∀ w, (invoke d.target d.args).run P w = .ok (.enter q ys) w) ∧ CallsDIn (FW none) 0 P q ys .returning w fun e u w' => u = .returning ∧ ∃ x, e = .returned x ∧ ∃ g', HR g' oh' w' ∧ Mono g oh g' oh' ∧ Fr g oh w g' oh' w'

theorem CallE.toS {f : V} {args : List V} {oh oh' : OH} {v : V} (h : CallE P B f args oh v oh') : CallS P B f args oh v oh' := by
  intro g w fv xs h1 h2 h3 h4
  obtain ⟨d, q, ys, e1, _, e2, e3⟩ := h g w fv xs h1 h2 h3 h4
  have : (callSem fv xs).run P w = .ok (.enter q ys) w := by
    unfold callSem
    rw [Sem.run_bind, e1]
    exact e2 w
  rw [this]
  exact e3

def exitOf : X → Exit
  | .normal => .normal
  | .ret => .ret
  | .exit id => .exit id

/-- A round's number. -/
def RdOK (g : Gh) (oh : OH) : Option Nat → Option Nat → Prop
  | none, none => True
  | some l, some b => RdV1 g oh (.yld l) (.func (.yield b) #[] #[])
  | _, _ => False

theorem RdOK.mono {g g' : Gh} {oh oh' : OH} (h : Mono g oh g' oh') : ∀ {a b : Option Nat}, RdOK g oh a b → RdOK g' oh' a b
  | none, none, _ => trivial
  | some l, some b, k => h (.yld l) (.func (.yield b) #[] #[]) k
  | none, some _, k => k.elim
  | some _, none, k => k.elim

def PostX (x : X) (st' : St) (df' : List Df) (g : Gh) (oh : OH) (w : World) (e : Exit) (a' : Act) (w' : World) : Prop :=
  e = exitOf x ∧ ∃ g', Rel g' st' a' w' ∧ DfRel g' st'.oh df' a'.defers ∧ Mono g oh g' st'.oh ∧ Fr g oh w g' st'.oh w'

theorem PostX.from {x : X} {st' : St} {df' : List Df} {g g1 : Gh} {oh oh1 : OH} {w w1 : World} {e : Exit} {a' : Act} {w' : World} (hm : Mono g oh g1 oh1) (hf : Fr g oh w g1 oh1 w1)
    (h : PostX x st' df' g1 oh1 w1 e a' w') : PostX x st' df' g oh w e a' w' := by
  obtain ⟨h1, g', h2, h3, h4, h5⟩ := h
  exact ⟨h1, g', h2, h3, hm.trans h4, hf.trans h5⟩

def CodeS (P : Program) (B : Sto) (rdv : Option Nat) (c : Code) (df : List Df) (st : St) (x : X) (st' : St) (df' : List Df) : Prop :=
  ∀ (g : Gh) (a : Act) (w : World) (rd : Option Nat), Rel g st a w → DfRel g st.oh df a.defers → RdOK g st.oh rdv rd → g.B = B → c.wpIn (FW rd) 0 P (PostX x st' df' g st.oh w) a w

/-- a round of a loop is about to begin -/
def wpLoop (F : Fence) (n : Nat) (P : Program) (c : Code) (Q : Exit → Act → World → Prop) (a : Act) (w : World) : Prop :=
  ∀ (b : Frame) (k : List Item) (cs : List Frame), b.roundOf = F.round → F.fn b.fn → F.room (cs.length + 1 + n) →
    ∃ e a' w', Q e a' w' ∧ ArrivesIn (Machine.fenced P F) P (lone (b.atR a (.code c :: .inLoop c :: k)) cs w) b k cs e a' w'

theorem wpLoop_enter {F : Fence} {n : Nat} {c : Code} {Q : Exit → Act → World → Prop} {a : Act} {w : World} (h : wpLoop F n P c Q a w) : (Code.loop c).wpIn F n P Q a w := by
  intro b k cs hro hb hr
  obtain ⟨e, a', w', hq, harr⟩ := h b k cs hro hb hr
  exact ⟨e, a', w', hq, .of_steps (.one (fenced_calm hb hr rfl) stepR_loop) harr⟩

theorem wpLoop_round {F : Fence} {n : Nat} {c : Code} {Q : Exit → Act → World → Prop} {a : Act} {w : World} (h : c.wpIn F n P (Exit.then (wpLoop F n P c Q) Q) a w) : wpLoop F n P c Q a w := by
  intro b k cs hro hb hr
  obtain ⟨e, a₁, w₁, hq, harr⟩ := h b (.inLoop c :: k) cs hro hb hr
  cases e with
  | normal =>
    obtain ⟨e₂, a₂, w₂, hq₂, harr₂⟩ := hq b k cs hro hb hr
    exact ⟨e₂, a₂, w₂, hq₂, .of_steps (StepsIn.trans harr (.one (fenced_calm hb hr rfl) stepR_inLoop)) harr₂⟩
  | exit id => exact ⟨_, a₁, w₁, hq, .pass (x := .inLoop c) rfl (fun _ _ => .inl (by simp)) harr⟩
  | goto l => exact ⟨_, a₁, w₁, hq, .pass (x := .inLoop c) rfl (fun _ _ => .inl (by simp)) harr⟩
  | ret => exact ⟨_, a₁, w₁, hq, .pass (x := .inLoop c) rfl (fun _ _ => .inl (by simp)) harr⟩
  | panic ch => exact ⟨_, a₁, w₁, hq, .pass (x := .inLoop c) rfl (fun _ _ => .inl (by simp)) harr⟩
  | outgrown => exact ⟨_, a₁, w₁, hq, .pass (x := .inLoop c) rfl (fun _ _ => .inl (by simp)) harr⟩

theorem stepR_sc {P : Program} {b : Frame} {a : Act} {k : List Item} {cs : List Frame} {w : World} {c : Code}  : Go.step P (lone (b.atR a (.code (.scope c) :: k)) cs w) = .next (lone (b.atR a (.code c :: .inScope c :: k)) cs w) :=
  step_lone_go (by simp [stepG, stepG.exec, Frame.atR])
theorem stepR_insc {P : Program} {b : Frame} {a : Act} {k : List Item} {cs : List Frame} {w : World} {c : Code}  : Go.step P (lone (b.atR a (.inScope c :: k)) cs w) = .next (lone (b.atR a k) cs w) :=
  step_lone_go (by simp [stepG, stepG.exec, Frame.atR])

theorem wpIn_sc {F : Fence} {n : Nat} {c : Code} {Q : Exit → Act → World → Prop} {a : Act} {w : World} (h : c.wpIn F n P (fun e a w => (∀ l, e ≠ .goto l) ∧ Q e a w) a w) : (Code.scope c).wpIn F n P Q a w := by
  intro b k cs hro hb hr
  obtain ⟨e, a₁, w₁, ⟨hg, hq⟩, harr⟩ := h b (.inScope c :: k) cs hro hb hr
  cases e with
  | normal => exact ⟨.normal, a₁, w₁, hq, .of_steps (.one (fenced_calm hb hr rfl) stepR_sc) (StepsIn.trans harr (.one (fenced_calm hb hr rfl) stepR_insc))⟩
  | exit id => exact ⟨.exit id, a₁, w₁, hq, .of_steps (.one (fenced_calm hb hr rfl) stepR_sc) ⟨fun k' hk => harr.1 k' (by simpa [exitTo] using hk), fun hr' hk => harr.2 hr' (by simpa [exitTo] using hk)⟩⟩
  | goto l => exact absurd rfl (hg l)
  | ret => exact ⟨.ret, a₁, w₁, hq, .of_steps (.one (fenced_calm hb hr rfl) stepR_sc) harr⟩
  | panic ch => exact ⟨.panic ch, a₁, w₁, hq, .of_steps (.one (fenced_calm hb hr rfl) stepR_sc) harr⟩
  | outgrown => exact ⟨.outgrown, a₁, w₁, hq, .of_steps (.one (fenced_calm hb hr rfl) stepR_sc) harr⟩

def LoopS (P : Program) (B : Sto) (rdv : Option Nat) (c : Code) (df : List Df) (st : St) (x : X) (st' : St) (df' : List Df) : Prop :=
  ∀ (g : Gh) (a : Act) (w : World) (rd : Option Nat), Rel g st a w → DfRel g st.oh df a.defers → RdOK g st.oh rdv rd → g.B = B → wpLoop (FW rd) 0 P c (PostX x st' df' g st.oh w) a w

theorem wpLoop_mono {F : Fence} {n : Nat} {c : Code} {Q Q' : Exit → Act → World → Prop} {a : Act} {w : World} (h : wpLoop F n P c Q a w) (hq : ∀ e a w, Q e a w → Q' e a w) : wpLoop F n P c Q' a w := by
  intro b k cs hro hb hr
  obtain ⟨e, a', w', hh, harr⟩ := h b k cs hro hb hr
  exact ⟨e, a', w', hq _ _ _ hh, harr⟩

def OpsS (P : Program) (B : Sto) (rdv : Option Nat) (ops : Array Oper) (l : List Oper) (df : List Df) (st : St) (st' : St) (df' : List Df) : Prop :=
  ∀ (i : Nat) (g : Gh) (a : Act) (w : World) (rd : Option Nat) (Q : Exit → Act → World → Prop), ops.toList.drop i = l → Rel g st a w → DfRel g st.oh df a.defers → RdOK g st.oh rdv rd → g.B = B →
    (∀ a' w', PostX .normal st' df' g st.oh w .normal a' w' → Q .normal a' w') → wpOpsIn (FW rd) 0 P ops Q (List.range' i l.length) a w

def OutS (P : Program) (B : Sto) (fn : Func) (df : List Df) (st : St) (v : V) (oh' : OH) : Prop :=
  ∀ (g : Gh) (a : Act) (w : World) (ds : List Deferred) (R : Ending → World → Prop), Rel g st a w → DfRel g st.oh df ds → g.B = B →
    (∀ x w', RetS v oh' g st.oh w x w' → R (.returned x) w') → LeavesInM (FW none) 0 P fn a.tmps R ds .returning w

/-! ### drawn orders -/
def FpOK : Fp → Option Acc → Prop
  | .skip, none => True
  | .op all wr, some a => all = idsOf a.pre ++ a.nw ++ idsOf a.post ∧ wr = a.nw ++ idsOf a.post
  | .call nx wr, some a => (∀ i, i ∈ a.wr → i ∈ wr) ∧ (∀ i, i ∈ a.pre.map (·.1) → i < nx)
  | _, _ => False

def TrOK (ops : Array Oper) (hist : List (Option Acc)) (tr : List (Fp × Nat)) : Prop :=
  tr.length = hist.length ∧ ∀ (k : Nat) (p : Fp × Nat), k < tr.length → tr[tr.length - 1 - k]? = some p → (∃ a, hist[k]? = some a ∧ FpOK p.1 a) ∧ ∀ i, Nat.testBit p.2 i = true → Chain ops i k

def PairsF (ops : Array Oper) (n : Nat) (all : List (Option Acc)) : Prop :=
  ∀ (i j : Nat) (a b : Option Acc), i < j → n ≤ j → all[i]? = some a → all[j]? = some b → Chain ops i j ∨ indep a b = true

def OpsDS (P : Program) (B : Sto) (ops : Array Oper) (l : List Oper) (tr : List (Fp × Nat)) (st st' : St) : Prop :=
  ∃ rs : List (Option Acc), rs.length = l.length ∧ Runs B P ops (l.zip rs) st st' ∧ ∀ hist, TrOK ops hist tr → ops.toList.drop hist.length = l → PairsF ops hist.length (hist ++ rs)

def PreT (P : Program) : Tk → St → Prop
  | .code cx c, st => st.n = cx.n ∧ okX cx.n c = true
  | .loopR cx c, st => st.n = cx.n ∧ okX cx.n c = true
  | .ops cx _ l, st => st.n = cx.n ∧ dstB cx.n l = true
  | .opsD cx ops l _, st => st.n = cx.n ∧ dstB cx.n l = true ∧ (∀ o ∈ l, ∀ c, o.op ≠ .defer c)
  | _, _ => True

def ResT (P : Program) (B : Sto) : Tk → Xs → St → X → V → Xs → St → Prop
  | .code cx c, s, st, x, _, s', st' => st'.n = st.n ∧ CodeS P B cx.rd c s.df st x st' s'.df
  | .loopR cx c, s, st, x, _, s', st' => st'.n = st.n ∧ LoopS P B cx.rd c s.df st x st' s'.df
  | .ops cx ops l, s, st, x, _, s', st' => st'.n = st.n ∧ x = .normal ∧ OpsS P B cx.rd ops l s.df st st' s'.df
  | .opsD _ ops l tr, s, st, x, _, s', st' => st'.n = st.n ∧ x = .normal ∧ s'.df = s.df ∧ ((∃ g a w, Rel g st a w ∧ g.B = B) → OpsDS P B ops l tr st st')
  | .call f args, _, st, _, v, _, st' => CallS P B f args st.oh v st'.oh
  | .callE f args, _, st, _, v, _, st' => CallE P B f args st.oh v st'.oh
  | .callD f args, _, st, _, _, _, st' => CallDS P B f args st.oh st'.oh
  | .out fn df, _, st, _, v, _, st' => OutS P B fn df st v st'.oh

/-- What a task comes to. -/
def Goal (P : Program) (B : Sto) (t : Tk) (s : Xs) (K : Kt) (st : St) : Prop :=
  ∃ x v s' st' L, XR s' st' ∧ Grow L st.oh st'.oh ∧ s'.lg = L ++ s.lg ∧ K x v s' = true ∧ (PreT P t st → ResT P B t s st x v s' st')

def Sound (P : Program) (B : Sto) (rec : Rec) : Prop := ∀ t s K, rec t s K = true → ∀ st, XR s st → Goal P B t s K st

/-! ### plain code -/
theorem x_skip {c : Code} (hc : c = .skip ∨ ∃ l, c = .label l) {cx : Cx} {s : Xs} {K : Kt} {st : St} (hx : XR s st) (hk : K .normal .undef s = true) : Goal P B (.code cx c) s K st := by
  refine ⟨.normal, .undef, s, st, [], hx, Grow.refl _, rfl, hk, fun _ => ⟨rfl, fun g a w rd hr hd _ _ => ?_⟩⟩
  rcases hc with rfl | ⟨l, rfl⟩
  · exact wpIn_skip ⟨rfl, g, hr, hd, Mono.refl _ _, Fr.refl _ _ _⟩
  · exact wpIn_label ⟨rfl, g, hr, hd, Mono.refl _ _, Fr.refl _ _ _⟩

theorem x_ret {cx : Cx} {s : Xs} {K : Kt} {st : St} (hx : XR s st) (hk : K .ret .undef s = true) : Goal P B (.code cx .ret) s K st :=
  ⟨.ret, .undef, s, st, [], hx, Grow.refl _, rfl, hk, fun _ => ⟨rfl, fun g a w rd hr hd _ _ => wpIn_ret ⟨rfl, g, hr, hd, Mono.refl _ _, Fr.refl _ _ _⟩⟩⟩

theorem x_exit {id : Nat} {cx : Cx} {s : Xs} {K : Kt} {st : St} (hx : XR s st) (hk : K (.exit id) .undef s = true) : Goal P B (.code cx (.exit id)) s K st :=
  ⟨.exit id, .undef, s, st, [], hx, Grow.refl _, rfl, hk, fun _ => ⟨rfl, fun g a w rd hr hd _ _ => wpIn_exit ⟨rfl, g, hr, hd, Mono.refl _ _, Fr.refl _ _ _⟩⟩⟩

theorem okX_seq {n : Nat} {p q : Code} (h : okX n (.seq p q) = true) : okX n p = true ∧ okX n q = true := by
  simpa only [okX, Bool.and_eq_true] using h
theorem okX_cond {n : Nat} {c : Operand} {p q : Code} (h : okX n (.cond c p q) = true) : okX n p = true ∧ okX n q = true := by
  simpa only [okX, Bool.and_eq_true] using h

/-- Code that goes on with more code. -/
theorem after_code {cx : Cx} {q c : Code} {s s1 : Xs} {K : Kt} {st st1 : St} {L : List Nat} (hg1 : Grow L st.oh st1.oh) (hl1 : s1.lg = L ++ s.lg)
    (h1 : PreT P (.code cx c) st → (PreT P (.code cx q) st1 ∧ ∀ x st2 df2, CodeS P B cx.rd q s1.df st1 x st2 df2 → CodeS P B cx.rd c s.df st x st2 df2) ∧ st1.n = st.n)
    (h2 : Goal P B (.code cx q) s1 K st1) : Goal P B (.code cx c) s K st := by
  obtain ⟨x, v, s2, st2, M, hx2, hg2, hl2, hk2, hs2⟩ := h2
  refine ⟨x, v, s2, st2, M ++ L, hx2, hg1.trans hg2, by rw [hl2, hl1, List.append_assoc], hk2, fun hp => ?_⟩
  obtain ⟨⟨hp2, hc⟩, hn⟩ := h1 hp
  obtain ⟨hn2, hs⟩ := hs2 hp2
  exact ⟨hn2.trans hn, hc _ _ _ hs⟩

theorem seqS_normal {rdv : Option Nat} {p q : Code} {df df1 df2 : List Df} {st st1 st2 : St} {x : X} (h1 : CodeS P B rdv p df st .normal st1 df1) (h2 : CodeS P B rdv q df1 st1 x st2 df2) : CodeS P B rdv (.seq p q) df st x st2 df2 := by
  intro g a w rd hr hd hrd hB
  refine wpIn_seq (wpIn_mono (h1 g a w rd hr hd hrd hB) ?_)
  rintro e a' w' ⟨rfl, g', h2', h3, h4, h5⟩
  exact wpIn_mono (h2 g' a' w' rd h2' h3 (hrd.mono h4) (h5.B.trans hB)) fun e a2 w2 hp2 => hp2.from h4 h5

theorem x_seq {rec : Rec} (ih : Sound P B rec) {cx : Cx} {p q : Code} {s : Xs} {K : Kt} {st : St} (hx : XR s st)
    (h : rec (.code cx p) s (xseq rec cx q K) = true) : Goal P B (.code cx (.seq p q)) s K st := by
  obtain ⟨x, v, s1, st1, L, hx1, hg1, hl1, hk1, hs1⟩ := ih _ _ _ h st hx
  cases x with
  | normal =>
    refine after_code hg1 hl1 (fun hp => ?_) (ih _ _ _ hk1 st1 hx1)
    obtain ⟨hn, hc⟩ := hp
    obtain ⟨hp, hq⟩ := okX_seq hc
    obtain ⟨hn1, hs1⟩ := hs1 ⟨hn, hp⟩
    exact ⟨⟨⟨hn1.trans hn, hq⟩, fun x st2 df2 h2 => seqS_normal hs1 h2⟩, hn1⟩
  | ret =>
    refine ⟨.ret, v, s1, st1, L, hx1, hg1, hl1, hk1, fun hp => ?_⟩
    obtain ⟨hn1, hs1⟩ := hs1 ⟨hp.1, (okX_seq hp.2).1⟩
    refine ⟨hn1, fun g a w rd hr hd hrd hB => ?_⟩
    refine wpIn_seq (wpIn_mono (hs1 g a w rd hr hd hrd hB) ?_)
    rintro e a' w' ⟨rfl, h⟩
    exact ⟨rfl, h⟩
  | exit id =>
    refine ⟨.exit id, v, s1, st1, L, hx1, hg1, hl1, hk1, fun hp => ?_⟩
    obtain ⟨hn1, hs1⟩ := hs1 ⟨hp.1, (okX_seq hp.2).1⟩
    refine ⟨hn1, fun g a w rd hr hd hrd hB => ?_⟩
    refine wpIn_seq (wpIn_mono (hs1 g a w rd hr hd hrd hB) ?_)
    rintro e a' w' ⟨rfl, h⟩
    exact ⟨rfl, h⟩

theorem x_cond {rec : Rec} (ih : Sound P B rec) {cx : Cx} {c : Operand} {p q : Code} {s : Xs} {K : Kt} {st : St} (hx : XR s st)
    (h : xcond rec cx (xopd s.env c) p q s K = true) : Goal P B (.code cx (.cond c p q)) s K st := by
  rw [hx.operand] at h
  unfold xcond at h
  split at h
  · rename_i t hc
    cases t with
    | true =>
      refine after_code (Grow.refl _) rfl (fun hp => ⟨⟨⟨hp.1, (okX_cond hp.2).1⟩, fun x st2 df2 h2 => ?_⟩, rfl⟩) (ih _ _ _ h st hx)
      intro g a w rd hr hd hrd hB
      have hv := opd_rd hr c
      rw [hc] at hv
      exact wpIn_cond_true hv.1 (h2 g a w rd hr hd hrd hB)
    | false =>
      refine after_code (Grow.refl _) rfl (fun hp => ⟨⟨⟨hp.1, (okX_cond hp.2).2⟩, fun x st2 df2 h2 => ?_⟩, rfl⟩) (ih _ _ _ h st hx)
      intro g a w rd hr hd hrd hB
      have hv := opd_rd hr c
      rw [hc] at hv
      exact wpIn_cond_false hv.1 (h2 g a w rd hr hd hrd hB)
  · cases h

theorem x_block {rec : Rec} (ih : Sound P B rec) {cx : Cx} {id : Nat} {c : Code} {s : Xs} {K : Kt} {st : St} (hx : XR s st)
    (h : rec (.code cx c) s (xblock id K) = true) : Goal P B (.code cx (.block id c)) s K st := by
  obtain ⟨x, v, s1, st1, L, hx1, hg1, hl1, hk1, hs1⟩ := ih _ _ _ h st hx
  cases x with
  | normal =>
    refine ⟨.normal, v, s1, st1, L, hx1, hg1, hl1, hk1, fun hp => ?_⟩
    obtain ⟨hn1, hs1⟩ := hs1 hp
    refine ⟨hn1, fun g a w rd hr hd hrd hB => wpIn_block (wpIn_mono (hs1 g a w rd hr hd hrd hB) ?_)⟩
    rintro e a' w' ⟨rfl, h⟩; exact ⟨rfl, h⟩
  | ret =>
    refine ⟨.ret, v, s1, st1, L, hx1, hg1, hl1, hk1, fun hp => ?_⟩
    obtain ⟨hn1, hs1⟩ := hs1 hp
    refine ⟨hn1, fun g a w rd hr hd hrd hB => wpIn_block (wpIn_mono (hs1 g a w rd hr hd hrd hB) ?_)⟩
    rintro e a' w' ⟨rfl, h⟩; exact ⟨rfl, h⟩
  | exit j =>
    simp only [xblock] at hk1
    cases hb : Nat.beq j id with
    | true =>
      rw [hb] at hk1
      have hj := Nat.eq_of_beq_eq_true hb
      refine ⟨.normal, v, s1, st1, L, hx1, hg1, hl1, hk1, fun hp => ?_⟩
      obtain ⟨hn1, hs1⟩ := hs1 hp
      refine ⟨hn1, fun g a w rd hr hd hrd hB => wpIn_block (wpIn_mono (hs1 g a w rd hr hd hrd hB) ?_)⟩
      rintro e a' w' ⟨rfl, h⟩
      simp only [exitOf, Exit.inBlock, hj, if_true]; exact ⟨rfl, h⟩
    | false =>
      rw [hb] at hk1
      have hj : j ≠ id := fun e => by subst e; simp [Nat.beq_eq] at hb
      refine ⟨.exit j, v, s1, st1, L, hx1, hg1, hl1, hk1, fun hp => ?_⟩
      obtain ⟨hn1, hs1⟩ := hs1 hp
      refine ⟨hn1, fun g a w rd hr hd hrd hB => wpIn_block (wpIn_mono (hs1 g a w rd hr hd hrd hB) ?_)⟩
      rintro e a' w' ⟨rfl, h⟩
      simp only [exitOf, Exit.inBlock, if_neg hj]; exact ⟨rfl, h⟩

theorem x_loop {rec : Rec} (ih : Sound P B rec) {cx : Cx} {c : Code} {s : Xs} {K : Kt} {st : St} (hx : XR s st)
    (h : rec (.loopR cx c) s K = true) : Goal P B (.code cx (.loop c)) s K st := by
  obtain ⟨x, v, s1, st1, L, hx1, hg1, hl1, hk1, hs1⟩ := ih _ _ _ h st hx
  refine ⟨x, v, s1, st1, L, hx1, hg1, hl1, hk1, fun hp => ?_⟩
  obtain ⟨hn1, hs1⟩ := hs1 hp
  exact ⟨hn1, fun g a w rd hr hd hrd hB => wpLoop_enter (hs1 g a w rd hr hd hrd hB)⟩

theorem x_scope {rec : Rec} (ih : Sound P B rec) {cx : Cx} {c : Code} {s : Xs} {K : Kt} {st : St} (hx : XR s st)
    (h : rec (.code cx c) s K = true) : Goal P B (.code cx (.scope c)) s K st := by
  obtain ⟨x, v, s1, st1, L, hx1, hg1, hl1, hk1, hs1⟩ := ih _ _ _ h st hx
  refine ⟨x, v, s1, st1, L, hx1, hg1, hl1, hk1, fun hp => ?_⟩
  obtain ⟨hn1, hs1⟩ := hs1 hp
  refine ⟨hn1, fun g a w rd hr hd hrd hB => wpIn_sc (wpIn_mono (hs1 g a w rd hr hd hrd hB) ?_)⟩
  rintro e a' w' ⟨rfl, h⟩
  exact ⟨fun l => by cases x <;> simp [exitOf], rfl, h⟩

theorem x_round {rec : Rec} (ih : Sound P B rec) {cx : Cx} {c : Code} {s : Xs} {K : Kt} {st : St} (hx : XR s st)
    (h : rec (.code cx c) s (xagain rec cx c K) = true) : Goal P B (.loopR cx c) s K st := by
  obtain ⟨x, v, s1, st1, L, hx1, hg1, hl1, hk1, hs1⟩ := ih _ _ _ h st hx
  cases x with
  | normal =>
    obtain ⟨x, v, s2, st2, M, hx2, hg2, hl2, hk2, hs2⟩ := ih _ _ _ hk1 st1 hx1
    refine ⟨x, v, s2, st2, M ++ L, hx2, hg1.trans hg2, by rw [hl2, hl1, List.append_assoc], hk2, fun hp => ?_⟩
    obtain ⟨hn1, hs1⟩ := hs1 hp
    obtain ⟨hn2, hs2⟩ := hs2 ⟨hn1.trans hp.1, hp.2⟩
    refine ⟨hn2.trans hn1, fun g a w rd hr hd hrd hB => ?_⟩
    refine wpLoop_round (wpIn_mono (hs1 g a w rd hr hd hrd hB) ?_)
    rintro e a' w' ⟨rfl, g', h2, h3, h4, h5⟩
    exact wpLoop_mono (hs2 g' a' w' rd h2 h3 (hrd.mono h4) (h5.B.trans hB)) fun e a2 w2 hp2 => hp2.from h4 h5
  | ret =>
    refine ⟨.ret, v, s1, st1, L, hx1, hg1, hl1, hk1, fun hp => ?_⟩
    obtain ⟨hn1, hs1⟩ := hs1 hp
    refine ⟨hn1, fun g a w rd hr hd hrd hB => ?_⟩
    refine wpLoop_round (wpIn_mono (hs1 g a w rd hr hd hrd hB) ?_)
    rintro e a' w' ⟨rfl, h⟩
    exact ⟨rfl, h⟩
  | exit id =>
    refine ⟨.exit id, v, s1, st1, L, hx1, hg1, hl1, hk1, fun hp => ?_⟩
    obtain ⟨hn1, hs1⟩ := hs1 hp
    refine ⟨hn1, fun g a w rd hr hd hrd hB => ?_⟩
    refine wpLoop_round (wpIn_mono (hs1 g a w rd hr hd hrd hB) ?_)
    rintro e a' w' ⟨rfl, h⟩
    exact ⟨rfl, h⟩

end
end Go.Ev
