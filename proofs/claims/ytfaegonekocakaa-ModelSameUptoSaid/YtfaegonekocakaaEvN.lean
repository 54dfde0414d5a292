/-
  OWN LAYER 'Ev', PART N: A FUNCTION, FROM ITS CODE.
-/
import Derived.Test.YtfaegonekocakaaEvM
set_option linter.all false
namespace Go.Ev

section
variable {P : Program} {g : Gh} {oh : OH} {w : World}

def rsem (tmps : Array Value) : ResultVar → Sem Value
  | .tmp t => pure (tmps.getD t Go.undef)
  | .cell p t => do loadVar t (← asAddr (tmps.getD p Go.undef))

theorem results_eq (fn : Func) (tmps : Array Value) : results fn tmps = (do let vs ← fn.results.mapM (rsem tmps); pure (if h : vs.size = 1 then vs[0] else .tuple vs)) := by
  unfold results
  congr 1

theorem resV_ok {s : St} {a : Act} {rv : ResultVar} {K : V → Prop} (h : resV P s rv K) (hr : Rel g s a w) :
    ∃ v x, K v ∧ RdV g s.oh v x ∧ (rsem a.tmps rv).run P w = .ok x w := by
  cases rv with
  | tmp t => exact ⟨_, _, h, hr.env t, rfl⟩
  | cell p t =>
    obtain ⟨pre, v, hk, hp, hall⟩ := sload_ok h
    obtain ⟨r, h1, h2⟩ := hall g s.oh w _ hr.hr (hr.env p) hp
    refine ⟨v, r, hk, h2, ?_⟩
    unfold Instr.loadAt Instr.sureAddr at h1
    unfold rsem asAddr
    split at h1
    · rename_i ad had
      simp only [had]
      simpa using h1
    · simp at h1

theorem results_ok {fn : Func} {f : Bool} {r : T} {xx : X} {s : St} {a : Act} {S : Sto} (h : RetOK P fn f r xx s) (hr : Rel g s a w) (hS : Final g s.oh w f S) :
    ∃ v, (results fn a.tmps).run P w = .ok v w ∧ RdT S r v := by
  obtain ⟨_, h⟩ := h
  split at h
  · rename_i hres
    have : fn.results = #[] := by rw [← Array.toArray_toList (xs := fn.results), hres]
    subst h
    exact ⟨.tuple #[], by rw [results_eq, this]; simp, .tup [] #[] rfl (by simp) (by simp)⟩
  · rename_i p hres
    have : fn.results = #[p] := by rw [← Array.toArray_toList (xs := fn.results), hres]
    obtain ⟨v, x, hk, hx, hrun⟩ := resV_ok h hr
    refine ⟨x, ?_, (fzA_ok hr.hr hS hk hx).1⟩
    rw [results_eq, this]
    simp [hrun]
  · rename_i p q hres
    have : fn.results = #[p, q] := by rw [← Array.toArray_toList (xs := fn.results), hres]
    obtain ⟨v, x, h, hx, hrun⟩ := resV_ok h hr
    obtain ⟨u, y, ⟨t1, t2, rfl, h1, h2⟩, hy, hrun2⟩ := resV_ok h hr
    obtain ⟨a1, b1⟩ := fzA_ok hr.hr hS h1 hx
    obtain ⟨a2, b2⟩ := fzA_ok hr.hr hS h2 hy
    refine ⟨.tuple #[x, y], ?_, .tup [t1, t2] #[x, y] rfl (fun j us => ?_) (fun j u c hu hc => ?_)⟩
    · rw [results_eq, this]
      simp [hrun, hrun2]
    · match j with
      | 0 => simpa using b1 us
      | 1 => simpa using b2 us
      | j + 2 => simp
    · match j with
      | 0 => obtain rfl : t1 = u := by simpa using hu
             obtain rfl : x = c := by simpa using hc
             exact a1
      | 1 => obtain rfl : t2 = u := by simpa using hu
             obtain rfl : y = c := by simpa using hc
             exact a2
      | j + 2 => simp at hu
  · rename_i p q q3 hres
    have : fn.results = #[p, q, q3] := by rw [← Array.toArray_toList (xs := fn.results), hres]
    obtain ⟨v, x, h, hx, hrun⟩ := resV_ok h hr
    obtain ⟨u, y, h, hy, hrun2⟩ := resV_ok h hr
    obtain ⟨u3, y3, ⟨t1, t2, t3, rfl, h1, h2, h3⟩, hy3, hrun3⟩ := resV_ok h hr
    obtain ⟨a1, b1⟩ := fzA_ok hr.hr hS h1 hx
    obtain ⟨a2, b2⟩ := fzA_ok hr.hr hS h2 hy
    obtain ⟨a3, b3⟩ := fzA_ok hr.hr hS h3 hy3
    refine ⟨.tuple #[x, y, y3], ?_, .tup [t1, t2, t3] #[x, y, y3] rfl (fun j us => ?_) (fun j u c hu hc => ?_)⟩
    · rw [results_eq, this]
      simp [hrun, hrun2, hrun3]
    · match j with
      | 0 => simpa using b1 us
      | 1 => simpa using b2 us
      | 2 => simpa using b3 us
      | j + 3 => simp
    · match j with
      | 0 => obtain rfl : t1 = u := by simpa using hu
             obtain rfl : x = c := by simpa using hc
             exact a1
      | 1 => obtain rfl : t2 = u := by simpa using hu
             obtain rfl : y = c := by simpa using hc
             exact a2
      | 2 => obtain rfl : t3 = u := by simpa using hu
             obtain rfl : y3 = c := by simpa using hc
             exact a3
      | j + 3 => simp at hu
  · exact h.elim

theorem argEnv_get : ∀ (ts : List T) (i t : Nat), eget (argEnv i ts) t = (match ts[t - i]? with | some x => if i ≤ t then V.ofT false x else .undef | none => .undef)
  | [], i, t => by simp [argEnv, eget]
  | x :: r, i, t => by
    rw [argEnv, eget_cons]
    by_cases h : i = t
    · subst h; simp
    · rw [if_neg h, argEnv_get r (i + 1) t]
      by_cases hlt : i < t
      · have : t - i = (t - (i + 1)) + 1 := by omega
        rw [this, List.getElem?_cons_succ]
        cases r[t - (i + 1)]? with
        | none => rfl
        | some y => simp only [show i + 1 ≤ t by omega, show i ≤ t by omega, if_true]
      · have e1 : t - i = 0 := by omega
        have e2 : t - (i + 1) = 0 := by omega
        rw [e1, e2]
        have h3 : ¬ i ≤ t := by omega
        have h4 : ¬ i + 1 ≤ t := by omega
        cases r[0]? <;> simp [h3, h4]

/-- FROM THE EVALUATION OF ITS CODE TO A FUNCTION'S CONTRACT. -/
theorem ok_of_ev {C : CT} (hC : ∀ q ts r, C q ts r → OkR P q ts r) (hmix : P.follows .mixedOrders = true) {q : FuncId} {fn : Func} {c : Code} {ts : List T} {f : Bool} {r : T}
    (hfn : P.funcs[q]? = some fn) (hname : (fn.name == "runtime.NumGoroutine") = false) (hbody : fn.body = some c) (hok : okB fn.ntmps c = true) (hlen : ts.length ≤ fn.ntmps)
    (h : evC P C c ⟨fn.ntmps, argEnv 0 ts, []⟩ (RetOK P fn f r)) : Ok P q ts f r := by
  refine ⟨⟨fn, hfn, hname, by simp [hbody]⟩, fun S w args hS hargs => ?_⟩
  obtain ⟨hsz, hrd⟩ := hargs
  let g0 : Gh := ⟨S, fun _ _ => none, fun _ => none, fun _ => 0⟩
  have hr0 : Rel g0 ⟨fn.ntmps, argEnv 0 ts, []⟩ { tmps := args ++ Array.replicate (fn.ntmps - args.size) Go.undef, defers := [] } w := by
    refine ⟨⟨hS, by simp [g0], by simp [oget], by simp [oget]⟩, rfl, by simp; omega, fun t => ?_⟩
    rw [argEnv_get]
    cases ht : ts[t - 0]? with
    | none => trivial
    | some x =>
      simp only [Nat.zero_le, if_true]
      have ht' : ts[t]? = some x := ht
      have hlt : t < args.size := by rw [hsz]; exact (List.getElem?_eq_some_iff.1 ht').1
      have hg : (args ++ Array.replicate (fn.ntmps - args.size) Go.undef).getD t Go.undef = args[t] := by
        rw [Array.getD_eq_getD_getElem?, Array.getElem?_append_left hlt]; simp [hlt]
      show RdV g0 [] (V.ofT false x) ((args ++ Array.replicate (fn.ntmps - args.size) Go.undef).getD t Go.undef)
      rw [hg]
      exact ofT_ok (g := g0) (f := false) (hrd t x _ ht' (by simp [hlt]))
  refine calls_of_wp hfn hbody (wp_mono (evC_ok hC hmix c _ _ hok h rfl g0 _ w hr0) fun e a' w' hp => ?_)
  obtain ⟨xx, s', g', rfl, hret, hrel, hfr, _⟩ := hp
  have hnone : ∀ b, ¬ Owned g0 [] b := by rintro b ⟨i, o, ho, _⟩; simp [oget] at ho
  let N : Sto := fun b o => if w.heap.size ≤ b then w'.cell? ⟨b, o, none⟩ else none
  have hN : ∀ b o c, N b o = some c → w.heap.size ≤ b ∧ w'.cell? ⟨b, o, none⟩ = some c := by
    intro b o c hc
    by_cases hb : w.heap.size ≤ b
    · exact ⟨hb, by simpa [N, hb] using hc⟩
    · simp [N, hb] at hc
  have hF : ∀ b o c, g'.F b o = some c → N b o = some c := by
    intro b o c hc
    have hcell := hrel.hr.hG b o c (hrel.hr.hF b o c hc)
    rcases hfr.nF b o c hc with h' | h' | h'
    · simp [g0] at h'
    · exact absurd h' (hnone b)
    · simpa [N, h'] using hcell
  have hown : ∀ b, Owned g' s'.oh b → ∀ o c, w'.cell? ⟨b, o, none⟩ = some c → N b o = some c := by
    intro b hb o c hc
    rcases hfr.own b hb with h' | h'
    · exact absurd h' (hnone b)
    · simpa [N, h'] using hc
  have hSlt : ∀ b o c, S b o = some c → b < w.heap.size := fun b o c hc => lt_of_cell (hS b o c hc)
  have hNun : ∀ b o c, N b o = some c → S.un N b o = some c := by
    intro b o c hc
    unfold Sto.un
    cases hs : S b o with
    | none => exact hc
    | some c' => have := hSlt b o c' hs; have := (hN b o c hc).1; omega
  have hfin : Final g' s'.oh w' f (Sto.pick f S N) := by
    cases f with
    | true => exact ⟨hF, by simp, hown⟩
    | false =>
      refine ⟨fun b o c hc => hNun _ _ _ (hF b o c hc), fun _ b o c hc => ?_, fun b hb o c hc => hNun _ _ _ (hown b hb o c hc)⟩
      rcases hfr.nG b o c hc with h' | h' | h'
      · have h' : S b o = some c := h'
        show S.un N b o = some c
        simp [Sto.un, h']
      · exact absurd h' (hnone b)
      · exact hNun b o c (by simpa [N, h'] using hrel.hr.hG b o c hc)
  obtain ⟨v, hv, hrv⟩ := results_ok hret hrel hfin
  have hbelow : RowKit.Below w.heap.size w w' := ⟨hfr.os, hfr.tape, hfr.output, hfr.size, fun b hb => hfr.keep b hb (hnone b)⟩
  cases xx with
  | exit id => exact hret.1.elim
  | normal => exact ⟨hrel.df, v, hv, v, N, rfl, hbelow, hN, hrv⟩
  | ret => exact ⟨hrel.df, v, hv, v, N, rfl, hbelow, hN, hrv⟩

/-! ### a function that hands back objects of its own -/
/-- a cell, its objects under other numbers, not yet moved -/
inductive RenC (m : Nat → Nat) (oh oh1 : OH) : V → V → Prop
  | con (v : Value) : RenC m oh oh1 (.con v) (.con v)
  | ro (f : Bool) (t : T) : RenC m oh oh1 (.ro f t) (.ro f t)
  | emp : RenC m oh oh1 .emp .emp
  | own (id ver off len : Nat) (o : Obj) (ho : oget oh (m id) = some o) (hv : o.ver = ver) (h1 : (oget oh1 id).isSome = true) : RenC m oh oh1 (.own (m id) ver off len) (.own id 0 off len)
  | ref (id ver i foff : Nat) (o : Obj) (ho : oget oh (m id) = some o) (hv : o.ver = ver) (h1 : (oget oh1 id).isSome = true) : RenC m oh oh1 (.ref (m id) ver i foff) (.ref id 0 i foff)

def RenA (m : Nat → Nat) (oh oh1 : OH) (v v1 : V) : Prop :=
  match v1 with
  | .agg l1 => (match v with | .agg l => l.length = l1.length ∧ ∀ (j : Nat) (a b : V), l[j]? = some a → l1[j]? = some b → RenC m oh oh1 a b | _ => False)
  | v1 => RenC m oh oh1 v v1

structure Ren (oh oh1 : OH) (m : Nat → Nat) : Prop where
  inj : ∀ i j o1 o2, oget oh1 i = some o1 → oget oh1 j = some o2 → m i = m j → i = j
  obj : ∀ i o1, oget oh1 i = some o1 → ∃ o, oget oh (m i) = some o ∧ o.live = true ∧ o1.live = true ∧ o1.ver = 0 ∧ o1.sz = o.sz ∧ o1.el.length = o.el.length ∧
    ∀ (k : Nat) (e e1 : V), o.el[k]? = some e → o1.el[k]? = some e1 → RenA m oh oh1 e e1

def Gh.ren (g : Gh) (oh1 : OH) (m : Nat → Nat) : Gh := ⟨g.G, g.F, fun i => if (oget oh1 i).isSome = true then g.m (m i) else none, fun i => g.cp (m i)⟩

section
variable {oh1 : OH} {m : Nat → Nat}

theorem renC_ok (hn : Ren oh oh1 m) {v v1 : V} (h : RenC m oh oh1 v v1) {x : Value} (hx : RdV1 g oh v x) : RdV1 (g.ren oh1 m) oh1 v1 x := by
  cases h with
  | con v => exact hx
  | ro f t => exact ⟨by cases f <;> exact hx.1, hx.2⟩
  | emp => exact hx
  | own id ver off len o ho hv h1 =>
    obtain ⟨o1, ho1⟩ := Option.isSome_iff_exists.1 h1
    obtain ⟨o', ho', l0, l1, e1, e2, e3, _⟩ := hn.obj id o1 ho1
    rw [ho] at ho'
    obtain rfl : o = o' := by simpa using ho'
    obtain ⟨x1, o2, ho2, _, hat⟩ := hx
    rw [ho] at ho2
    obtain rfl : o = o2 := by simpa using ho2
    obtain ⟨ad, cap, p1, p2, p3, p4⟩ := hat hv l0
    refine ⟨x1, o1, ho1, by omega, fun _ _ => ⟨ad, cap, p1, p2, by omega, fun hcap => ?_⟩⟩
    obtain ⟨b, b1, b2, b3⟩ := p4 hcap
    exact ⟨b, by simp [Gh.ren, h1, b1], by rw [e2]; exact b2, b3⟩
  | ref id ver i foff o ho hv h1 =>
    obtain ⟨o1, ho1⟩ := Option.isSome_iff_exists.1 h1
    obtain ⟨o', ho', l0, l1, e1, e2, e3, _⟩ := hn.obj id o1 ho1
    rw [ho] at ho'
    obtain rfl : o = o' := by simpa using ho'
    obtain ⟨x1, o2, ho2, _, hat⟩ := hx
    rw [ho] at ho2
    obtain rfl : o = o2 := by simpa using ho2
    obtain ⟨b, b1, b2⟩ := hat hv l0
    exact ⟨x1, o1, ho1, by omega, fun _ _ => ⟨b, by simp [Gh.ren, h1, b1], by rw [e2]; exact b2⟩⟩

theorem renC_one {v v1 : V} (h : RenC m oh oh1 v v1) : v.cells = [v] ∧ v1.cells = [v1] := by cases h <;> exact ⟨rfl, rfl⟩

theorem renA_ok (hn : Ren oh oh1 m) {v v1 : V} (h : RenA m oh oh1 v v1) {x : Value} (hx : RdV g oh v x) : RdA (g.ren oh1 m) oh1 v1 x := by
  have one : ∀ v1, RenC m oh oh1 v v1 → RdV1 (g.ren oh1 m) oh1 v1 x := by
    intro v1 hc
    refine renC_ok hn hc ?_
    cases hc <;> exact hx
  cases v1 with
  | agg l1 =>
    cases v with
    | agg l =>
      obtain ⟨hl, hr⟩ := h
      obtain ⟨cs, rfl, hcl, hc⟩ := hx
      refine ⟨cs, rfl, by omega, fun j u c hu hcj => ?_⟩
      have hj : j < l.length := by rw [hl]; exact (List.getElem?_eq_some_iff.1 hu).1
      obtain ⟨r1, r2⟩ := hc j l[j] c (by simp [hj]) hcj
      exact ⟨renC_ok hn (hr j l[j] u (by simp [hj]) hu) r1, r2⟩
    | _ => exact h.elim
  | undef => cases h
  | tup l => cases h
  | con q => exact one _ h
  | ro f t => exact one _ h
  | emp => exact one _ h
  | own q1 q2 q3 q4 => exact one _ h
  | ref q1 q2 q3 q4 => exact one _ h

theorem rdA_notup {v : V} {x : Value} (hv : ∀ l, v ≠ .undef ∧ v ≠ .tup l) (h : RdA g oh v x) : ∀ us, x ≠ .tuple us := by
  intro us e
  subst e
  cases v with
  | undef => exact (hv []).1 rfl
  | tup l => exact (hv l).2 rfl
  | agg l => obtain ⟨cs, h, _⟩ := h; cases h
  | con q => obtain ⟨h, h1⟩ := h; rw [← h] at h1; simp [Value.oneCell'] at h1
  | ro f t => have := h.2; simp [Value.oneCell'] at this
  | emp => obtain ⟨a, h⟩ := h; cases h
  | own q1 q2 q3 q4 => have := h.1; simp [Value.oneCell'] at this
  | ref q1 q2 q3 q4 => have := h.1; simp [Value.oneCell'] at this

theorem ren_hr (hn : Ren oh oh1 m) (h : HR g oh w) : HR (g.ren oh1 m) oh1 w ∧ ∀ b, Owned (g.ren oh1 m) oh1 b → Owned g oh b := by
  have hm : ∀ i o1, oget oh1 i = some o1 → (g.ren oh1 m).m i = g.m (m i) := fun i o1 h => by simp [Gh.ren, h]
  refine ⟨⟨h.hG, h.hF, fun i o1 ho1 hl1 => ?_, fun i j oi oj b hi hj hli hlj hmi hmj => ?_⟩, ?_⟩
  · obtain ⟨o, ho, l0, l1, e1, e2, e3, hels⟩ := hn.obj i o1 ho1
    obtain ⟨h1, h2⟩ := h.obj (m i) o ho l0
    refine ⟨fun hmn => ?_, fun b hb => ?_⟩
    · rw [hm i o1 ho1] at hmn
      exact List.eq_nil_of_length_eq_zero (by rw [e3, h1 hmn]; rfl)
    · rw [hm i o1 ho1] at hb
      obtain ⟨arr, ty, hh, hg, hba⟩ := h2 b hb
      refine ⟨arr, ty, hh, hg, by rw [e2]; exact hba.1, by rw [e3]; exact hba.2.1, hba.2.2.1, fun k e' he => ?_⟩
      have hk : k < o.el.length := by rw [← e3]; exact (List.getElem?_eq_some_iff.1 he).1
      have hra := hels k o.el[k] e' (by simp [hk]) he
      obtain ⟨q1, q2⟩ := hba.2.2.2 k o.el[k] (by simp [hk])
      rw [e2]
      have key : e'.cells.length = o.el[k].cells.length ∧ ∀ (j : Nat) (a b : V), o.el[k].cells[j]? = some a → e'.cells[j]? = some b → RenC m oh oh1 a b := by
        have one : ∀ v1, RenC m oh oh1 o.el[k] v1 → v1.cells.length = o.el[k].cells.length ∧ ∀ (j : Nat) (a b : V), o.el[k].cells[j]? = some a → v1.cells[j]? = some b → RenC m oh oh1 a b := by
          intro v1 hc
          obtain ⟨z1, z2⟩ := renC_one hc
          rw [z1, z2]
          refine ⟨rfl, fun j a b ha hb => ?_⟩
          cases j with
          | zero =>
            simp at ha hb
            subst ha; subst hb; exact hc
          | succ j => simp at ha
        revert hra one
        generalize o.el[k] = e0
        intro hra one
        cases e' with
        | agg l1 =>
          cases e0 with
          | agg l => exact ⟨hra.1.symm, hra.2⟩
          | _ => exact hra.elim
        | undef => cases hra
        | tup l => cases hra
        | con q => exact one _ hra
        | ro f t => exact one _ hra
        | emp => exact one _ hra
        | own q1 q2 q3 q4 => exact one _ hra
        | ref q1 q2 q3 q4 => exact one _ hra
      refine ⟨by rw [key.1]; exact q1, fun j v hv => ?_⟩
      have hj : j < o.el[k].cells.length := by rw [← key.1]; exact (List.getElem?_eq_some_iff.1 hv).1
      obtain ⟨c, c1, c2, c3⟩ := q2 j o.el[k].cells[j] (by simp [hj])
      exact ⟨c, c1, c2, renC_ok hn (key.2 j _ v (by simp [hj]) hv) c3⟩
  · rw [hm i oi hi] at hmi
    rw [hm j oj hj] at hmj
    obtain ⟨o, ho, l0, _⟩ := hn.obj i oi hi
    obtain ⟨o', ho', l0', _⟩ := hn.obj j oj hj
    exact hn.inj i j oi oj hi hj (h.inj (m i) (m j) o o' b ho ho' l0 l0' hmi hmj)
  · rintro b ⟨i, o1, ho1, hl1, hmi⟩
    rw [hm i o1 ho1] at hmi
    obtain ⟨o, ho, l0, _⟩ := hn.obj i o1 ho1
    exact ⟨m i, o, ho, l0, hmi⟩
end

/-- a function's end: what it hands back lies in objects 'oh1' -/
def RetO (P : Program) (fn : Func) (oh1 : OH) (r : V) (x : X) (s : St) : Prop :=
  (match x with | .exit _ => False | _ => True) ∧
  ∃ (fz : Bool) (s1 : St) (m : Nat → Nat), (match fz with | false => s1 = s | true => Lf s1 s) ∧ Ren s1.oh oh1 m ∧
  (match fn.results.toList with
   | [a] => resV P s1 a fun v => RenA m s1.oh oh1 v r
   | [a, b] => resV P s1 a fun v => resV P s1 b fun u => ∃ r1 r2, r = .tup [r1, r2] ∧ RenA m s1.oh oh1 v r1 ∧ RenA m s1.oh oh1 u r2
   | _ => False)

theorem resultsO_ok {fn : Func} {oh1 : OH} {r : V} {s1 : St} {m : Nat → Nat} {a : Act} (hn : Ren s1.oh oh1 m) (hr : Rel g s1 a w)
    (h : match fn.results.toList with
   | [a] => resV P s1 a fun v => RenA m s1.oh oh1 v r
   | [a, b] => resV P s1 a fun v => resV P s1 b fun u => ∃ r1 r2, r = .tup [r1, r2] ∧ RenA m s1.oh oh1 v r1 ∧ RenA m s1.oh oh1 u r2
   | _ => False) :
    ∃ v, (results fn a.tmps).run P w = .ok v w ∧ RdV (g.ren oh1 m) oh1 r v := by
  split at h
  · rename_i p hres
    have : fn.results = #[p] := by rw [← Array.toArray_toList (xs := fn.results), hres]
    obtain ⟨v, x, hk, hx, hrun⟩ := resV_ok h hr
    refine ⟨x, by rw [results_eq, this]; simp [hrun], ?_⟩
    have := renA_ok hn hk hx
    cases r with
    | tup l => cases hk
    | _ => exact this
  · rename_i p q hres
    have : fn.results = #[p, q] := by rw [← Array.toArray_toList (xs := fn.results), hres]
    obtain ⟨v, x, h, hx, hrun⟩ := resV_ok h hr
    obtain ⟨u, y, ⟨t1, t2, rfl, h1, h2⟩, hy, hrun2⟩ := resV_ok h hr
    refine ⟨.tuple #[x, y], by rw [results_eq, this]; simp [hrun, hrun2], #[x, y], rfl, rfl, fun j v c hv hc => ?_⟩
    match j with
    | 0 => obtain rfl : t1 = v := by simpa using hv
           obtain rfl : x = c := by simpa using hc
           exact renA_ok hn h1 hx
    | 1 => obtain rfl : t2 = v := by simpa using hv
           obtain rfl : y = c := by simpa using hc
           exact renA_ok hn h2 hy
    | j + 2 => simp at hv
  · exact h.elim

theorem oko_of_ev {C : CT} (hC : ∀ q ts r, C q ts r → OkR P q ts r) (hmix : P.follows .mixedOrders = true) {q : FuncId} {fn : Func} {c : Code} {ts : List T} {oh1 : OH} {r : V}
    (hfn : P.funcs[q]? = some fn) (hname : (fn.name == "runtime.NumGoroutine") = false) (hbody : fn.body = some c) (hok : okB fn.ntmps c = true) (hlen : ts.length ≤ fn.ntmps)
    (h : evC P C c ⟨fn.ntmps, argEnv 0 ts, []⟩ (RetO P fn oh1 r)) : OkO P q ts oh1 r := by
  refine ⟨⟨fn, hfn, hname, by simp [hbody]⟩, fun S w args hS hargs => ?_⟩
  obtain ⟨hsz, hrd⟩ := hargs
  let g0 : Gh := ⟨S, fun _ _ => none, fun _ => none, fun _ => 0⟩
  have hr0 : Rel g0 ⟨fn.ntmps, argEnv 0 ts, []⟩ { tmps := args ++ Array.replicate (fn.ntmps - args.size) Go.undef, defers := [] } w := by
    refine ⟨⟨hS, by simp [g0], by simp [oget], by simp [oget]⟩, rfl, by simp; omega, fun t => ?_⟩
    rw [argEnv_get]
    cases ht : ts[t - 0]? with
    | none => trivial
    | some x =>
      simp only [Nat.zero_le, if_true]
      have ht' : ts[t]? = some x := ht
      have hlt : t < args.size := by rw [hsz]; exact (List.getElem?_eq_some_iff.1 ht').1
      have hg : (args ++ Array.replicate (fn.ntmps - args.size) Go.undef).getD t Go.undef = args[t] := by
        rw [Array.getD_eq_getD_getElem?, Array.getElem?_append_left hlt]; simp [hlt]
      show RdV g0 [] (V.ofT false x) ((args ++ Array.replicate (fn.ntmps - args.size) Go.undef).getD t Go.undef)
      rw [hg]
      exact ofT_ok (g := g0) (f := false) (hrd t x _ ht' (by simp [hlt]))
  refine calls_of_wp hfn hbody (wp_mono (evC_ok hC hmix c _ _ hok h rfl g0 _ w hr0) fun e a' w' hp => ?_)
  obtain ⟨xx, s', g', rfl, hret, hrel, hfr, _⟩ := hp
  obtain ⟨hx, fz, s1, m, hle, hn, hres⟩ := hret
  have hnone : ∀ b, ¬ Owned g0 [] b := by rintro b ⟨i, o, ho, _⟩; simp [oget] at ho
  have hbelow : RowKit.Below w.heap.size w w' := ⟨hfr.os, hfr.tape, hfr.output, hfr.size, fun b hb => hfr.keep b hb (hnone b)⟩
  obtain ⟨g1, hrel1, hfr1⟩ : ∃ g1, Rel g1 s1 a' w' ∧ Fr g0 [] w g1 s1.oh w' := by
    cases fz with
    | false => obtain rfl : s1 = s' := hle; exact ⟨g', hrel, hfr⟩
    | true => obtain ⟨h1, h2⟩ := hrel.lf hle; exact ⟨_, h1, hfr.trans h2⟩
  obtain ⟨v, hv, hrv⟩ := resultsO_ok hn hrel1 hres
  obtain ⟨hhr, hown⟩ := ren_hr hn hrel1.hr
  have fin : ∃ x gn, (Ending.returned v : Ending) = .returned x ∧ RowKit.Below w.heap.size w w' ∧ HR gn oh1 w' ∧ RdV gn oh1 r x ∧
      (∀ b o c, gn.G b o = some c → S b o = some c ∨ w.heap.size ≤ b) ∧ (∀ b o c, gn.F b o = some c → w.heap.size ≤ b) ∧ (∀ b, Owned gn oh1 b → w.heap.size ≤ b) := by
    refine ⟨v, _, rfl, hbelow, hhr, hrv, fun b o c hc => ?_, fun b o c hc => ?_, fun b hb => ?_⟩
    · rcases hfr1.nG b o c hc with h' | h' | h'
      · exact .inl h'
      · exact absurd h' (hnone b)
      · exact .inr h'
    · rcases hfr1.nF b o c hc with h' | h' | h'
      · simp [g0] at h'
      · exact absurd h' (hnone b)
      · exact h'
    · rcases hfr1.own b (hown b hb) with h' | h'
      · exact absurd h' (hnone b)
      · exact h'
  cases xx with
  | exit id => exact hx.elim
  | normal => exact ⟨hrel.df, v, hv, fin⟩
  | ret => exact ⟨hrel.df, v, hv, fin⟩

end
end Go.Ev
