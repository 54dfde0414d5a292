import Derived.Test.YtekgeekghclfaaaGreatLc
set_option linter.all false
namespace Go.Ev
section
variable {P : Program} {γ : Nat → Option Value} {g : Gh} {oh : OH} {w : World}
def rsem (tmps : Array Value) : ResultVar → Sem Value
  | .tmp t => pure (tmps.getD t Go.undef)
  | .cell p t => do loadVar t (← asAddr (tmps.getD p Go.undef))
theorem results_eq (fn : Func) (tmps : Array Value) : results fn tmps = (do let vs ← fn.results.mapM (rsem tmps); pure (if h : vs.size = 1 then vs[0] else .tuple vs)) := by
  unfold results
  congr 1
theorem resV_ok {s : St} {a : Act} {rv : ResultVar} {K : V → Prop} (h : resV P s rv K) (hr : Rel γ g s a w) :
    ∃ v x, K v ∧ RdV g s.oh v x ∧ (rsem a.tmps rv).run P w = .ok x w := by
  cases rv with
  | tmp t => exact ⟨_, _, h, hr.env t, rfl⟩
  | cell p t =>
    obtain ⟨pre, v, hk, hp, hall⟩ := sload_ok h
    obtain ⟨r, h1, h2⟩ := hall g s.oh w _ hr.hr (hr.env p) hp
    refine ⟨v, r, hk, h2, ?_⟩
    unfold Instr.loadAt Instr.sureAddr at h1
    unfold rsem asAddr
    split at h1
    · rename_i ad had
      simp only [had]
      simpa using h1
    · simp at h1
theorem results_ok {fn : Func} {f : Bool} {r : T} {xx : X} {s : St} {a : Act} {S : Sto} (h : RetOK P fn f r xx s) (hr : Rel γ g s a w) (hS : Final g s.oh w f S) :
    ∃ v, (results fn a.tmps).run P w = .ok v w ∧ RdT S r v := by
  obtain ⟨_, h⟩ := h
  split at h
  · rename_i hres
    have : fn.results = #[] := by rw [← Array.toArray_toList (xs := fn.results), hres]
    subst h
    exact ⟨.tuple #[], by rw [results_eq, this]; simp, .tup [] #[] rfl (by simp) (by simp)⟩
  · rename_i p hres
    have : fn.results = #[p] := by rw [← Array.toArray_toList (xs := fn.results), hres]
    obtain ⟨v, x, hk, hx, hrun⟩ := resV_ok h hr
    refine ⟨x, ?_, (fzA_ok hr.hr hS hk hx).1⟩
    rw [results_eq, this]
    simp [hrun]
  · rename_i p q hres
    have : fn.results = #[p, q] := by rw [← Array.toArray_toList (xs := fn.results), hres]
    obtain ⟨v, x, h, hx, hrun⟩ := resV_ok h hr
    obtain ⟨u, y, ⟨t1, t2, rfl, h1, h2⟩, hy, hrun2⟩ := resV_ok h hr
    obtain ⟨a1, b1⟩ := fzA_ok hr.hr hS h1 hx
    obtain ⟨a2, b2⟩ := fzA_ok hr.hr hS h2 hy
    refine ⟨.tuple #[x, y], ?_, .tup [t1, t2] #[x, y] rfl (fun j us => ?_) (fun j u c hu hc => ?_)⟩
    · rw [results_eq, this]
      simp [hrun, hrun2]
    · match j with
      | 0 => simpa using b1 us
      | 1 => simpa using b2 us
      | j + 2 => simp
    · match j with
      | 0 => obtain rfl : t1 = u := by simpa using hu
             obtain rfl : x = c := by simpa using hc
             exact a1
      | 1 => obtain rfl : t2 = u := by simpa using hu
             obtain rfl : y = c := by simpa using hc
             exact a2
      | j + 2 => simp at hu
  · rename_i p q q3 hres
    have : fn.results = #[p, q, q3] := by rw [← Array.toArray_toList (xs := fn.results), hres]
    obtain ⟨v, x, h, hx, hrun⟩ := resV_ok h hr
    obtain ⟨u, y, h, hy, hrun2⟩ := resV_ok h hr
    obtain ⟨u3, y3, ⟨t1, t2, t3, rfl, h1, h2, h3⟩, hy3, hrun3⟩ := resV_ok h hr
    obtain ⟨a1, b1⟩ := fzA_ok hr.hr hS h1 hx
    obtain ⟨a2, b2⟩ := fzA_ok hr.hr hS h2 hy
    obtain ⟨a3, b3⟩ := fzA_ok hr.hr hS h3 hy3
    refine ⟨.tuple #[x, y, y3], ?_, .tup [t1, t2, t3] #[x, y, y3] rfl (fun j us => ?_) (fun j u c hu hc => ?_)⟩
    · rw [results_eq, this]
      simp [hrun, hrun2, hrun3]
    · match j with
      | 0 => simpa using b1 us
      | 1 => simpa using b2 us
      | 2 => simpa using b3 us
      | j + 3 => simp
    · match j with
      | 0 => obtain rfl : t1 = u := by simpa using hu
             obtain rfl : x = c := by simpa using hc
             exact a1
      | 1 => obtain rfl : t2 = u := by simpa using hu
             obtain rfl : y = c := by simpa using hc
             exact a2
      | 2 => obtain rfl : t3 = u := by simpa using hu
             obtain rfl : y3 = c := by simpa using hc
             exact a3
      | j + 3 => simp at hu
  · exact h.elim
theorem argEnv_get : ∀ (ts : List T) (i t : Nat), eget (argEnv i ts) t = (match ts[t - i]? with | some x => if i ≤ t then V.ofT false x else .undef | none => .undef)
  | [], i, t => by simp [argEnv, eget]
  | x :: r, i, t => by
    rw [argEnv, eget_cons]
    by_cases h : i = t
    · subst h; simp
    · rw [if_neg h, argEnv_get r (i + 1) t]
      by_cases hlt : i < t
      · have : t - i = (t - (i + 1)) + 1 := by omega
        rw [this, List.getElem?_cons_succ]
        cases r[t - (i + 1)]? with
        | none => rfl
        | some y => simp only [show i + 1 ≤ t by omega, show i ≤ t by omega, if_true]
      · have e1 : t - i = 0 := by omega
        have e2 : t - (i + 1) = 0 := by omega
        rw [e1, e2]
        have h3 : ¬ i ≤ t := by omega
        have h4 : ¬ i + 1 ≤ t := by omega
        cases r[0]? <;> simp [h3, h4]
theorem ok_of_ev {C : CT} (hC : ∀ q ts r, C q ts r → OkR P q ts r) (hmix : P.follows .mixedOrders = true) {q : FuncId} {fn : Func} {c : Code} {ts : List T} {f : Bool} {r : T}
    (hfn : P.funcs[q]? = some fn) (hname : (fn.name == "runtime.NumGoroutine") = false) (hbody : fn.body = some c) (hok : okB fn.ntmps c = true) (hlen : ts.length ≤ fn.ntmps)
    (h : evC P C c ⟨fn.ntmps, argEnv 0 ts, []⟩ (RetOK P fn f r)) : Ok P q ts f r := by
  refine ⟨⟨fn, hfn, hname, by simp [hbody]⟩, fun S w args hS hargs => ?_⟩
  obtain ⟨hsz, hrd⟩ := hargs
  let g0 : Gh := ⟨S, fun _ _ => none, fun _ => none, fun _ => 0⟩
  have hr0 : Rel (fun _ => none) g0 ⟨fn.ntmps, argEnv 0 ts, []⟩ { tmps := args ++ Array.replicate (fn.ntmps - args.size) Go.undef, defers := [] } w := by
    refine ⟨⟨hS, by simp [g0], by simp [oget], by simp [oget], MpOK.none oget_nil_live⟩, rfl, by simp; omega, fun t => ?_, fun t v h => by cases h⟩
    rw [argEnv_get]
    cases ht : ts[t - 0]? with
    | none => trivial
    | some x =>
      simp only [Nat.zero_le, if_true]
      have ht' : ts[t]? = some x := ht
      have hlt : t < args.size := by rw [hsz]; exact (List.getElem?_eq_some_iff.1 ht').1
      have hg : (args ++ Array.replicate (fn.ntmps - args.size) Go.undef).getD t Go.undef = args[t] := by
        rw [Array.getD_eq_getD_getElem?, Array.getElem?_append_left hlt]; simp [hlt]
      show RdV g0 [] (V.ofT false x) ((args ++ Array.replicate (fn.ntmps - args.size) Go.undef).getD t Go.undef)
      rw [hg]
      exact ofT_ok (g := g0) (f := false) (hrd t x _ ht' (by simp [hlt]))
  refine calls_of_wp hfn hbody (wp_mono (evC_ok (γ := fun _ => none) (np := 0) hC hmix (fun _ _ => rfl) c _ _ hok (parB_zero c) h rfl g0 _ w hr0) fun e a' w' hp => ?_)
  obtain ⟨xx, s', g', rfl, hret, hrel, hfr, _⟩ := hp
  have hnone : ∀ b, ¬ Owned g0 [] b := by rintro b ⟨i, o, ho, _⟩; simp [oget] at ho
  let N : Sto := fun b o => if w.heap.size ≤ b then w'.cell? ⟨b, o, none⟩ else none
  have hN : ∀ b o c, N b o = some c → w.heap.size ≤ b ∧ w'.cell? ⟨b, o, none⟩ = some c := by
    intro b o c hc
    by_cases hb : w.heap.size ≤ b
    · exact ⟨hb, by simpa [N, hb] using hc⟩
    · simp [N, hb] at hc
  have hF : ∀ b o c, g'.F b o = some c → N b o = some c := by
    intro b o c hc
    have hcell := hrel.hr.hG b o c (hrel.hr.hF b o c hc)
    rcases hfr.nF b o c hc with h' | h' | h'
    · simp [g0] at h'
    · exact absurd h' (hnone b)
    · simpa [N, h'] using hcell
  have hown : ∀ b, Owned g' s'.oh b → ∀ o c, w'.cell? ⟨b, o, none⟩ = some c → N b o = some c := by
    intro b hb o c hc
    rcases hfr.own b hb with h' | h'
    · exact absurd h' (hnone b)
    · simpa [N, h'] using hc
  have hSlt : ∀ b o c, S b o = some c → b < w.heap.size := fun b o c hc => lt_of_cell (hS b o c hc)
  have hNun : ∀ b o c, N b o = some c → S.un N b o = some c := by
    intro b o c hc
    unfold Sto.un
    cases hs : S b o with
    | none => exact hc
    | some c' => have := hSlt b o c' hs; have := (hN b o c hc).1; omega
  have hfin : Final g' s'.oh w' f (Sto.pick f S N) := by
    cases f with
    | true => exact ⟨hF, by simp, hown⟩
    | false =>
      refine ⟨fun b o c hc => hNun _ _ _ (hF b o c hc), fun _ b o c hc => ?_, fun b hb o c hc => hNun _ _ _ (hown b hb o c hc)⟩
      rcases hfr.nG b o c hc with h' | h' | h'
      · have h' : S b o = some c := h'
        show S.un N b o = some c
        simp [Sto.un, h']
      · exact absurd h' (hnone b)
      · exact hNun b o c (by simpa [N, h'] using hrel.hr.hG b o c hc)
  obtain ⟨v, hv, hrv⟩ := results_ok hret hrel hfin
  have hbelow : RowKit.Below w.heap.size w w' := ⟨hfr.os, hfr.tape, hfr.output, hfr.size, fun b hb => hfr.keep b hb (hnone b) (MpB.none oget_nil_live)⟩
  cases xx with
  | exit id => exact hret.1.elim
  | normal => exact ⟨hrel.df, v, hv, v, N, rfl, hbelow, hN, hrv⟩
  | ret => exact ⟨hrel.df, v, hv, v, N, rfl, hbelow, hN, hrv⟩
def RetO (P : Program) (fn : Func) (oh1 : OH) (r : V) (x : X) (s : St) : Prop :=
  (match x with | .exit _ => False | _ => True) ∧
  ∃ (fz : Bool) (s1 : St) (m : Nat → Nat), (match fz with | false => s1 = s | true => Lf s1 s) ∧ Ren s1.oh oh1 m ∧
  (match fn.results.toList with
   | [a] => resV P s1 a fun v => RenA m s1.oh oh1 v r
   | [a, b] => resV P s1 a fun v => resV P s1 b fun u => ∃ r1 r2, r = .tup [r1, r2] ∧ RenA m s1.oh oh1 v r1 ∧ RenA m s1.oh oh1 u r2
   | [a, b, c] => resV P s1 a fun v => resV P s1 b fun u => resV P s1 c fun x => ∃ r1 r2 r3, r = .tup [r1, r2, r3] ∧ RenA m s1.oh oh1 v r1 ∧ RenA m s1.oh oh1 u r2 ∧ RenA m s1.oh oh1 x r3
   | _ => False)
theorem resultsO_ok {fn : Func} {oh1 : OH} {r : V} {s1 : St} {m : Nat → Nat} {a : Act} (hn : Ren s1.oh oh1 m) (hr : Rel γ g s1 a w)
    (h : match fn.results.toList with
   | [a] => resV P s1 a fun v => RenA m s1.oh oh1 v r
   | [a, b] => resV P s1 a fun v => resV P s1 b fun u => ∃ r1 r2, r = .tup [r1, r2] ∧ RenA m s1.oh oh1 v r1 ∧ RenA m s1.oh oh1 u r2
   | [a, b, c] => resV P s1 a fun v => resV P s1 b fun u => resV P s1 c fun x => ∃ r1 r2 r3, r = .tup [r1, r2, r3] ∧ RenA m s1.oh oh1 v r1 ∧ RenA m s1.oh oh1 u r2 ∧ RenA m s1.oh oh1 x r3
   | _ => False) :
    ∃ v, (results fn a.tmps).run P w = .ok v w ∧ RdV (g.ren oh1 m) oh1 r v := by
  split at h
  · rename_i p hres
    have : fn.results = #[p] := by rw [← Array.toArray_toList (xs := fn.results), hres]
    obtain ⟨v, x, hk, hx, hrun⟩ := resV_ok h hr
    refine ⟨x, by rw [results_eq, this]; simp [hrun], ?_⟩
    have := renA_ok hn hk hx
    cases r with
    | tup l => cases hk
    | _ => exact this
  · rename_i p q hres
    have : fn.results = #[p, q] := by rw [← Array.toArray_toList (xs := fn.results), hres]
    obtain ⟨v, x, h, hx, hrun⟩ := resV_ok h hr
    obtain ⟨u, y, ⟨t1, t2, rfl, h1, h2⟩, hy, hrun2⟩ := resV_ok h hr
    refine ⟨.tuple #[x, y], by rw [results_eq, this]; simp [hrun, hrun2], #[x, y], rfl, rfl, fun j v c hv hc => ?_⟩
    match j with
    | 0 => obtain rfl : t1 = v := by simpa using hv
           obtain rfl : x = c := by simpa using hc
           exact renA_ok hn h1 hx
    | 1 => obtain rfl : t2 = v := by simpa using hv
           obtain rfl : y = c := by simpa using hc
           exact renA_ok hn h2 hy
    | j + 2 => simp at hv
  · rename_i p q k hres
    have : fn.results = #[p, q, k] := by rw [← Array.toArray_toList (xs := fn.results), hres]
    obtain ⟨v, x, h, hx, hrun⟩ := resV_ok h hr
    obtain ⟨u, y, h, hy, hrun2⟩ := resV_ok h hr
    obtain ⟨u2, z, ⟨t1, t2, t3, rfl, h1, h2, h3⟩, hz, hrun3⟩ := resV_ok h hr
    refine ⟨.tuple #[x, y, z], by rw [results_eq, this]; simp [hrun, hrun2, hrun3], #[x, y, z], rfl, rfl, fun j v c hv hc => ?_⟩
    match j with
    | 0 => obtain rfl : t1 = v := by simpa using hv
           obtain rfl : x = c := by simpa using hc
           exact renA_ok hn h1 hx
    | 1 => obtain rfl : t2 = v := by simpa using hv
           obtain rfl : y = c := by simpa using hc
           exact renA_ok hn h2 hy
    | 2 => obtain rfl : t3 = v := by simpa using hv
           obtain rfl : z = c := by simpa using hc
           exact renA_ok hn h3 hz
    | j + 3 => simp at hv
  · exact h.elim
theorem oko_of_ev {C : CT} (hC : ∀ q ts r, C q ts r → OkR P q ts r) (hmix : P.follows .mixedOrders = true) {q : FuncId} {fn : Func} {c : Code} {ts : List T} {oh1 : OH} {r : V}
    (hfn : P.funcs[q]? = some fn) (hname : (fn.name == "runtime.NumGoroutine") = false) (hbody : fn.body = some c) (hok : okB fn.ntmps c = true) (hlen : ts.length ≤ fn.ntmps)
    (h : evC P C c ⟨fn.ntmps, argEnv 0 ts, []⟩ (RetO P fn oh1 r)) : OkO P q ts oh1 r := by
  refine ⟨⟨fn, hfn, hname, by simp [hbody]⟩, fun S w args hS hargs => ?_⟩
  obtain ⟨hsz, hrd⟩ := hargs
  let g0 : Gh := ⟨S, fun _ _ => none, fun _ => none, fun _ => 0⟩
  have hr0 : Rel (fun _ => none) g0 ⟨fn.ntmps, argEnv 0 ts, []⟩ { tmps := args ++ Array.replicate (fn.ntmps - args.size) Go.undef, defers := [] } w := by
    refine ⟨⟨hS, by simp [g0], by simp [oget], by simp [oget], MpOK.none oget_nil_live⟩, rfl, by simp; omega, fun t => ?_, fun t v h => by cases h⟩
    rw [argEnv_get]
    cases ht : ts[t - 0]? with
    | none => trivial
    | some x =>
      simp only [Nat.zero_le, if_true]
      have ht' : ts[t]? = some x := ht
      have hlt : t < args.size := by rw [hsz]; exact (List.getElem?_eq_some_iff.1 ht').1
      have hg : (args ++ Array.replicate (fn.ntmps - args.size) Go.undef).getD t Go.undef = args[t] := by
        rw [Array.getD_eq_getD_getElem?, Array.getElem?_append_left hlt]; simp [hlt]
      show RdV g0 [] (V.ofT false x) ((args ++ Array.replicate (fn.ntmps - args.size) Go.undef).getD t Go.undef)
      rw [hg]
      exact ofT_ok (g := g0) (f := false) (hrd t x _ ht' (by simp [hlt]))
  refine calls_of_wp hfn hbody (wp_mono (evC_ok (γ := fun _ => none) (np := 0) hC hmix (fun _ _ => rfl) c _ _ hok (parB_zero c) h rfl g0 _ w hr0) fun e a' w' hp => ?_)
  obtain ⟨xx, s', g', rfl, hret, hrel, hfr, _⟩ := hp
  obtain ⟨hx, fz, s1, m, hle, hn, hres⟩ := hret
  have hnone : ∀ b, ¬ Owned g0 [] b := by rintro b ⟨i, o, ho, _⟩; simp [oget] at ho
  have hbelow : RowKit.Below w.heap.size w w' := ⟨hfr.os, hfr.tape, hfr.output, hfr.size, fun b hb => hfr.keep b hb (hnone b) (MpB.none oget_nil_live)⟩
  obtain ⟨g1, hrel1, hfr1⟩ : ∃ g1, Rel (fun _ => none) g1 s1 a' w' ∧ Fr g0 [] w g1 s1.oh w' := by
    cases fz with
    | false => obtain rfl : s1 = s' := hle; exact ⟨g', hrel, hfr⟩
    | true => obtain ⟨h1, h2⟩ := hrel.lf hle; exact ⟨_, h1, hfr.trans h2⟩
  obtain ⟨v, hv, hrv⟩ := resultsO_ok hn hrel1 hres
  obtain ⟨hhr, hown⟩ := ren_hr hn hrel1.hr
  have fin : ∃ x gn, (Ending.returned v : Ending) = .returned x ∧ RowKit.Below w.heap.size w w' ∧ HR gn oh1 w' ∧ RdV gn oh1 r x ∧
      (∀ b o c, gn.G b o = some c → S b o = some c ∨ w.heap.size ≤ b) ∧ (∀ b o c, gn.F b o = some c → w.heap.size ≤ b) ∧ (∀ b, Owned gn oh1 b → w.heap.size ≤ b) ∧ (∀ i o, oget oh1 i = some o → o.live = true) := by
    refine ⟨v, _, rfl, hbelow, hhr, hrv, fun b o c hc => ?_, fun b o c hc => ?_, fun b hb => ?_, fun i o1 ho1 => (hn.obj i o1 ho1).choose_spec.2.2.1⟩
    · rcases hfr1.nG b o c hc with h' | h' | h'
      · exact .inl h'
      · exact absurd h' (hnone b)
      · exact .inr h'
    · rcases hfr1.nF b o c hc with h' | h' | h'
      · simp [g0] at h'
      · exact absurd h' (hnone b)
      · exact h'
    · rcases hfr1.own b (hown b hb) with h' | h'
      · exact absurd h' (hnone b)
      · exact h'
  cases xx with
  | exit id => exact hx.elim
  | normal => exact ⟨hrel.df, v, hv, fin⟩
  | ret => exact ⟨hrel.df, v, hv, fin⟩
end
end Go.Ev

set_option linter.all false
namespace Go.Ev
def force (v : V) (K : V → Prop) : Prop :=
  match v with
  | .undef => K .undef
  | .con x => K (.con x)
  | .ro f t => K (.ro f t)
  | .emp => K .emp
  | .own a b c d => K (.own a b c d)
  | .ref a b c d => K (.ref a b c d)
  | .agg l => K (.agg l)
  | .tup l => K (.tup l)
theorem force_eq (v : V) (K : V → Prop) : force v K = K v := by cases v <;> rfl
def pushO (post oh : OH) (K : OH → Prop) : Prop :=
  match post with
  | [] => K oh
  | [(i, o)] => K ((i, o) :: oh)
  | l => K (l ++ oh)
theorem pushO_eq (post oh : OH) (K : OH → Prop) : pushO post oh K = K (post ++ oh) := by
  unfold pushO; split <;> rfl
def putE (o : Oper) (v : V) (env : Env) (K : Env → Prop) : Prop :=
  match o.dst with
  | some d => K ((d, v) :: env)
  | none => K env
def nxt (o : Oper) (v : V) (post : OH) (env : Env) (oh : OH) (K : Env → OH → Prop) : Prop :=
  force v fun v => pushO post oh fun oh' => putE o v env fun env' => K env' oh'
theorem nxt_eq (o : Oper) (v : V) (post : OH) (n : Nat) (env : Env) (oh : OH) (K : St → Prop) : nxt o v post env oh (fun e h => K ⟨n, e, h⟩) = K ((St.mk n env oh).app o v post) := by
  unfold nxt; rw [force_eq, pushO_eq]; unfold putE St.app; cases o.dst <;> rfl
def evR (P : Program) (C : CT) (ops : Array Oper) : Nat → List Oper → Nat → Env → OH → (St → Prop) → Prop
  | _, [], n, env, oh, K => K ⟨n, env, oh⟩
  | i, o :: r, n, env, oh, K =>
    (match o.guard with
     | none =>
      (match nilTest o with
       | some (t, x, w) => nilB (tk P t) (opd env x) fun b => nxt o (.con (.bool (b == w))) [] env oh fun e h => evR P C ops (i + 1) r n e h K
       | none => step P C o (opd env) oh fun a =>
       (match isGuardL r i with
        | true => litBool a.v fun v => nxt o v a.post env oh fun e h => evR P C ops (i + 1) r n e h K
        | false => nxt o a.v a.post env oh fun e h => evR P C ops (i + 1) r n e h K))
     | some (j, want) =>
       (match guardVal ops env j with
        | .con (.bool b) => (match b == want with | true => step P C o (opd env) oh fun a => (match isGuardL r i with | true => litBool a.v fun v => nxt o v a.post env oh fun e h => evR P C ops (i + 1) r n e h K | false => nxt o a.v a.post env oh fun e h => evR P C ops (i + 1) r n e h K) | false => nxt o (.tup []) [] env oh fun e h => evR P C ops (i + 1) r n e h K)
        | .tup [] => nxt o (.tup []) [] env oh fun e h => evR P C ops (i + 1) r n e h K
        | _ => False))
theorem evR_eq (P : Program) (C : CT) (ops : Array Oper) : ∀ (l : List Oper) (i n : Nat) (env : Env) (oh : OH) (K : St → Prop), evR P C ops i l n env oh K = evOps P C ops i l ⟨n, env, oh⟩ K
  | [], i, n, env, oh, K => rfl
  | o :: r, i, n, env, oh, K => by
    have ih : ∀ v post, (nxt o v post env oh fun e h => evR P C ops (i + 1) r n e h K) = evOps P C ops (i + 1) r ((St.mk n env oh).app o v post) K := by
      intro v post
      rw [← nxt_eq o v post n env oh (fun s => evOps P C ops (i + 1) r s K)]
      simp only [evR_eq P C ops r]
    unfold evR evOps
    simp only [ih]
    rfl
def evRD (P : Program) (C : CT) (ops : Array Oper) : Nat → List Oper → Nat → Env → OH → List (Option Acc) → (List (Option Acc) → St → Prop) → Prop
  | _, [], n, env, oh, tr, K => K tr ⟨n, env, oh⟩
  | i, o :: r, n, env, oh, tr, K =>
    (match o.guard with
     | none => step P C o (opd env) oh fun a =>
       (match isGuardL r i with
        | true => litBool a.v fun v => nxt o v a.post env oh fun e h => evRD P C ops (i + 1) r n e h (some { a with v := v } :: tr) K
        | false => nxt o a.v a.post env oh fun e h => evRD P C ops (i + 1) r n e h (some a :: tr) K)
     | some (j, want) =>
       (match guardVal ops env j with
        | .con (.bool b) => (match b == want with | true => step P C o (opd env) oh fun a => (match isGuardL r i with | true => litBool a.v fun v => nxt o v a.post env oh fun e h => evRD P C ops (i + 1) r n e h (some { a with v := v } :: tr) K | false => nxt o a.v a.post env oh fun e h => evRD P C ops (i + 1) r n e h (some a :: tr) K) | false => nxt o (.tup []) [] env oh fun e h => evRD P C ops (i + 1) r n e h (none :: tr) K)
        | .tup [] => nxt o (.tup []) [] env oh fun e h => evRD P C ops (i + 1) r n e h (none :: tr) K
        | _ => False))
theorem evRD_eq (P : Program) (C : CT) (ops : Array Oper) : ∀ (l : List Oper) (i n : Nat) (env : Env) (oh : OH) (tr : List (Option Acc)) (K : List (Option Acc) → St → Prop), evRD P C ops i l n env oh tr K = evD P C ops i l ⟨n, env, oh⟩ tr K
  | [], i, n, env, oh, tr, K => rfl
  | o :: r, i, n, env, oh, tr, K => by
    have ih : ∀ v post tr, (nxt o v post env oh fun e h => evRD P C ops (i + 1) r n e h tr K) = evD P C ops (i + 1) r ((St.mk n env oh).app o v post) tr K := by
      intro v post tr
      rw [← nxt_eq o v post n env oh (fun s => evD P C ops (i + 1) r s tr K)]
      simp only [evRD_eq P C ops r]
    unfold evRD evD
    simp only [ih]
    rfl
section
variable {P : Program} {C : CT} {s : St} {Q : X → St → Prop}
theorem seq_i {a b : Code} (h : evC P C a s (X.seq (fun s' => evC P C b s' Q) Q)) : evC P C (.seq a b) s Q := Or.inl h
theorem seq_j {a b : Code} (σ : Type) (enc : σ → St) (I : σ → Prop) (h2 : ∀ z, I z → evC P C b (enc z) Q) (h : ∀ R : St → Prop, (∀ s' z, I z → Le (enc z) s' → R s') → evC P C a s (X.seq R Q)) : evC P C (.seq a b) s Q :=
  Or.inr (h _ fun _ z hz hl => ⟨.le, enc z, hl, h2 z hz⟩)
theorem reg_i {id : Nat} {ops : Array Oper} (h : ∀ K : St → Prop, (∀ s', Q .normal s' → K s') → evR P C ops 0 ops.toList s.n s.env s.oh K) : evC P C (.region id ops false) s Q := by
  have := h _ (fun _ h => h)
  rw [evR_eq] at this; exact this
theorem drw_i {id : Nat} {ops : Array Oper} (h : ∀ K : List (Option Acc) → St → Prop, (∀ tr s', commR ops tr = true → Q .normal s' → K tr s') → evRD P C ops 0 ops.toList s.n s.env s.oh [] K) : evC P C (.region id ops true) s Q := by
  have := h (fun tr s' => commR ops tr = true ∧ Q .normal s') (fun _ _ h1 h2 => ⟨h1, h2⟩)
  rw [evRD_eq] at this; exact this
def CondM (v : V) (A B : Prop) : Prop := match v with | .con (.bool t) => (t = true → A) ∧ (t = false → B) | _ => False
theorem cond_m {c : Operand} {a b : Code} (h : CondM (opd s.env c) (evC P C a s Q) (evC P C b s Q)) : evC P C (.cond c a b) s Q := by
  unfold CondM at h; exact h
theorem cond_t {c : Operand} {a b : Code} (hc : opd s.env c = .con (.bool true)) (h1 : evC P C a s Q) : evC P C (.cond c a b) s Q := by
  simp only [evC, hc]; exact ⟨fun _ => h1, fun h => Bool.noConfusion h⟩
theorem cond_f {c : Operand} {a b : Code} (hc : opd s.env c = .con (.bool false)) (h1 : evC P C b s Q) : evC P C (.cond c a b) s Q := by
  simp only [evC, hc]; exact ⟨fun h => Bool.noConfusion h, fun _ => h1⟩
theorem loop_i {c : Code} (σ : Type) (enc : σ → St) (I : σ → Prop) (μ : σ → Nat) (ads : List (Nat × Nat × Nat)) (z0 : σ) (h0 : adoptOK s ads) (h1 : I z0) (h2 : Le (enc z0) (adopt s ads))
    (h : ∀ z, I z → evC P C c (enc z) (X.seq (fun s' => ∃ z', I z' ∧ μ z' < μ z ∧ Le (enc z') s') Q)) : evC P C (.loop c) s Q :=
  ⟨.le, .le, σ, enc, I, μ, ads, z0, h0, h1, h2, h⟩
theorem loop_f {c : Code} (σ : Type) (enc : σ → St) (I : σ → Prop) (μ : σ → Nat) (z0 : σ) (h1 : I z0) (h2 : Lf (enc z0) s)
    (h : ∀ z, I z → evC P C c (enc z) (X.seq (fun s' => ∃ z', I z' ∧ μ z' < μ z ∧ Lf (enc z') s') Q)) : evC P C (.loop c) s Q :=
  ⟨.lf, .lf, σ, enc, I, μ, [], z0, trivial, h1, h2, h⟩
theorem loop_lr {c : Code} (σ : Type) (enc : σ → St) (I : σ → Prop) (μ : σ → Nat) (ads : List (Nat × Nat × Nat)) (z0 : σ) (h0 : adoptOK s ads) (h1 : I z0) (h2 : Le (enc z0) (adopt s ads))
    (h : ∀ z, I z → evC P C c (enc z) (X.seq (fun s' => ∃ z', I z' ∧ μ z' < μ z ∧ Lr (enc z') s') Q)) : evC P C (.loop c) s Q :=
  ⟨.le, .lr, σ, enc, I, μ, ads, z0, h0, h1, h2, h⟩
end
theorem fresh_n {oh : OH} {K : Nat → Prop} (h : K (newId oh)) : fresh oh K := ⟨_, newId_none oh, h⟩
theorem fresh_c {oh : OH} {K : Nat → Prop} (c : Nat) (h0 : oget oh c = none) (h : K c) : fresh oh K := ⟨c, h0, h⟩
theorem freshO_n {oh on : OH} {K : Nat → Prop} (h : K (newId oh)) : freshO oh on K :=
  ⟨newId oh, fun i hi => by
    have hge := shO_ge hi
    cases hq : oget oh i with
    | none => rfl
    | some o' => have := newId_le hq; omega, h⟩
theorem use_s {oh : OH} {id ver : Nat} {K : Obj → Prop} {o : Obj} (h : oget oh id = some o) (hv : o.ver = ver) (hl : o.live = true) (hk : K o) : use oh id ver K := by
  unfold use; rw [h]; exact ⟨hv, hl, hk⟩
theorem X.blk_s {id : Nat} {Q : X → St → Prop} {s : St} (h : Q .normal s) : X.block id Q (.exit id) s := by simp [X.block]; exact h
theorem X.blk_o {id j : Nat} {Q : X → St → Prop} {s : St} (hj : j ≠ id) (h : Q (.exit j) s) : X.block id Q (.exit j) s := by simp [X.block, hj]; exact h
theorem by64 {n b m : Nat} (hb : b ≤ 64) (h : n * 64 ≤ m) : n * b ≤ m := Nat.le_trans (Nat.mul_le_mul_left _ hb) h
theorem by64i {n : Int} {b : Nat} {m : Int} (hb : b ≤ 64) (h0 : 0 ≤ n) (h : n * 64 ≤ m) : n * b ≤ m := by
  have : n * (b : Int) ≤ n * 64 := Int.mul_le_mul_of_nonneg_left (by omega) h0
  omega
theorem fz_ro {oh : OH} {f f' : Bool} {t t' : T} (h : t = t') (hf : f = true → f' = true) : FzA oh f (.ro f' t) t' := by subst h; exact Fz1.ro f' t hf
theorem fz_con {oh : OH} {f : Bool} {t t' : Value} (h : t = t') : FzA oh f (.con t) (.con t') := by subst h; exact Fz1.con t
theorem fz_emp {oh : OH} {f : Bool} {t' : T} (h : T.sl [] = t') : FzA oh f .emp t' := by subst h; exact Fz1.emp
def FzE (oh : OH) (f : Bool) (v : V) (t : T) : Prop := v.cells.length = t.cells.length ∧ ∀ (j : Nat) (v' : V) (u : T), v.cells[j]? = some v' → t.cells[j]? = some u → Fz1 oh f v' u
theorem fze_con {oh : OH} {f : Bool} (v : Value) : FzE oh f (.con v) (.con v) := by
  refine ⟨rfl, fun j v' u h1 h2 => ?_⟩
  cases j with
  | zero => simp [V.cells, T.cells] at h1 h2; subst h1; subst h2; exact .con v
  | succ j => simp [V.cells] at h1
theorem fz_own {α : Type} {oh : OH} {f : Bool} {F : α → V} {G : α → T} {l : List α} {id ver off len : Nat} {o : Obj} {r : T} (ho : oget oh id = some o) (hv : o.ver = ver) (hl : o.live = true)
    (hn : l.length = len) (he : (o.el.drop off).take len = l.map F) (hFG : ∀ a ∈ l, FzE oh f (F a) (G a)) (hr : r = T.sl (l.map G)) : FzA oh f (.own id ver off len) r := by
  subst hr
  have hel : ∀ (i : Nat) (e : V) (t : T), i < len → o.el[off + i]? = some e → (l.map G)[i]? = some t → FzE oh f e t := by
    intro i e t hi h1 h2
    have h3 : ((o.el.drop off).take len)[i]? = some e := by rw [List.getElem?_take, if_pos hi, List.getElem?_drop]; exact h1
    rw [he, List.getElem?_map] at h3
    rw [List.getElem?_map] at h2
    obtain ⟨a, ha, rfl⟩ := Option.map_eq_some_iff.1 h3
    rw [ha] at h2
    obtain rfl : G a = t := by simpa using h2
    exact hFG a (List.mem_of_getElem? ha)
  exact Fz1.own id ver off len o _ ho hv hl (by simpa using hn) (fun i e t hi h1 h2 => (hel i e t hi h1 h2).1.symm) (fun i e t j v u hi h1 h2 h3 h4 => (hel i e t hi h1 h2).2 j v u h3 h4)
theorem fzl1 {oh : OH} {v : V} {t : T} (h : FzA oh false v t) : FzL oh [v] [t] := by
  refine ⟨rfl, fun j v' t' h1 h2 => ?_⟩
  cases j with
  | zero => simp at h1 h2; subst h1; subst h2; exact h
  | succ j => simp at h1
theorem fzl2 {oh : OH} {v v2 : V} {t t2 : T} (h : FzA oh false v t) (h2 : FzA oh false v2 t2) : FzL oh [v, v2] [t, t2] := by
  refine ⟨rfl, fun j v' t' e1 e2 => ?_⟩
  match j with
  | 0 => simp at e1 e2; subst e1; subst e2; exact h
  | 1 => simp at e1 e2; subst e1; subst e2; exact h2
  | j + 2 => simp at e1
theorem lpre1 {oh : OH} {id : Nat} {o : Obj} (h : oget oh id = some o) : ∀ p ∈ [(id, o)], oget oh p.1 = some p.2 := by simpa using h
theorem allsz_map {α : Type} {f : α → T} {l : List α} {n : Nat} (h : ∀ a, (f a).cells.length = n) : AllSz (l.map f) n := by
  intro t ht; obtain ⟨a, -, rfl⟩ := List.mem_map.mp ht; exact h a
theorem allv_map {α : Type} {f : α → V} {l : List α} {n : Nat} (h : ∀ a, (f a).cells.length = n) : ∀ y ∈ l.map f, y.cells.length = n := by
  intro t ht; obtain ⟨a, -, rfl⟩ := List.mem_map.mp ht; exact h a
theorem allv_one {e : V} {n : Nat} (h : e.cells.length = n) : ∀ y ∈ [e], y.cells.length = n := by
  intro y hy
  obtain rfl : y = e := by simpa using hy
  exact h
theorem allv_map2 {α β : Type} {f : α → β} {g : β → V} {l : List α} {n : Nat} (h : ∀ a, (g (f a)).cells.length = n) : ∀ y ∈ (l.map f).map g, y.cells.length = n := by
  rw [List.map_map]; exact allv_map h
theorem at_q {β : Type} {f : UInt32 → β} {l : List UInt32} {i : Nat} {Q : β → Prop} (h : i < l.length) (k : (l.getD i default).toNat < 4294967296 → Q (f (l.getD i default))) : ∃ t, (l.map f)[i]? = some t ∧ Q t := by
  refine ⟨f (l.getD i default), ?_, k (UInt32.toNat_lt _)⟩
  rw [List.getElem?_map, List.getElem?_eq_getElem h]; simp [List.getD, List.getElem?_eq_getElem h]
theorem mul_q {a b : Int} {Q : Int → Prop} (ha : 0 ≤ a) (ha' : a < 4294967296) (hb : 0 ≤ b) (hb' : b < 4294967296) (k : 0 ≤ a * b → a * b ≤ 18446744065119617025 → Q (a * b)) : ∃ r, r = IntKind.u64.wrap (a * b) ∧ Q r := by
  have h1 : 0 ≤ a * b := Int.mul_nonneg ha hb
  have h2 : a * b ≤ 4294967295 * 4294967295 := Int.mul_le_mul (by omega) (by omega) hb (by omega)
  refine ⟨a * b, ?_, k h1 (by omega)⟩
  simp [IntKind.wrap, IntKind.bits, IntKind.signed]; omega
theorem wrap32 {t : Int} (h : 0 ≤ t) : IntKind.u32.wrap t = ((UInt32.ofNat t.toNat).toNat : Nat) := by
  simp [IntKind.wrap, IntKind.bits, IntKind.signed]; omega
theorem at_map {α β : Type} [Inhabited α] {f : α → β} {l : List α} {i : Nat} (h : i < l.length) : (l.map f)[i]? = some (f (l.getD i default)) := by
  rw [List.getElem?_map, List.getElem?_eq_getElem h]; simp [List.getD, List.getElem?_eq_getElem h]
end Go.Ev

set_option linter.all false
namespace Go.Ev
variable {P : Program}
def argEnvV : Nat → List V → Env
  | _, [] => []
  | i, v :: r => (i, v) :: argEnvV (i + 1) r
theorem argEnvV_get : ∀ (vs : List V) (i t : Nat), i ≤ t → eget (argEnvV i vs) t = (match vs[t - i]? with | some v => v | none => .undef)
  | [], i, t, _ => by simp [argEnvV, eget]
  | x :: r, i, t, h => by
    rw [argEnvV, eget_cons]
    by_cases e : i = t
    · subst e; simp
    · rw [if_neg e, argEnvV_get r (i + 1) t (by omega), show t - i = (t - (i + 1)) + 1 by omega, List.getElem?_cons_succ]
def pin1 (i : Nat) : V → Prop
  | .own i' ver _ len => i' = i ∧ ver = 0 ∧ 0 < len
  | .ref i' ver _ _ => i' = i ∧ ver = 0
  | _ => False
def pinA (i : Nat) : V → Prop
  | .agg l => ∃ v ∈ l, pin1 i v
  | v => pin1 i v
theorem pin1_m {g g2 : Gh} {oh oh2 : OH} {i : Nat} {o o2 : Obj} {v : V} {x : Value} (hp : pin1 i v) (ho : oget oh i = some o) (ho2 : oget oh2 i = some o2) (h0 : o.ver = 0) (h02 : o2.ver = 0) (hl : o.live = true) (hl2 : o2.live = true)
    (h1 : RdV1 g oh v x) (h2 : RdV1 g2 oh2 v x) : g2.m i = g.m i := by
  cases v with
  | own i' ver off len =>
    obtain ⟨rfl, rfl, hlen⟩ := hp
    obtain ⟨_, q, e1, _, c1⟩ := h1
    obtain ⟨_, q2, e2, _, c2⟩ := h2
    rw [ho] at e1; rw [ho2] at e2
    obtain rfl : o = q := by simpa using e1
    obtain rfl : o2 = q2 := by simpa using e2
    obtain ⟨a, cap, rfl, hc, _, d1⟩ := c1 h0 hl
    obtain ⟨a2, cap2, e3, hc2, _, d2⟩ := c2 h02 hl2
    simp only [Value.slice.injEq] at e3
    obtain ⟨rfl, _, rfl⟩ := e3
    obtain ⟨b, m1, f1, _⟩ := d1 (by omega)
    obtain ⟨b2, m2, f2, _⟩ := d2 (by omega)
    rw [f1] at f2
    simp only [Option.some.injEq, Addr.mk.injEq] at f2
    rw [m1, m2, f2.1]
  | ref i' ver k foff =>
    obtain ⟨rfl, rfl⟩ := hp
    obtain ⟨_, q, e1, _, c1⟩ := h1
    obtain ⟨_, q2, e2, _, c2⟩ := h2
    rw [ho] at e1; rw [ho2] at e2
    obtain rfl : o = q := by simpa using e1
    obtain rfl : o2 = q2 := by simpa using e2
    obtain ⟨b, m1, f1⟩ := c1 h0 hl
    obtain ⟨b2, m2, f2⟩ := c2 h02 hl2
    rw [f1] at f2
    simp only [Value.pointer.injEq, Option.some.injEq, Addr.mk.injEq] at f2
    rw [m1, m2, f2.1]
  | _ => exact hp.elim
theorem pinA_m {g g2 : Gh} {oh oh2 : OH} {i : Nat} {o o2 : Obj} {v : V} {x : Value} (hp : pinA i v) (ho : oget oh i = some o) (ho2 : oget oh2 i = some o2) (h0 : o.ver = 0) (h02 : o2.ver = 0) (hl : o.live = true) (hl2 : o2.live = true)
    (h1 : RdV g oh v x) (h2 : RdV g2 oh2 v x) : g2.m i = g.m i := by
  cases v with
  | agg l =>
    obtain ⟨u, hu, hp⟩ := hp
    obtain ⟨j, hj⟩ := List.getElem?_of_mem hu
    obtain ⟨cs, rfl, hl1, hc1⟩ := h1
    obtain ⟨cs2, e, hl3, hc2⟩ := h2
    simp only [Value.agg.injEq] at e
    subst e
    have hlt : j < cs.size := by rw [hl1]; exact (List.getElem?_eq_some_iff.1 hj).1
    exact pin1_m hp ho ho2 h0 h02 hl hl2 (hc1 j u _ hj (Array.getElem?_eq_getElem hlt)).1 (hc2 j u _ hj (Array.getElem?_eq_getElem hlt)).1
  | own a b c d => exact pin1_m (v := .own a b c d) hp ho ho2 h0 h02 hl hl2 h1 h2
  | ref a b c d => exact pin1_m (v := .ref a b c d) hp ho ho2 h0 h02 hl hl2 h1 h2
  | _ => exact hp.elim
theorem pin1_b {g : Gh} {oh : OH} {i : Nat} {o : Obj} {v : V} {x : Value} (hp : pin1 i v) (ho : oget oh i = some o) (h0 : o.ver = 0) (hl : o.live = true) (h1 : RdV1 g oh v x) : ∃ b, g.m i = some b := by
  cases v with
  | own i' ver off len =>
    obtain ⟨rfl, rfl, hlen⟩ := hp
    obtain ⟨_, q, e1, _, c1⟩ := h1
    rw [ho] at e1
    obtain rfl : o = q := by simpa using e1
    obtain ⟨a, cap, rfl, hc, _, d1⟩ := c1 h0 hl
    obtain ⟨b, m1, _⟩ := d1 (by omega)
    exact ⟨b, m1⟩
  | ref i' ver k foff =>
    obtain ⟨rfl, rfl⟩ := hp
    obtain ⟨_, q, e1, _, c1⟩ := h1
    rw [ho] at e1
    obtain rfl : o = q := by simpa using e1
    obtain ⟨b, m1, _⟩ := c1 h0 hl
    exact ⟨b, m1⟩
  | _ => exact hp.elim
theorem pinA_b {g : Gh} {oh : OH} {i : Nat} {o : Obj} {v : V} {x : Value} (hp : pinA i v) (ho : oget oh i = some o) (h0 : o.ver = 0) (hl : o.live = true) (h1 : RdV g oh v x) : ∃ b, g.m i = some b := by
  cases v with
  | agg l =>
    obtain ⟨u, hu, hp⟩ := hp
    obtain ⟨j, hj⟩ := List.getElem?_of_mem hu
    obtain ⟨cs, rfl, hl1, hc1⟩ := h1
    have hlt : j < cs.size := by rw [hl1]; exact (List.getElem?_eq_some_iff.1 hj).1
    exact pin1_b hp ho h0 hl (hc1 j u _ hj (Array.getElem?_eq_getElem hlt)).1
  | own a b c d => exact pin1_b (v := .own a b c d) hp ho h0 hl h1
  | ref a b c d => exact pin1_b (v := .ref a b c d) hp ho h0 hl h1
  | _ => exact hp.elim
def RetM (P : Program) (fn : Func) (M : List MO) (vs : List V) (f : Bool) (t : T) (x : X) (s : St) : Prop :=
  (match x with | .exit _ => False | _ => True) ∧ (∀ y ∈ M, oget s.oh y.id = some ⟨y.sz, y.b, 0, true⟩) ∧ (∀ y ∈ M, ∃ j u, vs[j]? = some u ∧ eget s.env j = u ∧ pinA y.id u) ∧
  ∃ s1, Le s1 s ∧ (∀ y ∈ M, oget s1.oh y.id = none) ∧ RetOK P fn f t x s1
theorem okm_of_ev {C : CT} (hC : ∀ q ts r, C q ts r → OkR P q ts r) (hmix : P.follows .mixedOrders = true) {q : FuncId} {fn : Func} {c : Code} {M : List MO} {vs : List V} {f : Bool} {t : T}
    (hfn : P.funcs[q]? = some fn) (hname : (fn.name == "runtime.NumGoroutine") = false) (hbody : fn.body = some c) (hok : okB fn.ntmps c = true) (hpar : parB vs.length c = true) (hlen : vs.length ≤ fn.ntmps)
    (hwf : ∀ x ∈ M, 0 < x.sz ∧ x.a.length = x.b.length ∧ (∀ e ∈ x.a, e.scal) ∧ (∀ e ∈ x.b, e.scal)) (hnd : (M.map (·.id)).Nodup)
    (h : evC P C c ⟨fn.ntmps, argEnvV 0 vs, M.map MO.pre⟩ (RetM P fn M vs f t)) : OkM P q M vs f t := by
  refine ⟨⟨fn, hfn, hname, by simp [hbody]⟩, hwf, hnd, fun g0 w args hF0 hr0' hsz hrd => ?_⟩
  have hget : ∀ j, j < args.size → (args ++ Array.replicate (fn.ntmps - args.size) Go.undef).getD j Go.undef = args.getD j Go.undef := by
    intro j hj
    rw [Array.getD_eq_getD_getElem?, Array.getElem?_append_left hj, Array.getD_eq_getD_getElem?]
  have hr0 : Rel (fun j => if j < vs.length then some (args.getD j Go.undef) else none) g0 ⟨fn.ntmps, argEnvV 0 vs, M.map MO.pre⟩ { tmps := args ++ Array.replicate (fn.ntmps - args.size) Go.undef, defers := [] } w := by
    refine ⟨hr0', rfl, by simp; omega, fun j => ?_, fun j v hv => ?_⟩
    · rw [argEnvV_get vs 0 j (Nat.zero_le _)]
      simp only [Nat.sub_zero]
      cases hj : vs[j]? with
      | none => trivial
      | some u =>
        have hlt : j < args.size := by rw [hsz]; exact (List.getElem?_eq_some_iff.1 hj).1
        simp only
        rw [hget j hlt]
        refine hrd j u _ hj ?_
        rw [Array.getD_eq_getD_getElem?, Array.getElem?_eq_getElem hlt]; rfl
    · split at hv
      · rename_i hj
        rw [hget j (by omega)]
        simpa using hv
      · cases hv
  refine calls_of_wp hfn hbody (wp_mono (evC_ok (np := vs.length) hC hmix (fun d hd => if_neg (by omega)) c _ _ hok hpar h rfl g0 _ w hr0) fun e a' w' hp => ?_)
  obtain ⟨xx, s', g', rfl, hret, hrel, hfr, _⟩ := hp
  obtain ⟨hx, hob, hpin, s1, hle, hno, hres⟩ := hret
  have hpost : ∀ i o, oget (M.map MO.post) i = some o → oget s'.oh i = some o ∧ ∃ y ∈ M, y.id = i ∧ o = ⟨y.sz, y.b, 0, true⟩ := by
    intro i o hi
    obtain ⟨y, hy, rfl, rfl⟩ := oget_mo_some hi
    exact ⟨hob y hy, y, hy, rfl, rfl⟩
  have hm : ∀ y ∈ M, g'.m y.id = g0.m y.id := by
    intro y hy
    obtain ⟨j, u, hj, hej, hp⟩ := hpin y hy
    have hlt : j < vs.length := (List.getElem?_eq_some_iff.1 hj).1
    have h1 := hrd j u _ hj (by rw [Array.getElem?_eq_getElem (by omega : j < args.size)])
    have h2 := hrel.env j
    rw [hej] at h2
    have h3 := hrel.par j (args.getD j Go.undef) (if_pos hlt)
    rw [h3, Array.getD_eq_getD_getElem?, Array.getElem?_eq_getElem (by omega : j < args.size)] at h2
    exact pinA_m hp (oget_mo (F := MO.pre) (fun _ => rfl) hnd y hy) (hob y hy) rfl rfl rfl rfl h1 h2
  obtain ⟨hrel1, hfr1⟩ := hrel.less hle
  have hfr2 := hfr.trans hfr1
  let N : Sto := fun b o => if w.heap.size ≤ b then w'.cell? ⟨b, o, none⟩ else none
  have hN : ∀ b o c, N b o = some c → w.heap.size ≤ b ∧ w'.cell? ⟨b, o, none⟩ = some c := by
    intro b o c hc
    by_cases hb : w.heap.size ≤ b
    · exact ⟨hb, by simpa [N, hb] using hc⟩
    · simp [N, hb] at hc
  -- what lies in the state without the given objects is new
  have hnew : ∀ b, Owned g' s1.oh b → w.heap.size ≤ b := by
    intro b hb
    rcases hfr2.own b hb with h' | h'
    · exfalso
      obtain ⟨i, o, hi, hl, hmi⟩ := h'
      obtain ⟨y, hy, rfl, rfl⟩ := oget_mo_some hi
      obtain ⟨k, o2, hk, hl2, hmk⟩ := hb
      have hk' := leOH_spec hle.2.2.1 k o2 hk
      have : k = y.id := hrel.hr.inj k y.id o2 _ b hk' (hob y hy) hl2 rfl hmk (by rw [hm y hy]; exact hmi)
      rw [this, hno y hy] at hk
      cases hk
    · exact h'
  have hgiven : ∀ b o c, g'.F b o = some c → w.heap.size ≤ b ∨ Owned g0 (M.map MO.pre) b := by
    intro b o c hc
    rcases hfr.nF b o c hc with h' | h' | h'
    · rw [hF0] at h'; cases h'
    · exact .inr h'
    · exact .inl h'
  have hFN : ∀ b o c, g'.F b o = some c → N b o = some c := by
    intro b o c hc
    have hcell := hrel.hr.hG b o c (hrel.hr.hF b o c hc)
    rcases hgiven b o c hc with h' | ⟨i, ob, hi, _, hmi⟩
    · simpa [N, h'] using hcell
    · exfalso
      obtain ⟨y, hy, rfl, rfl⟩ := oget_mo_some hi
      have hmy : g'.m y.id = some b := by rw [hm y hy]; exact hmi
      obtain ⟨_, _, _, hg, _⟩ := (hrel.hr.obj y.id _ (hob y hy) rfl).2 b hmy
      have := hrel.hr.hF b o c hc
      rw [hg] at this; cases this
  have hresult : ∃ v, (results fn a'.tmps).run P w' = .ok v w' ∧ ((f || t.plain) = true → RdT N t v) := by
    cases f with
    | true =>
      have hfin : Final g' s1.oh w' true N := ⟨hFN, by simp, fun b hb o c hc => by have := hnew b hb; simpa [N, this] using hc⟩
      obtain ⟨v, hv, hrv⟩ := results_ok hres hrel1 hfin
      exact ⟨v, hv, fun _ => hrv⟩
    | false =>
      have hfin : Final g' s1.oh w' false (fun b o => w'.cell? ⟨b, o, none⟩) :=
        ⟨fun b o c hc => hrel.hr.hG _ _ _ (hrel.hr.hF _ _ _ hc), fun _ b o c hc => hrel.hr.hG _ _ _ hc, fun b _ o c hc => hc⟩
      obtain ⟨v, hv, hrv⟩ := results_ok hres hrel1 hfin
      exact ⟨v, hv, fun hp => plain_any (by simpa using hp) hrv⟩
  obtain ⟨v, hv, hrv⟩ := hresult
  have hown : ∀ b, Owned g' (M.map MO.post) b → Owned g' s'.oh b := by
    rintro b ⟨i, o, hi, hl, hmi⟩
    exact ⟨i, o, (hpost i o hi).1, hl, hmi⟩
  have hpl : ∀ i o, oget (M.map MO.post) i = some o → o.live = true := by
    intro i o hi
    obtain ⟨_, y, hy, rfl, rfl⟩ := hpost i o hi
    rfl
  have hHR : HR g' (M.map MO.post) w' := by
    refine ⟨hrel.hr.hG, hrel.hr.hF, fun i o hi hl => ?_, fun i j oi oj b hi hj => hrel.hr.inj i j oi oj b (hpost i oi hi).1 (hpost j oj hj).1, MpOK.none hpl⟩
    obtain ⟨h1, y, hy, rfl, rfl⟩ := hpost i o hi
    obtain ⟨h2, h3⟩ := hrel.hr.obj _ _ h1 hl
    refine ⟨h2, fun b hb => ?_⟩
    obtain ⟨arr, ty, hh, hg, hba⟩ := h3 b hb
    exact ⟨arr, ty, hh, hg, hba.1, hba.2.1, hba.2.2.1, fun k e he => scal_el ((hwf y hy).2.2.2 e (List.mem_of_getElem? he)) (hba.2.2.2 k e he)⟩
  have hFr : Fr g0 (M.map MO.pre) w g' (M.map MO.post) w' :=
    ⟨hfr.os, hfr.tape, hfr.output, hfr.size, hfr.keep, fun b hb => hfr.own b (hown b hb), hfr.G, hfr.F, hfr.nG, hfr.nF, hfr.blk, fun b hb => absurd hb (MpB.none hpl)⟩
  cases xx with
  | exit id => exact hx.elim
  | normal => exact ⟨hrel.df, v, hv, v, g', N, rfl, hHR, hFr, fun y hy _ => hm y hy, hN, hrv⟩
  | ret => exact ⟨hrel.df, v, hv, v, g', N, rfl, hHR, hFr, fun y hy _ => hm y hy, hN, hrv⟩
theorem mut_1 {C : CT} {q : FuncId} {x : MO} {vs args : List V} {fr : Bool} {r : T} {oh : OH} {k : Acc → Prop} (id ver : Nat) (hc : C q [] (.muts [x] vs fr r)) (ho : oget oh id = some ⟨x.sz, x.a, ver, true⟩)
    (hv : covL [x] vs) (ha : ArL (fun _ => id) (fun _ => ver) args vs) (hp : (fr || r.plain) = true) (hk : k ⟨[(id, ⟨x.sz, x.a, ver, true⟩)], [], [(id, ⟨x.sz, x.b, ver, true⟩)], V.ofT fr r⟩) : MutK C q args oh k :=
  ⟨[x], vs, fr, r, fun _ => id, fun _ => ver, hc, hv, ha, by simpa using ho, by
    intro a ha b hb _
    obtain rfl : a = x := by simpa using ha
    obtain rfl : b = a := by simpa using hb
    rfl, hp, hk⟩
inductive BmC (oh oh1 : OH) : V → V → Prop
  | con (v : Value) : BmC oh oh1 (.con v) (.con v)
  | ro (f : Bool) (t : T) : BmC oh oh1 (.ro f t) (.ro f t)
  | emp : BmC oh oh1 .emp .emp
  | own (id ver ver1 off len : Nat) (o o1 : Obj) (ho : oget oh id = some o) (hv : o.ver = ver) (h1 : oget oh1 id = some o1) (hv1 : o1.ver = ver1) : BmC oh oh1 (.own id ver off len) (.own id ver1 off len)
  | ref (id ver ver1 i foff : Nat) (o o1 : Obj) (ho : oget oh id = some o) (hv : o.ver = ver) (h1 : oget oh1 id = some o1) (hv1 : o1.ver = ver1) : BmC oh oh1 (.ref id ver i foff) (.ref id ver1 i foff)
def BmA (oh oh1 : OH) (v v1 : V) : Prop :=
  match v1 with
  | .agg l1 => (match v with | .agg l => l.length = l1.length ∧ ∀ (j : Nat) (a b : V), l[j]? = some a → l1[j]? = some b → BmC oh oh1 a b | _ => False)
  | v1 => BmC oh oh1 v v1
def Bm (oh oh1 : OH) : Prop := ∀ i o1, oget oh1 i = some o1 → ∃ o, oget oh i = some o ∧ o.live = true ∧ o1.live = true ∧ o1.sz = o.sz ∧ o1.el.length = o.el.length ∧
    ∀ (k : Nat) (e e1 : V), o.el[k]? = some e → o1.el[k]? = some e1 → BmA oh oh1 e e1
section
variable {g : Gh} {oh oh1 : OH} {w : World}
theorem bmC_ok (hn : Bm oh oh1) {v v1 : V} (h : BmC oh oh1 v v1) {x : Value} (hx : RdV1 g oh v x) : RdV1 g oh1 v1 x := by
  cases h with
  | con v => exact hx
  | ro f t => exact hx
  | emp => exact hx
  | own id ver ver1 off len o o1 ho hv h1 hv1 =>
    obtain ⟨o', ho', l0, l1, e2, e3, _⟩ := hn id o1 h1
    rw [ho] at ho'
    obtain rfl : o = o' := by simpa using ho'
    obtain ⟨x1, o2, ho2, _, hat⟩ := hx
    rw [ho] at ho2
    obtain rfl : o = o2 := by simpa using ho2
    obtain ⟨ad, cap, p1, p2, p3, p4⟩ := hat hv l0
    refine ⟨x1, o1, h1, by omega, fun _ _ => ⟨ad, cap, p1, p2, by omega, fun hcap => ?_⟩⟩
    obtain ⟨b, b1, b2, b3⟩ := p4 hcap
    exact ⟨b, b1, by rw [e2]; exact b2, b3⟩
  | ref id ver ver1 i foff o o1 ho hv h1 hv1 =>
    obtain ⟨o', ho', l0, l1, e2, e3, _⟩ := hn id o1 h1
    rw [ho] at ho'
    obtain rfl : o = o' := by simpa using ho'
    obtain ⟨x1, o2, ho2, _, hat⟩ := hx
    rw [ho] at ho2
    obtain rfl : o = o2 := by simpa using ho2
    obtain ⟨b, b1, b2⟩ := hat hv l0
    exact ⟨refx x1.1 h1 l1, o1, h1, by omega, fun _ _ => ⟨b, b1, by rw [e2]; exact b2⟩⟩
theorem bmC_one {v v1 : V} (h : BmC oh oh1 v v1) : v.cells = [v] ∧ v1.cells = [v1] := by cases h <;> exact ⟨rfl, rfl⟩
theorem bmA_ok (hn : Bm oh oh1) {v v1 : V} (h : BmA oh oh1 v v1) {x : Value} (hx : RdV g oh v x) : RdA g oh1 v1 x := by
  have one : ∀ v1, BmC oh oh1 v v1 → RdV1 g oh1 v1 x := by
    intro v1 hc
    refine bmC_ok hn hc ?_
    cases hc <;> exact hx
  cases v1 with
  | agg l1 =>
    cases v with
    | agg l =>
      obtain ⟨hl, hr⟩ := h
      obtain ⟨cs, rfl, hcl, hc⟩ := hx
      refine ⟨cs, rfl, by omega, fun j u c hu hcj => ?_⟩
      have hj : j < l.length := by rw [hl]; exact (List.getElem?_eq_some_iff.1 hu).1
      obtain ⟨r1, r2⟩ := hc j l[j] c (by simp [hj]) hcj
      exact ⟨bmC_ok hn (hr j l[j] u (by simp [hj]) hu) r1, r2⟩
    | _ => exact h.elim
  | undef => cases h
  | tup l => cases h
  | con q => exact one _ h
  | ro f t => exact one _ h
  | emp => exact one _ h
  | own q1 q2 q3 q4 => exact one _ h
  | ref q1 q2 q3 q4 => exact one _ h
theorem bm_hr (hn : Bm oh oh1) (h : HR g oh w) : HR g oh1 w ∧ ∀ b, Owned g oh1 b → Owned g oh b := by
  refine ⟨⟨h.hG, h.hF, fun i o1 ho1 hl1 => ?_, fun i j oi oj b hi hj hli hlj hmi hmj => ?_, MpOK.none fun i o1 ho1 => (hn i o1 ho1).choose_spec.2.2.1⟩, ?_⟩
  · obtain ⟨o, ho, l0, l1, e2, e3, hels⟩ := hn i o1 ho1
    obtain ⟨h1, h2⟩ := h.obj i o ho l0
    refine ⟨fun hmn => List.eq_nil_of_length_eq_zero (by rw [e3, h1 hmn]; rfl), fun b hb => ?_⟩
    obtain ⟨arr, ty, hh, hg, hba⟩ := h2 b hb
    refine ⟨arr, ty, hh, hg, by rw [e2]; exact hba.1, by rw [e3]; exact hba.2.1, hba.2.2.1, fun k e' he => ?_⟩
    have hk : k < o.el.length := by rw [← e3]; exact (List.getElem?_eq_some_iff.1 he).1
    have hra := hels k o.el[k] e' (by simp [hk]) he
    obtain ⟨q1, q2⟩ := hba.2.2.2 k o.el[k] (by simp [hk])
    rw [e2]
    have key : e'.cells.length = o.el[k].cells.length ∧ ∀ (j : Nat) (a b : V), o.el[k].cells[j]? = some a → e'.cells[j]? = some b → BmC oh oh1 a b := by
      have one : ∀ e0 v1, BmC oh oh1 e0 v1 → v1.cells.length = e0.cells.length ∧ ∀ (j : Nat) (a b : V), e0.cells[j]? = some a → v1.cells[j]? = some b → BmC oh oh1 a b := by
        intro e0 v1 hc
        obtain ⟨z1, z2⟩ := bmC_one hc
        rw [z1, z2]
        refine ⟨rfl, fun j a b ha hb => ?_⟩
        cases j with
        | zero =>
          simp at ha hb
          subst ha; subst hb; exact hc
        | succ j => simp at ha
      revert hra
      generalize o.el[k] = e0
      intro hra
      cases e' with
      | agg l1 =>
        cases e0 with
        | agg l => exact ⟨hra.1.symm, hra.2⟩
        | _ => exact hra.elim
      | undef => cases hra
      | tup l => cases hra
      | con q => exact one _ _ hra
      | ro f t => exact one _ _ hra
      | emp => exact one _ _ hra
      | own q1 q2 q3 q4 => exact one _ _ hra
      | ref q1 q2 q3 q4 => exact one _ _ hra
    refine ⟨by rw [key.1]; exact q1, fun j v hv => ?_⟩
    have hj : j < o.el[k].cells.length := by rw [← key.1]; exact (List.getElem?_eq_some_iff.1 hv).1
    obtain ⟨c, c1, c2, c3⟩ := q2 j o.el[k].cells[j] (by simp [hj])
    exact ⟨c, c1, c2, bmC_ok hn (key.2 j _ v (by simp [hj]) hv) c3⟩
  · obtain ⟨o, ho, l0, _⟩ := hn i oi hi
    obtain ⟨o', ho', l0', _⟩ := hn j oj hj
    exact h.inj i j o o' b ho ho' l0 l0' hmi hmj
  · rintro b ⟨i, o1, ho1, hl1, hmi⟩
    obtain ⟨o, ho, l0, _⟩ := hn i o1 ho1
    exact ⟨i, o, ho, l0, hmi⟩
end
def PinG (np : Nat) (vs : List V) (s : St) (i : Nat) (o : Obj) : Prop := 0 < o.sz ∧ (∃ o2, oget s.oh i = some o2 ∧ o2.ver = 0 ∧ o2.live = true ∧ o2.sz = o.sz) ∧ ∃ j u, j < np ∧ vs[j]? = some u ∧ eget s.env j = u ∧ pinA i u
def RetG (P : Program) (fn : Func) (np : Nat) (pre : OH) (vs : List V) (post : OH) (r : V) (x : X) (s : St) : Prop :=
  (match x with | .exit _ => False | _ => True) ∧
  ∃ (fz : Bool) (s1 : St), (match fz with | false => s1 = s | true => Lf s1 s) ∧ (∀ i o o', oget pre i = some o → oget (post ++ pre) i = some o' → o'.ver = 0 → PinG np vs s1 i o) ∧ Bm s1.oh (post ++ pre) ∧
  (match fn.results.toList with
   | [] => r = .tup []
   | [a] => resV P s1 a fun v => BmA s1.oh (post ++ pre) v r
   | [a, b] => resV P s1 a fun v => resV P s1 b fun u => ∃ r1 r2, r = .tup [r1, r2] ∧ BmA s1.oh (post ++ pre) v r1 ∧ BmA s1.oh (post ++ pre) u r2
   | _ => False)
theorem resultsG_ok {γ : Nat → Option Value} {g : Gh} {w : World} {fn : Func} {oh1 : OH} {r : V} {s1 : St} {a : Act} (hn : Bm s1.oh oh1) (hr : Rel γ g s1 a w)
    (h : match fn.results.toList with
   | [] => r = .tup []
   | [a] => resV P s1 a fun v => BmA s1.oh oh1 v r
   | [a, b] => resV P s1 a fun v => resV P s1 b fun u => ∃ r1 r2, r = .tup [r1, r2] ∧ BmA s1.oh oh1 v r1 ∧ BmA s1.oh oh1 u r2
   | _ => False) :
    ∃ v, (results fn a.tmps).run P w = .ok v w ∧ RdV g oh1 r v := by
  split at h
  · rename_i hres
    have : fn.results = #[] := by rw [← Array.toArray_toList (xs := fn.results), hres]
    subst h
    exact ⟨.tuple #[], by rw [results_eq, this]; simp, #[], rfl, rfl, fun j v c hv => by simp at hv⟩
  · rename_i p hres
    have : fn.results = #[p] := by rw [← Array.toArray_toList (xs := fn.results), hres]
    obtain ⟨v, x, hk, hx, hrun⟩ := resV_ok h hr
    refine ⟨x, by rw [results_eq, this]; simp [hrun], ?_⟩
    have := bmA_ok hn hk hx
    cases r with
    | tup l => cases hk
    | _ => exact this
  · rename_i p q hres
    have : fn.results = #[p, q] := by rw [← Array.toArray_toList (xs := fn.results), hres]
    obtain ⟨v, x, h, hx, hrun⟩ := resV_ok h hr
    obtain ⟨u, y, ⟨t1, t2, rfl, h1, h2⟩, hy, hrun2⟩ := resV_ok h hr
    refine ⟨.tuple #[x, y], by rw [results_eq, this]; simp [hrun, hrun2], #[x, y], rfl, rfl, fun j v c hv hc => ?_⟩
    match j with
    | 0 => obtain rfl : t1 = v := by simpa using hv
           obtain rfl : x = c := by simpa using hc
           exact bmA_ok hn h1 hx
    | 1 => obtain rfl : t2 = v := by simpa using hv
           obtain rfl : y = c := by simpa using hc
           exact bmA_ok hn h2 hy
    | j + 2 => simp at hv
  · exact h.elim
theorem okg_of_ev {C : CT} (hC : ∀ q ts r, C q ts r → OkR P q ts r) (hmix : P.follows .mixedOrders = true) {q : FuncId} {fn : Func} {c : Code} {pre post : OH} {nw : List Nat} {vs : List V} {r : V} (np : Nat) (hnp : np ≤ vs.length)
    (hfn : P.funcs[q]? = some fn) (hname : (fn.name == "runtime.NumGoroutine") = false) (hbody : fn.body = some c) (hok : okB fn.ntmps c = true) (hpar : parB np c = true) (hlen : vs.length ≤ fn.ntmps)
    (hpre : ∀ i o, oget pre i = some o → o.ver = 0 ∧ o.live = true ∧ ∀ v ∈ o.el, v.cl pre) (hvs : ∀ v ∈ vs, v.cl pre) (hpost : ∀ i o, oget post i = some o → (oget pre i).isSome = true ∨ i ∈ nw)
    (hle : ∀ i o o', oget pre i = some o → oget (post ++ pre) i = some o' → o'.ver = 0 → o'.live = true → o'.sz = o.sz ∧ o.el.length ≤ o'.el.length)
    (h : evC P C c ⟨fn.ntmps, argEnvV 0 vs, pre⟩ (RetG P fn np pre vs post r)) : OkG P q pre nw vs post r := by
  refine ⟨⟨fn, hfn, hname, by simp [hbody]⟩, hpre, hvs, hpost, hle, fun g0 w args hr0' hsz hrd => ?_⟩
  have hget : ∀ j, j < args.size → (args ++ Array.replicate (fn.ntmps - args.size) Go.undef).getD j Go.undef = args.getD j Go.undef := by
    intro j hj
    rw [Array.getD_eq_getD_getElem?, Array.getElem?_append_left hj, Array.getD_eq_getD_getElem?]
  have hr0 : Rel (fun j => if j < np then some (args.getD j Go.undef) else none) g0 ⟨fn.ntmps, argEnvV 0 vs, pre⟩ { tmps := args ++ Array.replicate (fn.ntmps - args.size) Go.undef, defers := [] } w := by
    refine ⟨hr0', rfl, by simp; omega, fun j => ?_, fun j v hv => ?_⟩
    · rw [argEnvV_get vs 0 j (Nat.zero_le _)]
      simp only [Nat.sub_zero]
      cases hj : vs[j]? with
      | none => trivial
      | some u =>
        have hlt : j < args.size := by rw [hsz]; exact (List.getElem?_eq_some_iff.1 hj).1
        simp only
        rw [hget j hlt]
        refine hrd j u _ hj ?_
        rw [Array.getD_eq_getD_getElem?, Array.getElem?_eq_getElem hlt]; rfl
    · split at hv
      · rename_i hj
        rw [hget j (by omega)]
        simpa using hv
      · cases hv
  refine calls_of_wp hfn hbody (wp_mono (evC_ok (np := np) hC hmix (fun d hd => if_neg (by omega)) c _ _ hok hpar h rfl g0 _ w hr0) fun e a' w' hp => ?_)
  obtain ⟨xx, s', g', rfl, hret, hrel, hfr, _⟩ := hp
  obtain ⟨hx, fz, s1, hfz, hpin, hbm, hres⟩ := hret
  obtain ⟨g1, hrel1, hfr1⟩ : ∃ g1, Rel (fun j => if j < np then some (args.getD j Go.undef) else none) g1 s1 a' w' ∧ Fr g0 pre w g1 s1.oh w' := by
    cases fz with
    | false => obtain rfl : s1 = s' := hfz; exact ⟨g', hrel, hfr⟩
    | true => obtain ⟨h1, h2⟩ := hrel.lf hfz; exact ⟨_, h1, hfr.trans h2⟩
  obtain ⟨v, hv, hrv⟩ := resultsG_ok hbm hrel1 hres
  obtain ⟨hhr, hown⟩ := bm_hr hbm hrel1.hr
  have hpl : ∀ i o, oget (post ++ pre) i = some o → o.live = true := fun i o1 ho1 => (hbm i o1 ho1).choose_spec.2.2.1
  have hFr : Fr g0 pre w g1 (post ++ pre) w' :=
    ⟨hfr1.os, hfr1.tape, hfr1.output, hfr1.size, hfr1.keep, fun b hb => hfr1.own b (hown b hb), hfr1.G, hfr1.F, hfr1.nG, hfr1.nF, hfr1.blk, fun b hb => absurd hb (MpB.none hpl)⟩
  have hpins : ∀ i o o', oget pre i = some o → oget (post ++ pre) i = some o' → o'.ver = 0 → o'.live = true → g1.m i = g0.m i ∧ g1.cp i = g0.cp i := by
    intro i o o' hi hi' hv0 hl
    obtain ⟨hsz0, ⟨o2, ho2, hv2, hl2, hs2⟩, j, u, hjn, hj, hej, hp⟩ := hpin i o o' hi hi' hv0
    obtain ⟨hov, hol, _⟩ := hpre i o hi
    have hlt : j < vs.length := (List.getElem?_eq_some_iff.1 hj).1
    have h1 := hrd j u _ hj (by rw [Array.getElem?_eq_getElem (by omega : j < args.size)])
    have h2 := hrel1.env j
    rw [hej] at h2
    have h3 := hrel1.par j (args.getD j Go.undef) (if_pos hjn)
    rw [h3, Array.getD_eq_getD_getElem?, Array.getElem?_eq_getElem (by omega : j < args.size)] at h2
    have hm := pinA_m hp hi ho2 hov hv2 hol hl2 h1 h2
    refine ⟨hm, ?_⟩
    obtain ⟨b, hb⟩ := pinA_b hp hi hov hol h1
    obtain ⟨_, q2⟩ := hr0'.obj i o hi hol
    obtain ⟨arr, ty, hh, _, hba⟩ := q2 b hb
    obtain ⟨_, q4⟩ := hrel1.hr.obj i o2 ho2 hl2
    obtain ⟨arr2, ty2, hh2, _, hba2⟩ := q4 b (by rw [hm]; exact hb)
    obtain ⟨arr3, hh3, hs3⟩ := hfr1.blk b arr ty (0, 0) hh
    rw [hh2] at hh3
    simp only [Option.some.injEq, Go.Obj.cells.injEq] at hh3
    obtain ⟨rfl, _, _⟩ := hh3
    have e1 := hba.1
    have e2 := hba2.1
    rw [hs3, e1, hs2] at e2
    exact (Nat.eq_of_mul_eq_mul_right hsz0 e2).symm
  cases xx with
  | exit id => exact hx.elim
  | normal => exact ⟨hrel.df, v, hv, v, g1, rfl, hhr, hrv, hFr, hpl, hpins⟩
  | ret => exact ⟨hrel.df, v, hv, v, g1, rfl, hhr, hrv, hFr, hpl, hpins⟩
def lkM : List (Nat × Nat × Nat) → Nat → Nat
  | [], i => i
  | (j, id, _) :: r, i => if i = j then id else lkM r i
def lkV : List (Nat × Nat × Nat) → Nat → Nat
  | [], _ => 0
  | (j, _, v) :: r, i => if i = j then v else lkV r i
theorem gen_call {C : CT} {q : FuncId} {args vs : List V} {oh pre post pre' post' : OH} {nw nw' : List Nat} {r r' : V} {k : Acc → Prop} (L : List (Nat × Nat × Nat)) (hc : C q [] (.gen pre nw vs post r))
    (e1 : rnO (lkM L) (lkV L) pre = pre') (e2 : nw.map (lkM L) = nw') (e3 : rnO (lkM L) (lkV L) post = post') (e4 : r.rn (lkM L) (lkV L) = r')
    (ha : args.map V.wk = vs.map (V.rnA (lkM L) (lkV L))) (hp : ∀ p ∈ pre', oget oh p.1 = some p.2) (hn : ∀ i ∈ nw', oget oh i = none)
    (hi : ∀ i ∈ pre.map (·.1) ++ nw, ∀ j ∈ pre.map (·.1) ++ nw, lkM L i = lkM L j → i = j) (hk : k ⟨pre', nw', post', r'⟩) : GenK C q args oh k := by
  subst e1 e2 e3 e4
  exact ⟨pre, nw, vs, post, r, _, _, hc, ha, fun p hp' => hp _ (List.mem_map.2 ⟨p, hp', rfl⟩), fun i hi' => hn _ (List.mem_map.2 ⟨i, hi', rfl⟩), hi, hk⟩
theorem rn_map {α : Type} {m vo : Nat → Nat} {F : α → V} (h : ∀ a, (F a).rnA m vo = F a) (l : List α) : (l.map F).map (V.rnA m vo) = l.map F := by
  rw [List.map_map]; exact List.map_congr_left fun a _ => h a
theorem allp_nil {oh : OH} : ∀ p ∈ ([] : OH), oget oh p.1 = some p.2 := fun _ h => by simp at h
theorem allp_cons {oh r : OH} {i : Nat} {o : Obj} (h : oget oh i = some o) (k : ∀ p ∈ r, oget oh p.1 = some p.2) : ∀ p ∈ (i, o) :: r, oget oh p.1 = some p.2 := by
  intro p hp
  rcases List.mem_cons.1 hp with rfl | hp
  · exact h
  · exact k p hp
theorem alln_nil {oh : OH} : ∀ i ∈ ([] : List Nat), oget oh i = none := fun _ h => by simp at h
theorem alln_cons {oh : OH} {i : Nat} {r : List Nat} (h : oget oh i = none) (k : ∀ i ∈ r, oget oh i = none) : ∀ j ∈ i :: r, oget oh j = none := by
  intro p hp
  rcases List.mem_cons.1 hp with rfl | hp
  · exact h
  · exact k p hp
theorem inj1 {m : Nat → Nat} {a : Nat} : ∀ i ∈ [a], ∀ j ∈ [a], m i = m j → i = j := by
  intro i hi j hj _
  rw [List.mem_singleton.1 hi, List.mem_singleton.1 hj]
theorem inj2 {m : Nat → Nat} {a b : Nat} (h : m a ≠ m b) : ∀ i ∈ [a, b], ∀ j ∈ [a, b], m i = m j → i = j := by
  intro i hi j hj e
  simp only [List.mem_cons, List.not_mem_nil, or_false] at hi hj
  rcases hi with rfl | rfl <;> rcases hj with rfl | rfl
  · rfl
  · exact absurd e h
  · exact absurd e.symm h
  · rfl
theorem ren_one {oh : OH} {id sz ver : Nat} {el : List V} (ho : oget oh id = some ⟨sz, el, ver, true⟩) (hs : ∀ e ∈ el, ∃ c, e = .con c) : Ren oh [(0, ⟨sz, el, 0, true⟩)] (fun _ => id) := by
  refine ⟨fun i j o1 o2 h1 h2 _ => ?_, fun i o1 h1 => ?_⟩
  · by_cases e1 : i = 0
    · by_cases e2 : j = 0
      · omega
      · rw [oget_cons_other _ _ e2] at h2; cases h2
    · rw [oget_cons_other _ _ e1] at h1; cases h1
  · by_cases e1 : i = 0
    · subst e1
      rw [oget_cons_same] at h1
      obtain rfl : (⟨sz, el, 0, true⟩ : Obj) = o1 := by simpa using h1
      refine ⟨_, ho, rfl, rfl, rfl, rfl, rfl, fun k e e1 he he1 => ?_⟩
      have he2 : el[k]? = some e := he
      have he3 : el[k]? = some e1 := he1
      rw [he2] at he3
      obtain rfl : e = e1 := by simpa using he3
      obtain ⟨c, rfl⟩ := hs e (List.mem_of_getElem? he2)
      exact RenC.con c
    · rw [oget_cons_other _ _ e1] at h1; cases h1
theorem bm_scal {oh oh1 : OH} (h : ∀ i o1, oget oh1 i = some o1 → o1.live = true ∧ (∃ v, oget oh i = some ⟨o1.sz, o1.el, v, true⟩) ∧ ∀ e ∈ o1.el, ∃ c, e = .con c) : Bm oh oh1 := by
  intro i o1 hi
  obtain ⟨hl, ⟨v, ho⟩, hs⟩ := h i o1 hi
  refine ⟨_, ho, rfl, hl, rfl, rfl, fun k e e1 he he1 => ?_⟩
  have he2 : o1.el[k]? = some e := he
  rw [he2] at he1
  obtain rfl : e = e1 := by simpa using he1
  obtain ⟨c, rfl⟩ := hs e (List.mem_of_getElem? he2)
  exact BmC.con c
theorem oget_one {i : Nat} {o o1 : Obj} {id : Nat} (h : oget [(id, o)] i = some o1) : i = id ∧ o1 = o := by
  by_cases e : i = id
  · subst e
    rw [oget_cons_same] at h
    exact ⟨rfl, by simpa using h.symm⟩
  · rw [oget_cons_other _ _ e] at h; cases h
def Keep (p : Prop) : Prop := p
theorem Keep.mk {p : Prop} (h : p) : Keep p := h
theorem Keep.out {p : Prop} (h : Keep p) : p := h
end Go.Ev
