/-
  OWN LAYER 'Ev', PART J: CALLS; EVERY STEP; A REGION IN THE ORDER OF THE TEXT; CODE.
-/
import Derived.Test.YtfaegonekocakaaEvI
set_option linter.all false
namespace Go.Ev

section
variable {P : Program} {g : Gh} {oh : OH} {w : World}

theorem toT1_ok {v : V} {x : Value} {t : T} (hF : ∀ b o c, g.F b o = some c → g.G b o = some c) (h : RdV1 g oh v x) (ht : V.toT1 v = some t) : RdT g.G t x := by
  unfold V.toT1 at ht
  split at ht
  · cases ht; obtain ⟨rfl, h1⟩ := h; exact .con _ h1
  · rename_i f t'
    cases ht
    cases f
    · exact h.1
    · exact h.1.mono hF
  · cases ht; obtain ⟨a, rfl⟩ := h
    exact .sl [] a 0 0 0 0 (fun _ _ => Go.undef) (Nat.le_refl _) (by decide) (by simp) (by simp) (by simp) (by simp) (by simp)
  · cases ht

theorem toTs_len : ∀ {l : List V} {ts : List T}, toTs l = some ts → ts.length = l.length ∧ ∀ (j : Nat) (v : V) (t : T), l[j]? = some v → ts[j]? = some t → V.toT1 v = some t
  | [], ts, h => by cases h; simp
  | x :: r, ts, h => by
    unfold toTs at h
    split at h
    · rename_i t ts' h1 h2
      cases h
      obtain ⟨h3, h4⟩ := toTs_len h2
      refine ⟨by simp [h3], fun j v t' hv ht => ?_⟩
      cases j with
      | zero => simp at hv ht; subst hv; subst ht; exact h1
      | succ j => exact h4 j v t' (by simpa using hv) (by simpa using ht)
    · cases h

theorem toT_ok {v : V} {x : Value} {t : T} (hF : ∀ b o c, g.F b o = some c → g.G b o = some c) (h : RdV g oh v x) (ht : V.toT v = some t) : RdT g.G t x := by
  unfold V.toT at ht
  split at ht
  · rename_i l
    split at ht
    · rename_i ts hts
      cases ht
      obtain ⟨cs, rfl, hl, hr⟩ := h
      obtain ⟨h3, h4⟩ := toTs_len hts
      refine .agg ts cs (by omega) (fun j c hc => ?_) (fun j u c hu hc => ?_)
      · have hj : j < l.length := by rw [← hl]; exact (Array.getElem?_eq_some_iff.1 hc).1
        exact (hr j l[j] c (by simp [hj]) hc).2
      · have hj : j < l.length := by rw [← h3]; exact (List.getElem?_eq_some_iff.1 hu).1
        exact toT1_ok hF (hr j l[j] c (by simp [hj]) hc).1 (h4 j l[j] u (by simp [hj]) hu)
    · cases ht
  · rename_i hne
    have h1 : RdV1 g oh v x := by
      cases v with
      | agg l => exact absurd rfl (hne l)
      | tup l => simp [V.toT1] at ht
      | _ => exact h
    exact toT1_ok hF h1 ht

theorem toTA_len : ∀ {l : List V} {ts : List T}, toTA l = some ts → ts.length = l.length ∧ ∀ (j : Nat) (v : V) (t : T), l[j]? = some v → ts[j]? = some t → V.toT v = some t
  | [], ts, h => by cases h; simp
  | x :: r, ts, h => by
    unfold toTA at h
    split at h
    · rename_i t ts' h1 h2
      cases h
      obtain ⟨h3, h4⟩ := toTA_len h2
      refine ⟨by simp [h3], fun j v t' hv ht => ?_⟩
      cases j with
      | zero => simp at hv ht; subst hv; subst ht; exact h1
      | succ j => exact h4 j v t' (by simpa using hv) (by simpa using ht)
    · cases h

theorem ofT_ok {f : Bool} {t : T} {v : Value} (h : RdT (g.sto f) t v) : RdV g oh (V.ofT f t) v := by
  unfold V.ofT
  split
  · cases h with
    | tup l vs hl h1 hr =>
      refine ⟨vs, rfl, by simpa using hl, fun j u c hu hc => ?_⟩
      rw [List.getElem?_map] at hu
      obtain ⟨t', ht, rfl⟩ := Option.map_eq_some_iff.1 hu
      have := hr j t' c ht hc
      cases t' with
      | tup l' => 
        cases this with
        | tup _ vs' _ _ => exact absurd hc (h1 j vs')
      | _ => exact ofA_ok this (fun hne => one_of_rdT this hne (by simp))
  · rename_i hne
    have := ofA_ok (g := g) (oh := oh) h (fun h1 => one_of_rdT h h1 hne)
    cases t with
    | tup l => exact absurd rfl (hne l)
    | agg l => exact this
    | _ => exact this

/-- What a store must hold for data that is handed back. -/
structure Final (g : Gh) (oh : OH) (w : World) (f : Bool) (S : Sto) : Prop where
  F : ∀ b o c, g.F b o = some c → S b o = some c
  G : f = false → ∀ b o c, g.G b o = some c → S b o = some c
  own : ∀ b, Owned g oh b → ∀ o c, w.cell? ⟨b, o, none⟩ = some c → S b o = some c

theorem fz1_ok {f : Bool} {S : Sto} (hr : HR g oh w) (hS : Final g oh w f S) {v : V} {t : T} (h : Fz1 oh f v t) : ∀ {x : Value}, RdV1 g oh v x → RdT S t x ∧ x.oneCell' = true := by
  induction h with
  | con v => intro x hx; obtain ⟨rfl, h1⟩ := hx; exact ⟨.con _ h1, h1⟩
  | ro f' t hf =>
    intro x hx
    refine ⟨hx.1.mono ?_, hx.2⟩
    cases f' with
    | true => exact hS.F
    | false =>
      cases f with
      | true => exact absurd (hf rfl) (by simp)
      | false => exact hS.G rfl
  | emp =>
    intro x hx
    obtain ⟨a, rfl⟩ := hx
    exact ⟨.sl [] a 0 0 0 0 (fun _ _ => Go.undef) (Nat.le_refl _) (by decide) (by simp) (by simp) (by simp) (by simp) (by simp), rfl⟩
  | own id ver off len o ts ho hv hl hn hs hc ih =>
    intro x hx
    obtain ⟨hx1, o', ho', _, hat⟩ := hx
    rw [ho] at ho'
    obtain rfl : o = o' := by simpa using ho'
    obtain ⟨a, cap, rfl, hlc, hoff, hcap⟩ := hat hv hl
    refine ⟨?_, rfl⟩
    by_cases hc0 : cap = 0
    · obtain rfl : len = 0 := by omega
      obtain rfl : ts = [] := List.eq_nil_of_length_eq_zero hn
      exact .sl [] a cap 0 0 0 (fun _ _ => Go.undef) (by simp) (by rw [hc0]; decide) (by simp) (by simp) (by simp) (by simp) (by simp)
    · obtain ⟨b, hb, rfl, hcp⟩ := hcap hc0
      obtain ⟨arr, ty, hh, _, hbs, hbl, hbm, hels⟩ := (hr.obj id o ho hl).2 b hb
      have hown : Owned g oh b := ⟨id, o, ho, hl, hb⟩
      have hel : ∀ i, i < len → ∃ e, o.el[off + i]? = some e := fun i hi => ⟨o.el[off + i]'(by omega), by simp⟩
      have hti : ∀ (i : Nat) (t : T), ts[i]? = some t → i < len := fun i t h => by rw [← hn]; exact (List.getElem?_eq_some_iff.1 h).1
      have hcell : ∀ (i : Nat) (t : T) (j : Nat), ts[i]? = some t → j < t.cells.length →
          ∃ e v c, o.el[off + i]? = some e ∧ e.cells[j]? = some v ∧ arr[(off + i) * o.sz + j]? = some c ∧ c.oneCell' = true ∧ RdV1 g oh v c := by
        intro i t j ht hj
        have hi := hti i t ht
        obtain ⟨e, he⟩ := hel i hi
        have hl2 := hs i e t hi he ht
        obtain ⟨q1, q2⟩ := hels _ e he
        have hje : j < e.cells.length := by omega
        obtain ⟨c, c1, c2, c3⟩ := q2 j e.cells[j] (by simp [hje])
        exact ⟨e, _, c, he, by simp [hje], c1, c2, c3⟩
      have hgetD : ∀ (i j : Nat) (c : Value), arr[(off + i) * o.sz + j]? = some c → arr.getD ((off + i) * o.sz + j) Go.undef = c := by
        intro i j c h; rw [Array.getD_eq_getD_getElem?, h]; rfl
      rw [← hn]
      refine .sl ts _ cap o.sz b (off * o.sz) (fun i j => arr.getD ((off + i) * o.sz + j) Go.undef) (by omega) (by omega) (fun _ => rfl) (fun i t ht => ?_) (fun i t j ht hj => ?_) (fun i t j ht hj => ?_) (fun i t j u ht hu => ?_)
      · have hi := hti i t ht
        obtain ⟨e, he⟩ := hel i hi
        rw [hs i e t hi he ht]; exact (hels _ e he).1
      · obtain ⟨e, v, c, he, hv2, h1, h2, h3⟩ := hcell i t j ht hj
        rw [hgetD i j c h1]
        refine hS.own b hown _ _ ?_
        rw [cell_of_row w b _ arr ty _ hh, ← h1]; congr 1; rw [Nat.add_mul]
      · obtain ⟨e, v, c, he, hv2, h1, h2, h3⟩ := hcell i t j ht hj
        rw [hgetD i j c h1]; exact h2
      · have hj : j < t.cells.length := (List.getElem?_eq_some_iff.1 hu).1
        obtain ⟨e, v, c, he, hv2, h1, h2, h3⟩ := hcell i t j ht hj
        rw [hgetD i j c h1]
        exact (ih i e t j v u (hti i t ht) he ht hv2 hu h3).1

theorem fzA_ok {f : Bool} {S : Sto} (hr : HR g oh w) (hS : Final g oh w f S) {v : V} {t : T} (h : FzA oh f v t) {x : Value} (hx : RdV g oh v x) : RdT S t x ∧ ∀ us, x ≠ .tuple us := by
  have one : ∀ v, Fz1 oh f v t → RdV1 g oh v x → RdT S t x ∧ ∀ us, x ≠ .tuple us := by
    intro v h1 h2
    obtain ⟨h3, h4⟩ := fz1_ok hr hS h1 h2
    exact ⟨h3, fun us e => by rw [e] at h4; simp [Value.oneCell'] at h4⟩
  cases v with
  | agg l =>
    cases t with
    | agg ts =>
      obtain ⟨hl, hf⟩ := h
      obtain ⟨cs, rfl, hcl, hc⟩ := hx
      refine ⟨.agg ts cs (by omega) (fun j c hcj => ?_) (fun j u c hu hcj => ?_), by simp⟩
      · have hj : j < l.length := by rw [← hcl]; exact (Array.getElem?_eq_some_iff.1 hcj).1
        exact (hc j l[j] c (by simp [hj]) hcj).2
      · have hj : j < l.length := by rw [hl]; exact (List.getElem?_eq_some_iff.1 hu).1
        exact (fz1_ok hr hS (hf j l[j] u (by simp [hj]) hu) (hc j l[j] c (by simp [hj]) hcj).1).1
    | _ => exact h.elim
  | tup l => cases h
  | undef => cases h
  | con q => exact one _ h hx
  | ro f' t' => exact one _ h hx
  | emp => exact one _ h hx
  | own a1 a2 a3 a4 => exact one _ h hx
  | ref a1 a2 a3 a4 => exact one _ h hx

/-- Behind a call: new read-only memory. -/
theorem HR.called (h : HR g oh w) {w' : World} {N : Sto} (hb : RowKit.Below w.heap.size w w') (hN : ∀ b o c, N b o = some c → w.heap.size ≤ b ∧ w'.cell? ⟨b, o, none⟩ = some c) :
    HR { g with G := g.G.un N, F := g.F.un N } oh w' ∧ Mono g oh { g with G := g.G.un N, F := g.F.un N } oh ∧ Fr g oh w { g with G := g.G.un N, F := g.F.un N } oh w' := by
  have hGlt : ∀ b o c, g.G b o = some c → b < w.heap.size := fun b o c hc => lt_of_cell (h.hG b o c hc)
  have hG : ∀ b o c, g.G b o = some c → g.G.un N b o = some c := fun b o c hc => by simp [Sto.un, hc]
  have hFm : ∀ b o c, g.F b o = some c → g.F.un N b o = some c := fun b o c hc => by simp [Sto.un, hc]
  have hm : Mono g oh { g with G := g.G.un N, F := g.F.un N } oh :=
    RdV1.lift hFm hG fun id o ho => ⟨o, ho, Nat.le_refl _, fun _ hl => ⟨hl, rfl, Nat.le_refl _, rfl, rfl⟩⟩
  have split : ∀ (S : Sto) b o c, S.un N b o = some c → S b o = some c ∨ N b o = some c := by
    intro S b o c hc
    unfold Sto.un at hc
    split at hc
    · rename_i c' hc'; left; rw [hc']; simpa using hc
    · exact .inr hc
  refine ⟨⟨?_, ?_, ?_, h.inj⟩, hm, ⟨hb.os, hb.tape, hb.output, hb.size, fun b hlt _ => hb.block b hlt, fun _ h => .inl h, hG, hFm, ?_, ?_⟩⟩
  · intro b o c hc
    rcases split _ b o c hc with h' | h'
    · rw [cell_of_heap (hb.block b (hGlt _ _ _ h'))]; exact h.hG b o c h'
    · exact (hN b o c h').2
  · intro b o c hc
    show g.G.un N b o = some c
    rcases split _ b o c hc with h' | h'
    · exact hG b o c (h.hF b o c h')
    · unfold Sto.un
      cases hg : g.G b o with
      | none => exact h'
      | some c' => have := hGlt b o c' hg; have := (hN b o c h').1; omega
  · intro i o ho hl
    obtain ⟨h1, h2⟩ := h.obj i o ho hl
    refine ⟨h1, fun b hbm => ?_⟩
    obtain ⟨arr, ty, hh, hg, hba⟩ := h2 b hbm
    have hlt := lt_of_heap hh
    refine ⟨arr, ty, (hb.block b hlt).trans hh, fun off => ?_, hba.mono hm⟩
    show g.G.un N b off = none
    cases hu : g.G.un N b off with
    | none => rfl
    | some c =>
      rcases split _ b off c hu with h' | h'
      · rw [hg] at h'; cases h'
      · have := (hN b off c h').1; omega
  · intro b o c hc
    rcases split _ b o c hc with h' | h'
    · exact .inl h'
    · exact .inr (.inr (hN b o c h').1)
  · intro b o c hc
    rcases split _ b o c hc with h' | h'
    · exact .inl h'
    · exact .inr (.inr (hN b o c h').1)

theorem step_call {C : CT} (hC : ∀ q ts r, C q ts r → OkR P q ts r) {o : Oper} {c : Call} {f : Operand} {q : FuncId} {ts : List T} {e : Operand → V} {oh : OH} {k : Acc → Prop}
    (ho : o.op = .call c) (hc : c.callee = .value f) (hf : V.fn? (e f) = some q) (hts : toTA (c.args.toList.map e) = some ts) (h : ∃ fr r, C q ts (.data fr r) ∧ free k (V.ofT fr r)) : Some P o e oh k := by
  obtain ⟨fr, r, hCC, hk⟩ := h
  obtain ⟨⟨fn, hfn, hname, hbody⟩, hok⟩ := hC q ts (.data fr r) hCC
  have hfe : e f = .con (.func (.func q) #[] #[]) := by
    unfold V.fn? at hf
    split at hf
    · rename_i q' a b he
      split at hf
      · rename_i ha hb
        have ha' : a = #[] := by rw [← Array.toArray_toList (xs := a), ha]
        have hb' : b = #[] := by rw [← Array.toArray_toList (xs := b), hb]
        rw [he, ha', hb']; simpa using hf
      · cases hf
    · cases hf
  have hmf : f ∈ o.op.operands := by simp [ho, Op.operands, Call.operands, hc]
  have hma : ∀ x ∈ c.args.toList, x ∈ o.op.operands := by
    intro x hx; simp only [ho, Op.operands, Call.operands, hc]; simp at hx ⊢; exact .inr hx
  obtain ⟨hl, htt⟩ := toTA_len hts
  refine ⟨_, ?_, by simp, by simp, hk⟩
  intro g oh' w ρ hr hρ _ _
  have hrf := hρ f hmf; rw [hfe] at hrf
  have hex : (execOp ρ o).run P w = .ok (.enter q (c.args.map ρ)) w := by
    have h1 : fn.name ≠ "runtime.NumGoroutine" := by simpa using hname
    have h2 : fn.body ≠ none := by intro e; simp [e] at hbody
    simp [execOp, ho, resolve, hc, hrf.1, Deferred.ofValue, invoke, callFunc, hfn, h1, h2]
  rw [hex]
  have hreads : Reads g.G ts (c.args.map ρ) := by
    refine ⟨by simp [hl], fun j t x ht hx => ?_⟩
    rw [Array.getElem?_map] at hx
    obtain ⟨op, hop, rfl⟩ := Option.map_eq_some_iff.1 hx
    have hop' : c.args.toList[j]? = some op := by simpa using hop
    exact toT_ok hr.hF (hρ op (hma op (List.mem_of_getElem? hop'))) (htt j (e op) t (by rw [List.getElem?_map, hop']; rfl) ht)
  refine (hok g.G w _ hr.hG hreads).mono fun en w' hen => ?_
  obtain ⟨v, N, rfl, hb, hN, hrd⟩ := hen
  obtain ⟨h1, h2, h3⟩ := hr.called hb hN
  refine ⟨v, rfl, _, h1, ?_, h2, h3⟩
  refine ofT_ok ?_
  cases fr with
  | true =>
    refine hrd.mono fun b o c hc => ?_
    show g.F.un N b o = some c
    unfold Sto.un
    cases hg : g.F b o with
    | none => exact hc
    | some c' => have := lt_of_cell (hr.hG _ _ _ (hr.hF b o c' hg)); have := (hN b o c hc).1; omega
  | false => exact hrd

/-! ### a call that hands back objects -/
theorem newId_le : ∀ {oh : OH} {i : Nat} {o : Obj}, oget oh i = some o → i < newId oh
  | (j, o') :: r, i, o, h => by
    unfold oget at h
    unfold newId
    split at h
    · rename_i hj; subst hj; split <;> omega
    · have := newId_le h
      split <;> omega
theorem oget_shO (d : Nat) : ∀ (oh : OH) (i : Nat), oget (shO d oh) (i + d) = (oget oh i).map (Obj.sh d)
  | [], i => rfl
  | (j, o) :: r, i => by
    have ih := oget_shO d r i
    simp only [shO, List.map_cons, oget] at ih ⊢
    by_cases h : j = i
    · subst h; simp
    · rw [if_neg (by omega), if_neg h]; exact ih
theorem shO_ge {d : Nat} : ∀ {oh : OH} {i : Nat}, i ∈ (shO d oh).map (·.1) → d ≤ i := by
  intro oh i h
  simp only [shO, List.map_map, List.mem_map] at h
  obtain ⟨p, _, rfl⟩ := h
  simp
theorem oget_memF : ∀ {l : OH} {i : Nat} {o : Obj}, oget l i = some o → i ∈ l.map (·.1)
  | (j, o') :: r, i, o, h => by
    unfold oget at h
    split at h
    · rename_i e; simp [← e]
    · simp only [List.map_cons, List.mem_cons]; exact .inr (oget_memF h)
theorem oget_shO_some {d : Nat} {oh : OH} {i : Nat} {o : Obj} (h : oget (shO d oh) i = some o) : ∃ j o0, i = j + d ∧ oget oh j = some o0 ∧ o = o0.sh d := by
  have hi : i ∈ (shO d oh).map (·.1) := oget_memF h
  have hd := shO_ge hi
  obtain ⟨j, rfl⟩ : ∃ j, i = j + d := ⟨i - d, by omega⟩
  rw [oget_shO] at h
  obtain ⟨o0, h0, rfl⟩ := Option.map_eq_some_iff.1 h
  exact ⟨j, o0, rfl, h0, rfl⟩
theorem sh1_len (d : Nat) (e : V) : (e.shA d).cells.length = e.cells.length := by
  cases e <;> simp [V.shA, V.cells, V.sh1]
theorem shA_cells (d : Nat) (e : V) : (e.shA d).cells = e.cells.map (V.sh1 d) := by
  cases e <;> simp [V.shA, V.cells, V.sh1]
theorem oget_app (p oh : OH) (i : Nat) : oget (p ++ oh) i = (match oget p i with | some o => some o | none => oget oh i) := by
  induction p with
  | nil => rfl
  | cons q r ih =>
    obtain ⟨c, o⟩ := q
    simp only [List.cons_append, oget]
    by_cases h : c = i <;> simp [ih, h]

theorem HR.calledO (h : HR g oh w) {w' : World} {gn : Gh} {on : OH} {d : Nat} (hb : RowKit.Below w.heap.size w w') (hn : HR gn on w')
    (hG : ∀ b o c, gn.G b o = some c → g.G b o = some c ∨ w.heap.size ≤ b) (hF : ∀ b o c, gn.F b o = some c → w.heap.size ≤ b) (hO : ∀ b, Owned gn on b → w.heap.size ≤ b)
    (hfresh : ∀ i, i ∈ (shO d on).map (·.1) → oget oh i = none) :
    ∃ g', HR g' (shO d on ++ oh) w' ∧ Mono g oh g' (shO d on ++ oh) ∧ Fr g oh w g' (shO d on ++ oh) w' ∧ (∀ v x, RdV1 gn on v x → RdV1 g' (shO d on ++ oh) (v.sh1 d) x) := by
  have hGlt : ∀ b o c, g.G b o = some c → b < w.heap.size := fun b o c hc => lt_of_cell (h.hG b o c hc)
  let isN : Nat → Bool := fun i => (oget (shO d on) i).isSome
  let g' : Gh := ⟨g.G.un gn.G, g.F.un gn.F, fun i => if isN i = true then gn.m (i - d) else g.m i, fun i => if isN i = true then gn.cp (i - d) else g.cp i⟩
  have hgG : ∀ b o c, g.G b o = some c → g'.G b o = some c := fun b o c hc => by simp [g', Sto.un, hc]
  have hgF : ∀ b o c, g.F b o = some c → g'.F b o = some c := fun b o c hc => by simp [g', Sto.un, hc]
  have hnG : ∀ b o c, gn.G b o = some c → g'.G b o = some c := by
    intro b o c hc
    rcases hG b o c hc with h' | h'
    · exact hgG b o c h'
    · show g.G.un gn.G b o = some c
      unfold Sto.un
      cases hq : g.G b o with
      | none => exact hc
      | some c' => have := hGlt b o c' hq; omega
  have hnF : ∀ b o c, gn.F b o = some c → g'.F b o = some c := by
    intro b o c hc
    have h' := hF b o c hc
    show g.F.un gn.F b o = some c
    unfold Sto.un
    cases hq : g.F b o with
    | none => exact hc
    | some c' => have := hGlt b o c' (h.hF _ _ _ hq); omega
  have split : ∀ (S N : Sto) b o c, S.un N b o = some c → S b o = some c ∨ N b o = some c := by
    intro S N b o c hc
    unfold Sto.un at hc
    split at hc
    · rename_i c' hc'; left; rw [hc']; simpa using hc
    · exact .inr hc
  have hold : ∀ i o, oget oh i = some o → isN i = false ∧ oget (shO d on ++ oh) i = some o := by
    intro i o ho
    have hi : oget (shO d on) i = none := by
      cases hq : oget (shO d on) i with
      | none => rfl
      | some o' =>
        have hm : i ∈ (shO d on).map (·.1) := oget_memF hq
        rw [hfresh i hm] at ho; cases ho
    exact ⟨by simp [isN, hi], by rw [oget_app, hi]; exact ho⟩
  have hnew : ∀ j o0, oget on j = some o0 → isN (j + d) = true ∧ oget (shO d on ++ oh) (j + d) = some (o0.sh d) := by
    intro j o0 hj
    have : oget (shO d on) (j + d) = some (o0.sh d) := by rw [oget_shO, hj]; rfl
    exact ⟨by simp [isN, this], by rw [oget_app, this]⟩
  have hcase : ∀ i o, oget (shO d on ++ oh) i = some o → (∃ j o0, i = j + d ∧ oget on j = some o0 ∧ o = o0.sh d ∧ isN i = true) ∨ (oget oh i = some o ∧ isN i = false) := by
    intro i o ho
    rw [oget_app] at ho
    cases hq : oget (shO d on) i with
    | some o' =>
      rw [hq] at ho
      obtain ⟨j, o0, e1, e2, e3⟩ := oget_shO_some hq
      obtain rfl : o' = o := by simpa using ho
      exact .inl ⟨j, o0, e1, e2, e3, by simp [isN, hq]⟩
    | none => rw [hq] at ho; exact .inr ⟨ho, by simp [isN, hq]⟩
  have hsh : ∀ v x, RdV1 gn on v x → RdV1 g' (shO d on ++ oh) (v.sh1 d) x := by
    intro v x hx
    cases v with
    | undef => trivial
    | con v => exact hx
    | ro f t =>
      refine ⟨hx.1.mono ?_, hx.2⟩
      cases f
      · exact hnG
      · exact hnF
    | emp => exact hx
    | own id ver off len =>
      obtain ⟨h1, o0, ho, hv, hc⟩ := hx
      obtain ⟨n1, n2⟩ := hnew id o0 ho
      refine ⟨h1, o0.sh d, n2, hv, fun e hl => ?_⟩
      obtain ⟨a, cap, e1, e2, e3, e4⟩ := hc e hl
      refine ⟨a, cap, e1, e2, by simpa [Obj.sh] using e3, fun hcap => ?_⟩
      obtain ⟨b, b1, b2, b3⟩ := e4 hcap
      exact ⟨b, by simp [g', n1, b1], b2, by simpa [g', n1] using b3⟩
    | ref id ver i foff =>
      obtain ⟨h1, o0, ho, hv, hc⟩ := hx
      obtain ⟨n1, n2⟩ := hnew id o0 ho
      refine ⟨h1, o0.sh d, n2, hv, fun e hl => ?_⟩
      obtain ⟨b, b1, b2⟩ := hc e hl
      exact ⟨b, by simp [g', n1, b1], b2⟩
    | agg l => exact hx.elim
    | tup l => exact hx.elim
  have hm : Mono g oh g' (shO d on ++ oh) :=
    RdV1.lift hgF hgG fun id o ho => ⟨o, (hold id o ho).2, Nat.le_refl _, fun _ hl => ⟨hl, rfl, Nat.le_refl _, by simp [g', (hold id o ho).1], by simp [g', (hold id o ho).1]⟩⟩
  have hown : ∀ b, Owned g oh b → b < w.heap.size := by
    rintro b ⟨i, o, ho, hol, hmi⟩
    obtain ⟨arr', ty', hh, _⟩ := (h.obj i o ho hol).2 b hmi
    exact lt_of_heap hh
  refine ⟨g', ⟨?_, ?_, ?_, ?_⟩, hm, ⟨hb.os, hb.tape, hb.output, hb.size, fun b hlt _ => hb.block b hlt, ?_, hgG, hgF, ?_, ?_⟩, hsh⟩
  · intro b o c hc
    rcases split _ _ b o c hc with h' | h'
    · rw [cell_of_heap (hb.block b (hGlt _ _ _ h'))]; exact h.hG b o c h'
    · exact hn.hG b o c h'
  · intro b o c hc
    rcases split _ _ b o c hc with h' | h'
    · exact hgG b o c (h.hF b o c h')
    · exact hnG b o c (hn.hF b o c h')
  · intro i o ho hl
    rcases hcase i o ho with ⟨j, o0, rfl, hj, rfl, hN⟩ | ⟨ho', hN⟩
    · obtain ⟨h1, h2⟩ := hn.obj j o0 hj hl
      refine ⟨fun hmn => ?_, fun b hbm => ?_⟩
      · have := h1 (by simpa [g', hN] using hmn)
        simp [Obj.sh, this]
      · have hbm' : gn.m j = some b := by simpa [g', hN] using hbm
        obtain ⟨arr, ty, hh, hg, hba⟩ := h2 b hbm'
        have hge := hO b ⟨j, o0, hj, hl, hbm'⟩
        refine ⟨arr, ty, hh, fun off => ?_, ?_⟩
        · cases hu : g'.G b off with
          | none => rfl
          | some c =>
            rcases split _ _ b off c hu with h' | h'
            · have := hGlt b off c h'; omega
            · rw [hg] at h'; cases h'
        · have ecp : g'.cp (j + d) = gn.cp j := by simp [g', hN]
          rw [ecp]
          refine ⟨hba.1, by simpa [Obj.sh] using hba.2.1, hba.2.2.1, fun k e he => ?_⟩
          have he' : (o0.el.map (V.shA d))[k]? = some e := he
          rw [List.getElem?_map] at he'
          obtain ⟨e0, h0, rfl⟩ := Option.map_eq_some_iff.1 he'
          obtain ⟨q1, q2⟩ := hba.2.2.2 k e0 h0
          refine ⟨by rw [sh1_len]; exact q1, fun j' v hv => ?_⟩
          rw [shA_cells, List.getElem?_map] at hv
          obtain ⟨v0, hv0, rfl⟩ := Option.map_eq_some_iff.1 hv
          obtain ⟨c, c1, c2, c3⟩ := q2 j' v0 hv0
          exact ⟨c, c1, c2, hsh _ _ c3⟩
    · obtain ⟨h1, h2⟩ := h.obj i o ho' hl
      refine ⟨fun hmn => h1 (by simpa [g', hN] using hmn), fun b hbm => ?_⟩
      obtain ⟨arr, ty, hh, hg, hba⟩ := h2 b (by simpa [g', hN] using hbm)
      have hlt := lt_of_heap hh
      refine ⟨arr, ty, (hb.block b hlt).trans hh, fun off => ?_, by simpa [g', hN] using hba.mono hm⟩
      cases hu : g'.G b off with
      | none => rfl
      | some c =>
        rcases split _ _ b off c hu with h' | h'
        · rw [hg] at h'; cases h'
        · rcases hG b off c h' with h'' | h''
          · rw [hg] at h''; cases h''
          · omega
  · intro i j oi oj b hi hj hli hlj hmi hmj
    rcases hcase i oi hi with ⟨i0, o0, rfl, hi0, rfl, hN⟩ | ⟨hi', hN⟩ <;> rcases hcase j oj hj with ⟨j0, o1, rfl, hj0, rfl, hN2⟩ | ⟨hj', hN2⟩
    · have := hn.inj i0 j0 o0 o1 b hi0 hj0 hli hlj (by simpa [g', hN] using hmi) (by simpa [g', hN2] using hmj)
      omega
    · have h1 := hO b ⟨i0, o0, hi0, hli, by simpa [g', hN] using hmi⟩
      have h2 := hown b ⟨j, oj, hj', hlj, by simpa [g', hN2] using hmj⟩
      omega
    · have h1 := hO b ⟨j0, o1, hj0, hlj, by simpa [g', hN2] using hmj⟩
      have h2 := hown b ⟨i, oi, hi', hli, by simpa [g', hN] using hmi⟩
      omega
    · exact h.inj i j oi oj b hi' hj' hli hlj (by simpa [g', hN] using hmi) (by simpa [g', hN2] using hmj)
  · rintro b ⟨i, o, ho, hol, hmi⟩
    rcases hcase i o ho with ⟨j, o0, rfl, hj, rfl, hN⟩ | ⟨ho', hN⟩
    · exact .inr (hO b ⟨j, o0, hj, hol, by simpa [g', hN] using hmi⟩)
    · exact .inl ⟨i, o, ho', hol, by simpa [g', hN] using hmi⟩
  · intro b o c hc
    rcases split _ _ b o c hc with h' | h'
    · exact .inl h'
    · rcases hG b o c h' with h'' | h''
      · exact .inl h''
      · exact .inr (.inr h'')
  · intro b o c hc
    rcases split _ _ b o c hc with h' | h'
    · exact .inl h'
    · exact .inr (.inr (hF b o c h'))

theorem sh_rd {g' : Gh} {oh' : OH} {gn : Gh} {on : OH} {d : Nat} (h1 : ∀ v x, RdV1 gn on v x → RdV1 g' oh' (v.sh1 d) x) {v : V} {x : Value} (h : RdV gn on v x) : RdV g' oh' (v.sh d) x := by
  have hA : ∀ v x, RdA gn on v x → RdA g' oh' (v.shA d) x := by
    intro v x h
    cases v with
    | agg l =>
      obtain ⟨cs, rfl, hl, hr⟩ := h
      refine ⟨cs, rfl, by simpa using hl, fun j u c hu hc => ?_⟩
      rw [List.getElem?_map] at hu
      obtain ⟨u0, h0, rfl⟩ := Option.map_eq_some_iff.1 hu
      exact ⟨h1 _ _ (hr j u0 c h0 hc).1, (hr j u0 c h0 hc).2⟩
    | undef => trivial
    | tup l => exact h.elim
    | con q => exact h1 (.con q) x h
    | ro f t => exact h1 (.ro f t) x h
    | emp => exact h1 .emp x h
    | own a b c e => exact h1 (.own a b c e) x h
    | ref a b c e => exact h1 (.ref a b c e) x h
  cases v with
  | tup l =>
    obtain ⟨vs, rfl, hl, hr⟩ := h
    refine ⟨vs, rfl, by simpa using hl, fun j u c hu hc => ?_⟩
    rw [List.getElem?_map] at hu
    obtain ⟨u0, h0, rfl⟩ := Option.map_eq_some_iff.1 hu
    exact hA _ _ (hr j u0 c h0 hc)
  | agg l => exact hA (.agg l) x h
  | undef => trivial
  | con q => exact hA (.con q) x h
  | ro f t => exact hA (.ro f t) x h
  | emp => exact hA .emp x h
  | own a b c e => exact hA (.own a b c e) x h
  | ref a b c e => exact hA (.ref a b c e) x h

theorem step_objs {C : CT} (hC : ∀ q ts r, C q ts r → OkR P q ts r) {o : Oper} {c : Call} {f : Operand} {q : FuncId} {ts : List T} {e : Operand → V} {oh : OH} {k : Acc → Prop}
    (ho : o.op = .call c) (hc : c.callee = .value f) (hf : V.fn? (e f) = some q) (hts : toTA (c.args.toList.map e) = some ts)
    (h : ∃ on v, C q ts (.objs on v) ∧ freshO oh on fun d => k ⟨[], (shO d on).map (·.1), shO d on, v.sh d⟩) : Some P o e oh k := by
  obtain ⟨on, v, hCC, d0, hfr, hk⟩ := h
  obtain ⟨⟨fn, hfn, hname, hbody⟩, hok⟩ := hC q ts (.objs on v) hCC
  have hfe : e f = .con (.func (.func q) #[] #[]) := by
    unfold V.fn? at hf
    split at hf
    · rename_i q' a b he
      split at hf
      · rename_i ha hb
        have ha' : a = #[] := by rw [← Array.toArray_toList (xs := a), ha]
        have hb' : b = #[] := by rw [← Array.toArray_toList (xs := b), hb]
        rw [he, ha', hb']; simpa using hf
      · cases hf
    · cases hf
  have hmf : f ∈ o.op.operands := by simp [ho, Op.operands, Call.operands, hc]
  have hma : ∀ x ∈ c.args.toList, x ∈ o.op.operands := by
    intro x hx; simp only [ho, Op.operands, Call.operands, hc]; simp at hx ⊢; exact .inr hx
  obtain ⟨hl, htt⟩ := toTA_len hts
  refine ⟨_, ?_, by simp, fun i hi => ?_, hk⟩
  · intro g oh' w ρ hr hρ _ hnw
    have hrf := hρ f hmf; rw [hfe] at hrf
    have hex : (execOp ρ o).run P w = .ok (.enter q (c.args.map ρ)) w := by
      have h1 : fn.name ≠ "runtime.NumGoroutine" := by simpa using hname
      have h2 : fn.body ≠ none := by intro e; simp [e] at hbody
      simp [execOp, ho, resolve, hc, hrf.1, Deferred.ofValue, invoke, callFunc, hfn, h1, h2]
    rw [hex]
    have hreads : Reads g.G ts (c.args.map ρ) := by
      refine ⟨by simp [hl], fun j t x ht hx => ?_⟩
      rw [Array.getElem?_map] at hx
      obtain ⟨op, hop, rfl⟩ := Option.map_eq_some_iff.1 hx
      have hop' : c.args.toList[j]? = some op := by simpa using hop
      exact toT_ok hr.hF (hρ op (hma op (List.mem_of_getElem? hop'))) (htt j (e op) t (by rw [List.getElem?_map, hop']; rfl) ht)
    refine (hok g.G w _ hr.hG hreads).mono fun en w' hen => ?_
    obtain ⟨x, gn, rfl, hb, hn, hrd, hG, hF, hO⟩ := hen
    obtain ⟨g', h1, h2, h3, h4⟩ := hr.calledO hb hn hG hF hO hnw
    exact ⟨x, rfl, g', h1, sh_rd h4 hrd, h2, h3⟩
  · exact hfr i hi

theorem Fz1.mono {oh oh' : OH} (h : ∀ i o, oget oh i = some o → oget oh' i = some o) {f : Bool} {v : V} {t : T} (z : Fz1 oh f v t) : Fz1 oh' f v t := by
  induction z with
  | con v => exact .con v
  | ro f' t hf => exact .ro f' t hf
  | emp => exact .emp
  | own id ver off len o ts ho hv hl hn hs hc ih => exact .own id ver off len o ts (h _ _ ho) hv hl hn hs ih

theorem FzA.mono {oh oh' : OH} (h : ∀ i o, oget oh i = some o → oget oh' i = some o) {f : Bool} {v : V} {t : T} (z : FzA oh f v t) : FzA oh' f v t := by
  cases v with
  | agg l =>
    cases t with
    | agg ts => exact ⟨z.1, fun j v t h1 h2 => (z.2 j v t h1 h2).mono h⟩
    | _ => exact z.elim
  | _ => exact Fz1.mono h z

theorem oget_memP : ∀ {oh : OH} {i : Nat} {o : Obj}, oget oh i = some o → (i, o) ∈ oh
  | (j, o') :: r, i, o, h => by
    unfold oget at h
    split at h
    · rename_i hj; subst hj; cases h; simp
    · exact List.mem_cons_of_mem _ (oget_memP h)

theorem plain_any {S S' : Sto} {t : T} {v : Value} (hp : t.plain = true) (h : RdT S t v) : RdT S' t v := by
  cases h with
  | con v h => exact .con v h
  | tup l vs hl h1 hr =>
    refine .tup l vs hl h1 fun j u c hu hc => ?_
    have := hr j u c hu hc
    have hu' : u.isCon = true := (List.all_eq_true.1 (by simpa [T.plain] using hp)) u (List.mem_of_getElem? hu)
    cases this with
    | con _ h => exact .con _ h
    | _ => simp [T.isCon] at hu'
  | _ => simp [T.plain] at hp

theorem step_lend {C : CT} (hC : ∀ q ts r, C q ts r → OkR P q ts r) {o : Oper} {c : Call} {f : Operand} {q : FuncId} {e : Operand → V} {oh : OH} {k : Acc → Prop}
    (ho : o.op = .call c) (hc : c.callee = .value f) (hf : V.fn? (e f) = some q)
    (h : ∃ ts fr r, C q ts (.data fr r) ∧ ∃ pre : OH, (∀ p ∈ pre, oget oh p.1 = some p.2) ∧ FzL pre (c.args.toList.map e) ts ∧ (fr || r.plain) = true ∧ k ⟨pre, [], [], V.ofT fr r⟩) : Some P o e oh k := by
  obtain ⟨ts, fr, r, hCC, pre, hpre, hfz, hpl, hk⟩ := h
  obtain ⟨⟨fn, hfn, hname, hbody⟩, hok⟩ := hC q ts (.data fr r) hCC
  have hfe : e f = .con (.func (.func q) #[] #[]) := by
    unfold V.fn? at hf
    split at hf
    · rename_i q' a b he
      split at hf
      · rename_i ha hb
        have ha' : a = #[] := by rw [← Array.toArray_toList (xs := a), ha]
        have hb' : b = #[] := by rw [← Array.toArray_toList (xs := b), hb]
        rw [he, ha', hb']; simpa using hf
      · cases hf
    · cases hf
  have hmf : f ∈ o.op.operands := by simp [ho, Op.operands, Call.operands, hc]
  have hma : ∀ x ∈ c.args.toList, x ∈ o.op.operands := by
    intro x hx; simp only [ho, Op.operands, Call.operands, hc]; simp at hx ⊢; exact .inr hx
  refine ⟨_, ?_, fun i ob h => hpre _ h, by simp, hk⟩
  intro g oh' w ρ hr hρ hp _
  have hrf := hρ f hmf; rw [hfe] at hrf
  have hex : (execOp ρ o).run P w = .ok (.enter q (c.args.map ρ)) w := by
    have h1 : fn.name ≠ "runtime.NumGoroutine" := by simpa using hname
    have h2 : fn.body ≠ none := by intro e; simp [e] at hbody
    simp [execOp, ho, resolve, hc, hrf.1, Deferred.ofValue, invoke, callFunc, hfn, h1, h2]
  rw [hex]
  let S : Sto := fun b o => w.cell? ⟨b, o, none⟩
  have hfin : Final g oh' w false S := ⟨fun b o c hc => hr.hG _ _ _ (hr.hF _ _ _ hc), fun _ b o c hc => hr.hG _ _ _ hc, fun b _ o c hc => hc⟩
  have hreads : Reads S ts (c.args.map ρ) := by
    refine ⟨by have := hfz.1; simp at this; simp [this], fun j t x ht hx => ?_⟩
    rw [Array.getElem?_map] at hx
    obtain ⟨op, hop, rfl⟩ := Option.map_eq_some_iff.1 hx
    have hop' : c.args.toList[j]? = some op := by simpa using hop
    have hz := hfz.2 j (e op) t (by rw [List.getElem?_map, hop']; rfl) ht
    exact (fzA_ok hr hfin (hz.mono fun i o hi => hp i o (oget_memP hi)) (hρ op (hma op (List.mem_of_getElem? hop')))).1
  refine (hok S w _ (fun _ _ _ h => h) hreads).mono fun en w' hen => ?_
  obtain ⟨v, N, rfl, hb, hN, hrd⟩ := hen
  obtain ⟨h1, h2, h3⟩ := hr.called hb hN
  refine ⟨v, rfl, _, h1, ?_, h2, h3⟩
  refine ofT_ok ?_
  cases fr with
  | true =>
    refine hrd.mono fun b o c hc => ?_
    show g.F.un N b o = some c
    unfold Sto.un
    cases hg : g.F b o with
    | none => exact hc
    | some c' => have := lt_of_cell (hr.hG _ _ _ (hr.hF b o c' hg)); have := (hN b o c hc).1; omega
  | false => exact plain_any (by simpa using hpl) hrd

theorem step_ok {C : CT} (hC : ∀ q ts r, C q ts r → OkR P q ts r) {o : Oper} {e : Operand → V} {oh : OH} {k : Acc → Prop} (h : step P C o e oh k) : Some P o e oh k := by
  unfold step at h
  split at h
  · rename_i x ho; exact step_move (.inl ho) h
  · rename_i x ho; exact step_move (.inr ho) h
  · rename_i c a b ho; exact step_pick ho h
  · rename_i op t x y t2 ho; exact step_bin ho h
  · rename_i op t x ho; exact step_un ho h
  · rename_i s d x ho; exact step_conv ho h
  · rename_i t x i ho; exact step_index ho h
  · rename_i t x ho; exact step_load ho h
  · rename_i t x v ho; exact step_store ho h
  · rename_i t x f ho; exact step_field ho h
  · rename_i t x ho; exact step_box ho h
  · rename_i t ho; exact step_alloc ho h
  · rename_i t ps ho; exact step_build ho h
  · rename_i t x i ho; exact step_idx ho h
  · rename_i x i ho; exact step_extract ho h
  · rename_i t len ps ho; exact step_buildSlice ho h
  · rename_i t x lo hi mx ho; exact step_slice ho h
  · rename_i t l c ho; exact step_make ho h
  · rename_i c ho
    split at h
    · rename_i hc
      split at h
      · rename_i x t ha ht; exact step_len ho hc ha ht h
      · exact h.elim
    · rename_i hc
      split at h
      · rename_i x y t t' ha ht
        obtain ⟨rfl, h⟩ := h
        exact step_append ho hc ha ht h
      · exact h.elim
    · rename_i f hc
      split at h
      · rename_i q hf
        split at h
        · rename_i ts hts
          rcases h with h | h
          · exact step_call hC ho hc hf hts h
          · exact step_objs hC ho hc hf hts h
        · exact step_lend hC ho hc hf h
      · exact h.elim
    · exact h.elim
  · exact h.elim

end
end Go.Ev
