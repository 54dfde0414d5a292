/-
  OWN LAYER 'Ev', PART XY: A SEAT'S TABLES AND LIBRARY FUNCTIONS, PUT TOGETHER.
-/
import Derived.Test.YtjehfpfgpnmpoaaGreatDoorXJ
set_option linter.all false
namespace Go.Ev

/-! ### tables -/
/-- A tree's entries. -/
def Tr.toL {α : Type} : Tr α → List (Nat × α)
  | .nil => []
  | .node v l r => (match v with | some x => [(0, x)] | none => []) ++ (l.toL.map fun p => (2 * p.1 + 1, p.2)) ++ (r.toL.map fun p => (2 * p.1 + 2, p.2))

theorem Tr.mem_of_get {α : Type} : ∀ (t : Tr α) (n : Nat) (x : α), t.get n = some x → (n, x) ∈ t.toL
  | .nil, n, x, h => by cases h
  | .node v l r, n, x, h => by
    have e : (Tr.node v l r).get n = (bif Nat.beq n 0 then v else bif Nat.beq (Nat.mod n 2) 1 then l.get (Nat.div n 2) else r.get (Nat.pred (Nat.div n 2))) := Tr.get_node v l r n
    rw [e] at h
    have hd : Nat.div n 2 = n / 2 := rfl
    have hm : Nat.mod n 2 = n % 2 := rfl
    simp only [Tr.toL, List.mem_append]
    cases h0 : Nat.beq n 0 with
    | true =>
      rw [h0] at h
      have := Nat.eq_of_beq_eq_true h0
      subst this
      have h : v = some x := h
      left; left; rw [h]; simp
    | false =>
      rw [h0, cond_false] at h
      have hn0 : n ≠ 0 := fun e => by subst e; simp at h0
      cases h1 : Nat.beq (Nat.mod n 2) 1 with
      | true =>
        rw [h1, cond_true] at h
        have h1 := Nat.eq_of_beq_eq_true h1
        left; right
        refine List.mem_map.2 ⟨_, Tr.mem_of_get l _ _ h, ?_⟩
        rw [hd]; rw [hm] at h1
        simp only [Prod.mk.injEq, and_true]; omega
      | false =>
        rw [h1, cond_false] at h
        have h1' : ¬ n % 2 = 1 := fun e => by rw [hm, e] at h1; simp at h1
        right
        refine List.mem_map.2 ⟨_, Tr.mem_of_get r _ _ h, ?_⟩
        rw [hd, Nat.pred_eq_sub_one]
        simp only [Prod.mk.injEq, and_true]; omega

theorem eq_of_maps {α β : Type} {l : List (Nat × α)} {f : Nat → β} {g : α → β} (h : (l.map fun p => f p.1) = l.map fun p => g p.2) {n : Nat} {x : α} (hm : (n, x) ∈ l) : f n = g x := by
  obtain ⟨i, hi⟩ := List.mem_iff_getElem?.1 hm
  have := congrArg (fun q : List β => q[i]?) h
  simpa [List.getElem?_map, hi] using this

theorem Tr.get_eq {α : Type} {t : Tr α} {f : Nat → α} (h : (t.toL.map fun p => f p.1) = t.toL.map fun p => p.2) {n : Nat} {x : α} (hg : t.get n = some x) : f n = x :=
  eq_of_maps (g := fun x => x) h (Tr.mem_of_get t n x hg)

/-- All entries are so. -/
def Tr.All {α : Type} (p : Nat → α → Prop) : Tr α → (Nat → Nat) → Prop
  | .nil, _ => True
  | .node v l r, g => (match v with | some x => p (g 0) x | none => True) ∧ l.All p (fun i => g (2 * i + 1)) ∧ r.All p (fun i => g (2 * i + 2))

theorem Tr.All.mem {α : Type} {p : Nat → α → Prop} : ∀ {t : Tr α} {g : Nat → Nat}, t.All p g → ∀ {n : Nat} {x : α}, (n, x) ∈ t.toL → p (g n) x
  | .nil, _, _, _, _, h => by cases h
  | .node v l r, g, ha, n, x, h => by
    obtain ⟨h1, h2, h3⟩ := ha
    simp only [Tr.toL, List.mem_append] at h
    rcases h with (h | h) | h
    · cases v with
      | none => cases h
      | some y => simp only [List.mem_singleton, Prod.mk.injEq] at h; rw [h.1, h.2]; exact h1
    · obtain ⟨q, hq, e⟩ := List.mem_map.1 h
      simp only [Prod.mk.injEq] at e
      have := h2.mem hq
      rw [← e.1, ← e.2]; exact this
    · obtain ⟨q, hq, e⟩ := List.mem_map.1 h
      simp only [Prod.mk.injEq] at e
      have := h3.mem hq
      rw [← e.1, ← e.2]; exact this

section
variable {P : Program} {B : Sto}

/-- What is asked of a function's code. -/
def FnOK (P : Program) (q : Nat) (fn : Func) : Prop :=
  P.funcs[q]? = some fn ∧ (fn.name == "runtime.NumGoroutine") = false ∧ (match fn.body with | some c => okX fn.ntmps c | none => true) = true

theorem FnOK.all {q : Nat} {fn : Func} (h : FnOK P q fn) : P.funcs[q]? = some fn ∧ (fn.name == "runtime.NumGoroutine") = false ∧ ∀ c, fn.body = some c → okX fn.ntmps c = true :=
  ⟨h.1, h.2.1, fun c hc => by have := h.2.2; rw [hc] at this; exact this⟩

theorem eqSt_of {t : TypeId} {fs : Array Field} {ks : List TK} (h1 : P.stoodInHeld t = false) (h2 : P.eqGuardType P.depth t = false) (h3 : P.underlying t = some (.struct fs))
    (h4 : (fs.toList.map fun f => tk P f.type) = ks) (h5 : (fs.toList.map fun f => f.offset) = List.range fs.toList.length) (h6 : (fs.toList.all fun f => f.name != "_") = true)
    (h7 : (ks.all fun k => match k with | .bool | .str | .int _ => true | _ => false) = true) : EqSt P t ks := by
  refine ⟨h1, h2, fs, h3, by rw [← h4]; simp, fun i f hf => ?_⟩
  have hf' : fs.toList[i]? = some f := by simpa using hf
  have hi : i < fs.toList.length := (List.getElem?_eq_some_iff.1 hf').1
  have hk : ks[i]? = some (tk P f.type) := by rw [← h4, List.getElem?_map, hf']; rfl
  refine ⟨?_, ?_, _, hk, rfl, ?_⟩
  · have := congrArg (fun q : List Nat => q[i]?) h5
    simp only [List.getElem?_map, hf', Option.map_some, List.getElem?_range hi] at this
    exact Option.some.inj this
  · have := List.all_eq_true.1 h6 f (List.mem_of_getElem? hf')
    simpa using this
  · have := List.all_eq_true.1 h7 _ (List.mem_of_getElem? hk)
    split at this
    · rename_i e; exact .inl e
    · rename_i e; exact .inr (.inl e)
    · rename_i k e; exact .inr (.inr ⟨k, e⟩)
    · cases this

/-! ### the library's functions -/
def xas (d : TK) (T PT : TypeId) (vs : List V) (h : Hp) : Option Acc :=
  match vs with
  | [.ifc t (.ref id2 ver2 i2 f2), .ifc pt (.ref id ver i f)] =>
    bif Nat.beq t T && Nat.beq pt PT then
      (match xlive h id2 ver2, xuseW h id ver, xstore d h (.ref id ver i f) (.ref id2 ver2 i2 f2) with
       | some o2, some _, some a => some ⟨(id2, o2) :: a.pre, [], a.post, .con (.bool true)⟩
       | _, _, _ => none) else none
  | _ => none

/-- The library functions' numbers in a seat. -/
structure LibN where
  noEsc : Option FuncId
  idx : Option FuncId
  asQ : Option FuncId
  T : TypeId
  PT : TypeId
  d : TK

def isQ (o : Option FuncId) (q : FuncId) : Bool := match o with | some p => Nat.beq q p | none => false

def xlib (L : LibN) (q : FuncId) (vs : List V) (h : Hp) : Option Acc :=
  bif isQ L.idx q then (match vs with
    | [.con (.string s), .con (.int .u8 (.ofNat n))] => bif Nat.blt n 256 then one (.con (.int .i64 (xidxByte n s.data.toList 0))) else none
    | _ => none)
  else bif isQ L.noEsc q then (match vs with | [x] => one x | _ => none)
  else bif isQ L.asQ q then xas L.d L.T L.PT vs h else none

structure LibF (P : Program) (B : Sto) (L : LibN) : Prop where
  noEsc : ∀ q, L.noEsc = some q → ∃ fn, P.funcs[q]? = some fn ∧ (fn.name == "runtime.NumGoroutine") = false ∧ fn.body.isNone = true ∧ Extern.findNext fn = none ∧ Extern.find fn = some Extern.AbiNoEscape.same
  idx : ∀ q, L.idx = some q → ∃ fn, P.funcs[q]? = some fn ∧ (fn.name == "runtime.NumGoroutine") = false ∧ fn.body.isNone = true ∧ Extern.findNext fn = none ∧ Extern.find fn = some Extern.BytealgIndexByte.indexByte
  asQ : ∀ q, L.asQ = some q → ∃ fn c el, P.funcs[q]? = some fn ∧ (fn.name == "runtime.NumGoroutine") = false ∧ fn.body = some c ∧ tk P L.T = .ptr el ∧ L.d = .ptr el ∧
    ∀ (e t : Addr) (old : Value) (w : World), (∀ b o c, B b o = some c → w.cell? ⟨b, o, none⟩ = some c) → w.cell? t = some old → w.frozen? t = false → t.spot = none →
      ∃ w1, w.Extends w1 ∧ Calls P q #[.iface L.T (.pointer (some e)), .iface L.PT (.pointer (some t))] w fun ev w' => ev = .returned (.bool true) ∧ w' = w1.setCell t (.pointer (some e))

theorem isQ_spec {o : Option FuncId} {q : FuncId} (h : isQ o q = true) : o = some q := by
  unfold isQ at h
  split at h
  · rw [Nat.eq_of_beq_eq_true h]
  · cases h

theorem xas_ok {L : LibN} (lf : LibF P B L) {q : FuncId} (hq : L.asQ = some q) {vs : List V} {oh : OH} {h : Hp} {a : Acc} (hh : ∀ i, oget oh i = h i) (hx : xas L.d L.T L.PT vs h = some a) :
    LibOK P B q vs a ∧ (∀ i ob, (i, ob) ∈ a.pre → oget oh i = some ob) ∧ a.nw = [] := by
  obtain ⟨fn, c, el, f1, f2, f3, f4, f5, f6⟩ := lf.asQ q hq
  unfold xas at hx
  split at hx
  · rename_i t id2 ver2 i2 g2 pt id ver i f
    rw [bifO] at hx
    obtain ⟨hc, hx⟩ := hx
    simp only [Bool.and_eq_true, Nat.beq_eq] at hc
    obtain ⟨rfl, rfl⟩ := hc
    split at hx
    · rename_i o2 o acc hl2 hu hst
      cases hx
      obtain ⟨a1, a2, a3⟩ := xlive_spec hl2
      obtain ⟨b1, b2, b3, b4⟩ := xuseW_spec hu
      have hfit : (id, o) ∈ acc.pre ∧ acc.nw = [] ∧ ∃ e, o.el[i]? = some e ∧ f < e.cells.length := by
        unfold xstore at hst
        simp only [hu] at hst
        split at hst
        · rename_i e he
          rw [bifO] at hst
          obtain ⟨hcc, hst⟩ := hst
          simp only [Bool.and_eq_true, Nat.ble_eq, Nat.blt_eq, Nat.beq_eq] at hcc
          cases hst
          exact ⟨by simp, rfl, e, he, by omega⟩
        · cases hst
      obtain ⟨hp, hnw, hfit⟩ := hfit
      obtain ⟨acc', hok, hpre, _, rfl⟩ := step_store (P := P) (o := asOper L.T) (e := asEnv (.ref id ver i f) (.ref id2 ver2 i2 g2)) (oh := oh) (k := fun b => b = acc) (t := L.T) (x := .tmp 0) (v := .tmp 1) rfl (by
        have := xstore_s hh hst
        rw [f5, ← f4] at this
        exact this)
      refine ⟨lib_as f1 f2 f3 f4 f6 hok hp hnw b2 b3 b4 hfit a2 a3, fun j ob hm => ?_, rfl⟩
      simp only [List.mem_cons, Prod.mk.injEq] at hm
      rcases hm with ⟨rfl, rfl⟩ | hm
      · rw [hh]; exact a1
      · exact hpre j ob hm
    · cases hx
  · cases hx

theorem xlib_ok {L : LibN} (lf : LibF P B L) (q : FuncId) (vs : List V) (oh : OH) (h : Hp) (a : Acc) (hh : ∀ i, oget oh i = h i) (hx : xlib L q vs h = some a) :
    LibOK P B q vs a ∧ (∀ i ob, (i, ob) ∈ a.pre → oget oh i = some ob) ∧ a.nw = [] := by
  unfold xlib at hx
  cases h1 : isQ L.idx q with
  | true =>
    rw [h1, cond_true] at hx
    split at hx
    · rename_i s n
      rw [bifO] at hx
      obtain ⟨hn, hx⟩ := hx
      simp only [Nat.blt_eq] at hn
      obtain ⟨fn, f1, f2, f3, f4, f5⟩ := lf.idx q (isQ_spec h1)
      have e : n = (UInt8.ofNat n).toNat := by simp [UInt8.toNat_ofNat']; omega
      cases hx
      have := lib_indexByteString (P := P) (B := B) (s := s) (c := UInt8.ofNat n) f1 f2 f3 f4 f5
      rw [← e] at this
      exact ⟨this, by simp, rfl⟩
    · cases hx
  | false =>
    rw [h1, cond_false] at hx
    cases h2 : isQ L.noEsc q with
    | true =>
      rw [h2, cond_true] at hx
      split at hx
      · obtain ⟨fn, f1, f2, f3, f4, f5⟩ := lf.noEsc q (isQ_spec h2)
        cases hx
        exact ⟨lib_noEscape f1 f2 f3 f4 f5, by simp, rfl⟩
      · cases hx
    | false =>
      rw [h2, cond_false] at hx
      cases h3 : isQ L.asQ q with
      | true => rw [h3, cond_true] at hx; exact xas_ok lf (isQ_spec h3) hh hx
      | false => rw [h3] at hx; cases hx

end
end Go.Ev
