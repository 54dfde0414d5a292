/-
  OWN LAYER 'Ev', PART B: WHAT PURE VALUES MEAN IN A WORLD: readings of read-only data, of owned objects; how a world may go on.
-/
import Derived.Test.YtjehfpfgpnmpoaaGreatDoorEvA
import Derived.Laws.AppendOwn
import Derived.Laws.MakeOwn
import Derived.Laws.Tables
import Derived.Laws.CopyRow
import Derived.Below
import Derived.RangeFuncRecord
set_option linter.all false
namespace Go.Ev

abbrev Sto := Nat → Nat → Option Value

/-- A value reads as data. -/
inductive RdT (S : Sto) : T → Value → Prop
  | con (v : Value) (h : v.oneCell' = true) : RdT S (.con v) v
  | sl (l : List T) (a : Option Addr) (cap esz b off : Nat) (c : Nat → Nat → Value)
      (hc : l.length ≤ cap) (hm : cap ≤ maxLen) (ha : l ≠ [] → a = some ⟨b, off, none⟩)
      (hz : ∀ (i : Nat) (t : T), l[i]? = some t → t.cells.length = esz)
      (hs : ∀ (i : Nat) (t : T) (j : Nat), l[i]? = some t → j < t.cells.length → S b (off + i * esz + j) = some (c i j))
      (h1 : ∀ (i : Nat) (t : T) (j : Nat), l[i]? = some t → j < t.cells.length → (c i j).oneCell' = true)
      (hr : ∀ (i : Nat) (t : T) (j : Nat) (u : T), l[i]? = some t → t.cells[j]? = some u → RdT S u (c i j)) : RdT S (.sl l) (.slice a l.length cap)
  | ptr (l : List T) (b off : Nat) (c : Nat → Value)
      (hs : ∀ j, j < l.length → S b (off + j) = some (c j)) (h1 : ∀ j, j < l.length → (c j).oneCell' = true)
      (hr : ∀ (j : Nat) (u : T), l[j]? = some u → RdT S u (c j)) : RdT S (.ptr l) (.pointer (some ⟨b, off, none⟩))
  | agg (l : List T) (cs : Array Value) (hl : cs.size = l.length)
      (h1 : ∀ (j : Nat) (c : Value), cs[j]? = some c → c.oneCell' = true)
      (hr : ∀ (j : Nat) (u : T) (c : Value), l[j]? = some u → cs[j]? = some c → RdT S u c) : RdT S (.agg l) (.agg cs)
  | tup (l : List T) (vs : Array Value) (hl : vs.size = l.length) (h1 : ∀ (j : Nat) (us : Array Value), vs[j]? ≠ some (.tuple us))
      (hr : ∀ (j : Nat) (u : T) (c : Value), l[j]? = some u → vs[j]? = some c → RdT S u c) : RdT S (.tup l) (.tuple vs)
  | ifc (t : TypeId) (x : T) (v : Value) (h : RdT S x v) (h1 : ∀ us, v ≠ .tuple us) : RdT S (.ifc t x) (.iface t v)

theorem RdT.mono {S S' : Sto} (hS : ∀ b o c, S b o = some c → S' b o = some c) {t : T} {v : Value} (h : RdT S t v) : RdT S' t v := by
  induction h with
  | con v h => exact .con v h
  | sl l a cap esz b off c hc hm ha hz hs h1 hr ih =>
    exact .sl l a cap esz b off c hc hm ha hz (fun i t j hi hj => hS _ _ _ (hs i t j hi hj)) h1 ih
  | ptr l b off c hs h1 hr ih => exact .ptr l b off c (fun j hj => hS _ _ _ (hs j hj)) h1 ih
  | agg l cs hl h1 hr ih => exact .agg l cs hl h1 ih
  | tup l vs hl h1 hr ih => exact .tup l vs hl h1 ih
  | ifc t x v h h1 ih => exact .ifc t x v ih h1

/-- What stands behind pure values: read-only cells; those among them that this call has made; each object's block; how many elements it has room for. -/
structure Gh where
  B : Sto
  G : Sto
  F : Sto
  m : Nat → Option Nat
  cp : Nat → Nat

def Gh.sto (g : Gh) : Bool → Sto
  | true => g.F
  | false => g.G

def OwnAt (g : Gh) (o : Obj) (id off len : Nat) (x : Value) : Prop :=
  ∃ a cap, x = .slice a len cap ∧ len ≤ cap ∧ off + len ≤ o.el.length ∧ (cap ≠ 0 → ∃ b, g.m id = some b ∧ a = some ⟨b, off * o.sz, none⟩ ∧ off + cap ≤ g.cp id)

/-- One cell that holds no other values within. -/
def RdB (g : Gh) (oh : OH) : V → Value → Prop
  | .undef, _ => True
  | .con v, x => x = v ∧ v.oneCell' = true
  | .ro f t, x => RdT (g.sto f) t x ∧ x.oneCell' = true
  | .emp n, x => ∃ a, x = .slice a 0 0 ∧ (n = true → a = none)
  | .own id ver off len, x => x.oneCell' = true ∧ ∃ o, oget oh id = some o ∧ ver ≤ o.ver ∧ (o.ver = ver → o.live = true → OwnAt g o id off len x)
  | .ref id ver i foff, x => x.oneCell' = true ∧ ∃ o, oget oh id = some o ∧ ver ≤ o.ver ∧ (o.ver = ver → o.live = true → ∃ b, g.m id = some b ∧ x = .pointer (some ⟨b, i * o.sz + foff, none⟩))
  | .mp id, x => x.oneCell' = true ∧ ∃ o, oget oh id = some o ∧ (o.ver = 0 → o.live = true → ∃ b, g.m id = some b ∧ x = .map (some b))
  | .yld id, x => x.oneCell' = true ∧ ∃ o, oget oh id = some o ∧ (o.ver = 0 → o.live = true → ∃ b, g.m id = some b ∧ x = .func (.yield b) #[] #[])
  | _, _ => False

def V.base : V → Bool
  | .ifc .. | .clo .. | .agg _ | .tup _ => false
  | _ => true

/-- Values within values. -/
inductive RdN (g : Gh) (oh : OH) : V → Value → Prop
  | base (v : V) (x : Value) (hb : v.base = true) (h : RdB g oh v x) : RdN g oh v x
  | ifc (t : TypeId) (v : V) (x : Value) (h : RdN g oh v x) (h1 : ∀ us, x ≠ .tuple us) (hu : v ≠ .undef) : RdN g oh (.ifc t v) (.iface t x)
  | clo (fn : Fn) (f c : List V) (fs cs : Array Value) (hf : fs.size = f.length) (hc : cs.size = c.length)
      (h1 : ∀ (j : Nat) (v : V) (x : Value), f[j]? = some v → fs[j]? = some x → RdN g oh v x) (h2 : ∀ (j : Nat) (v : V) (x : Value), c[j]? = some v → cs[j]? = some x → RdN g oh v x) : RdN g oh (.clo fn f c) (.func fn fs cs)
  | agg (l : List V) (cs : Array Value) (hl : cs.size = l.length) (h : ∀ (j : Nat) (v : V) (c : Value), l[j]? = some v → cs[j]? = some c → RdN g oh v c)
      (h1 : ∀ (j : Nat) (v : V) (c : Value), l[j]? = some v → cs[j]? = some c → c.oneCell' = true ∧ (∀ m, v ≠ .agg m)) : RdN g oh (.agg l) (.agg cs)

/-- One cell. -/
def RdV1 (g : Gh) (oh : OH) : V → Value → Prop
  | .ifc t v, x => RdN g oh (.ifc t v) x
  | .clo fn f c, x => RdN g oh (.clo fn f c) x
  | v, x => RdB g oh v x

def RdA (g : Gh) (oh : OH) : V → Value → Prop
  | .agg l, x => ∃ cs : Array Value, x = .agg cs ∧ cs.size = l.length ∧ ∀ (j : Nat) (v : V) (c : Value), l[j]? = some v → cs[j]? = some c → RdV1 g oh v c ∧ c.oneCell' = true
  | v, x => RdV1 g oh v x

def RdV (g : Gh) (oh : OH) : V → Value → Prop
  | .tup l, x => ∃ vs : Array Value, x = .tuple vs ∧ vs.size = l.length ∧ ∀ (j : Nat) (v : V) (c : Value), l[j]? = some v → vs[j]? = some c → RdA g oh v c
  | v, x => RdA g oh v x

/-- The cells of an element, from place k * sz of a block on. -/
def ElAt (g : Gh) (oh : OH) (sz : Nat) (arr : Array Value) (k : Nat) (e : V) : Prop :=
  e.cells.length = sz ∧ ∀ j v, e.cells[j]? = some v → ∃ c, arr[k * sz + j]? = some c ∧ c.oneCell' = true ∧ RdV1 g oh v c

def BlockAt (g : Gh) (oh : OH) (o : Obj) (n : Nat) (arr : Array Value) : Prop :=
  arr.size = n * o.sz ∧ o.el.length ≤ n ∧ n ≤ maxLen ∧ ∀ k e, o.el[k]? = some e → ElAt g oh o.sz arr k e

/-- What a block holds that is an object's. -/
def KindAt (g : Gh) (oh : OH) (o : Obj) (n : Nat) (go : Go.Obj) : Prop :=
  match o.k with
  | .cells => ∃ arr ty, go = .cells arr ty (0, 0) ∧ BlockAt g oh o n arr
  | .typed t => ∃ arr, go = .cells arr t (0, 0) ∧ BlockAt g oh o n arr ∧ n = 1
  | .rows t => ∃ arr, go = .cells arr t (0, 0) ∧ BlockAt g oh o n arr
  | .bytes => ∃ arr ty, go = .cells arr ty (arr.size, arr.size + 1) ∧ BlockAt g oh o n arr
  | .map ks => ∃ es clock, go = .map es clock ∧ es.size = ks.length ∧ o.el.length = ks.length ∧ ∀ (j : Nat) (e : MapEntry), es[j]? = some e → ks[j]? = some e.key ∧ ∀ v, o.el[j]? = some v → RdA g oh v e.val
  | .loop st p ps a b => ∃ r D, go = .loop r ∧ r.state = st ∧ r.pending = p ∧ r.params = ps ∧ r.assign = a ∧ r.body = b ∧ r.defers = D ∧ (o.el.length = r.tmps.size + 1 ∧ okX r.tmps.size a = true ∧ okX r.tmps.size b = true ∧ (ps.toList.all fun p => Nat.blt p r.tmps.size) = true) ∧
      (∀ v, o.el[0]? = some v → RdV g oh v (.pointer (some ⟨D, 0, none⟩))) ∧ ∀ (j : Nat) (v : V), o.el[j + 1]? = some v → RdV g oh v (r.tmps.getD j Go.undef)
  | .dfr t => go = .deferred (match t with | true => none | false => some []) ∧ o.el = []
  | .sit s pos => go = .stringIter s pos ∧ o.el = []
  | .mit _ _ => False

def ObjRel (g : Gh) (oh : OH) (w : World) (i : Nat) (o : Obj) : Prop :=
  (g.m i = none → o.el = [] ∧ o.k.ap = true) ∧ ∀ b, g.m i = some b → ∃ go, w.heap[b]? = some go ∧ (∀ off, g.G b off = none) ∧ KindAt g oh o (g.cp i) go

structure HR (g : Gh) (oh : OH) (w : World) : Prop where
  base : ∀ b o c, g.B b o = some c → g.G b o = some c
  hG : ∀ b o c, g.G b o = some c → w.cell? ⟨b, o, none⟩ = some c
  hF : ∀ b o c, g.F b o = some c → g.G b o = some c
  obj : ∀ i o, oget oh i = some o → o.live = true → ObjRel g oh w i o
  inj : ∀ i j oi oj b, oget oh i = some oi → oget oh j = some oj → oi.live = true → oj.live = true → g.m i = some b → g.m j = some b → i = j

def Owned (g : Gh) (oh : OH) (b : Nat) : Prop := ∃ i o, oget oh i = some o ∧ o.live = true ∧ g.m i = some b

def Mono (g : Gh) (oh : OH) (g' : Gh) (oh' : OH) : Prop := ∀ v x, RdV1 g oh v x → RdV1 g' oh' v x

theorem Mono.refl (g : Gh) (oh : OH) : Mono g oh g oh := fun _ _ h => h
theorem Mono.trans {g g1 g2 : Gh} {oh oh1 oh2 : OH} (h : Mono g oh g1 oh1) (k : Mono g1 oh1 g2 oh2) : Mono g oh g2 oh2 := fun v x r => k v x (h v x r)

theorem RdB.one_base {g : Gh} {oh : OH} {v : V} {x : Value} (hb : v.base = true) : RdV1 g oh v x = RdB g oh v x := by cases v <;> first | rfl | (simp [V.base] at hb)

theorem Mono.rdN {g g' : Gh} {oh oh' : OH} (h : ∀ v x, RdB g oh v x → RdB g' oh' v x) {v : V} {x : Value} (r : RdN g oh v x) : RdN g' oh' v x := by
  induction r with
  | base v x hb r => exact .base v x hb (h v x r)
  | ifc t v x _ h1 hu ih => exact .ifc t v x ih h1 hu
  | clo fn f c fs cs hf hc _ _ ih1 ih2 => exact .clo fn f c fs cs hf hc ih1 ih2
  | agg l cs hl _ h1 ih => exact .agg l cs hl ih h1

theorem Mono.rdB {g g' : Gh} {oh oh' : OH} (h : Mono g oh g' oh') : ∀ v x, RdB g oh v x → RdB g' oh' v x := by
  intro v x r
  have h' := h v x
  cases v <;> first | exact r.elim | exact h' r

theorem Mono.rdA {g g' : Gh} {oh oh' : OH} (h : Mono g oh g' oh') {v : V} {x : Value} (r : RdA g oh v x) : RdA g' oh' v x := by
  cases v with
  | agg l => obtain ⟨cs, rfl, hl, hr⟩ := r; exact ⟨cs, rfl, hl, fun j v c h1 h2 => ⟨h _ _ (hr j v c h1 h2).1, (hr j v c h1 h2).2⟩⟩
  | _ => simp only [RdA] at r ⊢; exact h _ _ r

theorem Mono.rdV {g g' : Gh} {oh oh' : OH} (h : Mono g oh g' oh') {v : V} {x : Value} (r : RdV g oh v x) : RdV g' oh' v x := by
  cases v with
  | tup l => obtain ⟨cs, rfl, hl, hr⟩ := r; exact ⟨cs, rfl, hl, fun j v c h1 h2 => h.rdA (hr j v c h1 h2)⟩
  | _ => simp only [RdV] at r ⊢; exact h.rdA r

theorem ElAt.mono {g g' : Gh} {oh oh' : OH} (h : Mono g oh g' oh') {sz : Nat} {arr : Array Value} {k : Nat} {e : V} (r : ElAt g oh sz arr k e) : ElAt g' oh' sz arr k e :=
  ⟨r.1, fun j v hv => let ⟨c, h1, h2, h3⟩ := r.2 j v hv; ⟨c, h1, h2, h _ _ h3⟩⟩

theorem BlockAt.mono {g g' : Gh} {oh oh' : OH} (h : Mono g oh g' oh') {o : Obj} {n : Nat} {arr : Array Value} (r : BlockAt g oh o n arr) : BlockAt g' oh' o n arr :=
  ⟨r.1, r.2.1, r.2.2.1, fun k e he => (r.2.2.2 k e he).mono h⟩

theorem KindAt.mono {g g' : Gh} {oh oh' : OH} (h : Mono g oh g' oh') {o : Obj} {n : Nat} {go : Go.Obj} (r : KindAt g oh o n go) : KindAt g' oh' o n go := by
  unfold KindAt at r ⊢
  cases hk : o.k with
  | cells => rw [hk] at r; obtain ⟨arr, ty, e, r⟩ := r; exact ⟨arr, ty, e, r.mono h⟩
  | typed t => rw [hk] at r; obtain ⟨arr, e, r, r1⟩ := r; exact ⟨arr, e, r.mono h, r1⟩
  | rows t => rw [hk] at r; obtain ⟨arr, e, r⟩ := r; exact ⟨arr, e, r.mono h⟩
  | bytes => rw [hk] at r; obtain ⟨arr, ty, e, r⟩ := r; exact ⟨arr, ty, e, r.mono h⟩
  | map ks => rw [hk] at r; obtain ⟨es, clock, e, h1, h2, h3⟩ := r; exact ⟨es, clock, e, h1, h2, fun j x hx => ⟨(h3 j x hx).1, fun v hv => h.rdA ((h3 j x hx).2 v hv)⟩⟩
  | loop st p ps a b => rw [hk] at r; obtain ⟨q, D, e1, e2, e3, e5, e6, e7, e8, e9, h1, h2⟩ := r; exact ⟨q, D, e1, e2, e3, e5, e6, e7, e8, e9, fun v hv => h.rdV (h1 v hv), fun j v hv => h.rdV (h2 j v hv)⟩
  | dfr t => rw [hk] at r; exact r
  | sit s p => rw [hk] at r; exact r
  | mit a b => rw [hk] at r; exact r

/-- How the world may go on: what is not owned stays. -/
structure Fr (g : Gh) (oh : OH) (w : World) (g' : Gh) (oh' : OH) (w' : World) : Prop where
  B : g'.B = g.B
  os : w'.os = w.os
  tape : w'.tape = w.tape
  output : w'.output = w.output
  size : w.heap.size ≤ w'.heap.size
  keep : ∀ b, b < w.heap.size → ¬ Owned g oh b → w'.heap[b]? = w.heap[b]?
  own : ∀ b, Owned g' oh' b → Owned g oh b ∨ w.heap.size ≤ b
  G : ∀ b o c, g.G b o = some c → g'.G b o = some c
  F : ∀ b o c, g.F b o = some c → g'.F b o = some c
  nG : ∀ b o c, g'.G b o = some c → g.G b o = some c ∨ Owned g oh b ∨ w.heap.size ≤ b
  nF : ∀ b o c, g'.F b o = some c → g.F b o = some c ∨ Owned g oh b ∨ w.heap.size ≤ b

theorem Fr.refl (g : Gh) (oh : OH) (w : World) : Fr g oh w g oh w :=
  ⟨rfl, rfl, rfl, rfl, Nat.le_refl _, fun _ _ _ => rfl, fun _ h => .inl h, fun _ _ _ h => h, fun _ _ _ h => h, fun _ _ _ h => .inl h, fun _ _ _ h => .inl h⟩

theorem Fr.trans {g g1 g2 : Gh} {oh oh1 oh2 : OH} {w w1 w2 : World} (h : Fr g oh w g1 oh1 w1) (k : Fr g1 oh1 w1 g2 oh2 w2) : Fr g oh w g2 oh2 w2 where
  B := k.B.trans h.B
  os := k.os.trans h.os
  tape := k.tape.trans h.tape
  output := k.output.trans h.output
  size := Nat.le_trans h.size k.size
  keep b hb hn := by
    refine (k.keep b (Nat.lt_of_lt_of_le hb h.size) fun ho => ?_).trans (h.keep b hb hn)
    rcases h.own b ho with h' | h'
    · exact hn h'
    · omega
  own b hb := by
    rcases k.own b hb with h' | h'
    · exact h.own b h'
    · have := h.size; exact .inr (by omega)
  G b o c hc := k.G b o c (h.G b o c hc)
  F b o c hc := k.F b o c (h.F b o c hc)
  nG b o c hc := by
    rcases k.nG b o c hc with h' | h' | h'
    · exact h.nG b o c h'
    · rcases h.own b h' with h'' | h''
      · exact .inr (.inl h'')
      · exact .inr (.inr h'')
    · have := h.size; exact .inr (.inr (by omega))
  nF b o c hc := by
    rcases k.nF b o c hc with h' | h' | h'
    · exact h.nF b o c h'
    · rcases h.own b h' with h'' | h''
      · exact .inr (.inl h'')
      · exact .inr (.inr h'')
    · have := h.size; exact .inr (.inr (by omega))

theorem cell_of_heap {w w' : World} {b o : Nat} (h : w'.heap[b]? = w.heap[b]?) : w'.cell? ⟨b, o, none⟩ = w.cell? ⟨b, o, none⟩ := by simp [World.cell?, h]

theorem lt_of_cell {w : World} {b o : Nat} {c : Value} (h : w.cell? ⟨b, o, none⟩ = some c) : b < w.heap.size := World.block_lt_of_cell? w _ h
theorem lt_of_heap {w : World} {b : Nat} {o : Go.Obj} (h : w.heap[b]? = some o) : b < w.heap.size := (Array.getElem?_eq_some_iff.1 h).1

/-- Another world with the same heap. -/
theorem HR.same {g : Gh} {oh : OH} {w w' : World} (h : HR g oh w) (e : w'.heap = w.heap) : HR g oh w' where
  base := h.base
  hG b o c hc := by have := h.hG b o c hc; simpa [World.cell?, e] using this
  hF := h.hF
  obj i o ho hl := by
    obtain ⟨h1, h2⟩ := h.obj i o ho hl
    refine ⟨h1, fun b hb => ?_⟩
    rw [e]; exact h2 b hb
  inj := h.inj

theorem Fr.drew {g g' : Gh} {oh oh' : OH} {w w' : World} (h : Fr g oh w.drew g' oh' w') : Fr g oh w g' oh' w' :=
  ⟨h.B, h.os, h.tape, h.output, h.size, h.keep, h.own, h.G, h.F, h.nG, h.nF⟩

theorem oget_cons_same (c : Nat) (o : Obj) (oh : OH) : oget ((c, o) :: oh) c = some o := by simp [oget]
theorem oget_cons_other {c i : Nat} (o : Obj) (oh : OH) (h : i ≠ c) : oget ((c, o) :: oh) i = oget oh i := by
  have e : ¬ c = i := fun e => h e.symm
  simp [oget, e]

/-- A block put in the place of an object's number: new, or moved. -/
def Gh.at (g : Gh) (c b n : Nat) : Gh := { g with m := fun i => if i = c then some b else g.m i, cp := fun i => if i = c then n else g.cp i }

section
variable {g : Gh} {oh : OH} {w : World}

theorem RdB.lift {oh' : OH} {g' : Gh} (hF : ∀ b o c, g.F b o = some c → g'.F b o = some c) (hG : ∀ b o c, g.G b o = some c → g'.G b o = some c)
    (hown : ∀ id o, oget oh id = some o → ∃ o', oget oh' id = some o' ∧ o.ver ≤ o'.ver ∧ (o'.ver = o.ver → o'.live = true → o.live = true ∧ o'.sz = o.sz ∧ o.el.length ≤ o'.el.length ∧ g'.m id = g.m id ∧ g'.cp id = g.cp id)) :
    ∀ v x, RdB g oh v x → RdB g' oh' v x := by
  intro v x h
  cases v with
  | undef => trivial
  | con v => exact h
  | ro f t =>
    refine ⟨h.1.mono ?_, h.2⟩
    cases f
    · exact hG
    · exact hF
  | emp n => exact h
  | own id ver off len =>
    obtain ⟨h1, o, ho, hv, hc⟩ := h
    obtain ⟨o', ho', hle, hcc⟩ := hown id o ho
    refine ⟨h1, o', ho', Nat.le_trans hv hle, fun e hl => ?_⟩
    have hvv : o.ver = ver := Nat.le_antisymm (by omega) hv
    obtain ⟨l1, l2, l3, l4, l5⟩ := hcc (by omega) hl
    obtain ⟨a, cap, hx, hlc, hoff, hb⟩ := hc hvv l1
    exact ⟨a, cap, hx, hlc, by omega, by rw [l2, l4, l5]; exact hb⟩
  | ref id ver i foff =>
    obtain ⟨h1, o, ho, hv, hc⟩ := h
    obtain ⟨o', ho', hle, hcc⟩ := hown id o ho
    refine ⟨h1, o', ho', Nat.le_trans hv hle, fun e hl => ?_⟩
    have hvv : o.ver = ver := Nat.le_antisymm (by omega) hv
    obtain ⟨l1, l2, l3, l4, l5⟩ := hcc (by omega) hl
    obtain ⟨b, hb, hx⟩ := hc hvv l1
    exact ⟨b, by rw [l4]; exact hb, by rw [l2]; exact hx⟩
  | mp id =>
    obtain ⟨h1, o, ho, hc⟩ := h
    obtain ⟨o', ho', hle, hcc⟩ := hown id o ho
    refine ⟨h1, o', ho', fun e hl => ?_⟩
    obtain ⟨l1, l2, l3, l4, l5⟩ := hcc (by omega) hl
    obtain ⟨b, hb, hx⟩ := hc (by omega) l1
    exact ⟨b, by rw [l4]; exact hb, hx⟩
  | yld id =>
    obtain ⟨h1, o, ho, hc⟩ := h
    obtain ⟨o', ho', hle, hcc⟩ := hown id o ho
    refine ⟨h1, o', ho', fun e hl => ?_⟩
    obtain ⟨l1, l2, l3, l4, l5⟩ := hcc (by omega) hl
    obtain ⟨b, hb, hx⟩ := hc (by omega) l1
    exact ⟨b, by rw [l4]; exact hb, hx⟩
  | ifc t v => exact h.elim
  | clo a b c => exact h.elim
  | agg l => exact h.elim
  | tup l => exact h.elim

theorem mono_of_rdB {g g' : Gh} {oh oh' : OH} (h : ∀ v x, RdB g oh v x → RdB g' oh' v x) : Mono g oh g' oh' := by
  intro v x r
  have h' := h v x
  cases v <;> first | exact Mono.rdN h r | exact h' r

theorem RdV1.lift {oh' : OH} {g' : Gh} (hF : ∀ b o c, g.F b o = some c → g'.F b o = some c) (hG : ∀ b o c, g.G b o = some c → g'.G b o = some c)
    (hown : ∀ id o, oget oh id = some o → ∃ o', oget oh' id = some o' ∧ o.ver ≤ o'.ver ∧ (o'.ver = o.ver → o'.live = true → o.live = true ∧ o'.sz = o.sz ∧ o.el.length ≤ o'.el.length ∧ g'.m id = g.m id ∧ g'.cp id = g.cp id)) : Mono g oh g' oh' :=
  mono_of_rdB (RdB.lift hF hG hown)

theorem kind_rows {ob : Obj} {n : Nat} {arr : Array Value} {ty : TypeId} (hk : ob.k = .cells ∨ ob.k = .rows ty) (hb : BlockAt g oh ob n arr) : KindAt g oh ob n (.cells arr ty (0, 0)) := by
  unfold KindAt
  rcases hk with hk | hk
  · rw [hk]; exact ⟨arr, ty, rfl, hb⟩
  · rw [hk]; exact ⟨arr, rfl, hb⟩

theorem kind_cells {ob : Obj} {n : Nat} {arr : Array Value} {ty : TypeId} (hk : ob.k = .cells) (hb : BlockAt g oh ob n arr) : KindAt g oh ob n (.cells arr ty (0, 0)) := by
  unfold KindAt; rw [hk]; exact ⟨arr, ty, rfl, hb⟩

/-- A NEW BLOCK for number c: a new object, or one that was moved. -/
theorem HR.place (h : HR g oh w) (c n : Nat) (ob : Obj) (go : Go.Obj) (hv : ∀ o, oget oh c = some o → o.ver < ob.ver)
    (hb : KindAt g oh ob n go) :
    HR (g.at c w.heap.size n) ((c, ob) :: oh) (w.alloc go) ∧ Mono g oh (g.at c w.heap.size n) ((c, ob) :: oh) ∧
    Fr g oh w (g.at c w.heap.size n) ((c, ob) :: oh) (w.alloc go) := by
  have hm : Mono g oh (g.at c w.heap.size n) ((c, ob) :: oh) := by
    refine RdV1.lift (fun _ _ _ h => h) (fun _ _ _ h => h) fun id o ho => ?_
    by_cases e : id = c
    · subst e
      exact ⟨ob, oget_cons_same _ _ _, by have := hv o ho; omega, fun e' => by have := hv o ho; omega⟩
    · exact ⟨o, (oget_cons_other _ _ e).trans ho, Nat.le_refl _, fun _ hl => ⟨hl, rfl, Nat.le_refl _, by simp [Gh.at, e], by simp [Gh.at, e]⟩⟩
  have hGlt : ∀ b o c, g.G b o = some c → b < w.heap.size := fun b o c hc => lt_of_cell (h.hG b o c hc)
  have hown : ∀ b, Owned g oh b → b < w.heap.size := by
    rintro b ⟨i, o, ho, hol, hmi⟩
    obtain ⟨go', hh, _⟩ := (h.obj i o ho hol).2 b hmi
    exact lt_of_heap hh
  refine ⟨⟨h.base, ?_, h.hF, ?_, ?_⟩, hm, ⟨rfl, rfl, rfl, rfl, by show _ ≤ (w.heap.push _).size; simp, ?_, ?_, fun _ _ _ h => h, fun _ _ _ h => h, fun _ _ _ h => .inl h, fun _ _ _ h => .inl h⟩⟩
  · intro b o c' hc
    have := h.hG b o c' hc
    rw [cell_of_heap (heap_alloc_old w _ b (hGlt _ _ _ hc))]; exact this
  · intro i o ho hol
    by_cases e : i = c
    · subst e
      rw [oget_cons_same] at ho
      obtain rfl : ob = o := by simpa using ho
      refine ⟨by simp [Gh.at], fun b hbm => ?_⟩
      obtain rfl : w.heap.size = b := by simpa [Gh.at] using hbm
      refine ⟨go, heap_alloc_new w _, fun off => ?_, by simpa [Gh.at] using hb.mono hm⟩
      cases hg : (g.at i w.heap.size n).G w.heap.size off with
      | none => rfl
      | some c' => have := hGlt _ _ _ hg; omega
    · rw [oget_cons_other _ _ e] at ho
      obtain ⟨h1, h2⟩ := h.obj i o ho hol
      have em : (g.at c w.heap.size n).m i = g.m i := by simp [Gh.at, e]
      have ec : (g.at c w.heap.size n).cp i = g.cp i := by simp [Gh.at, e]
      rw [ObjRel, em, ec]
      refine ⟨h1, fun b hbm => ?_⟩
      obtain ⟨go', hh, hg, hbl⟩ := h2 b hbm
      exact ⟨go', by rw [heap_alloc_old w _ b (lt_of_heap hh)]; exact hh, hg, hbl.mono hm⟩
  · intro i j oi oj b hi hj hli hlj hmi hmj
    by_cases ei : i = c <;> by_cases ej : j = c
    · omega
    · rw [oget_cons_other _ _ ej] at hj
      have e1 : w.heap.size = b := by simpa [Gh.at, ei] using hmi
      have e2 : g.m j = some b := by simpa [Gh.at, ej] using hmj
      have := hown b ⟨j, oj, hj, hlj, e2⟩; omega
    · rw [oget_cons_other _ _ ei] at hi
      have e1 : w.heap.size = b := by simpa [Gh.at, ej] using hmj
      have e2 : g.m i = some b := by simpa [Gh.at, ei] using hmi
      have := hown b ⟨i, oi, hi, hli, e2⟩; omega
    · rw [oget_cons_other _ _ ei] at hi
      rw [oget_cons_other _ _ ej] at hj
      exact h.inj i j oi oj b hi hj hli hlj (by simpa [Gh.at, ei] using hmi) (by simpa [Gh.at, ej] using hmj)
  · intro b hlt hn
    exact heap_alloc_old w _ b hlt
  · rintro b ⟨i, o, ho, hol, hmi⟩
    by_cases e : i = c
    · right
      have : w.heap.size = b := by simpa [Gh.at, e] using hmi
      omega
    · left
      exact ⟨i, o, by rw [oget_cons_other _ _ e] at ho; exact ho, hol, by simpa [Gh.at, e] using hmi⟩

/-- A WRITE into an object's own block. -/
theorem HR.put (h : HR g oh w) (c b : Nat) (o ob : Obj) (go go' : Go.Obj) (ho : oget oh c = some o) (hol : o.live = true)
    (hmc : g.m c = some b) (hh : w.heap[b]? = some go) (hsz : ob.sz = o.sz) (hver : o.ver ≤ ob.ver)
    (hlen : ob.ver = o.ver → o.el.length ≤ ob.el.length) (hb : KindAt g oh ob (g.cp c) go') :
    HR g ((c, ob) :: oh) (w.putObj b go') ∧ Mono g oh g ((c, ob) :: oh) ∧ Fr g oh w g ((c, ob) :: oh) (w.putObj b go') := by
  have hm : Mono g oh g ((c, ob) :: oh) := by
    refine RdV1.lift (fun _ _ _ h => h) (fun _ _ _ h => h) fun id o' ho' => ?_
    by_cases e : id = c
    · subst e
      rw [ho] at ho'
      obtain rfl : o = o' := by simpa using ho'
      exact ⟨ob, oget_cons_same _ _ _, hver, fun e' _ => ⟨hol, hsz, hlen e', rfl, rfl⟩⟩
    · exact ⟨o', (oget_cons_other _ _ e).trans ho', Nat.le_refl _, fun _ hl => ⟨hl, rfl, Nat.le_refl _, rfl, rfl⟩⟩
  have hGb : ∀ off, g.G b off = none := by
    obtain ⟨go1, _, hg, _⟩ := (h.obj c o ho hol).2 b hmc
    exact hg
  have hother : ∀ k, k ≠ b → (w.putObj b go').heap[k]? = w.heap[k]? := fun k hk => World.putObj_heap_other hk
  refine ⟨⟨h.base, ?_, h.hF, ?_, ?_⟩, hm, ⟨rfl, rfl, rfl, rfl, by simp [World.putObj], ?_, ?_, fun _ _ _ h => h, fun _ _ _ h => h, fun _ _ _ h => .inl h, fun _ _ _ h => .inl h⟩⟩
  · intro b' off c' hc
    have hne : b' ≠ b := fun e => by rw [e, hGb] at hc; cases hc
    rw [cell_of_heap (hother b' hne)]
    exact h.hG b' off c' hc
  · intro i o' ho' hol'
    by_cases e : i = c
    · subst e
      rw [oget_cons_same] at ho'
      obtain rfl : ob = o' := by simpa using ho'
      refine ⟨by simp [hmc], fun b' hb' => ?_⟩
      obtain rfl : b = b' := by rw [hmc] at hb'; simpa using hb'
      exact ⟨go', World.putObj_heap_same (lt_of_heap hh), hGb, hb.mono hm⟩
    · rw [oget_cons_other _ _ e] at ho'
      obtain ⟨h1, h2⟩ := h.obj i o' ho' hol'
      refine ⟨h1, fun b' hb' => ?_⟩
      obtain ⟨go1, hh', hg, hbl⟩ := h2 b' hb'
      have hne : b' ≠ b := fun e' => e (h.inj i c o' o b ho' ho hol' hol (e' ▸ hb') hmc)
      exact ⟨go1, by rw [hother b' hne]; exact hh', hg, hbl.mono hm⟩
  · intro i j oi oj b' hi hj hli hlj hmi hmj
    by_cases ei : i = c <;> by_cases ej : j = c
    · omega
    · rw [oget_cons_other _ _ ej] at hj
      subst ei
      exact h.inj i j o oj b' ho hj hol hlj hmi hmj
    · rw [oget_cons_other _ _ ei] at hi
      subst ej
      exact h.inj i j oi o b' hi ho hli hol hmi hmj
    · rw [oget_cons_other _ _ ei] at hi
      rw [oget_cons_other _ _ ej] at hj
      exact h.inj i j oi oj b' hi hj hli hlj hmi hmj
  · intro b' hlt hn
    exact hother b' fun e => hn (e ▸ ⟨c, o, ho, hol, hmc⟩)
  · rintro b' ⟨i, o', ho', hol', hmi⟩
    left
    by_cases e : i = c
    · subst e
      exact ⟨i, o, ho, hol, hmi⟩
    · exact ⟨i, o', by rw [oget_cons_other _ _ e] at ho'; exact ho', hol', hmi⟩

/-- A WRITE into a row of cells. -/
theorem HR.write (h : HR g oh w) (c b : Nat) (o ob : Obj) (arr cs : Array Value) (ty : TypeId) (ho : oget oh c = some o) (hol : o.live = true)
    (hmc : g.m c = some b) (hh : w.heap[b]? = some (.cells arr ty (0, 0))) (hk : ob.k = .cells ∨ (ob.k = .typed ty ∧ g.cp c = 1) ∨ ob.k = .rows ty) (hsz : ob.sz = o.sz) (hver : o.ver ≤ ob.ver)
    (hlen : ob.ver = o.ver → o.el.length ≤ ob.el.length) (hb : BlockAt g oh ob (g.cp c) cs) :
    HR g ((c, ob) :: oh) (w.setRow b cs) ∧ Mono g oh g ((c, ob) :: oh) ∧ Fr g oh w g ((c, ob) :: oh) (w.setRow b cs) := by
  have e : w.setRow b cs = w.putObj b (.cells cs ty (0, 0)) := by
    unfold World.setRow World.putObj
    congr 1
    apply Array.ext_getElem?
    intro k
    have hlt := lt_of_heap hh
    by_cases hkb : k = b
    · subst hkb
      have h1 := setRow_heap w k arr cs ty _ hh
      have h2 := World.putObj_heap_same (w := w) (o := .cells cs ty (0, 0)) hlt
      exact h1.trans h2.symm
    · exact (setRow_other w b k cs hkb).trans (World.putObj_heap_other (w := w) (o := .cells cs ty (0, 0)) hkb).symm
  rw [e]
  refine h.put c b o ob _ _ ho hol hmc hh hsz hver hlen ?_
  unfold KindAt
  rcases hk with hk | hk | hk
  · rw [hk]; exact ⟨cs, ty, rfl, hb⟩
  · rw [hk.1]; exact ⟨cs, rfl, hb, hk.2⟩
  · rw [hk]; exact ⟨cs, rfl, hb⟩

/-- A row of cells, read. -/
theorem HR.cells (h : HR g oh w) {i b : Nat} {o : Obj} (ho : oget oh i = some o) (hl : o.live = true) (hk : o.k = .cells) (hb : g.m i = some b) :
    ∃ arr ty, w.heap[b]? = some (.cells arr ty (0, 0)) ∧ (∀ off, g.G b off = none) ∧ BlockAt g oh o (g.cp i) arr := by
  obtain ⟨go, h1, h2, h3⟩ := (h.obj i o ho hl).2 b hb
  unfold KindAt at h3
  rw [hk] at h3
  obtain ⟨arr, ty, rfl, h4⟩ := h3
  exact ⟨arr, ty, h1, h2, h4⟩
theorem HR.rows (h : HR g oh w) {i b : Nat} {o : Obj} {t : TypeId} (ho : oget oh i = some o) (hl : o.live = true) (hk : o.k = .rows t) (hb : g.m i = some b) :
    ∃ arr, w.heap[b]? = some (.cells arr t (0, 0)) ∧ (∀ off, g.G b off = none) ∧ BlockAt g oh o (g.cp i) arr := by
  obtain ⟨go, h1, h2, h3⟩ := (h.obj i o ho hl).2 b hb
  unfold KindAt at h3
  rw [hk] at h3
  obtain ⟨arr, rfl, h4⟩ := h3
  exact ⟨arr, h1, h2, h4⟩
theorem HR.cellsA (h : HR g oh w) {i b : Nat} {o : Obj} (ho : oget oh i = some o) (hl : o.live = true) (hk : o.k.ap = true) (hb : g.m i = some b) :
    ∃ arr ty, w.heap[b]? = some (.cells arr ty (0, 0)) ∧ (∀ off, g.G b off = none) ∧ BlockAt g oh o (g.cp i) arr ∧ (o.k = .cells ∨ o.k = .rows ty) := by
  cases hkk : o.k with
  | cells =>
    obtain ⟨arr, ty, h1, h2, h3⟩ := h.cells ho hl hkk hb
    exact ⟨arr, ty, h1, h2, h3, .inl rfl⟩
  | rows t =>
    obtain ⟨arr, h1, h2, h3⟩ := h.rows ho hl hkk hb
    exact ⟨arr, t, h1, h2, h3, .inr rfl⟩
  | _ => rw [hkk] at hk; cases hk
theorem HR.cellsW (h : HR g oh w) {i b : Nat} {o : Obj} (ho : oget oh i = some o) (hl : o.live = true) (hk : o.k.wr = true) (hb : g.m i = some b) :
    ∃ arr ty, w.heap[b]? = some (.cells arr ty (0, 0)) ∧ (∀ off, g.G b off = none) ∧ (BlockAt g oh o (g.cp i) arr) ∧ (o.k = .cells ∨ (o.k = .typed ty ∧ g.cp i = 1) ∨ o.k = .rows ty) := by
  cases hkk : o.k with
  | cells =>
    obtain ⟨arr, ty, h1, h2, h3⟩ := h.cells ho hl hkk hb
    exact ⟨arr, ty, h1, h2, h3, .inl rfl⟩
  | typed t =>
    obtain ⟨go, h1, h2, h3⟩ := (h.obj i o ho hl).2 b hb
    unfold KindAt at h3
    rw [hkk] at h3
    obtain ⟨arr, rfl, h4, h5⟩ := h3
    exact ⟨arr, t, h1, h2, h4, .inr (.inl ⟨rfl, h5⟩)⟩
  | rows t =>
    obtain ⟨arr, h1, h2, h3⟩ := h.rows ho hl hkk hb
    exact ⟨arr, t, h1, h2, h3, .inr (.inr rfl)⟩
  | _ => rw [hkk] at hk; cases hk
theorem HR.cellsR (h : HR g oh w) {i b : Nat} {o : Obj} (ho : oget oh i = some o) (hl : o.live = true) (hk : o.k.row = true) (hb : g.m i = some b) :
    ∃ arr ty fz, w.heap[b]? = some (.cells arr ty fz) ∧ (∀ off, g.G b off = none) ∧ BlockAt g oh o (g.cp i) arr := by
  cases hkk : o.k with
  | cells =>
    obtain ⟨arr, ty, h1, h2, h3⟩ := h.cells ho hl hkk hb
    exact ⟨arr, ty, _, h1, h2, h3⟩
  | typed t =>
    obtain ⟨arr, ty, h1, h2, h3, _⟩ := h.cellsW ho hl (by rw [hkk]; rfl) hb
    exact ⟨arr, ty, _, h1, h2, h3⟩
  | rows t =>
    obtain ⟨arr, h1, h2, h3⟩ := h.rows ho hl hkk hb
    exact ⟨arr, t, _, h1, h2, h3⟩
  | bytes =>
    obtain ⟨go, h1, h2, h3⟩ := (h.obj i o ho hl).2 b hb
    unfold KindAt at h3
    rw [hkk] at h3
    obtain ⟨arr, ty, rfl, h4⟩ := h3
    exact ⟨arr, ty, _, h1, h2, h4⟩
  | _ => rw [hkk] at hk; cases hk
end

end Go.Ev
