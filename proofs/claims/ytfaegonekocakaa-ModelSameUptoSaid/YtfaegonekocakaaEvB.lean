/-
  OWN LAYER 'Ev', PART B: WHAT PURE VALUES MEAN IN A WORLD: readings of read-only data, of owned objects; how a world may go on.
-/
import Derived.Test.YtfaegonekocakaaEvA
import Derived.Laws.AppendOwn
import Derived.Laws.MakeOwn
import Derived.Laws.Tables
import Derived.Laws.CopyRow
import Derived.Below
set_option linter.all false
namespace Go.Ev

abbrev Sto := Nat → Nat → Option Value

/-- A value reads as data. -/
inductive RdT (S : Sto) : T → Value → Prop
  | con (v : Value) (h : v.oneCell' = true) : RdT S (.con v) v
  | sl (l : List T) (a : Option Addr) (cap esz b off : Nat) (c : Nat → Nat → Value)
      (hc : l.length ≤ cap) (hm : cap ≤ maxLen) (ha : l ≠ [] → a = some ⟨b, off, none⟩)
      (hz : ∀ (i : Nat) (t : T), l[i]? = some t → t.cells.length = esz)
      (hs : ∀ (i : Nat) (t : T) (j : Nat), l[i]? = some t → j < t.cells.length → S b (off + i * esz + j) = some (c i j))
      (h1 : ∀ (i : Nat) (t : T) (j : Nat), l[i]? = some t → j < t.cells.length → (c i j).oneCell' = true)
      (hr : ∀ (i : Nat) (t : T) (j : Nat) (u : T), l[i]? = some t → t.cells[j]? = some u → RdT S u (c i j)) : RdT S (.sl l) (.slice a l.length cap)
  | ptr (l : List T) (b off : Nat) (c : Nat → Value)
      (hs : ∀ j, j < l.length → S b (off + j) = some (c j)) (h1 : ∀ j, j < l.length → (c j).oneCell' = true)
      (hr : ∀ (j : Nat) (u : T), l[j]? = some u → RdT S u (c j)) : RdT S (.ptr l) (.pointer (some ⟨b, off, none⟩))
  | agg (l : List T) (cs : Array Value) (hl : cs.size = l.length)
      (h1 : ∀ (j : Nat) (c : Value), cs[j]? = some c → c.oneCell' = true)
      (hr : ∀ (j : Nat) (u : T) (c : Value), l[j]? = some u → cs[j]? = some c → RdT S u c) : RdT S (.agg l) (.agg cs)
  | tup (l : List T) (vs : Array Value) (hl : vs.size = l.length) (h1 : ∀ (j : Nat) (us : Array Value), vs[j]? ≠ some (.tuple us))
      (hr : ∀ (j : Nat) (u : T) (c : Value), l[j]? = some u → vs[j]? = some c → RdT S u c) : RdT S (.tup l) (.tuple vs)

theorem RdT.mono {S S' : Sto} (hS : ∀ b o c, S b o = some c → S' b o = some c) {t : T} {v : Value} (h : RdT S t v) : RdT S' t v := by
  induction h with
  | con v h => exact .con v h
  | sl l a cap esz b off c hc hm ha hz hs h1 hr ih =>
    exact .sl l a cap esz b off c hc hm ha hz (fun i t j hi hj => hS _ _ _ (hs i t j hi hj)) h1 ih
  | ptr l b off c hs h1 hr ih => exact .ptr l b off c (fun j hj => hS _ _ _ (hs j hj)) h1 ih
  | agg l cs hl h1 hr ih => exact .agg l cs hl h1 ih
  | tup l vs hl h1 hr ih => exact .tup l vs hl h1 ih

/-- What stands behind pure values: read-only cells; those among them that this call has made; each object's block; how many elements it has room for. -/
structure Gh where
  G : Sto
  F : Sto
  m : Nat → Option Nat
  cp : Nat → Nat

def Gh.sto (g : Gh) : Bool → Sto
  | true => g.F
  | false => g.G

def OwnAt (g : Gh) (o : Obj) (id off len : Nat) (x : Value) : Prop :=
  ∃ a cap, x = .slice a len cap ∧ len ≤ cap ∧ off + len ≤ o.el.length ∧ (cap ≠ 0 → ∃ b, g.m id = some b ∧ a = some ⟨b, off * o.sz, none⟩ ∧ off + cap ≤ g.cp id)

/-- One cell. -/
def RdV1 (g : Gh) (oh : OH) : V → Value → Prop
  | .undef, _ => True
  | .con v, x => x = v ∧ v.oneCell' = true
  | .ro f t, x => RdT (g.sto f) t x ∧ x.oneCell' = true
  | .emp, x => ∃ a, x = .slice a 0 0
  | .own id ver off len, x => x.oneCell' = true ∧ ∃ o, oget oh id = some o ∧ ver ≤ o.ver ∧ (o.ver = ver → o.live = true → OwnAt g o id off len x)
  | .ref id ver i foff, x => x.oneCell' = true ∧ ∃ o, oget oh id = some o ∧ ver ≤ o.ver ∧ (o.ver = ver → o.live = true → ∃ b, g.m id = some b ∧ x = .pointer (some ⟨b, i * o.sz + foff, none⟩))
  | _, _ => False

/-- A value: one cell, or a struct. -/
def RdA (g : Gh) (oh : OH) : V → Value → Prop
  | .agg l, x => ∃ cs : Array Value, x = .agg cs ∧ cs.size = l.length ∧ ∀ (j : Nat) (v : V) (c : Value), l[j]? = some v → cs[j]? = some c → RdV1 g oh v c ∧ c.oneCell' = true
  | v, x => RdV1 g oh v x

def RdV (g : Gh) (oh : OH) : V → Value → Prop
  | .tup l, x => ∃ vs : Array Value, x = .tuple vs ∧ vs.size = l.length ∧ ∀ (j : Nat) (v : V) (c : Value), l[j]? = some v → vs[j]? = some c → RdA g oh v c
  | v, x => RdA g oh v x

/-- The cells of an element, from place k * sz of a block on. -/
def ElAt (g : Gh) (oh : OH) (sz : Nat) (arr : Array Value) (k : Nat) (e : V) : Prop :=
  e.cells.length = sz ∧ ∀ j v, e.cells[j]? = some v → ∃ c, arr[k * sz + j]? = some c ∧ c.oneCell' = true ∧ RdV1 g oh v c

def BlockAt (g : Gh) (oh : OH) (o : Obj) (n : Nat) (arr : Array Value) : Prop :=
  arr.size = n * o.sz ∧ o.el.length ≤ n ∧ n ≤ maxLen ∧ ∀ k e, o.el[k]? = some e → ElAt g oh o.sz arr k e

def ObjRel (g : Gh) (oh : OH) (w : World) (i : Nat) (o : Obj) : Prop :=
  (g.m i = none → o.el = []) ∧ ∀ b, g.m i = some b → ∃ arr ty, w.heap[b]? = some (.cells arr ty (0, 0)) ∧ (∀ off, g.G b off = none) ∧ BlockAt g oh o (g.cp i) arr

structure HR (g : Gh) (oh : OH) (w : World) : Prop where
  hG : ∀ b o c, g.G b o = some c → w.cell? ⟨b, o, none⟩ = some c
  hF : ∀ b o c, g.F b o = some c → g.G b o = some c
  obj : ∀ i o, oget oh i = some o → o.live = true → ObjRel g oh w i o
  inj : ∀ i j oi oj b, oget oh i = some oi → oget oh j = some oj → oi.live = true → oj.live = true → g.m i = some b → g.m j = some b → i = j

def Owned (g : Gh) (oh : OH) (b : Nat) : Prop := ∃ i o, oget oh i = some o ∧ o.live = true ∧ g.m i = some b

def Mono (g : Gh) (oh : OH) (g' : Gh) (oh' : OH) : Prop := ∀ v x, RdV1 g oh v x → RdV1 g' oh' v x

theorem Mono.refl (g : Gh) (oh : OH) : Mono g oh g oh := fun _ _ h => h
theorem Mono.trans {g g1 g2 : Gh} {oh oh1 oh2 : OH} (h : Mono g oh g1 oh1) (k : Mono g1 oh1 g2 oh2) : Mono g oh g2 oh2 := fun v x r => k v x (h v x r)

theorem Mono.rdA {g g' : Gh} {oh oh' : OH} (h : Mono g oh g' oh') {v : V} {x : Value} (r : RdA g oh v x) : RdA g' oh' v x := by
  cases v with
  | agg l => obtain ⟨cs, rfl, hl, hr⟩ := r; exact ⟨cs, rfl, hl, fun j v c h1 h2 => ⟨h _ _ (hr j v c h1 h2).1, (hr j v c h1 h2).2⟩⟩
  | _ => simp only [RdA] at r ⊢; exact h _ _ r

theorem Mono.rdV {g g' : Gh} {oh oh' : OH} (h : Mono g oh g' oh') {v : V} {x : Value} (r : RdV g oh v x) : RdV g' oh' v x := by
  cases v with
  | tup l => obtain ⟨cs, rfl, hl, hr⟩ := r; exact ⟨cs, rfl, hl, fun j v c h1 h2 => h.rdA (hr j v c h1 h2)⟩
  | _ => simp only [RdV] at r ⊢; exact h.rdA r

theorem ElAt.mono {g g' : Gh} {oh oh' : OH} (h : Mono g oh g' oh') {sz : Nat} {arr : Array Value} {k : Nat} {e : V} (r : ElAt g oh sz arr k e) : ElAt g' oh' sz arr k e :=
  ⟨r.1, fun j v hv => let ⟨c, h1, h2, h3⟩ := r.2 j v hv; ⟨c, h1, h2, h _ _ h3⟩⟩

theorem BlockAt.mono {g g' : Gh} {oh oh' : OH} (h : Mono g oh g' oh') {o : Obj} {n : Nat} {arr : Array Value} (r : BlockAt g oh o n arr) : BlockAt g' oh' o n arr :=
  ⟨r.1, r.2.1, r.2.2.1, fun k e he => (r.2.2.2 k e he).mono h⟩

/-- How the world may go on: what is not owned stays. -/
structure Fr (g : Gh) (oh : OH) (w : World) (g' : Gh) (oh' : OH) (w' : World) : Prop where
  os : w'.os = w.os
  tape : w'.tape = w.tape
  output : w'.output = w.output
  size : w.heap.size ≤ w'.heap.size
  keep : ∀ b, b < w.heap.size → ¬ Owned g oh b → w'.heap[b]? = w.heap[b]?
  own : ∀ b, Owned g' oh' b → Owned g oh b ∨ w.heap.size ≤ b
  G : ∀ b o c, g.G b o = some c → g'.G b o = some c
  F : ∀ b o c, g.F b o = some c → g'.F b o = some c
  nG : ∀ b o c, g'.G b o = some c → g.G b o = some c ∨ Owned g oh b ∨ w.heap.size ≤ b
  nF : ∀ b o c, g'.F b o = some c → g.F b o = some c ∨ Owned g oh b ∨ w.heap.size ≤ b

theorem Fr.refl (g : Gh) (oh : OH) (w : World) : Fr g oh w g oh w :=
  ⟨rfl, rfl, rfl, Nat.le_refl _, fun _ _ _ => rfl, fun _ h => .inl h, fun _ _ _ h => h, fun _ _ _ h => h, fun _ _ _ h => .inl h, fun _ _ _ h => .inl h⟩

theorem Fr.trans {g g1 g2 : Gh} {oh oh1 oh2 : OH} {w w1 w2 : World} (h : Fr g oh w g1 oh1 w1) (k : Fr g1 oh1 w1 g2 oh2 w2) : Fr g oh w g2 oh2 w2 where
  os := k.os.trans h.os
  tape := k.tape.trans h.tape
  output := k.output.trans h.output
  size := Nat.le_trans h.size k.size
  keep b hb hn := by
    refine (k.keep b (Nat.lt_of_lt_of_le hb h.size) fun ho => ?_).trans (h.keep b hb hn)
    rcases h.own b ho with h' | h'
    · exact hn h'
    · omega
  own b hb := by
    rcases k.own b hb with h' | h'
    · exact h.own b h'
    · have := h.size; exact .inr (by omega)
  G b o c hc := k.G b o c (h.G b o c hc)
  F b o c hc := k.F b o c (h.F b o c hc)
  nG b o c hc := by
    rcases k.nG b o c hc with h' | h' | h'
    · exact h.nG b o c h'
    · rcases h.own b h' with h'' | h''
      · exact .inr (.inl h'')
      · exact .inr (.inr h'')
    · have := h.size; exact .inr (.inr (by omega))
  nF b o c hc := by
    rcases k.nF b o c hc with h' | h' | h'
    · exact h.nF b o c h'
    · rcases h.own b h' with h'' | h''
      · exact .inr (.inl h'')
      · exact .inr (.inr h'')
    · have := h.size; exact .inr (.inr (by omega))

theorem cell_of_heap {w w' : World} {b o : Nat} (h : w'.heap[b]? = w.heap[b]?) : w'.cell? ⟨b, o, none⟩ = w.cell? ⟨b, o, none⟩ := by simp [World.cell?, h]

theorem lt_of_cell {w : World} {b o : Nat} {c : Value} (h : w.cell? ⟨b, o, none⟩ = some c) : b < w.heap.size := World.block_lt_of_cell? w _ h
theorem lt_of_heap {w : World} {b : Nat} {o : Go.Obj} (h : w.heap[b]? = some o) : b < w.heap.size := (Array.getElem?_eq_some_iff.1 h).1

/-- Another world with the same heap. -/
theorem HR.same {g : Gh} {oh : OH} {w w' : World} (h : HR g oh w) (e : w'.heap = w.heap) : HR g oh w' where
  hG b o c hc := by have := h.hG b o c hc; simpa [World.cell?, e] using this
  hF := h.hF
  obj i o ho hl := by
    obtain ⟨h1, h2⟩ := h.obj i o ho hl
    refine ⟨h1, fun b hb => ?_⟩
    rw [e]; exact h2 b hb
  inj := h.inj

theorem Fr.drew {g g' : Gh} {oh oh' : OH} {w w' : World} (h : Fr g oh w.drew g' oh' w') : Fr g oh w g' oh' w' :=
  ⟨h.os, h.tape, h.output, h.size, h.keep, h.own, h.G, h.F, h.nG, h.nF⟩

theorem oget_cons_same (c : Nat) (o : Obj) (oh : OH) : oget ((c, o) :: oh) c = some o := by simp [oget]
theorem oget_cons_other {c i : Nat} (o : Obj) (oh : OH) (h : i ≠ c) : oget ((c, o) :: oh) i = oget oh i := by
  have e : ¬ c = i := fun e => h e.symm
  simp [oget, e]

/-- A block put in the place of an object's number: new, or moved. -/
def Gh.at (g : Gh) (c b n : Nat) : Gh := { g with m := fun i => if i = c then some b else g.m i, cp := fun i => if i = c then n else g.cp i }

section
variable {g : Gh} {oh : OH} {w : World}

theorem RdV1.lift {oh' : OH} {g' : Gh} (hF : ∀ b o c, g.F b o = some c → g'.F b o = some c) (hG : ∀ b o c, g.G b o = some c → g'.G b o = some c)
    (hown : ∀ id o, oget oh id = some o → ∃ o', oget oh' id = some o' ∧ o.ver ≤ o'.ver ∧ (o'.ver = o.ver → o'.live = true → o.live = true ∧ o'.sz = o.sz ∧ o.el.length ≤ o'.el.length ∧ g'.m id = g.m id ∧ g'.cp id = g.cp id)) :
    Mono g oh g' oh' := by
  intro v x h
  cases v with
  | undef => trivial
  | con v => exact h
  | ro f t =>
    refine ⟨h.1.mono ?_, h.2⟩
    cases f
    · exact hG
    · exact hF
  | emp => exact h
  | own id ver off len =>
    obtain ⟨h1, o, ho, hv, hc⟩ := h
    obtain ⟨o', ho', hle, hcc⟩ := hown id o ho
    refine ⟨h1, o', ho', Nat.le_trans hv hle, fun e hl => ?_⟩
    have hvv : o.ver = ver := Nat.le_antisymm (by omega) hv
    obtain ⟨l1, l2, l3, l4, l5⟩ := hcc (by omega) hl
    obtain ⟨a, cap, hx, hlc, hoff, hb⟩ := hc hvv l1
    exact ⟨a, cap, hx, hlc, by omega, by rw [l2, l4, l5]; exact hb⟩
  | ref id ver i foff =>
    obtain ⟨h1, o, ho, hv, hc⟩ := h
    obtain ⟨o', ho', hle, hcc⟩ := hown id o ho
    refine ⟨h1, o', ho', Nat.le_trans hv hle, fun e hl => ?_⟩
    have hvv : o.ver = ver := Nat.le_antisymm (by omega) hv
    obtain ⟨l1, l2, l3, l4, l5⟩ := hcc (by omega) hl
    obtain ⟨b, hb, hx⟩ := hc hvv l1
    exact ⟨b, by rw [l4]; exact hb, by rw [l2]; exact hx⟩
  | agg l => exact h.elim
  | tup l => exact h.elim

/-- A NEW BLOCK for number c: a new object, or one that was moved. -/
theorem HR.place (h : HR g oh w) (c n : Nat) (ob : Obj) (arr : Array Value) (ty : TypeId) (hv : ∀ o, oget oh c = some o → o.ver < ob.ver)
    (hb : BlockAt g oh ob n arr) :
    HR (g.at c w.heap.size n) ((c, ob) :: oh) (w.alloc (.cells arr ty)) ∧ Mono g oh (g.at c w.heap.size n) ((c, ob) :: oh) ∧
    Fr g oh w (g.at c w.heap.size n) ((c, ob) :: oh) (w.alloc (.cells arr ty)) := by
  have hm : Mono g oh (g.at c w.heap.size n) ((c, ob) :: oh) := by
    refine RdV1.lift (fun _ _ _ h => h) (fun _ _ _ h => h) fun id o ho => ?_
    by_cases e : id = c
    · subst e
      exact ⟨ob, oget_cons_same _ _ _, by have := hv o ho; omega, fun e' => by have := hv o ho; omega⟩
    · exact ⟨o, (oget_cons_other _ _ e).trans ho, Nat.le_refl _, fun _ hl => ⟨hl, rfl, Nat.le_refl _, by simp [Gh.at, e], by simp [Gh.at, e]⟩⟩
  have hGlt : ∀ b o c, g.G b o = some c → b < w.heap.size := fun b o c hc => lt_of_cell (h.hG b o c hc)
  have hown : ∀ b, Owned g oh b → b < w.heap.size := by
    rintro b ⟨i, o, ho, hol, hmi⟩
    obtain ⟨arr', ty', hh, _⟩ := (h.obj i o ho hol).2 b hmi
    exact lt_of_heap hh
  refine ⟨⟨?_, h.hF, ?_, ?_⟩, hm, ⟨rfl, rfl, rfl, by show _ ≤ (w.heap.push _).size; simp, ?_, ?_, fun _ _ _ h => h, fun _ _ _ h => h, fun _ _ _ h => .inl h, fun _ _ _ h => .inl h⟩⟩
  · intro b o c' hc
    have := h.hG b o c' hc
    rw [cell_of_heap (heap_alloc_old w _ b (hGlt _ _ _ hc))]; exact this
  · intro i o ho hol
    by_cases e : i = c
    · subst e
      rw [oget_cons_same] at ho
      obtain rfl : ob = o := by simpa using ho
      refine ⟨by simp [Gh.at], fun b hbm => ?_⟩
      obtain rfl : w.heap.size = b := by simpa [Gh.at] using hbm
      refine ⟨arr, ty, heap_alloc_new w _, fun off => ?_, by simpa [Gh.at] using hb.mono hm⟩
      cases hg : (g.at i w.heap.size n).G w.heap.size off with
      | none => rfl
      | some c' => have := hGlt _ _ _ hg; omega
    · rw [oget_cons_other _ _ e] at ho
      obtain ⟨h1, h2⟩ := h.obj i o ho hol
      have em : (g.at c w.heap.size n).m i = g.m i := by simp [Gh.at, e]
      have ec : (g.at c w.heap.size n).cp i = g.cp i := by simp [Gh.at, e]
      rw [ObjRel, em, ec]
      refine ⟨h1, fun b hbm => ?_⟩
      obtain ⟨arr', ty', hh, hg, hbl⟩ := h2 b hbm
      exact ⟨arr', ty', by rw [heap_alloc_old w _ b (lt_of_heap hh)]; exact hh, hg, hbl.mono hm⟩
  · intro i j oi oj b hi hj hli hlj hmi hmj
    by_cases ei : i = c <;> by_cases ej : j = c
    · omega
    · rw [oget_cons_other _ _ ej] at hj
      have e1 : w.heap.size = b := by simpa [Gh.at, ei] using hmi
      have e2 : g.m j = some b := by simpa [Gh.at, ej] using hmj
      have := hown b ⟨j, oj, hj, hlj, e2⟩; omega
    · rw [oget_cons_other _ _ ei] at hi
      have e1 : w.heap.size = b := by simpa [Gh.at, ej] using hmj
      have e2 : g.m i = some b := by simpa [Gh.at, ei] using hmi
      have := hown b ⟨i, oi, hi, hli, e2⟩; omega
    · rw [oget_cons_other _ _ ei] at hi
      rw [oget_cons_other _ _ ej] at hj
      exact h.inj i j oi oj b hi hj hli hlj (by simpa [Gh.at, ei] using hmi) (by simpa [Gh.at, ej] using hmj)
  · intro b hlt hn
    exact heap_alloc_old w _ b hlt
  · rintro b ⟨i, o, ho, hol, hmi⟩
    by_cases e : i = c
    · right
      have : w.heap.size = b := by simpa [Gh.at, e] using hmi
      omega
    · left
      exact ⟨i, o, by rw [oget_cons_other _ _ e] at ho; exact ho, hol, by simpa [Gh.at, e] using hmi⟩

/-- A WRITE into an object's own block. -/
theorem HR.write (h : HR g oh w) (c b : Nat) (o ob : Obj) (arr cs : Array Value) (ty : TypeId) (ho : oget oh c = some o) (hol : o.live = true)
    (hmc : g.m c = some b) (hh : w.heap[b]? = some (.cells arr ty (0, 0))) (hsz : ob.sz = o.sz) (hver : o.ver ≤ ob.ver)
    (hlen : ob.ver = o.ver → o.el.length ≤ ob.el.length) (hb : BlockAt g oh ob (g.cp c) cs) :
    HR g ((c, ob) :: oh) (w.setRow b cs) ∧ Mono g oh g ((c, ob) :: oh) ∧ Fr g oh w g ((c, ob) :: oh) (w.setRow b cs) := by
  have hm : Mono g oh g ((c, ob) :: oh) := by
    refine RdV1.lift (fun _ _ _ h => h) (fun _ _ _ h => h) fun id o' ho' => ?_
    by_cases e : id = c
    · subst e
      rw [ho] at ho'
      obtain rfl : o = o' := by simpa using ho'
      exact ⟨ob, oget_cons_same _ _ _, hver, fun e' _ => ⟨hol, hsz, hlen e', rfl, rfl⟩⟩
    · exact ⟨o', (oget_cons_other _ _ e).trans ho', Nat.le_refl _, fun _ hl => ⟨hl, rfl, Nat.le_refl _, rfl, rfl⟩⟩
  have hGb : ∀ off, g.G b off = none := by
    obtain ⟨arr', ty', _, hg, _⟩ := (h.obj c o ho hol).2 b hmc
    exact hg
  have hother : ∀ k, k ≠ b → (w.setRow b cs).heap[k]? = w.heap[k]? := fun k hk => setRow_other w b k cs hk
  refine ⟨⟨?_, h.hF, ?_, ?_⟩, hm, ⟨rfl, rfl, rfl, by simp [World.setRow], ?_, ?_, fun _ _ _ h => h, fun _ _ _ h => h, fun _ _ _ h => .inl h, fun _ _ _ h => .inl h⟩⟩
  · intro b' off c' hc
    have hne : b' ≠ b := fun e => by rw [e, hGb] at hc; cases hc
    rw [cell_of_heap (hother b' hne)]
    exact h.hG b' off c' hc
  · intro i o' ho' hol'
    by_cases e : i = c
    · subst e
      rw [oget_cons_same] at ho'
      obtain rfl : ob = o' := by simpa using ho'
      refine ⟨by simp [hmc], fun b' hb' => ?_⟩
      obtain rfl : b = b' := by rw [hmc] at hb'; simpa using hb'
      exact ⟨cs, ty, setRow_heap w b arr cs ty _ hh, hGb, hb.mono hm⟩
    · rw [oget_cons_other _ _ e] at ho'
      obtain ⟨h1, h2⟩ := h.obj i o' ho' hol'
      refine ⟨h1, fun b' hb' => ?_⟩
      obtain ⟨arr', ty', hh', hg, hbl⟩ := h2 b' hb'
      have hne : b' ≠ b := fun e' => e (h.inj i c o' o b ho' ho hol' hol (e' ▸ hb') hmc)
      exact ⟨arr', ty', by rw [hother b' hne]; exact hh', hg, hbl.mono hm⟩
  · intro i j oi oj b' hi hj hli hlj hmi hmj
    by_cases ei : i = c <;> by_cases ej : j = c
    · omega
    · rw [oget_cons_other _ _ ej] at hj
      subst ei
      exact h.inj i j o oj b' ho hj hol hlj hmi hmj
    · rw [oget_cons_other _ _ ei] at hi
      subst ej
      exact h.inj i j oi o b' hi ho hli hol hmi hmj
    · rw [oget_cons_other _ _ ei] at hi
      rw [oget_cons_other _ _ ej] at hj
      exact h.inj i j oi oj b' hi hj hli hlj hmi hmj
  · intro b' hlt hn
    exact hother b' fun e => hn (e ▸ ⟨c, o, ho, hol, hmc⟩)
  · rintro b' ⟨i, o', ho', hol', hmi⟩
    left
    by_cases e : i = c
    · subst e
      exact ⟨i, o, ho, hol, hmi⟩
    · exact ⟨i, o', by rw [oget_cons_other _ _ e] at ho'; exact ho', hol', hmi⟩
end

end Go.Ev
