/-
  OWN LAYER 'Ev', PART W: objects given up, shown by lists.
-/
import Derived.Test.YtfaegonekocakaaEvO
set_option linter.all false
namespace Go.Ev

theorem og_here (i : Nat) (o : Obj) (r : OH) : oget ((i, o) :: r) i = some o := by simp [oget]
theorem og_skip {i c : Nat} {x o : Obj} {r : OH} (h : i ≠ c) (h2 : oget r c = some o) : oget ((i, x) :: r) c = some o := by simp [oget, h, h2]
theorem on_nil (c : Nat) : oget [] c = none := rfl
theorem on_skip {i c : Nat} {x : Obj} {r : OH} (h : i ≠ c) (h2 : oget r c = none) : oget ((i, x) :: r) c = none := by simp [oget, h, h2]
theorem os_here (i : Nat) (o : Obj) (r : OH) : (oget ((i, o) :: r) i).isSome = true := by simp [oget]
theorem os_skip {i c : Nat} {x : Obj} {r : OH} (h : i ≠ c) (h2 : (oget r c).isSome = true) : (oget ((i, x) :: r) c).isSome = true := by simp [oget, h, h2]

/-- cells without objects -/
def V.flat1 : V → Prop
  | .con _ | .ro .. | .emp => True
  | _ => False
def V.flat : V → Prop
  | .agg l => ∀ v ∈ l, v.flat1
  | v => v.flat1
def FlatO (tl : OH) : Prop := ∀ i o, oget tl i = some o → ∀ e ∈ o.el, e.flat
theorem flat_nil : FlatO [] := fun i o h => by simp [oget] at h

theorem V.flat1.cl1 {v : V} (oh : OH) (h : v.flat1) : v.cl1 oh := by cases v <;> first | trivial | exact h.elim
theorem V.flat.cl {v : V} (oh : OH) (h : v.flat) : v.cl oh := by
  cases v with
  | agg l => exact fun u hu => (h u hu).cl1 oh
  | con _ => trivial
  | ro _ _ => trivial
  | emp => trivial
  | undef => exact h.elim
  | own => exact h.elim
  | ref => exact h.elim
  | tup => exact h.elim
theorem V.flat.lv {oh oh1 : OH} {v : V} (h : v.flat) : LV oh oh1 v v := by
  cases v with
  | agg l =>
    refine ⟨rfl, fun j a b ha hb => ?_⟩
    rw [ha] at hb
    obtain rfl : a = b := by simpa using hb
    exact .same _ ((h a (List.mem_of_getElem? ha)).cl1 oh1)
  | con _ => exact .same _ trivial
  | ro _ _ => exact .same _ trivial
  | emp => exact .same _ trivial
  | undef => exact h.elim
  | own => exact h.elim
  | ref => exact h.elim
  | tup => exact h.elim

def lcL (oh oh1 : OH) : List V → List V → Prop
  | [], [] => True
  | a :: r, b :: s => Lc oh oh1 a b ∧ lcL oh oh1 r s
  | _, _ => False
theorem lcL_spec {oh oh1 : OH} : ∀ {l l1 : List V}, lcL oh oh1 l l1 → l.length = l1.length ∧ ∀ (j : Nat) (a b : V), l[j]? = some a → l1[j]? = some b → Lc oh oh1 a b
  | [], [], _ => ⟨rfl, fun j a b h => by simp at h⟩
  | a :: r, b :: s, h => by
    obtain ⟨h1, h2⟩ := lcL_spec h.2
    refine ⟨by simp [h1], fun j x y hx hy => ?_⟩
    cases j with
    | zero => simp at hx hy; subst hx; subst hy; exact h.1
    | succ j => simp at hx hy; exact h2 j x y hx hy
  | [], _ :: _, h => h.elim
  | _ :: _, [], h => h.elim
theorem lv_agg {oh oh1 : OH} {l l1 : List V} (h : lcL oh oh1 l l1) : LV oh oh1 (.agg l) (.agg l1) := lcL_spec h

def lfEnv (oh oh1 : OH) (e : Env) : Env → Prop
  | [] => True
  | (t, v) :: r => LV oh oh1 (eget e t) v ∧ lfEnv oh oh1 e r
theorem lfEnv_spec {oh oh1 : OH} {e : Env} : ∀ {l : Env}, lfEnv oh oh1 e l → ∀ t, eget l t = .undef ∨ LV oh oh1 (eget e t) (eget l t)
  | [], _, t => .inl rfl
  | (i, v) :: r, h, t => by
    by_cases e : i = t
    · subst e; rw [eget_cons, if_pos rfl]; exact .inr h.1
    · rw [eget_cons, if_neg e]; exact lfEnv_spec h.2 t

/-- an object of which no more is known than before -/
def lfOb (oh oh1 : OH) (i : Nat) (o1 : Obj) : Prop :=
  (∃ o, oget oh i = some o ∧ o1.sz = o.sz ∧ o1.ver = o.ver ∧ o1.live = o.live ∧ o1.el.length = o.el.length ∧ ∀ (k : Nat) (e e1 : V), o.el[k]? = some e → o1.el[k]? = some e1 → LV oh oh1 e e1) ∨
    (oget oh i = none ∧ o1.el = [] ∧ o1.ver = 0 ∧ o1.live = true)
def lfObjs (oh oh1 : OH) : OH → Prop
  | [] => True
  | (i, o1) :: r => lfOb oh oh1 i o1 ∧ lfObjs oh oh1 r
theorem lfObjs_spec {oh oh1 tl : OH} (ht : ∀ i o, oget tl i = some o → lfOb oh oh1 i o) : ∀ {l : OH}, lfObjs oh oh1 l → ∀ i o, oget (l ++ tl) i = some o → lfOb oh oh1 i o
  | [], _, i, o, h => ht i o h
  | (j, x) :: r, h, i, o, hg => by
    by_cases e : j = i
    · subst e
      rw [List.cons_append, og_here] at hg
      obtain rfl : x = o := by simpa using hg
      exact h.1
    · have : oget (r ++ tl) i = some o := by rw [List.cons_append] at hg; simpa [oget, e] using hg
      exact lfObjs_spec ht h.2 i o this

theorem lfOb_same {oh oh1 : OH} {i : Nat} {o : Obj} (h : oget oh i = some o) (hf : ∀ e ∈ o.el, e.flat) : lfOb oh oh1 i o := by
  refine .inl ⟨o, h, rfl, rfl, rfl, rfl, fun k e e1 h1 h2 => ?_⟩
  rw [h1] at h2
  obtain rfl : e = e1 := by simpa using h2
  exact (hf e (List.mem_of_getElem? h1)).lv
theorem lfOb_one {oh oh1 : OH} {i sz ver : Nat} {e e1 : V} {b : Bool} (h : oget oh i = some ⟨sz, [e], ver, b⟩) (hl : LV oh oh1 e e1) : lfOb oh oh1 i ⟨sz, [e1], ver, b⟩ := by
  refine .inl ⟨_, h, rfl, rfl, rfl, rfl, fun k x x1 h1 h2 => ?_⟩
  cases k with
  | zero => simp at h1 h2; subst h1; subst h2; exact hl
  | succ k => simp at h1
theorem lfOb_new {oh oh1 : OH} {i sz : Nat} (h : oget oh i = none) : lfOb oh oh1 i ⟨sz, [], 0, true⟩ := .inr ⟨h, rfl, rfl, rfl⟩
/-- one element put to a list -/
theorem lfOb_app {α : Type} {oh oh1 : OH} {i sz ver n : Nat} {b : Bool} {F : α → V} {l l' : List α} {a : α} {e : V} (h : oget oh i = some ⟨sz, (l.map F).take n ++ [e], ver, b⟩) (hn : n = l.length) (hl' : l' = l ++ [a])
    (hF : ∀ x ∈ l, (F x).flat) (hl : LV oh oh1 e (F a)) : lfOb oh oh1 i ⟨sz, l'.map F, ver, b⟩ := by
  subst hl'
  rw [List.take_of_length_le (by simp [hn])] at h
  refine .inl ⟨_, h, rfl, rfl, rfl, by simp, fun k x x1 h1 h2 => ?_⟩
  simp only [List.map_append, List.map_cons, List.map_nil] at h1 h2
  by_cases hk : k < (l.map F).length
  · rw [List.getElem?_append_left hk] at h1 h2
    rw [h1] at h2
    obtain rfl : x = x1 := by simpa using h2
    obtain ⟨y, hy, rfl⟩ := List.mem_map.1 (List.mem_of_getElem? h1)
    exact (hF y hy).lv
  · rw [List.getElem?_append_right (by omega)] at h1 h2
    cases hj : k - (l.map F).length with
    | zero => rw [hj] at h1 h2; simp at h1 h2; subst h1; subst h2; exact hl
    | succ j => rw [hj] at h1; simp at h1
/-- the same, where the elements lean on objects that stay -/
theorem lfOb_appc {α : Type} {oh oh1 : OH} {i sz ver n : Nat} {b : Bool} {F : α → V} {l l' : List α} {a : α} {e : V} (h : oget oh i = some ⟨sz, (l.map F).take n ++ [e], ver, b⟩) (hn : n = l.length) (hl' : l' = l ++ [a])
    (hF : ∀ x ∈ l, LV oh oh1 (F x) (F x)) (hl : LV oh oh1 e (F a)) : lfOb oh oh1 i ⟨sz, l'.map F, ver, b⟩ := by
  subst hl'
  rw [List.take_of_length_le (by simp [hn])] at h
  refine .inl ⟨_, h, rfl, rfl, rfl, by simp, fun k x x1 h1 h2 => ?_⟩
  simp only [List.map_append, List.map_cons, List.map_nil] at h1 h2
  by_cases hk : k < (l.map F).length
  · rw [List.getElem?_append_left hk] at h1 h2
    rw [h1] at h2
    obtain rfl : x = x1 := by simpa using h2
    obtain ⟨y, hy, rfl⟩ := List.mem_map.1 (List.mem_of_getElem? h1)
    exact hF y hy
  · rw [List.getElem?_append_right (by omega)] at h1 h2
    cases hj : k - (l.map F).length with
    | zero => rw [hj] at h1 h2; simp at h1 h2; subst h1; subst h2; exact hl
    | succ j => rw [hj] at h1; simp at h1

theorem lf_of {n : Nat} {e e1 : Env} {oh f tl : OH} (he : lfEnv oh (f ++ tl) e e1) (hf : lfObjs oh (f ++ tl) f) (ht : FlatO tl) (hs : ∀ i o, oget tl i = some o → oget oh i = some o) :
    Lf ⟨n, e1, f ++ tl⟩ ⟨n, e, oh⟩ :=
  ⟨rfl, fun i o1 h => lfObjs_spec (fun j o hj => lfOb_same (hs j o hj) (ht j o hj)) hf i o1 h, lfEnv_spec he⟩
theorem lf_of0 {n : Nat} {e e1 : Env} {oh f : OH} (he : lfEnv oh f e e1) (hf : lfObjs oh f f) : Lf ⟨n, e1, f⟩ ⟨n, e, oh⟩ := by
  have := lf_of (n := n) (e := e) (e1 := e1) (oh := oh) (f := f) (tl := []) (by simpa using he) (by simpa using hf) flat_nil (fun i o h => by simp [oget] at h)
  simpa using this

/-! ### what is given up -/
theorem ofT1_fd {oh oh1 : OH} {f : Bool} (t : T) : Fd1 oh oh1 false (V.ofT1 f t) t := by
  cases t with
  | con v => exact .con v
  | _ => exact .ro f _ fun h => Bool.noConfusion h
theorem ofA_len {f : Bool} (t : T) : t.cells.length = (V.ofA f t).cells.length := by
  cases t with
  | agg l => simp [T.cells, V.ofA, V.cells]
  | _ => simp [T.cells, V.ofA, V.ofT1, V.cells]
theorem ofA_fd {oh oh1 : OH} {f : Bool} {t : T} {j : Nat} {v : V} {u : T} (h1 : (V.ofA f t).cells[j]? = some v) (h2 : t.cells[j]? = some u) : Fd1 oh oh1 false v u := by
  cases t with
  | agg l =>
    simp only [V.ofA, V.cells, T.cells, List.getElem?_map] at h1 h2
    rw [h2] at h1
    obtain rfl : V.ofT1 f u = v := by simpa using h1
    exact ofT1_fd u
  | con v' =>
    cases j with
    | zero => simp [V.ofA, V.ofT1, V.cells, T.cells] at h1 h2; subst h1; subst h2; exact .con _
    | succ j => simp [T.cells] at h2
  | sl l =>
    cases j with
    | zero => simp [V.ofA, V.ofT1, V.cells, T.cells] at h1 h2; subst h1; subst h2; exact .ro f _ fun h => Bool.noConfusion h
    | succ j => simp [T.cells] at h2
  | ptr l =>
    cases j with
    | zero => simp [V.ofA, V.ofT1, V.cells, T.cells] at h1 h2; subst h1; subst h2; exact .ro f _ fun h => Bool.noConfusion h
    | succ j => simp [T.cells] at h2
  | tup l =>
    cases j with
    | zero => simp [V.ofA, V.ofT1, V.cells, T.cells] at h1 h2; subst h1; subst h2; exact .ro f _ fun h => Bool.noConfusion h
    | succ j => simp [T.cells] at h2
/-- a list that was copied -/
theorem fd_copy {oh oh1 : OH} {id ver len sz : Nat} {ts : List T} {f : Bool} (ho : oget oh id = some ⟨sz, ts.map (V.ofA f), ver, true⟩) (hd : oget oh1 id = none) (hn : ts.length = len) :
    Fd1 oh oh1 false (.own id ver 0 len) (.sl ts) := by
  have key : ∀ (i : Nat) (e : V) (t : T), (ts.map (V.ofA f))[0 + i]? = some e → ts[i]? = some t → e = V.ofA f t := by
    intro i e t h1 h2
    rw [Nat.zero_add, List.getElem?_map, h2] at h1
    simpa using h1.symm
  refine .own id ver 0 len _ ts ho hd rfl rfl hn (fun i e t _ h1 h2 => ?_) (fun i e t j v u _ h1 h2 h3 h4 => ?_)
  · rw [key i e t h1 h2]; exact ofA_len t
  · rw [key i e t h1 h2] at h3; exact ofA_fd h3 h4
/-- a list that was built: each element reads as its tree -/
theorem fd_map {α : Type} {oh oh1 : OH} {id ver len sz : Nat} {F : α → V} {G : α → T} {l : List α} (ho : oget oh id = some ⟨sz, l.map F, ver, true⟩) (hd : oget oh1 id = none) (hn : l.length = len)
    (hs : ∀ a ∈ l, (G a).cells.length = (F a).cells.length) (hc : ∀ a ∈ l, ∀ (j : Nat) (v : V) (u : T), (F a).cells[j]? = some v → (G a).cells[j]? = some u → Fd1 oh oh1 false v u) :
    Fd1 oh oh1 false (.own id ver 0 len) (.sl (l.map G)) := by
  have key : ∀ (i : Nat) (e : V) (t : T), (l.map F)[0 + i]? = some e → (l.map G)[i]? = some t → ∃ a ∈ l, e = F a ∧ t = G a := by
    intro i e t h1 h2
    rw [Nat.zero_add, List.getElem?_map] at h1
    rw [List.getElem?_map] at h2
    obtain ⟨a, ha, rfl⟩ := Option.map_eq_some_iff.1 h1
    rw [ha] at h2
    exact ⟨a, List.mem_of_getElem? ha, rfl, by simpa using h2.symm⟩
  refine .own id ver 0 len _ _ ho hd rfl rfl (by simpa using hn) (fun i e t _ h1 h2 => ?_) (fun i e t j v u _ h1 h2 h3 h4 => ?_)
  · obtain ⟨a, ha, rfl, rfl⟩ := key i e t h1 h2; exact hs a ha
  · obtain ⟨a, ha, rfl, rfl⟩ := key i e t h1 h2; exact hc a ha j v u h3 h4
theorem fd_of {oh oh1 : OH} {f : Bool} {v : V} {t t' : T} (h : t = t') (h2 : Fd1 oh oh1 f v t) : Fd1 oh oh1 f v t' := h ▸ h2
/-- one element put to a list, shown by elements -/
theorem lfOb_app2 {oh oh1 : OH} {i sz ver n : Nat} {b : Bool} {l l' : List V} {e e1 : V} (h : oget oh i = some ⟨sz, l.take n ++ [e], ver, b⟩) (hn : n = l.length) (hl' : l' = l ++ [e1])
    (hF : ∀ x ∈ l, LV oh oh1 x x) (hl : LV oh oh1 e e1) : lfOb oh oh1 i ⟨sz, l', ver, b⟩ := by
  subst hl'
  rw [List.take_of_length_le (by omega)] at h
  refine .inl ⟨_, h, rfl, rfl, rfl, by simp, fun k x x1 h1 h2 => ?_⟩
  by_cases hk : k < l.length
  · rw [List.getElem?_append_left hk] at h1 h2
    rw [h1] at h2
    obtain rfl : x = x1 := by simpa using h2
    exact hF x (List.mem_of_getElem? h1)
  · rw [List.getElem?_append_right (by omega)] at h1 h2
    cases hj : k - l.length with
    | zero => rw [hj] at h1 h2; simp at h1 h2; subst h1; subst h2; exact hl
    | succ j => rw [hj] at h1; simp at h1
theorem lfOb_keep {oh oh1 : OH} {i : Nat} {o : Obj} (h : oget oh i = some o) (hF : ∀ x ∈ o.el, LV oh oh1 x x) : lfOb oh oh1 i o := by
  refine .inl ⟨o, h, rfl, rfl, rfl, rfl, fun k e e1 h1 h2 => ?_⟩
  rw [h1] at h2
  obtain rfl : e = e1 := by simpa using h2
  exact hF e (List.mem_of_getElem? h1)
/-! ### other numbers at a function's end -/
def renL (m : Nat → Nat) (oh oh1 : OH) : List V → List V → Prop
  | [], [] => True
  | a :: r, b :: s => RenC m oh oh1 a b ∧ renL m oh oh1 r s
  | _, _ => False
theorem renL_spec {m : Nat → Nat} {oh oh1 : OH} : ∀ {l l1 : List V}, renL m oh oh1 l l1 → l.length = l1.length ∧ ∀ (j : Nat) (a b : V), l[j]? = some a → l1[j]? = some b → RenC m oh oh1 a b
  | [], [], _ => ⟨rfl, fun j a b h => by simp at h⟩
  | a :: r, b :: s, h => by
    obtain ⟨h1, h2⟩ := renL_spec h.2
    refine ⟨by simp [h1], fun j x y hx hy => ?_⟩
    cases j with
    | zero => simp at hx hy; subst hx; subst hy; exact h.1
    | succ j => simp at hx hy; exact h2 j x y hx hy
  | [], _ :: _, h => h.elim
  | _ :: _, [], h => h.elim
theorem ren_agg {m : Nat → Nat} {oh oh1 : OH} {l l1 : List V} (h : renL m oh oh1 l l1) : RenA m oh oh1 (.agg l) (.agg l1) := renL_spec h
theorem ret_cellO {P : Program} {fn : Func} {oh1 : OH} {r : V} {s : St} {a t id ver sz : Nat} {l : List V} {fs : List (Nat × Nat)} {z : List Value} (m : Nat → Nat) (hr : fn.results.toList = [.cell a t]) (ht : tk P t = .st fs z) (hz : z.length = l.length) (h0 : 0 < l.length)
    (ha : eget s.env a = .ref id ver 0 0) (ho : oget s.oh id = some ⟨sz, [.agg l], ver, true⟩) (hn : Ren s.oh oh1 m) (hf : RenA m s.oh oh1 (.agg l) r) : RetO P fn oh1 r .ret s := by
  refine ⟨trivial, false, s, m, rfl, hn, ?_⟩
  rw [hr]
  show sload (tk P t) s.oh (eget s.env a) _
  rw [ha, ht]
  show use s.oh id ver _
  unfold use
  rw [ho]
  refine ⟨rfl, rfl, .agg l, rfl, by simp only [TK.size]; omega, by simp only [TK.size, V.cells]; omega, ?_⟩
  show RenA m s.oh oh1 (V.ofCells true ((l.drop 0).take z.length)) r
  rw [List.drop_zero, hz, List.take_length]
  exact hf
/-- objects handed back, taken for data -/
theorem ok_of_oko {P : Program} {q : FuncId} {ts : List T} {oh : OH} {v : V} {t : T} (h : OkO P q ts oh v) (hz : FzA oh false v t) : Ok P q ts false t := by
  refine ⟨h.1, fun S w args hS hargs => (h.2 S w args hS hargs).mono fun e w' hp => ?_⟩
  obtain ⟨x, gn, rfl, hb, hr, hx, hG, hF, hO⟩ := hp
  let N : Sto := fun b o => if w.heap.size ≤ b then w'.cell? ⟨b, o, none⟩ else none
  have hN : ∀ b o c, N b o = some c → w.heap.size ≤ b ∧ w'.cell? ⟨b, o, none⟩ = some c := by
    intro b o c hc
    by_cases hb : w.heap.size ≤ b
    · exact ⟨hb, by simpa [N, hb] using hc⟩
    · simp [N, hb] at hc
  have hSlt : ∀ b o c, S b o = some c → b < w.heap.size := fun b o c hc => lt_of_cell (hS b o c hc)
  have hNun : ∀ b o c, N b o = some c → S.un N b o = some c := by
    intro b o c hc
    unfold Sto.un
    cases hs : S b o with
    | none => exact hc
    | some c' => have := hSlt b o c' hs; have := (hN b o c hc).1; omega
  have hfin : Final gn oh w' false (Sto.pick false S N) := by
    refine ⟨fun b o c hc => hNun b o c ?_, fun _ b o c hc => ?_, fun b hb o c hc => hNun b o c ?_⟩
    · have := hF b o c hc
      simpa [N, this] using hr.hG b o c (hr.hF b o c hc)
    · rcases hG b o c hc with h' | h'
      · show S.un N b o = some c
        simp [Sto.un, h']
      · exact hNun b o c (by simpa [N, h'] using hr.hG b o c hc)
    · have := hO b hb
      simpa [N, this] using hc
  exact ⟨x, N, rfl, hb, hN, (fzA_ok hr hfin hz hx).1⟩
theorem lfObjs_or {oh oh1 tl : OH} : ∀ {l : OH}, lfObjs oh oh1 l → ∀ i o, oget (l ++ tl) i = some o → lfOb oh oh1 i o ∨ (oget l i = none ∧ oget tl i = some o)
  | [], _, i, o, h => .inr ⟨rfl, h⟩
  | (j, x) :: r, h, i, o, hg => by
    by_cases e : j = i
    · subst e
      rw [List.cons_append, og_here] at hg
      obtain rfl : x = o := by simpa using hg
      exact .inl h.1
    · have h2 : oget (r ++ tl) i = some o := by rw [List.cons_append] at hg; simpa [oget, e] using hg
      rcases lfObjs_or h.2 i o h2 with h3 | ⟨h3, h4⟩
      · exact .inl h3
      · exact .inr ⟨by simp [oget, e, h3], h4⟩
/-- the same, where some of the kept objects are told anew -/
theorem lf_of2 {n : Nat} {e e1 : Env} {oh f tl : OH} (he : lfEnv oh (f ++ tl) e e1) (hf : lfObjs oh (f ++ tl) f) (ht : FlatO tl) (hs : ∀ i o, oget f i = none → oget tl i = some o → oget oh i = some o) :
    Lf ⟨n, e1, f ++ tl⟩ ⟨n, e, oh⟩ :=
  ⟨rfl, fun i o1 h => by
    rcases lfObjs_or hf i o1 h with h | ⟨h1, h2⟩
    · exact h
    · exact lfOb_same (hs i o1 h1 h2) (ht i o1 h2), lfEnv_spec he⟩
/-- one element of a list told anew -/
theorem lfOb_set {α : Type} {oh oh1 : OH} {i sz ver k : Nat} {b : Bool} {F : α → V} {l l' : List α} {a : α} {e : V} (h : oget oh i = some ⟨sz, (l.map F).set k e, ver, b⟩) (hl' : l' = l.set k a)
    (hF : ∀ x ∈ l, (F x).flat) (hl : LV oh oh1 e (F a)) : lfOb oh oh1 i ⟨sz, l'.map F, ver, b⟩ := by
  subst hl'
  refine .inl ⟨_, h, rfl, rfl, rfl, by simp, fun j x x1 h1 h2 => ?_⟩
  simp only [List.map_set] at h2
  rw [List.getElem?_set] at h1 h2
  split at h1
  · rename_i ek
    rw [if_pos ek] at h2
    split at h1
    · rename_i ek2
      rw [if_pos ek2] at h2
      obtain rfl : e = x := by simpa using h1
      obtain rfl : F a = x1 := by simpa using h2
      exact hl
    · simp at h1
  · rename_i ek
    rw [if_neg ek] at h2
    rw [h1] at h2
    obtain rfl : x = x1 := by simpa using h2
    obtain ⟨y, hy, rfl⟩ := List.mem_map.1 (List.mem_of_getElem? h1)
    exact (hF y hy).lv
theorem og_app_none {A B : OH} {i : Nat} (h : oget A i = none) : oget (A ++ B) i = oget B i := by
  induction A with
  | nil => rfl
  | cons p r ih =>
    obtain ⟨k, y⟩ := p
    simp only [oget] at h
    split at h
    · simp at h
    · rename_i e; rw [List.cons_append]; simp only [oget]; rw [if_neg e]; exact ih h
theorem og_app_some {A B : OH} {i : Nat} {o : Obj} (h : oget A i = some o) : oget (A ++ B) i = some o := by
  induction A with
  | nil => simp [oget] at h
  | cons p r ih =>
    obtain ⟨k, y⟩ := p
    simp only [oget] at h
    rw [List.cons_append]; simp only [oget]
    split at h
    · rename_i e; rw [if_pos e]; exact h
    · rename_i e; rw [if_neg e]; exact ih h
theorem pushO_i {post oh : OH} {K : OH → Prop} (h : K (post ++ oh)) : pushO post oh K := by rw [pushO_eq]; exact h
theorem freshO_c {oh on : OH} {K : Nat → Prop} (d : Nat) (h0 : ∀ i, d ≤ i → oget oh i = none) (h : K d) : freshO oh on K :=
  ⟨d, fun i hi => h0 i (shO_ge hi), h⟩
theorem freshO_d {oh on : OH} {K : Nat → Prop} (d : Nat) (h0 : Nat.ble (newId oh) d = true) (h : K d) : freshO oh on K :=
  freshO_c d (fun i hi => by
    cases hq : oget oh i with
    | none => rfl
    | some o' => have := newId_le hq; have := Nat.le_of_ble_eq_true h0; omega) h
theorem reg_0 {P : Program} {C : CT} {s : St} {Q : X → St → Prop} {id : Nat} {ops : Array Oper} (h : ∀ K : St → Prop, (∀ s', Q .normal s' → K s') → evOps P C ops 0 ops.toList s K) : evC P C (.region id ops false) s Q :=
  h _ (fun _ h => h)
end Go.Ev
