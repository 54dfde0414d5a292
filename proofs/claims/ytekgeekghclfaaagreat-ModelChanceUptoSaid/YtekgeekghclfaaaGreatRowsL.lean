import Derived.Test.YtekgeekghclfaaaGreatLe
set_option linter.all false
namespace Go.Ev
section
variable {α : Type} {sz : Nat} {F : α → V}
def cE (b : Nat) (l : List α) : V := match l with | [] => .emp | _ :: r => .own b r.length 0 (r.length + 1)
def cO (sz : Nat) (F : α → V) (l : List α) : Obj := ⟨sz, l.map F, l.length - 1, true⟩
def chE : Nat → List (List α) → List V
  | _, [] => []
  | b, l :: r => cE b l :: chE (b + 1) r
def chO (sz : Nat) (F : α → V) : Nat → List (List α) → OH
  | _, [] => []
  | b, [] :: r => chO sz F (b + 1) r
  | b, (x :: l) :: r => (b, cO sz F (x :: l)) :: chO sz F (b + 1) r
theorem chE_len : ∀ (D : List (List α)) (b : Nat), (chE b D).length = D.length
  | [], _ => rfl
  | _ :: r, b => by simp [chE, chE_len r]
theorem chE_get : ∀ {D : List (List α)} {b j : Nat}, j < D.length → (chE b D)[j]? = some (cE (b + j) (D.getD j default))
  | l :: r, b, 0, _ => by simp [chE]
  | l :: r, b, j + 1, h => by
    have := chE_get (D := r) (b := b + 1) (j := j) (by simpa using h)
    simp only [chE, List.getElem?_cons_succ, List.getD_cons_succ]
    rw [this]; congr 2; omega
theorem chE_set : ∀ {D : List (List α)} {b p : Nat} {l : List α}, (chE b D).set p (cE (b + p) l) = chE b (D.set p l)
  | [], b, p, l => rfl
  | x :: r, b, 0, l => by simp [chE]
  | x :: r, b, p + 1, l => by
    have := chE_set (D := r) (b := b + 1) (p := p) (l := l)
    simp only [chE, List.set_cons_succ]
    rw [← this]; congr 2; congr 1; omega
theorem chO_get : ∀ {D : List (List α)} {b i : Nat} {o : Obj}, oget (chO sz F b D) i = some o → b ≤ i ∧ i < b + D.length ∧ D.getD (i - b) default ≠ [] ∧ o = cO sz F (D.getD (i - b) default)
  | [], b, i, o, h => by simp [chO, oget] at h
  | [] :: r, b, i, o, h => by
    obtain ⟨h1, h2, h3, h4⟩ := chO_get (D := r) (b := b + 1) h
    have e : i - b = (i - (b + 1)) + 1 := by omega
    rw [e, List.getD_cons_succ]
    exact ⟨by omega, by simp; omega, h3, h4⟩
  | (x :: l) :: r, b, i, o, h => by
    by_cases e : b = i
    · subst e
      rw [chO, og_here] at h
      cases h
      simp
    · rw [chO, oget, if_neg e] at h
      obtain ⟨h1, h2, h3, h4⟩ := chO_get (D := r) (b := b + 1) h
      have e : i - b = (i - (b + 1)) + 1 := by omega
      rw [e, List.getD_cons_succ]
      exact ⟨by omega, by simp; omega, h3, h4⟩
theorem chO_some : ∀ {D : List (List α)} {b j : Nat}, j < D.length → D.getD j default ≠ [] → oget (chO sz F b D) (b + j) = some (cO sz F (D.getD j default))
  | [] :: r, b, 0, _, h => absurd rfl h
  | (x :: l) :: r, b, 0, _, _ => by simp [chO, og_here]
  | [] :: r, b, j + 1, hj, h => by
    have := chO_some (D := r) (b := b + 1) (j := j) (by simpa using hj) (by simpa using h)
    rw [chO, List.getD_cons_succ, show b + (j + 1) = b + 1 + j by omega]; exact this
  | (x :: l) :: r, b, j + 1, hj, h => by
    have := chO_some (D := r) (b := b + 1) (j := j) (by simpa using hj) (by simpa using h)
    rw [chO, List.getD_cons_succ, show b + (j + 1) = b + 1 + j by omega]
    exact og_skip (by omega) this
theorem chO_none {D : List (List α)} {b i : Nat} (h : i < b ∨ b + D.length ≤ i) : oget (chO sz F b D) i = none := by
  cases e : oget (chO sz F b D) i with
  | none => rfl
  | some o => obtain ⟨h1, h2, _⟩ := chO_get e; omega
theorem chO_nil {D : List (List α)} {b j : Nat} (h : D.getD j default = []) : oget (chO sz F b D) (b + j) = none := by
  cases e : oget (chO sz F b D) (b + j) with
  | none => rfl
  | some o =>
    obtain ⟨_, _, h3, _⟩ := chO_get e
    rw [show b + j - b = j by omega] at h3
    exact absurd h h3
theorem chO_upd {D : List (List α)} {b p j : Nat} {l : List α} {o : Obj} (h : oget (chO sz F b (D.set p l)) j = some o) : b ≤ j ∧ ((j = b + p ∧ o = cO sz F l) ∨ (b + p ≠ j ∧ oget (chO sz F b D) j = some o)) := by
  obtain ⟨h1, h2, h3, h4⟩ := chO_get h
  rw [List.length_set] at h2
  refine ⟨h1, ?_⟩
  by_cases e : b + p = j
  · subst e
    have e2 : (D.set p l).getD (b + p - b) default = l := by
      rw [show b + p - b = p by omega]
      simp [List.getD, show p < D.length by omega]
    rw [e2] at h4
    exact .inl ⟨rfl, h4⟩
  · have e2 : (D.set p l).getD (j - b) default = D.getD (j - b) default := by
      simp [List.getD, show p ≠ j - b by omega]
    rw [e2] at h3 h4
    refine .inr ⟨e, ?_⟩
    rw [h4, show j = b + (j - b) by omega, show b + (j - b) - b = j - b by omega]
    exact chO_some (by omega) h3
theorem chO_flat (hF : ∀ a, (F a).flat) (D : List (List α)) (b : Nat) : FlatO (chO sz F b D) := by
  intro i o h e he
  obtain ⟨_, _, _, rfl⟩ := chO_get h
  obtain ⟨x, -, rfl⟩ := List.mem_map.1 he
  exact hF x
theorem chE_mem : ∀ {D : List (List α)} {b : Nat} {v : V}, v ∈ chE b D → ∃ j, j < D.length ∧ v = cE (b + j) (D.getD j default) := by
  intro D b v h
  obtain ⟨j, hj, rfl⟩ := List.mem_iff_getElem.1 h
  rw [chE_len] at hj
  refine ⟨j, hj, ?_⟩
  have := chE_get (D := D) (b := b) hj
  rw [List.getElem?_eq_getElem (by rw [chE_len]; exact hj)] at this
  exact Option.some.inj this
theorem chE_lv {oh oh1 : OH} {D : List (List α)} {b : Nat} (h : ∀ j, j < D.length → D.getD j default ≠ [] → (oget oh1 (b + j)).isSome = true) : ∀ x ∈ chE b D, LV oh oh1 x x := by
  intro x hx
  obtain ⟨j, hj, rfl⟩ := chE_mem hx
  have h := h j hj
  cases e : D.getD j default with
  | nil => exact Lc.same _ trivial
  | cons a r => exact Lc.same _ (h (by rw [e]; simp))
theorem chE_fz {oh : OH} {D : List (List α)} {b id ver len : Nat} {G : α → T} {f : Bool} (ho : oget oh id = some ⟨1, chE b D, ver, true⟩) (hD : ∀ j, j < D.length → D.getD j default ≠ [] → oget oh (b + j) = some (cO sz F (D.getD j default)))
    (hl : D.length = len) (hs : ∀ a, (G a).cells.length = (F a).cells.length) (hz : ∀ (a : α) (j : Nat) (v : V) (u : T), (F a).cells[j]? = some v → (G a).cells[j]? = some u → Fz1 oh f v u) : Fz1 oh f (.own id ver 0 len) (.sl (D.map fun l => .sl (l.map G))) := by
  have key : ∀ (i : Nat) (e : V) (t : T), (chE b D)[0 + i]? = some e → (D.map fun l => T.sl (l.map G))[i]? = some t → ∃ k, k < D.length ∧ e = cE (b + k) (D.getD k default) ∧ t = .sl ((D.getD k default).map G) := by
    intro i e t h1 h2
    rw [List.getElem?_map] at h2
    obtain ⟨a, ha, rfl⟩ := Option.map_eq_some_iff.1 h2
    have hi : i < D.length := (List.getElem?_eq_some_iff.1 ha).1
    rw [Nat.zero_add, chE_get hi] at h1
    have : D.getD i default = a := by rw [List.getD, ha]; rfl
    exact ⟨i, hi, (Option.some.inj h1).symm, by rw [this]⟩
  have cE1 : ∀ (b : Nat) (l : List α), (cE b l).cells.length = 1 := fun b l => by cases l <;> rfl
  have cEc : ∀ (b : Nat) (l : List α), (cE b l).cells = [cE b l] := fun b l => by cases l <;> rfl
  refine .own id ver 0 len _ _ ho rfl rfl (by simpa using hl) (fun i e t _ h1 h2 => ?_) (fun i e t j v u _ h1 h2 h3 h4 => ?_)
  · obtain ⟨k, hk, rfl, rfl⟩ := key i e t h1 h2
    rw [cE1]; rfl
  · obtain ⟨k, hk, rfl, rfl⟩ := key i e t h1 h2
    cases j with
    | succ j => rw [cEc] at h3; simp at h3
    | zero =>
      have hD := hD k hk
      generalize D.getD k default = x at *
      rw [cEc] at h3
      simp [T.cells] at h3 h4
      subst h3; subst h4
      cases x with
      | nil => exact .emp
      | cons a r =>
        have hob := hD (by simp)
        refine .own _ _ 0 _ _ _ hob (by simp [cO]) rfl (by simp) (fun i e t _ h1 h2 => ?_) (fun i e t j v u _ h1 h2 h3 h4 => ?_)
        · simp only [cO, Nat.zero_add, List.getElem?_map] at h1 h2
          obtain ⟨x, hx, rfl⟩ := Option.map_eq_some_iff.1 h1
          rw [hx] at h2; cases h2
          exact hs x
        · simp only [cO, Nat.zero_add, List.getElem?_map] at h1 h2
          obtain ⟨x, hx, rfl⟩ := Option.map_eq_some_iff.1 h1
          rw [hx] at h2; cases h2
          exact hz x j v u h3 h4
end
end Go.Ev
