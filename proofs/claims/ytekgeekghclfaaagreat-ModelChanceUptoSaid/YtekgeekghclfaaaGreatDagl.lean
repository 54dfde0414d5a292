set_option linter.all false
namespace Go.Ev
def swapL (l : List Int) (i j : Nat) : List Int := (l.set i (l.getD j 0)).set j (l.getD i 0)
theorem swapL_len (l : List Int) (i j : Nat) : (swapL l i j).length = l.length := by simp [swapL]
theorem swapL_perm {l : List Int} {i j : Nat} (hi : i < l.length) (hj : j < l.length) : (swapL l i j).Perm l := by
  have e1 : l.getD j 0 = l[j] := by simp [List.getD, hj]
  have e2 : l.getD i 0 = l[i] := by simp [List.getD, hi]
  unfold swapL
  rw [e1, e2]
  exact List.set_set_perm hi hj
theorem swapL_take {l : List Int} {i j n : Nat} (hi : i < n) (hj : j < n) (hn : n ≤ l.length) : ((swapL l i j).take n) = swapL (l.take n) i j := by
  have e1 : (l.take n).getD j 0 = l.getD j 0 := by simp [List.getD, hj]
  have e2 : (l.take n).getD i 0 = l.getD i 0 := by simp [List.getD, hi]
  unfold swapL
  rw [e1, e2, List.take_set, List.take_set]
def siftUp (l : List Int) (i : Nat) : List Int :=
  if 0 < i ∧ l.getD i 0 < l.getD ((i - 1) / 2) 0 then siftUp (swapL l i ((i - 1) / 2)) ((i - 1) / 2) else l
termination_by i
decreasing_by omega
theorem siftUp_perm : ∀ (i : Nat) (l : List Int), i < l.length → (siftUp l i).Perm l := by
  intro i
  induction i using Nat.strongRecOn with
  | _ i ih =>
    intro l hi
    rw [siftUp]
    split
    · exact (ih _ (by omega) _ (by rw [swapL_len]; omega)).trans (swapL_perm hi (by omega))
    · exact List.Perm.refl _
def leastF (l : List Int) (n i : Nat) : Nat :=
  let a := if 2 * i + 1 < n ∧ l.getD (2 * i + 1) 0 < l.getD i 0 then 2 * i + 1 else i
  if 2 * i + 2 < n ∧ l.getD (2 * i + 2) 0 < l.getD a 0 then 2 * i + 2 else a
theorem leastF_cases (l : List Int) (n i : Nat) : leastF l n i = i ∨ (i < leastF l n i ∧ leastF l n i < n) := by
  unfold leastF
  dsimp only
  split
  · split
    · omega
    · omega
  · split
    · omega
    · omega
def downF (l : List Int) (n i : Nat) : List Int :=
  if leastF l n i = i then l else downF (swapL l i (leastF l n i)) n (leastF l n i)
termination_by n - i
decreasing_by rcases leastF_cases l n i with h | h <;> omega
theorem downF_take : ∀ (k : Nat) (l : List Int) (n i : Nat), n - i = k → n ≤ l.length → ((downF l n i).take n).Perm (l.take n) ∧ (downF l n i).length = l.length := by
  intro k
  induction k using Nat.strongRecOn with
  | _ k ih =>
    intro l n i hk hn
    rw [downF]
    split
    · exact ⟨List.Perm.refl _, rfl⟩
    · rename_i h
      rcases leastF_cases l n i with h1 | h1
      · exact absurd h1 h
      · obtain ⟨p1, p2⟩ := ih (n - leastF l n i) (by omega) (swapL l i (leastF l n i)) n _ rfl (by rw [swapL_len]; exact hn)
        refine ⟨p1.trans ?_, p2.trans (swapL_len _ _ _)⟩
        rw [swapL_take (by omega) h1.2 hn]
        exact swapL_perm (by rw [List.length_take]; omega) (by rw [List.length_take]; omega)
theorem nodup_len : ∀ {a b : List Int}, a.Nodup → (∀ x ∈ a, x ∈ b) → a.length ≤ b.length
  | [], b, _, _ => Nat.zero_le _
  | x :: r, b, nd, h => by
    have hx : x ∈ b := h x List.mem_cons_self
    have nd := List.nodup_cons.1 nd
    have := nodup_len (a := r) (b := b.erase x) nd.2 fun y hy => by
      refine (List.mem_erase_of_ne ?_).2 (h y (List.mem_cons_of_mem _ hy))
      intro e; subst e; exact nd.1 hy
    rw [List.length_erase_of_mem hx] at this
    have hp := List.length_pos_of_mem hx
    simp only [List.length_cons]; omega
abbrev PL := List (List Int)
def inRng (P : PL) : Bool := P.all fun l => l.all fun p => decide (0 ≤ p) && decide (p < P.length)
def noDup (P : PL) : Bool := P.all fun l => decide l.Nodup
structure OkP (P : PL) : Prop where
  rng : ∀ l ∈ P, ∀ p ∈ l, 0 ≤ p ∧ p < (P.length : Int)
  nd : ∀ l ∈ P, l.Nodup
def row (P : PL) (i : Nat) : List Int := P.getD i []
theorem row_mem {P : PL} {i : Nat} (h : i < P.length) : row P i ∈ P := by
  simp [row, List.getD, h]
inductive Good (P : PL) : Nat → Prop
  | mk (i : Nat) (h : i < P.length) (hp : ∀ q ∈ row P i, Good P q.toNat) : Good P i
structure Whole (P : PL) (out : List Int) : Prop where
  nd : out.Nodup
  mem : ∀ q, q ∈ out ↔ ∃ i, Good P i ∧ q = (i : Int)
theorem Whole.len {P : PL} {a b : List Int} (ha : Whole P a) (hb : Whole P b) : a.length = b.length :=
  ((List.perm_ext_iff_of_nodup ha.nd hb.nd).2 fun q => by rw [ha.mem, hb.mem]).length_eq
theorem Whole.le {P : PL} {a : List Int} (ha : Whole P a) : a.length ≤ P.length := by
  have h : a.length ≤ ((List.range P.length).map fun i : Nat => (i : Int)).length := by
    refine nodup_len ha.nd fun q hq => ?_
    obtain ⟨i, hg, rfl⟩ := (ha.mem q).1 hq
    cases hg with
    | mk _ h _ => exact List.mem_map.2 ⟨i, List.mem_range.2 h, rfl⟩
  simpa using h
theorem whole_of {P : PL} {out : List Int} (hP : OkP P) (nd : out.Nodup) (h1 : ∀ q ∈ out, ∃ i, Good P i ∧ q = (i : Int)) (h2 : ∀ i, i < P.length → (∀ q ∈ row P i, q ∈ out) → (i : Int) ∈ out) : Whole P out := by
  refine ⟨nd, fun q => ⟨h1 q, ?_⟩⟩
  rintro ⟨i, hg, rfl⟩
  induction hg with
  | mk i h hp ih =>
    refine h2 i h fun q hq => ?_
    have hr := hP.rng _ (row_mem h) q hq
    have := ih q hq
    rwa [Int.toNat_of_nonneg hr.1] at this
theorem good_step {P : PL} {out : List Int} (hP : OkP P) (h1 : ∀ q ∈ out, ∃ i, Good P i ∧ q = (i : Int)) {i : Nat} (hi : i < P.length) (h : ∀ q ∈ row P i, q ∈ out) : Good P i := by
  refine .mk i hi fun q hq => ?_
  obtain ⟨j, hg, rfl⟩ := h1 q (h q hq)
  simpa using hg
def rdy (P : PL) (l : List Int) (i : Nat) : Bool := !l.contains (i : Int) && (row P i).all fun q => l.contains q
def nextR (P : PL) (l : List Int) : Option Nat := (List.range P.length).find? fun i => rdy P l i
def refOut (P : PL) : Nat → List Int → List Int
  | 0, l => l
  | f + 1, l => match nextR P l with | none => l | some i => refOut P f (l ++ [(i : Int)])
structure RInv (P : PL) (l : List Int) : Prop where
  nd : l.Nodup
  good : ∀ q ∈ l, ∃ i, Good P i ∧ q = (i : Int)
theorem RInv.len {P : PL} {l : List Int} (h : RInv P l) : l.length ≤ P.length := by
  have h : l.length ≤ ((List.range P.length).map fun i : Nat => (i : Int)).length := by
    refine nodup_len h.nd fun q hq => ?_
    obtain ⟨i, hg, rfl⟩ := h.good q hq
    cases hg with
    | mk _ h _ => exact List.mem_map.2 ⟨i, List.mem_range.2 h, rfl⟩
  simpa using h
theorem nextR_some {P : PL} {l : List Int} {i : Nat} (h : nextR P l = some i) : i < P.length ∧ (i : Int) ∉ l ∧ ∀ q ∈ row P i, q ∈ l := by
  have h1 := List.find?_some h
  have h2 := List.mem_of_find?_eq_some h
  refine ⟨List.mem_range.1 h2, ?_, ?_⟩
  · simp only [rdy, Bool.and_eq_true, Bool.not_eq_true', List.contains_eq_mem, decide_eq_false_iff_not] at h1
    exact h1.1
  · simp only [rdy, Bool.and_eq_true, List.all_eq_true, List.contains_eq_mem, decide_eq_true_eq] at h1
    exact h1.2
theorem nextR_none {P : PL} {l : List Int} (h : nextR P l = none) {i : Nat} (hi : i < P.length) (hq : ∀ q ∈ row P i, q ∈ l) : (i : Int) ∈ l := by
  have h1 := List.find?_eq_none.1 h i (List.mem_range.2 hi)
  simp only [rdy, Bool.and_eq_true, Bool.not_eq_true', List.contains_eq_mem, decide_eq_false_iff_not, List.all_eq_true, decide_eq_true_eq, not_and] at h1
  exact Classical.byContradiction fun hn => h1 hn hq
theorem RInv.step {P : PL} (hP : OkP P) {l : List Int} (h : RInv P l) {i : Nat} (hn : nextR P l = some i) : RInv P (l ++ [(i : Int)]) := by
  obtain ⟨h1, h2, h3⟩ := nextR_some hn
  refine ⟨?_, fun q hq => ?_⟩
  · rw [List.nodup_append]
    refine ⟨h.nd, by simp, fun a ha b hb => ?_⟩
    rw [List.mem_singleton.1 hb]
    exact fun e => h2 (e ▸ ha)
  · rcases List.mem_append.1 hq with hq | hq
    · exact h.good q hq
    · exact ⟨i, good_step hP h.good h1 h3, List.mem_singleton.1 hq⟩
theorem refOut_whole {P : PL} (hP : OkP P) : ∀ (f : Nat) (l : List Int), RInv P l → P.length < f + l.length → Whole P (refOut P f l)
  | 0, l, h, hf => by have := h.len; omega
  | f + 1, l, h, hf => by
    rw [refOut]
    split
    · rename_i hn
      exact whole_of hP h.nd h.good fun i hi hq => nextR_none hn hi hq
    · rename_i i hn
      exact refOut_whole hP f _ (h.step hP hn) (by simp; omega)
structure Ch (P D : PL) : Prop where
  len : D.length = P.length
  nd : ∀ l ∈ D, l.Nodup
  mem : ∀ (p c : Nat), p < P.length → c < P.length → ((c : Int) ∈ row D p ↔ (p : Int) ∈ row P c)
  rng : ∀ l ∈ D, ∀ p ∈ l, 0 ≤ p ∧ p < (P.length : Int)
def lack (P : PL) (out : List Int) (i : Nat) : Nat := ((row P i).filter fun q => !out.contains q).length
structure KS where
  left : List Int
  ready : List Int
  out : List Int
structure KInv (P : PL) (s : KS) : Prop where
  nd : (s.out ++ s.ready).Nodup
  good : ∀ q ∈ s.out ++ s.ready, ∃ i, Good P i ∧ q = (i : Int)
  len : s.left.length = P.length
  left : ∀ i, i < P.length → s.left.getD i 0 = lack P s.out i
  rdy : ∀ i, i < P.length → ((i : Int) ∈ s.out ++ s.ready ↔ lack P s.out i = 0)
structure KMid (P : PL) (p : Int) (cs : List Int) (s : KS) : Prop where
  nd : (s.out ++ p :: s.ready).Nodup
  good : ∀ q ∈ s.out ++ p :: s.ready, ∃ i, Good P i ∧ q = (i : Int)
  len : s.left.length = P.length
  left : ∀ i, i < P.length → s.left.getD i 0 = (lack P s.out i : Int) - (if (i : Int) ∈ cs then 1 else 0)
  rdy : ∀ i, i < P.length → ((i : Int) ∈ s.out ++ p :: s.ready ↔ s.left.getD i 0 = 0)
theorem nz_iff {n : Nat} : n = 0 ↔ (n : Int) = 0 := by omega
theorem lack_zero {P : PL} {out : List Int} {i : Nat} : lack P out i = 0 ↔ ∀ q ∈ row P i, q ∈ out := by
  unfold lack
  rw [List.length_eq_zero_iff, List.filter_eq_nil_iff]
  simp
theorem filter_snoc {out l : List Int} {p : Int} (nd : l.Nodup) (hp : p ∉ out) : (l.filter fun q => !(out ++ [p]).contains q).length + (if p ∈ l then 1 else 0) = (l.filter fun q => !out.contains q).length := by
  induction l with
  | nil => simp
  | cons a r ih =>
    have nd := List.nodup_cons.1 nd
    have ih := ih nd.2
    by_cases e : a = p
    · subst e
      have h1 : a ∉ r := nd.1
      rw [if_neg h1] at ih
      simp only [List.filter_cons, List.contains_eq_mem, List.mem_append, List.mem_singleton, or_true, decide_true, Bool.not_true, List.mem_cons, true_or, if_true, hp, decide_false, Bool.not_false, List.length_cons] at ih ⊢
      simpa using ih
    · have hm : (p ∈ a :: r) ↔ p ∈ r := by
        rw [List.mem_cons]; exact ⟨fun h => h.resolve_left (Ne.symm e), .inr⟩
      simp only [hm]
      by_cases ha : a ∈ out
      · have h2 : a ∈ out ++ [p] := List.mem_append_left _ ha
        rw [List.filter_cons_of_neg (by simp [ha]), List.filter_cons_of_neg (by simp [ha])]
        exact ih
      · have h2 : a ∉ out ++ [p] := fun h => by
          rcases List.mem_append.1 h with h | h
          · exact ha h
          · exact e (List.mem_singleton.1 h)
        rw [List.filter_cons_of_pos (by simpa using h2), List.filter_cons_of_pos (by simpa using ha), List.length_cons, List.length_cons, ← ih]
        omega
theorem lack_snoc {P : PL} (hP : OkP P) {out : List Int} {p : Int} {i : Nat} (hi : i < P.length) (hp : p ∉ out) : lack P (out ++ [p]) i + (if p ∈ row P i then 1 else 0) = lack P out i :=
  filter_snoc (hP.nd _ (row_mem hi)) hp
theorem KInv.pop {P : PL} {left r r' out : List Int} {p : Int} (h : KInv P ⟨left, p :: r, out⟩) (hr : r'.Perm r) : KMid P p [] ⟨left, r', out⟩ := by
  have hq : ∀ q, q ∈ out ++ p :: r' ↔ q ∈ out ++ p :: r := fun q => by simp [hr.mem_iff]
  refine ⟨(List.Perm.nodup_iff (List.Perm.append_left out (hr.cons p))).2 h.nd, fun q hq' => h.good q ((hq q).1 hq'), h.len, fun i hi => ?_, fun i hi => ?_⟩
  · simpa using h.left i hi
  · rw [hq, h.left i hi]
    exact (h.rdy i hi).trans nz_iff
theorem getD_set_self {l : List Int} {i : Nat} {x : Int} (h : i < l.length) : (l.set i x).getD i 0 = x := by simp [List.getD, h]
theorem getD_set_ne {l : List Int} {i j : Nat} {x : Int} (h : i ≠ j) : (l.set i x).getD j 0 = l.getD j 0 := by simp [List.getD, h]
theorem KMid.child {P D : PL} (hD : Ch P D) {p : Nat} (hp : p < P.length) {cs rest : List Int} {c : Nat} {s : KS} (hrow : row D p = cs ++ (c : Int) :: rest) (h : KMid P p cs s) :
    c < P.length ∧ c < s.left.length ∧ 1 ≤ s.left.getD c 0 ∧ (s.left.getD c 0 ≠ 1 → KMid P p (cs ++ [(c : Int)]) ⟨s.left.set c (s.left.getD c 0 - 1), s.ready, s.out⟩) ∧
      (s.left.getD c 0 = 1 → ∀ r', r'.Perm (s.ready ++ [(c : Int)]) → (∀ q ∈ row P c, q ∈ s.out ++ [(p : Int)]) → KMid P p (cs ++ [(c : Int)]) ⟨s.left.set c (s.left.getD c 0 - 1), r', s.out⟩) := by
  have hm : (c : Int) ∈ row D p := by rw [hrow]; simp
  have hpD : p < D.length := by rw [hD.len]; exact hp
  have hc : c < P.length := by have := (hD.rng _ (row_mem hpD) _ hm).2; omega
  have hcl : c < s.left.length := by rw [h.len]; exact hc
  have hnd := hD.nd _ (row_mem hpD)
  rw [hrow] at hnd
  have hnc : (c : Int) ∉ cs := fun hx => by
    have := (List.nodup_append.1 hnd).2.2 _ hx _ List.mem_cons_self
    exact this rfl
  have hpar : (p : Int) ∈ row P c := (hD.mem p c hp hc).1 hm
  have hpo : (p : Int) ∉ s.out := fun hx => (List.nodup_append.1 h.nd).2.2 _ hx _ List.mem_cons_self rfl
  have hl := h.left c hc
  rw [if_neg hnc, Int.sub_zero] at hl
  have hpos : lack P s.out c ≠ 0 := fun hz => hpo (lack_zero.1 hz _ hpar)
  have hleft : ∀ i, i < P.length → (s.left.set c (s.left.getD c 0 - 1)).getD i 0 = (lack P s.out i : Int) - (if (i : Int) ∈ cs ++ [(c : Int)] then 1 else 0) := by
    intro i hi
    by_cases e : c = i
    · subst e
      rw [getD_set_self hcl, hl, if_pos (by simp)]
    · rw [getD_set_ne e, h.left i hi]
      have : ((i : Int) ∈ cs ++ [(c : Int)]) ↔ (i : Int) ∈ cs := by
        rw [List.mem_append, List.mem_singleton]
        exact ⟨fun h => h.resolve_right (by omega), .inl⟩
      simp only [this]
  have hcn : (c : Int) ∉ s.out ++ (p : Int) :: s.ready := fun hx => by
    have := (h.rdy c hc).1 hx; omega
  refine ⟨hc, hcl, by omega, fun hne => ⟨h.nd, h.good, by simpa using h.len, hleft, fun i hi => ?_⟩, fun he r' hr hall => ⟨?_, fun q hq => ?_, by simpa using h.len, hleft, fun i hi => ?_⟩⟩
  · by_cases e : c = i
    · subst e
      show _ ↔ (s.left.set c (s.left.getD c 0 - 1)).getD c 0 = 0
      rw [getD_set_self hcl]
      exact ⟨fun hx => absurd hx hcn, fun hx => by omega⟩
    · show _ ↔ (s.left.set c (s.left.getD c 0 - 1)).getD i 0 = 0
      rw [getD_set_ne e]; exact h.rdy i hi
  · show (s.out ++ (p : Int) :: r').Nodup
    have h1 : (s.out ++ (p : Int) :: r').Perm ((s.out ++ (p : Int) :: s.ready) ++ [(c : Int)]) := by
      rw [List.append_assoc, List.cons_append]
      exact List.Perm.append_left _ (hr.cons _)
    rw [h1.nodup_iff, List.nodup_append]
    exact ⟨h.nd, by simp, fun a ha b hb => by rw [List.mem_singleton.1 hb]; exact fun e => hcn (e ▸ ha)⟩
  · have hq : q ∈ s.out ++ (p : Int) :: r' := hq
    rw [List.mem_append, List.mem_cons, hr.mem_iff, List.mem_append, List.mem_singleton] at hq
    rcases hq with hq | hq | hq | hq
    · exact h.good q (by simp [hq])
    · exact h.good q (by simp [hq])
    · exact h.good q (by simp [hq])
    · refine ⟨c, .mk c hc fun u hu => ?_, hq⟩
      have hu := hall u hu
      rw [List.mem_append, List.mem_singleton] at hu
      obtain ⟨j, hg, e⟩ := h.good u (by rcases hu with hu | hu <;> simp [hu])
      rw [e]; simpa using hg
  · show (i : Int) ∈ s.out ++ (p : Int) :: r' ↔ (s.left.set c (s.left.getD c 0 - 1)).getD i 0 = 0
    have hx : (i : Int) ∈ s.out ++ (p : Int) :: r' ↔ (i : Int) ∈ s.out ++ (p : Int) :: s.ready ∨ (i : Int) = c := by
      simp only [List.mem_append, List.mem_cons, hr.mem_iff]
      constructor
      · rintro (h | h | h | h)
        · exact .inl (.inl h)
        · exact .inl (.inr (.inl h))
        · exact .inl (.inr (.inr h))
        · exact .inr (by simpa using h)
      · rintro ((h | h | h) | h)
        · exact .inl h
        · exact .inr (.inl h)
        · exact .inr (.inr (.inl h))
        · exact .inr (.inr (.inr (by simpa using h)))
    rw [hx]
    by_cases e : c = i
    · subst e
      rw [getD_set_self hcl]
      exact ⟨fun _ => by omega, fun _ => .inr rfl⟩
    · rw [getD_set_ne e, h.rdy i hi]
      exact ⟨fun h => h.resolve_right (by omega), .inl⟩
theorem KMid.last {P D : PL} (hP : OkP P) (hD : Ch P D) {p : Nat} (hp : p < P.length) {cs rest : List Int} {c : Nat} {s : KS} (hrow : row D p = cs ++ (c : Int) :: rest) (h : KMid P p cs s) (hc : c < P.length) (h1 : s.left.getD c 0 = 1) :
    ∀ q ∈ row P c, q ∈ s.out ++ [(p : Int)] := by
  have hm : (c : Int) ∈ row D p := by rw [hrow]; simp
  have hpD : p < D.length := by rw [hD.len]; exact hp
  have hnd := hD.nd _ (row_mem hpD)
  rw [hrow] at hnd
  have hnc : (c : Int) ∉ cs := fun hx => by
    have := (List.nodup_append.1 hnd).2.2 _ hx _ List.mem_cons_self
    exact this rfl
  have hl := h.left c hc
  rw [if_neg hnc, Int.sub_zero, h1] at hl
  have hpo : (p : Int) ∉ s.out := fun hx => (List.nodup_append.1 h.nd).2.2 _ hx _ List.mem_cons_self rfl
  have hs := lack_snoc hP hc hpo
  rw [if_pos ((hD.mem p c hp hc).1 hm)] at hs
  exact lack_zero.1 (by omega)
theorem KMid.done {P D : PL} (hP : OkP P) (hD : Ch P D) {p : Nat} (hp : p < P.length) {s : KS} (h : KMid P p (row D p) s) : KInv P ⟨s.left, s.ready, s.out ++ [(p : Int)]⟩ := by
  have hpo : (p : Int) ∉ s.out := fun hx => (List.nodup_append.1 h.nd).2.2 _ hx _ List.mem_cons_self rfl
  have hl : ∀ i, i < P.length → s.left.getD i 0 = lack P (s.out ++ [(p : Int)]) i := by
    intro i hi
    have hs := lack_snoc hP hi hpo
    have h1 := h.left i hi
    have hm := hD.mem p i hp hi
    by_cases hx : (p : Int) ∈ row P i
    · rw [if_pos hx] at hs; rw [if_pos (hm.2 hx)] at h1; omega
    · rw [if_neg hx] at hs; rw [if_neg (fun h => hx (hm.1 h))] at h1; omega
  have e : s.out ++ [(p : Int)] ++ s.ready = s.out ++ (p : Int) :: s.ready := by simp
  refine ⟨by rw [e]; exact h.nd, by rw [e]; exact h.good, h.len, hl, fun i hi => ?_⟩
  show (i : Int) ∈ s.out ++ [(p : Int)] ++ s.ready ↔ _
  rw [e, h.rdy i hi, hl i hi]
  exact nz_iff.symm
theorem KInv.le {P : PL} {s : KS} (h : KInv P s) : s.out.length + s.ready.length ≤ P.length := by
  have : (s.out ++ s.ready).length ≤ ((List.range P.length).map fun i : Nat => (i : Int)).length := by
    refine nodup_len h.nd fun q hq => ?_
    obtain ⟨i, hg, rfl⟩ := h.good q hq
    cases hg with
    | mk _ h _ => exact List.mem_map.2 ⟨i, List.mem_range.2 h, rfl⟩
  simpa using this
theorem KInv.whole {P : PL} (hP : OkP P) {left out : List Int} (h : KInv P ⟨left, [], out⟩) : Whole P out := by
  have h1 := h.nd
  have h2 := h.good
  have h3 := h.rdy
  simp only [List.append_nil] at h1 h2 h3
  exact whole_of hP h1 h2 fun i hi hq => (h3 i hi).2 (lack_zero.2 hq)
theorem kinv_start {P : PL} {left ready : List Int} (hl : left = P.map fun l => (l.length : Int)) (hr : ∀ q, q ∈ ready ↔ ∃ i, i < P.length ∧ row P i = [] ∧ q = (i : Int)) (nd : ready.Nodup) : KInv P ⟨left, ready, []⟩ := by
  subst hl
  have hlk : ∀ i, lack P [] i = (row P i).length := fun i => by simp [lack]
  refine ⟨by simpa using nd, fun q hq => ?_, by simp, fun i hi => ?_, fun i hi => ?_⟩
  · obtain ⟨i, h1, h2, h3⟩ := (hr q).1 (by simpa using hq)
    exact ⟨i, .mk i h1 (by rw [h2]; simp), h3⟩
  · show (P.map fun l => (l.length : Int)).getD i 0 = _
    rw [hlk]; simp [List.getD, hi, row]
  · show (i : Int) ∈ [] ++ ready ↔ _
    rw [hlk, List.nil_append, hr, List.length_eq_zero_iff]
    refine ⟨?_, fun h => ⟨i, hi, h, rfl⟩⟩
    rintro ⟨j, h1, h2, h3⟩
    obtain rfl : i = j := by omega
    exact h2
def chAdd (D : PL) (p : Nat) (x : Int) : PL := D.set p (row D p ++ [x])
structure CInv (P : PL) (i k : Nat) (D : PL) : Prop where
  len : D.length = P.length
  nd : ∀ p, (row D p).Nodup
  mem : ∀ p c : Nat, p < P.length → ((c : Int) ∈ row D p ↔ (c < i ∧ (p : Int) ∈ row P c) ∨ (c = i ∧ (p : Int) ∈ (row P i).take k))
  nat : ∀ p, ∀ q ∈ row D p, ∃ c : Nat, q = (c : Int) ∧ c ≤ i ∧ c < P.length
theorem row_set {D : PL} {p j : Nat} {l : List Int} (h : p < D.length) : row (D.set p l) j = if p = j then l else row D j := by
  unfold row
  split
  · rename_i e; subst e; simp [List.getD, h]
  · rename_i e; simp [List.getD, e]
theorem CInv.start {P : PL} : CInv P 0 0 (List.replicate P.length []) := by
  have hr : ∀ p, row (List.replicate P.length []) p = [] := by
    intro p
    unfold row
    rw [List.getD, List.getElem?_replicate]
    split <;> rfl
  refine ⟨by simp, fun p => by rw [hr]; simp, fun p c hp => ?_, fun p q hq => by rw [hr] at hq; simp at hq⟩
  rw [hr]; simp
theorem CInv.step {P : PL} (hP : OkP P) {i k : Nat} {D : PL} (h : CInv P i k D) (hi : i < P.length) (hk : k < (row P i).length) :
    0 ≤ (row P i).getD k 0 ∧ ((row P i).getD k 0).toNat < P.length ∧ CInv P i (k + 1) (chAdd D ((row P i).getD k 0).toNat i) := by
  have e0 : (row P i)[k] = (row P i).getD k 0 := by simp [List.getD, hk]
  have hm : (row P i).getD k 0 ∈ row P i := by rw [← e0]; exact List.getElem_mem hk
  have hr := hP.rng _ (row_mem hi) _ hm
  obtain ⟨p0, hp0⟩ : ∃ p0 : Nat, (row P i).getD k 0 = p0 := ⟨((row P i).getD k 0).toNat, by omega⟩
  have htk : (row P i).take (k + 1) = (row P i).take k ++ [(p0 : Int)] := by rw [List.take_succ_eq_append_getElem hk, e0, hp0]
  have hnd := hP.nd _ (row_mem hi)
  have hnt : (p0 : Int) ∉ (row P i).take k := fun hx => by
    have h2 := hnd.sublist (List.take_sublist (k + 1) _)
    rw [htk, List.nodup_append] at h2
    exact h2.2.2 _ hx _ (by simp) rfl
  rw [hp0] at hr ⊢
  have hp : p0 < P.length := by omega
  have hpD : p0 < D.length := by rw [h.len]; exact hp
  refine ⟨by omega, by simpa using hp, ?_⟩
  rw [Int.toNat_natCast]
  have hni : (i : Int) ∉ row D p0 := fun hx => by
    rcases (h.mem p0 i hp).1 hx with ⟨h1, _⟩ | ⟨_, h1⟩
    · omega
    · exact hnt h1
  refine ⟨by rw [chAdd, List.length_set]; exact h.len, fun p => ?_, fun p c hp' => ?_, fun p q hq => ?_⟩
  · rw [chAdd, row_set hpD]
    split
    · rename_i e; subst e
      rw [List.nodup_append]
      exact ⟨h.nd _, by simp, fun a ha b hb => by rw [List.mem_singleton.1 hb]; exact fun e => hni (e ▸ ha)⟩
    · exact h.nd p
  · rw [chAdd, row_set hpD]
    split
    · rename_i e; subst e
      rw [List.mem_append, h.mem p0 c hp, htk, List.mem_append, List.mem_singleton, List.mem_singleton]
      constructor
      · rintro ((h | h) | h)
        · exact .inl h
        · exact .inr ⟨h.1, .inl h.2⟩
        · exact .inr ⟨by omega, .inr rfl⟩
      · rintro (h | ⟨rfl, h | h⟩)
        · exact .inl (.inl h)
        · exact .inl (.inr ⟨rfl, h⟩)
        · exact .inr rfl
    · rename_i e
      rw [h.mem p c hp', htk, List.mem_append, List.mem_singleton]
      have : (p : Int) ≠ p0 := by omega
      simp [this]
  · rw [chAdd, row_set hpD] at hq
    split at hq
    · rcases List.mem_append.1 hq with hq | hq
      · exact h.nat _ q hq
      · exact ⟨i, List.mem_singleton.1 hq, Nat.le_refl _, hi⟩
    · exact h.nat _ q hq
theorem CInv.rowlen {P : PL} {i k : Nat} {D : PL} (h : CInv P i k D) (p : Nat) : (row D p).length ≤ P.length := by
  have : (row D p).length ≤ ((List.range P.length).map fun i : Nat => (i : Int)).length := by
    refine nodup_len (h.nd p) fun q hq => ?_
    obtain ⟨c, h1, _, h2⟩ := h.nat p q hq
    exact List.mem_map.2 ⟨c, List.mem_range.2 h2, h1.symm⟩
  simpa using this
theorem CInv.next {P : PL} {i k : Nat} {D : PL} (h : CInv P i k D) (hk : (row P i).length ≤ k) : CInv P (i + 1) 0 D := by
  refine ⟨h.len, h.nd, fun p c hp => ?_, fun p q hq => ?_⟩
  · rw [h.mem p c hp, List.take_of_length_le hk]
    constructor
    · rintro (⟨h1, h2⟩ | ⟨rfl, h2⟩)
      · exact .inl ⟨by omega, h2⟩
      · exact .inl ⟨by omega, h2⟩
    · rintro (⟨h1, h2⟩ | ⟨_, h2⟩)
      · by_cases e : c = i
        · subst e; exact .inr ⟨rfl, h2⟩
        · exact .inl ⟨by omega, h2⟩
      · simp at h2
  · obtain ⟨c, h1, h2, h3⟩ := h.nat p q hq
    exact ⟨c, h1, by omega, h3⟩
theorem CInv.done {P : PL} {D : PL} (h : CInv P P.length 0 D) : Ch P D := by
  have hrow : ∀ l ∈ D, ∃ p, l = row D p := fun l hl => by
    obtain ⟨j, hj, rfl⟩ := List.mem_iff_getElem.1 hl
    exact ⟨j, by simp [row, List.getD, hj]⟩
  refine ⟨h.len, fun l hl => ?_, fun p c hp hc => ?_, fun l hl q hq => ?_⟩
  · obtain ⟨p, rfl⟩ := hrow l hl; exact h.nd p
  · rw [h.mem p c hp]
    constructor
    · rintro (⟨_, h2⟩ | ⟨_, h2⟩)
      · exact h2
      · simp at h2
    · exact fun h2 => .inl ⟨hc, h2⟩
  · obtain ⟨p, rfl⟩ := hrow l hl
    obtain ⟨c, h1, h2, h3⟩ := h.nat p q hq
    omega
def chRow (D : PL) (l : List Int) (i : Int) : PL := l.foldl (fun D q => chAdd D q.toNat i) D
def chTo (P : PL) (i : Nat) : PL := (List.range i).foldl (fun D (i : Nat) => chRow D (row P i) i) (List.replicate P.length [])
def chAt (P : PL) (i k : Nat) : PL := chRow (chTo P i) ((row P i).take k) i
theorem chAt_succ {P : PL} {i k : Nat} (hk : k < (row P i).length) : chAt P i (k + 1) = chAdd (chAt P i k) ((row P i).getD k 0).toNat i := by
  unfold chAt chRow
  rw [List.take_succ_eq_append_getElem hk, List.foldl_append]
  simp [List.getD, hk]
theorem chTo_succ {P : PL} {i k : Nat} (hk : (row P i).length ≤ k) : chTo P (i + 1) = chAt P i k := by
  unfold chAt
  rw [List.take_of_length_le hk, chTo, List.range_succ, List.foldl_append]; rfl
theorem chAt_inv {P : PL} (hP : OkP P) : ∀ (i : Nat), i ≤ P.length → CInv P i 0 (chTo P i) ∧ (i < P.length → ∀ k, k ≤ (row P i).length → CInv P i k (chAt P i k)) := by
  intro i
  induction i with
  | zero =>
    intro _
    have key : 0 < P.length → ∀ k, k ≤ (row P 0).length → CInv P 0 k (chAt P 0 k) := fun h0 k => by
      induction k with
      | zero => exact fun _ => CInv.start
      | succ k ih =>
        intro hk
        rw [chAt_succ (by omega)]
        exact ((ih (by omega)).step hP h0 (by omega)).2.2
    exact ⟨CInv.start, key⟩
  | succ i ih =>
    intro hi
    have h1 : CInv P (i + 1) 0 (chTo P (i + 1)) := by
      rw [chTo_succ (Nat.le_refl _)]
      exact ((ih (by omega)).2 (by omega) _ (Nat.le_refl _)).next (Nat.le_refl _)
    refine ⟨h1, fun h0 k => ?_⟩
    induction k with
    | zero => exact fun _ => h1
    | succ k ih =>
      intro hk
      rw [chAt_succ (by omega)]
      exact ((ih (by omega)).step hP h0 (by omega)).2.2
def childF (P : PL) : PL := chTo P P.length
theorem childF_ch {P : PL} (hP : OkP P) : Ch P (childF P) := ((chAt_inv hP P.length (Nat.le_refl _)).1).done
theorem Ch.rowlen {P D : PL} (h : Ch P D) (p : Nat) : (row D p).length ≤ P.length := by
  by_cases hp : p < D.length
  · have : (row D p).length ≤ ((List.range P.length).map fun i : Nat => (i : Int)).length := by
      refine nodup_len (h.nd _ (row_mem hp)) fun q hq => ?_
      have := h.rng _ (row_mem hp) q hq
      exact List.mem_map.2 ⟨q.toNat, List.mem_range.2 (by omega), by omega⟩
    simpa using this
  · have : row D p = [] := by simp [row, List.getD, hp]
    rw [this]; exact Nat.zero_le _
structure HS where
  E : List Int
  len : Nat
  v : Nat
def HS.l (h : HS) : List Int := h.E.take h.len
def kPush (h : HS) (x : Int) : HS := ⟨siftUp (h.E.take h.len ++ [x]) h.len, h.len + 1, h.v + 1⟩
def popE (E : List Int) (n : Nat) : List Int := downF (E.set 0 (E.getD n 0)) n 0
def kPop (h : HS) : HS := ⟨popE h.E (h.len - 1), h.len - 1, h.v + 1⟩
theorem siftUp_len : ∀ (i : Nat) (l : List Int), i < l.length → (siftUp l i).length = l.length := fun i l h => (siftUp_perm i l h).length_eq
theorem kPush_ok {h : HS} (hl : h.len ≤ h.E.length) (x : Int) : (kPush h x).len ≤ (kPush h x).E.length ∧ (kPush h x).l.Perm (h.l ++ [x]) := by
  have h1 : h.len < (h.E.take h.len ++ [x]).length := by simp; omega
  have h2 := siftUp_len h.len (h.E.take h.len ++ [x]) h1
  have h3 := siftUp_perm h.len (h.E.take h.len ++ [x]) h1
  have h4 : (h.E.take h.len ++ [x]).length = h.len + 1 := by simp; omega
  refine ⟨by show h.len + 1 ≤ (siftUp _ _).length; omega, ?_⟩
  show ((siftUp _ _).take (h.len + 1)).Perm _
  rw [List.take_of_length_le (by omega)]
  exact h3
theorem popE_perm {E : List Int} {n : Nat} (hn : n < E.length) : ((popE E n).take n).Perm ((E.take (n + 1)).tail) ∧ (popE E n).length = E.length := by
  obtain ⟨h1, h2⟩ := downF_take _ (E.set 0 (E.getD n 0)) n 0 rfl (by rw [List.length_set]; omega)
  refine ⟨h1.trans ?_, h2.trans (by rw [List.length_set])⟩
  have e0 : E.getD n 0 = E[n] := by simp [List.getD, hn]
  rw [List.take_set, e0, List.take_succ_eq_append_getElem hn]
  cases n with
  | zero => simp
  | succ n =>
    obtain ⟨x, r, rfl⟩ : ∃ x r, E = x :: r := by cases E with | nil => simp at hn | cons x r => exact ⟨x, r, rfl⟩
    simp only [List.take_succ_cons, List.set_cons_zero, List.cons_append, List.tail_cons]
    exact (List.perm_append_singleton _ _).symm
theorem kPop_ok {h : HS} (hl : h.len ≤ h.E.length) (h0 : 0 < h.len) : (kPop h).len ≤ (kPop h).E.length ∧ (kPop h).l.Perm h.l.tail ∧ h.l = h.E.getD 0 0 :: h.l.tail := by
  obtain ⟨h1, h2⟩ := popE_perm (E := h.E) (n := h.len - 1) (by omega)
  refine ⟨by show h.len - 1 ≤ (popE _ _).length; omega, ?_, ?_⟩
  · have e : h.len - 1 + 1 = h.len := by omega
    rw [e] at h1; exact h1
  · obtain ⟨E, n, v⟩ := h
    cases E with
    | nil => simp at hl h0; omega
    | cons x r =>
      cases n with
      | zero => simp at h0
      | succ n => simp [HS.l]
structure KM where
  left : List Int
  h : HS
def kChild (m : KM) (c : Int) : KM :=
  ⟨m.left.set c.toNat (m.left.getD c.toNat 0 - 1), if m.left.getD c.toNat 0 - 1 = 0 then kPush m.h c else m.h⟩
structure KR where
  m : KM
  out : List Int
def kTo (D : PL) (s : KR) (j : Nat) : KM := ((row D (s.m.h.E.getD 0 0).toNat).take j).foldl kChild ⟨s.m.left, kPop s.m.h⟩
def kStep (D : PL) (s : KR) : KR := ⟨kTo D s (row D (s.m.h.E.getD 0 0).toNat).length, s.out ++ [s.m.h.E.getD 0 0]⟩
def kRun (D : PL) : Nat → KR → List Int
  | 0, s => s.out
  | f + 1, s => if s.m.h.len = 0 then s.out else kRun D f (kStep D s)
def kInit1 (P : PL) (h : HS) (i : Nat) : HS := if row P i = [] then kPush h i else h
def kInit (P : PL) (i : Nat) : HS := (List.range i).foldl (kInit1 P) ⟨[], 0, 0⟩
theorem kInit_succ (P : PL) (i : Nat) : kInit P (i + 1) = kInit1 P (kInit P i) i := by unfold kInit; rw [List.range_succ, List.foldl_append]; rfl
def lens (P : PL) : List Int := P.map fun l => (l.length : Int)
def sortedF (P D : PL) : List Int := kRun D (P.length + 1) ⟨⟨lens P, kInit P P.length⟩, []⟩
structure SInv (P : PL) (s : KR) : Prop where
  k : KInv P ⟨s.m.left, s.m.h.l, s.out⟩
  e : s.m.h.len ≤ s.m.h.E.length
theorem kInit_ok (P : PL) (i : Nat) : (kInit P i).len ≤ (kInit P i).E.length ∧ (kInit P i).len ≤ i ∧ (kInit P i).l.Nodup ∧ (∀ q, q ∈ (kInit P i).l ↔ ∃ j, j < i ∧ row P j = [] ∧ q = (j : Int)) := by
  induction i with
  | zero => exact ⟨Nat.le_refl _, Nat.le_refl _, by simp [kInit, HS.l], by simp [kInit, HS.l]⟩
  | succ i ih =>
    obtain ⟨h1, h2, h3, h4⟩ := ih
    rw [kInit_succ]
    unfold kInit1
    split
    · rename_i hr
      obtain ⟨p1, p2⟩ := kPush_ok h1 (i : Int)
      refine ⟨p1, by show (kInit P i).len + 1 ≤ _; omega, ?_, fun q => ?_⟩
      · rw [p2.nodup_iff, List.nodup_append]
        refine ⟨h3, by simp, fun a ha b hb => ?_⟩
        obtain ⟨j, hj, _, rfl⟩ := (h4 a).1 ha
        rw [List.mem_singleton.1 hb]; omega
      · rw [p2.mem_iff, List.mem_append, h4, List.mem_singleton]
        constructor
        · rintro (⟨j, hj, h5, h6⟩ | rfl)
          · exact ⟨j, by omega, h5, h6⟩
          · exact ⟨i, by omega, hr, rfl⟩
        · rintro ⟨j, hj, h5, h6⟩
          by_cases e : j = i
          · subst e; exact .inr h6
          · exact .inl ⟨j, by omega, h5, h6⟩
    · rename_i hr
      refine ⟨h1, by omega, h3, fun q => ?_⟩
      rw [h4]
      constructor
      · rintro ⟨j, hj, h5, h6⟩; exact ⟨j, by omega, h5, h6⟩
      · rintro ⟨j, hj, h5, h6⟩
        by_cases e : j = i
        · subst e; exact absurd h5 hr
        · exact ⟨j, by omega, h5, h6⟩
theorem sinv_start (P : PL) : SInv P ⟨⟨lens P, kInit P P.length⟩, []⟩ := by
  obtain ⟨h1, _, h3, h4⟩ := kInit_ok P P.length
  exact ⟨kinv_start rfl h4 h3, h1⟩
structure SMid (P : PL) (p : Nat) (cs : List Int) (m : KM) (out : List Int) : Prop where
  k : KMid P p cs ⟨m.left, m.h.l, out⟩
  e : m.h.len ≤ m.h.E.length
theorem SInv.pop {P : PL} {s : KR} (h : SInv P s) (h0 : 0 < s.m.h.len) : ∃ p : Nat, p < P.length ∧ s.m.h.E.getD 0 0 = (p : Int) ∧ SMid P p [] ⟨s.m.left, kPop s.m.h⟩ s.out := by
  obtain ⟨h1, h2, h3⟩ := kPop_ok h.e h0
  have hk := h.k
  rw [h3] at hk
  obtain ⟨i, hg, hi⟩ := hk.good (s.m.h.E.getD 0 0) (by simp)
  have hlt : i < P.length := by cases hg with | mk _ h _ => exact h
  refine ⟨i, hlt, hi, ?_, h1⟩
  rw [hi] at hk
  exact hk.pop h2
theorem SMid.child {P D : PL} (hP : OkP P) (hD : Ch P D) {p : Nat} (hp : p < P.length) {j : Nat} (hj : j < (row D p).length) {m : KM} {out : List Int} (h : SMid P p ((row D p).take j) m out) :
    ∃ c : Nat, (row D p).getD j 0 = (c : Int) ∧ c < P.length ∧ c < m.left.length ∧ 1 ≤ m.left.getD c 0 ∧ m.left.getD c 0 ≤ (row P c).length ∧ SMid P p ((row D p).take (j + 1)) (kChild m c) out := by
  have e0 : (row D p)[j] = (row D p).getD j 0 := by simp [List.getD, hj]
  have hm : (row D p).getD j 0 ∈ row D p := by rw [← e0]; exact List.getElem_mem hj
  have hpD : p < D.length := by rw [hD.len]; exact hp
  have hrg := hD.rng _ (row_mem hpD) _ hm
  obtain ⟨c, hc⟩ : ∃ c : Nat, (row D p).getD j 0 = c := ⟨((row D p).getD j 0).toNat, by omega⟩
  have hrow : row D p = (row D p).take j ++ (c : Int) :: (row D p).drop (j + 1) := by
    rw [← hc, ← e0, ← List.drop_eq_getElem_cons hj, List.take_append_drop]
  have htk : (row D p).take (j + 1) = (row D p).take j ++ [(c : Int)] := by rw [List.take_succ_eq_append_getElem hj, e0, hc]
  obtain ⟨h1, h2, h3, h4, h5⟩ := h.k.child hD hp hrow
  have hle : m.left.getD c 0 ≤ (row P c).length := by
    have := h.k.left c h1
    have hlk : lack P out c ≤ (row P c).length := List.length_filter_le _ _
    have hx : m.left.getD c 0 = (lack P out c : Int) - (if (c : Int) ∈ (row D p).take j then 1 else 0) := this
    rw [hx]; split <;> omega
  refine ⟨c, hc, h1, h2, h3, hle, ?_⟩
  rw [htk]
  unfold kChild
  rw [Int.toNat_natCast]
  by_cases hz : m.left.getD c 0 = 1
  · rw [if_pos (by omega)]
    obtain ⟨p1, p2⟩ := kPush_ok h.e (c : Int)
    exact ⟨h5 hz _ p2 (h.k.last hP hD hp hrow h1 hz), p1⟩
  · rw [if_neg (by omega)]
    exact ⟨h4 hz, h.e⟩
theorem foldl_take {α : Type} {f : α → Int → α} {a : α} {l : List Int} {j : Nat} (hj : j < l.length) : (l.take (j + 1)).foldl f a = f ((l.take j).foldl f a) (l.getD j 0) := by
  rw [List.take_succ_eq_append_getElem hj, List.foldl_append]
  simp [List.getD, hj]
theorem kTo_succ {D : PL} {s : KR} {j : Nat} (hj : j < (row D (s.m.h.E.getD 0 0).toNat).length) : kTo D s (j + 1) = kChild (kTo D s j) ((row D (s.m.h.E.getD 0 0).toNat).getD j 0) := foldl_take hj
theorem SInv.to {P D : PL} (hP : OkP P) (hD : Ch P D) {s : KR} (h : SInv P s) (h0 : 0 < s.m.h.len) {p : Nat} (hp : s.m.h.E.getD 0 0 = (p : Int)) : ∀ j, j ≤ (row D p).length → SMid P p ((row D p).take j) (kTo D s j) s.out := by
  obtain ⟨p', hp', e, hm⟩ := h.pop h0
  obtain rfl : p' = p := by omega
  intro j
  induction j with
  | zero => exact fun _ => hm
  | succ j ih =>
    intro hj
    obtain ⟨c, hc, _, _, _, _, hk⟩ := (ih (by omega)).child hP hD hp' (j := j) (by omega)
    rw [kTo_succ (by rw [hp, Int.toNat_natCast]; omega), hp, Int.toNat_natCast, hc]
    exact hk
theorem SInv.step {P D : PL} (hP : OkP P) (hD : Ch P D) {s : KR} (h : SInv P s) (h0 : 0 < s.m.h.len) : SInv P (kStep D s) := by
  obtain ⟨p, hp, e, hm⟩ := h.pop h0
  have h1 := h.to hP hD h0 e _ (Nat.le_refl _)
  rw [List.take_length] at h1
  unfold kStep
  rw [e, Int.toNat_natCast]
  exact ⟨h1.k.done hP hD hp, h1.e⟩
theorem HS.l_len {h : HS} (hl : h.len ≤ h.E.length) : h.l.length = h.len := by simp [HS.l]; omega
theorem SMid.le {P : PL} {p : Nat} {cs : List Int} {m : KM} {out : List Int} (h : SMid P p cs m out) : m.h.len < P.length := by
  have : (out ++ (p : Int) :: m.h.l).length ≤ ((List.range P.length).map fun i : Nat => (i : Int)).length := by
    refine nodup_len h.k.nd fun q hq => ?_
    obtain ⟨i, hg, rfl⟩ := h.k.good q hq
    cases hg with
    | mk _ h _ => exact List.mem_map.2 ⟨i, List.mem_range.2 h, rfl⟩
  rw [List.length_append, List.length_cons, HS.l_len h.e, List.length_map, List.length_range] at this
  omega
theorem SInv.le {P : PL} {s : KR} (h : SInv P s) : s.out.length + s.m.h.len ≤ P.length := by
  have := h.k.le
  rw [← HS.l_len h.e]; exact this
theorem kRun_whole {P D : PL} (hP : OkP P) (hD : Ch P D) : ∀ (f : Nat) (s : KR), SInv P s → P.length < f + s.out.length → Whole P (kRun D f s)
  | 0, s, h, hf => by have := h.le; omega
  | f + 1, s, h, hf => by
    rw [kRun]
    split
    · rename_i h0
      have hk := h.k
      rw [show s.m.h.l = [] by simp [HS.l, h0]] at hk
      exact hk.whole hP
    · rename_i h0
      exact kRun_whole hP hD f _ (h.step hP hD (by omega)) (by simp [kStep]; omega)
theorem sortedF_whole {P D : PL} (hP : OkP P) (hD : Ch P D) : Whole P (sortedF P D) := kRun_whole hP hD _ _ (sinv_start P) (by simp)
theorem sorted_len {P : PL} (hP : OkP P) : (sortedF P (childF P)).length = (refOut P (P.length + 1) []).length :=
  (sortedF_whole hP (childF_ch hP)).len (refOut_whole hP _ [] ⟨by simp, by simp⟩ (by simp))
end Go.Ev
