import Derived.Test.YtekgeekghclfaaaGreatChk3
set_option linter.all false
namespace Go.Ev
open Go.Proofs
set_option maxRecDepth 10000
set_option maxHeartbeats 4000000
set_option linter.unusedSimpArgs false
set_option linter.unusedVariables false
structure CkOK (n : Nt) : Prop where
  names : n.names.length ≤ 1048576
  values : n.values.length ≤ 1048576
  value : ∀ x ∈ n.values, x.length ≤ 1048576
  parents : n.parents.length ≤ 1048576
  parent : ∀ x ∈ n.parents, x.length ≤ 1048576
  tables : n.tables.length ≤ 1048576
  table : ∀ x ∈ n.tables, x.length ≤ 1048576 ∧ bulkR x ≤ 134217728
theorem CkOK.rat {n : Nt} (h : CkOK n) : ∀ x ∈ n.tables, ∀ y ∈ x, RtOK y := fun x hx y hy => by
  have h1 := (h.table x hx).2
  have h2 := bulkR_mem hy
  unfold szR at h2
  exact ⟨by omega, by omega⟩
theorem CkOK.nt {n : Nt} (h : CkOK n) : NtOK n :=
  ⟨Nat.le_trans h.names (by decide), Nat.le_trans h.values (by decide), fun x hx => Nat.le_trans (h.value x hx) (by decide), Nat.le_trans h.parents (by decide), fun x hx => Nat.le_trans (h.parent x hx) (by decide), Nat.le_trans h.tables (by decide), fun x hx => Nat.le_trans (h.table x hx).1 (by decide), h.rat⟩
def mustF (n : Nt) (v : Nat) : Int := rowsF (szs n) (n.parents.getD v default) * ((n.values.getD v default).length : Int)
def shapeE (n : Nt) (v : Nat) : Int := if 65536 < mustF n v then 4 else if mustF n v ≠ ((n.tables.getD v default).length : Int) then 60 else 0
def rowE (n : Nt) (v : Nat) : Int := if wholeB (n.tables.getD v default) (n.values.getD v default).length = true then 0 else 46
def entE (n : Nt) (v : Nat) : Int := if (n.tables.getD v default).any outR = true then 45 else 0
def checkE (n : Nt) : Int :=
  if n.values.length ≠ n.names.length ∨ n.parents.length ≠ n.names.length ∨ n.tables.length ≠ n.names.length then 60
  else if 1024 < n.names.length then 4
  else if firstE (badN n.names n.values) n.names.length ≠ 0 then firstE (badN n.names n.values) n.names.length
  else if dagE n.parents ≠ 0 then dagE n.parents
  else if firstE (shapeE n) n.names.length ≠ 0 then firstE (shapeE n) n.names.length
  else if firstE (entE n) n.names.length ≠ 0 then firstE (entE n) n.names.length
  else firstE (rowE n) n.names.length
structure Fit (n : Nt) : Prop where
  v : n.values.length = n.names.length
  p : n.parents.length = n.names.length
  t : n.tables.length = n.names.length
  k : n.names.length ≤ 1024
  nm : firstE (badN n.names n.values) n.names.length = 0
  dg : dagE n.parents = 0
theorem dagE_rng {P : PL} (h : dagE P = 0) : inRng P = true := by
  unfold dagE at h
  split at h
  · omega
  · rename_i h1
    cases e : inRng P with
    | true => rfl
    | false => exact absurd e h1
theorem Fit.pos {n : Nt} (h : Fit n) {v : Nat} (hv : v < n.names.length) : 1 ≤ (n.values.getD v default).length := by
  have := firstE_zero h.nm v hv
  unfold badN at this
  split at this
  · omega
  · split at this
    · omega
    · omega
theorem Fit.ps {n : Nt} (h : Fit n) (ok : CkOK n) {v : Nat} (hv : v < n.names.length) : PsOK (szs n) (n.parents.getD v default) := by
  have hpv : v < n.parents.length := by rw [h.p]; exact hv
  have hr := inRng_iff.1 (dagE_rng h.dg) _ (getD_mem hpv)
  have hzl : (szs n).length = n.values.length := by simp [szs]
  have hvv := h.v
  have hpp := h.p
  have hvl := ok.values
  refine ⟨fun p hp => ?_, fun s hs => ?_, ok.parent _ (getD_mem hpv), by omega⟩
  · have := hr p hp; omega
  · obtain ⟨x, hx, rfl⟩ := List.mem_map.1 hs
    obtain ⟨j, hj, rfl⟩ := List.mem_iff_getElem.1 hx
    have h1 := h.pos (v := j) (by omega)
    have h2 := ok.value _ (List.getElem_mem hj)
    have e : n.values.getD j default = n.values[j] := by simp [List.getD, hj]
    rw [e] at h1
    omega
theorem Fit.must {n : Nt} (h : Fit n) (ok : CkOK n) {v : Nat} (hv : v < n.names.length) : 0 ≤ mustF n v ∧ mustF n v ≤ 1152921504606846976 := by
  have hps := h.ps ok hv
  have hvl := ok.value _ (getD_mem (l := n.values) (i := v) (by rw [h.v]; exact hv))
  exact mul_bnd (rowsF_rng _ _ fun s hs => by have := hps.sz s hs; omega) ⟨by omega, by omega⟩
theorem any_fit (l : List Rt) : (l.map fitR).any outR = l.any outR := by
  rw [List.any_map]
  congr 1
  funext r
  exact fitR_out r
theorem sumQ_fit (l : List Rt) : sumQ (l.map fitR) = sumQ l := by
  unfold sumQ
  rw [List.foldl_map]
  congr 1
  funext s r
  exact fitR_step s r
theorem wholeB_fit (l : List Rt) (v : Nat) : wholeB (l.map fitR) v = wholeB l v := by
  unfold wholeB
  rw [List.length_map]
  congr 1
  funext k
  unfold oneB cutL
  rw [List.length_map, ← List.map_drop, ← List.map_take, sumQ_fit]
theorem fitR_sz (r : Rt) : szR (fitR r) ≤ szR r + 1 := by
  unfold szR fitR
  dsimp only
  split <;> simp
theorem bulk_fit (l : List Rt) : bulkR (l.map fitR) ≤ bulkR l + l.length := by
  induction l with
  | nil => simp [bulkR]
  | cons a r ih =>
    have := fitR_sz a
    unfold bulkR at *
    simp only [List.map_cons, List.sum_cons, List.length_cons]
    omega
theorem fitR_ok {r : Rt} (h : RtOK r) : RtOK (fitR r) := by
  obtain ⟨h1, h2⟩ := h
  unfold fitR RtOK
  dsimp only
  refine ⟨h1, ?_⟩
  split
  · exact by decide
  · exact h2
end Go.Ev
