import Derived.Test.YtekgeekghclfaaaGreatChk4a
set_option linter.all false
namespace Go.Ev
open Go.Proofs
set_option maxRecDepth 10000
set_option maxHeartbeats 4000000
set_option linter.unusedSimpArgs false
set_option linter.unusedVariables false
def atF (z ps xs : List Int) : Int := ps.foldl (fun k p => k * z.getD p.toNat 0 + xs.getD p.toNat 0) 0
theorem atF_snoc {z ps xs : List Int} {i : Nat} (h : i < ps.length) : atF z (ps.take (i + 1)) xs = atF z (ps.take i) xs * z.getD (ps.getD i default).toNat 0 + xs.getD (ps.getD i default).toNat 0 := by
  unfold atF
  rw [foldl_take h]; rfl
theorem rowsF_mono {z ps : List Int} (h : PsOK z ps) {i : Nat} (hi : i < ps.length) : rowsF z (ps.take i) ≤ rowsF z (ps.take (i + 1)) := by
  have hrr := rowsF_rng z (ps.take i) fun s hs => by have := h.sz s hs; omega
  obtain ⟨h1, h2, h3, h4⟩ := h.at hi
  have h3 : 1 ≤ z.getD (ps.getD i default).toNat 0 := h3
  rw [rowsF_snoc hi]
  have hm : rowsF z (ps.take i) * 1 ≤ rowsF z (ps.take i) * z.getD (ps.getD i default).toNat 0 := Int.mul_le_mul_of_nonneg_left h3 hrr.1
  rw [Int.mul_one] at hm
  unfold mulC
  split
  · exact hrr.2
  · exact hm
theorem rowsF_le {z ps : List Int} (h : PsOK z ps) {i : Nat} : ∀ {j : Nat}, i ≤ j → j ≤ ps.length → rowsF z (ps.take i) ≤ rowsF z (ps.take j)
  | 0, h1, h2 => by obtain rfl : i = 0 := by omega
                    exact Int.le_refl _
  | j + 1, h1, h2 => by
    by_cases e : i = j + 1
    · subst e; exact Int.le_refl _
    · exact Int.le_trans (rowsF_le h (j := j) (by omega) (by omega)) (rowsF_mono h (by omega))
theorem atF_rng {z ps xs : List Int} (h : PsOK z ps) (hx : ∀ j, j < z.length → 0 ≤ xs.getD j 0 ∧ xs.getD j 0 < z.getD j 0) (hR : rowsF z ps ≤ 65536) : ∀ i, i ≤ ps.length → 0 ≤ atF z (ps.take i) xs ∧ atF z (ps.take i) xs < rowsF z (ps.take i) ∧ rowsF z (ps.take i) ≤ 65536 := by
  have hle : ∀ i, i ≤ ps.length → rowsF z (ps.take i) ≤ 65536 := fun i hi => by
    have := rowsF_le h (i := i) (j := ps.length) hi (Nat.le_refl _)
    rw [List.take_length] at this
    omega
  intro i
  induction i with
  | zero => intro _; exact ⟨Int.le_refl _, by show (0 : Int) < 1; omega, by show (1 : Int) ≤ _; omega⟩
  | succ i ih =>
    intro hi
    obtain ⟨a1, a2, a3⟩ := ih (by omega)
    obtain ⟨h1, h2, h3, h4⟩ := h.at (i := i) (by omega)
    have h3 : 1 ≤ z.getD (ps.getD i default).toNat 0 := h3
    obtain ⟨x1, x2⟩ := hx _ h2
    have hr := hle (i + 1) hi
    rw [atF_snoc (by omega)]
    have hs := rowsF_snoc (z := z) (ps := ps) (i := i) (by omega)
    have hr2 := hr
    rw [hs] at hr2 ⊢
    generalize z.getD (ps.getD i default).toNat 0 = s at *
    generalize xs.getD (ps.getD i default).toNat 0 = x at *
    generalize atF z (ps.take i) xs = t at *
    generalize rowsF z (ps.take i) = R at *
    have e : mulC R s = R * s := by
      unfold mulC many at hr2 ⊢
      split
      · rename_i h9; rw [if_pos h9] at hr2; omega
      · rfl
    rw [e] at hr2 ⊢
    have m1 : 0 ≤ t * s := Int.mul_nonneg a1 (by omega)
    have m2 : (t + 1) * s ≤ R * s := Int.mul_le_mul_of_nonneg_right (by omega) (by omega)
    rw [Int.add_mul, Int.one_mul] at m2
    exact ⟨by omega, by omega, by omega⟩
theorem check0 {n : Nt} (h : checkE n = 0) : Fit n ∧ ∀ v, v < n.names.length → shapeE n v = 0 := by
  unfold checkE at h
  split at h
  · omega
  · rename_i a1
    split at h
    · omega
    · rename_i a2
      split at h
      · rename_i a3; exact absurd h a3
      · rename_i a3
        split at h
        · rename_i a4; exact absurd h a4
        · rename_i a4
          split at h
          · rename_i a5; exact absurd h a5
          · rename_i a5
            exact ⟨⟨by omega, by omega, by omega, by omega, Classical.byContradiction a3, Classical.byContradiction a4⟩, fun v hv => firstE_zero (Classical.byContradiction a5) v hv⟩
def rngE (n : Nt) (xs : List Int) (v : Nat) : Int := if xs.getD v 0 < 0 ∨ ((n.values.getD v default).length : Int) ≤ xs.getD v 0 then 3 else 0
structure XsOK (n : Nt) (xs : List Int) : Prop where
  len : xs.length = n.names.length
  rng : ∀ v, v < n.names.length → 0 ≤ xs.getD v 0 ∧ xs.getD v 0 < ((n.values.getD v default).length : Int)
theorem xs_ok {n : Nt} {xs : List Int} (hl : xs.length = n.names.length) (h : firstE (rngE n xs) xs.length = 0) : XsOK n xs := by
  refine ⟨hl, fun v hv => ?_⟩
  have := firstE_zero h v (by omega)
  unfold rngE at this
  split at this
  · omega
  · omega
def idxF (n : Nt) (xs : List Int) (v : Nat) : Int := atF (szs n) (n.parents.getD v default) xs * ((n.values.getD v default).length : Int) + xs.getD v 0
def cellF (n : Nt) (xs : List Int) (v : Nat) : Rt := (n.tables.getD v default).getD (idxF n xs v).toNat default
theorem XsOK.sz {n : Nt} {xs : List Int} (h : XsOK n xs) (fit : Fit n) : ∀ j, j < (szs n).length → 0 ≤ xs.getD j 0 ∧ xs.getD j 0 < (szs n).getD j 0 := by
  intro j hj
  have hj2 : j < n.values.length := by simpa [szs] using hj
  have hv := fit.v
  have := h.rng j (by omega)
  have e : (szs n).getD j 0 = ((n.values.getD j default).length : Int) := szs_get hj2
  rw [e]; exact this
theorem mustF_le {n : Nt} {v : Nat} (h : shapeE n v = 0) : mustF n v ≤ 65536 ∧ mustF n v = ((n.tables.getD v default).length : Int) := by
  unfold shapeE at h
  split at h
  · omega
  · split at h
    · omega
    · exact ⟨by omega, by omega⟩
theorem idx_rng {n : Nt} {xs : List Int} (ok : CkOK n) (hc : checkE n = 0) (hx : XsOK n xs) {v : Nat} (hv : v < n.names.length) :
    rowsF (szs n) (n.parents.getD v default) ≤ 65536 ∧ 0 ≤ atF (szs n) (n.parents.getD v default) xs ∧ atF (szs n) (n.parents.getD v default) xs ≤ 65536 ∧ 0 ≤ atF (szs n) (n.parents.getD v default) xs * ((n.values.getD v default).length : Int) ∧
    atF (szs n) (n.parents.getD v default) xs * ((n.values.getD v default).length : Int) ≤ 65536 ∧ 0 ≤ idxF n xs v ∧ (idxF n xs v).toNat < (n.tables.getD v default).length ∧ idxF n xs v ≤ 65536 := by
  obtain ⟨fit, sh⟩ := check0 hc
  have hps := fit.ps ok hv
  obtain ⟨m1, m2⟩ := mustF_le (sh v hv)
  have hpos := fit.pos hv
  obtain ⟨x1, x2⟩ := hx.rng v hv
  have hrr := rowsF_rng (szs n) (n.parents.getD v default) fun s hs => by have := hps.sz s hs; omega
  have hR : rowsF (szs n) (n.parents.getD v default) ≤ 65536 := by
    have : rowsF (szs n) (n.parents.getD v default) * 1 ≤ mustF n v := Int.mul_le_mul_of_nonneg_left (by omega) hrr.1
    omega
  have ha := atF_rng hps (hx.sz fit) hR _ (Nat.le_refl _)
  rw [List.take_length] at ha
  obtain ⟨a1, a2, a3⟩ := ha
  unfold idxF mustF at *
  generalize atF (szs n) (n.parents.getD v default) xs = t at *
  generalize rowsF (szs n) (n.parents.getD v default) = R at *
  generalize xs.getD v 0 = x at *
  generalize (n.values.getD v default).length = s at *
  have q1 : 0 ≤ t * (s : Int) := Int.mul_nonneg a1 (by omega)
  have q2 : (t + 1) * (s : Int) ≤ R * (s : Int) := Int.mul_le_mul_of_nonneg_right (by omega) (by omega)
  rw [Int.add_mul, Int.one_mul] at q2
  refine ⟨hR, a1, by omega, q1, by omega, by omega, by omega, by omega⟩
def stepM (s : Int × Nat) (r : Rt) : Int × Nat := (qz s.1 s.2 * iv r.neg r.mag, qd s.1 s.2 * denv r.den)
def chF (n : Nt) (xs : List Int) (k : Nat) : Int × Nat := (List.range k).foldl (fun s v => stepM s (cellF n xs v)) (1, 1)
theorem chF_succ (n : Nt) (xs : List Int) (k : Nat) : chF n xs (k + 1) = stepM (chF n xs k) (cellF n xs k) := by
  unfold chF
  rw [List.range_succ, List.foldl_append]; rfl
theorem fit_stepM (s : Int × Nat) (r : Rt) : stepM s (fitR r) = stepM s r := by
  unfold stepM
  rw [fitR_denv]; rfl
theorem QOK.stepM {s : Int × Nat} {B : Nat} (h : QOK s B) (r : Rt) : QOK (Go.Ev.stepM s r) (B + szR r) := by
  obtain ⟨h1, h2, h3⟩ := h
  have hd := lm_den_len r.den
  have hq := qd_pos (z := s.1) h1
  refine ⟨Nat.mul_ne_zero hq (denv_pos _), ?_, ?_⟩
  · have e1 := lm_len_le (qz_le (Go.Ev.stepM s r).1 (Go.Ev.stepM s r).2)
    refine Nat.le_trans e1 ?_
    show (lm (qz s.1 s.2 * iv r.neg r.mag).natAbs).length ≤ _
    rw [Int.natAbs_mul, iv_abs]
    have := lm_mul_len (lm (qz s.1 s.2).natAbs) r.mag
    rw [val_lm] at this
    unfold szR
    omega
  · have e1 := lm_len_le (qd_le (Go.Ev.stepM s r).1 (Go.Ev.stepM s r).2)
    refine Nat.le_trans e1 ?_
    have := lm_mul_len (lm (qd s.1 s.2)) (lm (denv r.den))
    rw [val_lm, val_lm] at this
    unfold szR
    exact Nat.le_trans this (by omega)
def allR (n : Nt) : Nat := (n.tables.map bulkR).sum
theorem allR_take {l : List (List Rt)} {k : Nat} : ((l.take k).map bulkR).sum ≤ (l.map bulkR).sum := by
  conv => rhs; rw [← List.take_append_drop k l, List.map_append, List.sum_append]
  omega
theorem chF_ok {n : Nt} {xs : List Int} (h : ∀ v, v < n.tables.length → cellF n xs v ∈ n.tables.getD v default) : ∀ k, k ≤ n.tables.length → QOK (chF n xs k) (1 + ((n.tables.take k).map bulkR).sum) := by
  intro k
  induction k with
  | zero =>
    intro _
    refine ⟨Nat.one_ne_zero, ?_, ?_⟩
    · show (lm (qz 1 1).natAbs).length ≤ _
      rw [qz_11]
      exact Nat.le_trans lm1_len (by omega)
    · show (lm (qd 1 1)).length ≤ _
      rw [qd_11]
      exact Nat.le_trans lm1_len (by omega)
  | succ k ih =>
    intro hk
    have h1 := (ih (by omega)).stepM (cellF n xs k)
    rw [← chF_succ] at h1
    have h2 := bulkR_mem (h k (by omega))
    obtain ⟨p, q, r⟩ := h1
    rw [take_snoc (by omega), List.map_append, List.sum_append, List.map_singleton, List.sum_singleton]
    exact ⟨p, by omega, by omega⟩
theorem cell_mem {n : Nt} {xs : List Int} (ok : CkOK n) (hc : checkE n = 0) (hx : XsOK n xs) : ∀ v, v < n.tables.length → cellF n xs v ∈ n.tables.getD v default := by
  intro v hv
  have ht := (check0 hc).1.t
  exact getD_mem (idx_rng ok hc hx (by omega)).2.2.2.2.2.2.1
def chanceE (n : Nt) (xs : List Int) : Int := if checkE n ≠ 0 then checkE n else if xs.length ≠ n.names.length then 60 else firstE (rngE n xs) xs.length
end Go.Ev
