/-
  'ModelChanceUptoSaid' IS PROVED: WHATEVER THE NETWORK AND THE VALUES, OF BULK AT MOST 1048576: the probability is told as the document tells it, in memory of its own, and what was handed in reads as it did. No further condition.
-/
import Derived.Test.YtekgeekghclfaaaGreatLa
import Derived.Deep.Slices
import Derived.Test.YtekgeekghclfaaaGreatMCh
import Derived.Test.YtekgeekghclfaaaGreatRows
import Derived.WalkKit
import Derived.ProofKit
import Derived.OpenShut
import Derived.JoinedCond
set_option linter.all false
namespace Go.Ev
open Go.Deep
def memS (W : World) : Sto := fun b o => W.cell? ⟨b, o, none⟩
def RdC (S : Sto) (t : T) (cs : List Value) : Prop :=
  t.cells.length = cs.length ∧ ∀ (j : Nat) (u : T) (c : Value), t.cells[j]? = some u → cs[j]? = some c → RdT S u c ∧ c.oneCell' = true
structure Bulk {H : Type} (B : DataW H → Nat) : Prop where
  len : ∀ e s, e.length ≤ B (.slice e s)
  mem : ∀ e s d, d ∈ e → B d ≤ B (.slice e s)
  part : ∀ ps d, d ∈ ps → B d ≤ B (.agg ps)
  sum : ∀ e s, (e.map B).sum ≤ B (.slice e s)
section
variable {H : Type} (enc : TypeId × Value → H) (P : Program) (B : DataW H → Nat) (M : Nat)
def Rdr {α : Type} (t : TypeId) (F : α → T) (good : α → Prop) : Prop :=
  ∀ (W : World) (sp : Nat → Bool) (hd : Bool) (fuel : Nat) (cs : List Value) (d : DataW H) (ps : List MemPlace), DataW.trod enc P W 0 sp hd fuel t cs = some (d, ps) → B d ≤ M →
    ∃ a : α, good a ∧ RdC (memS W) (F a) cs
variable {enc P B M}
theorem rdc_con {S : Sto} {v : Value} (h : v.oneCell' = true) : RdC S (.con v) [v] := by
  refine ⟨rfl, fun j u c h1 h2 => ?_⟩
  cases j with
  | zero => simp [T.cells] at h1 h2; subst h1; subst h2; exact ⟨.con _ h, h⟩
  | succ j => simp at h2
theorem rdr_bool {t : TypeId} (ht : P.underlying t = some .bool) : Rdr enc P B M t (fun b : Bool => T.con (.bool b)) (fun _ => True) := by
  intro W sp hd fuel cs d ps h _
  obtain ⟨b, rfl, _⟩ := DataW.trod_bool ht h
  exact ⟨b, trivial, rdc_con rfl⟩
theorem rdr_int {t : TypeId} {k : IntKind} (ht : P.underlying t = some (.int k)) : Rdr enc P B M t (fun n : Int => T.con (.int k n)) (fun n => (Lit.int k n).wf = true) := by
  intro W sp hd fuel cs d ps h _
  obtain ⟨n, rfl, _, hw⟩ := DataW.trod_int ht h
  exact ⟨n, hw, rdc_con rfl⟩
theorem rdr_u32 {t : TypeId} (ht : P.underlying t = some (.int .u32)) : Rdr enc P B M t (fun n : UInt32 => T.con (.int .u32 n.toNat)) (fun _ => True) := by
  intro W sp hd fuel cs d ps h _
  obtain ⟨n, rfl, _, hw⟩ := DataW.trod_int ht h
  have hx : 0 ≤ n ∧ n ≤ 4294967295 := by simpa [Lit.wf, IntKind.min, IntKind.max, IntKind.signed, IntKind.bits] using hw
  have e : ((UInt32.ofNat n.toNat).toNat : Int) = n := by rw [UInt32.toNat_ofNat']; omega
  refine ⟨UInt32.ofNat n.toNat, trivial, ?_⟩
  show RdC _ (.con (.int .u32 ((UInt32.ofNat n.toNat).toNat : Nat))) _
  rw [e]; exact rdc_con rfl
theorem rdr_string {t : TypeId} (ht : P.underlying t = some .string) : Rdr enc P B M t (fun s : ByteArray => T.con (.string s)) (fun s => s.size ≤ maxLen) := by
  intro W sp hd fuel cs d ps h _
  obtain ⟨s, rfl, _, hs⟩ := DataW.trod_string ht h
  exact ⟨s, hs, rdc_con rfl⟩
theorem rdr_sliceB {α : Type} [Inhabited α] {t e : TypeId} {sz : Nat} {F : α → T} {good : Nat → α → Prop} (hB : Bulk B) (ht : P.underlying t = some (.slice e)) (hsz : P.cellsOf e = sz) (h0 : 0 < sz) (hF : ∀ a, (F a).cells.length = sz)
    (he : ∀ (W : World) (sp : Nat → Bool) (hd : Bool) (fuel : Nat) (cs : List Value) (d : DataW H) (ps : List MemPlace), DataW.trod enc P W 0 sp hd fuel e cs = some (d, ps) → B d ≤ M → ∃ a : α, good (B d) a ∧ RdC (memS W) (F a) cs) : Rdr enc P B M t (fun l : List α => T.sl (l.map F)) (fun l => l.length ≤ M ∧ ∃ ms : Nat → Nat, ((List.range l.length).map ms).sum ≤ M ∧ ∀ i, i < l.length → ms i ≤ M ∧ good (ms i) (l.getD i default)) := by
  intro W sp hd fuel cs d ps h hb
  rcases open_slice ht h with ⟨rfl, hx⟩ | ⟨a, len, cap, m, n, D, Pl, rfl, _, hl, hm, hmm, hx, hel⟩
  · refine ⟨[], ⟨Nat.zero_le _, fun _ => 0, Nat.zero_le _, fun i h => absurd h (Nat.not_lt_zero i)⟩, rfl, fun j u c h1 h2 => ?_⟩
    cases j with
    | zero =>
      simp [T.cells] at h1 h2; subst h1; subst h2
      refine ⟨?_, rfl⟩
      exact RdT.sl [] none 0 0 0 0 (fun _ _ => undef) (Nat.zero_le _) (Nat.zero_le _) (fun h => absurd rfl h) (fun i t h => by simp at h) (fun i t j h => by simp at h) (fun i t j h => by simp at h) (fun i t j u h => by simp at h)
    | succ j => simp at h2
  · have hlm : len ≤ m := by rw [hmm]; split <;> omega
    simp only [Prod.mk.injEq] at hx
    have hd' := hx.1
    subst hd'
    have hall : ∀ i, i < len → ∃ p : α × List Value, W.cells? 0 (a.add (i * sz)) sz = some p.2 ∧ good (B (D i)) p.1 ∧ RdC (memS W) (F p.1) p.2 := by
      intro i hi
      obtain ⟨cs', h1, h2⟩ := hel i (by omega)
      rw [hsz] at h1
      obtain ⟨x, hx1, hx2⟩ := he W sp hd n cs' (D i) (Pl i) h2 (Nat.le_trans (hB.mem _ _ _ (List.mem_map.2 ⟨i, by simpa using hi, rfl⟩)) hb)
      exact ⟨(x, cs'), h1, hx1, hx2⟩
    obtain ⟨f, hf⟩ := choose_lt hall
    have hlen : len ≤ M := by have := hB.len ((List.range len).map D) ((List.range (m - len)).map fun j => D (len + j)); simp at this; omega
    refine ⟨(List.range len).map fun i => (f i).1, ⟨by simpa using hlen, fun i => B (D i), ?_, fun i hi => ?_⟩, rfl, fun j u c h1 h2 => ?_⟩
    · have := hB.sum ((List.range len).map D) ((List.range (m - len)).map fun j => D (len + j))
      rw [List.map_map] at this
      rw [List.length_map, List.length_range]
      exact Nat.le_trans this hb
    · have hi : i < len := by simpa using hi
      refine ⟨Nat.le_trans (hB.mem _ _ _ (List.mem_map.2 ⟨i, by simpa using hi, rfl⟩)) hb, ?_⟩
      rw [List.getD, List.getElem?_map, List.getElem?_range hi]
      exact (hf i hi).2.1
    · cases j with
      | succ j => simp at h2
      | zero =>
        simp [T.cells] at h1 h2; subst h1; subst h2
        refine ⟨?_, rfl⟩
        have hget : ∀ (i : Nat) (t : T), ((List.range len).map (F ∘ fun i => (f i).1))[i]? = some t → i < len ∧ t = F (f i).1 := by
          intro i t hi
          rw [List.getElem?_map] at hi
          obtain ⟨k, hk, rfl⟩ := Option.map_eq_some_iff.1 hi
          have hil : i < len := by have := (List.getElem?_eq_some_iff.1 hk).1; simpa using this
          rw [List.getElem?_range hil] at hk
          obtain rfl : i = k := by simpa using hk
          exact ⟨hil, rfl⟩
        have hcell : ∀ i j, i < len → j < sz → W.cell? ((a.add (i * sz)).add j) = (f i).2[j]? ∧ (f i).2.length = sz := by
          intro i j hi hj
          obtain ⟨_, h2, h3⟩ := World.cells?_some (hf i hi).1
          exact ⟨h3 j hj, h2⟩
        have hspot : 0 < len → a.spot = none := by
          intro hl0
          obtain ⟨h3, h4⟩ := hcell 0 0 hl0 h0
          rw [List.getElem?_eq_getElem (by omega)] at h3
          have := World.cell?_spot h3
          simpa [Addr.add] using this
        have haddr : ∀ i j, 0 < len → (a.add (i * sz)).add j = ⟨a.block, a.off + i * sz + j, none⟩ := by
          intro i j hl0
          have hs := hspot hl0
          obtain ⟨b, o, spot⟩ := a
          simp only at hs
          subst hs
          unfold Addr.add
          by_cases h1 : i * sz = 0 <;> by_cases h2 : j = 0 <;> simp [h1, h2]
        have hlen' : len = ((List.range len).map (F ∘ fun i => (f i).1)).length := by simp
        have key := RdT.sl (S := memS W) ((List.range len).map (F ∘ fun i => (f i).1)) (some a) cap sz a.block a.off (fun i j => (f i).2.getD j undef) (by simpa using hl) hm
          (fun hne => by
            have hl0 : 0 < len := by
              cases len with
              | zero => simp at hne
              | succ n => omega
            have hs := hspot hl0
            obtain ⟨b, o, spot⟩ := a
            simp only at hs
            subst hs; rfl)
          (fun i t hi => by rw [(hget i t hi).2]; exact hF _)
          (fun i t j hi hj => by
            obtain ⟨hil, rfl⟩ := hget i t hi
            rw [hF] at hj
            obtain ⟨h3, h4⟩ := hcell i j hil hj
            rw [haddr i j (by omega), List.getElem?_eq_getElem (by omega)] at h3
            show W.cell? ⟨a.block, a.off + i * sz + j, none⟩ = some ((f i).2.getD j undef)
            rw [h3]; simp [List.getD, List.getElem?_eq_getElem (show j < (f i).2.length by omega)])
          (fun i t j hi hj => by
            obtain ⟨hil, rfl⟩ := hget i t hi
            obtain ⟨h5, h6⟩ := (hf i hil).2.2
            have hj2 : j < (f i).2.length := by omega
            have := (h6 j _ _ (List.getElem?_eq_getElem hj) (List.getElem?_eq_getElem hj2)).2
            simpa [List.getD, List.getElem?_eq_getElem hj2] using this)
          (fun i t j u hi hu => by
            obtain ⟨hil, rfl⟩ := hget i t hi
            obtain ⟨h5, h6⟩ := (hf i hil).2.2
            have hj := (List.getElem?_eq_some_iff.1 hu).1
            have hj2 : j < (f i).2.length := by omega
            have := (h6 j _ _ hu (List.getElem?_eq_getElem hj2)).1
            simpa [List.getD, List.getElem?_eq_getElem hj2] using this)
        rw [← hlen'] at key
        exact key
theorem rdr_slice {α : Type} [Inhabited α] {t e : TypeId} {sz : Nat} {F : α → T} {good : α → Prop} (hB : Bulk B) (ht : P.underlying t = some (.slice e)) (hsz : P.cellsOf e = sz) (h0 : 0 < sz) (hF : ∀ a, (F a).cells.length = sz)
    (he : Rdr enc P B M e F good) : Rdr enc P B M t (fun l : List α => T.sl (l.map F)) (fun l => l.length ≤ M ∧ ∀ x ∈ l, good x) := by
  intro W sp hd fuel cs d ps h hb
  obtain ⟨l, ⟨h1, ms, _, h3⟩, h4⟩ := rdr_sliceB (good := fun _ => good) hB ht hsz h0 hF he W sp hd fuel cs d ps h hb
  refine ⟨l, ⟨h1, fun x hx => ?_⟩, h4⟩
  obtain ⟨i, hi, rfl⟩ := List.mem_iff_getElem.1 hx
  have := (h3 i hi).2
  rwa [List.getD, List.getElem?_eq_getElem hi] at this
theorem sum_le_range {α : Type} [Inhabited α] {w : α → Nat} {c : Nat} : ∀ (l : List α) (ms : Nat → Nat), (∀ i, i < l.length → w (l.getD i default) ≤ c * ms i) → (l.map w).sum ≤ c * ((List.range l.length).map ms).sum
  | [], _, _ => Nat.zero_le _
  | a :: r, ms, h => by
    have h0 := h 0 (by simp)
    have ih := sum_le_range r (fun i => ms (i + 1)) fun i hi => h (i + 1) (by simpa using hi)
    rw [List.length_cons, List.range_succ_eq_map, List.map_cons, List.map_cons, List.map_map, List.sum_cons, List.sum_cons, Nat.mul_add]
    exact Nat.add_le_add h0 ih
theorem rdr_sliceS {α : Type} [Inhabited α] {t e : TypeId} {sz : Nat} {F : α → T} {good : Nat → α → Prop} (w : α → Nat) (c : Nat) (hB : Bulk B) (ht : P.underlying t = some (.slice e)) (hsz : P.cellsOf e = sz) (h0 : 0 < sz) (hF : ∀ a, (F a).cells.length = sz)
    (he : ∀ m, Rdr enc P B m e F (good m)) (hw : ∀ m a, good m a → w a ≤ c * m) (hm : ∀ m a, m ≤ M → good m a → good M a) : Rdr enc P B M t (fun l : List α => T.sl (l.map F)) (fun l => l.length ≤ M ∧ (∀ x ∈ l, good M x) ∧ (l.map w).sum ≤ c * M) := by
  intro W sp hd fuel cs d ps h hb
  obtain ⟨l, ⟨h1, ms, h2, h3⟩, h4⟩ := rdr_sliceB (good := good) hB ht hsz h0 hF (fun W sp hd fuel cs d ps h _ => he (B d) W sp hd fuel cs d ps h (Nat.le_refl _)) W sp hd fuel cs d ps h hb
  refine ⟨l, ⟨h1, fun x hx => ?_, ?_⟩, h4⟩
  · obtain ⟨i, hi, rfl⟩ := List.mem_iff_getElem.1 hx
    have := h3 i hi
    rw [List.getD, List.getElem?_eq_getElem hi] at this
    exact hm _ _ this.1 this.2
  · exact Nat.le_trans (sum_le_range l ms fun i hi => hw _ _ (h3 i hi).2) (Nat.mul_le_mul_left c h2)
def RdL (S : Sto) (l : List T) (cs : List Value) : Prop := l.length = cs.length ∧ ∀ (j : Nat) (u : T) (c : Value), l[j]? = some u → cs[j]? = some c → RdT S u c ∧ c.oneCell' = true
theorem rdl_app {S : Sto} {l l2 : List T} {cs cs2 : List Value} (h : RdL S l cs) (h2 : RdL S l2 cs2) : RdL S (l ++ l2) (cs ++ cs2) := by
  refine ⟨by simp [h.1, h2.1], fun j u c h3 h4 => ?_⟩
  by_cases hj : j < l.length
  · rw [List.getElem?_append_left hj] at h3
    rw [List.getElem?_append_left (by rw [← h.1]; exact hj)] at h4
    exact h.2 j u c h3 h4
  · rw [List.getElem?_append_right (by omega)] at h3
    rw [List.getElem?_append_right (by rw [← h.1]; omega), ← h.1] at h4
    exact h2.2 _ u c h3 h4
theorem rdl_cons {S : Sto} {t : T} {l : List T} {cs : List Value} {off s : Nat} (h : RdC S t ((cs.drop off).take s)) (h2 : RdL S l (cs.drop (off + s))) : RdL S (t.cells ++ l) (cs.drop off) := by
  have := rdl_app (l := t.cells) h h2
  rwa [← List.drop_drop, List.take_append_drop] at this
theorem rdl_last {S : Sto} {t : T} {cs : List Value} {off s : Nat} (h : RdC S t ((cs.drop off).take s)) (hl : cs.length = off + s) : RdL S t.cells (cs.drop off) := by
  rw [List.take_of_length_le (by rw [List.length_drop]; omega)] at h
  exact h
theorem rdr_map {α β : Type} {t : TypeId} {F : α → T} {g : α → Prop} {F' : β → T} {g' : β → Prop} (f : α → β) (hF : ∀ a, F a = F' (f a)) (hg : ∀ a, g a → g' (f a)) (h : Rdr enc P B M t F g) : Rdr enc P B M t F' g' := by
  intro W sp hd fuel cs d ps h1 h2
  obtain ⟨a, h3, h4⟩ := h W sp hd fuel cs d ps h1 h2
  exact ⟨f a, hg a h3, hF a ▸ h4⟩
theorem rd_agg {S : Sto} {l : List T} {cs : Array Value} (h : RdL S l cs.toList) : RdT S (.agg l) (.agg cs) :=
  .agg l cs (by simpa using h.1.symm) (fun j c hj => by
    have hj' := (Array.getElem?_eq_some_iff.1 hj).1
    have h9 := h.1
    simp at h9
    have h3 : l[j]? = some (l[j]'(by omega)) := List.getElem?_eq_getElem (by omega)
    exact (h.2 j _ c h3 (by simpa using hj)).2) (fun j u c hu hc => (h.2 j u c hu (by simpa using hc)).1)
theorem rdr_struct2 {α0 α1 : Type} {t : TypeId} {f0 f1 : Field} {s0 s1 : Nat} {F0 : α0 → T} {F1 : α1 → T} {g0 : α0 → Prop} {g1 : α1 → Prop} (hB : Bulk B) (ht : P.underlying t = some (.struct #[f0, f1])) (o0 : f0.offset = 0) (c0 : P.cellsOf f0.type = s0) (o1 : f1.offset = 0 + s0) (c1 : P.cellsOf f1.type = s1) (ct : P.cellsOf t = s0 + s1) (h0 : Rdr enc P B M f0.type F0 g0) (h1 : Rdr enc P B M f1.type F1 g1) :
    Rdr enc P B M t (fun p : α0 × α1 => T.agg ((F0 (p.1)).cells ++ ((F1 (p.2)).cells))) (fun p => g0 (p.1) ∧ g1 (p.2)) := by
  intro W sp hd fuel cs d ps h hb
  obtain ⟨xs, n, _, hx, hl, hxl, hf⟩ := DataW.trod_struct ht h
  simp only [Prod.mk.injEq] at hx
  have hd' := hx.1
  subst hd'
  have one : ∀ (i : Nat) (f : Field), #[f0, f1][i]? = some f → ∃ y, DataW.trod enc P W 0 sp hd n f.type ((cs.drop f.offset).take (P.cellsOf f.type)) = some y ∧ B y.1 ≤ M := by
    intro i f hi
    have hlt : i < xs.length := by rw [hxl]; exact (Array.getElem?_eq_some_iff.1 hi).1
    refine ⟨xs[i], (hf i f hi).trans (List.getElem?_eq_getElem hlt), Nat.le_trans (hB.part _ _ (List.mem_map.2 ⟨xs[i], List.getElem_mem hlt, rfl⟩)) hb⟩
  obtain ⟨⟨d0, p0⟩, e0, b0⟩ := one 0 f0 rfl
  obtain ⟨a0, q0, r0⟩ := h0 W sp hd n _ d0 p0 e0 b0
  rw [o0, c0] at r0
  obtain ⟨⟨d1, p1⟩, e1, b1⟩ := one 1 f1 rfl
  obtain ⟨a1, q1, r1⟩ := h1 W sp hd n _ d1 p1 e1 b1
  rw [o1, c1] at r1
  refine ⟨(a0, a1), ⟨q0, q1⟩, ?_⟩
  rw [ct] at hl
  have key : RdL (memS W) _ (cs.drop 0) := rdl_cons r0 (rdl_last r1 (by omega))
  exact key
theorem rdr_struct5 {α0 α1 α2 α3 α4 : Type} {t : TypeId} {f0 f1 f2 f3 f4 : Field} {s0 s1 s2 s3 s4 : Nat} {F0 : α0 → T} {F1 : α1 → T} {F2 : α2 → T} {F3 : α3 → T} {F4 : α4 → T} {g0 : α0 → Prop} {g1 : α1 → Prop} {g2 : α2 → Prop} {g3 : α3 → Prop} {g4 : α4 → Prop} (hB : Bulk B) (ht : P.underlying t = some (.struct #[f0, f1, f2, f3, f4])) (o0 : f0.offset = 0) (c0 : P.cellsOf f0.type = s0) (o1 : f1.offset = 0 + s0) (c1 : P.cellsOf f1.type = s1) (o2 : f2.offset = 0 + s0 + s1) (c2 : P.cellsOf f2.type = s2) (o3 : f3.offset = 0 + s0 + s1 + s2) (c3 : P.cellsOf f3.type = s3) (o4 : f4.offset = 0 + s0 + s1 + s2 + s3) (c4 : P.cellsOf f4.type = s4) (ct : P.cellsOf t = s0 + s1 + s2 + s3 + s4) (h0 : Rdr enc P B M f0.type F0 g0) (h1 : Rdr enc P B M f1.type F1 g1) (h2 : Rdr enc P B M f2.type F2 g2) (h3 : Rdr enc P B M f3.type F3 g3) (h4 : Rdr enc P B M f4.type F4 g4) :
    Rdr enc P B M t (fun p : α0 × α1 × α2 × α3 × α4 => T.agg ((F0 (p.1)).cells ++ ((F1 (p.2.1)).cells ++ ((F2 (p.2.2.1)).cells ++ ((F3 (p.2.2.2.1)).cells ++ ((F4 (p.2.2.2.2)).cells)))))) (fun p => g0 (p.1) ∧ g1 (p.2.1) ∧ g2 (p.2.2.1) ∧ g3 (p.2.2.2.1) ∧ g4 (p.2.2.2.2)) := by
  intro W sp hd fuel cs d ps h hb
  obtain ⟨xs, n, _, hx, hl, hxl, hf⟩ := DataW.trod_struct ht h
  simp only [Prod.mk.injEq] at hx
  have hd' := hx.1
  subst hd'
  have one : ∀ (i : Nat) (f : Field), #[f0, f1, f2, f3, f4][i]? = some f → ∃ y, DataW.trod enc P W 0 sp hd n f.type ((cs.drop f.offset).take (P.cellsOf f.type)) = some y ∧ B y.1 ≤ M := by
    intro i f hi
    have hlt : i < xs.length := by rw [hxl]; exact (Array.getElem?_eq_some_iff.1 hi).1
    refine ⟨xs[i], (hf i f hi).trans (List.getElem?_eq_getElem hlt), Nat.le_trans (hB.part _ _ (List.mem_map.2 ⟨xs[i], List.getElem_mem hlt, rfl⟩)) hb⟩
  obtain ⟨⟨d0, p0⟩, e0, b0⟩ := one 0 f0 rfl
  obtain ⟨a0, q0, r0⟩ := h0 W sp hd n _ d0 p0 e0 b0
  rw [o0, c0] at r0
  obtain ⟨⟨d1, p1⟩, e1, b1⟩ := one 1 f1 rfl
  obtain ⟨a1, q1, r1⟩ := h1 W sp hd n _ d1 p1 e1 b1
  rw [o1, c1] at r1
  obtain ⟨⟨d2, p2⟩, e2, b2⟩ := one 2 f2 rfl
  obtain ⟨a2, q2, r2⟩ := h2 W sp hd n _ d2 p2 e2 b2
  rw [o2, c2] at r2
  obtain ⟨⟨d3, p3⟩, e3, b3⟩ := one 3 f3 rfl
  obtain ⟨a3, q3, r3⟩ := h3 W sp hd n _ d3 p3 e3 b3
  rw [o3, c3] at r3
  obtain ⟨⟨d4, p4⟩, e4, b4⟩ := one 4 f4 rfl
  obtain ⟨a4, q4, r4⟩ := h4 W sp hd n _ d4 p4 e4 b4
  rw [o4, c4] at r4
  refine ⟨(a0, a1, a2, a3, a4), ⟨q0, q1, q2, q3, q4⟩, ?_⟩
  rw [ct] at hl
  have key : RdL (memS W) _ (cs.drop 0) := rdl_cons r0 (rdl_cons r1 (rdl_cons r2 (rdl_cons r3 (rdl_last r4 (by omega)))))
  exact key
end
end Go.Ev

set_option linter.all false
namespace Go.Ev
open Go.Proofs Go.Proofs.YtekgeekghclfaaaGreat
set_option maxRecDepth 10000
set_option linter.unusedSimpArgs false
set_option linter.unusedVariables false
theorem bulk_one {H : Type} (d : DataW H) : 1 ≤ Rows.uptoBulk d := by
  cases d with
  | lit l => cases l <;> simp [Rows.uptoBulk]
  | _ => simp [Rows.uptoBulk]
theorem bulk_part {H : Type} {d : DataW H} {l : List (DataW H)} (h : d ∈ l) : Rows.uptoBulk d ≤ Rows.uptoBulkAll l := by
  induction l with
  | nil => cases h
  | cons x r ih =>
    simp only [Rows.uptoBulkAll]
    rcases List.mem_cons.1 h with rfl | h
    · omega
    · have := ih h; omega
theorem bulk_len {H : Type} (l : List (DataW H)) : l.length ≤ Rows.uptoBulkAll l := by
  induction l with
  | nil => simp [Rows.uptoBulkAll]
  | cons x r ih => have := bulk_one x; simp only [Rows.uptoBulkAll, List.length_cons]; omega
theorem bulk_sum {H : Type} (l : List (DataW H)) : (l.map Rows.uptoBulk).sum = Rows.uptoBulkAll l := by
  induction l with
  | nil => rfl
  | cons x r ih => simp only [Rows.uptoBulkAll, List.map_cons, List.sum_cons, ih]
theorem bulk_ok {H : Type} : Bulk (H := H) Rows.uptoBulk where
  len e s := by have := bulk_len e; simp only [Rows.uptoBulk]; omega
  mem e s d h := by have := bulk_part h; simp only [Rows.uptoBulk]; omega
  part ps d h := by have := bulk_part h; simp only [Rows.uptoBulk]; omega
  sum e s := by have := bulk_sum e; simp only [Rows.uptoBulk]; omega
section
variable {H : Type} {enc : TypeId × Value → H} {M : Nat}
theorem rd_nat : Rdr enc Tryz.prog Rows.uptoBulk M 37 (fun l => tn l) (fun l => l.length ≤ M) :=
  rdr_map (fun l => l) (fun _ => rfl) (fun _ h => h.1) (rdr_slice (sz := 1) bulk_ok Tryz.underlying37 (by kernel_rfl) (by decide) (fun _ => rfl) (rdr_u32 Tryz.underlying46))
theorem rd_int : Rdr enc Tryz.prog Rows.uptoBulk M 39 (fun p : Bool × List UInt32 => tI p.1 p.2) (fun p => p.2.length ≤ M) :=
  rdr_map (fun p => p) (fun _ => rfl) (fun _ h => h.2) (rdr_struct2 (s0 := 1) (s1 := 1) bulk_ok Tryz.underlying39 rfl (by kernel_rfl) rfl (by kernel_rfl) (by kernel_rfl) (rdr_bool Tryz.underlying4) rd_nat)
theorem rd_rat : Rdr enc Tryz.prog Rows.uptoBulk M 41 tRt (fun r => r.mag.length ≤ M ∧ r.den.length ≤ M) :=
  rdr_map (fun p : (Bool × List UInt32) × List UInt32 => ⟨p.1.1, p.1.2, p.2⟩) (fun _ => rfl) (fun _ h => h) (rdr_struct2 (s0 := 2) (s1 := 1) bulk_ok Tryz.underlying41 rfl (by kernel_rfl) rfl (by kernel_rfl) (by kernel_rfl) rd_int rd_nat)
theorem rd_ratM : Rdr enc Tryz.prog Rows.uptoBulk M 41 tRt (fun r => (r.mag.length ≤ M ∧ r.den.length ≤ M) ∧ 1 ≤ M) := fun W sp hd fuel cs d ps h hb => by
  obtain ⟨a, h1, h2⟩ := rd_rat W sp hd fuel cs d ps h hb
  exact ⟨a, ⟨h1, Nat.le_trans (bulk_one d) hb⟩, h2⟩
theorem rd_rats : Rdr enc Tryz.prog Rows.uptoBulk M 48 tRL (fun l => l.length ≤ M ∧ bulkR l ≤ 4 * M) :=
  rdr_map (fun l => l) (fun _ => rfl) (fun _ h => ⟨h.1, h.2.2⟩) (rdr_sliceS (sz := 3) (good := fun m (r : Rt) => (r.mag.length ≤ m ∧ r.den.length ≤ m) ∧ 1 ≤ m) szR 4 bulk_ok Tryz.underlying48 (by kernel_rfl) (by decide) (fun _ => rfl) (fun m => rd_ratM) (fun m a h => by unfold szR; omega) (fun m a hm h => ⟨⟨Nat.le_trans h.1.1 hm, Nat.le_trans h.1.2 hm⟩, Nat.le_trans h.2 hm⟩))
theorem rd_ratss : Rdr enc Tryz.prog Rows.uptoBulk M 25 tRLL (fun l => l.length ≤ M ∧ (∀ x ∈ l, x.length ≤ M ∧ bulkR x ≤ 4 * M) ∧ (l.map bulkR).sum ≤ 4 * M) :=
  rdr_sliceS (sz := 1) (good := fun m (l : List Rt) => l.length ≤ m ∧ bulkR l ≤ 4 * m) bulkR 4 bulk_ok Tryz.underlying25 (by kernel_rfl) (by decide) (fun _ => rfl) (fun m => rd_rats) (fun m a h => h.2) (fun m a hm h => ⟨Nat.le_trans h.1 hm, by have := h.2; omega⟩)
theorem rd_strs : Rdr enc Tryz.prog Rows.uptoBulk M 22 tSL (fun l => l.length ≤ M) :=
  rdr_map (fun l => l) (fun _ => rfl) (fun _ h => h.1) (rdr_slice (sz := 1) bulk_ok Tryz.underlying22 (by kernel_rfl) (by decide) (fun _ => rfl) (rdr_string Tryz.underlying9))
theorem rd_strss : Rdr enc Tryz.prog Rows.uptoBulk M 23 tSLL (fun l => l.length ≤ M ∧ ∀ x ∈ l, x.length ≤ M) :=
  rdr_slice (sz := 1) bulk_ok Tryz.underlying23 (by kernel_rfl) (by decide) (fun _ => rfl) rd_strs
theorem rd_ints : Rdr enc Tryz.prog Rows.uptoBulk M 31 tIL (fun l => l.length ≤ M) :=
  rdr_map (fun l => l) (fun _ => rfl) (fun _ h => h.1) (rdr_slice (sz := 1) bulk_ok Tryz.underlying31 (by kernel_rfl) (by decide) (fun _ => rfl) (rdr_int Tryz.underlying3))
theorem rd_intss : Rdr enc Tryz.prog Rows.uptoBulk M 24 tILL (fun l => l.length ≤ M ∧ ∀ x ∈ l, x.length ≤ M) :=
  rdr_slice (sz := 1) bulk_ok Tryz.underlying24 (by kernel_rfl) (by decide) (fun _ => rfl) rd_ints
theorem rd_net (hM : M ≤ 1048576) : Rdr enc Tryz.prog Rows.uptoBulk M 27 tNt (fun n => CkOK n ∧ allR n ≤ 134217728) :=
  rdr_map (fun p : ByteArray × List ByteArray × List (List ByteArray) × List (List Int) × List (List Rt) => ⟨p.1, p.2.1, p.2.2.1, p.2.2.2.1, p.2.2.2.2⟩) (fun _ => rfl)
    (fun _ ⟨_, h1, h2, h3, h4⟩ => ⟨⟨Nat.le_trans h1 hM, Nat.le_trans h2.1 hM, fun x hx => Nat.le_trans (h2.2 x hx) hM, Nat.le_trans h3.1 hM, fun x hx => Nat.le_trans (h3.2 x hx) hM, Nat.le_trans h4.1 hM, fun x hx => ⟨Nat.le_trans (h4.2.1 x hx).1 hM, by have := (h4.2.1 x hx).2; omega⟩⟩, Nat.le_trans h4.2.2 (by omega)⟩)
    (rdr_struct5 (s0 := 1) (s1 := 1) (s2 := 1) (s3 := 1) (s4 := 1) bulk_ok Tryz.underlying27 rfl (by kernel_rfl) rfl (by kernel_rfl) rfl (by kernel_rfl) rfl (by kernel_rfl) rfl (by kernel_rfl) (by kernel_rfl) (rdr_string Tryz.underlying9) rd_strs rd_strss rd_intss rd_ratss)
end
end Go.Ev
namespace Go.Proofs.YtekgeekghclfaaaGreat.lawModelChance
open Go.Ev Go.ChangeShapes Go.WideShapes Go.ChangeAt Go.RowKit
set_option maxRecDepth 100000
set_option linter.unusedVariables false
set_option linter.unusedSimpArgs false
theorem own : ownKnob Tryz.prog.godebug = none := by kernel_rfl
theorem laidOut : laidOutB Tryz.prog = true := by kernel_rfl
theorem okWide_agg {P : Program} {W : World} {r : Reach} {base : Nat} {t : TypeId} {fs : Array Field} {v : Value} (ht : P.underlying t = some (.struct fs)) (h : Value.okWide P W r base t v) : ∃ cs, v = .agg cs := by
  unfold Value.okWide at h
  rw [ht] at h
  obtain ⟨cs, rfl, _, _⟩ := h
  exact ⟨cs, rfl⟩
/-- an argument: a network, of bounded bulk -/
theorem open_net {H : Type} {enc : TypeId × Value → H} {W : World} {base : Nat} {v : Value} {d : DataW H} {p : List MemPlace} (hval : Value.okWide Tryz.prog W .any base 27 v)
    (h : DataW.Trod enc Tryz.prog W 0 (fun _ => true) true 27 v d p) (hb : Rows.uptoBulk d ≤ 1048576) : ∃ n : Nt, (CkOK n ∧ allR n ≤ 134217728) ∧ RdT (memS W) (tNt n) v := by
  obtain ⟨cs, rfl⟩ := okWide_agg Tryz.underlying27 hval
  obtain ⟨fuel, hf⟩ := h
  obtain ⟨n, h1, h2⟩ := rd_net (enc := enc) (M := 1048576) (Nat.le_refl _) W _ _ fuel _ d p hf hb
  exact ⟨n, h1, rd_agg h2⟩
theorem okWide_sl {P : Program} {W : World} {r : Reach} {base : Nat} {t e : TypeId} {v : Value} (ht : P.underlying t = some (.slice e)) (h : Value.okWide P W r base t v) : v.cells = #[v] := by
  cases v with
  | agg cs => simp [Value.okWide, Cell.okWide, ht, Cell.ok] at h
  | _ => rfl
theorem open_ints {H : Type} {enc : TypeId × Value → H} {W : World} {base : Nat} {v : Value} {d : DataW H} {p : List MemPlace} (hval : Value.okWide Tryz.prog W .any base 31 v)
    (h : DataW.Trod enc Tryz.prog W 0 (fun _ => true) true 31 v d p) (hb : Rows.uptoBulk d ≤ 1048576) : ∃ l : List Int, l.length ≤ 1048576 ∧ RdT (memS W) (tIL l) v := by
  have e := okWide_sl Tryz.underlying31 hval
  obtain ⟨fuel, hf⟩ := h
  rw [e] at hf
  obtain ⟨l, h1, h2⟩ := rd_ints (enc := enc) (M := 1048576) W _ _ fuel _ d p hf hb
  exact ⟨l, h1, (h2.2 0 _ v rfl rfl).1⟩
/-- WHAT THE WALK GIVES, FOR ALL ARGUMENTS OF BOUNDED BULK. -/
theorem contract (H : Type) (enc : TypeId × Value → H) (W : World) (base : Nat) (args : Array Value) (ds gs : List (DataW H)) (before : List MemPlace)
    (hval : ∀ (j : Nat) t v, Tryz.f4.params[j]? = some t → args[j]? = some v → Value.okWide Tryz.prog W .any base t v)
    (hW : DataW.Whole enc Tryz.prog Tryz.f4.params.toList Rows.modelChanceSpec.vars false W args.toList ds gs before) (hk : Rows.uptoSmall H (ds ++ gs) = true) :
    Calls Tryz.prog 4 args W fun e W' => ∃ v, e = .returned v ∧ Rows.modelChanceSpec.post enc Tryz.prog Tryz.f4 false true false false W args v W' := by
  have hW' := hW
  obtain ⟨p, q, hA0, hV, rfl, hfz, hnd⟩ := hW
  have hA : DataW.TrodAll enc Tryz.prog W 0 (fun _ => true) true Tryz.f4.params.toList args.toList ds p := hA0
  rw [Tryz.params4] at hA hval
  obtain ⟨v0, v1, d0, d1, p0, p1, rfl, rfl, rfl, h0, h1⟩ := trodAll_two hA
  obtain ⟨rfl, rfl⟩ := trodVars_none hV
  have hb : Rows.uptoBulkAll [d0, d1] ≤ 1048576 := of_decide_eq_true hk
  simp only [Rows.uptoBulkAll] at hb
  obtain ⟨n0, s0, r0⟩ := open_net (hval 0 _ v0 rfl rfl) h0 (by omega)
  obtain ⟨n1, s1, r1⟩ := open_ints (hval 1 _ v1 rfl rfl) h1 (by omega)
  have hlt : ∀ x ∈ p0 ++ p1, x.block < W.heap.size := fun x hx => hW'.lt x (by simpa using hx)
  refine ((ModelChance_ok n0 n1 s0.1 s0.2 s1).2 (memS W) W #[v0, v1] (fun b o c h => h) ⟨rfl, fun j t x ht hx => ?_⟩).mono fun e W' hp => ?_
  · match j with
    | 0 => simp at ht hx; subst ht; subst hx; exact r0
    | 1 => simp at ht hx; subst ht; subst hx; exact r1
    | j + 2 => simp at ht
  · obtain ⟨v, N, rfl, hbelow, _, hr⟩ := hp
    have hv : v = .bool true := by cases hr; rfl
    subst hv
    refine ⟨_, rfl, _, _, _, [], p0 ++ p1, [], hW', ?_, ?_, ?_, World.keptBut_mono (fun p hp => ⟨hp, ?_⟩) (hbelow.frame _), fun h => by cases h⟩
    · exact trodAll_cons_mk (shut_bool Tryz.underlying4 _) trodAll_mk0
    · exact trodAll_mk2 (Below.trod laidOut (by kernel_rfl) (of_decide_eq_true (by kernel_rfl)) h0 hbelow fun x hx => hlt x (by simp [hx])) (Below.trod laidOut (by kernel_rfl) (of_decide_eq_true (by kernel_rfl)) h1 hbelow fun x hx => hlt x (by simp [hx]))
    · rfl
    · exact .inr (.inl (by simpa using hp))
theorem lifted (os : Os) (started : os.Started) (H : Type) (enc : TypeId × Value → H) (F : Stop.Interp) :
    ReturnsInHanded {} Tryz.checked os 4 .any ((Rows.OpenSpec.upto Rows.modelChanceSpec).pre6 enc Tryz.prog Tryz.f4 Rows.modelChanceUptoRow.domain false) (((Rows.OpenSpec.upto Rows.modelChanceSpec).at F).post enc Tryz.prog Tryz.f4 false true false false) := by
  refine returnsInHanded_of_cond (C := Tryz.checked) (s := Rows.OpenSpec.upto Rows.modelChanceSpec) (k := Rows.uptoSmall) rfl own started (by kernel_rfl) Tryz.func4
    (OpenSpec.witness (enc := enc) (C := Tryz.checked) (s := Rows.OpenSpec.upto Rows.modelChanceSpec) (k := Rows.uptoSmall) rfl false ⟨#[], #[.agg #[.string .empty, .slice none 0 0, .slice none 0 0, .slice none 0 0, .slice none 0 0], .slice none 0 0], []⟩ 8 (by kernel_rfl) (by kernel_rfl) (by kernel_rfl)
      (x := ([.agg [.lit (.string []), .nil, .nil, .nil, .nil], .nil], [], [])) (by kernel_rfl) rfl (by kernel_rfl)) ?_
  intro W base args ds gs before hval hW _ hk _
  exact contract H enc W base args ds gs before hval hW hk
theorem over : Rows.modelChanceUptoRow.holds Tryz.pinned (Rows.OpenSpec.upto Rows.modelChanceSpec) :=
  OpenClaim.holds_of_cond 4 Tryz.f4 rfl rfl rfl rfl rfl rfl rfl ⟨rfl, rfl, rfl, rfl, rfl⟩ rfl rfl rfl rfl rfl (by kernel_rfl) Tryz.func4 (by kernel_rfl)
    (of_decide_eq_true (by kernel_rfl)) (by unfold Func.isWrapper; first | (rw [if_pos (by decide +kernel)]; kernel_rfl) | (rw [if_neg (by decide +kernel)]; exact ⟨rfl, rfl⟩))
    (fun os started H enc _ F => lifted os started H enc F)
theorem proved : Rows.ModelChanceUptoSaid :=
  over
end Go.Proofs.YtekgeekghclfaaaGreat.lawModelChance
