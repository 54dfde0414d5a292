import Derived.Test.YtekgeekghclfaaaGreatChunk
import Derived.Test.YtekgeekghclfaaaGreatChk2
import Derived.RangeFuncFrom
import Derived.RangeFuncBox
set_option linter.all false
namespace Go.Ev
theorem ok_in {P : Program} {q : FuncId} {ts : List T} {f : Bool} {r : T} (h : Ok P q ts f r) {S : Sto} {w : World} {args : Array Value} (hS : ∀ b o c, S b o = some c → w.cell? ⟨b, o, none⟩ = some c) (hr : Reads S ts args) (n : Nat) (l : Nat) :
    CallsIn (Fence.wide.inRound l) n P q args w fun e w' => ∃ v N, e = .returned v ∧ RowKit.Below w.heap.size w w' ∧ (∀ b o c, N b o = some c → w.heap.size ≤ b ∧ w'.cell? ⟨b, o, none⟩ = some c) ∧ RdT (Sto.pick f S N) r v :=
  CallsIn.inRound l (callsIn_wide.2 (h.2 S w args hS hr))
def cutL (l : List Rt) (v k : Nat) : List Rt := (l.drop (k * v)).take (min v (l.length - k * v))
def cmpOne (s : Int × Nat) : Int := signZ (iv (decide (qz s.1 s.2 < 0)) (lm (qz s.1 s.2).natAbs) * denv (lm (qd 1 1)) - iv (decide (qz 1 1 < 0)) (lm (qz 1 1).natAbs) * denv (lm (qd s.1 s.2)))
def oneB (l : List Rt) : Bool := decide (cmpOne (sumQ l) = 0)
def wholeB (l : List Rt) (v : Nat) : Bool := (List.range (Go.Proofs.cutN l.length v)).all fun k => oneB (cutL l v k)
theorem cut_reads {S : Sto} {l : List Rt} {a : Option Addr} {cap : Nat} (h : RdT S (tRL l) (.slice a l.length cap)) (v k : Nat) (hk : k * v < l.length) : RdT S (tRL (cutL l v k)) (Go.Proofs.cutV a l.length v k) := by
  have hlen : (l.map tRt).length = l.length := List.length_map ..
  obtain ⟨ad, cap', esz, b, off, c, he, hlc, hm, ha, hz, hs, h1, hr⟩ := rdT_sl h
  rw [hlen] at he hlc
  cases he
  have hl0 : l.map tRt ≠ [] := by
    intro e
    have h9 := congrArg List.length e
    rw [hlen, List.length_nil] at h9
    rw [h9] at hk; exact absurd hk (Nat.not_lt_zero _)
  have ha0 := ha hl0
  have hcl : ((l.map tRt).drop (k * v)).take (min v (l.length - k * v)) = (cutL l v k).map tRt := by unfold cutL; rw [List.map_take, List.map_drop]
  have hcn : (cutL l v k).length = min v (l.length - k * v) := by unfold cutL; rw [List.length_take, List.length_drop]; omega
  have he3 : esz = 3 := by
    cases l with
    | nil => simp at hk
    | cons x r => exact (hz 0 (tRt x) rfl).symm
  have := rdT_drop (l := l.map tRt) (b := b) (off := off) (esz := esz) (c := c) (k * v) (min v (l.length - k * v)) hz hs h1 hr (a.map fun x => x.add (k * v * 3)) (min v (l.length - k * v)) (by rw [hcl, List.length_map, hcn]; exact Nat.le_refl _) (Nat.le_trans (Nat.le_trans (Nat.min_le_right _ _) (Nat.sub_le _ _)) (Nat.le_trans hlc hm)) (fun _ => by
    rw [ha0, he3]; simp [Addr.add_lit])
  rw [hcl, List.length_map, hcn] at this
  exact this
theorem bulk_cut (l : List Rt) (v k : Nat) : bulkR (cutL l v k) ≤ bulkR l := by
  unfold cutL
  refine Nat.le_trans bulkR_take ?_
  unfold bulkR
  conv => rhs; rw [← List.take_append_drop (k * v) l]
  rw [List.map_append, List.sum_append]; omega
theorem len_cut (l : List Rt) (v k : Nat) : (cutL l v k).length ≤ l.length := by
  unfold cutL
  rw [List.length_take, List.length_drop]; omega
theorem reads1 {S : Sto} {t : T} {v : Value} (h : RdT S t v) : Reads S [t] #[v] := ⟨rfl, fun j u x hu hx => by
  match j with
  | 0 => cases hu; cases hx; exact h
  | j + 1 => simp at hu⟩
theorem reads0 {S : Sto} : Reads S [] #[] := ⟨rfl, fun j u x hu hx => by simp at hu⟩
theorem reads2 {S : Sto} {t u : T} {v x : Value} (h : RdT S t v) (h2 : RdT S u x) : Reads S [t, u] #[v, x] := ⟨rfl, fun j u x hu hx => by
  match j with
  | 0 => cases hu; cases hx; exact h
  | 1 => cases hu; cases hx; exact h2
  | j + 2 => simp at hu⟩
end Go.Ev
namespace Go.Proofs
open Go.RowKit Go.Shelf Go.Ev
attribute [local go_sem] Oper.semAt_some
set_option maxRecDepth 100000
set_option maxHeartbeats 4000000
theorem cell_new_l (W : World) (v : Value) (t : TypeId) : (W.alloc (.cells #[v] t)).cell? ⟨W.heap.size, 0, none⟩ = some v ∧ (W.alloc (.cells #[v] t)).frozen? ⟨W.heap.size, 0, none⟩ = false :=
  ⟨by simp, by simp⟩
theorem cell_alloc_l {W : World} {a : Addr} {v : Value} (o : Go.Obj) (h : W.cell? a = some v) : (W.alloc o).cell? a = some v := cell_kept h (World.grownBy_alloc W o none) (fun r e => by cases e)
theorem frozen_alloc_l {W : World} {a : Addr} {v : Value} (o : Go.Obj) (h : W.cell? a = some v) (hf : W.frozen? a = false) : (W.alloc o).frozen? a = false := (frozen_kept h (World.grownBy_alloc W o none) (fun r e => by cases e)).trans hf
theorem whole_calls (l : List Rt) (v : Nat) (hv : 1 ≤ v) (hv2 : v ≤ 1048576) (hl : l.length ≤ 1048576) (hbk : bulkR l ≤ 268435400) (S : Sto) (w : World) (a : Option Addr) (cap : Nat) (hcap : l.length ≤ cap)
    (hS : ∀ b o c, S b o = some c → w.cell? ⟨b, o, none⟩ = some c) (hrd : RdT S (tRL l) (.slice a l.length cap)) :
    CallsIn Fence.wide 5 Tryz.prog 28 #[.slice a l.length cap, .int .i64 v] w fun e w' => e = .returned (.bool (wholeB l v)) ∧ Below w.heap.size w w' := by
  refine callsIn_of_wp_marks Tryz.func28 rfl trivial ?_ rfl
  simp only [Tryz.ntmps28, List.size_toArray, List.length_cons, List.length_nil, Nat.reduceAdd, Nat.reduceSub, Array.replicate_succ, Array.replicate_zero, List.push_toArray, List.append_toArray, List.nil_append, List.cons_append]
  gi_wp2
  refine ⟨trivial, ?_⟩
  refine (chunk_in Fence.wide _ trivial rfl _ _ _ _ (by omega) _).mono ?_
  rintro e w' ⟨rfl, rfl⟩
  gi_wp2
  have c0 := cell_new_l w (.bool false) 4
  have c1 := cell_new_l (w.alloc (.cells #[.bool false] 4)) (.slice a l.length cap) 48
  have c2 := cell_new_l ((w.alloc (.cells #[.bool false] 4)).alloc (.cells #[.slice a l.length cap] 48)) (.int .i64 v) 3
  simp only [World.size_alloc] at c1 c2
  have hB0 : Below w.heap.size w (((w.alloc (.cells #[.bool false] 4)).alloc (.cells #[.slice a l.length cap] 48)).alloc (.cells #[.int .i64 v] 3)) := (((Below.refl _ w).alloc (Nat.le_refl _) _).alloc (by simp) _).alloc (by simp; omega) _
  refine wpIn_rangeFunc_ownF rfl (by omega) (gf := 77) (lb := #[.pointer (some ⟨w.heap.size + 1, 0, none⟩), .pointer (some ⟨w.heap.size + 1 + 1, 0, none⟩)]) rfl trivial (enters_of Tryz.func77 (by kernel_rfl) rfl)
    (chunk_stops Fence.wide _ trivial rfl (by omega) (w.heap.size + 1) (w.heap.size + 1 + 1) (w.heap.size + 3) l.length cap v a hv (by omega) (by omega) hcap hl hv2 _ (by simp) (cell_alloc_l _ c1.1) c2.1) belowK_t (belowK_b (by simp)) (Below.refl _ _) (fun _ => rfl)
    (fun pre W => ((∀ k ∈ pre, oneB (cutL l v k.1) = true) ∧ w.heap.size + 3 ≤ W.heap.size ∧ W.cell? ⟨w.heap.size, 0, none⟩ = some (.bool false) ∧ W.frozen? ⟨w.heap.size, 0, none⟩ = false) ∧ Below w.heap.size w W)
    (fun c pre W => (c = .ret ∧ (∃ k ∈ pre, oneB (cutL l v k.1) = false) ∧ W.cell? ⟨w.heap.size, 0, none⟩ = some (.bool false)) ∧ Below w.heap.size w W)
    (OwnFrom.and (Own.from (fun s A B row hs hg hr => ⟨hs.1, Nat.le_trans hs.2.1 hg.size, cell_kept hs.2.2.1 hg hr, (frozen_kept hs.2.2.1 hg hr).trans hs.2.2.2⟩) _) (ownFrom_below (Nat.le_refl _) (by simp; omega)))
    (fun c => OwnFrom.and (Own.from (fun s A B row hs hg hr => ⟨hs.1, hs.2.1, cell_kept hs.2.2 hg hr⟩) _) (ownFrom_below (Nat.le_refl _) (by simp; omega)))
    ⟨⟨by simp, by simp, cell_alloc_l _ (cell_alloc_l _ c0.1), frozen_alloc_l _ (cell_alloc_l _ c0.1) (frozen_alloc_l _ c0.1 c0.2)⟩, hB0⟩
    (fun k : CutK l.length v => { tmps := #[.slice a l.length cap, .int .i64 v, undef, undef, .pointer (some ⟨w.heap.size, 0, none⟩), cutV a l.length v k.1, .slice a l.length cap, .int .i64 v, .func (.func 77) #[] #[.pointer (some ⟨w.heap.size + 1, 0, none⟩), .pointer (some ⟨w.heap.size + 1 + 1, 0, none⟩)], cutV a l.length v k.1, undef, undef, undef, undef, undef], defers := [] }) ?assign ?body ?done ?stop
  case assign =>
    intro l0 x W K hK
    gi_wp2
    exact hK
  case body =>
    rintro l0 pre x W ⟨⟨hp, hsz, hcr, hfr⟩, hB⟩ _
    have hSW : ∀ b o c, S b o = some c → W.cell? ⟨b, o, none⟩ = some c := fun b o c h => (hB.cell (p := ⟨b, o, none⟩) (lt_of_cell (hS b o c h))).trans (hS b o c h)
    have hrow := cut_reads hrd v x.1 x.2
    have hbc := bulk_cut l v x.1
    have hlc := len_cut l v x.1
    have hsum := ok_in (Sum_ok (cutL l v x.1) (by omega) (by omega)) hSW (reads1 hrow) (5 - 1 - 1 - 1) l0
    gi_wp2
    refine ⟨trivial, hsum.mono ?_⟩
    rintro e w1 ⟨v1, N1, rfl, hb1, hN1, hr1⟩
    gi_wp2
    refine ⟨trivial, (ok_in one_ok (S := fun _ _ => none) (w := w1) (args := #[]) (fun b o c h => by cases h) reads0 (5 - 1 - 1 - 1) l0).mono ?_⟩
    rintro e w2 ⟨v2, N2, rfl, hb2, hN2, hr2⟩
    gi_wp2
    have hcc : ∀ b o c, N1.un N2 b o = some c → w2.cell? ⟨b, o, none⟩ = some c := by
      intro b o c h
      unfold Sto.un at h
      cases e1 : N1 b o with
      | some c' =>
        rw [e1] at h; cases h
        have h9 := (hN1 b o c e1).2
        exact (hb2.cell (p := ⟨b, o, none⟩) (lt_of_cell h9)).trans h9
      | none => rw [e1] at h; exact (hN2 b o c h).2
    have hr1' : RdT (N1.un N2) (tQ (sumQ (cutL l v x.1)).1 (sumQ (cutL l v x.1)).2) v1 := hr1.mono fun b o c h => by
      have h : N1 b o = some c := h
      show N1.un N2 b o = some c
      unfold Sto.un; rw [h]
    have hr2' : RdT (N1.un N2) (tQ 1 1) v2 := hr2.mono fun b o c h => by
      have h : N2 b o = some c := h
      show N1.un N2 b o = some c
      unfold Sto.un
      cases e1 : N1 b o with
      | some c' =>
        have h9 := lt_of_cell (hN1 b o c' e1).2
        have := (hN2 b o c h).1
        omega
      | none => exact h
    obtain ⟨hq1, hq2, hq3⟩ := sumQ_ok (cutL l v x.1)
    have hcmp := CmpR_ok (decide (qz (sumQ (cutL l v x.1)).1 (sumQ (cutL l v x.1)).2 < 0)) (decide (qz 1 1 < 0)) (lm (qz (sumQ (cutL l v x.1)).1 (sumQ (cutL l v x.1)).2).natAbs) (lm (qd (sumQ (cutL l v x.1)).1 (sumQ (cutL l v x.1)).2)) (lm (qz 1 1).natAbs) (lm (qd 1 1)) (by omega) (by omega)
      (by rw [qz_11]; exact Nat.le_trans lm1_len (by decide)) (by rw [qd_11]; exact Nat.le_trans lm1_len (by decide))
    refine ⟨trivial, (ok_in hcmp hcc (reads2 hr1' hr2') (5 - 1 - 1 - 1) l0).mono ?_⟩
    rintro e w3 ⟨v3, N3, rfl, hb3, hN3, hr3⟩
    have hv3 : v3 = .int .i64 (cmpOne (sumQ (cutL l v x.1))) := by cases hr3; rfl
    subst hv3
    have hbW : Below W.heap.size W w3 := hb1.trans ((hb2.mono hb1.size).trans (hb3.mono (Nat.le_trans hb1.size hb2.size)))
    have hko : KeepsOthers W w3 := ⟨hbW.size, fun k o hk _ => (hbW.block k (Array.getElem?_eq_some_iff.1 hk).1).trans hk⟩
    have hcr3 : w3.cell? ⟨w.heap.size, 0, none⟩ = some (.bool false) := (hbW.cell (p := ⟨w.heap.size, 0, none⟩) (by show w.heap.size < _; omega)).trans hcr
    have hfr3 : w3.frozen? ⟨w.heap.size, 0, none⟩ = false := (hbW.frozen (p := ⟨w.heap.size, 0, none⟩) (by show w.heap.size < _; omega)).trans hfr
    have hB3 : Below w.heap.size w w3 := hB.trans (hbW.mono hB.size)
    generalize hco : cmpOne (sumQ (cutL l v x.1)) = co at *
    gi_wp2
    · rename_i hne
      have hne : co ≠ 0 := by simpa using hne
      have hx0 : oneB (cutL l v x.1) = false := by unfold oneB; rw [hco]; exact decide_eq_false hne
      exact ⟨hko.trans (KeepsOthers.setCell _ _ _), ⟨rfl, ⟨x, by simp, hx0⟩, World.cell?_setCell_same' _ _ _ (by rw [hcr3]; rfl)⟩, hB3.setCell (p := ⟨w.heap.size, 0, none⟩) (by simp) _⟩
    · rename_i heq
      have heq : co = 0 := by simpa using heq
      have hx0 : oneB (cutL l v x.1) = true := by unfold oneB; rw [hco]; exact decide_eq_true heq
      refine ⟨hko, hbW.mono hsz, ⟨fun k hk => ?_, Nat.le_trans hsz hbW.size, hcr3, hfr3⟩, hB3⟩
      rcases List.mem_append.1 hk with hk | hk
      · exact hp k hk
      · rw [List.mem_singleton.1 hk]; exact hx0
  case done =>
    rintro D ys W hD hys ⟨⟨hall, _, hcr, hfr⟩, hB⟩ hK
    gi_wp2
    have hK' := (KeepsOthers.setCell W ⟨w.heap.size, 0, none⟩ (.bool true)).same D _ hK rfl
    refine ⟨by simp, .inl ⟨_, _, rfl, run_takeDeferred hK', ?_⟩⟩
    have hc5 := cell_kept (World.cell?_setCell_same' W ⟨w.heap.size, 0, none⟩ (.bool true) (by rw [hcr]; rfl)) (grownBy_putObj' _ D (.deferred none)) (fun r e => by cases e; exact ⟨_, hK', rfl⟩)
    have hw : wholeB l v = true := by
      unfold wholeB
      rw [List.all_eq_true]
      intro k hk
      rw [← hys] at hk
      obtain ⟨x, hx, rfl⟩ := List.mem_map.1 hk
      exact hall x hx
    refine ⟨.bool true, ?_, by rw [hw], (hB.setCell (p := ⟨w.heap.size, 0, none⟩) (by simp) _).trans (belowK_b (w := w) (Nat.le_refl _) _ D _ _ (by simp at hD; omega) hK' rfl rfl)⟩
    simp [results, Tryz.f28, go_sem, hc5]
  case stop =>
    rintro D c pre W hD ⟨k, hk, hpre⟩ ⟨⟨rfl, ⟨x, hx, hxb⟩, hcr⟩, hB⟩ hK
    gi_wp2
    refine ⟨by simp, .inl ⟨_, _, rfl, run_takeDeferred hK, ?_⟩⟩
    have hc5 := cell_kept hcr (grownBy_putObj' _ D (.deferred none)) (fun r e => by cases e; exact ⟨_, hK, rfl⟩)
    have hw : wholeB l v = false := by
      unfold wholeB
      rw [List.all_eq_false]
      refine ⟨x.1, ?_, by rw [hxb]; exact Bool.false_ne_true⟩
      have : x.1 ∈ List.range k := by rw [← hpre]; exact List.mem_map.2 ⟨x, hx, rfl⟩
      exact List.mem_range.2 (Nat.lt_of_lt_of_le (List.mem_range.1 this) hk)
    refine ⟨.bool false, ?_, by rw [hw], hB.trans (belowK_b (w := w) (Nat.le_refl _) W D _ _ (by simp at hD; omega) hK rfl rfl)⟩
    simp [results, Tryz.f28, go_sem, hc5]
end Go.Proofs
namespace Go.Ev
open Go.Proofs
theorem whole_ok (l : List Rt) (v : Nat) (hv : 1 ≤ v) (hv2 : v ≤ 1048576) (hl : l.length ≤ 1048576) (hbk : bulkR l ≤ 268435400) : Ok Tryz.prog 28 [tRL l, .con (.int .i64 v)] true (.con (.bool (wholeB l v))) := by
  refine ⟨⟨_, Tryz.func28, rfl, rfl⟩, fun S w args hS hr => ?_⟩
  obtain ⟨hsz, hrd⟩ := hr
  obtain ⟨a0, a1, rfl⟩ : ∃ a0 a1, args = #[a0, a1] := by
    obtain ⟨L⟩ := args
    match L, hsz with
    | [a0, a1], _ => exact ⟨a0, a1, rfl⟩
  have h0 := hrd 0 _ a0 rfl rfl
  have h1 := hrd 1 _ a1 rfl rfl
  have h1 : a1 = .int .i64 v := by cases h1; rfl
  subst h1
  have h0' := h0
  obtain ⟨a, cap, esz, b, off, c, rfl, hlc, -⟩ := rdT_sl h0'
  have hlen : (l.map tRt).length = l.length := List.length_map ..
  rw [hlen] at hlc h0 ⊢
  refine (callsIn_wide.1 (whole_calls l v hv hv2 hl hbk S w a cap hlc hS h0)).mono fun e w' h => ?_
  obtain ⟨rfl, hb⟩ := h
  refine ⟨_, fun _ _ => none, rfl, hb, fun b o c h => ?_, RdT.con _ rfl⟩
  cases h
end Go.Ev
