import Derived.Test.YtekgeekghclfaaaGreatLa
set_option linter.all false
namespace Go.Ev
section
variable {P : Program} {g : Gh} {oh : OH} {w : World}
def mkv (agg : Bool) (cs : List Value) : Value := bif agg then .agg cs.toArray else cs.headD Go.undef
theorem tk_agg {t : TypeId} {d : TK} (h : tk P t = d) (h0 : 0 < d.size) (w : World) : (isAgg t).run P w = .ok d.isAgg w ∧ (d.isAgg = true → (sizeOf t).run P w = .ok d.size w) ∧ (d.isAgg = false → d.size = 1) := by
  cases d with
  | bool => simp [isAgg, run_underlying (tk_bool h), TK.isAgg, TK.size]
  | int k => simp [isAgg, run_underlying (tk_int h), TK.isAgg, TK.size]
  | str => simp [isAgg, run_underlying (tk_str h), TK.isAgg, TK.size]
  | ptr => obtain ⟨e, hu⟩ := tk_ptr h; simp [isAgg, run_underlying hu, TK.isAgg, TK.size]
  | sl e sz bt ag z => obtain ⟨i, zv, hu, _⟩ := tk_sl h; simp [isAgg, run_underlying hu, TK.isAgg, TK.size]
  | st fs z => obtain ⟨F, i, hu, hi, _, hs, _⟩ := tk_st h; simp [isAgg, run_underlying hu, TK.isAgg, TK.size, sizeOf, typeInfo, hi, hs]
  | map kk z => obtain ⟨q, e, i, hu, _⟩ := tk_map h; simp [isAgg, run_underlying hu, TK.isAgg, TK.size]
  | arr n el esz z => obtain ⟨i, hu, hi, _, hs, _⟩ := tk_arr h; simp [isAgg, run_underlying hu, TK.isAgg, TK.size, sizeOf, typeInfo, hi, hs]
  | other => simp [TK.size] at h0
theorem run_loadVar {t : TypeId} {d : TK} (h : tk P t = d) (h0 : 0 < d.size) (b off : Nat) (cs : List Value) (hl : cs.length = d.size)
    (hc : ∀ (j : Nat) (v : Value), cs[j]? = some v → w.cell? ⟨b, off + j, none⟩ = some v) : (loadVar t ⟨b, off, none⟩).run P w = .ok (mkv d.isAgg cs) w := by
  obtain ⟨h1, h2, h3⟩ := tk_agg h h0 w
  cases ha : d.isAgg with
  | true =>
    have hr := run_loadCells_list (P := P) w ⟨b, off, none⟩ cs (fun j v hv => by rw [Addr.add_lit]; exact hc j v hv)
    rw [hl] at hr
    simp [loadVar, h1, ha, h2 ha, hr, mkv]
  | false =>
    have h1' := h3 ha
    match cs, hl with
    | [c], _ =>
      have := hc 0 c rfl
      simp only [Nat.add_zero] at this
      simp [loadVar, h1, ha, this, mkv]
    | [], hl => simp at hl; omega
    | _ :: _ :: _, hl => simp at hl; omega
theorem ofCells_ok {ag : Bool} {vs : List V} {cs : List Value} (hl : vs.length = cs.length) (h1 : ag = false → cs.length = 1)
    (hr : ∀ (j : Nat) (v : V) (c : Value), vs[j]? = some v → cs[j]? = some c → RdV1 g oh v c ∧ c.oneCell' = true) : RdV g oh (V.ofCells ag vs) (mkv ag cs) := by
  cases ag with
  | true => exact ⟨cs.toArray, rfl, by simp [hl], fun j v c hv hc => hr j v c hv (by simpa using hc)⟩
  | false =>
    have hc1 := h1 rfl
    match vs, cs, hl, hr with
    | [v], [c], _, hr =>
      obtain ⟨h, h1⟩ := hr 0 v c rfl rfl
      simp only [V.ofCells, mkv, cond_false, List.headD_cons]
      cases v <;> first | exact h | exact h.elim
    | [], cs, hl, _ => simp at hl; omega
    | _ :: _ :: _, cs, hl, _ => simp at hl; omega
theorem ofT1_ok {f : Bool} {t : T} {v : Value} (h : RdT (g.sto f) t v) (h1 : v.oneCell' = true) : RdV1 g oh (V.ofT1 f t) v := by
  unfold V.ofT1
  split
  · cases h with | con _ h => exact ⟨rfl, h⟩
  · exact ⟨h, h1⟩
theorem ofA_ok {f : Bool} {t : T} {v : Value} (h : RdT (g.sto f) t v) (h1 : (∀ l, t ≠ .agg l) → v.oneCell' = true) : RdA g oh (V.ofA f t) v := by
  unfold V.ofA
  split
  · cases h with
    | agg l cs hl h1' hr =>
      refine ⟨cs, rfl, by simpa using hl, fun j u c hu hc => ?_⟩
      rw [List.getElem?_map] at hu
      obtain ⟨t', ht, rfl⟩ := Option.map_eq_some_iff.1 hu
      exact ⟨ofT1_ok (hr j t' c ht hc) (h1' j c hc), h1' j c hc⟩
  · rename_i hne
    have := ofT1_ok (g := g) (oh := oh) h (h1 (fun l e => hne l e))
    unfold V.ofT1 at this ⊢
    split at this <;> exact this
theorem one_of_rdT {S : Sto} {t : T} {v : Value} (h : RdT S t v) (h1 : ∀ l, t ≠ .agg l) (h2 : ∀ l, t ≠ .tup l) : v.oneCell' = true := by
  cases h with
  | con _ h => exact h
  | sl => rfl
  | ptr => rfl
  | agg l => exact absurd rfl (h1 l)
  | tup l => exact absurd rfl (h2 l)
theorem sload_ok {t : TypeId} {xv : V} {oh : OH} {k : Acc → Prop} (h : sload (tk P t) oh xv k) :
    ∃ pre v, k ⟨pre, [], [], v⟩ ∧ (∀ i ob, (i, ob) ∈ pre → oget oh i = some ob) ∧ ∀ (g : Gh) (oh' : OH) (w : World) (xx : Value), HR g oh' w → RdV g oh' xv xx →
      (∀ i ob, (i, ob) ∈ pre → oget oh' i = some ob) → ∃ r, (Instr.loadAt t xx).run P w = .ok r w ∧ RdV g oh' v r := by
  unfold sload at h
  split at h
  · rename_i v1 f l
    obtain ⟨h0, hle, hk⟩ := h
    refine ⟨[], _, hk, by simp, fun g oh w xx hr hrx _ => ?_⟩
    obtain ⟨hrx, _⟩ := hrx
    obtain ⟨b, off, c, hxe, hS, h1, hR⟩ := rdT_ptr hrx
    have hG : ∀ b o c, g.sto f b o = some c → w.cell? ⟨b, o, none⟩ = some c := by
      intro b o c h
      cases f
      · exact hr.hG b o c h
      · exact hr.hG b o c (hr.hF b o c h)
    refine ⟨mkv (tk P t).isAgg ((List.range (tk P t).size).map c), ?_, ?_⟩
    · rw [hxe]
      simp only [Instr.loadAt, Instr.sureAddr]
      show (loadVar t ⟨b, off, none⟩).run P w = _
      refine run_loadVar rfl h0 b off _ (by simp) fun j v hv => ?_
      rw [List.getElem?_map] at hv
      obtain ⟨j', hj', rfl⟩ := Option.map_eq_some_iff.1 hv
      have hlt : j < (tk P t).size := by have := List.getElem?_eq_some_iff.1 hj'; simpa using this.1
      obtain rfl : j = j' := by rw [List.getElem?_range hlt] at hj'; simpa using hj'
      exact hG _ _ _ (hS j (by omega))
    · refine ofCells_ok (by simp; omega) (fun ha => by simpa using (tk_agg (P := P) (t := t) rfl h0 w).2.2 ha) fun j v cc hv hc => ?_
      rw [List.getElem?_map] at hv hc
      obtain ⟨u, hu, rfl⟩ := Option.map_eq_some_iff.1 hv
      obtain ⟨j', hj', rfl⟩ := Option.map_eq_some_iff.1 hc
      have hlt : j < (tk P t).size := by have := List.getElem?_eq_some_iff.1 hj'; simpa using this.1
      obtain rfl : j = j' := by rw [List.getElem?_range hlt] at hj'; simpa using hj'
      have hu' : l[j]? = some u := by rw [List.getElem?_take_of_lt hlt] at hu; exact hu
      exact ⟨ofT1_ok (hR j u hu') (h1 j (by omega)), h1 j (by omega)⟩
  · rename_i v1 id ver i foff
    obtain ⟨ob, hob, hv, hl, h⟩ := use_elim h
    obtain ⟨el, hel, h0, hle, hk⟩ := h
    · skip
      refine ⟨_, _, hk, by simpa using hob, fun g oh w xx hr hrx hpre => ?_⟩
      have hob' := hpre id ob (by simp)
      obtain ⟨_, ob', hob2, _, hat⟩ := hrx
      rw [hob'] at hob2
      obtain rfl : ob = ob' := by simpa using hob2
      obtain ⟨b, hb, hxe⟩ := hat hv hl
      obtain ⟨arr, ty, hh, _, hbs, _, _, hels⟩ := (hr.obj id ob hob' hl).2 b hb
      obtain ⟨hes, hec⟩ := hels i el hel
      have hcell : ∀ j, w.cell? ⟨b, j, none⟩ = arr[j]? := fun j => cell_of_row w b j arr ty _ hh
      refine ⟨mkv (tk P t).isAgg ((List.range (tk P t).size).map fun j => arr.getD (i * ob.sz + foff + j) Go.undef), ?_, ?_⟩
      · rw [hxe]
        simp only [Instr.loadAt, Instr.sureAddr]
        show (loadVar t ⟨b, i * ob.sz + foff, none⟩).run P w = _
        refine run_loadVar rfl h0 b _ _ (by simp) fun j v hv => ?_
        rw [List.getElem?_map] at hv
        obtain ⟨j', hj', rfl⟩ := Option.map_eq_some_iff.1 hv
        have hlt : j < (tk P t).size := by have := List.getElem?_eq_some_iff.1 hj'; simpa using this.1
        obtain rfl : j = j' := by rw [List.getElem?_range hlt] at hj'; simpa using hj'
        obtain ⟨c, hc, _⟩ := hec (foff + j) (el.cells[foff + j]'(by omega)) (by simp)
        rw [hcell, ← Array.getElem?_toList]
        have : arr[i * ob.sz + foff + j]? = some c := by rw [show i * ob.sz + foff + j = i * ob.sz + (foff + j) by omega]; exact hc
        simp [Array.getD_eq_getD_getElem?, this]
      · refine ofCells_ok (by simp; omega) (fun ha => by simpa using (tk_agg (P := P) (t := t) rfl h0 w).2.2 ha) fun j v cc hv hc => ?_
        rw [List.getElem?_map] at hc
        obtain ⟨j', hj', rfl⟩ := Option.map_eq_some_iff.1 hc
        have hlt : j < (tk P t).size := by have := List.getElem?_eq_some_iff.1 hj'; simpa using this.1
        obtain rfl : j = j' := by rw [List.getElem?_range hlt] at hj'; simpa using hj'
        have hu' : el.cells[foff + j]? = some v := by rw [List.getElem?_take_of_lt hlt, List.getElem?_drop] at hv; exact hv
        obtain ⟨c, hc, hc1, hc2⟩ := hec (foff + j) v hu'
        have : arr[i * ob.sz + foff + j]? = some c := by rw [show i * ob.sz + foff + j = i * ob.sz + (foff + j) by omega]; exact hc
        simp only [Array.getD_eq_getD_getElem?, this, Option.getD_some]
        exact ⟨hc2, hc1⟩
  · exact h.elim
theorem step_load {o : Oper} {t : TypeId} {x : Operand} {e : Operand → V} {oh : OH} {k : Acc → Prop} (ho : o.op = .load t x)
    (h : sload (tk P t) oh (e x) k) : Some P o e oh k := by
  obtain ⟨pre, v, hk, hp, hall⟩ := sload_ok h
  refine ⟨_, opd_ok (fun g oh w ρ hr hρ hpre => ?_), hp, by simp, hk⟩
  obtain ⟨r, h1, h2⟩ := hall g oh w (ρ x) hr (hρ x (by simp [ho, Op.operands])) hpre
  refine ⟨r, ?_, h2⟩
  simp only [execOp, ho]
  exact run_val _ w w _ h1
theorem splice_get {α : Type} {l xs : List α} {off : Nat} (h : off + xs.length ≤ l.length) (j : Nat) :
    (splice l off xs)[j]? = if off ≤ j ∧ j < off + xs.length then xs[j - off]? else l[j]? := by
  unfold splice
  by_cases h1 : j < off
  · rw [List.append_assoc, List.getElem?_append_left (by simp; omega), List.getElem?_take_of_lt h1, if_neg (by omega)]
  · by_cases h2 : j < off + xs.length
    · rw [if_pos (by omega), List.getElem?_append_left (by simp; omega), List.getElem?_append_right (by simp; omega)]
      congr 1; simp; omega
    · rw [if_neg (by omega), List.getElem?_append_right (by simp; omega), List.getElem?_drop]
      congr 1; simp; omega
theorem splice_length {α : Type} {l xs : List α} {off : Nat} (h : off + xs.length ≤ l.length) : (splice l off xs).length = l.length := by
  unfold splice; simp; omega
theorem put_cells {e : V} {off : Nat} {xs : List V} (h : off + xs.length ≤ e.cells.length) (h0 : 0 < xs.length) (hx : ∀ x ∈ xs, ∀ l, x ≠ .agg l) :
    (e.put off xs).cells = splice e.cells off xs := by
  have one : e.cells = [e] → (V.ofCells false xs).cells = splice e.cells off xs := by
    intro he
    rw [he] at h ⊢
    simp at h
    match xs, h0, hx with
    | [y], _, hx =>
      obtain rfl : off = 0 := by simp at h; omega
      have := hx y (by simp)
      cases y <;> first | rfl | exact absurd rfl (this _)
    | _ :: _ :: _, _, _ => simp at h; omega
  cases e with
  | agg l => rfl
  | _ => exact one rfl
theorem cells_not_agg {v : V} {x : Value} (h : RdV g oh v x) (hs : v.solid = true) : ∀ y ∈ v.cells, ∀ l, y ≠ .agg l := by
  intro y hy l e
  obtain ⟨j, hj, he⟩ := List.mem_iff_getElem.1 hy
  obtain ⟨c, _, hc, _⟩ := (rd_cells h hs).2 j y (by simp [hj, he])
  rw [e] at hc; exact hc
theorem step_store {o : Oper} {t : TypeId} {x v : Operand} {e : Operand → V} {oh : OH} {k : Acc → Prop} (ho : o.op = .store t x v)
    (h : sstore (tk P t) oh (e x) (e v) k) : Some P o e oh k := by
  unfold sstore at h
  split at h
  · rename_i v1 id ver i foff hx
    obtain ⟨ob, hob, hv, hl, h⟩ := use_elim h
    obtain ⟨el, hel, hsol, h0, hvl, hle, hk⟩ := h
    · skip
      refine ⟨_, ?_, by simpa using hob, by simp, hk⟩
      intro g oh' w ρ hr hρ hpre _
      have hob' := hpre id ob (by simp)
      have hrx := hρ x (by simp [ho, Op.operands])
      have hrv := hρ v (by simp [ho, Op.operands])
      rw [hx] at hrx
      obtain ⟨_, ob', hob2, _, hat⟩ := hrx
      rw [hob'] at hob2
      obtain rfl : ob = ob' := by simpa using hob2
      obtain ⟨b, hb, hxe⟩ := hat hv hl
      obtain ⟨arr, ty, hh, _, hbs, hbl, hbm, hels⟩ := (hr.obj id ob hob' hl).2 b hb
      obtain ⟨hes, hec⟩ := hels i el hel
      obtain ⟨hcs, hcc⟩ := rd_cells hrv hsol
      have hil : i < ob.el.length := (List.getElem?_eq_some_iff.1 hel).1
      have hend : i * ob.sz + ob.sz ≤ arr.size := by
        rw [hbs, ← Nat.succ_mul]; exact Nat.mul_le_mul_right _ (by omega)
      have hlen : (ρ v).cells.toList.length = (e v).cells.length := by simpa using hcs
      have hput := put_cells (e := el) (off := foff) (xs := (e v).cells) (by omega) (by omega) (cells_not_agg hrv hsol)
      have hrun := run_storeCells_at P b (i * ob.sz + foff) ty (ρ v).cells.toList 0 arr w hh (by rw [hlen]; omega) (all_one hrv hsol)
      have hcsE : arr.toList.take (i * ob.sz + foff + 0) ++ (ρ v).cells.toList ++ arr.toList.drop (i * ob.sz + foff + 0 + (ρ v).cells.toList.length) = splice arr.toList (i * ob.sz + foff) (ρ v).cells.toList := by
        simp [splice]
      rw [hcsE] at hrun
      have hsp : i * ob.sz + foff + (ρ v).cells.toList.length ≤ arr.toList.length := by rw [hlen]; simp; omega
      have hw := hr.write id b ob ⟨ob.sz, ob.el.set i (el.put foff (e v).cells), ob.ver, ob.live⟩ arr (splice arr.toList (i * ob.sz + foff) (ρ v).cells.toList).toArray ty hob' hl hb hh hl rfl (Nat.le_refl _) (by simp) ?_
      · obtain ⟨w1, w2, w3⟩ := hw
        have hex : (execOp ρ o).run P w = .ok .skip (w.setRow b (splice arr.toList (i * ob.sz + foff) (ρ v).cells.toList).toArray) := by
          have hszt : (sizeOf t).run P w = .ok (ρ v).cells.size w := by
            rw [hcs, hvl]
            obtain ⟨_, h2, h3⟩ := tk_agg (P := P) (t := t) rfl h0 w
            cases ha : (tk P t).isAgg with
            | true => exact h2 ha
            | false =>
              rw [h3 ha]
              exact tk_one rfl (fun fs z e => by rw [e] at ha; simp [TK.isAgg] at ha) (fun e => by rw [e] at h0; simp [TK.size] at h0) w (fun n e z y e2 => by rw [e2] at ha; simp [TK.isAgg] at ha)
          simp only [execOp, ho, hxe, Instr.storeAt, Instr.sureAddr, storeVar]
          simp [hszt, hrun]
        rw [hex]
        exact ⟨g, w1, trivial, w2, w3⟩
      · refine ⟨?_, by simpa using hbl, hbm, fun k' e' he' => ?_⟩
        · simp only [List.size_toArray, splice_length hsp]; simpa using hbs
        · have hget : ∀ p, (splice arr.toList (i * ob.sz + foff) (ρ v).cells.toList).toArray[p]? = if i * ob.sz + foff ≤ p ∧ p < i * ob.sz + foff + (e v).cells.length then (ρ v).cells[p - (i * ob.sz + foff)]? else arr[p]? := by
            intro p
            rw [List.getElem?_toArray, splice_get hsp, hlen]; simp
          by_cases hk : k' = i
          · subst hk
            obtain rfl : el.put foff (e v).cells = e' := by
              have he2 : (ob.el.set k' (el.put foff (e v).cells))[k']? = some e' := he'
              rw [List.getElem?_set_self hil] at he2; simpa using he2
            refine ⟨by rw [hput, splice_length (by omega)]; exact hes, fun j u hj => ?_⟩
            rw [hput, splice_get (by omega)] at hj
            rw [hget]
            by_cases hin : foff ≤ j ∧ j < foff + (e v).cells.length
            · rw [if_pos hin] at hj
              rw [if_pos (by show k' * ob.sz + foff ≤ k' * ob.sz + j ∧ k' * ob.sz + j < _; omega)]
              obtain ⟨c, h1, h2, h3⟩ := hcc _ u hj
              refine ⟨c, ?_, h3, h2⟩
              show (ρ v).cells[k' * ob.sz + j - (k' * ob.sz + foff)]? = some c
              rw [show k' * ob.sz + j - (k' * ob.sz + foff) = j - foff by omega]; exact h1
            · rw [if_neg hin] at hj
              rw [if_neg (by show ¬ (k' * ob.sz + foff ≤ k' * ob.sz + j ∧ k' * ob.sz + j < _); omega)]
              exact hec j u hj
          · have he2 : (ob.el.set i (el.put foff (e v).cells))[k']? = some e' := he'
            rw [List.getElem?_set_ne (by omega)] at he2
            obtain ⟨q1, q2⟩ := hels k' e' he2
            refine ⟨q1, fun j u hj => ?_⟩
            rw [hget, if_neg]
            · exact q2 j u hj
            · have hjl : j < ob.sz := by rw [← q1]; exact (List.getElem?_eq_some_iff.1 hj).1
              rintro ⟨c1, c2⟩
              have c1 : i * ob.sz + foff ≤ k' * ob.sz + j := c1
              have c2 : k' * ob.sz + j < i * ob.sz + foff + (e v).cells.length := c2
              rcases Nat.lt_or_gt_of_ne hk with hlt | hgt
              · have : (k' + 1) * ob.sz ≤ i * ob.sz := Nat.mul_le_mul_right _ hlt
                rw [Nat.succ_mul] at this; omega
              · have : (i + 1) * ob.sz ≤ k' * ob.sz := Nat.mul_le_mul_right _ hgt
                rw [Nat.succ_mul] at this; omega
  · exact h.elim
end
end Go.Ev

set_option linter.all false
namespace Go.Ev
section
variable {P : Program} {g : Gh} {oh : OH} {w : World}
theorem fold_set (off : Nat) : ∀ (l : List Value) (k : Nat) (cs : Array Value), off + k + l.length ≤ cs.size →
    ((l.zipIdx k).foldl (fun cs (p : Value × Nat) => cs.setIfInBounds (off + p.2) p.1) cs).toList = splice cs.toList (off + k) l
  | [], k, cs, _ => by simp [splice]
  | v :: l, k, cs, h => by
    simp only [List.length_cons] at h
    simp only [List.zipIdx_cons, List.foldl_cons]
    rw [fold_set off l (k + 1) _ (by simp; omega)]
    apply List.ext_getElem?
    intro j
    rw [splice_get (by simp; omega), splice_get (by simp; omega)]
    simp only [Array.toList_setIfInBounds, List.getElem?_set, List.length_cons, Array.length_toList]
    by_cases h1 : j = off + k
    · subst h1
      rw [if_neg (by omega), if_pos rfl, if_pos (by omega), if_pos (by omega)]
      simp
    · by_cases h2 : off + (k + 1) ≤ j ∧ j < off + (k + 1) + l.length
      · rw [if_pos h2, if_pos (by omega)]
        rw [show j - (off + k) = (j - (off + (k + 1))) + 1 by omega]; simp
      · rw [if_neg h2, if_neg (by omega), if_neg (by omega)]
def Along (g : Gh) (oh : OH) (vs : List V) (cs : Array Value) : Prop :=
  cs.size = vs.length ∧ ∀ (j : Nat) (v : V) (c : Value), vs[j]? = some v → cs[j]? = some c → RdV1 g oh v c ∧ c.oneCell' = true
theorem along_const (z : List Value) (h : ∀ c ∈ z, c.oneCell' = true) : Along g oh (z.map V.ofConst1) z.toArray := by
  refine ⟨by simp, fun j v c hv hc => ?_⟩
  rw [List.getElem?_map] at hv
  obtain ⟨c', hc', rfl⟩ := Option.map_eq_some_iff.1 hv
  have : c' = c := by rw [List.getElem?_toArray, hc'] at hc; simpa using hc
  subst this
  have h1 := h c' (List.mem_of_getElem? hc')
  exact ⟨ofConst1_ok (by rw [oneC_eq]; exact h1), h1⟩
theorem along_splice {vs : List V} {cs : Array Value} (h : Along g oh vs cs) {v : V} {x : Value} (hr : RdV g oh v x) (hs : v.solid = true) {off : Nat} (hle : off + v.cells.length ≤ vs.length) :
    Along g oh (splice vs off v.cells) (splice cs.toList off x.cells.toList).toArray := by
  obtain ⟨h1, h2⟩ := rd_cells hr hs
  have hxl : x.cells.toList.length = v.cells.length := by simpa using h1
  have hle' : off + x.cells.toList.length ≤ cs.toList.length := by rw [hxl]; simpa [h.1] using hle
  refine ⟨by simp only [List.size_toArray, splice_length hle', splice_length hle]; simpa using h.1, fun j u c hu hc => ?_⟩
  rw [List.getElem?_toArray, splice_get hle', hxl] at hc
  rw [splice_get hle] at hu
  by_cases hin : off ≤ j ∧ j < off + v.cells.length
  · rw [if_pos hin] at hu hc
    obtain ⟨c', e1, e2, e3⟩ := h2 _ u hu
    rw [Array.getElem?_toList, e1] at hc
    obtain rfl : c' = c := by simpa using hc
    exact ⟨e2, e3⟩
  · rw [if_neg hin] at hu hc
    exact h.2 j u c hu (by simpa using hc)
theorem sfill_ok {fs : List (Nat × Nat)} {K : List V → Prop} (e : Operand → V) : ∀ (ps : List (Nat × Operand)) (vs : List V), sfill fs vs (ps.map fun p => (p.1, e p.2)) K →
    ∃ us, K us ∧ ∀ (ρ : Operand → Value) (g : Gh) (oh : OH) (cs : Array Value), Along g oh vs cs → (∀ p ∈ ps, RdV g oh (e p.2) (ρ p.2)) →
      ∃ cs', Instr.fill (fs.toArray[·]?) cs (ps.map fun p => (p.1, ρ p.2)) = some cs' ∧ Along g oh us cs'
  | [], vs, h => ⟨vs, h, fun ρ g oh cs ha _ => ⟨cs, rfl, ha⟩⟩
  | p :: ps, vs, h => by
    simp only [List.map_cons, sfill] at h
    split at h
    · rename_i off sz hf
      obtain ⟨hs, hl, hle, h⟩ := h
      obtain ⟨us, hK, hrest⟩ := sfill_ok e ps _ h
      refine ⟨us, hK, fun ρ g oh cs ha hp => ?_⟩
      have hr := hp p (by simp)
      obtain ⟨h1, h2⟩ := rd_cells hr hs
      obtain ⟨cs', hc', ha'⟩ := hrest ρ g oh _ (along_splice ha hr hs (off := off) (by omega)) (fun q hq => hp q (by simp [hq]))
      refine ⟨cs', ?_, ha'⟩
      have hf' : fs.toArray[p.1]? = some (off, sz) := by simpa using hf
      simp only [List.map_cons, Instr.fill, hf']
      rw [if_neg (by simp [h1, hl, ha.1]; omega)]
      have hfold : (ρ p.2).cells.zipIdx.foldl (fun (cs : Array Value) (x : Value × Nat) => cs.setIfInBounds (off + x.2) x.1) cs = (splice cs.toList off (ρ p.2).cells.toList).toArray := by
        apply Array.ext'
        rw [← Array.foldl_toList, Array.toList_zipIdx, fold_set off _ 0 cs (by simp [h1, ha.1]; omega)]
        simp
      rw [← hc', ← hfold]
    · exact h.elim
theorem built_of {t : TypeId} {fs : List (Nat × Nat)} {z : List Value} (h : tk P t = .st fs z) (parts : List (Nat × Value)) : P.built t parts = Instr.fill (fs.toArray[·]?) z.toArray parts := by
  obtain ⟨F, i, hu, hi, hz, _, _, rfl, hall⟩ := tk_st h
  have hm : F.toList.mapM (fun f => (P.info? f.type).map fun i => (f.offset, i.size)) = some (F.toList.map fun f => (f.offset, P.cellsOf f.type)) := by
    have : ∀ l : List Field, (∀ f ∈ l, (P.info? f.type).isSome = true) → l.mapM (fun f => (P.info? f.type).map fun i => (f.offset, i.size)) = some (l.map fun f => (f.offset, P.cellsOf f.type)) := by
      intro l
      induction l with
      | nil => simp
      | cons f l ih =>
        intro hl
        obtain ⟨i, hi⟩ := Option.isSome_iff_exists.1 (hl f (by simp))
        simp [List.mapM_cons, hi, ih (fun q hq => hl q (by simp [hq])), Program.cellsOf]
    exact this _ hall
  simp [Program.built, hi, hu, hz, hm, Value.cells]
theorem fill_more {pl pl' : Nat → Option (Nat × Nat)} (h : ∀ i r, pl i = some r → pl' i = some r) : ∀ (ps : List (Nat × Value)) (cs out : Array Value), Instr.fill pl cs ps = some out → Instr.fill pl' cs ps = some out
  | [], cs, out, hf => hf
  | (i, v) :: r, cs, out, hf => by
    simp only [Instr.fill] at hf ⊢
    cases hp : pl i with
    | none => simp [hp] at hf
    | some q =>
      obtain ⟨off, sz⟩ := q
      simp only [hp] at hf
      simp only [h i _ hp]
      split at hf
      · cases hf
      · rename_i hc
        rw [if_neg hc]; exact fill_more h r _ out hf
theorem built_arr {t : TypeId} {n el esz : Nat} {z : List Value} (h : tk P t = .arr n el esz z) (parts : List (Nat × Value)) : P.built t parts = Instr.fill (fun i => some (i * esz, esz)) z.toArray parts := by
  obtain ⟨i, hu, hi, hz, _, _, rfl, hall⟩ := tk_arr h
  obtain ⟨j, hj⟩ := Option.isSome_iff_exists.1 hall
  simp [Program.built, hi, hu, hz, hj, Value.cells, Program.cellsOf]
theorem step_build {o : Oper} {t : TypeId} {ps : Array (Nat × Operand)} {e : Operand → V} {oh : OH} {k : Acc → Prop} (ho : o.op = .build t ps)
    (h : sbuild (tk P t) (ps.toList.map fun p => (p.1, e p.2)) k) : Some P o e oh k := by
  unfold sbuild at h
  split at h
  · rename_i fs z hd
    obtain ⟨us, hK, hall⟩ := sfill_ok (fs := fs) e ps.toList (z.map V.ofConst1) h
    refine some_free hK fun g oh w ρ hr hρ => ?_
    obtain ⟨_, _, _, _, _, _, hz1, _⟩ := tk_st hd
    obtain ⟨cs', hc, ha⟩ := hall ρ g oh z.toArray (along_const z hz1) (fun p hp => hρ p.2 (by
      simp only [ho, Op.operands]
      exact List.mem_toArray.2 (List.mem_map.2 ⟨p, hp, rfl⟩)))
    refine ⟨.agg cs', ?_, cs', rfl, ha.1, ha.2⟩
    simp only [execOp, ho]
    refine run_val _ w w _ (run_build w t _ cs' ?_)
    rw [built_of hd, ← hc]
    simp
  · rename_i n el esz z hd
    obtain ⟨us, hK, hall⟩ := sfill_ok (fs := (List.range n).map fun j => (j * esz, esz)) e ps.toList (z.map V.ofConst1) h
    refine some_free hK fun g oh w ρ hr hρ => ?_
    obtain ⟨_, _, _, _, _, hz1, _⟩ := tk_arr hd
    obtain ⟨cs', hc, ha⟩ := hall ρ g oh z.toArray (along_const z hz1) (fun p hp => hρ p.2 (by
      simp only [ho, Op.operands]
      exact List.mem_toArray.2 (List.mem_map.2 ⟨p, hp, rfl⟩)))
    refine ⟨.agg cs', ?_, cs', rfl, ha.1, ha.2⟩
    simp only [execOp, ho]
    refine run_val _ w w _ (run_build w t _ cs' ?_)
    rw [built_arr hd]
    refine fill_more (pl := (((List.range n).map fun j => (j * esz, esz)).toArray[·]?)) (fun i r hir => ?_) _ _ _ ?_
    · have hi : i < n := by
        by_cases h : i < n
        · exact h
        · simp [h] at hir
      simpa [hi] using hir
    · simpa using hc
  · exact h.elim
theorem step_len {o : Oper} {c : Call} {t : TypeId} {x : Operand} {e : Operand → V} {oh : OH} {k : Acc → Prop} (ho : o.op = .call c) (hc : c.callee = .builtin .len)
    (ha : c.args.toList = [x]) (ht : c.argTypes.toList = [t]) (h : slen (tk P t) oh (e x) k) : Some P o e oh k := by
  have ha' : c.args = #[x] := by rw [← Array.toArray_toList (xs := c.args), ha]
  have ht' : c.argTypes = #[t] := by rw [← Array.toArray_toList (xs := c.argTypes), ht]
  have hmem : x ∈ o.op.operands := by simp [ho, Op.operands, Call.operands, hc, ha']
  have run : ∀ (ρ : Operand → Value) (w : World) (v : Value), (Builtin.len_ #[t] o.type #[ρ x]).run P w = .ok v w → (execOp ρ o).run P w = .ok (.value v) w := by
    intro ρ w v hv
    simp [execOp, ho, resolve, hc, ha', ht', invoke, builtin, hv]
  unfold slen at h
  split at h
  · rename_i d1 v1 e1 sz by1 ag1 z1 f l hd hx
    obtain ⟨inf, zv, hu, _⟩ := tk_sl hd
    refine some_free h fun g oh w ρ hr hρ => ⟨_, run ρ w _ ?_, con_of rfl⟩
    have hrx := hρ x hmem; rw [hx] at hrx
    obtain ⟨a, cap, esz, b, off, c', hxe, _⟩ := rdT_sl hrx.1
    simp [Builtin.len_, run_underlying hu, hxe, goInt]
  · rename_i d1 v1 e1 sz by1 ag1 z1 id ver off len hd hx
    obtain ⟨ob, hob, hv, hl, hk⟩ := use_elim h
    obtain ⟨inf, zv, hu, _⟩ := tk_sl hd
    refine some_use hob hk fun g oh w ρ hr hρ hob' => ⟨_, run ρ w _ ?_, con_of rfl⟩
    have hrx := hρ x hmem; rw [hx] at hrx
    obtain ⟨_, ob', hob2, _, hat⟩ := hrx
    rw [hob'] at hob2
    obtain rfl : ob = ob' := by simpa using hob2
    obtain ⟨a, cap, hxe, _⟩ := hat hv hl
    simp [Builtin.len_, run_underlying hu, hxe, goInt]
  · rename_i d1 v1 e1 sz by1 ag1 z1 hd hx
    obtain ⟨inf, zv, hu, _⟩ := tk_sl hd
    refine some_free h fun g oh w ρ hr hρ => ⟨_, run ρ w _ ?_, con_of rfl⟩
    have hrx := hρ x hmem; rw [hx] at hrx
    obtain ⟨a, hxe⟩ := hrx
    simp [Builtin.len_, run_underlying hu, hxe, goInt]
  · rename_i d1 v1 s hd hx
    refine some_free h fun g oh w ρ hr hρ => ⟨_, run ρ w _ ?_, con_of rfl⟩
    have hrx := hρ x hmem; rw [hx] at hrx
    obtain ⟨hrx, _⟩ := hrx
    simp [Builtin.len_, run_underlying (tk_str hd), hrx, goInt]
  · exact h.elim
theorem step_pick {o : Oper} {c a b : Operand} {e : Operand → V} {oh : OH} {k : Acc → Prop} (ho : o.op = .pick c a b)
    (h : (match e c with | .con (.bool t) => (match t with | true => free k (e a) | false => free k (e b)) | _ => False)) : Some P o e oh k := by
  split at h
  · rename_i t hc
    split at h
    · refine some_free h fun g oh w ρ hr hρ => ⟨ρ a, ?_, hρ a (by simp [ho, Op.operands])⟩
      have := hρ c (by simp [ho, Op.operands]); rw [hc] at this
      simp [execOp, ho, this.1, asBool]
    · refine some_free h fun g oh w ρ hr hρ => ⟨ρ b, ?_, hρ b (by simp [ho, Op.operands])⟩
      have := hρ c (by simp [ho, Op.operands]); rw [hc] at this
      simp [execOp, ho, this.1, asBool]
  · exact h.elim
theorem sbd_elim {x : Option V} {a : Int} {K : Int → Prop} (h : sbd x a K) : (x = none ∧ K a) ∨ ∃ q n, x = some (.con (.int q n)) ∧ K n := by
  unfold sbd at h
  split at h
  · exact .inl ⟨rfl, h⟩
  · exact .inr ⟨_, _, rfl, h⟩
  · exact h.elim
theorem bound_run (x : Option Operand) (e : Operand → V) {a : Int} {K : Int → Prop} (h : sbd (x.map e) a K) :
    ∃ n, K n ∧ ∀ (g : Gh) (oh : OH) (ρ : Operand → Value), (∀ y, x = some y → RdV g oh (e y) (ρ y)) → (x = none ∧ n = a) ∨ ∃ y q, x = some y ∧ ρ y = .int q n := by
  rcases sbd_elim h with ⟨hx, hk⟩ | ⟨q, n, hx, hk⟩
  · exact ⟨a, hk, fun g oh ρ _ => .inl ⟨by simpa using hx, rfl⟩⟩
  · cases x with
    | none => simp at hx
    | some y =>
      refine ⟨n, hk, fun g oh ρ hr => .inr ⟨y, q, rfl, ?_⟩⟩
      have := hr y rfl
      have hy : e y = .con (.int q n) := by simpa using hx
      rw [hy] at this
      exact this.1
theorem run_bound (k : IntKind) (i : Int) (y : Nat) (code : BoundsCode) (h0 : 0 ≤ i) (h1 : i ≤ y) : (Instr.sliceBound (.int k i) y code).run P w = .ok i.toNat w := by
  simp [Instr.sliceBound, asIntOf, h0, h1]
theorem slice_run {lo hi : Option Operand} {ρ : Operand → Value} (isS : Bool) (len cap : Nat) (hlc : len ≤ cap) (a b : Int) (h0 : 0 ≤ a) (hab : a ≤ b) (hb : b ≤ len)
    (hlo : (lo = none ∧ a = 0) ∨ ∃ y q, lo = some y ∧ ρ y = .int q a) (hhi : (hi = none ∧ b = len) ∨ ∃ y q, hi = some y ∧ ρ y = .int q b) :
    (Instr.sliceBounds isS len cap (lo.map ρ) (hi.map ρ) none).run P w = .ok (a.toNat, b.toNat, cap) w := by
  rcases hlo with ⟨rfl, rfl⟩ | ⟨y, q, rfl, hy⟩ <;> rcases hhi with ⟨rfl, rfl⟩ | ⟨y', q', rfl, hy'⟩
  · simp [Instr.sliceBounds]
  · simp only [Instr.sliceBounds, Option.map_none, Option.map_some, hy']
    rw [Sem.run_bind]; simp only [Sem.run_pure, Result.andThen_ok]
    rw [Sem.run_bind, run_bound _ _ _ _ (by omega) (by omega)]
    simp
  · simp only [Instr.sliceBounds, Option.map_none, Option.map_some, hy]
    rw [Sem.run_bind]; simp only [Sem.run_pure, Result.andThen_ok]
    rw [Sem.run_bind]; simp only [Sem.run_pure, Result.andThen_ok]
    rw [Sem.run_bind, run_bound _ _ _ _ (by omega) (by omega)]
    simp
  · simp only [Instr.sliceBounds, Option.map_some, hy, hy']
    rw [Sem.run_bind]; simp only [Sem.run_pure, Result.andThen_ok]
    rw [Sem.run_bind, run_bound _ _ _ _ (by omega) (by omega)]
    simp only [Result.andThen_ok]
    rw [Sem.run_bind, run_bound _ _ _ _ (by omega) (by omega)]
    simp
end
end Go.Ev

set_option linter.all false
namespace Go.Ev
section
variable {P : Program} {g : Gh} {oh : OH} {w : World}
theorem rdT_drop {S : Sto} {l : List T} {b off esz : Nat} {c : Nat → Nat → Value} (a k : Nat)
    (hz : ∀ (i : Nat) (t : T), l[i]? = some t → t.cells.length = esz)
    (hs : ∀ (i : Nat) (t : T) (j : Nat), l[i]? = some t → j < t.cells.length → S b (off + i * esz + j) = some (c i j))
    (h1 : ∀ (i : Nat) (t : T) (j : Nat), l[i]? = some t → j < t.cells.length → (c i j).oneCell' = true)
    (hr : ∀ (i : Nat) (t : T) (j : Nat) (u : T), l[i]? = some t → t.cells[j]? = some u → RdT S u (c i j))
    (ad : Option Addr) (cap : Nat) (hc : ((l.drop a).take k).length ≤ cap) (hm : cap ≤ maxLen) (ha : (l.drop a).take k ≠ [] → ad = some ⟨b, off + a * esz, none⟩) :
    RdT S (.sl ((l.drop a).take k)) (.slice ad ((l.drop a).take k).length cap) := by
  have key : ∀ (i : Nat) (t : T), ((l.drop a).take k)[i]? = some t → l[a + i]? = some t := by
    intro i t h
    have hi : i < k := by
      have := (List.getElem?_eq_some_iff.1 h).1
      simp at this; omega
    rw [List.getElem?_take_of_lt hi, List.getElem?_drop] at h
    exact h
  refine .sl _ ad cap esz b (off + a * esz) (fun i j => c (a + i) j) hc hm ha (fun i t h => hz _ _ (key i t h)) (fun i t j h hj => ?_) (fun i t j h hj => h1 _ _ _ (key i t h) hj) (fun i t j u h hu => hr _ _ _ _ (key i t h) hu)
  have := hs _ _ _ (key i t h) hj
  rw [← this]; congr 1; rw [Nat.add_mul]; omega
theorem step_slice {o : Oper} {t : TypeId} {x : Operand} {lo hi mx : Option Operand} {e : Operand → V} {oh : OH} {k : Acc → Prop} (ho : o.op = .slice t x lo hi mx)
    (h : sslice (tk P t) oh (e x) (lo.map e) (hi.map e) (mx.map e) k) : Some P o e oh k := by
  have hmx : x ∈ o.op.operands := by simp [ho, Op.operands]
  have hml : ∀ y, lo = some y → y ∈ o.op.operands := by intro y hy; simp [ho, Op.operands, hy]
  have hmh : ∀ y, hi = some y → y ∈ o.op.operands := by intro y hy; simp [ho, Op.operands, hy]
  have hmm : ∀ y, mx = some y → y ∈ o.op.operands := by intro y hy; simp [ho, Op.operands, hy]
  unfold sslice at h
  split at h
  · -- three bounds, all nought
    rename_i m hm'
    split at h
    · rename_i d1 v1 w1 e1 sz by1 ag1 z1 f l hh hd hx hhi
      obtain ⟨inf, zv, hu, hinf, _⟩ := tk_sl hd
      obtain ⟨a, h, hA⟩ := bound_run lo e h
      have h2 : sbd (hi.map e) 0 fun b => sbd (mx.map e) 0 fun c => a = 0 ∧ b = 0 ∧ c = 0 ∧ free k .emp := by rw [hhi, hm']; exact h
      obtain ⟨b, h, hB⟩ := bound_run hi e h2
      obtain ⟨c, ⟨rfl, rfl, rfl, hk⟩, hC⟩ := bound_run mx e h
      refine some_free hk fun g oh w ρ hr hρ => ?_
      have hrx := hρ x hmx; rw [hx] at hrx
      obtain ⟨ad, cap, esz, b, off, c', hxe, _⟩ := rdT_sl hrx.1
      have hcc : ∃ y q, mx = some y ∧ ρ y = .int q 0 := by
        rcases hC g oh ρ (fun y hy => hρ y (hmm y hy)) with ⟨hn, _⟩ | h
        · simp [hn] at hm'
        · exact h
      have hbb : ∃ y q, hi = some y ∧ ρ y = .int q 0 := by
        rcases hB g oh ρ (fun y hy => hρ y (hmh y hy)) with ⟨hn, _⟩ | h
        · simp [hn] at hhi
        · exact h
      obtain ⟨y, q, rfl, hy⟩ := hcc
      obtain ⟨y', q', rfl, hy'⟩ := hbb
      have b1 : ∀ (n : Nat) (code : BoundsCode), (Instr.sliceBound (.int q 0) n code).run P w = .ok 0 w := fun n code => run_bound (P := P) (w := w) q 0 n code (by omega) (by omega)
      have b2 : ∀ (n : Nat) (code : BoundsCode), (Instr.sliceBound (.int q' 0) n code).run P w = .ok 0 w := fun n code => run_bound (P := P) (w := w) q' 0 n code (by omega) (by omega)
      have hrun : (Instr.sliceBounds true l.length cap (lo.map ρ) (some (ρ y')) (some (ρ y))).run P w = .ok (0, 0, 0) w := by
        rcases hA g oh ρ (fun y hy => hρ y (hml y hy)) with ⟨rfl, _⟩ | ⟨y2, q2, rfl, hy2⟩
        · simp [Instr.sliceBounds, hy, hy', b1, b2]
        · have b3 : ∀ (n : Nat) (code : BoundsCode), (Instr.sliceBound (.int q2 0) n code).run P w = .ok 0 w := fun n code => run_bound (P := P) (w := w) q2 0 n code (by omega) (by omega)
          simp [Instr.sliceBounds, hy, hy', hy2, b1, b2, b3]
      refine ⟨.slice ad 0 0, ?_, ad, rfl⟩
      simp only [execOp, ho]
      refine run_val _ w w _ ?_
      rw [hxe]
      simp only [Option.map_some]
      simp [Instr.sliceAt, Instr.slice, run_underlying hu, hrun, sizeOf, typeInfo, hinf]
    · exact h.elim
  · split at h
    · rename_i d1 v1 e1 sz by1 ag1 z1 f l hd hx
      obtain ⟨hall, h⟩ := h
      obtain ⟨inf, zv, hu, hinf, _, hsz, _⟩ := tk_sl hd
      obtain ⟨a, h, hA⟩ := bound_run lo e h
      obtain ⟨b, ⟨h0, hab, hbl, hk⟩, hB⟩ := bound_run hi e h
      have hmx0 : mx = none := by cases mx <;> simp_all
      subst hmx0
      refine some_free hk fun g oh w ρ hr hρ => ?_
      have hrx := hρ x hmx; rw [hx] at hrx
      obtain ⟨ad, cap, esz, bb, off, c', hxe, hlc, hm, ha, hz, hS, h1, hR⟩ := rdT_sl hrx.1
      have hrun := slice_run (P := P) (w := w) true l.length cap hlc a b h0 hab hbl (hA g oh ρ (fun y hy => hρ y (hml y hy))) (hB g oh ρ (fun y hy => hρ y (hmh y hy)))
      have hlen : ((l.drop a.toNat).take (b - a).toNat).length = b.toNat - a.toNat := by simp; omega
      refine ⟨.slice (if cap = a.toNat then ad else ad.map (·.add (a.toNat * inf.size))) (b.toNat - a.toNat) (cap - a.toNat), ?_, ?_, rfl⟩
      · simp only [execOp, ho]
        refine run_val _ w w _ ?_
        rw [hxe]
        simp only [Option.map_none]
        simp [Instr.sliceAt, Instr.slice, run_underlying hu, hrun, sizeOf, typeInfo, hinf]
      · rw [← hlen]
        refine rdT_drop a.toNat (b - a).toNat hz hS h1 hR _ _ (by rw [hlen]; omega) (by omega) fun hne => ?_
        have hpos : 0 < ((l.drop a.toNat).take (b - a).toNat).length := List.length_pos_iff.2 hne
        have hl0 : l ≠ [] := fun e => by simp [e] at hpos
        have hcap : ¬ cap = a.toNat := by omega
        rw [if_neg hcap, ha hl0]
        have h0l : 0 < l.length := List.length_pos_iff.2 hl0
        have : esz = sz := by
          have e1 := hz 0 l[0] (by simp)
          have e2 := hall l[0] (List.getElem_mem _)
          omega
        simp [Addr.add_lit, hsz, this]
    · rename_i d1 v1 e1 sz by1 ag1 z1 id ver off len hd hx
      obtain ⟨ob, hob, hv, hl, hosz, h⟩ := use_elim h
      obtain ⟨inf, zv, hu, hinf, _, hsz, _⟩ := tk_sl hd
      obtain ⟨a, h, hA⟩ := bound_run lo e h
      obtain ⟨b, ⟨h0, hab, hbl, hk⟩, hB⟩ := bound_run hi e h
      have hmx0 : mx = none := by cases mx <;> simp_all
      subst hmx0
      refine some_use hob hk fun g oh w ρ hr hρ hob' => ?_
      have hrx := hρ x hmx; rw [hx] at hrx
      obtain ⟨_, ob', hob2, _, hat⟩ := hrx
      rw [hob'] at hob2
      obtain rfl : ob = ob' := by simpa using hob2
      obtain ⟨ad, cap, hxe, hlc, hoff, hcap⟩ := hat hv hl
      have hrun := slice_run (P := P) (w := w) true len cap hlc a b h0 hab hbl (hA g oh ρ (fun y hy => hρ y (hml y hy))) (hB g oh ρ (fun y hy => hρ y (hmh y hy)))
      refine ⟨.slice (if cap = a.toNat then ad else ad.map (·.add (a.toNat * inf.size))) (b.toNat - a.toNat) (cap - a.toNat), ?_, rfl, ob, hob', by omega, fun _ _ => ⟨(if cap = a.toNat then ad else ad.map (·.add (a.toNat * inf.size))), cap - a.toNat, ?_, ?_, ?_, ?_⟩⟩
      · simp only [execOp, ho]
        refine run_val _ w w _ ?_
        rw [hxe]
        simp only [Option.map_none]
        simp [Instr.sliceAt, Instr.slice, run_underlying hu, hrun, sizeOf, typeInfo, hinf]
      · rw [show (b - a).toNat = b.toNat - a.toNat by omega]
      · omega
      · omega
      · intro hne
        obtain ⟨bb, hb, had, hcp⟩ := hcap (by omega)
        refine ⟨bb, hb, ?_, by omega⟩
        rw [if_neg (by omega), had]
        simp [Addr.add_lit, hsz, ← hosz, Nat.add_mul]
    · rename_i d1 v1 e1 sz by1 ag1 z1 hd hx
      obtain ⟨inf, zv, hu, hinf, _, hsz, _⟩ := tk_sl hd
      obtain ⟨a, h, hA⟩ := bound_run lo e h
      obtain ⟨b, ⟨rfl, rfl, hk⟩, hB⟩ := bound_run hi e h
      have hmx0 : mx = none := by cases mx <;> simp_all
      subst hmx0
      refine some_free hk fun g oh w ρ hr hρ => ?_
      have hrx := hρ x hmx; rw [hx] at hrx
      obtain ⟨ad, hxe⟩ := hrx
      have hrun := slice_run (P := P) (w := w) true 0 0 (Nat.le_refl _) 0 0 (by omega) (by omega) (by omega) (hA g oh ρ (fun y hy => hρ y (hml y hy))) (hB g oh ρ (fun y hy => hρ y (hmh y hy)))
      refine ⟨.slice ad 0 0, ?_, ad, rfl⟩
      simp only [execOp, ho]
      refine run_val _ w w _ ?_
      rw [hxe]
      simp only [Option.map_none]
      simp [Instr.sliceAt, Instr.slice, run_underlying hu, hrun, sizeOf, typeInfo, hinf]
    · rename_i d1 v1 s hd hx
      obtain ⟨a, h, hA⟩ := bound_run lo e h
      obtain ⟨b, ⟨h0, hab, hbl, hk⟩, hB⟩ := bound_run hi e h
      have hmx0 : mx = none := by cases mx <;> simp_all
      subst hmx0
      refine some_free hk fun g oh w ρ hr hρ => ⟨_, ?_, con_of rfl⟩
      have hrx := hρ x hmx; rw [hx] at hrx
      obtain ⟨hxe, _⟩ := hrx
      have hrun := slice_run (P := P) (w := w) false s.size s.size (Nat.le_refl _) a b h0 hab hbl (hA g oh ρ (fun y hy => hρ y (hml y hy))) (hB g oh ρ (fun y hy => hρ y (hmh y hy)))
      simp only [execOp, ho]
      refine run_val _ w w _ ?_
      rw [hxe]
      simp only [Option.map_none]
      simp [Instr.sliceAt, Instr.slice, run_underlying (tk_str hd), hrun]
    · exact h.elim
end
end Go.Ev

set_option linter.all false
namespace Go.Ev
section
variable {P : Program} {g : Gh} {oh : OH} {w : World}
theorem ofCells_cells {ag : Bool} {z : List Value} (h : ag = false → z.length = 1) : (V.ofCells ag (z.map V.ofConst1)).cells = z.map V.ofConst1 := by
  cases ag with
  | true => rfl
  | false =>
    match z, h rfl with
    | [c], _ =>
      simp only [V.ofCells, List.map_cons, List.map_nil, cond_false]
      unfold V.ofConst1
      split <;> rfl
theorem idx_lt {k j n sz : Nat} (hk : k < n) (hj : j < sz) : k * sz + j < n * sz := by
  have : (k + 1) * sz ≤ n * sz := Nat.mul_le_mul_right _ hk
  rw [Nat.succ_mul] at this; omega
theorem step_make {o : Oper} {t : TypeId} {l c : Operand} {e : Operand → V} {oh : OH} {k : Acc → Prop} (ho : o.op = .makeSlice t l c)
    (h : smake (tk P t) oh (e l) (e c) k) : Some P o e oh k := by
  unfold smake at h
  split at h
  · rename_i d1 v1 v2 e1 sz by1 ag z q1 n q2 m hd hl hc
    obtain ⟨hnm, h0, h63, hby, hzl, hsz0, c0, hfr, hk⟩ := h
    obtain ⟨inf, zv, hu, hinf, hzero, hsz, hbt, hzc, _, hz1, _, hag⟩ := tk_sl hd
    refine ⟨_, ?_, by simp, ?_, hk⟩
    · intro g oh' w ρ hr hρ _ hn
      have hnone := hn c0 (by simp)
      have hrl := hρ l (by simp [ho, Op.operands]); rw [hl] at hrl
      have hrc := hρ c (by simp [ho, Op.operands]); rw [hc] at hrc
      have hrun := run_make (P := P) w t e1 inf zv hu hinf hzero q1 q2 n m h0 hnm (by rw [hbt, Int.mul_comm]; omega) h63
      have hex : (execOp ρ o).run P w = .ok (.value (.slice (some ⟨w.heap.size, 0, none⟩) n.toNat m.toNat)) (w.alloc (.cells (madeCells zv.cells (m.toNat * inf.size)) e1)) := by
        simp only [execOp, ho]
        refine run_val _ _ _ _ ?_
        rw [hrl.1, hrc.1]; exact hrun
      rw [hex]
      have hcells := ofCells_cells (ag := ag) (z := z) (fun h => by rw [hzl]; exact hag h)
      have hzs : zv.cells.size = sz := by rw [← Array.length_toList, hzc, hzl]
      have hb : BlockAt g oh' ⟨sz, List.replicate m.toNat (V.ofCells ag (z.map V.ofConst1)), 0, true⟩ m.toNat (madeCells zv.cells (m.toNat * inf.size)) := by
        refine ⟨by rw [size_madeCells, hsz], by simp, by simp only [maxLen]; omega, fun k' e' he' => ?_⟩
        have hk' : k' < m.toNat := by
          have := (List.getElem?_eq_some_iff.1 he').1; simpa using this
        obtain rfl : V.ofCells ag (z.map V.ofConst1) = e' := by
          have he2 : (List.replicate m.toNat (V.ofCells ag (z.map V.ofConst1)))[k']? = some e' := he'
          rw [List.getElem?_replicate_of_lt hk'] at he2; simpa using he2
        refine ⟨by rw [hcells]; simpa using hzl, fun j v hj => ?_⟩
        rw [hcells, List.getElem?_map] at hj
        obtain ⟨cv, hcv, rfl⟩ := Option.map_eq_some_iff.1 hj
        have hjl : j < sz := by rw [← hzl]; exact (List.getElem?_eq_some_iff.1 hcv).1
        have hone := hz1 cv (List.mem_of_getElem? hcv)
        refine ⟨cv, ?_, hone, ofConst1_ok (by rw [oneC_eq]; exact hone)⟩
        have hlt := idx_lt hk' hjl
        have hmod : (k' * sz + j) % sz = j := by rw [Nat.mul_comm, Nat.mul_add_mod]; exact Nat.mod_eq_of_lt hjl
        have hj2 : zv.cells[j]? = some cv := by rw [← Array.getElem?_toList, hzc]; exact hcv
        unfold madeCells
        rw [hsz, Array.getElem?_map, Array.getElem?_range, if_pos hlt]
        simp only [Option.map_some, hzs]
        rw [hmod]
        simp [getElem!_def, hj2]
      obtain ⟨p1, p2, p3⟩ := hr.place c0 m.toNat _ _ e1 rfl (by simp [hnone]) hb
      refine ⟨_, p1, ⟨rfl, _, oget_cons_same _ _ _, Nat.le_refl _, fun _ _ => ⟨_, m.toNat, rfl, by omega, by simp; omega, fun _ => ⟨w.heap.size, by simp [Gh.at], by simp, by simp [Gh.at]⟩⟩⟩, p2, p3⟩
    · intro i hi
      obtain rfl : i = c0 := by simpa using hi
      exact hfr
  · exact h.elim
def NewsOK (g : Gh) (oh : OH) (w : World) (sz : Nat) (ys : List V) (x : Value) : Prop :=
  ∃ news : List Value, news.length = ys.length * sz ∧ (∀ u ∈ news, u.oneCell' = true) ∧
    (∀ (i : Nat) (e : V), ys[i]? = some e → ∀ (j : Nat) (v : V), e.cells[j]? = some v → ∃ c, news[i * sz + j]? = some c ∧ RdV1 g oh v c) ∧
    ∃ a cap, x = .slice a ys.length cap ∧ (ys ≠ [] → ∃ a', a = some a' ∧ ∀ (j : Nat) (u : Value), news[j]? = some u → w.cell? (a'.add j) = some u)
theorem ofA_cells (f : Bool) (t : T) : (V.ofA f t).cells = t.cells.map (V.ofT1 f) := by
  cases t <;> rfl
theorem elems_ok {oh0 : OH} {y : V} {K : OH → List V → Prop} {sz : Nat} (hsz : 0 < sz) (h : elems oh0 y K) :
    ∃ pre ys, K pre ys ∧ (∀ i ob, (i, ob) ∈ pre → oget oh0 i = some ob) ∧
      ((∀ y ∈ ys, y.cells.length = sz) → ∀ (g : Gh) (oh : OH) (w : World) (x : Value), HR g oh w → (∀ i ob, (i, ob) ∈ pre → oget oh i = some ob) → RdV g oh y x → NewsOK g oh w sz ys x) := by
  unfold elems at h
  split at h
  · refine ⟨[], [], h, by simp, fun _ g oh w x hr _ hx => ?_⟩
    obtain ⟨a, rfl⟩ := hx
    exact ⟨[], by simp, by simp, by simp, a, 0, rfl, by simp⟩
  · rename_i f l
    refine ⟨[], _, h, by simp, fun hall g oh w x hr _ hx => ?_⟩
    obtain ⟨hx, _⟩ := hx
    obtain ⟨a, cap, esz, b, off, c, rfl, hlc, hm, ha, hz, hS, h1, hR⟩ := rdT_sl hx
    have hG : ∀ b o c, g.sto f b o = some c → w.cell? ⟨b, o, none⟩ = some c := by
      intro b o c h
      cases f
      · exact hr.hG b o c h
      · exact hr.hG b o c (hr.hF b o c h)
    have hcl : ∀ (i : Nat) (t : T), l[i]? = some t → t.cells.length = sz := by
      intro i t ht
      have := hall (V.ofA f t) (List.mem_map.2 ⟨t, List.mem_of_getElem? ht, rfl⟩)
      rw [ofA_cells] at this; simpa using this
    have hesz : l ≠ [] → esz = sz := by
      intro hne
      have h0 : 0 < l.length := List.length_pos_iff.2 hne
      have e1 := hz 0 l[0] (by simp)
      have e2 := hcl 0 l[0] (by simp)
      omega
    refine ⟨(List.range (l.length * sz)).map fun p => c (p / sz) (p % sz), by simp, ?_, ?_, a, cap, by simp, ?_⟩
    · intro u hu
      obtain ⟨p, hp, rfl⟩ := List.mem_map.1 hu
      have hp : p < l.length * sz := by simpa using hp
      have hi : p / sz < l.length := Nat.div_lt_of_lt_mul (by rw [Nat.mul_comm]; exact hp)
      have hmod := Nat.mod_lt p hsz
      have hget : l[p / sz]? = some l[p / sz] := by simp [hi]
      exact h1 _ _ _ hget (by rw [hcl _ _ hget]; exact hmod)
    · intro i e he j v hj
      rw [List.getElem?_map] at he
      obtain ⟨t, ht, rfl⟩ := Option.map_eq_some_iff.1 he
      rw [ofA_cells, List.getElem?_map] at hj
      obtain ⟨u, hu, rfl⟩ := Option.map_eq_some_iff.1 hj
      have hil : i < l.length := (List.getElem?_eq_some_iff.1 ht).1
      have hjl : j < sz := by rw [← hcl i t ht]; exact (List.getElem?_eq_some_iff.1 hu).1
      have hlt := idx_lt hil hjl
      have hdiv : (i * sz + j) / sz = i := by rw [Nat.mul_comm, Nat.mul_add_div hsz, Nat.div_eq_of_lt hjl, Nat.add_zero]
      have hmod : (i * sz + j) % sz = j := by rw [Nat.mul_comm, Nat.mul_add_mod]; exact Nat.mod_eq_of_lt hjl
      refine ⟨c i j, ?_, ofT1_ok (hR i t j u ht hu) (h1 i t j ht (by rw [hcl i t ht]; exact hjl))⟩
      rw [List.getElem?_map, List.getElem?_range hlt]
      simp [hdiv, hmod]
    · intro hne
      have hne' : l ≠ [] := fun e => hne (by simp [e])
      have hee := hesz hne'
      refine ⟨_, ha hne', fun p u hp => ?_⟩
      rw [List.getElem?_map] at hp
      obtain ⟨p', hp', rfl⟩ := Option.map_eq_some_iff.1 hp
      have hlt : p < l.length * sz := by have := List.getElem?_eq_some_iff.1 hp'; simpa using this.1
      obtain rfl : p = p' := by rw [List.getElem?_range hlt] at hp'; simpa using hp'
      have hi : p / sz < l.length := Nat.div_lt_of_lt_mul (by rw [Nat.mul_comm]; exact hlt)
      have hmod := Nat.mod_lt p hsz
      have hget : l[p / sz]? = some l[p / sz] := by simp [hi]
      rw [Addr.add_lit]
      refine hG _ _ _ ?_
      have := hS (p / sz) l[p / sz] (p % sz) hget (by rw [hcl _ _ hget]; exact hmod)
      rw [← this, hee]; congr 1
      have := Nat.div_add_mod p sz
      rw [Nat.mul_comm] at this; omega
  · rename_i id ver off len
    obtain ⟨ob, hob, hv, hl, hk⟩ := use_elim h
    refine ⟨_, _, hk, by simpa using hob, fun hall g oh w x hr hpre hx => ?_⟩
    have hob' := hpre id ob (by simp)
    obtain ⟨_, ob', hob2, _, hat⟩ := hx
    rw [hob'] at hob2
    obtain rfl : ob = ob' := by simpa using hob2
    obtain ⟨a, cap, rfl, hlc, hoff, hcap⟩ := hat hv hl
    have hylen : ((ob.el.drop off).take len).length = len := by simp; omega
    by_cases hlen0 : len = 0
    · subst hlen0
      exact ⟨[], by simp, by simp, by simp, a, cap, by simp, by simp⟩
    · obtain ⟨b, hb, ha, hcp⟩ := hcap (by omega)
      subst ha
      obtain ⟨arr, ty, hh, _, hbs, hbl, hbm, hels⟩ := (hr.obj id ob hob' hl).2 b hb
      have hosz : ob.sz = sz := by
        have hlt : off < ob.el.length := by omega
        have hge : ob.el[off]? = some ob.el[off] := by simp [hlt]
        have e1 := (hels off _ hge).1
        have e2 := hall ob.el[off] (by
          refine List.mem_iff_getElem?.2 ⟨0, ?_⟩
          rw [List.getElem?_take_of_lt (by omega), List.getElem?_drop]; exact hge)
        omega
      have hend : (off + len) * sz ≤ arr.size := by rw [hbs, hosz]; exact Nat.mul_le_mul_right _ (by omega)
      rw [Nat.add_mul] at hend
      have hnl : ((arr.toList.drop (off * sz)).take (len * sz)).length = len * sz := by simp; omega
      have hget : ∀ p, p < len * sz → ((arr.toList.drop (off * sz)).take (len * sz))[p]? = arr[off * sz + p]? := by
        intro p hp; rw [List.getElem?_take_of_lt hp, List.getElem?_drop]; simp
      refine ⟨(arr.toList.drop (off * sz)).take (len * sz), by rw [hnl, hylen], ?_, ?_, _, cap, by rw [hylen], fun _ => ⟨_, rfl, fun p u hp => ?_⟩⟩
      · intro u hu
        obtain ⟨p, hp, he⟩ := List.mem_iff_getElem.1 hu
        have hp' : p < len * sz := by rw [hnl] at hp; exact hp
        have hq : p / sz < len := Nat.div_lt_of_lt_mul (by rw [Nat.mul_comm]; exact hp')
        have hm := Nat.mod_lt p hsz
        have hlt : off + p / sz < ob.el.length := by omega
        obtain ⟨q1, q2⟩ := hels (off + p / sz) ob.el[off + p / sz] (by simp [hlt])
        obtain ⟨cv, hcv, hone, _⟩ := q2 (p % sz) (ob.el[off + p / sz].cells[p % sz]'(by rw [q1, hosz]; exact hm)) (by simp)
        have : ((arr.toList.drop (off * sz)).take (len * sz))[p]? = some u := by rw [List.getElem?_eq_getElem hp, he]
        rw [hget p hp'] at this
        have hpe : (off + p / sz) * ob.sz + p % sz = off * sz + p := by
          rw [hosz, Nat.add_mul]
          have := Nat.div_add_mod p sz
          rw [Nat.mul_comm] at this; omega
        rw [hpe, this] at hcv
        obtain rfl : u = cv := by simpa using hcv
        exact hone
      · intro i e he j v hj
        have hil : i < len := by have := (List.getElem?_eq_some_iff.1 he).1; rw [hylen] at this; exact this
        rw [List.getElem?_take_of_lt hil, List.getElem?_drop] at he
        obtain ⟨q1, q2⟩ := hels _ e he
        obtain ⟨cv, hcv, hone, hrd⟩ := q2 j v hj
        have hjl : j < sz := by rw [← hosz, ← q1]; exact (List.getElem?_eq_some_iff.1 hj).1
        refine ⟨cv, ?_, hrd⟩
        rw [hget _ (idx_lt hil hjl), ← hcv, hosz]; congr 1; rw [Nat.add_mul]; omega
      · have hp' : p < len * sz := by have := (List.getElem?_eq_some_iff.1 hp).1; rw [hnl] at this; exact this
        rw [hget p hp'] at hp
        rw [Addr.add_lit, cell_of_row w b _ arr ty _ hh, hosz]; exact hp
  · exact h.elim
theorem blockAt_append {sz n ver : Nat} {olds : List Value} {news rest : List Value} {xs ys : List V}
    (hxl : ∀ x ∈ xs, x.cells.length = sz) (hyl : ∀ y ∈ ys, y.cells.length = sz) (hol : olds.length = xs.length * sz) (hnl : news.length = ys.length * sz)
    (ho : ∀ (i : Nat) (e : V), xs[i]? = some e → ∀ (j : Nat) (v : V), e.cells[j]? = some v → ∃ c, olds[i * sz + j]? = some c ∧ c.oneCell' = true ∧ RdV1 g oh v c)
    (hn : ∀ (i : Nat) (e : V), ys[i]? = some e → ∀ (j : Nat) (v : V), e.cells[j]? = some v → ∃ c, news[i * sz + j]? = some c ∧ RdV1 g oh v c)
    (hn1 : ∀ u ∈ news, u.oneCell' = true) (hsize : (olds ++ news ++ rest).length = n * sz) (hle : xs.length + ys.length ≤ n) (hm : n ≤ maxLen) :
    BlockAt g oh ⟨sz, xs ++ ys, ver, true⟩ n (olds ++ news ++ rest).toArray := by
  refine ⟨by simpa using hsize, by simpa using hle, hm, fun k e he => ?_⟩
  have he2 : (xs ++ ys)[k]? = some e := he
  by_cases hk : k < xs.length
  · rw [List.getElem?_append_left hk] at he2
    refine ⟨hxl e (List.mem_of_getElem? he2), fun j v hj => ?_⟩
    have hjl : j < sz := by rw [← hxl e (List.mem_of_getElem? he2)]; exact (List.getElem?_eq_some_iff.1 hj).1
    obtain ⟨c, h1, h2, h3⟩ := ho k e he2 j v hj
    refine ⟨c, ?_, h2, h3⟩
    have := idx_lt hk hjl
    show (olds ++ news ++ rest).toArray[k * sz + j]? = some c
    rw [List.getElem?_toArray, List.append_assoc, List.getElem?_append_left (by omega)]; exact h1
  · rw [List.getElem?_append_right (by omega)] at he2
    refine ⟨hyl e (List.mem_of_getElem? he2), fun j v hj => ?_⟩
    have hkl : k - xs.length < ys.length := (List.getElem?_eq_some_iff.1 he2).1
    have hjl : j < sz := by rw [← hyl e (List.mem_of_getElem? he2)]; exact (List.getElem?_eq_some_iff.1 hj).1
    obtain ⟨c, h1, h3⟩ := hn _ e he2 j v hj
    have hidx := idx_lt hkl hjl
    have hks : k * sz = xs.length * sz + (k - xs.length) * sz := by rw [← Nat.add_mul]; congr 1; omega
    refine ⟨c, ?_, hn1 c (List.mem_of_getElem? h1), h3⟩
    show (olds ++ news ++ rest).toArray[k * sz + j]? = some c
    rw [List.getElem?_toArray, List.append_assoc, List.getElem?_append_right (by omega), List.getElem?_append_left (by omega), hks, hol]
    rw [show xs.length * sz + (k - xs.length) * sz + j - xs.length * sz = (k - xs.length) * sz + j by omega]; exact h1
theorem zc_len (z : Array Value) (n : Nat) : (Builtin.zeroCells z n).toList.length = n * z.size := by simp [size_zeroCells]
theorem HR.bare (h : HR g oh w) (c : Nat) (ob : Obj) (hlv : ob.live = true) (hv : ∀ o, oget oh c = some o → o.ver < ob.ver) (he : ob.el = []) :
    HR { g with m := fun i => if i = c then none else g.m i } ((c, ob) :: oh) w ∧ Mono g oh { g with m := fun i => if i = c then none else g.m i } ((c, ob) :: oh) ∧
    Fr g oh w { g with m := fun i => if i = c then none else g.m i } ((c, ob) :: oh) w := by
  have hm : Mono g oh { g with m := fun i => if i = c then none else g.m i } ((c, ob) :: oh) := by
    refine RdV1.lift (fun _ _ _ h => h) (fun _ _ _ h => h) fun id o ho => ?_
    by_cases e : id = c
    · subst e
      exact ⟨ob, oget_cons_same _ _ _, by have := hv o ho; omega, fun h => absurd h (not_mp hlv), fun e' => by have := hv o ho; omega⟩
    · exact ⟨o, (oget_cons_other _ _ e).trans ho, Nat.le_refl _, fun h => ⟨h, by simp [e]⟩, fun _ hl => ⟨hl, rfl, Nat.le_refl _, by simp [e], rfl⟩⟩
  have hms : ∀ i o, oget ((c, ob) :: oh) i = some o → isMp o → oget oh i = some o ∧ (if i = c then none else g.m i) = g.m i := by
    intro i o ho hmp
    by_cases e : i = c
    · subst e
      rw [oget_cons_same] at ho
      obtain rfl : ob = o := by simpa using ho
      exact absurd hmp (not_mp hlv)
    · exact ⟨by rwa [oget_cons_other _ _ e] at ho, if_neg e⟩
  refine ⟨⟨h.hG, h.hF, ?_, ?_, h.mp.sub hms⟩, hm, ⟨rfl, rfl, rfl, Nat.le_refl _, fun _ _ _ _ => rfl, ?_, fun _ _ _ h => h, fun _ _ _ h => h, fun _ _ _ h => .inl h, fun _ _ _ h => .inl h, fun _ arr _ _ h => ⟨arr, h, rfl⟩, fun b hb => .inl (hb.sub hms)⟩⟩
  · intro i o ho hol
    by_cases e : i = c
    · subst e
      rw [oget_cons_same] at ho
      obtain rfl : ob = o := by simpa using ho
      exact ⟨fun _ => he, fun b hb => by simp at hb⟩
    · rw [oget_cons_other _ _ e] at ho
      obtain ⟨h1, h2⟩ := h.obj i o ho hol
      refine ⟨by simpa [e] using h1, fun b hb => ?_⟩
      obtain ⟨arr', ty', hh, hg, hbl⟩ := h2 b (by simpa [e] using hb)
      exact ⟨arr', ty', hh, hg, hbl.mono hm⟩
  · intro i j oi oj b hi hj hli hlj hmi hmj
    by_cases ei : i = c
    · simp [ei] at hmi
    · by_cases ej : j = c
      · simp [ej] at hmj
      · rw [oget_cons_other _ _ ei] at hi
        rw [oget_cons_other _ _ ej] at hj
        exact h.inj i j oi oj b hi hj hli hlj (by simpa [ei] using hmi) (by simpa [ej] using hmj)
  · rintro b ⟨i, o, ho, hol, hmi⟩
    left
    by_cases e : i = c
    · simp [e] at hmi
    · exact ⟨i, o, by rw [oget_cons_other _ _ e] at ho; exact ho, hol, by simpa [e] using hmi⟩
section
variable {t ty e1 : TypeId} {inf : TypeInfo} {zv : Value}
theorem run_app_none (hu : P.underlying t = some (.slice e1)) (hinf : P.info? e1 = some inf) (a : Option Addr) (n cap : Nat) (hn : n ≤ cap) (a2 : Option Addr) (c2 : Nat) :
    (Builtin.append_ #[t, t] ty #[.slice a n cap, .slice a2 0 c2]).run P w = .ok (.slice a n cap) w := by
  have hf : (Builtin.firstCells inf.size 0 (.slice a2 0 c2)).run P w = .ok #[] w := by
    cases a2 with
    | none => simp [Builtin.firstCells]
    | some a2 => simp [Builtin.firstCells, loadCells, loadCellsFrom]
  cases a with
  | none => simp [Builtin.append_, run_underlying hu, sizeOf, typeInfo, hinf, Builtin.lenOf, hn, hf]
  | some a => simp [Builtin.append_, run_underlying hu, sizeOf, typeInfo, hinf, Builtin.lenOf, hn, hf, storeCells]
theorem run_app_room (hu : P.underlying t = some (.slice e1)) (hinf : P.info? e1 = some inf) (b n cap : Nat) (cur : Array Value) (ty' : TypeId) (hg : w.heap[b]? = some (.cells cur ty' (0, 0)))
    (a : Addr) (m c : Nat) (news : List Value) (hl : news.length = m * inf.size) (hnews : ∀ (j : Nat) (u : Value), news[j]? = some u → w.cell? (a.add j) = some u) (h1 : ∀ u ∈ news, u.oneCell' = true)
    (hroom : n + m ≤ cap) (hfit : n * inf.size + news.length ≤ cur.size) :
    (Builtin.append_ #[t, t] ty #[.slice (some ⟨b, 0, none⟩) n cap, .slice (some a) m c]).run P w =
      .ok (.slice (some ⟨b, 0, none⟩) (n + m) cap) (w.setRow b (cur.toList.take (n * inf.size) ++ news ++ cur.toList.drop (n * inf.size + news.length)).toArray) := by
  have hf := run_firstCells_some (P := P) w inf.size m a m c news hl hnews
  have hst := run_storeCells_at P b (n * inf.size) ty' news 0 cur w hg (by simpa using hfit) h1
  simp only [Nat.add_zero] at hst
  simp [Builtin.append_, run_underlying hu, sizeOf, typeInfo, hinf, Builtin.lenOf, hroom, hf, Addr.add_lit, hst]
theorem run_app_new (hu : P.underlying t = some (.slice e1)) (hinf : P.info? e1 = some inf) (hz : inf.zero = some zv) (ad : Option Addr)
    (a : Addr) (m c : Nat) (news : List Value) (hl : news.length = m * inf.size) (hnews : ∀ (j : Nat) (u : Value), news[j]? = some u → w.cell? (a.add j) = some u)
    (h0 : 0 < m) (h63 : m ≤ 9223372036854775807) (h47 : m * inf.bytes ≤ 140737488355328) :
    (Builtin.append_ #[t, t] ty #[.slice ad 0 0, .slice (some a) m c]).run P w =
      .ok (.slice (some ⟨w.heap.size, 0, none⟩) m (grownCap w m 0 e1)) (w.drew.alloc (.cells (news ++ (Builtin.zeroCells zv.cells (grownCap w m 0 e1 - m)).toList).toArray e1)) := by
  cases ad with
  | none =>
    rw [run_append_nil (P := P) w t ty e1 inf zv hu hinf hz a m c news hl hnews h0 (by omega) (by omega)]
    congr 2; apply congrArg (fun q => Go.Obj.cells q e1); apply Array.ext'; simp
  | some b =>
    have := run_append_grow (P := P) w t ty e1 inf zv hu hinf hz b 0 0 [] (by simp) (by simp) a m c news hl hnews (by omega) (by omega) (growslice_fits (by omega) (by simpa using h47))
    rw [Nat.zero_add] at this
    rw [this]
    congr 2; apply congrArg (fun q => Go.Obj.cells q e1); apply Array.ext'; simp
end
end
end Go.Ev

set_option linter.all false
namespace Go.Ev
section
variable {P : Program} {g : Gh} {oh : OH} {w : World}
theorem append_out {t ty e1 : TypeId} {inf : TypeInfo} {zv : Value} {sz : Nat} (hu : P.underlying t = some (.slice e1)) (hinf : P.info? e1 = some inf) (hz : inf.zero = some zv)
    (hsz : inf.size = sz) (hzs : zv.cells.size = sz) (hr : HR g oh w) (ys : List V) (hyl : ∀ y ∈ ys, y.cells.length = sz) (y : Value) (hy : NewsOK g oh w sz ys y)
    (a : Option Addr) (n cap : Nat) (xs : List V) (hxn : xs.length = n) (hxl : ∀ x ∈ xs, x.cells.length = sz) (hncap : n ≤ cap)
    (h63 : n + ys.length ≤ 9223372036854775807) (h47 : (n + ys.length) * inf.bytes ≤ 140737488355328) (c ver : Nat) (hv : ∀ o, oget oh c = some o → o.ver < ver)
    (hx : (cap = 0) ∨ ∃ b ob arr ty', oget oh c = some ob ∧ ob.live = true ∧ g.m c = some b ∧ a = some ⟨b, 0, none⟩ ∧ cap ≤ g.cp c ∧ ob.sz = sz ∧ w.heap[b]? = some (.cells arr ty' (0, 0)) ∧
      BlockAt g oh ob (g.cp c) arr ∧ xs = ob.el.take n ∧ n ≤ ob.el.length) :
    ∃ x' w' g', (Builtin.append_ #[t, t] ty #[.slice a n cap, y]).run P w = .ok x' w' ∧ HR g' ((c, ⟨sz, xs ++ ys, ver, true⟩) :: oh) w' ∧
      Mono g oh g' ((c, ⟨sz, xs ++ ys, ver, true⟩) :: oh) ∧ Fr g oh w g' ((c, ⟨sz, xs ++ ys, ver, true⟩) :: oh) w' ∧
      RdV g' ((c, ⟨sz, xs ++ ys, ver, true⟩) :: oh) (.own c ver 0 (n + ys.length)) x' := by
  obtain ⟨news, hnl, hn1, hne, ya, yc, rfl, hya⟩ := hy
  have own : ∀ (g' : Gh) (x' : Value) (ad : Option Addr) (cp : Nat), x' = .slice ad (n + ys.length) cp → n + ys.length ≤ cp →
      (cp ≠ 0 → ∃ b, g'.m c = some b ∧ ad = some ⟨b, 0, none⟩ ∧ cp ≤ g'.cp c) → RdV g' ((c, ⟨sz, xs ++ ys, ver, true⟩) :: oh) (.own c ver 0 (n + ys.length)) x' := by
    rintro g' _ ad cp rfl hle hb
    refine ⟨rfl, _, oget_cons_same _ _ _, Nat.le_refl _, fun _ _ => ⟨ad, cp, rfl, hle, by simp [hxn], fun h => ?_⟩⟩
    obtain ⟨b, h1, h2, h3⟩ := hb h
    exact ⟨b, h1, by simpa using h2, by omega⟩
  by_cases hy0 : ys = []
  · subst hy0
    obtain ⟨rfl⟩ : news = [] := List.eq_nil_of_length_eq_zero (by simpa using hnl)
    have hrun := run_app_none (P := P) (w := w) (ty := ty) hu hinf a n cap hncap ya yc
    rcases hx with rfl | ⟨b, ob, arr, ty', hob, hl, hmc, rfl, hcp, hosz, hh, hba, hxs, hnl'⟩
    · obtain rfl : n = 0 := by omega
      obtain rfl : xs = [] := List.eq_nil_of_length_eq_zero hxn
      have hb := hr.bare c ⟨sz, [], ver, true⟩ rfl hv rfl
      exact ⟨_, _, _, hrun, hb.1, hb.2.1, hb.2.2, own _ _ a 0 rfl (by simp) (by simp)⟩
    · have hself : w.setRow b arr = w := setRow_self w b arr ty' (0, 0) hh
      have hlt := hv ob hob
      have hb := hr.write c b ob ⟨sz, xs ++ [], ver, true⟩ arr arr ty' hob hl hmc hh rfl hosz.symm (Nat.le_of_lt hlt) (fun e => absurd e (by simp only; omega)) (by
        refine ⟨by rw [hba.1, hosz], by simp [hxn]; have := hba.2.1; omega, hba.2.2.1, fun k e he => ?_⟩
        have he2 : xs[k]? = some e := by simpa using he
        rw [hxs] at he2
        have hk : k < n := by have := (List.getElem?_eq_some_iff.1 he2).1; simp at this; omega
        rw [List.getElem?_take_of_lt hk] at he2
        have := hba.2.2.2 k e he2
        rw [hosz] at this; exact this)
      rw [hself] at hb
      exact ⟨_, _, _, hrun, hb.1, hb.2.1, hb.2.2, own _ _ _ cap rfl (by simpa using hncap) (fun _ => ⟨b, hmc, rfl, hcp⟩)⟩
  · obtain ⟨a', rfl, hnews⟩ := hya hy0
    have hpos : 0 < ys.length := List.length_pos_iff.2 hy0
    have holds0 : ∀ (i : Nat) (e : V), ys[i]? = some e → ∀ (j : Nat) (v : V), e.cells[j]? = some v → ∃ cc, news[i * sz + j]? = some cc ∧ RdV1 g oh v cc := hne
    rcases hx with rfl | ⟨b, ob, arr, ty', hob, hl, hmc, rfl, hcp, hosz, hh, hba, hxs, hnl'⟩
    · obtain rfl : n = 0 := by omega
      obtain rfl : xs = [] := List.eq_nil_of_length_eq_zero hxn
      have hrun := run_app_new (P := P) (w := w) (ty := ty) hu hinf hz a a' ys.length yc news (by rw [hsz]; exact hnl) hnews hpos (by omega) (by simpa using h47)
      have hge := grownCap_ge w ys.length 0 e1
      have hmx : grownCap w ys.length 0 e1 ≤ maxLen := grownCap_le_maxLen w ys.length 0 e1 (by simp only [maxLen]; omega)
      have hb := (hr.same (w' := w.drew) rfl).place c (grownCap w ys.length 0 e1) ⟨sz, [] ++ ys, ver, true⟩ ([] ++ news ++ (Builtin.zeroCells zv.cells (grownCap w ys.length 0 e1 - ys.length)).toList).toArray e1 rfl hv
        (blockAt_append (by simp) hyl (by simp) hnl (by simp) holds0 hn1 (by
          simp only [List.nil_append, List.length_append, zc_len, hnl, hzs, ← Nat.add_mul]; congr 1; omega) (by simpa using hge) hmx)
      refine ⟨_, _, _, hrun, hb.1, hb.2.1, hb.2.2.drew, own _ _ _ _ (by simp; rfl) (by simpa using hge) (fun _ => ⟨w.heap.size, by simp [Gh.at], rfl, by simp [Gh.at]⟩)⟩
    · have hxl' : ∀ (i : Nat) (e : V), xs[i]? = some e → i < n ∧ ob.el[i]? = some e := by
        intro i e he
        have hi : i < n := by have := (List.getElem?_eq_some_iff.1 he).1; omega
        rw [hxs, List.getElem?_take_of_lt hi] at he
        exact ⟨hi, he⟩
      have hfit : n * sz ≤ arr.size := by rw [hba.1, hosz]; exact Nat.mul_le_mul_right _ (by have := hba.2.1; omega)
      have hol : (arr.toList.take (n * sz)).length = n * sz := by simp; omega
      have ho : ∀ (i : Nat) (e : V), xs[i]? = some e → ∀ (j : Nat) (v : V), e.cells[j]? = some v → ∃ cc, (arr.toList.take (n * sz))[i * sz + j]? = some cc ∧ cc.oneCell' = true ∧ RdV1 g oh v cc := by
        intro i e he j v hj
        obtain ⟨hi, he'⟩ := hxl' i e he
        obtain ⟨q1, q2⟩ := hba.2.2.2 i e he'
        obtain ⟨cc, hcc, h1, h2⟩ := q2 j v hj
        have hjl : j < sz := by rw [← hosz, ← q1]; exact (List.getElem?_eq_some_iff.1 hj).1
        refine ⟨cc, ?_, h1, h2⟩
        rw [List.getElem?_take_of_lt (idx_lt hi hjl), Array.getElem?_toList, ← hosz]; exact hcc
      have hlt := hv ob hob
      by_cases hroom : n + ys.length ≤ cap
      · have hfit2 : n * inf.size + news.length ≤ arr.size := by
          rw [hsz, hnl, ← Nat.add_mul, hba.1, hosz]; exact Nat.mul_le_mul_right _ (by omega)
        have hrun := run_app_room (P := P) (w := w) (ty := ty) hu hinf b n cap arr ty' hh a' ys.length yc news (by rw [hsz]; exact hnl) hnews hn1 hroom hfit2
        rw [hsz] at hrun hfit2
        have hb := hr.write c b ob ⟨sz, xs ++ ys, ver, true⟩ arr (arr.toList.take (n * sz) ++ news ++ arr.toList.drop (n * sz + news.length)).toArray ty' hob hl hmc hh rfl hosz.symm (Nat.le_of_lt hlt) (fun e => absurd e (by simp only; omega))
          (blockAt_append hxl hyl (by rw [hol, hxn]) hnl ho holds0 hn1 (by
            simp only [List.length_append, hol, List.length_drop, Array.length_toList]
            have hs2 := hba.1
            rw [hosz] at hs2; omega) (by omega) hba.2.2.1)
        exact ⟨_, _, _, hrun, hb.1, hb.2.1, hb.2.2, own _ _ _ cap rfl hroom (fun _ => ⟨b, hmc, rfl, hcp⟩)⟩
      · have hcell : ∀ (j : Nat) (u : Value), (arr.toList.take (n * sz))[j]? = some u → w.cell? ((⟨b, 0, none⟩ : Addr).add j) = some u := by
          intro j u hj
          have hjl : j < n * sz := by have := (List.getElem?_eq_some_iff.1 hj).1; omega
          rw [List.getElem?_take_of_lt hjl, Array.getElem?_toList] at hj
          rw [Addr.add_lit, cell_of_row w b _ arr ty' _ hh]; simpa using hj
        have hrun := run_append_grow (P := P) w t ty e1 inf zv hu hinf hz ⟨b, 0, none⟩ n cap (arr.toList.take (n * sz)) (by rw [hsz]; exact hol) hcell a' ys.length yc news (by rw [hsz]; exact hnl) hnews (by omega) (by omega)
          (growslice_fits (by omega) h47)
        have hge := grownCap_ge w (n + ys.length) cap e1
        have hmx : grownCap w (n + ys.length) cap e1 ≤ maxLen := grownCap_le_maxLen w (n + ys.length) cap e1 (by simp only [maxLen]; omega)
        have hb := (hr.same (w' := w.drew) rfl).place c (grownCap w (n + ys.length) cap e1) ⟨sz, xs ++ ys, ver, true⟩ (arr.toList.take (n * sz) ++ news ++ (Builtin.zeroCells zv.cells (grownCap w (n + ys.length) cap e1 - (n + ys.length))).toList).toArray e1 rfl hv
          (blockAt_append hxl hyl (by rw [hol, hxn]) hnl ho holds0 hn1 (by
            simp only [List.length_append, hol, zc_len, hnl, hzs, ← Nat.add_mul]; congr 1; omega) (by omega) hmx)
        have he : ((arr.toList.take (n * sz)).toArray ++ news.toArray ++ Builtin.zeroCells zv.cells (grownCap w (n + ys.length) cap e1 - (n + ys.length))) = (arr.toList.take (n * sz) ++ news ++ (Builtin.zeroCells zv.cells (grownCap w (n + ys.length) cap e1 - (n + ys.length))).toList).toArray := by
          apply Array.ext'; simp
        rw [he] at hrun
        exact ⟨_, _, _, hrun, hb.1, hb.2.1, hb.2.2.drew, own _ _ _ _ rfl hge (fun _ => ⟨w.heap.size, by simp [Gh.at], rfl, by simp [Gh.at]⟩)⟩
theorem step_append {o : Oper} {c : Call} {t : TypeId} {x y : Operand} {e : Operand → V} {oh : OH} {k : Acc → Prop} (ho : o.op = .call c) (hc : c.callee = .builtin .append)
    (ha : c.args.toList = [x, y]) (ht : c.argTypes.toList = [t, t]) (h : sappend (tk P t) oh (e x) (e y) k) : Some P o e oh k := by
  have ha' : c.args = #[x, y] := by rw [← Array.toArray_toList (xs := c.args), ha]
  have ht' : c.argTypes = #[t, t] := by rw [← Array.toArray_toList (xs := c.argTypes), ht]
  have hmx : x ∈ o.op.operands := by simp [ho, Op.operands, Call.operands, hc, ha']
  have hmy : y ∈ o.op.operands := by simp [ho, Op.operands, Call.operands, hc, ha']
  have run : ∀ (ρ : Operand → Value) (w w' : World) (v : Value), (Builtin.append_ #[t, t] o.type #[ρ x, ρ y]).run P w = .ok v w' → (execOp ρ o).run P w = .ok (.value v) w' := by
    intro ρ w w' v hv
    simp [execOp, ho, resolve, hc, ha', ht', invoke, builtin, hv]
  unfold sappend at h
  split at h
  · rename_i d1 e1 sz by1 ag1 z1 hd
    obtain ⟨inf, zv, hu, hinf, hzero, hsz, hbt, hzc, hzl, _⟩ := tk_sl hd
    have hzs : zv.cells.size = sz := by rw [← Array.length_toList, hzc, hzl]
    obtain ⟨_, hsz0, h⟩ := h
    obtain ⟨pre, ys, h, hpre, hys⟩ := elems_ok hsz0 h
    split at h
    · rename_i v1 hx
      obtain ⟨h63, h47, hyl, c0, hfr, hk⟩ := h
      refine ⟨_, ?_, hpre, ?_, hk⟩
      · intro g oh' w ρ hr hρ hp hn
        have hrx := hρ x hmx; rw [hx] at hrx
        obtain ⟨a, hxe⟩ := hrx
        have hny := hys hyl g oh' w (ρ y) hr hp (hρ y hmy)
        have hnone := hn c0 (by simp)
        obtain ⟨x', w', g', r1, r2, r3, r4, r5⟩ := append_out (P := P) (ty := o.type) hu hinf hzero hsz hzs hr ys hyl (ρ y) hny a 0 0 [] rfl (by simp) (Nat.le_refl _) (by omega) (by rw [hbt]; simpa using h47) c0 0 (by simp [hnone]) (.inl rfl)
        rw [hxe.symm] at r1
        rw [run ρ w w' x' r1]
        refine ⟨g', r2, ?_, r3, r4⟩
        simpa using r5
      · intro i hi
        obtain rfl : i = c0 := by simpa using hi
        exact hfr
    · rename_i v1 id ver len hx
      obtain ⟨ob, hob, hv, hl, hosz, h63, h47, hyl, hk⟩ := use_elim h
      refine ⟨_, ?_, ?_, by simp, hk⟩
      · intro g oh' w ρ hr hρ hp hn
        have hob' := hp id ob (by simp)
        have hrx := hρ x hmx; rw [hx] at hrx
        obtain ⟨_, ob', hob2, _, hat⟩ := hrx
        rw [hob'] at hob2
        obtain rfl : ob = ob' := by simpa using hob2
        obtain ⟨a, cap, hxe, hlc, hoff, hcap⟩ := hat hv hl
        have hny := hys hyl g oh' w (ρ y) hr (fun i ob2 h2 => hp i ob2 (by simp [h2])) (hρ y hmy)
        have hxl : ∀ x ∈ ob.el.take len, x.cells.length = sz := by
          intro q hq
          have hqm : q ∈ ob.el := List.mem_of_mem_take hq
          obtain ⟨h1, h2⟩ := hr.obj id ob hob' hl
          cases hm : g.m id with
          | none => have := h1 hm; rw [this] at hqm; simp at hqm
          | some b =>
            obtain ⟨arr, ty', hh, _, hba⟩ := h2 b hm
            obtain ⟨i, hi⟩ := List.mem_iff_getElem?.1 hqm
            rw [← hosz]; exact (hba.2.2.2 i q hi).1
        obtain ⟨x', w', g', r1, r2, r3, r4, r5⟩ := append_out (P := P) (ty := o.type) hu hinf hzero hsz hzs hr ys hyl (ρ y) hny a len cap (ob.el.take len) (by simp; omega) hxl hlc h63 (by rw [hbt]; exact h47) id (ver + 1)
          (by intro o2 ho2; rw [hob'] at ho2; obtain rfl : ob = o2 := by simpa using ho2
              omega) (by
            by_cases hc0 : cap = 0
            · exact .inl hc0
            · obtain ⟨b, hb, ha2, hcp⟩ := hcap hc0
              obtain ⟨arr, ty', hh, _, hba⟩ := (hr.obj id ob hob' hl).2 b hb
              exact .inr ⟨b, ob, arr, ty', hob', hl, hb, by simpa using ha2, by omega, hosz, hh, hba, rfl, by omega⟩)
        rw [hxe.symm] at r1
        rw [run ρ w w' x' r1]
        exact ⟨g', r2, r5, r3, r4⟩
      · intro i ob2 h2
        simp only [List.mem_cons, Prod.mk.injEq] at h2
        rcases h2 with ⟨rfl, rfl⟩ | h2
        · exact hob
        · exact hpre i ob2 h2
    · exact h.elim
  · exact h.elim
theorem run_part {t : TypeId} {d : TK} (h : tk P t = d) (h0 : 0 < d.size) (w : World) (cs : Array Value) (off : Nat) (hle : off + d.size ≤ cs.size) :
    (part t cs off).run P w = .ok (mkv d.isAgg ((cs.toList.drop off).take d.size)) w := by
  obtain ⟨h1, h2, h3⟩ := tk_agg h h0 w
  unfold part
  cases ha : d.isAgg with
  | true =>
    have h2' := h2 ha
    simp only [Sem.run_bind, h1, ha, Result.andThen_ok, if_true, h2']
    show Result.ok _ w = _
    congr 1
    show Value.agg _ = Value.agg _
    congr 1
    apply Array.ext'
    simp [Array.toList_extract, List.take_drop, Nat.add_sub_cancel_left, List.extract]
  | false =>
    have hs := h3 ha
    have hlt : off < cs.size := by omega
    simp only [Sem.run_bind, h1, ha, Result.andThen_ok, Bool.false_eq_true, if_false, Array.getElem?_eq_getElem hlt]
    show Result.ok _ w = _
    congr 1
    simp only [mkv, cond_false, hs]
    rw [List.drop_eq_getElem_cons (by simpa using hlt)]
    simp
theorem agg_drop {g : Gh} {oh : OH} {l : List V} {cs : Array Value} {d : TK} (h0 : 0 < d.size) (hd1 : d.isAgg = false → d.size = 1) (hl : cs.size = l.length) (hr : ∀ (j : Nat) (v : V) (c : Value), l[j]? = some v → cs[j]? = some c → RdV1 g oh v c ∧ c.oneCell' = true)
    (off : Nat) (hle : off + d.size ≤ l.length) : RdV g oh (V.ofCells d.isAgg ((l.drop off).take d.size)) (mkv d.isAgg ((cs.toList.drop off).take d.size)) := by
  refine ofCells_ok (by simp; omega) (fun ha => ?_) fun j v c hv hc => ?_
  · have := hd1 ha
    simp [this]; omega
  · have hj : j < d.size := by
      have := (List.getElem?_eq_some_iff.1 hv).1; simp at this; omega
    rw [List.getElem?_take_of_lt hj, List.getElem?_drop] at hv hc
    exact hr _ v c hv (by simpa using hc)
theorem step_idx {o : Oper} {t : TypeId} {x i : Operand} {e : Operand → V} {oh : OH} {k : Acc → Prop} (ho : o.op = .index t x i)
    (h : sidx (tk P) (tk P t) (e x) (e i) k) : Some P o e oh k := by
  unfold sidx at h
  split at h
  · rename_i d1 v1 v2 s k2 n hd hx hi
    obtain ⟨h0, b, hb, hk⟩ := h
    refine some_free hk fun g oh w ρ hr hρ => ⟨_, ?_, con_of rfl⟩
    have hrx := hρ x (by simp [ho, Op.operands]); rw [hx] at hrx
    have hri := hρ i (by simp [ho, Op.operands]); rw [hi] at hri
    simp only [execOp, ho]
    refine run_val _ w w _ ?_
    rw [hrx.1, hri.1]
    simp [Instr.index, asIntOf, run_underlying (tk_str hd), h0, hb]
  · rename_i len el esz z l k2 n hd hx hi
    obtain ⟨h0, hlt, hez, hsz, hle, hk⟩ := h
    obtain ⟨inf, hu, hinf, _, _, _, hesz, hel⟩ := tk_arr hd
    have hs0 : 0 < (tk P el).size := by omega
    refine some_free hk fun g oh w ρ hr hρ => ?_
    have hρx := hρ x (by simp [ho, Op.operands]); rw [hx] at hρx
    have hρi := hρ i (by simp [ho, Op.operands]); rw [hi] at hρi
    obtain ⟨cs, hxe, hl, hr'⟩ := hρx
    obtain ⟨j, hj⟩ := Option.isSome_iff_exists.1 hel
    have hjs : j.size = esz := by rw [hesz]; simp [Program.cellsOf, hj]
    have hn0 : 0 ≤ n ∧ n < (len : Int) := ⟨h0, hlt⟩
    refine ⟨mkv (tk P el).isAgg ((cs.toList.drop (n.toNat * esz)).take (tk P el).size), ?_, ?_⟩
    · simp only [execOp, ho]
      refine run_val _ w w _ ?_
      rw [hxe, hρi.1]
      have hrun := run_part (P := P) (t := el) rfl hs0 w cs (n.toNat * esz) (by omega)
      simp [Instr.index, asIntOf, run_underlying hu, sizeOf, typeInfo, hj, hn0, hjs, hrun]
    · have := agg_drop (g := g) (oh := oh) hs0 (tk_agg (P := P) (t := el) rfl hs0 w).2.2 hl hr' (n.toNat * esz) (by omega)
      rw [hsz] at this ⊢; exact this
  · exact h.elim
theorem step_nil {o : Oper} {x : Operand} {e : Operand → V} {oh : OH} {k : Acc → Prop} (ho : o.op = .nilCheck x) (h : snil oh (e x) k) : Some P o e oh k := by
  have hm : x ∈ o.op.operands := by simp [ho, Op.operands]
  unfold snil at h
  split at h
  · rename_i id ver i foff hx
    obtain ⟨ob, hob, hv, hl, hk⟩ := use_elim h
    refine some_use hob hk fun g oh w ρ hr hρ hob' => ?_
    have hrx := hρ x hm; rw [hx] at hrx
    have hrx2 := hrx
    obtain ⟨_, o2, h2, _, hb⟩ := hrx
    rw [hob'] at h2; cases h2
    obtain ⟨b, _, hxe⟩ := hb hv hl
    exact ⟨ρ x, by simp only [execOp, ho, hxe]; rfl, hrx2⟩
  · rename_i f l hx
    refine some_free h fun g oh w ρ hr hρ => ?_
    have hrx := hρ x hm; rw [hx] at hrx
    have hrx2 := hrx
    obtain ⟨b, off, c, hxe, _⟩ := rdT_ptr hrx.1
    exact ⟨ρ x, by simp only [execOp, ho, hxe]; rfl, hrx2⟩
  · exact h.elim
theorem step_extract {o : Oper} {x : Operand} {i : Nat} {e : Operand → V} {oh : OH} {k : Acc → Prop} (ho : o.op = .extract x i)
    (h : sextract (e x) i k) : Some P o e oh k := by
  unfold sextract at h
  split at h
  · rename_i l hx
    obtain ⟨v, hv, hk⟩ := h
    refine some_free hk fun g oh w ρ hr hρ => ?_
    have hrx := hρ x (by simp [ho, Op.operands]); rw [hx] at hrx
    obtain ⟨vs, hxe, hl, hall⟩ := hrx
    have hi : i < vs.size := by rw [hl]; exact (List.getElem?_eq_some_iff.1 hv).1
    have hr2 := hall i v vs[i] hv (by simp [hi])
    refine ⟨vs[i], ?_, ?_⟩
    · simp only [execOp, ho]
      refine run_val _ w w _ ?_
      rw [hxe]
      simp [Instr.extract, hi]
    · cases v with
      | tup l => exact hr2.elim
      | _ => exact hr2
  · exact h.elim
theorem chunks_get {sz : Nat} {ag : Bool} : ∀ (n : Nat) (l : List V) (k : Nat), (chunks sz ag n l)[k]? = if k < n then some (V.ofCells ag ((l.drop (k * sz)).take sz)) else none
  | 0, l, k => by simp [chunks]
  | n + 1, l, 0 => by simp [chunks]
  | n + 1, l, k + 1 => by
    simp only [chunks, List.getElem?_cons_succ, chunks_get n, List.drop_drop, Nat.add_lt_add_iff_right]
    rw [show sz + k * sz = (k + 1) * sz by rw [Nat.succ_mul]; omega]
theorem chunks_len {sz : Nat} {ag : Bool} : ∀ (n : Nat) (l : List V), (chunks sz ag n l).length = n
  | 0, l => rfl
  | n + 1, l => by simp [chunks, chunks_len n]
theorem flat_rep {α : Type} (n : Nat) (z : List α) (p : Nat) (hp : p < n * z.length) : (List.replicate n z).flatten[p]? = z[p % z.length]? := by
  induction n generalizing p with
  | zero => simp at hp
  | succ n ih =>
    rw [List.replicate_succ, List.flatten_cons]
    by_cases h : p < z.length
    · rw [List.getElem?_append_left h, Nat.mod_eq_of_lt h]
    · rw [List.getElem?_append_right (by omega), ih (p - z.length) (by rw [Nat.succ_mul] at hp; omega)]
      congr 1
      exact (Nat.mod_eq_sub_mod (by omega)).symm
theorem step_buildSlice {o : Oper} {t : TypeId} {len : Nat} {ps : Array (Nat × Operand)} {e : Operand → V} {oh : OH} {k : Acc → Prop} (ho : o.op = .buildSlice t len ps)
    (h : sbuildSlice (tk P t) oh len (ps.toList.map fun p => (p.1, e p.2)) k) : Some P o e oh k := by
  unfold sbuildSlice at h
  split at h
  · rename_i d1 e1 sz by1 ag z hd
    obtain ⟨hsz0, hzl, hle, h⟩ := h
    obtain ⟨inf, zv, hu, hinf, hzero, hsz, hbt, hzc, _, hz1, _, hag⟩ := tk_sl hd
    have hzs : zv.cells.size = sz := by rw [← Array.length_toList, hzc, hzl]
    obtain ⟨us, ⟨c0, hfr, hK⟩, hall⟩ := sfill_ok e ps.toList _ h
    refine ⟨_, ?_, by simp, ?_, hK⟩
    · intro g oh' w ρ hr hρ _ hn
      have hnone := hn c0 (by simp)
      have hbase : Along g oh' (List.replicate len (z.map V.ofConst1)).flatten (madeCells zv.cells (len * sz)) := by
        have hfl : (List.replicate len (z.map V.ofConst1)).flatten.length = len * sz := by simp [hzl]
        refine ⟨by rw [size_madeCells, hfl], fun j v c hv hc => ?_⟩
        have hj : j < len * sz := by rw [← hfl]; exact (List.getElem?_eq_some_iff.1 hv).1
        rw [flat_rep len _ j (by simpa [hzl] using hj), List.getElem?_map] at hv
        simp only [List.length_map, hzl] at hv
        obtain ⟨cv, hcv, rfl⟩ := Option.map_eq_some_iff.1 hv
        have hone := hz1 cv (List.mem_of_getElem? hcv)
        have hcv2 : zv.cells[j % sz]? = some cv := by rw [← Array.getElem?_toList, hzc]; exact hcv
        unfold madeCells at hc
        rw [Array.getElem?_map, Array.getElem?_range, if_pos hj] at hc
        simp only [Option.map_some, hzs, getElem!_def, hcv2, Option.some.injEq] at hc
        subst hc
        exact ⟨ofConst1_ok (by rw [oneC_eq]; exact hone), hone⟩
      obtain ⟨cs', hc, ha⟩ := hall ρ g oh' _ hbase (fun p hp => hρ p.2 (by
        simp only [ho, Op.operands]
        exact List.mem_toArray.2 (List.mem_map.2 ⟨p, hp, rfl⟩)))
      have hc2 : Instr.fill (fun i => some (i * sz, sz)) (madeCells zv.cells (len * sz)) (ps.toList.map fun p => (p.1, ρ p.2)) = some cs' := by
        refine fill_more (fun i r hr => ?_) _ _ _ hc
        rw [List.getElem?_toArray, List.getElem?_map] at hr
        obtain ⟨q, hq, rfl⟩ := Option.map_eq_some_iff.1 hr
        have hql : i < len := by have := (List.getElem?_eq_some_iff.1 hq).1; simpa using this
        rw [List.getElem?_range hql] at hq
        obtain rfl : i = q := by simpa using hq
        rfl
      have hlen0 : len * sz = 0 → len = 0 := fun h => by
        rcases Nat.mul_eq_zero.1 h with h | h
        · exact h
        · omega
      have hus : us.length = len * sz := by
        have h1 := ha.1
        have : cs'.size = len * sz := by
          have key : ∀ (pl : Nat → Option (Nat × Nat)) (ps : List (Nat × Value)) (cs out : Array Value), Instr.fill pl cs ps = some out → out.size = cs.size := by
            intro pl ps
            induction ps with
            | nil => intro cs out h; simp [Instr.fill] at h; rw [h]
            | cons q r ih =>
              obtain ⟨i, v⟩ := q
              intro cs out h
              simp only [Instr.fill] at h
              cases hp : pl i with
              | none => simp [hp] at h
              | some q =>
                obtain ⟨off, s⟩ := q
                simp only [hp] at h
                split at h
                · cases h
                · rename_i hcnd
                  have e1 := ih _ _ h
                  have : ∀ (l : List (Value × Nat)) (cs : Array Value), (l.foldl (fun cs (x : Value × Nat) => cs.setIfInBounds (off + x.2) x.1) cs).size = cs.size := by
                    intro l; induction l with
                    | nil => intro cs; rfl
                    | cons y l ih => intro cs; simp only [List.foldl_cons]; rw [ih]; simp
                  rw [e1, ← Array.foldl_toList]; exact this _ _
          rw [key _ _ _ _ hc, size_madeCells]
        omega
      have hex : (execOp ρ o).run P w = .ok (.value (.slice (some ⟨w.heap.size, 0, none⟩) len len)) (w.alloc (.cells cs' e1)) := by
        have hps : (ps.map fun (i, x) => (i, ρ x)) = (ps.toList.map fun p => (p.1, ρ p.2)).toArray := by apply Array.ext'; simp
        simp only [execOp, ho, hps]
        refine run_val _ _ _ _ ?_
        have hgt : ¬ len * inf.size > 2 ^ 24 := by rw [hsz]; omega
        generalize (ps.toList.map fun p => (p.1, ρ p.2)) = L at hc2
        simp only [Instr.buildSlice]
        rw [Sem.run_bind, run_underlying hu]
        simp only [Result.andThen_ok]
        by_cases hl0 : len = 0
        · subst hl0
          have hm0 : madeCells zv.cells (0 * sz) = #[] := by simp [madeCells]
          rw [hm0] at hc2
          simp only [← hsz] at hc2
          simp [sizeOf, typeInfo, hinf, Array.range_zero', hc2, newRow]
        · have hne : ¬ len * inf.size = 0 := fun h => hl0 (hlen0 (by rw [← hsz]; exact h))
          have hne2 : ¬ (len = 0 ∨ inf.size = 0) := by
            rintro (h | h)
            · exact hl0 h
            · omega
          unfold madeCells at hc2
          simp only [← hsz] at hc2
          simp [sizeOf, typeInfo, hinf, zeroValue, hzero, hgt, hne2, hc2, newRow]
          omega
      rw [hex]
      have hb : BlockAt g oh' ⟨sz, chunks sz ag len us, 0, true⟩ len cs' := by
        refine ⟨by rw [ha.1, hus], by simp [chunks_len], by simp only [maxLen]; have : len ≤ len * sz := Nat.le_mul_of_pos_right _ hsz0; omega, fun k' e' he' => ?_⟩
        have he2 : (chunks sz ag len us)[k']? = some e' := he'
        rw [chunks_get] at he2
        split at he2
        · rename_i hk'
          obtain rfl : V.ofCells ag ((us.drop (k' * sz)).take sz) = e' := by simpa using he2
          have hidx := idx_lt (sz := sz) (j := 0) hk' hsz0
          have hend : k' * sz + sz ≤ us.length := by
            have : (k' + 1) * sz ≤ len * sz := Nat.mul_le_mul_right _ hk'
            rw [Nat.succ_mul] at this; omega
          have htl : ((us.drop (k' * sz)).take sz).length = sz := by simp; omega
          have hcells : (V.ofCells ag ((us.drop (k' * sz)).take sz)).cells = (us.drop (k' * sz)).take sz := by
            cases ag with
            | true => rfl
            | false =>
              have h1 := hag rfl
              match hq : (us.drop (k' * sz)).take sz, htl with
              | [y], _ =>
                have hy : us[k' * sz]? = some y := by
                  have : ((us.drop (k' * sz)).take sz)[0]? = some y := by rw [hq]; rfl
                  rw [List.getElem?_take_of_lt (by omega), List.getElem?_drop] at this; simpa using this
                have hyc : k' * sz < cs'.size := by rw [ha.1]; exact (List.getElem?_eq_some_iff.1 hy).1
                have := (ha.2 (k' * sz) y cs'[k' * sz] hy (by simp [hyc])).1
                cases y <;> first | rfl | exact this.elim
              | [], h => simp at h; omega
              | _ :: _ :: _, h => simp at h; omega
          refine ⟨by rw [hcells]; exact htl, fun j v hj => ?_⟩
          rw [hcells] at hj
          have hjl : j < sz := by rw [← htl]; exact (List.getElem?_eq_some_iff.1 hj).1
          rw [List.getElem?_take_of_lt hjl, List.getElem?_drop] at hj
          have hlt : k' * sz + j < cs'.size := by rw [ha.1]; exact (List.getElem?_eq_some_iff.1 hj).1
          obtain ⟨q1, q2⟩ := ha.2 (k' * sz + j) v cs'[k' * sz + j] hj (by simp [hlt])
          exact ⟨_, by show cs'[k' * sz + j]? = _; simp [hlt], q2, q1⟩
        · cases he2
      obtain ⟨p1, p2, p3⟩ := hr.place c0 len _ cs' e1 rfl (by simp [hnone]) hb
      refine ⟨_, p1, ⟨rfl, _, oget_cons_same _ _ _, Nat.le_refl _, fun _ _ => ⟨_, len, rfl, Nat.le_refl _, by simp [chunks_len], fun _ => ⟨w.heap.size, by simp [Gh.at], by simp, by simp [Gh.at]⟩⟩⟩, p2, p3⟩
    · intro i hi
      obtain rfl : i = c0 := by simpa using hi
      exact hfr
  · exact h.elim
end
end Go.Ev

set_option linter.all false
namespace Go.Ev
section
variable {g : Gh} {oh : OH} {w : World}
def putM (w : World) (r : Nat) (o : Go.Obj) : World := { w with heap := w.heap.setIfInBounds r o }
theorem putM_same {w : World} {r : Nat} {o : Go.Obj} (h : r < w.heap.size) : (putM w r o).heap[r]? = some o := by simp [putM, h]
theorem putM_other {w : World} {r k : Nat} {o : Go.Obj} (h : k ≠ r) : (putM w r o).heap[k]? = w.heap[k]? := by simp [putM, Array.getElem?_setIfInBounds_ne (Ne.symm h)]
theorem putM_size {w : World} {r : Nat} {o : Go.Obj} : (putM w r o).heap.size = w.heap.size := by simp [putM]
theorem HR.placeM (h : HR g oh w) (c : Nat) (hn : oget oh c = none) :
    HR (g.at c w.heap.size 0) ((c, ⟨0, [], 0, false⟩) :: oh) (w.alloc (.map #[] 0)) ∧ Mono g oh (g.at c w.heap.size 0) ((c, ⟨0, [], 0, false⟩) :: oh) ∧
    Fr g oh w (g.at c w.heap.size 0) ((c, ⟨0, [], 0, false⟩) :: oh) (w.alloc (.map #[] 0)) := by
  have ne : ∀ {i o}, oget oh i = some o → i ≠ c := fun ho e => by rw [e, hn] at ho; cases ho
  have em : ∀ {i}, i ≠ c → (g.at c w.heap.size 0).m i = g.m i := fun e => by simp [Gh.at, e]
  have ec : ∀ {i}, i ≠ c → (g.at c w.heap.size 0).cp i = g.cp i := fun e => by simp [Gh.at, e]
  have hm : Mono g oh (g.at c w.heap.size 0) ((c, ⟨0, [], 0, false⟩) :: oh) := by
    refine RdV1.lift (fun _ _ _ h => h) (fun _ _ _ h => h) fun id o ho => ?_
    have e := ne ho
    exact ⟨o, (oget_cons_other _ _ e).trans ho, Nat.le_refl _, fun h => ⟨h, em e⟩, fun _ hl => ⟨hl, rfl, Nat.le_refl _, em e, ec e⟩⟩
  have hGlt : ∀ b o c, g.G b o = some c → b < w.heap.size := fun b o c hc => lt_of_cell (h.hG b o c hc)
  have live : ∀ {i o}, oget ((c, (⟨0, [], 0, false⟩ : Obj)) :: oh) i = some o → o.live = true → i ≠ c ∧ oget oh i = some o := by
    intro i o ho hl
    have e : i ≠ c := fun e => by
      subst e
      rw [oget_cons_same] at ho
      obtain rfl : (⟨0, [], 0, false⟩ : Obj) = o := by simpa using ho
      cases hl
    exact ⟨e, by rwa [oget_cons_other _ _ e] at ho⟩
  refine ⟨⟨?_, h.hF, ?_, ?_, ⟨?_, ?_⟩⟩, hm, ⟨rfl, rfl, rfl, by show _ ≤ (w.heap.push _).size; simp, ?_, ?_, fun _ _ _ h => h, fun _ _ _ h => h, fun _ _ _ h => .inl h, fun _ _ _ h => .inl h, fun b arr ty fz h => ⟨arr, (heap_alloc_old w _ b (lt_of_heap h)).trans h, rfl⟩, ?_⟩⟩
  · intro b o c' hc
    have := h.hG b o c' hc
    rw [cell_of_heap (heap_alloc_old w _ b (hGlt _ _ _ hc))]; exact this
  · intro i o ho hol
    obtain ⟨e, ho⟩ := live ho hol
    obtain ⟨h1, h2⟩ := h.obj i o ho hol
    rw [ObjRel, em e, ec e]
    refine ⟨h1, fun b hbm => ?_⟩
    obtain ⟨arr', ty', hh, hg, hbl⟩ := h2 b hbm
    exact ⟨arr', ty', by rw [heap_alloc_old w _ b (lt_of_heap hh)]; exact hh, hg, hbl.mono hm⟩
  · intro i j oi oj b hi hj hli hlj hmi hmj
    obtain ⟨ei, hi⟩ := live hi hli
    obtain ⟨ej, hj⟩ := live hj hlj
    rw [em ei] at hmi
    rw [em ej] at hmj
    exact h.inj i j oi oj b hi hj hli hlj hmi hmj
  · intro i o ho hmp
    by_cases e : i = c
    · subst e
      rw [oget_cons_same] at ho
      obtain rfl : (⟨0, [], 0, false⟩ : Obj) = o := by simpa using ho
      exact ⟨w.heap.size, #[], 0, by simp [Gh.at], heap_alloc_new w _, rfl, fun j e v he => by simp at he⟩
    · rw [oget_cons_other _ _ e] at ho
      obtain ⟨b, es, clock, h1, h2, h3⟩ := h.mp.at_ i o ho hmp
      exact ⟨b, es, clock, (em e).trans h1, by rw [heap_alloc_old w _ b (lt_of_heap h2)]; exact h2, h3⟩
  · intro i j oi oj b hi hj mi mj hmi hmj
    have old : ∀ {i o}, oget ((c, (⟨0, [], 0, false⟩ : Obj)) :: oh) i = some o → isMp o → i ≠ c → ∀ {b}, (g.at c w.heap.size 0).m i = some b → b < w.heap.size := by
      intro i o ho hmp e b hb
      rw [oget_cons_other _ _ e] at ho
      rw [em e] at hb
      exact h.mp.lt ⟨i, o, ho, hmp, hb⟩
    by_cases ei : i = c <;> by_cases ej : j = c
    · omega
    · have := old hj mj ej hmj
      have e1 : w.heap.size = b := by simpa [Gh.at, ei] using hmi
      omega
    · have := old hi mi ei hmi
      have e1 : w.heap.size = b := by simpa [Gh.at, ej] using hmj
      omega
    · rw [oget_cons_other _ _ ei] at hi
      rw [oget_cons_other _ _ ej] at hj
      rw [em ei] at hmi
      rw [em ej] at hmj
      exact h.mp.inj i j oi oj b hi hj mi mj hmi hmj
  · intro b hlt hn _
    exact heap_alloc_old w _ b hlt
  · rintro b ⟨i, o, ho, hol, hmi⟩
    obtain ⟨e, ho⟩ := live ho hol
    exact .inl ⟨i, o, ho, hol, (em e).symm.trans hmi⟩
  · rintro b ⟨i, o, ho, hmp, hmi⟩
    by_cases e : i = c
    · right
      have : w.heap.size = b := by simpa [Gh.at, e] using hmi
      omega
    · left
      rw [oget_cons_other _ _ e] at ho
      exact ⟨i, o, ho, hmp, (em e).symm.trans hmi⟩
theorem HR.writeM (h : HR g oh w) (c b : Nat) (o ob : Obj) (es es' : Array MapEntry) (clock clock' : Nat) (ho : oget oh c = some o) (hmp : isMp o) (hmc : g.m c = some b)
    (hh : w.heap[b]? = some (.map es clock)) (hmo : isMp ob) (hver : o.ver ≤ ob.ver) (hsz : es'.size = ob.el.length) (hel : ∀ (j : Nat) (e : MapEntry) (v : V), es'[j]? = some e → ob.el[j]? = some v → v = .agg [.con e.key, .con e.val]) :
    HR g ((c, ob) :: oh) (putM w b (.map es' clock')) ∧ Mono g oh g ((c, ob) :: oh) ∧ Fr g oh w g ((c, ob) :: oh) (putM w b (.map es' clock')) := by
  have hm : Mono g oh g ((c, ob) :: oh) := by
    refine RdV1.lift (fun _ _ _ h => h) (fun _ _ _ h => h) fun id o' ho' => ?_
    by_cases e : id = c
    · subst e
      rw [ho] at ho'
      obtain rfl : o = o' := by simpa using ho'
      exact ⟨ob, oget_cons_same _ _ _, hver, fun _ => ⟨hmp, rfl⟩, fun _ hl => by rw [hmo.1] at hl; cases hl⟩
    · exact ⟨o', (oget_cons_other _ _ e).trans ho', Nat.le_refl _, fun h => ⟨h, rfl⟩, fun _ hl => ⟨hl, rfl, Nat.le_refl _, rfl, rfl⟩⟩
  have hother : ∀ k, k ≠ b → (putM w b (.map es' clock')).heap[k]? = w.heap[k]? := fun k hk => putM_other hk
  have live : ∀ {i o'}, oget ((c, ob) :: oh) i = some o' → o'.live = true → i ≠ c ∧ oget oh i = some o' := by
    intro i o' ho' hl
    have e : i ≠ c := fun e => by
      subst e
      rw [oget_cons_same] at ho'
      obtain rfl : ob = o' := by simpa using ho'
      rw [hmo.1] at hl; cases hl
    exact ⟨e, by rwa [oget_cons_other _ _ e] at ho'⟩
  have mpo : ∀ {i o'}, oget ((c, ob) :: oh) i = some o' → isMp o' → ∃ o2, oget oh i = some o2 ∧ isMp o2 := by
    intro i o' ho' hmp'
    by_cases e : i = c
    · subst e; exact ⟨o, ho, hmp⟩
    · rw [oget_cons_other _ _ e] at ho'; exact ⟨o', ho', hmp'⟩
  refine ⟨⟨?_, h.hF, ?_, ?_, ⟨?_, ?_⟩⟩, hm, ⟨rfl, rfl, rfl, by rw [putM_size]; exact Nat.le_refl _, ?_, ?_, fun _ _ _ h => h, fun _ _ _ h => h, fun _ _ _ h => .inl h, fun _ _ _ h => .inl h, ?_, ?_⟩⟩
  · intro b' off c' hc
    have h0 := h.hG b' off c' hc
    have hne : b' ≠ b := fun e => by rw [e] at h0; simp [World.cell?, hh] at h0
    rw [cell_of_heap (hother b' hne)]
    exact h0
  · intro i o' ho' hol'
    obtain ⟨e, ho'⟩ := live ho' hol'
    obtain ⟨h1, h2⟩ := h.obj i o' ho' hol'
    refine ⟨h1, fun b' hb' => ?_⟩
    obtain ⟨arr', ty', hh', hg, hbl⟩ := h2 b' hb'
    have hne : b' ≠ b := fun e' => by rw [e', hh] at hh'; cases hh'
    exact ⟨arr', ty', by rw [hother b' hne]; exact hh', hg, hbl.mono hm⟩
  · intro i j oi oj b' hi hj hli hlj hmi hmj
    exact h.inj i j oi oj b' (live hi hli).2 (live hj hlj).2 hli hlj hmi hmj
  · intro i o' ho' hmp'
    by_cases e : i = c
    · subst e
      rw [oget_cons_same] at ho'
      obtain rfl : ob = o' := by simpa using ho'
      exact ⟨b, es', clock', hmc, putM_same (lt_of_heap hh), hsz, hel⟩
    · rw [oget_cons_other _ _ e] at ho'
      obtain ⟨b', es2, clock2, h1, h2, h3⟩ := h.mp.at_ i o' ho' hmp'
      have hne : b' ≠ b := fun e' => e (h.mp.inj i c o' o b ho' ho hmp' hmp (e' ▸ h1) hmc)
      exact ⟨b', es2, clock2, h1, (hother b' hne).trans h2, h3⟩
  · intro i j oi oj b' hi hj mi mj hmi hmj
    obtain ⟨o1, q1, q2⟩ := mpo hi mi
    obtain ⟨o2, q3, q4⟩ := mpo hj mj
    exact h.mp.inj i j o1 o2 b' q1 q3 q2 q4 hmi hmj
  · intro b' hlt _ hn
    exact hother b' fun e => hn (e ▸ ⟨c, o, ho, hmp, hmc⟩)
  · rintro b' ⟨i, o', ho', hol', hmi⟩
    exact .inl ⟨i, o', (live ho' hol').2, hol', hmi⟩
  · intro b' arr' ty' fz hh'
    have hne : b' ≠ b := fun e' => by rw [e', hh] at hh'; cases hh'
    exact ⟨arr', (hother b' hne).trans hh', rfl⟩
  · rintro b' ⟨i, o', ho', hmp', hmi⟩
    obtain ⟨o2, q1, q2⟩ := mpo ho' hmp'
    exact .inl ⟨i, o2, q1, q2, hmi⟩
end
section
variable {P : Program}
theorem mkOK_none {a : Value} (h : mkOK none a = true) : ∃ s, a = .string s := by
  cases a <;> first | exact ⟨_, rfl⟩ | cases h
theorem mkOK_some {k : IntKind} {a : Value} (h : mkOK (some k) a = true) : ∃ n, a = .int k n := by
  cases a with
  | int k' n => obtain rfl : k = k' := of_decide_eq_true h; exact ⟨n, rfl⟩
  | _ => cases h
theorem ba_iff (s t : ByteArray) : (s == t) = true ↔ s = t := by
  have h : (s == t) = (s.data == t.data) := rfl
  rw [h, beq_iff_eq]
  exact ⟨fun e => by cases s; cases t; congr, fun e => by rw [e]⟩
theorem mkEq_spec {kk : Option IntKind} {a b : Value} (ha : mkOK kk a = true) (hb : mkOK kk b = true) :
    Instr.sameNow (kdesc kk) a b = some (mkEq a b) ∧ (mkEq a b = true → a = b) := by
  cases kk with
  | none =>
    obtain ⟨s, rfl⟩ := mkOK_none ha
    obtain ⟨s2, rfl⟩ := mkOK_none hb
    exact ⟨rfl, fun h => by simp only [mkEq] at h; rw [(ba_iff s s2).1 h]⟩
  | some k =>
    obtain ⟨s, rfl⟩ := mkOK_some ha
    obtain ⟨s2, rfl⟩ := mkOK_some hb
    exact ⟨by simp [Instr.sameNow, mkEq, kdesc], fun h => by simp only [mkEq] at h; rw [eq_of_beq h]⟩
theorem mkOK_misc {kk : Option IntKind} {q : TypeId} {a : Value} (ha : mkOK kk a = true) (hq : P.underlying q = some (kdesc kk)) :
    (∀ n, Instr.sameBits n a a = true) ∧ (∀ w b n, (Instr.checkKey b (n + 1) q a).run P w = .ok () w) := by
  cases kk with
  | none =>
    obtain ⟨s, rfl⟩ := mkOK_none ha
    exact ⟨fun n => by cases n <;> simp [Instr.sameBits, ba_iff], fun w b n => by simp [Instr.checkKey, run_underlying hq, kdesc]⟩
  | some k =>
    obtain ⟨s, rfl⟩ := mkOK_some ha
    exact ⟨fun n => by cases n <;> simp [Instr.sameBits], fun w b n => by simp [Instr.checkKey, run_underlying hq, kdesc]⟩
theorem mfind_ok {kk : Option IntKind} {key : Value} (hk : mkOK kk key = true) : ∀ (es : List MapEntry) (el : List V) (i : Nat), es.length = el.length → (∀ v ∈ el, mEnt kk v) →
    (∀ (j : Nat) (e : MapEntry) (v : V), es[j]? = some e → el[j]? = some v → v = .agg [.con e.key, .con e.val]) →
    Instr.findNow (kdesc kk) key es i = some ((mFind key el).map fun p => (i + p.1, p.2)) ∧
    ∀ j x, mFind key el = some (j, x) → ∃ e, es[j]? = some e ∧ e.key = key ∧ e.val = x
  | [], [], i, _, _, _ => ⟨rfl, fun j x h => by cases h⟩
  | e :: es, v :: el, i, hl, hm, hr => by
    obtain rfl := hr 0 e v rfl rfl
    obtain ⟨q, x, hq, hq2, _⟩ := hm _ (List.mem_cons_self ..)
    have hq' : q = e.key := by simp at hq; exact hq.1.symm
    subst hq'
    obtain ⟨s1, s2⟩ := mkEq_spec hk hq2
    obtain ⟨i1, i2⟩ := mfind_ok hk es el (i + 1) (by simpa using hl) (fun v hv => hm v (List.mem_cons_of_mem _ hv)) (fun j e' v' h1 h2 => hr (j + 1) e' v' (by simpa using h1) (by simpa using h2))
    unfold Instr.findNow mFind
    rw [s1]
    cases hb : mkEq key e.key with
    | true =>
      refine ⟨rfl, fun j x h => ?_⟩
      simp only [cond_true, Option.some.injEq, Prod.mk.injEq] at h
      obtain ⟨rfl, rfl⟩ := h
      exact ⟨e, rfl, (s2 hb).symm, rfl⟩
    | false =>
      simp only [cond_false]
      refine ⟨?_, fun j x h => ?_⟩
      · rw [i1]
        cases mFind key el with
        | none => rfl
        | some p => simp; omega
      · obtain ⟨p, hp, hp2⟩ := Option.map_eq_some_iff.1 h
        simp only [Prod.mk.injEq] at hp2
        obtain ⟨rfl, rfl⟩ := hp2
        obtain ⟨e', q1, q2, q3⟩ := i2 p.1 p.2 hp
        exact ⟨e', by simpa using q1, q2, q3⟩
  | [], _ :: _, _, h, _, _ => by simp at h
  | _ :: _, [], _, h, _, _ => by simp at h
theorem run_findKey {k : TypeId} {d : TypeDesc} {key : Value} {es : List MapEntry} {r : Option (Nat × Value)} (w : World) (hu : P.underlying k = some d) (h : Instr.findNow d key es 0 = some r) : (Instr.findKey k key es).run P w = .ok r w := by
  simp [Instr.findKey, run_underlying hu, h]
theorem run_getMap {w : World} {b : Nat} {es : Array MapEntry} {clock : Nat} (h : w.heap[b]? = some (.map es clock)) : (getObj b).run P w = .ok (.map es clock) w := by
  simp [getObj, Sem.run, h]
theorem map_use {g : Gh} {oh : OH} {w : World} {id ver i0 f0 : Nat} {o : Obj} {x : Value} (hr : HR g oh w) (hx : RdV g oh (.ref id ver i0 f0) x) (ho : oget oh id = some o) (hl : o.live = false) (hs : o.sz = 0) :
    ∃ b es clock, g.m id = some b ∧ x = .map (some b) ∧ w.heap[b]? = some (.map es clock) ∧ es.toList.length = o.el.length ∧ ∀ (j : Nat) (e : MapEntry) (v : V), es.toList[j]? = some e → o.el[j]? = some v → v = .agg [.con e.key, .con e.val] := by
  obtain ⟨⟨_, h2⟩, _⟩ := hx
  obtain ⟨b, hb, rfl⟩ := h2 o ho ⟨hl, hs⟩
  obtain ⟨b', es, clock, q1, q2, q3, q4⟩ := hr.mp.at_ id o ho ⟨hl, hs⟩
  rw [hb] at q1
  obtain rfl : b = b' := by simpa using q1
  exact ⟨b, es, clock, hb, rfl, q2, by simpa using q3, fun j e v he hv => q4 j e v (by simpa using he) hv⟩
theorem step_mkMap {o : Oper} {t : TypeId} {r : Option Operand} {e : Operand → V} {oh : OH} {k : Acc → Prop} (ho : o.op = .makeMap t r) (h : smkMap (tk P t) oh (r.map e) k) : Some P o e oh k := by
  have key : (∀ (g : Gh) (oh : OH) (w : World) (ρ : Operand → Value), (∀ z, z ∈ o.op.operands → RdV g oh (e z) (ρ z)) → (execOp ρ o).run P w = .ok (.value (.map (some w.heap.size))) (w.alloc (.map #[] 0))) →
      (fresh oh fun c => k ⟨[], [c], [(c, ⟨0, [], 0, false⟩)], .ref c 0 0 0⟩) → Some P o e oh k := by
    rintro hrun ⟨c, hfr, hk⟩
    refine ⟨_, ?_, by simp, by simpa using hfr, hk⟩
    intro g oh' w ρ hr hρ _ hn
    rw [hrun g oh' w ρ hρ]
    obtain ⟨p1, p2, p3⟩ := hr.placeM c (hn c (by simp))
    refine ⟨_, p1, ⟨⟨rfl, fun q hq hm => ⟨w.heap.size, by simp [Gh.at], rfl⟩⟩, _, oget_cons_same _ _ _, Nat.le_refl _, fun _ hl => by cases hl⟩, p2, p3⟩
  unfold smkMap at h
  split at h
  · rename_i kk z hd hr
    obtain rfl : r = none := by cases r <;> first | rfl | cases hr
    refine key (fun g oh w ρ hρ => ?_) h
    simp only [execOp, ho]
    exact run_val _ w _ _ rfl
  · rename_i kk z q n hd hr
    obtain ⟨y, rfl, hy⟩ := Option.map_eq_some_iff.1 hr
    obtain ⟨q, e', i, hu, _⟩ := tk_map hd
    refine key (fun g oh w ρ hρ => ?_) h
    have hρy := hρ y (by simp [ho, Op.operands])
    rw [hy] at hρy
    simp only [execOp, ho]
    refine run_val _ w _ _ ?_
    simp [Instr.makeMap, run_underlying hu, hρy.1, asInt, asIntOf, newObj, Sem.run]
  · exact h.elim
theorem step_lookup {o : Oper} {t : TypeId} {x i : Operand} {ok : Bool} {e : Operand → V} {oh : OH} {k : Acc → Prop} (ho : o.op = .lookup t x i ok) (h : slookup (tk P t) oh (e x) (e i) ok k) : Some P o e oh k := by
  unfold slookup at h
  split at h
  · rename_i kk z id ver i0 f0 key hd hvx hvi
    obtain ⟨q, el, inf, hu, hi, hz, _, hz1, hq⟩ := tk_map hd
    split at h
    · rename_i ob hob
      obtain ⟨hl, hs, hkey, hent, h⟩ := h
      have gen : ∀ (g : Gh) (oh' : OH) (w : World) (ρ : Operand → Value), HR g oh' w → (∀ z, z ∈ o.op.operands → RdV g oh' (e z) (ρ z)) → oget oh' id = some ob →
          (execOp ρ o).run P w = .ok (.value (if ok then .tuple #[(mGet key ob.el).getD z, .bool (mGet key ob.el).isSome] else (mGet key ob.el).getD z)) w := by
        intro g oh' w ρ hr hρ hob'
        have hρx := hρ x (by simp [ho, Op.operands])
        have hρi := hρ i (by simp [ho, Op.operands])
        rw [hvx] at hρx
        rw [hvi] at hρi
        obtain ⟨b, es, clock, _, hbx, hh, q1, q2⟩ := map_use hr hρx hob' hl hs
        obtain ⟨hf, _⟩ := mfind_ok hkey es.toList ob.el 0 q1 hent q2
        obtain ⟨_, hchk⟩ := mkOK_misc (P := P) hkey hq
        simp only [execOp, ho]
        refine run_val _ w w _ ?_
        rw [hbx, hρi.1]
        have hfk := run_findKey (P := P) w hq hf
        unfold mGet
        cases hm : mFind key ob.el with
        | none =>
          rw [hm] at hfk
          simp [Instr.lookup, run_underlying hu, run_getMap hh, hchk w _ 9999, hfk, zeroValue, typeInfo, hi, hz]
        | some p =>
          rw [hm] at hfk
          simp [Instr.lookup, run_underlying hu, run_getMap hh, hchk w _ 9999, hfk]
      have one : ((mGet key ob.el).getD z).oneCell' = true := by
        unfold mGet
        cases hm : mFind key ob.el with
        | none => exact hz1
        | some p =>
          have : ∀ (el : List V), (∀ v ∈ el, mEnt kk v) → ∀ j x, mFind key el = some (j, x) → x.oneCell' = true := by
            intro el
            induction el with
            | nil => intro _ j x h; cases h
            | cons v el ih =>
              intro he j x h
              obtain ⟨q, y, rfl, _, hy⟩ := he v (List.mem_cons_self ..)
              unfold mFind at h
              cases hb : mkEq key q with
              | true =>
                rw [hb] at h
                simp only [cond_true, Option.some.injEq, Prod.mk.injEq] at h
                rw [← h.2, ← oneC_eq]; exact hy
              | false =>
                rw [hb] at h
                simp only [cond_false] at h
                obtain ⟨p, hp, hp2⟩ := Option.map_eq_some_iff.1 h
                simp only [Prod.mk.injEq] at hp2
                rw [← hp2.2]
                exact ih (fun v hv => he v (List.mem_cons_of_mem _ hv)) p.1 p.2 hp
          exact this ob.el hent p.1 p.2 hm
      cases ok with
      | true =>
        obtain ⟨v, b, rfl, rfl, hk⟩ := h
        refine some_use hob hk fun g oh' w ρ hr hρ hob' => ⟨_, gen g oh' w ρ hr hρ hob', ?_⟩
        refine ⟨_, rfl, rfl, fun j u c hu hc => ?_⟩
        match j with
        | 0 => simp at hu hc; subst hu; subst hc; exact ⟨rfl, one⟩
        | 1 => simp at hu hc; subst hu; subst hc; exact ⟨rfl, rfl⟩
        | j + 2 => simp at hu
      | false =>
        obtain ⟨v, rfl, hk⟩ := h
        exact some_use hob hk fun g oh' w ρ hr hρ hob' => ⟨_, gen g oh' w ρ hr hρ hob', con_of one⟩
    · exact h.elim
  · exact h.elim
theorem step_mapUp {o : Oper} {t : TypeId} {x i v : Operand} {e : Operand → V} {oh : OH} {k : Acc → Prop} (ho : o.op = .mapUpdate t x i v) (h : smapUp (tk P t) oh (e x) (e i) (e v) k) : Some P o e oh k := by
  unfold smapUp at h
  split at h
  · rename_i kk z id ver i0 f0 key y hd hvx hvi hvv
    obtain ⟨q, el, inf, hu, hi, hz, _, hz1, hq⟩ := tk_map hd
    split at h
    · rename_i ob hob
      obtain ⟨hl, hs, hkey, hent, el', hput, hk⟩ := h
      refine ⟨_, ?_, by simpa using hob, by simp, hk⟩
      intro g oh' w ρ hr hρ hpre _
      have hob' := hpre id ob (by simp)
      have hρx := hρ x (by simp [ho, Op.operands])
      have hρi := hρ i (by simp [ho, Op.operands])
      have hρv := hρ v (by simp [ho, Op.operands])
      rw [hvx] at hρx
      rw [hvi] at hρi
      rw [hvv] at hρv
      obtain ⟨b, es, clock, hb, hbx, hh, q1, q2⟩ := map_use hr hρx hob' hl hs
      obtain ⟨hf, hfd⟩ := mfind_ok hkey es.toList ob.el 0 q1 hent q2
      obtain ⟨hbits, hchk⟩ := mkOK_misc (P := P) hkey hq
      have hfk := run_findKey (P := P) w hq hf
      have hes : es.size = ob.el.length := by simpa using q1
      have q2' : ∀ (j : Nat) (e : MapEntry) (v : V), es[j]? = some e → ob.el[j]? = some v → v = .agg [.con e.key, .con e.val] := fun j e v h1 h2 => q2 j e v (by simpa using h1) h2
      unfold mPut at hput
      cases hm : mFind key ob.el with
      | none =>
        rw [hm] at hfk hput
        subst hput
        have hrun : (execOp ρ o).run P w = .ok .skip (putM w b (.map (es.push { key, val := y, born := clock }) (clock + 1))) := by
          simp only [execOp, ho]
          rw [hbx, hρi.1, hρv.1]
          simp [Instr.mapUpdate, run_underlying hu, run_getMap hh, hchk w _ 9999, hfk, Go.setObj, Sem.run, putM, hh]
        rw [hrun]
        obtain ⟨p1, p2, p3⟩ := hr.writeM id b ob ⟨0, ob.el ++ [.agg [.con key, .con y]], ob.ver, false⟩ es (es.push { key, val := y, born := clock }) clock (clock + 1) hob' ⟨hl, hs⟩ hb hh ⟨rfl, rfl⟩ (Nat.le_refl _) (by simp [hes]) (fun j en u hen huu => by
          rw [Array.getElem?_push] at hen
          have huu : (ob.el ++ [V.agg [.con key, .con y]])[j]? = some u := huu
          by_cases hj : j = es.size
          · subst hj
            rw [if_pos rfl] at hen
            cases hen
            rw [List.getElem?_append_right (by omega), hes] at huu
            simpa using huu.symm
          · rw [if_neg hj] at hen
            have hlt : j < es.size := (Array.getElem?_eq_some_iff.1 hen).1
            rw [List.getElem?_append_left (by omega)] at huu
            exact q2' j en u hen huu)
        exact ⟨g, p1, trivial, p2, p3⟩
      | some p =>
        rw [hm] at hfk hput
        subst hput
        obtain ⟨en, he, hek, hev⟩ := hfd p.1 p.2 hm
        have he' : es[p.1]? = some en := by simpa using he
        have hlt : p.1 < es.size := (Array.getElem?_eq_some_iff.1 he').1
        have hrun : (execOp ρ o).run P w = .ok .skip (putM w b (.map (es.modify p.1 fun e => { e with key, val := y }) clock)) := by
          simp only [execOp, ho]
          rw [hbx, hρi.1, hρv.1]
          simp [Instr.mapUpdate, run_underlying hu, run_getMap hh, hchk w _ 9999, hfk, Go.setObj, Sem.run, putM, hh, he', hek, Instr.keyThatStays, hbits]
        rw [hrun]
        obtain ⟨p1, p2, p3⟩ := hr.writeM id b ob ⟨0, ob.el.set p.1 (.agg [.con key, .con y]), ob.ver, false⟩ es (es.modify p.1 fun e => { e with key, val := y }) clock clock hob' ⟨hl, hs⟩ hb hh ⟨rfl, rfl⟩ (Nat.le_refl _) (by simp [hes]) (fun j en2 u hen huu => by
          rw [Array.getElem?_modify] at hen
          have huu : (ob.el.set p.1 (V.agg [.con key, .con y]))[j]? = some u := huu
          by_cases hj : p.1 = j
          · subst hj
            rw [if_pos rfl, he'] at hen
            simp only [Option.map_some, Option.some.injEq] at hen
            subst hen
            rw [List.getElem?_set_self (by omega)] at huu
            simpa using huu.symm
          · rw [if_neg hj] at hen
            rw [List.getElem?_set_ne hj] at huu
            exact q2' j en2 u hen huu)
        exact ⟨g, p1, trivial, p2, p3⟩
    · exact h.elim
  · exact h.elim
theorem step_mm {o : Oper} {c : Call} {lt : Bool} {x y : Operand} {t t2 : TypeId} {e : Operand → V} {oh : OH} {k : Acc → Prop} (ho : o.op = .call c) (hc : c.callee = .builtin (match lt with | true => .min | false => .max))
    (ha : c.args.toList = [x, y]) (ht : c.argTypes.toList = [t, t2]) (h : smm lt (e x) (e y) fun v => free k (.con v)) : Some P o e oh k := by
  have ha' : c.args = #[x, y] := by rw [← Array.toArray_toList (xs := c.args), ha]
  have ht' : c.argTypes = #[t, t2] := by rw [← Array.toArray_toList (xs := c.argTypes), ht]
  have hmx : x ∈ o.op.operands := by cases lt <;> simp [ho, Op.operands, Call.operands, hc, ha']
  have hmy : y ∈ o.op.operands := by cases lt <;> simp [ho, Op.operands, Call.operands, hc, ha']
  unfold smm at h
  split at h
  · rename_i k1 p k2 q hvx hvy
    obtain ⟨rfl, r, rfl, hk⟩ := h
    refine some_free hk fun g oh' w ρ hr hρ => ?_
    have hρx := hρ x hmx
    have hρy := hρ y hmy
    rw [hvx] at hρx
    rw [hvy] at hρy
    refine ⟨_, ?_, con_of rfl⟩
    cases lt with
    | true => simp [execOp, ho, resolve, hc, ha', ht', invoke, builtin, hρx.1, hρy.1, run_min_int2]
    | false => simp [execOp, ho, resolve, hc, ha', ht', invoke, builtin, hρx.1, hρy.1, run_max_int2]
  · exact h.elim
end
end Go.Ev
