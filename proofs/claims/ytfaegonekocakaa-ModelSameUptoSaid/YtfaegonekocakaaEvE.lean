/-
  OWN LAYER 'Ev', PART E: LOADS, STORES, STRUCTS, SLICES.
-/
import Derived.Test.YtfaegonekocakaaEvD
set_option linter.all false
namespace Go.Ev

section
variable {P : Program} {g : Gh} {oh : OH} {w : World}

def mkv (agg : Bool) (cs : List Value) : Value := bif agg then .agg cs.toArray else cs.headD Go.undef

theorem tk_agg {t : TypeId} {d : TK} (h : tk P t = d) (h0 : 0 < d.size) (w : World) : (isAgg t).run P w = .ok d.isAgg w ∧ (d.isAgg = true → (sizeOf t).run P w = .ok d.size w) ∧ (d.isAgg = false → d.size = 1) := by
  cases d with
  | bool => simp [isAgg, run_underlying (tk_bool h), TK.isAgg, TK.size]
  | int k => simp [isAgg, run_underlying (tk_int h), TK.isAgg, TK.size]
  | str => simp [isAgg, run_underlying (tk_str h), TK.isAgg, TK.size]
  | ptr => obtain ⟨e, hu⟩ := tk_ptr h; simp [isAgg, run_underlying hu, TK.isAgg, TK.size]
  | sl e sz bt ag z => obtain ⟨i, zv, hu, _⟩ := tk_sl h; simp [isAgg, run_underlying hu, TK.isAgg, TK.size]
  | st fs z => obtain ⟨F, i, hu, hi, _, hs, _⟩ := tk_st h; simp [isAgg, run_underlying hu, TK.isAgg, TK.size, sizeOf, typeInfo, hi, hs]
  | other => simp [TK.size] at h0

theorem run_loadVar {t : TypeId} {d : TK} (h : tk P t = d) (h0 : 0 < d.size) (b off : Nat) (cs : List Value) (hl : cs.length = d.size)
    (hc : ∀ (j : Nat) (v : Value), cs[j]? = some v → w.cell? ⟨b, off + j, none⟩ = some v) : (loadVar t ⟨b, off, none⟩).run P w = .ok (mkv d.isAgg cs) w := by
  obtain ⟨h1, h2, h3⟩ := tk_agg h h0 w
  cases ha : d.isAgg with
  | true =>
    have hr := run_loadCells_list (P := P) w ⟨b, off, none⟩ cs (fun j v hv => by rw [Addr.add_lit]; exact hc j v hv)
    rw [hl] at hr
    simp [loadVar, h1, ha, h2 ha, hr, mkv]
  | false =>
    have h1' := h3 ha
    match cs, hl with
    | [c], _ =>
      have := hc 0 c rfl
      simp only [Nat.add_zero] at this
      simp [loadVar, h1, ha, this, mkv]
    | [], hl => simp at hl; omega
    | _ :: _ :: _, hl => simp at hl; omega

theorem ofCells_ok {ag : Bool} {vs : List V} {cs : List Value} (hl : vs.length = cs.length) (h1 : ag = false → cs.length = 1)
    (hr : ∀ (j : Nat) (v : V) (c : Value), vs[j]? = some v → cs[j]? = some c → RdV1 g oh v c ∧ c.oneCell' = true) : RdV g oh (V.ofCells ag vs) (mkv ag cs) := by
  cases ag with
  | true => exact ⟨cs.toArray, rfl, by simp [hl], fun j v c hv hc => hr j v c hv (by simpa using hc)⟩
  | false =>
    have hc1 := h1 rfl
    match vs, cs, hl, hr with
    | [v], [c], _, hr =>
      obtain ⟨h, h1⟩ := hr 0 v c rfl rfl
      simp only [V.ofCells, mkv, cond_false, List.headD_cons]
      cases v <;> first | exact h | exact h.elim
    | [], cs, hl, _ => simp at hl; omega
    | _ :: _ :: _, cs, hl, _ => simp at hl; omega

theorem ofT1_ok {f : Bool} {t : T} {v : Value} (h : RdT (g.sto f) t v) (h1 : v.oneCell' = true) : RdV1 g oh (V.ofT1 f t) v := by
  unfold V.ofT1
  split
  · cases h with | con _ h => exact ⟨rfl, h⟩
  · exact ⟨h, h1⟩

theorem ofA_ok {f : Bool} {t : T} {v : Value} (h : RdT (g.sto f) t v) (h1 : (∀ l, t ≠ .agg l) → v.oneCell' = true) : RdA g oh (V.ofA f t) v := by
  unfold V.ofA
  split
  · cases h with
    | agg l cs hl h1' hr =>
      refine ⟨cs, rfl, by simpa using hl, fun j u c hu hc => ?_⟩
      rw [List.getElem?_map] at hu
      obtain ⟨t', ht, rfl⟩ := Option.map_eq_some_iff.1 hu
      exact ⟨ofT1_ok (hr j t' c ht hc) (h1' j c hc), h1' j c hc⟩
  · rename_i hne
    have := ofT1_ok (g := g) (oh := oh) h (h1 (fun l e => hne l e))
    unfold V.ofT1 at this ⊢
    split at this <;> exact this

theorem one_of_rdT {S : Sto} {t : T} {v : Value} (h : RdT S t v) (h1 : ∀ l, t ≠ .agg l) (h2 : ∀ l, t ≠ .tup l) : v.oneCell' = true := by
  cases h with
  | con _ h => exact h
  | sl => rfl
  | ptr => rfl
  | agg l => exact absurd rfl (h1 l)
  | tup l => exact absurd rfl (h2 l)

theorem sload_ok {t : TypeId} {xv : V} {oh : OH} {k : Acc → Prop} (h : sload (tk P t) oh xv k) :
    ∃ pre v, k ⟨pre, [], [], v⟩ ∧ (∀ i ob, (i, ob) ∈ pre → oget oh i = some ob) ∧ ∀ (g : Gh) (oh' : OH) (w : World) (xx : Value), HR g oh' w → RdV g oh' xv xx →
      (∀ i ob, (i, ob) ∈ pre → oget oh' i = some ob) → ∃ r, (Instr.loadAt t xx).run P w = .ok r w ∧ RdV g oh' v r := by
  unfold sload at h
  split at h
  · rename_i v1 f l
    obtain ⟨h0, hle, hk⟩ := h
    refine ⟨[], _, hk, by simp, fun g oh w xx hr hrx _ => ?_⟩
    obtain ⟨hrx, _⟩ := hrx
    obtain ⟨b, off, c, hxe, hS, h1, hR⟩ := rdT_ptr hrx
    have hG : ∀ b o c, g.sto f b o = some c → w.cell? ⟨b, o, none⟩ = some c := by
      intro b o c h
      cases f
      · exact hr.hG b o c h
      · exact hr.hG b o c (hr.hF b o c h)
    refine ⟨mkv (tk P t).isAgg ((List.range (tk P t).size).map c), ?_, ?_⟩
    · rw [hxe]
      simp only [Instr.loadAt, Instr.sureAddr]
      show (loadVar t ⟨b, off, none⟩).run P w = _
      refine run_loadVar rfl h0 b off _ (by simp) fun j v hv => ?_
      rw [List.getElem?_map] at hv
      obtain ⟨j', hj', rfl⟩ := Option.map_eq_some_iff.1 hv
      have hlt : j < (tk P t).size := by have := List.getElem?_eq_some_iff.1 hj'; simpa using this.1
      obtain rfl : j = j' := by rw [List.getElem?_range hlt] at hj'; simpa using hj'
      exact hG _ _ _ (hS j (by omega))
    · refine ofCells_ok (by simp; omega) (fun ha => by simpa using (tk_agg (P := P) (t := t) rfl h0 w).2.2 ha) fun j v cc hv hc => ?_
      rw [List.getElem?_map] at hv hc
      obtain ⟨u, hu, rfl⟩ := Option.map_eq_some_iff.1 hv
      obtain ⟨j', hj', rfl⟩ := Option.map_eq_some_iff.1 hc
      have hlt : j < (tk P t).size := by have := List.getElem?_eq_some_iff.1 hj'; simpa using this.1
      obtain rfl : j = j' := by rw [List.getElem?_range hlt] at hj'; simpa using hj'
      have hu' : l[j]? = some u := by rw [List.getElem?_take_of_lt hlt] at hu; exact hu
      exact ⟨ofT1_ok (hR j u hu') (h1 j (by omega)), h1 j (by omega)⟩
  · rename_i v1 id ver i foff
    obtain ⟨ob, hob, hv, hl, h⟩ := use_elim h
    obtain ⟨el, hel, h0, hle, hk⟩ := h
    · skip
      refine ⟨_, _, hk, by simpa using hob, fun g oh w xx hr hrx hpre => ?_⟩
      have hob' := hpre id ob (by simp)
      obtain ⟨_, ob', hob2, _, hat⟩ := hrx
      rw [hob'] at hob2
      obtain rfl : ob = ob' := by simpa using hob2
      obtain ⟨b, hb, hxe⟩ := hat hv hl
      obtain ⟨arr, ty, hh, _, hbs, _, _, hels⟩ := (hr.obj id ob hob' hl).2 b hb
      obtain ⟨hes, hec⟩ := hels i el hel
      have hcell : ∀ j, w.cell? ⟨b, j, none⟩ = arr[j]? := fun j => cell_of_row w b j arr ty _ hh
      refine ⟨mkv (tk P t).isAgg ((List.range (tk P t).size).map fun j => arr.getD (i * ob.sz + foff + j) Go.undef), ?_, ?_⟩
      · rw [hxe]
        simp only [Instr.loadAt, Instr.sureAddr]
        show (loadVar t ⟨b, i * ob.sz + foff, none⟩).run P w = _
        refine run_loadVar rfl h0 b _ _ (by simp) fun j v hv => ?_
        rw [List.getElem?_map] at hv
        obtain ⟨j', hj', rfl⟩ := Option.map_eq_some_iff.1 hv
        have hlt : j < (tk P t).size := by have := List.getElem?_eq_some_iff.1 hj'; simpa using this.1
        obtain rfl : j = j' := by rw [List.getElem?_range hlt] at hj'; simpa using hj'
        obtain ⟨c, hc, _⟩ := hec (foff + j) (el.cells[foff + j]'(by omega)) (by simp)
        rw [hcell, ← Array.getElem?_toList]
        have : arr[i * ob.sz + foff + j]? = some c := by rw [show i * ob.sz + foff + j = i * ob.sz + (foff + j) by omega]; exact hc
        simp [Array.getD_eq_getD_getElem?, this]
      · refine ofCells_ok (by simp; omega) (fun ha => by simpa using (tk_agg (P := P) (t := t) rfl h0 w).2.2 ha) fun j v cc hv hc => ?_
        rw [List.getElem?_map] at hc
        obtain ⟨j', hj', rfl⟩ := Option.map_eq_some_iff.1 hc
        have hlt : j < (tk P t).size := by have := List.getElem?_eq_some_iff.1 hj'; simpa using this.1
        obtain rfl : j = j' := by rw [List.getElem?_range hlt] at hj'; simpa using hj'
        have hu' : el.cells[foff + j]? = some v := by rw [List.getElem?_take_of_lt hlt, List.getElem?_drop] at hv; exact hv
        obtain ⟨c, hc, hc1, hc2⟩ := hec (foff + j) v hu'
        have : arr[i * ob.sz + foff + j]? = some c := by rw [show i * ob.sz + foff + j = i * ob.sz + (foff + j) by omega]; exact hc
        simp only [Array.getD_eq_getD_getElem?, this, Option.getD_some]
        exact ⟨hc2, hc1⟩
  · exact h.elim

theorem step_load {o : Oper} {t : TypeId} {x : Operand} {e : Operand → V} {oh : OH} {k : Acc → Prop} (ho : o.op = .load t x)
    (h : sload (tk P t) oh (e x) k) : Some P o e oh k := by
  obtain ⟨pre, v, hk, hp, hall⟩ := sload_ok h
  refine ⟨_, opd_ok (fun g oh w ρ hr hρ hpre => ?_), hp, by simp, hk⟩
  obtain ⟨r, h1, h2⟩ := hall g oh w (ρ x) hr (hρ x (by simp [ho, Op.operands])) hpre
  refine ⟨r, ?_, h2⟩
  simp only [execOp, ho]
  exact run_val _ w w _ h1

theorem splice_get {α : Type} {l xs : List α} {off : Nat} (h : off + xs.length ≤ l.length) (j : Nat) :
    (splice l off xs)[j]? = if off ≤ j ∧ j < off + xs.length then xs[j - off]? else l[j]? := by
  unfold splice
  by_cases h1 : j < off
  · rw [List.append_assoc, List.getElem?_append_left (by simp; omega), List.getElem?_take_of_lt h1, if_neg (by omega)]
  · by_cases h2 : j < off + xs.length
    · rw [if_pos (by omega), List.getElem?_append_left (by simp; omega), List.getElem?_append_right (by simp; omega)]
      congr 1; simp; omega
    · rw [if_neg (by omega), List.getElem?_append_right (by simp; omega), List.getElem?_drop]
      congr 1; simp; omega

theorem splice_length {α : Type} {l xs : List α} {off : Nat} (h : off + xs.length ≤ l.length) : (splice l off xs).length = l.length := by
  unfold splice; simp; omega

theorem put_cells {e : V} {off : Nat} {xs : List V} (h : off + xs.length ≤ e.cells.length) (h0 : 0 < xs.length) (hx : ∀ x ∈ xs, ∀ l, x ≠ .agg l) :
    (e.put off xs).cells = splice e.cells off xs := by
  have one : e.cells = [e] → (V.ofCells false xs).cells = splice e.cells off xs := by
    intro he
    rw [he] at h ⊢
    simp at h
    match xs, h0, hx with
    | [y], _, hx =>
      obtain rfl : off = 0 := by simp at h; omega
      have := hx y (by simp)
      cases y <;> first | rfl | exact absurd rfl (this _)
    | _ :: _ :: _, _, _ => simp at h; omega
  cases e with
  | agg l => rfl
  | _ => exact one rfl

theorem cells_not_agg {v : V} {x : Value} (h : RdV g oh v x) (hs : v.solid = true) : ∀ y ∈ v.cells, ∀ l, y ≠ .agg l := by
  intro y hy l e
  obtain ⟨j, hj, he⟩ := List.mem_iff_getElem.1 hy
  obtain ⟨c, _, hc, _⟩ := (rd_cells h hs).2 j y (by simp [hj, he])
  rw [e] at hc; exact hc

theorem step_store {o : Oper} {t : TypeId} {x v : Operand} {e : Operand → V} {oh : OH} {k : Acc → Prop} (ho : o.op = .store t x v)
    (h : sstore (tk P t) oh (e x) (e v) k) : Some P o e oh k := by
  unfold sstore at h
  split at h
  · rename_i v1 id ver i foff hx
    obtain ⟨ob, hob, hv, hl, h⟩ := use_elim h
    obtain ⟨el, hel, hsol, h0, hvl, hle, hk⟩ := h
    · skip
      refine ⟨_, ?_, by simpa using hob, by simp, hk⟩
      intro g oh' w ρ hr hρ hpre _
      have hob' := hpre id ob (by simp)
      have hrx := hρ x (by simp [ho, Op.operands])
      have hrv := hρ v (by simp [ho, Op.operands])
      rw [hx] at hrx
      obtain ⟨_, ob', hob2, _, hat⟩ := hrx
      rw [hob'] at hob2
      obtain rfl : ob = ob' := by simpa using hob2
      obtain ⟨b, hb, hxe⟩ := hat hv hl
      obtain ⟨arr, ty, hh, _, hbs, hbl, hbm, hels⟩ := (hr.obj id ob hob' hl).2 b hb
      obtain ⟨hes, hec⟩ := hels i el hel
      obtain ⟨hcs, hcc⟩ := rd_cells hrv hsol
      have hil : i < ob.el.length := (List.getElem?_eq_some_iff.1 hel).1
      have hend : i * ob.sz + ob.sz ≤ arr.size := by
        rw [hbs, ← Nat.succ_mul]; exact Nat.mul_le_mul_right _ (by omega)
      have hlen : (ρ v).cells.toList.length = (e v).cells.length := by simpa using hcs
      have hput := put_cells (e := el) (off := foff) (xs := (e v).cells) (by omega) (by omega) (cells_not_agg hrv hsol)
      have hrun := run_storeCells_at P b (i * ob.sz + foff) ty (ρ v).cells.toList 0 arr w hh (by rw [hlen]; omega) (all_one hrv hsol)
      have hcsE : arr.toList.take (i * ob.sz + foff + 0) ++ (ρ v).cells.toList ++ arr.toList.drop (i * ob.sz + foff + 0 + (ρ v).cells.toList.length) = splice arr.toList (i * ob.sz + foff) (ρ v).cells.toList := by
        simp [splice]
      rw [hcsE] at hrun
      have hsp : i * ob.sz + foff + (ρ v).cells.toList.length ≤ arr.toList.length := by rw [hlen]; simp; omega
      have hw := hr.write id b ob ⟨ob.sz, ob.el.set i (el.put foff (e v).cells), ob.ver, ob.live⟩ arr (splice arr.toList (i * ob.sz + foff) (ρ v).cells.toList).toArray ty hob' hl hb hh rfl (Nat.le_refl _) (by simp) ?_
      · obtain ⟨w1, w2, w3⟩ := hw
        have hex : (execOp ρ o).run P w = .ok .skip (w.setRow b (splice arr.toList (i * ob.sz + foff) (ρ v).cells.toList).toArray) := by
          have hszt : (sizeOf t).run P w = .ok (ρ v).cells.size w := by
            rw [hcs, hvl]
            obtain ⟨_, h2, h3⟩ := tk_agg (P := P) (t := t) rfl h0 w
            cases ha : (tk P t).isAgg with
            | true => exact h2 ha
            | false =>
              rw [h3 ha]
              exact tk_one rfl (fun fs z e => by rw [e] at ha; simp [TK.isAgg] at ha) (fun e => by rw [e] at h0; simp [TK.size] at h0) w
          simp only [execOp, ho, hxe, Instr.storeAt, Instr.sureAddr, storeVar]
          simp [hszt, hrun]
        rw [hex]
        exact ⟨g, w1, trivial, w2, w3⟩
      · refine ⟨?_, by simpa using hbl, hbm, fun k' e' he' => ?_⟩
        · simp only [List.size_toArray, splice_length hsp]; simpa using hbs
        · have hget : ∀ p, (splice arr.toList (i * ob.sz + foff) (ρ v).cells.toList).toArray[p]? = if i * ob.sz + foff ≤ p ∧ p < i * ob.sz + foff + (e v).cells.length then (ρ v).cells[p - (i * ob.sz + foff)]? else arr[p]? := by
            intro p
            rw [List.getElem?_toArray, splice_get hsp, hlen]; simp
          by_cases hk : k' = i
          · subst hk
            obtain rfl : el.put foff (e v).cells = e' := by
              have he2 : (ob.el.set k' (el.put foff (e v).cells))[k']? = some e' := he'
              rw [List.getElem?_set_self hil] at he2; simpa using he2
            refine ⟨by rw [hput, splice_length (by omega)]; exact hes, fun j u hj => ?_⟩
            rw [hput, splice_get (by omega)] at hj
            rw [hget]
            by_cases hin : foff ≤ j ∧ j < foff + (e v).cells.length
            · rw [if_pos hin] at hj
              rw [if_pos (by show k' * ob.sz + foff ≤ k' * ob.sz + j ∧ k' * ob.sz + j < _; omega)]
              obtain ⟨c, h1, h2, h3⟩ := hcc _ u hj
              refine ⟨c, ?_, h3, h2⟩
              show (ρ v).cells[k' * ob.sz + j - (k' * ob.sz + foff)]? = some c
              rw [show k' * ob.sz + j - (k' * ob.sz + foff) = j - foff by omega]; exact h1
            · rw [if_neg hin] at hj
              rw [if_neg (by show ¬ (k' * ob.sz + foff ≤ k' * ob.sz + j ∧ k' * ob.sz + j < _); omega)]
              exact hec j u hj
          · have he2 : (ob.el.set i (el.put foff (e v).cells))[k']? = some e' := he'
            rw [List.getElem?_set_ne (by omega)] at he2
            obtain ⟨q1, q2⟩ := hels k' e' he2
            refine ⟨q1, fun j u hj => ?_⟩
            rw [hget, if_neg]
            · exact q2 j u hj
            · have hjl : j < ob.sz := by rw [← q1]; exact (List.getElem?_eq_some_iff.1 hj).1
              rintro ⟨c1, c2⟩
              have c1 : i * ob.sz + foff ≤ k' * ob.sz + j := c1
              have c2 : k' * ob.sz + j < i * ob.sz + foff + (e v).cells.length := c2
              rcases Nat.lt_or_gt_of_ne hk with hlt | hgt
              · have : (k' + 1) * ob.sz ≤ i * ob.sz := Nat.mul_le_mul_right _ hlt
                rw [Nat.succ_mul] at this; omega
              · have : (i + 1) * ob.sz ≤ k' * ob.sz := Nat.mul_le_mul_right _ hgt
                rw [Nat.succ_mul] at this; omega
  · exact h.elim

end
end Go.Ev
