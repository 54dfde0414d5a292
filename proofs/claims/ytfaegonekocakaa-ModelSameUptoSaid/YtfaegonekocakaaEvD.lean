/-
  OWN LAYER 'Ev', PART D: OPERATIONS ON MEMORY: addresses, loads, stores, new blocks.
-/
import Derived.Test.YtfaegonekocakaaEvC
set_option linter.all false
namespace Go.Ev

section
variable {P : Program} {g : Gh} {oh : OH} {w : World}

theorem cells_of_one {x : Value} (h : x.oneCell' = true) : x.cells = #[x] := by cases x <;> simp_all [Value.cells, Value.oneCell']

theorem rdV1_one {v : V} {x : Value} (h : RdV1 g oh v x) (hv : v ≠ .undef) : x.oneCell' = true := by
  cases v with
  | undef => exact absurd rfl hv
  | con v => obtain ⟨rfl, h⟩ := h; exact h
  | ro f t => exact h.2
  | emp => obtain ⟨a, rfl⟩ := h; rfl
  | own id ver off len => exact h.1
  | ref id ver i foff => exact h.1
  | agg l => exact h.elim
  | tup l => exact h.elim

/-- The cells of a value that is no 'undef', no tuple. -/
theorem rd_cells {v : V} {x : Value} (h : RdV g oh v x) (hs : v.solid = true) :
    x.cells.size = v.cells.length ∧ ∀ (j : Nat) (u : V), v.cells[j]? = some u → ∃ c, x.cells[j]? = some c ∧ RdV1 g oh u c ∧ c.oneCell' = true := by
  have one : ∀ v x, RdV1 g oh v x → v ≠ .undef → v.cells = [v] →
      x.cells.size = v.cells.length ∧ ∀ (j : Nat) (u : V), v.cells[j]? = some u → ∃ c, x.cells[j]? = some c ∧ RdV1 g oh u c ∧ c.oneCell' = true := by
    intro v x h hu hc
    have h1 := rdV1_one h hu
    rw [cells_of_one h1, hc]
    refine ⟨rfl, fun j u hj => ?_⟩
    cases j with
    | zero => obtain rfl : v = u := by simpa using hj
              exact ⟨x, rfl, h, h1⟩
    | succ j => simp at hj
  cases v with
  | undef => simp [V.solid] at hs
  | tup l => simp [V.solid] at hs
  | agg l =>
    obtain ⟨cs, rfl, hl, hr⟩ := h
    refine ⟨hl, fun j u hj => ?_⟩
    have hlt : j < cs.size := by
      have := (List.getElem?_eq_some_iff.1 hj).1
      rw [hl]; exact this
    exact ⟨cs[j], by simp [Value.cells, hlt], hr j u cs[j] hj (by simp [hlt])⟩
  | con v => exact one _ _ h (by simp) rfl
  | ro f t => exact one _ _ h (by simp) rfl
  | emp => exact one _ _ h (by simp) rfl
  | own id ver off len => exact one _ _ h (by simp) rfl
  | ref id ver i foff => exact one _ _ h (by simp) rfl

theorem all_one {v : V} {x : Value} (h : RdV g oh v x) (hs : v.solid = true) : ∀ c ∈ x.cells.toList, c.oneCell' = true := by
  obtain ⟨h1, h2⟩ := rd_cells h hs
  intro c hc
  obtain ⟨j, hj, he⟩ := List.mem_iff_getElem.1 hc
  have hj' : j < v.cells.length := by rw [← h1]; simpa using hj
  obtain ⟨c', hc', _, h3⟩ := h2 j v.cells[j] (by simp [hj'])
  have : c' = c := by
    have : x.cells[j]? = some c := by rw [← Array.getElem?_toList, List.getElem?_eq_getElem hj, he]
    rw [hc'] at this; simpa using this
  rw [← this]; exact h3

theorem newId_fresh (oh : OH) : ∀ i o, oget oh i = some o → i < newId oh := by
  induction oh with
  | nil => intro i o h; simp [oget] at h
  | cons p r ih =>
    obtain ⟨c, ob⟩ := p
    intro i o h
    by_cases e : i = c
    · subst e; simp only [newId]; split <;> omega
    · rw [oget_cons_other _ _ e] at h
      have := ih i o h
      simp only [newId]; split <;> omega

theorem newId_none (oh : OH) : oget oh (newId oh) = none := by
  cases h : oget oh (newId oh) with
  | none => rfl
  | some o => exact absurd (newId_fresh oh _ o h) (by omega)

theorem maxLen_pos : 1 ≤ maxLen := by decide

/-- An element that is a value's cells. -/
theorem elAt_value {v : V} {x : Value} (h : RdV g oh v x) (hs : v.solid = true) : ElAt g oh v.cells.length x.cells 0 v :=
  ⟨rfl, fun j u hj => let ⟨c, h1, h2, h3⟩ := (rd_cells h hs).2 j u hj; ⟨c, by simpa using h1, h3, h2⟩⟩

theorem box_out {v : V} {x : Value} (hr : HR g oh w) (h : RdV g oh v x) (hs : v.solid = true) (c : Nat) (hc : oget oh c = none) (ty : TypeId) (pre : OH) :
    Behind g oh w ⟨pre, [c], [(c, ⟨v.cells.length, [v], 0, true⟩)], .ref c 0 0 0⟩ (.pointer (some ⟨w.heap.size, 0, none⟩)) (w.alloc (.cells x.cells ty)) := by
  have hb : BlockAt g oh ⟨v.cells.length, [v], 0, true⟩ 1 x.cells := by
    refine ⟨by simpa using (rd_cells h hs).1, by simp, maxLen_pos, fun k e he => ?_⟩
    cases k with
    | zero => obtain rfl : v = e := by simpa using he
              exact elAt_value h hs
    | succ k => simp at he
  obtain ⟨h1, h2, h3⟩ := hr.place c 1 ⟨v.cells.length, [v], 0, true⟩ x.cells ty (by simp [hc]) hb
  refine ⟨_, h1, ?_, h2, h3⟩
  exact ⟨rfl, ⟨v.cells.length, [v], 0, true⟩, oget_cons_same _ _ _, Nat.le_refl _, fun _ _ => ⟨w.heap.size, by simp [Gh.at], by simp⟩⟩

theorem some_box {o : Oper} {e : Operand → V} {oh : OH} {k : Acc → Prop} {v : V} (hk : sbox oh v k)
    (h : ∀ (g : Gh) (oh : OH) (w : World) (ρ : Operand → Value), HR g oh w → (∀ x, x ∈ o.op.operands → RdV g oh (e x) (ρ x)) →
      ∃ x ty, RdV g oh v x ∧ ((execOp ρ o).run P w = .ok (.value (.pointer (some ⟨w.heap.size, 0, none⟩))) (w.alloc (.cells x.cells ty)))) : Some P o e oh k := by
  obtain ⟨hs, c, hfr, hk⟩ := hk
  refine ⟨_, ?_, ?_, ?_, hk⟩
  · intro g oh' w ρ hr hρ _ hn
    obtain ⟨x, ty, hv, hx⟩ := h g oh' w ρ hr hρ
    rw [hx]
    exact box_out hr hv hs _ (hn _ (by simp)) ty []
  · simp
  · intro i hi
    obtain rfl : i = c := by simpa using hi
    exact hfr

theorem step_box {o : Oper} {t : TypeId} {x : Operand} {e : Operand → V} {oh : OH} {k : Acc → Prop} (ho : o.op = .box t x) (hk : sbox oh (e x) k) : Some P o e oh k :=
  some_box hk fun g oh w ρ _ hρ => ⟨ρ x, t, hρ x (by simp [ho, Op.operands]), by simp [execOp, ho, Instr.box, newVar, newRow]⟩

theorem ofConst1_ok {v : Value} (h : oneC v = true) : RdV1 g oh (V.ofConst1 v) v := by
  rw [oneC_eq] at h
  unfold V.ofConst1
  split
  · exact ⟨none, rfl⟩
  · exact ⟨rfl, h⟩

theorem ofConst_ok (v : Value) : RdV g oh (V.ofConst v) v := by
  unfold V.ofConst
  split
  · rename_i cs
    cases hc : cs.toList.all oneC with
    | false => trivial
    | true =>
      refine ⟨cs, rfl, by simp, fun j u c hu hcj => ?_⟩
      have hm : c ∈ cs.toList := by rw [Array.mem_toList_iff]; exact Array.mem_of_getElem? hcj
      have h1 : oneC c = true := List.all_eq_true.1 hc c hm
      have : V.ofConst1 c = u := by
        rw [List.getElem?_map, Array.getElem?_toList, hcj] at hu; simpa using hu
      rw [← this, ← oneC_eq]
      exact ⟨ofConst1_ok h1, h1⟩
  · trivial
  · rename_i h1 h2
    have : oneC v = true := by cases v <;> first | rfl | exact (h1 _ rfl).elim | exact (h2 _ rfl).elim
    have := ofConst1_ok (g := g) (oh := oh) this
    unfold V.ofConst1 at this ⊢
    split at this <;> exact this

theorem step_alloc {o : Oper} {t : TypeId} {e : Operand → V} {oh : OH} {k : Acc → Prop} (ho : o.op = .alloc t) (hk : sbox oh (tz P t) k) : Some P o e oh k := by
  have hz : ∃ i z, P.info? t = some i ∧ i.zero = some z ∧ tz P t = V.ofConst z := by
    unfold tz
    cases hi : P.info? t with
    | none => have := hk.1; simp [tz, hi, V.solid] at this
    | some i =>
      cases hz : i.zero with
      | none => have := hk.1; simp [tz, hi, hz, V.solid] at this
      | some z => exact ⟨i, z, rfl, hz, by simp [hz]⟩
  obtain ⟨i, z, hi, hz, he⟩ := hz
  rw [he] at hk
  exact some_box hk fun g oh w ρ _ _ => ⟨z, t, ofConst_ok z, by simp [execOp, ho, Instr.alloc, zeroValue, typeInfo, hi, hz, newVar, newRow]⟩

/-! ### addresses -/
theorem rdT_sl {S : Sto} {l : List T} {x : Value} (h : RdT S (.sl l) x) :
    ∃ (a : Option Addr) (cap esz b off : Nat) (c : Nat → Nat → Value), x = .slice a l.length cap ∧ l.length ≤ cap ∧ cap ≤ maxLen ∧ (l ≠ [] → a = some ⟨b, off, none⟩) ∧
      (∀ (i : Nat) (t : T), l[i]? = some t → t.cells.length = esz) ∧
      (∀ (i : Nat) (t : T) (j : Nat), l[i]? = some t → j < t.cells.length → S b (off + i * esz + j) = some (c i j)) ∧
      (∀ (i : Nat) (t : T) (j : Nat), l[i]? = some t → j < t.cells.length → (c i j).oneCell' = true) ∧
      (∀ (i : Nat) (t : T) (j : Nat) (u : T), l[i]? = some t → t.cells[j]? = some u → RdT S u (c i j)) := by
  cases h with
  | sl _ a cap esz b off c hc hm ha hz hs h1 hr => exact ⟨a, cap, esz, b, off, c, rfl, hc, hm, ha, hz, hs, h1, hr⟩

theorem rdT_ptr {S : Sto} {l : List T} {x : Value} (h : RdT S (.ptr l) x) :
    ∃ (b off : Nat) (c : Nat → Value), x = .pointer (some ⟨b, off, none⟩) ∧ (∀ j, j < l.length → S b (off + j) = some (c j)) ∧ (∀ j, j < l.length → (c j).oneCell' = true) ∧
      (∀ (j : Nat) (u : T), l[j]? = some u → RdT S u (c j)) := by
  cases h with
  | ptr _ b off c hs h1 hr => exact ⟨b, off, c, rfl, hs, h1, hr⟩

theorem use_elim {id ver : Nat} {K : Obj → Prop} (h : use oh id ver K) : ∃ o, oget oh id = some o ∧ o.ver = ver ∧ o.live = true ∧ K o := by
  unfold use at h
  split at h
  · rename_i o ho; exact ⟨o, ho, h⟩
  · exact h.elim

theorem some_use {o : Oper} {e : Operand → V} {oh : OH} {k : Acc → Prop} {v : V} {id : Nat} {ob : Obj} (hg : oget oh id = some ob) (hk : k ⟨[(id, ob)], [], [], v⟩)
    (h : ∀ (g : Gh) (oh : OH) (w : World) (ρ : Operand → Value), HR g oh w → (∀ x, x ∈ o.op.operands → RdV g oh (e x) (ρ x)) → oget oh id = some ob →
      ∃ x, ((execOp ρ o).run P w = .ok (.value x) w) ∧ RdV g oh v x) : Some P o e oh k :=
  ⟨_, opd_ok (fun g oh w ρ a b c => h g oh w ρ a b (c id ob (by simp))), by simpa using hg, by simp, hk⟩

theorem step_index {o : Oper} {t : TypeId} {x i : Operand} {e : Operand → V} {oh : OH} {k : Acc → Prop} (ho : o.op = .indexAddr t x i)
    (h : sindex (tk P t) oh (e x) (e i) k) : Some P o e oh k := by
  unfold sindex at h
  split at h
  · rename_i d1 v1 v2 e1 sz by1 ag1 z1 f l k2 n hd hx hi
    obtain ⟨h0, tt, htt, hsz, hk⟩ := h
    · obtain ⟨inf, zv, hu, hinf, _, hs, _⟩ := tk_sl hd
      refine some_free hk fun g oh w ρ hr hρ => ?_
      have hrx := hρ x (by simp [ho, Op.operands])
      have hri := hρ i (by simp [ho, Op.operands])
      rw [hx] at hrx; rw [hi] at hri
      obtain ⟨hri, _⟩ := hri
      obtain ⟨hrx, _⟩ := hrx
      obtain ⟨a, cap, esz, b, off, c, hxe, hlc, hm, ha, hz, hS, h1, hR⟩ := rdT_sl hrx
      have hne : l ≠ [] := fun e => by simp [e] at htt
      have hlt : n.toNat < l.length := (List.getElem?_eq_some_iff.1 htt).1
      have hesz := hz _ _ htt
      have ea := ha hne
      subst ea
      refine ⟨.pointer (some ⟨b, off + n.toNat * inf.size, none⟩), ?_, ?_⟩
      · simp only [execOp, ho]
        refine run_val _ w w _ ?_
        rw [hxe, hri]
        simp [Instr.indexAt, asIntOf, run_underlying hu, sizeOf, typeInfo, hinf, show (0 ≤ n ∧ n < (l.length : Int)) by omega, Addr.add_lit]
      · refine ⟨.ptr tt.cells b _ (fun j => c n.toNat j) (fun j hj => ?_) (fun j hj => h1 _ _ _ htt hj) (fun j u hu' => hR _ _ _ _ htt hu'), rfl⟩
        have := hS _ _ _ htt hj
        rw [← hesz, hsz, ← hs] at this
        exact this
  · rename_i d1 v1 v2 e1 sz by1 ag1 z1 id ver off len k2 n hd hx hi
    obtain ⟨h0, hlen, h⟩ := h
    obtain ⟨ob, hob, hv, hl, hosz, hk⟩ := use_elim h
    obtain ⟨inf, zv, hu, hinf, _, hs, _⟩ := tk_sl hd
    refine some_use hob hk fun g oh w ρ hr hρ hob' => ?_
    have hrx := hρ x (by simp [ho, Op.operands])
    have hri := hρ i (by simp [ho, Op.operands])
    rw [hx] at hrx; rw [hi] at hri
    obtain ⟨hri, _⟩ := hri
    obtain ⟨_, ob', hob2, _, hat⟩ := hrx
    rw [hob'] at hob2
    obtain rfl : ob = ob' := by simpa using hob2
    obtain ⟨a, cap, hxe, hlc, hoff, hcap⟩ := hat hv hl
    obtain ⟨b, hb, ha, hcp⟩ := hcap (by omega)
    subst ha
    refine ⟨.pointer (some ⟨b, off * ob.sz + n.toNat * inf.size, none⟩), ?_, ?_⟩
    · simp only [execOp, ho]
      refine run_val _ w w _ ?_
      rw [hxe, hri]
      simp [Instr.indexAt, asIntOf, run_underlying hu, sizeOf, typeInfo, hinf, show (0 ≤ n ∧ n < (len : Int)) by omega, Addr.add_lit]
    · refine ⟨rfl, ob, hob', by omega, fun _ _ => ⟨b, hb, ?_⟩⟩
      rw [hs, ← hosz, ← Nat.add_mul]; simp
  · exact h.elim

theorem step_field {o : Oper} {t : TypeId} {x : Operand} {f : Nat} {e : Operand → V} {oh : OH} {k : Acc → Prop} (ho : o.op = .fieldAddr t x f)
    (h : sfield (tk P t) oh (e x) f k) : Some P o e oh k := by
  unfold sfield at h
  split at h
  · rename_i fs z hd
    obtain ⟨F, inf, hu, hinf, _, _, _, rfl, _⟩ := tk_st hd
    split at h
    · rename_i off sz hf
      obtain ⟨hsz, h⟩ := h
      have hF : ∃ fl, F[f]? = some fl ∧ fl.offset = off ∧ P.cellsOf fl.type = sz := by
        rw [List.getElem?_map, Array.getElem?_toList] at hf
        cases hfl : F[f]? with
        | none => simp [hfl] at hf
        | some fl => simp [hfl] at hf; exact ⟨fl, rfl, hf⟩
      obtain ⟨fl, hfl, rfl, rfl⟩ := hF
      have hsize : ∃ i, P.info? fl.type = some i ∧ i.size ≠ 0 := by
        unfold Program.cellsOf at hsz
        cases hi : P.info? fl.type with
        | none => simp [hi] at hsz
        | some i => exact ⟨i, rfl, by simpa [hi] using hsz⟩
      obtain ⟨i, hi, hi0⟩ := hsize
      have run : ∀ (b o' : Nat) (w : World), (Instr.fieldAt t (.pointer (some ⟨b, o', none⟩)) f).run P w = .ok (.pointer (some ⟨b, o' + fl.offset, none⟩)) w := fun b o' w => by
        simp [Instr.fieldAt, run_underlying hu, hfl, Instr.sureAddr, fieldPlace, sizeOf, typeInfo, hi, hi0, Addr.add_lit]
      split at h
      · rename_i v1 fr l hx
        obtain ⟨hle, hk⟩ := h
        refine some_free hk fun g oh w ρ hr hρ => ?_
        have hrx := hρ x (by simp [ho, Op.operands])
        rw [hx] at hrx
        obtain ⟨hrx, _⟩ := hrx
        obtain ⟨b, off, c, hxe, hS, h1, hR⟩ := rdT_ptr hrx
        refine ⟨.pointer (some ⟨b, off + fl.offset, none⟩), ?_, ?_⟩
        · simp only [execOp, ho]
          refine run_val _ w w _ ?_
          rw [hxe]; exact run _ _ _
        · refine ⟨.ptr _ b _ (fun j => c (fl.offset + j)) (fun j hj => ?_) (fun j hj => h1 _ (by simp at hj; omega)) (fun j u hu' => hR _ _ (by simpa using hu')), rfl⟩
          have := hS (fl.offset + j) (by simp at hj; omega)
          rw [show off + fl.offset + j = off + (fl.offset + j) by omega]; exact this
      · rename_i v1 id ver ix foff hx
        obtain ⟨ob, hob, hv, hl, hk⟩ := use_elim h
        refine some_use hob hk fun g oh w ρ hr hρ hob' => ?_
        have hrx := hρ x (by simp [ho, Op.operands])
        rw [hx] at hrx
        obtain ⟨_, ob', hob2, _, hat⟩ := hrx
        rw [hob'] at hob2
        obtain rfl : ob = ob' := by simpa using hob2
        obtain ⟨b, hb, hxe⟩ := hat hv hl
        refine ⟨.pointer (some ⟨b, ix * ob.sz + foff + fl.offset, none⟩), ?_, rfl, ob, hob', by omega, fun _ _ => ⟨b, hb, by simp [Nat.add_assoc]⟩⟩
        simp only [execOp, ho]
        refine run_val _ w w _ ?_
        rw [hxe]; exact run _ _ _
      · exact h.elim
    · exact h.elim
  · exact h.elim

end
end Go.Ev
