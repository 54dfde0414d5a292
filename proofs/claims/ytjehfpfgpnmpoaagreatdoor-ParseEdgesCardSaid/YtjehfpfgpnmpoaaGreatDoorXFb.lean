/-
  OWN LAYER 'Ev', PART XFb: OPERATIONS BY COMPUTATION ARE SOUND (maps, arrays).
-/
import Derived.Test.YtjehfpfgpnmpoaaGreatDoorXF
import Derived.MapKept
set_option linter.all false
namespace Go.Ev

section
variable {P : Program}

/-! ### arrays -/
theorem run_part {t : TypeId} {d : TK} (h : tk P t = d) (h0 : 0 < d.size) (w : World) (cs : Array Value) (off : Nat) (hle : off + d.size ≤ cs.size) :
    (part t cs off).run P w = .ok (mkv d.isAgg ((cs.toList.drop off).take d.size)) w := by
  obtain ⟨h1, h2, h3⟩ := tk_agg h h0 w
  unfold part
  cases ha : d.isAgg with
  | true =>
    have h2' := h2 ha
    simp only [Sem.run_bind, h1, ha, Result.andThen_ok, if_true, h2']
    show Result.ok _ w = _
    congr 1
    show Value.agg _ = Value.agg _
    congr 1
    apply Array.ext'
    simp [Array.toList_extract, List.take_drop, Nat.add_sub_cancel_left, List.extract]
  | false =>
    have hs := h3 ha
    have hlt : off < cs.size := by omega
    simp only [Sem.run_bind, h1, ha, Result.andThen_ok, Bool.false_eq_true, if_false, Array.getElem?_eq_getElem hlt]
    show Result.ok _ w = _
    congr 1
    simp only [mkv, cond_false, hs]
    rw [List.drop_eq_getElem_cons (by simpa using hlt)]
    simp

theorem agg_drop {g : Gh} {oh : OH} {l : List V} {cs : Array Value} {d : TK} (h0 : 0 < d.size) (hd1 : d.isAgg = false → d.size = 1) (hl : cs.size = l.length) (hr : ∀ (j : Nat) (v : V) (c : Value), l[j]? = some v → cs[j]? = some c → RdV1 g oh v c ∧ c.oneCell' = true)
    (off : Nat) (hle : off + d.size ≤ l.length) : RdV g oh (V.ofCells d.isAgg ((l.drop off).take d.size)) (mkv d.isAgg ((cs.toList.drop off).take d.size)) := by
  refine ofCells_ok (by simp; omega) (fun ha => ?_) fun j v c hv hc => ?_
  · have := hd1 ha
    simp [this]; omega
  · have hj : j < d.size := by
      have := (List.getElem?_eq_some_iff.1 hv).1; simp at this; omega
    rw [List.getElem?_take_of_lt hj, List.getElem?_drop] at hv hc
    exact hr _ v c hv (by simpa using hc)

theorem step_idxA {tt : TypeId → TK} (htt : ∀ t, tt t = tk P t) {o : Oper} {t : TypeId} {x i : Operand} {e : Operand → V} {oh : OH} {acc : Acc} {len el esz : Nat} {z : List Value} (ho : o.op = .index t x i) (hd : tk P t = .arr len el esz z)
    (hx : xidx tt (.arr len el esz z) (e x) (e i) = some acc) : Some P o e oh fun b => b = acc := by
  obtain ⟨inf, hu, hi, _, _, _, hesz, hel⟩ := tk_arr hd
  unfold xidx at hx
  split at hx
  · rename_i len' el' esz' z' l k n hdd hvx hvi
    cases hdd
    unfold xidxA at hx
    rw [bifO] at hx
    obtain ⟨hc, hx⟩ := hx
    simp only [Bool.and_eq_true, Nat.blt_eq, Nat.ble_eq, Nat.beq_eq] at hc
    obtain ⟨⟨⟨c1, c2⟩, c3⟩, c4⟩ := hc
    cases hx
    rw [htt] at c4 ⊢
    have h0 : 0 < (tk P el).size := by omega
    refine some_pre (by simp) fun g oh' w ρ hr hρ hp => ?_
    have hρx := hρ x (by simp [ho, Op.operands])
    have hρi := hρ i (by simp [ho, Op.operands])
    rw [hvx] at hρx
    rw [hvi] at hρi
    obtain ⟨cs, hxe, hl, hr'⟩ := hρx
    obtain ⟨j, hj⟩ := Option.isSome_iff_exists.1 hel
    have hsz : j.size = esz := by rw [hesz]; simp [Program.cellsOf, hj]
    refine ⟨mkv (tk P el).isAgg ((cs.toList.drop (n * esz)).take (tk P el).size), ?_, ?_⟩
    · simp only [execOp, ho]
      refine run_val _ w w _ ?_
      rw [hxe, hρi.1]
      have hrun := run_part (P := P) (t := el) rfl h0 w cs (n * esz) (by omega)
      have hn : (0 ≤ (Int.ofNat n) ∧ (Int.ofNat n) < (len : Int)) := by simp; exact c1
      simp [Instr.index, asIntOf, run_underlying hu, sizeOf, typeInfo, hj, c1, hsz, hrun]
    · have := agg_drop h0 (tk_agg (P := P) (t := el) rfl h0 w).2.2 hl hr' (n * esz) (by omega)
      rw [c4] at this ⊢; exact this
  · rename_i hdd _ _; cases hdd
  · cases hx

theorem built_arr {t : TypeId} {n el esz : Nat} {z : List Value} (h : tk P t = .arr n el esz z) (parts : List (Nat × Value)) : P.built t parts = Instr.fill (fun i => some (i * esz, esz)) z.toArray parts := by
  obtain ⟨i, hu, hi, hz, _, _, rfl, hall⟩ := tk_arr h
  obtain ⟨j, hj⟩ := Option.isSome_iff_exists.1 hall
  simp [Program.built, hi, hu, hz, hj, Value.cells, Program.cellsOf]

theorem step_buildA {o : Oper} {t : TypeId} {ps : Array (Nat × Operand)} {e : Operand → V} {oh : OH} {acc : Acc} {n el esz : Nat} {z : List Value} (ho : o.op = .build t ps) (hd : tk P t = .arr n el esz z)
    (hx : xbuild (.arr n el esz z) (pairs e ps.toList) = some acc) : Some P o e oh fun b => b = acc := by
  unfold xbuild at hx
  simp only at hx
  split at hx
  · rename_i us hf
    cases hx
    obtain ⟨us', hK, hall⟩ := sfill_ok (fs := (List.range n).map fun j => (j * esz, esz)) (K := fun q => q = us) e ps.toList (z.map V.ofConst1) (xfill_s _ _ _ hf rfl)
    subst hK
    refine some_pre (by simp) fun g oh w ρ hr hρ _ => ?_
    obtain ⟨_, _, _, _, _, hz1, _⟩ := tk_arr hd
    obtain ⟨cs', hc, ha⟩ := hall ρ g oh z.toArray (along_const z hz1) (fun p hp => hρ p.2 (by
      simp only [ho, Op.operands]
      exact List.mem_toArray.2 (List.mem_map.2 ⟨p, hp, rfl⟩)))
    refine ⟨.agg cs', ?_, cs', rfl, ha.1, ha.2⟩
    simp only [execOp, ho]
    refine run_val _ w w _ (run_build w t _ cs' ?_)
    rw [built_arr hd]
    refine fill_more (pl := (((List.range n).map fun j => (j * esz, esz)).toArray[·]?)) (fun i r hir => ?_) _ _ _ ?_
    · have hi : i < n := by
        by_cases h : i < n
        · exact h
        · simp [h] at hir
      simpa [hi] using hir
    · simpa using hc
  · cases hx

theorem step_indexA {o : Oper} {t : TypeId} {x i : Operand} {e : Operand → V} {oh : OH} {h : Hp} {acc : Acc} {len el esz : Nat} {z : List Value} (hh : ∀ i, oget oh i = h i) (ho : o.op = .indexAddr t x i) (hd : tk P t = .arr len el esz z)
    (hx : xindex (.arr len el esz z) h (e x) (e i) = some acc) : Some P o e oh fun b => b = acc := by
  obtain ⟨inf, hu, hi, _, _, _, hesz, hel⟩ := tk_arr hd
  obtain ⟨j, hj⟩ := Option.isSome_iff_exists.1 hel
  have hsz : j.size = esz := by rw [hesz]; simp [Program.cellsOf, hj]
  unfold xindex at hx
  split at hx
  · rename_i hdd _ _; cases hdd
  · rename_i len' el' esz' z' id ver jj foff k n hdd hvx hvi
    cases hdd
    rw [bifO] at hx
    obtain ⟨hc, hx⟩ := hx
    rw [Nat.blt_eq] at hc
    split at hx
    · rename_i ob hus
      cases hx
      obtain ⟨h1, h2, h3, h4⟩ := xuse_spec hus
      refine some_pre (fun q ob' hm => by
        have hm : q = id ∧ ob' = ob := by simpa using hm
        rw [hm.1, hm.2, hh]; exact h1) fun g oh' w ρ hr hρ hp => ?_
      have hob := hp id ob (by simp)
      have hρx := hρ x (by simp [ho, Op.operands])
      have hρi := hρ i (by simp [ho, Op.operands])
      rw [hvx] at hρx
      rw [hvi] at hρi
      obtain ⟨b, hb, hbx⟩ := ref_val hρx hob h2 h3
      refine ⟨.pointer (some ⟨b, jj * ob.sz + foff + n * esz, none⟩), ?_, rfl, ob, hob, by omega, fun _ _ => ⟨b, hb, by rw [Nat.add_assoc]⟩⟩
      simp only [execOp, ho]
      refine run_val _ w w _ ?_
      rw [hbx, hρi.1]
      simp [Instr.indexAt, asIntOf, run_underlying hu, sizeOf, typeInfo, hj, hc, hsz, Addr.add_lit, Instr.sureAddr]
    · cases hx
  · cases hx

end
end Go.Ev
