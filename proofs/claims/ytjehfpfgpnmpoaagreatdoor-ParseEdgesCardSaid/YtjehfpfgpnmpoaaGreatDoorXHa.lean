/-
  OWN LAYER 'Ev', PART XHa: A ROW OF BYTES HANDED ON AS A STRING (package unsafe).
-/
import Derived.Test.YtjehfpfgpnmpoaaGreatDoorXG
import Derived.Lib.UnsafeStr
set_option linter.all false
namespace Go.Ev

section
variable {P : Program} {g : Gh} {oh : OH} {w : World}

/-- An object ends: its block may be turned. -/
theorem HR.kill (h : HR g oh w) (c b : Nat) (o ob : Obj) (w' : World) (ho : oget oh c = some o) (hol : o.live = true)
    (hmc : g.m c = some b) (hd : ob.live = false) (hver : o.ver ≤ ob.ver)
    (hos : w'.os = w.os) (htape : w'.tape = w.tape) (hout : w'.output = w.output) (hsize : w'.heap.size = w.heap.size) (hother : ∀ k, k ≠ b → w'.heap[k]? = w.heap[k]?) :
    HR g ((c, ob) :: oh) w' ∧ Mono g oh g ((c, ob) :: oh) ∧ Fr g oh w g ((c, ob) :: oh) w' := by
  have hm : Mono g oh g ((c, ob) :: oh) := by
    refine RdV1.lift (fun _ _ _ h => h) (fun _ _ _ h => h) fun id o' ho' => ?_
    by_cases e : id = c
    · subst e
      rw [ho] at ho'
      obtain rfl : o = o' := by simpa using ho'
      exact ⟨ob, oget_cons_same _ _ _, hver, fun e' hl => by rw [hd] at hl; cases hl⟩
    · exact ⟨o', (oget_cons_other _ _ e).trans ho', Nat.le_refl _, fun _ hl => ⟨hl, rfl, Nat.le_refl _, rfl, rfl⟩⟩
  have hGb : ∀ off, g.G b off = none := by
    obtain ⟨go1, _, hg, _⟩ := (h.obj c o ho hol).2 b hmc
    exact hg
  refine ⟨⟨h.base, ?_, h.hF, ?_, ?_⟩, hm, ⟨rfl, hos, htape, hout, by omega, ?_, ?_, fun _ _ _ h => h, fun _ _ _ h => h, fun _ _ _ h => .inl h, fun _ _ _ h => .inl h⟩⟩
  · intro b' off c' hc
    have hne : b' ≠ b := fun e => by rw [e, hGb] at hc; cases hc
    rw [cell_of_heap (hother b' hne)]
    exact h.hG b' off c' hc
  · intro i o' ho' hol'
    by_cases e : i = c
    · subst e
      rw [oget_cons_same] at ho'
      obtain rfl : ob = o' := by simpa using ho'
      rw [hd] at hol'; cases hol'
    · rw [oget_cons_other _ _ e] at ho'
      obtain ⟨h1, h2⟩ := h.obj i o' ho' hol'
      refine ⟨h1, fun b' hb' => ?_⟩
      obtain ⟨go1, hh', hg, hbl⟩ := h2 b' hb'
      have hne : b' ≠ b := fun e' => e (h.inj i c o' o b ho' ho hol' hol (e' ▸ hb') hmc)
      exact ⟨go1, by rw [hother b' hne]; exact hh', hg, hbl.mono hm⟩
  · intro i j oi oj b' hi hj hli hlj hmi hmj
    by_cases ei : i = c
    · subst ei
      rw [oget_cons_same] at hi
      obtain rfl : ob = oi := by simpa using hi
      rw [hd] at hli; cases hli
    · by_cases ej : j = c
      · subst ej
        rw [oget_cons_same] at hj
        obtain rfl : ob = oj := by simpa using hj
        rw [hd] at hlj; cases hlj
      · rw [oget_cons_other _ _ ei] at hi
        rw [oget_cons_other _ _ ej] at hj
        exact h.inj i j oi oj b' hi hj hli hlj hmi hmj
  · intro b' hlt hn
    exact hother b' fun e => hn (e ▸ ⟨c, o, ho, hol, hmc⟩)
  · rintro b' ⟨i, o', ho', hol', hmi⟩
    left
    by_cases e : i = c
    · subst e
      exact ⟨i, o, ho, hol, hmi⟩
    · exact ⟨i, o', by rw [oget_cons_other _ _ e] at ho'; exact ho', hol', hmi⟩

theorem freeze_facts (w : World) (a : Addr) (n : Nat) : (w.freeze a n).os = w.os ∧ (w.freeze a n).tape = w.tape ∧ (w.freeze a n).output = w.output ∧ (w.freeze a n).heap.size = w.heap.size ∧ ∀ k, k ≠ a.block → (w.freeze a n).heap[k]? = w.heap[k]? := by
  unfold World.freeze
  split
  · exact ⟨rfl, rfl, rfl, rfl, fun _ _ => rfl⟩
  · refine ⟨rfl, rfl, rfl, by simp, fun k hk => ?_⟩
    simp only [Array.getElem?_modify]
    rw [if_neg fun e => hk e.symm]

theorem xrowsOf_spec {h : Hp} {id ver : Nat} {o : Obj} {t : TypeId} (hu : xrowsOf h id ver = some (o, t)) : h id = some o ∧ o.ver = ver ∧ o.live = true ∧ o.k = .rows t := by
  unfold xrowsOf at hu
  split at hu
  · rename_i o' hl
    obtain ⟨h1, h2, h3⟩ := xlive_spec hl
    split at hu
    · rename_i t' hk
      cases hu
      exact ⟨h1, h2, h3, hk⟩
    · cases hu
  · cases hu

theorem cells_u8 {t : TypeId} (h : tk P t = .int .u8) : P.cellsOf t = 1 := by
  unfold tk at h
  split at h
  · split at h <;> first | (split at h <;> (try split at h) <;> cases h; done) | cases h
  · split at h <;> first | (split at h <;> (try split at h) <;> cases h; done) | cases h
  · split at h
    · rename_i hc; exact Nat.eq_of_beq_eq_true hc
    · cases h
  · cases h

theorem step_sdata {o : Oper} {c : Call} {x : Operand} {t : TypeId} {e : Operand → V} {oh : OH} {h : Hp} {acc : Acc} (hh : ∀ i, oget oh i = h i) (ho : o.op = .call c) (hc : c.callee = .builtin .unsafeSliceData)
    (ha : c.args.toList = [x]) (ht : c.argTypes.toList = [t]) (hx : xsdata h (e x) = some acc) : Some P o e oh fun b => b = acc := by
  have ha' : c.args = #[x] := by rw [← Array.toArray_toList (xs := c.args), ha]
  have ht' : c.argTypes = #[t] := by rw [← Array.toArray_toList (xs := c.argTypes), ht]
  have hmx : x ∈ o.op.operands := by simp [ho, Op.operands, Call.operands, hc, ha']
  have run : ∀ (ρ : Operand → Value) (w w' : World) (v : Value), (Builtin.unsafeSliceData_ #[t] o.type #[ρ x]).run P w = .ok v w' → (execOp ρ o).run P w = .ok (.value v) w' := by
    intro ρ w w' v hv
    simp [execOp, ho, resolve, hc, ha', ht', invoke, builtin, hv]
  unfold xsdata at hx
  split at hx
  · rename_i id ver off len hv
    rw [bifO] at hx
    obtain ⟨hlen, hx⟩ := hx
    have hlen : 0 < len := by simpa using hlen
    split at hx
    · rename_i ob hu
      cases hx
      obtain ⟨h1, h2, h3, h4⟩ := xuse_spec hu
      refine some_pre (fun j ob' hm => by
        have hm : j = id ∧ ob' = ob := by simpa using hm
        rw [hm.1, hm.2, hh]; exact h1) fun g oh' w ρ hr hρ hp => ?_
      have hob := hp id ob (by simp)
      have hρx := hρ x hmx
      rw [hv] at hρx
      obtain ⟨a, cap, hxe, hlc, hoff, hcap⟩ := own_val hρx hob h2 h3
      obtain ⟨b, hb, rfl, hcp⟩ := hcap (by omega)
      refine ⟨.pointer (some ⟨b, off * ob.sz, none⟩), run ρ w w (.pointer (some ⟨b, off * ob.sz, none⟩)) ?_, ?_⟩
      · rw [hxe]; exact Lib.run_unsafeSliceData_row w _ _ _ _ _ (by omega)
      · exact ⟨rfl, ob, hob, by omega, fun _ _ => ⟨b, hb, by simp⟩⟩
    · cases hx
  · rename_i hv
    cases hx
    refine some_pre (by simp) fun g oh' w ρ hr hρ hp => ?_
    have hρx := hρ x hmx
    rw [hv] at hρx
    obtain ⟨a, hxe, hn⟩ := hρx
    obtain rfl := hn rfl
    exact ⟨_, run ρ w w _ (by rw [hxe]; exact Lib.run_unsafeSliceData_nil w _ _ _ _), con_of rfl⟩
  · cases hx

theorem step_ustr {tb : Tb} (tf : TbF P tb) {o : Oper} {c : Call} {x y : Operand} {t t2 : TypeId} {e : Operand → V} {oh : OH} {h : Hp} {acc : Acc} (hh : ∀ i, oget oh i = h i) (ho : o.op = .call c) (hc : c.callee = .builtin .unsafeString)
    (ha : c.args.toList = [x, y]) (ht : c.argTypes.toList = [t, t2]) (hx : xustr (tk P t) (fun e => isU8 (tk P e)) h (e x) (e y) = some acc) : Some P o e oh fun b => b = acc := by
  have ha' : c.args = #[x, y] := by rw [← Array.toArray_toList (xs := c.args), ha]
  have ht' : c.argTypes = #[t, t2] := by rw [← Array.toArray_toList (xs := c.argTypes), ht]
  have hmx : x ∈ o.op.operands := by simp [ho, Op.operands, Call.operands, hc, ha']
  have hmy : y ∈ o.op.operands := by simp [ho, Op.operands, Call.operands, hc, ha']
  have run : ∀ (ρ : Operand → Value) (w w' : World) (v : Value), (Builtin.unsafeString_ #[t, t2] o.type #[ρ x, ρ y]).run P w = .ok v w' → (execOp ρ o).run P w = .ok (.value v) w' := by
    intro ρ w w' v hv
    simp [execOp, ho, resolve, hc, ha', ht', invoke, builtin, hv]
  unfold xustr at hx
  split at hx
  · rename_i n hvx hvy
    rw [bifO] at hx
    obtain ⟨h0, hx⟩ := hx
    have h0 := Nat.eq_of_beq_eq_true h0
    subst h0
    cases hx
    refine some_pre (by simp) fun g oh' w ρ hr hρ hp => ?_
    have hρx := hρ x hmx
    have hρy := hρ y hmy
    rw [hvx] at hρx
    rw [hvy] at hρy
    refine ⟨_, run ρ w w _ ?_, con_of rfl⟩
    rw [hρx.1, hρy.1]
    exact Lib.run_unsafeString_none w t t2 _ none
  · rename_i id ver off foff n hvx hvy
    split at hx
    · rename_i ob t' hty
      rw [bifO] at hx
      obtain ⟨hcnd, hx⟩ := hx
      simp only [Bool.and_eq_true, Nat.beq_eq, Nat.blt_eq, Nat.ble_eq] at hcnd
      obtain ⟨⟨⟨⟨⟨⟨hpt, hu8⟩, rfl⟩, rfl⟩, hsz⟩, hn0⟩, hnm⟩ := hcnd
      split at hx
      · rename_i l hl
        rw [bifO] at hx
        obtain ⟨hln, hx⟩ := hx
        have hln := Nat.eq_of_beq_eq_true hln
        cases hx
        obtain ⟨h1, h2, h3, h4⟩ := xrowsOf_spec hty
        have hpt' : tk P t = .ptr t' := by
          unfold isPtrTo at hpt
          split at hpt
          · rename_i e' hd
            rw [hd, Nat.eq_of_beq_eq_true hpt]
          · cases hpt
        refine ⟨_, ?_, fun j ob' hm => by
          have hm : j = id ∧ ob' = ob := by simpa using hm
          rw [hm.1, hm.2, hh]; exact h1, by simp, rfl⟩
        intro g oh' w ρ hr hρ hp hn
        have hob := hp id ob (by simp)
        have hρx := hρ x hmx
        have hρy := hρ y hmy
        rw [hvx] at hρx
        rw [hvy] at hρy
        obtain ⟨b, hb, hbx⟩ := ref_val hρx hob h2 h3
        obtain ⟨arr, hhp, hG, hba⟩ := hr.rows hob h3 h4 hb
        have hbs : arr.size = g.cp id := by rw [hba.1, hsz, Nat.mul_one]
        have htk := bytesOf_spec hl
        have hel : l.length ≤ ob.el.length := by
          have := congrArg List.length htk
          simp at this; omega
        have hcell : ∀ j x, l[j]? = some x → w.cell? ((⟨b, 0, none⟩ : Addr).add j) = some (.int .u8 x.toNat) := by
          intro j x hj
          have hjl : j < l.length := (List.getElem?_eq_some_iff.1 hj).1
          have he : ob.el[j]? = some (V.con (.int .u8 (x.toNat : Nat))) := by
            have := congrArg (fun q : List V => q[j]?) htk
            simp only [List.getElem?_map, hj, Option.map_some] at this
            rw [List.getElem?_take_of_lt (by omega)] at this
            exact this
          obtain ⟨_, hq⟩ := hba.2.2.2 j _ he
          obtain ⟨cc, hcc, _, hrd⟩ := hq 0 _ (by simp [V.cells]; rfl)
          rw [Addr.add_lit, cell_of_row w b _ arr t' _ hhp]
          rw [hsz, Nat.mul_one, Nat.add_zero] at hcc
          have hrd' : cc = _ := hrd.1
          simp only [Nat.zero_add]
          rw [hcc, hrd']
        have hrun := Lib.run_unsafeString_row (P := P) w t t2 o.type t' (tk_ptr hpt') (cells_u8 (isU8_spec hu8)) b arr.size (by simp [World.shape?, hhp]) l (by intro e; rw [e] at hln; simp at hln; omega) (by rw [hbs]; have := hba.2.1; omega) (by omega) hcell
        obtain ⟨f1, f2, f3, f4, f5⟩ := freeze_facts w ⟨b, 0, none⟩ l.length
        have hend := hr.kill id b ob ⟨ob.sz, ob.el, ob.ver, false, ob.k⟩ (w.freeze ⟨b, 0, none⟩ l.length) hob h3 hb rfl (Nat.le_refl _) f1 f2 f3 f4 f5
        have hey : ρ x = .pointer (some ⟨b, 0, none⟩) := by rw [hbx]; simp
        have hey2 : ρ y = .int .i64 l.length := by rw [hρy.1, hln]; rfl
        rw [← hey, ← hey2] at hrun
        rw [run ρ w _ _ hrun]
        exact ⟨g, hend.1, con_of rfl, hend.2.1, hend.2.2⟩
      · cases hx
    · cases hx
  · cases hx

end
end Go.Ev
