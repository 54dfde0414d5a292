/-
  OWN LAYER 'Ev', PART XH: A STRING IS APPENDED.
-/
import Derived.Test.YtjehfpfgpnmpoaaGreatDoorXHa
import Derived.Lib.AppendStr
set_option linter.all false
namespace Go.Ev

section
variable {P : Program} {g : Gh} {oh : OH} {w : World}

theorem append_str_out {K : OK} (hK : K.ap = true) {t u ty e1 : TypeId} (hKe : K = .cells ∨ K = .rows e1) {inf : TypeInfo} {zv : Value} {sz : Nat} (hu : P.underlying t = some (.slice e1)) (hinf : P.info? e1 = some inf) (hz : inf.zero = some zv)
    (hsz : inf.size = sz) (hzs : zv.cells.size = sz) (hr : HR g oh w) (hu2 : P.underlying u = some .string) (hs1 : sz = 1) (s : ByteArray) (ys : List V) (hys : ys = xbytes s) (hyl : ∀ y ∈ ys, y.cells.length = sz)
    (a : Option Addr) (n cap : Nat) (xs : List V) (hxn : xs.length = n) (hxl : ∀ x ∈ xs, x.cells.length = sz) (hncap : n ≤ cap)
    (h63 : n + ys.length ≤ 9223372036854775807) (h47 : (n + ys.length) * inf.bytes ≤ 140737488355328) (c ver : Nat) (hv : ∀ o, oget oh c = some o → o.ver < ver)
    (hx : (cap = 0) ∨ ∃ b ob arr ty', oget oh c = some ob ∧ ob.live = true ∧ g.m c = some b ∧ a = some ⟨b, 0, none⟩ ∧ cap ≤ g.cp c ∧ ob.sz = sz ∧ w.heap[b]? = some (.cells arr ty' (0, 0)) ∧
      BlockAt g oh ob (g.cp c) arr ∧ xs = ob.el.take n ∧ n ≤ ob.el.length ∧ (K = .cells ∨ K = .rows ty')) :
    ∃ x' w' g', (Builtin.append_ #[t, u] ty #[.slice a n cap, .string s]).run P w = .ok x' w' ∧ HR g' ((c, ⟨sz, xs ++ ys, ver, true, K⟩) :: oh) w' ∧
      Mono g oh g' ((c, ⟨sz, xs ++ ys, ver, true, K⟩) :: oh) ∧ Fr g oh w g' ((c, ⟨sz, xs ++ ys, ver, true, K⟩) :: oh) w' ∧
      RdV g' ((c, ⟨sz, xs ++ ys, ver, true, K⟩) :: oh) (.own c ver 0 (n + ys.length)) x' := by
  subst hsz
  have hbl : ys.length = s.size := by rw [hys, xbytes, List.length_map, Array.length_toList]; rfl
  have hnl : (Lib.strCells s).length = ys.length * inf.size := by rw [Lib.strCells_length, hbl, hs1, Nat.mul_one]
  have hne : ∀ (i : Nat) (e : V), ys[i]? = some e → ∀ (j : Nat) (v : V), e.cells[j]? = some v → ∃ c, (Lib.strCells s)[i * inf.size + j]? = some c ∧ RdV1 g oh v c := by
    intro i e he j v hv
    rw [hys, xbytes, List.getElem?_map] at he
    obtain ⟨b, hb, rfl⟩ := Option.map_eq_some_iff.1 he
    cases j with
    | succ j => simp [V.cells] at hv
    | zero =>
      have : V.con (.int .u8 (.ofNat b.toNat)) = v := by simpa [V.cells] using hv
      subst this
      refine ⟨.int .u8 b.toNat, ?_, rfl, rfl⟩
      rw [hs1, Nat.mul_one, Nat.add_zero, Lib.strCells, List.getElem?_map, hb]
      rfl
  have hcells : (s.data.map fun b => Value.int .u8 b.toNat) = (Lib.strCells s).toArray := by apply Array.ext'; simp [Lib.strCells]
  have hpos : ys ≠ [] → 0 < s.size := fun h => by rw [← hbl]; exact List.length_pos_iff.2 h
  refine append_gen hK (e1 := e1) hKe (zv := zv) hzs hr ys hyl _ (Lib.strCells s) hnl (Lib.strCells_oneCell s) hne a n cap xs hxn hxl hncap h63 ?_ ?_ ?_ ?_ c ver hv hx
  · intro e
    have hz : s.size = 0 := by rw [← hbl, e]; rfl
    have hf := Lib.run_firstCells_string (P := P) w inf.size s
    have hnil : Lib.strCells s = [] := List.eq_nil_of_length_eq_zero (by rw [Lib.strCells_length, hz])
    rw [hnil, hz] at hf
    cases a with
    | none => simp [Builtin.append_, run_underlying hu, run_underlying hu2, sizeOf, typeInfo, hinf, Builtin.lenOf, hz, hncap, hf]
    | some a => simp [Builtin.append_, run_underlying hu, run_underlying hu2, sizeOf, typeInfo, hinf, Builtin.lenOf, hz, hncap, hf, storeCells]
  · intro b arr ty' ea hh hroom hfit hy0
    subst ea
    rw [hbl] at hroom ⊢
    rw [hs1, Nat.mul_one, Lib.strCells_length] at hfit ⊢
    have hf := Lib.run_firstCells_string (P := P) w 1 s
    have hst := run_storeCells_at P b n ty' (Lib.strCells s) 0 arr w hh (by simpa [Lib.strCells_length] using hfit) (Lib.strCells_oneCell s)
    simp only [Nat.add_zero, Lib.strCells_length] at hst
    simp [Builtin.append_, run_underlying hu, run_underlying hu2, sizeOf, typeInfo, hinf, hs1, Builtin.lenOf, hroom, hf, Addr.add_lit, hst]
  · intro e1' e2 hy0
    subst e1'; subst e2
    rw [hbl]
    cases a with
    | none =>
      rw [run_append_nil_string (P := P) w t u ty e1 inf zv hu hu2 hinf hz s (hpos hy0) (by omega) (by rw [← hbl]; have := h47; simp only [Nat.zero_add] at this; omega)]
      congr 2; apply congrArg (fun q => Go.Obj.cells q e1); apply Array.ext'; simp [Lib.strCells]
    | some b =>
      have := Lib.run_append_grow_string (P := P) w t u ty e1 inf zv hu hu2 hinf hz b 0 0 [] (by simp) (by simp) s (by have := hpos hy0; omega) (by omega) (growslice_fits (by have := hpos hy0; omega) (by rw [← hbl]; simpa using h47))
      rw [Nat.zero_add] at this
      rw [this]
      congr 2; apply congrArg (fun q => Go.Obj.cells q e1); apply Array.ext'; simp
  · intro b olds ea hol hcell hgr hy0
    subst ea
    rw [hbl]
    exact Lib.run_append_grow_string (P := P) w t u ty e1 inf zv hu hu2 hinf hz ⟨b, 0, none⟩ n cap olds hol hcell s (by omega) (by omega) (growslice_fits (by omega) (by rw [← hbl]; exact h47))

theorem step_append_str {o : Oper} {c : Call} {t u : TypeId} {s : ByteArray} {e1 by1 : Nat} {ag1 : Bool} {z1 : List Value} {x y : Operand} {e : Operand → V} {oh : OH} {nx : Nat} (hnx : oget oh nx = none) {k : Acc → Prop} (ho : o.op = .call c) (hc : c.callee = .builtin .append)
    (ha : c.args.toList = [x, y]) (ht : c.argTypes.toList = [t, u]) (hd : tk P t = .sl e1 1 by1 ag1 z1) (hd2 : tk P u = .str) (hvy : e y = .con (.string s)) (h : sapp e1 1 by1 oh nx (e x) k [] (xbytes s)) : Some P o e oh k := by
  have ha' : c.args = #[x, y] := by rw [← Array.toArray_toList (xs := c.args), ha]
  have ht' : c.argTypes = #[t, u] := by rw [← Array.toArray_toList (xs := c.argTypes), ht]
  have hmx : x ∈ o.op.operands := by simp [ho, Op.operands, Call.operands, hc, ha']
  have hmy : y ∈ o.op.operands := by simp [ho, Op.operands, Call.operands, hc, ha']
  have run : ∀ (ρ : Operand → Value) (w w' : World) (v : Value), (Builtin.append_ #[t, u] o.type #[ρ x, ρ y]).run P w = .ok v w' → (execOp ρ o).run P w = .ok (.value v) w' := by
    intro ρ w w' v hv
    simp [execOp, ho, resolve, hc, ha', ht', invoke, builtin, hv]
  obtain ⟨inf, zv, hu, hinf, hzero, hsz, hbt, hzc, hzl, _⟩ := tk_sl hd
  have hzs : zv.cells.size = 1 := by rw [← Array.length_toList, hzc, hzl]
  have hpre : ∀ i ob, (i, ob) ∈ ([] : OH) → oget oh i = some ob := by simp
  have hyv : ∀ (g : Gh) (oh : OH) (ρ : Operand → Value), RdV g oh (e y) (ρ y) → ρ y = .string s := fun g oh ρ h => by rw [hvy] at h; exact h.1
  generalize hys : xbytes s = ys at h
  unfold sapp at h
  split at h
  · rename_i v1 hx
    obtain ⟨h63, h47, hyl, hk⟩ := h
    refine ⟨_, ?_, hpre, ?_, hk⟩
    · intro g oh' w ρ hr hρ hp hn
      have hrx := hρ x hmx; rw [hx] at hrx
      obtain ⟨a, hxe, _⟩ := hrx
      have hny := hyv g oh' ρ (hρ y hmy)
      have hnone := hn nx (by simp)
      obtain ⟨x', w', g', r1, r2, r3, r4, r5⟩ := append_str_out (K := .rows e1) rfl (P := P) (ty := o.type) (.inr rfl) hu hinf hzero hsz hzs hr (tk_str hd2) rfl s ys hys.symm hyl a 0 0 [] rfl (by simp) (Nat.le_refl _) (by omega) (by rw [hbt]; simpa using h47) nx 0 (by simp [hnone]) (.inl rfl)
      rw [hxe.symm, ← hny] at r1
      rw [run ρ w w' x' r1]
      refine ⟨g', r2, ?_, r3, r4⟩
      simpa using r5
    · intro i hi
      obtain rfl : i = nx := by simpa using hi
      exact hnx
  · rename_i v1 id ver len hx
    obtain ⟨ob, hob, hv, hl, hkk, hosz, h63, h47, hyl, hk⟩ := useC_elim h
    refine ⟨_, ?_, ?_, by simp, hk⟩
    · intro g oh' w ρ hr hρ hp hn
      have hob' := hp id ob (by simp)
      have hrx := hρ x hmx; rw [hx] at hrx
      obtain ⟨_, ob', hob2, _, hat⟩ := hrx
      rw [hob'] at hob2
      obtain rfl : ob = ob' := by simpa using hob2
      obtain ⟨a, cap, hxe, hlc, hoff, hcap⟩ := hat hv hl
      have hny := hyv g oh' ρ (hρ y hmy)
      have hxl : ∀ x ∈ ob.el.take len, x.cells.length = 1 := by
        intro q hq
        have hqm : q ∈ ob.el := List.mem_of_mem_take hq
        obtain ⟨h1, h2⟩ := hr.obj id ob hob' hl
        cases hm : g.m id with
        | none => have := (h1 hm).1; rw [this] at hqm; simp at hqm
        | some b =>
          obtain ⟨arr, ty', hh, _, hba, _⟩ := hr.cellsA hob' hl hkk hm
          obtain ⟨i, hi⟩ := List.mem_iff_getElem?.1 hqm
          rw [← hosz]; exact (hba.2.2.2 i q hi).1
      obtain ⟨x', w', g', r1, r2, r3, r4, r5⟩ := append_str_out (K := ob.k.app e1) (app_ap ob.k e1) (P := P) (ty := o.type) (app_kind ob.k e1) hu hinf hzero hsz hzs hr (tk_str hd2) rfl s ys hys.symm hyl a len cap (ob.el.take len) (by simp; omega) hxl hlc h63 (by rw [hbt]; exact h47) id (ver + 1)
        (by intro o2 ho2; rw [hob'] at ho2; obtain rfl : ob = o2 := by simpa using ho2
            omega) (by
          by_cases hc0 : cap = 0
          · exact .inl hc0
          · obtain ⟨b, hb, ha2, hcp⟩ := hcap hc0
            obtain ⟨arr, ty', hh, _, hba, hkt⟩ := hr.cellsA hob' hl hkk hb
            exact .inr ⟨b, ob, arr, ty', hob', hl, hb, by simpa using ha2, by omega, hosz, hh, hba, rfl, by omega, app_in hkt⟩)
      rw [hxe.symm, ← hny] at r1
      rw [run ρ w w' x' r1]
      exact ⟨g', r2, r5, r3, r4⟩
    · intro i ob2 h2
      simp only [List.mem_cons, Prod.mk.injEq] at h2
      rcases h2 with ⟨rfl, rfl⟩ | h2
      · exact hob
      · exact hpre i ob2 h2
  · exact h.elim

end
section
variable {P : Program} {tb : Tb}

theorem xapp_s {e1 sz by1 nx : Nat} {h : Hp} {oh : OH} {x : V} {pre : OH} {ys : List V} {a : Acc} (hh : ∀ i, oget oh i = h i) (hx : xapp e1 sz by1 h nx x pre ys = some a) : sapp e1 sz by1 oh nx x (fun b => b = a) pre ys := by
  cases x with
  | emp n =>
    simp only [xapp] at hx
    rw [bifO] at hx
    obtain ⟨hc, hx⟩ := hx
    simp only [Bool.and_eq_true, Nat.ble_eq] at hc
    exact ⟨hc.1.2, hc.1.1, allSz_spec hc.2, by simpa using hx⟩
  | own id ver off len =>
    simp only [xapp] at hx
    split at hx
    · rename_i o hu
      rw [bifO] at hx
      obtain ⟨hc, hx⟩ := hx
      simp only [Bool.and_eq_true, Nat.ble_eq, Nat.beq_eq] at hc
      obtain ⟨⟨⟨⟨c1, c2⟩, c3⟩, c4⟩, c5⟩ := hc
      subst c1
      exact useC_of hh hu ⟨c2, c4, c3, allSz_spec c5, by simpa using hx⟩
    · cases hx
  | _ => simp [xapp] at hx

theorem step_mm {o : Oper} {c : Call} {lt : Bool} {x y : Operand} {t t2 : TypeId} {e : Operand → V} {oh : OH} {acc : Acc} (ho : o.op = .call c) (hc : c.callee = .builtin (match lt with | true => .min | false => .max))
    (ha : c.args.toList = [x, y]) (ht : c.argTypes.toList = [t, t2]) (hx : xminmax lt (e x) (e y) = some acc) : Some P o e oh fun b => b = acc := by
  have ha' : c.args = #[x, y] := by rw [← Array.toArray_toList (xs := c.args), ha]
  have ht' : c.argTypes = #[t, t2] := by rw [← Array.toArray_toList (xs := c.argTypes), ht]
  have hmx : x ∈ o.op.operands := by cases lt <;> simp [ho, Op.operands, Call.operands, hc, ha']
  have hmy : y ∈ o.op.operands := by cases lt <;> simp [ho, Op.operands, Call.operands, hc, ha']
  unfold xminmax at hx
  split at hx
  · rename_i k p k' q hvx hvy
    cases hx
    refine some_pre (by simp) fun g oh' w ρ hr hρ hp => ?_
    have hρx := hρ x hmx
    have hρy := hρ y hmy
    rw [hvx] at hρx
    rw [hvy] at hρy
    refine ⟨_, ?_, con_of rfl⟩
    cases lt with
    | true =>
      have h1 : (Builtin.min_ #[t, t2] o.type #[ρ x, ρ y]).run P w = .ok (.int k (bif ilt q p then q else p)) w := by
        rw [hρx.1, hρy.1, run_min_int2, ilt_iff]
        by_cases hlt : q < p <;> simp [hlt]
      simp [execOp, ho, resolve, hc, ha', ht', invoke, builtin, h1]
    | false =>
      have h1 : (Builtin.max_ #[t, t2] o.type #[ρ x, ρ y]).run P w = .ok (.int k (bif ilt p q then q else p)) w := by
        rw [hρx.1, hρy.1, run_max_int2, ilt_iff]
        by_cases hlt : p < q <;> simp [hlt]
      simp [execOp, ho, resolve, hc, ha', ht', invoke, builtin, h1]
  · cases hx

theorem xblt_ok (tf : TbF P tb) {o : Oper} {c : Call} {b : Builtin} {e : Operand → V} {oh : OH} {h : Hp} {nx : Nat} {acc : Acc} (hh : ∀ i, oget oh i = h i) (hnx : oget oh nx = none) (ho : o.op = .call c) (hc : c.callee = .builtin b)
    (hx : xbuiltin tb b (c.args.toList.map e) c.argTypes.toList h nx = some acc) : Some P o e oh fun b => b = acc := by
  unfold xbuiltin at hx
  simp only [tf.tk] at hx
  split at hx
  · rename_i x t ha ht
    obtain ⟨y, hy, rfl⟩ : ∃ y, c.args.toList = [y] ∧ e y = x := by
      match hl : c.args.toList, ha with
      | [y], ha => exact ⟨y, rfl, by simpa using ha⟩
    cases hd : tk P t with
    | map k el => rw [hd] at hx; exact step_mapLen hh ho hc hy ht hd hx
    | _ => exact step_len ho hc hy ht (xlen_s hh hx fun k el he => by rw [hd] at he; cases he)
  · rename_i x y t u ha ht
    obtain ⟨x', y', hy, rfl, rfl⟩ : ∃ x' y', c.args.toList = [x', y'] ∧ e x' = x ∧ e y' = y := by
      match hl : c.args.toList, ha with
      | [x', y'], ha => exact ⟨x', y', rfl, by simpa using ha⟩
    unfold okApp at hx
    split at hx
    · rename_i hd2
      rw [hd2] at hx
      unfold xappend at hx
      split at hx
      · rename_i e1 sz by1 ag z hd
        rw [bifO] at hx
        obtain ⟨_, hx⟩ := hx
        split at hx
        · rename_i s _ hyv
          rw [bifO] at hx
          obtain ⟨hs1, hx⟩ := hx
          have hs1 := Nat.eq_of_beq_eq_true hs1
          subst hs1
          exact step_append_str hnx ho hc hy ht hd hd2 hyv (xapp_s hh hx)
        all_goals first | (cases hx; done) | contradiction | (exfalso; simp_all; done)
      · cases hx
    · rename_i hn
      rw [bifO] at hx
      obtain ⟨htu, hx⟩ := hx
      have htu := Nat.eq_of_beq_eq_true htu
      subst htu
      exact step_append hnx ho hc hy ht (xappend_s hh hx fun e => hn e)
  · rename_i x t ha ht
    obtain ⟨y, hy, rfl⟩ : ∃ y, c.args.toList = [y] ∧ e y = x := by
      match hl : c.args.toList, ha with
      | [y], ha => exact ⟨y, rfl, by simpa using ha⟩
    exact step_sdata hh ho hc hy ht hx
  · rename_i x y t u ha ht
    obtain ⟨x', y', hy, rfl, rfl⟩ : ∃ x' y', c.args.toList = [x', y'] ∧ e x' = x ∧ e y' = y := by
      match hl : c.args.toList, ha with
      | [x', y'], ha => exact ⟨x', y', rfl, by simpa using ha⟩
    exact step_mm (lt := true) ho hc hy ht hx
  · rename_i x y t u ha ht
    obtain ⟨x', y', hy, rfl, rfl⟩ : ∃ x' y', c.args.toList = [x', y'] ∧ e x' = x ∧ e y' = y := by
      match hl : c.args.toList, ha with
      | [x', y'], ha => exact ⟨x', y', rfl, by simpa using ha⟩
    exact step_mm (lt := false) ho hc hy ht hx
  · rename_i x y t u ha ht
    obtain ⟨x', y', hy, rfl, rfl⟩ : ∃ x' y', c.args.toList = [x', y'] ∧ e x' = x ∧ e y' = y := by
      match hl : c.args.toList, ha with
      | [x', y'], ha => exact ⟨x', y', rfl, by simpa using ha⟩
    exact step_ustr tf hh ho hc hy ht hx
  · cases hx


end
end Go.Ev
