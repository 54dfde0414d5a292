/-
  OWN LAYER 'Ev', PART XJ: errors.As AT A CONCRETE TARGET, FROM ITS LAW.
-/
import Derived.Test.YtjehfpfgpnmpoaaGreatDoorXI
import Derived.Extends
set_option linter.all false
namespace Go.Ev

section
variable {P : Program} {B : Sto}

theorem HR.ext {g : Gh} {oh : OH} {w w1 : World} (hx : w.Extends w1) (h : HR g oh w) : HR g oh w1 := by
  refine ⟨h.base, fun b o c hc => ?_, h.hF, fun i o ho hl => ?_, h.inj⟩
  · have := h.hG b o c hc
    rw [hx.cell ⟨b, o, none⟩ (lt_of_cell this)]; exact this
  · obtain ⟨h1, h2⟩ := h.obj i o ho hl
    refine ⟨h1, fun b hb => ?_⟩
    obtain ⟨go, q1, q2, q3⟩ := h2 b hb
    exact ⟨go, by rw [hx.block b (lt_of_heap q1)]; exact q1, q2, q3⟩

theorem Fr.ext {g : Gh} {oh : OH} {w w1 : World} (hx : w.Extends w1) : Fr g oh w g oh w1 :=
  ⟨rfl, hx.os, hx.tape, hx.output, hx.size, fun b hb _ => hx.block b hb, fun _ h => .inl h, fun _ _ _ h => h, fun _ _ _ h => h, fun _ _ _ h => .inl h, fun _ _ _ h => .inl h⟩

/-- the store that it comes to -/
def asOper (T : TypeId) : Oper := { dst := none, op := .store T (.tmp 0) (.tmp 1), type := 0, pos := "", after := #[], guard := none }
def asEnv (r v : V) : Operand → V
  | .tmp 0 => r
  | .tmp 1 => v
  | _ => .undef
def asVal (r v : Value) : Operand → Value
  | .tmp 0 => r
  | .tmp 1 => v
  | _ => Go.undef

theorem lib_as {q : FuncId} {fn : Func} {c : Code} {T PT el : TypeId} {id ver i f id2 ver2 i2 f2 : Nat} {o o2 : Obj} {acc : Acc} (hf : P.funcs[q]? = some fn) (hname : (fn.name == "runtime.NumGoroutine") = false) (hb : fn.body = some c) (hT : tk P T = .ptr el)
    (hit : ∀ (e t : Addr) (old : Value) (w : World), (∀ b o c, B b o = some c → w.cell? ⟨b, o, none⟩ = some c) → w.cell? t = some old → w.frozen? t = false → t.spot = none →
      ∃ w1, w.Extends w1 ∧ Calls P q #[.iface T (.pointer (some e)), .iface PT (.pointer (some t))] w fun ev w' => ev = .returned (.bool true) ∧ w' = w1.setCell t (.pointer (some e)))
    (hok : OpOK P (asOper T) (asEnv (.ref id ver i f) (.ref id2 ver2 i2 f2)) acc) (hp : (id, o) ∈ acc.pre) (hnw : acc.nw = []) (hv : o.ver = ver) (hl : o.live = true) (hw : o.k.wr = true) (hfit : ∃ e, o.el[i]? = some e ∧ f < e.cells.length)
    (hv2 : o2.ver = ver2) (hl2 : o2.live = true) :
    LibOK P B q [.ifc T (.ref id2 ver2 i2 f2), .ifc PT (.ref id ver i f)] ⟨(id2, o2) :: acc.pre, [], acc.post, .con (.bool true)⟩ := by
  intro g oh w xs hr hB ha hpre _
  obtain ⟨x, y, rfl, hx, hy⟩ := argsR_2 ha
  obtain ⟨ye, rfl, hye⟩ := ifc_val hx
  obtain ⟨yt, rfl, hyt⟩ := ifc_val hy
  have hye := rdN_V hye
  have hyt := rdN_V hyt
  have ho2 := hpre id2 o2 (by simp)
  have ho := hpre id o (by simp [hp])
  obtain ⟨b2, _, rfl⟩ := ref_val hye ho2 hv2 hl2
  obtain ⟨b, hmb, rfl⟩ := ref_val hyt ho hv hl
  obtain ⟨arr, ty, hh, _, ⟨hbs, hbl, hbm, hels⟩, hkt⟩ := hr.cellsW ho hl hw hmb
  obtain ⟨e, hel, hfe⟩ := hfit
  obtain ⟨q1, q2⟩ := hels i e hel
  obtain ⟨old, hold, _, _⟩ := q2 f _ (List.getElem?_eq_getElem hfe)
  have hcell : w.cell? ⟨b, i * o.sz + f, none⟩ = some old := by rw [cell_of_row w b _ arr ty _ hh]; exact hold
  have hfz : w.frozen? ⟨b, i * o.sz + f, none⟩ = false := by simp [World.frozen?, hh]
  obtain ⟨w1, hext, hcalls⟩ := hit ⟨b2, i2 * o2.sz + f2, none⟩ ⟨b, i * o.sz + f, none⟩ old w (fun b' o' c' hc => hr.hG _ _ _ (hr.base _ _ _ (by rw [hB]; exact hc))) hcell hfz rfl
  have hr1 : HR g oh w1 := hr.ext hext
  have hstore := hok g oh w1 (asVal (.pointer (some ⟨b, i * o.sz + f, none⟩)) (.pointer (some ⟨b2, i2 * o2.sz + f2, none⟩))) hr1 (by
    intro z hz
    have : z = .tmp 0 ∨ z = .tmp 1 := by simpa [asOper, Op.operands] using hz
    rcases this with rfl | rfl
    · exact hyt
    · exact hye) (fun j oj hj => hpre j oj (by simp [hj])) (by rw [hnw]; simp)
  have hlt : b < w.heap.size := lt_of_heap hh
  have hcell1 : w1.cell? ⟨b, i * o.sz + f, none⟩ = some old := by rw [hext.cell _ hlt]; exact hcell
  have hfz1 : w1.frozen? ⟨b, i * o.sz + f, none⟩ = false := by rw [hext.frozen _ hlt]; exact hfz
  have hrun : (execOp (asVal (.pointer (some ⟨b, i * o.sz + f, none⟩)) (.pointer (some ⟨b2, i2 * o2.sz + f2, none⟩))) (asOper T)).run P w1 = .ok .skip (w1.setCell ⟨b, i * o.sz + f, none⟩ (.pointer (some ⟨b2, i2 * o2.sz + f2, none⟩))) := by
    have hst : (storeVar T ⟨b, i * o.sz + f, none⟩ (.pointer (some ⟨b2, i2 * o2.sz + f2, none⟩))).run P w1 = .ok () (w1.setCell ⟨b, i * o.sz + f, none⟩ (.pointer (some ⟨b2, i2 * o2.sz + f2, none⟩))) := by
      have h1 := tk_one hT rfl (by simp) w1
      simp [storeVar, h1, Value.cells, storeCells, Addr.add]
      rw [run_store P w1 _ _ _ (by rfl)]
      simp [hcell1, hfz1]
    simp only [execOp, asOper, asVal, Instr.storeAt, Instr.sureAddr]
    simp [hst]
  rw [hrun] at hstore
  obtain ⟨g', z1, _, z3, z4⟩ := hstore
  rw [callFunc_enter hf hname hb]
  refine hcalls.mono fun ev w' he => ?_
  obtain ⟨rfl, rfl⟩ := he
  exact ⟨.bool true, rfl, g', z1, ⟨rfl, rfl⟩, z3, (Fr.ext hext).trans z4⟩

end
end Go.Ev
