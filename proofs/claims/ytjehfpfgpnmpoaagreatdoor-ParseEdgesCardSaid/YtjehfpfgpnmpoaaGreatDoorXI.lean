/-
  OWN LAYER 'Ev', PART XI: LIBRARY FUNCTIONS THAT THE MODEL ANSWERS ITSELF; THE TABLES' WHOLE.
-/
import Derived.Test.YtjehfpfgpnmpoaaGreatDoorXH
import Derived.Lib.Bytealg
import Derived.Laws.Externs
set_option linter.all false
namespace Go.Ev

section
variable {P : Program} {B : Sto} {tb : Tb}

theorem argsR_1 {g : Gh} {oh : OH} {v : V} {xs : Array Value} (h : ArgsR g oh [v] xs) : ∃ x, xs = #[x] ∧ RdV g oh v x := by
  obtain ⟨h1, h2⟩ := h
  have h1 : xs.size = 1 := h1
  refine ⟨xs[0], ?_, h2 0 v xs[0] rfl (by simp)⟩
  apply Array.ext
  · simpa using h1
  · intro i hi _
    have : i = 0 := by omega
    subst this; simp

theorem argsR_2 {g : Gh} {oh : OH} {v u : V} {xs : Array Value} (h : ArgsR g oh [v, u] xs) : ∃ x y, xs = #[x, y] ∧ RdV g oh v x ∧ RdV g oh u y := by
  obtain ⟨h1, h2⟩ := h
  have h1 : xs.size = 2 := h1
  refine ⟨xs[0], xs[1], ?_, h2 0 v xs[0] rfl (by simp), h2 1 u xs[1] rfl (by simp)⟩
  apply Array.ext
  · simpa using h1
  · intro i hi _
    have : i = 0 ∨ i = 1 := by omega
    rcases this with rfl | rfl <;> simp

/-- internal/abi.NoEscape. -/
theorem lib_noEscape {q : FuncId} {fn : Func} {v : V} (hf : P.funcs[q]? = some fn) (hname : (fn.name == "runtime.NumGoroutine") = false) (hb : fn.body.isNone = true) (hn : Extern.findNext fn = none)
    (he : Extern.find fn = some Extern.AbiNoEscape.same) : LibOK P B q [v] ⟨[], [], [], v⟩ := by
  intro g oh w xs hr _ ha _ _
  obtain ⟨x, rfl, hx⟩ := argsR_1 ha
  rw [run_callFunc_extern hf hname hb hn he, Lib.run_noEscape]
  exact ⟨g, hr, hx, Mono.refl _ _, Fr.refl _ _ _⟩

/-- Where a byte stands. -/
def xidxByte (c : Nat) : List UInt8 → Nat → Int
  | [], _ => Int.negSucc 0
  | b :: r, i => bif Nat.beq b.toNat c then .ofNat i else xidxByte c r (Nat.succ i)

theorem indexByte_range : ∀ (l : List UInt8) (c : UInt8), Lib.indexByte l c = -1 ∨ 0 ≤ Lib.indexByte l c
  | [], _ => .inl rfl
  | b :: l, c => by
    unfold Lib.indexByte
    split
    · exact .inr (Int.le_refl _)
    · split
      · exact .inl rfl
      · rename_i h
        rcases indexByte_range l c with h1 | h1
        · rw [h1] at h; exact absurd rfl h
        · right; omega

theorem xidxByte_eq (c : UInt8) : ∀ (l : List UInt8) (i : Nat), xidxByte c.toNat l i = if Lib.indexByte l c = -1 then -1 else Lib.indexByte l c + i
  | [], i => rfl
  | b :: l, i => by
    unfold xidxByte Lib.indexByte
    cases hb : Nat.beq b.toNat c.toNat with
    | true =>
      have : b = c := UInt8.toNat_inj.1 (Nat.eq_of_beq_eq_true hb)
      subst this
      simp
    | false =>
      have hne : ¬ b = c := fun e => by subst e; simp [Nat.beq_eq] at hb
      rw [cond_false, xidxByte_eq c l]
      have : (b == c) = false := by simpa using hne
      rw [this]
      simp only [Bool.false_eq_true, if_false]
      rcases indexByte_range l c with h | h
      · simp [h]
      · have h1 : ¬ Lib.indexByte l c = -1 := by omega
        have h2 : ¬ Lib.indexByte l c + 1 = -1 := by omega
        simp [h1, h2]; omega

/-- internal/bytealg.IndexByteString. -/
theorem lib_indexByteString {q : FuncId} {fn : Func} {s : ByteArray} {c : UInt8} (hf : P.funcs[q]? = some fn) (hname : (fn.name == "runtime.NumGoroutine") = false) (hb : fn.body.isNone = true) (hn : Extern.findNext fn = none)
    (he : Extern.find fn = some Extern.BytealgIndexByte.indexByte) : LibOK P B q [.con (.string s), .con (.int .u8 c.toNat)] ⟨[], [], [], .con (.int .i64 (xidxByte c.toNat s.data.toList 0))⟩ := by
  intro g oh w xs hr _ ha _ _
  obtain ⟨x, y, rfl, hx, hy⟩ := argsR_2 ha
  obtain ⟨rfl, _⟩ := hx
  obtain ⟨rfl, _⟩ := hy
  rw [run_callFunc_extern hf hname hb hn he, Lib.run_indexByteString]
  refine ⟨g, hr, ⟨?_, rfl⟩, Mono.refl _ _, Fr.refl _ _ _⟩
  have e : ((c.toNat : Int).toNat).toUInt8 = c := by simp
  rw [e, xidxByte_eq]
  rcases indexByte_range s.data.toList c with h | h
  · simp [h]
  · have h1 : ¬ Lib.indexByte s.data.toList c = -1 := by omega
    simp [h1]

theorem tbOK_of (mix : P.follows .mixedOrders = true) (tf : TbF P tb)
    (lib : ∀ (q : FuncId) (vs : List V) (oh : OH) (h : Hp) (a : Acc), (∀ i, oget oh i = h i) → tb.lib q vs h = some a → LibOK P B q vs a ∧ (∀ i ob, (i, ob) ∈ a.pre → oget oh i = some ob))
    (fn : ∀ (q : FuncId) (fn : Func), tb.fn q = some fn → P.funcs[q]? = some fn ∧ (fn.name == "runtime.NumGoroutine") = false ∧ ∀ c, fn.body = some c → okX fn.ntmps c = true)
    (meth : ∀ t m, tb.meth t m = none) : TbOK P tb B :=
  ⟨mix, tf.tk, fun _ _ _ _ _ _ hh hnx _ hx => xstep_ok tf hh hnx hx, fun _ _ _ _ _ _ _ _ hh hnx ho hc hx => xblt_ok tf hh hnx ho hc hx, lib, fn, meth⟩

end
end Go.Ev
