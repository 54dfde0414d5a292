/-
  OWN LAYER 'Ev', PART F: STRUCTS BUILT, LENGTHS, SLICES OF SLICES, make, append, CALLS.
-/
import Derived.Test.YtfaegonekocakaaEvE
set_option linter.all false
namespace Go.Ev

section
variable {P : Program} {g : Gh} {oh : OH} {w : World}

theorem fold_set (off : Nat) : ∀ (l : List Value) (k : Nat) (cs : Array Value), off + k + l.length ≤ cs.size →
    ((l.zipIdx k).foldl (fun cs (p : Value × Nat) => cs.setIfInBounds (off + p.2) p.1) cs).toList = splice cs.toList (off + k) l
  | [], k, cs, _ => by simp [splice]
  | v :: l, k, cs, h => by
    simp only [List.length_cons] at h
    simp only [List.zipIdx_cons, List.foldl_cons]
    rw [fold_set off l (k + 1) _ (by simp; omega)]
    apply List.ext_getElem?
    intro j
    rw [splice_get (by simp; omega), splice_get (by simp; omega)]
    simp only [Array.toList_setIfInBounds, List.getElem?_set, List.length_cons, Array.length_toList]
    by_cases h1 : j = off + k
    · subst h1
      rw [if_neg (by omega), if_pos rfl, if_pos (by omega), if_pos (by omega)]
      simp
    · by_cases h2 : off + (k + 1) ≤ j ∧ j < off + (k + 1) + l.length
      · rw [if_pos h2, if_pos (by omega)]
        rw [show j - (off + k) = (j - (off + (k + 1))) + 1 by omega]; simp
      · rw [if_neg h2, if_neg (by omega), if_neg (by omega)]

/-- Cells side by side. -/
def Along (g : Gh) (oh : OH) (vs : List V) (cs : Array Value) : Prop :=
  cs.size = vs.length ∧ ∀ (j : Nat) (v : V) (c : Value), vs[j]? = some v → cs[j]? = some c → RdV1 g oh v c ∧ c.oneCell' = true

theorem along_const (z : List Value) (h : ∀ c ∈ z, c.oneCell' = true) : Along g oh (z.map V.ofConst1) z.toArray := by
  refine ⟨by simp, fun j v c hv hc => ?_⟩
  rw [List.getElem?_map] at hv
  obtain ⟨c', hc', rfl⟩ := Option.map_eq_some_iff.1 hv
  have : c' = c := by rw [List.getElem?_toArray, hc'] at hc; simpa using hc
  subst this
  have h1 := h c' (List.mem_of_getElem? hc')
  exact ⟨ofConst1_ok (by rw [oneC_eq]; exact h1), h1⟩

theorem along_splice {vs : List V} {cs : Array Value} (h : Along g oh vs cs) {v : V} {x : Value} (hr : RdV g oh v x) (hs : v.solid = true) {off : Nat} (hle : off + v.cells.length ≤ vs.length) :
    Along g oh (splice vs off v.cells) (splice cs.toList off x.cells.toList).toArray := by
  obtain ⟨h1, h2⟩ := rd_cells hr hs
  have hxl : x.cells.toList.length = v.cells.length := by simpa using h1
  have hle' : off + x.cells.toList.length ≤ cs.toList.length := by rw [hxl]; simpa [h.1] using hle
  refine ⟨by simp only [List.size_toArray, splice_length hle', splice_length hle]; simpa using h.1, fun j u c hu hc => ?_⟩
  rw [List.getElem?_toArray, splice_get hle', hxl] at hc
  rw [splice_get hle] at hu
  by_cases hin : off ≤ j ∧ j < off + v.cells.length
  · rw [if_pos hin] at hu hc
    obtain ⟨c', e1, e2, e3⟩ := h2 _ u hu
    rw [Array.getElem?_toList, e1] at hc
    obtain rfl : c' = c := by simpa using hc
    exact ⟨e2, e3⟩
  · rw [if_neg hin] at hu hc
    exact h.2 j u c hu (by simpa using hc)

theorem sfill_ok {fs : List (Nat × Nat)} {K : List V → Prop} (e : Operand → V) : ∀ (ps : List (Nat × Operand)) (vs : List V), sfill fs vs (ps.map fun p => (p.1, e p.2)) K →
    ∃ us, K us ∧ ∀ (ρ : Operand → Value) (g : Gh) (oh : OH) (cs : Array Value), Along g oh vs cs → (∀ p ∈ ps, RdV g oh (e p.2) (ρ p.2)) →
      ∃ cs', Instr.fill (fs.toArray[·]?) cs (ps.map fun p => (p.1, ρ p.2)) = some cs' ∧ Along g oh us cs'
  | [], vs, h => ⟨vs, h, fun ρ g oh cs ha _ => ⟨cs, rfl, ha⟩⟩
  | p :: ps, vs, h => by
    simp only [List.map_cons, sfill] at h
    split at h
    · rename_i off sz hf
      obtain ⟨hs, hl, hle, h⟩ := h
      obtain ⟨us, hK, hrest⟩ := sfill_ok e ps _ h
      refine ⟨us, hK, fun ρ g oh cs ha hp => ?_⟩
      have hr := hp p (by simp)
      obtain ⟨h1, h2⟩ := rd_cells hr hs
      obtain ⟨cs', hc', ha'⟩ := hrest ρ g oh _ (along_splice ha hr hs (off := off) (by omega)) (fun q hq => hp q (by simp [hq]))
      refine ⟨cs', ?_, ha'⟩
      have hf' : fs.toArray[p.1]? = some (off, sz) := by simpa using hf
      simp only [List.map_cons, Instr.fill, hf']
      rw [if_neg (by simp [h1, hl, ha.1]; omega)]
      have hfold : (ρ p.2).cells.zipIdx.foldl (fun (cs : Array Value) (x : Value × Nat) => cs.setIfInBounds (off + x.2) x.1) cs = (splice cs.toList off (ρ p.2).cells.toList).toArray := by
        apply Array.ext'
        rw [← Array.foldl_toList, Array.toList_zipIdx, fold_set off _ 0 cs (by simp [h1, ha.1]; omega)]
        simp
      rw [← hc', ← hfold]
    · exact h.elim

theorem built_of {t : TypeId} {fs : List (Nat × Nat)} {z : List Value} (h : tk P t = .st fs z) (parts : List (Nat × Value)) : P.built t parts = Instr.fill (fs.toArray[·]?) z.toArray parts := by
  obtain ⟨F, i, hu, hi, hz, _, _, rfl, hall⟩ := tk_st h
  have hm : F.toList.mapM (fun f => (P.info? f.type).map fun i => (f.offset, i.size)) = some (F.toList.map fun f => (f.offset, P.cellsOf f.type)) := by
    have : ∀ l : List Field, (∀ f ∈ l, (P.info? f.type).isSome = true) → l.mapM (fun f => (P.info? f.type).map fun i => (f.offset, i.size)) = some (l.map fun f => (f.offset, P.cellsOf f.type)) := by
      intro l
      induction l with
      | nil => simp
      | cons f l ih =>
        intro hl
        obtain ⟨i, hi⟩ := Option.isSome_iff_exists.1 (hl f (by simp))
        simp [List.mapM_cons, hi, ih (fun q hq => hl q (by simp [hq])), Program.cellsOf]
    exact this _ hall
  simp [Program.built, hi, hu, hz, hm, Value.cells]

theorem step_build {o : Oper} {t : TypeId} {ps : Array (Nat × Operand)} {e : Operand → V} {oh : OH} {k : Acc → Prop} (ho : o.op = .build t ps)
    (h : sbuild (tk P t) (ps.toList.map fun p => (p.1, e p.2)) k) : Some P o e oh k := by
  unfold sbuild at h
  split at h
  · rename_i fs z hd
    obtain ⟨us, hK, hall⟩ := sfill_ok (fs := fs) e ps.toList (z.map V.ofConst1) h
    refine some_free hK fun g oh w ρ hr hρ => ?_
    obtain ⟨_, _, _, _, _, _, hz1, _⟩ := tk_st hd
    obtain ⟨cs', hc, ha⟩ := hall ρ g oh z.toArray (along_const z hz1) (fun p hp => hρ p.2 (by
      simp only [ho, Op.operands]
      exact List.mem_toArray.2 (List.mem_map.2 ⟨p, hp, rfl⟩)))
    refine ⟨.agg cs', ?_, cs', rfl, ha.1, ha.2⟩
    simp only [execOp, ho]
    refine run_val _ w w _ (run_build w t _ cs' ?_)
    rw [built_of hd, ← hc]
    simp
  · exact h.elim

theorem goInt_eq (n : Int) : goInt n = .int .i64 n := rfl

theorem step_len {o : Oper} {c : Call} {t : TypeId} {x : Operand} {e : Operand → V} {oh : OH} {k : Acc → Prop} (ho : o.op = .call c) (hc : c.callee = .builtin .len)
    (ha : c.args.toList = [x]) (ht : c.argTypes.toList = [t]) (h : slen (tk P t) oh (e x) k) : Some P o e oh k := by
  have ha' : c.args = #[x] := by rw [← Array.toArray_toList (xs := c.args), ha]
  have ht' : c.argTypes = #[t] := by rw [← Array.toArray_toList (xs := c.argTypes), ht]
  have hmem : x ∈ o.op.operands := by simp [ho, Op.operands, Call.operands, hc, ha']
  have run : ∀ (ρ : Operand → Value) (w : World) (v : Value), (Builtin.len_ #[t] o.type #[ρ x]).run P w = .ok v w → (execOp ρ o).run P w = .ok (.value v) w := by
    intro ρ w v hv
    simp [execOp, ho, resolve, hc, ha', ht', invoke, builtin, hv]
  unfold slen at h
  split at h
  · rename_i d1 v1 e1 sz by1 ag1 z1 f l hd hx
    obtain ⟨inf, zv, hu, _⟩ := tk_sl hd
    refine some_free h fun g oh w ρ hr hρ => ⟨_, run ρ w _ ?_, con_of rfl⟩
    have hrx := hρ x hmem; rw [hx] at hrx
    obtain ⟨a, cap, esz, b, off, c', hxe, _⟩ := rdT_sl hrx.1
    simp [Builtin.len_, run_underlying hu, hxe, goInt]
  · rename_i d1 v1 e1 sz by1 ag1 z1 id ver off len hd hx
    obtain ⟨ob, hob, hv, hl, hk⟩ := use_elim h
    obtain ⟨inf, zv, hu, _⟩ := tk_sl hd
    refine some_use hob hk fun g oh w ρ hr hρ hob' => ⟨_, run ρ w _ ?_, con_of rfl⟩
    have hrx := hρ x hmem; rw [hx] at hrx
    obtain ⟨_, ob', hob2, _, hat⟩ := hrx
    rw [hob'] at hob2
    obtain rfl : ob = ob' := by simpa using hob2
    obtain ⟨a, cap, hxe, _⟩ := hat hv hl
    simp [Builtin.len_, run_underlying hu, hxe, goInt]
  · rename_i d1 v1 e1 sz by1 ag1 z1 hd hx
    obtain ⟨inf, zv, hu, _⟩ := tk_sl hd
    refine some_free h fun g oh w ρ hr hρ => ⟨_, run ρ w _ ?_, con_of rfl⟩
    have hrx := hρ x hmem; rw [hx] at hrx
    obtain ⟨a, hxe⟩ := hrx
    simp [Builtin.len_, run_underlying hu, hxe, goInt]
  · rename_i d1 v1 s hd hx
    refine some_free h fun g oh w ρ hr hρ => ⟨_, run ρ w _ ?_, con_of rfl⟩
    have hrx := hρ x hmem; rw [hx] at hrx
    obtain ⟨hrx, _⟩ := hrx
    simp [Builtin.len_, run_underlying (tk_str hd), hrx, goInt]
  · exact h.elim

theorem step_pick {o : Oper} {c a b : Operand} {e : Operand → V} {oh : OH} {k : Acc → Prop} (ho : o.op = .pick c a b)
    (h : (match e c with | .con (.bool t) => (match t with | true => free k (e a) | false => free k (e b)) | _ => False)) : Some P o e oh k := by
  split at h
  · rename_i t hc
    split at h
    · refine some_free h fun g oh w ρ hr hρ => ⟨ρ a, ?_, hρ a (by simp [ho, Op.operands])⟩
      have := hρ c (by simp [ho, Op.operands]); rw [hc] at this
      simp [execOp, ho, this.1, asBool]
    · refine some_free h fun g oh w ρ hr hρ => ⟨ρ b, ?_, hρ b (by simp [ho, Op.operands])⟩
      have := hρ c (by simp [ho, Op.operands]); rw [hc] at this
      simp [execOp, ho, this.1, asBool]
  · exact h.elim

/-! ### slice expressions -/
theorem sbd_elim {x : Option V} {a : Int} {K : Int → Prop} (h : sbd x a K) : (x = none ∧ K a) ∨ ∃ q n, x = some (.con (.int q n)) ∧ K n := by
  unfold sbd at h
  split at h
  · exact .inl ⟨rfl, h⟩
  · exact .inr ⟨_, _, rfl, h⟩
  · exact h.elim

/-- A bound, as the model reads it. -/
theorem bound_run (x : Option Operand) (e : Operand → V) {a : Int} {K : Int → Prop} (h : sbd (x.map e) a K) :
    ∃ n, K n ∧ ∀ (g : Gh) (oh : OH) (ρ : Operand → Value), (∀ y, x = some y → RdV g oh (e y) (ρ y)) → (x = none ∧ n = a) ∨ ∃ y q, x = some y ∧ ρ y = .int q n := by
  rcases sbd_elim h with ⟨hx, hk⟩ | ⟨q, n, hx, hk⟩
  · exact ⟨a, hk, fun g oh ρ _ => .inl ⟨by simpa using hx, rfl⟩⟩
  · cases x with
    | none => simp at hx
    | some y =>
      refine ⟨n, hk, fun g oh ρ hr => .inr ⟨y, q, rfl, ?_⟩⟩
      have := hr y rfl
      have hy : e y = .con (.int q n) := by simpa using hx
      rw [hy] at this
      exact this.1

theorem run_bound (k : IntKind) (i : Int) (y : Nat) (code : BoundsCode) (h0 : 0 ≤ i) (h1 : i ≤ y) : (Instr.sliceBound (.int k i) y code).run P w = .ok i.toNat w := by
  simp [Instr.sliceBound, asIntOf, h0, h1]

theorem slice_run {lo hi : Option Operand} {ρ : Operand → Value} (isS : Bool) (len cap : Nat) (hlc : len ≤ cap) (a b : Int) (h0 : 0 ≤ a) (hab : a ≤ b) (hb : b ≤ len)
    (hlo : (lo = none ∧ a = 0) ∨ ∃ y q, lo = some y ∧ ρ y = .int q a) (hhi : (hi = none ∧ b = len) ∨ ∃ y q, hi = some y ∧ ρ y = .int q b) :
    (Instr.sliceBounds isS len cap (lo.map ρ) (hi.map ρ) none).run P w = .ok (a.toNat, b.toNat, cap) w := by
  rcases hlo with ⟨rfl, rfl⟩ | ⟨y, q, rfl, hy⟩ <;> rcases hhi with ⟨rfl, rfl⟩ | ⟨y', q', rfl, hy'⟩
  · simp [Instr.sliceBounds]
  · simp only [Instr.sliceBounds, Option.map_none, Option.map_some, hy']
    rw [Sem.run_bind]; simp only [Sem.run_pure, Result.andThen_ok]
    rw [Sem.run_bind, run_bound _ _ _ _ (by omega) (by omega)]
    simp
  · simp only [Instr.sliceBounds, Option.map_none, Option.map_some, hy]
    rw [Sem.run_bind]; simp only [Sem.run_pure, Result.andThen_ok]
    rw [Sem.run_bind]; simp only [Sem.run_pure, Result.andThen_ok]
    rw [Sem.run_bind, run_bound _ _ _ _ (by omega) (by omega)]
    simp
  · simp only [Instr.sliceBounds, Option.map_some, hy, hy']
    rw [Sem.run_bind]; simp only [Sem.run_pure, Result.andThen_ok]
    rw [Sem.run_bind, run_bound _ _ _ _ (by omega) (by omega)]
    simp only [Result.andThen_ok]
    rw [Sem.run_bind, run_bound _ _ _ _ (by omega) (by omega)]
    simp

end
end Go.Ev
