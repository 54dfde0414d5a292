/-
  OWN LAYER 'Ev', PART XD: OPERATIONS BY COMPUTATION ARE SOUND (comparisons, interfaces, functions, strings).
-/
import Derived.Test.YtjehfpfgpnmpoaaGreatDoorXX
import Derived.Laws.StructEq
import Derived.LaidEql
set_option linter.all false
namespace Go.Ev

section
variable {P : Program}

theorem some_pre {o : Oper} {e : Operand → V} {oh : OH} {pre : OH} {v : V} (hp : ∀ i ob, (i, ob) ∈ pre → oget oh i = some ob)
    (h : ∀ (g : Gh) (oh : OH) (w : World) (ρ : Operand → Value), HR g oh w → (∀ x, x ∈ o.op.operands → RdV g oh (e x) (ρ x)) → (∀ i ob, (i, ob) ∈ pre → oget oh i = some ob) →
      ∃ x, ((execOp ρ o).run P w = .ok (.value x) w) ∧ RdV g oh v x) : Some P o e oh fun b => b = ⟨pre, [], [], v⟩ :=
  ⟨_, opd_ok h, hp, by simp, rfl⟩

theorem xlive_spec {h : Hp} {id ver : Nat} {o : Obj} (hu : xlive h id ver = some o) : h id = some o ∧ o.ver = ver ∧ o.live = true := by
  unfold xlive at hu
  split at hu
  · rename_i ob hob
    split at hu
    · rename_i hl
      rw [bifO] at hu
      obtain ⟨hv, hu⟩ := hu
      cases hu
      exact ⟨hob, Nat.eq_of_beq_eq_true hv, hl⟩
    · cases hu
  · cases hu

theorem ref_val {g : Gh} {oh : OH} {id ver i f : Nat} {o : Obj} {x : Value} (h : RdV g oh (.ref id ver i f) x) (ho : oget oh id = some o) (hv : o.ver = ver) (hl : o.live = true) : ∃ b, g.m id = some b ∧ x = .pointer (some ⟨b, i * o.sz + f, none⟩) := by
  obtain ⟨_, o2, ho2, _, hat⟩ := h
  rw [ho] at ho2
  obtain rfl : o = o2 := by simpa using ho2
  exact hat hv hl

theorem own_val {g : Gh} {oh : OH} {id ver off len : Nat} {o : Obj} {x : Value} (h : RdV g oh (.own id ver off len) x) (ho : oget oh id = some o) (hv : o.ver = ver) (hl : o.live = true) : OwnAt g o id off len x := by
  obtain ⟨_, o2, ho2, _, hat⟩ := h
  rw [ho] at ho2
  obtain rfl : o = o2 := by simpa using ho2
  exact hat hv hl

theorem rdN_of_V {g : Gh} {oh : OH} {v : V} {x : Value} (h : RdV g oh v x) (hs : notTup v = true) : RdN g oh v x := by
  cases v with
  | tup l => cases hs
  | agg l =>
    obtain ⟨cs, rfl, hl, hr⟩ := h
    refine .agg l cs hl (fun j v c q1 q2 => ?_) (fun j v c q1 q2 => ⟨(hr j v c q1 q2).2, fun m e => ?_⟩)
    · have h1 := (hr j v c q1 q2).1
      cases v with
      | agg m => exact h1.elim
      | tup m => exact h1.elim
      | ifc t v => exact h1
      | clo f p q => exact h1
      | undef => exact .base .undef c rfl h1
      | con v => exact .base (.con v) c rfl h1
      | ro f t => exact .base (.ro f t) c rfl h1
      | emp n => exact .base (.emp n) c rfl h1
      | own a b c' d => exact .base (.own a b c' d) c rfl h1
      | ref a b c' d => exact .base (.ref a b c' d) c rfl h1
      | mp a => exact .base (.mp a) c rfl h1
      | yld a => exact .base (.yld a) c rfl h1
    · subst e; exact ((hr j _ c q1 q2).1).elim
  | ifc t v => exact h
  | clo f p q => exact h
  | undef => exact .base .undef x rfl h
  | con v => exact .base (.con v) x rfl h
  | ro f t => exact .base (.ro f t) x rfl h
  | emp n => exact .base (.emp n) x rfl h
  | own a b c d => exact .base (.own a b c d) x rfl h
  | ref a b c d => exact .base (.ref a b c d) x rfl h
  | mp a => exact .base (.mp a) x rfl h
  | yld a => exact .base (.yld a) x rfl h

theorem solid_val {g : Gh} {oh : OH} {v : V} {x : Value} (h : RdV g oh v x) (hs : v.solid = true) : (∀ us, x ≠ .tuple us) ∧ v ≠ .undef ∧ notTup v = true := by
  have h1 := rd_cells h hs
  refine ⟨(fun us e => ?_), (fun e => by subst e; cases hs), (by cases v <;> first | rfl | cases hs)⟩
  subst e
  cases v with
  | undef => cases hs
  | tup l => cases hs
  | agg l => obtain ⟨cs, e, _⟩ := h; cases e
  | ifc t v => have : RdN g oh (.ifc t v) _ := h; cases this with | base _ _ hb _ => cases hb
  | clo a b c => obtain ⟨_, _, e⟩ := rdN_clo h; cases e
  | con v => obtain ⟨e, h1⟩ := h; subst e; cases h1
  | ro f t => have := h.2; cases this
  | emp n => obtain ⟨a, e, _⟩ := h; cases e
  | own a b c d => have := h.1; cases this
  | ref a b c d => have := h.1; cases this
  | mp a => have := h.1; cases this
  | yld a => have := h.1; cases this

theorem ifc_val {g : Gh} {oh : OH} {t : TypeId} {v : V} {x : Value} (h : RdV g oh (.ifc t v) x) : ∃ y, x = .iface t y ∧ RdN g oh v y := by
  have h' : RdN g oh (.ifc t v) x := h
  generalize hv : V.ifc t v = u at h'
  cases h' with
  | base _ _ hb _ => subst hv; cases hb
  | ifc t' v' y h1 _ _ => cases hv; exact ⟨y, rfl, h1⟩
  | clo => cases hv
  | agg => cases hv

/-! ### against nil -/
theorem cmp_shape {t : TypeId} {a b : Value} {r : Bool} {w : World} (he : binOp .eql t a b = (Op.equal t a b >>= fun r => pure (.bool r))) (hn : binOp .neq t a b = (Op.equal t a b >>= fun r => pure (.bool (!r))))
    (h : ∀ d, (Op.equalIn (d + 2) t a b).run P w = .ok r w) : (binOp .eql t a b).run P w = .ok (.bool r) w ∧ (binOp .neq t a b).run P w = .ok (.bool (!r)) w := by
  have := h 9998
  rw [he, hn]
  simp [Op.equal, Op.maxDepth, this]

/-- the two operands compare so, whatever else -/
def CmpOK (P : Program) (t : TypeId) (c : Bool) (a b : Value) (r : Bool) (w : World) : Prop :=
  (∀ (op : BinOp) (xo yo : Operand), (c = true → (isCst xo || isCst yo) = true) → (eqGuard op t xo yo a b).run P w = .ok () w) ∧ (binOp .eql t a b).run P w = .ok (.bool r) w ∧ (binOp .neq t a b).run P w = .ok (.bool (!r)) w

theorem pre1_spec {id : Nat} {b r : Bool} {p : OH} {x : Option Obj} (h : pre1 id b x = some (p, r)) : ∃ o, x = some o ∧ p = [(id, o)] ∧ b = r := by
  cases x with
  | none => cases h
  | some o => simp only [pre1, Option.some.injEq, Prod.mk.injEq] at h; exact ⟨o, rfl, h.1.symm, h.2⟩

/-- A struct of plain cells, of these kinds. -/
def EqSt (P : Program) (t : TypeId) (ks : List TK) : Prop :=
  P.stoodInHeld t = false ∧ P.eqGuardType P.depth t = false ∧ ∃ fs, P.underlying t = some (.struct fs) ∧ fs.size = ks.length ∧
    ∀ (i : Nat) (f : Field), fs[i]? = some f → f.offset = i ∧ f.name ≠ "_" ∧ ∃ k, ks[i]? = some k ∧ tk P f.type = k ∧ (k = .bool ∨ k = .str ∨ ∃ q, k = .int q)

theorem xeq1_ok {t : TypeId} {k : TK} {u v : V} {r : Bool} {g : Gh} {oh : OH} {a b : Value} {w : World} (d : Nat) (ht : tk P t = k) (h : xeq1 k u v = some r) (ha : RdV1 g oh u a) (hb : RdV1 g oh v b) :
    (Op.equalIn (d + 1) t a b).run P w = .ok r w := by
  unfold xeq1 at h
  split at h
  · rw [bifO] at h
    obtain ⟨hk, h⟩ := h
    have := keq_iff hk
    subst this
    cases h
    obtain ⟨rfl, _⟩ := ha
    obtain ⟨rfl, _⟩ := hb
    rw [run_equalIn_int w d t _ _ _ _ (tk_int ht), ieq_iff]
  · cases h
    obtain ⟨rfl, _⟩ := ha
    obtain ⟨rfl, _⟩ := hb
    rw [run_equalIn_string w d t _ _ (tk_str ht), bytesEq_iff, ByteArray.toList_eq, ByteArray.toList_eq]
  · cases h
    obtain ⟨rfl, _⟩ := ha
    obtain ⟨rfl, _⟩ := hb
    rw [run_equalIn_bool' w d t _ _ (tk_bool ht), beqB_iff]
  · cases h

theorem part_one {t : TypeId} {k : TK} {cs : Array Value} {i : Nat} {c : Value} {w : World} (ht : tk P t = k) (hk : k = .bool ∨ k = .str ∨ ∃ q, k = .int q) (hc : cs[i]? = some c) : (part t cs i).run P w = .ok c w := by
  have h := (tk_agg (P := P) (t := t) (d := k) ht (by rcases hk with rfl | rfl | ⟨q, rfl⟩ <;> exact Nat.one_pos) w).1
  have hf : k.isAgg = false := by rcases hk with rfl | rfl | ⟨q, rfl⟩ <;> rfl
  rw [hf] at h
  unfold part
  simp [Sem.run_bind, h, hc]

theorem eqFields_ok {g : Gh} {oh : OH} {w : World} {d : Nat} {fs : Array Field} {ks : List TK} {xs ys : Array Value} {l m : List V}
    (hf : ∀ (i : Nat) (f : Field), fs[i]? = some f → f.offset = i ∧ f.name ≠ "_" ∧ ∃ k, ks[i]? = some k ∧ tk P f.type = k ∧ (k = .bool ∨ k = .str ∨ ∃ q, k = .int q))
    (hfs : fs.size = ks.length) (hxl : xs.size = l.length) (hyl : ys.size = m.length) (hx : ∀ (j : Nat) (v : V) (c : Value), l[j]? = some v → xs[j]? = some c → RdV1 g oh v c) (hy : ∀ (j : Nat) (v : V) (c : Value), m[j]? = some v → ys[j]? = some c → RdV1 g oh v c) :
    ∀ (fl : List Field) (i : Nat) (r : Bool), fs.toList.drop i = fl → xeqL (ks.drop i) (l.drop i) (m.drop i) = some r → (Op.eqFields (d + 1) xs ys fl).run P w = .ok r w
  | [], i, r, hd, h => by
    have hi : ks.drop i = [] := by
      have : fs.toList.length ≤ i := List.drop_eq_nil_iff.1 hd
      exact List.drop_eq_nil_iff.2 (by rw [← hfs]; simpa using this)
    rw [hi] at h
    unfold xeqL at h
    split at h
    · cases h; rfl
    · rename_i hk _ _; cases hk
    · cases h
  | f :: fl, i, r, hd, h => by
    have hfi : fs[i]? = some f := by
      have : (fs.toList.drop i)[0]? = some f := by rw [hd]; rfl
      rw [List.getElem?_drop] at this; simpa using this
    obtain ⟨h1, h2, k, h3, h4, h5⟩ := hf i f hfi
    have hd' : fs.toList.drop (i + 1) = fl := by
      have : (fs.toList.drop i).drop 1 = fl := by rw [hd]; rfl
      rw [List.drop_drop] at this; exact this
    have hkd : ks.drop i = k :: ks.drop (i + 1) := List.drop_eq_getElem_cons (List.getElem?_eq_some_iff.1 h3).1 ▸ by rw [(List.getElem?_eq_some_iff.1 h3).2]
    rw [hkd] at h
    match hl : l.drop i, hm : m.drop i, h with
    | [], _, h => simp [xeqL] at h
    | _ :: _, [], h => simp [xeqL] at h
    | u :: lr, v :: mr, h =>
      have hu : l[i]? = some u := by
        have : (l.drop i)[0]? = some u := by rw [hl]; rfl
        rw [List.getElem?_drop] at this; simpa using this
      have hv : m[i]? = some v := by
        have : (m.drop i)[0]? = some v := by rw [hm]; rfl
        rw [List.getElem?_drop] at this; simpa using this
      have hl' : l.drop (i + 1) = lr := by
        have : (l.drop i).drop 1 = lr := by rw [hl]; rfl
        rw [List.drop_drop] at this; exact this
      have hm' : m.drop (i + 1) = mr := by
        have : (m.drop i).drop 1 = mr := by rw [hm]; rfl
        rw [List.drop_drop] at this; exact this
      obtain ⟨c, hc⟩ : ∃ c, xs[i]? = some c := ⟨_, Array.getElem?_eq_getElem (by rw [hxl]; exact (List.getElem?_eq_some_iff.1 hu).1)⟩
      obtain ⟨c', hc'⟩ : ∃ c, ys[i]? = some c := ⟨_, Array.getElem?_eq_getElem (by rw [hyl]; exact (List.getElem?_eq_some_iff.1 hv).1)⟩
      simp only [xeqL] at h
      unfold Op.eqFields
      rw [if_pos h2, h1]
      simp only [Sem.run_bind, part_one h4 h5 hc, part_one h4 h5 hc', Result.andThen_ok]
      split at h
      · rename_i he
        rw [xeq1_ok d h4 he (hx i u c hu hc) (hy i v c' hv hc')]
        simp only [Result.andThen_ok, Bool.not_true, Bool.false_eq_true, if_false]
        exact eqFields_ok hf hfs hxl hyl hx hy fl (i + 1) r hd' (by rw [hl', hm']; exact h)
      · rename_i he
        cases h
        rw [xeq1_ok d h4 he (hx i u c hu hc) (hy i v c' hv hc')]
        simp
      · cases h

theorem xeqS_ok {t : TypeId} {ks : Option (List TK)} {l m : List V} {p : OH} {r : Bool} (hks : ∀ q, ks = some q → EqSt P t q) (h : xeqS ks l m = some (p, r)) :
    p = [] ∧ ∀ (g : Gh) (oh : OH) (w : World) (a b : Value) (c : Bool), RdV g oh (.agg l) a → RdV g oh (.agg m) b → CmpOK P t c a b r w := by
  unfold xeqS at h
  split at h
  · rename_i q
    rw [bifO] at h
    obtain ⟨hlen, h⟩ := h
    split at h
    · rename_i b0 hb
      cases h
      obtain ⟨e1, e2, fs, e3, e4, e5⟩ := hks q rfl
      refine ⟨rfl, fun g oh w a b c ha hb' => ?_⟩
      obtain ⟨xs, rfl, hxl, hxr⟩ := ha
      obtain ⟨ys, rfl, hyl, hyr⟩ := hb'
      have hff : P.fieldsOf t = fs := by unfold Program.fieldsOf; rw [e3]
      refine ⟨fun op xo yo _ => run_eqGuard_agg w op t xo yo xs ys e2, cmp_shape rfl rfl fun d => ?_⟩
      rw [run_equalIn_agg w (d + 1) t xs ys (by rw [hff]; exact e3) e1, hff]
      exact eqFields_ok e5 e4 hxl hyl (fun j v c a b => (hxr j v c a b).1) (fun j v c a b => (hyr j v c a b).1) fs.toList 0 r (by simp) (by simpa using hb)
    · cases h
  · cases h

theorem info_of_known {t : TypeId} (h : isKnown (tk P t) = true) : ∃ j, P.info? t = some j := by
  cases hi : P.info? t with
  | some j => exact ⟨j, rfl⟩
  | none =>
    exfalso
    have hc : P.cellsOf t = 0 := by simp [Program.cellsOf, hi]
    have : tk P t = .other := by
      unfold tk
      split
      · rw [hi]
      · rw [hi]
      · rw [hc]; rfl
      · rfl
    rw [this] at h; cases h

set_option maxHeartbeats 2000000 in
theorem xcmp_ok {tt : TypeId → TK} (htt : ∀ t, tt t = tk P t) {t : TypeId} {eqst : Option (List TK)} {c : Bool} {oh : OH} {h : Hp} {x y : V} {p : OH} {r : Bool} (hh : ∀ i, oget oh i = h i) (hc : xcmp tt (tk P t) eqst c h x y = some (p, r)) (hst : ∀ q, eqst = some q → EqSt P t q) :
    (∀ i ob, (i, ob) ∈ p → oget oh i = some ob) ∧ ∀ (g : Gh) (oh' : OH) (w : World) (a b : Value), RdV g oh' x a → RdV g oh' y b → (∀ i ob, (i, ob) ∈ p → oget oh' i = some ob) → CmpOK P t c a b r w := by
  have triv : p = [] → ∀ i ob, (i, ob) ∈ p → oget oh i = some ob := fun e => by subst e; simp
  unfold xcmp at hc
  split at hc
  · -- pointers
    rename_i e ht
    have hu := tk_ptr ht
    split at hc
    · cases hc
      refine ⟨by simp, fun g oh' w a b ha hb _ => ?_⟩
      obtain ⟨rfl, _⟩ := ha
      obtain ⟨rfl, _⟩ := hb
      exact ⟨fun op xo yo _ => eqGuard_con op t xo yo _ _ (by simp) (by simp) w, cmp_shape rfl rfl fun d => by simp [Op.equalIn, run_underlying hu]⟩
    · obtain ⟨o, hl, rfl, rfl⟩ := pre1_spec hc
      obtain ⟨h1, h2, h3⟩ := xlive_spec hl
      refine ⟨by simp [hh, h1], fun g oh' w a b ha hb hp => ?_⟩
      obtain ⟨bb, _, rfl⟩ := ref_val ha (hp _ _ (by simp)) h2 h3
      obtain ⟨rfl, _⟩ := hb
      exact ⟨fun op xo yo _ => eqGuard_con op t xo yo _ _ (by simp) (by simp) w, cmp_shape rfl rfl fun d => by simp [Op.equalIn, run_underlying hu]⟩
    · rename_i id ver i f id2 ver2 i2 f2
      rw [bifO] at hc
      obtain ⟨hid, hc⟩ := hc
      simp only [Bool.and_eq_true, Nat.beq_eq] at hid
      obtain ⟨⟨⟨⟨rfl, rfl⟩, rfl⟩, rfl⟩, hk⟩ := hid
      obtain ⟨j, hj⟩ := info_of_known (htt e ▸ hk)
      obtain ⟨o, hl, rfl, rfl⟩ := pre1_spec hc
      obtain ⟨h1, h2, h3⟩ := xlive_spec hl
      refine ⟨by simp [hh, h1], fun g oh' w a b ha hb hp => ?_⟩
      obtain ⟨bb, hbb, rfl⟩ := ref_val ha (hp _ _ (by simp)) h2 h3
      obtain ⟨b2, hb2, rfl⟩ := ref_val hb (hp _ _ (by simp)) h2 h3
      rw [hbb] at hb2
      obtain rfl : bb = b2 := by simpa using hb2
      exact ⟨fun op xo yo _ => eqGuard_con op t xo yo _ _ (by simp) (by simp) w, cmp_shape rfl rfl fun d => by simp [Op.equalIn, run_underlying hu, sizeOf, typeInfo, hj, run_sameAddr_same]⟩
    · cases hc
  · -- slices
    rename_i e sz by_ ag z ht
    obtain ⟨_, _, hu, _⟩ := tk_sl ht
    split at hc
    · cases hc
      refine ⟨by simp, fun g oh' w a b ha hb _ => ?_⟩
      obtain ⟨a1, rfl, ha1⟩ := ha
      obtain ⟨b1, rfl, hb1⟩ := hb
      have := ha1 rfl; have := hb1 rfl
      subst a1; subst b1
      exact ⟨fun op xo yo _ => eqGuard_con op t xo yo _ _ (by simp) (by simp) w, cmp_shape rfl rfl fun d => by simp [Op.equalIn, run_underlying hu]⟩
    · rename_i id ver off len
      rw [bifO] at hc
      obtain ⟨hlen, hc⟩ := hc
      rw [Nat.blt_eq] at hlen
      obtain ⟨o, hl, rfl, rfl⟩ := pre1_spec hc
      obtain ⟨h1, h2, h3⟩ := xlive_spec hl
      refine ⟨by simp [hh, h1], fun g oh' w a b ha hb hp => ?_⟩
      obtain ⟨ad, cap, rfl, hle, _, hcap⟩ := own_val ha (hp _ _ (by simp)) h2 h3
      obtain ⟨bb, _, rfl, _⟩ := hcap (by omega)
      obtain ⟨b1, rfl, hb1⟩ := hb
      have := hb1 rfl
      subst b1
      exact ⟨fun op xo yo _ => eqGuard_con op t xo yo _ _ (by simp) (by simp) w, cmp_shape rfl rfl fun d => by simp [Op.equalIn, run_underlying hu]⟩
    · cases hc
  · -- interfaces
    rename_i ht
    obtain ⟨ms, hu⟩ := tk_ifc ht
    split at hc
    · rw [bifO] at hc
      obtain ⟨hcst, hc⟩ := hc
      cases hc
      refine ⟨by simp, fun g oh' w a b ha hb _ => ?_⟩
      obtain ⟨rfl, _⟩ := ha
      obtain ⟨rfl, _⟩ := hb
      refine ⟨fun op xo yo hk => ?_, cmp_shape rfl rfl fun d => by simp [Op.equalIn, run_underlying hu]⟩
      have hk := hk hcst
      unfold eqGuard
      cases xo <;> cases yo <;> first | (cases hk; done) | (split <;> rfl) | (cases op <;> rfl)
    · cases hc
      refine ⟨by simp, fun g oh' w a b ha hb _ => ?_⟩
      obtain ⟨y, rfl, _⟩ := ifc_val ha
      obtain ⟨rfl, _⟩ := hb
      exact ⟨fun op xo yo _ => eqGuard_con op t xo yo _ _ (by simp) (by simp) w, cmp_shape rfl rfl fun d => by simp [Op.equalIn, run_underlying hu]⟩
    · cases hc
  · -- functions
    rename_i ht
    obtain ⟨_, _, _, hu⟩ := tk_fn ht
    split at hc
    · cases hc
      refine ⟨by simp, fun g oh' w a b ha hb _ => ?_⟩
      obtain ⟨rfl, _⟩ := ha
      obtain ⟨rfl, _⟩ := hb
      exact ⟨fun op xo yo _ => eqGuard_con op t xo yo _ _ (by simp) (by simp) w, cmp_shape rfl rfl fun d => by simp [Op.equalIn, run_underlying hu]⟩
    · cases hc
      refine ⟨by simp, fun g oh' w a b ha hb _ => ?_⟩
      obtain ⟨_, _, rfl⟩ := rdN_clo ha
      obtain ⟨rfl, _⟩ := hb
      exact ⟨fun op xo yo _ => eqGuard_con op t xo yo _ _ (by simp) (by simp) w, cmp_shape rfl rfl fun d => by simp [Op.equalIn, run_underlying hu]⟩
    · cases hc
      refine ⟨by simp, fun g oh' w a b ha hb _ => ?_⟩
      obtain ⟨rfl, _⟩ := ha
      obtain ⟨rfl, _⟩ := hb
      exact ⟨fun op xo yo _ => eqGuard_con op t xo yo _ _ (by simp) (by simp) w, cmp_shape rfl rfl fun d => by simp [Op.equalIn, run_underlying hu]⟩
    · cases hc
  · -- maps
    rename_i ht
    have hu := tk_map ht
    split at hc
    · cases hc
      refine ⟨by simp, fun g oh' w a b ha hb _ => ?_⟩
      obtain ⟨rfl, _⟩ := ha
      obtain ⟨rfl, _⟩ := hb
      exact ⟨fun op xo yo _ => eqGuard_con op t xo yo _ _ (by simp) (by simp) w, cmp_shape rfl rfl fun d => by simp [Op.equalIn, run_underlying hu]⟩
    · rename_i id
      obtain ⟨o, hl, rfl, rfl⟩ := pre1_spec hc
      obtain ⟨h1, h2, h3⟩ := xlive_spec hl
      refine ⟨fun i ob hm => by
        have hm : i = id ∧ ob = o := by simpa using hm
        rw [hm.1, hm.2, hh]; exact h1, fun g oh' w a b ha hb hp => ?_⟩
      obtain ⟨_, o2, ho2, hat⟩ := ha
      rw [hp id o (by simp)] at ho2
      obtain rfl : o = o2 := by simpa using ho2
      obtain ⟨bb, _, rfl⟩ := hat h2 h3
      obtain ⟨rfl, _⟩ := hb
      exact ⟨fun op xo yo _ => eqGuard_con op t xo yo _ _ (by simp) (by simp) w, cmp_shape rfl rfl fun d => by simp [Op.equalIn, run_underlying hu]⟩
    · cases hc
  · split at hc
    · obtain ⟨rfl, hs⟩ := xeqS_ok hst hc
      exact ⟨by simp, fun g oh' w a b ha hb _ => hs g oh' w a b c ha hb⟩
    · cases hc
  · cases hc

end
end Go.Ev
