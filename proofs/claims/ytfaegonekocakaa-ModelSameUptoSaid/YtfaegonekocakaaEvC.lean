/-
  OWN LAYER 'Ev', PART C: ONE OPERATION: what 'step' asks is enough for the model's operation.
-/
import Derived.Test.YtfaegonekocakaaEvB
import Derived.Laws.Small
set_option linter.all false
namespace Go.Ev

/-- What an operation may come to. -/
def Out (P : Program) (Z : Value → World → Prop) : Result Next → Prop
  | .ok (.value v) w => Z v w
  | .ok .skip w => Z Go.undef w
  | .ok (.enter f args) w => Calls P f args w fun e w' => ∃ v, e = .returned v ∧ Z v w'
  | _ => False

/-- What is behind an operation. -/
def Behind (g : Gh) (oh : OH) (w : World) (a : Acc) (v : Value) (w' : World) : Prop :=
  ∃ g', HR g' (a.post ++ oh) w' ∧ RdV g' (a.post ++ oh) a.v v ∧ Mono g oh g' (a.post ++ oh) ∧ Fr g oh w g' (a.post ++ oh) w'

/-- The operation, wherever its operands read so, does what 'a' says. -/
def OpOK (P : Program) (o : Oper) (e : Operand → V) (a : Acc) : Prop :=
  ∀ (g : Gh) (oh : OH) (w : World) (ρ : Operand → Value), HR g oh w → (∀ x, x ∈ o.op.operands → RdV g oh (e x) (ρ x)) →
    (∀ i ob, (i, ob) ∈ a.pre → oget oh i = some ob) → (∀ i, i ∈ a.nw → oget oh i = none) →
    Out P (Behind g oh w a) ((execOp ρ o).run P w)

/-- A function, called with data, hands back data (f: in new memory), and turns nothing that was there. -/
def Sto.un (S N : Sto) : Sto := fun b o => match S b o with | some c => some c | none => N b o

def Reads (S : Sto) (ts : List T) (args : Array Value) : Prop := args.size = ts.length ∧ ∀ (j : Nat) (t : T) (x : Value), ts[j]? = some t → args[j]? = some x → RdT S t x

def Sto.pick (f : Bool) (S N : Sto) : Sto :=
  match f with
  | true => N
  | false => S.un N

/-- A function with a body. -/
def Callable (P : Program) (q : FuncId) : Prop := ∃ fn, P.funcs[q]? = some fn ∧ (fn.name == "runtime.NumGoroutine") = false ∧ fn.body.isNone = false

def Ok (P : Program) (q : FuncId) (ts : List T) (f : Bool) (r : T) : Prop :=
  Callable P q ∧ ∀ (S : Sto) (w : World) (args : Array Value), (∀ b o c, S b o = some c → w.cell? ⟨b, o, none⟩ = some c) → Reads S ts args →
    Calls P q args w fun e w' => ∃ v N, e = .returned v ∧ RowKit.Below w.heap.size w w' ∧
      (∀ b o c, N b o = some c → w.heap.size ≤ b ∧ w'.cell? ⟨b, o, none⟩ = some c) ∧ RdT (Sto.pick f S N) r v

/-- A function that hands back objects of its own. -/
def OkO (P : Program) (q : FuncId) (ts : List T) (oh : OH) (v : V) : Prop :=
  Callable P q ∧ ∀ (S : Sto) (w : World) (args : Array Value), (∀ b o c, S b o = some c → w.cell? ⟨b, o, none⟩ = some c) → Reads S ts args →
    Calls P q args w fun e w' => ∃ x gn, e = .returned x ∧ RowKit.Below w.heap.size w w' ∧ HR gn oh w' ∧ RdV gn oh v x ∧
      (∀ b o c, gn.G b o = some c → S b o = some c ∨ w.heap.size ≤ b) ∧ (∀ b o c, gn.F b o = some c → w.heap.size ≤ b) ∧ (∀ b, Owned gn oh b → w.heap.size ≤ b)
def OkR (P : Program) (q : FuncId) (ts : List T) : Res → Prop
  | .data f r => Ok P q ts f r
  | .objs oh v => OkO P q ts oh v

section
variable {P : Program}

theorem opd_ok {o : Oper} {e : Operand → V} {v : V} {pre : OH}
    (h : ∀ (g : Gh) (oh : OH) (w : World) (ρ : Operand → Value), HR g oh w → (∀ x, x ∈ o.op.operands → RdV g oh (e x) (ρ x)) →
      (∀ i ob, (i, ob) ∈ pre → oget oh i = some ob) → ∃ x, ((execOp ρ o).run P w = .ok (.value x) w) ∧ RdV g oh v x) : OpOK P o e ⟨pre, [], [], v⟩ := by
  intro g oh w ρ hr ho hp _
  obtain ⟨x, hx, hv⟩ := h g oh w ρ hr ho hp
  rw [hx]
  exact ⟨g, hr, hv, Mono.refl _ _, Fr.refl _ _ _⟩

/-- 'k' is reached with some accord that the operation keeps. -/
def Some (P : Program) (o : Oper) (e : Operand → V) (oh : OH) (k : Acc → Prop) : Prop :=
  ∃ a, OpOK P o e a ∧ (∀ i ob, (i, ob) ∈ a.pre → oget oh i = some ob) ∧ (∀ i, i ∈ a.nw → oget oh i = none) ∧ k a

theorem some_free {o : Oper} {e : Operand → V} {oh : OH} {k : Acc → Prop} {v : V} (hk : free k v)
    (h : ∀ (g : Gh) (oh : OH) (w : World) (ρ : Operand → Value), HR g oh w → (∀ x, x ∈ o.op.operands → RdV g oh (e x) (ρ x)) →
      ∃ x, ((execOp ρ o).run P w = .ok (.value x) w) ∧ RdV g oh v x) : Some P o e oh k :=
  ⟨⟨[], [], [], v⟩, opd_ok (fun g oh w ρ a b _ => h g oh w ρ a b), by simp, by simp, hk⟩

theorem rdV_con {g : Gh} {oh : OH} {v x : Value} (h : RdV g oh (.con v) x) : x = v ∧ v.oneCell' = true := h

theorem con_of {g : Gh} {oh : OH} {v : Value} (h : v.oneCell' = true) : RdV g oh (.con v) v := ⟨rfl, h⟩

theorem run_val (s : Sem Value) (w w' : World) (x : Value) (h : s.run P w = .ok x w') : ((do pure (Next.value (← s))) : Sem Next).run P w = .ok (.value x) w' := by
  simp [h]

theorem exec_move {o : Oper} {x : Operand} (ho : o.op = .move x ∨ o.op = .assign x) (ρ : Operand → Value) (w : World) : (execOp ρ o).run P w = .ok (.value (ρ x)) w := by
  rcases ho with h | h <;> simp [execOp, h]

theorem step_move {o : Oper} {x : Operand} {e : Operand → V} {oh : OH} {k : Acc → Prop} (ho : o.op = .move x ∨ o.op = .assign x) (hk : free k (e x)) : Some P o e oh k :=
  some_free hk fun g oh w ρ _ hρ => ⟨ρ x, exec_move ho ρ w, hρ x (by rcases ho with h | h <;> simp [h, Op.operands])⟩

theorem sint_ok {op : BinOp} {k : IntKind} {a b : Int} {K : Value → Prop} (h : sint op k a b K) :
    ∃ v, K v ∧ v.oneCell' = true ∧ ∀ t w, (op ≠ .shl ∧ op ≠ .shr → (binOp op t (.int k a) (.int k b)).run P w = .ok v w) := by
  unfold sint at h
  split at h
  all_goals first
    | exact h.elim
    | (obtain ⟨r, rfl, h⟩ := h; exact ⟨_, h, rfl, fun t w _ => by simp [binOp, Op.intArith, Op.intBits, Op.intCmp]⟩)
    | (obtain ⟨h0, r, rfl, h⟩ := h; exact ⟨_, h, rfl, fun t w _ => by simp [binOp, Op.intDiv, h0]⟩)
    | exact ⟨_, h, rfl, fun t w _ => by simp [binOp, Op.intArith, Op.intBits, Op.intCmp]⟩

theorem eqGuard_con (op : BinOp) (t : TypeId) (x y : Operand) (a b : Value) (ha : a ≠ .nilIface) (ha' : ∀ cs, a ≠ .agg cs) (w : World) : (eqGuard op t x y a b).run P w = .ok () w := by
  cases a <;> first
    | exact absurd rfl ha
    | exact absurd rfl (ha' _)
    | (cases op <;> rfl)

theorem oneC_eq (v : Value) : oneC v = v.oneCell' := by cases v <;> rfl

/-- A type's kind, if it is no struct's. -/
theorem tk_tk1 {t : TypeId} {d : TK} (h : tk P t = d) (h1 : ∀ fs z, d ≠ .st fs z) (h2 : d ≠ .other) :
    ∃ td, P.underlying t = some td ∧ tk1 P td = d ∧ P.cellsOf t = 1 := by
  unfold tk at h
  split at h
  · split at h
    · split at h
      · split at h
        · exact absurd h.symm (h1 _ _)
        · exact absurd h.symm h2
      · exact absurd h.symm h2
    · exact absurd h.symm h2
  · rename_i td _ hu
    split at h
    · rename_i hc; exact ⟨td, hu, h, Nat.eq_of_beq_eq_true hc⟩
    · exact absurd h.symm h2
  · exact absurd h.symm h2

theorem tk_one {t : TypeId} {d : TK} (h : tk P t = d) (h1 : ∀ fs z, d ≠ .st fs z) (h2 : d ≠ .other) (w : World) : (sizeOf t).run P w = .ok 1 w := by
  obtain ⟨_, _, _, hc⟩ := tk_tk1 h h1 h2
  unfold Program.cellsOf at hc
  cases hi : P.info? t with
  | none => simp [hi] at hc
  | some i => simp [hi] at hc; simp [sizeOf, typeInfo, hi, hc]

theorem tk_bool {t : TypeId} (h : tk P t = .bool) : P.underlying t = some .bool := by
  obtain ⟨td, hu, ht, _⟩ := tk_tk1 h (by simp) (by simp)
  unfold tk1 at ht
  split at ht
  any_goals exact hu
  all_goals (try (repeat' split at ht)) <;> cases ht
theorem tk_int {t : TypeId} {k : IntKind} (h : tk P t = .int k) : P.underlying t = some (.int k) := by
  obtain ⟨td, hu, ht, _⟩ := tk_tk1 h (by simp) (by simp)
  unfold tk1 at ht
  split at ht
  all_goals (try (repeat' split at ht)) <;> cases ht
  exact hu
theorem tk_str {t : TypeId} (h : tk P t = .str) : P.underlying t = some .string := by
  obtain ⟨td, hu, ht, _⟩ := tk_tk1 h (by simp) (by simp)
  unfold tk1 at ht
  split at ht
  any_goals exact hu
  all_goals (try (repeat' split at ht)) <;> cases ht
theorem tk_ptr {t : TypeId} (h : tk P t = .ptr) : ∃ e, P.underlying t = some (.pointer e) := by
  obtain ⟨td, hu, ht, _⟩ := tk_tk1 h (by simp) (by simp)
  unfold tk1 at ht
  split at ht
  any_goals exact ⟨_, hu⟩
  all_goals (try (repeat' split at ht)) <;> cases ht

theorem tk_sl {t e sz bt : Nat} {ag : Bool} {z : List Value} (h : tk P t = .sl e sz bt ag z) :
    ∃ i zv, P.underlying t = some (.slice e) ∧ P.info? e = some i ∧ i.zero = some zv ∧ i.size = sz ∧ i.bytes = bt ∧ zv.cells.toList = z ∧ z.length = sz ∧ (∀ c ∈ z, c.oneCell' = true) ∧
      (ag = true → ∃ cs, zv = .agg cs) ∧ (ag = false → sz = 1) := by
  obtain ⟨td, hu, h, _⟩ := tk_tk1 h (by simp) (by simp)
  unfold tk1 at h
  split at h
  any_goals (cases h; done)
  · rename_i e'
    split at h
    · rename_i i hi
      split at h
      · rename_i cs hz
        split at h
        · rename_i hc
          cases h
          simp only [Bool.and_eq_true, List.all_eq_true] at hc
          refine ⟨i, _, hu, hi, hz, rfl, rfl, rfl, ?_, fun c hcm => ?_, fun _ => ⟨cs, rfl⟩, by simp⟩
          · have := Nat.eq_of_beq_eq_true hc.2; simp [this]
          · rw [← oneC_eq]; exact hc.1 c hcm
        · cases h
      · rename_i z' hne hz
        split at h
        · rename_i hc
          cases h
          simp only [Bool.and_eq_true] at hc
          refine ⟨i, _, hu, hi, hz, Nat.eq_of_beq_eq_true hc.2, rfl, ?_, rfl, ?_, by simp, fun _ => rfl⟩
          · cases z' <;> first | rfl | exact (hne _ rfl).elim
          · intro c hcm
            obtain rfl : c = z' := by simpa using hcm
            rw [← oneC_eq]; exact hc.1
        · cases h
      · cases h
    · cases h
theorem tk_st {t : Nat} {fs : List (Nat × Nat)} {z : List Value} (h : tk P t = .st fs z) :
    ∃ F i, P.underlying t = some (.struct F) ∧ P.info? t = some i ∧ i.zero = some (.agg z.toArray) ∧ i.size = z.length ∧ (∀ c ∈ z, c.oneCell' = true) ∧ fs = (F.toList.map fun f => (f.offset, P.cellsOf f.type)) ∧ ∀ f ∈ F.toList, (P.info? f.type).isSome = true := by
  unfold tk at h
  split at h
  · rename_i F hu
    split at h
    · rename_i i hi
      split at h
      · rename_i cs hz
        split at h
        · rename_i hc
          cases h
          simp only [Bool.and_eq_true, List.all_eq_true] at hc
          refine ⟨F, i, hu, hi, by simpa using hz, ?_, fun c hcm => ?_, rfl, hc.2⟩
          · have := Nat.eq_of_beq_eq_true hc.1.2; simp [this]
          · rw [← oneC_eq]; exact hc.1.1 c hcm
        · cases h
      · cases h
    · cases h
  · rename_i td _ _
    split at h
    · unfold tk1 at h
      (repeat' split at h) <;> cases h
    · cases h
  · cases h

theorem sbin_ok {d : TK} {op : BinOp} {x y : V} {K : Value → Prop} (h : sbin d op x y K) :
    ∃ v, K v ∧ v.oneCell' = true ∧ ∀ (g : Gh) (oh : OH) (a b : Value), RdV g oh x a → RdV g oh y b → a ≠ .nilIface ∧ (∀ cs, a ≠ .agg cs) ∧ ∀ t w, tk P t = d → (binOp op t a b).run P w = .ok v w := by
  unfold sbin at h
  split at h
  · rename_i k a k' b
    split at h
    · obtain ⟨h0, r, rfl, h⟩ := h
      refine ⟨_, h, rfl, ?_⟩; rintro g oh _ _ ⟨rfl, _⟩ ⟨rfl, _⟩; exact ⟨by simp, by simp, fun t w _ => by simp [binOp, Op.shift, show ¬ b < 0 by omega]⟩
    · obtain ⟨h0, r, rfl, h⟩ := h
      refine ⟨_, h, rfl, ?_⟩; rintro g oh _ _ ⟨rfl, _⟩ ⟨rfl, _⟩; exact ⟨by simp, by simp, fun t w _ => by simp [binOp, Op.shift, show ¬ b < 0 by omega]⟩
    · rename_i h1 h2
      obtain ⟨rfl, hs⟩ := h
      obtain ⟨v, hK, h1', hr⟩ := sint_ok (P := P) hs
      refine ⟨v, hK, h1', ?_⟩; rintro g oh _ _ ⟨rfl, _⟩ ⟨rfl, _⟩; exact ⟨by simp, by simp, fun t w _ => hr t w ⟨h1, h2⟩⟩
  · rename_i a b
    split at h
    · refine ⟨_, h.2, rfl, ?_⟩; rintro g oh _ _ ⟨rfl, _⟩ ⟨rfl, _⟩; exact ⟨by simp, by simp, fun t w ht => run_eql_bool w t a b (tk_bool (ht.trans h.1))⟩
    · refine ⟨_, h.2, rfl, ?_⟩; rintro g oh _ _ ⟨rfl, _⟩ ⟨rfl, _⟩; exact ⟨by simp, by simp, fun t w ht => run_neq_bool w t a b (tk_bool (ht.trans h.1))⟩
    · exact h.elim
  · split at h
    · refine ⟨_, h.2, rfl, ?_⟩; rintro g oh _ _ ⟨rfl, _⟩ ⟨rfl, _⟩
      refine ⟨by simp, by simp, fun t w ht => ?_⟩
      obtain ⟨e, hu⟩ := tk_ptr (ht.trans h.1)
      have : ∀ d, (Op.equalIn (d + 1) t (.pointer none) (.pointer none)).run P w = .ok true w := fun d => by simp [Op.equalIn, run_underlying hu]
      have := this 9999
      simp [binOp, Op.equal, Op.maxDepth, this]
    · refine ⟨_, h.2, rfl, ?_⟩; rintro g oh _ _ ⟨rfl, _⟩ ⟨rfl, _⟩
      refine ⟨by simp, by simp, fun t w ht => ?_⟩
      obtain ⟨e, hu⟩ := tk_ptr (ht.trans h.1)
      have : ∀ d, (Op.equalIn (d + 1) t (.pointer none) (.pointer none)).run P w = .ok true w := fun d => by simp [Op.equalIn, run_underlying hu]
      have := this 9999
      simp [binOp, Op.equal, Op.maxDepth, this]
    · exact h.elim
  · split at h
    · refine ⟨_, h.2, rfl, ?_⟩; rintro g oh a _ ha ⟨rfl, _⟩
      obtain ⟨ha, _⟩ := ha
      cases ha
      refine ⟨by simp, by simp, fun t w ht => ?_⟩
      obtain ⟨e, hu⟩ := tk_ptr (ht.trans h.1)
      have : ∀ d a, (Op.equalIn (d + 1) t (.pointer (some a)) (.pointer none)).run P w = .ok false w := fun d a => by simp [Op.equalIn, run_underlying hu]
      have := this 9999
      simp [binOp, Op.equal, Op.maxDepth, this]
    · refine ⟨_, h.2, rfl, ?_⟩; rintro g oh a _ ha ⟨rfl, _⟩
      obtain ⟨ha, _⟩ := ha
      cases ha
      refine ⟨by simp, by simp, fun t w ht => ?_⟩
      obtain ⟨e, hu⟩ := tk_ptr (ht.trans h.1)
      have : ∀ d a, (Op.equalIn (d + 1) t (.pointer (some a)) (.pointer none)).run P w = .ok false w := fun d a => by simp [Op.equalIn, run_underlying hu]
      have := this 9999
      simp [binOp, Op.equal, Op.maxDepth, this]
    · exact h.elim
  · rename_i a b
    split at h
    · refine ⟨_, h.2, rfl, ?_⟩; rintro g oh _ _ ⟨rfl, _⟩ ⟨rfl, _⟩; exact ⟨by simp, by simp, fun t w _ => by
        have h1 := h.1
        have : ¬ ((a.size + b.size : Nat) : Int) > IntKind.i64.max := by
          have : IntKind.i64.max = 9223372036854775807 := rfl
          rw [this]; omega
        simp only [binOp, Op.stringOp, if_neg this]; rfl⟩
    · refine ⟨_, h, rfl, ?_⟩; rintro g oh _ _ ⟨rfl, _⟩ ⟨rfl, _⟩; exact ⟨by simp, by simp, fun t w _ => by simp [binOp, Op.stringOp]⟩
    · refine ⟨_, h, rfl, ?_⟩; rintro g oh _ _ ⟨rfl, _⟩ ⟨rfl, _⟩; exact ⟨by simp, by simp, fun t w _ => by simp [binOp, Op.stringOp]⟩
    · refine ⟨_, h, rfl, ?_⟩; rintro g oh _ _ ⟨rfl, _⟩ ⟨rfl, _⟩; exact ⟨by simp, by simp, fun t w _ => by simp [binOp, Op.stringOp]⟩
    · exact h.elim
  · exact h.elim

theorem step_bin {o : Oper} {op : BinOp} {t t2 : TypeId} {x y : Operand} {e : Operand → V} {oh : OH} {k : Acc → Prop} (ho : o.op = .binOp op t x y t2)
    (h : sbin (tk P t) op (e x) (e y) fun v => free k (.con v)) : Some P o e oh k := by
  obtain ⟨v, hk, h1, hr⟩ := sbin_ok (P := P) h
  refine some_free hk fun g oh w ρ _ hρ => ⟨v, ?_, con_of h1⟩
  obtain ⟨n1, n2, hr⟩ := hr g oh (ρ x) (ρ y) (hρ x (by simp [ho, Op.operands])) (hρ y (by simp [ho, Op.operands]))
  simp only [execOp, ho]
  refine run_val _ w w v ?_
  simp [eqGuard_con op t x y (ρ x) (ρ y) n1 n2 w, hr t w rfl]

theorem step_un {o : Oper} {op : UnOp} {t : TypeId} {x : Operand} {e : Operand → V} {oh : OH} {k : Acc → Prop} (ho : o.op = .unOp op t x)
    (h : sun op (e x) fun v => free k (.con v)) : Some P o e oh k := by
  unfold sun at h
  split at h
  · rename_i b hx
    refine some_free h fun g oh w ρ _ hρ => ⟨_, ?_, con_of rfl⟩
    have hr := hρ x (by simp [ho, Op.operands]); rw [hx] at hr
    obtain ⟨hr, _⟩ := hr
    simp [execOp, ho, hr, Op.unary]
  · rename_i q n hx
    obtain ⟨r, rfl, h⟩ := h
    refine some_free h fun g oh w ρ _ hρ => ⟨_, ?_, con_of rfl⟩
    have hr := hρ x (by simp [ho, Op.operands]); rw [hx] at hr
    obtain ⟨hr, _⟩ := hr
    simp [execOp, ho, hr, Op.unary, Op.intArith]
  · exact h.elim

theorem step_conv {o : Oper} {s d : TypeId} {x : Operand} {e : Operand → V} {oh : OH} {k : Acc → Prop} (ho : o.op = .convert s d x)
    (h : sconv (tk P s) (tk P d) (e x) fun v => free k (.con v)) : Some P o e oh k := by
  unfold sconv at h
  split at h
  · rename_i k1 k2 k3 n hs hd hx
    obtain ⟨r, rfl, h⟩ := h
    refine some_free h fun g oh w ρ _ hρ => ⟨_, ?_, con_of rfl⟩
    have hr := hρ x (by simp [ho, Op.operands]); rw [hx] at hr
    obtain ⟨hr, _⟩ := hr
    simp [execOp, ho, hr, convert, run_underlying (tk_int hs), run_underlying (tk_int hd), Conv.intToInt]
  · rename_i s' hs hd hx
    refine some_free h fun g oh w ρ _ hρ => ⟨_, ?_, con_of rfl⟩
    have hr := hρ x (by simp [ho, Op.operands]); rw [hx] at hr
    obtain ⟨hr, _⟩ := hr
    simp [execOp, ho, hr, convert, run_underlying (tk_str hs), run_underlying (tk_str hd)]
  · exact h.elim

end
end Go.Ev
