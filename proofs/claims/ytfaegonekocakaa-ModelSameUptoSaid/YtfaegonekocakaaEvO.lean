/-
  OWN LAYER 'Ev', PART O: STEPS OF AN EVALUATION, as lemmas to be applied.
-/
import Derived.Test.YtfaegonekocakaaEvN
set_option linter.all false
namespace Go.Ev

/-! ### the same evaluation, with values brought to their form at once -/
def force (v : V) (K : V → Prop) : Prop :=
  match v with
  | .undef => K .undef
  | .con x => K (.con x)
  | .ro f t => K (.ro f t)
  | .emp => K .emp
  | .own a b c d => K (.own a b c d)
  | .ref a b c d => K (.ref a b c d)
  | .agg l => K (.agg l)
  | .tup l => K (.tup l)
theorem force_eq (v : V) (K : V → Prop) : force v K = K v := by cases v <;> rfl

def pushO (post oh : OH) (K : OH → Prop) : Prop :=
  match post with
  | [] => K oh
  | [(i, o)] => K ((i, o) :: oh)
  | l => K (l ++ oh)
theorem pushO_eq (post oh : OH) (K : OH → Prop) : pushO post oh K = K (post ++ oh) := by
  unfold pushO; split <;> rfl

def putE (o : Oper) (v : V) (env : Env) (K : Env → Prop) : Prop :=
  match o.dst with
  | some d => K ((d, v) :: env)
  | none => K env

/-- what goes on behind an operation -/
def nxt (o : Oper) (v : V) (post : OH) (env : Env) (oh : OH) (K : Env → OH → Prop) : Prop :=
  force v fun v => pushO post oh fun oh' => putE o v env fun env' => K env' oh'
theorem nxt_eq (o : Oper) (v : V) (post : OH) (n : Nat) (env : Env) (oh : OH) (K : St → Prop) : nxt o v post env oh (fun e h => K ⟨n, e, h⟩) = K ((St.mk n env oh).app o v post) := by
  unfold nxt; rw [force_eq, pushO_eq]; unfold putE St.app; cases o.dst <;> rfl

def evR (P : Program) (C : CT) (ops : Array Oper) : Nat → List Oper → Nat → Env → OH → (St → Prop) → Prop
  | _, [], n, env, oh, K => K ⟨n, env, oh⟩
  | i, o :: r, n, env, oh, K =>
    (match o.guard with
     | none =>
      (match nilTest o with
       | some (t, x, w) => nilB (tk P t) (opd env x) fun b => nxt o (.con (.bool (b == w))) [] env oh fun e h => evR P C ops (i + 1) r n e h K
       | none => step P C o (opd env) oh fun a =>
       (match isGuardL r i with
        | true => litBool a.v fun v => nxt o v a.post env oh fun e h => evR P C ops (i + 1) r n e h K
        | false => nxt o a.v a.post env oh fun e h => evR P C ops (i + 1) r n e h K))
     | some (j, want) =>
       (match guardVal ops env j with
        | .con (.bool b) => (match b == want with | true => step P C o (opd env) oh fun a => nxt o a.v a.post env oh fun e h => evR P C ops (i + 1) r n e h K | false => nxt o .undef [] env oh fun e h => evR P C ops (i + 1) r n e h K)
        | _ => False))

theorem evR_eq (P : Program) (C : CT) (ops : Array Oper) : ∀ (l : List Oper) (i n : Nat) (env : Env) (oh : OH) (K : St → Prop), evR P C ops i l n env oh K = evOps P C ops i l ⟨n, env, oh⟩ K
  | [], i, n, env, oh, K => rfl
  | o :: r, i, n, env, oh, K => by
    have ih : ∀ v post, (nxt o v post env oh fun e h => evR P C ops (i + 1) r n e h K) = evOps P C ops (i + 1) r ((St.mk n env oh).app o v post) K := by
      intro v post
      rw [← nxt_eq o v post n env oh (fun s => evOps P C ops (i + 1) r s K)]
      simp only [evR_eq P C ops r]
    unfold evR evOps
    simp only [ih]
    rfl

def evRD (P : Program) (C : CT) (ops : Array Oper) : Nat → List Oper → Nat → Env → OH → List (Option Acc) → (List (Option Acc) → St → Prop) → Prop
  | _, [], n, env, oh, tr, K => K tr ⟨n, env, oh⟩
  | i, o :: r, n, env, oh, tr, K =>
    (match o.guard with
     | none => step P C o (opd env) oh fun a =>
       (match isGuardL r i with
        | true => litBool a.v fun v => nxt o v a.post env oh fun e h => evRD P C ops (i + 1) r n e h (some { a with v := v } :: tr) K
        | false => nxt o a.v a.post env oh fun e h => evRD P C ops (i + 1) r n e h (some a :: tr) K)
     | some (j, want) =>
       (match guardVal ops env j with
        | .con (.bool b) => (match b == want with | true => step P C o (opd env) oh fun a => nxt o a.v a.post env oh fun e h => evRD P C ops (i + 1) r n e h (some a :: tr) K | false => nxt o .undef [] env oh fun e h => evRD P C ops (i + 1) r n e h (none :: tr) K)
        | _ => False))

theorem evRD_eq (P : Program) (C : CT) (ops : Array Oper) : ∀ (l : List Oper) (i n : Nat) (env : Env) (oh : OH) (tr : List (Option Acc)) (K : List (Option Acc) → St → Prop), evRD P C ops i l n env oh tr K = evD P C ops i l ⟨n, env, oh⟩ tr K
  | [], i, n, env, oh, tr, K => rfl
  | o :: r, i, n, env, oh, tr, K => by
    have ih : ∀ v post tr, (nxt o v post env oh fun e h => evRD P C ops (i + 1) r n e h tr K) = evD P C ops (i + 1) r ((St.mk n env oh).app o v post) tr K := by
      intro v post tr
      rw [← nxt_eq o v post n env oh (fun s => evD P C ops (i + 1) r s tr K)]
      simp only [evRD_eq P C ops r]
    unfold evRD evD
    simp only [ih]
    rfl

section
variable {P : Program} {C : CT} {s : St} {Q : X → St → Prop}

theorem seq_i {a b : Code} (h : evC P C a s (X.seq (fun s' => evC P C b s' Q) Q)) : evC P C (.seq a b) s Q := Or.inl h
theorem seq_f {a b : Code} (h : ∀ R : St → Prop, (∀ s2 s', Lf s2 s' → evC P C b s2 Q → R s') → evC P C a s (X.seq R Q)) : evC P C (.seq a b) s Q := Or.inr (h _ fun s2 _ hl hb => ⟨true, s2, hl, hb⟩)
/-- what is known is brought to one form, whatever way it came -/
theorem seq_j {a b : Code} (σ : Type) (enc : σ → St) (I : σ → Prop) (h2 : ∀ z, I z → evC P C b (enc z) Q) (h : ∀ R : St → Prop, (∀ s' z, I z → Le (enc z) s' → R s') → evC P C a s (X.seq R Q)) : evC P C (.seq a b) s Q :=
  Or.inr (h _ fun _ z hz hl => ⟨false, enc z, hl, h2 z hz⟩)
theorem seq_k {a b : Code} (σ : Type) (enc : σ → St) (I : σ → Prop) (h2 : ∀ z, I z → evC P C b (enc z) Q) (h : ∀ R : St → Prop, (∀ s' z, I z → Lf (enc z) s' → R s') → evC P C a s (X.seq R Q)) : evC P C (.seq a b) s Q :=
  Or.inr (h _ fun _ z hz hl => ⟨true, enc z, hl, h2 z hz⟩)
theorem blk_i {id : Nat} {c : Code} (h : evC P C c s (X.block id Q)) : evC P C (.block id c) s Q := h
theorem skip_i (h : Q .normal s) : evC P C .skip s Q := h
theorem ret_i (h : Q .ret s) : evC P C .ret s Q := h
theorem exit_i {id : Nat} (h : Q (.exit id) s) : evC P C (.exit id) s Q := h
theorem reg_i {id : Nat} {ops : Array Oper} (h : ∀ K : St → Prop, (∀ s', Q .normal s' → K s') → evR P C ops 0 ops.toList s.n s.env s.oh K) : evC P C (.region id ops false) s Q := by
  have := h _ (fun _ h => h)
  rw [evR_eq] at this; exact this
theorem drw_i {id : Nat} {ops : Array Oper} (h : ∀ K : List (Option Acc) → St → Prop, (∀ tr s', commR ops tr = true → Q .normal s' → K tr s') → evRD P C ops 0 ops.toList s.n s.env s.oh [] K) : evC P C (.region id ops true) s Q := by
  have := h (fun tr s' => commR ops tr = true ∧ Q .normal s') (fun _ _ h1 h2 => ⟨h1, h2⟩)
  rw [evRD_eq] at this; exact this
theorem cond_i {c : Operand} {a b : Code} (t : Bool) (hc : opd s.env c = .con (.bool t)) (h1 : t = true → evC P C a s Q) (h2 : t = false → evC P C b s Q) : evC P C (.cond c a b) s Q := by
  simp only [evC, hc]; exact ⟨h1, h2⟩
def CondM (v : V) (A B : Prop) : Prop := match v with | .con (.bool t) => (t = true → A) ∧ (t = false → B) | _ => False
theorem cond_m {c : Operand} {a b : Code} (h : CondM (opd s.env c) (evC P C a s Q) (evC P C b s Q)) : evC P C (.cond c a b) s Q := by
  unfold CondM at h; exact h
theorem cond_t {c : Operand} {a b : Code} (hc : opd s.env c = .con (.bool true)) (h1 : evC P C a s Q) : evC P C (.cond c a b) s Q := by
  simp only [evC, hc]; exact ⟨fun _ => h1, fun h => Bool.noConfusion h⟩
theorem cond_f {c : Operand} {a b : Code} (hc : opd s.env c = .con (.bool false)) (h1 : evC P C b s Q) : evC P C (.cond c a b) s Q := by
  simp only [evC, hc]; exact ⟨fun h => Bool.noConfusion h, fun _ => h1⟩
theorem loop_i {c : Code} (σ : Type) (enc : σ → St) (I : σ → Prop) (μ : σ → Nat) (ads : List (Nat × Nat × Nat)) (z0 : σ) (h0 : adoptOK s ads) (h1 : I z0) (h2 : Le (enc z0) (adopt s ads))
    (h : ∀ z, I z → evC P C c (enc z) (X.seq (fun s' => ∃ z', I z' ∧ μ z' < μ z ∧ Le (enc z') s') Q)) : evC P C (.loop c) s Q :=
  ⟨false, false, σ, enc, I, μ, ads, z0, h0, h1, h2, h⟩
theorem loop_f {c : Code} (σ : Type) (enc : σ → St) (I : σ → Prop) (μ : σ → Nat) (z0 : σ) (h1 : I z0) (h2 : Lf (enc z0) s)
    (h : ∀ z, I z → evC P C c (enc z) (X.seq (fun s' => ∃ z', I z' ∧ μ z' < μ z ∧ Lf (enc z') s') Q)) : evC P C (.loop c) s Q :=
  ⟨true, true, σ, enc, I, μ, [], z0, trivial, h1, h2, h⟩
theorem loop_g {c : Code} (σ : Type) (enc : σ → St) (I : σ → Prop) (μ : σ → Nat) (ads : List (Nat × Nat × Nat)) (z0 : σ) (h0 : adoptOK s ads) (h1 : I z0) (h2 : Le (enc z0) (adopt s ads))
    (h : ∀ z, I z → evC P C c (enc z) (X.seq (fun s' => ∃ z', I z' ∧ μ z' < μ z ∧ Lf (enc z') s') Q)) : evC P C (.loop c) s Q :=
  ⟨false, true, σ, enc, I, μ, ads, z0, h0, h1, h2, h⟩
end

theorem fresh_n {oh : OH} {K : Nat → Prop} (h : K (newId oh)) : fresh oh K := ⟨_, newId_none oh, h⟩
theorem fresh_c {oh : OH} {K : Nat → Prop} (c : Nat) (h0 : oget oh c = none) (h : K c) : fresh oh K := ⟨c, h0, h⟩
theorem freshO_n {oh on : OH} {K : Nat → Prop} (h : K (newId oh)) : freshO oh on K :=
  ⟨newId oh, fun i hi => by
    have hge := shO_ge hi
    cases hq : oget oh i with
    | none => rfl
    | some o' => have := newId_le hq; omega, h⟩
theorem use_s {oh : OH} {id ver : Nat} {K : Obj → Prop} {o : Obj} (h : oget oh id = some o) (hv : o.ver = ver) (hl : o.live = true) (hk : K o) : use oh id ver K := by
  unfold use; rw [h]; exact ⟨hv, hl, hk⟩
theorem X.seq_n {a : St → Prop} {b : X → St → Prop} {s : St} (h : a s) : X.seq a b .normal s := h
theorem X.seq_r {a : St → Prop} {b : X → St → Prop} {s : St} (h : b .ret s) : X.seq a b .ret s := h
theorem X.seq_x {a : St → Prop} {b : X → St → Prop} {s : St} {id : Nat} (h : b (.exit id) s) : X.seq a b (.exit id) s := h
theorem X.blk_n {id : Nat} {Q : X → St → Prop} {s : St} (h : Q .normal s) : X.block id Q .normal s := h
theorem X.blk_r {id : Nat} {Q : X → St → Prop} {s : St} (h : Q .ret s) : X.block id Q .ret s := h
theorem X.blk_s {id : Nat} {Q : X → St → Prop} {s : St} (h : Q .normal s) : X.block id Q (.exit id) s := by simp [X.block]; exact h
theorem X.blk_o {id j : Nat} {Q : X → St → Prop} {s : St} (hj : j ≠ id) (h : Q (.exit j) s) : X.block id Q (.exit j) s := by simp [X.block, hj]; exact h

/-! ### bounds in bytes -/
theorem by64 {n b m : Nat} (hb : b ≤ 64) (h : n * 64 ≤ m) : n * b ≤ m := Nat.le_trans (Nat.mul_le_mul_left _ hb) h
theorem by64i {n : Int} {b : Nat} {m : Int} (hb : b ≤ 64) (h0 : 0 ≤ n) (h : n * 64 ≤ m) : n * b ≤ m := by
  have : n * (b : Int) ≤ n * 64 := Int.mul_le_mul_of_nonneg_left (by omega) h0
  omega

/-! ### what is handed back, or over -/
theorem fz_ro {oh : OH} {f f' : Bool} {t t' : T} (h : t = t') (hf : f = true → f' = true) : FzA oh f (.ro f' t) t' := by subst h; exact Fz1.ro f' t hf
theorem fz_con {oh : OH} {f : Bool} {t t' : Value} (h : t = t') : FzA oh f (.con t) (.con t') := by subst h; exact Fz1.con t
theorem fz_emp {oh : OH} {f : Bool} {t' : T} (h : T.sl [] = t') : FzA oh f .emp t' := by subst h; exact Fz1.emp

/-- an element, cell by cell -/
def FzE (oh : OH) (f : Bool) (v : V) (t : T) : Prop := v.cells.length = t.cells.length ∧ ∀ (j : Nat) (v' : V) (u : T), v.cells[j]? = some v' → t.cells[j]? = some u → Fz1 oh f v' u

theorem fze_con {oh : OH} {f : Bool} (v : Value) : FzE oh f (.con v) (.con v) := by
  refine ⟨rfl, fun j v' u h1 h2 => ?_⟩
  cases j with
  | zero => simp [V.cells, T.cells] at h1 h2; subst h1; subst h2; exact .con v
  | succ j => simp [V.cells] at h1

theorem fz_own {α : Type} {oh : OH} {f : Bool} {F : α → V} {G : α → T} {l : List α} {id ver off len : Nat} {o : Obj} {r : T} (ho : oget oh id = some o) (hv : o.ver = ver) (hl : o.live = true)
    (hn : l.length = len) (he : (o.el.drop off).take len = l.map F) (hFG : ∀ a ∈ l, FzE oh f (F a) (G a)) (hr : r = T.sl (l.map G)) : FzA oh f (.own id ver off len) r := by
  subst hr
  have hel : ∀ (i : Nat) (e : V) (t : T), i < len → o.el[off + i]? = some e → (l.map G)[i]? = some t → FzE oh f e t := by
    intro i e t hi h1 h2
    have h3 : ((o.el.drop off).take len)[i]? = some e := by rw [List.getElem?_take, if_pos hi, List.getElem?_drop]; exact h1
    rw [he, List.getElem?_map] at h3
    rw [List.getElem?_map] at h2
    obtain ⟨a, ha, rfl⟩ := Option.map_eq_some_iff.1 h3
    rw [ha] at h2
    obtain rfl : G a = t := by simpa using h2
    exact hFG a (List.mem_of_getElem? ha)
  exact Fz1.own id ver off len o _ ho hv hl (by simpa using hn) (fun i e t hi h1 h2 => (hel i e t hi h1 h2).1.symm) (fun i e t j v u hi h1 h2 h3 h4 => (hel i e t hi h1 h2).2 j v u h3 h4)

theorem fzl1 {oh : OH} {v : V} {t : T} (h : FzA oh false v t) : FzL oh [v] [t] := by
  refine ⟨rfl, fun j v' t' h1 h2 => ?_⟩
  cases j with
  | zero => simp at h1 h2; subst h1; subst h2; exact h
  | succ j => simp at h1

theorem fzl2 {oh : OH} {v v2 : V} {t t2 : T} (h : FzA oh false v t) (h2 : FzA oh false v2 t2) : FzL oh [v, v2] [t, t2] := by
  refine ⟨rfl, fun j v' t' e1 e2 => ?_⟩
  match j with
  | 0 => simp at e1 e2; subst e1; subst e2; exact h
  | 1 => simp at e1 e2; subst e1; subst e2; exact h2
  | j + 2 => simp at e1

theorem lpre1 {oh : OH} {id : Nat} {o : Obj} (h : oget oh id = some o) : ∀ p ∈ [(id, o)], oget oh p.1 = some p.2 := by simpa using h
theorem lpre2 {oh : OH} {id id2 : Nat} {o o2 : Obj} (h : oget oh id = some o) (h2 : oget oh id2 = some o2) : ∀ p ∈ [(id, o), (id2, o2)], oget oh p.1 = some p.2 := by
  intro p hp; simp at hp; rcases hp with rfl | rfl <;> assumption

theorem allsz_map {α : Type} {f : α → T} {l : List α} {n : Nat} (h : ∀ a, (f a).cells.length = n) : AllSz (l.map f) n := by
  intro t ht; obtain ⟨a, -, rfl⟩ := List.mem_map.mp ht; exact h a
theorem allv_map {α : Type} {f : α → V} {l : List α} {n : Nat} (h : ∀ a, (f a).cells.length = n) : ∀ y ∈ l.map f, y.cells.length = n := by
  intro t ht; obtain ⟨a, -, rfl⟩ := List.mem_map.mp ht; exact h a
theorem allv_one {e : V} {n : Nat} (h : e.cells.length = n) : ∀ y ∈ [e], y.cells.length = n := by
  intro y hy
  obtain rfl : y = e := by simpa using hy
  exact h
theorem allv_map2 {α β : Type} {f : α → β} {g : β → V} {l : List α} {n : Nat} (h : ∀ a, (g (f a)).cells.length = n) : ∀ y ∈ (l.map f).map g, y.cells.length = n := by
  rw [List.map_map]; exact allv_map h
theorem at_q {β : Type} {f : UInt32 → β} {l : List UInt32} {i : Nat} {Q : β → Prop} (h : i < l.length) (k : (l.getD i default).toNat < 4294967296 → Q (f (l.getD i default))) : ∃ t, (l.map f)[i]? = some t ∧ Q t := by
  refine ⟨f (l.getD i default), ?_, k (UInt32.toNat_lt _)⟩
  rw [List.getElem?_map, List.getElem?_eq_getElem h]; simp [List.getD, List.getElem?_eq_getElem h]
theorem mul_q {a b : Int} {Q : Int → Prop} (ha : 0 ≤ a) (ha' : a < 4294967296) (hb : 0 ≤ b) (hb' : b < 4294967296) (k : 0 ≤ a * b → a * b ≤ 18446744065119617025 → Q (a * b)) : ∃ r, r = IntKind.u64.wrap (a * b) ∧ Q r := by
  have h1 : 0 ≤ a * b := Int.mul_nonneg ha hb
  have h2 : a * b ≤ 4294967295 * 4294967295 := Int.mul_le_mul (by omega) (by omega) hb (by omega)
  refine ⟨a * b, ?_, k h1 (by omega)⟩
  simp [IntKind.wrap, IntKind.bits, IntKind.signed]; omega
theorem wrap32 {t : Int} (h : 0 ≤ t) : IntKind.u32.wrap t = ((UInt32.ofNat t.toNat).toNat : Nat) := by
  simp [IntKind.wrap, IntKind.bits, IntKind.signed]; omega
theorem at_map {α β : Type} [Inhabited α] {f : α → β} {l : List α} {i : Nat} (h : i < l.length) : (l.map f)[i]? = some (f (l.getD i default)) := by
  rw [List.getElem?_map, List.getElem?_eq_getElem h]; simp [List.getD, List.getElem?_eq_getElem h]

theorem cand {p q : Prop} (h : p) : (p ∧ q) = q := by simp [h]

end Go.Ev
