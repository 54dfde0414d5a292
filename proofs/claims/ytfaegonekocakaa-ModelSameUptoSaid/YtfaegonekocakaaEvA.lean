/-
  OWN LAYER 'Ev', PART A: PURE VALUES AND THE PURE EVALUATOR of the model's code: read-only trees 'T', slot values 'V', owned objects 'Obj'; 'evC' says what code does to them. No world, no heap. It speaks of any program.
-/
import Derived.Calls
import Derived.KernelRfl
import Derived.Orders
set_option linter.all false
namespace Go.Ev

/-- Read-only data: a scalar; a slice's elements; what lies behind a pointer (the cells from there on); a struct's cells; several results. -/
inductive T where
  | con (v : Value)
  | sl (l : List T)
  | ptr (l : List T)
  | agg (l : List T)
  | tup (l : List T)

def T.cells : T → List T
  | .agg l => l
  | x => [x]

/-- What a slot holds: nothing known; a scalar; read-only data (f: in memory that this call has made); a slice of length and capacity 0; a part of an owned object; a pointer into one; a struct; several results. -/
inductive V where
  | undef
  | con (v : Value)
  | ro (f : Bool) (t : T)
  | emp
  | own (id ver off len : Nat)
  | ref (id ver i foff : Nat)
  | agg (l : List V)
  | tup (l : List V)

def V.cells : V → List V
  | .agg l => l
  | x => [x]

/-- An owned block: cells per element, the elements, how often it was moved. -/
structure Obj where
  sz : Nat
  el : List V
  ver : Nat
  live : Bool

abbrev OH := List (Nat × Obj)
abbrev Env := List (Nat × V)

def oget : OH → Nat → Option Obj
  | [], _ => none
  | (i, o) :: r, k => if i = k then some o else oget r k

def eget : Env → Nat → V
  | [], _ => .undef
  | (i, v) :: r, k => if i = k then v else eget r k

structure St where
  n : Nat
  env : Env
  oh : OH

def oneC : Value → Bool
  | .agg _ | .tuple _ => false
  | _ => true

def V.ofConst1 : Value → V
  | .slice none 0 0 => .emp
  | v => .con v

def V.ofConst : Value → V
  | .agg cs => bif cs.toList.all oneC then .agg (cs.toList.map V.ofConst1) else .undef
  | .tuple _ => .undef
  | v => V.ofConst1 v

def opd (e : Env) : Operand → V
  | .tmp t => eget e t
  | .const v => V.ofConst v
  | .global g => .con (.pointer (some ⟨g, 0, none⟩))
  | .func f => .con (.func (.func f) #[] #[])

def V.ofT1 (f : Bool) : T → V
  | .con v => .con v
  | x => .ro f x
def V.ofA (f : Bool) : T → V
  | .agg l => .agg (l.map (V.ofT1 f))
  | x => V.ofT1 f x
def V.ofT (f : Bool) : T → V
  | .tup l => .tup (l.map (V.ofA f))
  | x => V.ofA f x

/-- What a step does: objects that must be as they are told, new objects' numbers, objects behind it, its value. -/
structure Acc where
  pre : OH
  nw : List Nat
  post : OH
  v : V

/-- What the evaluator asks of a type. -/
inductive TK where
  | bool | int (k : IntKind) | str
  | sl (e sz by_ : Nat) (ag : Bool) (zero : List Value)
  | st (fs : List (Nat × Nat)) (zero : List Value)
  | ptr
  | other

def tk1 (P : Program) : TypeDesc → TK
  | .bool => .bool
  | .int k => .int k
  | .string => .str
  | .slice e =>
    match P.info? e with
    | some i => (match i.zero with
      | some (.agg z) => if (z.toList.all oneC && Nat.beq i.size z.size) = true then .sl e i.size i.bytes true z.toList else .other
      | some z => if (oneC z && Nat.beq i.size 1) = true then .sl e 1 i.bytes false [z] else .other
      | none => .other)
    | none => .other
  | .pointer _ => .ptr
  | _ => .other

def tk (P : Program) (t : TypeId) : TK :=
  match P.underlying t with
  | some (.struct fs) =>
    match P.info? t with
    | some i => (match i.zero with
      | some (.agg z) => if (z.toList.all oneC && Nat.beq i.size z.size && fs.toList.all fun f => (P.info? f.type).isSome) = true then .st (fs.toList.map fun f => (f.offset, P.cellsOf f.type)) z.toList else .other
      | _ => .other)
    | none => .other
  | some d => if Nat.beq (P.cellsOf t) 1 = true then tk1 P d else .other
  | none => .other

/-- a type's zero value -/
def tz (P : Program) (t : TypeId) : V :=
  match (P.info? t).bind (·.zero) with
  | some z => V.ofConst z
  | none => .undef

/-- cells of a type and whether it is a struct -/
def TK.isAgg : TK → Bool
  | .st _ _ => true
  | _ => false
def TK.size : TK → Nat
  | .st _ z => z.length
  | .other => 0
  | _ => 1

def free (k : Acc → Prop) (v : V) : Prop := k ⟨[], [], [], v⟩

def V.ofCells (agg : Bool) (l : List V) : V := bif agg then .agg l else (match l with | [x] => x | _ => .undef)

/-! ### scalars -/
def sint (op : BinOp) (k : IntKind) (a b : Int) (K : Value → Prop) : Prop :=
  match op with
  | .add => ∃ r, r = k.wrap (a + b) ∧ K (.int k r)
  | .sub => ∃ r, r = k.wrap (a - b) ∧ K (.int k r)
  | .mul => ∃ r, r = k.wrap (a * b) ∧ K (.int k r)
  | .quo => b ≠ 0 ∧ ∃ r, r = k.wrap (a.tdiv b) ∧ K (.int k r)
  | .rem => b ≠ 0 ∧ ∃ r, r = a.tmod b ∧ K (.int k r)
  | .and => K (.int k (k.wrap (BitVec.ofInt k.bits a &&& BitVec.ofInt k.bits b).toNat))
  | .or => K (.int k (k.wrap (BitVec.ofInt k.bits a ||| BitVec.ofInt k.bits b).toNat))
  | .xor => K (.int k (k.wrap (BitVec.ofInt k.bits a ^^^ BitVec.ofInt k.bits b).toNat))
  | .eql => K (.bool (a == b))
  | .neq => K (.bool (a != b))
  | .lss => K (.bool (decide (a < b)))
  | .leq => K (.bool (decide (a ≤ b)))
  | .gtr => K (.bool (decide (a > b)))
  | .geq => K (.bool (decide (a ≥ b)))
  | _ => False

def sbin (d : TK) (op : BinOp) (x y : V) (K : Value → Prop) : Prop :=
  match x, y with
  | .con (.int k a), .con (.int k' b) =>
    (match op with
     | .shl => 0 ≤ b ∧ ∃ r, r = k.wrap (a * 2 ^ (min b.toNat k.bits)) ∧ K (.int k r)
     | .shr => 0 ≤ b ∧ ∃ r, r = a.fdiv (2 ^ (min b.toNat k.bits)) ∧ K (.int k r)
     | op => k = k' ∧ sint op k a b K)
  | .con (.bool a), .con (.bool b) =>
    (match op with | .eql => d = .bool ∧ K (.bool (a == b)) | .neq => d = .bool ∧ K (.bool (!(a == b))) | _ => False)
  | .con (.pointer none), .con (.pointer none) =>
    (match op with | .eql => d = .ptr ∧ K (.bool true) | .neq => d = .ptr ∧ K (.bool false) | _ => False)
  | .ro _ (.ptr _), .con (.pointer none) =>
    (match op with | .eql => d = .ptr ∧ K (.bool false) | .neq => d = .ptr ∧ K (.bool true) | _ => False)
  | .con (.string a), .con (.string b) =>
    (match op with
     | .add => a.size + b.size ≤ 9223372036854775807 ∧ K (.string (a ++ b))
     | .eql => K (.bool (a.toList == b.toList))
     | .neq => K (.bool (!(a.toList == b.toList)))
     | .lss => K (.bool (Op.bytesLess a.toList b.toList))
     | _ => False)
  | _, _ => False

def sun (op : UnOp) (x : V) (K : Value → Prop) : Prop :=
  match op, x with
  | .not, .con (.bool b) => K (.bool (!b))
  | .neg, .con (.int k n) => ∃ r, r = k.wrap (0 - n) ∧ K (.int k r)
  | _, _ => False

def sconv (s d : TK) (x : V) (K : Value → Prop) : Prop :=
  match s, d, x with
  | .int _, .int k, .con (.int _ n) => ∃ r, r = k.wrap n ∧ K (.int k r)
  | .str, .str, .con (.string s) => K (.string s)
  | _, _, _ => False

/-! ### places -/
/-- an object that is used -/
def use (oh : OH) (id ver : Nat) (K : Obj → Prop) : Prop :=
  match oget oh id with
  | some o => o.ver = ver ∧ o.live = true ∧ K o
  | none => False

def sindex (d : TK) (oh : OH) (x i : V) (k : Acc → Prop) : Prop :=
  match d, x, i with
  | .sl _ sz .., .ro f (.sl l), .con (.int _ n) =>
    0 ≤ n ∧ ∃ t, l[n.toNat]? = some t ∧ t.cells.length = sz ∧ free k (.ro f (.ptr t.cells))
  | .sl _ sz .., .own id ver off len, .con (.int _ n) =>
    0 ≤ n ∧ n < len ∧ use oh id ver fun o => o.sz = sz ∧ k ⟨[(id, o)], [], [], .ref id ver (off + n.toNat) 0⟩
  | _, _, _ => False

def sload (d : TK) (oh : OH) (x : V) (k : Acc → Prop) : Prop :=
  match x with
  | .ro f (.ptr l) => 0 < d.size ∧ d.size ≤ l.length ∧ free k (V.ofCells d.isAgg ((l.take d.size).map (V.ofT1 f)))
  | .ref id ver i foff => use oh id ver fun o =>
    ∃ e, o.el[i]? = some e ∧ 0 < d.size ∧ foff + d.size ≤ e.cells.length ∧ k ⟨[(id, o)], [], [], V.ofCells d.isAgg ((e.cells.drop foff).take d.size)⟩
  | _ => False

/-- cells put into a list of cells -/
def splice {α : Type} (l : List α) (off : Nat) (xs : List α) : List α := l.take off ++ xs ++ l.drop (off + xs.length)

def V.solid : V → Bool
  | .undef | .tup _ => false
  | _ => true

/-- an element with cells put in -/
def V.put (e : V) (off : Nat) (xs : List V) : V :=
  match e with
  | .agg l => .agg (splice l off xs)
  | _ => V.ofCells false xs

def sstore (d : TK) (oh : OH) (x v : V) (k : Acc → Prop) : Prop :=
  match x with
  | .ref id ver i foff => use oh id ver fun o =>
    ∃ e, o.el[i]? = some e ∧ v.solid = true ∧ 0 < d.size ∧ v.cells.length = d.size ∧ foff + d.size ≤ e.cells.length ∧ k ⟨[(id, o)], [], [(id, ⟨o.sz, o.el.set i (e.put foff v.cells), o.ver, o.live⟩)], .undef⟩
  | _ => False

def sfield (d : TK) (oh : OH) (x : V) (f : Nat) (k : Acc → Prop) : Prop :=
  match d with
  | .st fs _ =>
    (match fs[f]? with
     | some (off, sz) => sz ≠ 0 ∧
       (match x with
        | .ro fr (.ptr l) => off ≤ l.length ∧ free k (.ro fr (.ptr (l.drop off)))
        | .ref id ver i foff => use oh id ver fun o => k ⟨[(id, o)], [], [], .ref id ver i (foff + off)⟩
        | _ => False)
     | none => False)
  | _ => False

/-- a fresh object's number -/
def newId : OH → Nat
  | [] => 0
  | (i, _) :: r => if newId r ≤ i then i + 1 else newId r

/-- a number that is not taken -/
inductive fresh (oh : OH) (K : Nat → Prop) : Prop
  | mk (c : Nat) (h : oget oh c = none) (hk : K c)

def sbox (oh : OH) (v : V) (k : Acc → Prop) : Prop :=
  v.solid = true ∧ fresh oh fun c => k ⟨[], [c], [(c, ⟨v.cells.length, [v], 0, true⟩)], .ref c 0 0 0⟩

def sfill (fs : List (Nat × Nat)) : List V → List (Nat × V) → (List V → Prop) → Prop
  | cs, [], K => K cs
  | cs, (i, v) :: r, K =>
    (match fs[i]? with
     | some (off, sz) => v.solid = true ∧ v.cells.length = sz ∧ off + sz ≤ cs.length ∧ sfill fs (splice cs off v.cells) r K
     | none => False)

def sbuild (d : TK) (parts : List (Nat × V)) (k : Acc → Prop) : Prop :=
  match d with
  | .st fs z => sfill fs (z.map V.ofConst1) parts fun cs => free k (.agg cs)
  | _ => False

def slen (d : TK) (oh : OH) (x : V) (k : Acc → Prop) : Prop :=
  match d, x with
  | .sl .., .ro _ (.sl l) => free k (.con (.int .i64 l.length))
  | .sl .., .own id ver _ len => use oh id ver fun o => k ⟨[(id, o)], [], [], .con (.int .i64 len)⟩
  | .sl .., .emp => free k (.con (.int .i64 0))
  | .str, .con (.string s) => free k (.con (.int .i64 s.size))
  | _, _ => False

/-- a bound of a slice expression: none is 'a' -/
def sbd (x : Option V) (a : Int) (K : Int → Prop) : Prop :=
  match x with
  | none => K a
  | some (.con (.int _ n)) => K n
  | _ => False

def AllSz (l : List T) (sz : Nat) : Prop := ∀ t ∈ l, t.cells.length = sz

def sslice (d : TK) (oh : OH) (x : V) (lo hi mx : Option V) (k : Acc → Prop) : Prop :=
  match mx with
  | some m =>
    match d, x, hi with
    | .sl .., .ro _ (.sl _), some h => sbd lo 0 fun a => sbd (some h) 0 fun b => sbd (some m) 0 fun c => a = 0 ∧ b = 0 ∧ c = 0 ∧ free k .emp
    | _, _, _ => False
  | none =>
    match d, x with
    | .sl _ sz .., .ro f (.sl l) => AllSz l sz ∧ sbd lo 0 fun a => sbd hi l.length fun b => 0 ≤ a ∧ a ≤ b ∧ b ≤ l.length ∧ free k (.ro f (.sl ((l.drop a.toNat).take (b - a).toNat)))
    | .sl _ sz .., .own id ver off len => use oh id ver fun o => o.sz = sz ∧ sbd lo 0 fun a => sbd hi len fun b => 0 ≤ a ∧ a ≤ b ∧ b ≤ len ∧ k ⟨[(id, o)], [], [], .own id ver (off + a.toNat) (b - a).toNat⟩
    | .sl .., .emp => sbd lo 0 fun a => sbd hi 0 fun b => a = 0 ∧ b = 0 ∧ free k .emp
    | .str, .con (.string s) => sbd lo 0 fun a => sbd hi s.size fun b => 0 ≤ a ∧ a ≤ b ∧ b ≤ s.size ∧ free k (.con (.string (s.extract a.toNat b.toNat)))
    | _, _ => False

def smake (d : TK) (oh : OH) (l c : V) (k : Acc → Prop) : Prop :=
  match d, l, c with
  | .sl _ sz by_ ag z, .con (.int _ n), .con (.int _ m) =>
    n = m ∧ 0 ≤ n ∧ n ≤ 9223372036854775807 ∧ n * by_ ≤ 140737488355328 ∧ z.length = sz ∧ 0 < sz ∧
      fresh oh fun c => k ⟨[], [c], [(c, ⟨sz, List.replicate n.toNat (V.ofCells ag (z.map V.ofConst1)), 0, true⟩)], .own c 0 0 n.toNat⟩
  | _, _, _ => False

/-- the elements of what is appended -/
def elems (oh : OH) (x : V) (K : OH → List V → Prop) : Prop :=
  match x with
  | .emp => K [] []
  | .ro f (.sl l) => K [] (l.map (V.ofA f))
  | .own id ver off len => use oh id ver fun o => K [(id, o)] ((o.el.drop off).take len)
  | _ => False

def sappend (d : TK) (oh : OH) (x y : V) (k : Acc → Prop) : Prop :=
  match d with
  | .sl _ sz by_ _ z => z.length = sz ∧ 0 < sz ∧ elems oh y fun pre ys =>
    (match x with
     | .emp =>
       ys.length ≤ 9223372036854775807 ∧ ys.length * by_ ≤ 140737488355328 ∧ (∀ y ∈ ys, y.cells.length = sz) ∧
       fresh oh fun c => k ⟨pre, [c], [(c, ⟨sz, ys, 0, true⟩)], .own c 0 0 ys.length⟩
     | .own id ver 0 len => use oh id ver fun o => o.sz = sz ∧
       len + ys.length ≤ 9223372036854775807 ∧ (len + ys.length) * by_ ≤ 140737488355328 ∧ (∀ y ∈ ys, y.cells.length = sz) ∧
       k ⟨(id, o) :: pre, [], [(id, ⟨sz, o.el.take len ++ ys, ver + 1, true⟩)], .own id (ver + 1) 0 (len + ys.length)⟩
     | _ => False)
  | _ => False

/-- a function's value, if it is one without captured variables -/
def V.fn? : V → Option FuncId
  | .con (.func (.func f) a b) => (match a.toList, b.toList with | [], [] => some f | _, _ => none)
  | _ => none

/-- an element of a string -/
def sidx (d : TK) (x i : V) (k : Acc → Prop) : Prop :=
  match d, x, i with
  | .str, .con (.string s), .con (.int _ n) => 0 ≤ n ∧ ∃ b : UInt8, s[n.toNat]? = some b ∧ free k (.con (.int .u8 b.toNat))
  | _, _, _ => False

def sextract (x : V) (i : Nat) (k : Acc → Prop) : Prop :=
  match x with
  | .tup l => ∃ v, l[i]? = some v ∧ free k v
  | _ => False

/-- a field of a struct value -/
def sfieldv (d : TK) (x : V) (f : Nat) (ag : Bool) (k : Acc → Prop) : Prop :=
  match d, x with
  | .st fs _, .agg l =>
    (match fs[f]? with
     | some (off, sz) => off + sz ≤ l.length ∧ (ag = false → sz = 1) ∧ free k (V.ofCells ag ((l.drop off).take sz))
     | none => False)
  | _, _ => False

/-- cells, cut into elements -/
def chunks (sz : Nat) (ag : Bool) : Nat → List V → List V
  | 0, _ => []
  | n + 1, l => V.ofCells ag (l.take sz) :: chunks sz ag n (l.drop sz)

def sbuildSlice (d : TK) (oh : OH) (len : Nat) (parts : List (Nat × V)) (k : Acc → Prop) : Prop :=
  match d with
  | .sl _ sz _ ag z => 0 < sz ∧ z.length = sz ∧ len * sz ≤ 16777216 ∧
    sfill ((List.range len).map fun i => (i * sz, sz)) (List.replicate len (z.map V.ofConst1)).flatten parts fun us =>
      fresh oh fun c => k ⟨[], [c], [(c, ⟨sz, chunks sz ag len us, 0, true⟩)], .own c 0 0 len⟩
  | _ => False

/-- A value without owned parts, as read-only data. -/
def V.toT1 : V → Option T
  | .con v => some (.con v)
  | .ro _ t => some t
  | .emp => some (.sl [])
  | _ => none
def toTs : List V → Option (List T)
  | [] => some []
  | x :: r => match V.toT1 x, toTs r with | some t, some ts => some (t :: ts) | _, _ => none
def V.toT : V → Option T
  | .agg l => match toTs l with | some ts => some (.agg ts) | none => none
  | x => V.toT1 x
def toTA : List V → Option (List T)
  | [] => some []
  | x :: r => match V.toT x, toTA r with | some t, some ts => some (t :: ts) | _, _ => none

/-- What is handed over as data: 'pre' has the objects it leans on. -/
inductive Fz1 (oh : OH) (f : Bool) : V → T → Prop
  | con (v : Value) : Fz1 oh f (.con v) (.con v)
  | ro (f' : Bool) (t : T) (h : f = true → f' = true) : Fz1 oh f (.ro f' t) t
  | emp : Fz1 oh f .emp (.sl [])
  | own (id ver off len : Nat) (o : Obj) (ts : List T) (ho : oget oh id = some o) (hv : o.ver = ver) (hl : o.live = true) (hn : ts.length = len)
      (hs : ∀ (i : Nat) (e : V) (t : T), i < len → o.el[off + i]? = some e → ts[i]? = some t → t.cells.length = e.cells.length)
      (hc : ∀ (i : Nat) (e : V) (t : T) (j : Nat) (v : V) (u : T), i < len → o.el[off + i]? = some e → ts[i]? = some t → e.cells[j]? = some v → t.cells[j]? = some u → Fz1 oh f v u) :
      Fz1 oh f (.own id ver off len) (.sl ts)

def FzA (oh : OH) (f : Bool) : V → T → Prop
  | .agg l, .agg ts => l.length = ts.length ∧ ∀ (j : Nat) (v : V) (t : T), l[j]? = some v → ts[j]? = some t → Fz1 oh f v t
  | .agg _, _ => False
  | v, t => Fz1 oh f v t

def FzL (oh : OH) (vs : List V) (ts : List T) : Prop := vs.length = ts.length ∧ ∀ (j : Nat) (v : V) (t : T), vs[j]? = some v → ts[j]? = some t → FzA oh false v t

def T.isCon : T → Bool
  | .con _ => true
  | _ => false
/-- no memory behind it -/
def T.plain : T → Bool
  | .con _ => true
  | .tup l => l.all T.isCon
  | _ => false

/-- What a function hands back: data; or objects of its own, and a value. -/
inductive Res where
  | data (f : Bool) (t : T)
  | objs (oh : OH) (v : V)
abbrev CT := FuncId → List T → Res → Prop

/-- other numbers -/
def V.sh1 (d : Nat) : V → V
  | .own id ver off len => .own (id + d) ver off len
  | .ref id ver i foff => .ref (id + d) ver i foff
  | v => v
def V.shA (d : Nat) : V → V
  | .agg l => .agg (l.map (V.sh1 d))
  | v => V.sh1 d v
def V.sh (d : Nat) : V → V
  | .tup l => .tup (l.map (V.shA d))
  | v => V.shA d v
def Obj.sh (d : Nat) (o : Obj) : Obj := ⟨o.sz, o.el.map (V.shA d), o.ver, o.live⟩
def shO (d : Nat) (oh : OH) : OH := oh.map fun p => (p.1 + d, p.2.sh d)
inductive freshO (oh on : OH) (K : Nat → Prop) : Prop
  | mk (d : Nat) (h : ∀ i, i ∈ (shO d on).map (·.1) → oget oh i = none) (hk : K d)

/-- One operation. 'C k ts r': function k, called with the data ts, hands back r. -/
def step (P : Program) (C : CT) (o : Oper) (e : Operand → V) (oh : OH) (k : Acc → Prop) : Prop :=
  match o.op with
  | .move x | .assign x => free k (e x)
  | .pick c a b => (match e c with | .con (.bool t) => (match t with | true => free k (e a) | false => free k (e b)) | _ => False)
  | .binOp op t x y _ => sbin (tk P t) op (e x) (e y) fun v => free k (.con v)
  | .unOp op _ x => sun op (e x) fun v => free k (.con v)
  | .convert s d x => sconv (tk P s) (tk P d) (e x) fun v => free k (.con v)
  | .indexAddr t x i => sindex (tk P t) oh (e x) (e i) k
  | .load t x => sload (tk P t) oh (e x) k
  | .store t x v => sstore (tk P t) oh (e x) (e v) k
  | .fieldAddr t x f => sfield (tk P t) oh (e x) f k
  | .box _ x => sbox oh (e x) k
  | .alloc t => sbox oh (tz P t) k
  | .build t ps => sbuild (tk P t) (ps.toList.map fun p => (p.1, e p.2)) k
  | .index t x i => sidx (tk P t) (e x) (e i) k
  | .extract x i => sextract (e x) i k
  | .buildSlice t len ps => sbuildSlice (tk P t) oh len (ps.toList.map fun p => (p.1, e p.2)) k
  | .slice t x lo hi mx => sslice (tk P t) oh (e x) (lo.map e) (hi.map e) (mx.map e) k
  | .makeSlice t l c => smake (tk P t) oh (e l) (e c) k
  | .call c =>
    (match c.callee with
     | .builtin .len => (match c.args.toList, c.argTypes.toList with | [x], [t] => slen (tk P t) oh (e x) k | _, _ => False)
     | .builtin .append => (match c.args.toList, c.argTypes.toList with | [x, y], [t, t'] => t = t' ∧ sappend (tk P t) oh (e x) (e y) k | _, _ => False)
     | .value f =>
       (match V.fn? (e f) with
        | some q =>
          (match toTA (c.args.toList.map e) with
           | some ts => (∃ fr r, C q ts (.data fr r) ∧ free k (V.ofT fr r)) ∨ (∃ oh' v, C q ts (.objs oh' v) ∧ freshO oh oh' fun d => k ⟨[], (shO d oh').map (·.1), shO d oh', v.sh d⟩)
           | none => ∃ ts fr r, C q ts (.data fr r) ∧ ∃ pre : OH, (∀ p ∈ pre, oget oh p.1 = some p.2) ∧ FzL pre (c.args.toList.map e) ts ∧ (fr || r.plain) = true ∧ k ⟨pre, [], [], V.ofT fr r⟩)
        | none => False)
     | _ => False)
  | _ => False

def St.app (s : St) (o : Oper) (v : V) (post : OH) : St :=
  { s with env := (match o.dst with | some d => (d, v) :: s.env | none => s.env), oh := post ++ s.oh }

/-- Is the operation's slot a guard of the region? -/
def isGuardL : List Oper → Nat → Bool
  | [], _ => false
  | o :: r, i => (match o.guard with | some (j, _) => if j = i then true else isGuardL r i | none => isGuardL r i)

def litBool (v : V) (K : V → Prop) : Prop :=
  match v with
  | .con (.bool b) => (b = true → K (.con (.bool true))) ∧ (b = false → K (.con (.bool false)))
  | v => K v

def guardVal (ops : Array Oper) (e : Env) (j : Nat) : V := match (ops[j]?).bind (·.dst) with | some d => eget e d | none => .undef

/-- a slice held against nil -/
def nilTest (o : Oper) : Option (TypeId × Operand × Bool) :=
  match o.op with
  | .binOp .eql t x (.const (.slice none 0 0)) _ => some (t, x, true)
  | .binOp .neq t x (.const (.slice none 0 0)) _ => some (t, x, false)
  | _ => none

def nilB (d : TK) (v : V) (K : Bool → Prop) : Prop :=
  match d, v with
  | .sl .., .ro _ (.sl l) => ∀ b, (b = true → l = []) → K b
  | .sl .., .emp => ∀ b, K b
  | _, _ => False

/-- The operations in the order of the text. -/
def evOps (P : Program) (C : CT) (ops : Array Oper) : Nat → List Oper → St → (St → Prop) → Prop
  | _, [], s, K => K s
  | i, o :: r, s, K =>
    (match o.guard with
     | none =>
      (match nilTest o with
       | some (t, x, w) => nilB (tk P t) (opd s.env x) fun b => evOps P C ops (i + 1) r (s.app o (.con (.bool (b == w))) []) K
       | none => step P C o (opd s.env) s.oh fun a =>
       (match isGuardL r i with
        | true => litBool a.v fun v => evOps P C ops (i + 1) r (s.app o v a.post) K
        | false => evOps P C ops (i + 1) r (s.app o a.v a.post) K))
     | some (j, want) =>
       (match guardVal ops s.env j with
        | .con (.bool b) => (match b == want with | true => step P C o (opd s.env) s.oh fun a => evOps P C ops (i + 1) r (s.app o a.v a.post) K | false => evOps P C ops (i + 1) r (s.app o .undef []) K)
        | _ => False))

/-- The same, with a record of what each operation touched. -/
def evD (P : Program) (C : CT) (ops : Array Oper) : Nat → List Oper → St → List (Option Acc) → (List (Option Acc) → St → Prop) → Prop
  | _, [], s, tr, K => K tr s
  | i, o :: r, s, tr, K =>
    (match o.guard with
     | none => step P C o (opd s.env) s.oh fun a =>
       (match isGuardL r i with
        | true => litBool a.v fun v => evD P C ops (i + 1) r (s.app o v a.post) (some { a with v := v } :: tr) K
        | false => evD P C ops (i + 1) r (s.app o a.v a.post) (some a :: tr) K)
     | some (j, want) =>
       (match guardVal ops s.env j with
        | .con (.bool b) => (match b == want with | true => step P C o (opd s.env) s.oh fun a => evD P C ops (i + 1) r (s.app o a.v a.post) (some a :: tr) K | false => evD P C ops (i + 1) r (s.app o .undef []) (none :: tr) K)
        | _ => False))

/-- Does operation i stand ahead of j by an edge? -/
def edge (ops : Array Oper) (i j : Nat) : Bool :=
  match ops[j]? with
  | some o => o.after.toList.any fun e => Nat.beq e.on i && Region.binds .any e
  | none => false

def Acc.wr (a : Acc) : List Nat := a.nw ++ a.post.map (·.1)
def Acc.all (a : Acc) : List Nat := a.pre.map (·.1) ++ a.wr

def disj (l m : List Nat) : Bool := l.all fun i => m.all fun j => !decide (i = j)

def indep : Option Acc → Option Acc → Bool
  | some a, some b => disj a.wr b.all && disj b.wr a.all
  | _, _ => true

def commOne (ops : Array Oper) (j : Nat) (x : Option Acc) : List (Option Acc) → Bool
  | [] => true
  | y :: r => (edge ops r.length j || indep y x) && commOne ops j x r

def commR (ops : Array Oper) : List (Option Acc) → Bool
  | [] => true
  | x :: r => commOne ops r.length x r && commR ops r

inductive X where
  | normal | ret | exit (id : Nat)

def X.seq (next : St → Prop) (Q : X → St → Prop) : X → St → Prop
  | .normal, s => next s
  | x, s => Q x s
def X.block (id : Nat) (Q : X → St → Prop) : X → St → Prop
  | .exit j, s => if j = id then Q .normal s else Q (.exit j) s
  | x, s => Q x s

/-! ### what is known may be forgotten -/
def V.cl1 (oh : OH) : V → Prop
  | .own id .. | .ref id .. => (oget oh id).isSome = true
  | .con _ | .ro .. | .emp => True
  | _ => False
def V.cl (oh : OH) : V → Prop
  | .agg l => ∀ v ∈ l, v.cl1 oh
  | .undef => True
  | v => v.cl1 oh

def leEnv (oh : OH) (e : Env) : Env → Prop
  | [] => True
  | (t, v) :: r => eget e t = v ∧ v.cl oh ∧ leEnv oh e r

def clObjs (oh : OH) : OH → Prop
  | [] => True
  | (_, o) :: r => (∀ v ∈ o.el, v.cl oh) ∧ clObjs oh r

def leOH (oh : OH) : OH → Prop
  | [] => True
  | (i, o) :: r => oget oh i = some o ∧ leOH oh r

/-- s1 knows no more than s. -/
def Le (s1 s : St) : Prop := s1.n = s.n ∧ leEnv s1.oh s.env s1.env ∧ leOH s.oh s1.oh ∧ clObjs s1.oh s1.oh

/-- A slice that is empty, without room, becomes an owned one. -/
def adopt (s : St) : List (Nat × Nat × Nat) → St
  | [] => s
  | (t, c, sz) :: r => adopt { s with env := (t, .own c 0 0 0) :: s.env, oh := (c, ⟨sz, [], 0, true⟩) :: s.oh } r
def adoptOK (s : St) : List (Nat × Nat × Nat) → Prop
  | [] => True
  | (t, c, sz) :: r => eget s.env t = .emp ∧ oget s.oh c = none ∧ adoptOK { s with env := (t, .own c 0 0 0) :: s.env, oh := (c, ⟨sz, [], 0, true⟩) :: s.oh } r

/-- An object that is given up: what lies in it is read from now on, and no longer written. -/
inductive Fd1 (oh oh1 : OH) (f : Bool) : V → T → Prop
  | con (v : Value) : Fd1 oh oh1 f (.con v) (.con v)
  | ro (f' : Bool) (t : T) (h : f = true → f' = true) : Fd1 oh oh1 f (.ro f' t) t
  | emp : Fd1 oh oh1 f .emp (.sl [])
  | own (id ver off len : Nat) (o : Obj) (ts : List T) (ho : oget oh id = some o) (hd : oget oh1 id = none) (hv : o.ver = ver) (hl : o.live = true) (hn : ts.length = len)
      (hs : ∀ (i : Nat) (e : V) (t : T), i < len → o.el[off + i]? = some e → ts[i]? = some t → t.cells.length = e.cells.length)
      (hc : ∀ (i : Nat) (e : V) (t : T) (j : Nat) (v : V) (u : T), i < len → o.el[off + i]? = some e → ts[i]? = some t → e.cells[j]? = some v → t.cells[j]? = some u → Fd1 oh oh1 f v u) :
      Fd1 oh oh1 f (.own id ver off len) (.sl ts)

/-- A cell, of which no more is known than before: given up, or taken for owned. -/
inductive Lc (oh oh1 : OH) : V → V → Prop
  | same (v : V) (h : v.cl1 oh1) : Lc oh oh1 v v
  | frz (f : Bool) (v : V) (t : T) (h : Fd1 oh oh1 f v t) : Lc oh oh1 v (V.ofT1 f t)
  | adopt (c : Nat) (o : Obj) (h0 : oget oh c = none) (h1 : oget oh1 c = some o) : Lc oh oh1 .emp (.own c 0 0 0)

def LV (oh oh1 : OH) (v v1 : V) : Prop :=
  match v1 with
  | .agg l1 => (match v with | .agg l => l.length = l1.length ∧ ∀ (j : Nat) (a b : V), l[j]? = some a → l1[j]? = some b → Lc oh oh1 a b | _ => False)
  | v1 => Lc oh oh1 v v1

/-- s1 knows no more than s: objects may have been given up. -/
structure Lf (s1 s : St) : Prop where
  n : s1.n = s.n
  oh : ∀ (i : Nat) (o1 : Obj), oget s1.oh i = some o1 →
    (∃ o, oget s.oh i = some o ∧ o1.sz = o.sz ∧ o1.ver = o.ver ∧ o1.live = o.live ∧ o1.el.length = o.el.length ∧ ∀ (k : Nat) (e e1 : V), o.el[k]? = some e → o1.el[k]? = some e1 → LV s.oh s1.oh e e1) ∨
    (oget s.oh i = none ∧ o1.el = [] ∧ o1.ver = 0 ∧ o1.live = true)
  env : ∀ t, eget s1.env t = .undef ∨ LV s.oh s1.oh (eget s.env t) (eget s1.env t)

def LeB (fz : Bool) (s1 s : St) : Prop :=
  match fz with
  | false => Le s1 s
  | true => Lf s1 s

def Loop (body : St → (X → St → Prop) → Prop) (s : St) (Q : X → St → Prop) : Prop :=
  ∃ (f0 fz : Bool) (σ : Type) (enc : σ → St) (I : σ → Prop) (μ : σ → Nat) (ads : List (Nat × Nat × Nat)) (z0 : σ), adoptOK s ads ∧ I z0 ∧ LeB f0 (enc z0) (adopt s ads) ∧
    ∀ z, I z → body (enc z) (X.seq (fun s' => ∃ z', I z' ∧ μ z' < μ z ∧ LeB fz (enc z') s') Q)

def evC (P : Program) (C : CT) : Code → St → (X → St → Prop) → Prop
  | .skip, s, Q => Q .normal s
  | .seq a b, s, Q => evC P C a s (X.seq (fun s' => evC P C b s' Q) Q) ∨ evC P C a s (X.seq (fun s' => ∃ fz s2, LeB fz s2 s' ∧ evC P C b s2 Q) Q)
  | .cond c a b, s, Q => (match opd s.env c with | .con (.bool t) => (t = true → evC P C a s Q) ∧ (t = false → evC P C b s Q) | _ => False)
  | .block id c, s, Q => evC P C c s (X.block id Q)
  | .loop c, s, Q => Loop (fun s Q => evC P C c s Q) s Q
  | .exit id, s, Q => Q (.exit id) s
  | .ret, s, Q => Q .ret s
  | .region _ ops false, s, Q => evOps P C ops 0 ops.toList s (Q .normal)
  | .region _ ops true, s, Q => evD P C ops 0 ops.toList s [] fun tr s' => commR ops tr = true ∧ Q .normal s'
  | _, _, _ => False

/-! ### what is asked of code, whatever it is run on -/
def dstB (n : Nat) (ops : List Oper) : Bool := ops.all fun o => match o.dst with | some d => Nat.blt d n | none => true
def apartB (ops : Array Oper) : Bool :=
  (List.range ops.size).all fun j => (List.range j).all fun i => edge ops i j || (match ops[i]?, ops[j]? with | some x, some y => x.apart ops y | _, _ => false)
def backB (ops : Array Oper) : Bool :=
  (List.range ops.size).all fun j => match ops[j]? with | some o => o.after.toList.all (fun e => !Region.binds .any e || Nat.blt e.on j) | none => false
def okB (n : Nat) : Code → Bool
  | .seq a b => okB n a && okB n b
  | .cond _ a b => okB n a && okB n b
  | .block _ c => okB n c
  | .loop c => okB n c
  | .region _ ops d => dstB n ops.toList && (!d || (apartB ops && backB ops))
  | _ => true

/-! ### a function's end -/
/-- A result variable's value. -/
def resV (P : Program) (s : St) : ResultVar → (V → Prop) → Prop
  | .tmp t, K => K (eget s.env t)
  | .cell a t, K => sload (tk P t) s.oh (eget s.env a) fun x => K x.v

def RetOK (P : Program) (fn : Func) (f : Bool) (r : T) (x : X) (s : St) : Prop :=
  (match x with | .exit _ => False | _ => True) ∧
  (match fn.results.toList with
   | [] => r = .tup []
   | [a] => resV P s a fun v => FzA s.oh f v r
   | [a, b] => resV P s a fun v => resV P s b fun u => ∃ t1 t2, r = .tup [t1, t2] ∧ FzA s.oh f v t1 ∧ FzA s.oh f u t2
   | [a, b, c] => resV P s a fun v => resV P s b fun u => resV P s c fun y => ∃ t1 t2 t3, r = .tup [t1, t2, t3] ∧ FzA s.oh f v t1 ∧ FzA s.oh f u t2 ∧ FzA s.oh f y t3
   | _ => False)

def argEnv : Nat → List T → Env
  | _, [] => []
  | i, t :: r => (i, V.ofT false t) :: argEnv (i + 1) r

end Go.Ev
