import Derived.Calls
import Derived.KernelRfl
import Derived.Orders
import Derived.Laws.AppendOwn
import Derived.Laws.MakeOwn
import Derived.Laws.Tables
import Derived.Laws.CopyRow
import Derived.Below
import Derived.Laws.Small
set_option linter.all false
namespace Go.Ev
inductive T where
  | con (v : Value)
  | sl (l : List T)
  | ptr (l : List T)
  | agg (l : List T)
  | tup (l : List T)
def T.cells : T → List T
  | .agg l => l
  | x => [x]
inductive V where
  | undef
  | con (v : Value)
  | ro (f : Bool) (t : T)
  | emp
  | own (id ver off len : Nat)
  | ref (id ver i foff : Nat)
  | agg (l : List V)
  | tup (l : List V)
def V.cells : V → List V
  | .agg l => l
  | x => [x]
structure Obj where
  sz : Nat
  el : List V
  ver : Nat
  live : Bool
abbrev OH := List (Nat × Obj)
abbrev Env := List (Nat × V)
def oget : OH → Nat → Option Obj
  | [], _ => none
  | (i, o) :: r, k => if i = k then some o else oget r k
def eget : Env → Nat → V
  | [], _ => .undef
  | (i, v) :: r, k => if i = k then v else eget r k
structure St where
  n : Nat
  env : Env
  oh : OH
def oneC : Value → Bool
  | .agg _ | .tuple _ => false
  | _ => true
def V.ofConst1 : Value → V
  | .slice none 0 0 => .emp
  | v => .con v
def V.ofConst : Value → V
  | .agg cs => bif cs.toList.all oneC then .agg (cs.toList.map V.ofConst1) else .undef
  | .tuple _ => .undef
  | v => V.ofConst1 v
def opd (e : Env) : Operand → V
  | .tmp t => eget e t
  | .const v => V.ofConst v
  | .global g => .con (.pointer (some ⟨g, 0, none⟩))
  | .func f => .con (.func (.func f) #[] #[])
def V.ofT1 (f : Bool) : T → V
  | .con v => .con v
  | x => .ro f x
def V.ofA (f : Bool) : T → V
  | .agg l => .agg (l.map (V.ofT1 f))
  | x => V.ofT1 f x
def V.ofT (f : Bool) : T → V
  | .tup l => .tup (l.map (V.ofA f))
  | x => V.ofA f x
structure Acc where
  pre : OH
  nw : List Nat
  post : OH
  v : V
inductive TK where
  | bool | int (k : IntKind) | str
  | sl (e sz by_ : Nat) (ag : Bool) (zero : List Value)
  | st (fs : List (Nat × Nat)) (zero : List Value)
  | ptr
  | map (kk : Option IntKind) (zero : Value)
  | arr (n e esz : Nat) (zero : List Value)
  | other
def tk1 (P : Program) : TypeDesc → TK
  | .bool => .bool
  | .int k => .int k
  | .string => .str
  | .slice e =>
    match P.info? e with
    | some i => (match i.zero with
      | some (.agg z) => if (z.toList.all oneC && Nat.beq i.size z.size) = true then .sl e i.size i.bytes true z.toList else .other
      | some z => if (oneC z && Nat.beq i.size 1) = true then .sl e 1 i.bytes false [z] else .other
      | none => .other)
    | none => .other
  | .pointer _ => .ptr
  | .map q e =>
    match P.info? e with
    | some i =>
      (match i.zero with
       | some z => if (oneC z && Nat.beq i.size 1) = true then (match P.underlying q with | some .string => .map none z | some (.int k) => .map (some k) z | _ => .other) else .other
       | none => .other)
    | none => .other
  | _ => .other
def tk (P : Program) (t : TypeId) : TK :=
  match P.underlying t with
  | some (.struct fs) =>
    match P.info? t with
    | some i => (match i.zero with
      | some (.agg z) => if (z.toList.all oneC && Nat.beq i.size z.size && fs.toList.all fun f => (P.info? f.type).isSome) = true then .st (fs.toList.map fun f => (f.offset, P.cellsOf f.type)) z.toList else .other
      | _ => .other)
    | none => .other
  | some (.array n e) =>
    match P.info? t with
    | some i => (match i.zero with
      | some (.agg z) => if (z.toList.all oneC && Nat.beq i.size z.size && (P.info? e).isSome) = true then .arr n e (P.cellsOf e) z.toList else .other
      | _ => .other)
    | none => .other
  | some d => if Nat.beq (P.cellsOf t) 1 = true then tk1 P d else .other
  | none => .other
def tz (P : Program) (t : TypeId) : V :=
  match (P.info? t).bind (·.zero) with
  | some z => V.ofConst z
  | none => .undef
def TK.isAgg : TK → Bool
  | .st _ _ | .arr _ _ _ _ => true
  | _ => false
def TK.size : TK → Nat
  | .st _ z | .arr _ _ _ z => z.length
  | .other => 0
  | _ => 1
def free (k : Acc → Prop) (v : V) : Prop := k ⟨[], [], [], v⟩
def V.ofCells (agg : Bool) (l : List V) : V := bif agg then .agg l else (match l with | [x] => x | _ => .undef)
def sint (op : BinOp) (k : IntKind) (a b : Int) (K : Value → Prop) : Prop :=
  match op with
  | .add => ∃ r, r = k.wrap (a + b) ∧ K (.int k r)
  | .sub => ∃ r, r = k.wrap (a - b) ∧ K (.int k r)
  | .mul => ∃ r, r = k.wrap (a * b) ∧ K (.int k r)
  | .quo => b ≠ 0 ∧ ∃ r, r = k.wrap (a.tdiv b) ∧ K (.int k r)
  | .rem => b ≠ 0 ∧ ∃ r, r = a.tmod b ∧ K (.int k r)
  | .and => K (.int k (k.wrap (BitVec.ofInt k.bits a &&& BitVec.ofInt k.bits b).toNat))
  | .or => K (.int k (k.wrap (BitVec.ofInt k.bits a ||| BitVec.ofInt k.bits b).toNat))
  | .xor => K (.int k (k.wrap (BitVec.ofInt k.bits a ^^^ BitVec.ofInt k.bits b).toNat))
  | .eql => K (.bool (a == b))
  | .neq => K (.bool (a != b))
  | .lss => K (.bool (decide (a < b)))
  | .leq => K (.bool (decide (a ≤ b)))
  | .gtr => K (.bool (decide (a > b)))
  | .geq => K (.bool (decide (a ≥ b)))
  | _ => False
def sbin (d : TK) (op : BinOp) (x y : V) (K : Value → Prop) : Prop :=
  match x, y with
  | .con (.int k a), .con (.int k' b) =>
    (match op with
     | .shl => 0 ≤ b ∧ ∃ r, r = k.wrap (a * 2 ^ (min b.toNat k.bits)) ∧ K (.int k r)
     | .shr => 0 ≤ b ∧ ∃ r, r = a.fdiv (2 ^ (min b.toNat k.bits)) ∧ K (.int k r)
     | op => k = k' ∧ sint op k a b K)
  | .con (.bool a), .con (.bool b) =>
    (match op with | .eql => d = .bool ∧ K (.bool (a == b)) | .neq => d = .bool ∧ K (.bool (!(a == b))) | _ => False)
  | .con (.pointer none), .con (.pointer none) =>
    (match op with | .eql => d = .ptr ∧ K (.bool true) | .neq => d = .ptr ∧ K (.bool false) | _ => False)
  | .ro _ (.ptr _), .con (.pointer none) =>
    (match op with | .eql => d = .ptr ∧ K (.bool false) | .neq => d = .ptr ∧ K (.bool true) | _ => False)
  | .con (.string a), .con (.string b) =>
    (match op with
     | .add => a.size + b.size ≤ 9223372036854775807 ∧ K (.string (a ++ b))
     | .eql => K (.bool (a.toList == b.toList))
     | .neq => K (.bool (!(a.toList == b.toList)))
     | .lss => K (.bool (Op.bytesLess a.toList b.toList))
     | _ => False)
  | _, _ => False
def sun (op : UnOp) (x : V) (K : Value → Prop) : Prop :=
  match op, x with
  | .not, .con (.bool b) => K (.bool (!b))
  | .neg, .con (.int k n) => ∃ r, r = k.wrap (0 - n) ∧ K (.int k r)
  | _, _ => False
def sconv (s d : TK) (x : V) (K : Value → Prop) : Prop :=
  match s, d, x with
  | .int _, .int k, .con (.int _ n) => ∃ r, r = k.wrap n ∧ K (.int k r)
  | .str, .str, .con (.string s) => K (.string s)
  | _, _, _ => False
def use (oh : OH) (id ver : Nat) (K : Obj → Prop) : Prop :=
  match oget oh id with
  | some o => o.ver = ver ∧ o.live = true ∧ K o
  | none => False
def sindex (d : TK) (oh : OH) (x i : V) (k : Acc → Prop) : Prop :=
  match d, x, i with
  | .sl _ sz .., .ro f (.sl l), .con (.int _ n) =>
    0 ≤ n ∧ ∃ t, l[n.toNat]? = some t ∧ t.cells.length = sz ∧ free k (.ro f (.ptr t.cells))
  | .sl _ sz .., .own id ver off len, .con (.int _ n) =>
    0 ≤ n ∧ n < len ∧ use oh id ver fun o => o.sz = sz ∧ k ⟨[(id, o)], [], [], .ref id ver (off + n.toNat) 0⟩
  | _, _, _ => False
def sload (d : TK) (oh : OH) (x : V) (k : Acc → Prop) : Prop :=
  match x with
  | .ro f (.ptr l) => 0 < d.size ∧ d.size ≤ l.length ∧ free k (V.ofCells d.isAgg ((l.take d.size).map (V.ofT1 f)))
  | .ref id ver i foff => use oh id ver fun o =>
    ∃ e, o.el[i]? = some e ∧ 0 < d.size ∧ foff + d.size ≤ e.cells.length ∧ k ⟨[(id, o)], [], [], V.ofCells d.isAgg ((e.cells.drop foff).take d.size)⟩
  | _ => False
def splice {α : Type} (l : List α) (off : Nat) (xs : List α) : List α := l.take off ++ xs ++ l.drop (off + xs.length)
def V.solid : V → Bool
  | .undef | .tup _ => false
  | _ => true
def V.put (e : V) (off : Nat) (xs : List V) : V :=
  match e with
  | .agg l => .agg (splice l off xs)
  | _ => V.ofCells false xs
def sstore (d : TK) (oh : OH) (x v : V) (k : Acc → Prop) : Prop :=
  match x with
  | .ref id ver i foff => use oh id ver fun o =>
    ∃ e, o.el[i]? = some e ∧ v.solid = true ∧ 0 < d.size ∧ v.cells.length = d.size ∧ foff + d.size ≤ e.cells.length ∧ k ⟨[(id, o)], [], [(id, ⟨o.sz, o.el.set i (e.put foff v.cells), o.ver, o.live⟩)], .undef⟩
  | _ => False
def sfield (d : TK) (oh : OH) (x : V) (f : Nat) (k : Acc → Prop) : Prop :=
  match d with
  | .st fs _ =>
    (match fs[f]? with
     | some (off, sz) => sz ≠ 0 ∧
       (match x with
        | .ro fr (.ptr l) => off ≤ l.length ∧ free k (.ro fr (.ptr (l.drop off)))
        | .ref id ver i foff => use oh id ver fun o => k ⟨[(id, o)], [], [], .ref id ver i (foff + off)⟩
        | _ => False)
     | none => False)
  | _ => False
def newId : OH → Nat
  | [] => 0
  | (i, _) :: r => if newId r ≤ i then i + 1 else newId r
inductive fresh (oh : OH) (K : Nat → Prop) : Prop
  | mk (c : Nat) (h : oget oh c = none) (hk : K c)
def sbox (oh : OH) (v : V) (k : Acc → Prop) : Prop :=
  v.solid = true ∧ fresh oh fun c => k ⟨[], [c], [(c, ⟨v.cells.length, [v], 0, true⟩)], .ref c 0 0 0⟩
def sfill (fs : List (Nat × Nat)) : List V → List (Nat × V) → (List V → Prop) → Prop
  | cs, [], K => K cs
  | cs, (i, v) :: r, K =>
    (match fs[i]? with
     | some (off, sz) => v.solid = true ∧ v.cells.length = sz ∧ off + sz ≤ cs.length ∧ sfill fs (splice cs off v.cells) r K
     | none => False)
def sbuild (d : TK) (parts : List (Nat × V)) (k : Acc → Prop) : Prop :=
  match d with
  | .st fs z => sfill fs (z.map V.ofConst1) parts fun cs => free k (.agg cs)
  | .arr n _ esz z => sfill ((List.range n).map fun j => (j * esz, esz)) (z.map V.ofConst1) parts fun cs => free k (.agg cs)
  | _ => False
def slen (d : TK) (oh : OH) (x : V) (k : Acc → Prop) : Prop :=
  match d, x with
  | .sl .., .ro _ (.sl l) => free k (.con (.int .i64 l.length))
  | .sl .., .own id ver _ len => use oh id ver fun o => k ⟨[(id, o)], [], [], .con (.int .i64 len)⟩
  | .sl .., .emp => free k (.con (.int .i64 0))
  | .str, .con (.string s) => free k (.con (.int .i64 s.size))
  | _, _ => False
def sbd (x : Option V) (a : Int) (K : Int → Prop) : Prop :=
  match x with
  | none => K a
  | some (.con (.int _ n)) => K n
  | _ => False
def AllSz (l : List T) (sz : Nat) : Prop := ∀ t ∈ l, t.cells.length = sz
def sslice (d : TK) (oh : OH) (x : V) (lo hi mx : Option V) (k : Acc → Prop) : Prop :=
  match mx with
  | some m =>
    match d, x, hi with
    | .sl .., .ro _ (.sl _), some h => sbd lo 0 fun a => sbd (some h) 0 fun b => sbd (some m) 0 fun c => a = 0 ∧ b = 0 ∧ c = 0 ∧ free k .emp
    | _, _, _ => False
  | none =>
    match d, x with
    | .sl _ sz .., .ro f (.sl l) => AllSz l sz ∧ sbd lo 0 fun a => sbd hi l.length fun b => 0 ≤ a ∧ a ≤ b ∧ b ≤ l.length ∧ free k (.ro f (.sl ((l.drop a.toNat).take (b - a).toNat)))
    | .sl _ sz .., .own id ver off len => use oh id ver fun o => o.sz = sz ∧ sbd lo 0 fun a => sbd hi len fun b => 0 ≤ a ∧ a ≤ b ∧ b ≤ len ∧ k ⟨[(id, o)], [], [], .own id ver (off + a.toNat) (b - a).toNat⟩
    | .sl .., .emp => sbd lo 0 fun a => sbd hi 0 fun b => a = 0 ∧ b = 0 ∧ free k .emp
    | .str, .con (.string s) => sbd lo 0 fun a => sbd hi s.size fun b => 0 ≤ a ∧ a ≤ b ∧ b ≤ s.size ∧ free k (.con (.string (s.extract a.toNat b.toNat)))
    | _, _ => False
def smake (d : TK) (oh : OH) (l c : V) (k : Acc → Prop) : Prop :=
  match d, l, c with
  | .sl _ sz by_ ag z, .con (.int _ n), .con (.int _ m) =>
    n ≤ m ∧ 0 ≤ n ∧ m ≤ 9223372036854775807 ∧ m * by_ ≤ 140737488355328 ∧ z.length = sz ∧ 0 < sz ∧
      fresh oh fun c => k ⟨[], [c], [(c, ⟨sz, List.replicate m.toNat (V.ofCells ag (z.map V.ofConst1)), 0, true⟩)], .own c 0 0 n.toNat⟩
  | _, _, _ => False
def elems (oh : OH) (x : V) (K : OH → List V → Prop) : Prop :=
  match x with
  | .emp => K [] []
  | .ro f (.sl l) => K [] (l.map (V.ofA f))
  | .own id ver off len => use oh id ver fun o => K [(id, o)] ((o.el.drop off).take len)
  | _ => False
def sappend (d : TK) (oh : OH) (x y : V) (k : Acc → Prop) : Prop :=
  match d with
  | .sl _ sz by_ _ z => z.length = sz ∧ 0 < sz ∧ elems oh y fun pre ys =>
    (match x with
     | .emp =>
       ys.length ≤ 9223372036854775807 ∧ ys.length * by_ ≤ 140737488355328 ∧ (∀ y ∈ ys, y.cells.length = sz) ∧
       fresh oh fun c => k ⟨pre, [c], [(c, ⟨sz, ys, 0, true⟩)], .own c 0 0 ys.length⟩
     | .own id ver 0 len => use oh id ver fun o => o.sz = sz ∧
       len + ys.length ≤ 9223372036854775807 ∧ (len + ys.length) * by_ ≤ 140737488355328 ∧ (∀ y ∈ ys, y.cells.length = sz) ∧
       k ⟨(id, o) :: pre, [], [(id, ⟨sz, o.el.take len ++ ys, ver + 1, true⟩)], .own id (ver + 1) 0 (len + ys.length)⟩
     | _ => False)
  | _ => False
def mkOK : Option IntKind → Value → Bool
  | none, .string _ => true
  | some k, .int k' _ => decide (k = k')
  | _, _ => false
def mkEq : Value → Value → Bool
  | .int _ a, .int _ b => a == b
  | .string a, .string b => a == b
  | _, _ => false
def mEnt (kk : Option IntKind) (v : V) : Prop := ∃ q x, v = .agg [.con q, .con x] ∧ mkOK kk q = true ∧ oneC x = true
def mFind (key : Value) : List V → Option (Nat × Value)
  | .agg [.con q, .con x] :: r => bif mkEq key q then some (0, x) else (mFind key r).map fun p => (p.1 + 1, p.2)
  | _ => none
def mGet (key : Value) (el : List V) : Option Value := (mFind key el).map (·.2)
def mPut (key v : Value) (el : List V) : List V :=
  match mFind key el with
  | some (i, _) => el.set i (.agg [.con key, .con v])
  | none => el ++ [.agg [.con key, .con v]]
def slookup (d : TK) (oh : OH) (x i : V) (ok : Bool) (k : Acc → Prop) : Prop :=
  match d, x, i with
  | .map kk z, .ref id _ _ _, .con key =>
    (match oget oh id with
     | some o => o.live = false ∧ o.sz = 0 ∧ mkOK kk key = true ∧ (∀ v ∈ o.el, mEnt kk v) ∧
       (match ok with
        | true => ∃ v b, (mGet key o.el).getD z = v ∧ (mGet key o.el).isSome = b ∧ k ⟨[(id, o)], [], [], .tup [.con v, .con (.bool b)]⟩
        | false => ∃ v, (mGet key o.el).getD z = v ∧ k ⟨[(id, o)], [], [], .con v⟩)
     | none => False)
  | _, _, _ => False
def smkMap (d : TK) (oh : OH) (r : Option V) (k : Acc → Prop) : Prop :=
  match d, r with
  | .map _ _, none => fresh oh fun c => k ⟨[], [c], [(c, ⟨0, [], 0, false⟩)], .ref c 0 0 0⟩
  | .map _ _, some (.con (.int _ _)) => fresh oh fun c => k ⟨[], [c], [(c, ⟨0, [], 0, false⟩)], .ref c 0 0 0⟩
  | _, _ => False
def smapUp (d : TK) (oh : OH) (x i v : V) (k : Acc → Prop) : Prop :=
  match d, x, i, v with
  | .map kk _, .ref id _ _ _, .con key, .con y =>
    (match oget oh id with
     | some o => o.live = false ∧ o.sz = 0 ∧ mkOK kk key = true ∧ (∀ v ∈ o.el, mEnt kk v) ∧ ∃ el', mPut key y o.el = el' ∧ k ⟨[(id, o)], [], [(id, ⟨0, el', o.ver, false⟩)], .undef⟩
     | none => False)
  | _, _, _, _ => False
def smm (lt : Bool) (x y : V) (K : Value → Prop) : Prop :=
  match x, y with
  | .con (.int k a), .con (.int k' b) => k = k' ∧ ∃ r, r = (match lt with | true => (if b < a then b else a) | false => (if a < b then b else a)) ∧ K (.int k r)
  | _, _ => False
def V.fn? : V → Option FuncId
  | .con (.func (.func f) a b) => (match a.toList, b.toList with | [], [] => some f | _, _ => none)
  | _ => none
def sidx (tt : TypeId → TK) (d : TK) (x i : V) (k : Acc → Prop) : Prop :=
  match d, x, i with
  | .str, .con (.string s), .con (.int _ n) => 0 ≤ n ∧ ∃ b : UInt8, s[n.toNat]? = some b ∧ free k (.con (.int .u8 b.toNat))
  | .arr len el esz _, .agg l, .con (.int _ n) => 0 ≤ n ∧ n < len ∧ 0 < esz ∧ (tt el).size = esz ∧ n.toNat * esz + esz ≤ l.length ∧ free k (V.ofCells (tt el).isAgg ((l.drop (n.toNat * esz)).take esz))
  | _, _, _ => False
def sextract (x : V) (i : Nat) (k : Acc → Prop) : Prop :=
  match x with
  | .tup l => ∃ v, l[i]? = some v ∧ free k v
  | _ => False
def chunks (sz : Nat) (ag : Bool) : Nat → List V → List V
  | 0, _ => []
  | n + 1, l => V.ofCells ag (l.take sz) :: chunks sz ag n (l.drop sz)
def sbuildSlice (d : TK) (oh : OH) (len : Nat) (parts : List (Nat × V)) (k : Acc → Prop) : Prop :=
  match d with
  | .sl _ sz _ ag z => 0 < sz ∧ z.length = sz ∧ len * sz ≤ 16777216 ∧
    sfill ((List.range len).map fun i => (i * sz, sz)) (List.replicate len (z.map V.ofConst1)).flatten parts fun us =>
      fresh oh fun c => k ⟨[], [c], [(c, ⟨sz, chunks sz ag len us, 0, true⟩)], .own c 0 0 len⟩
  | _ => False
def V.scal : V → Prop
  | .con _ => True
  | .agg l => ∀ v ∈ l, ∃ c, v = .con c
  | _ => False
def V.toT1 : V → Option T
  | .con v => some (.con v)
  | .ro _ t => some t
  | .emp => some (.sl [])
  | _ => none
def toTs : List V → Option (List T)
  | [] => some []
  | x :: r => match V.toT1 x, toTs r with | some t, some ts => some (t :: ts) | _, _ => none
def V.toT : V → Option T
  | .agg l => match toTs l with | some ts => some (.agg ts) | none => none
  | x => V.toT1 x
def toTA : List V → Option (List T)
  | [] => some []
  | x :: r => match V.toT x, toTA r with | some t, some ts => some (t :: ts) | _, _ => none
def snil (oh : OH) (x : V) (k : Acc → Prop) : Prop :=
  match x with
  | .ref id ver i foff => use oh id ver fun o => k ⟨[(id, o)], [], [], .ref id ver i foff⟩
  | .ro f (.ptr l) => free k (.ro f (.ptr l))
  | _ => False
inductive Fz1 (oh : OH) (f : Bool) : V → T → Prop
  | con (v : Value) : Fz1 oh f (.con v) (.con v)
  | ro (f' : Bool) (t : T) (h : f = true → f' = true) : Fz1 oh f (.ro f' t) t
  | emp : Fz1 oh f .emp (.sl [])
  | own (id ver off len : Nat) (o : Obj) (ts : List T) (ho : oget oh id = some o) (hv : o.ver = ver) (hl : o.live = true) (hn : ts.length = len)
      (hs : ∀ (i : Nat) (e : V) (t : T), i < len → o.el[off + i]? = some e → ts[i]? = some t → t.cells.length = e.cells.length)
      (hc : ∀ (i : Nat) (e : V) (t : T) (j : Nat) (v : V) (u : T), i < len → o.el[off + i]? = some e → ts[i]? = some t → e.cells[j]? = some v → t.cells[j]? = some u → Fz1 oh f v u) :
      Fz1 oh f (.own id ver off len) (.sl ts)
def FzA (oh : OH) (f : Bool) : V → T → Prop
  | .agg l, .agg ts => l.length = ts.length ∧ ∀ (j : Nat) (v : V) (t : T), l[j]? = some v → ts[j]? = some t → Fz1 oh f v t
  | .agg _, _ => False
  | v, t => Fz1 oh f v t
def FzL (oh : OH) (vs : List V) (ts : List T) : Prop := vs.length = ts.length ∧ ∀ (j : Nat) (v : V) (t : T), vs[j]? = some v → ts[j]? = some t → FzA oh false v t
def T.isCon : T → Bool
  | .con _ => true
  | _ => false
def T.plain : T → Bool
  | .con _ => true
  | .tup l => l.all T.isCon
  | _ => false
structure MO where
  id : Nat
  sz : Nat
  a : List V
  b : List V
def MO.pre (x : MO) : Nat × Obj := (x.id, ⟨x.sz, x.a, 0, true⟩)
def MO.post (x : MO) : Nat × Obj := (x.id, ⟨x.sz, x.b, 0, true⟩)
inductive Res where
  | data (f : Bool) (t : T)
  | objs (oh : OH) (v : V)
  | muts (M : List MO) (vs : List V) (f : Bool) (t : T)
  | gen (pre : OH) (nw : List Nat) (vs : List V) (post : OH) (r : V)
abbrev CT := FuncId → List T → Res → Prop
inductive ArC (m vo : Nat → Nat) : V → V → Prop
  | con (v : Value) : ArC m vo (.con v) (.con v)
  | ro (f : Bool) (t : T) : ArC m vo (.ro f t) (.ro false t)
  | emp : ArC m vo .emp .emp
  | own (i off len : Nat) : ArC m vo (.own (m i) (vo i) off len) (.own i 0 off len)
  | ref (i k foff : Nat) : ArC m vo (.ref (m i) (vo i) k foff) (.ref i 0 k foff)
def arL (m vo : Nat → Nat) : List V → List V → Prop
  | [], [] => True
  | v :: r, u :: s => ArC m vo v u ∧ arL m vo r s
  | _, _ => False
def ArA (m vo : Nat → Nat) (v u : V) : Prop :=
  match u with
  | .agg l => (match v with | .agg l' => arL m vo l' l | _ => False)
  | u => ArC m vo v u
def ArL (m vo : Nat → Nat) : List V → List V → Prop
  | [], [] => True
  | v :: r, u :: s => ArA m vo v u ∧ ArL m vo r s
  | _, _ => False
def cov1 (M : List MO) : V → Prop
  | .own i .. | .ref i .. => ∃ y ∈ M, y.id = i
  | _ => True
def covL (M : List MO) : List V → Prop
  | [] => True
  | .agg l :: r => (∀ v ∈ l, cov1 M v) ∧ covL M r
  | v :: r => cov1 M v ∧ covL M r
def MutK (C : CT) (q : FuncId) (args : List V) (oh : OH) (k : Acc → Prop) : Prop :=
  ∃ (M : List MO) (vs : List V) (fr : Bool) (r : T) (m vo : Nat → Nat), C q [] (.muts M vs fr r) ∧ covL M vs ∧ ArL m vo args vs ∧ (∀ x ∈ M, oget oh (m x.id) = some ⟨x.sz, x.a, vo x.id, true⟩) ∧
    (∀ x ∈ M, ∀ y ∈ M, m x.id = m y.id → x.id = y.id) ∧ (fr || r.plain) = true ∧
    k ⟨M.map fun x => (m x.id, ⟨x.sz, x.a, vo x.id, true⟩), [], M.map fun x => (m x.id, ⟨x.sz, x.b, vo x.id, true⟩), V.ofT fr r⟩
def V.rn1 (m vo : Nat → Nat) : V → V
  | .own i ver off len => .own (m i) (vo i + ver) off len
  | .ref i ver k foff => .ref (m i) (vo i + ver) k foff
  | v => v
def V.rnA (m vo : Nat → Nat) : V → V
  | .agg l => .agg (l.map (V.rn1 m vo))
  | v => V.rn1 m vo v
def V.rn (m vo : Nat → Nat) : V → V
  | .tup l => .tup (l.map (V.rnA m vo))
  | v => V.rnA m vo v
def Obj.rn (m vo : Nat → Nat) (i : Nat) (o : Obj) : Obj := ⟨o.sz, o.el.map (V.rnA m vo), vo i + o.ver, o.live⟩
def rnO (m vo : Nat → Nat) (oh : OH) : OH := oh.map fun p => (m p.1, p.2.rn m vo p.1)
def V.wk1 : V → V
  | .ro _ t => .ro false t
  | v => v
def V.wk : V → V
  | .agg l => .agg (l.map V.wk1)
  | v => v.wk1
def GenK (C : CT) (q : FuncId) (args : List V) (oh : OH) (k : Acc → Prop) : Prop :=
  ∃ (pre : OH) (nw : List Nat) (vs : List V) (post : OH) (r : V) (m vo : Nat → Nat), C q [] (.gen pre nw vs post r) ∧ args.map V.wk = vs.map (V.rnA m vo) ∧ (∀ p ∈ pre, oget oh (m p.1) = some (p.2.rn m vo p.1)) ∧
    (∀ i ∈ nw, oget oh (m i) = none) ∧ (∀ i ∈ pre.map (·.1) ++ nw, ∀ j ∈ pre.map (·.1) ++ nw, m i = m j → i = j) ∧ k ⟨rnO m vo pre, nw.map m, rnO m vo post, r.rn m vo⟩
def V.sh1 (d : Nat) : V → V
  | .own id ver off len => .own (id + d) ver off len
  | .ref id ver i foff => .ref (id + d) ver i foff
  | v => v
def V.shA (d : Nat) : V → V
  | .agg l => .agg (l.map (V.sh1 d))
  | v => V.sh1 d v
def V.sh (d : Nat) : V → V
  | .tup l => .tup (l.map (V.shA d))
  | v => V.shA d v
def Obj.sh (d : Nat) (o : Obj) : Obj := ⟨o.sz, o.el.map (V.shA d), o.ver, o.live⟩
def shO (d : Nat) (oh : OH) : OH := oh.map fun p => (p.1 + d, p.2.sh d)
inductive freshO (oh on : OH) (K : Nat → Prop) : Prop
  | mk (d : Nat) (h : ∀ i, i ∈ (shO d on).map (·.1) → oget oh i = none) (hk : K d)
def ObjK (C : CT) (q : FuncId) (ts : List T) (oh : OH) (k : Acc → Prop) : Prop := ∃ oh' v, C q ts (.objs oh' v) ∧ freshO oh oh' fun d => k ⟨[], (shO d oh').map (·.1), shO d oh', v.sh d⟩
def V.fr1 : V → Bool
  | .ro f _ => f
  | _ => true
def V.frA : V → Bool
  | .agg l => l.all V.fr1
  | v => V.fr1 v
def V.frT : V → Bool
  | .tup l => l.all V.frA
  | v => V.frA v
def LendK (C : CT) (q : FuncId) (args : List V) (oh : OH) (k : Acc → Prop) : Prop :=
  ∃ (ts : List T) (on : OH) (v : V) (pre : OH), C q ts (.objs on v) ∧ (∀ p ∈ pre, oget oh p.1 = some p.2) ∧ FzL pre args ts ∧ v.frT = true ∧ (∀ p ∈ on, ∀ e ∈ p.2.el, e.frA = true) ∧
    freshO oh on fun d => k ⟨pre, (shO d on).map (·.1), shO d on, v.sh d⟩
def step (P : Program) (C : CT) (o : Oper) (e : Operand → V) (oh : OH) (k : Acc → Prop) : Prop :=
  match o.op with
  | .move x | .assign x => free k (e x)
  | .pick c a b => (match e c with | .con (.bool t) => (match t with | true => free k (e a) | false => free k (e b)) | _ => False)
  | .binOp op t x y _ => sbin (tk P t) op (e x) (e y) fun v => free k (.con v)
  | .unOp op _ x => sun op (e x) fun v => free k (.con v)
  | .convert s d x => sconv (tk P s) (tk P d) (e x) fun v => free k (.con v)
  | .indexAddr t x i => sindex (tk P t) oh (e x) (e i) k
  | .load t x => sload (tk P t) oh (e x) k
  | .store t x v => sstore (tk P t) oh (e x) (e v) k
  | .fieldAddr t x f => sfield (tk P t) oh (e x) f k
  | .box _ x => sbox oh (e x) k
  | .alloc t => sbox oh (tz P t) k
  | .build t ps => sbuild (tk P t) (ps.toList.map fun p => (p.1, e p.2)) k
  | .index t x i => sidx (tk P) (tk P t) (e x) (e i) k
  | .nilCheck x => snil oh (e x) k
  | .extract x i => sextract (e x) i k
  | .buildSlice t len ps => sbuildSlice (tk P t) oh len (ps.toList.map fun p => (p.1, e p.2)) k
  | .slice t x lo hi mx => sslice (tk P t) oh (e x) (lo.map e) (hi.map e) (mx.map e) k
  | .makeSlice t l c => smake (tk P t) oh (e l) (e c) k
  | .makeMap t r => smkMap (tk P t) oh (r.map e) k
  | .lookup t x i ok => slookup (tk P t) oh (e x) (e i) ok k
  | .mapUpdate t x i v => smapUp (tk P t) oh (e x) (e i) (e v) k
  | .call c =>
    (match c.callee with
     | .builtin .len => (match c.args.toList, c.argTypes.toList with | [x], [t] => slen (tk P t) oh (e x) k | _, _ => False)
     | .builtin .min => (match c.args.toList, c.argTypes.toList with | [x, y], [_, _] => smm true (e x) (e y) fun v => free k (.con v) | _, _ => False)
     | .builtin .max => (match c.args.toList, c.argTypes.toList with | [x, y], [_, _] => smm false (e x) (e y) fun v => free k (.con v) | _, _ => False)
     | .builtin .append => (match c.args.toList, c.argTypes.toList with | [x, y], [t, t'] => t = t' ∧ sappend (tk P t) oh (e x) (e y) k | _, _ => False)
     | .value f =>
       (match V.fn? (e f) with
        | some q =>
          (match toTA (c.args.toList.map e) with
           | some ts => (∃ fr r, C q ts (.data fr r) ∧ free k (V.ofT fr r)) ∨ ObjK C q ts oh k
           | none => (∃ ts fr r, C q ts (.data fr r) ∧ ∃ pre : OH, (∀ p ∈ pre, oget oh p.1 = some p.2) ∧ FzL pre (c.args.toList.map e) ts ∧ (fr || r.plain) = true ∧ k ⟨pre, [], [], V.ofT fr r⟩) ∨ MutK C q (c.args.toList.map e) oh k ∨ GenK C q (c.args.toList.map e) oh k ∨ LendK C q (c.args.toList.map e) oh k)
        | none => False)
     | _ => False)
  | _ => False
def St.app (s : St) (o : Oper) (v : V) (post : OH) : St :=
  { s with env := (match o.dst with | some d => (d, v) :: s.env | none => s.env), oh := post ++ s.oh }
def isGuardL : List Oper → Nat → Bool
  | [], _ => false
  | o :: r, i => (match o.guard with | some (j, _) => if j = i then true else isGuardL r i | none => isGuardL r i)
def litBool (v : V) (K : V → Prop) : Prop :=
  match v with
  | .con (.bool b) => (b = true → K (.con (.bool true))) ∧ (b = false → K (.con (.bool false)))
  | v => K v
def guardVal (ops : Array Oper) (e : Env) (j : Nat) : V := match (ops[j]?).bind (·.dst) with | some d => eget e d | none => .undef
def nilTest (o : Oper) : Option (TypeId × Operand × Bool) :=
  match o.op with
  | .binOp .eql t x (.const (.slice none 0 0)) _ => some (t, x, true)
  | .binOp .neq t x (.const (.slice none 0 0)) _ => some (t, x, false)
  | _ => none
def nilB (d : TK) (v : V) (K : Bool → Prop) : Prop :=
  match d, v with
  | .sl .., .ro _ (.sl l) => ∀ b, (b = true → l = []) → K b
  | .sl .., .emp => ∀ b, K b
  | _, _ => False
def evOps (P : Program) (C : CT) (ops : Array Oper) : Nat → List Oper → St → (St → Prop) → Prop
  | _, [], s, K => K s
  | i, o :: r, s, K =>
    (match o.guard with
     | none =>
      (match nilTest o with
       | some (t, x, w) => nilB (tk P t) (opd s.env x) fun b => evOps P C ops (i + 1) r (s.app o (.con (.bool (b == w))) []) K
       | none => step P C o (opd s.env) s.oh fun a =>
       (match isGuardL r i with
        | true => litBool a.v fun v => evOps P C ops (i + 1) r (s.app o v a.post) K
        | false => evOps P C ops (i + 1) r (s.app o a.v a.post) K))
     | some (j, want) =>
       (match guardVal ops s.env j with
        | .con (.bool b) => (match b == want with | true => step P C o (opd s.env) s.oh fun a => (match isGuardL r i with | true => litBool a.v fun v => evOps P C ops (i + 1) r (s.app o v a.post) K | false => evOps P C ops (i + 1) r (s.app o a.v a.post) K) | false => evOps P C ops (i + 1) r (s.app o (.tup []) []) K)
        | .tup [] => evOps P C ops (i + 1) r (s.app o (.tup []) []) K
        | _ => False))
def evD (P : Program) (C : CT) (ops : Array Oper) : Nat → List Oper → St → List (Option Acc) → (List (Option Acc) → St → Prop) → Prop
  | _, [], s, tr, K => K tr s
  | i, o :: r, s, tr, K =>
    (match o.guard with
     | none => step P C o (opd s.env) s.oh fun a =>
       (match isGuardL r i with
        | true => litBool a.v fun v => evD P C ops (i + 1) r (s.app o v a.post) (some { a with v := v } :: tr) K
        | false => evD P C ops (i + 1) r (s.app o a.v a.post) (some a :: tr) K)
     | some (j, want) =>
       (match guardVal ops s.env j with
        | .con (.bool b) => (match b == want with | true => step P C o (opd s.env) s.oh fun a => (match isGuardL r i with | true => litBool a.v fun v => evD P C ops (i + 1) r (s.app o v a.post) (some { a with v := v } :: tr) K | false => evD P C ops (i + 1) r (s.app o a.v a.post) (some a :: tr) K) | false => evD P C ops (i + 1) r (s.app o (.tup []) []) (none :: tr) K)
        | .tup [] => evD P C ops (i + 1) r (s.app o (.tup []) []) (none :: tr) K
        | _ => False))
def edge (ops : Array Oper) (i j : Nat) : Bool :=
  match ops[j]? with
  | some o => o.after.toList.any fun e => Nat.beq e.on i && Region.binds .any e
  | none => false
def edge2 (ops : Array Oper) (i j : Nat) : Bool :=
  match ops[j]? with
  | some o => o.after.toList.any fun e => Region.binds .any e && edge ops i e.on
  | none => false
def Acc.wr (a : Acc) : List Nat := a.nw ++ a.post.map (·.1)
def Acc.all (a : Acc) : List Nat := a.pre.map (·.1) ++ a.wr
def disj (l m : List Nat) : Bool := l.all fun i => m.all fun j => !decide (i = j)
def indep : Option Acc → Option Acc → Bool
  | some a, some b => disj a.wr b.all && disj b.wr a.all
  | _, _ => true
def commOne (ops : Array Oper) (j : Nat) (x : Option Acc) : List (Option Acc) → Bool
  | [] => true
  | y :: r => ((edge ops r.length j || indep y x) || edge2 ops r.length j) && commOne ops j x r
def commR (ops : Array Oper) : List (Option Acc) → Bool
  | [] => true
  | x :: r => commOne ops r.length x r && commR ops r
inductive X where
  | normal | ret | exit (id : Nat)
def X.seq (next : St → Prop) (Q : X → St → Prop) : X → St → Prop
  | .normal, s => next s
  | x, s => Q x s
def X.block (id : Nat) (Q : X → St → Prop) : X → St → Prop
  | .exit j, s => if j = id then Q .normal s else Q (.exit j) s
  | x, s => Q x s
def V.cl1 (oh : OH) : V → Prop
  | .own id .. | .ref id .. => (oget oh id).isSome = true
  | .con _ | .ro .. | .emp => True
  | _ => False
def V.cl (oh : OH) : V → Prop
  | .agg l => ∀ v ∈ l, v.cl1 oh
  | .undef => True
  | v => v.cl1 oh
def leEnv (oh : OH) (e : Env) : Env → Prop
  | [] => True
  | (t, v) :: r => eget e t = v ∧ v.cl oh ∧ leEnv oh e r
def clObjs (oh : OH) : OH → Prop
  | [] => True
  | (_, o) :: r => (∀ v ∈ o.el, v.cl oh) ∧ clObjs oh r
def leOH (oh : OH) : OH → Prop
  | [] => True
  | (i, o) :: r => oget oh i = some o ∧ leOH oh r
def Le (s1 s : St) : Prop := s1.n = s.n ∧ leEnv s1.oh s.env s1.env ∧ leOH s.oh s1.oh ∧ clObjs s1.oh s1.oh
def adopt (s : St) : List (Nat × Nat × Nat) → St
  | [] => s
  | (t, c, sz) :: r => adopt { s with env := (t, .own c 0 0 0) :: s.env, oh := (c, ⟨sz, [], 0, true⟩) :: s.oh } r
def adoptOK (s : St) : List (Nat × Nat × Nat) → Prop
  | [] => True
  | (t, c, sz) :: r => eget s.env t = .emp ∧ oget s.oh c = none ∧ adoptOK { s with env := (t, .own c 0 0 0) :: s.env, oh := (c, ⟨sz, [], 0, true⟩) :: s.oh } r
inductive Fd1 (oh oh1 : OH) (f : Bool) : V → T → Prop
  | con (v : Value) : Fd1 oh oh1 f (.con v) (.con v)
  | ro (f' : Bool) (t : T) (h : f = true → f' = true) : Fd1 oh oh1 f (.ro f' t) t
  | emp : Fd1 oh oh1 f .emp (.sl [])
  | own (id ver off len : Nat) (o : Obj) (ts : List T) (ho : oget oh id = some o) (hd : oget oh1 id = none) (hv : o.ver = ver) (hl : o.live = true) (hn : ts.length = len)
      (hs : ∀ (i : Nat) (e : V) (t : T), i < len → o.el[off + i]? = some e → ts[i]? = some t → t.cells.length = e.cells.length)
      (hc : ∀ (i : Nat) (e : V) (t : T) (j : Nat) (v : V) (u : T), i < len → o.el[off + i]? = some e → ts[i]? = some t → e.cells[j]? = some v → t.cells[j]? = some u → Fd1 oh oh1 f v u) :
      Fd1 oh oh1 f (.own id ver off len) (.sl ts)
inductive Lc (oh oh1 : OH) : V → V → Prop
  | same (v : V) (h : v.cl1 oh1) : Lc oh oh1 v v
  | frz (f : Bool) (v : V) (t : T) (h : Fd1 oh oh1 f v t) : Lc oh oh1 v (V.ofT1 f t)
  | adopt (c : Nat) (o : Obj) (h0 : oget oh c = none) (h1 : oget oh1 c = some o) : Lc oh oh1 .emp (.own c 0 0 0)
def LV (oh oh1 : OH) (v v1 : V) : Prop :=
  match v1 with
  | .agg l1 => (match v with | .agg l => l.length = l1.length ∧ ∀ (j : Nat) (a b : V), l[j]? = some a → l1[j]? = some b → Lc oh oh1 a b | _ => False)
  | v1 => Lc oh oh1 v v1
structure Lf (s1 s : St) : Prop where
  n : s1.n = s.n
  oh : ∀ (i : Nat) (o1 : Obj), oget s1.oh i = some o1 →
    (∃ o, oget s.oh i = some o ∧ o1.sz = o.sz ∧ o1.ver = o.ver ∧ o1.live = o.live ∧ o1.el.length = o.el.length ∧ ∀ (k : Nat) (e e1 : V), o.el[k]? = some e → o1.el[k]? = some e1 → LV s.oh s1.oh e e1) ∨
    (oget s.oh i = none ∧ o1.el = [] ∧ o1.ver = 0 ∧ o1.live = true)
  env : ∀ t, eget s1.env t = .undef ∨ LV s.oh s1.oh (eget s.env t) (eget s1.env t)
inductive RenC (m : Nat → Nat) (oh oh1 : OH) : V → V → Prop
  | con (v : Value) : RenC m oh oh1 (.con v) (.con v)
  | ro (f : Bool) (t : T) : RenC m oh oh1 (.ro f t) (.ro f t)
  | emp : RenC m oh oh1 .emp .emp
  | own (id ver off len : Nat) (o : Obj) (ho : oget oh (m id) = some o) (hv : o.ver = ver) (h1 : (oget oh1 id).isSome = true) : RenC m oh oh1 (.own (m id) ver off len) (.own id 0 off len)
  | ref (id ver i foff : Nat) (o : Obj) (ho : oget oh (m id) = some o) (hv : o.ver = ver) (h1 : (oget oh1 id).isSome = true) : RenC m oh oh1 (.ref (m id) ver i foff) (.ref id 0 i foff)
def RenA (m : Nat → Nat) (oh oh1 : OH) (v v1 : V) : Prop :=
  match v1 with
  | .agg l1 => (match v with | .agg l => l.length = l1.length ∧ ∀ (j : Nat) (a b : V), l[j]? = some a → l1[j]? = some b → RenC m oh oh1 a b | _ => False)
  | v1 => RenC m oh oh1 v v1
structure Ren (oh oh1 : OH) (m : Nat → Nat) : Prop where
  inj : ∀ i j o1 o2, oget oh1 i = some o1 → oget oh1 j = some o2 → m i = m j → i = j
  obj : ∀ i o1, oget oh1 i = some o1 → ∃ o, oget oh (m i) = some o ∧ o.live = true ∧ o1.live = true ∧ o1.ver = 0 ∧ o1.sz = o.sz ∧ o1.el.length = o.el.length ∧
    ∀ (k : Nat) (e e1 : V), o.el[k]? = some e → o1.el[k]? = some e1 → RenA m oh oh1 e e1
structure Lr (s1 s : St) : Prop where
  n : s1.n = s.n
  ren : ∃ m, Ren s.oh s1.oh m ∧ ∀ t, eget s1.env t = .undef ∨ RenA m s.oh s1.oh (eget s.env t) (eget s1.env t)
inductive Md where
  | le | lf | lr
def LeB (fz : Md) (s1 s : St) : Prop :=
  match fz with
  | .le => Le s1 s
  | .lf => Lf s1 s
  | .lr => Lr s1 s
def Loop (body : St → (X → St → Prop) → Prop) (s : St) (Q : X → St → Prop) : Prop :=
  ∃ (f0 fz : Md) (σ : Type) (enc : σ → St) (I : σ → Prop) (μ : σ → Nat) (ads : List (Nat × Nat × Nat)) (z0 : σ), adoptOK s ads ∧ I z0 ∧ LeB f0 (enc z0) (adopt s ads) ∧
    ∀ z, I z → body (enc z) (X.seq (fun s' => ∃ z', I z' ∧ μ z' < μ z ∧ LeB fz (enc z') s') Q)
def evC (P : Program) (C : CT) : Code → St → (X → St → Prop) → Prop
  | .skip, s, Q => Q .normal s
  | .seq a b, s, Q => evC P C a s (X.seq (fun s' => evC P C b s' Q) Q) ∨ evC P C a s (X.seq (fun s' => ∃ fz s2, LeB fz s2 s' ∧ evC P C b s2 Q) Q)
  | .cond c a b, s, Q => (match opd s.env c with | .con (.bool t) => (t = true → evC P C a s Q) ∧ (t = false → evC P C b s Q) | _ => False)
  | .block id c, s, Q => evC P C c s (X.block id Q)
  | .loop c, s, Q => Loop (fun s Q => evC P C c s Q) s Q
  | .exit id, s, Q => Q (.exit id) s
  | .ret, s, Q => Q .ret s
  | .region _ ops false, s, Q => evOps P C ops 0 ops.toList s (Q .normal)
  | .region _ ops true, s, Q => evD P C ops 0 ops.toList s [] fun tr s' => commR ops tr = true ∧ Q .normal s'
  | _, _, _ => False
def dstB (n : Nat) (ops : List Oper) : Bool := ops.all fun o => match o.dst with | some d => Nat.blt d n | none => true
def apartB (ops : Array Oper) : Bool :=
  (List.range ops.size).all fun j => (List.range j).all fun i => edge ops i j || (match ops[i]?, ops[j]? with | some x, some y => x.apart ops y | _, _ => false)
def backB (ops : Array Oper) : Bool :=
  (List.range ops.size).all fun j => match ops[j]? with | some o => o.after.toList.all (fun e => !Region.binds .any e || Nat.blt e.on j) | none => false
def okB (n : Nat) : Code → Bool
  | .seq a b => okB n a && okB n b
  | .cond _ a b => okB n a && okB n b
  | .block _ c => okB n c
  | .loop c => okB n c
  | .region _ ops d => dstB n ops.toList && (!d || (apartB ops && backB ops))
  | _ => true
def parD (np : Nat) (ops : List Oper) : Bool := ops.all fun o => match o.dst with | some d => Nat.ble np d | none => true
def parB (np : Nat) : Code → Bool
  | .seq a b => parB np a && parB np b
  | .cond _ a b => parB np a && parB np b
  | .block _ c => parB np c
  | .loop c => parB np c
  | .region _ ops _ => parD np ops.toList
  | _ => true
theorem parD_zero (ops : List Oper) : parD 0 ops = true := by
  unfold parD
  rw [List.all_eq_true]
  intro o _
  split
  · exact Nat.ble_eq_true_of_le (Nat.zero_le _)
  · rfl
theorem parB_zero : ∀ c : Code, parB 0 c = true
  | .seq a b => by simp [parB, parB_zero a, parB_zero b]
  | .cond _ a b => by simp [parB, parB_zero a, parB_zero b]
  | .block _ c => by simp [parB, parB_zero c]
  | .loop c => by simp [parB, parB_zero c]
  | .region _ ops _ => by simp [parB, parD_zero]
  | .skip => rfl
  | .ret => rfl
  | .exit _ => rfl
  | .goto _ => rfl
  | .rangeFunc _ _ _ _ => rfl
  | .scope _ => rfl
  | .label _ => rfl
  | .refuse _ => rfl
def resV (P : Program) (s : St) : ResultVar → (V → Prop) → Prop
  | .tmp t, K => K (eget s.env t)
  | .cell a t, K => sload (tk P t) s.oh (eget s.env a) fun x => K x.v
def RetOK (P : Program) (fn : Func) (f : Bool) (r : T) (x : X) (s : St) : Prop :=
  (match x with | .exit _ => False | _ => True) ∧
  (match fn.results.toList with
   | [] => r = .tup []
   | [a] => resV P s a fun v => FzA s.oh f v r
   | [a, b] => resV P s a fun v => resV P s b fun u => ∃ t1 t2, r = .tup [t1, t2] ∧ FzA s.oh f v t1 ∧ FzA s.oh f u t2
   | [a, b, c] => resV P s a fun v => resV P s b fun u => resV P s c fun y => ∃ t1 t2 t3, r = .tup [t1, t2, t3] ∧ FzA s.oh f v t1 ∧ FzA s.oh f u t2 ∧ FzA s.oh f y t3
   | _ => False)
def argEnv : Nat → List T → Env
  | _, [] => []
  | i, t :: r => (i, V.ofT false t) :: argEnv (i + 1) r
end Go.Ev

set_option linter.all false
namespace Go.Ev
abbrev Sto := Nat → Nat → Option Value
inductive RdT (S : Sto) : T → Value → Prop
  | con (v : Value) (h : v.oneCell' = true) : RdT S (.con v) v
  | sl (l : List T) (a : Option Addr) (cap esz b off : Nat) (c : Nat → Nat → Value)
      (hc : l.length ≤ cap) (hm : cap ≤ maxLen) (ha : l ≠ [] → a = some ⟨b, off, none⟩)
      (hz : ∀ (i : Nat) (t : T), l[i]? = some t → t.cells.length = esz)
      (hs : ∀ (i : Nat) (t : T) (j : Nat), l[i]? = some t → j < t.cells.length → S b (off + i * esz + j) = some (c i j))
      (h1 : ∀ (i : Nat) (t : T) (j : Nat), l[i]? = some t → j < t.cells.length → (c i j).oneCell' = true)
      (hr : ∀ (i : Nat) (t : T) (j : Nat) (u : T), l[i]? = some t → t.cells[j]? = some u → RdT S u (c i j)) : RdT S (.sl l) (.slice a l.length cap)
  | ptr (l : List T) (b off : Nat) (c : Nat → Value)
      (hs : ∀ j, j < l.length → S b (off + j) = some (c j)) (h1 : ∀ j, j < l.length → (c j).oneCell' = true)
      (hr : ∀ (j : Nat) (u : T), l[j]? = some u → RdT S u (c j)) : RdT S (.ptr l) (.pointer (some ⟨b, off, none⟩))
  | agg (l : List T) (cs : Array Value) (hl : cs.size = l.length)
      (h1 : ∀ (j : Nat) (c : Value), cs[j]? = some c → c.oneCell' = true)
      (hr : ∀ (j : Nat) (u : T) (c : Value), l[j]? = some u → cs[j]? = some c → RdT S u c) : RdT S (.agg l) (.agg cs)
  | tup (l : List T) (vs : Array Value) (hl : vs.size = l.length) (h1 : ∀ (j : Nat) (us : Array Value), vs[j]? ≠ some (.tuple us))
      (hr : ∀ (j : Nat) (u : T) (c : Value), l[j]? = some u → vs[j]? = some c → RdT S u c) : RdT S (.tup l) (.tuple vs)
theorem RdT.mono {S S' : Sto} (hS : ∀ b o c, S b o = some c → S' b o = some c) {t : T} {v : Value} (h : RdT S t v) : RdT S' t v := by
  induction h with
  | con v h => exact .con v h
  | sl l a cap esz b off c hc hm ha hz hs h1 hr ih =>
    exact .sl l a cap esz b off c hc hm ha hz (fun i t j hi hj => hS _ _ _ (hs i t j hi hj)) h1 ih
  | ptr l b off c hs h1 hr ih => exact .ptr l b off c (fun j hj => hS _ _ _ (hs j hj)) h1 ih
  | agg l cs hl h1 hr ih => exact .agg l cs hl h1 ih
  | tup l vs hl h1 hr ih => exact .tup l vs hl h1 ih
structure Gh where
  G : Sto
  F : Sto
  m : Nat → Option Nat
  cp : Nat → Nat
def Gh.sto (g : Gh) : Bool → Sto
  | true => g.F
  | false => g.G
def OwnAt (g : Gh) (o : Obj) (id off len : Nat) (x : Value) : Prop :=
  ∃ a cap, x = .slice a len cap ∧ len ≤ cap ∧ off + len ≤ o.el.length ∧ (cap ≠ 0 → ∃ b, g.m id = some b ∧ a = some ⟨b, off * o.sz, none⟩ ∧ off + cap ≤ g.cp id)
def isMp (o : Obj) : Prop := o.live = false ∧ o.sz = 0
def RefX (g : Gh) (oh : OH) (id : Nat) (x : Value) : Prop := x.oneCell' = true ∧ ∀ o, oget oh id = some o → isMp o → ∃ b, g.m id = some b ∧ x = .map (some b)
def RdV1 (g : Gh) (oh : OH) : V → Value → Prop
  | .undef, _ => True
  | .con v, x => x = v ∧ v.oneCell' = true
  | .ro f t, x => RdT (g.sto f) t x ∧ x.oneCell' = true
  | .emp, x => ∃ a, x = .slice a 0 0
  | .own id ver off len, x => x.oneCell' = true ∧ ∃ o, oget oh id = some o ∧ ver ≤ o.ver ∧ (o.ver = ver → o.live = true → OwnAt g o id off len x)
  | .ref id ver i foff, x => RefX g oh id x ∧ ∃ o, oget oh id = some o ∧ ver ≤ o.ver ∧ (o.ver = ver → o.live = true → ∃ b, g.m id = some b ∧ x = .pointer (some ⟨b, i * o.sz + foff, none⟩))
  | _, _ => False
def RdA (g : Gh) (oh : OH) : V → Value → Prop
  | .agg l, x => ∃ cs : Array Value, x = .agg cs ∧ cs.size = l.length ∧ ∀ (j : Nat) (v : V) (c : Value), l[j]? = some v → cs[j]? = some c → RdV1 g oh v c ∧ c.oneCell' = true
  | v, x => RdV1 g oh v x
def RdV (g : Gh) (oh : OH) : V → Value → Prop
  | .tup l, x => ∃ vs : Array Value, x = .tuple vs ∧ vs.size = l.length ∧ ∀ (j : Nat) (v : V) (c : Value), l[j]? = some v → vs[j]? = some c → RdA g oh v c
  | v, x => RdA g oh v x
def ElAt (g : Gh) (oh : OH) (sz : Nat) (arr : Array Value) (k : Nat) (e : V) : Prop :=
  e.cells.length = sz ∧ ∀ j v, e.cells[j]? = some v → ∃ c, arr[k * sz + j]? = some c ∧ c.oneCell' = true ∧ RdV1 g oh v c
def BlockAt (g : Gh) (oh : OH) (o : Obj) (n : Nat) (arr : Array Value) : Prop :=
  arr.size = n * o.sz ∧ o.el.length ≤ n ∧ n ≤ maxLen ∧ ∀ k e, o.el[k]? = some e → ElAt g oh o.sz arr k e
def ObjRel (g : Gh) (oh : OH) (w : World) (i : Nat) (o : Obj) : Prop :=
  (g.m i = none → o.el = []) ∧ ∀ b, g.m i = some b → ∃ arr ty, w.heap[b]? = some (.cells arr ty (0, 0)) ∧ (∀ off, g.G b off = none) ∧ BlockAt g oh o (g.cp i) arr
def MapAt (g : Gh) (w : World) (i : Nat) (o : Obj) : Prop := ∃ b es clock, g.m i = some b ∧ w.heap[b]? = some (.map es clock) ∧ es.size = o.el.length ∧ ∀ (j : Nat) (e : MapEntry) (v : V), es[j]? = some e → o.el[j]? = some v → v = .agg [.con e.key, .con e.val]
structure MpOK (g : Gh) (oh : OH) (w : World) : Prop where
  at_ : ∀ i o, oget oh i = some o → isMp o → MapAt g w i o
  inj : ∀ i j oi oj b, oget oh i = some oi → oget oh j = some oj → isMp oi → isMp oj → g.m i = some b → g.m j = some b → i = j
def MpB (g : Gh) (oh : OH) (b : Nat) : Prop := ∃ i o, oget oh i = some o ∧ isMp o ∧ g.m i = some b
theorem not_mp {o : Obj} (h : o.live = true) : ¬ isMp o := fun h2 => by rw [h2.1] at h; cases h
theorem MpOK.of {g : Gh} {oh : OH} {w w' : World} (h : MpOK g oh w) (e : ∀ b, MpB g oh b → w'.heap[b]? = w.heap[b]?) : MpOK g oh w' := by
  refine ⟨fun i o ho hm => ?_, h.inj⟩
  obtain ⟨b, es, clock, h1, h2, h3⟩ := h.at_ i o ho hm
  exact ⟨b, es, clock, h1, (e b ⟨i, o, ho, hm, h1⟩).trans h2, h3⟩
theorem MpOK.sub {g g1 : Gh} {oh oh1 : OH} {w : World} (h : MpOK g oh w) (hs : ∀ i o, oget oh1 i = some o → isMp o → oget oh i = some o ∧ g1.m i = g.m i) : MpOK g1 oh1 w := by
  refine ⟨fun i o ho hm => ?_, fun i j oi oj b hi hj mi mj => ?_⟩
  · obtain ⟨q1, q2⟩ := hs i o ho hm
    obtain ⟨b, es, clock, h1, h2, h3⟩ := h.at_ i o q1 hm
    exact ⟨b, es, clock, q2.trans h1, h2, h3⟩
  · obtain ⟨q1, q2⟩ := hs i oi hi mi
    obtain ⟨q3, q4⟩ := hs j oj hj mj
    rw [q2, q4]
    exact h.inj i j oi oj b q1 q3 mi mj
theorem MpB.sub {g g1 : Gh} {oh oh1 : OH} {b : Nat} (hs : ∀ i o, oget oh1 i = some o → isMp o → oget oh i = some o ∧ g1.m i = g.m i) (h : MpB g1 oh1 b) : MpB g oh b := by
  obtain ⟨i, o, ho, hm, e⟩ := h
  obtain ⟨q1, q2⟩ := hs i o ho hm
  exact ⟨i, o, q1, hm, q2.symm.trans e⟩
theorem MpOK.block {g : Gh} {oh : OH} {w : World} (h : MpOK g oh w) {b : Nat} (hb : MpB g oh b) : ∃ es clock, w.heap[b]? = some (.map es clock) := by
  obtain ⟨i, o, ho, hm, e⟩ := hb
  obtain ⟨b', es, clock, h1, h2, _⟩ := h.at_ i o ho hm
  rw [h1] at e
  obtain rfl : b' = b := by simpa using e
  exact ⟨es, clock, h2⟩
theorem MpOK.lt {g : Gh} {oh : OH} {w : World} (h : MpOK g oh w) {b : Nat} (hb : MpB g oh b) : b < w.heap.size := by
  obtain ⟨es, clock, h1⟩ := h.block hb
  exact (Array.getElem?_eq_some_iff.1 h1).1
theorem MpOK.none {g : Gh} {oh : OH} {w : World} (h : ∀ i o, oget oh i = some o → o.live = true) : MpOK g oh w :=
  ⟨fun i o ho hm => absurd hm (not_mp (h i o ho)), fun i j oi oj b hi hj mi mj => absurd mi (not_mp (h i oi hi))⟩
theorem MpB.none {g : Gh} {oh : OH} {b : Nat} (h : ∀ i o, oget oh i = some o → o.live = true) : ¬ MpB g oh b := fun ⟨i, o, ho, hm, _⟩ => not_mp (h i o ho) hm
theorem oget_nil_live : ∀ i o, oget [] i = some o → o.live = true := fun i o h => by cases h
structure HR (g : Gh) (oh : OH) (w : World) : Prop where
  hG : ∀ b o c, g.G b o = some c → w.cell? ⟨b, o, none⟩ = some c
  hF : ∀ b o c, g.F b o = some c → g.G b o = some c
  obj : ∀ i o, oget oh i = some o → o.live = true → ObjRel g oh w i o
  inj : ∀ i j oi oj b, oget oh i = some oi → oget oh j = some oj → oi.live = true → oj.live = true → g.m i = some b → g.m j = some b → i = j
  mp : MpOK g oh w
def Owned (g : Gh) (oh : OH) (b : Nat) : Prop := ∃ i o, oget oh i = some o ∧ o.live = true ∧ g.m i = some b
def Mono (g : Gh) (oh : OH) (g' : Gh) (oh' : OH) : Prop := ∀ v x, RdV1 g oh v x → RdV1 g' oh' v x
theorem Mono.refl (g : Gh) (oh : OH) : Mono g oh g oh := fun _ _ h => h
theorem Mono.trans {g g1 g2 : Gh} {oh oh1 oh2 : OH} (h : Mono g oh g1 oh1) (k : Mono g1 oh1 g2 oh2) : Mono g oh g2 oh2 := fun v x r => k v x (h v x r)
theorem Mono.rdA {g g' : Gh} {oh oh' : OH} (h : Mono g oh g' oh') {v : V} {x : Value} (r : RdA g oh v x) : RdA g' oh' v x := by
  cases v with
  | agg l => obtain ⟨cs, rfl, hl, hr⟩ := r; exact ⟨cs, rfl, hl, fun j v c h1 h2 => ⟨h _ _ (hr j v c h1 h2).1, (hr j v c h1 h2).2⟩⟩
  | _ => simp only [RdA] at r ⊢; exact h _ _ r
theorem Mono.rdV {g g' : Gh} {oh oh' : OH} (h : Mono g oh g' oh') {v : V} {x : Value} (r : RdV g oh v x) : RdV g' oh' v x := by
  cases v with
  | tup l => obtain ⟨cs, rfl, hl, hr⟩ := r; exact ⟨cs, rfl, hl, fun j v c h1 h2 => h.rdA (hr j v c h1 h2)⟩
  | _ => simp only [RdV] at r ⊢; exact h.rdA r
theorem ElAt.mono {g g' : Gh} {oh oh' : OH} (h : Mono g oh g' oh') {sz : Nat} {arr : Array Value} {k : Nat} {e : V} (r : ElAt g oh sz arr k e) : ElAt g' oh' sz arr k e :=
  ⟨r.1, fun j v hv => let ⟨c, h1, h2, h3⟩ := r.2 j v hv; ⟨c, h1, h2, h _ _ h3⟩⟩
theorem BlockAt.mono {g g' : Gh} {oh oh' : OH} (h : Mono g oh g' oh') {o : Obj} {n : Nat} {arr : Array Value} (r : BlockAt g oh o n arr) : BlockAt g' oh' o n arr :=
  ⟨r.1, r.2.1, r.2.2.1, fun k e he => (r.2.2.2 k e he).mono h⟩
structure Fr (g : Gh) (oh : OH) (w : World) (g' : Gh) (oh' : OH) (w' : World) : Prop where
  os : w'.os = w.os
  tape : w'.tape = w.tape
  output : w'.output = w.output
  size : w.heap.size ≤ w'.heap.size
  keep : ∀ b, b < w.heap.size → ¬ Owned g oh b → ¬ MpB g oh b → w'.heap[b]? = w.heap[b]?
  own : ∀ b, Owned g' oh' b → Owned g oh b ∨ w.heap.size ≤ b
  G : ∀ b o c, g.G b o = some c → g'.G b o = some c
  F : ∀ b o c, g.F b o = some c → g'.F b o = some c
  nG : ∀ b o c, g'.G b o = some c → g.G b o = some c ∨ Owned g oh b ∨ w.heap.size ≤ b
  nF : ∀ b o c, g'.F b o = some c → g.F b o = some c ∨ Owned g oh b ∨ w.heap.size ≤ b
  blk : ∀ (b : Nat) (arr : Array Value) (ty : TypeId) (fz : Nat × Nat), w.heap[b]? = some (.cells arr ty fz) → ∃ arr' : Array Value, w'.heap[b]? = some (.cells arr' ty fz) ∧ arr'.size = arr.size
  mown : ∀ b, MpB g' oh' b → MpB g oh b ∨ w.heap.size ≤ b
theorem Fr.refl (g : Gh) (oh : OH) (w : World) : Fr g oh w g oh w :=
  ⟨rfl, rfl, rfl, Nat.le_refl _, fun _ _ _ _ => rfl, fun _ h => .inl h, fun _ _ _ h => h, fun _ _ _ h => h, fun _ _ _ h => .inl h, fun _ _ _ h => .inl h, fun _ arr _ _ h => ⟨arr, h, rfl⟩, fun _ h => .inl h⟩
theorem Fr.trans {g g1 g2 : Gh} {oh oh1 oh2 : OH} {w w1 w2 : World} (h : Fr g oh w g1 oh1 w1) (k : Fr g1 oh1 w1 g2 oh2 w2) : Fr g oh w g2 oh2 w2 where
  os := k.os.trans h.os
  tape := k.tape.trans h.tape
  output := k.output.trans h.output
  size := Nat.le_trans h.size k.size
  keep b hb hn hn2 := by
    refine (k.keep b (Nat.lt_of_lt_of_le hb h.size) (fun ho => ?_) (fun ho => ?_)).trans (h.keep b hb hn hn2)
    · rcases h.own b ho with h' | h'
      · exact hn h'
      · omega
    · rcases h.mown b ho with h' | h'
      · exact hn2 h'
      · omega
  own b hb := by
    rcases k.own b hb with h' | h'
    · exact h.own b h'
    · have := h.size; exact .inr (by omega)
  G b o c hc := k.G b o c (h.G b o c hc)
  F b o c hc := k.F b o c (h.F b o c hc)
  nG b o c hc := by
    rcases k.nG b o c hc with h' | h' | h'
    · exact h.nG b o c h'
    · rcases h.own b h' with h'' | h''
      · exact .inr (.inl h'')
      · exact .inr (.inr h'')
    · have := h.size; exact .inr (.inr (by omega))
  nF b o c hc := by
    rcases k.nF b o c hc with h' | h' | h'
    · exact h.nF b o c h'
    · rcases h.own b h' with h'' | h''
      · exact .inr (.inl h'')
      · exact .inr (.inr h'')
    · have := h.size; exact .inr (.inr (by omega))
  blk b arr ty fz h0 := by
    obtain ⟨a1, e1, s1⟩ := h.blk b arr ty fz h0
    obtain ⟨a2, e2, s2⟩ := k.blk b a1 ty fz e1
    exact ⟨a2, e2, s2.trans s1⟩
  mown b hb := by
    rcases k.mown b hb with h' | h'
    · exact h.mown b h'
    · have := h.size; exact .inr (by omega)
theorem cell_of_heap {w w' : World} {b o : Nat} (h : w'.heap[b]? = w.heap[b]?) : w'.cell? ⟨b, o, none⟩ = w.cell? ⟨b, o, none⟩ := by simp [World.cell?, h]
theorem lt_of_cell {w : World} {b o : Nat} {c : Value} (h : w.cell? ⟨b, o, none⟩ = some c) : b < w.heap.size := World.block_lt_of_cell? w _ h
theorem lt_of_heap {w : World} {b : Nat} {o : Go.Obj} (h : w.heap[b]? = some o) : b < w.heap.size := (Array.getElem?_eq_some_iff.1 h).1
theorem HR.same {g : Gh} {oh : OH} {w w' : World} (h : HR g oh w) (e : w'.heap = w.heap) : HR g oh w' where
  hG b o c hc := by have := h.hG b o c hc; simpa [World.cell?, e] using this
  hF := h.hF
  obj i o ho hl := by
    obtain ⟨h1, h2⟩ := h.obj i o ho hl
    refine ⟨h1, fun b hb => ?_⟩
    rw [e]; exact h2 b hb
  inj := h.inj
  mp := h.mp.of fun b _ => by rw [e]
theorem Fr.drew {g g' : Gh} {oh oh' : OH} {w w' : World} (h : Fr g oh w.drew g' oh' w') : Fr g oh w g' oh' w' :=
  ⟨h.os, h.tape, h.output, h.size, h.keep, h.own, h.G, h.F, h.nG, h.nF, h.blk, h.mown⟩
theorem oget_cons_same (c : Nat) (o : Obj) (oh : OH) : oget ((c, o) :: oh) c = some o := by simp [oget]
theorem oget_cons_other {c i : Nat} (o : Obj) (oh : OH) (h : i ≠ c) : oget ((c, o) :: oh) i = oget oh i := by
  have e : ¬ c = i := fun e => h e.symm
  simp [oget, e]
def Gh.at (g : Gh) (c b n : Nat) : Gh := { g with m := fun i => if i = c then some b else g.m i, cp := fun i => if i = c then n else g.cp i }
section
variable {g : Gh} {oh : OH} {w : World}
theorem refx {g : Gh} {oh : OH} {id : Nat} {x : Value} {o : Obj} (h : x.oneCell' = true) (ho : oget oh id = some o) (hl : o.live = true) : RefX g oh id x :=
  ⟨h, fun q hq hm => by
    rw [ho] at hq
    obtain rfl : o = q := by simpa using hq
    exact absurd hm (not_mp hl)⟩
theorem RdV1.lift {oh' : OH} {g' : Gh} (hF : ∀ b o c, g.F b o = some c → g'.F b o = some c) (hG : ∀ b o c, g.G b o = some c → g'.G b o = some c)
    (hown : ∀ id o, oget oh id = some o → ∃ o', oget oh' id = some o' ∧ o.ver ≤ o'.ver ∧ (isMp o' → isMp o ∧ g'.m id = g.m id) ∧ (o'.ver = o.ver → o'.live = true → o.live = true ∧ o'.sz = o.sz ∧ o.el.length ≤ o'.el.length ∧ g'.m id = g.m id ∧ g'.cp id = g.cp id)) :
    Mono g oh g' oh' := by
  intro v x h
  cases v with
  | undef => trivial
  | con v => exact h
  | ro f t =>
    refine ⟨h.1.mono ?_, h.2⟩
    cases f
    · exact hG
    · exact hF
  | emp => exact h
  | own id ver off len =>
    obtain ⟨h1, o, ho, hv, hc⟩ := h
    obtain ⟨o', ho', hle, _, hcc⟩ := hown id o ho
    refine ⟨h1, o', ho', Nat.le_trans hv hle, fun e hl => ?_⟩
    have hvv : o.ver = ver := Nat.le_antisymm (by omega) hv
    obtain ⟨l1, l2, l3, l4, l5⟩ := hcc (by omega) hl
    obtain ⟨a, cap, hx, hlc, hoff, hb⟩ := hc hvv l1
    exact ⟨a, cap, hx, hlc, by omega, by rw [l2, l4, l5]; exact hb⟩
  | ref id ver i foff =>
    obtain ⟨h1, o, ho, hv, hc⟩ := h
    obtain ⟨o', ho', hle, hmm, hcc⟩ := hown id o ho
    refine ⟨⟨h1.1, fun q hq hmp => ?_⟩, o', ho', Nat.le_trans hv hle, fun e hl => ?_⟩
    · rw [ho'] at hq
      obtain rfl : o' = q := by simpa using hq
      obtain ⟨m1, m2⟩ := hmm hmp
      obtain ⟨b, b1, b2⟩ := h1.2 o ho m1
      exact ⟨b, m2.trans b1, b2⟩
    have hvv : o.ver = ver := Nat.le_antisymm (by omega) hv
    obtain ⟨l1, l2, l3, l4, l5⟩ := hcc (by omega) hl
    obtain ⟨b, hb, hx⟩ := hc hvv l1
    exact ⟨b, by rw [l4]; exact hb, by rw [l2]; exact hx⟩
  | agg l => exact h.elim
  | tup l => exact h.elim
theorem HR.place (h : HR g oh w) (c n : Nat) (ob : Obj) (arr : Array Value) (ty : TypeId) (hlv : ob.live = true) (hv : ∀ o, oget oh c = some o → o.ver < ob.ver)
    (hb : BlockAt g oh ob n arr) :
    HR (g.at c w.heap.size n) ((c, ob) :: oh) (w.alloc (.cells arr ty)) ∧ Mono g oh (g.at c w.heap.size n) ((c, ob) :: oh) ∧
    Fr g oh w (g.at c w.heap.size n) ((c, ob) :: oh) (w.alloc (.cells arr ty)) := by
  have hm : Mono g oh (g.at c w.heap.size n) ((c, ob) :: oh) := by
    refine RdV1.lift (fun _ _ _ h => h) (fun _ _ _ h => h) fun id o ho => ?_
    by_cases e : id = c
    · subst e
      exact ⟨ob, oget_cons_same _ _ _, by have := hv o ho; omega, fun h => absurd h (not_mp hlv), fun e' => by have := hv o ho; omega⟩
    · exact ⟨o, (oget_cons_other _ _ e).trans ho, Nat.le_refl _, fun h => ⟨h, by simp [Gh.at, e]⟩, fun _ hl => ⟨hl, rfl, Nat.le_refl _, by simp [Gh.at, e], by simp [Gh.at, e]⟩⟩
  have hGlt : ∀ b o c, g.G b o = some c → b < w.heap.size := fun b o c hc => lt_of_cell (h.hG b o c hc)
  have hown : ∀ b, Owned g oh b → b < w.heap.size := by
    rintro b ⟨i, o, ho, hol, hmi⟩
    obtain ⟨arr', ty', hh, _⟩ := (h.obj i o ho hol).2 b hmi
    exact lt_of_heap hh
  have hms : ∀ i o, oget ((c, ob) :: oh) i = some o → isMp o → oget oh i = some o ∧ (g.at c w.heap.size n).m i = g.m i := by
    intro i o ho hmp
    by_cases e : i = c
    · subst e
      rw [oget_cons_same] at ho
      obtain rfl : ob = o := by simpa using ho
      exact absurd hmp (not_mp hlv)
    · exact ⟨by rwa [oget_cons_other _ _ e] at ho, by simp [Gh.at, e]⟩
  refine ⟨⟨?_, h.hF, ?_, ?_, (h.mp.sub hms).of fun b hb => heap_alloc_old w _ b (h.mp.lt (hb.sub hms))⟩, hm, ⟨rfl, rfl, rfl, by show _ ≤ (w.heap.push _).size; simp, ?_, ?_, fun _ _ _ h => h, fun _ _ _ h => h, fun _ _ _ h => .inl h, fun _ _ _ h => .inl h, fun b arr ty fz h => ⟨arr, (heap_alloc_old w _ b (lt_of_heap h)).trans h, rfl⟩, fun b hb => .inl (hb.sub hms)⟩⟩
  · intro b o c' hc
    have := h.hG b o c' hc
    rw [cell_of_heap (heap_alloc_old w _ b (hGlt _ _ _ hc))]; exact this
  · intro i o ho hol
    by_cases e : i = c
    · subst e
      rw [oget_cons_same] at ho
      obtain rfl : ob = o := by simpa using ho
      refine ⟨by simp [Gh.at], fun b hbm => ?_⟩
      obtain rfl : w.heap.size = b := by simpa [Gh.at] using hbm
      refine ⟨arr, ty, heap_alloc_new w _, fun off => ?_, by simpa [Gh.at] using hb.mono hm⟩
      cases hg : (g.at i w.heap.size n).G w.heap.size off with
      | none => rfl
      | some c' => have := hGlt _ _ _ hg; omega
    · rw [oget_cons_other _ _ e] at ho
      obtain ⟨h1, h2⟩ := h.obj i o ho hol
      have em : (g.at c w.heap.size n).m i = g.m i := by simp [Gh.at, e]
      have ec : (g.at c w.heap.size n).cp i = g.cp i := by simp [Gh.at, e]
      rw [ObjRel, em, ec]
      refine ⟨h1, fun b hbm => ?_⟩
      obtain ⟨arr', ty', hh, hg, hbl⟩ := h2 b hbm
      exact ⟨arr', ty', by rw [heap_alloc_old w _ b (lt_of_heap hh)]; exact hh, hg, hbl.mono hm⟩
  · intro i j oi oj b hi hj hli hlj hmi hmj
    by_cases ei : i = c <;> by_cases ej : j = c
    · omega
    · rw [oget_cons_other _ _ ej] at hj
      have e1 : w.heap.size = b := by simpa [Gh.at, ei] using hmi
      have e2 : g.m j = some b := by simpa [Gh.at, ej] using hmj
      have := hown b ⟨j, oj, hj, hlj, e2⟩; omega
    · rw [oget_cons_other _ _ ei] at hi
      have e1 : w.heap.size = b := by simpa [Gh.at, ej] using hmj
      have e2 : g.m i = some b := by simpa [Gh.at, ei] using hmi
      have := hown b ⟨i, oi, hi, hli, e2⟩; omega
    · rw [oget_cons_other _ _ ei] at hi
      rw [oget_cons_other _ _ ej] at hj
      exact h.inj i j oi oj b hi hj hli hlj (by simpa [Gh.at, ei] using hmi) (by simpa [Gh.at, ej] using hmj)
  · intro b hlt hn _
    exact heap_alloc_old w _ b hlt
  · rintro b ⟨i, o, ho, hol, hmi⟩
    by_cases e : i = c
    · right
      have : w.heap.size = b := by simpa [Gh.at, e] using hmi
      omega
    · left
      exact ⟨i, o, by rw [oget_cons_other _ _ e] at ho; exact ho, hol, by simpa [Gh.at, e] using hmi⟩
theorem HR.write (h : HR g oh w) (c b : Nat) (o ob : Obj) (arr cs : Array Value) (ty : TypeId) (ho : oget oh c = some o) (hol : o.live = true)
    (hmc : g.m c = some b) (hh : w.heap[b]? = some (.cells arr ty (0, 0))) (hlv : ob.live = true) (hsz : ob.sz = o.sz) (hver : o.ver ≤ ob.ver)
    (hlen : ob.ver = o.ver → o.el.length ≤ ob.el.length) (hb : BlockAt g oh ob (g.cp c) cs) :
    HR g ((c, ob) :: oh) (w.setRow b cs) ∧ Mono g oh g ((c, ob) :: oh) ∧ Fr g oh w g ((c, ob) :: oh) (w.setRow b cs) := by
  have hm : Mono g oh g ((c, ob) :: oh) := by
    refine RdV1.lift (fun _ _ _ h => h) (fun _ _ _ h => h) fun id o' ho' => ?_
    by_cases e : id = c
    · subst e
      rw [ho] at ho'
      obtain rfl : o = o' := by simpa using ho'
      exact ⟨ob, oget_cons_same _ _ _, hver, fun h => absurd h (not_mp hlv), fun e' _ => ⟨hol, hsz, hlen e', rfl, rfl⟩⟩
    · exact ⟨o', (oget_cons_other _ _ e).trans ho', Nat.le_refl _, fun h => ⟨h, rfl⟩, fun _ hl => ⟨hl, rfl, Nat.le_refl _, rfl, rfl⟩⟩
  have hGb : ∀ off, g.G b off = none := by
    obtain ⟨arr', ty', _, hg, _⟩ := (h.obj c o ho hol).2 b hmc
    exact hg
  have hother : ∀ k, k ≠ b → (w.setRow b cs).heap[k]? = w.heap[k]? := fun k hk => setRow_other w b k cs hk
  have hms : ∀ i o, oget ((c, ob) :: oh) i = some o → isMp o → oget oh i = some o ∧ g.m i = g.m i := by
    intro i o ho hmp
    by_cases e : i = c
    · subst e
      rw [oget_cons_same] at ho
      obtain rfl : ob = o := by simpa using ho
      exact absurd hmp (not_mp hlv)
    · exact ⟨by rwa [oget_cons_other _ _ e] at ho, rfl⟩
  have hmb : ∀ k, MpB g ((c, ob) :: oh) k → k ≠ b := by
    intro k hk e
    obtain ⟨es, clock, hk2⟩ := h.mp.block (hk.sub hms)
    rw [e, hh] at hk2
    cases hk2
  refine ⟨⟨?_, h.hF, ?_, ?_, (h.mp.sub hms).of fun k hk => hother k (hmb k hk)⟩, hm, ⟨rfl, rfl, rfl, by simp [World.setRow], ?_, ?_, fun _ _ _ h => h, fun _ _ _ h => h, fun _ _ _ h => .inl h, fun _ _ _ h => .inl h, ?_, fun b hb => .inl (hb.sub hms)⟩⟩
  · intro b' off c' hc
    have hne : b' ≠ b := fun e => by rw [e, hGb] at hc; cases hc
    rw [cell_of_heap (hother b' hne)]
    exact h.hG b' off c' hc
  · intro i o' ho' hol'
    by_cases e : i = c
    · subst e
      rw [oget_cons_same] at ho'
      obtain rfl : ob = o' := by simpa using ho'
      refine ⟨by simp [hmc], fun b' hb' => ?_⟩
      obtain rfl : b = b' := by rw [hmc] at hb'; simpa using hb'
      exact ⟨cs, ty, setRow_heap w b arr cs ty _ hh, hGb, hb.mono hm⟩
    · rw [oget_cons_other _ _ e] at ho'
      obtain ⟨h1, h2⟩ := h.obj i o' ho' hol'
      refine ⟨h1, fun b' hb' => ?_⟩
      obtain ⟨arr', ty', hh', hg, hbl⟩ := h2 b' hb'
      have hne : b' ≠ b := fun e' => e (h.inj i c o' o b ho' ho hol' hol (e' ▸ hb') hmc)
      exact ⟨arr', ty', by rw [hother b' hne]; exact hh', hg, hbl.mono hm⟩
  · intro i j oi oj b' hi hj hli hlj hmi hmj
    by_cases ei : i = c <;> by_cases ej : j = c
    · omega
    · rw [oget_cons_other _ _ ej] at hj
      subst ei
      exact h.inj i j o oj b' ho hj hol hlj hmi hmj
    · rw [oget_cons_other _ _ ei] at hi
      subst ej
      exact h.inj i j oi o b' hi ho hli hol hmi hmj
    · rw [oget_cons_other _ _ ei] at hi
      rw [oget_cons_other _ _ ej] at hj
      exact h.inj i j oi oj b' hi hj hli hlj hmi hmj
  · intro b' hlt hn _
    exact hother b' fun e => hn (e ▸ ⟨c, o, ho, hol, hmc⟩)
  · rintro b' ⟨i, o', ho', hol', hmi⟩
    left
    by_cases e : i = c
    · subst e
      exact ⟨i, o, ho, hol, hmi⟩
    · exact ⟨i, o', by rw [oget_cons_other _ _ e] at ho'; exact ho', hol', hmi⟩
  · intro b' arr' ty' fz hh'
    by_cases e : b' = b
    · subst e
      rw [hh] at hh'
      obtain ⟨arr2, ty2, hh2, _, hb2⟩ := (h.obj c o ho hol).2 b' hmc
      rw [hh] at hh2
      simp only [Option.some.injEq, Go.Obj.cells.injEq] at hh' hh2
      obtain ⟨rfl, rfl, rfl⟩ := hh'
      obtain ⟨rfl, _, _⟩ := hh2
      exact ⟨cs, setRow_heap w b' arr cs ty _ hh, by rw [hb.1, hb2.1, hsz]⟩
    · exact ⟨arr', (hother b' e).trans hh', rfl⟩
end
end Go.Ev

set_option linter.all false
namespace Go.Ev
def Out (P : Program) (Z : Value → World → Prop) : Result Next → Prop
  | .ok (.value v) w => Z v w
  | .ok .skip w => Z Go.undef w
  | .ok (.enter f args) w => Calls P f args w fun e w' => ∃ v, e = .returned v ∧ Z v w'
  | _ => False
def Behind (g : Gh) (oh : OH) (w : World) (a : Acc) (v : Value) (w' : World) : Prop :=
  ∃ g', HR g' (a.post ++ oh) w' ∧ RdV g' (a.post ++ oh) a.v v ∧ Mono g oh g' (a.post ++ oh) ∧ Fr g oh w g' (a.post ++ oh) w'
def OpOK (P : Program) (o : Oper) (e : Operand → V) (a : Acc) : Prop :=
  ∀ (g : Gh) (oh : OH) (w : World) (ρ : Operand → Value), HR g oh w → (∀ x, x ∈ o.op.operands → RdV g oh (e x) (ρ x)) →
    (∀ i ob, (i, ob) ∈ a.pre → oget oh i = some ob) → (∀ i, i ∈ a.nw → oget oh i = none) →
    Out P (Behind g oh w a) ((execOp ρ o).run P w)
def Sto.un (S N : Sto) : Sto := fun b o => match S b o with | some c => some c | none => N b o
def Reads (S : Sto) (ts : List T) (args : Array Value) : Prop := args.size = ts.length ∧ ∀ (j : Nat) (t : T) (x : Value), ts[j]? = some t → args[j]? = some x → RdT S t x
def Sto.pick (f : Bool) (S N : Sto) : Sto :=
  match f with
  | true => N
  | false => S.un N
def Callable (P : Program) (q : FuncId) : Prop := ∃ fn, P.funcs[q]? = some fn ∧ (fn.name == "runtime.NumGoroutine") = false ∧ fn.body.isNone = false
def Ok (P : Program) (q : FuncId) (ts : List T) (f : Bool) (r : T) : Prop :=
  Callable P q ∧ ∀ (S : Sto) (w : World) (args : Array Value), (∀ b o c, S b o = some c → w.cell? ⟨b, o, none⟩ = some c) → Reads S ts args →
    Calls P q args w fun e w' => ∃ v N, e = .returned v ∧ RowKit.Below w.heap.size w w' ∧
      (∀ b o c, N b o = some c → w.heap.size ≤ b ∧ w'.cell? ⟨b, o, none⟩ = some c) ∧ RdT (Sto.pick f S N) r v
def OkO (P : Program) (q : FuncId) (ts : List T) (oh : OH) (v : V) : Prop :=
  Callable P q ∧ ∀ (S : Sto) (w : World) (args : Array Value), (∀ b o c, S b o = some c → w.cell? ⟨b, o, none⟩ = some c) → Reads S ts args →
    Calls P q args w fun e w' => ∃ x gn, e = .returned x ∧ RowKit.Below w.heap.size w w' ∧ HR gn oh w' ∧ RdV gn oh v x ∧
      (∀ b o c, gn.G b o = some c → S b o = some c ∨ w.heap.size ≤ b) ∧ (∀ b o c, gn.F b o = some c → w.heap.size ≤ b) ∧ (∀ b, Owned gn oh b → w.heap.size ≤ b) ∧ (∀ i o, oget oh i = some o → o.live = true)
def OkM (P : Program) (q : FuncId) (M : List MO) (vs : List V) (f : Bool) (t : T) : Prop :=
  Callable P q ∧ (∀ x ∈ M, 0 < x.sz ∧ x.a.length = x.b.length ∧ (∀ e ∈ x.a, e.scal) ∧ (∀ e ∈ x.b, e.scal)) ∧ (M.map (·.id)).Nodup ∧
  ∀ (g : Gh) (w : World) (args : Array Value), g.F = (fun _ _ => none) → HR g (M.map MO.pre) w → args.size = vs.length → (∀ (j : Nat) (u : V) (x : Value), vs[j]? = some u → args[j]? = some x → RdV g (M.map MO.pre) u x) →
    Calls P q args w fun e w' => ∃ (v : Value) (g2 : Gh) (N : Sto), e = .returned v ∧ HR g2 (M.map MO.post) w' ∧ Fr g (M.map MO.pre) w g2 (M.map MO.post) w' ∧ (∀ x ∈ M, x.a ≠ [] → g2.m x.id = g.m x.id) ∧
      (∀ b o c, N b o = some c → w.heap.size ≤ b ∧ w'.cell? ⟨b, o, none⟩ = some c) ∧ ((f || t.plain) = true → RdT N t v)
def OkG (P : Program) (q : FuncId) (pre : OH) (nw : List Nat) (vs : List V) (post : OH) (r : V) : Prop :=
  Callable P q ∧ (∀ i o, oget pre i = some o → o.ver = 0 ∧ o.live = true ∧ ∀ v ∈ o.el, v.cl pre) ∧ (∀ v ∈ vs, v.cl pre) ∧ (∀ i o, oget post i = some o → (oget pre i).isSome = true ∨ i ∈ nw) ∧
  (∀ i o o', oget pre i = some o → oget (post ++ pre) i = some o' → o'.ver = 0 → o'.live = true → o'.sz = o.sz ∧ o.el.length ≤ o'.el.length) ∧
  ∀ (g : Gh) (w : World) (args : Array Value), HR g pre w → args.size = vs.length → (∀ (j : Nat) (u : V) (x : Value), vs[j]? = some u → args[j]? = some x → RdV g pre u x) →
    Calls P q args w fun e w' => ∃ (x : Value) (g2 : Gh), e = .returned x ∧ HR g2 (post ++ pre) w' ∧ RdV g2 (post ++ pre) r x ∧ Fr g pre w g2 (post ++ pre) w' ∧ (∀ i o, oget (post ++ pre) i = some o → o.live = true) ∧
      (∀ i o o', oget pre i = some o → oget (post ++ pre) i = some o' → o'.ver = 0 → o'.live = true → g2.m i = g.m i ∧ g2.cp i = g.cp i)
def OkR (P : Program) (q : FuncId) (ts : List T) : Res → Prop
  | .data f r => Ok P q ts f r
  | .objs oh v => OkO P q ts oh v
  | .muts M vs f t => OkM P q M vs f t
  | .gen pre nw vs post r => OkG P q pre nw vs post r
section
variable {P : Program}
theorem opd_ok {o : Oper} {e : Operand → V} {v : V} {pre : OH}
    (h : ∀ (g : Gh) (oh : OH) (w : World) (ρ : Operand → Value), HR g oh w → (∀ x, x ∈ o.op.operands → RdV g oh (e x) (ρ x)) →
      (∀ i ob, (i, ob) ∈ pre → oget oh i = some ob) → ∃ x, ((execOp ρ o).run P w = .ok (.value x) w) ∧ RdV g oh v x) : OpOK P o e ⟨pre, [], [], v⟩ := by
  intro g oh w ρ hr ho hp _
  obtain ⟨x, hx, hv⟩ := h g oh w ρ hr ho hp
  rw [hx]
  exact ⟨g, hr, hv, Mono.refl _ _, Fr.refl _ _ _⟩
def Some (P : Program) (o : Oper) (e : Operand → V) (oh : OH) (k : Acc → Prop) : Prop :=
  ∃ a, OpOK P o e a ∧ (∀ i ob, (i, ob) ∈ a.pre → oget oh i = some ob) ∧ (∀ i, i ∈ a.nw → oget oh i = none) ∧ k a
theorem some_free {o : Oper} {e : Operand → V} {oh : OH} {k : Acc → Prop} {v : V} (hk : free k v)
    (h : ∀ (g : Gh) (oh : OH) (w : World) (ρ : Operand → Value), HR g oh w → (∀ x, x ∈ o.op.operands → RdV g oh (e x) (ρ x)) →
      ∃ x, ((execOp ρ o).run P w = .ok (.value x) w) ∧ RdV g oh v x) : Some P o e oh k :=
  ⟨⟨[], [], [], v⟩, opd_ok (fun g oh w ρ a b _ => h g oh w ρ a b), by simp, by simp, hk⟩
theorem con_of {g : Gh} {oh : OH} {v : Value} (h : v.oneCell' = true) : RdV g oh (.con v) v := ⟨rfl, h⟩
theorem run_val (s : Sem Value) (w w' : World) (x : Value) (h : s.run P w = .ok x w') : ((do pure (Next.value (← s))) : Sem Next).run P w = .ok (.value x) w' := by
  simp [h]
theorem exec_move {o : Oper} {x : Operand} (ho : o.op = .move x ∨ o.op = .assign x) (ρ : Operand → Value) (w : World) : (execOp ρ o).run P w = .ok (.value (ρ x)) w := by
  rcases ho with h | h <;> simp [execOp, h]
theorem step_move {o : Oper} {x : Operand} {e : Operand → V} {oh : OH} {k : Acc → Prop} (ho : o.op = .move x ∨ o.op = .assign x) (hk : free k (e x)) : Some P o e oh k :=
  some_free hk fun g oh w ρ _ hρ => ⟨ρ x, exec_move ho ρ w, hρ x (by rcases ho with h | h <;> simp [h, Op.operands])⟩
theorem sint_ok {op : BinOp} {k : IntKind} {a b : Int} {K : Value → Prop} (h : sint op k a b K) :
    ∃ v, K v ∧ v.oneCell' = true ∧ ∀ t w, (op ≠ .shl ∧ op ≠ .shr → (binOp op t (.int k a) (.int k b)).run P w = .ok v w) := by
  unfold sint at h
  split at h
  all_goals first
    | exact h.elim
    | (obtain ⟨r, rfl, h⟩ := h; exact ⟨_, h, rfl, fun t w _ => by simp [binOp, Op.intArith, Op.intBits, Op.intCmp]⟩)
    | (obtain ⟨h0, r, rfl, h⟩ := h; exact ⟨_, h, rfl, fun t w _ => by simp [binOp, Op.intDiv, h0]⟩)
    | exact ⟨_, h, rfl, fun t w _ => by simp [binOp, Op.intArith, Op.intBits, Op.intCmp]⟩
theorem eqGuard_con (op : BinOp) (t : TypeId) (x y : Operand) (a b : Value) (ha : a ≠ .nilIface) (ha' : ∀ cs, a ≠ .agg cs) (w : World) : (eqGuard op t x y a b).run P w = .ok () w := by
  cases a <;> first
    | exact absurd rfl ha
    | exact absurd rfl (ha' _)
    | (cases op <;> rfl)
theorem oneC_eq (v : Value) : oneC v = v.oneCell' := by cases v <;> rfl
theorem tk_tk1 {t : TypeId} {d : TK} (h : tk P t = d) (h1 : ∀ fs z, d ≠ .st fs z) (h2 : d ≠ .other) (h3 : ∀ n e z y, d ≠ .arr n e z y := by simp) :
    ∃ td, P.underlying t = some td ∧ tk1 P td = d ∧ P.cellsOf t = 1 := by
  unfold tk at h
  split at h
  · split at h
    · split at h
      · split at h
        · exact absurd h.symm (h1 _ _)
        · exact absurd h.symm h2
      · exact absurd h.symm h2
    · exact absurd h.symm h2
  · split at h
    · split at h
      · split at h
        · exact absurd h.symm (h3 _ _ _ _)
        · exact absurd h.symm h2
      · exact absurd h.symm h2
    · exact absurd h.symm h2
  · rename_i td _ _ hu
    split at h
    · rename_i hc; exact ⟨td, hu, h, Nat.eq_of_beq_eq_true hc⟩
    · exact absurd h.symm h2
  · exact absurd h.symm h2
theorem tk_one {t : TypeId} {d : TK} (h : tk P t = d) (h1 : ∀ fs z, d ≠ .st fs z) (h2 : d ≠ .other) (w : World) (h3 : ∀ n e z y, d ≠ .arr n e z y := by simp) : (sizeOf t).run P w = .ok 1 w := by
  obtain ⟨_, _, _, hc⟩ := tk_tk1 h h1 h2 h3
  unfold Program.cellsOf at hc
  cases hi : P.info? t with
  | none => simp [hi] at hc
  | some i => simp [hi] at hc; simp [sizeOf, typeInfo, hi, hc]
theorem tk_bool {t : TypeId} (h : tk P t = .bool) : P.underlying t = some .bool := by
  obtain ⟨td, hu, ht, _⟩ := tk_tk1 h (by simp) (by simp)
  unfold tk1 at ht
  split at ht
  any_goals exact hu
  all_goals (try (repeat' split at ht)) <;> cases ht
theorem tk_int {t : TypeId} {k : IntKind} (h : tk P t = .int k) : P.underlying t = some (.int k) := by
  obtain ⟨td, hu, ht, _⟩ := tk_tk1 h (by simp) (by simp)
  unfold tk1 at ht
  split at ht
  all_goals (try (repeat' split at ht)) <;> cases ht
  exact hu
theorem tk_str {t : TypeId} (h : tk P t = .str) : P.underlying t = some .string := by
  obtain ⟨td, hu, ht, _⟩ := tk_tk1 h (by simp) (by simp)
  unfold tk1 at ht
  split at ht
  any_goals exact hu
  all_goals (try (repeat' split at ht)) <;> cases ht
theorem tk_ptr {t : TypeId} (h : tk P t = .ptr) : ∃ e, P.underlying t = some (.pointer e) := by
  obtain ⟨td, hu, ht, _⟩ := tk_tk1 h (by simp) (by simp)
  unfold tk1 at ht
  split at ht
  any_goals exact ⟨_, hu⟩
  all_goals (try (repeat' split at ht)) <;> cases ht
theorem tk_sl {t e sz bt : Nat} {ag : Bool} {z : List Value} (h : tk P t = .sl e sz bt ag z) :
    ∃ i zv, P.underlying t = some (.slice e) ∧ P.info? e = some i ∧ i.zero = some zv ∧ i.size = sz ∧ i.bytes = bt ∧ zv.cells.toList = z ∧ z.length = sz ∧ (∀ c ∈ z, c.oneCell' = true) ∧
      (ag = true → ∃ cs, zv = .agg cs) ∧ (ag = false → sz = 1) := by
  obtain ⟨td, hu, h, _⟩ := tk_tk1 h (by simp) (by simp)
  unfold tk1 at h
  split at h
  any_goals (cases h; done)
  · rename_i e'
    split at h
    · rename_i i hi
      split at h
      · rename_i cs hz
        split at h
        · rename_i hc
          cases h
          simp only [Bool.and_eq_true, List.all_eq_true] at hc
          refine ⟨i, _, hu, hi, hz, rfl, rfl, rfl, ?_, fun c hcm => ?_, fun _ => ⟨cs, rfl⟩, by simp⟩
          · have := Nat.eq_of_beq_eq_true hc.2; simp [this]
          · rw [← oneC_eq]; exact hc.1 c hcm
        · cases h
      · rename_i z' hne hz
        split at h
        · rename_i hc
          cases h
          simp only [Bool.and_eq_true] at hc
          refine ⟨i, _, hu, hi, hz, Nat.eq_of_beq_eq_true hc.2, rfl, ?_, rfl, ?_, by simp, fun _ => rfl⟩
          · cases z' <;> first | rfl | exact (hne _ rfl).elim
          · intro c hcm
            obtain rfl : c = z' := by simpa using hcm
            rw [← oneC_eq]; exact hc.1
        · cases h
      · cases h
    · cases h
  · (repeat' split at h) <;> cases h
def kdesc : Option IntKind → TypeDesc
  | none => .string
  | some k => .int k
theorem tk_map {t : TypeId} {kk : Option IntKind} {z : Value} (h : tk P t = .map kk z) :
    ∃ q e i, P.underlying t = some (.map q e) ∧ P.info? e = some i ∧ i.zero = some z ∧ i.size = 1 ∧ z.oneCell' = true ∧ P.underlying q = some (kdesc kk) := by
  obtain ⟨td, hu, h, _⟩ := tk_tk1 h (by simp) (by simp)
  unfold tk1 at h
  split at h
  any_goals (cases h; done)
  · (repeat' split at h) <;> cases h
  · rename_i q e
    split at h
    · rename_i i hi
      split at h
      · rename_i z' hz
        split at h
        · rename_i hc
          simp only [Bool.and_eq_true] at hc
          split at h
          · rename_i hq; cases h; exact ⟨q, e, i, hu, hi, hz, Nat.eq_of_beq_eq_true hc.2, by rw [← oneC_eq]; exact hc.1, hq⟩
          · rename_i k hq; cases h; exact ⟨q, e, i, hu, hi, hz, Nat.eq_of_beq_eq_true hc.2, by rw [← oneC_eq]; exact hc.1, hq⟩
          · cases h
        · cases h
      · cases h
    · cases h
theorem tk_st {t : Nat} {fs : List (Nat × Nat)} {z : List Value} (h : tk P t = .st fs z) :
    ∃ F i, P.underlying t = some (.struct F) ∧ P.info? t = some i ∧ i.zero = some (.agg z.toArray) ∧ i.size = z.length ∧ (∀ c ∈ z, c.oneCell' = true) ∧ fs = (F.toList.map fun f => (f.offset, P.cellsOf f.type)) ∧ ∀ f ∈ F.toList, (P.info? f.type).isSome = true := by
  unfold tk at h
  split at h
  · rename_i F hu
    split at h
    · rename_i i hi
      split at h
      · rename_i cs hz
        split at h
        · rename_i hc
          cases h
          simp only [Bool.and_eq_true, List.all_eq_true] at hc
          refine ⟨F, i, hu, hi, by simpa using hz, ?_, fun c hcm => ?_, rfl, hc.2⟩
          · have := Nat.eq_of_beq_eq_true hc.1.2; simp [this]
          · rw [← oneC_eq]; exact hc.1.1 c hcm
        · cases h
      · cases h
    · cases h
  · (repeat' split at h) <;> cases h
  · split at h
    · unfold tk1 at h
      (repeat' split at h) <;> cases h
    · cases h
  · cases h
theorem tk_arr {t n e esz : Nat} {z : List Value} (h : tk P t = .arr n e esz z) :
    ∃ i, P.underlying t = some (.array n e) ∧ P.info? t = some i ∧ i.zero = some (.agg z.toArray) ∧ i.size = z.length ∧ (∀ c ∈ z, c.oneCell' = true) ∧ esz = P.cellsOf e ∧ (P.info? e).isSome = true := by
  unfold tk at h
  split at h
  · (repeat' split at h) <;> cases h
  · rename_i n' e hu
    split at h
    · rename_i i hi
      split at h
      · rename_i cs hz
        split at h
        · rename_i hc
          cases h
          simp only [Bool.and_eq_true, List.all_eq_true] at hc
          refine ⟨i, hu, hi, by simpa using hz, ?_, fun c hcm => ?_, rfl, hc.2⟩
          · have := Nat.eq_of_beq_eq_true hc.1.2; simp [this]
          · rw [← oneC_eq]; exact hc.1.1 c hcm
        · cases h
      · cases h
    · cases h
  · split at h
    · unfold tk1 at h
      (repeat' split at h) <;> cases h
    · cases h
  · cases h
theorem sbin_ok {d : TK} {op : BinOp} {x y : V} {K : Value → Prop} (h : sbin d op x y K) :
    ∃ v, K v ∧ v.oneCell' = true ∧ ∀ (g : Gh) (oh : OH) (a b : Value), RdV g oh x a → RdV g oh y b → a ≠ .nilIface ∧ (∀ cs, a ≠ .agg cs) ∧ ∀ t w, tk P t = d → (binOp op t a b).run P w = .ok v w := by
  unfold sbin at h
  split at h
  · rename_i k a k' b
    split at h
    · obtain ⟨h0, r, rfl, h⟩ := h
      refine ⟨_, h, rfl, ?_⟩; rintro g oh _ _ ⟨rfl, _⟩ ⟨rfl, _⟩; exact ⟨by simp, by simp, fun t w _ => by simp [binOp, Op.shift, show ¬ b < 0 by omega]⟩
    · obtain ⟨h0, r, rfl, h⟩ := h
      refine ⟨_, h, rfl, ?_⟩; rintro g oh _ _ ⟨rfl, _⟩ ⟨rfl, _⟩; exact ⟨by simp, by simp, fun t w _ => by simp [binOp, Op.shift, show ¬ b < 0 by omega]⟩
    · rename_i h1 h2
      obtain ⟨rfl, hs⟩ := h
      obtain ⟨v, hK, h1', hr⟩ := sint_ok (P := P) hs
      refine ⟨v, hK, h1', ?_⟩; rintro g oh _ _ ⟨rfl, _⟩ ⟨rfl, _⟩; exact ⟨by simp, by simp, fun t w _ => hr t w ⟨h1, h2⟩⟩
  · rename_i a b
    split at h
    · refine ⟨_, h.2, rfl, ?_⟩; rintro g oh _ _ ⟨rfl, _⟩ ⟨rfl, _⟩; exact ⟨by simp, by simp, fun t w ht => run_eql_bool w t a b (tk_bool (ht.trans h.1))⟩
    · refine ⟨_, h.2, rfl, ?_⟩; rintro g oh _ _ ⟨rfl, _⟩ ⟨rfl, _⟩; exact ⟨by simp, by simp, fun t w ht => run_neq_bool w t a b (tk_bool (ht.trans h.1))⟩
    · exact h.elim
  · split at h
    · refine ⟨_, h.2, rfl, ?_⟩; rintro g oh _ _ ⟨rfl, _⟩ ⟨rfl, _⟩
      refine ⟨by simp, by simp, fun t w ht => ?_⟩
      obtain ⟨e, hu⟩ := tk_ptr (ht.trans h.1)
      have : ∀ d, (Op.equalIn (d + 1) t (.pointer none) (.pointer none)).run P w = .ok true w := fun d => by simp [Op.equalIn, run_underlying hu]
      have := this 9999
      simp [binOp, Op.equal, Op.maxDepth, this]
    · refine ⟨_, h.2, rfl, ?_⟩; rintro g oh _ _ ⟨rfl, _⟩ ⟨rfl, _⟩
      refine ⟨by simp, by simp, fun t w ht => ?_⟩
      obtain ⟨e, hu⟩ := tk_ptr (ht.trans h.1)
      have : ∀ d, (Op.equalIn (d + 1) t (.pointer none) (.pointer none)).run P w = .ok true w := fun d => by simp [Op.equalIn, run_underlying hu]
      have := this 9999
      simp [binOp, Op.equal, Op.maxDepth, this]
    · exact h.elim
  · split at h
    · refine ⟨_, h.2, rfl, ?_⟩; rintro g oh a _ ha ⟨rfl, _⟩
      obtain ⟨ha, _⟩ := ha
      cases ha
      refine ⟨by simp, by simp, fun t w ht => ?_⟩
      obtain ⟨e, hu⟩ := tk_ptr (ht.trans h.1)
      have : ∀ d a, (Op.equalIn (d + 1) t (.pointer (some a)) (.pointer none)).run P w = .ok false w := fun d a => by simp [Op.equalIn, run_underlying hu]
      have := this 9999
      simp [binOp, Op.equal, Op.maxDepth, this]
    · refine ⟨_, h.2, rfl, ?_⟩; rintro g oh a _ ha ⟨rfl, _⟩
      obtain ⟨ha, _⟩ := ha
      cases ha
      refine ⟨by simp, by simp, fun t w ht => ?_⟩
      obtain ⟨e, hu⟩ := tk_ptr (ht.trans h.1)
      have : ∀ d a, (Op.equalIn (d + 1) t (.pointer (some a)) (.pointer none)).run P w = .ok false w := fun d a => by simp [Op.equalIn, run_underlying hu]
      have := this 9999
      simp [binOp, Op.equal, Op.maxDepth, this]
    · exact h.elim
  · rename_i a b
    split at h
    · refine ⟨_, h.2, rfl, ?_⟩; rintro g oh _ _ ⟨rfl, _⟩ ⟨rfl, _⟩; exact ⟨by simp, by simp, fun t w _ => by
        have h1 := h.1
        have : ¬ ((a.size + b.size : Nat) : Int) > IntKind.i64.max := by
          have : IntKind.i64.max = 9223372036854775807 := rfl
          rw [this]; omega
        simp only [binOp, Op.stringOp, if_neg this]; rfl⟩
    · refine ⟨_, h, rfl, ?_⟩; rintro g oh _ _ ⟨rfl, _⟩ ⟨rfl, _⟩; exact ⟨by simp, by simp, fun t w _ => by simp [binOp, Op.stringOp]⟩
    · refine ⟨_, h, rfl, ?_⟩; rintro g oh _ _ ⟨rfl, _⟩ ⟨rfl, _⟩; exact ⟨by simp, by simp, fun t w _ => by simp [binOp, Op.stringOp]⟩
    · refine ⟨_, h, rfl, ?_⟩; rintro g oh _ _ ⟨rfl, _⟩ ⟨rfl, _⟩; exact ⟨by simp, by simp, fun t w _ => by simp [binOp, Op.stringOp]⟩
    · exact h.elim
  · exact h.elim
theorem step_bin {o : Oper} {op : BinOp} {t t2 : TypeId} {x y : Operand} {e : Operand → V} {oh : OH} {k : Acc → Prop} (ho : o.op = .binOp op t x y t2)
    (h : sbin (tk P t) op (e x) (e y) fun v => free k (.con v)) : Some P o e oh k := by
  obtain ⟨v, hk, h1, hr⟩ := sbin_ok (P := P) h
  refine some_free hk fun g oh w ρ _ hρ => ⟨v, ?_, con_of h1⟩
  obtain ⟨n1, n2, hr⟩ := hr g oh (ρ x) (ρ y) (hρ x (by simp [ho, Op.operands])) (hρ y (by simp [ho, Op.operands]))
  simp only [execOp, ho]
  refine run_val _ w w v ?_
  simp [eqGuard_con op t x y (ρ x) (ρ y) n1 n2 w, hr t w rfl]
theorem step_un {o : Oper} {op : UnOp} {t : TypeId} {x : Operand} {e : Operand → V} {oh : OH} {k : Acc → Prop} (ho : o.op = .unOp op t x)
    (h : sun op (e x) fun v => free k (.con v)) : Some P o e oh k := by
  unfold sun at h
  split at h
  · rename_i b hx
    refine some_free h fun g oh w ρ _ hρ => ⟨_, ?_, con_of rfl⟩
    have hr := hρ x (by simp [ho, Op.operands]); rw [hx] at hr
    obtain ⟨hr, _⟩ := hr
    simp [execOp, ho, hr, Op.unary]
  · rename_i q n hx
    obtain ⟨r, rfl, h⟩ := h
    refine some_free h fun g oh w ρ _ hρ => ⟨_, ?_, con_of rfl⟩
    have hr := hρ x (by simp [ho, Op.operands]); rw [hx] at hr
    obtain ⟨hr, _⟩ := hr
    simp [execOp, ho, hr, Op.unary, Op.intArith]
  · exact h.elim
theorem step_conv {o : Oper} {s d : TypeId} {x : Operand} {e : Operand → V} {oh : OH} {k : Acc → Prop} (ho : o.op = .convert s d x)
    (h : sconv (tk P s) (tk P d) (e x) fun v => free k (.con v)) : Some P o e oh k := by
  unfold sconv at h
  split at h
  · rename_i k1 k2 k3 n hs hd hx
    obtain ⟨r, rfl, h⟩ := h
    refine some_free h fun g oh w ρ _ hρ => ⟨_, ?_, con_of rfl⟩
    have hr := hρ x (by simp [ho, Op.operands]); rw [hx] at hr
    obtain ⟨hr, _⟩ := hr
    simp [execOp, ho, hr, convert, run_underlying (tk_int hs), run_underlying (tk_int hd), Conv.intToInt]
  · rename_i s' hs hd hx
    refine some_free h fun g oh w ρ _ hρ => ⟨_, ?_, con_of rfl⟩
    have hr := hρ x (by simp [ho, Op.operands]); rw [hx] at hr
    obtain ⟨hr, _⟩ := hr
    simp [execOp, ho, hr, convert, run_underlying (tk_str hs), run_underlying (tk_str hd)]
  · exact h.elim
end
end Go.Ev

set_option linter.all false
namespace Go.Ev
section
variable {P : Program} {g : Gh} {oh : OH} {w : World}
theorem cells_of_one {x : Value} (h : x.oneCell' = true) : x.cells = #[x] := by cases x <;> simp_all [Value.cells, Value.oneCell']
theorem rdV1_one {v : V} {x : Value} (h : RdV1 g oh v x) (hv : v ≠ .undef) : x.oneCell' = true := by
  cases v with
  | undef => exact absurd rfl hv
  | con v => obtain ⟨rfl, h⟩ := h; exact h
  | ro f t => exact h.2
  | emp => obtain ⟨a, rfl⟩ := h; rfl
  | own id ver off len => exact h.1
  | ref id ver i foff => exact h.1.1
  | agg l => exact h.elim
  | tup l => exact h.elim
theorem rd_cells {v : V} {x : Value} (h : RdV g oh v x) (hs : v.solid = true) :
    x.cells.size = v.cells.length ∧ ∀ (j : Nat) (u : V), v.cells[j]? = some u → ∃ c, x.cells[j]? = some c ∧ RdV1 g oh u c ∧ c.oneCell' = true := by
  have one : ∀ v x, RdV1 g oh v x → v ≠ .undef → v.cells = [v] →
      x.cells.size = v.cells.length ∧ ∀ (j : Nat) (u : V), v.cells[j]? = some u → ∃ c, x.cells[j]? = some c ∧ RdV1 g oh u c ∧ c.oneCell' = true := by
    intro v x h hu hc
    have h1 := rdV1_one h hu
    rw [cells_of_one h1, hc]
    refine ⟨rfl, fun j u hj => ?_⟩
    cases j with
    | zero => obtain rfl : v = u := by simpa using hj
              exact ⟨x, rfl, h, h1⟩
    | succ j => simp at hj
  cases v with
  | undef => simp [V.solid] at hs
  | tup l => simp [V.solid] at hs
  | agg l =>
    obtain ⟨cs, rfl, hl, hr⟩ := h
    refine ⟨hl, fun j u hj => ?_⟩
    have hlt : j < cs.size := by
      have := (List.getElem?_eq_some_iff.1 hj).1
      rw [hl]; exact this
    exact ⟨cs[j], by simp [Value.cells, hlt], hr j u cs[j] hj (by simp [hlt])⟩
  | con v => exact one _ _ h (by simp) rfl
  | ro f t => exact one _ _ h (by simp) rfl
  | emp => exact one _ _ h (by simp) rfl
  | own id ver off len => exact one _ _ h (by simp) rfl
  | ref id ver i foff => exact one _ _ h (by simp) rfl
theorem all_one {v : V} {x : Value} (h : RdV g oh v x) (hs : v.solid = true) : ∀ c ∈ x.cells.toList, c.oneCell' = true := by
  obtain ⟨h1, h2⟩ := rd_cells h hs
  intro c hc
  obtain ⟨j, hj, he⟩ := List.mem_iff_getElem.1 hc
  have hj' : j < v.cells.length := by rw [← h1]; simpa using hj
  obtain ⟨c', hc', _, h3⟩ := h2 j v.cells[j] (by simp [hj'])
  have : c' = c := by
    have : x.cells[j]? = some c := by rw [← Array.getElem?_toList, List.getElem?_eq_getElem hj, he]
    rw [hc'] at this; simpa using this
  rw [← this]; exact h3
theorem newId_fresh (oh : OH) : ∀ i o, oget oh i = some o → i < newId oh := by
  induction oh with
  | nil => intro i o h; simp [oget] at h
  | cons p r ih =>
    obtain ⟨c, ob⟩ := p
    intro i o h
    by_cases e : i = c
    · subst e; simp only [newId]; split <;> omega
    · rw [oget_cons_other _ _ e] at h
      have := ih i o h
      simp only [newId]; split <;> omega
theorem newId_none (oh : OH) : oget oh (newId oh) = none := by
  cases h : oget oh (newId oh) with
  | none => rfl
  | some o => exact absurd (newId_fresh oh _ o h) (by omega)
theorem maxLen_pos : 1 ≤ maxLen := by decide
theorem elAt_value {v : V} {x : Value} (h : RdV g oh v x) (hs : v.solid = true) : ElAt g oh v.cells.length x.cells 0 v :=
  ⟨rfl, fun j u hj => let ⟨c, h1, h2, h3⟩ := (rd_cells h hs).2 j u hj; ⟨c, by simpa using h1, h3, h2⟩⟩
theorem box_out {v : V} {x : Value} (hr : HR g oh w) (h : RdV g oh v x) (hs : v.solid = true) (c : Nat) (hc : oget oh c = none) (ty : TypeId) (pre : OH) :
    Behind g oh w ⟨pre, [c], [(c, ⟨v.cells.length, [v], 0, true⟩)], .ref c 0 0 0⟩ (.pointer (some ⟨w.heap.size, 0, none⟩)) (w.alloc (.cells x.cells ty)) := by
  have hb : BlockAt g oh ⟨v.cells.length, [v], 0, true⟩ 1 x.cells := by
    refine ⟨by simpa using (rd_cells h hs).1, by simp, maxLen_pos, fun k e he => ?_⟩
    cases k with
    | zero => obtain rfl : v = e := by simpa using he
              exact elAt_value h hs
    | succ k => simp at he
  obtain ⟨h1, h2, h3⟩ := hr.place c 1 ⟨v.cells.length, [v], 0, true⟩ x.cells ty rfl (by simp [hc]) hb
  refine ⟨_, h1, ?_, h2, h3⟩
  exact ⟨refx rfl (oget_cons_same _ _ _) rfl, ⟨v.cells.length, [v], 0, true⟩, oget_cons_same _ _ _, Nat.le_refl _, fun _ _ => ⟨w.heap.size, by simp [Gh.at], by simp⟩⟩
theorem some_box {o : Oper} {e : Operand → V} {oh : OH} {k : Acc → Prop} {v : V} (hk : sbox oh v k)
    (h : ∀ (g : Gh) (oh : OH) (w : World) (ρ : Operand → Value), HR g oh w → (∀ x, x ∈ o.op.operands → RdV g oh (e x) (ρ x)) →
      ∃ x ty, RdV g oh v x ∧ ((execOp ρ o).run P w = .ok (.value (.pointer (some ⟨w.heap.size, 0, none⟩))) (w.alloc (.cells x.cells ty)))) : Some P o e oh k := by
  obtain ⟨hs, c, hfr, hk⟩ := hk
  refine ⟨_, ?_, ?_, ?_, hk⟩
  · intro g oh' w ρ hr hρ _ hn
    obtain ⟨x, ty, hv, hx⟩ := h g oh' w ρ hr hρ
    rw [hx]
    exact box_out hr hv hs _ (hn _ (by simp)) ty []
  · simp
  · intro i hi
    obtain rfl : i = c := by simpa using hi
    exact hfr
theorem step_box {o : Oper} {t : TypeId} {x : Operand} {e : Operand → V} {oh : OH} {k : Acc → Prop} (ho : o.op = .box t x) (hk : sbox oh (e x) k) : Some P o e oh k :=
  some_box hk fun g oh w ρ _ hρ => ⟨ρ x, t, hρ x (by simp [ho, Op.operands]), by simp [execOp, ho, Instr.box, newVar, newRow]⟩
theorem ofConst1_ok {v : Value} (h : oneC v = true) : RdV1 g oh (V.ofConst1 v) v := by
  rw [oneC_eq] at h
  unfold V.ofConst1
  split
  · exact ⟨none, rfl⟩
  · exact ⟨rfl, h⟩
theorem ofConst_ok (v : Value) : RdV g oh (V.ofConst v) v := by
  unfold V.ofConst
  split
  · rename_i cs
    cases hc : cs.toList.all oneC with
    | false => trivial
    | true =>
      refine ⟨cs, rfl, by simp, fun j u c hu hcj => ?_⟩
      have hm : c ∈ cs.toList := by rw [Array.mem_toList_iff]; exact Array.mem_of_getElem? hcj
      have h1 : oneC c = true := List.all_eq_true.1 hc c hm
      have : V.ofConst1 c = u := by
        rw [List.getElem?_map, Array.getElem?_toList, hcj] at hu; simpa using hu
      rw [← this, ← oneC_eq]
      exact ⟨ofConst1_ok h1, h1⟩
  · trivial
  · rename_i h1 h2
    have : oneC v = true := by cases v <;> first | rfl | exact (h1 _ rfl).elim | exact (h2 _ rfl).elim
    have := ofConst1_ok (g := g) (oh := oh) this
    unfold V.ofConst1 at this ⊢
    split at this <;> exact this
theorem step_alloc {o : Oper} {t : TypeId} {e : Operand → V} {oh : OH} {k : Acc → Prop} (ho : o.op = .alloc t) (hk : sbox oh (tz P t) k) : Some P o e oh k := by
  have hz : ∃ i z, P.info? t = some i ∧ i.zero = some z ∧ tz P t = V.ofConst z := by
    unfold tz
    cases hi : P.info? t with
    | none => have := hk.1; simp [tz, hi, V.solid] at this
    | some i =>
      cases hz : i.zero with
      | none => have := hk.1; simp [tz, hi, hz, V.solid] at this
      | some z => exact ⟨i, z, rfl, hz, by simp [hz]⟩
  obtain ⟨i, z, hi, hz, he⟩ := hz
  rw [he] at hk
  exact some_box hk fun g oh w ρ _ _ => ⟨z, t, ofConst_ok z, by simp [execOp, ho, Instr.alloc, zeroValue, typeInfo, hi, hz, newVar, newRow]⟩
theorem rdT_sl {S : Sto} {l : List T} {x : Value} (h : RdT S (.sl l) x) :
    ∃ (a : Option Addr) (cap esz b off : Nat) (c : Nat → Nat → Value), x = .slice a l.length cap ∧ l.length ≤ cap ∧ cap ≤ maxLen ∧ (l ≠ [] → a = some ⟨b, off, none⟩) ∧
      (∀ (i : Nat) (t : T), l[i]? = some t → t.cells.length = esz) ∧
      (∀ (i : Nat) (t : T) (j : Nat), l[i]? = some t → j < t.cells.length → S b (off + i * esz + j) = some (c i j)) ∧
      (∀ (i : Nat) (t : T) (j : Nat), l[i]? = some t → j < t.cells.length → (c i j).oneCell' = true) ∧
      (∀ (i : Nat) (t : T) (j : Nat) (u : T), l[i]? = some t → t.cells[j]? = some u → RdT S u (c i j)) := by
  cases h with
  | sl _ a cap esz b off c hc hm ha hz hs h1 hr => exact ⟨a, cap, esz, b, off, c, rfl, hc, hm, ha, hz, hs, h1, hr⟩
theorem rdT_ptr {S : Sto} {l : List T} {x : Value} (h : RdT S (.ptr l) x) :
    ∃ (b off : Nat) (c : Nat → Value), x = .pointer (some ⟨b, off, none⟩) ∧ (∀ j, j < l.length → S b (off + j) = some (c j)) ∧ (∀ j, j < l.length → (c j).oneCell' = true) ∧
      (∀ (j : Nat) (u : T), l[j]? = some u → RdT S u (c j)) := by
  cases h with
  | ptr _ b off c hs h1 hr => exact ⟨b, off, c, rfl, hs, h1, hr⟩
theorem use_elim {id ver : Nat} {K : Obj → Prop} (h : use oh id ver K) : ∃ o, oget oh id = some o ∧ o.ver = ver ∧ o.live = true ∧ K o := by
  unfold use at h
  split at h
  · rename_i o ho; exact ⟨o, ho, h⟩
  · exact h.elim
theorem some_use {o : Oper} {e : Operand → V} {oh : OH} {k : Acc → Prop} {v : V} {id : Nat} {ob : Obj} (hg : oget oh id = some ob) (hk : k ⟨[(id, ob)], [], [], v⟩)
    (h : ∀ (g : Gh) (oh : OH) (w : World) (ρ : Operand → Value), HR g oh w → (∀ x, x ∈ o.op.operands → RdV g oh (e x) (ρ x)) → oget oh id = some ob →
      ∃ x, ((execOp ρ o).run P w = .ok (.value x) w) ∧ RdV g oh v x) : Some P o e oh k :=
  ⟨_, opd_ok (fun g oh w ρ a b c => h g oh w ρ a b (c id ob (by simp))), by simpa using hg, by simp, hk⟩
theorem step_index {o : Oper} {t : TypeId} {x i : Operand} {e : Operand → V} {oh : OH} {k : Acc → Prop} (ho : o.op = .indexAddr t x i)
    (h : sindex (tk P t) oh (e x) (e i) k) : Some P o e oh k := by
  unfold sindex at h
  split at h
  · rename_i d1 v1 v2 e1 sz by1 ag1 z1 f l k2 n hd hx hi
    obtain ⟨h0, tt, htt, hsz, hk⟩ := h
    · obtain ⟨inf, zv, hu, hinf, _, hs, _⟩ := tk_sl hd
      refine some_free hk fun g oh w ρ hr hρ => ?_
      have hrx := hρ x (by simp [ho, Op.operands])
      have hri := hρ i (by simp [ho, Op.operands])
      rw [hx] at hrx; rw [hi] at hri
      obtain ⟨hri, _⟩ := hri
      obtain ⟨hrx, _⟩ := hrx
      obtain ⟨a, cap, esz, b, off, c, hxe, hlc, hm, ha, hz, hS, h1, hR⟩ := rdT_sl hrx
      have hne : l ≠ [] := fun e => by simp [e] at htt
      have hlt : n.toNat < l.length := (List.getElem?_eq_some_iff.1 htt).1
      have hesz := hz _ _ htt
      have ea := ha hne
      subst ea
      refine ⟨.pointer (some ⟨b, off + n.toNat * inf.size, none⟩), ?_, ?_⟩
      · simp only [execOp, ho]
        refine run_val _ w w _ ?_
        rw [hxe, hri]
        simp [Instr.indexAt, asIntOf, run_underlying hu, sizeOf, typeInfo, hinf, show (0 ≤ n ∧ n < (l.length : Int)) by omega, Addr.add_lit]
      · refine ⟨.ptr tt.cells b _ (fun j => c n.toNat j) (fun j hj => ?_) (fun j hj => h1 _ _ _ htt hj) (fun j u hu' => hR _ _ _ _ htt hu'), rfl⟩
        have := hS _ _ _ htt hj
        rw [← hesz, hsz, ← hs] at this
        exact this
  · rename_i d1 v1 v2 e1 sz by1 ag1 z1 id ver off len k2 n hd hx hi
    obtain ⟨h0, hlen, h⟩ := h
    obtain ⟨ob, hob, hv, hl, hosz, hk⟩ := use_elim h
    obtain ⟨inf, zv, hu, hinf, _, hs, _⟩ := tk_sl hd
    refine some_use hob hk fun g oh w ρ hr hρ hob' => ?_
    have hrx := hρ x (by simp [ho, Op.operands])
    have hri := hρ i (by simp [ho, Op.operands])
    rw [hx] at hrx; rw [hi] at hri
    obtain ⟨hri, _⟩ := hri
    obtain ⟨_, ob', hob2, _, hat⟩ := hrx
    rw [hob'] at hob2
    obtain rfl : ob = ob' := by simpa using hob2
    obtain ⟨a, cap, hxe, hlc, hoff, hcap⟩ := hat hv hl
    obtain ⟨b, hb, ha, hcp⟩ := hcap (by omega)
    subst ha
    refine ⟨.pointer (some ⟨b, off * ob.sz + n.toNat * inf.size, none⟩), ?_, ?_⟩
    · simp only [execOp, ho]
      refine run_val _ w w _ ?_
      rw [hxe, hri]
      simp [Instr.indexAt, asIntOf, run_underlying hu, sizeOf, typeInfo, hinf, show (0 ≤ n ∧ n < (len : Int)) by omega, Addr.add_lit]
    · refine ⟨refx rfl hob' hl, ob, hob', by omega, fun _ _ => ⟨b, hb, ?_⟩⟩
      rw [hs, ← hosz, ← Nat.add_mul]; simp
  · exact h.elim
theorem step_field {o : Oper} {t : TypeId} {x : Operand} {f : Nat} {e : Operand → V} {oh : OH} {k : Acc → Prop} (ho : o.op = .fieldAddr t x f)
    (h : sfield (tk P t) oh (e x) f k) : Some P o e oh k := by
  unfold sfield at h
  split at h
  · rename_i fs z hd
    obtain ⟨F, inf, hu, hinf, _, _, _, rfl, _⟩ := tk_st hd
    split at h
    · rename_i off sz hf
      obtain ⟨hsz, h⟩ := h
      have hF : ∃ fl, F[f]? = some fl ∧ fl.offset = off ∧ P.cellsOf fl.type = sz := by
        rw [List.getElem?_map, Array.getElem?_toList] at hf
        cases hfl : F[f]? with
        | none => simp [hfl] at hf
        | some fl => simp [hfl] at hf; exact ⟨fl, rfl, hf⟩
      obtain ⟨fl, hfl, rfl, rfl⟩ := hF
      have hsize : ∃ i, P.info? fl.type = some i ∧ i.size ≠ 0 := by
        unfold Program.cellsOf at hsz
        cases hi : P.info? fl.type with
        | none => simp [hi] at hsz
        | some i => exact ⟨i, rfl, by simpa [hi] using hsz⟩
      obtain ⟨i, hi, hi0⟩ := hsize
      have run : ∀ (b o' : Nat) (w : World), (Instr.fieldAt t (.pointer (some ⟨b, o', none⟩)) f).run P w = .ok (.pointer (some ⟨b, o' + fl.offset, none⟩)) w := fun b o' w => by
        simp [Instr.fieldAt, run_underlying hu, hfl, Instr.sureAddr, fieldPlace, sizeOf, typeInfo, hi, hi0, Addr.add_lit]
      split at h
      · rename_i v1 fr l hx
        obtain ⟨hle, hk⟩ := h
        refine some_free hk fun g oh w ρ hr hρ => ?_
        have hrx := hρ x (by simp [ho, Op.operands])
        rw [hx] at hrx
        obtain ⟨hrx, _⟩ := hrx
        obtain ⟨b, off, c, hxe, hS, h1, hR⟩ := rdT_ptr hrx
        refine ⟨.pointer (some ⟨b, off + fl.offset, none⟩), ?_, ?_⟩
        · simp only [execOp, ho]
          refine run_val _ w w _ ?_
          rw [hxe]; exact run _ _ _
        · refine ⟨.ptr _ b _ (fun j => c (fl.offset + j)) (fun j hj => ?_) (fun j hj => h1 _ (by simp at hj; omega)) (fun j u hu' => hR _ _ (by simpa using hu')), rfl⟩
          have := hS (fl.offset + j) (by simp at hj; omega)
          rw [show off + fl.offset + j = off + (fl.offset + j) by omega]; exact this
      · rename_i v1 id ver ix foff hx
        obtain ⟨ob, hob, hv, hl, hk⟩ := use_elim h
        refine some_use hob hk fun g oh w ρ hr hρ hob' => ?_
        have hrx := hρ x (by simp [ho, Op.operands])
        rw [hx] at hrx
        obtain ⟨_, ob', hob2, _, hat⟩ := hrx
        rw [hob'] at hob2
        obtain rfl : ob = ob' := by simpa using hob2
        obtain ⟨b, hb, hxe⟩ := hat hv hl
        refine ⟨.pointer (some ⟨b, ix * ob.sz + foff + fl.offset, none⟩), ?_, refx rfl hob' hl, ob, hob', by omega, fun _ _ => ⟨b, hb, by simp [Nat.add_assoc]⟩⟩
        simp only [execOp, ho]
        refine run_val _ w w _ ?_
        rw [hxe]; exact run _ _ _
      · exact h.elim
    · exact h.elim
  · exact h.elim
end
end Go.Ev
