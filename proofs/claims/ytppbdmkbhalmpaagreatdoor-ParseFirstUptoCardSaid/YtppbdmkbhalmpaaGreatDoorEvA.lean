import Derived.Calls
import Derived.KernelRfl
import Derived.Orders
set_option linter.all false
namespace Go.Ev
inductive T where
 |con (v:Value)
 |sl (l:List T)
 |ptr (l:List T)
 |agg (l:List T)
 |tup (l:List T)
 |ifc (t:TypeId) (x:T)
def T.cells : T→List T
 |.agg l=>l
 |x=>[x]
inductive Wr where
 |clo (f:FuncId)
 |fre (f:FuncId)
 |ifc (t:TypeId)
inductive V where
 |undef
 |con (v:Value)
 |ro (f:Bool) (t:T)
 |emp
 |own (id ver off len:Nat)
 |ref (id ver i foff:Nat)
 |wr (w:Wr) (id ver i foff:Nat)
 |agg (l:List V)
 |tup (l:List V)
def V.cells : V→List V
 |.agg l=>l
 |x=>[x]
structure Obj where
 sz:Nat
 el:List V
 ver:Nat
 live:Bool
abbrev OH :=List (Nat×Obj)
abbrev Env :=List (Nat×V)
def oget : OH→Nat→Option Obj
 | [],_=>none
 |(i,o) :: r,k=>if i=k then some o else oget r k
def eget : Env→Nat→V
 | [],_=>.undef
 |(i,v) :: r,k=>if i=k then v else eget r k
structure St where
 n:Nat
 env:Env
 oh:OH
def oneC : Value→Bool
 |.agg _ | .tuple _=>false
 |_=>true
def V.ofConst1 : Value→V
 |.slice none 0 0=>.emp
 |v=>.con v
def V.ofConst : Value→V
 |.agg cs=>bif cs.toList.all oneC then .agg (cs.toList.map V.ofConst1) else .undef
 |.tuple _=>.undef
 |v=>V.ofConst1 v
def opd (e:Env):Operand→V
 |.tmp t=>eget e t
 |.const v=>V.ofConst v
 |.global g=>.con (.pointer (some ⟨g,0,none⟩))
 |.func f=>.con (.func (.func f) #[] #[])
def V.ofT1 (f:Bool):T→V
 |.con v=>.con v
 |x=>.ro f x
def V.ofA (f:Bool):T→V
 |.agg l=>.agg (l.map (V.ofT1 f))
 |x=>V.ofT1 f x
def V.ofT (f:Bool):T→V
 |.tup l=>.tup (l.map (V.ofA f))
 |x=>V.ofA f x
structure Acc where
 pre:OH
 nw:List Nat
 post:OH
 v:V
inductive TK where
 |bool | int (k:IntKind) | str
 |sl (e sz by_:Nat) (ag:Bool) (zero:List Value)
 |st (fs:List (Nat×Nat)) (zero:List Value)
 |ptr
 |map (kk:Option IntKind) (zero:Value)
 |arr (n e esz:Nat) (zero:List Value)
 |ifc
 |other
def tk1 (P : Program) : TypeDesc → TK
  | .bool => .bool
  | .int k => .int k
  | .string => .str
  | .slice e =>
    match P.info? e with
    | some i => (match i.zero with
      | some (.agg z) => if (z.toList.all oneC && Nat.beq i.size z.size) = true then .sl e i.size i.bytes true z.toList else .other
      | some z => if (oneC z && Nat.beq i.size 1) = true then .sl e 1 i.bytes false [z] else .other
      | none => .other)
    | none => .other
  | .pointer _ => .ptr
  | .map q e =>
    match P.info? e with
    | some i =>
      (match i.zero with
       | some z => if (oneC z && Nat.beq i.size 1) = true then (match P.underlying q with | some .string => .map none z | some (.int k) => .map (some k) z | _ => .other) else .other
       | none => .other)
    | none => .other
  | .interface _ => .ifc
  | _ => .other
def tk (P:Program)(t:TypeId):TK:=
 match P.underlying t with
 |some (.struct fs)=>
  match P.info? t with
  |some i=>(match i.zero with
   |some (.agg z)=>if(z.toList.all oneC && Nat.beq i.size z.size && fs.toList.all fun f=>(P.info? f.type).isSome)=true then .st (fs.toList.map fun f=>(f.offset,P.cellsOf f.type)) z.toList else .other
   |_=>.other)
  |none=>.other
 |some (.array n e)=>
  match P.info? t with
  |some i=>(match i.zero with
   |some (.agg z)=>if(z.toList.all oneC && Nat.beq i.size z.size && (P.info? e).isSome)=true then .arr n e (P.cellsOf e) z.toList else .other
   |_=>.other)
  |none=>.other
 |some d=>if Nat.beq (P.cellsOf t) 1=true then tk1 P d else .other
 |none=>.other
def tz (P:Program)(t:TypeId):V:=
 match(P.info? t).bind (·.zero) with
 |some z=>V.ofConst z
 |none=>.undef
def TK.isAgg : TK→Bool
 |.st _ _ | .arr _ _ _ _=>true
 |_=>false
def TK.size : TK→Nat
 |.st _ z | .arr _ _ _ z=>z.length
 |.other=>0
 |_=>1
def free (k:Acc→Prop)(v:V):Prop:=k ⟨[],[],[],v⟩
def V.ofCells (agg:Bool)(l:List V):V:=bif agg then .agg l else(match l with | [x]=>x|_=>.undef)
def sint (op:BinOp)(k:IntKind)(a b:Int)(K:Value→Prop):Prop:=
 match op with
 |.add=>∃r,r=k.wrap (a+b)∧K (.int k r)
 |.sub=>∃r,r=k.wrap (a - b)∧K (.int k r)
 |.mul=>∃r,r=k.wrap (a * b)∧K (.int k r)
 |.quo=>b≠0∧∃r,r=k.wrap (a.tdiv b)∧K (.int k r)
 |.rem=>b≠0∧∃r,r=a.tmod b∧K (.int k r)
 |.and=>K (.int k (k.wrap (BitVec.ofInt k.bits a &&& BitVec.ofInt k.bits b).toNat))
 |.or=>K (.int k (k.wrap (BitVec.ofInt k.bits a ||| BitVec.ofInt k.bits b).toNat))
 |.xor=>K (.int k (k.wrap (BitVec.ofInt k.bits a ^^^ BitVec.ofInt k.bits b).toNat))
 |.eql=>K (.bool (a == b))
 |.neq=>K (.bool (a != b))
 |.lss=>K (.bool (decide (a < b)))
 |.leq=>K (.bool (decide (a≤b)))
 |.gtr=>K (.bool (decide (a > b)))
 |.geq=>K (.bool (decide (a≥b)))
 |_=>False
def sbin (d : TK) (op : BinOp) (x y : V) (K : Value → Prop) : Prop :=
  match x, y with
  | .con (.int k a), .con (.int k' b) =>
    (match op with
     | .shl => 0 ≤ b ∧ ∃ r, r = k.wrap (a * 2 ^ (min b.toNat k.bits)) ∧ K (.int k r)
     | .shr => 0 ≤ b ∧ ∃ r, r = a.fdiv (2 ^ (min b.toNat k.bits)) ∧ K (.int k r)
     | op => k = k' ∧ sint op k a b K)
  | .con (.bool a), .con (.bool b) =>
    (match op with | .eql => d = .bool ∧ K (.bool (a == b)) | .neq => d = .bool ∧ K (.bool (!(a == b))) | _ => False)
  | .con (.pointer none), .con (.pointer none) =>
    (match op with | .eql => d = .ptr ∧ K (.bool true) | .neq => d = .ptr ∧ K (.bool false) | _ => False)
  | .ro _ (.ptr _), .con (.pointer none) =>
    (match op with | .eql => d = .ptr ∧ K (.bool false) | .neq => d = .ptr ∧ K (.bool true) | _ => False)
  | .con (.string a), .con (.string b) =>
    (match op with
     | .add => a.size + b.size ≤ 9223372036854775807 ∧ K (.string (a ++ b))
     | .eql => K (.bool (a.toList == b.toList))
     | .neq => K (.bool (!(a.toList == b.toList)))
     | .lss => K (.bool (Op.bytesLess a.toList b.toList))
     | .gtr => K (.bool (!Op.bytesLess a.toList b.toList && !(a.toList == b.toList)))
     | _ => False)
  | _, _ => False
def sun (op:UnOp)(x:V)(K:Value→Prop):Prop:=
 match op,x with
 |.not,.con (.bool b)=>K (.bool (!b))
 |.neg,.con (.int k n)=>∃r,r=k.wrap (0 - n)∧K (.int k r)
 |_,_=>False
def sconv (s d:TK)(x:V)(K:Value→Prop):Prop:=
 match s,d,x with
 |.int _,.int k,.con (.int _ n)=>∃r,r=k.wrap n∧K (.int k r)
 |.str,.str,.con (.string s)=>K (.string s)
 |_,_,_=>False
def use (oh:OH)(id ver:Nat)(K:Obj→Prop):Prop:=
 match oget oh id with
 |some o=>o.ver=ver∧o.live=true∧K o
 |none=>False
def sindex (d:TK)(oh:OH)(x i:V)(k:Acc→Prop):Prop:=
 match d,x,i with
 |.sl _ sz ..,.ro f (.sl l),.con (.int _ n)=>
  0≤n∧∃t,l[n.toNat]?=some t∧t.cells.length=sz∧free k (.ro f (.ptr t.cells))
 |.sl _ sz ..,.own id ver off len,.con (.int _ n)=>
  0≤n∧n < len∧use oh id ver fun o=>o.sz=sz∧k ⟨[(id,o)],[],[],.ref id ver (off+n.toNat) 0⟩
 |_,_,_=>False
def sload (d:TK)(oh:OH)(x:V)(k:Acc→Prop):Prop:=
 match x with
 |.ro f (.ptr l)=>0 < d.size∧d.size≤l.length∧free k (V.ofCells d.isAgg ((l.take d.size).map (V.ofT1 f)))
 |.ref id ver i foff=>use oh id ver fun o=>
  ∃e,o.el[i]?=some e∧0 < d.size∧foff+d.size≤e.cells.length∧k ⟨[(id,o)],[],[],V.ofCells d.isAgg ((e.cells.drop foff).take d.size)⟩
 |_=>False
def splice {α:Type}(l:List α)(off:Nat)(xs:List α):List α:=l.take off ++ xs ++ l.drop (off+xs.length)
def V.solid : V→Bool
 |.undef | .tup _=>false
 |_=>true
def V.put (e:V)(off:Nat)(xs:List V):V:=
 match e with
 |.agg l=>.agg (splice l off xs)
 |_=>V.ofCells false xs
def sstore (d:TK)(oh:OH)(x v:V)(k:Acc→Prop):Prop:=
 match x with
 |.ref id ver i foff=>use oh id ver fun o=>
  ∃e,o.el[i]?=some e∧v.solid=true∧0 < d.size∧v.cells.length=d.size∧foff+d.size≤e.cells.length∧k ⟨[(id,o)],[],[(id,⟨o.sz,o.el.set i (e.put foff v.cells),o.ver,o.live⟩)],.undef⟩
 |_=>False
def sfield (d : TK) (oh : OH) (x : V) (f : Nat) (k : Acc → Prop) : Prop :=
  match d with
  | .st fs _ =>
    (match fs[f]? with
     | some (off, sz) => sz ≠ 0 ∧
       (match x with
        | .ro fr (.ptr l) => off ≤ l.length ∧ free k (.ro fr (.ptr (l.drop off)))
        | .ref id ver i foff => use oh id ver fun o => k ⟨[(id, o)], [], [], .ref id ver i (foff + off)⟩
        | _ => False)
     | none => False)
  | _ => False
def newId : OH→Nat
 | []=>0
 |(i,_) :: r=>if newId r≤i then i+1 else newId r
inductive fresh (oh:OH)(K:Nat→Prop):Prop
 |mk (c:Nat) (h:oget oh c=none) (hk:K c)
def sbox (oh:OH)(v:V)(k:Acc→Prop):Prop:=
 v.solid=true∧fresh oh fun c=>k ⟨[],[c],[(c,⟨v.cells.length,[v],0,true⟩)],.ref c 0 0 0⟩
def sfill (fs : List (Nat × Nat)) : List V → List (Nat × V) → (List V → Prop) → Prop
  | cs, [], K => K cs
  | cs, (i, v) :: r, K =>
    (match fs[i]? with
     | some (off, sz) => v.solid = true ∧ v.cells.length = sz ∧ off + sz ≤ cs.length ∧ sfill fs (splice cs off v.cells) r K
     | none => False)
def sbuild (d:TK)(parts:List (Nat×V))(k:Acc→Prop):Prop:=
 match d with
 |.st fs z=>sfill fs (z.map V.ofConst1) parts fun cs=>free k (.agg cs)
 |.arr n _ esz z=>sfill ((List.range n).map fun j=>(j * esz,esz)) (z.map V.ofConst1) parts fun cs=>free k (.agg cs)
 |_=>False
def slen (d:TK)(oh:OH)(x:V)(k:Acc→Prop):Prop:=
 match d,x with
 |.sl ..,.ro _ (.sl l)=>free k (.con (.int .i64 l.length))
 |.sl ..,.own id ver _ len=>use oh id ver fun o=>k ⟨[(id,o)],[],[],.con (.int .i64 len)⟩
 |.sl ..,.emp=>free k (.con (.int .i64 0))
 |.str,.con (.string s)=>free k (.con (.int .i64 s.size))
 |_,_=>False
def sbd (x:Option V)(a:Int)(K:Int→Prop):Prop:=
 match x with
 |none=>K a
 |some (.con (.int _ n))=>K n
 |_=>False
def AllSz (l:List T)(sz:Nat):Prop:=∀t ∈ l,t.cells.length=sz
def sslice (d:TK)(oh:OH)(x:V)(lo hi mx:Option V)(k:Acc→Prop):Prop:=
 match mx with
 |some m=>
  match d,x,hi with
  |.sl ..,.ro _ (.sl _),some h=>sbd lo 0 fun a=>sbd (some h) 0 fun b=>sbd (some m) 0 fun c=>a=0∧b=0∧c=0∧free k .emp
  |_,_,_=>False
 |none=>
  match d,x with
  |.sl _ sz ..,.ro f (.sl l)=>AllSz l sz∧sbd lo 0 fun a=>sbd hi l.length fun b=>0≤a∧a≤b∧b≤l.length∧free k (.ro f (.sl ((l.drop a.toNat).take (b - a).toNat)))
  |.sl _ sz ..,.own id ver off len=>use oh id ver fun o=>o.sz=sz∧sbd lo 0 fun a=>sbd hi len fun b=>0≤a∧a≤b∧b≤len∧k ⟨[(id,o)],[],[],.own id ver (off+a.toNat) (b - a).toNat⟩
  |.sl ..,.emp=>sbd lo 0 fun a=>sbd hi 0 fun b=>a=0∧b=0∧free k .emp
  |.str,.con (.string s)=>sbd lo 0 fun a=>sbd hi s.size fun b=>0≤a∧a≤b∧b≤s.size∧free k (.con (.string (s.extract a.toNat b.toNat)))
  |_,_=>False
def smake (d:TK)(oh:OH)(l c:V)(k:Acc→Prop):Prop:=
 match d,l,c with
 |.sl _ sz by_ ag z,.con (.int _ n),.con (.int _ m)=>
  n≤m∧0≤n∧m≤9223372036854775807∧m * by_≤140737488355328∧z.length=sz∧0 < sz∧
   fresh oh fun c=>k ⟨[],[c],[(c,⟨sz,List.replicate m.toNat (V.ofCells ag (z.map V.ofConst1)),0,true⟩)],.own c 0 0 n.toNat⟩
 |_,_,_=>False
def elems (oh:OH)(x:V)(K:OH→List V→Prop):Prop:=
 match x with
 |.emp=>K [] []
 |.ro f (.sl l)=>K [] (l.map (V.ofA f))
 |.own id ver off len=>use oh id ver fun o=>K [(id,o)] ((o.el.drop off).take len)
 |_=>False
def sappend (d : TK) (oh : OH) (x y : V) (k : Acc → Prop) : Prop :=
  match d with
  | .sl _ sz by_ _ z => z.length = sz ∧ 0 < sz ∧ elems oh y fun pre ys =>
    (match x with
     | .emp =>
       ys.length ≤ 9223372036854775807 ∧ ys.length * by_ ≤ 140737488355328 ∧ (∀ y ∈ ys, y.cells.length = sz) ∧
       fresh oh fun c => k ⟨pre, [c], [(c, ⟨sz, ys, 0, true⟩)], .own c 0 0 ys.length⟩
     | .own id ver 0 len => use oh id ver fun o => o.sz = sz ∧
       len + ys.length ≤ 9223372036854775807 ∧ (len + ys.length) * by_ ≤ 140737488355328 ∧ (∀ y ∈ ys, y.cells.length = sz) ∧
       k ⟨(id, o) :: pre, [], [(id, ⟨sz, o.el.take len ++ ys, ver + 1, true⟩)], .own id (ver + 1) 0 (len + ys.length)⟩
     | _ => False)
  | _ => False
def mkOK : Option IntKind→Value→Bool
 |none,.string _=>true
 |some k,.int k' _=>decide (k=k')
 |_,_=>false
def mkEq : Value→Value→Bool
 |.int _ a,.int _ b=>a == b
 |.string a,.string b=>a == b
 |_,_=>false
def mEnt (kk:Option IntKind)(v:V):Prop:=∃q x,v=.agg [.con q,.con x]∧mkOK kk q=true∧oneC x=true
def mFind (key:Value):List V→Option (Nat×Value)
 |.agg [.con q,.con x] :: r=>bif mkEq key q then some (0,x) else(mFind key r).map fun p=>(p.1+1,p.2)
 |_=>none
def mGet (key:Value)(el:List V):Option Value:=(mFind key el).map (·.2)
def mPut (key v:Value)(el:List V):List V:=
 match mFind key el with
 |some (i,_)=>el.set i (.agg [.con key,.con v])
 |none=>el ++ [.agg [.con key,.con v]]
def slookup (d : TK) (oh : OH) (x i : V) (ok : Bool) (k : Acc → Prop) : Prop :=
  match d, x, i with
  | .map kk z, .ref id _ _ _, .con key =>
    (match oget oh id with
     | some o => o.live = false ∧ o.sz = 0 ∧ mkOK kk key = true ∧ (∀ v ∈ o.el, mEnt kk v) ∧
       (match ok with
        | true => ∃ v b, (mGet key o.el).getD z = v ∧ (mGet key o.el).isSome = b ∧ k ⟨[(id, o)], [], [], .tup [.con v, .con (.bool b)]⟩
        | false => ∃ v, (mGet key o.el).getD z = v ∧ k ⟨[(id, o)], [], [], .con v⟩)
     | none => False)
  | _, _, _ => False
def smkMap (d:TK)(oh:OH)(r:Option V)(k:Acc→Prop):Prop:=
 match d,r with
 |.map _ _,none=>fresh oh fun c=>k ⟨[],[c],[(c,⟨0,[],0,false⟩)],.ref c 0 0 0⟩
 |.map _ _,some (.con (.int _ _))=>fresh oh fun c=>k ⟨[],[c],[(c,⟨0,[],0,false⟩)],.ref c 0 0 0⟩
 |_,_=>False
def smapUp (d : TK) (oh : OH) (x i v : V) (k : Acc → Prop) : Prop :=
  match d, x, i, v with
  | .map kk _, .ref id _ _ _, .con key, .con y =>
    (match oget oh id with
     | some o => o.live = false ∧ o.sz = 0 ∧ mkOK kk key = true ∧ (∀ v ∈ o.el, mEnt kk v) ∧ ∃ el', mPut key y o.el = el' ∧ k ⟨[(id, o)], [], [(id, ⟨0, el', o.ver, false⟩)], .undef⟩
     | none => False)
  | _, _, _, _ => False
def smm (lt:Bool)(x y:V)(K:Value→Prop):Prop:=
 match x,y with
 |.con (.int k a),.con (.int k' b)=>k=k'∧∃r,r=(match lt with | true=>(if b < a then b else a) | false=>(if a < b then b else a))∧K (.int k r)
 |_,_=>False
def V.fn? : V→Option FuncId
 |.con (.func (.func f) a b)=>(match a.toList,b.toList with | [],[]=>some f | _,_=>none)
 |_=>none
def sidx (tt:TypeId→TK)(d:TK)(x i:V)(k:Acc→Prop):Prop:=
 match d,x,i with
 |.str,.con (.string s),.con (.int _ n)=>0≤n∧∃b:UInt8,s[n.toNat]?=some b∧free k (.con (.int .u8 b.toNat))
 |.arr len el esz _,.agg l,.con (.int _ n)=>0≤n∧n < len∧0 < esz∧(tt el).size=esz∧n.toNat * esz+esz≤l.length∧free k (V.ofCells (tt el).isAgg ((l.drop (n.toNat * esz)).take esz))
 |_,_,_=>False
def sextract (x:V)(i:Nat)(k:Acc→Prop):Prop:=
 match x with
 |.tup l=>∃v,l[i]?=some v∧free k v
 |_=>False
def chunks (sz:Nat)(ag:Bool):Nat→List V→List V
 |0,_=>[]
 |n+1,l=>V.ofCells ag (l.take sz) :: chunks sz ag n (l.drop sz)
def sbuildSlice (d:TK)(oh:OH)(len:Nat)(parts:List (Nat×V))(k:Acc→Prop):Prop:=
 match d with
 |.sl _ sz _ ag z=>0 < sz∧z.length=sz∧len * sz≤16777216∧
  sfill ((List.range len).map fun i=>(i * sz,sz)) (List.replicate len (z.map V.ofConst1)).flatten parts fun us=>
   fresh oh fun c=>k ⟨[],[c],[(c,⟨sz,chunks sz ag len us,0,true⟩)],.own c 0 0 len⟩
 |_=>False
def V.scal : V→Prop
 |.con _=>True
 |.agg l=>∀v ∈ l,∃c,v=.con c
 |_=>False
def V.toT1 : V→Option T
 |.con v=>some (.con v)
 |.ro _ t=>some t
 |.emp=>some (.sl [])
 |_=>none
def toTs : List V→Option (List T)
 | []=>some []
 |x :: r=>match V.toT1 x,toTs r with | some t,some ts=>some (t :: ts) | _,_=>none
def V.toT : V→Option T
 |.agg l=>match toTs l with | some ts=>some (.agg ts) | none=>none
 |x=>V.toT1 x
def toTA : List V→Option (List T)
 | []=>some []
 |x :: r=>match V.toT x,toTA r with | some t,some ts=>some (t :: ts) | _,_=>none
def snil (oh:OH)(x:V)(k:Acc→Prop):Prop:=
 match x with
 |.ref id ver i foff=>use oh id ver fun o=>k ⟨[(id,o)],[],[],.ref id ver i foff⟩
 |.ro f (.ptr l)=>free k (.ro f (.ptr l))
 |_=>False
inductive Fz1 (oh:OH)(f:Bool):V→T→Prop
 |con (v:Value):Fz1 oh f (.con v) (.con v)
 |ro (f':Bool) (t:T) (h:f=true→f'=true):Fz1 oh f (.ro f' t) t
 |emp:Fz1 oh f .emp (.sl [])
 |own (id ver off len:Nat) (o:Obj) (ts:List T) (ho:oget oh id=some o) (hv:o.ver=ver) (hl:o.live=true) (hn:ts.length=len)
   (hs:∀(i:Nat) (e:V) (t:T),i < len→o.el[off+i]?=some e→ts[i]?=some t→t.cells.length=e.cells.length)
   (hc:∀(i:Nat) (e:V) (t:T) (j:Nat) (v:V) (u:T),i < len→o.el[off+i]?=some e→ts[i]?=some t→e.cells[j]?=some v→t.cells[j]?=some u→Fz1 oh f v u) :
   Fz1 oh f (.own id ver off len) (.sl ts)
 |ref (id ver i foff:Nat) (o:Obj) (e:V) (ts:List T) (ho:oget oh id=some o) (hv:o.ver=ver) (hl:o.live=true) (he:o.el[i]?=some e) (hn:foff+ts.length=e.cells.length)
   (hc:∀(j:Nat) (v:V) (u:T),e.cells[foff+j]?=some v→ts[j]?=some u→Fz1 oh f v u):Fz1 oh f (.ref id ver i foff) (.ptr ts)
 |ifc (t:TypeId) (id ver i foff:Nat) (u:T) (h:Fz1 oh f (.ref id ver i foff) u):Fz1 oh f (.wr (.ifc t) id ver i foff) (.ifc t u)
def FzA (oh:OH)(f:Bool):V→T→Prop
 |.agg l,.agg ts=>l.length=ts.length∧∀(j:Nat) (v:V) (t:T),l[j]?=some v→ts[j]?=some t→Fz1 oh f v t
 |.agg _,_=>False
 |v,t=>Fz1 oh f v t
def FzL (oh:OH)(vs:List V)(ts:List T):Prop:=vs.length=ts.length∧∀(j:Nat) (v:V) (t:T),vs[j]?=some v→ts[j]?=some t→FzA oh false v t
def T.isCon : T→Bool
 |.con _=>true
 |_=>false
def T.plain : T→Bool
 |.con _=>true
 |.tup l=>l.all T.isCon
 |_=>false
structure MO where
 id:Nat
 sz:Nat
 a:List V
 b:List V
def MO.pre (x:MO):Nat×Obj:=(x.id,⟨x.sz,x.a,0,true⟩)
def MO.post (x:MO):Nat×Obj:=(x.id,⟨x.sz,x.b,0,true⟩)
inductive Res where
 |data (f:Bool) (t:T)
 |objs (oh:OH) (v:V)
 |muts (M:List MO) (vs:List V) (f:Bool) (t:T)
 |gen (pre:OH) (nw:List Nat) (vs:List V) (post:OH) (r:V)
abbrev CT :=FuncId→List T→Res→Prop
inductive ArC (m vo:Nat→Nat):V→V→Prop
 |con (v:Value):ArC m vo (.con v) (.con v)
 |ro (f:Bool) (t:T):ArC m vo (.ro f t) (.ro false t)
 |emp:ArC m vo .emp .emp
 |own (i off len:Nat):ArC m vo (.own (m i) (vo i) off len) (.own i 0 off len)
 |ref (i k foff:Nat):ArC m vo (.ref (m i) (vo i) k foff) (.ref i 0 k foff)
def arL (m vo:Nat→Nat):List V→List V→Prop
 | [],[]=>True
 |v :: r,u :: s=>ArC m vo v u∧arL m vo r s
 |_,_=>False
def ArA (m vo:Nat→Nat)(v u:V):Prop:=
 match u with
 |.agg l=>(match v with | .agg l'=>arL m vo l' l | _=>False)
 |u=>ArC m vo v u
def ArL (m vo:Nat→Nat):List V→List V→Prop
 | [],[]=>True
 |v :: r,u :: s=>ArA m vo v u∧ArL m vo r s
 |_,_=>False
def cov1 (M:List MO):V→Prop
 |.own i .. | .ref i ..=>∃y ∈ M,y.id=i
 |_=>True
def covL (M:List MO):List V→Prop
 | []=>True
 |.agg l :: r=>(∀v ∈ l,cov1 M v)∧covL M r
 |v :: r=>cov1 M v∧covL M r
def MutK (C:CT)(q:FuncId)(args:List V)(oh:OH)(k:Acc→Prop):Prop:=
 ∃(M:List MO) (vs:List V) (fr:Bool) (r:T) (m vo:Nat→Nat),C q [] (.muts M vs fr r)∧covL M vs∧ArL m vo args vs∧(∀x ∈ M,oget oh (m x.id)=some ⟨x.sz,x.a,vo x.id,true⟩)∧
  (∀x ∈ M,∀y ∈ M,m x.id=m y.id→x.id=y.id)∧(fr ||r.plain)=true∧
  k ⟨M.map fun x=>(m x.id,⟨x.sz,x.a,vo x.id,true⟩),[],M.map fun x=>(m x.id,⟨x.sz,x.b,vo x.id,true⟩),V.ofT fr r⟩
def V.rn1 (m vo:Nat→Nat):V→V
 |.own i ver off len=>.own (m i) (vo i+ver) off len
 |.ref i ver k foff=>.ref (m i) (vo i+ver) k foff
 |.wr w i ver k foff=>.wr w (m i) (vo i+ver) k foff
 |v=>v
def V.rnA (m vo:Nat→Nat):V→V
 |.agg l=>.agg (l.map (V.rn1 m vo))
 |v=>V.rn1 m vo v
def V.rn (m vo:Nat→Nat):V→V
 |.tup l=>.tup (l.map (V.rnA m vo))
 |v=>V.rnA m vo v
def Obj.rn (m vo:Nat→Nat)(i:Nat)(o:Obj):Obj:=⟨o.sz,o.el.map (V.rnA m vo),vo i+o.ver,o.live⟩
def rnO (m vo:Nat→Nat)(oh:OH):OH:=oh.map fun p=>(m p.1,p.2.rn m vo p.1)
def V.wk1 : V→V
 |.ro _ t=>.ro false t
 |v=>v
def V.wk : V→V
 |.agg l=>.agg (l.map V.wk1)
 |v=>v.wk1
def GenK (C:CT)(q:FuncId)(args:List V)(oh:OH)(k:Acc→Prop):Prop:=
 ∃(pre:OH) (nw:List Nat) (vs:List V) (post:OH) (r:V) (m vo:Nat→Nat),C q [] (.gen pre nw vs post r)∧args.map V.wk=vs.map (V.rnA m vo)∧(∀p ∈ pre,oget oh (m p.1)=some (p.2.rn m vo p.1))∧
  (∀i ∈ nw,oget oh (m i)=none)∧(∀i ∈ pre.map (·.1) ++ nw,∀j ∈ pre.map (·.1) ++ nw,m i=m j→i=j)∧k ⟨rnO m vo pre,nw.map m,rnO m vo post,r.rn m vo⟩
def V.sh1 (d:Nat):V→V
 |.own id ver off len=>.own (id+d) ver off len
 |.ref id ver i foff=>.ref (id+d) ver i foff
 |.wr w id ver i foff=>.wr w (id+d) ver i foff
 |v=>v
def V.shA (d:Nat):V→V
 |.agg l=>.agg (l.map (V.sh1 d))
 |v=>V.sh1 d v
def V.sh (d:Nat):V→V
 |.tup l=>.tup (l.map (V.shA d))
 |v=>V.shA d v
def Obj.sh (d:Nat)(o:Obj):Obj:=⟨o.sz,o.el.map (V.shA d),o.ver,o.live⟩
def shO (d:Nat)(oh:OH):OH:=oh.map fun p=>(p.1+d,p.2.sh d)
inductive freshO (oh on:OH)(K:Nat→Prop):Prop
 |mk (d:Nat) (h:∀i,i ∈ (shO d on).map (·.1)→oget oh i=none) (hk:K d)
def smkF (oh:OH)(f:Fn)(a b:List V)(k:Acc→Prop):Prop:=
 match f,a,b with
 |.func q,[],[]=>free k (.con (.func (.func q) #[] #[]))
 |.func q,[.ref id ver i foff],[]=>use oh id ver fun o=>k ⟨[(id,o)],[],[],.wr (.clo q) id ver i foff⟩
 |.func q,[],[.ref id ver i foff]=>use oh id ver fun o=>k ⟨[(id,o)],[],[],.wr (.fre q) id ver i foff⟩
 |_,_,_=>False
def smkI (d : TK) (t : TypeId) (oh : OH) (x : V) (k : Acc → Prop) : Prop :=
  d = .ptr ∧
  (match x with
   | .ref id ver i foff => use oh id ver fun o => k ⟨[(id, o)], [], [], .wr (.ifc t) id ver i foff⟩
   | .ro f (.ptr l) => free k (.ro f (.ifc t (.ptr l)))
   | _ => False)
def wrArgs (f:V)(l:List V):Option (FuncId×List V):=
 match f with
 |.wr (.clo q) id ver i foff=>some (q,.ref id ver i foff :: l)
 |.wr (.fre q) id ver i foff=>some (q,l ++ [.ref id ver i foff])
 |_=>none
def ObjK (C:CT)(q:FuncId)(ts:List T)(oh:OH)(k:Acc→Prop):Prop:=∃oh' v,C q ts (.objs oh' v)∧freshO oh oh' fun d=>k ⟨[],(shO d oh').map (·.1),shO d oh',v.sh d⟩
def V.fr1 : V→Bool
 |.ro f _=>f
 |_=>true
def V.frA : V→Bool
 |.agg l=>l.all V.fr1
 |v=>V.fr1 v
def V.frT : V→Bool
 |.tup l=>l.all V.frA
 |v=>V.frA v
def LendK (C:CT)(q:FuncId)(args:List V)(oh:OH)(k:Acc→Prop):Prop:=
 ∃(ts:List T) (on:OH) (v:V) (pre:OH),C q ts (.objs on v)∧(∀p ∈ pre,oget oh p.1=some p.2)∧FzL pre args ts∧v.frT=true∧(∀p ∈ on,∀e ∈ p.2.el,e.frA=true)∧
  freshO oh on fun d=>k ⟨pre,(shO d on).map (·.1),shO d on,v.sh d⟩
def cmpR : V→Bool
 |.ref ..=>true
 |.wr ..=>true
 |.con .nilIface=>true
 |.ro _ (.ifc _ _)=>true
 |_=>false
def isCst : Operand→Bool
 |.const _=>true
 |_=>false
def eqRes (op:BinOp)(b:Bool)(K:Bool→Prop):Prop:=
 match op with
 |.eql=>K b
 |.neq=>K (!b)
 |_=>False
def scmpR (d:TK)(op:BinOp)(c:Bool)(oh:OH)(x y:V)(k:Acc→Prop):Prop:=
 match d,x,y with
 |.ptr,.ref id ver _ _,.con (.pointer none)=>use oh id ver fun o=>eqRes op false fun r=>k ⟨[(id,o)],[],[],.con (.bool r)⟩
 |.ifc,.wr (.ifc _) id ver _ _,.con .nilIface=>use oh id ver fun o=>eqRes op false fun r=>k ⟨[(id,o)],[],[],.con (.bool r)⟩
 |.ifc,.ro _ (.ifc _ _),.con .nilIface=>eqRes op false fun r=>free k (.con (.bool r))
 |.ifc,.con .nilIface,.con .nilIface=>c=true∧eqRes op true fun r=>free k (.con (.bool r))
 |_,_,_=>False
def EqSt (P:Program)(t:TypeId)(ks:List TK):Prop:=
 P.stoodInHeld t=false∧P.eqGuardType P.depth t=false∧∃fs,P.underlying t=some (.struct fs)∧fs.size=ks.length∧
  ∀(i:Nat) (f:Field),fs[i]?=some f→f.offset=i∧f.name≠ "_"∧∃k,ks[i]?=some k∧tk P f.type=k∧(k=.bool∨k=.str∨∃q,k=.int q)
def veq1 : TK→V→V→Option Bool
 |.int _,.con (.int k a),.con (.int k' b)=>if k=k' then some (a == b) else none
 |.str,.con (.string a),.con (.string b)=>some (a.toList == b.toList)
 |.bool,.con (.bool a),.con (.bool b)=>some (a == b)
 |_,_,_=>none
def veqL : List TK→List V→List V→Option Bool
 | [],[],[]=>some true
 |k :: q,x :: r,y :: s=>(match veq1 k x y with | some true=>veqL q r s | some false=>some false | none=>none)
 |_,_,_=>none
def saeq (P:Program)(t:TypeId)(op:BinOp)(x y:V)(k:Acc→Prop):Prop:=
 match x,y with
 |.agg l,.agg m=>∃(ks:List TK) (b:Bool),EqSt P t ks∧l.length=ks.length∧m.length=ks.length∧veqL ks l m=some b∧eqRes op b fun r=>free k (.con (.bool r))
 |_,_=>False
def V.isAg : V→Bool
 |.agg _=>true
 |_=>false
def sbytes (sd ed:TK)(x:V)(k:Acc→Prop):Prop:=
 match sd,ed,x with
 |.str,.int .u8,.con (.string b)=>b.size≤140737488355328∧free k (.ro true (.sl (b.data.toList.map fun c=>.con (.int .u8 c.toNat))))
 |_,_,_=>False
def step (P : Program) (C : CT) (o : Oper) (e : Operand → V) (oh : OH) (k : Acc → Prop) : Prop :=
  match o.op with
  | .move x | .assign x => free k (e x)
  | .pick c a b => (match e c with | .con (.bool t) => (match t with | true => free k (e a) | false => free k (e b)) | _ => False)
  | .binOp op t x y _ => (match cmpR (e x) with | true => scmpR (tk P t) op (isCst y) oh (e x) (e y) k | false => (match V.isAg (e x) with | true => saeq P t op (e x) (e y) k | false => sbin (tk P t) op (e x) (e y) fun v => free k (.con v)))
  | .unOp op _ x => sun op (e x) fun v => free k (.con v)
  | .convert s d x => (match tk P d with | .sl e' _ _ _ _ => sbytes (tk P s) (tk P e') (e x) k | _ => sconv (tk P s) (tk P d) (e x) fun v => free k (.con v))
  | .indexAddr t x i => sindex (tk P t) oh (e x) (e i) k
  | .load t x => sload (tk P t) oh (e x) k
  | .store t x v => sstore (tk P t) oh (e x) (e v) k
  | .fieldAddr t x f => sfield (tk P t) oh (e x) f k
  | .box _ x => sbox oh (e x) k
  | .alloc t => sbox oh (tz P t) k
  | .build t ps => sbuild (tk P t) (ps.toList.map fun p => (p.1, e p.2)) k
  | .index t x i => sidx (tk P) (tk P t) (e x) (e i) k
  | .nilCheck x => snil oh (e x) k
  | .extract x i => sextract (e x) i k
  | .buildSlice t len ps => sbuildSlice (tk P t) oh len (ps.toList.map fun p => (p.1, e p.2)) k
  | .slice t x lo hi mx => sslice (tk P t) oh (e x) (lo.map e) (hi.map e) (mx.map e) k
  | .makeSlice t l c => smake (tk P t) oh (e l) (e c) k
  | .makeMap t r => smkMap (tk P t) oh (r.map e) k
  | .makeFunc f a b => smkF oh f (a.toList.map e) (b.toList.map e) k
  | .makeInterface t x => smkI (tk P t) t oh (e x) k
  | .lookup t x i ok => slookup (tk P t) oh (e x) (e i) ok k
  | .mapUpdate t x i v => smapUp (tk P t) oh (e x) (e i) (e v) k
  | .call c =>
    (match c.callee with
     | .builtin .len => (match c.args.toList, c.argTypes.toList with | [x], [t] => slen (tk P t) oh (e x) k | _, _ => False)
     | .builtin .min => (match c.args.toList, c.argTypes.toList with | [x, y], [_, _] => smm true (e x) (e y) fun v => free k (.con v) | _, _ => False)
     | .builtin .max => (match c.args.toList, c.argTypes.toList with | [x, y], [_, _] => smm false (e x) (e y) fun v => free k (.con v) | _, _ => False)
     | .builtin .append => (match c.args.toList, c.argTypes.toList with | [x, y], [t, t'] => t = t' ∧ sappend (tk P t) oh (e x) (e y) k | _, _ => False)
     | .value f =>
       (match V.fn? (e f) with
        | some q =>
          (match toTA (c.args.toList.map e) with
           | some ts => (∃ fr r, C q ts (.data fr r) ∧ free k (V.ofT fr r)) ∨ ObjK C q ts oh k
           | none => (∃ ts fr r, C q ts (.data fr r) ∧ ∃ pre : OH, (∀ p ∈ pre, oget oh p.1 = some p.2) ∧ FzL pre (c.args.toList.map e) ts ∧ (fr || r.plain) = true ∧ k ⟨pre, [], [], V.ofT fr r⟩) ∨ MutK C q (c.args.toList.map e) oh k ∨ GenK C q (c.args.toList.map e) oh k ∨ LendK C q (c.args.toList.map e) oh k)
        | none => (match wrArgs (e f) (c.args.toList.map e) with | some (q, l) => True ∧ GenK C q l oh k | none => False))
     | _ => False)
  | _ => False
def St.app (s:St)(o:Oper)(v:V)(post:OH):St:=
 { s with env:=(match o.dst with|some d=>(d,v) :: s.env|none=>s.env),oh:=post ++ s.oh }
def isGuardL : List Oper→Nat→Bool
 | [],_=>false
 |o :: r,i=>(match o.guard with | some (j,_)=>if j=i then true else isGuardL r i | none=>isGuardL r i)
def litBool (v:V)(K:V→Prop):Prop:=
 match v with
 |.con (.bool b)=>(b=true→K (.con (.bool true)))∧(b=false→K (.con (.bool false)))
 |v=>K v
def guardVal (ops:Array Oper)(e:Env)(j:Nat):V:=match(ops[j]?).bind (·.dst) with|some d=>eget e d|none=>.undef
def nilTest (o:Oper):Option (TypeId×Operand×Bool):=
 match o.op with
 |.binOp .eql t x (.const (.slice none 0 0)) _=>some (t,x,true)
 |.binOp .neq t x (.const (.slice none 0 0)) _=>some (t,x,false)
 |_=>none
def nilB (d:TK)(v:V)(K:Bool→Prop):Prop:=
 match d,v with
 |.sl ..,.ro _ (.sl l)=>∀b,(b=true→l=[])→K b
 |.sl ..,.emp=>∀b,K b
 |_,_=>False
def evOps (P : Program) (C : CT) (ops : Array Oper) : Nat → List Oper → St → (St → Prop) → Prop
  | _, [], s, K => K s
  | i, o :: r, s, K =>
    (match o.guard with
     | none =>
      (match nilTest o with
       | some (t, x, w) => nilB (tk P t) (opd s.env x) fun b => evOps P C ops (i + 1) r (s.app o (.con (.bool (b == w))) []) K
       | none => step P C o (opd s.env) s.oh fun a =>
       (match isGuardL r i with
        | true => litBool a.v fun v => evOps P C ops (i + 1) r (s.app o v a.post) K
        | false => evOps P C ops (i + 1) r (s.app o a.v a.post) K))
     | some (j, want) =>
       (match guardVal ops s.env j with
        | .con (.bool b) => (match b == want with | true => step P C o (opd s.env) s.oh fun a => (match isGuardL r i with | true => litBool a.v fun v => evOps P C ops (i + 1) r (s.app o v a.post) K | false => evOps P C ops (i + 1) r (s.app o a.v a.post) K) | false => evOps P C ops (i + 1) r (s.app o (.tup []) []) K)
        | .tup [] => evOps P C ops (i + 1) r (s.app o (.tup []) []) K
        | _ => False))
def evD (P : Program) (C : CT) (ops : Array Oper) : Nat → List Oper → St → List (Option Acc) → (List (Option Acc) → St → Prop) → Prop
  | _, [], s, tr, K => K tr s
  | i, o :: r, s, tr, K =>
    (match o.guard with
     | none => step P C o (opd s.env) s.oh fun a =>
       (match isGuardL r i with
        | true => litBool a.v fun v => evD P C ops (i + 1) r (s.app o v a.post) (some { a with v := v } :: tr) K
        | false => evD P C ops (i + 1) r (s.app o a.v a.post) (some a :: tr) K)
     | some (j, want) =>
       (match guardVal ops s.env j with
        | .con (.bool b) => (match b == want with | true => step P C o (opd s.env) s.oh fun a => (match isGuardL r i with | true => litBool a.v fun v => evD P C ops (i + 1) r (s.app o v a.post) (some { a with v := v } :: tr) K | false => evD P C ops (i + 1) r (s.app o a.v a.post) (some a :: tr) K) | false => evD P C ops (i + 1) r (s.app o (.tup []) []) (none :: tr) K)
        | .tup [] => evD P C ops (i + 1) r (s.app o (.tup []) []) (none :: tr) K
        | _ => False))
def edge (ops:Array Oper)(i j:Nat):Bool:=
 match ops[j]? with
 |some o=>o.after.toList.any fun e=>Nat.beq e.on i && Region.binds .any e
 |none=>false
def edge2 (ops:Array Oper)(i j:Nat):Bool:=
 match ops[j]? with
 |some o=>o.after.toList.any fun e=>Region.binds .any e && edge ops i e.on
 |none=>false
def Acc.wr (a:Acc):List Nat:=a.nw ++ a.post.map (·.1)
def Acc.all (a:Acc):List Nat:=a.pre.map (·.1) ++ a.wr
def disj (l m:List Nat):Bool:=l.all fun i=>m.all fun j=>!decide (i=j)
def indep : Option Acc→Option Acc→Bool
 |some a,some b=>disj a.wr b.all && disj b.wr a.all
 |_,_=>true
def commOne (ops:Array Oper)(j:Nat)(x:Option Acc):List (Option Acc)→Bool
 | []=>true
 |y :: r=>((edge ops r.length j || indep y x) || edge2 ops r.length j) && commOne ops j x r
def commR (ops:Array Oper):List (Option Acc)→Bool
 | []=>true
 |x :: r=>commOne ops r.length x r && commR ops r
inductive X where
 |normal | ret | exit (id:Nat)
def X.seq (next:St→Prop)(Q:X→St→Prop):X→St→Prop
 |.normal,s=>next s
 |x,s=>Q x s
def X.block (id:Nat)(Q:X→St→Prop):X→St→Prop
 |.exit j,s=>if j=id then Q .normal s else Q (.exit j) s
 |x,s=>Q x s
def V.cl1 (oh:OH):V→Prop
 |.own id .. | .ref id .. | .wr _ id ..=>(oget oh id).isSome=true
 |.con _ | .ro .. | .emp=>True
 |_=>False
def V.cl (oh:OH):V→Prop
 |.agg l=>∀v ∈ l,v.cl1 oh
 |.undef=>True
 |v=>v.cl1 oh
def leEnv (oh:OH)(e:Env):Env→Prop
 | []=>True
 |(t,v) :: r=>eget e t=v∧v.cl oh∧leEnv oh e r
def clObjs (oh:OH):OH→Prop
 | []=>True
 |(_,o) :: r=>(∀v ∈ o.el,v.cl oh)∧clObjs oh r
def leOH (oh:OH):OH→Prop
 | []=>True
 |(i,o) :: r=>oget oh i=some o∧leOH oh r
def Le (s1 s:St):Prop:=s1.n=s.n∧leEnv s1.oh s.env s1.env∧leOH s.oh s1.oh∧clObjs s1.oh s1.oh
def adopt (s:St):List (Nat×Nat×Nat)→St
 | []=>s
 |(t,c,sz) :: r=>adopt { s with env:=(t,.own c 0 0 0) :: s.env,oh:=(c,⟨sz,[],0,true⟩) :: s.oh } r
def adoptOK (s:St):List (Nat×Nat×Nat)→Prop
 | []=>True
 |(t,c,sz) :: r=>eget s.env t=.emp∧oget s.oh c=none∧adoptOK { s with env:=(t,.own c 0 0 0) :: s.env,oh:=(c,⟨sz,[],0,true⟩) :: s.oh } r
inductive Fd1 (oh oh1:OH)(f:Bool):V→T→Prop
 |con (v:Value):Fd1 oh oh1 f (.con v) (.con v)
 |ro (f':Bool) (t:T) (h:f=true→f'=true):Fd1 oh oh1 f (.ro f' t) t
 |emp:Fd1 oh oh1 f .emp (.sl [])
 |own (id ver off len:Nat) (o:Obj) (ts:List T) (ho:oget oh id=some o) (hd:oget oh1 id=none) (hv:o.ver=ver) (hl:o.live=true) (hn:ts.length=len)
   (hs:∀(i:Nat) (e:V) (t:T),i < len→o.el[off+i]?=some e→ts[i]?=some t→t.cells.length=e.cells.length)
   (hc:∀(i:Nat) (e:V) (t:T) (j:Nat) (v:V) (u:T),i < len→o.el[off+i]?=some e→ts[i]?=some t→e.cells[j]?=some v→t.cells[j]?=some u→Fd1 oh oh1 f v u) :
   Fd1 oh oh1 f (.own id ver off len) (.sl ts)
 |ref (id ver i foff:Nat) (o:Obj) (e:V) (ts:List T) (ho:oget oh id=some o) (hd:oget oh1 id=none) (hv:o.ver=ver) (hl:o.live=true) (he:o.el[i]?=some e) (hn:foff+ts.length=e.cells.length)
   (hc:∀(j:Nat) (v:V) (u:T),e.cells[foff+j]?=some v→ts[j]?=some u→Fd1 oh oh1 f v u):Fd1 oh oh1 f (.ref id ver i foff) (.ptr ts)
 |ifc (t:TypeId) (id ver i foff:Nat) (u:T) (h:Fd1 oh oh1 f (.ref id ver i foff) u):Fd1 oh oh1 f (.wr (.ifc t) id ver i foff) (.ifc t u)
inductive Lc (oh oh1:OH):V→V→Prop
 |same (v:V) (h:v.cl1 oh1):Lc oh oh1 v v
 |frz (f:Bool) (v:V) (t:T) (h:Fd1 oh oh1 f v t):Lc oh oh1 v (V.ofT1 f t)
 |adopt (c:Nat) (o:Obj) (h0:oget oh c=none) (h1:oget oh1 c=some o):Lc oh oh1 .emp (.own c 0 0 0)
def LV (oh oh1:OH)(v v1:V):Prop:=
 match v1 with
 |.agg l1=>(match v with | .agg l=>l.length=l1.length∧∀(j:Nat) (a b:V),l[j]?=some a→l1[j]?=some b→Lc oh oh1 a b | _=>False)
 |v1=>Lc oh oh1 v v1
structure Lf (s1 s:St):Prop where
 n:s1.n=s.n
 oh:∀(i:Nat) (o1:Obj),oget s1.oh i=some o1→
  (∃o,oget s.oh i=some o∧o1.sz=o.sz∧o1.ver=o.ver∧o1.live=o.live∧o1.el.length=o.el.length∧∀(k:Nat) (e e1:V),o.el[k]?=some e→o1.el[k]?=some e1→LV s.oh s1.oh e e1)∨
  (oget s.oh i=none∧o1.el=[]∧o1.ver=0∧o1.live=true)
 env:∀t,eget s1.env t=.undef∨LV s.oh s1.oh (eget s.env t) (eget s1.env t)
inductive RenC (m:Nat→Nat)(oh oh1:OH):V→V→Prop
 |con (v:Value):RenC m oh oh1 (.con v) (.con v)
 |ro (f:Bool) (t:T):RenC m oh oh1 (.ro f t) (.ro f t)
 |emp:RenC m oh oh1 .emp .emp
 |own (id ver off len:Nat) (o:Obj) (ho:oget oh (m id)=some o) (hv:o.ver=ver) (h1:(oget oh1 id).isSome=true):RenC m oh oh1 (.own (m id) ver off len) (.own id 0 off len)
 |ref (id ver i foff:Nat) (o:Obj) (ho:oget oh (m id)=some o) (hv:o.ver=ver) (h1:(oget oh1 id).isSome=true):RenC m oh oh1 (.ref (m id) ver i foff) (.ref id 0 i foff)
 |wr (w:Wr) (id ver i foff:Nat) (o:Obj) (ho:oget oh (m id)=some o) (hv:o.ver=ver) (h1:(oget oh1 id).isSome=true):RenC m oh oh1 (.wr w (m id) ver i foff) (.wr w id 0 i foff)
def RenA (m:Nat→Nat)(oh oh1:OH)(v v1:V):Prop:=
 match v1 with
 |.agg l1=>(match v with | .agg l=>l.length=l1.length∧∀(j:Nat) (a b:V),l[j]?=some a→l1[j]?=some b→RenC m oh oh1 a b | _=>False)
 |v1=>RenC m oh oh1 v v1
structure Ren (oh oh1:OH)(m:Nat→Nat):Prop where
 inj:∀i j o1 o2,oget oh1 i=some o1→oget oh1 j=some o2→m i=m j→i=j
 obj:∀i o1,oget oh1 i=some o1→∃o,oget oh (m i)=some o∧o.live=true∧o1.live=true∧o1.ver=0∧o1.sz=o.sz∧o1.el.length=o.el.length∧
  ∀(k:Nat) (e e1:V),o.el[k]?=some e→o1.el[k]?=some e1→RenA m oh oh1 e e1
structure Lr (s1 s:St):Prop where
 n:s1.n=s.n
 ren:∃m,Ren s.oh s1.oh m∧∀t,eget s1.env t=.undef∨RenA m s.oh s1.oh (eget s.env t) (eget s1.env t)
inductive Md where
 |le | lf | lr
def LeB (fz:Md)(s1 s:St):Prop:=
 match fz with
 |.le=>Le s1 s
 |.lf=>Lf s1 s
 |.lr=>Lr s1 s
def Loop (body:St→(X→St→Prop)→Prop)(s:St)(Q:X→St→Prop):Prop:=
 ∃(f0 fz:Md) (σ:Type) (enc:σ→St) (I:σ→Prop) (μ:σ→Nat) (ads:List (Nat×Nat×Nat)) (z0:σ),adoptOK s ads∧I z0∧LeB f0 (enc z0) (adopt s ads)∧
  ∀z,I z→body (enc z) (X.seq (fun s'=>∃z',I z'∧μ z' < μ z∧LeB fz (enc z') s') Q)
def evC (P:Program)(C:CT):Code→St→(X→St→Prop)→Prop
 |.skip,s,Q=>Q .normal s
 |.seq a b,s,Q=>evC P C a s (X.seq (fun s'=>evC P C b s' Q) Q)∨evC P C a s (X.seq (fun s'=>∃fz s2,LeB fz s2 s'∧evC P C b s2 Q) Q)
 |.cond c a b,s,Q=>(match opd s.env c with | .con (.bool t)=>(t=true→evC P C a s Q)∧(t=false→evC P C b s Q) | _=>False)
 |.block id c,s,Q=>evC P C c s (X.block id Q)
 |.loop c,s,Q=>Loop (fun s Q=>evC P C c s Q) s Q
 |.exit id,s,Q=>Q (.exit id) s
 |.ret,s,Q=>Q .ret s
 |.region _ ops false,s,Q=>evOps P C ops 0 ops.toList s (Q .normal)
 |.region _ ops true,s,Q=>evD P C ops 0 ops.toList s [] fun tr s'=>commR ops tr=true∧Q .normal s'
 |_,_,_=>False
def dstB (n:Nat)(ops:List Oper):Bool:=ops.all fun o=>match o.dst with|some d=>Nat.blt d n|none=>true
def apartB (ops:Array Oper):Bool:=
 (List.range ops.size).all fun j=>(List.range j).all fun i=>edge ops i j ||(match ops[i]?,ops[j]? with|some x,some y=>x.apart ops y|_,_=>false)
def backB (ops:Array Oper):Bool:=
 (List.range ops.size).all fun j=>match ops[j]? with|some o=>o.after.toList.all (fun e=>!Region.binds .any e ||Nat.blt e.on j)|none=>false
def okB (n:Nat):Code→Bool
 |.seq a b=>okB n a && okB n b
 |.cond _ a b=>okB n a && okB n b
 |.block _ c=>okB n c
 |.loop c=>okB n c
 |.region _ ops d=>dstB n ops.toList && (!d || (apartB ops && backB ops))
 |_=>true
def parD (np:Nat)(ops:List Oper):Bool:=ops.all fun o=>match o.dst with|some d=>Nat.ble np d|none=>true
def parB (np:Nat):Code→Bool
 |.seq a b=>parB np a && parB np b
 |.cond _ a b=>parB np a && parB np b
 |.block _ c=>parB np c
 |.loop c=>parB np c
 |.region _ ops _=>parD np ops.toList
 |_=>true
theorem parD_zero (ops:List Oper):parD 0 ops=true:=by
 unfold parD
 rw [List.all_eq_true]
 intro o _
 split
 ·exact Nat.ble_eq_true_of_le (Nat.zero_le _)
 ·rfl
theorem parB_zero : ∀c:Code,parB 0 c=true
 |.seq a b=>by simp [parB,parB_zero a,parB_zero b]
 |.cond _ a b=>by simp [parB,parB_zero a,parB_zero b]
 |.block _ c=>by simp [parB,parB_zero c]
 |.loop c=>by simp [parB,parB_zero c]
 |.region _ ops _=>by simp [parB,parD_zero]
 |.skip=>rfl
 |.ret=>rfl
 |.exit _=>rfl
 |.goto _=>rfl
 |.rangeFunc _ _ _ _=>rfl
 |.scope _=>rfl
 |.label _=>rfl
 |.refuse _=>rfl
def resV (P:Program)(s:St):ResultVar→(V→Prop)→Prop
 |.tmp t,K=>K (eget s.env t)
 |.cell a t,K=>sload (tk P t) s.oh (eget s.env a) fun x=>K x.v
def RetOK (P : Program) (fn : Func) (f : Bool) (r : T) (x : X) (s : St) : Prop :=
  (match x with | .exit _ => False | _ => True) ∧
  (match fn.results.toList with
   | [] => r = .tup []
   | [a] => resV P s a fun v => FzA s.oh f v r
   | [a, b] => resV P s a fun v => resV P s b fun u => ∃ t1 t2, r = .tup [t1, t2] ∧ FzA s.oh f v t1 ∧ FzA s.oh f u t2
   | [a, b, c] => resV P s a fun v => resV P s b fun u => resV P s c fun y => ∃ t1 t2 t3, r = .tup [t1, t2, t3] ∧ FzA s.oh f v t1 ∧ FzA s.oh f u t2 ∧ FzA s.oh f y t3
   | _ => False)
def argEnv : Nat→List T→Env
 |_,[]=>[]
 |i,t :: r=>(i,V.ofT false t) :: argEnv (i+1) r
end Go.Ev
