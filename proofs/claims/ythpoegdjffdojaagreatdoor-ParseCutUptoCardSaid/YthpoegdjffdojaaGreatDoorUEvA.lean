import Derived.KernelRfl
import Derived.Orders
set_option linter.all false
abbrev B4:=@congrArg
abbrev B5:=@List.mem_cons
abbrev B6:=@Bool.false_ne_true
abbrev B7:=@List.take_of_length_le
abbrev B8:=@ByteArray.size_append
abbrev B9:=@List.length_cons
abbrev C0:=@Nat.zero_le
abbrev C1:=@Option.map_eq_some_iff
abbrev C2:=@Nat.zero_add
abbrev C5:=@List.getElem?_append_left
abbrev C6:=@Option.some.inj
abbrev C7:=@Bool.and_eq_true
abbrev C8:=@List.eq_nil_of_length_eq_zero
abbrev C9:=@List.getD_eq_getElem?_getD
abbrev D0:=@Nat.zero_lt_succ
abbrev D3:=@Nat.le_of_ble_eq_true
abbrev D4:=@List.mem_map
abbrev D5:=@List.mem_cons_of_mem
abbrev D6:=@List.mem_append
abbrev D7:=@List.mem_cons_self
abbrev D8:=@Array.toArray_toList
abbrev E0:=@Nat.mul_comm
abbrev E1:=@Option.isSome_iff_exists
abbrev E2:=@Nat.mod_eq_of_lt
abbrev E3:=@Array.getElem?_eq_getElem
abbrev E4:=@Array.getElem?_eq_some_iff
abbrev E5:=@decide_eq_true_eq
abbrev E6:=@UInt32.toNat_lt
abbrev E7:=@List.map_cons
abbrev E8:=@List.getElem?_take_of_lt
abbrev E9:=@UInt32.toNat_ofNat'
abbrev F4:=@List.drop_zero
abbrev F5:=@ByteArray.size_extract
abbrev F6:=@Nat.mul_le_mul_right
abbrev F7:=@List.drop_eq_getElem_cons
abbrev F8:=@List.all_eq_true
abbrev F9:=@decide_eq_true
abbrev G0:=@List.getElem?_drop
abbrev G1:=@List.cons_append
abbrev G3:=@List.length_pos_iff
abbrev G4:=@decide_eq_false
abbrev G6:=@Nat.le_trans
abbrev G7:=@List.map_append
abbrev G8:=@Nat.lt_or_ge
abbrev G9:=@List.getElem_mem
abbrev H3:=@Nat.mul_add
abbrev H4:=@Nat.add_sub_cancel_left
abbrev H5:=@Ne.symm
abbrev H6:=@Nat.sub_self
abbrev H7:=@Nat.mul_le_mul_left
abbrev H8:=@Nat.add_zero
abbrev H9:=@Nat.pow_succ
abbrev HQ:=@List.mem_singleton
abbrev I0:=@Array.getElem?_append_left
abbrev I1:=@Array.getElem?_setIfInBounds_ne
abbrev I2:=@dif_pos
abbrev I3:=@UInt8.toNat_inj
abbrev I4:=@Classical.byContradiction
abbrev I5:=@Nat.min_eq_left
abbrev I6:=@List.take_succ_eq_append_getElem
abbrev I7:=@List.drop_eq_nil_of_le
abbrev I8:=@Nat.add_mul
abbrev I9:=@Nat.pos_of_ne_zero
abbrev IX:=@List.getElem?_append_right
abbrev J0:=@List.take_length
abbrev J1:=@Array.length_toList
abbrev J2:=@Nat.mul_assoc
abbrev J3:=@List.take_take
abbrev J4:=@List.take_append_of_le_length
abbrev J5:=@List.mem_of_mem_take
abbrev J6:=@List.sum_cons
abbrev J7:=@Array.getElem?_toList
abbrev J8:=@List.append_nil
abbrev J9:=@Nat.mod_lt
abbrev K0:=@ByteArray.append_assoc
abbrev K3:=@List.not_mem_nil
abbrev K4:=@Int.toNat_natCast
abbrev K5:=@Nat.ne_of_lt
abbrev K6:=@decide_eq_false_iff_not
abbrev K7:=@Array.getElem?_setIfInBounds_self_of_lt
abbrev K8:=@Nat.pow_le_pow_right
abbrev L0:=@Nat.lt_of_lt_of_le
abbrev L1:=@List.take_append_drop
abbrev L2:=@List.getElem?_toArray
abbrev L3:=@List.getElem?_range
abbrev L4:=@List.drop_drop
abbrev L5:=@Bool.true_and
abbrev L6:=@List.mem_iff_getElem
abbrev L7:=@List.getElem?_take
abbrev L8:=@Int.natCast_nonneg
abbrev L9:=@Array.getElem?_map
abbrev M0:=@Nat.div_add_mod
abbrev M1:=@List.length_nil
abbrev M3:=@Nat.pow_pos
abbrev M4:=@List.take_succ_cons
abbrev M5:=@Nat.eq_of_beq_eq_true
abbrev M6:=@Int.fdiv_eq_ediv_of_nonneg
abbrev M7:=@Bool.or_eq_true
abbrev M9:=@UInt32.toNat_inj
abbrev MH:=@List.mem_of_getElem?
abbrev N0:=@Nat.succ_le_succ
abbrev N1:=@Nat.le_add_right
abbrev N2:=@Nat.div_lt_iff_lt_mul
abbrev N3:=@List.set_append_right
abbrev N4:=@Nat.lt_of_le_of_lt
abbrev N5:=@Nat.eq_zero_or_pos
abbrev N6:=@Nat.div_eq_of_lt
abbrev N7:=@List.take_length_add_append
abbrev N8:=@of_decide_eq_true
abbrev N9:=@Option.some.injEq
abbrev O0:=@Nat.le_of_lt
abbrev O1:=@List.take_left
abbrev O2:=@List.map_congr_left
abbrev O3:=@List.length_set
abbrev O4:=@dif_neg
abbrev O5:=@Nat.add_sub_cancel
abbrev O6:=@List.drop_length
abbrev O7:=@Array.eq_empty_of_size_eq_zero
abbrev O8:=@Prod.mk.injEq
abbrev O9:=@Nat.mul_zero
abbrev P0:=@Nat.add_assoc
abbrev P1:=@ByteArray.ext
abbrev P3:=@Nat.pow_add
abbrev P4:=@Nat.div_lt_of_lt_mul
abbrev P5:=@Option.map_some
abbrev P6:=@Nat.not_lt_zero
abbrev P7:=@Nat.le_add_left
abbrev P8:=@Bool.eq_iff_iff
abbrev P9:=@Nat.pow_le_pow_left
abbrev Pb:=@Array.getD_eq_getD_getElem?
abbrev Q0:=@List.length_reverse
abbrev Q1:=@Nat.one_mul
abbrev Q3:=@List.take_zero
abbrev Q4:=@List.drop_take
abbrev Q5:=@BitVec.toNat_ofNat
abbrev Q6:=@List.getElem?_eq_none
abbrev Q7:=@ByteArray.data_append
abbrev Q8:=@List.nil_append
abbrev Q9:=@Nat.succ_pos
abbrev R0:=@Nat.ne_of_gt
abbrev R4:=@Nat.mul_one
abbrev R5:=@Nat.le_of_eq
abbrev R6:=@List.reverse_reverse
abbrev R7:=@Bool.or_eq_false_iff
abbrev R8:=@BitVec.ofInt_natCast
abbrev R9:=@List.takeWhile_cons
abbrev S0:=@Int.toNat_of_nonneg
abbrev S1:=@Array.toList_append
abbrev S2:=@or_false
abbrev S3:=@List.getElem?_cons_succ
abbrev S4:=@List.any_eq_true
abbrev S5:=@ByteArray.empty_append
abbrev S6:=@Array.getElem?_eq_none
abbrev S7:=@Option.map_none
abbrev S8:=@Nat.lt_irrefl
abbrev S9:=@Bool.and_eq_false_iff
abbrev Sk:=@Exists.intro
abbrev T0:=@Nat.mul_lt_mul_of_pos_right
abbrev T1:=@Decidable.not_not
abbrev T2:=@UInt8.toNat_lt
abbrev T3:=@Array.toList_extract
abbrev T4:=@Option.getD_some
abbrev T5:=@Nat.succ_mul
abbrev T6:=@Nat.sub_zero
abbrev T7:=@Nat.lt_succ_self
abbrev T8:=@List.extract_eq_take_drop
abbrev T9:=@List.replicate_succ
abbrev U2:=@List.dropWhile_cons
abbrev U3:=@Bool.not_true
abbrev U4:=@Bool.false_or
abbrev U5:=@Nat.mul_add_mod
abbrev U6:=@List.mem_filter
abbrev U7:=@of_decide_eq_false
abbrev U8:=@List.set_cons_zero
abbrev U9:=@Array.ext'
abbrev UO:=@And.intro
abbrev V0:=@Nat.le_mul_of_pos_right
abbrev V1:=@Nat.mul_le_mul
abbrev V2:=@Nat.div_div_eq_div_mul
abbrev V3:=@List.dropWhile_sublist
abbrev V4:=@ByteArray.data_extract
abbrev V5:=@ByteArray.append_empty
abbrev V7:=@List.mem_iff_getElem?
abbrev V8:=@List.length_filter_le
abbrev V9:=@decide_eq_decide
abbrev W0:=@beq_iff_eq
abbrev W2:=@List.mem_toArray
abbrev W3:=@List.mem_flatMap
abbrev W4:=@Bool.not_eq_true
abbrev W5:=@Array.toList_inj
abbrev W6:=@Int.ofNat.inj
abbrev W8:=@List.mem_append_left
abbrev W9:=@List.getElem?_set_ne
abbrev X0:=@Array.getElem_toList
abbrev X1:=@Nat.mul_add_div
abbrev X2:=@Nat.div_le_self
abbrev X3:=@List.sum_append
abbrev X5:=@Int.natCast_mul
abbrev X8:=@Nat.pow_zero
abbrev Y0:=@List.map_set
abbrev Y1:=@List.map_nil
abbrev Y4:=@List.mem_range
abbrev Y6:=@Bool.false_and
abbrev Zf:=@List.getElem?_map
abbrev uz:=@List.getElem?_eq_getElem
abbrev wU:=@Nat.le_refl
abbrev yK:=@List.getElem?_eq_some_iff
theorem A8 {a:Prop}(h:a:=by omega):a:=h
theorem B1 {a:Prop}(h:a:=by kernel_rfl):a:=h
theorem B3 {a:Prop}(h:a:=by decide):a:=h
namespace Go.Ev
inductive T where
 |af (v:Value)
 |sl (l:List T)
 |ptr (l:List T)
 |agg (l:List T)
 |ba (l:List T)
 |jq (t:TypeId) (x:T)
def T.cells : T->List T
 |.agg l=>l
 |x=>[x]
inductive Wr where
 |Tf (f:FuncId)
 |TH (f:FuncId)
 |jq (t:TypeId)
inductive V where
 |undef
 |af (v:Value)
 |ro (f:Bool) (t:T)
 |emp
 |own (id ver off len:Nat)
 |ref (id ver i foff:Nat)
 |wr (w:Wr) (id ver i foff:Nat)
 |agg (l:List V)
 |ba (l:List V)
def V.cells : V->List V
 |.agg l=>l
 |x=>[x]
structure Obj where
 sz:Nat
 el:List V
 ver:Nat
 live:Bool
abbrev OH :=List (Nat×Obj)
abbrev Env :=List (Nat×V)
def ae : OH->Nat->Option Obj
 | [],_=>none
 |(i,o) :: r,k=>if i=k then some o else ae r k
def aA : Env->Nat->V
 | [],_=>.undef
 |(i,v) :: r,k=>if i=k then v else aA r k
structure St where
 n:Nat
 env:Env
 oh:OH
def rV : Value->Bool
 |.agg _ | .tuple _=>false
 |_=>true
def V.bI : Value->V
 |.slice none 0 0=>.emp
 |v=>.af v
def V.ofConst : Value->V
 |.agg cs=>bif cs.toList.all rV then .agg (cs.toList.map V.bI) else .undef
 |.tuple _=>.undef
 |v=>V.bI v
def rS (e:Env):Operand->V
 |.tmp t=>aA e t
 |.const v=>V.ofConst v
 |.global g=>.af (.pointer (some ⟨g,0,none⟩))
 |.func f=>.af (.func (.func f) #[] #[])
def V.nC (f:Bool):T->V
 |.af v=>.af v
 |x=>.ro f x
def V.IL (f:Bool):T->V
 |.agg l=>.agg (l.map (V.nC f))
 |x=>V.nC f x
def V.FE (f:Bool):T->V
 |.ba l=>.ba (l.map (V.IL f))
 |x=>V.IL f x
structure Acc where
 pre:OH
 nw:List Nat
 post:OH
 v:V
inductive TK where
 |bool | int (k:IntKind) | str
 |sl (e sz by_:Nat) (ag:Bool) (zero:List Value)
 |st (fs:List (Nat×Nat)) (zero:List Value)
 |ptr
 |map (kk:Option IntKind) (zero:Value)
 |arr (n e esz:Nat) (zero:List Value)
 |jq
 |other
def Ju (P : Program) : TypeDesc -> TK
  | .bool => .bool
  | .int k => .int k
  | .string => .str
  | .slice e =>
    match P.info? e with
    | some i => (match i.zero with
      | some (.agg z) => if (z.toList.all rV && Nat.beq i.size z.size) = true then .sl e i.size i.bytes true z.toList else .other
      | some z => if (rV z && Nat.beq i.size 1) = true then .sl e 1 i.bytes false [z] else .other
      | none => .other)
    | none => .other
  | .pointer _ => .ptr
  | .map q e =>
    match P.info? e with
    | some i =>
      (match i.zero with
       | some z => if (rV z && Nat.beq i.size 1) = true then (match P.underlying q with | some .string => .map none z | some (.int k) => .map (some k) z | _ => .other) else .other
       | none => .other)
    | none => .other
  | .interface _ => .jq
  | _ => .other
def tk (P:Program)(t:TypeId):TK:=
 match P.underlying t with
 |some (.struct fs)=>
  match P.info? t with
  |some i=>(match i.zero with
   |some (.agg z)=>if(z.toList.all rV && Nat.beq i.size z.size && fs.toList.all fun f=>(P.info? f.type).isSome)=true then .st (fs.toList.map fun f=>(f.offset,P.cellsOf f.type)) z.toList else .other
   |_=>.other)
  |none=>.other
 |some (.array n e)=>
  match P.info? t with
  |some i=>(match i.zero with
   |some (.agg z)=>if(z.toList.all rV && Nat.beq i.size z.size && (P.info? e).isSome)=true then .arr n e (P.cellsOf e) z.toList else .other
   |_=>.other)
  |none=>.other
 |some d=>if Nat.beq (P.cellsOf t) 1=true then Ju P d else .other
 |none=>.other
def tz (P:Program)(t:TypeId):V:=
 match(P.info? t).bind (·.zero) with
 |some z=>V.ofConst z
 |none=>.undef
def TK.isAgg : TK->Bool
 |.st _ _ | .arr _ _ _ _=>true
 |_=>false
def TK.size : TK->Nat
 |.st _ z | .arr _ _ _ z=>z.length
 |.other=>0
 |_=>1
def free (k:Acc->Prop)(v:V):Prop:=k ⟨[],[],[],v⟩
def V.cz (agg:Bool)(l:List V):V:=bif agg then .agg l else(match l with | [x]=>x|_=>.undef)
def sint (op:BinOp)(k:IntKind)(a b:Int)(K:Value->Prop):Prop:=
 match op with
 |.add=>∃r,r=k.wrap (a+b)/\K (.int k r)
 |.sub=>∃r,r=k.wrap (a - b)/\K (.int k r)
 |.mul=>∃r,r=k.wrap (a * b)/\K (.int k r)
 |.quo=>b≠0/\∃r,r=k.wrap (a.tdiv b)/\K (.int k r)
 |.rem=>b≠0/\∃r,r=a.tmod b/\K (.int k r)
 |.and=>K (.int k (k.wrap (BitVec.ofInt k.bits a &&& BitVec.ofInt k.bits b).toNat))
 |.or=>K (.int k (k.wrap (BitVec.ofInt k.bits a ||| BitVec.ofInt k.bits b).toNat))
 |.xor=>K (.int k (k.wrap (BitVec.ofInt k.bits a ^^^ BitVec.ofInt k.bits b).toNat))
 |.eql=>K (.bool (a == b))
 |.neq=>K (.bool (a != b))
 |.lss=>K (.bool (decide (a < b)))
 |.leq=>K (.bool (decide (a<=b)))
 |.gtr=>K (.bool (decide (a > b)))
 |.geq=>K (.bool (decide (a≥b)))
 |_=>False
def Oe (d : TK) (op : BinOp) (x y : V) (K : Value -> Prop) : Prop :=
  match x, y with
  | .af (.int k a), .af (.int k' b) =>
    (match op with
     | .shl => 0 <= b /\ ∃ r, r = k.wrap (a * 2 ^ (min b.toNat k.bits)) /\ K (.int k r)
     | .shr => 0 <= b /\ ∃ r, r = a.fdiv (2 ^ (min b.toNat k.bits)) /\ K (.int k r)
     | op => k = k' /\ sint op k a b K)
  | .af (.bool a), .af (.bool b) =>
    (match op with | .eql => d = .bool /\ K (.bool (a == b)) | .neq => d = .bool /\ K (.bool (!(a == b))) | _ => False)
  | .af (.pointer none), .af (.pointer none) =>
    (match op with | .eql => d = .ptr /\ K (.bool true) | .neq => d = .ptr /\ K (.bool false) | _ => False)
  | .ro _ (.ptr _), .af (.pointer none) =>
    (match op with | .eql => d = .ptr /\ K (.bool false) | .neq => d = .ptr /\ K (.bool true) | _ => False)
  | .af (.string a), .af (.string b) =>
    (match op with
     | .add => a.size + b.size <= 9223372036854775807 /\ K (.string (a ++ b))
     | .eql => K (.bool (a.toList == b.toList))
     | .neq => K (.bool (!(a.toList == b.toList)))
     | .lss => K (.bool (Op.bytesLess a.toList b.toList))
     | .gtr => K (.bool (!Op.bytesLess a.toList b.toList && !(a.toList == b.toList)))
     | _ => False)
  | _, _ => False
def Wh (op:UnOp)(x:V)(K:Value->Prop):Prop:=
 match op,x with
 |.not,.af (.bool b)=>K (.bool (!b))
 |.neg,.af (.int k n)=>∃r,r=k.wrap (0 - n)/\K (.int k r)
 |_,_=>False
def Ff (s d:TK)(x:V)(K:Value->Prop):Prop:=
 match s,d,x with
 |.int _,.int k,.af (.int _ n)=>∃r,r=k.wrap n/\K (.int k r)
 |.str,.str,.af (.string s)=>K (.string s)
 |_,_,_=>False
def use (oh:OH)(id ver:Nat)(K:Obj->Prop):Prop:=
 match ae oh id with
 |some o=>o.ver=ver/\o.live=true/\K o
 |none=>False
def Db (d:TK)(oh:OH)(x i:V)(k:Acc->Prop):Prop:=
 match d,x,i with
 |.sl _ sz ..,.ro f (.sl l),.af (.int _ n)=>
  0<=n/\∃t,l[n.toNat]?=some t/\t.cells.length=sz/\free k (.ro f (.ptr t.cells))
 |.sl _ sz ..,.own id ver off len,.af (.int _ n)=>
  0<=n/\n < len/\use oh id ver fun o=>o.sz=sz/\k ⟨[(id,o)],[],[],.ref id ver (off+n.toNat) 0⟩
 |_,_,_=>False
def rj (d:TK)(oh:OH)(x:V)(k:Acc->Prop):Prop:=
 match x with
 |.ro f (.ptr l)=>0 < d.size/\d.size<=l.length/\free k (V.cz d.isAgg ((l.take d.size).map (V.nC f)))
 |.ref id ver i foff=>use oh id ver fun o=>
  ∃e,o.el[i]?=some e/\0 < d.size/\foff+d.size<=e.cells.length/\k ⟨[(id,o)],[],[],V.cz d.isAgg ((e.cells.drop foff).take d.size)⟩
 |_=>False
def ee {α:Type}(l:List α)(off:Nat)(xs:List α):List α:=l.take off ++ xs ++ l.drop (off+xs.length)
def V.jV : V->Bool
 |.undef | .ba _=>false
 |_=>true
def V.put (e:V)(off:Nat)(xs:List V):V:=
 match e with
 |.agg l=>.agg (ee l off xs)
 |_=>V.cz false xs
def CV (d:TK)(oh:OH)(x v:V)(k:Acc->Prop):Prop:=
 match x with
 |.ref id ver i foff=>use oh id ver fun o=>
  ∃e,o.el[i]?=some e/\v.jV=true/\0 < d.size/\v.cells.length=d.size/\foff+d.size<=e.cells.length/\k ⟨[(id,o)],[],[(id,⟨o.sz,o.el.set i (e.put foff v.cells),o.ver,o.live⟩)],.undef⟩
 |_=>False
def De (d : TK) (oh : OH) (x : V) (f : Nat) (k : Acc -> Prop) : Prop :=
  match d with
  | .st fs _ =>
    (match fs[f]? with
     | some (off, sz) => sz ≠ 0 /\
       (match x with
        | .ro fr (.ptr l) => off <= l.length /\ free k (.ro fr (.ptr (l.drop off)))
        | .ref id ver i foff => use oh id ver fun o => k ⟨[(id, o)], [], [], .ref id ver i (foff + off)⟩
        | _ => False)
     | none => False)
  | _ => False
def lj : OH->Nat
 | []=>0
 |(i,_) :: r=>if lj r<=i then i+1 else lj r
inductive fresh (oh:OH)(K:Nat->Prop):Prop
 |mk (c:Nat) (h:ae oh c=none) (hk:K c)
def Ke (oh:OH)(v:V)(k:Acc->Prop):Prop:=
 v.jV=true/\fresh oh fun c=>k ⟨[],[c],[(c,⟨v.cells.length,[v],0,true⟩)],.ref c 0 0 0⟩
def wv (fs : List (Nat × Nat)) : List V -> List (Nat × V) -> (List V -> Prop) -> Prop
  | cs, [], K => K cs
  | cs, (i, v) :: r, K =>
    (match fs[i]? with
     | some (off, sz) => v.jV = true /\ v.cells.length = sz /\ off + sz <= cs.length /\ wv fs (ee cs off v.cells) r K
     | none => False)
def Df (d:TK)(parts:List (Nat×V))(k:Acc->Prop):Prop:=
 match d with
 |.st fs z=>wv fs (z.map V.bI) parts fun cs=>free k (.agg cs)
 |.arr n _ esz z=>wv ((List.range n).map fun j=>(j * esz,esz)) (z.map V.bI) parts fun cs=>free k (.agg cs)
 |_=>False
def RR (d:TK)(oh:OH)(x:V)(k:Acc->Prop):Prop:=
 match d,x with
 |.sl ..,.ro _ (.sl l)=>free k (.af (.int .i64 l.length))
 |.sl ..,.own id ver _ len=>use oh id ver fun o=>k ⟨[(id,o)],[],[],.af (.int .i64 len)⟩
 |.sl ..,.emp=>free k (.af (.int .i64 0))
 |.str,.af (.string s)=>free k (.af (.int .i64 s.size))
 |_,_=>False
def Cu (x:Option V)(a:Int)(K:Int->Prop):Prop:=
 match x with
 |none=>K a
 |some (.af (.int _ n))=>K n
 |_=>False
def Rj (l:List T)(sz:Nat):Prop:=∀t ∈ l,t.cells.length=sz
def CW (d:TK)(oh:OH)(x:V)(lo hi mx:Option V)(k:Acc->Prop):Prop:=
 match mx with
 |some m=>
  match d,x,hi with
  |.sl ..,.ro _ (.sl _),some h=>Cu lo 0 fun a=>Cu (some h) 0 fun b=>Cu (some m) 0 fun c=>a=0/\b=0/\c=0/\free k .emp
  |_,_,_=>False
 |none=>
  match d,x with
  |.sl _ sz ..,.ro f (.sl l)=>Rj l sz/\Cu lo 0 fun a=>Cu hi l.length fun b=>0<=a/\a<=b/\b<=l.length/\free k (.ro f (.sl ((l.drop a.toNat).take (b - a).toNat)))
  |.sl _ sz ..,.own id ver off len=>use oh id ver fun o=>o.sz=sz/\Cu lo 0 fun a=>Cu hi len fun b=>0<=a/\a<=b/\b<=len/\k ⟨[(id,o)],[],[],.own id ver (off+a.toNat) (b - a).toNat⟩
  |.sl ..,.emp=>Cu lo 0 fun a=>Cu hi 0 fun b=>a=0/\b=0/\free k .emp
  |.str,.af (.string s)=>Cu lo 0 fun a=>Cu hi s.size fun b=>0<=a/\a<=b/\b<=s.size/\free k (.af (.string (s.extract a.toNat b.toNat)))
  |_,_=>False
def JT (d:TK)(oh:OH)(l c:V)(k:Acc->Prop):Prop:=
 match d,l,c with
 |.sl _ sz by_ ag z,.af (.int _ n),.af (.int _ m)=>
  n<=m/\0<=n/\m<=9223372036854775807/\m * by_<=140737488355328/\z.length=sz/\0 < sz/\
   fresh oh fun c=>k ⟨[],[c],[(c,⟨sz,List.replicate m.toNat (V.cz ag (z.map V.bI)),0,true⟩)],.own c 0 0 n.toNat⟩
 |_,_,_=>False
def elems (oh:OH)(x:V)(K:OH->List V->Prop):Prop:=
 match x with
 |.emp=>K [] []
 |.ro f (.sl l)=>K [] (l.map (V.IL f))
 |.own id ver off len=>use oh id ver fun o=>K [(id,o)] ((o.el.drop off).take len)
 |_=>False
def xW (d : TK) (oh : OH) (x y : V) (k : Acc -> Prop) : Prop :=
  match d with
  | .sl _ sz by_ _ z => z.length = sz /\ 0 < sz /\ elems oh y fun pre ys =>
    (match x with
     | .emp =>
       ys.length <= 9223372036854775807 /\ ys.length * by_ <= 140737488355328 /\ (∀ y ∈ ys, y.cells.length = sz) /\
       fresh oh fun c => k ⟨pre, [c], [(c, ⟨sz, ys, 0, true⟩)], .own c 0 0 ys.length⟩
     | .own id ver 0 len => use oh id ver fun o => o.sz = sz /\
       len + ys.length <= 9223372036854775807 /\ (len + ys.length) * by_ <= 140737488355328 /\ (∀ y ∈ ys, y.cells.length = sz) /\
       k ⟨(id, o) :: pre, [], [(id, ⟨sz, o.el.take len ++ ys, ver + 1, true⟩)], .own id (ver + 1) 0 (len + ys.length)⟩
     | _ => False)
  | _ => False
def xS (d:TK)(oh:OH)(x i:V)(ok:Bool)(k:Acc->Prop):Prop:=False
def CX (d:TK)(oh:OH)(r:Option V)(k:Acc->Prop):Prop:=False
def CY (d:TK)(oh:OH)(x i v:V)(k:Acc->Prop):Prop:=False
def VO (lt:Bool)(x y:V)(K:Value->Prop):Prop:=
 match x,y with
 |.af (.int k a),.af (.int k' b)=>k=k'/\∃r,r=(match lt with | true=>(if b < a then b else a) | false=>(if a < b then b else a))/\K (.int k r)
 |_,_=>False
def V.fn? : V->Option FuncId
 |.af (.func (.func f) a b)=>(match a.toList,b.toList with | [],[]=>some f | _,_=>none)
 |_=>none
def RS (tt:TypeId->TK)(d:TK)(x i:V)(k:Acc->Prop):Prop:=
 match d,x,i with
 |.str,.af (.string s),.af (.int _ n)=>0<=n/\∃b:UInt8,s[n.toNat]?=some b/\free k (.af (.int .u8 b.toNat))
 |.arr len el esz _,.agg l,.af (.int _ n)=>0<=n/\n < len/\0 < esz/\(tt el).size=esz/\n.toNat * esz+esz<=l.length/\free k (V.cz (tt el).isAgg ((l.drop (n.toNat * esz)).take esz))
 |_,_,_=>False
def tH (x:V)(i:Nat)(k:Acc->Prop):Prop:=
 match x with
 |.ba l=>∃v,l[i]?=some v/\free k v
 |_=>False
def chunks (sz:Nat)(ag:Bool):Nat->List V->List V
 |0,_=>[]
 |n+1,l=>V.cz ag (l.take sz) :: chunks sz ag n (l.drop sz)
def lR (d:TK)(oh:OH)(len:Nat)(parts:List (Nat×V))(k:Acc->Prop):Prop:=
 match d with
 |.sl _ sz _ ag z=>0 < sz/\z.length=sz/\len * sz<=16777216/\
  wv ((List.range len).map fun i=>(i * sz,sz)) (List.replicate len (z.map V.bI)).flatten parts fun us=>
   fresh oh fun c=>k ⟨[],[c],[(c,⟨sz,chunks sz ag len us,0,true⟩)],.own c 0 0 len⟩
 |_=>False
def V.oU : V->Prop
 |.af _=>True
 |.agg l=>∀v ∈ l,∃c,v=.af c
 |_=>False
def V.toT1 : V->Option T
 |.af v=>some (.af v)
 |.ro _ t=>some t
 |.emp=>some (.sl [])
 |_=>none
def toTs : List V->Option (List T)
 | []=>some []
 |x :: r=>match V.toT1 x,toTs r with | some t,some ts=>some (t :: ts) | _,_=>none
def V.toT : V->Option T
 |.agg l=>match toTs l with | some ts=>some (.agg ts) | none=>none
 |x=>V.toT1 x
def toTA : List V->Option (List T)
 | []=>some []
 |x :: r=>match V.toT x,toTA r with | some t,some ts=>some (t :: ts) | _,_=>none
def RP (oh:OH)(x:V)(k:Acc->Prop):Prop:=
 match x with
 |.ref id ver i foff=>use oh id ver fun o=>k ⟨[(id,o)],[],[],.ref id ver i foff⟩
 |.ro f (.ptr l)=>free k (.ro f (.ptr l))
 |_=>False
inductive jF (oh:OH)(f:Bool):V->T->Prop
 |af (v:Value):jF oh f (.af v) (.af v)
 |ro (f':Bool) (t:T) (h:f=true->f'=true):jF oh f (.ro f' t) t
 |emp:jF oh f .emp (.sl [])
 |own (id ver off len:Nat) (o:Obj) (ts:List T) (ho:ae oh id=some o) (hv:o.ver=ver) (hl:o.live=true) (hn:ts.length=len)
   (hs:∀(i:Nat) (e:V) (t:T),i < len->o.el[off+i]?=some e->ts[i]?=some t->t.cells.length=e.cells.length)
   (hc:∀(i:Nat) (e:V) (t:T) (j:Nat) (v:V) (u:T),i < len->o.el[off+i]?=some e->ts[i]?=some t->e.cells[j]?=some v->t.cells[j]?=some u->jF oh f v u) :
   jF oh f (.own id ver off len) (.sl ts)
 |ref (id ver i foff:Nat) (o:Obj) (e:V) (ts:List T) (ho:ae oh id=some o) (hv:o.ver=ver) (hl:o.live=true) (he:o.el[i]?=some e) (hn:foff+ts.length=e.cells.length)
   (hc:∀(j:Nat) (v:V) (u:T),e.cells[foff+j]?=some v->ts[j]?=some u->jF oh f v u):jF oh f (.ref id ver i foff) (.ptr ts)
 |jq (t:TypeId) (id ver i foff:Nat) (u:T) (h:jF oh f (.ref id ver i foff) u):jF oh f (.wr (.jq t) id ver i foff) (.jq t u)
def gM (oh:OH)(f:Bool):V->T->Prop
 |.agg l,.agg ts=>l.length=ts.length/\∀(j:Nat) (v:V) (t:T),l[j]?=some v->ts[j]?=some t->jF oh f v t
 |.agg _,_=>False
 |v,t=>jF oh f v t
def TB (oh:OH)(vs:List V)(ts:List T):Prop:=vs.length=ts.length/\∀(j:Nat) (v:V) (t:T),vs[j]?=some v->ts[j]?=some t->gM oh false v t
def T.LH : T->Bool
 |.af _=>true
 |_=>false
def T.plain : T->Bool
 |.af _=>true
 |.ba l=>l.all T.LH
 |_=>false
structure MO where
 id:Nat
 sz:Nat
 a:List V
 b:List V
def MO.pre (x:MO):Nat×Obj:=(x.id,⟨x.sz,x.a,0,true⟩)
def MO.post (x:MO):Nat×Obj:=(x.id,⟨x.sz,x.b,0,true⟩)
inductive XG where
 |data (f:Bool) (t:T)
 |Br (oh:OH) (v:V)
 |OZ (M:List MO) (vs:List V) (f:Bool) (t:T)
 |gen (pre:OH) (nw:List Nat) (vs:List V) (post:OH) (r:V)
abbrev CT :=FuncId->List T->XG->Prop
inductive IU (m vo:Nat->Nat):V->V->Prop
 |af (v:Value):IU m vo (.af v) (.af v)
 |ro (f:Bool) (t:T):IU m vo (.ro f t) (.ro false t)
 |emp:IU m vo .emp .emp
 |own (i off len:Nat):IU m vo (.own (m i) (vo i) off len) (.own i 0 off len)
 |ref (i k foff:Nat):IU m vo (.ref (m i) (vo i) k foff) (.ref i 0 k foff)
def Xg (m vo:Nat->Nat):List V->List V->Prop
 | [],[]=>True
 |v :: r,u :: s=>IU m vo v u/\Xg m vo r s
 |_,_=>False
def Xp (m vo:Nat->Nat)(v u:V):Prop:=
 match u with
 |.agg l=>(match v with | .agg l'=>Xg m vo l' l | _=>False)
 |u=>IU m vo v u
def VX (m vo:Nat->Nat):List V->List V->Prop
 | [],[]=>True
 |v :: r,u :: s=>Xp m vo v u/\VX m vo r s
 |_,_=>False
def It (M:List MO):V->Prop
 |.own i .. | .ref i ..=>∃y ∈ M,y.id=i
 |_=>True
def Is (M:List MO):List V->Prop
 | []=>True
 |.agg l :: r=>(∀v ∈ l,It M v)/\Is M r
 |v :: r=>It M v/\Is M r
def Tz (C:CT)(q:FuncId)(args:List V)(oh:OH)(k:Acc->Prop):Prop:=
 ∃(M:List MO) (vs:List V) (fr:Bool) (r:T) (m vo:Nat->Nat),C q [] (.OZ M vs fr r)/\Is M vs/\VX m vo args vs/\(∀x ∈ M,ae oh (m x.id)=some ⟨x.sz,x.a,vo x.id,true⟩)/\
  (∀x ∈ M,∀y ∈ M,m x.id=m y.id->x.id=y.id)/\(fr ||r.plain)=true/\
  k ⟨M.map fun x=>(m x.id,⟨x.sz,x.a,vo x.id,true⟩),[],M.map fun x=>(m x.id,⟨x.sz,x.b,vo x.id,true⟩),V.FE fr r⟩
def V.Sb (m vo:Nat->Nat):V->V
 |.own i ver off len=>.own (m i) (vo i+ver) off len
 |.ref i ver k foff=>.ref (m i) (vo i+ver) k foff
 |.wr w i ver k foff=>.wr w (m i) (vo i+ver) k foff
 |v=>v
def V.oI (m vo:Nat->Nat):V->V
 |.agg l=>.agg (l.map (V.Sb m vo))
 |v=>V.Sb m vo v
def V.rn (m vo:Nat->Nat):V->V
 |.ba l=>.ba (l.map (V.oI m vo))
 |v=>V.oI m vo v
def Obj.rn (m vo:Nat->Nat)(i:Nat)(o:Obj):Obj:=⟨o.sz,o.el.map (V.oI m vo),vo i+o.ver,o.live⟩
def pN (m vo:Nat->Nat)(oh:OH):OH:=oh.map fun p=>(m p.1,p.2.rn m vo p.1)
def V.VZ : V->V
 |.ro _ t=>.ro false t
 |v=>v
def V.wk : V->V
 |.agg l=>.agg (l.map V.VZ)
 |v=>v.VZ
def oH (C:CT)(q:FuncId)(args:List V)(oh:OH)(k:Acc->Prop):Prop:=
 ∃(pre:OH) (nw:List Nat) (vs:List V) (post:OH) (r:V) (m vo:Nat->Nat),C q [] (.gen pre nw vs post r)/\args.map V.wk=vs.map (V.oI m vo)/\(∀p ∈ pre,ae oh (m p.1)=some (p.2.rn m vo p.1))/\
  (∀i ∈ nw,ae oh (m i)=none)/\(∀i ∈ pre.map (·.1) ++ nw,∀j ∈ pre.map (·.1) ++ nw,m i=m j->i=j)/\k ⟨pN m vo pre,nw.map m,pN m vo post,r.rn m vo⟩
def V.MY (d:Nat):V->V
 |.own id ver off len=>.own (id+d) ver off len
 |.ref id ver i foff=>.ref (id+d) ver i foff
 |.wr w id ver i foff=>.wr w (id+d) ver i foff
 |v=>v
def V.Hl (d:Nat):V->V
 |.agg l=>.agg (l.map (V.MY d))
 |v=>V.MY d v
def V.sh (d:Nat):V->V
 |.ba l=>.ba (l.map (V.Hl d))
 |v=>V.Hl d v
def Obj.sh (d:Nat)(o:Obj):Obj:=⟨o.sz,o.el.map (V.Hl d),o.ver,o.live⟩
def ny (d:Nat)(oh:OH):OH:=oh.map fun p=>(p.1+d,p.2.sh d)
inductive yZ (oh on:OH)(K:Nat->Prop):Prop
 |mk (d:Nat) (h:∀i,i ∈ (ny d on).map (·.1)->ae oh i=none) (hk:K d)
def RQ (oh:OH)(f:Fn)(a b:List V)(k:Acc->Prop):Prop:=
 match f,a,b with
 |.func q,[],[]=>free k (.af (.func (.func q) #[] #[]))
 |.func q,[.ref id ver i foff],[]=>use oh id ver fun o=>k ⟨[(id,o)],[],[],.wr (.Tf q) id ver i foff⟩
 |.func q,[],[.ref id ver i foff]=>use oh id ver fun o=>k ⟨[(id,o)],[],[],.wr (.TH q) id ver i foff⟩
 |_,_,_=>False
def Uq (d : TK) (t : TypeId) (oh : OH) (x : V) (k : Acc -> Prop) : Prop :=
  d = .ptr /\
  (match x with
   | .ref id ver i foff => use oh id ver fun o => k ⟨[(id, o)], [], [], .wr (.jq t) id ver i foff⟩
   | .ro f (.ptr l) => free k (.ro f (.jq t (.ptr l)))
   | _ => False)
def Cz (f:V)(l:List V):Option (FuncId×List V):=
 match f with
 |.wr (.Tf q) id ver i foff=>some (q,.ref id ver i foff :: l)
 |.wr (.TH q) id ver i foff=>some (q,l ++ [.ref id ver i foff])
 |_=>none
def VH (C:CT)(q:FuncId)(ts:List T)(oh:OH)(k:Acc->Prop):Prop:=∃oh' v,C q ts (.Br oh' v)/\yZ oh oh' fun d=>k ⟨[],(ny d oh').map (·.1),ny d oh',v.sh d⟩
def V.VR : V->Bool
 |.ro f _=>f
 |_=>true
def V.TI : V->Bool
 |.agg l=>l.all V.VR
 |v=>V.VR v
def V.XB : V->Bool
 |.ba l=>l.all V.TI
 |v=>V.TI v
def MT (C:CT)(q:FuncId)(args:List V)(oh:OH)(k:Acc->Prop):Prop:=
 ∃(ts:List T) (on:OH) (v:V) (pre:OH),C q ts (.Br on v)/\(∀p ∈ pre,ae oh p.1=some p.2)/\TB pre args ts/\v.XB=true/\(∀p ∈ on,∀e ∈ p.2.el,e.TI=true)/\
  yZ oh on fun d=>k ⟨pre,(ny d on).map (·.1),ny d on,v.sh d⟩
def WX : V->Bool
 |.ref ..=>true
 |.wr ..=>true
 |.af .nilIface=>true
 |.ro _ (.jq _ _)=>true
 |_=>false
def LG : Operand->Bool
 |.const _=>true
 |_=>false
def uR (op:BinOp)(b:Bool)(K:Bool->Prop):Prop:=
 match op with
 |.eql=>K b
 |.neq=>K (!b)
 |_=>False
def Kc (d:TK)(op:BinOp)(c:Bool)(oh:OH)(x y:V)(k:Acc->Prop):Prop:=
 match d,x,y with
 |.ptr,.ref id ver _ _,.af (.pointer none)=>use oh id ver fun o=>uR op false fun r=>k ⟨[(id,o)],[],[],.af (.bool r)⟩
 |.jq,.wr (.jq _) id ver _ _,.af .nilIface=>use oh id ver fun o=>uR op false fun r=>k ⟨[(id,o)],[],[],.af (.bool r)⟩
 |.jq,.ro _ (.jq _ _),.af .nilIface=>uR op false fun r=>free k (.af (.bool r))
 |.jq,.af .nilIface,.af .nilIface=>c=true/\uR op true fun r=>free k (.af (.bool r))
 |_,_,_=>False
def VJ (P:Program)(t:TypeId)(ks:List TK):Prop:=
 P.stoodInHeld t=false/\P.eqGuardType P.depth t=false/\∃fs,P.underlying t=some (.struct fs)/\fs.size=ks.length/\
  ∀(i:Nat) (f:Field),fs[i]?=some f->f.offset=i/\f.name≠ "_"/\∃k,ks[i]?=some k/\tk P f.type=k/\(k=.bool\/k=.str\/∃q,k=.int q)
def Ns : TK->V->V->Option Bool
 |.int _,.af (.int k a),.af (.int k' b)=>if k=k' then some (a == b) else none
 |.str,.af (.string a),.af (.string b)=>some (a.toList == b.toList)
 |.bool,.af (.bool a),.af (.bool b)=>some (a == b)
 |_,_,_=>none
def xu : List TK->List V->List V->Option Bool
 | [],[],[]=>some true
 |k :: q,x :: r,y :: s=>(match Ns k x y with | some true=>xu q r s | some false=>some false | none=>none)
 |_,_,_=>none
def RT (P:Program)(t:TypeId)(op:BinOp)(x y:V)(k:Acc->Prop):Prop:=
 match x,y with
 |.agg l,.agg m=>∃(ks:List TK) (b:Bool),VJ P t ks/\l.length=ks.length/\m.length=ks.length/\xu ks l m=some b/\uR op b fun r=>free k (.af (.bool r))
 |_,_=>False
def V.WL : V->Bool
 |.agg _=>true
 |_=>false
def Kd (sd ed:TK)(x:V)(k:Acc->Prop):Prop:=
 match sd,ed,x with
 |.str,.int .u8,.af (.string b)=>b.size<=140737488355328/\free k (.ro true (.sl (b.data.toList.map fun c=>.af (.int .u8 c.toNat))))
 |_,_,_=>False
def RF (ed:TK)(oh:OH)(x:V)(k:Acc->Prop):Prop:=
 match ed,x with
 |.int .u8,.own id ver off len=>use oh id ver fun o=>o.sz=1/\∃l:List UInt8,(o.el.drop off).take len=l.map (fun b=>V.af (.int .u8 b.toNat))/\l.length=len/\k ⟨[(id,o)],[],[],.af (.string ⟨l.toArray⟩)⟩
 |.int .u8,.ro _ (.sl ts)=>∃l:List UInt8,ts=l.map (fun b=>T.af (.int .u8 b.toNat))/\free k (.af (.string ⟨l.toArray⟩))
 |_,_=>False
def Kb (s d:TK)(se:TypeId->TK)(oh:OH)(x:V)(k:Acc->Prop):Prop:=
 match d with
 |.sl e' _ _ _ _=>Kd s (se e') x k
 |.str=>(match s with | .sl e' _ _ _ _=>RF (se e') oh x k | s=>Ff s .str x fun v=>free k (.af v))
 |d=>Ff s d x fun v=>free k (.af v)
def step (P : Program) (C : CT) (o : Oper) (e : Operand -> V) (oh : OH) (k : Acc -> Prop) : Prop :=
  match o.op with
  | .move x | .assign x => free k (e x)
  | .pick c a b => (match e c with | .af (.bool t) => (match t with | true => free k (e a) | false => free k (e b)) | _ => False)
  | .binOp op t x y _ => (match WX (e x) with | true => Kc (tk P t) op (LG y) oh (e x) (e y) k | false => (match V.WL (e x) with | true => RT P t op (e x) (e y) k | false => Oe (tk P t) op (e x) (e y) fun v => free k (.af v)))
  | .unOp op _ x => Wh op (e x) fun v => free k (.af v)
  | .convert s d x => Kb (tk P s) (tk P d) (tk P) oh (e x) k
  | .indexAddr t x i => Db (tk P t) oh (e x) (e i) k
  | .load t x => rj (tk P t) oh (e x) k
  | .store t x v => CV (tk P t) oh (e x) (e v) k
  | .fieldAddr t x f => De (tk P t) oh (e x) f k
  | .box _ x => Ke oh (e x) k
  | .alloc t => Ke oh (tz P t) k
  | .build t ps => Df (tk P t) (ps.toList.map fun p => (p.1, e p.2)) k
  | .index t x i => RS (tk P) (tk P t) (e x) (e i) k
  | .nilCheck x => RP oh (e x) k
  | .extract x i => tH (e x) i k
  | .buildSlice t len ps => lR (tk P t) oh len (ps.toList.map fun p => (p.1, e p.2)) k
  | .slice t x lo hi mx => CW (tk P t) oh (e x) (lo.map e) (hi.map e) (mx.map e) k
  | .makeSlice t l c => JT (tk P t) oh (e l) (e c) k
  | .makeMap t r => CX (tk P t) oh (r.map e) k
  | .makeFunc f a b => RQ oh f (a.toList.map e) (b.toList.map e) k
  | .makeInterface t x => Uq (tk P t) t oh (e x) k
  | .lookup t x i ok => xS (tk P t) oh (e x) (e i) ok k
  | .mapUpdate t x i v => CY (tk P t) oh (e x) (e i) (e v) k
  | .call c =>
    (match c.callee with
     | .builtin .len => (match c.args.toList, c.argTypes.toList with | [x], [t] => RR (tk P t) oh (e x) k | _, _ => False)
     | .builtin .min => (match c.args.toList, c.argTypes.toList with | [x, y], [_, _] => VO true (e x) (e y) fun v => free k (.af v) | _, _ => False)
     | .builtin .max => (match c.args.toList, c.argTypes.toList with | [x, y], [_, _] => VO false (e x) (e y) fun v => free k (.af v) | _, _ => False)
     | .builtin .append => (match c.args.toList, c.argTypes.toList with | [x, y], [t, t'] => t = t' /\ xW (tk P t) oh (e x) (e y) k | _, _ => False)
     | .value f =>
       (match V.fn? (e f) with
        | some q =>
          (match toTA (c.args.toList.map e) with
           | some ts => (∃ fr r, C q ts (.data fr r) /\ free k (V.FE fr r)) \/ VH C q ts oh k
           | none => (∃ ts fr r, C q ts (.data fr r) /\ ∃ pre : OH, (∀ p ∈ pre, ae oh p.1 = some p.2) /\ TB pre (c.args.toList.map e) ts /\ (fr || r.plain) = true /\ k ⟨pre, [], [], V.FE fr r⟩) \/ Tz C q (c.args.toList.map e) oh k \/ oH C q (c.args.toList.map e) oh k \/ MT C q (c.args.toList.map e) oh k)
        | none => (match Cz (e f) (c.args.toList.map e) with | some (q, l) => True /\ oH C q l oh k | none => False))
     | _ => False)
  | _ => False
def St.app (s:St)(o:Oper)(v:V)(post:OH):St:=
 { s with env:=(match o.dst with|some d=>(d,v) :: s.env|none=>s.env),oh:=post ++ s.oh }
def fu : List Oper->Nat->Bool
 | [],_=>false
 |o :: r,i=>(match o.guard with | some (j,_)=>if j=i then true else fu r i | none=>fu r i)
def hY (v:V)(K:V->Prop):Prop:=
 match v with
 |.af (.bool b)=>(b=true->K (.af (.bool true)))/\(b=false->K (.af (.bool false)))
 |v=>K v
def cm (ops:Array Oper)(e:Env)(j:Nat):V:=match(ops[j]?).bind (·.dst) with|some d=>aA e d|none=>.undef
def sA (o:Oper):Option (TypeId×Operand×Bool):=
 match o.op with
 |.binOp .eql t x (.const (.slice none 0 0)) _=>some (t,x,true)
 |.binOp .neq t x (.const (.slice none 0 0)) _=>some (t,x,false)
 |_=>none
def OT (d:TK)(v:V)(K:Bool->Prop):Prop:=
 match d,v with
 |.sl ..,.ro _ (.sl l)=>∀b,(b=true->l=[])->K b
 |.sl ..,.emp=>∀b,K b
 |_,_=>False
def gK (P : Program) (C : CT) (ops : Array Oper) : Nat -> List Oper -> St -> (St -> Prop) -> Prop
  | _, [], s, K => K s
  | i, o :: r, s, K =>
    (match o.guard with
     | none =>
      (match sA o with
       | some (t, x, w) => OT (tk P t) (rS s.env x) fun b => gK P C ops (i + 1) r (s.app o (.af (.bool (b == w))) []) K
       | none => step P C o (rS s.env) s.oh fun a =>
       (match fu r i with
        | true => hY a.v fun v => gK P C ops (i + 1) r (s.app o v a.post) K
        | false => gK P C ops (i + 1) r (s.app o a.v a.post) K))
     | some (j, want) =>
       (match cm ops s.env j with
        | .af (.bool b) => (match b == want with | true => step P C o (rS s.env) s.oh fun a => (match fu r i with | true => hY a.v fun v => gK P C ops (i + 1) r (s.app o v a.post) K | false => gK P C ops (i + 1) r (s.app o a.v a.post) K) | false => gK P C ops (i + 1) r (s.app o (.ba []) []) K)
        | .ba [] => gK P C ops (i + 1) r (s.app o (.ba []) []) K
        | _ => False))
def Ef (P : Program) (C : CT) (ops : Array Oper) : Nat -> List Oper -> St -> List (Option Acc) -> (List (Option Acc) -> St -> Prop) -> Prop
  | _, [], s, tr, K => K tr s
  | i, o :: r, s, tr, K =>
    (match o.guard with
     | none => step P C o (rS s.env) s.oh fun a =>
       (match fu r i with
        | true => hY a.v fun v => Ef P C ops (i + 1) r (s.app o v a.post) (some { a with v := v } :: tr) K
        | false => Ef P C ops (i + 1) r (s.app o a.v a.post) (some a :: tr) K)
     | some (j, want) =>
       (match cm ops s.env j with
        | .af (.bool b) => (match b == want with | true => step P C o (rS s.env) s.oh fun a => (match fu r i with | true => hY a.v fun v => Ef P C ops (i + 1) r (s.app o v a.post) (some { a with v := v } :: tr) K | false => Ef P C ops (i + 1) r (s.app o a.v a.post) (some a :: tr) K) | false => Ef P C ops (i + 1) r (s.app o (.ba []) []) (none :: tr) K)
        | .ba [] => Ef P C ops (i + 1) r (s.app o (.ba []) []) (none :: tr) K
        | _ => False))
def vO (ops:Array Oper)(i j:Nat):Bool:=
 match ops[j]? with
 |some o=>o.after.toList.any fun e=>Nat.beq e.on i && Region.binds .any e
 |none=>false
def BW (ops:Array Oper)(i j:Nat):Bool:=
 match ops[j]? with
 |some o=>o.after.toList.any fun e=>Region.binds .any e && vO ops i e.on
 |none=>false
def Acc.wr (a:Acc):List Nat:=a.nw ++ a.post.map (·.1)
def Acc.all (a:Acc):List Nat:=a.pre.map (·.1) ++ a.wr
def SX (l m:List Nat):Bool:=l.all fun i=>m.all fun j=>!decide (i=j)
def indep : Option Acc->Option Acc->Bool
 |some a,some b=>SX a.wr b.all && SX b.wr a.all
 |_,_=>true
def sG (ops:Array Oper)(j:Nat)(x:Option Acc):List (Option Acc)->Bool
 | []=>true
 |y :: r=>((vO ops r.length j || indep y x) || BW ops r.length j) && sG ops j x r
def uX (ops:Array Oper):List (Option Acc)->Bool
 | []=>true
 |x :: r=>sG ops r.length x r && uX ops r
inductive X where
 |normal | ret | exit (id:Nat)
def X.seq (next:St->Prop)(Q:X->St->Prop):X->St->Prop
 |.normal,s=>next s
 |x,s=>Q x s
def X.block (id:Nat)(Q:X->St->Prop):X->St->Prop
 |.exit j,s=>if j=id then Q .normal s else Q (.exit j) s
 |x,s=>Q x s
def V.Gs (oh:OH):V->Prop
 |.own id .. | .ref id .. | .wr _ id ..=>(ae oh id).isSome=true
 |.af _ | .ro .. | .emp=>True
 |_=>False
def V.cl (oh:OH):V->Prop
 |.agg l=>∀v ∈ l,v.Gs oh
 |.undef=>True
 |v=>v.Gs oh
def de (oh:OH)(e:Env):Env->Prop
 | []=>True
 |(t,v) :: r=>aA e t=v/\v.cl oh/\de oh e r
def eV (oh:OH):OH->Prop
 | []=>True
 |(_,o) :: r=>(∀v ∈ o.el,v.cl oh)/\eV oh r
def gi (oh:OH):OH->Prop
 | []=>True
 |(i,o) :: r=>ae oh i=some o/\gi oh r
def Le (s1 s:St):Prop:=s1.n=s.n/\de s1.oh s.env s1.env/\gi s.oh s1.oh/\eV s1.oh s1.oh
def gL (s:St):List (Nat×Nat×Nat)->St
 | []=>s
 |(t,c,sz) :: r=>gL { s with env:=(t,.own c 0 0 0) :: s.env,oh:=(c,⟨sz,[],0,true⟩) :: s.oh } r
def pK (s:St):List (Nat×Nat×Nat)->Prop
 | []=>True
 |(t,c,sz) :: r=>aA s.env t=.emp/\ae s.oh c=none/\pK { s with env:=(t,.own c 0 0 0) :: s.env,oh:=(c,⟨sz,[],0,true⟩) :: s.oh } r
inductive iT (oh oh1:OH)(f:Bool):V->T->Prop
 |af (v:Value):iT oh oh1 f (.af v) (.af v)
 |ro (f':Bool) (t:T) (h:f=true->f'=true):iT oh oh1 f (.ro f' t) t
 |emp:iT oh oh1 f .emp (.sl [])
 |own (id ver off len:Nat) (o:Obj) (ts:List T) (ho:ae oh id=some o) (hd:ae oh1 id=none) (hv:o.ver=ver) (hl:o.live=true) (hn:ts.length=len)
   (hs:∀(i:Nat) (e:V) (t:T),i < len->o.el[off+i]?=some e->ts[i]?=some t->t.cells.length=e.cells.length)
   (hc:∀(i:Nat) (e:V) (t:T) (j:Nat) (v:V) (u:T),i < len->o.el[off+i]?=some e->ts[i]?=some t->e.cells[j]?=some v->t.cells[j]?=some u->iT oh oh1 f v u) :
   iT oh oh1 f (.own id ver off len) (.sl ts)
 |ref (id ver i foff:Nat) (o:Obj) (e:V) (ts:List T) (ho:ae oh id=some o) (hd:ae oh1 id=none) (hv:o.ver=ver) (hl:o.live=true) (he:o.el[i]?=some e) (hn:foff+ts.length=e.cells.length)
   (hc:∀(j:Nat) (v:V) (u:T),e.cells[foff+j]?=some v->ts[j]?=some u->iT oh oh1 f v u):iT oh oh1 f (.ref id ver i foff) (.ptr ts)
 |jq (t:TypeId) (id ver i foff:Nat) (u:T) (h:iT oh oh1 f (.ref id ver i foff) u):iT oh oh1 f (.wr (.jq t) id ver i foff) (.jq t u)
inductive Lc (oh oh1:OH):V->V->Prop
 |same (v:V) (h:v.Gs oh1):Lc oh oh1 v v
 |vM (f:Bool) (v:V) (t:T) (h:iT oh oh1 f v t):Lc oh oh1 v (V.nC f t)
 |gL (c:Nat) (o:Obj) (h0:ae oh c=none) (h1:ae oh1 c=some o):Lc oh oh1 .emp (.own c 0 0 0)
def LV (oh oh1:OH)(v v1:V):Prop:=
 match v1 with
 |.agg l1=>(match v with | .agg l=>l.length=l1.length/\∀(j:Nat) (a b:V),l[j]?=some a->l1[j]?=some b->Lc oh oh1 a b | _=>False)
 |v1=>Lc oh oh1 v v1
structure Lf (s1 s:St):Prop where
 n:s1.n=s.n
 oh:∀(i:Nat) (o1:Obj),ae s1.oh i=some o1->
  (∃o,ae s.oh i=some o/\o1.sz=o.sz/\o1.ver=o.ver/\o1.live=o.live/\o1.el.length=o.el.length/\∀(k:Nat) (e e1:V),o.el[k]?=some e->o1.el[k]?=some e1->LV s.oh s1.oh e e1)\/
  (ae s.oh i=none/\o1.el=[]/\o1.ver=0/\o1.live=true)
 env:∀t,aA s1.env t=.undef\/LV s.oh s1.oh (aA s.env t) (aA s1.env t)
inductive fg (m:Nat->Nat)(oh oh1:OH):V->V->Prop
 |af (v:Value):fg m oh oh1 (.af v) (.af v)
 |ro (f:Bool) (t:T):fg m oh oh1 (.ro f t) (.ro f t)
 |emp:fg m oh oh1 .emp .emp
 |own (id ver off len:Nat) (o:Obj) (ho:ae oh (m id)=some o) (hv:o.ver=ver) (h1:(ae oh1 id).isSome=true):fg m oh oh1 (.own (m id) ver off len) (.own id 0 off len)
 |ref (id ver i foff:Nat) (o:Obj) (ho:ae oh (m id)=some o) (hv:o.ver=ver) (h1:(ae oh1 id).isSome=true):fg m oh oh1 (.ref (m id) ver i foff) (.ref id 0 i foff)
 |wr (w:Wr) (id ver i foff:Nat) (o:Obj) (ho:ae oh (m id)=some o) (hv:o.ver=ver) (h1:(ae oh1 id).isSome=true):fg m oh oh1 (.wr w (m id) ver i foff) (.wr w id 0 i foff)
def jN (m:Nat->Nat)(oh oh1:OH)(v v1:V):Prop:=
 match v1 with
 |.agg l1=>(match v with | .agg l=>l.length=l1.length/\∀(j:Nat) (a b:V),l[j]?=some a->l1[j]?=some b->fg m oh oh1 a b | _=>False)
 |v1=>fg m oh oh1 v v1
structure Ren (oh oh1:OH)(m:Nat->Nat):Prop where
 inj:∀i j o1 o2,ae oh1 i=some o1->ae oh1 j=some o2->m i=m j->i=j
 obj:∀i o1,ae oh1 i=some o1->∃o,ae oh (m i)=some o/\o.live=true/\o1.live=true/\o1.ver=0/\o1.sz=o.sz/\o1.el.length=o.el.length/\
  ∀(k:Nat) (e e1:V),o.el[k]?=some e->o1.el[k]?=some e1->jN m oh oh1 e e1
structure Lr (s1 s:St):Prop where
 n:s1.n=s.n
 Ht:∃m,Ren s.oh s1.oh m/\∀t,aA s1.env t=.undef\/jN m s.oh s1.oh (aA s.env t) (aA s1.env t)
inductive Md where
 |le | lf | lr
def VI (fz:Md)(s1 s:St):Prop:=
 match fz with
 |.le=>Le s1 s
 |.lf=>Lf s1 s
 |.lr=>Lr s1 s
def Loop (body:St->(X->St->Prop)->Prop)(s:St)(Q:X->St->Prop):Prop:=
 ∃(f0 fz:Md) (σ:Type) (enc:σ->St) (I:σ->Prop) (μ:σ->Nat) (ads:List (Nat×Nat×Nat)) (z0:σ),pK s ads/\I z0/\VI f0 (enc z0) (gL s ads)/\
  ∀z,I z->body (enc z) (X.seq (fun s'=>∃z',I z'/\μ z' < μ z/\VI fz (enc z') s') Q)
def cK (P:Program)(C:CT):Code->St->(X->St->Prop)->Prop
 |.skip,s,Q=>Q .normal s
 |.seq a b,s,Q=>cK P C a s (X.seq (fun s'=>cK P C b s' Q) Q)\/cK P C a s (X.seq (fun s'=>∃fz s2,VI fz s2 s'/\cK P C b s2 Q) Q)
 |.cond c a b,s,Q=>(match rS s.env c with | .af (.bool t)=>(t=true->cK P C a s Q)/\(t=false->cK P C b s Q) | _=>False)
 |.block id c,s,Q=>cK P C c s (X.block id Q)
 |.loop c,s,Q=>Loop (fun s Q=>cK P C c s Q) s Q
 |.exit id,s,Q=>Q (.exit id) s
 |.ret,s,Q=>Q .ret s
 |.region _ ops false,s,Q=>gK P C ops 0 ops.toList s (Q .normal)
 |.region _ ops true,s,Q=>Ef P C ops 0 ops.toList s [] fun tr s'=>uX ops tr=true/\Q .normal s'
 |_,_,_=>False
def Ik (n:Nat)(ops:List Oper):Bool:=ops.all fun o=>match o.dst with|some d=>Nat.blt d n|none=>true
def Tn (ops:Array Oper):Bool:=
 (List.range ops.size).all fun j=>(List.range j).all fun i=>vO ops i j ||(match ops[i]?,ops[j]? with|some x,some y=>x.apart ops y|_,_=>false)
def QX (ops:Array Oper):Bool:=
 (List.range ops.size).all fun j=>match ops[j]? with|some o=>o.after.toList.all (fun e=>!Region.binds .any e ||Nat.blt e.on j)|none=>false
def okB (n:Nat):Code->Bool
 |.seq a b=>okB n a && okB n b
 |.cond _ a b=>okB n a && okB n b
 |.block _ c=>okB n c
 |.loop c=>okB n c
 |.region _ ops d=>Ik n ops.toList && (!d || (Tn ops && QX ops))
 |_=>true
def Dw (np:Nat)(ops:List Oper):Bool:=ops.all fun o=>match o.dst with|some d=>Nat.ble np d|none=>true
def fT (np:Nat):Code->Bool
 |.seq a b=>fT np a && fT np b
 |.cond _ a b=>fT np a && fT np b
 |.block _ c=>fT np c
 |.loop c=>fT np c
 |.region _ ops _=>Dw np ops.toList
 |_=>true
theorem wL (ops:List Oper):Dw 0 ops=true:=by
 unfold Dw;rw [F8];intro o _;split
 ·exact Nat.ble_eq_true_of_le (C0 _)
 ·rfl
theorem dF : ∀c:Code,fT 0 c=true
 |.seq a b=>by simp [fT,dF a,dF b]
 |.cond _ a b=>by simp [fT,dF a,dF b]
 |.block _ c=>by simp [fT,dF c]
 |.loop c=>by simp [fT,dF c]
 |.region _ ops _=>by simp [fT,wL]
 |.skip=>rfl
 |.ret=>rfl
 |.exit _=>rfl
 |.goto _=>rfl
 |.rangeFunc _ _ _ _=>rfl
 |.scope _=>rfl
 |.label _=>rfl
 |.refuse _=>rfl
def ef (P:Program)(s:St):ResultVar->(V->Prop)->Prop
 |.tmp t,K=>K (aA s.env t)
 |.cell a t,K=>rj (tk P t) s.oh (aA s.env a) fun x=>K x.v
def kz (P : Program) (fn : Func) (f : Bool) (r : T) (x : X) (s : St) : Prop :=
  (match x with | .exit _ => False | _ => True) /\
  (match fn.results.toList with
   | [] => r = .ba []
   | [a] => ef P s a fun v => gM s.oh f v r
   | [a, b] => ef P s a fun v => ef P s b fun u => ∃ t1 t2, r = .ba [t1, t2] /\ gM s.oh f v t1 /\ gM s.oh f u t2
   | [a, b, c] => ef P s a fun v => ef P s b fun u => ef P s c fun y => ∃ t1 t2 t3, r = .ba [t1, t2, t3] /\ gM s.oh f v t1 /\ gM s.oh f u t2 /\ gM s.oh f y t3
   | _ => False)
def la : Nat->List T->Env
 |_,[]=>[]
 |i,t :: r=>(i,V.FE false t) :: la (i+1) r
end Go.Ev
