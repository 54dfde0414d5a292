import Derived.Test.YtppbdmkbhalmpaaGreatDoorProg
import Derived.WalkKit
import Derived.LaidEql
import Derived.Stop.Asserts
import Derived.RowKitTokens
import Derived.Extends
import Derived.Test.YtppbdmkbhalmpaaGreatDoorLav
set_option linter.all false
set_option maxHeartbeats 4000000
set_option maxRecDepth 10000
namespace Go.Proofs.YtppbdmkbhalmpaaGreatDoor
open Go.RowKit Go.Extern.Stop Go.Stop Go.Extern
theorem Tryz.valueOf27 (t:Addr)(w:World):(ReflectliteValue.unpack (.iface 79 (.pointer (some t)))).run Tryz.prog w
  = .ok (.agg #[.pointer (some ⟨4,79,none⟩),.pointer (some ⟨w.heap.size,0,none⟩),.int .u64 150]) (w.alloc (.cells #[.pointer (some t)] 79)):=by kernel_rfl
theorem Tryz.type27 (a:Addr)(w:World):(ReflectliteValue.methodAny (ReflectliteValue.valueError "reflectlite.Value.Type" 0) (fun t _ _ _=>ReflectliteType.toType t) #[.agg #[.pointer (some ⟨4,79,none⟩),.pointer (some a),.int .u64 150]]).run Tryz.prog w
  = .ok (.iface 117 (.agg #[.pointer (some ⟨4,79,none⟩)])) w:=by kernel_rfl
theorem Tryz.methodKind (h:Value)(w:World):(Go.method 324 117 (.agg #[h]) "Kind").run Tryz.prog w=.ok (125,h) w:=by kernel_rfl
theorem Tryz.kind27 (w:World):((ReflectliteType.abiMethod fun t=>(fun a:Nat=>Value.int IntKind.u8 (a:Int)) <$> Rtype.kind t) #[.pointer (some ⟨4,79,none⟩)]).run Tryz.prog w=.ok (.int .u8 22) w:=by kernel_rfl
theorem Tryz.kind25 (w:World):((ReflectliteType.abiMethod fun t=>(fun a:Nat=>Value.int IntKind.u8 (a:Int)) <$> Rtype.kind t) #[.pointer (some ⟨4,63,none⟩)]).run Tryz.prog w=.ok (.int .u8 22) w:=by kernel_rfl
theorem rlm (z:Sem Value)(f:TypeId→Addr→Nat→Nat→Sem Value)(v:Value) :
  ReflectliteValue.method z f #[v]=(do match ← ReflectliteValue.parts v with|none=>z|some (t,a,fl)=>f t a fl (fl % 32)):=rfl
theorem Tryz.parts27 (a:Addr)(w:World):(ReflectliteValue.parts (.agg #[.pointer (some ⟨4,79,none⟩),.pointer (some a),.int .u64 150])).run Tryz.prog w=.ok (some (79,a,150)) w:=by kernel_rfl
theorem Tryz.isNil27 (a p:Addr)(W:World)(ha:W.cell? a=some (.pointer (some p))) :
  (ReflectliteValue.method (ReflectliteValue.valueError "reflectlite.Value.IsNil" 0) ReflectliteValue.isNil #[.agg #[.pointer (some ⟨4,79,none⟩),.pointer (some a),.int .u64 150]]).run Tryz.prog W=.ok (.bool false) W:=by
 rw [rlm]
 simp only [Sem.run_bind,Tryz.parts27,Result.andThen]
 simp [ReflectliteValue.isNil,loadVar,isAgg,underlying,Tryz.underlying79,ha,Result.andThen]
theorem Tryz.methodElem (h:Value)(w:World):(Go.method 324 117 (.agg #[h]) "Elem").run Tryz.prog w=.ok (137,.agg #[h]) w:=by kernel_rfl
theorem Tryz.methodImplements (h:Value)(w:World):(Go.method 324 117 (.agg #[h]) "Implements").run Tryz.prog w=.ok (138,.agg #[h]) w:=by kernel_rfl
theorem Tryz.methodAssignableTo (h:Value)(w:World):(Go.method 324 117 (.agg #[h]) "AssignableTo").run Tryz.prog w=.ok (135,.agg #[h]) w:=by kernel_rfl
theorem Tryz.elem27 (w:World):(ReflectliteType.method ReflectliteType.elem #[.agg #[.pointer (some ⟨4,79,none⟩)]]).run Tryz.prog w=.ok (.iface 117 (.agg #[.pointer (some ⟨4,63,none⟩)])) w:=by kernel_rfl
theorem Tryz.implements25 (w:World):(ReflectliteType.relation "Implements" ReflectliteType.implements_ #[.agg #[.pointer (some ⟨4,63,none⟩)],.iface 117 (.agg #[.pointer (some ⟨4,29,none⟩)])]).run Tryz.prog w=.ok (.bool true) w:=by kernel_rfl
theorem Tryz.typeOf25 (v:Value)(w:World):(ReflectliteType.typeOf #[.iface 63 v]).run Tryz.prog w=.ok (.iface 117 (.agg #[.pointer (some ⟨4,63,none⟩)])) w:=by kernel_rfl
theorem Tryz.assignable25 (w:World):(ReflectliteType.relation "AssignableTo" ReflectliteType.assignableTo #[.agg #[.pointer (some ⟨4,63,none⟩)],.iface 117 (.agg #[.pointer (some ⟨4,63,none⟩)])]).run Tryz.prog w=.ok (.bool true) w:=by kernel_rfl
theorem Tryz.valueOf25 (e:Addr)(w:World):(ReflectliteValue.unpack (.iface 63 (.pointer (some e)))).run Tryz.prog w
  = .ok (.agg #[.pointer (some ⟨4,63,none⟩),.pointer (some ⟨w.heap.size,0,none⟩),.int .u64 150]) (w.alloc (.cells #[.pointer (some e)] 63)):=by kernel_rfl
theorem Tryz.elemOf27 (w:World):(Rtype.elem? 79).run Tryz.prog w=.ok (some 63) w:=by kernel_rfl
theorem Tryz.mk25 (p:Addr)(w:World):(ReflectliteValue.mk 63 p ReflectliteValue.flagAddr).run Tryz.prog w=.ok (.agg #[.pointer (some ⟨4,63,none⟩),.pointer (some p),.int .u64 406]) w:=by kernel_rfl
theorem Tryz.elemV27 (a p:Addr)(W:World)(ha:W.cell? a=some (.pointer (some p))) :
  (ReflectliteValue.method (ReflectliteValue.valueError "reflectlite.Value.Elem" 0) ReflectliteValue.elem #[.agg #[.pointer (some ⟨4,79,none⟩),.pointer (some a),.int .u64 150]]).run Tryz.prog W
   = .ok (.agg #[.pointer (some ⟨4,63,none⟩),.pointer (some p),.int .u64 406]) W:=by
 rw [rlm]
 simp only [Sem.run_bind,Tryz.parts27,Result.andThen]
 simp [ReflectliteValue.elem,loadVar,isAgg,underlying,Tryz.underlying79,ha,Result.andThen,Tryz.elemOf27,Tryz.mk25]
theorem rls (v x:Value):ReflectliteValue.set #[v,x]=(do
  let (some (dst,a,fl),some (src,b,_)):=(← ReflectliteValue.parts v,← ReflectliteValue.parts x)
   |unsupported (.noEntry "extern/(internal/reflectlite.Value).Set.zeroValue")
  if fl / ReflectliteValue.flagAddr % 2 == 0 then unsupported (.noEntry "extern/(internal/reflectlite.Value).Set.unaddressable")
  let val ← loadVar src b
  if ← Rtype.directlyAssignable dst src then storeVar dst a val
  else if ← Rtype.implements dst src then
   if(← Rtype.kind src) == 20 then
    match val with
    |.nilIface=>unsupported (.noEntry "extern/reflectlite: a nil value of one interface type handed on as a value of another")
    |_=>storeVar dst a val
   else storeVar dst a (.iface src val)
  else panicString ("reflectlite.Set: value of type " ++ (← Rtype.spelt src) ++ " is not assignable to type " ++ (← Rtype.spelt dst))
  pure (.tuple #[])):=rfl
theorem Tryz.parts25a (a:Addr)(w:World):(ReflectliteValue.parts (.agg #[.pointer (some ⟨4,63,none⟩),.pointer (some a),.int .u64 406])).run Tryz.prog w=.ok (some (63,a,406)) w:=by kernel_rfl
theorem Tryz.parts25 (a:Addr)(w:World):(ReflectliteValue.parts (.agg #[.pointer (some ⟨4,63,none⟩),.pointer (some a),.int .u64 150])).run Tryz.prog w=.ok (some (63,a,150)) w:=by kernel_rfl
theorem Tryz.direct25 (w:World):(Rtype.directlyAssignable 63 63).run Tryz.prog w=.ok true w:=by kernel_rfl
theorem Tryz.set25 (ta b e:Addr)(old:Value)(W:World)(hb:W.cell? b=some (.pointer (some e)))(ht:W.cell? ta=some old)(hf:W.frozen? ta=false) :
  (ReflectliteValue.set #[.agg #[.pointer (some ⟨4,63,none⟩),.pointer (some ta),.int .u64 406],.agg #[.pointer (some ⟨4,63,none⟩),.pointer (some b),.int .u64 150]]).run Tryz.prog W
   = .ok (.tuple #[]) (W.setCell ta (.pointer (some e))):=by
 rw [rls]
 simp only [Sem.run_bind,Tryz.parts25a,Tryz.parts25,Result.andThen]
 simp [ReflectliteValue.flagAddr,loadVar,isAgg,underlying,Tryz.underlying63,hb,Result.andThen,Tryz.direct25,storeVar,Value.cells,storeCells,Addr.add]
 rw [run_store Tryz.prog W ta _ _ (by rfl)]
 simp [ht,hf]
set_option maxHeartbeats 4000000 in
theorem as_hit (e t:Addr)(old:Value)(w:World)(hg:w.cell? ⟨0,0,none⟩=some (.iface 117 (.agg #[.pointer (some ⟨4,29,none⟩)])))(ht0:w.cell? t=some old)(hf0:w.frozen? t=false) :
  Calls Tryz.prog 23 #[.iface 63 (.pointer (some e)),.iface 79 (.pointer (some t))] w fun ev w'=>ev=.returned (.bool true)∧w'=((((w.alloc (.cells #[.pointer (some t)] 79)).alloc (.cells #[.pointer (some ⟨4,79,none⟩),.pointer (some ⟨w.heap.size,0,none⟩),.int .u64 150] 99)).alloc (.cells #[.pointer (some ⟨4,79,none⟩),.pointer (some ⟨w.heap.size,0,none⟩),.int .u64 150] 99)).alloc (.cells #[.pointer (some e)] 63)).setCell t (.pointer (some e)):=by
 have h6:=@run_callFunc_extern Tryz.prog 34 _ (fun args=>ReflectliteValue.unpack (args.getD 0 (.tuple #[]))) Tryz.func34 (by kernel_rfl) (by kernel_rfl) (by kernel_rfl) (by kernel_rfl)
 have h7:=@run_callFunc_extern Tryz.prog 35 _ (ReflectliteValue.methodAny (ReflectliteValue.valueError "reflectlite.Value.Type" 0) (fun t _ _ _=>ReflectliteType.toType t)) Tryz.func35 (by kernel_rfl) (by kernel_rfl) (by kernel_rfl) (by kernel_rfl)
 have h8:=@run_callFunc_extern Tryz.prog 36 _ (ReflectliteValue.method (ReflectliteValue.valueError "reflectlite.Value.IsNil" 0) ReflectliteValue.isNil) Tryz.func36 (by kernel_rfl) (by kernel_rfl) (by kernel_rfl) (by kernel_rfl)
 have h27:=@run_callFunc_extern Tryz.prog 125 _ (ReflectliteType.abiMethod fun t=>do pure (.int .u8 (← Rtype.kind t))) Tryz.func125 (by kernel_rfl) (by kernel_rfl) (by kernel_rfl) (by kernel_rfl)
 have h37:=@run_callFunc_extern Tryz.prog 137 _ (ReflectliteType.method ReflectliteType.elem) Tryz.func137 (by kernel_rfl) (by kernel_rfl) (by kernel_rfl) (by kernel_rfl)
 have h38:=@run_callFunc_extern Tryz.prog 138 _ (ReflectliteType.relation "Implements" ReflectliteType.implements_) Tryz.func138 (by kernel_rfl) (by kernel_rfl) (by kernel_rfl) (by kernel_rfl)
 have h10:=@run_callFunc_extern Tryz.prog 43 _ ReflectliteType.typeOf Tryz.func43 (by kernel_rfl) (by kernel_rfl) (by kernel_rfl) (by kernel_rfl)
 have h35:=@run_callFunc_extern Tryz.prog 135 _ (ReflectliteType.relation "AssignableTo" ReflectliteType.assignableTo) Tryz.func135 (by kernel_rfl) (by kernel_rfl) (by kernel_rfl) (by kernel_rfl)
 have h11:=@run_callFunc_extern Tryz.prog 44 _ (ReflectliteValue.method (ReflectliteValue.valueError "reflectlite.Value.Elem" 0) ReflectliteValue.elem) Tryz.func44 (by kernel_rfl) (by kernel_rfl) (by kernel_rfl) (by kernel_rfl)
 have h12:=@run_callFunc_extern Tryz.prog 45 _ ReflectliteValue.set Tryz.func45 (by kernel_rfl) (by kernel_rfl) (by kernel_rfl) (by kernel_rfl)
 have tO:=Tryz.typeOf25
 have mA:=Tryz.methodAssignableTo
 have a25:=Tryz.assignable25
 have v25:=Tryz.valueOf25
 have f6:=Tryz.valueOf27
 have f7:=Tryz.type27
 have mK:=Tryz.methodKind
 have mE:=Tryz.methodElem
 have mI:=Tryz.methodImplements
 have k27:=Tryz.kind27
 have k25:=Tryz.kind25
 have e27:=Tryz.elem27
 have i25:=Tryz.implements25
 have n8:=Tryz.isNil27 ⟨w.heap.size,0,none⟩ t ((w.alloc (.cells #[.pointer (some t)] 79)).alloc (.cells #[.pointer (some ⟨4,79,none⟩),.pointer (some ⟨w.heap.size,0,none⟩),.int .u64 150] 99)) (by simp)
 have hlt:0 < w.heap.size:=by
  rcases Nat.lt_or_ge 0 w.heap.size with h|h
  ·exact h
  ·simp [World.cell?,Array.getElem?_eq_none h] at hg
 have hg2:((w.alloc (.cells #[.pointer (some t)] 79)).alloc (.cells #[.pointer (some ⟨4,79,none⟩),.pointer (some ⟨w.heap.size,0,none⟩),.int .u64 150] 99)).cell? ⟨0,0,none⟩=some (.iface 117 (.agg #[.pointer (some ⟨4,29,none⟩)])):=by
  rw [World.cell?_alloc_lt _ _ ⟨0,0,none⟩ (by simp),World.cell?_alloc_lt _ _ ⟨0,0,none⟩ hlt];exact hg
 have htl:t.block < w.heap.size:=by
  rcases Nat.lt_or_ge t.block w.heap.size with h|h
  ·exact h
  ·simp [World.cell?,Array.getElem?_eq_none h] at ht0
 have el:=Tryz.elemV27 ⟨w.heap.size,0,none⟩ t (((w.alloc (.cells #[.pointer (some t)] 79)).alloc (.cells #[.pointer (some ⟨4,79,none⟩),.pointer (some ⟨w.heap.size,0,none⟩),.int .u64 150] 99)).alloc (.cells #[.pointer (some ⟨4,79,none⟩),.pointer (some ⟨w.heap.size,0,none⟩),.int .u64 150] 99)) (by rw [World.cell?_alloc_lt _ _ ⟨w.heap.size,0,none⟩ (by simp;omega)];simp)
 have st:=Tryz.set25 t ⟨w.heap.size+1+1+1,0,none⟩ e old ((((w.alloc (.cells #[.pointer (some t)] 79)).alloc (.cells #[.pointer (some ⟨4,79,none⟩),.pointer (some ⟨w.heap.size,0,none⟩),.int .u64 150] 99)).alloc (.cells #[.pointer (some ⟨4,79,none⟩),.pointer (some ⟨w.heap.size,0,none⟩),.int .u64 150] 99)).alloc (.cells #[.pointer (some e)] 63))
  (by rw [World.cell?_alloc_at _ _ _ _ (by simp)];rfl)
  (by rw [World.cell?_alloc_lt _ _ t (by simp;omega),World.cell?_alloc_lt _ _ t (by simp;omega),World.cell?_alloc_lt _ _ t (by simp;omega),World.cell?_alloc_lt _ _ t htl];exact ht0)
  (by rw [World.frozen?_alloc_old _ _ t (by simp;omega),World.frozen?_alloc_old _ _ t (by simp;omega),World.frozen?_alloc_old _ _ t (by simp;omega),World.frozen?_alloc_old _ _ t (Nat.ne_of_lt htl)];exact hf0)
 go_enter Tryz.func23,Tryz.ntmps23
 go_wp2
 refine wp_loop_rounds 1 ?_
 rw [rounds_succ]
 go_wp2
 go_ret
 exact⟨rfl,rfl⟩
theorem as_law (B:Nat→Nat→Option Value)(hB:B 0 0=some (.iface 117 (.agg #[.pointer (some ⟨4,29,none⟩)])))(e t:Addr)(old:Value)(w:World)(hw:∀b o c,B b o=some c→w.cell? ⟨b,o,none⟩=some c)(ht0:w.cell? t=some old)(hf0:w.frozen? t=false)(_:t.spot=none) :
  ∃w1,w.Extends w1∧Calls Tryz.prog 23 #[.iface 63 (.pointer (some e)),.iface 79 (.pointer (some t))] w fun ev w'=>ev=.returned (.bool true)∧w'=w1.setCell t (.pointer (some e)):=
 ⟨_,((((World.Extends.refl w).alloc _).alloc _).alloc _).alloc _,as_hit e t old w (hw _ _ _ hB) ht0 hf0⟩
end Go.Proofs.YtppbdmkbhalmpaaGreatDoor
namespace Go.Ev
open Go.Proofs
theorem HR.ext {g:Gh}{oh:OH}{w w1:World}(hx:w.Extends w1)(h:HR g oh w):HR g oh w1:=by
 refine⟨⟨fun b o c hc=>?_,h.hF,fun i o ho hl=>?_,h.inj,h.mp.of fun b ⟨i,o,ho,hm,hb⟩=>?_⟩,h.gl⟩
 ·have:=h.hG b o c hc
  rw [hx.cell ⟨b,o,none⟩ (lt_of_cell this)];exact this
 ·obtain⟨h1,h2⟩:=h.obj i o ho hl
  refine⟨h1,fun b hb=>?_⟩
  obtain⟨arr,ty,q1,q2,q3⟩:=h2 b hb
  exact⟨arr,ty,by rw [hx.block b (lt_of_heap q1)];exact q1,q2,q3⟩
 ·obtain⟨b2,es,clock,q1,q2,-⟩:=h.mp.at_ i o ho hm
  rw [hb] at q1
  obtain rfl:b=b2:=by simpa using q1
  exact hx.block b (lt_of_heap q2)
theorem Fr.ext {g:Gh}{oh:OH}{w w1:World}(hx:w.Extends w1):Fr g oh w g oh w1:=
 ⟨hx.os,hx.tape,hx.output,hx.size,fun b hb _ _=>hx.block b hb,fun _ h=>.inl h,fun _ _ _ h=>h,fun _ _ _ h=>h,fun _ _ _ h=>.inl h,fun _ _ _ h=>.inl h,fun b arr ty fz h=>⟨arr,by rw [hx.block b (lt_of_heap h)];exact h,rfl⟩,fun _ h=>.inl h⟩
def asOper (t:TypeId):Oper:={ dst:=none,op:=.store t (.tmp 0) (.tmp 1),type:=0,pos:= "",after:=#[],guard:=none }
def asEnv (r v:V):Operand→V
 |.tmp 0=>r
 |.tmp 1=>v
 |_=>.undef
def asVal (r v:Value):Operand→Value
 |.tmp 0=>r
 |.tmp 1=>v
 |_=>Go.undef
theorem as_ok : AsOK Tryz.prog 23 63 79:=by
 intro f
 have hst:Some Tryz.prog (asOper 63) (asEnv (.ref 0 0 0 0) (.ro false (.ptr (fTl f)))) (asO (.con (.pointer none))) (fun a=>a=⟨asO (.con (.pointer none)),[],asO (.ro false (.ptr (fTl f))),.undef⟩):=by
  refine step_ok (C:=OkR Tryz.prog) (fun _ _ _ h=>h) ?_
  unfold step asOper asO
  dsimp only [asEnv]
  rw [tk63]
  exact⟨rfl,rfl,_,rfl,rfl,by decide,rfl,by decide,rfl⟩
 obtain⟨acc,hok,hp,hn,rfl⟩:=hst
 have hpre:∀i o,oget (asO (.con (.pointer none))) i=some o→i=0∧o=⟨1,[.con (.pointer none)],0,true⟩:=fun i o h=>oget_one h
 have hpo:∀i o,oget (asO (.ro false (.ptr (fTl f))) ++ asO (.con (.pointer none))) i=some o→i=0∧o=⟨1,[.ro false (.ptr (fTl f))],0,true⟩:=by
  intro i o h
  by_cases h0:i=0
  ·subst h0;exact⟨rfl,(Option.some.inj h).symm⟩
  ·rw [show asO (.ro false (.ptr (fTl f))) ++ asO (.con (.pointer none))=[(0,_),(0,_)] from rfl,oget,if_neg (Ne.symm h0),oget,if_neg (Ne.symm h0)] at h
   cases h
 refine⟨⟨_,Tryz.func23,rfl,rfl⟩,fun i o h=>?_,two_vs trivial rfl,fun i o h=>?_,fun i o o' h h' _ _=>?_,fun g w args hr hsz hrd=>?_⟩
 ·obtain⟨rfl,rfl⟩:=hpre i o h
  exact⟨rfl,rfl,one_vs trivial⟩
 ·obtain⟨rfl,-⟩:=oget_one h
  exact .inl rfl
 ·obtain⟨rfl,rfl⟩:=hpre i o h
  obtain⟨-,rfl⟩:=hpo _ o' h'
  exact⟨rfl,Nat.le_refl _⟩
 obtain⟨x0,x1,rfl⟩:∃x0 x1,args=#[x0,x1]:=by
  obtain⟨l⟩:=args
  match l,hsz with
  | [a,b],_=>exact⟨a,b,rfl⟩
 have h0:=hrd 0 _ x0 rfl rfl
 have h1:=hrd 1 _ x1 rfl rfl
 obtain⟨h0,-⟩:=h0
 obtain⟨y,⟨-,o,ho,-,hy⟩,rfl⟩:=h1
 obtain⟨-,rfl⟩:=hpre 0 o ho
 obtain⟨b,hb,rfl⟩:=hy rfl rfl
 cases h0 with
 |ifc _ _ x h2 hx2=>
 obtain⟨be,off,c,rfl,hs,hc1,hrc⟩:=rdT_ptr hx2
 obtain⟨-,q2⟩:=hr.obj 0 _ rfl rfl
 obtain⟨arr,ty,hh,-,hba⟩:=q2 b hb
 obtain⟨old,hold,-,-⟩:=(hba.2.2.2 0 _ rfl).2 0 _ rfl
 have hcell:w.cell? ⟨b,0 * 1+0,none⟩=some old:=by simp [World.cell?,hh];exact hold
 have hfz:w.frozen? ⟨b,0 * 1+0,none⟩=false:=by simp [World.frozen?,hh]
 obtain⟨w1,hext,hcalls⟩:=Go.Proofs.YtppbdmkbhalmpaaGreatDoor.as_law g.G hr.gl.2 ⟨be,off,none⟩ ⟨b,0 * 1+0,none⟩ old w hr.hG hcell hfz rfl
 have hr1:=hr.ext hext
 have hlt:=lt_of_heap hh
 have hcell1:w1.cell? ⟨b,0 * 1+0,none⟩=some old:=by rw [hext.cell _ hlt];exact hcell
 have hfz1:w1.frozen? ⟨b,0 * 1+0,none⟩=false:=by rw [hext.frozen _ hlt];exact hfz
 have hstore:=hok g _ w1 (asVal (.pointer (some ⟨b,0 * 1+0,none⟩)) (.pointer (some ⟨be,off,none⟩))) hr1 (by
  intro z hz
  have:z=.tmp 0∨z=.tmp 1:=by simpa [asOper,Op.operands] using hz
  rcases this with rfl|rfl
  ·exact⟨⟨rfl,fun o ho hm=>by obtain⟨-,rfl⟩:=hpre 0 o ho;cases hm.1⟩,_,rfl,Nat.le_refl _,fun _ _=>⟨b,hb,rfl⟩⟩
  ·exact⟨hx2,rfl⟩) hp (fun i hi=>by simp at hi)
 have hrun:(execOp (asVal (.pointer (some ⟨b,0 * 1+0,none⟩)) (.pointer (some ⟨be,off,none⟩))) (asOper 63)).run Tryz.prog w1=.ok .skip (w1.setCell ⟨b,0 * 1+0,none⟩ (.pointer (some ⟨be,off,none⟩))):=by
  have hs1:(storeVar 63 ⟨b,0 * 1+0,none⟩ (.pointer (some ⟨be,off,none⟩))).run Tryz.prog w1=.ok () (w1.setCell ⟨b,0 * 1+0,none⟩ (.pointer (some ⟨be,off,none⟩))):=by
   have h1:=tk_one tk63 (by simp) (by simp) w1
   simp [storeVar,h1,Value.cells,storeCells,Addr.add]
   rw [run_store Tryz.prog w1 _ _ _ (by rfl)]
   simp at hcell1 hfz1
   simp [hcell1,hfz1]
  simp only [execOp,asOper,asVal,Instr.storeAt,Instr.sureAddr]
  simp at hs1
  simp [hs1]
 rw [hrun] at hstore
 obtain⟨g',z1,-,z3,z4⟩:=hstore
 refine hcalls.mono fun ev w' he=>?_
 obtain⟨rfl,rfl⟩:=he
 have hfr:=(Fr.ext hext).trans z4
 refine⟨.bool true,g',rfl,z1,⟨rfl,rfl⟩,hfr,fun i o h=>?_,fun i o o' h h' _ _=>?_⟩
 ·obtain⟨-,rfl⟩:=hpo i o h;rfl
 ·obtain⟨rfl,rfl⟩:=hpre i o h
  exact pin_mono hr z1 z3 hfr rfl rfl (Nat.zero_lt_succ _) (by simp) rfl rfl rfl rfl
end Go.Ev
