import Derived.Stop.Asserts
import Derived.Test.YthpoegdjffdojaaGreatDoorULbd
set_option linter.all false
set_option maxHeartbeats 4000000
set_option maxRecDepth 10000
namespace Go.Proofs.YthpoegdjffdojaaGreatDoor
open Go.RowKit Go.Extern.Stop Go.Stop Go.Extern
theorem Tryz.GK (t:Addr)(w:World):(ReflectliteValue.unpack (.iface 103 (.pointer (some t)))).run Tryz.prog w
  = .ok (.agg #[.pointer (some ⟨4,103,none⟩),.pointer (some ⟨w.heap.size,0,none⟩),.int .u64 150]) (w.alloc (.cells #[.pointer (some t)] 103)):=by kernel_rfl
theorem Tryz.type27 (a:Addr)(w:World):(ReflectliteValue.methodAny (ReflectliteValue.valueError "reflectlite.Value.Type" 0) (fun t _ _ _=>ReflectliteType.toType t) #[.agg #[.pointer (some ⟨4,103,none⟩),.pointer (some a),.int .u64 150]]).run Tryz.prog w
  = .ok (.iface 149 (.agg #[.pointer (some ⟨4,103,none⟩)])) w:=by kernel_rfl
theorem Tryz.DM (h:Value)(w:World):(Go.method 422 149 (.agg #[h]) "Kind").run Tryz.prog w=.ok (181,h) w:=by kernel_rfl
theorem Tryz.SD (w:World):((ReflectliteType.abiMethod fun t=>(fun a:Nat=>Value.int IntKind.u8 (a:Int)) <$> Rtype.kind t) #[.pointer (some ⟨4,103,none⟩)]).run Tryz.prog w=.ok (.int .u8 22) w:=by kernel_rfl
theorem Tryz.SE (w:World):((ReflectliteType.abiMethod fun t=>(fun a:Nat=>Value.int IntKind.u8 (a:Int)) <$> Rtype.kind t) #[.pointer (some ⟨4,87,none⟩)]).run Tryz.prog w=.ok (.int .u8 22) w:=by kernel_rfl
theorem Xx (z:Sem Value)(f:TypeId->Addr->Nat->Nat->Sem Value)(v:Value) :
  ReflectliteValue.method z f #[v]=(do match <- ReflectliteValue.parts v with|none=>z|some (t,a,fl)=>f t a fl (fl % 32)):=rfl
theorem Tryz.Fw (a:Addr)(w:World):(ReflectliteValue.parts (.agg #[.pointer (some ⟨4,103,none⟩),.pointer (some a),.int .u64 150])).run Tryz.prog w=.ok (some (103,a,150)) w:=by kernel_rfl
theorem Tryz.Pv (a p:Addr)(W:World)(ha:W.cell? a=some (.pointer (some p))) :
  (ReflectliteValue.method (ReflectliteValue.valueError "reflectlite.Value.IsNil" 0) ReflectliteValue.isNil #[.agg #[.pointer (some ⟨4,103,none⟩),.pointer (some a),.int .u64 150]]).run Tryz.prog W=.ok (.bool false) W:=by
 rw [Xx];simp only [Sem.run_bind,Tryz.Fw,Result.andThen];simp [ReflectliteValue.isNil,loadVar,isAgg,underlying,Tryz.underlying103,ha,Result.andThen]
theorem Tryz.DN (h:Value)(w:World):(Go.method 422 149 (.agg #[h]) "Elem").run Tryz.prog w=.ok (193,.agg #[h]) w:=by kernel_rfl
theorem Tryz.qQ (h:Value)(w:World):(Go.method 422 149 (.agg #[h]) "Implements").run Tryz.prog w=.ok (194,.agg #[h]) w:=by kernel_rfl
theorem Tryz.oz (h:Value)(w:World):(Go.method 422 149 (.agg #[h]) "AssignableTo").run Tryz.prog w=.ok (191,.agg #[h]) w:=by kernel_rfl
theorem Tryz.SS (w:World):(ReflectliteType.method ReflectliteType.elem #[.agg #[.pointer (some ⟨4,103,none⟩)]]).run Tryz.prog w=.ok (.iface 149 (.agg #[.pointer (some ⟨4,87,none⟩)])) w:=by kernel_rfl
theorem Tryz.yS (w:World):(ReflectliteType.relation "Implements" ReflectliteType.implements_ #[.agg #[.pointer (some ⟨4,87,none⟩)],.iface 149 (.agg #[.pointer (some ⟨4,34,none⟩)])]).run Tryz.prog w=.ok (.bool true) w:=by kernel_rfl
theorem Tryz.Jr (v:Value)(w:World):(ReflectliteType.typeOf #[.iface 87 v]).run Tryz.prog w=.ok (.iface 149 (.agg #[.pointer (some ⟨4,87,none⟩)])) w:=by kernel_rfl
theorem Tryz.zw (w:World):(ReflectliteType.relation "AssignableTo" ReflectliteType.assignableTo #[.agg #[.pointer (some ⟨4,87,none⟩)],.iface 149 (.agg #[.pointer (some ⟨4,87,none⟩)])]).run Tryz.prog w=.ok (.bool true) w:=by kernel_rfl
theorem Tryz.GM (e:Addr)(w:World):(ReflectliteValue.unpack (.iface 87 (.pointer (some e)))).run Tryz.prog w
  = .ok (.agg #[.pointer (some ⟨4,87,none⟩),.pointer (some ⟨w.heap.size,0,none⟩),.int .u64 150]) (w.alloc (.cells #[.pointer (some e)] 87)):=by kernel_rfl
theorem Tryz.Mj (w:World):(Rtype.elem? 103).run Tryz.prog w=.ok (some 87) w:=by kernel_rfl
theorem Tryz.WJ (p:Addr)(w:World):(ReflectliteValue.mk 87 p ReflectliteValue.flagAddr).run Tryz.prog w=.ok (.agg #[.pointer (some ⟨4,87,none⟩),.pointer (some p),.int .u64 406]) w:=by kernel_rfl
theorem Tryz.PJ (a p:Addr)(W:World)(ha:W.cell? a=some (.pointer (some p))) :
  (ReflectliteValue.method (ReflectliteValue.valueError "reflectlite.Value.Elem" 0) ReflectliteValue.elem #[.agg #[.pointer (some ⟨4,103,none⟩),.pointer (some a),.int .u64 150]]).run Tryz.prog W
   = .ok (.agg #[.pointer (some ⟨4,87,none⟩),.pointer (some p),.int .u64 406]) W:=by
 rw [Xx];simp only [Sem.run_bind,Tryz.Fw,Result.andThen];simp [ReflectliteValue.elem,loadVar,isAgg,underlying,Tryz.underlying103,ha,Result.andThen,Tryz.Mj,Tryz.WJ]
theorem XY (v x:Value):ReflectliteValue.set #[v,x]=(do
  let (some (dst,a,fl),some (src,b,_)):=(<- ReflectliteValue.parts v,<- ReflectliteValue.parts x)
   |unsupported (.noEntry "extern/(internal/reflectlite.Value).Set.zeroValue")
  if fl / ReflectliteValue.flagAddr % 2 == 0 then unsupported (.noEntry "extern/(internal/reflectlite.Value).Set.unaddressable")
  let val <- loadVar src b
  if <- Rtype.directlyAssignable dst src then storeVar dst a val
  else if <- Rtype.implements dst src then
   if(<- Rtype.kind src) == 20 then
    match val with
    |.nilIface=>unsupported (.noEntry "extern/reflectlite: a nil value of one interface type handed on as a value of another")
    |_=>storeVar dst a val
   else storeVar dst a (.iface src val)
  else panicString ("reflectlite.Set: value of type " ++ (<- Rtype.spelt src) ++ " is not assignable to type " ++ (<- Rtype.spelt dst))
  pure (.tuple #[])):=rfl
theorem Tryz.KV (a:Addr)(w:World):(ReflectliteValue.parts (.agg #[.pointer (some ⟨4,87,none⟩),.pointer (some a),.int .u64 406])).run Tryz.prog w=.ok (some (87,a,406)) w:=by kernel_rfl
theorem Tryz.OC (a:Addr)(w:World):(ReflectliteValue.parts (.agg #[.pointer (some ⟨4,87,none⟩),.pointer (some a),.int .u64 150])).run Tryz.prog w=.ok (some (87,a,150)) w:=by kernel_rfl
theorem Tryz.Mm (w:World):(Rtype.directlyAssignable 87 87).run Tryz.prog w=.ok true w:=by kernel_rfl
theorem Tryz.Uv (ta b e:Addr)(vI:Value)(W:World)(hb:W.cell? b=some (.pointer (some e)))(ht:W.cell? ta=some vI)(hf:W.frozen? ta=false) :
  (ReflectliteValue.set #[.agg #[.pointer (some ⟨4,87,none⟩),.pointer (some ta),.int .u64 406],.agg #[.pointer (some ⟨4,87,none⟩),.pointer (some b),.int .u64 150]]).run Tryz.prog W
   = .ok (.tuple #[]) (W.setCell ta (.pointer (some e))):=by
 rw [XY];simp only [Sem.run_bind,Tryz.KV,Tryz.OC,Result.andThen];simp [ReflectliteValue.flagAddr,loadVar,isAgg,underlying,Tryz.underlying87,hb,Result.andThen,Tryz.Mm,storeVar,Value.cells,storeCells,Addr.add];rw [run_store Tryz.prog W ta _ _ (by rfl)];simp [ht,hf]
set_option maxHeartbeats 4000000 in
theorem Tm (e t:Addr)(vI:Value)(w:World)(hg:w.cell? ⟨0,0,none⟩=some (.iface 149 (.agg #[.pointer (some ⟨4,34,none⟩)])))(ht0:w.cell? t=some vI)(hf0:w.frozen? t=false) :
  Calls Tryz.prog 41 #[.iface 87 (.pointer (some e)),.iface 103 (.pointer (some t))] w fun ev w'=>ev=.returned (.bool true)/\w'=((((w.alloc (.cells #[.pointer (some t)] 103)).alloc (.cells #[.pointer (some ⟨4,103,none⟩),.pointer (some ⟨w.heap.size,0,none⟩),.int .u64 150] 127)).alloc (.cells #[.pointer (some ⟨4,103,none⟩),.pointer (some ⟨w.heap.size,0,none⟩),.int .u64 150] 127)).alloc (.cells #[.pointer (some e)] 87)).setCell t (.pointer (some e)):=by
 have h6:=@run_callFunc_extern Tryz.prog 62 _ (fun args=>ReflectliteValue.unpack (args.getD 0 (.tuple #[]))) Tryz.func62 B1 B1 B1 B1;have h7:=@run_callFunc_extern Tryz.prog 63 _ (ReflectliteValue.methodAny (ReflectliteValue.valueError "reflectlite.Value.Type" 0) (fun t _ _ _=>ReflectliteType.toType t)) Tryz.func63 B1 B1 B1 B1;have h8:=@run_callFunc_extern Tryz.prog 64 _ (ReflectliteValue.method (ReflectliteValue.valueError "reflectlite.Value.IsNil" 0) ReflectliteValue.isNil) Tryz.func64 B1 B1 B1 B1;have h27:=@run_callFunc_extern Tryz.prog 181 _ (ReflectliteType.abiMethod fun t=>do pure (.int .u8 (<- Rtype.kind t))) Tryz.func181 B1 B1 B1 B1;have h37:=@run_callFunc_extern Tryz.prog 193 _ (ReflectliteType.method ReflectliteType.elem) Tryz.func193 B1 B1 B1 B1;have h38:=@run_callFunc_extern Tryz.prog 194 _ (ReflectliteType.relation "Implements" ReflectliteType.implements_) Tryz.func194 B1 B1 B1 B1;have h10:=@run_callFunc_extern Tryz.prog 75 _ ReflectliteType.typeOf Tryz.func75 B1 B1 B1 B1;have h35:=@run_callFunc_extern Tryz.prog 191 _ (ReflectliteType.relation "AssignableTo" ReflectliteType.assignableTo) Tryz.func191 B1 B1 B1 B1;have h11:=@run_callFunc_extern Tryz.prog 76 _ (ReflectliteValue.method (ReflectliteValue.valueError "reflectlite.Value.Elem" 0) ReflectliteValue.elem) Tryz.func76 B1 B1 B1 B1;have h12:=@run_callFunc_extern Tryz.prog 77 _ ReflectliteValue.set Tryz.func77 B1 B1 B1 B1;have tO:=Tryz.Jr;have mA:=Tryz.oz;have a25:=Tryz.zw;have v25:=Tryz.GM;have f6:=Tryz.GK;have f7:=Tryz.type27;have mK:=Tryz.DM;have mE:=Tryz.DN;have mI:=Tryz.qQ;have k27:=Tryz.SD;have k25:=Tryz.SE;have e27:=Tryz.SS;have i25:=Tryz.yS;have n8:=Tryz.Pv ⟨w.heap.size,0,none⟩ t ((w.alloc (.cells #[.pointer (some t)] 103)).alloc (.cells #[.pointer (some ⟨4,103,none⟩),.pointer (some ⟨w.heap.size,0,none⟩),.int .u64 150] 127)) (by simp)
 have hlt:0 < w.heap.size:=by
  rcases G8 0 w.heap.size with h|h
  ·exact h
  ·simp [World.cell?,S6 h] at hg
 have hg2:((w.alloc (.cells #[.pointer (some t)] 103)).alloc (.cells #[.pointer (some ⟨4,103,none⟩),.pointer (some ⟨w.heap.size,0,none⟩),.int .u64 150] 127)).cell? ⟨0,0,none⟩=some (.iface 149 (.agg #[.pointer (some ⟨4,34,none⟩)])):=by
  rw [World.cell?_alloc_lt _ _ ⟨0,0,none⟩ (by simp),World.cell?_alloc_lt _ _ ⟨0,0,none⟩ hlt];exact hg
 have htl:t.block < w.heap.size:=by
  rcases G8 t.block w.heap.size with h|h
  ·exact h
  ·simp [World.cell?,S6 h] at ht0
 have el:=Tryz.PJ ⟨w.heap.size,0,none⟩ t (((w.alloc (.cells #[.pointer (some t)] 103)).alloc (.cells #[.pointer (some ⟨4,103,none⟩),.pointer (some ⟨w.heap.size,0,none⟩),.int .u64 150] 127)).alloc (.cells #[.pointer (some ⟨4,103,none⟩),.pointer (some ⟨w.heap.size,0,none⟩),.int .u64 150] 127)) (by rw [World.cell?_alloc_lt _ _ ⟨w.heap.size,0,none⟩ (by simp;omega)];simp)
 have st:=Tryz.Uv t ⟨w.heap.size+1+1+1,0,none⟩ e vI ((((w.alloc (.cells #[.pointer (some t)] 103)).alloc (.cells #[.pointer (some ⟨4,103,none⟩),.pointer (some ⟨w.heap.size,0,none⟩),.int .u64 150] 127)).alloc (.cells #[.pointer (some ⟨4,103,none⟩),.pointer (some ⟨w.heap.size,0,none⟩),.int .u64 150] 127)).alloc (.cells #[.pointer (some e)] 87))
  (by rw [World.cell?_alloc_at _ _ _ _ (by simp)];rfl)
  (by rw [World.cell?_alloc_lt _ _ t (by simp;omega),World.cell?_alloc_lt _ _ t (by simp;omega),World.cell?_alloc_lt _ _ t (by simp;omega),World.cell?_alloc_lt _ _ t htl];exact ht0)
  (by rw [World.frozen?_alloc_old _ _ t (by simp;omega),World.frozen?_alloc_old _ _ t (by simp;omega),World.frozen?_alloc_old _ _ t (by simp;omega),World.frozen?_alloc_old _ _ t (K5 htl)];exact hf0)
 go_enter Tryz.func41,Tryz.ntmps41
 go_wp2
 refine wp_loop_rounds 1 ?_;rw [rounds_succ]
 go_wp2
 go_ret
 exact⟨rfl,rfl⟩
theorem Tl (B:Nat->Nat->Option Value)(hB:B 0 0=some (.iface 149 (.agg #[.pointer (some ⟨4,34,none⟩)])))(e t:Addr)(vI:Value)(w:World)(hw:∀b o c,B b o=some c->w.cell? ⟨b,o,none⟩=some c)(ht0:w.cell? t=some vI)(hf0:w.frozen? t=false)(_:t.spot=none) :
  ∃w1,w.Extends w1/\Calls Tryz.prog 41 #[.iface 87 (.pointer (some e)),.iface 103 (.pointer (some t))] w fun ev w'=>ev=.returned (.bool true)/\w'=w1.setCell t (.pointer (some e)):=
 ⟨_,((((World.Extends.refl w).alloc _).alloc _).alloc _).alloc _,Tm e t vI w (hw _ _ _ hB) ht0 hf0⟩
end Go.Proofs.YthpoegdjffdojaaGreatDoor
namespace Go.Ev
open Go.Proofs
theorem HR.ext {g:Gh}{oh:OH}{w w1:World}(hx:w.Extends w1)(h:HR g oh w):HR g oh w1:=by
 refine⟨⟨fun b o c hc=>?_,h.hF,fun i o ho hl=>?_,h.inj,h.mp.of fun b ⟨i,o,ho,hm,hb⟩=>?_⟩,h.gl⟩
 ·have:=h.hG b o c hc;rw [hx.cell ⟨b,o,none⟩ (cD this)];exact this
 ·obtain⟨h1,h2⟩:=h.obj i o ho hl;refine⟨h1,fun b hb=>?_⟩;obtain⟨arr,ty,q1,q2,q3⟩:=h2 b hb;exact⟨arr,ty,by rw [hx.block b (bh q1)];exact q1,q2,q3⟩
 ·obtain⟨b2,es,clock,q1,q2,-⟩:=h.mp.at_ i o ho hm;rw [hb] at q1;obtain rfl:b=b2:=by simpa using q1
  exact hx.block b (bh q2)
theorem Fr.ext {g:Gh}{oh:OH}{w w1:World}(hx:w.Extends w1):Fr g oh w g oh w1:=
 ⟨hx.os,hx.tape,hx.output,hx.size,fun b hb _ _=>hx.block b hb,fun _ h=>.inl h,fun _ _ _ h=>h,fun _ _ _ h=>h,fun _ _ _ h=>.inl h,fun _ _ _ h=>.inl h,fun b arr ty fz h=>⟨arr,by rw [hx.block b (bh h)];exact h,rfl⟩,fun _ h=>.inl h⟩
def vg (t:TypeId):Oper:={ dst:=none,op:=.store t (.tmp 0) (.tmp 1),type:=0,pos:= "",after:=#[],guard:=none }
def QZ (r v:V):Operand->V
 |.tmp 0=>r
 |.tmp 1=>v
 |_=>.undef
def MI (r v:Value):Operand->Value
 |.tmp 0=>r
 |.tmp 1=>v
 |_=>Go.undef
theorem QY : VL Tryz.prog 41 87 103:=by
 intro f
 have hst:dt Tryz.prog (vg 87) (QZ (.ref 0 0 0 0) (.ro false (.ptr (rF f)))) (Ew (.af (.pointer none))) (fun a=>a=⟨Ew (.af (.pointer none)),[],Ew (.ro false (.ptr (rF f))),.undef⟩):=by
  refine oP (C:=iE Tryz.prog) (fun _ _ _ h=>h) ?_;unfold step vg Ew;dsimp only [QZ];rw [TY];exact⟨rfl,rfl,_,rfl,rfl,by decide,rfl,by decide,rfl⟩
 obtain⟨acc,hok,hp,hn,rfl⟩:=hst;have hpre:∀i o,ae (Ew (.af (.pointer none))) i=some o->i=0/\o=⟨1,[.af (.pointer none)],0,true⟩:=fun i o h=>aR h
 have hpo:∀i o,ae (Ew (.ro false (.ptr (rF f))) ++ Ew (.af (.pointer none))) i=some o->i=0/\o=⟨1,[.ro false (.ptr (rF f))],0,true⟩:=by
  intro i o h;by_cases h0:i=0
  ·subst h0;exact⟨rfl,(C6 h).symm⟩
  ·rw [show Ew (.ro false (.ptr (rF f))) ++ Ew (.af (.pointer none))=[(0,_),(0,_)] from rfl,ae,if_neg (H5 h0),ae,if_neg (H5 h0)] at h;cases h
 refine⟨⟨_,Tryz.func41,rfl,rfl⟩,fun i o h=>?_,xH trivial rfl,fun i o h=>?_,fun i o o' h h' _ _=>?_,fun g w args hr hsz hrd=>?_⟩
 ·obtain⟨rfl,rfl⟩:=hpre i o h;exact⟨rfl,rfl,bT trivial⟩
 ·obtain⟨rfl,-⟩:=aR h;exact .inl rfl
 ·obtain⟨rfl,rfl⟩:=hpre i o h;obtain⟨-,rfl⟩:=hpo _ o' h';exact⟨rfl,wU _⟩
 obtain⟨x0,x1,rfl⟩:∃x0 x1,args=#[x0,x1]:=by
  obtain⟨l⟩:=args
  match l,hsz with
  | [a,b],_=>exact⟨a,b,rfl⟩
 have h0:=hrd 0 _ x0 rfl rfl;have h1:=hrd 1 _ x1 rfl rfl;obtain⟨h0,-⟩:=h0;obtain⟨y,⟨-,o,ho,-,hy⟩,rfl⟩:=h1;obtain⟨-,rfl⟩:=hpre 0 o ho;obtain⟨b,hb,rfl⟩:=hy rfl rfl
 cases h0 with
 |jq _ _ x h2 hx2=>
 obtain⟨be,off,c,rfl,hs,hc1,hrc⟩:=su hx2;obtain⟨-,q2⟩:=hr.obj 0 _ rfl rfl;obtain⟨arr,ty,hh,-,hba⟩:=q2 b hb;obtain⟨vI,hold,-,-⟩:=(hba.2.2.2 0 _ rfl).2 0 _ rfl;have hcell:w.cell? ⟨b,0 * 1+0,none⟩=some vI:=by simp [World.cell?,hh];exact hold
 have hfz:w.frozen? ⟨b,0 * 1+0,none⟩=false:=by simp [World.frozen?,hh]
 obtain⟨w1,hext,hcalls⟩:=Go.Proofs.YthpoegdjffdojaaGreatDoor.Tl g.G hr.gl.2 ⟨be,off,none⟩ ⟨b,0 * 1+0,none⟩ vI w hr.hG hcell hfz rfl;have hr1:=hr.ext hext;have hlt:=bh hh;have hcell1:w1.cell? ⟨b,0 * 1+0,none⟩=some vI:=by rw [hext.cell _ hlt];exact hcell
 have hfz1:w1.frozen? ⟨b,0 * 1+0,none⟩=false:=by rw [hext.frozen _ hlt];exact hfz
 have hstore:=hok g _ w1 (MI (.pointer (some ⟨b,0 * 1+0,none⟩)) (.pointer (some ⟨be,off,none⟩))) hr1 (by
  intro z hz;have:z=.tmp 0\/z=.tmp 1:=by simpa [vg,Op.operands] using hz
  rcases this with rfl|rfl
  ·exact⟨⟨rfl,fun o ho hm=>by obtain⟨-,rfl⟩:=hpre 0 o ho;cases hm.1⟩,_,rfl,wU _,fun _ _=>⟨b,hb,rfl⟩⟩
  ·exact⟨hx2,rfl⟩) hp (fun i hi=>by simp at hi)
 have hrun:(execOp (MI (.pointer (some ⟨b,0 * 1+0,none⟩)) (.pointer (some ⟨be,off,none⟩))) (vg 87)).run Tryz.prog w1=.ok .skip (w1.setCell ⟨b,0 * 1+0,none⟩ (.pointer (some ⟨be,off,none⟩))):=by
  have hs1:(storeVar 87 ⟨b,0 * 1+0,none⟩ (.pointer (some ⟨be,off,none⟩))).run Tryz.prog w1=.ok () (w1.setCell ⟨b,0 * 1+0,none⟩ (.pointer (some ⟨be,off,none⟩))):=by
   have h1:=Jt TY (by simp) (by simp) w1;simp [storeVar,h1,Value.cells,storeCells,Addr.add];rw [run_store Tryz.prog w1 _ _ _ (by rfl)];simp at hcell1 hfz1;simp [hcell1,hfz1]
  simp only [execOp,vg,MI,Instr.storeAt,Instr.sureAddr];simp at hs1;simp [hs1]
 rw [hrun] at hstore;obtain⟨g',z1,-,z3,z4⟩:=hstore;refine hcalls.mono fun ev w' he=>?_
 obtain⟨rfl,rfl⟩:=he;have hfr:=(Fr.ext hext).trans z4;refine⟨.bool true,g',rfl,z1,⟨rfl,rfl⟩,hfr,fun i o h=>?_,fun i o o' h h' _ _=>?_⟩
 ·obtain⟨-,rfl⟩:=hpo i o h;rfl
 ·obtain⟨rfl,rfl⟩:=hpre i o h;exact Bj hr z1 z3 hfr rfl rfl (D0 _) (by simp) rfl rfl rfl rfl
end Go.Ev
