import Derived.Test.YthpoegdjffdojaaGreatDoorUEvB
import Derived.Laws.Small
set_option linter.all false
namespace Go.Ev
def Out (P:Program)(Z:Value->World->Prop):Result Next->Prop
 |.ok (.value v) w=>Z v w
 |.ok .skip w=>Z Go.undef w
 |.ok (.enter f args) w=>Calls P f args w fun e w'=>∃v,e=.returned v/\Z v w'
 |_=>False
def EG (g:Gh)(oh:OH)(w:World)(a:Acc)(v:Value)(w':World):Prop:=
 ∃g',HR g' (a.post ++ oh) w'/\dd g' (a.post ++ oh) a.v v/\cx g oh g' (a.post ++ oh)/\Fr g oh w g' (a.post ++ oh) w'
def EB (P:Program)(o:Oper)(e:Operand->V)(a:Acc):Prop:=
 ∀(g:Gh) (oh:OH) (w:World) (ρ:Operand->Value),HR g oh w->(∀x,x ∈ o.op.operands->dd g oh (e x) (ρ x))->
  (∀i ob,(i,ob) ∈ a.pre->ae oh i=some ob)->(∀i,i ∈ a.nw->ae oh i=none)->
  Out P (EG g oh w a) ((execOp ρ o).run P w)
def dS.un (S N:dS):dS:=fun b o=>match S b o with|some c=>some c|none=>N b o
def Reads (S:dS)(ts:List T)(args:Array Value):Prop:=args.size=ts.length/\∀(j:Nat) (t:T) (x:Value),ts[j]?=some t->args[j]?=some x->gD S t x
def dS.pick (f:Bool)(S N:dS):dS:=
 match f with
 |true=>N
 |false=>S.un N
def jo (P:Program)(q:FuncId):Prop:=∃fn,P.funcs[q]?=some fn/\(fn.name == "runtime.NumGoroutine")=false/\fn.body.isNone=false
def Ok (P:Program)(q:FuncId)(ts:List T)(f:Bool)(r:T):Prop:=
 jo P q/\∀(S:dS) (w:World) (args:Array Value),(∀b o c,S b o=some c->w.cell? ⟨b,o,none⟩=some c)->GL S->Reads S ts args->
  Calls P q args w fun e w'=>∃v N,e=.returned v/\RowKit.Below w.heap.size w w'/\
   (∀b o c,N b o=some c->w.heap.size<=b/\w'.cell? ⟨b,o,none⟩=some c)/\gD (dS.pick f S N) r v
def IG (P:Program)(q:FuncId)(ts:List T)(oh:OH)(v:V):Prop:=
 jo P q/\∀(S:dS) (w:World) (args:Array Value),(∀b o c,S b o=some c->w.cell? ⟨b,o,none⟩=some c)->GL S->Reads S ts args->
  Calls P q args w fun e w'=>∃x gn,e=.returned x/\RowKit.Below w.heap.size w w'/\HR gn oh w'/\dd gn oh v x/\
   (∀b o c,gn.G b o=some c->S b o=some c\/w.heap.size<=b)/\(∀b o c,gn.F b o=some c->w.heap.size<=b)/\(∀b,cw gn oh b->w.heap.size<=b)/\(∀i o,ae oh i=some o->o.live=true)
def TP (P:Program)(q:FuncId)(M:List MO)(vs:List V)(f:Bool)(t:T):Prop:=
 jo P q/\(∀x ∈ M,0 < x.sz/\x.a.length=x.b.length/\(∀e ∈ x.a,e.oU)/\(∀e ∈ x.b,e.oU))/\(M.map (·.id)).Nodup/\
 ∀(g:Gh) (w:World) (args:Array Value),g.F=(fun _ _=>none)->HR g (M.map MO.pre) w->args.size=vs.length->(∀(j:Nat) (u:V) (x:Value),vs[j]?=some u->args[j]?=some x->dd g (M.map MO.pre) u x)->
  Calls P q args w fun e w'=>∃(v:Value) (g2:Gh) (N:dS),e=.returned v/\HR g2 (M.map MO.post) w'/\Fr g (M.map MO.pre) w g2 (M.map MO.post) w'/\(∀x ∈ M,x.a≠[]->g2.m x.id=g.m x.id)/\
   (∀b o c,N b o=some c->w.heap.size<=b/\w'.cell? ⟨b,o,none⟩=some c)/\((f ||t.plain)=true->gD N t v)
def jP (P:Program)(q:FuncId)(pre:OH)(nw:List Nat)(vs:List V)(post:OH)(r:V):Prop:=
 jo P q/\(∀i o,ae pre i=some o->o.ver=0/\o.live=true/\∀v ∈ o.el,v.cl pre)/\(∀v ∈ vs,v.cl pre)/\(∀i o,ae post i=some o->(ae pre i).isSome=true\/i ∈ nw)/\
 (∀i o o',ae pre i=some o->ae (post ++ pre) i=some o'->o'.ver=0->o'.live=true->o'.sz=o.sz/\o.el.length<=o'.el.length)/\
 ∀(g:Gh) (w:World) (args:Array Value),HR g pre w->args.size=vs.length->(∀(j:Nat) (u:V) (x:Value),vs[j]?=some u->args[j]?=some x->dd g pre u x)->
  Calls P q args w fun e w'=>∃(x:Value) (g2:Gh),e=.returned x/\HR g2 (post ++ pre) w'/\dd g2 (post ++ pre) r x/\Fr g pre w g2 (post ++ pre) w'/\(∀i o,ae (post ++ pre) i=some o->o.live=true)/\
   (∀i o o',ae pre i=some o->ae (post ++ pre) i=some o'->o'.ver=0->o'.live=true->g2.m i=g.m i/\g2.cp i=g.cp i)
def iE (P:Program)(q:FuncId)(ts:List T):XG->Prop
 |.data f r=>Ok P q ts f r
 |.Br oh v=>IG P q ts oh v
 |.OZ M vs f t=>TP P q M vs f t
 |.gen pre nw vs post r=>jP P q pre nw vs post r
section
variable {P : Program}
theorem Dy {o:Oper}{e:Operand->V}{v:V}{pre:OH}
  (h:∀(g:Gh) (oh:OH) (w:World) (ρ:Operand->Value),HR g oh w->(∀x,x ∈ o.op.operands->dd g oh (e x) (ρ x))->
   (∀i ob,(i,ob) ∈ pre->ae oh i=some ob)->∃x,((execOp ρ o).run P w=.ok (.value x) w)/\dd g oh v x):EB P o e ⟨pre,[],[],v⟩:=by
 intro g oh w ρ hr ho hp _;obtain⟨x,hx,hv⟩:=h g oh w ρ hr ho hp;rw [hx];exact⟨g,hr,hv,cx.refl _ _,Fr.refl _ _ _⟩
def dt (P:Program)(o:Oper)(e:Operand->V)(oh:OH)(k:Acc->Prop):Prop:=
 ∃a,EB P o e a/\(∀i ob,(i,ob) ∈ a.pre->ae oh i=some ob)/\(∀i,i ∈ a.nw->ae oh i=none)/\k a
theorem aP {o:Oper}{e:Operand->V}{oh:OH}{k:Acc->Prop}{v:V}(hk:free k v)
  (h:∀(g:Gh) (oh:OH) (w:World) (ρ:Operand->Value),HR g oh w->(∀x,x ∈ o.op.operands->dd g oh (e x) (ρ x))->
   ∃x,((execOp ρ o).run P w=.ok (.value x) w)/\dd g oh v x):dt P o e oh k:=
 ⟨⟨[],[],[],v⟩,Dy (fun g oh w ρ a b _=>h g oh w ρ a b),by simp,by simp,hk⟩
theorem Ou {g:Gh}{oh:OH}{v x:Value}(h:dd g oh (.af v) x):x=v/\v.oneCell'=true:=h
theorem dI {g:Gh}{oh:OH}{v:Value}(h:v.oneCell'=true):dd g oh (.af v) v:=⟨rfl,h⟩
theorem bk (s:Sem Value)(w w':World)(x:Value)(h:s.run P w=.ok x w'):((do pure (Next.value (<- s))):Sem Next).run P w=.ok (.value x) w':=by
 simp [h]
theorem Ig {o:Oper}{x:Operand}(ho:o.op=.move x\/o.op=.assign x)(ρ:Operand->Value)(w:World):(execOp ρ o).run P w=.ok (.value (ρ x)) w:=by
 rcases ho with h|h<;>simp [execOp,h]
theorem wi {o:Oper}{x:Operand}{e:Operand->V}{oh:OH}{k:Acc->Prop}(ho:o.op=.move x\/o.op=.assign x)(hk:free k (e x)):dt P o e oh k:=
 aP hk fun g oh w ρ _ hρ=>⟨ρ x,Ig ho ρ w,hρ x (by rcases ho with h|h<;>simp [h,Op.operands])⟩
theorem NY {op:BinOp}{k:IntKind}{a b:Int}{K:Value->Prop}(h:sint op k a b K) :
  ∃v,K v/\v.oneCell'=true/\∀t w,(op≠.shl/\op≠.shr->(binOp op t (.int k a) (.int k b)).run P w=.ok v w):=by
 unfold sint at h;split at h
 all_goals first
  |exact h.elim
  |(obtain⟨r,rfl,h⟩:=h;exact⟨_,h,rfl,fun t w _=>by simp [binOp,Op.intArith,Op.intBits,Op.intCmp]⟩)
  |(obtain⟨h0,r,rfl,h⟩:=h;exact⟨_,h,rfl,fun t w _=>by simp [binOp,Op.intDiv,h0]⟩)
  |exact⟨_,h,rfl,fun t w _=>by simp [binOp,Op.intArith,Op.intBits,Op.intCmp]⟩
theorem fN (op:BinOp)(t:TypeId)(x y:Operand)(a b:Value)(ha:a≠.nilIface)(ha':∀cs,a≠.agg cs)(w:World):(eqGuard op t x y a b).run P w=.ok () w:=by
 cases a<;>first
  |exact absurd rfl ha
  |exact absurd rfl (ha' _)
  |(cases op<;>rfl)
theorem fD (v:Value):rV v=v.oneCell':=by cases v<;>rfl
theorem lP {t:TypeId}{d:TK}(h:tk P t=d)(h1:∀fs z,d≠.st fs z)(h2:d≠.other)(h3:∀n e z y,d≠.arr n e z y:=by simp) :
  ∃td,P.underlying t=some td/\Ju P td=d/\P.cellsOf t=1:=by
 unfold tk at h;split at h
 ·split at h
  ·split at h
   ·split at h
    ·exact absurd h.symm (h1 _ _)
    ·exact absurd h.symm h2
   ·exact absurd h.symm h2
  ·exact absurd h.symm h2
 ·split at h
  ·split at h
   ·split at h
    ·exact absurd h.symm (h3 _ _ _ _)
    ·exact absurd h.symm h2
   ·exact absurd h.symm h2
  ·exact absurd h.symm h2
 ·rename_i td _ _ hu;split at h
  ·rename_i hc;exact⟨td,hu,h,M5 hc⟩
  ·exact absurd h.symm h2
 ·exact absurd h.symm h2
theorem Jt {t:TypeId}{d:TK}(h:tk P t=d)(h1:∀fs z,d≠.st fs z)(h2:d≠.other)(w:World)(h3:∀n e z y,d≠.arr n e z y:=by simp):(sizeOf t).run P w=.ok 1 w:=by
 obtain⟨_,_,_,hc⟩:=lP h h1 h2 h3;unfold Program.cellsOf at hc
 cases hi:P.info? t with
 |none=>simp [hi] at hc
 |some i=>simp [hi] at hc;simp [sizeOf,typeInfo,hi,hc]
theorem sc {t:TypeId}(h:tk P t=.bool):P.underlying t=some .bool:=by
 obtain⟨td,hu,ht,_⟩:=lP h (by simp) (by simp);unfold Ju at ht;split at ht;any_goals exact hu
 all_goals(try(repeat' split at ht))<;>cases ht
theorem kG {t:TypeId}{k:IntKind}(h:tk P t=.int k):P.underlying t=some (.int k):=by
 obtain⟨td,hu,ht,_⟩:=lP h (by simp) (by simp);unfold Ju at ht;split at ht;all_goals(try(repeat' split at ht))<;>cases ht
 exact hu
theorem iq {t:TypeId}(h:tk P t=.str):P.underlying t=some .string:=by
 obtain⟨td,hu,ht,_⟩:=lP h (by simp) (by simp);unfold Ju at ht;split at ht;any_goals exact hu
 all_goals(try(repeat' split at ht))<;>cases ht
theorem nS {t:TypeId}(h:tk P t=.ptr):∃e,P.underlying t=some (.pointer e):=by
 obtain⟨td,hu,ht,_⟩:=lP h (by simp) (by simp);unfold Ju at ht;split at ht;any_goals exact⟨_,hu⟩
 all_goals(try(repeat' split at ht))<;>cases ht
theorem xJ {t:TypeId}(h:tk P t=.jq):∃m,P.underlying t=some (.interface m):=by
 obtain⟨td,hu,ht,_⟩:=lP h (by simp) (by simp);unfold Ju at ht;split at ht;any_goals exact⟨_,hu⟩
 all_goals(try(repeat' split at ht))<;>cases ht
theorem ie {t e sz bt:Nat}{ag:Bool}{z:List Value}(h:tk P t=.sl e sz bt ag z) :
  ∃i zv,P.underlying t=some (.slice e)/\P.info? e=some i/\i.zero=some zv/\i.size=sz/\i.bytes=bt/\zv.cells.toList=z/\z.length=sz/\(∀c ∈ z,c.oneCell'=true)/\
   (ag=true->∃cs,zv=.agg cs)/\(ag=false->sz=1):=by
 obtain⟨td,hu,h,_⟩:=lP h (by simp) (by simp);unfold Ju at h;split at h;any_goals (cases h;done)
 ·rename_i e';split at h
  ·rename_i i hi;split at h
   ·rename_i cs hz;split at h
    ·rename_i hc;cases h
     simp only [C7,F8] at hc;refine⟨i,_,hu,hi,hz,rfl,rfl,rfl,?_,fun c hcm=>?_,fun _=>⟨cs,rfl⟩,by simp⟩
     ·have:=M5 hc.2;simp [this]
     ·rw [<- fD];exact hc.1 c hcm
    ·cases h
   ·rename_i z' hne hz;split at h
    ·rename_i hc;cases h
     simp only [C7] at hc;refine⟨i,_,hu,hi,hz,M5 hc.2,rfl,?_,rfl,?_,by simp,fun _=>rfl⟩
     ·cases z'<;>first|rfl|exact(hne _ rfl).elim
     ·intro c hcm;obtain rfl:c=z':=by simpa using hcm
      rw [<- fD];exact hc.1
    ·cases h
   ·cases h
  ·cases h
 ·(repeat' split at h)<;>cases h
def uJ : Option IntKind->TypeDesc
 |none=>.string
 |some k=>.int k
theorem xI {t:TypeId}{kk:Option IntKind}{z:Value}(h:tk P t=.map kk z) :
  ∃q e i,P.underlying t=some (.map q e)/\P.info? e=some i/\i.zero=some z/\i.size=1/\z.oneCell'=true/\P.underlying q=some (uJ kk):=by
 obtain⟨td,hu,h,_⟩:=lP h (by simp) (by simp);unfold Ju at h;split at h;any_goals (cases h;done)
 ·(repeat' split at h)<;>cases h
 ·rename_i q e;split at h
  ·rename_i i hi;split at h
   ·rename_i z' hz;split at h
    ·rename_i hc;simp only [C7] at hc;split at h
     ·rename_i hq;cases h;exact⟨q,e,i,hu,hi,hz,M5 hc.2,by rw [<- fD];exact hc.1,hq⟩
     ·rename_i k hq;cases h;exact⟨q,e,i,hu,hi,hz,M5 hc.2,by rw [<- fD];exact hc.1,hq⟩
     ·cases h
    ·cases h
   ·cases h
  ·cases h
theorem EZ {t:Nat}{fs:List (Nat×Nat)}{z:List Value}(h:tk P t=.st fs z) :
  ∃F i,P.underlying t=some (.struct F)/\P.info? t=some i/\i.zero=some (.agg z.toArray)/\i.size=z.length/\(∀c ∈ z,c.oneCell'=true)/\fs=(F.toList.map fun f=>(f.offset,P.cellsOf f.type))/\∀f ∈ F.toList,(P.info? f.type).isSome=true:=by
 unfold tk at h;split at h
 ·rename_i F hu;split at h
  ·rename_i i hi;split at h
   ·rename_i cs hz;split at h
    ·rename_i hc;cases h
     simp only [C7,F8] at hc;refine⟨F,i,hu,hi,by simpa using hz,?_,fun c hcm=>?_,rfl,hc.2⟩
     ·have:=M5 hc.1.2;simp [this]
     ·rw [<- fD];exact hc.1.1 c hcm
    ·cases h
   ·cases h
  ·cases h
 ·(repeat' split at h)<;>cases h
 ·split at h
  ·unfold Ju at h
   (repeat' split at h)<;>cases h
  ·cases h
 ·cases h
theorem xK {t n e esz:Nat}{z:List Value}(h:tk P t=.arr n e esz z) :
  ∃i,P.underlying t=some (.array n e)/\P.info? t=some i/\i.zero=some (.agg z.toArray)/\i.size=z.length/\(∀c ∈ z,c.oneCell'=true)/\esz=P.cellsOf e/\(P.info? e).isSome=true:=by
 unfold tk at h;split at h
 ·(repeat' split at h)<;>cases h
 ·rename_i n' e hu;split at h
  ·rename_i i hi;split at h
   ·rename_i cs hz;split at h
    ·rename_i hc;cases h
     simp only [C7,F8] at hc;refine⟨i,hu,hi,by simpa using hz,?_,fun c hcm=>?_,rfl,hc.2⟩
     ·have:=M5 hc.1.2;simp [this]
     ·rw [<- fD];exact hc.1.1 c hcm
    ·cases h
   ·cases h
  ·cases h
 ·split at h
  ·unfold Ju at h
   (repeat' split at h)<;>cases h
  ·cases h
 ·cases h
theorem Od {d:TK}{op:BinOp}{x y:V}{K:Value->Prop}(h:Oe d op x y K) :
  ∃v,K v/\v.oneCell'=true/\∀(g:Gh) (oh:OH) (a b:Value),dd g oh x a->dd g oh y b->a≠.nilIface/\(∀cs,a≠.agg cs)/\∀t w,tk P t=d->(binOp op t a b).run P w=.ok v w:=by
 unfold Oe at h;split at h
 ·rename_i k a k' b;split at h
  ·obtain⟨h0,r,rfl,h⟩:=h;refine⟨_,h,rfl,?_⟩;rintro g oh _ _ ⟨rfl,_⟩ ⟨rfl,_⟩;exact⟨by simp,by simp,fun t w _=>by simp [binOp,Op.shift,show ¬b < 0 by omega]⟩
  ·obtain⟨h0,r,rfl,h⟩:=h;refine⟨_,h,rfl,?_⟩;rintro g oh _ _ ⟨rfl,_⟩ ⟨rfl,_⟩;exact⟨by simp,by simp,fun t w _=>by simp [binOp,Op.shift,show ¬b < 0 by omega]⟩
  ·rename_i h1 h2;obtain⟨rfl,hs⟩:=h;obtain⟨v,hK,h1',hr⟩:=NY (P:=P) hs;refine⟨v,hK,h1',?_⟩;rintro g oh _ _ ⟨rfl,_⟩ ⟨rfl,_⟩;exact⟨by simp,by simp,fun t w _=>hr t w ⟨h1,h2⟩⟩
 ·rename_i a b;split at h
  ·refine⟨_,h.2,rfl,?_⟩;rintro g oh _ _ ⟨rfl,_⟩ ⟨rfl,_⟩;exact⟨by simp,by simp,fun t w ht=>run_eql_bool w t a b (sc (ht.trans h.1))⟩
  ·refine⟨_,h.2,rfl,?_⟩;rintro g oh _ _ ⟨rfl,_⟩ ⟨rfl,_⟩;exact⟨by simp,by simp,fun t w ht=>run_neq_bool w t a b (sc (ht.trans h.1))⟩
  ·exact h.elim
 ·split at h
  ·refine⟨_,h.2,rfl,?_⟩;rintro g oh _ _ ⟨rfl,_⟩ ⟨rfl,_⟩;refine⟨by simp,by simp,fun t w ht=>?_⟩;obtain⟨e,hu⟩:=nS (ht.trans h.1);have:∀d,(Op.equalIn (d+1) t (.pointer none) (.pointer none)).run P w=.ok true w:=fun d=>by simp [Op.equalIn,run_underlying hu]
   have:=this 9999;simp [binOp,Op.equal,Op.maxDepth,this]
  ·refine⟨_,h.2,rfl,?_⟩;rintro g oh _ _ ⟨rfl,_⟩ ⟨rfl,_⟩;refine⟨by simp,by simp,fun t w ht=>?_⟩;obtain⟨e,hu⟩:=nS (ht.trans h.1);have:∀d,(Op.equalIn (d+1) t (.pointer none) (.pointer none)).run P w=.ok true w:=fun d=>by simp [Op.equalIn,run_underlying hu]
   have:=this 9999;simp [binOp,Op.equal,Op.maxDepth,this]
  ·exact h.elim
 ·split at h
  ·refine⟨_,h.2,rfl,?_⟩;rintro g oh a _ ha ⟨rfl,_⟩;obtain⟨ha,_⟩:=ha;cases ha
   refine⟨by simp,by simp,fun t w ht=>?_⟩;obtain⟨e,hu⟩:=nS (ht.trans h.1);have:∀d a,(Op.equalIn (d+1) t (.pointer (some a)) (.pointer none)).run P w=.ok false w:=fun d a=>by simp [Op.equalIn,run_underlying hu]
   have:=this 9999;simp [binOp,Op.equal,Op.maxDepth,this]
  ·refine⟨_,h.2,rfl,?_⟩;rintro g oh a _ ha ⟨rfl,_⟩;obtain⟨ha,_⟩:=ha;cases ha
   refine⟨by simp,by simp,fun t w ht=>?_⟩;obtain⟨e,hu⟩:=nS (ht.trans h.1);have:∀d a,(Op.equalIn (d+1) t (.pointer (some a)) (.pointer none)).run P w=.ok false w:=fun d a=>by simp [Op.equalIn,run_underlying hu]
   have:=this 9999;simp [binOp,Op.equal,Op.maxDepth,this]
  ·exact h.elim
 ·rename_i a b;split at h
  ·refine⟨_,h.2,rfl,?_⟩;rintro g oh _ _ ⟨rfl,_⟩ ⟨rfl,_⟩;exact⟨by simp,by simp,fun t w _=>by
    have h1:=h.1
    have:¬((a.size+b.size:Nat):Int) > IntKind.i64.max:=by
     have:IntKind.i64.max=9223372036854775807:=rfl;rw [this];omega
    simp only [binOp,Op.stringOp,if_neg this];rfl⟩
  ·refine⟨_,h,rfl,?_⟩;rintro g oh _ _ ⟨rfl,_⟩ ⟨rfl,_⟩;exact⟨by simp,by simp,fun t w _=>by simp [binOp,Op.stringOp]⟩
  ·refine⟨_,h,rfl,?_⟩;rintro g oh _ _ ⟨rfl,_⟩ ⟨rfl,_⟩;exact⟨by simp,by simp,fun t w _=>by simp [binOp,Op.stringOp]⟩
  ·refine⟨_,h,rfl,?_⟩;rintro g oh _ _ ⟨rfl,_⟩ ⟨rfl,_⟩;exact⟨by simp,by simp,fun t w _=>by simp [binOp,Op.stringOp]⟩
  ·refine⟨_,h,rfl,?_⟩;rintro g oh _ _ ⟨rfl,_⟩ ⟨rfl,_⟩;exact⟨by simp,by simp,fun t w _=>by simp [binOp,Op.stringOp]⟩
  ·exact h.elim
 ·exact h.elim
theorem JM {o:Oper}{op:BinOp}{t t2:TypeId}{x y:Operand}{e:Operand->V}{oh:OH}{k:Acc->Prop}(ho:o.op=.binOp op t x y t2)
  (h:Oe (tk P t) op (e x) (e y) fun v=>free k (.af v)):dt P o e oh k:=by
 obtain⟨v,hk,h1,hr⟩:=Od (P:=P) h;refine aP hk fun g oh w ρ _ hρ=>⟨v,?_,dI h1⟩
 obtain⟨n1,n2,hr⟩:=hr g oh (ρ x) (ρ y) (hρ x (by simp [ho,Op.operands])) (hρ y (by simp [ho,Op.operands]));simp only [execOp,ho];refine bk _ w w v ?_;simp [fN op t x y (ρ x) (ρ y) n1 n2 w,hr t w rfl]
theorem NO {o:Oper}{op:UnOp}{t:TypeId}{x:Operand}{e:Operand->V}{oh:OH}{k:Acc->Prop}(ho:o.op=.unOp op t x)
  (h:Wh op (e x) fun v=>free k (.af v)):dt P o e oh k:=by
 unfold Wh at h;split at h
 ·rename_i b hx;refine aP h fun g oh w ρ _ hρ=>⟨_,?_,dI rfl⟩
  have hr:=hρ x (by simp [ho,Op.operands]);rw [hx] at hr;obtain⟨hr,_⟩:=hr;simp [execOp,ho,hr,Op.unary]
 ·rename_i q n hx;obtain⟨r,rfl,h⟩:=h;refine aP h fun g oh w ρ _ hρ=>⟨_,?_,dI rfl⟩
  have hr:=hρ x (by simp [ho,Op.operands]);rw [hx] at hr;obtain⟨hr,_⟩:=hr;simp [execOp,ho,hr,Op.unary,Op.intArith]
 ·exact h.elim
theorem wj {o:Oper}{s d:TypeId}{x:Operand}{e:Operand->V}{oh:OH}{k:Acc->Prop}(ho:o.op=.convert s d x)
  (h:Ff (tk P s) (tk P d) (e x) fun v=>free k (.af v)):dt P o e oh k:=by
 unfold Ff at h;split at h
 ·rename_i k1 k2 k3 n hs hd hx;obtain⟨r,rfl,h⟩:=h;refine aP h fun g oh w ρ _ hρ=>⟨_,?_,dI rfl⟩
  have hr:=hρ x (by simp [ho,Op.operands]);rw [hx] at hr;obtain⟨hr,_⟩:=hr;simp [execOp,ho,hr,convert,run_underlying (kG hs),run_underlying (kG hd),Conv.intToInt]
 ·rename_i s' hs hd hx;refine aP h fun g oh w ρ _ hρ=>⟨_,?_,dI rfl⟩
  have hr:=hρ x (by simp [ho,Op.operands]);rw [hx] at hr;obtain⟨hr,_⟩:=hr;simp [execOp,ho,hr,convert,run_underlying (iq hs),run_underlying (iq hd)]
 ·exact h.elim
end
end Go.Ev
namespace Go.Ev
section
variable {P : Program} {g : Gh} {oh : OH} {w : World}
theorem zr {x:Value}(h:x.oneCell'=true):x.cells=#[x]:=by cases x<;>simp_all [Value.cells,Value.oneCell']
theorem KA {v:V}{x:Value}(h:bm g oh v x)(hv:v≠.undef):x.oneCell'=true:=by
 cases v with
 |undef=>exact absurd rfl hv
 |af v=>obtain⟨rfl,h⟩:=h;exact h
 |ro f t=>exact h.2
 |emp=>obtain⟨a,rfl⟩:=h;rfl
 |own id ver off len=>exact h.1
 |ref id ver i foff=>exact h.1.1
 |wr w id ver i foff=>obtain⟨y,_,rfl⟩:=h;exact w.one y
 |agg l=>exact h.elim
 |ba l=>exact h.elim
theorem jd {v : V} {x : Value} (h : dd g oh v x) (hs : v.jV = true) :
    x.cells.size = v.cells.length /\ ∀ (j : Nat) (u : V), v.cells[j]? = some u -> ∃ c, x.cells[j]? = some c /\ bm g oh u c /\ c.oneCell' = true := by
  have one : ∀ v x, bm g oh v x -> v ≠ .undef -> v.cells = [v] ->
      x.cells.size = v.cells.length /\ ∀ (j : Nat) (u : V), v.cells[j]? = some u -> ∃ c, x.cells[j]? = some c /\ bm g oh u c /\ c.oneCell' = true := by
    intro v x h hu hc;have h1 := KA h hu;rw [zr h1, hc];refine ⟨rfl, fun j u hj => ?_⟩
    cases j with
    | zero => obtain rfl : v = u := by simpa using hj
              exact ⟨x, rfl, h, h1⟩
    | succ j => simp at hj
  cases v with
  | undef => simp [V.jV] at hs
  | ba l => simp [V.jV] at hs
  | agg l =>
    obtain ⟨cs, rfl, hl, hr⟩ := h;refine ⟨hl, fun j u hj => ?_⟩
    have hlt : j < cs.size := by
      have := (yK.1 hj).1;rw [hl]; exact this
    exact ⟨cs[j], by simp [Value.cells, hlt], hr j u cs[j] hj (by simp [hlt])⟩
  | af v => exact one _ _ h (by simp) rfl
  | ro f t => exact one _ _ h (by simp) rfl
  | emp => exact one _ _ h (by simp) rfl
  | own id ver off len => exact one _ _ h (by simp) rfl
  | ref id ver i foff => exact one _ _ h (by simp) rfl
  | wr w id ver i foff => exact one _ _ h (by simp) rfl
theorem Qj {v:V}{x:Value}(h:dd g oh v x)(hs:v.jV=true):∀c ∈ x.cells.toList,c.oneCell'=true:=by
 obtain⟨h1,h2⟩:=jd h hs;intro c hc;obtain⟨j,hj,he⟩:=L6.1 hc;have hj':j < v.cells.length:=by rw [<- h1];simpa using hj
 obtain⟨c',hc',_,h3⟩:=h2 j v.cells[j] (by simp [hj'])
 have:c'=c:=by
  have:x.cells[j]?=some c:=by rw [<- J7,uz hj,he]
  rw [hc'] at this;simpa using this
 rw [<- this];exact h3
theorem Bw (oh:OH):∀i o,ae oh i=some o->i < lj oh:=by
 induction oh with
 |nil=>intro i o h;simp [ae] at h
 |cons p r ih=>
  obtain⟨c,ob⟩:=p;intro i o h;by_cases e:i=c
  ·subst e;simp only [lj];split<;>omega
  ·rw [ah _ _ e] at h;have:=ih i o h;simp only [lj];split<;>omega
theorem DI (oh:OH):ae oh (lj oh)=none:=by
 cases h:ae oh (lj oh) with
 |none=>rfl
 |some o=>exact absurd (Bw oh _ o h) A8
theorem DO : 1<=maxLen:=by decide
theorem Eg {v:V}{x:Value}(h:dd g oh v x)(hs:v.jV=true):rZ g oh v.cells.length x.cells 0 v:=
 ⟨rfl,fun j u hj=>let ⟨c,h1,h2,h3⟩:=(jd h hs).2 j u hj;⟨c,by simpa using h1,h3,h2⟩⟩
theorem PU {v : V} {x : Value} (hr : HR g oh w) (h : dd g oh v x) (hs : v.jV = true) (c : Nat) (hc : ae oh c = none) (ty : TypeId) (pre : OH) :
    EG g oh w ⟨pre, [c], [(c, ⟨v.cells.length, [v], 0, true⟩)], .ref c 0 0 0⟩ (.pointer (some ⟨w.heap.size, 0, none⟩)) (w.alloc (.cells x.cells ty)) := by
  have hb : gE g oh ⟨v.cells.length, [v], 0, true⟩ 1 x.cells := by
    refine ⟨by simpa using (jd h hs).1, by simp, DO, fun k e he => ?_⟩
    cases k with
    | zero => obtain rfl : v = e := by simpa using he
              exact Eg h hs
    | succ k => simp at he
  obtain ⟨h1, h2, h3⟩ := hr.place c 1 ⟨v.cells.length, [v], 0, true⟩ x.cells ty rfl (by simp [hc]) hb;refine ⟨_, h1, ?_, h2, h3⟩;exact ⟨yj rfl (an _ _ _) rfl, ⟨v.cells.length, [v], 0, true⟩, an _ _ _, wU _, fun _ _ => ⟨w.heap.size, by simp [Gh.at], by simp⟩⟩
theorem AG {o:Oper}{e:Operand->V}{oh:OH}{k:Acc->Prop}{v:V}(hk:Ke oh v k)
  (h:∀(g:Gh) (oh:OH) (w:World) (ρ:Operand->Value),HR g oh w->(∀x,x ∈ o.op.operands->dd g oh (e x) (ρ x))->
   ∃x ty,dd g oh v x/\((execOp ρ o).run P w=.ok (.value (.pointer (some ⟨w.heap.size,0,none⟩))) (w.alloc (.cells x.cells ty)))):dt P o e oh k:=by
 obtain⟨hs,c,hfr,hk⟩:=hk;refine⟨_,?_,?_,?_,hk⟩
 ·intro g oh' w ρ hr hρ _ hn;obtain⟨x,ty,hv,hx⟩:=h g oh' w ρ hr hρ;rw [hx];exact PU hr hv hs _ (hn _ (by simp)) ty []
 ·simp
 ·intro i hi;obtain rfl:i=c:=by simpa using hi
  exact hfr
theorem JL {o:Oper}{t:TypeId}{x:Operand}{e:Operand->V}{oh:OH}{k:Acc->Prop}(ho:o.op=.box t x)(hk:Ke oh (e x) k):dt P o e oh k:=
 AG hk fun g oh w ρ _ hρ=>⟨ρ x,t,hρ x (by simp [ho,Op.operands]),by simp [execOp,ho,Instr.box,newVar,newRow]⟩
theorem ik {v:Value}(h:rV v=true):bm g oh (V.bI v) v:=by
 rw [fD] at h;unfold V.bI;split
 ·exact⟨none,rfl⟩
 ·exact⟨rfl,h⟩
theorem um (v:Value):dd g oh (V.ofConst v) v:=by
 unfold V.ofConst;split
 ·rename_i cs
  cases hc:cs.toList.all rV with
  |false=>trivial
  |true=>
   refine⟨cs,rfl,by simp,fun j u c hu hcj=>?_⟩;have hm:c ∈ cs.toList:=by rw [Array.mem_toList_iff];exact Array.mem_of_getElem? hcj
   have h1:rV c=true:=F8.1 hc c hm
   have:V.bI c=u:=by
    rw [Zf,J7,hcj] at hu;simpa using hu
   rw [<- this,<- fD];exact⟨ik h1,h1⟩
 ·trivial
 ·rename_i h1 h2;have:rV v=true:=by cases v<;>first|rfl|exact(h1 _ rfl).elim|exact(h2 _ rfl).elim
  have:=ik (g:=g) (oh:=oh) this;unfold V.bI at this |-;split at this<;>exact this
theorem CU {o:Oper}{t:TypeId}{e:Operand->V}{oh:OH}{k:Acc->Prop}(ho:o.op=.alloc t)(hk:Ke oh (tz P t) k):dt P o e oh k:=by
 have hz:∃i z,P.info? t=some i/\i.zero=some z/\tz P t=V.ofConst z:=by
  unfold tz
  cases hi:P.info? t with
  |none=>have:=hk.1;simp [tz,hi,V.jV] at this
  |some i=>
   cases hz:i.zero with
   |none=>have:=hk.1;simp [tz,hi,hz,V.jV] at this
   |some z=>exact⟨i,z,rfl,hz,by simp [hz]⟩
 obtain⟨i,z,hi,hz,he⟩:=hz;rw [he] at hk;exact AG hk fun g oh w ρ _ _=>⟨z,t,um z,by simp [execOp,ho,Instr.alloc,zeroValue,typeInfo,hi,hz,newVar,newRow]⟩
theorem kN {S:dS}{l:List T}{x:Value}(h:gD S (.sl l) x) :
  ∃(a:Option Addr) (cap esz b off:Nat) (c:Nat->Nat->Value),x=.slice a l.length cap/\l.length<=cap/\cap<=maxLen/\(l≠[]->a=some ⟨b,off,none⟩)/\
   (∀(i:Nat) (t:T),l[i]?=some t->t.cells.length=esz)/\
   (∀(i:Nat) (t:T) (j:Nat),l[i]?=some t->j < t.cells.length->S b (off+i * esz+j)=some (c i j))/\
   (∀(i:Nat) (t:T) (j:Nat),l[i]?=some t->j < t.cells.length->(c i j).oneCell'=true)/\
   (∀(i:Nat) (t:T) (j:Nat) (u:T),l[i]?=some t->t.cells[j]?=some u->gD S u (c i j)):=by
 cases h with
 |sl _ a cap esz b off c hc hm ha hz hs h1 hr=>exact⟨a,cap,esz,b,off,c,rfl,hc,hm,ha,hz,hs,h1,hr⟩
theorem su {S:dS}{l:List T}{x:Value}(h:gD S (.ptr l) x) :
  ∃(b off:Nat) (c:Nat->Value),x=.pointer (some ⟨b,off,none⟩)/\(∀j,j < l.length->S b (off+j)=some (c j))/\(∀j,j < l.length->(c j).oneCell'=true)/\
   (∀(j:Nat) (u:T),l[j]?=some u->gD S u (c j)):=by
 cases h with
 |ptr _ b off c hs h1 hr=>exact⟨b,off,c,rfl,hs,h1,hr⟩
theorem cU {id ver:Nat}{K:Obj->Prop}(h:use oh id ver K):∃o,ae oh id=some o/\o.ver=ver/\o.live=true/\K o:=by
 unfold use at h;split at h
 ·rename_i o ho;exact⟨o,ho,h⟩
 ·exact h.elim
theorem dD {o:Oper}{e:Operand->V}{oh:OH}{k:Acc->Prop}{v:V}{id:Nat}{ob:Obj}(hg:ae oh id=some ob)(hk:k ⟨[(id,ob)],[],[],v⟩)
  (h:∀(g:Gh) (oh:OH) (w:World) (ρ:Operand->Value),HR g oh w->(∀x,x ∈ o.op.operands->dd g oh (e x) (ρ x))->ae oh id=some ob->
   ∃x,((execOp ρ o).run P w=.ok (.value x) w)/\dd g oh v x):dt P o e oh k:=
 ⟨_,Dy (fun g oh w ρ a b c=>h g oh w ρ a b (c id ob (by simp))),by simpa using hg,by simp,hk⟩
theorem CP {o:Oper}{t:TypeId}{x i:Operand}{e:Operand->V}{oh:OH}{k:Acc->Prop}(ho:o.op=.indexAddr t x i)
  (h:Db (tk P t) oh (e x) (e i) k):dt P o e oh k:=by
 unfold Db at h;split at h
 ·rename_i d1 v1 v2 e1 sz by1 ag1 z1 f l k2 n hd hx hi;obtain⟨h0,tt,htt,hsz,hk⟩:=h
  ·obtain⟨inf,zv,hu,hinf,_,hs,_⟩:=ie hd;refine aP hk fun g oh w ρ hr hρ=>?_
   have hrx:=hρ x (by simp [ho,Op.operands]);have hri:=hρ i (by simp [ho,Op.operands]);rw [hx] at hrx;rw [hi] at hri;obtain⟨hri,_⟩:=hri;obtain⟨hrx,_⟩:=hrx;obtain⟨a,cap,esz,b,off,c,hxe,hlc,hm,ha,hz,hS,h1,hR⟩:=kN hrx;have hne:l≠[]:=fun e=>by simp [e] at htt
   have hlt:n.toNat < l.length:=(yK.1 htt).1;have hesz:=hz _ _ htt;have ea:=ha hne;subst ea;refine⟨.pointer (some ⟨b,off+n.toNat * inf.size,none⟩),?_,?_⟩
   ·simp only [execOp,ho];refine bk _ w w _ ?_;rw [hxe,hri];simp [Instr.indexAt,asIntOf,run_underlying hu,sizeOf,typeInfo,hinf,show(0<=n/\n < (l.length:Int)) by omega,Addr.add_lit]
   ·refine⟨.ptr tt.cells b _ (fun j=>c n.toNat j) (fun j hj=>?_) (fun j hj=>h1 _ _ _ htt hj) (fun j u hu'=>hR _ _ _ _ htt hu'),rfl⟩;have:=hS _ _ _ htt hj;rw [<- hesz,hsz,<- hs] at this;exact this
 ·rename_i d1 v1 v2 e1 sz by1 ag1 z1 id ver off len k2 n hd hx hi;obtain⟨h0,hlen,h⟩:=h;obtain⟨ob,hob,hv,hl,hosz,hk⟩:=cU h;obtain⟨inf,zv,hu,hinf,_,hs,_⟩:=ie hd;refine dD hob hk fun g oh w ρ hr hρ hob'=>?_
  have hrx:=hρ x (by simp [ho,Op.operands]);have hri:=hρ i (by simp [ho,Op.operands]);rw [hx] at hrx;rw [hi] at hri;obtain⟨hri,_⟩:=hri;obtain⟨_,ob',hob2,_,hat⟩:=hrx;rw [hob'] at hob2;obtain rfl:ob=ob':=by simpa using hob2
  obtain⟨a,cap,hxe,hlc,hoff,hcap⟩:=hat hv hl;obtain⟨b,hb,ha,hcp⟩:=hcap A8;subst ha;refine⟨.pointer (some ⟨b,off * ob.sz+n.toNat * inf.size,none⟩),?_,?_⟩
  ·simp only [execOp,ho];refine bk _ w w _ ?_;rw [hxe,hri];simp [Instr.indexAt,asIntOf,run_underlying hu,sizeOf,typeInfo,hinf,show(0<=n/\n < (len:Int)) by omega,Addr.add_lit]
  ·refine⟨yj rfl hob' hl,ob,hob',by omega,fun _ _=>⟨b,hb,?_⟩⟩;rw [hs,<- hosz,<- I8];simp
 ·exact h.elim
theorem CQ {o:Oper}{t:TypeId}{x:Operand}{f:Nat}{e:Operand->V}{oh:OH}{k:Acc->Prop}(ho:o.op=.fieldAddr t x f)
  (h:De (tk P t) oh (e x) f k):dt P o e oh k:=by
 unfold De at h;split at h
 ·rename_i fs z hd;obtain⟨F,inf,hu,hinf,_,_,_,rfl,_⟩:=EZ hd;split at h
  ·rename_i off sz hf;obtain⟨hsz,h⟩:=h
   have hF:∃fl,F[f]?=some fl/\fl.offset=off/\P.cellsOf fl.type=sz:=by
    rw [Zf,J7] at hf
    cases hfl:F[f]? with
    |none=>simp [hfl] at hf
    |some fl=>simp [hfl] at hf;exact⟨fl,rfl,hf⟩
   obtain⟨fl,hfl,rfl,rfl⟩:=hF
   have hsize:∃i,P.info? fl.type=some i/\i.size≠0:=by
    unfold Program.cellsOf at hsz
    cases hi:P.info? fl.type with
    |none=>simp [hi] at hsz
    |some i=>exact⟨i,rfl,by simpa [hi] using hsz⟩
   obtain⟨i,hi,hi0⟩:=hsize
   have run:∀(b o':Nat) (w:World),(Instr.fieldAt t (.pointer (some ⟨b,o',none⟩)) f).run P w=.ok (.pointer (some ⟨b,o'+fl.offset,none⟩)) w:=fun b o' w=>by
    simp [Instr.fieldAt,run_underlying hu,hfl,Instr.sureAddr,fieldPlace,sizeOf,typeInfo,hi,hi0,Addr.add_lit]
   split at h
   ·rename_i v1 fr l hx;obtain⟨hle,hk⟩:=h;refine aP hk fun g oh w ρ hr hρ=>?_
    have hrx:=hρ x (by simp [ho,Op.operands]);rw [hx] at hrx;obtain⟨hrx,_⟩:=hrx;obtain⟨b,off,c,hxe,hS,h1,hR⟩:=su hrx;refine⟨.pointer (some ⟨b,off+fl.offset,none⟩),?_,?_⟩
    ·simp only [execOp,ho];refine bk _ w w _ ?_;rw [hxe];exact run _ _ _
    ·refine⟨.ptr _ b _ (fun j=>c (fl.offset+j)) (fun j hj=>?_) (fun j hj=>h1 _ (by simp at hj;omega)) (fun j u hu'=>hR _ _ (by simpa using hu')),rfl⟩;have:=hS (fl.offset+j) (by simp at hj;omega);rw [show off+fl.offset+j=off+(fl.offset+j) by omega];exact this
   ·rename_i v1 id ver ix foff hx;obtain⟨ob,hob,hv,hl,hk⟩:=cU h;refine dD hob hk fun g oh w ρ hr hρ hob'=>?_
    have hrx:=hρ x (by simp [ho,Op.operands]);rw [hx] at hrx;obtain⟨_,ob',hob2,_,hat⟩:=hrx;rw [hob'] at hob2;obtain rfl:ob=ob':=by simpa using hob2
    obtain⟨b,hb,hxe⟩:=hat hv hl;refine⟨.pointer (some ⟨b,ix * ob.sz+foff+fl.offset,none⟩),?_,yj rfl hob' hl,ob,hob',by omega,fun _ _=>⟨b,hb,by simp [P0]⟩⟩;simp only [execOp,ho];refine bk _ w w _ ?_;rw [hxe];exact run _ _ _
   ·exact h.elim
  ·exact h.elim
 ·exact h.elim
end
end Go.Ev
