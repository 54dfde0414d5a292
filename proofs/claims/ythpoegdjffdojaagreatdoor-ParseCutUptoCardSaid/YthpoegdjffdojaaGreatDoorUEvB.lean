import Derived.Test.YthpoegdjffdojaaGreatDoorUEvA
import Derived.Below
set_option linter.all false
namespace Go.Ev
abbrev dS :=Nat->Nat->Option Value
inductive gD (S:dS):T->Value->Prop
 |af (v:Value) (h:v.oneCell'=true):gD S (.af v) v
 |sl (l:List T) (a:Option Addr) (cap esz b off:Nat) (c:Nat->Nat->Value)
   (hc:l.length<=cap) (hm:cap<=maxLen) (ha:l≠[]->a=some ⟨b,off,none⟩)
   (hz:∀(i:Nat) (t:T),l[i]?=some t->t.cells.length=esz)
   (hs:∀(i:Nat) (t:T) (j:Nat),l[i]?=some t->j < t.cells.length->S b (off+i * esz+j)=some (c i j))
   (h1:∀(i:Nat) (t:T) (j:Nat),l[i]?=some t->j < t.cells.length->(c i j).oneCell'=true)
   (hr:∀(i:Nat) (t:T) (j:Nat) (u:T),l[i]?=some t->t.cells[j]?=some u->gD S u (c i j)):gD S (.sl l) (.slice a l.length cap)
 |ptr (l:List T) (b off:Nat) (c:Nat->Value)
   (hs:∀j,j < l.length->S b (off+j)=some (c j)) (h1:∀j,j < l.length->(c j).oneCell'=true)
   (hr:∀(j:Nat) (u:T),l[j]?=some u->gD S u (c j)):gD S (.ptr l) (.pointer (some ⟨b,off,none⟩))
 |agg (l:List T) (cs:Array Value) (hl:cs.size=l.length)
   (h1:∀(j:Nat) (c:Value),cs[j]?=some c->c.oneCell'=true)
   (hr:∀(j:Nat) (u:T) (c:Value),l[j]?=some u->cs[j]?=some c->gD S u c):gD S (.agg l) (.agg cs)
 |ba (l:List T) (vs:Array Value) (hl:vs.size=l.length) (h1:∀(j:Nat) (us:Array Value),vs[j]?≠some (.tuple us))
   (hr:∀(j:Nat) (u:T) (c:Value),l[j]?=some u->vs[j]?=some c->gD S u c):gD S (.ba l) (.tuple vs)
 |jq (t:TypeId) (x:T) (c:Value) (hc:c.oneCell'=true) (h:gD S x c):gD S (.jq t x) (.iface t c)
theorem gD.mono {S S':dS}(hS:∀b o c,S b o=some c->S' b o=some c){t:T}{v:Value}(h:gD S t v):gD S' t v:=by
 induction h with
 |af v h=>exact .af v h
 |sl l a cap esz b off c hc hm ha hz hs h1 hr ih=>
  exact .sl l a cap esz b off c hc hm ha hz (fun i t j hi hj=>hS _ _ _ (hs i t j hi hj)) h1 ih
 |ptr l b off c hs h1 hr ih=>exact .ptr l b off c (fun j hj=>hS _ _ _ (hs j hj)) h1 ih
 |agg l cs hl h1 hr ih=>exact .agg l cs hl h1 ih
 |ba l vs hl h1 hr ih=>exact .ba l vs hl h1 ih
 |jq t x c hc h ih=>exact .jq t x c hc ih
structure Gh where
 G:dS
 F:dS
 m:Nat->Option Nat
 cp:Nat->Nat
def Gh.Qy (g:Gh):Bool->dS
 |true=>g.F
 |false=>g.G
def VE (g:Gh)(o:Obj)(id off len:Nat)(x:Value):Prop:=
 ∃a cap,x=.slice a len cap/\len<=cap/\off+len<=o.el.length/\(cap≠0->∃b,g.m id=some b/\a=some ⟨b,off * o.sz,none⟩/\off+cap<=g.cp id)
def jg (o:Obj):Prop:=o.live=false/\o.sz=0
def Tx (g:Gh)(oh:OH)(id:Nat)(x:Value):Prop:=x.oneCell'=true/\∀o,ae oh id=some o->jg o->∃b,g.m id=some b/\x=.map (some b)
def Wr.app : Wr->Value->Value
 |.Tf f,y=>.func (.func f) #[y] #[]
 |.TH f,y=>.func (.func f) #[] #[y]
 |.jq t,y=>.iface t y
theorem Wr.one (w:Wr)(y:Value):(w.app y).oneCell'=true:=by cases w<;>rfl
def vW (g:Gh)(oh:OH)(id ver i foff:Nat)(x:Value):Prop:=
 Tx g oh id x/\∃o,ae oh id=some o/\ver<=o.ver/\(o.ver=ver->o.live=true->∃b,g.m id=some b/\x=.pointer (some ⟨b,i * o.sz+foff,none⟩))
def bm (g:Gh)(oh:OH):V->Value->Prop
 |.undef,_=>True
 |.af v,x=>x=v/\v.oneCell'=true
 |.ro f t,x=>gD (g.Qy f) t x/\x.oneCell'=true
 |.emp,x=>∃a,x=.slice a 0 0
 |.own id ver off len,x=>x.oneCell'=true/\∃o,ae oh id=some o/\ver<=o.ver/\(o.ver=ver->o.live=true->VE g o id off len x)
 |.ref id ver i foff,x=>Tx g oh id x/\∃o,ae oh id=some o/\ver<=o.ver/\(o.ver=ver->o.live=true->∃b,g.m id=some b/\x=.pointer (some ⟨b,i * o.sz+foff,none⟩))
 |.wr w id ver i foff,x=>∃y,vW g oh id ver i foff y/\x=w.app y
 |_,_=>False
def EA (g:Gh)(oh:OH):V->Value->Prop
 |.agg l,x=>∃cs:Array Value,x=.agg cs/\cs.size=l.length/\∀(j:Nat) (v:V) (c:Value),l[j]?=some v->cs[j]?=some c->bm g oh v c/\c.oneCell'=true
 |v,x=>bm g oh v x
def dd (g:Gh)(oh:OH):V->Value->Prop
 |.ba l,x=>∃vs:Array Value,x=.tuple vs/\vs.size=l.length/\∀(j:Nat) (v:V) (c:Value),l[j]?=some v->vs[j]?=some c->EA g oh v c
 |v,x=>EA g oh v x
def rZ (g:Gh)(oh:OH)(sz:Nat)(arr:Array Value)(k:Nat)(e:V):Prop:=
 e.cells.length=sz/\∀j v,e.cells[j]?=some v->∃c,arr[k * sz+j]?=some c/\c.oneCell'=true/\bm g oh v c
def gE (g:Gh)(oh:OH)(o:Obj)(n:Nat)(arr:Array Value):Prop:=
 arr.size=n * o.sz/\o.el.length<=n/\n<=maxLen/\∀k e,o.el[k]?=some e->rZ g oh o.sz arr k e
def vu (g:Gh)(oh:OH)(w:World)(i:Nat)(o:Obj):Prop:=
 (g.m i=none->o.el=[])/\∀b,g.m i=some b->∃arr ty,w.heap[b]?=some (.cells arr ty (0,0))/\(∀off,g.G b off=none)/\gE g oh o (g.cp i) arr
def MS (g:Gh)(w:World)(i:Nat)(o:Obj):Prop:=∃b es clock,g.m i=some b/\w.heap[b]?=some (.map es clock)/\es.size=o.el.length/\∀(j:Nat) (e:MapEntry) (v:V),es[j]?=some e->o.el[j]?=some v->v=.agg [.af e.key,.af e.val]
structure jm (g:Gh)(oh:OH)(w:World):Prop where
 at_:∀i o,ae oh i=some o->jg o->MS g w i o
 inj:∀i j oi oj b,ae oh i=some oi->ae oh j=some oj->jg oi->jg oj->g.m i=some b->g.m j=some b->i=j
def sP (g:Gh)(oh:OH)(b:Nat):Prop:=∃i o,ae oh i=some o/\jg o/\g.m i=some b
theorem eN {o:Obj}(h:o.live=true):¬jg o:=fun h2=>by rw [h2.1] at h;cases h
theorem jm.of {g:Gh}{oh:OH}{w w':World}(h:jm g oh w)(e:∀b,sP g oh b->w'.heap[b]?=w.heap[b]?):jm g oh w':=by
 refine⟨fun i o ho hm=>?_,h.inj⟩;obtain⟨b,es,clock,h1,h2,h3⟩:=h.at_ i o ho hm;exact⟨b,es,clock,h1,(e b ⟨i,o,ho,hm,h1⟩).trans h2,h3⟩
theorem jm.sub {g g1:Gh}{oh oh1:OH}{w:World}(h:jm g oh w)(hs:∀i o,ae oh1 i=some o->jg o->ae oh i=some o/\g1.m i=g.m i):jm g1 oh1 w:=by
 refine⟨fun i o ho hm=>?_,fun i j oi oj b hi hj mi mj=>?_⟩
 ·obtain⟨q1,q2⟩:=hs i o ho hm;obtain⟨b,es,clock,h1,h2,h3⟩:=h.at_ i o q1 hm;exact⟨b,es,clock,q2.trans h1,h2,h3⟩
 ·obtain⟨q1,q2⟩:=hs i oi hi mi;obtain⟨q3,q4⟩:=hs j oj hj mj;rw [q2,q4];exact h.inj i j oi oj b q1 q3 mi mj
theorem sP.sub {g g1:Gh}{oh oh1:OH}{b:Nat}(hs:∀i o,ae oh1 i=some o->jg o->ae oh i=some o/\g1.m i=g.m i)(h:sP g1 oh1 b):sP g oh b:=by
 obtain⟨i,o,ho,hm,e⟩:=h;obtain⟨q1,q2⟩:=hs i o ho hm;exact⟨i,o,q1,hm,q2.symm.trans e⟩
theorem jm.block {g:Gh}{oh:OH}{w:World}(h:jm g oh w){b:Nat}(hb:sP g oh b):∃es clock,w.heap[b]?=some (.map es clock):=by
 obtain⟨i,o,ho,hm,e⟩:=hb;obtain⟨b',es,clock,h1,h2,_⟩:=h.at_ i o ho hm;rw [h1] at e;obtain rfl:b'=b:=by simpa using e
 exact⟨es,clock,h2⟩
theorem jm.lt {g:Gh}{oh:OH}{w:World}(h:jm g oh w){b:Nat}(hb:sP g oh b):b < w.heap.size:=by
 obtain⟨es,clock,h1⟩:=h.block hb;exact(E4.1 h1).1
theorem jm.none {g:Gh}{oh:OH}{w:World}(h:∀i o,ae oh i=some o->o.live=true):jm g oh w:=
 ⟨fun i o ho hm=>absurd hm (eN (h i o ho)),fun i j oi oj b hi hj mi mj=>absurd mi (eN (h i oi hi))⟩
theorem sP.none {g:Gh}{oh:OH}{b:Nat}(h:∀i o,ae oh i=some o->o.live=true):¬sP g oh b:=fun⟨i,o,ho,hm,_⟩=>eN (h i o ho) hm
theorem hJ : ∀i o,ae [] i=some o->o.live=true:=fun i o h=>by cases h
def Yl : Option Nat:=some 1
def Ym : Option (Nat×Value):=some (0,.iface 149 (.agg #[.pointer (some ⟨4,34,none⟩)]))
def GL (S:dS):Prop:=(match Yl with|some k=>∃m,S k 0=some (.int .i64 m)|none=>True)/\(match Ym with|some (k,v)=>S k 0=some v|none=>True)
theorem GL.mono {S S':dS}(h:GL S)(hm:∀b o c,S b o=some c->S' b o=some c):GL S':=by
 unfold GL at h |-;obtain⟨h,h2⟩:=h;refine⟨?_,?_⟩
 ·split at h
  ·obtain⟨m,hk⟩:=h;exact⟨m,hm _ _ _ hk⟩
  ·trivial
 ·split at h2
  ·exact hm _ _ _ h2
  ·trivial
structure HR0 (g:Gh)(oh:OH)(w:World):Prop where
 hG:∀b o c,g.G b o=some c->w.cell? ⟨b,o,none⟩=some c
 hF:∀b o c,g.F b o=some c->g.G b o=some c
 obj:∀i o,ae oh i=some o->o.live=true->vu g oh w i o
 inj:∀i j oi oj b,ae oh i=some oi->ae oh j=some oj->oi.live=true->oj.live=true->g.m i=some b->g.m j=some b->i=j
 mp:jm g oh w
structure HR (g:Gh)(oh:OH)(w:World):Prop extends HR0 g oh w where
 gl:GL g.G
def cw (g:Gh)(oh:OH)(b:Nat):Prop:=∃i o,ae oh i=some o/\o.live=true/\g.m i=some b
def cx (g:Gh)(oh:OH)(g':Gh)(oh':OH):Prop:=∀v x,bm g oh v x->bm g' oh' v x
theorem cx.refl (g:Gh)(oh:OH):cx g oh g oh:=fun _ _ h=>h
theorem cx.trans {g g1 g2:Gh}{oh oh1 oh2:OH}(h:cx g oh g1 oh1)(k:cx g1 oh1 g2 oh2):cx g oh g2 oh2:=fun v x r=>k v x (h v x r)
theorem cx.Xy {g g':Gh}{oh oh':OH}(h:cx g oh g' oh'){v:V}{x:Value}(r:EA g oh v x):EA g' oh' v x:=by
 cases v with
 |agg l=>obtain⟨cs,rfl,hl,hr⟩:=r;exact⟨cs,rfl,hl,fun j v c h1 h2=>⟨h _ _ (hr j v c h1 h2).1,(hr j v c h1 h2).2⟩⟩
 |_=>simp only [EA] at r |-;exact h _ _ r
theorem cx.Sh {g g':Gh}{oh oh':OH}(h:cx g oh g' oh'){v:V}{x:Value}(r:dd g oh v x):dd g' oh' v x:=by
 cases v with
 |ba l=>obtain⟨cs,rfl,hl,hr⟩:=r;exact⟨cs,rfl,hl,fun j v c h1 h2=>h.Xy (hr j v c h1 h2)⟩
 |_=>simp only [dd] at r |-;exact h.Xy r
theorem rZ.mono {g g':Gh}{oh oh':OH}(h:cx g oh g' oh'){sz:Nat}{arr:Array Value}{k:Nat}{e:V}(r:rZ g oh sz arr k e):rZ g' oh' sz arr k e:=
 ⟨r.1,fun j v hv=>let ⟨c,h1,h2,h3⟩:=r.2 j v hv;⟨c,h1,h2,h _ _ h3⟩⟩
theorem gE.mono {g g':Gh}{oh oh':OH}(h:cx g oh g' oh'){o:Obj}{n:Nat}{arr:Array Value}(r:gE g oh o n arr):gE g' oh' o n arr:=
 ⟨r.1,r.2.1,r.2.2.1,fun k e he=>(r.2.2.2 k e he).mono h⟩
structure Fr (g:Gh)(oh:OH)(w:World)(g':Gh)(oh':OH)(w':World):Prop where
 os:w'.os=w.os
 tape:w'.tape=w.tape
 output:w'.output=w.output
 size:w.heap.size<=w'.heap.size
 km:∀b,b < w.heap.size->¬cw g oh b->¬sP g oh b->w'.heap[b]?=w.heap[b]?
 own:∀b,cw g' oh' b->cw g oh b\/w.heap.size<=b
 G:∀b o c,g.G b o=some c->g'.G b o=some c
 F:∀b o c,g.F b o=some c->g'.F b o=some c
 nG:∀b o c,g'.G b o=some c->g.G b o=some c\/cw g oh b\/w.heap.size<=b
 nF:∀b o c,g'.F b o=some c->g.F b o=some c\/cw g oh b\/w.heap.size<=b
 Gx:∀(b:Nat) (arr:Array Value) (ty:TypeId) (fz:Nat×Nat),w.heap[b]?=some (.cells arr ty fz)->∃arr':Array Value,w'.heap[b]?=some (.cells arr' ty fz)/\arr'.size=arr.size
 DK:∀b,sP g' oh' b->sP g oh b\/w.heap.size<=b
theorem Fr.refl (g:Gh)(oh:OH)(w:World):Fr g oh w g oh w:=
 ⟨rfl,rfl,rfl,wU _,fun _ _ _ _=>rfl,fun _ h=>.inl h,fun _ _ _ h=>h,fun _ _ _ h=>h,fun _ _ _ h=>.inl h,fun _ _ _ h=>.inl h,fun _ arr _ _ h=>⟨arr,h,rfl⟩,fun _ h=>.inl h⟩
theorem Fr.trans {g g1 g2:Gh}{oh oh1 oh2:OH}{w w1 w2:World}(h:Fr g oh w g1 oh1 w1)(k:Fr g1 oh1 w1 g2 oh2 w2):Fr g oh w g2 oh2 w2 where
 os:=k.os.trans h.os
 tape:=k.tape.trans h.tape
 output:=k.output.trans h.output
 size:=G6 h.size k.size
 km b hb hn hn2:=by
  refine(k.km b (L0 hb h.size) (fun ho=>?_) (fun ho=>?_)).trans (h.km b hb hn hn2)
  ·rcases h.own b ho with h'|h'
   ·exact hn h'
   ·omega
  ·rcases h.DK b ho with h'|h'
   ·exact hn2 h'
   ·omega
 own b hb:=by
  rcases k.own b hb with h'|h'
  ·exact h.own b h'
  ·have:=h.size;exact .inr A8
 G b o c hc:=k.G b o c (h.G b o c hc)
 F b o c hc:=k.F b o c (h.F b o c hc)
 nG b o c hc:=by
  rcases k.nG b o c hc with h'|h'|h'
  ·exact h.nG b o c h'
  ·rcases h.own b h' with h''|h''
   ·exact .inr (.inl h'')
   ·exact .inr (.inr h'')
  ·have:=h.size;exact .inr (.inr A8)
 nF b o c hc:=by
  rcases k.nF b o c hc with h'|h'|h'
  ·exact h.nF b o c h'
  ·rcases h.own b h' with h''|h''
   ·exact .inr (.inl h'')
   ·exact .inr (.inr h'')
  ·have:=h.size;exact .inr (.inr A8)
 Gx b arr ty fz h0:=by
  obtain⟨a1,e1,s1⟩:=h.Gx b arr ty fz h0;obtain⟨a2,e2,s2⟩:=k.Gx b a1 ty fz e1;exact⟨a2,e2,s2.trans s1⟩
 DK b hb:=by
  rcases k.DK b hb with h'|h'
  ·exact h.DK b h'
  ·have:=h.size;exact .inr A8
theorem cell_of_heap {w w':World}{b o:Nat}(h:w'.heap[b]?=w.heap[b]?):w'.cell? ⟨b,o,none⟩=w.cell? ⟨b,o,none⟩:=by simp [World.cell?,h]
theorem cD {w:World}{b o:Nat}{c:Value}(h:w.cell? ⟨b,o,none⟩=some c):b < w.heap.size:=World.block_lt_of_cell? w _ h
theorem bh {w:World}{b:Nat}{o:Go.Obj}(h:w.heap[b]?=some o):b < w.heap.size:=(E4.1 h).1
theorem HR.same {g:Gh}{oh:OH}{w w':World}(h:HR g oh w)(e:w'.heap=w.heap):HR g oh w' where
 hG b o c hc:=by have:=h.hG b o c hc;simpa [World.cell?,e] using this
 hF:=h.hF
 obj i o ho hl:=by
  obtain⟨h1,h2⟩:=h.obj i o ho hl;refine⟨h1,fun b hb=>?_⟩;rw [e];exact h2 b hb
 inj:=h.inj
 mp:=h.mp.of fun b _=>by rw [e]
 gl:=h.gl
theorem Fr.drew {g g':Gh}{oh oh':OH}{w w':World}(h:Fr g oh w.drew g' oh' w'):Fr g oh w g' oh' w':=
 ⟨h.os,h.tape,h.output,h.size,h.km,h.own,h.G,h.F,h.nG,h.nF,h.Gx,h.DK⟩
theorem an (c:Nat)(o:Obj)(oh:OH):ae ((c,o) :: oh) c=some o:=by simp [ae]
theorem ah {c i:Nat}(o:Obj)(oh:OH)(h:i≠c):ae ((c,o) :: oh) i=ae oh i:=by
 have e:¬c=i:=fun e=>h e.symm
 simp [ae,e]
def Gh.at (g:Gh)(c b n:Nat):Gh:={ g with m:=fun i=>if i=c then some b else g.m i,cp:=fun i=>if i=c then n else g.cp i }
section
variable {g : Gh} {oh : OH} {w : World}
theorem yj {g:Gh}{oh:OH}{id:Nat}{x:Value}{o:Obj}(h:x.oneCell'=true)(ho:ae oh id=some o)(hl:o.live=true):Tx g oh id x:=
 ⟨h,fun q hq hm=>by
  rw [ho] at hq;obtain rfl:o=q:=by simpa using hq
  exact absurd hm (eN hl)⟩
theorem bm.lift {oh':OH}{g':Gh}(hF:∀b o c,g.F b o=some c->g'.F b o=some c)(hG:∀b o c,g.G b o=some c->g'.G b o=some c)
  (hown:∀id o,ae oh id=some o->∃o',ae oh' id=some o'/\o.ver<=o'.ver/\(jg o'->jg o/\g'.m id=g.m id)/\(o'.ver=o.ver->o'.live=true->o.live=true/\o'.sz=o.sz/\o.el.length<=o'.el.length/\g'.m id=g.m id/\g'.cp id=g.cp id)) :
  cx g oh g' oh':=by
 have href:∀(id ver i foff:Nat) (x:Value),vW g oh id ver i foff x->vW g' oh' id ver i foff x:=by
  intro id ver i foff x h;obtain⟨h1,o,ho,hv,hc⟩:=h;obtain⟨o',ho',hle,hmm,hcc⟩:=hown id o ho;refine⟨⟨h1.1,fun q hq hmp=>?_⟩,o',ho',G6 hv hle,fun e hl=>?_⟩
  ·rw [ho'] at hq;obtain rfl:o'=q:=by simpa using hq
   obtain⟨m1,m2⟩:=hmm hmp;obtain⟨b,b1,b2⟩:=h1.2 o ho m1;exact⟨b,m2.trans b1,b2⟩
  have hvv:o.ver=ver:=Nat.le_antisymm A8 hv;obtain⟨l1,l2,l3,l4,l5⟩:=hcc A8 hl;obtain⟨b,hb,hx⟩:=hc hvv l1;exact⟨b,by rw [l4];exact hb,by rw [l2];exact hx⟩
 intro v x h
 cases v with
 |undef=>trivial
 |af v=>exact h
 |ro f t=>
  refine⟨h.1.mono ?_,h.2⟩;cases f
  ·exact hG
  ·exact hF
 |emp=>exact h
 |own id ver off len=>
  obtain⟨h1,o,ho,hv,hc⟩:=h;obtain⟨o',ho',hle,_,hcc⟩:=hown id o ho;refine⟨h1,o',ho',G6 hv hle,fun e hl=>?_⟩;have hvv:o.ver=ver:=Nat.le_antisymm A8 hv;obtain⟨l1,l2,l3,l4,l5⟩:=hcc A8 hl;obtain⟨a,cap,hx,hlc,hoff,hb⟩:=hc hvv l1;exact⟨a,cap,hx,hlc,by omega,by rw [l2,l4,l5];exact hb⟩
 |ref id ver i foff=>exact href _ _ _ _ _ h
 |wr w id ver i foff=>obtain⟨y,hy,e⟩:=h;exact⟨y,href _ _ _ _ _ hy,e⟩
 |agg l=>exact h.elim
 |ba l=>exact h.elim
theorem HR.place (h:HR g oh w)(c n:Nat)(ob:Obj)(arr:Array Value)(ty:TypeId)(hlv:ob.live=true)(hv:∀o,ae oh c=some o->o.ver < ob.ver)
  (hb:gE g oh ob n arr) :
  HR (g.at c w.heap.size n) ((c,ob) :: oh) (w.alloc (.cells arr ty))/\cx g oh (g.at c w.heap.size n) ((c,ob) :: oh)/\
  Fr g oh w (g.at c w.heap.size n) ((c,ob) :: oh) (w.alloc (.cells arr ty)):=by
 have hm:cx g oh (g.at c w.heap.size n) ((c,ob) :: oh):=by
  refine bm.lift (fun _ _ _ h=>h) (fun _ _ _ h=>h) fun id o ho=>?_
  by_cases e:id=c
  ·subst e;exact⟨ob,an _ _ _,by have:=hv o ho;omega,fun h=>absurd h (eN hlv),fun e'=>by have:=hv o ho;omega⟩
  ·exact⟨o,(ah _ _ e).trans ho,wU _,fun h=>⟨h,by simp [Gh.at,e]⟩,fun _ hl=>⟨hl,rfl,wU _,by simp [Gh.at,e],by simp [Gh.at,e]⟩⟩
 have hGlt:∀b o c,g.G b o=some c->b < w.heap.size:=fun b o c hc=>cD (h.hG b o c hc)
 have hown:∀b,cw g oh b->b < w.heap.size:=by
  rintro b ⟨i,o,ho,hol,hmi⟩;obtain⟨arr',ty',hh,_⟩:=(h.obj i o ho hol).2 b hmi;exact bh hh
 have hms:∀i o,ae ((c,ob) :: oh) i=some o->jg o->ae oh i=some o/\(g.at c w.heap.size n).m i=g.m i:=by
  intro i o ho hmp;by_cases e:i=c
  ·subst e;rw [an] at ho;obtain rfl:ob=o:=by simpa using ho
   exact absurd hmp (eN hlv)
  ·exact⟨by rwa [ah _ _ e] at ho,by simp [Gh.at,e]⟩
 refine⟨⟨⟨?_,h.hF,?_,?_,(h.mp.sub hms).of fun b hb=>heap_alloc_old w _ b (h.mp.lt (hb.sub hms))⟩,h.gl⟩,hm,⟨rfl,rfl,rfl,by show _<=(w.heap.push _).size;simp,?_,?_,fun _ _ _ h=>h,fun _ _ _ h=>h,fun _ _ _ h=>.inl h,fun _ _ _ h=>.inl h,fun b arr ty fz h=>⟨arr,(heap_alloc_old w _ b (bh h)).trans h,rfl⟩,fun b hb=>.inl (hb.sub hms)⟩⟩
 ·intro b o c' hc;have:=h.hG b o c' hc;rw [cell_of_heap (heap_alloc_old w _ b (hGlt _ _ _ hc))];exact this
 ·intro i o ho hol;by_cases e:i=c
  ·subst e;rw [an] at ho;obtain rfl:ob=o:=by simpa using ho
   refine⟨by simp [Gh.at],fun b hbm=>?_⟩;obtain rfl:w.heap.size=b:=by simpa [Gh.at] using hbm
   refine⟨arr,ty,heap_alloc_new w _,fun off=>?_,by simpa [Gh.at] using hb.mono hm⟩
   cases hg:(g.at i w.heap.size n).G w.heap.size off with
   |none=>rfl
   |some c'=>have:=hGlt _ _ _ hg;omega
  ·rw [ah _ _ e] at ho;obtain⟨h1,h2⟩:=h.obj i o ho hol;have em:(g.at c w.heap.size n).m i=g.m i:=by simp [Gh.at,e]
   have ec:(g.at c w.heap.size n).cp i=g.cp i:=by simp [Gh.at,e]
   rw [vu,em,ec];refine⟨h1,fun b hbm=>?_⟩;obtain⟨arr',ty',hh,hg,hbl⟩:=h2 b hbm;exact⟨arr',ty',by rw [heap_alloc_old w _ b (bh hh)];exact hh,hg,hbl.mono hm⟩
 ·intro i j oi oj b hi hj hli hlj hmi hmj;by_cases ei:i=c<;>by_cases ej:j=c
  ·omega
  ·rw [ah _ _ ej] at hj;have e1:w.heap.size=b:=by simpa [Gh.at,ei] using hmi
   have e2:g.m j=some b:=by simpa [Gh.at,ej] using hmj
   have:=hown b ⟨j,oj,hj,hlj,e2⟩;omega
  ·rw [ah _ _ ei] at hi;have e1:w.heap.size=b:=by simpa [Gh.at,ej] using hmj
   have e2:g.m i=some b:=by simpa [Gh.at,ei] using hmi
   have:=hown b ⟨i,oi,hi,hli,e2⟩;omega
  ·rw [ah _ _ ei] at hi;rw [ah _ _ ej] at hj;exact h.inj i j oi oj b hi hj hli hlj (by simpa [Gh.at,ei] using hmi) (by simpa [Gh.at,ej] using hmj)
 ·intro b hlt hn _;exact heap_alloc_old w _ b hlt
 ·rintro b ⟨i,o,ho,hol,hmi⟩;by_cases e:i=c
  ·right;have:w.heap.size=b:=by simpa [Gh.at,e] using hmi
   omega
  ·left;exact⟨i,o,by rw [ah _ _ e] at ho;exact ho,hol,by simpa [Gh.at,e] using hmi⟩
theorem HR.write (h:HR g oh w)(c b:Nat)(o ob:Obj)(arr cs:Array Value)(ty:TypeId)(ho:ae oh c=some o)(hol:o.live=true)
  (hmc:g.m c=some b) (hh:w.heap[b]?=some (.cells arr ty (0,0))) (hlv:ob.live=true) (hsz:ob.sz=o.sz) (hver:o.ver<=ob.ver)
  (hlen:ob.ver=o.ver->o.el.length<=ob.el.length) (hb:gE g oh ob (g.cp c) cs) :
  HR g ((c,ob) :: oh) (w.setRow b cs)/\cx g oh g ((c,ob) :: oh)/\Fr g oh w g ((c,ob) :: oh) (w.setRow b cs):=by
 have hm:cx g oh g ((c,ob) :: oh):=by
  refine bm.lift (fun _ _ _ h=>h) (fun _ _ _ h=>h) fun id o' ho'=>?_
  by_cases e:id=c
  ·subst e;rw [ho] at ho';obtain rfl:o=o':=by simpa using ho'
   exact⟨ob,an _ _ _,hver,fun h=>absurd h (eN hlv),fun e' _=>⟨hol,hsz,hlen e',rfl,rfl⟩⟩
  ·exact⟨o',(ah _ _ e).trans ho',wU _,fun h=>⟨h,rfl⟩,fun _ hl=>⟨hl,rfl,wU _,rfl,rfl⟩⟩
 have hGb:∀off,g.G b off=none:=by
  obtain⟨arr',ty',_,hg,_⟩:=(h.obj c o ho hol).2 b hmc;exact hg
 have hother:∀k,k≠b->(w.setRow b cs).heap[k]?=w.heap[k]?:=fun k hk=>setRow_other w b k cs hk
 have hms:∀i o,ae ((c,ob) :: oh) i=some o->jg o->ae oh i=some o/\g.m i=g.m i:=by
  intro i o ho hmp;by_cases e:i=c
  ·subst e;rw [an] at ho;obtain rfl:ob=o:=by simpa using ho
   exact absurd hmp (eN hlv)
  ·exact⟨by rwa [ah _ _ e] at ho,rfl⟩
 have hmb:∀k,sP g ((c,ob) :: oh) k->k≠b:=by
  intro k hk e;obtain⟨es,clock,hk2⟩:=h.mp.block (hk.sub hms);rw [e,hh] at hk2;cases hk2
 refine⟨⟨⟨?_,h.hF,?_,?_,(h.mp.sub hms).of fun k hk=>hother k (hmb k hk)⟩,h.gl⟩,hm,⟨rfl,rfl,rfl,by simp [World.setRow],?_,?_,fun _ _ _ h=>h,fun _ _ _ h=>h,fun _ _ _ h=>.inl h,fun _ _ _ h=>.inl h,?_,fun b hb=>.inl (hb.sub hms)⟩⟩
 ·intro b' off c' hc;have hne:b'≠b:=fun e=>by rw [e,hGb] at hc;cases hc
  rw [cell_of_heap (hother b' hne)];exact h.hG b' off c' hc
 ·intro i o' ho' hol';by_cases e:i=c
  ·subst e;rw [an] at ho';obtain rfl:ob=o':=by simpa using ho'
   refine⟨by simp [hmc],fun b' hb'=>?_⟩;obtain rfl:b=b':=by rw [hmc] at hb';simpa using hb'
   exact⟨cs,ty,setRow_heap w b arr cs ty _ hh,hGb,hb.mono hm⟩
  ·rw [ah _ _ e] at ho';obtain⟨h1,h2⟩:=h.obj i o' ho' hol';refine⟨h1,fun b' hb'=>?_⟩;obtain⟨arr',ty',hh',hg,hbl⟩:=h2 b' hb';have hne:b'≠b:=fun e'=>e (h.inj i c o' o b ho' ho hol' hol (e'▸hb') hmc)
   exact⟨arr',ty',by rw [hother b' hne];exact hh',hg,hbl.mono hm⟩
 ·intro i j oi oj b' hi hj hli hlj hmi hmj;by_cases ei:i=c<;>by_cases ej:j=c
  ·omega
  ·rw [ah _ _ ej] at hj;subst ei;exact h.inj i j o oj b' ho hj hol hlj hmi hmj
  ·rw [ah _ _ ei] at hi;subst ej;exact h.inj i j oi o b' hi ho hli hol hmi hmj
  ·rw [ah _ _ ei] at hi;rw [ah _ _ ej] at hj;exact h.inj i j oi oj b' hi hj hli hlj hmi hmj
 ·intro b' hlt hn _;exact hother b' fun e=>hn (e▸⟨c,o,ho,hol,hmc⟩)
 ·rintro b' ⟨i,o',ho',hol',hmi⟩;left;by_cases e:i=c
  ·subst e;exact⟨i,o,ho,hol,hmi⟩
  ·exact⟨i,o',by rw [ah _ _ e] at ho';exact ho',hol',hmi⟩
 ·intro b' arr' ty' fz hh';by_cases e:b'=b
  ·subst e;rw [hh] at hh';obtain⟨arr2,ty2,hh2,_,hb2⟩:=(h.obj c o ho hol).2 b' hmc;rw [hh] at hh2;simp only [N9,Go.Obj.cells.injEq] at hh' hh2;obtain⟨rfl,rfl,rfl⟩:=hh';obtain⟨rfl,_,_⟩:=hh2;exact⟨cs,setRow_heap w b' arr cs ty _ hh,by rw [hb.1,hb2.1,hsz]⟩
  ·exact⟨arr',(hother b' e).trans hh',rfl⟩
end
end Go.Ev
