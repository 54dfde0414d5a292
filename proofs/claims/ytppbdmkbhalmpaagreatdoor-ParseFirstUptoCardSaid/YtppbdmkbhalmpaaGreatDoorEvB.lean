import Derived.Test.YtppbdmkbhalmpaaGreatDoorEvA
import Derived.Laws.AppendOwn
import Derived.Laws.MakeOwn
import Derived.Laws.Tables
import Derived.Laws.CopyRow
import Derived.Below
set_option linter.all false
namespace Go.Ev
abbrev Sto :=Nat→Nat→Option Value
inductive RdT (S:Sto):T→Value→Prop
 |con (v:Value) (h:v.oneCell'=true):RdT S (.con v) v
 |sl (l:List T) (a:Option Addr) (cap esz b off:Nat) (c:Nat→Nat→Value)
   (hc:l.length≤cap) (hm:cap≤maxLen) (ha:l≠[]→a=some ⟨b,off,none⟩)
   (hz:∀(i:Nat) (t:T),l[i]?=some t→t.cells.length=esz)
   (hs:∀(i:Nat) (t:T) (j:Nat),l[i]?=some t→j < t.cells.length→S b (off+i * esz+j)=some (c i j))
   (h1:∀(i:Nat) (t:T) (j:Nat),l[i]?=some t→j < t.cells.length→(c i j).oneCell'=true)
   (hr:∀(i:Nat) (t:T) (j:Nat) (u:T),l[i]?=some t→t.cells[j]?=some u→RdT S u (c i j)):RdT S (.sl l) (.slice a l.length cap)
 |ptr (l:List T) (b off:Nat) (c:Nat→Value)
   (hs:∀j,j < l.length→S b (off+j)=some (c j)) (h1:∀j,j < l.length→(c j).oneCell'=true)
   (hr:∀(j:Nat) (u:T),l[j]?=some u→RdT S u (c j)):RdT S (.ptr l) (.pointer (some ⟨b,off,none⟩))
 |agg (l:List T) (cs:Array Value) (hl:cs.size=l.length)
   (h1:∀(j:Nat) (c:Value),cs[j]?=some c→c.oneCell'=true)
   (hr:∀(j:Nat) (u:T) (c:Value),l[j]?=some u→cs[j]?=some c→RdT S u c):RdT S (.agg l) (.agg cs)
 |tup (l:List T) (vs:Array Value) (hl:vs.size=l.length) (h1:∀(j:Nat) (us:Array Value),vs[j]?≠some (.tuple us))
   (hr:∀(j:Nat) (u:T) (c:Value),l[j]?=some u→vs[j]?=some c→RdT S u c):RdT S (.tup l) (.tuple vs)
 |ifc (t:TypeId) (x:T) (c:Value) (hc:c.oneCell'=true) (h:RdT S x c):RdT S (.ifc t x) (.iface t c)
theorem RdT.mono {S S':Sto}(hS:∀b o c,S b o=some c→S' b o=some c){t:T}{v:Value}(h:RdT S t v):RdT S' t v:=by
 induction h with
 |con v h=>exact .con v h
 |sl l a cap esz b off c hc hm ha hz hs h1 hr ih=>
  exact .sl l a cap esz b off c hc hm ha hz (fun i t j hi hj=>hS _ _ _ (hs i t j hi hj)) h1 ih
 |ptr l b off c hs h1 hr ih=>exact .ptr l b off c (fun j hj=>hS _ _ _ (hs j hj)) h1 ih
 |agg l cs hl h1 hr ih=>exact .agg l cs hl h1 ih
 |tup l vs hl h1 hr ih=>exact .tup l vs hl h1 ih
 |ifc t x c hc h ih=>exact .ifc t x c hc ih
structure Gh where
 G:Sto
 F:Sto
 m:Nat→Option Nat
 cp:Nat→Nat
def Gh.sto (g:Gh):Bool→Sto
 |true=>g.F
 |false=>g.G
def OwnAt (g:Gh)(o:Obj)(id off len:Nat)(x:Value):Prop:=
 ∃a cap,x=.slice a len cap∧len≤cap∧off+len≤o.el.length∧(cap≠0→∃b,g.m id=some b∧a=some ⟨b,off * o.sz,none⟩∧off+cap≤g.cp id)
def isMp (o:Obj):Prop:=o.live=false∧o.sz=0
def RefX (g:Gh)(oh:OH)(id:Nat)(x:Value):Prop:=x.oneCell'=true∧∀o,oget oh id=some o→isMp o→∃b,g.m id=some b∧x=.map (some b)
def Wr.app : Wr→Value→Value
 |.clo f,y=>.func (.func f) #[y] #[]
 |.fre f,y=>.func (.func f) #[] #[y]
 |.ifc t,y=>.iface t y
theorem Wr.one (w:Wr)(y:Value):(w.app y).oneCell'=true:=by cases w<;>rfl
def RefV (g:Gh)(oh:OH)(id ver i foff:Nat)(x:Value):Prop:=
 RefX g oh id x∧∃o,oget oh id=some o∧ver≤o.ver∧(o.ver=ver→o.live=true→∃b,g.m id=some b∧x=.pointer (some ⟨b,i * o.sz+foff,none⟩))
def RdV1 (g:Gh)(oh:OH):V→Value→Prop
 |.undef,_=>True
 |.con v,x=>x=v∧v.oneCell'=true
 |.ro f t,x=>RdT (g.sto f) t x∧x.oneCell'=true
 |.emp,x=>∃a,x=.slice a 0 0
 |.own id ver off len,x=>x.oneCell'=true∧∃o,oget oh id=some o∧ver≤o.ver∧(o.ver=ver→o.live=true→OwnAt g o id off len x)
 |.ref id ver i foff,x=>RefX g oh id x∧∃o,oget oh id=some o∧ver≤o.ver∧(o.ver=ver→o.live=true→∃b,g.m id=some b∧x=.pointer (some ⟨b,i * o.sz+foff,none⟩))
 |.wr w id ver i foff,x=>∃y,RefV g oh id ver i foff y∧x=w.app y
 |_,_=>False
def RdA (g:Gh)(oh:OH):V→Value→Prop
 |.agg l,x=>∃cs:Array Value,x=.agg cs∧cs.size=l.length∧∀(j:Nat) (v:V) (c:Value),l[j]?=some v→cs[j]?=some c→RdV1 g oh v c∧c.oneCell'=true
 |v,x=>RdV1 g oh v x
def RdV (g:Gh)(oh:OH):V→Value→Prop
 |.tup l,x=>∃vs:Array Value,x=.tuple vs∧vs.size=l.length∧∀(j:Nat) (v:V) (c:Value),l[j]?=some v→vs[j]?=some c→RdA g oh v c
 |v,x=>RdA g oh v x
def ElAt (g:Gh)(oh:OH)(sz:Nat)(arr:Array Value)(k:Nat)(e:V):Prop:=
 e.cells.length=sz∧∀j v,e.cells[j]?=some v→∃c,arr[k * sz+j]?=some c∧c.oneCell'=true∧RdV1 g oh v c
def BlockAt (g:Gh)(oh:OH)(o:Obj)(n:Nat)(arr:Array Value):Prop:=
 arr.size=n * o.sz∧o.el.length≤n∧n≤maxLen∧∀k e,o.el[k]?=some e→ElAt g oh o.sz arr k e
def ObjRel (g:Gh)(oh:OH)(w:World)(i:Nat)(o:Obj):Prop:=
 (g.m i=none→o.el=[])∧∀b,g.m i=some b→∃arr ty,w.heap[b]?=some (.cells arr ty (0,0))∧(∀off,g.G b off=none)∧BlockAt g oh o (g.cp i) arr
def MapAt (g:Gh)(w:World)(i:Nat)(o:Obj):Prop:=∃b es clock,g.m i=some b∧w.heap[b]?=some (.map es clock)∧es.size=o.el.length∧∀(j:Nat) (e:MapEntry) (v:V),es[j]?=some e→o.el[j]?=some v→v=.agg [.con e.key,.con e.val]
structure MpOK (g:Gh)(oh:OH)(w:World):Prop where
 at_:∀i o,oget oh i=some o→isMp o→MapAt g w i o
 inj:∀i j oi oj b,oget oh i=some oi→oget oh j=some oj→isMp oi→isMp oj→g.m i=some b→g.m j=some b→i=j
def MpB (g:Gh)(oh:OH)(b:Nat):Prop:=∃i o,oget oh i=some o∧isMp o∧g.m i=some b
theorem not_mp {o:Obj}(h:o.live=true):¬isMp o:=fun h2=>by rw [h2.1] at h;cases h
theorem MpOK.of {g:Gh}{oh:OH}{w w':World}(h:MpOK g oh w)(e:∀b,MpB g oh b→w'.heap[b]?=w.heap[b]?):MpOK g oh w':=by
 refine⟨fun i o ho hm=>?_,h.inj⟩
 obtain⟨b,es,clock,h1,h2,h3⟩:=h.at_ i o ho hm
 exact⟨b,es,clock,h1,(e b ⟨i,o,ho,hm,h1⟩).trans h2,h3⟩
theorem MpOK.sub {g g1:Gh}{oh oh1:OH}{w:World}(h:MpOK g oh w)(hs:∀i o,oget oh1 i=some o→isMp o→oget oh i=some o∧g1.m i=g.m i):MpOK g1 oh1 w:=by
 refine⟨fun i o ho hm=>?_,fun i j oi oj b hi hj mi mj=>?_⟩
 ·obtain⟨q1,q2⟩:=hs i o ho hm
  obtain⟨b,es,clock,h1,h2,h3⟩:=h.at_ i o q1 hm
  exact⟨b,es,clock,q2.trans h1,h2,h3⟩
 ·obtain⟨q1,q2⟩:=hs i oi hi mi
  obtain⟨q3,q4⟩:=hs j oj hj mj
  rw [q2,q4]
  exact h.inj i j oi oj b q1 q3 mi mj
theorem MpB.sub {g g1:Gh}{oh oh1:OH}{b:Nat}(hs:∀i o,oget oh1 i=some o→isMp o→oget oh i=some o∧g1.m i=g.m i)(h:MpB g1 oh1 b):MpB g oh b:=by
 obtain⟨i,o,ho,hm,e⟩:=h
 obtain⟨q1,q2⟩:=hs i o ho hm
 exact⟨i,o,q1,hm,q2.symm.trans e⟩
theorem MpOK.block {g:Gh}{oh:OH}{w:World}(h:MpOK g oh w){b:Nat}(hb:MpB g oh b):∃es clock,w.heap[b]?=some (.map es clock):=by
 obtain⟨i,o,ho,hm,e⟩:=hb
 obtain⟨b',es,clock,h1,h2,_⟩:=h.at_ i o ho hm
 rw [h1] at e
 obtain rfl:b'=b:=by simpa using e
 exact⟨es,clock,h2⟩
theorem MpOK.lt {g:Gh}{oh:OH}{w:World}(h:MpOK g oh w){b:Nat}(hb:MpB g oh b):b < w.heap.size:=by
 obtain⟨es,clock,h1⟩:=h.block hb
 exact(Array.getElem?_eq_some_iff.1 h1).1
theorem MpOK.none {g:Gh}{oh:OH}{w:World}(h:∀i o,oget oh i=some o→o.live=true):MpOK g oh w:=
 ⟨fun i o ho hm=>absurd hm (not_mp (h i o ho)),fun i j oi oj b hi hj mi mj=>absurd mi (not_mp (h i oi hi))⟩
theorem MpB.none {g:Gh}{oh:OH}{b:Nat}(h:∀i o,oget oh i=some o→o.live=true):¬MpB g oh b:=fun⟨i,o,ho,hm,_⟩=>not_mp (h i o ho) hm
theorem oget_nil_live : ∀i o,oget [] i=some o→o.live=true:=fun i o h=>by cases h
def glN : Option Nat:=some 1
def glE : Option (Nat×Value):=some (0,.iface 117 (.agg #[.pointer (some ⟨4,29,none⟩)]))
def GL (S:Sto):Prop:=(match glN with|some k=>∃m,S k 0=some (.int .i64 m)|none=>True)∧(match glE with|some (k,v)=>S k 0=some v|none=>True)
theorem GL.mono {S S':Sto}(h:GL S)(hm:∀b o c,S b o=some c→S' b o=some c):GL S':=by
 unfold GL at h ⊢
 obtain⟨h,h2⟩:=h
 refine⟨?_,?_⟩
 ·split at h
  ·obtain⟨m,hk⟩:=h
   exact⟨m,hm _ _ _ hk⟩
  ·trivial
 ·split at h2
  ·exact hm _ _ _ h2
  ·trivial
structure HR0 (g:Gh)(oh:OH)(w:World):Prop where
 hG:∀b o c,g.G b o=some c→w.cell? ⟨b,o,none⟩=some c
 hF:∀b o c,g.F b o=some c→g.G b o=some c
 obj:∀i o,oget oh i=some o→o.live=true→ObjRel g oh w i o
 inj:∀i j oi oj b,oget oh i=some oi→oget oh j=some oj→oi.live=true→oj.live=true→g.m i=some b→g.m j=some b→i=j
 mp:MpOK g oh w
structure HR (g:Gh)(oh:OH)(w:World):Prop extends HR0 g oh w where
 gl:GL g.G
def Owned (g:Gh)(oh:OH)(b:Nat):Prop:=∃i o,oget oh i=some o∧o.live=true∧g.m i=some b
def Mono (g:Gh)(oh:OH)(g':Gh)(oh':OH):Prop:=∀v x,RdV1 g oh v x→RdV1 g' oh' v x
theorem Mono.refl (g:Gh)(oh:OH):Mono g oh g oh:=fun _ _ h=>h
theorem Mono.trans {g g1 g2:Gh}{oh oh1 oh2:OH}(h:Mono g oh g1 oh1)(k:Mono g1 oh1 g2 oh2):Mono g oh g2 oh2:=fun v x r=>k v x (h v x r)
theorem Mono.rdA {g g':Gh}{oh oh':OH}(h:Mono g oh g' oh'){v:V}{x:Value}(r:RdA g oh v x):RdA g' oh' v x:=by
 cases v with
 |agg l=>obtain⟨cs,rfl,hl,hr⟩:=r;exact⟨cs,rfl,hl,fun j v c h1 h2=>⟨h _ _ (hr j v c h1 h2).1,(hr j v c h1 h2).2⟩⟩
 |_=>simp only [RdA] at r ⊢;exact h _ _ r
theorem Mono.rdV {g g':Gh}{oh oh':OH}(h:Mono g oh g' oh'){v:V}{x:Value}(r:RdV g oh v x):RdV g' oh' v x:=by
 cases v with
 |tup l=>obtain⟨cs,rfl,hl,hr⟩:=r;exact⟨cs,rfl,hl,fun j v c h1 h2=>h.rdA (hr j v c h1 h2)⟩
 |_=>simp only [RdV] at r ⊢;exact h.rdA r
theorem ElAt.mono {g g':Gh}{oh oh':OH}(h:Mono g oh g' oh'){sz:Nat}{arr:Array Value}{k:Nat}{e:V}(r:ElAt g oh sz arr k e):ElAt g' oh' sz arr k e:=
 ⟨r.1,fun j v hv=>let ⟨c,h1,h2,h3⟩:=r.2 j v hv;⟨c,h1,h2,h _ _ h3⟩⟩
theorem BlockAt.mono {g g':Gh}{oh oh':OH}(h:Mono g oh g' oh'){o:Obj}{n:Nat}{arr:Array Value}(r:BlockAt g oh o n arr):BlockAt g' oh' o n arr:=
 ⟨r.1,r.2.1,r.2.2.1,fun k e he=>(r.2.2.2 k e he).mono h⟩
structure Fr (g:Gh)(oh:OH)(w:World)(g':Gh)(oh':OH)(w':World):Prop where
 os:w'.os=w.os
 tape:w'.tape=w.tape
 output:w'.output=w.output
 size:w.heap.size≤w'.heap.size
 keep:∀b,b < w.heap.size→¬Owned g oh b→¬MpB g oh b→w'.heap[b]?=w.heap[b]?
 own:∀b,Owned g' oh' b→Owned g oh b∨w.heap.size≤b
 G:∀b o c,g.G b o=some c→g'.G b o=some c
 F:∀b o c,g.F b o=some c→g'.F b o=some c
 nG:∀b o c,g'.G b o=some c→g.G b o=some c∨Owned g oh b∨w.heap.size≤b
 nF:∀b o c,g'.F b o=some c→g.F b o=some c∨Owned g oh b∨w.heap.size≤b
 blk:∀(b:Nat) (arr:Array Value) (ty:TypeId) (fz:Nat×Nat),w.heap[b]?=some (.cells arr ty fz)→∃arr':Array Value,w'.heap[b]?=some (.cells arr' ty fz)∧arr'.size=arr.size
 mown:∀b,MpB g' oh' b→MpB g oh b∨w.heap.size≤b
theorem Fr.refl (g:Gh)(oh:OH)(w:World):Fr g oh w g oh w:=
 ⟨rfl,rfl,rfl,Nat.le_refl _,fun _ _ _ _=>rfl,fun _ h=>.inl h,fun _ _ _ h=>h,fun _ _ _ h=>h,fun _ _ _ h=>.inl h,fun _ _ _ h=>.inl h,fun _ arr _ _ h=>⟨arr,h,rfl⟩,fun _ h=>.inl h⟩
theorem Fr.trans {g g1 g2:Gh}{oh oh1 oh2:OH}{w w1 w2:World}(h:Fr g oh w g1 oh1 w1)(k:Fr g1 oh1 w1 g2 oh2 w2):Fr g oh w g2 oh2 w2 where
 os:=k.os.trans h.os
 tape:=k.tape.trans h.tape
 output:=k.output.trans h.output
 size:=Nat.le_trans h.size k.size
 keep b hb hn hn2:=by
  refine(k.keep b (Nat.lt_of_lt_of_le hb h.size) (fun ho=>?_) (fun ho=>?_)).trans (h.keep b hb hn hn2)
  ·rcases h.own b ho with h'|h'
   ·exact hn h'
   ·omega
  ·rcases h.mown b ho with h'|h'
   ·exact hn2 h'
   ·omega
 own b hb:=by
  rcases k.own b hb with h'|h'
  ·exact h.own b h'
  ·have:=h.size;exact .inr (by omega)
 G b o c hc:=k.G b o c (h.G b o c hc)
 F b o c hc:=k.F b o c (h.F b o c hc)
 nG b o c hc:=by
  rcases k.nG b o c hc with h'|h'|h'
  ·exact h.nG b o c h'
  ·rcases h.own b h' with h''|h''
   ·exact .inr (.inl h'')
   ·exact .inr (.inr h'')
  ·have:=h.size;exact .inr (.inr (by omega))
 nF b o c hc:=by
  rcases k.nF b o c hc with h'|h'|h'
  ·exact h.nF b o c h'
  ·rcases h.own b h' with h''|h''
   ·exact .inr (.inl h'')
   ·exact .inr (.inr h'')
  ·have:=h.size;exact .inr (.inr (by omega))
 blk b arr ty fz h0:=by
  obtain⟨a1,e1,s1⟩:=h.blk b arr ty fz h0
  obtain⟨a2,e2,s2⟩:=k.blk b a1 ty fz e1
  exact⟨a2,e2,s2.trans s1⟩
 mown b hb:=by
  rcases k.mown b hb with h'|h'
  ·exact h.mown b h'
  ·have:=h.size;exact .inr (by omega)
theorem cell_of_heap {w w':World}{b o:Nat}(h:w'.heap[b]?=w.heap[b]?):w'.cell? ⟨b,o,none⟩=w.cell? ⟨b,o,none⟩:=by simp [World.cell?,h]
theorem lt_of_cell {w:World}{b o:Nat}{c:Value}(h:w.cell? ⟨b,o,none⟩=some c):b < w.heap.size:=World.block_lt_of_cell? w _ h
theorem lt_of_heap {w:World}{b:Nat}{o:Go.Obj}(h:w.heap[b]?=some o):b < w.heap.size:=(Array.getElem?_eq_some_iff.1 h).1
theorem HR.same {g:Gh}{oh:OH}{w w':World}(h:HR g oh w)(e:w'.heap=w.heap):HR g oh w' where
 hG b o c hc:=by have:=h.hG b o c hc;simpa [World.cell?,e] using this
 hF:=h.hF
 obj i o ho hl:=by
  obtain⟨h1,h2⟩:=h.obj i o ho hl
  refine⟨h1,fun b hb=>?_⟩
  rw [e];exact h2 b hb
 inj:=h.inj
 mp:=h.mp.of fun b _=>by rw [e]
 gl:=h.gl
theorem Fr.drew {g g':Gh}{oh oh':OH}{w w':World}(h:Fr g oh w.drew g' oh' w'):Fr g oh w g' oh' w':=
 ⟨h.os,h.tape,h.output,h.size,h.keep,h.own,h.G,h.F,h.nG,h.nF,h.blk,h.mown⟩
theorem oget_cons_same (c:Nat)(o:Obj)(oh:OH):oget ((c,o) :: oh) c=some o:=by simp [oget]
theorem oget_cons_other {c i:Nat}(o:Obj)(oh:OH)(h:i≠c):oget ((c,o) :: oh) i=oget oh i:=by
 have e:¬c=i:=fun e=>h e.symm
 simp [oget,e]
def Gh.at (g:Gh)(c b n:Nat):Gh:={ g with m:=fun i=>if i=c then some b else g.m i,cp:=fun i=>if i=c then n else g.cp i }
section
variable {g : Gh} {oh : OH} {w : World}
theorem refx {g:Gh}{oh:OH}{id:Nat}{x:Value}{o:Obj}(h:x.oneCell'=true)(ho:oget oh id=some o)(hl:o.live=true):RefX g oh id x:=
 ⟨h,fun q hq hm=>by
  rw [ho] at hq
  obtain rfl:o=q:=by simpa using hq
  exact absurd hm (not_mp hl)⟩
theorem RdV1.lift {oh':OH}{g':Gh}(hF:∀b o c,g.F b o=some c→g'.F b o=some c)(hG:∀b o c,g.G b o=some c→g'.G b o=some c)
  (hown:∀id o,oget oh id=some o→∃o',oget oh' id=some o'∧o.ver≤o'.ver∧(isMp o'→isMp o∧g'.m id=g.m id)∧(o'.ver=o.ver→o'.live=true→o.live=true∧o'.sz=o.sz∧o.el.length≤o'.el.length∧g'.m id=g.m id∧g'.cp id=g.cp id)) :
  Mono g oh g' oh':=by
 have href:∀(id ver i foff:Nat) (x:Value),RefV g oh id ver i foff x→RefV g' oh' id ver i foff x:=by
  intro id ver i foff x h
  obtain⟨h1,o,ho,hv,hc⟩:=h
  obtain⟨o',ho',hle,hmm,hcc⟩:=hown id o ho
  refine⟨⟨h1.1,fun q hq hmp=>?_⟩,o',ho',Nat.le_trans hv hle,fun e hl=>?_⟩
  ·rw [ho'] at hq
   obtain rfl:o'=q:=by simpa using hq
   obtain⟨m1,m2⟩:=hmm hmp
   obtain⟨b,b1,b2⟩:=h1.2 o ho m1
   exact⟨b,m2.trans b1,b2⟩
  have hvv:o.ver=ver:=Nat.le_antisymm (by omega) hv
  obtain⟨l1,l2,l3,l4,l5⟩:=hcc (by omega) hl
  obtain⟨b,hb,hx⟩:=hc hvv l1
  exact⟨b,by rw [l4];exact hb,by rw [l2];exact hx⟩
 intro v x h
 cases v with
 |undef=>trivial
 |con v=>exact h
 |ro f t=>
  refine⟨h.1.mono ?_,h.2⟩
  cases f
  ·exact hG
  ·exact hF
 |emp=>exact h
 |own id ver off len=>
  obtain⟨h1,o,ho,hv,hc⟩:=h
  obtain⟨o',ho',hle,_,hcc⟩:=hown id o ho
  refine⟨h1,o',ho',Nat.le_trans hv hle,fun e hl=>?_⟩
  have hvv:o.ver=ver:=Nat.le_antisymm (by omega) hv
  obtain⟨l1,l2,l3,l4,l5⟩:=hcc (by omega) hl
  obtain⟨a,cap,hx,hlc,hoff,hb⟩:=hc hvv l1
  exact⟨a,cap,hx,hlc,by omega,by rw [l2,l4,l5];exact hb⟩
 |ref id ver i foff=>exact href _ _ _ _ _ h
 |wr w id ver i foff=>obtain⟨y,hy,e⟩:=h;exact⟨y,href _ _ _ _ _ hy,e⟩
 |agg l=>exact h.elim
 |tup l=>exact h.elim
theorem HR.place (h:HR g oh w)(c n:Nat)(ob:Obj)(arr:Array Value)(ty:TypeId)(hlv:ob.live=true)(hv:∀o,oget oh c=some o→o.ver < ob.ver)
  (hb:BlockAt g oh ob n arr) :
  HR (g.at c w.heap.size n) ((c,ob) :: oh) (w.alloc (.cells arr ty))∧Mono g oh (g.at c w.heap.size n) ((c,ob) :: oh)∧
  Fr g oh w (g.at c w.heap.size n) ((c,ob) :: oh) (w.alloc (.cells arr ty)):=by
 have hm:Mono g oh (g.at c w.heap.size n) ((c,ob) :: oh):=by
  refine RdV1.lift (fun _ _ _ h=>h) (fun _ _ _ h=>h) fun id o ho=>?_
  by_cases e:id=c
  ·subst e
   exact⟨ob,oget_cons_same _ _ _,by have:=hv o ho;omega,fun h=>absurd h (not_mp hlv),fun e'=>by have:=hv o ho;omega⟩
  ·exact⟨o,(oget_cons_other _ _ e).trans ho,Nat.le_refl _,fun h=>⟨h,by simp [Gh.at,e]⟩,fun _ hl=>⟨hl,rfl,Nat.le_refl _,by simp [Gh.at,e],by simp [Gh.at,e]⟩⟩
 have hGlt:∀b o c,g.G b o=some c→b < w.heap.size:=fun b o c hc=>lt_of_cell (h.hG b o c hc)
 have hown:∀b,Owned g oh b→b < w.heap.size:=by
  rintro b ⟨i,o,ho,hol,hmi⟩
  obtain⟨arr',ty',hh,_⟩:=(h.obj i o ho hol).2 b hmi
  exact lt_of_heap hh
 have hms:∀i o,oget ((c,ob) :: oh) i=some o→isMp o→oget oh i=some o∧(g.at c w.heap.size n).m i=g.m i:=by
  intro i o ho hmp
  by_cases e:i=c
  ·subst e
   rw [oget_cons_same] at ho
   obtain rfl:ob=o:=by simpa using ho
   exact absurd hmp (not_mp hlv)
  ·exact⟨by rwa [oget_cons_other _ _ e] at ho,by simp [Gh.at,e]⟩
 refine⟨⟨⟨?_,h.hF,?_,?_,(h.mp.sub hms).of fun b hb=>heap_alloc_old w _ b (h.mp.lt (hb.sub hms))⟩,h.gl⟩,hm,⟨rfl,rfl,rfl,by show _≤(w.heap.push _).size;simp,?_,?_,fun _ _ _ h=>h,fun _ _ _ h=>h,fun _ _ _ h=>.inl h,fun _ _ _ h=>.inl h,fun b arr ty fz h=>⟨arr,(heap_alloc_old w _ b (lt_of_heap h)).trans h,rfl⟩,fun b hb=>.inl (hb.sub hms)⟩⟩
 ·intro b o c' hc
  have:=h.hG b o c' hc
  rw [cell_of_heap (heap_alloc_old w _ b (hGlt _ _ _ hc))];exact this
 ·intro i o ho hol
  by_cases e:i=c
  ·subst e
   rw [oget_cons_same] at ho
   obtain rfl:ob=o:=by simpa using ho
   refine⟨by simp [Gh.at],fun b hbm=>?_⟩
   obtain rfl:w.heap.size=b:=by simpa [Gh.at] using hbm
   refine⟨arr,ty,heap_alloc_new w _,fun off=>?_,by simpa [Gh.at] using hb.mono hm⟩
   cases hg:(g.at i w.heap.size n).G w.heap.size off with
   |none=>rfl
   |some c'=>have:=hGlt _ _ _ hg;omega
  ·rw [oget_cons_other _ _ e] at ho
   obtain⟨h1,h2⟩:=h.obj i o ho hol
   have em:(g.at c w.heap.size n).m i=g.m i:=by simp [Gh.at,e]
   have ec:(g.at c w.heap.size n).cp i=g.cp i:=by simp [Gh.at,e]
   rw [ObjRel,em,ec]
   refine⟨h1,fun b hbm=>?_⟩
   obtain⟨arr',ty',hh,hg,hbl⟩:=h2 b hbm
   exact⟨arr',ty',by rw [heap_alloc_old w _ b (lt_of_heap hh)];exact hh,hg,hbl.mono hm⟩
 ·intro i j oi oj b hi hj hli hlj hmi hmj
  by_cases ei:i=c<;>by_cases ej:j=c
  ·omega
  ·rw [oget_cons_other _ _ ej] at hj
   have e1:w.heap.size=b:=by simpa [Gh.at,ei] using hmi
   have e2:g.m j=some b:=by simpa [Gh.at,ej] using hmj
   have:=hown b ⟨j,oj,hj,hlj,e2⟩;omega
  ·rw [oget_cons_other _ _ ei] at hi
   have e1:w.heap.size=b:=by simpa [Gh.at,ej] using hmj
   have e2:g.m i=some b:=by simpa [Gh.at,ei] using hmi
   have:=hown b ⟨i,oi,hi,hli,e2⟩;omega
  ·rw [oget_cons_other _ _ ei] at hi
   rw [oget_cons_other _ _ ej] at hj
   exact h.inj i j oi oj b hi hj hli hlj (by simpa [Gh.at,ei] using hmi) (by simpa [Gh.at,ej] using hmj)
 ·intro b hlt hn _
  exact heap_alloc_old w _ b hlt
 ·rintro b ⟨i,o,ho,hol,hmi⟩
  by_cases e:i=c
  ·right
   have:w.heap.size=b:=by simpa [Gh.at,e] using hmi
   omega
  ·left
   exact⟨i,o,by rw [oget_cons_other _ _ e] at ho;exact ho,hol,by simpa [Gh.at,e] using hmi⟩
theorem HR.write (h:HR g oh w)(c b:Nat)(o ob:Obj)(arr cs:Array Value)(ty:TypeId)(ho:oget oh c=some o)(hol:o.live=true)
  (hmc:g.m c=some b) (hh:w.heap[b]?=some (.cells arr ty (0,0))) (hlv:ob.live=true) (hsz:ob.sz=o.sz) (hver:o.ver≤ob.ver)
  (hlen:ob.ver=o.ver→o.el.length≤ob.el.length) (hb:BlockAt g oh ob (g.cp c) cs) :
  HR g ((c,ob) :: oh) (w.setRow b cs)∧Mono g oh g ((c,ob) :: oh)∧Fr g oh w g ((c,ob) :: oh) (w.setRow b cs):=by
 have hm:Mono g oh g ((c,ob) :: oh):=by
  refine RdV1.lift (fun _ _ _ h=>h) (fun _ _ _ h=>h) fun id o' ho'=>?_
  by_cases e:id=c
  ·subst e
   rw [ho] at ho'
   obtain rfl:o=o':=by simpa using ho'
   exact⟨ob,oget_cons_same _ _ _,hver,fun h=>absurd h (not_mp hlv),fun e' _=>⟨hol,hsz,hlen e',rfl,rfl⟩⟩
  ·exact⟨o',(oget_cons_other _ _ e).trans ho',Nat.le_refl _,fun h=>⟨h,rfl⟩,fun _ hl=>⟨hl,rfl,Nat.le_refl _,rfl,rfl⟩⟩
 have hGb:∀off,g.G b off=none:=by
  obtain⟨arr',ty',_,hg,_⟩:=(h.obj c o ho hol).2 b hmc
  exact hg
 have hother:∀k,k≠b→(w.setRow b cs).heap[k]?=w.heap[k]?:=fun k hk=>setRow_other w b k cs hk
 have hms:∀i o,oget ((c,ob) :: oh) i=some o→isMp o→oget oh i=some o∧g.m i=g.m i:=by
  intro i o ho hmp
  by_cases e:i=c
  ·subst e
   rw [oget_cons_same] at ho
   obtain rfl:ob=o:=by simpa using ho
   exact absurd hmp (not_mp hlv)
  ·exact⟨by rwa [oget_cons_other _ _ e] at ho,rfl⟩
 have hmb:∀k,MpB g ((c,ob) :: oh) k→k≠b:=by
  intro k hk e
  obtain⟨es,clock,hk2⟩:=h.mp.block (hk.sub hms)
  rw [e,hh] at hk2
  cases hk2
 refine⟨⟨⟨?_,h.hF,?_,?_,(h.mp.sub hms).of fun k hk=>hother k (hmb k hk)⟩,h.gl⟩,hm,⟨rfl,rfl,rfl,by simp [World.setRow],?_,?_,fun _ _ _ h=>h,fun _ _ _ h=>h,fun _ _ _ h=>.inl h,fun _ _ _ h=>.inl h,?_,fun b hb=>.inl (hb.sub hms)⟩⟩
 ·intro b' off c' hc
  have hne:b'≠b:=fun e=>by rw [e,hGb] at hc;cases hc
  rw [cell_of_heap (hother b' hne)]
  exact h.hG b' off c' hc
 ·intro i o' ho' hol'
  by_cases e:i=c
  ·subst e
   rw [oget_cons_same] at ho'
   obtain rfl:ob=o':=by simpa using ho'
   refine⟨by simp [hmc],fun b' hb'=>?_⟩
   obtain rfl:b=b':=by rw [hmc] at hb';simpa using hb'
   exact⟨cs,ty,setRow_heap w b arr cs ty _ hh,hGb,hb.mono hm⟩
  ·rw [oget_cons_other _ _ e] at ho'
   obtain⟨h1,h2⟩:=h.obj i o' ho' hol'
   refine⟨h1,fun b' hb'=>?_⟩
   obtain⟨arr',ty',hh',hg,hbl⟩:=h2 b' hb'
   have hne:b'≠b:=fun e'=>e (h.inj i c o' o b ho' ho hol' hol (e'▸hb') hmc)
   exact⟨arr',ty',by rw [hother b' hne];exact hh',hg,hbl.mono hm⟩
 ·intro i j oi oj b' hi hj hli hlj hmi hmj
  by_cases ei:i=c<;>by_cases ej:j=c
  ·omega
  ·rw [oget_cons_other _ _ ej] at hj
   subst ei
   exact h.inj i j o oj b' ho hj hol hlj hmi hmj
  ·rw [oget_cons_other _ _ ei] at hi
   subst ej
   exact h.inj i j oi o b' hi ho hli hol hmi hmj
  ·rw [oget_cons_other _ _ ei] at hi
   rw [oget_cons_other _ _ ej] at hj
   exact h.inj i j oi oj b' hi hj hli hlj hmi hmj
 ·intro b' hlt hn _
  exact hother b' fun e=>hn (e▸⟨c,o,ho,hol,hmc⟩)
 ·rintro b' ⟨i,o',ho',hol',hmi⟩
  left
  by_cases e:i=c
  ·subst e
   exact⟨i,o,ho,hol,hmi⟩
  ·exact⟨i,o',by rw [oget_cons_other _ _ e] at ho';exact ho',hol',hmi⟩
 ·intro b' arr' ty' fz hh'
  by_cases e:b'=b
  ·subst e
   rw [hh] at hh'
   obtain⟨arr2,ty2,hh2,_,hb2⟩:=(h.obj c o ho hol).2 b' hmc
   rw [hh] at hh2
   simp only [Option.some.injEq,Go.Obj.cells.injEq] at hh' hh2
   obtain⟨rfl,rfl,rfl⟩:=hh'
   obtain⟨rfl,_,_⟩:=hh2
   exact⟨cs,setRow_heap w b' arr cs ty _ hh,by rw [hb.1,hb2.1,hsz]⟩
  ·exact⟨arr',(hother b' e).trans hh',rfl⟩
end
end Go.Ev
