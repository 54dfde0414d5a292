import Derived.Test.YthpoegdjffdojaaGreatDoorUEvP
import Derived.Test.YthpoegdjffdojaaGreatDoorProg
set_option linter.all false
set_option maxRecDepth 100000
namespace Go.Ev
theorem OQ (i:Nat)(o:Obj)(r:OH):ae ((i,o) :: r) i=some o:=by simp [ae]
def V.xb : V->Prop
 |.af _ | .ro .. | .emp=>True
 |_=>False
def V.flat : V->Prop
 |.agg l=>∀v ∈ l,v.xb
 |v=>v.xb
def Rh (tl:OH):Prop:=∀i o,ae tl i=some o->∀e ∈ o.el,e.flat
theorem LU : Rh []:=fun i o h=>by simp [ae] at h
theorem V.xb.Gs {v:V}(oh:OH)(h:v.xb):v.Gs oh:=by cases v<;>first|trivial|exact h.elim
theorem V.flat.cl {v:V}(oh:OH)(h:v.flat):v.cl oh:=by
 cases v with
 |agg l=>exact fun u hu=>(h u hu).Gs oh
 |af _=>trivial
 |ro _ _=>trivial
 |emp=>trivial
 |undef=>exact h.elim
 |own=>exact h.elim
 |ref=>exact h.elim
 |wr=>exact h.elim
 |ba=>exact h.elim
theorem V.flat.lv {oh oh1:OH}{v:V}(h:v.flat):LV oh oh1 v v:=by
 cases v with
 |agg l=>
  refine⟨rfl,fun j a b ha hb=>?_⟩;rw [ha] at hb;obtain rfl:a=b:=by simpa using hb
  exact .same _ ((h a (MH ha)).Gs oh1)
 |af _=>exact .same _ trivial
 |ro _ _=>exact .same _ trivial
 |emp=>exact .same _ trivial
 |undef=>exact h.elim
 |own=>exact h.elim
 |ref=>exact h.elim
 |wr=>exact h.elim
 |ba=>exact h.elim
def VQ (oh oh1:OH):List V->List V->Prop
 | [],[]=>True
 |a :: r,b :: s=>Lc oh oh1 a b/\VQ oh oh1 r s
 |_,_=>False
theorem BC {oh oh1:OH}:∀{l l1:List V},VQ oh oh1 l l1->l.length=l1.length/\∀(j:Nat) (a b:V),l[j]?=some a->l1[j]?=some b->Lc oh oh1 a b
 | [],[],_=>⟨rfl,fun j a b h=>by simp at h⟩
 |a :: r,b :: s,h=>by
  obtain⟨h1,h2⟩:=BC h.2;refine⟨by simp [h1],fun j x y hx hy=>?_⟩
  cases j with
  |zero=>simp at hx hy;subst hx;subst hy;exact h.1
  |succ j=>simp at hx hy;exact h2 j x y hx hy
 | [],_ :: _,h=>h.elim
 |_ :: _,[],h=>h.elim
theorem gg {oh oh1:OH}{l l1:List V}(h:VQ oh oh1 l l1):LV oh oh1 (.agg l) (.agg l1):=BC h
def FT (oh oh1:OH)(e:Env):Env->Prop
 | []=>True
 |(t,v) :: r=>LV oh oh1 (aA e t) v/\FT oh oh1 e r
theorem uG {oh oh1:OH}{e:Env}:∀{l:Env},FT oh oh1 e l->∀t,aA l t=.undef\/LV oh oh1 (aA e t) (aA l t)
 | [],_,t=>.inl rfl
 |(i,v) :: r,h,t=>by
  by_cases e:i=t
  ·subst e;rw [dj,if_pos rfl];exact .inr h.1
  ·rw [dj,if_neg e];exact uG h.2 t
def rW (oh oh1:OH)(i:Nat)(o1:Obj):Prop:=
 (∃o,ae oh i=some o/\o1.sz=o.sz/\o1.ver=o.ver/\o1.live=o.live/\o1.el.length=o.el.length/\∀(k:Nat) (e e1:V),o.el[k]?=some e->o1.el[k]?=some e1->LV oh oh1 e e1)\/
  (ae oh i=none/\o1.el=[]/\o1.ver=0/\o1.live=true)
def yM (oh oh1:OH):OH->Prop
 | []=>True
 |(i,o1) :: r=>rW oh oh1 i o1/\yM oh oh1 r
theorem rD {oh oh1 tl:OH}(ht:∀i o,ae tl i=some o->rW oh oh1 i o):∀{l:OH},yM oh oh1 l->∀i o,ae (l ++ tl) i=some o->rW oh oh1 i o
 | [],_,i,o,h=>ht i o h
 |(j,x) :: r,h,i,o,hg=>by
  by_cases e:j=i
  ·subst e;rw [G1,OQ] at hg;obtain rfl:x=o:=by simpa using hg
   exact h.1
  ·have:ae (r ++ tl) i=some o:=by rw [G1] at hg;simpa [ae,e] using hg
   exact rD ht h.2 i o this
theorem au {oh oh1:OH}{i:Nat}{o:Obj}(h:ae oh i=some o)(hf:∀e ∈ o.el,e.flat):rW oh oh1 i o:=by
 refine .inl ⟨o,h,rfl,rfl,rfl,rfl,fun k e e1 h1 h2=>?_⟩;rw [h1] at h2;obtain rfl:e=e1:=by simpa using h2
 exact(hf e (MH h1)).lv
theorem ck {oh oh1:OH}{i sz ver:Nat}{e e1:V}{b:Bool}(h:ae oh i=some ⟨sz,[e],ver,b⟩)(hl:LV oh oh1 e e1):rW oh oh1 i ⟨sz,[e1],ver,b⟩:=by
 refine .inl ⟨_,h,rfl,rfl,rfl,rfl,fun k x x1 h1 h2=>?_⟩
 cases k with
 |zero=>simp at h1 h2;subst h1;subst h2;exact hl
 |succ k=>simp at h1
theorem ki {oh oh1:OH}{i sz:Nat}(h:ae oh i=none):rW oh oh1 i ⟨sz,[],0,true⟩:=.inr ⟨h,rfl,rfl,rfl⟩
theorem kj {α:Type}{oh oh1:OH}{i sz ver n:Nat}{b:Bool}{F:α->V}{l l':List α}{a:α}{e:V}(h:ae oh i=some ⟨sz,(l.map F).take n ++ [e],ver,b⟩)(hn:n=l.length)(hl':l'=l ++ [a])
  (hF:∀x ∈ l,(F x).flat) (hl:LV oh oh1 e (F a)):rW oh oh1 i ⟨sz,l'.map F,ver,b⟩:=by
 subst hl';rw [B7 (by simp [hn])] at h;refine .inl ⟨_,h,rfl,rfl,rfl,by simp,fun k x x1 h1 h2=>?_⟩;simp only [G7,E7,Y1] at h1 h2;by_cases hk:k < (l.map F).length
 ·rw [C5 hk] at h1 h2;rw [h1] at h2;obtain rfl:x=x1:=by simpa using h2
  obtain⟨y,hy,rfl⟩:=D4.1 (MH h1);exact(hF y hy).lv
 ·rw [IX A8] at h1 h2
  cases hj:k - (l.map F).length with
  |zero=>rw [hj] at h1 h2;simp at h1 h2;subst h1;subst h2;exact hl
  |succ j=>rw [hj] at h1;simp at h1
theorem UT {n:Nat}{e e1:Env}{oh f tl:OH}(he:FT oh (f ++ tl) e e1)(hf:yM oh (f ++ tl) f)(ht:Rh tl)(hs:∀i o,ae tl i=some o->ae oh i=some o) :
  Lf ⟨n,e1,f ++ tl⟩ ⟨n,e,oh⟩:=
 ⟨rfl,fun i o1 h=>rD (fun j o hj=>au (hs j o hj) (ht j o hj)) hf i o1 h,uG he⟩
theorem bx {n:Nat}{e e1:Env}{oh f:OH}(he:FT oh f e e1)(hf:yM oh f f):Lf ⟨n,e1,f⟩ ⟨n,e,oh⟩:=by
 have:=UT (n:=n) (e:=e) (e1:=e1) (oh:=oh) (f:=f) (tl:=[]) (by simpa using he) (by simpa using hf) LU (fun i o h=>by simp [ae] at h);simpa using this
theorem SL {α:Type}{oh oh1:OH}{id ver len sz:Nat}{F:α->V}{G:α->T}{l:List α}(ho:ae oh id=some ⟨sz,l.map F,ver,true⟩)(hd:ae oh1 id=none)(hn:l.length=len)
  (hs:∀a ∈ l,(G a).cells.length=(F a).cells.length) (hc:∀a ∈ l,∀(j:Nat) (v:V) (u:T),(F a).cells[j]?=some v->(G a).cells[j]?=some u->iT oh oh1 false v u) :
  iT oh oh1 false (.own id ver 0 len) (.sl (l.map G)):=by
 have key:∀(i:Nat) (e:V) (t:T),(l.map F)[0+i]?=some e->(l.map G)[i]?=some t->∃a ∈ l,e=F a/\t=G a:=by
  intro i e t h1 h2;rw [C2,Zf] at h1;rw [Zf] at h2;obtain⟨a,ha,rfl⟩:=C1.1 h1;rw [ha] at h2;exact⟨a,MH ha,rfl,by simpa using h2.symm⟩
 refine .own id ver 0 len _ _ ho hd rfl rfl (by simpa using hn) (fun i e t _ h1 h2=>?_) (fun i e t j v u _ h1 h2 h3 h4=>?_)
 ·obtain⟨a,ha,rfl,rfl⟩:=key i e t h1 h2;exact hs a ha
 ·obtain⟨a,ha,rfl,rfl⟩:=key i e t h1 h2;exact hc a ha j v u h3 h4
theorem Gc {oh oh1:OH}{f:Bool}{v:V}{t t':T}(h:t=t')(h2:iT oh oh1 f v t):iT oh oh1 f v t':=h▸h2
theorem ui {P:Program}{q:FuncId}{ts:List T}{oh:OH}{v:V}{t:T}(h:IG P q ts oh v){f:Bool}(hz:∀(gn:Gh) (w:World) (S:dS) (x:Value),HR gn oh w->nL gn oh w f S->dd gn oh v x->gD S t x):Ok P q ts f t:=by
 refine⟨h.1,fun S w args hS hgl hargs=>(h.2 S w args hS hgl hargs).mono fun e w' hp=>?_⟩;obtain⟨x,gn,rfl,hb,hr,hx,hG,hF,hO,_⟩:=hp;let N:dS:=fun b o=>if w.heap.size<=b then w'.cell? ⟨b,o,none⟩ else none
 have hN:∀b o c,N b o=some c->w.heap.size<=b/\w'.cell? ⟨b,o,none⟩=some c:=by
  intro b o c hc;by_cases hb:w.heap.size<=b
  ·exact⟨hb,by simpa [N,hb] using hc⟩
  ·simp [N,hb] at hc
 have hSlt:∀b o c,S b o=some c->b < w.heap.size:=fun b o c hc=>cD (hS b o c hc)
 have hNun:∀b o c,N b o=some c->S.un N b o=some c:=by
  intro b o c hc;unfold dS.un
  cases hs:S b o with
  |none=>exact hc
  |some c'=>have:=hSlt b o c' hs;have:=(hN b o c hc).1;omega
 have hfin:nL gn oh w' f (dS.pick f S N):=by
  cases f with
  |false=>
   refine⟨fun b o c hc=>hNun b o c ?_,fun _ b o c hc=>?_,fun b hb o c hc=>hNun b o c ?_⟩
   ·have:=hF b o c hc;simpa [N,this] using hr.hG b o c (hr.hF b o c hc)
   ·rcases hG b o c hc with h'|h'
    ·show S.un N b o=some c;simp [dS.un,h']
    ·exact hNun b o c (by simpa [N,h'] using hr.hG b o c hc)
   ·have:=hO b hb;simpa [N,this] using hc
  |true=>
   refine⟨fun b o c hc=>?_,fun h=>Bool.noConfusion h,fun b hb o c hc=>?_⟩
   ·have:=hF b o c hc;show N b o=some c;simpa [N,this] using hr.hG b o c (hr.hF b o c hc)
   ·have:=hO b hb;show N b o=some c;simpa [N,this] using hc
 exact⟨x,N,rfl,hb,hN,hz _ _ _ _ hr hfin hx⟩
theorem HI {P:Program}{q:FuncId}{ts:List T}{oh:OH}{v:V}{t:T}(h:IG P q ts oh v){f:Bool}(hz:gM oh f v t):Ok P q ts f t:=
 ui h fun _ _ _ _ hr hfin hx=>(jh hr hfin hz hx).1
theorem DE {P:Program}{q:FuncId}{ts:List T}{oh:OH}{l:List V}{tl:List T}(h:IG P q ts oh (.ba l)){f:Bool}(hn:l.length=tl.length)(hz:∀(j:Nat) (v:V) (t:T),l[j]?=some v->tl[j]?=some t->gM oh f v t):Ok P q ts f (.ba tl):=by
 have key:∀(gn:Gh) (v:V) (t:T) (x:Value),gM oh f v t->EA gn oh v x->dd gn oh v x:=by
  intro gn v t x h1 h2
  cases v with
  |ba l=>cases h1
  |_=>exact h2
 refine ui h fun gn w S x hr hfin hx=>?_
 obtain⟨vs,rfl,hl,hv⟩:=hx;refine .ba tl vs A8 (fun j us e=>?_) fun j u c hu hc=>?_
 ·have hj:j < l.length:=by rw [<- hl];exact(E4.1 e).1
  have hj2:j < tl.length:=by omega
  exact(jh hr hfin (hz j l[j] tl[j] (by simp [hj]) (by simp [hj2])) (key gn _ tl[j] _ (hz j l[j] tl[j] (by simp [hj]) (by simp [hj2])) (hv j l[j] _ (by simp [hj]) e))).2 us rfl
 ·have hj:j < l.length:=by rw [<- hl];exact(E4.1 hc).1
  exact(jh hr hfin (hz j l[j] u (by simp [hj]) hu) (key gn _ u _ (hz j l[j] u (by simp [hj]) hu) (hv j l[j] c (by simp [hj]) hc))).1
theorem WM {oh:OH}{f:Bool}{a b c:V}{t u s:T}(h1:gM oh f a t)(h2:gM oh f b u)(h3:gM oh f c s):∀(j:Nat) (v:V) (t':T),[a,b,c][j]?=some v->[t,u,s][j]?=some t'->gM oh f v t':=by
 intro j v t' hv ht
 match j with
 |0=>simp at hv ht;subst hv;subst ht;exact h1
 |1=>simp at hv ht;subst hv;subst ht;exact h2
 |2=>simp at hv ht;subst hv;subst ht;exact h3
 |j+3=>simp at hv
theorem sb : (∀(p:Prop) [Decidable p],(decide p=true)=p)/\(∀(p:Prop) [Decidable p],(decide p=false)↔¬p)/\(∀(α:Type) [BEq α] [LawfulBEq α] (a b:α),(a == b)=true↔a=b)/\
  (∀(α:Type) [BEq α] [LawfulBEq α] (a b:α),(a == b)=false↔a≠b)/\(∀(α:Type) [BEq α] [LawfulBEq α] (a b:α),(a != b)=true↔a≠b)/\(∀(α:Type) [BEq α] [LawfulBEq α] (a b:α),(a != b)=false↔a=b)/\
  (∀b:Bool,(¬b=true)=(b=false))/\(∀b:Bool,(¬b=false)=(b=true))/\(∀b:Bool,((!b)=true)=(b=false))/\(∀b:Bool,((!b)=false)=(b=true))/\
  (∀(α:Type) (a b:α),(a≠b)=¬(a=b))/\(∀(α:Type) [LT α] (a b:α),a > b↔b < a)/\(∀(α:Type) [LE α] (a b:α),a≥b↔b<=a)/\(∀a b:Int,¬a < b↔b<=a)/\(∀a b:Int,¬a<=b↔b < a)/\
  (∀(α β:Type) (f:α->β) (l:List α),(l.map f).length=l.length)/\(∀(α:Type) (n:Nat) (l:List α),(l.drop n).length=l.length - n)/\(∀(α:Type) (n:Nat) (l:List α),(l.take n).length=min n l.length)/\
  (∀(p:Prop) [Decidable p],¬¬p↔p)/\(∀a b:Bool,((a && b)=true)=(a=true/\b=true))/\(∀a b:Bool,((a ||b)=true)=(a=true\/b=true))/\(∀p:Prop,(True/\p)=p)/\(∀p:Prop,(p/\True)=p):=
 ⟨fun _ _=>E5,fun _ _=>K6,fun _ _ _ _ _=>W0,fun _ _ _ _ _=>beq_eq_false_iff_ne,fun _ _ _ _ _=>bne_iff_ne,fun _ _ _ _ _=>bne_eq_false_iff_eq,
  W4,Bool.not_eq_false,Bool.not_eq_true',Bool.not_eq_false',fun _ a b=>ne_eq a b,fun _ _ _ _=>gt_iff_lt,fun _ _ _ _=>ge_iff_le,fun _ _=>Int.not_lt,fun _ _=>Int.not_le,
  fun _ _ _ _=>List.length_map ..,fun _ _ _=>List.length_drop ..,fun _ _ _=>List.length_take ..,fun _ _=>T1,C7,M7,true_and,and_true⟩
theorem sn : (∀n:Nat,(n:Int).toNat=n)/\Int.toNat 0=0:=⟨K4,rfl⟩
theorem ln : (∀n:Nat,(n:Int).toNat=n)/\(∀(sz:Nat) (ag:Bool) (n:Nat) (l:List V),(chunks sz ag n l).length=n)/\(∀(α β:Type) (f:α->β) (l:List α),(l.map f).length=l.length)/\
  (∀(α:Type) (n:Nat) (l:List α),(l.drop n).length=l.length - n)/\(∀(α:Type) (n:Nat) (l:List α),(l.take n).length=min n l.length)/\(∀α:Type,([]:List α).length=0)/\(∀(α:Type) (a:α) (l:List α),(a :: l).length=l.length+1)/\
  (∀(α:Type) (a b:List α),(a ++ b).length=a.length+b.length)/\(∀(α:Type) (n:Nat) (a:α),(List.replicate n a).length=n)/\(∀(α:Type) (l:List α) (i:Nat) (a:α),(l.set i a).length=l.length)/\(∀n:Nat,0+n=n):=
 ⟨K4,fun _ _ n l=>kV n l,fun _ _ _ _=>List.length_map ..,fun _ _ _=>List.length_drop ..,fun _ _ _=>List.length_take ..,fun _=>rfl,fun _ _ _=>rfl,fun _ _ _=>List.length_append ..,fun _ _ _=>List.length_replicate ..,fun _ _ _ _=>O3 ..,C2⟩
theorem zO {n m:Nat}(h:Nat.ble n m=true):n<=m:=D3 h
theorem gI {a:Prop}(h:a:=by first|exact zO rfl|omega|exact xn fun _=>rfl|exact vi fun _=>rfl|exact xm fun _=>rfl|decide|(simp only [ln];omega)|exact Vt (D3 rfl) (by first|omega|(simp only [ln];omega))|exact QU (D3 rfl) (by first|omega|(simp only [ln];omega)) (by first|omega|(simp only [ln];omega))):a:=h
theorem gJ {a:Prop}(h:a:=by first|exact zO rfl|omega|exact xn fun _=>rfl|exact vi fun _=>rfl|exact xm fun _=>rfl|exact MJ rfl|decide|(simp only [ln];omega)|exact Vt (D3 rfl) (by first|omega|(simp only [ln];omega))|exact QU (D3 rfl) (by first|omega|(simp only [ln];omega)) (by first|omega|(simp only [ln];omega))):a:=h
theorem aY {β:Type}{f:UInt32->β}{l:List UInt32}{i:Nat}{Q:β->Prop}(k:(l.getD i default).toNat < 4294967296->Q (f (l.getD i default)))(h:i < l.length:=by first|omega|(simp only [ln];omega)):∃t,(l.map f)[i]?=some t/\Q t:=Xe h k
theorem aD {a b:Int}{Q:Int->Prop}(k:0<=a * b->a * b<=18446744065119617025->Q (a * b))(ha:0<=a:=by first|omega|(simp only [ln];omega))(ha':a < 4294967296:=by first|omega|(simp only [ln];omega))(hb:0<=b:=by first|omega|(simp only [ln];omega))(hb':b < 4294967296:=by first|omega|(simp only [ln];omega)):∃r,r=IntKind.u64.wrap (a * b)/\Q r:=UN ha ha' hb hb' k
theorem aZ {α β:Type}[Inhabited α]{f:α->β}{l:List α}{i:Nat}(h:i < l.length:=by first|omega|(simp only [ln];omega)):(l.map f)[i]?=some (f (l.getD i default)):=Tk h
theorem ao {p:Prop}(h:False:=by first|omega|exact Bool.noConfusion hb|exact False.elim hb|exact absurd rfl hb|exact absurd trivial hb):p:=h.elim
section
variable {P : Program} {C : CT} {s : St} {Q : X -> St -> Prop}
theorem zA {a b:Code}(h:cK P C a s (X.seq (fun s'=>cK P C b s' Q) Q)):cK P C (.seq a b) s Q:=Ux h
theorem zB {id:Nat}{c:Code}(h:cK P C c s (X.block id Q)):cK P C (.block id c) s Q:=h
theorem zC {a:St->Prop}{b:X->St->Prop}{s:St}(h:a s):X.seq a b .normal s:=h
theorem zD {a:St->Prop}{b:X->St->Prop}{s:St}(h:b .ret s):X.seq a b .ret s:=h
theorem zE {a:St->Prop}{b:X->St->Prop}{s:St}{id:Nat}(h:b (.exit id) s):X.seq a b (.exit id) s:=h
theorem zF {id:Nat}{Q:X->St->Prop}{s:St}(h:Q .normal s):X.block id Q .normal s:=h
theorem zG {id:Nat}{Q:X->St->Prop}{s:St}(h:Q .ret s):X.block id Q .ret s:=h
theorem zH {id:Nat}{Q:X->St->Prop}{s:St}(h:Q .normal s):X.block id Q (.exit id) s:=X.Vu h
theorem zI {id j:Nat}{Q:X->St->Prop}{s:St}(h:Q (.exit j) s)(hj:j≠id:=by decide):X.block id Q (.exit j) s:=X.Vv hj h
theorem zJ (h:Q .normal s):cK P C .skip s Q:=h
theorem zK (h:Q .ret s):cK P C .ret s Q:=h
theorem zL {id:Nat}(h:Q (.exit id) s):cK P C (.exit id) s Q:=h
instance  {a b:Code}:CoeFun (¬(cK P C (.seq a b) s Q)) (fun _=>¬(cK P C a s (X.seq (fun s'=>cK P C b s' Q) Q))):=⟨fun h k=>h (zA k)⟩
instance  {id:Nat}{c:Code}:CoeFun (¬(cK P C (.block id c) s Q)) (fun _=>¬(cK P C c s (X.block id Q))):=⟨fun h k=>h (zB k)⟩
instance  {a:St->Prop}{b:X->St->Prop}{s:St}:CoeFun (¬(X.seq a b .normal s)) (fun _=>¬(a s)):=⟨fun h k=>h (zC k)⟩
instance  {a:St->Prop}{b:X->St->Prop}{s:St}:CoeFun (¬(X.seq a b .ret s)) (fun _=>¬(b .ret s)):=⟨fun h k=>h (zD k)⟩
instance  {a:St->Prop}{b:X->St->Prop}{s:St}{id:Nat}:CoeFun (¬(X.seq a b (.exit id) s)) (fun _=>¬(b (.exit id) s)):=⟨fun h k=>h (zE k)⟩
instance  {id:Nat}{Q:X->St->Prop}{s:St}:CoeFun (¬(X.block id Q .normal s)) (fun _=>¬(Q .normal s)):=⟨fun h k=>h (zF k)⟩
instance  {id:Nat}{Q:X->St->Prop}{s:St}:CoeFun (¬(X.block id Q .ret s)) (fun _=>¬(Q .ret s)):=⟨fun h k=>h (zG k)⟩
instance  {id:Nat}{Q:X->St->Prop}{s:St}:CoeFun (¬(X.block id Q (.exit id) s)) (fun _=>¬(Q .normal s)):=⟨fun h k=>h (zH k)⟩
instance  : CoeFun (¬(cK P C .skip s Q)) (fun _=>¬(Q .normal s)):=⟨fun h k=>h (zJ k)⟩
instance  : CoeFun (¬(cK P C .ret s Q)) (fun _=>¬(Q .ret s)):=⟨fun h k=>h (zK k)⟩
instance  {id:Nat}:CoeFun (¬(cK P C (.exit id) s Q)) (fun _=>¬(Q (.exit id) s)):=⟨fun h k=>h (zL k)⟩
instance  {id:Nat}{ops:Array Oper}:CoeFun (¬(cK P C (.region id ops false) s Q)) (fun _=>¬(∀K:St->Prop,(∀s',Q .normal s'->K s')->Cw P C ops 0 ops.toList s.n s.env s.oh K)):=⟨fun h k=>h (UC k)⟩
instance  {id:Nat}{ops:Array Oper}:CoeFun (¬(cK P C (.region id ops true) s Q)) (fun _=>¬(∀K:List (Option Acc)->St->Prop,(∀tr s',uX ops tr=true->Q .normal s'->K tr s')->uQ P C ops 0 ops.toList s.n s.env s.oh [] K)):=⟨fun h k=>h (Vl k)⟩
theorem bN {P:Program}:∀q ts r,iE P q ts r->iE P q ts r:=fun _ _ _ h=>h
theorem zY {a b:Prop}(h:a)(k:b):a/\b:=⟨h,k⟩
theorem zz {p q:Prop}[c:CoeFun (¬p) (fun _=>¬q)](h:q):p:=I4 fun n=>c.coe n h
theorem zt {c:Operand}{a b:Code}(h:cK P C a s Q)(hc:rS s.env c=.af (.bool true):=by with_unfolding_all rfl):cK P C (.cond c a b) s Q:=Tc hc h
theorem zf {c:Operand}{a b:Code}(h:cK P C b s Q)(hc:rS s.env c=.af (.bool false):=by with_unfolding_all rfl):cK P C (.cond c a b) s Q:=Te hc h
theorem zm {c:Operand}{a b:Code}(h:MV (rS s.env c) (cK P C a s Q) (cK P C b s Q)):cK P C (.cond c a b) s Q:=Td h
theorem zP {α:Type}{p:α->Prop}{q:α->Prop}{w:α}(h:p w)(k:q w):∃r,p r/\q r:=⟨w,h,k⟩
theorem zQ {q:FuncId}{ts:List T}{fr:Bool}{r:T}{k:Acc->Prop}{B:Prop}(h:C q ts (.data fr r))(hk:free k (V.FE fr r)):(∃fr r,C q ts (.data fr r)/\free k (V.FE fr r))\/B:=.inl ⟨fr,r,h,hk⟩
instance  {c:Operand}{a b:Code}:CoeFun (PLift (¬(cK P C (.cond c a b) s Q))) (fun _=>¬(rS s.env c=.af (.bool true)/\cK P C a s Q)):=⟨fun h k=>h.down (Tc k.1 k.2)⟩
instance  {id j:Nat}{Q:X->St->Prop}{s:St}:CoeFun (PLift (¬(X.block id Q (.exit j) s))) (fun _=>¬(j≠id/\Q (.exit j) s)):=⟨fun h k=>h.down (X.Vv k.1 k.2)⟩
instance  {c:Operand}{a b:Code}:CoeFun (Bool->¬(cK P C (.cond c a b) s Q)) (fun _=>¬(rS s.env c=.af (.bool false)/\cK P C b s Q)):=⟨fun h k=>h true (Te k.1 k.2)⟩
instance  {c:Operand}{a b:Code}:CoeFun (Nat->¬(cK P C (.cond c a b) s Q)) (fun _=>¬(MV (rS s.env c) (cK P C a s Q) (cK P C b s Q))):=⟨fun h k=>h 0 (Td k)⟩
theorem zi {p q r:Prop}[c:CoeFun (PLift (¬p)) (fun _=>¬(r/\q))](h:q)(hr:r:=by first|with_unfolding_all rfl|decide):p:=I4 fun n=>c.coe ⟨n⟩ ⟨hr,h⟩
theorem zh {p q r:Prop}[c:CoeFun (Bool->¬p) (fun _=>¬(r/\q))](h:q)(hr:r:=by with_unfolding_all rfl):p:=I4 fun n=>c.coe (fun _=>n) ⟨hr,h⟩
theorem zj {p q:Prop}[c:CoeFun (Nat->¬p) (fun _=>¬q)](h:q):p:=I4 fun n=>c.coe (fun _=>n) h
theorem zy {a b:Prop}(k:b)(h:a:=by first|exact rfl|exact gI):a/\b:=⟨h,k⟩
theorem zx {a b:Prop}(k:b)(h:a:=by first|exact rfl|exact gJ):a/\b:=⟨h,k⟩
end
end Go.Ev
namespace Go.Ev
def norm (l:List UInt32):List UInt32:=(l.reverse.dropWhile (· == 0)).reverse
theorem qK {l:List UInt32}(h:l.getD (l.length - 1) 0≠0):norm l=l:=by
 have hl:l≠[]:=by rintro rfl;simp at h
 obtain⟨y,x,rfl⟩:∃y x,l=y ++ [x]:=⟨_,_,(List.dropLast_concat_getLast hl).symm⟩
 simp at h;simp [norm,h]
theorem qL {l:List UInt32}(h:l.getD (l.length - 1) 0=0):norm (l.take (l.length - 1))=norm l:=by
 rcases List.eq_nil_or_concat l with rfl|⟨y,x,rfl⟩
 ·rfl
 ·simp at h;subst h;simp [norm]
theorem norm_le (l:List UInt32):(norm l).length<=l.length:=by
 have:=(V3 (fun x:UInt32=>x == 0) (l:=l.reverse)).length_le;simpa [norm] using this
def val : List UInt32->Nat
 | []=>0
 |x :: r=>x.toNat+4294967296 * val r
theorem dN : ∀(a b:List UInt32),val (a ++ b)=val a+4294967296 ^ a.length * val b
 | [],b=>by simp [val]
 |x :: r,b=>by simp only [G1,val,dN r b,B9,H9];rw [H3,P0,E0 (4294967296 ^ r.length) 4294967296,J2]
theorem dZ : ∀(a:List UInt32),val a < 4294967296 ^ a.length
 | []=>by simp [val]
 |x :: r=>by
  have h1:=dZ r;have h2:=x.toNat_lt;simp only [val,B9,H9];generalize 4294967296 ^ r.length=p at *;omega
theorem bX (l:List UInt32):val (norm l)=val l:=by
 obtain⟨r,rfl⟩:∃r:List UInt32,l=r.reverse:=⟨l.reverse,by simp⟩
 simp only [norm,R6]
 induction r with
 |nil=>rfl
 |cons x r ih=>
  rw [U2];split
  ·rename_i h;have:x=0:=by simpa using h
   subst this;simp [dN,val,ih]
  ·rfl
def Can (l:List UInt32):Prop:=l=[]\/l.getD (l.length - 1) 0≠0
theorem jj (l:List UInt32):Can (norm l):=by
 obtain⟨r,rfl⟩:∃r:List UInt32,l=r.reverse:=⟨l.reverse,by simp⟩
 simp only [norm,R6]
 induction r with
 |nil=>exact .inl rfl
 |cons x r ih=>
  rw [U2];split
  ·exact ih
  ·rename_i h;right;simpa using h
theorem sH {l:List UInt32}(h:Can l)(hl:l≠[]):4294967296 ^ (l.length - 1)<=val l:=by
 rcases h with h|h
 ·exact absurd h hl
 ·obtain⟨y,x,rfl⟩:∃y x,l=y ++ [x]:=⟨_,_,(List.dropLast_concat_getLast hl).symm⟩
  simp at h;rw [dN];have:1<=x.toNat:=Nat.one_le_iff_ne_zero.2 fun h'=>h (M9.1 h')
  simp only [val,List.length_append,B9,M1,C2,O5,O9,H8];have:=H7 (4294967296 ^ y.length) this;omega
theorem kX {a b:List UInt32}(hb:Can b)(h:a.length < b.length):val a < val b:=by
 have h1:=dZ a;have h2:=sH hb (by rintro rfl;simp at h);have h3:4294967296 ^ a.length<=4294967296 ^ (b.length - 1):=K8 B3 A8;omega
theorem xz : ∀(i:Nat) (a b:List UInt32),a.length=b.length->i < a.length->a.drop (i+1)=b.drop (i+1)->(a.getD i default).toNat < (b.getD i default).toNat->val a < val b
 |0,x :: r,y :: s,_,_,h,h2=>by
  simp at h h2;subst h;simp only [val];omega
 |i+1,x :: r,y :: s,hl,hi,h,h2=>by
  have:=xz i r s (by simpa using hl) (by simpa using hi) (by simpa using h) (by simpa using h2);have:=x.toNat_lt;simp only [val];omega
 |_,[],_,_,h,_,_=>absurd h (by simp)
 |0,_ :: _,[],h,_,_,_=>absurd h (by simp)
 |_+1,_ :: _,[],h,_,_,_=>absurd h (by simp)
theorem zl {a b:List UInt32}{i:Nat}(hl:a.length=b.length)(hi:i < a.length)(h:a.drop (i+1)=b.drop (i+1))(he:(a.getD i default).toNat=(b.getD i default).toNat):a.drop i=b.drop i:=by
 have hi':i < b.length:=by omega
 rw [F7 hi,F7 hi',h];have:=M9.1 he;simp [List.getD,hi,hi'] at this;rw [this]
theorem kW : ∀{a b:List UInt32},Can a->Can b->val a=val b->a=b
 | [],[],_,_,_=>rfl
 | [],y :: s,_,hb,h=>by
  have:=sH hb (by simp);have h2:0 < 4294967296 ^ ((y :: s).length - 1):=M3 B3;simp [val] at h this h2;omega
 |x :: r,[],ha,_,h=>by
  have:=sH ha (by simp);have h2:0 < 4294967296 ^ ((x :: r).length - 1):=M3 B3;simp [val] at h this h2;omega
 |x :: r,y :: s,ha,hb,h=>by
  have tl:∀(x:UInt32) (r:List UInt32),Can (x :: r)->Can r:=by
   intro x r h;rcases h with h|h
   ·cases h
   ·cases r with
    |nil=>exact .inl rfl
    |cons y r=>right;simpa using h
  have h1:=x.toNat_lt;have h2:=y.toNat_lt;simp only [val] at h;have hx:x.toNat=y.toNat:=by omega
  rw [M9.1 hx,kW (tl _ _ ha) (tl _ _ hb) A8]
def lm (n:Nat):List UInt32:=if n=0 then [] else UInt32.ofNat n :: lm (n / 4294967296)
decreasing_by omega
theorem bM (n:Nat):val (lm n)=n:=by
 induction n using Nat.strongRecOn with
 |_ n ih=>
  rw [lm];split
  ·simp [val, *]
  ·simp only [val,ih _ (by omega:n / 4294967296 < n)];simp;omega
theorem vc (n:Nat):Can (lm n):=by
 induction n using Nat.strongRecOn with
 |_ n ih=>
  rw [lm];split
  ·exact .inl rfl
  ·right;rcases ih _ (by omega:n / 4294967296 < n) with h|h
   ·rw [h];have h0:val (lm (n / 4294967296))=0:=by rw [h];rfl
    rw [bM] at h0;simp;intro h';have:=B4 UInt32.toNat h';simp at this;omega
   ·have hne:lm (n / 4294967296)≠[]:=by intro h';rw [h'] at h;simp at h
    obtain⟨y,r,hr⟩:=List.exists_cons_of_ne_nil hne;rw [hr] at h |-;simpa using h
theorem bL (l:List UInt32):norm l=lm (val l):=kW (jj l) (vc _) (by rw [bX,bM])
theorem xD : ∀(p:List UInt32) (j:Nat) (c:UInt32),j < p.length->val (p.set j c)+(p.getD j default).toNat * 4294967296 ^ j=val p+c.toNat * 4294967296 ^ j
 | [],_,_,h=>absurd h (by simp)
 |x :: r,0,c,_=>by simp [val];omega
 |x :: r,j+1,c,h=>by
  have:=xD r j c (by simpa using h);simp only [List.set_cons_succ,val,List.getD_cons_succ,H9];have e:∀n,n * (4294967296 ^ j * 4294967296)=4294967296 * (n * 4294967296 ^ j):=fun n=>by rw [<- J2,E0]
  rw [e,e];omega
theorem bO (l:List UInt32)(k:Nat)(h:k < l.length):val (l.take (k+1))=val (l.take k)+(l.getD k default).toNat * 4294967296 ^ k:=by
 have:l.take (k+1)=l.take k ++ [l.getD k default]:=by rw [List.take_add_one];simp [List.getD,h]
 rw [this,dN,List.length_take,I5 (O0 h)];simp only [val,O9,H8];rw [E0]
theorem lN : ∀(p:List UInt32) (j:Nat),val p < 4294967296 ^ j->(p.getD j default).toNat=0
 | [],j,_=>rfl
 |x :: r,0,h=>by simp [val] at h |-;omega
 |x :: r,j+1,h=>by
  refine lN r j ?_;simp only [val,H9] at h;omega
theorem vD (n:Nat):val (List.replicate n 0)=0:=by
 induction n with
 |zero=>rfl
 |succ n ih=>simp [T9,val,ih]
theorem Im {p q:List UInt32}{j:Nat}(h:p.drop j=q.drop j):p.getD j default=q.getD j default:=by
 have:=B4 (fun l=>l.getD 0 default) h;simpa [List.getD,G0] using this
theorem vP {p q:List UInt32}{j:Nat}{c:UInt32}(h:p.drop j=q.drop j):(p.set j c).drop (j+1)=q.drop (j+1):=by
 rw [List.drop_set_of_lt A8];have:=B4 (List.drop 1) h;simpa [L4,Nat.add_comm] using this
theorem Lp {p p' y:List UInt32}{xi c i k t:Nat}(hj:i+k < p'.length)(hk:k < y.length)(h:val p'+c * 4294967296 ^ (i+k)=val p+xi * val (y.take k) * 4294967296 ^ i)
  (ht:t=c+(xi * (y.getD k default).toNat+(p'.getD (i+k) default).toNat)) :
  val (p'.set (i+k) (UInt32.ofNat t))+t / 4294967296 * 4294967296 ^ (i+k+1)=val p+xi * val (y.take (k+1)) * 4294967296 ^ i:=by
 have h1:=xD p' (i+k) (UInt32.ofNat t) hj;rw [bO y k hk];have e1:(UInt32.ofNat t).toNat=t % 4294967296:=by simp
 rw [e1] at h1
 have h2:t % 4294967296 * 4294967296 ^ (i+k)+t / 4294967296 * 4294967296 ^ (i+k+1)=t * 4294967296 ^ (i+k):=by
  rw [H9,E0 (4294967296 ^ (i+k)) 4294967296,<- J2,<- I8,E0 (t / 4294967296),Nat.mod_add_div]
 have h3:t * 4294967296 ^ (i+k)=c * 4294967296 ^ (i+k)+(xi * (y.getD k default).toNat * 4294967296 ^ (i+k)+(p'.getD (i+k) default).toNat * 4294967296 ^ (i+k)):=by
  rw [ht,I8,I8]
 have h4:xi * (val (y.take k)+(y.getD k default).toNat * 4294967296 ^ k) * 4294967296 ^ i=xi * val (y.take k) * 4294967296 ^ i+xi * (y.getD k default).toNat * 4294967296 ^ (i+k):=by
  rw [H3,I8,P3,E0 (4294967296 ^ i) (4294967296 ^ k),J2 xi (_ * _),J2 xi (UInt32.toNat _) (_ * _),J2 (UInt32.toNat _)]
 omega
theorem Pa {p p' x y:List UInt32}{c:UInt32}{i:Nat}(hi:i < x.length)(hl:i+y.length < p'.length)(hp:val p=val (x.take i) * val y)
  (h:val p'+c.toNat * 4294967296 ^ (i+y.length)=val p+(x.getD i default).toNat * val y * 4294967296 ^ i) (hd:p'.drop (i+y.length)=p.drop (i+y.length)) :
  val (p'.set (i+y.length) c)=val (x.take (i+1)) * val y:=by
 have h1:=xD p' (i+y.length) c hl
 have hb:val p < 4294967296 ^ (i+y.length):=by
  rw [hp,P3];have a1:=dZ (x.take i);rw [List.length_take,I5 (O0 hi)] at a1;have a2:=dZ y;exact Nat.mul_lt_mul'' a1 a2
 have h0:(p'.getD (i+y.length) default).toNat=0:=by rw [Im hd];exact lN p _ hb
 rw [h0] at h1;rw [bO x i hi,I8,Nat.mul_right_comm];omega
def qW (a b:Nat):Int:=if a < b then -1 else if b < a then 1 else 0
theorem zo {a b:Nat}(h:a < b):qW a b = -1:=by simp [qW,h]
theorem Gr {a b : Nat} (h : b < a) : qW a b = 1 := by have : ¬ a < b := by omega
                                                      simp [qW, this, h]
theorem PN (a:Nat):qW a a=0:=by simp [qW]
open Go.Proofs
theorem RC : tk Tryz.prog 26=.st [(0,1),(1,1),(2,1),(3,1)] [.string .empty,.slice none 0 0,.slice none 0 0,.slice none 0 0]:=by kernel_rfl
theorem TZ : tk Tryz.prog 40=.st [(0,1),(1,1),(2,1),(3,1)] [.string .empty,.slice none 0 0,.slice none 0 0,.slice none 0 0]:=by kernel_rfl
theorem Wg : tk Tryz.prog 45=.st [(0,1),(1,1),(2,1)] [.int .i8 0,.slice none 0 0,.slice none 0 0]:=by kernel_rfl
theorem Wf : tk Tryz.prog 52=.st [(0,1),(1,1),(2,1),(3,1)] [.int .i64 0,.int .i64 0,.int .i64 0,.string .empty]:=by kernel_rfl
theorem nV : tk Tryz.prog 59=.st [(0,1),(1,1),(2,1),(3,1)] [.int .i8 0,.string .empty,.int .i64 0,.int .i64 0]:=by kernel_rfl
theorem RB : tk Tryz.prog 64=.st [(0,1),(1,1)] [.bool false,.slice none 0 0]:=by kernel_rfl
theorem NB : tk Tryz.prog 66=.st [(0,2),(2,1)] [.bool false,.slice none 0 0,.slice none 0 0]:=by kernel_rfl
theorem We : tk Tryz.prog 68=.st [(0,1),(1,3)] [.int .i8 0,.bool false,.slice none 0 0,.slice none 0 0]:=by kernel_rfl
theorem Wd : tk Tryz.prog 79=.st [(0,1),(1,1),(2,1),(3,1)] [.string .empty,.slice none 0 0,.slice none 0 0,.slice none 0 0]:=by kernel_rfl
theorem Wc : tk Tryz.prog 82=.ptr:=by kernel_rfl
theorem TY : tk Tryz.prog 87=.ptr:=by kernel_rfl
end Go.Ev
