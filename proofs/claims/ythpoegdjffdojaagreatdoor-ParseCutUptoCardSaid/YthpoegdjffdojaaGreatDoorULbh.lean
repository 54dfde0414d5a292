import Derived.RangeFuncRecord
import Derived.Test.YthpoegdjffdojaaGreatDoorULbg
set_option linter.all false
set_option maxHeartbeats 4000000
set_option maxRecDepth 10000
namespace Go.Ev
def VG (o:Go.Obj):Prop:=(∀c t f,o≠.cells c t f)/\∀e k,o≠.map e k
theorem pg (r:Go.Loop):VG (.loop r):=⟨fun _ _ _ h=>Go.Obj.noConfusion h,fun _ _ h=>Go.Obj.noConfusion h⟩
theorem yA (d:Option (List Deferred)):VG (.deferred d):=⟨fun _ _ _ h=>Go.Obj.noConfusion h,fun _ _ h=>Go.Obj.noConfusion h⟩
theorem nh {w:World}{l b:Nat}{o o2 x:Go.Obj}(hl:w.heap[l]?=some o)(hb:w.heap[b]?=some o2)(hn:o≠o2):(w.putObj l x).heap[b]?=some o2:=by
 have:b≠l:=fun e=>by subst e;rw [hl] at hb;exact hn (C6 hb)
 rw [World.putObj_heap_other this];exact hb
theorem HR.YU {g:Gh}{oh:OH}{w:World}{l:Nat}{o x:Go.Obj}(h:HR g oh w)(hl:w.heap[l]?=some o)(ho:VG o):HR g oh (w.putObj l x):=by
 refine⟨⟨fun b i c hc=>?_,h.hF,fun i ob hi hv=>?_,h.inj,h.mp.of fun b ⟨i,ob,hi,hm,hb⟩=>?_⟩,h.gl⟩
 ·have h1:=h.hG b i c hc
  have hbl:b≠l:=fun e=>by
   subst e;simp only [World.cell?,hl] at h1
   cases o with
   |cells c t f=>exact ho.1 _ _ _ rfl
   |_=>simp at h1
  simp only [World.cell?,World.putObj_heap_other hbl] at h1 |-;exact h1
 ·obtain⟨h1,h2⟩:=h.obj i ob hi hv;refine⟨h1,fun b hb=>?_⟩;obtain⟨arr,ty,q1,q2,q3⟩:=h2 b hb;exact⟨arr,ty,nh hl q1 (ho.1 _ _ _),q2,q3⟩
 ·obtain⟨b2,es,clock,q1,q2,-⟩:=h.mp.at_ i ob hi hm;rw [hb] at q1;obtain rfl:b=b2:=by simpa using q1
  rw [nh hl q2 (ho.2 _ _),q2]
theorem Fr.YU {g0 g:Gh}{oh0 oh:OH}{w0 w:World}{l:Nat}{o x:Go.Obj}(h:Fr g0 oh0 w0 g oh w)(hl:w.heap[l]?=some o)(ho:VG o)(h0:w0.heap.size<=l):Fr g0 oh0 w0 g oh (w.putObj l x):=by
 refine⟨h.os,h.tape,h.output,by rw [World.putObj_size];exact h.size,fun b hb h1 h2=>?_,h.own,h.G,h.F,h.nG,h.nF,fun b arr ty fz hb=>?_,h.DK⟩
 ·rw [World.putObj_heap_other A8];exact h.km b hb h1 h2
 ·obtain⟨arr',q1,q2⟩:=h.Gx b arr ty fz hb;exact⟨arr',nh hl q1 (ho.1 _ _ _),q2⟩
theorem Fr.QJ {g g':Gh}{oh oh':OH}{w w':World}{l:Nat}{o:Go.Obj}(h:Fr g oh w g' oh' w')(hr:HR g oh w)(hl:w.heap[l]?=some o)(ho:VG o):w'.heap[l]?=some o:=by
 rw [h.km l (E4.1 hl).1 (fun⟨i,ob,hi,hv,hm⟩=>?_) (fun⟨i,ob,hi,hm,hb⟩=>?_)]
 ·exact hl
 ·obtain⟨_,q⟩:=hr.obj i ob hi hv;obtain⟨arr,ty,hh,_⟩:=q l hm;rw [hl] at hh;exact ho.1 _ _ _ (C6 hh)
 ·obtain⟨b2,es,clock,q1,q2,-⟩:=hr.mp.at_ i ob hi hm;rw [hb] at q1;obtain rfl:l=b2:=by simpa using q1
  rw [hl] at q2;exact ho.2 _ _ (C6 q2)
theorem Rel.mv {γ:Gm}{g g':Gh}{n:Nat}{e:Env}{oh oh':OH}{a:Act}{w w':World}(h:Rel γ g ⟨n,e,oh⟩ a w)(hm:cx g oh g' oh')(hr:HR g' oh' w'):Rel γ g' ⟨n,e,oh'⟩ a w':=⟨hr,h.df,h.sz,fun t=>hm.Sh (h.env t),h.par⟩
structure Tv where
 γ:Gm
 n:Nat
 e:Env
 a:Act
structure Pk (E:List Tv)(l D:Nat)(r:Go.Loop)(g0:Gh)(w0:World)(g:Gh)(oh:OH)(w:World):Prop where
 rel:∀p ∈ E,Rel p.γ g ⟨p.n,p.e,oh⟩ p.a w
 hl:w.heap[l]?=some (.loop r)
 hd:w.heap[D]?=some (.deferred (some []))
 fr:Fr g0 [] w0 g oh w
 h0:w0.heap.size<=l
theorem Pk.put {E:List Tv}{l D:Nat}{r r':Go.Loop}{g0 g:Gh}{w0 w:World}{oh:OH}(h:Pk E l D r g0 w0 g oh w):Pk E l D r' g0 w0 g oh (w.putObj l (.loop r')):=
 ⟨fun p hp=>⟨(h.rel p hp).hr.YU h.hl (pg r),(h.rel p hp).df,(h.rel p hp).sz,(h.rel p hp).env,(h.rel p hp).par⟩,World.putObj_heap_same (E4.1 h.hl).1,nh h.hl h.hd (fun e=>Go.Obj.noConfusion e),h.fr.YU h.hl (pg r) h.h0,h.h0⟩
theorem Rel.og {γ:Gm}{g:Gh}{s:St}{a:Act}{w:World}{l:Nat}{r:Go.Loop}{x:Go.Obj}(h:Rel γ g s a w)(hl:w.heap[l]?=some (.loop r)):Rel γ g s a (w.putObj l x):=⟨h.hr.YU hl (pg r),h.df,h.sz,h.env,h.par⟩
variable {P : Program}
theorem Pk.on {E:List Tv}{l D:Nat}{r:Go.Loop}{g0 g g':Gh}{w0 w w':World}{oh oh' T:OH}(hp:Pk E l D r g0 w0 g oh w)(hr0:HR g oh w)(hr:HR g' oh' w')(hf:Fr g oh w g' oh' w')(hm:cx g oh g' oh')(h1:gi oh' T)(hT:eV T T)(hE:∀p ∈ E,de T p.e p.e)
  (hf2:Fr g' oh' w' g' T w'):Pk E l D r g0 w0 g' T w':=
 ⟨fun p hq=>(((hp.rel p hq).mv hm hr).less (s1:=⟨p.n,p.e,T⟩) (s:=⟨p.n,p.e,oh'⟩) ⟨rfl,hE p hq,h1,hT⟩).1,hf.QJ hr0 hp.hl (pg r),hf.QJ hr0 hp.hd (yA _),(hp.fr.trans hf).trans hf2,hp.h0⟩
theorem fF {ro:Option Nat}{nf:Nat}{C:CT}(hC:∀q ts r,C q ts r->iE P q ts r)(hmix:P.follows .mixedOrders=true){n:Nat}{df:List Deferred}{id:Nat}{ops:Array Oper}{b:Bool}{e e':Env}{oh T:OH}{K:Exit->Act->World->Prop}{E:List Tv}{l D:Nat}{r:Go.Loop}{g0:Gh}{w0:World}
  (hb:okB n (.region id ops b)=true) (h:∀Q:X->St->Prop,(∀st,gi st.oh T->de T st.env e'->Q .normal st)->cK P C (.region id ops b) ⟨n,e,oh⟩ Q) (hT:eV T T) (hE:∀p ∈ E,de T p.e p.e)
  {g:Gh} {a:Act} {w:World} (hr:Rel ⟨fun _=>none,df⟩ g ⟨n,e,oh⟩ a w) (hp:Pk E l D r g0 w0 g oh w)
  (hk:∀g' a' w',Rel ⟨fun _=>none,df⟩ g' ⟨n,e',T⟩ a' w'->Pk E l D r g0 w0 g' T w'->K .normal a' w'):(Code.region id ops b).wpIn (FR ro) nf P K a w:=by
 refine wpIn_mono (Dl hC hmix (np:=0) (fun _ _=>rfl) id ops b _ (fun _ st=>gi st.oh T/\de T st.env e') hb (dF _) (h _ fun st h1 h2=>⟨h1,h2⟩) rfl g a w hr) fun x a' w' ⟨s',g',hx,⟨h1,h2⟩,hr',hf,hm,hn⟩=>?_
 subst hx;obtain⟨hr2,hf2⟩:=hr'.less (s1:=⟨n,e',T⟩) ⟨hn.symm,h2,h1,hT⟩;exact hk g' a' w' hr2 (hp.on hr.hr hr'.hr hf hm h1 hT hE hf2)
theorem yy {ro:Option Nat}{nf:Nat}{C:CT}(hC:∀q ts r,C q ts r->iE P q ts r){n:Nat}{df:List Deferred}{ops:Array Oper}{e e':Env}{oh T:OH}{K:Exit->Act->World->Prop}{E:List Tv}{l D:Nat}{r:Go.Loop}{g0:Gh}{w0:World}{rest:List Nat}(i m:Nat)
  (hb:Ik n ops.toList=true) (hm9:((ops.toList.drop i).take m).length=m) (h:∀K:St->Prop,(∀st,(gi st.oh T/\de T st.env e')->K st)->Cw P C ops i ((ops.toList.drop i).take m) n e oh K) (hT:eV T T) (hE:∀p ∈ E,de T p.e p.e)
  {g:Gh} {a:Act} {w:World} (hr:Rel ⟨fun _=>none,df⟩ g ⟨n,e,oh⟩ a w) (hp:Pk E l D r g0 w0 g oh w)
  (hk:∀g' a' w',Rel ⟨fun _=>none,df⟩ g' ⟨n,e',T⟩ a' w'->Pk E l D r g0 w0 g' T w'->wpOpsIn (FR ro) nf P ops K rest a' w'):wpOpsIn (FR ro) nf P ops K (List.range' i m ++ rest) a w:=by
 have:=qV (ro:=ro) (nf:=nf) (γ:=⟨fun _=>none,df⟩) (np:=0) (rest:=rest) (Q:=K) (g0:=g) (oh0:=oh) (w0:=w) (K:=fun st=>gi st.oh T/\de T st.env e') hC hb (fun _ _=>rfl) (wL _) (fun s' g' a' w' hq hr' hf hn=>by
  obtain⟨h1,h2⟩:=hq;obtain⟨hr2,hf2⟩:=hr'.less (s1:=⟨n,e',T⟩) ⟨hn.symm,h2,h1,hT⟩
  exact hk g' a' w' hr2 (hp.on hr.hr hr'.hr hf.1 hf.2 h1 hT hE hf2)) ((ops.toList.drop i).take m) i _ ⟨_,(L1 m _).symm⟩ (by rw [<- Ee];exact h _ fun st h1=>h1) g a w hr ⟨Fr.refl _ _ _,cx.refl _ _⟩ rfl
 rw [hm9] at this;exact this
theorem IW {ro:Option Nat}{nf:Nat}{ops:Array Oper}{i td tf ta tb l:Nat}{rest:List Nat}{o:Oper}{aty:Array TypeId}{r:Go.Loop}{Q:Exit->Act->World->Prop}{a:Act}{w:World}(ho:ops[i]?=some o)(hg:o.guard=none)(hop:o.op=.call { callee:=.value (.tmp tf),args:=#[.tmp ta,.tmp tb],argTypes:=aty })(hd:o.dst=some td)
  (hl:w.heap[l]?=some (.loop r)) (hy:a.eval (.tmp tf)=.func (.yield l) #[] #[]) {p1 p2:Nat} (hp:r.params=#[p1,p2])
  (h:RoundIn (FR ro) (nf - 1) P l r.fn ((r.tmps.setIfInBounds p1 (a.eval (.tmp ta))).setIfInBounds p2 (a.eval (.tmp tb))) r.assign r.body w fun e w'=>∃v,e=.returned v/\wpOpsIn (FR ro) nf P ops Q rest (a.put (some td) v) w'):wpOpsIn (FR ro) nf P ops Q (i :: rest) a w:=by
 simp only [wpOpsIn,ho];rw [if_pos (by simp [Region.wanted,hg])];refine⟨fun _ _=>trivial,?_⟩;rw [Oper.semAt_eq _ _ _ (fun c e=>by rw [hop] at e;cases e)]
 have e1:(execOp a.eval o).run P w=.ok (.round l r.fn ((r.tmps.setIfInBounds p1 (a.eval (.tmp ta))).setIfInBounds p2 (a.eval (.tmp tb))) r.assign r.body) w:=by
  simp only [execOp,hop,resolve,hy,Deferred.ofValue];simp only [Sem.run_bind,Sem.run_pure,Result.andThen,invoke];rw [show(#[] ++ Array.map a.eval #[Operand.tmp ta,Operand.tmp tb])=#[a.eval (.tmp ta),a.eval (.tmp tb)] by simp];have e3:=run_yield (P:=P) (args:=#[a.eval (.tmp ta),a.eval (.tmp tb)]) hl (by rw [hp];rfl);rw [e3,hp];simp
 rw [e1];refine⟨(fun h=>by cases h),h.mono ?_⟩;rintro e w' ⟨v,rfl,hv⟩;rw [hd];exact hv
theorem Rel.Hz {df:List Deferred}{g:Gh}{n d:Nat}{e:Env}{oh:OH}{a:Act}{w:World}{v:V}{x:Value}(h:Rel ⟨fun _=>none,df⟩ g ⟨n,e,oh⟩ a w)(hd:d < n)(hv:dd g oh v x):Rel ⟨fun _=>none,df⟩ g ⟨n,(d,v) :: e,oh⟩ (a.put (some d) x) w:=by
 refine⟨h.hr,h.df,by simp [Act.put,h.sz],fun t=>?_,fun t v hv=>by cases hv⟩;show dd g oh (aA ((d,v) :: e) t) _;simp only [Act.put,dj];by_cases e9:d=t
 ·subst e9;have hlt:d < a.tmps.size:=by rw [h.sz];exact hd
  rw [if_pos rfl,Pb,K7 hlt];exact hv
 ·rw [if_neg e9,Pb,I1 e9,<- Pb];exact h.env t
theorem Rel.WE {γ:Gm}{g:Gh}{s:St}{a:Act}{w:World}(h:Rel γ g s a w):Rel ⟨fun _=>none,γ.df⟩ g s a w:=⟨h.hr,h.df,h.sz,h.env,fun t v hv=>by cases hv⟩
theorem SB {F:Fence}{n:Nat}{c:Code}{Q:Exit->Act->World->Prop}{a:Act}{w:World}(I:Nat->Act->World->Prop){k:Nat}(h0:I k a w)
  (round:∀k a w,I k a w->c.wpIn F n P (Exit.then (fun a' w'=>∃k',k' < k/\I k' a' w') Q) a w):(Code.loop c).wpIn F n P Q a w:=by
 classical
 have least:∀a w,(∃k,I k a w)->∃k,I k a w/\∀j,I j a w->k<=j:=by
  rintro a w ⟨k,hk⟩
  induction k using Nat.strongRecOn with
  |_ k ih=>
   by_cases h:∃j,j < k/\I j a w
   ·obtain⟨j,hj,hi⟩:=h;exact ih j hj hi
   ·exact⟨k,hk,fun j hj=>Nat.le_of_not_lt fun hl=>h ⟨j,hl,hj⟩⟩
 refine wpIn_loop (fun a w=>∃k,I k a w) (fun a w=>if h:∃k,I k a w then(least a w h).choose else 0) ⟨k,h0⟩ fun a w h=>?_
 have hk:=(least a w h).choose_spec;refine wpIn_mono (round _ a w hk.1) fun x a' w' hq=>?_
 cases x with
 |normal=>
  obtain⟨k',hlt,hi⟩:=hq;have h2:∃k,I k a' w':=⟨k',hi⟩
  refine⟨h2,?_⟩;simp only [I2 h,I2 h2];exact N4 ((least a' w' h2).choose_spec.2 _ hi) hlt
 |_=>exact hq
end Go.Ev
namespace Go.Ev
open Go.Proofs
def aM : List Bool->Code->Code
 |false :: r,.seq a _=>aM r a
 |true :: r,.seq _ b=>aM r b
 |false :: r,.cond _ a _=>aM r a
 |true :: r,.cond _ _ b=>aM r b
 |_ :: r,.block _ c=>aM r c
 |_ :: r,.loop c=>aM r c
 |false :: r,.rangeFunc _ _ a _=>aM r a
 |true :: r,.rangeFunc _ _ _ b=>aM r b
 |_,c=>c
def opsOf : Code->Array Oper
 |.region _ o _=>o
 |_=>#[]
def p0 (v n:Nat)(b:V):Obj:=⟨5,[.agg [.own 5 v 0 n,b,.af (.int .i64 0),.af (.pointer none),.af (.int .i64 0)]],0,true⟩
def vb (v:V):Obj:=⟨1,[v],0,true⟩
def sf (t:Tok):Obj:=⟨4,[ly t],0,true⟩
def rP (s:ByteArray)(a:Nat):Obj:=⟨4,[Ab s a (aj s a).1 (aj s a).2],0,true⟩
def np : V:=.af (.pointer none)
def yP (s:ByteArray)(L:List Tok)(v:Nat)(lt r0:V)(x:OH):OH:=
 (0,vb r0) :: (1,p0 v L.length lt) :: (2,vb (.ref 1 0 0 0)) :: (5,⟨4,L.map ly,v,true⟩) :: (6,TW s) :: x
def gR (s:ByteArray)(a:Nat)(t:Tok)(x:OH):OH:=(7,rP s a) :: (8,sf t) :: x
def yl (l:Nat):V:=.af (.func (.yield l) #[] #[])
def BP (f:Nat):Env:=[(2,.ref 0 0 0 0),(3,.ref 2 0 0 0),(10,.wr (.TH f) 6 0 0 0)]
def SQ (l:Nat):Env:=[(0,yl l),(3,.ref 7 0 0 0)]
def VV (l:Nat)(E:V):Env:=[(0,yl l),(3,.ref 7 0 0 0),(4,.ref 8 0 0 0),(5,E)]
def Mc (l:Nat)(t:Tok)(E:V):Env:=(12,yl l) :: (13,ly t) :: (14,E) :: VV l E
def Gf (E:V):Env:=[(2,.ref 0 0 0 0),(3,.ref 2 0 0 0),(4,.ref 9 0 0 0),(5,E)]
theorem jS (t:Tok)(oh:OH):(ly t).cl oh:=V.flat.cl _ (oN t.kind t.text t.line t.Ae)
theorem ji {s:ByteArray}{L:List Tok}{v:Nat}{lt r0:V}{x:OH}(h1:lt.Gs (yP s L v lt r0 x))(h2:r0.cl (yP s L v lt r0 x))(hx:eV (yP s L v lt r0 x) x):eV (yP s L v lt r0 x) (yP s L v lt r0 x):=by
 refine⟨bT h2,bT fun u hu=>?_,bT rfl,fun u hu=>?_,bT trivial,hx⟩
 ·simp at hu;rcases hu with rfl|rfl|rfl|rfl|rfl<;>first|exact h1|trivial|rfl
 ·obtain⟨t,-,rfl⟩:=D4.1 hu;exact jS t _
theorem oD {s:ByteArray}{a:Nat}{t:Tok}{oh x:OH}(h:eV oh x):eV oh (gR s a t x):=⟨bT (V.flat.cl _ (mh _ _ _ _)),bT (jS t _),h⟩
theorem XU (s:ByteArray){Q:X->St->Prop}(h:∀st,gi st.oh (yP s [] 0 np np [])->de (yP s [] 0 np np []) st.env (BP 66)->Q .normal st) :
  cK Tryz.prog (iE Tryz.prog) (aM [true,true,false,false] (Option.getD Tryz.f26.body .skip)) ⟨Tryz.f26.ntmps,[(0,.af (.string s)),(2,.ref 0 0 0 0),(3,.ref 2 0 0 0)],[(0,vb np),(1,p0 0 0 np),(2,vb (.ref 1 0 0 0)),(5,⟨4,[],0,true⟩)]⟩ Q:=by
 dsimp only [aM,Option.getD,Tryz.f26];unfold vb p0 np
 repeat'(first|(with_reducible first|(refine zz ?_;try intro K hK)|refine zi ?_|refine zh ?_)|((first|apply hK _ _ rfl|apply hK);clear hK K)|(guard_hyp hK;first|refine zx ?_|apply ab|apply aa|refine zW ?_|(refine Or.inr (Sk _ (Sk _ (UO (Qs s) ?_))))|intro b0 hb)|((first|refine zj ?_|guard_hyp hK);refine zY ?_ ?_;all_goals(intro hb;(try simp only [sn,sb] at hb);try exact ao)))
 exact h _ ⟨rfl,rfl,rfl,rfl,rfl,trivial⟩ ⟨rfl,rfl,rfl,rfl,rfl,rfl,trivial⟩
theorem XX (l:Nat)(s:ByteArray){Q:X->St->Prop}(h:∀st,gi st.oh (yP s [] 0 np np [(7,rP s 0)])->de (yP s [] 0 np np [(7,rP s 0)]) st.env (SQ l)->Q .normal st) :
  cK Tryz.prog (iE Tryz.prog) (aM [false] (Option.getD Tryz.f66.body .skip)) ⟨Tryz.f66.ntmps,dq 0 [yl l,.ref 6 0 0 0],yP s [] 0 np np []⟩ Q:=by
 dsimp only [aM,Option.getD,Tryz.f66];unfold yl yP p0 vb TW np
 repeat'(first|(with_reducible first|(refine zz ?_;try intro K hK)|refine zi ?_|refine zh ?_)|((first|apply hK _ _ rfl|apply hK);clear hK K)|(guard_hyp hK;first|refine zx ?_|apply ab|apply aa|refine zW ?_|intro b0 hb)|((first|refine zj ?_|guard_hyp hK);refine zY ?_ ?_;all_goals(intro hb;(try simp only [sn,sb] at hb);try exact ao)))
 exact h _ ⟨rfl,rfl,rfl,rfl,rfl,rfl,trivial⟩ ⟨rfl,trivial,rfl,rfl,trivial⟩
theorem XW (l:Nat)(s:ByteArray)(L:List Tok)(v a:Nat)(hs:s.size<=1073741824)(ha:a<=s.size)(hc:(jf s a).code=0){Q:X->St->Prop}
  (h:∀st,gi st.oh (yP s L v np np (gR s (rA s a) ⟨(jf s a).kind,(jf s a).text,(aj s (eG s a).1).1,(aj s (eG s a).1).2⟩ []))->de (yP s L v np np (gR s (rA s a) ⟨(jf s a).kind,(jf s a).text,(aj s (eG s a).1).1,(aj s (eG s a).1).2⟩ [])) st.env (VV l (.af .nilIface))->Q .normal st) :
  cK Tryz.prog (iE Tryz.prog) (aM [true,true,true,true,false] (Option.getD Tryz.f66.body .skip)) ⟨Tryz.f66.ntmps,SQ l,yP s L v np np [(7,rP s a)]⟩ Q:=by
 have hn:=FH s a hs ha;unfold Cv at hn;rw [show FG (jf s a) (aj s (eG s a).1).1 (aj s (eG s a).1).2=.ba [IJ (jf s a).kind (jf s a).text (aj s (eG s a).1).1 (aj s (eG s a).1).2,.af .nilIface] from if_pos hc] at hn;dsimp only [aM,Option.getD,Tryz.f66];unfold SQ yP yl p0 vb TW np rP
 repeat'(first|(with_reducible first|(refine zz ?_;try intro K hK)|refine zi ?_|refine zh ?_)|((first|apply hK _ _ rfl|apply hK);clear hK K)|(guard_hyp hK;first|refine zx ?_|apply ab|apply aa|refine zW ?_|refine zg ([(0,7,0)]) (hn) ([(7,⟨4,[Ab s a (aj s a).1 (aj s a).2],0,true⟩)]) ([]) ([(7,⟨4,[Ab s (rA s a) (aj s (rA s a)).1 (aj s (rA s a)).2],0,true⟩)]) (.ba [IJ (jf s a).kind (jf s a).text (aj s (eG s a).1).1 (aj s (eG s a).1).2,.af .nilIface]) ?_|intro b0 hb)|((first|refine zj ?_|guard_hyp hK);refine zY ?_ ?_;all_goals(intro hb;(try simp only [sn,sb] at hb);try exact ao)))
 exact h _ ⟨rfl,rfl,rfl,rfl,rfl,rfl,rfl,trivial⟩ ⟨rfl,trivial,rfl,rfl,rfl,rfl,rfl,trivial,trivial⟩
theorem WA (l:Nat)(s:ByteArray)(L:List Tok)(v a:Nat)(hs:s.size<=1073741824)(ha:a<=s.size)(hc:¬(jf s a).code=0){Q:X->St->Prop}
  (h:∀st,gi st.oh (yP s L v np np (gR s (rA s a) ⟨0,eS,0,0⟩ []))->de (yP s L v np np (gR s (rA s a) ⟨0,eS,0,0⟩ [])) st.env (VV l (xd ⟨(jf s a).code,(aj s (eG s a).1).1,(aj s (eG s a).1).2,(jf s a).word⟩))->Q .normal st) :
  cK Tryz.prog (iE Tryz.prog) (aM [true,true,true,true,false] (Option.getD Tryz.f66.body .skip)) ⟨Tryz.f66.ntmps,SQ l,yP s L v np np [(7,rP s a)]⟩ Q:=by
 have hn:=FH s a hs ha;unfold Cv at hn;rw [show FG (jf s a) (aj s (eG s a).1).1 (aj s (eG s a).1).2=my ⟨(jf s a).code,(aj s (eG s a).1).1,(aj s (eG s a).1).2,(jf s a).word⟩ from if_neg hc] at hn;dsimp only [aM,Option.getD,Tryz.f66];unfold SQ yP yl p0 vb TW np rP
 repeat'(first|(with_reducible first|(refine zz ?_;try intro K hK)|refine zi ?_|refine zh ?_)|((first|apply hK _ _ rfl|apply hK);clear hK K)|(guard_hyp hK;first|refine zx ?_|apply ab|apply aa|refine zW ?_|refine zg ([(0,7,0)]) (hn) ([(7,⟨4,[Ab s a (aj s a).1 (aj s a).2],0,true⟩)]) ([]) ([(7,⟨4,[Ab s (rA s a) (aj s (rA s a)).1 (aj s (rA s a)).2],0,true⟩)]) (my ⟨(jf s a).code,(aj s (eG s a).1).1,(aj s (eG s a).1).2,(jf s a).word⟩) ?_|intro b0 hb)|((first|refine zj ?_|guard_hyp hK);refine zY ?_ ?_;all_goals(intro hb;(try simp only [sn,sb] at hb);try exact ao)))
 exact h _ ⟨rfl,rfl,rfl,rfl,rfl,rfl,rfl,trivial⟩ ⟨rfl,trivial,rfl,rfl,rfl,rfl,rfl,trivial,trivial⟩
theorem Xw (l:Nat)(s:ByteArray)(L:List Tok)(v a:Nat)(t:Tok)(E:V)(hE:E=.af .nilIface\/∃f,E=xd f)(K:St->Prop)
  (hK:∀st,(gi st.oh (yP s L v np np (gR s a t []))/\de (yP s L v np np (gR s a t [])) st.env (Mc l t E))->K st) :
  Cw Tryz.prog (iE Tryz.prog) (opsOf (aM [true,true,true,true,true,false] (Option.getD Tryz.f66.body .skip))) 0 (((opsOf (aM [true,true,true,true,true,false] (Option.getD Tryz.f66.body .skip))).toList.drop 0).take 3) Tryz.f66.ntmps (VV l E) (yP s L v np np (gR s a t [])) K:=by
 dsimp only [aM,opsOf,Option.getD,Tryz.f66];rcases hE with rfl|⟨f,rfl⟩
 ·repeat'(first|(with_reducible first|(refine zz ?_;try intro K hK)|refine zi ?_|refine zh ?_)|((first|apply hK _ _ rfl|apply hK);clear hK K)|(guard_hyp hK;first|refine zx ?_|apply ab|apply aa|refine zW ?_|intro b0 hb)|((first|refine zj ?_|guard_hyp hK);refine zY ?_ ?_;all_goals(intro hb;(try simp only [sn,sb] at hb);try exact ao)))
  exact⟨⟨rfl,rfl,rfl,rfl,rfl,rfl,rfl,trivial⟩,rfl,trivial,rfl,jS t _,rfl,trivial,rfl,trivial,rfl,rfl,rfl,rfl,rfl,trivial,trivial⟩
 ·repeat'(first|(with_reducible first|(refine zz ?_;try intro K hK)|refine zi ?_|refine zh ?_)|((first|apply hK _ _ rfl|apply hK);clear hK K)|(guard_hyp hK;first|refine zx ?_|apply ab|apply aa|refine zW ?_|intro b0 hb)|((first|refine zj ?_|guard_hyp hK);refine zY ?_ ?_;all_goals(intro hb;(try simp only [sn,sb] at hb);try exact ao)))
  exact⟨⟨rfl,rfl,rfl,rfl,rfl,rfl,rfl,trivial⟩,rfl,trivial,rfl,jS t _,rfl,trivial,rfl,trivial,rfl,rfl,rfl,rfl,rfl,trivial,trivial⟩
theorem XV (l:Nat)(s:ByteArray)(L:List Tok)(v a:Nat)(t:Tok)(K:St->Prop)
  (hK:∀st,(gi st.oh (yP s L v np np [(7,rP s a)])/\de (yP s L v np np [(7,rP s a)]) st.env [(0,yl l),(3,.ref 7 0 0 0),(25,.af (.bool (decide (t.kind=0))))])->K st) :
  Cw Tryz.prog (iE Tryz.prog) (opsOf (aM [true,true,true,true,true,false] (Option.getD Tryz.f66.body .skip))) 4 (((opsOf (aM [true,true,true,true,true,false] (Option.getD Tryz.f66.body .skip))).toList.drop 4).take 10) Tryz.f66.ntmps ((15,.af (.bool true)) :: Mc l t (.af .nilIface)) (yP s L v np np (gR s a t [])) K:=by
 dsimp only [aM,opsOf,Option.getD,Tryz.f66]
 repeat'(first|(with_reducible first|(refine zz ?_;try intro K hK)|refine zi ?_|refine zh ?_)|((first|apply hK _ _ rfl|apply hK);clear hK K)|(guard_hyp hK;first|refine zx ?_|apply ab|apply aa|refine zW ?_|intro b0 hb)|((first|refine zj ?_|guard_hyp hK);refine zY ?_ ?_;all_goals(intro hb;(try simp only [sn,sb] at hb);try exact ao)))
 exact⟨⟨rfl,rfl,rfl,rfl,rfl,rfl,trivial⟩,rfl,trivial,rfl,rfl,rfl,trivial,trivial⟩
theorem Wz (l:Nat)(s:ByteArray)(L:List Tok)(v a:Nat)(t:Tok)(f:dy)(lt r0:V)(K:St->Prop)
  (hK:∀st,(gi st.oh (yP s L v lt r0 [])/\de (yP s L v lt r0 []) st.env [(25,.af (.bool true))])->K st) :
  Cw Tryz.prog (iE Tryz.prog) (opsOf (aM [true,true,true,true,true,false] (Option.getD Tryz.f66.body .skip))) 4 (((opsOf (aM [true,true,true,true,true,false] (Option.getD Tryz.f66.body .skip))).toList.drop 4).take 10) Tryz.f66.ntmps ((15,.af (.bool false)) :: Mc l t (xd f)) (yP s L v lt r0 (gR s a t [])) K:=by
 dsimp only [aM,opsOf,Option.getD,Tryz.f66]
 repeat'(first|(with_reducible first|(refine zz ?_;try intro K hK)|refine zi ?_|refine zh ?_)|((first|apply hK _ _ rfl|apply hK);clear hK K)|(guard_hyp hK;first|refine zx ?_|apply ab|apply aa|refine zW ?_|intro b0 hb)|((first|refine zj ?_|guard_hyp hK);refine zY ?_ ?_;all_goals(intro hb;(try simp only [sn,sb] at hb);try exact ao)))
 exact⟨⟨rfl,rfl,rfl,rfl,rfl,trivial⟩,rfl,trivial,trivial⟩
theorem Xt (s:ByteArray)(L:List Tok)(v a:Nat)(t:Tok)(E:V)(hE:∀oh,E.cl oh){Q:X->St->Prop}
  (h:∀st,gi st.oh (yP s L v np np (gR s a t [(9,sf t)]))->de (yP s L v np np (gR s a t [(9,sf t)])) st.env [(2,.ref 0 0 0 0),(3,.ref 2 0 0 0),(4,.ref 9 0 0 0),(12,E)]->Q .normal st) :
  cK Tryz.prog (iE Tryz.prog) (aM [true,true,false,true,false,false,false] (Option.getD Tryz.f26.body .skip)) ⟨Tryz.f26.ntmps,(12,E) :: (11,ly t) :: BP 66,yP s L v np np (gR s a t [])⟩ Q:=by
 dsimp only [aM,Option.getD,Tryz.f26]
 repeat'(first|(with_reducible first|(refine zz ?_;try intro K hK)|refine zi ?_|refine zh ?_)|((first|apply hK _ _ rfl|apply hK);clear hK K)|(guard_hyp hK;first|refine zx ?_|apply ab|apply aa|refine zW ?_|intro b0 hb)|((first|refine zj ?_|guard_hyp hK);refine zY ?_ ?_;all_goals(intro hb;(try simp only [sn,sb] at hb);try exact ao)))
 exact h _ ⟨rfl,rfl,rfl,rfl,rfl,rfl,rfl,rfl,trivial⟩ ⟨rfl,rfl,rfl,rfl,rfl,rfl,rfl,hE _,trivial⟩
theorem Xs (s:ByteArray)(L:List Tok)(v a:Nat)(t:Tok)(E:V)(hE:E=.af .nilIface\/∃f,E=xd f){Q:X->St->Prop}
  (h:∀st,gi st.oh (yP s L v np np (gR s a t [(9,sf t)]))->de (yP s L v np np (gR s a t [(9,sf t)])) st.env (Gf E)->Q .normal st) :
  cK Tryz.prog (iE Tryz.prog) (aM [true,true,false,true,false,false,true] (Option.getD Tryz.f26.body .skip)) ⟨Tryz.f26.ntmps,[(2,.ref 0 0 0 0),(3,.ref 2 0 0 0),(4,.ref 9 0 0 0),(12,E)],yP s L v np np (gR s a t [(9,sf t)])⟩ Q:=by
 dsimp only [aM,Option.getD,Tryz.f26];rcases hE with rfl|⟨f,rfl⟩
 ·repeat'(first|(with_reducible first|(refine zz ?_;try intro K hK)|refine zi ?_|refine zh ?_)|((first|apply hK _ _ rfl|apply hK);clear hK K)|(guard_hyp hK;first|refine zx ?_|apply ab|apply aa|refine zW ?_|intro b0 hb)|((first|refine zj ?_|guard_hyp hK);refine zY ?_ ?_;all_goals(intro hb;(try simp only [sn,sb] at hb);try exact ao)))
  exact h _ ⟨rfl,rfl,rfl,rfl,rfl,rfl,rfl,rfl,trivial⟩ ⟨rfl,rfl,rfl,rfl,rfl,rfl,rfl,trivial,trivial⟩
 ·repeat'(first|(with_reducible first|(refine zz ?_;try intro K hK)|refine zi ?_|refine zh ?_)|((first|apply hK _ _ rfl|apply hK);clear hK K)|(guard_hyp hK;first|refine zx ?_|apply ab|apply aa|refine zW ?_|intro b0 hb)|((first|refine zj ?_|guard_hyp hK);refine zY ?_ ?_;all_goals(intro hb;(try simp only [sn,sb] at hb);try exact ao)))
  exact h _ ⟨rfl,rfl,rfl,rfl,rfl,rfl,rfl,rfl,trivial⟩ ⟨rfl,rfl,rfl,rfl,rfl,rfl,rfl,trivial,trivial⟩
theorem XT (s:ByteArray)(L:List Tok)(v a:Nat)(t:Tok){Q:X->St->Prop}
  (h:∀st,gi st.oh (yP s L v np np (gR s a t [(9,sf t)]))->de (yP s L v np np (gR s a t [(9,sf t)])) st.env ((14,.af (.bool false)) :: Gf (.af .nilIface))->Q .normal st) :
  cK Tryz.prog (iE Tryz.prog) (aM [true,true,false,true,false,true,false,false,false] (Option.getD Tryz.f26.body .skip)) ⟨Tryz.f26.ntmps,Gf (.af .nilIface),yP s L v np np (gR s a t [(9,sf t)])⟩ Q:=by
 dsimp only [aM,Option.getD,Tryz.f26]
 repeat'(first|(with_reducible first|(refine zz ?_;try intro K hK)|refine zi ?_|refine zh ?_)|((first|apply hK _ _ rfl|apply hK);clear hK K)|(guard_hyp hK;first|refine zx ?_|apply ab|apply aa|refine zW ?_|intro b0 hb)|((first|refine zj ?_|guard_hyp hK);refine zY ?_ ?_;all_goals(intro hb;(try simp only [sn,sb] at hb);try exact ao)))
 exact h _ ⟨rfl,rfl,rfl,rfl,rfl,rfl,rfl,rfl,trivial⟩ ⟨rfl,trivial,rfl,rfl,rfl,rfl,rfl,rfl,rfl,trivial,trivial⟩
theorem Wk (s:ByteArray)(L:List Tok)(v a:Nat)(t:Tok)(f:dy){Q:X->St->Prop}
  (h:∀st,gi st.oh (yP s L v np np (gR s a t [(9,sf t)]))->de (yP s L v np np (gR s a t [(9,sf t)])) st.env ((14,.af (.bool true)) :: Gf (xd f))->Q .normal st) :
  cK Tryz.prog (iE Tryz.prog) (aM [true,true,false,true,false,true,false,false,false] (Option.getD Tryz.f26.body .skip)) ⟨Tryz.f26.ntmps,Gf (xd f),yP s L v np np (gR s a t [(9,sf t)])⟩ Q:=by
 dsimp only [aM,Option.getD,Tryz.f26]
 repeat'(first|(with_reducible first|(refine zz ?_;try intro K hK)|refine zi ?_|refine zh ?_)|((first|apply hK _ _ rfl|apply hK);clear hK K)|(guard_hyp hK;first|refine zx ?_|apply ab|apply aa|refine zW ?_|intro b0 hb)|((first|refine zj ?_|guard_hyp hK);refine zY ?_ ?_;all_goals(intro hb;(try simp only [sn,sb] at hb);try exact ao)))
 exact h _ ⟨rfl,rfl,rfl,rfl,rfl,rfl,rfl,rfl,trivial⟩ ⟨rfl,trivial,rfl,rfl,rfl,rfl,rfl,rfl,rfl,trivial,trivial⟩
theorem Wm (s:ByteArray)(L:List Tok)(v a:Nat)(t:Tok)(hL:L.length<=1073741824){Q:X->St->Prop}
  (h:∀st,gi st.oh (yP s (L ++ [t]) (v+1) np np (gR s a t []))->Q .normal st) :
  cK Tryz.prog (iE Tryz.prog) (aM [true,true,false,true,false,true,false,true] (Option.getD Tryz.f26.body .skip)) ⟨Tryz.f26.ntmps,(14,.af (.bool false)) :: Gf (.af .nilIface),yP s L v np np (gR s a t [(9,sf t)])⟩ Q:=by
 dsimp only [aM,Option.getD,Tryz.f26];unfold yP gR Gf p0 vb sf np
 repeat'(first|(with_reducible first|(refine zz ?_;try intro K hK)|refine zi ?_|refine zh ?_)|((first|apply hK _ _ rfl|apply hK);clear hK K)|(guard_hyp hK;first|refine zx ?_|apply ab|apply aa|refine zW ?_|intro b0 hb)|((first|refine zj ?_|guard_hyp hK);refine zY ?_ ?_;all_goals(intro hb;(try simp only [sn,sb] at hb);try exact ao)))
 refine h _ ⟨rfl,?_,rfl,?_,rfl,rfl,rfl,trivial⟩
 ·rw [List.length_append];exact rfl
 ·show some (⟨4,_,v+1,true⟩:Obj)=some ⟨4,_,v+1,true⟩;refine B4 some (B4 (fun l=>(⟨4,l,v+1,true⟩:Obj)) ?_);rw [G7];show List.take L.length (L.map ly) ++ _=_;rw [B7 (by rw [List.length_map];omega)];rfl
theorem XS (s:ByteArray)(L:List Tok)(v a:Nat)(t:Tok)(f:dy){Q:X->St->Prop}
  (h:∀st,gi st.oh (yP s L v np np (gR s a t [(9,sf t),(10,vb np)]))->de (yP s L v np np (gR s a t [(9,sf t),(10,vb np)])) st.env ((6,.ref 10 0 0 0) :: Gf (xd f))->Q .normal st) :
  cK Tryz.prog (iE Tryz.prog) (aM [true,true,false,true,false,true,false,false,true,false,false] (Option.getD Tryz.f26.body .skip)) ⟨Tryz.f26.ntmps,(14,.af (.bool true)) :: Gf (xd f),yP s L v np np (gR s a t [(9,sf t)])⟩ Q:=by
 dsimp only [aM,Option.getD,Tryz.f26]
 repeat'(first|(with_reducible first|(refine zz ?_;try intro K hK)|refine zi ?_|refine zh ?_)|((first|apply hK _ _ rfl|apply hK);clear hK K)|(guard_hyp hK;first|refine zx ?_|apply ab|apply aa|refine zW ?_|intro b0 hb)|((first|refine zj ?_|guard_hyp hK);refine zY ?_ ?_;all_goals(intro hb;(try simp only [sn,sb] at hb);try exact ao)))
 exact h _ ⟨rfl,rfl,rfl,rfl,rfl,rfl,rfl,rfl,rfl,trivial⟩ ⟨rfl,rfl,rfl,rfl,rfl,rfl,rfl,rfl,rfl,trivial,trivial⟩
theorem XR (s:ByteArray)(L:List Tok)(v a:Nat)(t:Tok)(f:dy){Q:X->St->Prop}
  (h:∀st,gi st.oh (yP s L v np np (gR s a t [(9,sf t),(10,vb (oM (some f)))]))->de (yP s L v np np (gR s a t [(9,sf t),(10,vb (oM (some f)))])) st.env ((17,.af (.bool true)) :: (6,.ref 10 0 0 0) :: Gf (xd f))->Q .normal st) :
  cK Tryz.prog (iE Tryz.prog) (aM [true,true,false,true,false,true,false,false,true,false,true,false,false,false] (Option.getD Tryz.f26.body .skip)) ⟨Tryz.f26.ntmps,(6,.ref 10 0 0 0) :: Gf (xd f),yP s L v np np (gR s a t [(9,sf t),(10,vb np)])⟩ Q:=by
 have hA:=QY f;dsimp only [aM,Option.getD,Tryz.f26];unfold yP gR Gf p0 vb sf np xd
 repeat'(first|(with_reducible first|(refine zz ?_;try intro K hK)|refine zi ?_|refine zh ?_)|((first|apply hK _ _ rfl|apply hK);clear hK K)|(guard_hyp hK;first|refine zx ?_|apply ab|apply aa|refine zW ?_|(refine Or.inr (Or.inr (Or.inl (Gz true 10 (hA) ?hga ?hgb ?_)));(case hga=>rfl);(case hgb=>rfl))|intro b0 hb)|((first|refine zj ?_|guard_hyp hK);refine zY ?_ ?_;all_goals(intro hb;(try simp only [sn,sb] at hb);try exact ao)))
 exact h _ ⟨rfl,rfl,rfl,rfl,rfl,rfl,rfl,rfl,rfl,trivial⟩ ⟨rfl,trivial,rfl,rfl,rfl,rfl,rfl,rfl,rfl,rfl,rfl,trivial,trivial⟩
theorem XQ (s:ByteArray)(L:List Tok)(v a:Nat)(t:Tok)(f:dy){Q:X->St->Prop}
  (h:∀st,gi st.oh (yP s L v (oM (some f)) np (gR s a t []))->de (yP s L v (oM (some f)) np (gR s a t [])) st.env [(2,.ref 0 0 0 0),(3,.ref 2 0 0 0)]->Q .normal st) :
  cK Tryz.prog (iE Tryz.prog) (aM [true,true,false,true,false,true,false,false,true,false,true,false,true,false] (Option.getD Tryz.f26.body .skip)) ⟨Tryz.f26.ntmps,(17,.af (.bool true)) :: (6,.ref 10 0 0 0) :: Gf (xd f),yP s L v np np (gR s a t [(9,sf t),(10,vb (oM (some f)))])⟩ Q:=by
 dsimp only [aM,Option.getD,Tryz.f26];unfold yP gR Gf p0 vb sf np oM
 repeat'(first|(with_reducible first|(refine zz ?_;try intro K hK)|refine zi ?_|refine zh ?_)|((first|apply hK _ _ rfl|apply hK);clear hK K)|(guard_hyp hK;first|refine zx ?_|apply ab|apply aa|refine zW ?_|intro b0 hb)|((first|refine zj ?_|guard_hyp hK);refine zY ?_ ?_;all_goals(intro hb;(try simp only [sn,sb] at hb);try exact ao)))
 exact h _ ⟨rfl,rfl,rfl,rfl,rfl,rfl,rfl,trivial⟩ ⟨rfl,rfl,rfl,rfl,trivial⟩
theorem XP (s:ByteArray)(L:List Tok)(v a:Nat)(t:Tok)(f:dy){Q:X->St->Prop}
  (h:∀st,gi st.oh (yP s L v (oM (some f)) (.ref 1 0 0 0) (gR s a t []))->de (yP s L v (oM (some f)) (.ref 1 0 0 0) (gR s a t [])) st.env [(2,.ref 0 0 0 0)]->Q .normal st) :
  cK Tryz.prog (iE Tryz.prog) (aM [true,true,false,true,false,true,false,false,true,false,true,true,false] (Option.getD Tryz.f26.body .skip)) ⟨Tryz.f26.ntmps,[(2,.ref 0 0 0 0),(3,.ref 2 0 0 0)],yP s L v (oM (some f)) np (gR s a t [])⟩ Q:=by
 dsimp only [aM,Option.getD,Tryz.f26];unfold yP gR p0 vb sf np oM
 repeat'(first|(with_reducible first|(refine zz ?_;try intro K hK)|refine zi ?_|refine zh ?_)|((first|apply hK _ _ rfl|apply hK);clear hK K)|(guard_hyp hK;first|refine zx ?_|apply ab|apply aa|refine zW ?_|intro b0 hb)|((first|refine zj ?_|guard_hyp hK);refine zY ?_ ?_;all_goals(intro hb;(try simp only [sn,sb] at hb);try exact ao)))
 exact h _ ⟨rfl,rfl,rfl,rfl,rfl,rfl,rfl,trivial⟩ ⟨rfl,rfl,trivial⟩
theorem Wl (s:ByteArray)(L:List Tok)(v:Nat){Q:X->St->Prop}
  (h:∀st,gi st.oh (yP s L v np (.ref 1 0 0 0) [])->de (yP s L v np (.ref 1 0 0 0) []) st.env [(2,.ref 0 0 0 0)]->Q .normal st) :
  cK Tryz.prog (iE Tryz.prog) (aM [true,true,true,false] (Option.getD Tryz.f26.body .skip)) ⟨Tryz.f26.ntmps,BP 66,yP s L v np np []⟩ Q:=by
 dsimp only [aM,Option.getD,Tryz.f26];unfold yP BP p0 vb np
 repeat'(first|(with_reducible first|(refine zz ?_;try intro K hK)|refine zi ?_|refine zh ?_)|((first|apply hK _ _ rfl|apply hK);clear hK K)|(guard_hyp hK;first|refine zx ?_|apply ab|apply aa|refine zW ?_|intro b0 hb)|((first|refine zj ?_|guard_hyp hK);refine zY ?_ ?_;all_goals(intro hb;(try simp only [sn,sb] at hb);try exact ao)))
 exact h _ ⟨rfl,rfl,rfl,rfl,rfl,trivial⟩ ⟨rfl,rfl,trivial⟩
end Go.Ev
