import Derived.Test.YtppbdmkbhalmpaaGreatDoorEvP
import Derived.RangeFuncLeaves
import Derived.RangeFuncRecord
import Derived.Test.YtppbdmkbhalmpaaGreatDoorLay
import Derived.Test.YtppbdmkbhalmpaaGreatDoorLan
set_option linter.all false
set_option maxHeartbeats 4000000
set_option maxRecDepth 10000
namespace Go.Ev
def Odd (o:Go.Obj):Prop:=(∀c t f,o≠.cells c t f)∧∀e k,o≠.map e k
theorem odd_loop (r:Go.Loop):Odd (.loop r):=⟨fun _ _ _ h=>Go.Obj.noConfusion h,fun _ _ h=>Go.Obj.noConfusion h⟩
theorem odd_def (d:Option (List Deferred)):Odd (.deferred d):=⟨fun _ _ _ h=>Go.Obj.noConfusion h,fun _ _ h=>Go.Obj.noConfusion h⟩
theorem putO_keep {w:World}{l b:Nat}{o o2 x:Go.Obj}(hl:w.heap[l]?=some o)(hb:w.heap[b]?=some o2)(hn:o≠o2):(w.putObj l x).heap[b]?=some o2:=by
 have:b≠l:=fun e=>by subst e;rw [hl] at hb;exact hn (Option.some.inj hb)
 rw [World.putObj_heap_other this];exact hb
theorem HR.putO {g:Gh}{oh:OH}{w:World}{l:Nat}{o x:Go.Obj}(h:HR g oh w)(hl:w.heap[l]?=some o)(ho:Odd o):HR g oh (w.putObj l x):=by
 refine⟨⟨fun b i c hc=>?_,h.hF,fun i ob hi hv=>?_,h.inj,h.mp.of fun b ⟨i,ob,hi,hm,hb⟩=>?_⟩,h.gl⟩
 ·have h1:=h.hG b i c hc
  have hbl:b≠l:=fun e=>by
   subst e
   simp only [World.cell?,hl] at h1
   cases o with
   |cells c t f=>exact ho.1 _ _ _ rfl
   |_=>simp at h1
  simp only [World.cell?,World.putObj_heap_other hbl] at h1 ⊢
  exact h1
 ·obtain⟨h1,h2⟩:=h.obj i ob hi hv
  refine⟨h1,fun b hb=>?_⟩
  obtain⟨arr,ty,q1,q2,q3⟩:=h2 b hb
  exact⟨arr,ty,putO_keep hl q1 (ho.1 _ _ _),q2,q3⟩
 ·obtain⟨b2,es,clock,q1,q2,-⟩:=h.mp.at_ i ob hi hm
  rw [hb] at q1
  obtain rfl:b=b2:=by simpa using q1
  rw [putO_keep hl q2 (ho.2 _ _),q2]
theorem Fr.putO {g0 g:Gh}{oh0 oh:OH}{w0 w:World}{l:Nat}{o x:Go.Obj}(h:Fr g0 oh0 w0 g oh w)(hl:w.heap[l]?=some o)(ho:Odd o)(h0:w0.heap.size≤l):Fr g0 oh0 w0 g oh (w.putObj l x):=by
 refine⟨h.os,h.tape,h.output,by rw [World.putObj_size];exact h.size,fun b hb h1 h2=>?_,h.own,h.G,h.F,h.nG,h.nF,fun b arr ty fz hb=>?_,h.mown⟩
 ·rw [World.putObj_heap_other (by omega)];exact h.keep b hb h1 h2
 ·obtain⟨arr',q1,q2⟩:=h.blk b arr ty fz hb
  exact⟨arr',putO_keep hl q1 (ho.1 _ _ _),q2⟩
theorem Fr.keepO {g g':Gh}{oh oh':OH}{w w':World}{l:Nat}{o:Go.Obj}(h:Fr g oh w g' oh' w')(hr:HR g oh w)(hl:w.heap[l]?=some o)(ho:Odd o):w'.heap[l]?=some o:=by
 rw [h.keep l (Array.getElem?_eq_some_iff.1 hl).1 (fun⟨i,ob,hi,hv,hm⟩=>?_) (fun⟨i,ob,hi,hm,hb⟩=>?_)]
 ·exact hl
 ·obtain⟨_,q⟩:=hr.obj i ob hi hv
  obtain⟨arr,ty,hh,_⟩:=q l hm
  rw [hl] at hh
  exact ho.1 _ _ _ (Option.some.inj hh)
 ·obtain⟨b2,es,clock,q1,q2,-⟩:=hr.mp.at_ i ob hi hm
  rw [hb] at q1
  obtain rfl:l=b2:=by simpa using q1
  rw [hl] at q2
  exact ho.2 _ _ (Option.some.inj q2)
theorem Rel.mv {γ:Gm}{g g':Gh}{n:Nat}{e:Env}{oh oh':OH}{a:Act}{w w':World}(h:Rel γ g ⟨n,e,oh⟩ a w)(hm:Mono g oh g' oh')(hr:HR g' oh' w'):Rel γ g' ⟨n,e,oh'⟩ a w':=⟨hr,h.df,h.sz,fun t=>hm.rdV (h.env t),h.par⟩
structure Rst where
 γ:Gm
 n:Nat
 e:Env
 a:Act
structure Pk (E:List Rst)(l D:Nat)(r:Go.Loop)(g0:Gh)(w0:World)(g:Gh)(oh:OH)(w:World):Prop where
 rel:∀p ∈ E,Rel p.γ g ⟨p.n,p.e,oh⟩ p.a w
 hl:w.heap[l]?=some (.loop r)
 hd:w.heap[D]?=some (.deferred (some []))
 fr:Fr g0 [] w0 g oh w
 h0:w0.heap.size≤l
theorem Pk.put {E:List Rst}{l D:Nat}{r r':Go.Loop}{g0 g:Gh}{w0 w:World}{oh:OH}(h:Pk E l D r g0 w0 g oh w):Pk E l D r' g0 w0 g oh (w.putObj l (.loop r')):=
 ⟨fun p hp=>⟨(h.rel p hp).hr.putO h.hl (odd_loop r),(h.rel p hp).df,(h.rel p hp).sz,(h.rel p hp).env,(h.rel p hp).par⟩,World.putObj_heap_same (Array.getElem?_eq_some_iff.1 h.hl).1,putO_keep h.hl h.hd (fun e=>Go.Obj.noConfusion e),h.fr.putO h.hl (odd_loop r) h.h0,h.h0⟩
theorem Rel.putL {γ:Gm}{g:Gh}{s:St}{a:Act}{w:World}{l:Nat}{r:Go.Loop}{x:Go.Obj}(h:Rel γ g s a w)(hl:w.heap[l]?=some (.loop r)):Rel γ g s a (w.putObj l x):=⟨h.hr.putO hl (odd_loop r),h.df,h.sz,h.env,h.par⟩
variable {P : Program}
theorem Pk.on {E:List Rst}{l D:Nat}{r:Go.Loop}{g0 g g':Gh}{w0 w w':World}{oh oh' T:OH}(hp:Pk E l D r g0 w0 g oh w)(hr0:HR g oh w)(hr:HR g' oh' w')(hf:Fr g oh w g' oh' w')(hm:Mono g oh g' oh')(h1:leOH oh' T)(hT:clObjs T T)(hE:∀p ∈ E,leEnv T p.e p.e)
  (hf2:Fr g' oh' w' g' T w'):Pk E l D r g0 w0 g' T w':=
 ⟨fun p hq=>(((hp.rel p hq).mv hm hr).less (s1:=⟨p.n,p.e,T⟩) (s:=⟨p.n,p.e,oh'⟩) ⟨rfl,hE p hq,h1,hT⟩).1,hf.keepO hr0 hp.hl (odd_loop r),hf.keepO hr0 hp.hd (odd_def _),(hp.fr.trans hf).trans hf2,hp.h0⟩
theorem reg_pk {ro:Option Nat}{nf:Nat}{C:CT}(hC:∀q ts r,C q ts r→OkR P q ts r)(hmix:P.follows .mixedOrders=true){n:Nat}{df:List Deferred}{id:Nat}{ops:Array Oper}{b:Bool}{e e':Env}{oh T:OH}{K:Exit→Act→World→Prop}{E:List Rst}{l D:Nat}{r:Go.Loop}{g0:Gh}{w0:World}
  (hb:okB n (.region id ops b)=true) (h:∀Q:X→St→Prop,(∀st,leOH st.oh T→leEnv T st.env e'→Q .normal st)→evC P C (.region id ops b) ⟨n,e,oh⟩ Q) (hT:clObjs T T) (hE:∀p ∈ E,leEnv T p.e p.e)
  {g:Gh} {a:Act} {w:World} (hr:Rel ⟨fun _=>none,df⟩ g ⟨n,e,oh⟩ a w) (hp:Pk E l D r g0 w0 g oh w)
  (hk:∀g' a' w',Rel ⟨fun _=>none,df⟩ g' ⟨n,e',T⟩ a' w'→Pk E l D r g0 w0 g' T w'→K .normal a' w'):(Code.region id ops b).wpIn (FR ro) nf P K a w:=by
 refine wpIn_mono (reg_in hC hmix (np:=0) (fun _ _=>rfl) id ops b _ (fun _ st=>leOH st.oh T∧leEnv T st.env e') hb (parB_zero _) (h _ fun st h1 h2=>⟨h1,h2⟩) rfl g a w hr) fun x a' w' ⟨s',g',hx,⟨h1,h2⟩,hr',hf,hm,hn⟩=>?_
 subst hx
 obtain⟨hr2,hf2⟩:=hr'.less (s1:=⟨n,e',T⟩) ⟨hn.symm,h2,h1,hT⟩
 exact hk g' a' w' hr2 (hp.on hr.hr hr'.hr hf hm h1 hT hE hf2)
theorem ops_pk {ro:Option Nat}{nf:Nat}{C:CT}(hC:∀q ts r,C q ts r→OkR P q ts r){n:Nat}{df:List Deferred}{ops:Array Oper}{e e':Env}{oh T:OH}{K:Exit→Act→World→Prop}{E:List Rst}{l D:Nat}{r:Go.Loop}{g0:Gh}{w0:World}{rest:List Nat}(i m:Nat)
  (hb:dstB n ops.toList=true) (hm9:((ops.toList.drop i).take m).length=m) (h:∀K:St→Prop,(∀st,(leOH st.oh T∧leEnv T st.env e')→K st)→evR P C ops i ((ops.toList.drop i).take m) n e oh K) (hT:clObjs T T) (hE:∀p ∈ E,leEnv T p.e p.e)
  {g:Gh} {a:Act} {w:World} (hr:Rel ⟨fun _=>none,df⟩ g ⟨n,e,oh⟩ a w) (hp:Pk E l D r g0 w0 g oh w)
  (hk:∀g' a' w',Rel ⟨fun _=>none,df⟩ g' ⟨n,e',T⟩ a' w'→Pk E l D r g0 w0 g' T w'→wpOpsIn (FR ro) nf P ops K rest a' w'):wpOpsIn (FR ro) nf P ops K (List.range' i m ++ rest) a w:=by
 have:=evOps_pre (ro:=ro) (nf:=nf) (γ:=⟨fun _=>none,df⟩) (np:=0) (rest:=rest) (Q:=K) (g0:=g) (oh0:=oh) (w0:=w) (K:=fun st=>leOH st.oh T∧leEnv T st.env e') hC hb (fun _ _=>rfl) (parD_zero _) (fun s' g' a' w' hq hr' hf hn=>by
  obtain⟨h1,h2⟩:=hq
  obtain⟨hr2,hf2⟩:=hr'.less (s1:=⟨n,e',T⟩) ⟨hn.symm,h2,h1,hT⟩
  exact hk g' a' w' hr2 (hp.on hr.hr hr'.hr hf.1 hf.2 h1 hT hE hf2)) ((ops.toList.drop i).take m) i _ ⟨_,(List.take_append_drop m _).symm⟩ (by rw [← evR_eq];exact h _ fun st h1=>h1) g a w hr ⟨Fr.refl _ _ _,Mono.refl _ _⟩ rfl
 rw [hm9] at this
 exact this
theorem yld_op {ro:Option Nat}{nf:Nat}{ops:Array Oper}{i td tf ta tb l:Nat}{rest:List Nat}{o:Oper}{aty:Array TypeId}{r:Go.Loop}{Q:Exit→Act→World→Prop}{a:Act}{w:World}(ho:ops[i]?=some o)(hg:o.guard=none)(hop:o.op=.call { callee:=.value (.tmp tf),args:=#[.tmp ta,.tmp tb],argTypes:=aty })(hd:o.dst=some td)
  (hl:w.heap[l]?=some (.loop r)) (hy:a.eval (.tmp tf)=.func (.yield l) #[] #[]) {p1 p2:Nat} (hp:r.params=#[p1,p2])
  (h:RoundIn (FR ro) (nf - 1) P l r.fn ((r.tmps.setIfInBounds p1 (a.eval (.tmp ta))).setIfInBounds p2 (a.eval (.tmp tb))) r.assign r.body w fun e w'=>∃v,e=.returned v∧wpOpsIn (FR ro) nf P ops Q rest (a.put (some td) v) w'):wpOpsIn (FR ro) nf P ops Q (i :: rest) a w:=by
 simp only [wpOpsIn,ho]
 rw [if_pos (by simp [Region.wanted,hg])]
 refine⟨fun _ _=>trivial,?_⟩
 rw [Oper.semAt_eq _ _ _ (fun c e=>by rw [hop] at e;cases e)]
 have e1:(execOp a.eval o).run P w=.ok (.round l r.fn ((r.tmps.setIfInBounds p1 (a.eval (.tmp ta))).setIfInBounds p2 (a.eval (.tmp tb))) r.assign r.body) w:=by
  simp only [execOp,hop,resolve,hy,Deferred.ofValue]
  simp only [Sem.run_bind,Sem.run_pure,Result.andThen,invoke]
  rw [show(#[] ++ Array.map a.eval #[Operand.tmp ta,Operand.tmp tb])=#[a.eval (.tmp ta),a.eval (.tmp tb)] by simp]
  have e3:=run_yield (P:=P) (args:=#[a.eval (.tmp ta),a.eval (.tmp tb)]) hl (by rw [hp];rfl)
  rw [e3,hp];simp
 rw [e1]
 refine⟨(fun h=>by cases h),h.mono ?_⟩
 rintro e w' ⟨v,rfl,hv⟩
 rw [hd];exact hv
theorem Rel.put1 {df:List Deferred}{g:Gh}{n d:Nat}{e:Env}{oh:OH}{a:Act}{w:World}{v:V}{x:Value}(h:Rel ⟨fun _=>none,df⟩ g ⟨n,e,oh⟩ a w)(hd:d < n)(hv:RdV g oh v x):Rel ⟨fun _=>none,df⟩ g ⟨n,(d,v) :: e,oh⟩ (a.put (some d) x) w:=by
 refine⟨h.hr,h.df,by simp [Act.put,h.sz],fun t=>?_,fun t v hv=>by cases hv⟩
 show RdV g oh (eget ((d,v) :: e) t) _
 simp only [Act.put,eget_cons]
 by_cases e9:d=t
 ·subst e9
  have hlt:d < a.tmps.size:=by rw [h.sz];exact hd
  rw [if_pos rfl,Array.getD_eq_getD_getElem?,Array.getElem?_setIfInBounds_self_of_lt hlt]
  exact hv
 ·rw [if_neg e9,Array.getD_eq_getD_getElem?,Array.getElem?_setIfInBounds_ne e9,← Array.getD_eq_getD_getElem?]
  exact h.env t
theorem Rel.par0 {γ:Gm}{g:Gh}{s:St}{a:Act}{w:World}(h:Rel γ g s a w):Rel ⟨fun _=>none,γ.df⟩ g s a w:=⟨h.hr,h.df,h.sz,h.env,fun t v hv=>by cases hv⟩
theorem loop_k {F:Fence}{n:Nat}{c:Code}{Q:Exit→Act→World→Prop}{a:Act}{w:World}(I:Nat→Act→World→Prop){k:Nat}(h0:I k a w)
  (round:∀k a w,I k a w→c.wpIn F n P (Exit.then (fun a' w'=>∃k',k' < k∧I k' a' w') Q) a w):(Code.loop c).wpIn F n P Q a w:=by
 classical
 have least:∀a w,(∃k,I k a w)→∃k,I k a w∧∀j,I j a w→k≤j:=by
  rintro a w ⟨k,hk⟩
  induction k using Nat.strongRecOn with
  |_ k ih=>
   by_cases h:∃j,j < k∧I j a w
   ·obtain⟨j,hj,hi⟩:=h;exact ih j hj hi
   ·exact⟨k,hk,fun j hj=>Nat.le_of_not_lt fun hl=>h ⟨j,hl,hj⟩⟩
 refine wpIn_loop (fun a w=>∃k,I k a w) (fun a w=>if h:∃k,I k a w then(least a w h).choose else 0) ⟨k,h0⟩ fun a w h=>?_
 have hk:=(least a w h).choose_spec
 refine wpIn_mono (round _ a w hk.1) fun x a' w' hq=>?_
 cases x with
 |normal=>
  obtain⟨k',hlt,hi⟩:=hq
  have h2:∃k,I k a' w':=⟨k',hi⟩
  refine⟨h2,?_⟩
  simp only [dif_pos h,dif_pos h2]
  exact Nat.lt_of_le_of_lt ((least a' w' h2).choose_spec.2 _ hi) hlt
 |_=>exact hq
open Go.Proofs
def subC : List Bool→Code→Code
 |false :: r,.seq a _=>subC r a
 |true :: r,.seq _ b=>subC r b
 |false :: r,.cond _ a _=>subC r a
 |true :: r,.cond _ _ b=>subC r b
 |_ :: r,.block _ c=>subC r c
 |_ :: r,.loop c=>subC r c
 |false :: r,.rangeFunc _ _ a _=>subC r a
 |true :: r,.rangeFunc _ _ _ b=>subC r b
 |_,c=>c
def opsOf : Code→Array Oper
 |.region _ o _=>o
 |_=>#[]
def p0 (v n:Nat)(b:V):Obj:=⟨5,[.agg [.own 5 v 0 n,b,.con (.int .i64 0),.con (.pointer none),.con (.int .i64 0)]],0,true⟩
def cel (v:V):Obj:=⟨1,[v],0,true⟩
def tkO (t:Tok):Obj:=⟨4,[vTok t],0,true⟩
def rdOb (s:ByteArray)(a:Nat):Obj:=⟨4,[lrV s a (placeF s a).1 (placeF s a).2],0,true⟩
def np : V:=.con (.pointer none)
def ohS (s:ByteArray)(L:List Tok)(v:Nat)(lt r0:V)(x:OH):OH:=
 (0,cel r0) :: (1,p0 v L.length lt) :: (2,cel (.ref 1 0 0 0)) :: (5,⟨4,L.map vTok,v,true⟩) :: (6,txO s) :: x
def ohX (s:ByteArray)(a:Nat)(t:Tok)(x:OH):OH:=(7,rdOb s a) :: (8,tkO t) :: x
def yl (l:Nat):V:=.con (.func (.yield l) #[] #[])
def evS (f:Nat):Env:=[(2,.ref 0 0 0 0),(3,.ref 2 0 0 0),(10,.wr (.fre f) 6 0 0 0)]
def evE (l:Nat):Env:=[(0,yl l),(3,.ref 7 0 0 0)]
def evW (l:Nat)(E:V):Env:=[(0,yl l),(3,.ref 7 0 0 0),(4,.ref 8 0 0 0),(5,E)]
def evY (l:Nat)(t:Tok)(E:V):Env:=(12,yl l) :: (13,vTok t) :: (14,E) :: evW l E
def evO (E:V):Env:=[(2,.ref 0 0 0 0),(3,.ref 2 0 0 0),(4,.ref 9 0 0 0),(5,E)]
theorem tk_cl (t:Tok)(oh:OH):(vTok t).cl oh:=V.flat.cl _ (tkV_flat t.kind t.text t.line t.col)
theorem cl_S {s:ByteArray}{L:List Tok}{v:Nat}{lt r0:V}{x:OH}(h1:lt.cl1 (ohS s L v lt r0 x))(h2:r0.cl (ohS s L v lt r0 x))(hx:clObjs (ohS s L v lt r0 x) x):clObjs (ohS s L v lt r0 x) (ohS s L v lt r0 x):=by
 refine⟨one_vs h2,one_vs fun u hu=>?_,one_vs rfl,fun u hu=>?_,one_vs trivial,hx⟩
 ·simp at hu
  rcases hu with rfl|rfl|rfl|rfl|rfl<;>first|exact h1|trivial|rfl
 ·obtain⟨t,-,rfl⟩:=List.mem_map.1 hu
  exact tk_cl t _
theorem cl_X {s:ByteArray}{a:Nat}{t:Tok}{oh x:OH}(h:clObjs oh x):clObjs oh (ohX s a t x):=⟨one_vs (V.flat.cl _ (lrV_flat _ _ _ _)),one_vs (tk_cl t _),h⟩
theorem so2 (s:ByteArray){Q:X→St→Prop}(h:∀st,leOH st.oh (ohS s [] 0 np np [])→leEnv (ohS s [] 0 np np []) st.env (evS 39)→Q .normal st) :
  evC Tryz.prog (OkR Tryz.prog) (subC [true,true,false,false] (Option.getD Tryz.f12.body .skip)) ⟨Tryz.f12.ntmps,[(0,.con (.string s)),(2,.ref 0 0 0 0),(3,.ref 2 0 0 0)],[(0,cel np),(1,p0 0 0 np),(2,cel (.ref 1 0 0 0)),(5,⟨4,[],0,true⟩)]⟩ Q:=by
 dsimp only [subC,Option.getD,Tryz.f12]
 unfold cel p0 np
 repeat'(first|(with_reducible first|(refine zz ?_;try intro K hK)|refine zI ?_|refine zt ?_|refine zf ?_)|((first|refine hK _ ?_|refine hK _ _ rfl ?_);clear hK K)|(guard_hyp hK;first|(refine zY ?zz ?_;case zz=>first|exact rfl|exact gJ)|refine fresh_n ?_|refine freshO_n ?_|refine zW ?_|(refine Or.inr (Exists.intro _ (Exists.intro _ (And.intro (Each_ok s) ?_))))|intro b0 hb)|((first|with_reducible refine zm ?_|guard_hyp hK);refine zY ?_ ?_;all_goals(intro hb;(try simp only [sn,sb] at hb);try exact ex0)))
 exact h _ ⟨rfl,rfl,rfl,rfl,rfl,trivial⟩ ⟨rfl,rfl,rfl,rfl,rfl,rfl,trivial⟩
theorem se0 (l:Nat)(s:ByteArray){Q:X→St→Prop}(h:∀st,leOH st.oh (ohS s [] 0 np np [(7,rdOb s 0)])→leEnv (ohS s [] 0 np np [(7,rdOb s 0)]) st.env (evE l)→Q .normal st) :
  evC Tryz.prog (OkR Tryz.prog) (subC [false] (Option.getD Tryz.f39.body .skip)) ⟨Tryz.f39.ntmps,argEnvV 0 [yl l,.ref 6 0 0 0],ohS s [] 0 np np []⟩ Q:=by
 dsimp only [subC,Option.getD,Tryz.f39]
 unfold yl ohS p0 cel txO np
 repeat'(first|(with_reducible first|(refine zz ?_;try intro K hK)|refine zI ?_|refine zt ?_|refine zf ?_)|((first|refine hK _ ?_|refine hK _ _ rfl ?_);clear hK K)|(guard_hyp hK;first|(refine zY ?zz ?_;case zz=>first|exact rfl|exact gJ)|refine fresh_n ?_|refine freshO_n ?_|refine zW ?_|intro b0 hb)|((first|with_reducible refine zm ?_|guard_hyp hK);refine zY ?_ ?_;all_goals(intro hb;(try simp only [sn,sb] at hb);try exact ex0)))
 exact h _ ⟨rfl,rfl,rfl,rfl,rfl,rfl,trivial⟩ ⟨rfl,trivial,rfl,rfl,trivial⟩
theorem se1 (l:Nat)(s:ByteArray)(L:List Tok)(v a:Nat)(hs:s.size≤1073741824)(ha:a≤s.size)(hc:(nxF s a).code=0){Q:X→St→Prop}
  (h:∀st,leOH st.oh (ohS s L v np np (ohX s (nxE s a) ⟨(nxF s a).kind,(nxF s a).text,(placeF s (blF s a).1).1,(placeF s (blF s a).1).2⟩ []))→leEnv (ohS s L v np np (ohX s (nxE s a) ⟨(nxF s a).kind,(nxF s a).text,(placeF s (blF s a).1).1,(placeF s (blF s a).1).2⟩ [])) st.env (evW l (.con .nilIface))→Q .normal st) :
  evC Tryz.prog (OkR Tryz.prog) (subC [true,true,true,true,false] (Option.getD Tryz.f39.body .skip)) ⟨Tryz.f39.ntmps,evE l,ohS s L v np np [(7,rdOb s a)]⟩ Q:=by
 have hn:=next_ok s a hs ha
 unfold lrP at hn
 rw [show nxV (nxF s a) (placeF s (blF s a).1).1 (placeF s (blF s a).1).2=.tup [tkV (nxF s a).kind (nxF s a).text (placeF s (blF s a).1).1 (placeF s (blF s a).1).2,.con .nilIface] from if_pos hc] at hn
 dsimp only [subC,Option.getD,Tryz.f39]
 unfold evE ohS yl p0 cel txO np rdOb
 repeat'(first|(with_reducible first|(refine zz ?_;try intro K hK)|refine zI ?_|refine zt ?_|refine zf ?_)|((first|refine hK _ ?_|refine hK _ _ rfl ?_);clear hK K)|(guard_hyp hK;first|(refine zY ?zz ?_;case zz=>first|exact rfl|exact gJ)|refine fresh_n ?_|refine freshO_n ?_|refine zW ?_|refine zg ([(0,7,0)]) (hn) ([(7,⟨4,[lrV s a (placeF s a).1 (placeF s a).2],0,true⟩)]) ([]) ([(7,⟨4,[lrV s (nxE s a) (placeF s (nxE s a)).1 (placeF s (nxE s a)).2],0,true⟩)]) (.tup [tkV (nxF s a).kind (nxF s a).text (placeF s (blF s a).1).1 (placeF s (blF s a).1).2,.con .nilIface]) ?_|intro b0 hb)|((first|with_reducible refine zm ?_|guard_hyp hK);refine zY ?_ ?_;all_goals(intro hb;(try simp only [sn,sb] at hb);try exact ex0)))
 exact h _ ⟨rfl,rfl,rfl,rfl,rfl,rfl,rfl,trivial⟩ ⟨rfl,trivial,rfl,rfl,rfl,rfl,rfl,trivial,trivial⟩
theorem se1b (l:Nat)(s:ByteArray)(L:List Tok)(v a:Nat)(hs:s.size≤1073741824)(ha:a≤s.size)(hc:¬(nxF s a).code=0){Q:X→St→Prop}
  (h:∀st,leOH st.oh (ohS s L v np np (ohX s (nxE s a) ⟨0,eS,0,0⟩ []))→leEnv (ohS s L v np np (ohX s (nxE s a) ⟨0,eS,0,0⟩ [])) st.env (evW l (feV ⟨(nxF s a).code,(placeF s (blF s a).1).1,(placeF s (blF s a).1).2,(nxF s a).word⟩))→Q .normal st) :
  evC Tryz.prog (OkR Tryz.prog) (subC [true,true,true,true,false] (Option.getD Tryz.f39.body .skip)) ⟨Tryz.f39.ntmps,evE l,ohS s L v np np [(7,rdOb s a)]⟩ Q:=by
 have hn:=next_ok s a hs ha
 unfold lrP at hn
 rw [show nxV (nxF s a) (placeF s (blF s a).1).1 (placeF s (blF s a).1).2=failV ⟨(nxF s a).code,(placeF s (blF s a).1).1,(placeF s (blF s a).1).2,(nxF s a).word⟩ from if_neg hc] at hn
 dsimp only [subC,Option.getD,Tryz.f39]
 unfold evE ohS yl p0 cel txO np rdOb
 repeat'(first|(with_reducible first|(refine zz ?_;try intro K hK)|refine zI ?_|refine zt ?_|refine zf ?_)|((first|refine hK _ ?_|refine hK _ _ rfl ?_);clear hK K)|(guard_hyp hK;first|(refine zY ?zz ?_;case zz=>first|exact rfl|exact gJ)|refine fresh_n ?_|refine freshO_n ?_|refine zW ?_|refine zg ([(0,7,0)]) (hn) ([(7,⟨4,[lrV s a (placeF s a).1 (placeF s a).2],0,true⟩)]) ([]) ([(7,⟨4,[lrV s (nxE s a) (placeF s (nxE s a)).1 (placeF s (nxE s a)).2],0,true⟩)]) (failV ⟨(nxF s a).code,(placeF s (blF s a).1).1,(placeF s (blF s a).1).2,(nxF s a).word⟩) ?_|intro b0 hb)|((first|with_reducible refine zm ?_|guard_hyp hK);refine zY ?_ ?_;all_goals(intro hb;(try simp only [sn,sb] at hb);try exact ex0)))
 exact h _ ⟨rfl,rfl,rfl,rfl,rfl,rfl,rfl,trivial⟩ ⟨rfl,trivial,rfl,rfl,rfl,rfl,rfl,trivial,trivial⟩
theorem se2 (l:Nat)(s:ByteArray)(L:List Tok)(v a:Nat)(t:Tok)(E:V)(hE:E=.con .nilIface∨∃f,E=feV f)(K:St→Prop)
  (hK:∀st,(leOH st.oh (ohS s L v np np (ohX s a t []))∧leEnv (ohS s L v np np (ohX s a t [])) st.env (evY l t E))→K st) :
  evR Tryz.prog (OkR Tryz.prog) (opsOf (subC [true,true,true,true,true,false] (Option.getD Tryz.f39.body .skip))) 0 (((opsOf (subC [true,true,true,true,true,false] (Option.getD Tryz.f39.body .skip))).toList.drop 0).take 3) Tryz.f39.ntmps (evW l E) (ohS s L v np np (ohX s a t [])) K:=by
 dsimp only [subC,opsOf,Option.getD,Tryz.f39]
 rcases hE with rfl|⟨f,rfl⟩
 ·repeat'(first|(with_reducible first|(refine zz ?_;try intro K hK)|refine zI ?_|refine zt ?_|refine zf ?_)|((first|refine hK _ ?_|refine hK _ _ rfl ?_);clear hK K)|(guard_hyp hK;first|(refine zY ?zz ?_;case zz=>first|exact rfl|exact gJ)|refine fresh_n ?_|refine freshO_n ?_|refine zW ?_|intro b0 hb)|((first|with_reducible refine zm ?_|guard_hyp hK);refine zY ?_ ?_;all_goals(intro hb;(try simp only [sn,sb] at hb);try exact ex0)))
  exact⟨⟨rfl,rfl,rfl,rfl,rfl,rfl,rfl,trivial⟩,rfl,trivial,rfl,tk_cl t _,rfl,trivial,rfl,trivial,rfl,rfl,rfl,rfl,rfl,trivial,trivial⟩
 ·repeat'(first|(with_reducible first|(refine zz ?_;try intro K hK)|refine zI ?_|refine zt ?_|refine zf ?_)|((first|refine hK _ ?_|refine hK _ _ rfl ?_);clear hK K)|(guard_hyp hK;first|(refine zY ?zz ?_;case zz=>first|exact rfl|exact gJ)|refine fresh_n ?_|refine freshO_n ?_|refine zW ?_|intro b0 hb)|((first|with_reducible refine zm ?_|guard_hyp hK);refine zY ?_ ?_;all_goals(intro hb;(try simp only [sn,sb] at hb);try exact ex0)))
  exact⟨⟨rfl,rfl,rfl,rfl,rfl,rfl,rfl,trivial⟩,rfl,trivial,rfl,tk_cl t _,rfl,trivial,rfl,trivial,rfl,rfl,rfl,rfl,rfl,trivial,trivial⟩
theorem se4 (l:Nat)(s:ByteArray)(L:List Tok)(v a:Nat)(t:Tok)(K:St→Prop)
  (hK:∀st,(leOH st.oh (ohS s L v np np [(7,rdOb s a)])∧leEnv (ohS s L v np np [(7,rdOb s a)]) st.env [(0,yl l),(3,.ref 7 0 0 0),(25,.con (.bool (decide (t.kind=0))))])→K st) :
  evR Tryz.prog (OkR Tryz.prog) (opsOf (subC [true,true,true,true,true,false] (Option.getD Tryz.f39.body .skip))) 4 (((opsOf (subC [true,true,true,true,true,false] (Option.getD Tryz.f39.body .skip))).toList.drop 4).take 10) Tryz.f39.ntmps ((15,.con (.bool true)) :: evY l t (.con .nilIface)) (ohS s L v np np (ohX s a t [])) K:=by
 dsimp only [subC,opsOf,Option.getD,Tryz.f39]
 repeat'(first|(with_reducible first|(refine zz ?_;try intro K hK)|refine zI ?_|refine zt ?_|refine zf ?_)|((first|refine hK _ ?_|refine hK _ _ rfl ?_);clear hK K)|(guard_hyp hK;first|(refine zY ?zz ?_;case zz=>first|exact rfl|exact gJ)|refine fresh_n ?_|refine freshO_n ?_|refine zW ?_|intro b0 hb)|((first|with_reducible refine zm ?_|guard_hyp hK);refine zY ?_ ?_;all_goals(intro hb;(try simp only [sn,sb] at hb);try exact ex0)))
 exact⟨⟨rfl,rfl,rfl,rfl,rfl,rfl,trivial⟩,rfl,trivial,rfl,rfl,rfl,trivial,trivial⟩
theorem se4b (l:Nat)(s:ByteArray)(L:List Tok)(v a:Nat)(t:Tok)(f:Flt)(lt r0:V)(K:St→Prop)
  (hK:∀st,(leOH st.oh (ohS s L v lt r0 [])∧leEnv (ohS s L v lt r0 []) st.env [(25,.con (.bool true))])→K st) :
  evR Tryz.prog (OkR Tryz.prog) (opsOf (subC [true,true,true,true,true,false] (Option.getD Tryz.f39.body .skip))) 4 (((opsOf (subC [true,true,true,true,true,false] (Option.getD Tryz.f39.body .skip))).toList.drop 4).take 10) Tryz.f39.ntmps ((15,.con (.bool false)) :: evY l t (feV f)) (ohS s L v lt r0 (ohX s a t [])) K:=by
 dsimp only [subC,opsOf,Option.getD,Tryz.f39]
 repeat'(first|(with_reducible first|(refine zz ?_;try intro K hK)|refine zI ?_|refine zt ?_|refine zf ?_)|((first|refine hK _ ?_|refine hK _ _ rfl ?_);clear hK K)|(guard_hyp hK;first|(refine zY ?zz ?_;case zz=>first|exact rfl|exact gJ)|refine fresh_n ?_|refine freshO_n ?_|refine zW ?_|intro b0 hb)|((first|with_reducible refine zm ?_|guard_hyp hK);refine zY ?_ ?_;all_goals(intro hb;(try simp only [sn,sb] at hb);try exact ex0)))
 exact⟨⟨rfl,rfl,rfl,rfl,rfl,trivial⟩,rfl,trivial,trivial⟩
theorem so3 (s:ByteArray)(L:List Tok)(v a:Nat)(t:Tok)(E:V)(hE:∀oh,E.cl oh){Q:X→St→Prop}
  (h:∀st,leOH st.oh (ohS s L v np np (ohX s a t [(9,tkO t)]))→leEnv (ohS s L v np np (ohX s a t [(9,tkO t)])) st.env [(2,.ref 0 0 0 0),(3,.ref 2 0 0 0),(4,.ref 9 0 0 0),(12,E)]→Q .normal st) :
  evC Tryz.prog (OkR Tryz.prog) (subC [true,true,false,true,false,false,false] (Option.getD Tryz.f12.body .skip)) ⟨Tryz.f12.ntmps,(12,E) :: (11,vTok t) :: evS 39,ohS s L v np np (ohX s a t [])⟩ Q:=by
 dsimp only [subC,Option.getD,Tryz.f12]
 repeat'(first|(with_reducible first|(refine zz ?_;try intro K hK)|refine zI ?_|refine zt ?_|refine zf ?_)|((first|refine hK _ ?_|refine hK _ _ rfl ?_);clear hK K)|(guard_hyp hK;first|(refine zY ?zz ?_;case zz=>first|exact rfl|exact gJ)|refine fresh_n ?_|refine freshO_n ?_|refine zW ?_|intro b0 hb)|((first|with_reducible refine zm ?_|guard_hyp hK);refine zY ?_ ?_;all_goals(intro hb;(try simp only [sn,sb] at hb);try exact ex0)))
 exact h _ ⟨rfl,rfl,rfl,rfl,rfl,rfl,rfl,rfl,trivial⟩ ⟨rfl,rfl,rfl,rfl,rfl,rfl,rfl,hE _,trivial⟩
theorem so4 (s:ByteArray)(L:List Tok)(v a:Nat)(t:Tok)(E:V)(hE:E=.con .nilIface∨∃f,E=feV f){Q:X→St→Prop}
  (h:∀st,leOH st.oh (ohS s L v np np (ohX s a t [(9,tkO t)]))→leEnv (ohS s L v np np (ohX s a t [(9,tkO t)])) st.env (evO E)→Q .normal st) :
  evC Tryz.prog (OkR Tryz.prog) (subC [true,true,false,true,false,false,true] (Option.getD Tryz.f12.body .skip)) ⟨Tryz.f12.ntmps,[(2,.ref 0 0 0 0),(3,.ref 2 0 0 0),(4,.ref 9 0 0 0),(12,E)],ohS s L v np np (ohX s a t [(9,tkO t)])⟩ Q:=by
 dsimp only [subC,Option.getD,Tryz.f12]
 rcases hE with rfl|⟨f,rfl⟩
 ·repeat'(first|(with_reducible first|(refine zz ?_;try intro K hK)|refine zI ?_|refine zt ?_|refine zf ?_)|((first|refine hK _ ?_|refine hK _ _ rfl ?_);clear hK K)|(guard_hyp hK;first|(refine zY ?zz ?_;case zz=>first|exact rfl|exact gJ)|refine fresh_n ?_|refine freshO_n ?_|refine zW ?_|intro b0 hb)|((first|with_reducible refine zm ?_|guard_hyp hK);refine zY ?_ ?_;all_goals(intro hb;(try simp only [sn,sb] at hb);try exact ex0)))
  exact h _ ⟨rfl,rfl,rfl,rfl,rfl,rfl,rfl,rfl,trivial⟩ ⟨rfl,rfl,rfl,rfl,rfl,rfl,rfl,trivial,trivial⟩
 ·repeat'(first|(with_reducible first|(refine zz ?_;try intro K hK)|refine zI ?_|refine zt ?_|refine zf ?_)|((first|refine hK _ ?_|refine hK _ _ rfl ?_);clear hK K)|(guard_hyp hK;first|(refine zY ?zz ?_;case zz=>first|exact rfl|exact gJ)|refine fresh_n ?_|refine freshO_n ?_|refine zW ?_|intro b0 hb)|((first|with_reducible refine zm ?_|guard_hyp hK);refine zY ?_ ?_;all_goals(intro hb;(try simp only [sn,sb] at hb);try exact ex0)))
  exact h _ ⟨rfl,rfl,rfl,rfl,rfl,rfl,rfl,rfl,trivial⟩ ⟨rfl,rfl,rfl,rfl,rfl,rfl,rfl,trivial,trivial⟩
theorem so5 (s:ByteArray)(L:List Tok)(v a:Nat)(t:Tok){Q:X→St→Prop}
  (h:∀st,leOH st.oh (ohS s L v np np (ohX s a t [(9,tkO t)]))→leEnv (ohS s L v np np (ohX s a t [(9,tkO t)])) st.env ((14,.con (.bool false)) :: evO (.con .nilIface))→Q .normal st) :
  evC Tryz.prog (OkR Tryz.prog) (subC [true,true,false,true,false,true,false,false,false] (Option.getD Tryz.f12.body .skip)) ⟨Tryz.f12.ntmps,evO (.con .nilIface),ohS s L v np np (ohX s a t [(9,tkO t)])⟩ Q:=by
 dsimp only [subC,Option.getD,Tryz.f12]
 repeat'(first|(with_reducible first|(refine zz ?_;try intro K hK)|refine zI ?_|refine zt ?_|refine zf ?_)|((first|refine hK _ ?_|refine hK _ _ rfl ?_);clear hK K)|(guard_hyp hK;first|(refine zY ?zz ?_;case zz=>first|exact rfl|exact gJ)|refine fresh_n ?_|refine freshO_n ?_|refine zW ?_|intro b0 hb)|((first|with_reducible refine zm ?_|guard_hyp hK);refine zY ?_ ?_;all_goals(intro hb;(try simp only [sn,sb] at hb);try exact ex0)))
 exact h _ ⟨rfl,rfl,rfl,rfl,rfl,rfl,rfl,rfl,trivial⟩ ⟨rfl,trivial,rfl,rfl,rfl,rfl,rfl,rfl,rfl,trivial,trivial⟩
theorem so5b (s:ByteArray)(L:List Tok)(v a:Nat)(t:Tok)(f:Flt){Q:X→St→Prop}
  (h:∀st,leOH st.oh (ohS s L v np np (ohX s a t [(9,tkO t)]))→leEnv (ohS s L v np np (ohX s a t [(9,tkO t)])) st.env ((14,.con (.bool true)) :: evO (feV f))→Q .normal st) :
  evC Tryz.prog (OkR Tryz.prog) (subC [true,true,false,true,false,true,false,false,false] (Option.getD Tryz.f12.body .skip)) ⟨Tryz.f12.ntmps,evO (feV f),ohS s L v np np (ohX s a t [(9,tkO t)])⟩ Q:=by
 dsimp only [subC,Option.getD,Tryz.f12]
 repeat'(first|(with_reducible first|(refine zz ?_;try intro K hK)|refine zI ?_|refine zt ?_|refine zf ?_)|((first|refine hK _ ?_|refine hK _ _ rfl ?_);clear hK K)|(guard_hyp hK;first|(refine zY ?zz ?_;case zz=>first|exact rfl|exact gJ)|refine fresh_n ?_|refine freshO_n ?_|refine zW ?_|intro b0 hb)|((first|with_reducible refine zm ?_|guard_hyp hK);refine zY ?_ ?_;all_goals(intro hb;(try simp only [sn,sb] at hb);try exact ex0)))
 exact h _ ⟨rfl,rfl,rfl,rfl,rfl,rfl,rfl,rfl,trivial⟩ ⟨rfl,trivial,rfl,rfl,rfl,rfl,rfl,rfl,rfl,trivial,trivial⟩
theorem so10 (s:ByteArray)(L:List Tok)(v a:Nat)(t:Tok)(hL:L.length≤1073741824){Q:X→St→Prop}
  (h:∀st,leOH st.oh (ohS s (L ++ [t]) (v+1) np np (ohX s a t []))→Q .normal st) :
  evC Tryz.prog (OkR Tryz.prog) (subC [true,true,false,true,false,true,false,true] (Option.getD Tryz.f12.body .skip)) ⟨Tryz.f12.ntmps,(14,.con (.bool false)) :: evO (.con .nilIface),ohS s L v np np (ohX s a t [(9,tkO t)])⟩ Q:=by
 dsimp only [subC,Option.getD,Tryz.f12]
 unfold ohS ohX evO p0 cel tkO np
 repeat'(first|(with_reducible first|(refine zz ?_;try intro K hK)|refine zI ?_|refine zt ?_|refine zf ?_)|((first|refine hK _ ?_|refine hK _ _ rfl ?_);clear hK K)|(guard_hyp hK;first|(refine zY ?zz ?_;case zz=>first|exact rfl|exact gJ)|refine fresh_n ?_|refine freshO_n ?_|refine zW ?_|intro b0 hb)|((first|with_reducible refine zm ?_|guard_hyp hK);refine zY ?_ ?_;all_goals(intro hb;(try simp only [sn,sb] at hb);try exact ex0)))
 refine h _ ⟨rfl,?_,rfl,?_,rfl,rfl,rfl,trivial⟩
 ·rw [List.length_append]
  exact rfl
 ·show some (⟨4,_,v+1,true⟩:Obj)=some ⟨4,_,v+1,true⟩
  refine congrArg some (congrArg (fun l=>(⟨4,l,v+1,true⟩:Obj)) ?_)
  rw [List.map_append]
  show List.take L.length (L.map vTok) ++ _=_
  rw [List.take_of_length_le (by rw [List.length_map];omega)];rfl
theorem so6 (s:ByteArray)(L:List Tok)(v a:Nat)(t:Tok)(f:Flt){Q:X→St→Prop}
  (h:∀st,leOH st.oh (ohS s L v np np (ohX s a t [(9,tkO t),(10,cel np)]))→leEnv (ohS s L v np np (ohX s a t [(9,tkO t),(10,cel np)])) st.env ((6,.ref 10 0 0 0) :: evO (feV f))→Q .normal st) :
  evC Tryz.prog (OkR Tryz.prog) (subC [true,true,false,true,false,true,false,false,true,false,false] (Option.getD Tryz.f12.body .skip)) ⟨Tryz.f12.ntmps,(14,.con (.bool true)) :: evO (feV f),ohS s L v np np (ohX s a t [(9,tkO t)])⟩ Q:=by
 dsimp only [subC,Option.getD,Tryz.f12]
 repeat'(first|(with_reducible first|(refine zz ?_;try intro K hK)|refine zI ?_|refine zt ?_|refine zf ?_)|((first|refine hK _ ?_|refine hK _ _ rfl ?_);clear hK K)|(guard_hyp hK;first|(refine zY ?zz ?_;case zz=>first|exact rfl|exact gJ)|refine fresh_n ?_|refine freshO_n ?_|refine zW ?_|intro b0 hb)|((first|with_reducible refine zm ?_|guard_hyp hK);refine zY ?_ ?_;all_goals(intro hb;(try simp only [sn,sb] at hb);try exact ex0)))
 exact h _ ⟨rfl,rfl,rfl,rfl,rfl,rfl,rfl,rfl,rfl,trivial⟩ ⟨rfl,rfl,rfl,rfl,rfl,rfl,rfl,rfl,rfl,trivial,trivial⟩
theorem so7 (s:ByteArray)(L:List Tok)(v a:Nat)(t:Tok)(f:Flt){Q:X→St→Prop}
  (h:∀st,leOH st.oh (ohS s L v np np (ohX s a t [(9,tkO t),(10,cel (vFp (some f)))]))→leEnv (ohS s L v np np (ohX s a t [(9,tkO t),(10,cel (vFp (some f)))])) st.env ((17,.con (.bool true)) :: (6,.ref 10 0 0 0) :: evO (feV f))→Q .normal st) :
  evC Tryz.prog (OkR Tryz.prog) (subC [true,true,false,true,false,true,false,false,true,false,true,false,false,false] (Option.getD Tryz.f12.body .skip)) ⟨Tryz.f12.ntmps,(6,.ref 10 0 0 0) :: evO (feV f),ohS s L v np np (ohX s a t [(9,tkO t),(10,cel np)])⟩ Q:=by
 have hA:=as_ok f
 dsimp only [subC,Option.getD,Tryz.f12]
 unfold ohS ohX evO p0 cel tkO np feV
 repeat'(first|(with_reducible first|(refine zz ?_;try intro K hK)|refine zI ?_|refine zt ?_|refine zf ?_)|((first|refine hK _ ?_|refine hK _ _ rfl ?_);clear hK K)|(guard_hyp hK;first|(refine zY ?zz ?_;case zz=>first|exact rfl|exact gJ)|refine fresh_n ?_|refine freshO_n ?_|refine zW ?_|(refine Or.inr (Or.inr (Or.inl (as_call true 10 (hA) ?hga ?hgb ?_)));(case hga=>rfl);(case hgb=>rfl))|intro b0 hb)|((first|with_reducible refine zm ?_|guard_hyp hK);refine zY ?_ ?_;all_goals(intro hb;(try simp only [sn,sb] at hb);try exact ex0)))
 exact h _ ⟨rfl,rfl,rfl,rfl,rfl,rfl,rfl,rfl,rfl,trivial⟩ ⟨rfl,trivial,rfl,rfl,rfl,rfl,rfl,rfl,rfl,rfl,rfl,trivial,trivial⟩
theorem so8 (s:ByteArray)(L:List Tok)(v a:Nat)(t:Tok)(f:Flt){Q:X→St→Prop}
  (h:∀st,leOH st.oh (ohS s L v (vFp (some f)) np (ohX s a t []))→leEnv (ohS s L v (vFp (some f)) np (ohX s a t [])) st.env [(2,.ref 0 0 0 0),(3,.ref 2 0 0 0)]→Q .normal st) :
  evC Tryz.prog (OkR Tryz.prog) (subC [true,true,false,true,false,true,false,false,true,false,true,false,true,false] (Option.getD Tryz.f12.body .skip)) ⟨Tryz.f12.ntmps,(17,.con (.bool true)) :: (6,.ref 10 0 0 0) :: evO (feV f),ohS s L v np np (ohX s a t [(9,tkO t),(10,cel (vFp (some f)))])⟩ Q:=by
 dsimp only [subC,Option.getD,Tryz.f12]
 unfold ohS ohX evO p0 cel tkO np vFp
 repeat'(first|(with_reducible first|(refine zz ?_;try intro K hK)|refine zI ?_|refine zt ?_|refine zf ?_)|((first|refine hK _ ?_|refine hK _ _ rfl ?_);clear hK K)|(guard_hyp hK;first|(refine zY ?zz ?_;case zz=>first|exact rfl|exact gJ)|refine fresh_n ?_|refine freshO_n ?_|refine zW ?_|intro b0 hb)|((first|with_reducible refine zm ?_|guard_hyp hK);refine zY ?_ ?_;all_goals(intro hb;(try simp only [sn,sb] at hb);try exact ex0)))
 exact h _ ⟨rfl,rfl,rfl,rfl,rfl,rfl,rfl,trivial⟩ ⟨rfl,rfl,rfl,rfl,trivial⟩
theorem so9 (s:ByteArray)(L:List Tok)(v a:Nat)(t:Tok)(f:Flt){Q:X→St→Prop}
  (h:∀st,leOH st.oh (ohS s L v (vFp (some f)) (.ref 1 0 0 0) (ohX s a t []))→leEnv (ohS s L v (vFp (some f)) (.ref 1 0 0 0) (ohX s a t [])) st.env [(2,.ref 0 0 0 0)]→Q .normal st) :
  evC Tryz.prog (OkR Tryz.prog) (subC [true,true,false,true,false,true,false,false,true,false,true,true,false] (Option.getD Tryz.f12.body .skip)) ⟨Tryz.f12.ntmps,[(2,.ref 0 0 0 0),(3,.ref 2 0 0 0)],ohS s L v (vFp (some f)) np (ohX s a t [])⟩ Q:=by
 dsimp only [subC,Option.getD,Tryz.f12]
 unfold ohS ohX p0 cel tkO np vFp
 repeat'(first|(with_reducible first|(refine zz ?_;try intro K hK)|refine zI ?_|refine zt ?_|refine zf ?_)|((first|refine hK _ ?_|refine hK _ _ rfl ?_);clear hK K)|(guard_hyp hK;first|(refine zY ?zz ?_;case zz=>first|exact rfl|exact gJ)|refine fresh_n ?_|refine freshO_n ?_|refine zW ?_|intro b0 hb)|((first|with_reducible refine zm ?_|guard_hyp hK);refine zY ?_ ?_;all_goals(intro hb;(try simp only [sn,sb] at hb);try exact ex0)))
 exact h _ ⟨rfl,rfl,rfl,rfl,rfl,rfl,rfl,trivial⟩ ⟨rfl,rfl,trivial⟩
theorem so11 (s:ByteArray)(L:List Tok)(v:Nat){Q:X→St→Prop}
  (h:∀st,leOH st.oh (ohS s L v np (.ref 1 0 0 0) [])→leEnv (ohS s L v np (.ref 1 0 0 0) []) st.env [(2,.ref 0 0 0 0)]→Q .normal st) :
  evC Tryz.prog (OkR Tryz.prog) (subC [true,true,true,false] (Option.getD Tryz.f12.body .skip)) ⟨Tryz.f12.ntmps,evS 39,ohS s L v np np []⟩ Q:=by
 dsimp only [subC,Option.getD,Tryz.f12]
 unfold ohS evS p0 cel np
 repeat'(first|(with_reducible first|(refine zz ?_;try intro K hK)|refine zI ?_|refine zt ?_|refine zf ?_)|((first|refine hK _ ?_|refine hK _ _ rfl ?_);clear hK K)|(guard_hyp hK;first|(refine zY ?zz ?_;case zz=>first|exact rfl|exact gJ)|refine fresh_n ?_|refine freshO_n ?_|refine zW ?_|intro b0 hb)|((first|with_reducible refine zm ?_|guard_hyp hK);refine zY ?_ ?_;all_goals(intro hb;(try simp only [sn,sb] at hb);try exact ex0)))
 exact h _ ⟨rfl,rfl,rfl,rfl,rfl,trivial⟩ ⟨rfl,rfl,trivial⟩
end Go.Ev
