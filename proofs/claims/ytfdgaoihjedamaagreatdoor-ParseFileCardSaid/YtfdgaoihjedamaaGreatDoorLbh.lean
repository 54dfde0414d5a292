import Derived.Test.YtfdgaoihjedamaaGreatDoorLbg
import Derived.Test.YtfdgaoihjedamaaGreatDoorEvP
import Derived.RangeFuncLeaves
import Derived.RangeFuncRecord
set_option linter.all false
set_option maxHeartbeats 4000000
set_option maxRecDepth 10000
namespace Go.Ev
open Go.Proofs
theorem allF_bl (s:ByteArray)(a:Nat)(ha:a≤s.size):((blF s a).2=false→allF s a=([],some ⟨21,(placeF s (blF s a).1).1,(placeF s (blF s a).1).2,⟨#[47,42]⟩⟩))∧((blF s a).2=true→allF s a=allF s (blF s a).1):=by
 rw [blF]
 split
 ·rename_i hlt
  split
  ·rename_i h1
   refine⟨fun _=>?_,fun h=>by cases h⟩
   have ht:takeF (s.extract a s.size)=⟨0,0,eS,21,⟨#[47,42]⟩⟩:=if_pos h1
   rw [allF,dif_pos hlt,ht]
   rfl
  ·rename_i h1
   split
   ·rename_i h2
    have ht:takeF (s.extract a s.size)=⟨(skipF (s.extract a s.size)).toNat,0,eS,0,eS⟩:=by unfold takeF;rw [if_neg h1,if_pos h2]
    have h3:=skipF_le (s:=s.extract a s.size) (by rw [ByteArray.size_extract];omega)
    rw [ByteArray.size_extract] at h3
    have e:allF s a=allF s (a+(skipF (s.extract a s.size)).toNat):=by
     rw [allF,dif_pos hlt,ht]
     rw [if_neg (by simp),dif_pos (by show 0 < (skipF _).toNat;omega),if_neg (by simp)]
    rw [e]
    exact allF_bl s _ (by omega)
   ·exact⟨fun h=>(by cases h),fun _=>rfl⟩
 ·exact⟨fun h=>(by cases h),fun _=>rfl⟩
termination_by s.size - a
theorem takeF_kind0 {s:ByteArray}(h1:1≤s.size)(hs:skipF s=0)(hc:(takeF s).code=0):(takeF s).kind≠0:=by
 unfold takeF at hc ⊢
 rw [if_neg (by omega),if_neg (by omega)] at hc ⊢
 split
 ·rename_i c1
  rw [if_pos c1] at hc
  split
  ·rename_i c2;rw [if_pos c2] at hc;exfalso;dsimp only at hc;revert hc;decide
  ·dsimp only;decide
 ·rename_i c1
  rw [if_neg c1] at hc
  split
  ·rename_i c2
   rw [if_pos c2] at hc
   split
   ·rename_i c3;rw [if_pos c3] at hc;exfalso;dsimp only at hc;revert hc;decide
   ·dsimp only;decide
  ·rename_i c2
   rw [if_neg c2] at hc
   split
   ·rename_i c3
    rw [if_pos c3] at hc
    split
    ·dsimp only;decide
    ·rename_i c4;rw [if_neg c4] at hc;exfalso;dsimp only at hc;revert hc;decide
   ·rename_i c3
    rw [if_neg c3] at hc
    split
    ·dsimp only;decide
    ·rename_i c4;rw [if_neg c4] at hc;exfalso;dsimp only at hc;revert hc;decide
theorem allF_step (s:ByteArray)(a:Nat)(ha:a≤s.size) :
  ((nxF s a).code≠0→allF s a=([],some ⟨(nxF s a).code,(placeF s (blF s a).1).1,(placeF s (blF s a).1).2,(nxF s a).word⟩))∧
  ((nxF s a).code=0→(nxF s a).kind=0→(nxF s a).text=eS∧allF s a=([⟨0,eS,(placeF s (blF s a).1).1,(placeF s (blF s a).1).2⟩],none))∧
  ((nxF s a).code=0→(nxF s a).kind≠0→a < nxE s a∧nxE s a≤s.size∧allF s a=(⟨(nxF s a).kind,(nxF s a).text,(placeF s (blF s a).1).1,(placeF s (blF s a).1).2⟩ :: (allF s (nxE s a)).1,(allF s (nxE s a)).2)):=by
 obtain⟨h1,h2⟩:=allF_bl s a ha
 obtain⟨l1,l2⟩:=blF_le s a ha
 cases hb:(blF s a).2 with
 |false=>
  have e:nxF s a=⟨0,0,eS,21,⟨#[47,42]⟩⟩:=by unfold nxF;rw [hb];rfl
  rw [e,h1 hb]
  exact⟨fun _=>rfl,fun h=>by(exfalso;revert h;decide),fun h=>by(exfalso;revert h;decide)⟩
 |true=>
  rw [h2 hb]
  by_cases hp:(blF s a).1 < s.size
  ·have e:nxF s a=takeF (s.extract (blF s a).1 s.size):=by unfold nxF;rw [hb,if_pos rfl,if_pos hp]
   have hsz:(s.extract (blF s a).1 s.size).size=s.size - (blF s a).1:=by rw [ByteArray.size_extract];omega
   have hk:=blF_stop s a ha hb hp
   have eE:nxE s a=if(nxF s a).code=0 then(blF s a).1+(nxF s a).n else(blF s a).1:=rfl
   rw [e] at eE ⊢
   generalize hT:takeF (s.extract (blF s a).1 s.size)=T at *
   refine⟨fun hc=>?_,fun hc hk0=>?_,fun hc hk0=>?_⟩
   ·rw [allF,dif_pos hp,hT,if_pos hc]
   ·exact absurd hk0 (by rw [← hT];exact_mod_cast takeF_kind0 (by omega) hk (by rw [hT];exact hc))
   ·have hpr:=takeF_prog (s:=s.extract (blF s a).1 s.size) (by omega) (by rw [hT];exact hc)
    rw [hT] at hpr
    rw [if_pos hc] at eE
    refine⟨by omega,by omega,?_⟩
    rw [allF,dif_pos hp,hT,if_neg (by rw [hc];exact fun h=>h rfl),dif_pos hpr.1,if_pos hk0,eE]
  ·have e:nxF s a=eoF:=by unfold nxF;rw [hb,if_pos rfl,if_neg hp]
   have e9:(blF s a).1=s.size:=by omega
   rw [e]
   refine⟨fun h=>absurd rfl h,fun _ _=>⟨rfl,?_⟩,fun _ h=>absurd rfl h⟩
   rw [allF,dif_neg hp,e9]
def Odd (o:Go.Obj):Prop:=(∀c t f,o≠.cells c t f)∧∀e k,o≠.map e k
theorem odd_loop (r:Go.Loop):Odd (.loop r):=⟨fun _ _ _ h=>Go.Obj.noConfusion h,fun _ _ h=>Go.Obj.noConfusion h⟩
theorem odd_def (d:Option (List Deferred)):Odd (.deferred d):=⟨fun _ _ _ h=>Go.Obj.noConfusion h,fun _ _ h=>Go.Obj.noConfusion h⟩
theorem putO_keep {w:World}{l b:Nat}{o o2 x:Go.Obj}(hl:w.heap[l]?=some o)(hb:w.heap[b]?=some o2)(hn:o≠o2):(w.putObj l x).heap[b]?=some o2:=by
 have:b≠l:=fun e=>by subst e;rw [hl] at hb;exact hn (Option.some.inj hb)
 rw [World.putObj_heap_other this];exact hb
theorem HR.putO {g:Gh}{oh:OH}{w:World}{l:Nat}{o x:Go.Obj}(h:HR g oh w)(hl:w.heap[l]?=some o)(ho:Odd o):HR g oh (w.putObj l x):=by
 refine⟨⟨fun b i c hc=>?_,h.hF,fun i ob hi hv=>?_,h.inj,h.mp.of fun b ⟨i,ob,hi,hm,hb⟩=>?_⟩,h.gl⟩
 ·have h1:=h.hG b i c hc
  have hbl:b≠l:=fun e=>by
   subst e
   simp only [World.cell?,hl] at h1
   cases o with
   |cells c t f=>exact ho.1 _ _ _ rfl
   |_=>simp at h1
  simp only [World.cell?,World.putObj_heap_other hbl] at h1 ⊢
  exact h1
 ·obtain⟨h1,h2⟩:=h.obj i ob hi hv
  refine⟨h1,fun b hb=>?_⟩
  obtain⟨arr,ty,q1,q2,q3⟩:=h2 b hb
  exact⟨arr,ty,putO_keep hl q1 (ho.1 _ _ _),q2,q3⟩
 ·obtain⟨b2,es,clock,q1,q2,-⟩:=h.mp.at_ i ob hi hm
  rw [hb] at q1
  obtain rfl:b=b2:=by simpa using q1
  rw [putO_keep hl q2 (ho.2 _ _),q2]
theorem Fr.putO {g0 g:Gh}{oh0 oh:OH}{w0 w:World}{l:Nat}{o x:Go.Obj}(h:Fr g0 oh0 w0 g oh w)(hl:w.heap[l]?=some o)(ho:Odd o)(h0:w0.heap.size≤l):Fr g0 oh0 w0 g oh (w.putObj l x):=by
 refine⟨h.os,h.tape,h.output,by rw [World.putObj_size];exact h.size,fun b hb h1 h2=>?_,h.own,h.G,h.F,h.nG,h.nF,fun b arr ty fz hb=>?_,h.mown⟩
 ·rw [World.putObj_heap_other (by omega)];exact h.keep b hb h1 h2
 ·obtain⟨arr',q1,q2⟩:=h.blk b arr ty fz hb
  exact⟨arr',putO_keep hl q1 (ho.1 _ _ _),q2⟩
theorem Fr.keepO {g g':Gh}{oh oh':OH}{w w':World}{l:Nat}{o:Go.Obj}(h:Fr g oh w g' oh' w')(hr:HR g oh w)(hl:w.heap[l]?=some o)(ho:Odd o):w'.heap[l]?=some o:=by
 rw [h.keep l (Array.getElem?_eq_some_iff.1 hl).1 (fun⟨i,ob,hi,hv,hm⟩=>?_) (fun⟨i,ob,hi,hm,hb⟩=>?_)]
 ·exact hl
 ·obtain⟨_,q⟩:=hr.obj i ob hi hv
  obtain⟨arr,ty,hh,_⟩:=q l hm
  rw [hl] at hh
  exact ho.1 _ _ _ (Option.some.inj hh)
 ·obtain⟨b2,es,clock,q1,q2,-⟩:=hr.mp.at_ i ob hi hm
  rw [hb] at q1
  obtain rfl:l=b2:=by simpa using q1
  rw [hl] at q2
  exact ho.2 _ _ (Option.some.inj q2)
theorem Rel.mv {γ:Gm}{g g':Gh}{n:Nat}{e:Env}{oh oh':OH}{a:Act}{w w':World}(h:Rel γ g ⟨n,e,oh⟩ a w)(hm:Mono g oh g' oh')(hr:HR g' oh' w'):Rel γ g' ⟨n,e,oh'⟩ a w':=⟨hr,h.df,h.sz,fun t=>hm.rdV (h.env t),h.par⟩
structure Rst where
 γ:Gm
 n:Nat
 e:Env
 a:Act
structure Pk (E:List Rst)(l D:Nat)(r:Go.Loop)(g0:Gh)(w0:World)(g:Gh)(oh:OH)(w:World):Prop where
 rel:∀p ∈ E,Rel p.γ g ⟨p.n,p.e,oh⟩ p.a w
 hl:w.heap[l]?=some (.loop r)
 hd:w.heap[D]?=some (.deferred (some []))
 fr:Fr g0 [] w0 g oh w
 h0:w0.heap.size≤l
theorem Pk.put {E:List Rst}{l D:Nat}{r r':Go.Loop}{g0 g:Gh}{w0 w:World}{oh:OH}(h:Pk E l D r g0 w0 g oh w):Pk E l D r' g0 w0 g oh (w.putObj l (.loop r')):=
 ⟨fun p hp=>⟨(h.rel p hp).hr.putO h.hl (odd_loop r),(h.rel p hp).df,(h.rel p hp).sz,(h.rel p hp).env,(h.rel p hp).par⟩,World.putObj_heap_same (Array.getElem?_eq_some_iff.1 h.hl).1,putO_keep h.hl h.hd (fun e=>Go.Obj.noConfusion e),h.fr.putO h.hl (odd_loop r) h.h0,h.h0⟩
theorem Rel.putL {γ:Gm}{g:Gh}{s:St}{a:Act}{w:World}{l:Nat}{r:Go.Loop}{x:Go.Obj}(h:Rel γ g s a w)(hl:w.heap[l]?=some (.loop r)):Rel γ g s a (w.putObj l x):=⟨h.hr.putO hl (odd_loop r),h.df,h.sz,h.env,h.par⟩
variable {P : Program}
theorem Pk.on {E:List Rst}{l D:Nat}{r:Go.Loop}{g0 g g':Gh}{w0 w w':World}{oh oh' T:OH}(hp:Pk E l D r g0 w0 g oh w)(hr0:HR g oh w)(hr:HR g' oh' w')(hf:Fr g oh w g' oh' w')(hm:Mono g oh g' oh')(h1:leOH oh' T)(hT:clObjs T T)(hE:∀p ∈ E,leEnv T p.e p.e)
  (hf2:Fr g' oh' w' g' T w'):Pk E l D r g0 w0 g' T w':=
 ⟨fun p hq=>(((hp.rel p hq).mv hm hr).less (s1:=⟨p.n,p.e,T⟩) (s:=⟨p.n,p.e,oh'⟩) ⟨rfl,hE p hq,h1,hT⟩).1,hf.keepO hr0 hp.hl (odd_loop r),hf.keepO hr0 hp.hd (odd_def _),(hp.fr.trans hf).trans hf2,hp.h0⟩
theorem reg_pk {ro:Option Nat}{nf:Nat}{C:CT}(hC:∀q ts r,C q ts r→OkR P q ts r)(hmix:P.follows .mixedOrders=true){n:Nat}{df:List Deferred}{id:Nat}{ops:Array Oper}{b:Bool}{e e':Env}{oh T:OH}{K:Exit→Act→World→Prop}{E:List Rst}{l D:Nat}{r:Go.Loop}{g0:Gh}{w0:World}
  (hb:okB n (.region id ops b)=true) (h:∀Q:X→St→Prop,(∀st,leOH st.oh T→leEnv T st.env e'→Q .normal st)→evC P C (.region id ops b) ⟨n,e,oh⟩ Q) (hT:clObjs T T) (hE:∀p ∈ E,leEnv T p.e p.e)
  {g:Gh} {a:Act} {w:World} (hr:Rel ⟨fun _=>none,df⟩ g ⟨n,e,oh⟩ a w) (hp:Pk E l D r g0 w0 g oh w)
  (hk:∀g' a' w',Rel ⟨fun _=>none,df⟩ g' ⟨n,e',T⟩ a' w'→Pk E l D r g0 w0 g' T w'→K .normal a' w'):(Code.region id ops b).wpIn (FR ro) nf P K a w:=by
 refine wpIn_mono (reg_in hC hmix (np:=0) (fun _ _=>rfl) id ops b _ (fun _ st=>leOH st.oh T∧leEnv T st.env e') hb (parB_zero _) (h _ fun st h1 h2=>⟨h1,h2⟩) rfl g a w hr) fun x a' w' ⟨s',g',hx,⟨h1,h2⟩,hr',hf,hm,hn⟩=>?_
 subst hx
 obtain⟨hr2,hf2⟩:=hr'.less (s1:=⟨n,e',T⟩) ⟨hn.symm,h2,h1,hT⟩
 exact hk g' a' w' hr2 (hp.on hr.hr hr'.hr hf hm h1 hT hE hf2)
theorem ops_pk {ro:Option Nat}{nf:Nat}{C:CT}(hC:∀q ts r,C q ts r→OkR P q ts r){n:Nat}{df:List Deferred}{ops:Array Oper}{e e':Env}{oh T:OH}{K:Exit→Act→World→Prop}{E:List Rst}{l D:Nat}{r:Go.Loop}{g0:Gh}{w0:World}{rest:List Nat}(i m:Nat)
  (hb:dstB n ops.toList=true) (hm9:((ops.toList.drop i).take m).length=m) (h:∀K:St→Prop,(∀st,(leOH st.oh T∧leEnv T st.env e')→K st)→evR P C ops i ((ops.toList.drop i).take m) n e oh K) (hT:clObjs T T) (hE:∀p ∈ E,leEnv T p.e p.e)
  {g:Gh} {a:Act} {w:World} (hr:Rel ⟨fun _=>none,df⟩ g ⟨n,e,oh⟩ a w) (hp:Pk E l D r g0 w0 g oh w)
  (hk:∀g' a' w',Rel ⟨fun _=>none,df⟩ g' ⟨n,e',T⟩ a' w'→Pk E l D r g0 w0 g' T w'→wpOpsIn (FR ro) nf P ops K rest a' w'):wpOpsIn (FR ro) nf P ops K (List.range' i m ++ rest) a w:=by
 have:=evOps_pre (ro:=ro) (nf:=nf) (γ:=⟨fun _=>none,df⟩) (np:=0) (rest:=rest) (Q:=K) (g0:=g) (oh0:=oh) (w0:=w) (K:=fun st=>leOH st.oh T∧leEnv T st.env e') hC hb (fun _ _=>rfl) (parD_zero _) (fun s' g' a' w' hq hr' hf hn=>by
  obtain⟨h1,h2⟩:=hq
  obtain⟨hr2,hf2⟩:=hr'.less (s1:=⟨n,e',T⟩) ⟨hn.symm,h2,h1,hT⟩
  exact hk g' a' w' hr2 (hp.on hr.hr hr'.hr hf.1 hf.2 h1 hT hE hf2)) ((ops.toList.drop i).take m) i _ ⟨_,(List.take_append_drop m _).symm⟩ (by rw [← evR_eq];exact h _ fun st h1=>h1) g a w hr ⟨Fr.refl _ _ _,Mono.refl _ _⟩ rfl
 rw [hm9] at this
 exact this
theorem yld_op {ro:Option Nat}{nf:Nat}{ops:Array Oper}{i td tf ta tb l:Nat}{rest:List Nat}{o:Oper}{aty:Array TypeId}{r:Go.Loop}{Q:Exit→Act→World→Prop}{a:Act}{w:World}(ho:ops[i]?=some o)(hg:o.guard=none)(hop:o.op=.call { callee:=.value (.tmp tf),args:=#[.tmp ta,.tmp tb],argTypes:=aty })(hd:o.dst=some td)
  (hl:w.heap[l]?=some (.loop r)) (hy:a.eval (.tmp tf)=.func (.yield l) #[] #[]) {p1 p2:Nat} (hp:r.params=#[p1,p2])
  (h:RoundIn (FR ro) (nf - 1) P l r.fn ((r.tmps.setIfInBounds p1 (a.eval (.tmp ta))).setIfInBounds p2 (a.eval (.tmp tb))) r.assign r.body w fun e w'=>∃v,e=.returned v∧wpOpsIn (FR ro) nf P ops Q rest (a.put (some td) v) w'):wpOpsIn (FR ro) nf P ops Q (i :: rest) a w:=by
 simp only [wpOpsIn,ho]
 rw [if_pos (by simp [Region.wanted,hg])]
 refine⟨fun _ _=>trivial,?_⟩
 rw [Oper.semAt_eq _ _ _ (fun c e=>by rw [hop] at e;cases e)]
 have e1:(execOp a.eval o).run P w=.ok (.round l r.fn ((r.tmps.setIfInBounds p1 (a.eval (.tmp ta))).setIfInBounds p2 (a.eval (.tmp tb))) r.assign r.body) w:=by
  simp only [execOp,hop,resolve,hy,Deferred.ofValue]
  simp only [Sem.run_bind,Sem.run_pure,Result.andThen,invoke]
  rw [show(#[] ++ Array.map a.eval #[Operand.tmp ta,Operand.tmp tb])=#[a.eval (.tmp ta),a.eval (.tmp tb)] by simp]
  have e3:=run_yield (P:=P) (args:=#[a.eval (.tmp ta),a.eval (.tmp tb)]) hl (by rw [hp];rfl)
  rw [e3,hp];simp
 rw [e1]
 refine⟨(fun h=>by cases h),h.mono ?_⟩
 rintro e w' ⟨v,rfl,hv⟩
 rw [hd];exact hv
theorem Rel.put1 {df:List Deferred}{g:Gh}{n d:Nat}{e:Env}{oh:OH}{a:Act}{w:World}{v:V}{x:Value}(h:Rel ⟨fun _=>none,df⟩ g ⟨n,e,oh⟩ a w)(hd:d < n)(hv:RdV g oh v x):Rel ⟨fun _=>none,df⟩ g ⟨n,(d,v) :: e,oh⟩ (a.put (some d) x) w:=by
 refine⟨h.hr,h.df,by simp [Act.put,h.sz],fun t=>?_,fun t v hv=>by cases hv⟩
 show RdV g oh (eget ((d,v) :: e) t) _
 simp only [Act.put,eget_cons]
 by_cases e9:d=t
 ·subst e9
  have hlt:d < a.tmps.size:=by rw [h.sz];exact hd
  rw [if_pos rfl,Array.getD_eq_getD_getElem?,Array.getElem?_setIfInBounds_self_of_lt hlt]
  exact hv
 ·rw [if_neg e9,Array.getD_eq_getD_getElem?,Array.getElem?_setIfInBounds_ne e9,← Array.getD_eq_getD_getElem?]
  exact h.env t
theorem Rel.par0 {γ:Gm}{g:Gh}{s:St}{a:Act}{w:World}(h:Rel γ g s a w):Rel ⟨fun _=>none,γ.df⟩ g s a w:=⟨h.hr,h.df,h.sz,h.env,fun t v hv=>by cases hv⟩
theorem loop_k {F:Fence}{n:Nat}{c:Code}{Q:Exit→Act→World→Prop}{a:Act}{w:World}(I:Nat→Act→World→Prop){k:Nat}(h0:I k a w)
  (round:∀k a w,I k a w→c.wpIn F n P (Exit.then (fun a' w'=>∃k',k' < k∧I k' a' w') Q) a w):(Code.loop c).wpIn F n P Q a w:=by
 classical
 have least:∀a w,(∃k,I k a w)→∃k,I k a w∧∀j,I j a w→k≤j:=by
  rintro a w ⟨k,hk⟩
  induction k using Nat.strongRecOn with
  |_ k ih=>
   by_cases h:∃j,j < k∧I j a w
   ·obtain⟨j,hj,hi⟩:=h;exact ih j hj hi
   ·exact⟨k,hk,fun j hj=>Nat.le_of_not_lt fun hl=>h ⟨j,hl,hj⟩⟩
 refine wpIn_loop (fun a w=>∃k,I k a w) (fun a w=>if h:∃k,I k a w then(least a w h).choose else 0) ⟨k,h0⟩ fun a w h=>?_
 have hk:=(least a w h).choose_spec
 refine wpIn_mono (round _ a w hk.1) fun x a' w' hq=>?_
 cases x with
 |normal=>
  obtain⟨k',hlt,hi⟩:=hq
  have h2:∃k,I k a' w':=⟨k',hi⟩
  refine⟨h2,?_⟩
  simp only [dif_pos h,dif_pos h2]
  exact Nat.lt_of_le_of_lt ((least a' w' h2).choose_spec.2 _ hi) hlt
 |_=>exact hq
end Go.Ev
