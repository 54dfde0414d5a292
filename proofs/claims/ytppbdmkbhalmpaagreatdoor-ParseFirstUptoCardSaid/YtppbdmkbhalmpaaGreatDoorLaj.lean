import Derived.Test.YtppbdmkbhalmpaaGreatDoorLah
import Derived.Test.YtppbdmkbhalmpaaGreatDoorLai
set_option linter.all false
set_option maxHeartbeats 4000000
set_option maxRecDepth 10000
namespace Go.Ev
namespace PS
variable {X : Txt}
theorem settle_stk {σ:PS X}(h:σ.bad≠none):σ.settle=σ:=(settle_fol σ).stk h
theorem isB_bad {σ:PS X}(h:σ.bad≠none)(k:Int)(w:ByteArray):σ.isB k w=false:=by
 cases hB:σ.isB k w with
 |false=>rfl
 |true=>obtain⟨t,ht,-⟩:=isB_tok hB;exact absurd (tok_at ht).1 h
theorem bad_back {n:Nat}{σ τ:PS X}(h:Fol n σ τ)(hb:τ.bad=none):σ.bad=none:=by
 cases hs:σ.bad with
 |none=>rfl
 |some f=>exact absurd hb (h.bad (by rw [hs];exact fun e=>by cases e))
def namesQ (σ:PS X):List ByteArray×PS X:=namesL (X.L.length+1) [] σ
theorem namesQ_st (σ:PS X):(namesQ σ).2=(names σ).2:=by
 unfold namesQ names
 cases hb:σ.bad with
 |none=>rfl
 |some f=>
  have h:σ.bad≠none:=by rw [hb];exact fun e=>by cases e
  have e1:(take 1 σ).2=σ:=(take_fol 1 σ).stk h
  rw [namesL,e1,isB_bad h,if_neg Bool.false_ne_true]
  exact settle_stk h
theorem namesQ_eq {σ:PS X}(h:σ.bad=none):namesQ σ=names σ:=by unfold namesQ names;rw [h]
section
variable (dec : ByteArray → Int × Nat)
def rowQ (σ:PS X):List (List Trm)×PS X:=rowL dec (X.L.length+1) [] σ
theorem rowQ_st (σ:PS X):(rowQ dec σ).2=(row dec σ).2:=by
 unfold rowQ row
 cases hb:σ.bad with
 |none=>rfl
 |some f=>
  have h:σ.bad≠none:=by rw [hb];exact fun e=>by cases e
  have e1:(sum0 dec σ).2=σ:=(sum0_good dec σ).1.stk h
  rw [rowL,e1,isB_bad h,if_neg Bool.false_ne_true]
  exact settle_stk h
theorem rowQ_eq {σ:PS X}(h:σ.bad=none):rowQ dec σ=row dec σ:=by unfold rowQ row;rw [h]
variable (cnt : ByteArray → Option Nat)
def varQ (σ:PS X):VarD×PS X:=(⟨(take 1 σ).1,(count cnt (var1 σ)).1,(namesQ (var2 cnt σ)).1,(props (var3 cnt σ)).1⟩,(varD cnt σ).2)
theorem varQ_eq {σ:PS X}(h:(varD cnt σ).2.bad=none):varQ cnt σ=varD cnt σ:=by
 have f:Fol 0 (var2 cnt σ) (varD cnt σ).2:=((((names_fol _).trans (need_fol 4 kRC _)).trans (need_fol 4 kSemi _)).trans (props_fol _)).trans (need_fol 4 kRC _)
 unfold varQ
 rw [namesQ_eq (bad_back f h)]
 rfl
def ent1Q (σ:PS X):Int×List ByteArray×PS X:=
 if σ.isB 1 kTab=true then(1,[],σ.adv)
 else if σ.isB 1 kDef=true then(2,[],σ.adv)
 else(3,(namesQ (need 4 kOpen σ)).1,need 4 kShut (names (need 4 kOpen σ)).2)
theorem ent1Q_st (σ:PS X):(ent1Q σ).2.2=(ent1 σ).2.2:=by
 unfold ent1Q ent1
 split
 ·rfl
 ·split<;>rfl
theorem ent1Q_eq {σ:PS X}(h:(ent1 σ).2.2.bad=none):ent1Q σ=ent1 σ:=by
 unfold ent1Q ent1 at *
 split at h
 ·rename_i c;rw [if_pos c,if_pos c]
 ·rename_i c
  rw [if_neg c,if_neg c]
  split at h
  ·rename_i c2;rw [if_pos c2,if_pos c2]
  ·rename_i c2
   rw [if_neg c2,if_neg c2]
   rw [namesQ_eq (bad_back ((names_fol _).trans (need_fol 4 kShut _)) h)]
def entQ (σ:PS X):EntD×PS X:=(⟨(ent1Q σ).1,(ent1Q σ).2.1,(rowQ dec (ent1Q σ).2.2).1⟩,(entD dec σ).2)
theorem entQ_eq {σ:PS X}(h:(entD dec σ).2.bad=none):entQ dec σ=entD dec σ:=by
 have f:Fol 0 (ent1 σ).2.2 (entD dec σ).2:=(row_fol dec _).trans (need_fol 4 kSemi _)
 have hb:=bad_back f h
 unfold entQ
 rw [ent1Q_eq hb,rowQ_eq dec hb]
 rfl
def prbLQ : Nat→List EntD→List ByteArray→PS X→List EntD×List ByteArray×PS X
 |0,es,ps,σ=>(es,ps,σ)
 |k+1,es,ps,σ=>
  match σ.bad with
  |some _=>(es,ps,σ)
  |none=>
   if σ.isB 4 kRC=true then(es,ps,σ.adv)
   else if σ.isB 1 kProp=true then prbLQ k es (ps ++ (props σ).1) (props σ).2
   else prbLQ k (es ++ [(entQ dec σ.settle).1]) ps (entD dec σ.settle).2
theorem prbLQ_st : ∀(k:Nat) (es es':List EntD) (ps ps':List ByteArray) (σ:PS X),(prbLQ dec k es ps σ).2.2=(prbL dec k es' ps' σ).2.2
 |0,_,_,_,_,_=>rfl
 |k+1,es,es',ps,ps',σ=>by
  rw [prbLQ,prbL]
  cases hb:σ.bad with
  |some f=>rfl
  |none=>
   simp only
   split
   ·rfl
   ·split
    ·exact prbLQ_st k _ _ _ _ _
    ·exact prbLQ_st k _ _ _ _ _
theorem prbLQ_eq : ∀(k:Nat) (es:List EntD) (ps:List ByteArray) (σ:PS X),(prbL dec k es ps σ).2.2.bad=none→prbLQ dec k es ps σ=prbL dec k es ps σ
 |0,_,_,_,_=>rfl
 |k+1,es,ps,σ,h=>by
  rw [prbL] at h
  rw [prbLQ,prbL]
  cases hb:σ.bad with
  |some f=>rfl
  |none=>
   rw [hb] at h
   simp only at h ⊢
   split
   ·rfl
   ·rename_i c1
    rw [if_neg c1] at h
    split
    ·rename_i c2
     rw [if_pos c2] at h
     exact prbLQ_eq k _ _ _ h
    ·rename_i c2
     rw [if_neg c2] at h
     rw [entQ_eq dec (bad_back (prbL_fol dec k _ _ _) h)]
     exact prbLQ_eq k _ _ _ h
def prb1Q (σ:PS X):List ByteArray×PS X:=if σ.isB 4 kBar=true then namesQ σ.adv else([],σ.settle)
theorem prb1Q_st (σ:PS X):(prb1Q σ).2=(prb1 σ).2:=by
 unfold prb1Q prb1
 split
 ·exact namesQ_st _
 ·rfl
theorem prb1Q_eq {σ:PS X}(h:(prb1 σ).2.bad=none):prb1Q σ=prb1 σ:=by
 unfold prb1Q
 unfold prb1 at h ⊢
 split
 ·rename_i c
  rw [if_pos c] at h
  exact namesQ_eq (bad_back (names_fol _) h)
 ·rfl
def prbQ (σ:PS X):PrbD×PS X:=(⟨(take 1 (need 4 kOpen σ)).1,(prb1Q (take 1 (need 4 kOpen σ)).2).1,(prbLQ dec (X.L.length+2) [] [] (prb2 σ)).1,(prbLQ dec (X.L.length+2) [] [] (prb2 σ)).2.1⟩,(prbD dec σ).2)
theorem prbQ_eq {σ:PS X}(h:(prbD dec σ).2.bad=none):prbQ dec σ=prbD dec σ:=by
 have h1:(prbR dec σ).2.2.bad=none:=h
 have h2:=bad_back (prbL_fol dec (X.L.length+2) [] [] (prb2 σ)) h1
 have h3:=bad_back ((need_fol 4 kShut (prb1 (take 1 (need 4 kOpen σ)).2).2).trans (need_fol 4 kLC _)) h2
 unfold prbQ
 rw [prbLQ_eq dec _ _ _ _ h1,prb1Q_eq h3]
 rfl
def partLQ : Nat→List VarD→List PrbD→PS X→List VarD×List PrbD×PS X
 |0,vs,ps,σ=>(vs,ps,σ)
 |k+1,vs,ps,σ=>
  if σ.isB 1 kVar=true then partLQ k (vs ++ [(varQ cnt σ.adv).1]) ps (varD cnt σ.adv).2
  else if σ.isB 1 kProb=true then partLQ k vs (ps ++ [(prbQ dec σ.adv).1]) (prbD dec σ.adv).2
  else(vs,ps,σ.settle)
theorem partL_fol : ∀(k:Nat) (vs:List VarD) (ps:List PrbD) (σ:PS X),Fol 0 σ (partL dec cnt k vs ps σ).2.2
 |0,_,_,_=>Fol.refl _
 |k+1,vs,ps,σ=>by
  rw [partL];split
  ·rename_i h;exact(((adv_fol1 h (by decide)).trans (varD_fol cnt _)).trans (partL_fol k _ _ _)).weak (Nat.zero_le _)
  ·split
   ·rename_i h;exact(((adv_fol1 h (by decide)).trans (prbD_fol dec _)).trans (partL_fol k _ _ _)).weak (Nat.zero_le _)
   ·exact settle_fol _
theorem partLQ_st : ∀(k:Nat) (vs vs':List VarD) (ps ps':List PrbD) (σ:PS X),(partLQ dec cnt k vs ps σ).2.2=(partL dec cnt k vs' ps' σ).2.2
 |0,_,_,_,_,_=>rfl
 |k+1,vs,vs',ps,ps',σ=>by
  rw [partLQ,partL]
  split
  ·exact partLQ_st k _ _ _ _ _
  ·split
   ·exact partLQ_st k _ _ _ _ _
   ·rfl
theorem partLQ_eq : ∀(k:Nat) (vs:List VarD) (ps:List PrbD) (σ:PS X),(partL dec cnt k vs ps σ).2.2.bad=none→partLQ dec cnt k vs ps σ=partL dec cnt k vs ps σ
 |0,_,_,_,_=>rfl
 |k+1,vs,ps,σ,h=>by
  rw [partL] at h
  rw [partLQ,partL]
  split
  ·rename_i c
   rw [if_pos c] at h
   rw [varQ_eq cnt (bad_back (partL_fol dec cnt k _ _ _) h)]
   exact partLQ_eq k _ _ _ h
  ·rename_i c
   rw [if_neg c] at h
   split
   ·rename_i c2
    rw [if_pos c2] at h
    rw [prbQ_eq dec (bad_back (partL_fol dec cnt k _ _ _) h)]
    exact partLQ_eq k _ _ _ h
   ·rfl
theorem fin_fol (σ:PS X):Fol 0 σ (fin σ):=by
 unfold fin
 split
 ·split
  ·exact Fol.refl _
  ·exact wrong_fol _ _
 ·exact settle_fol _
end
end PS
open Go.Proofs
variable {W : Txt}
def fTl (f:Flt):List T:=[.con (.int .i64 f.code),.con (.int .i64 f.line),.con (.int .i64 f.col),.con (.string f.word)]
def vFp : Option Flt→V
 |none=>.con (.pointer none)
 |some f=>.ro false (.ptr (fTl f))
def prV (W:Txt)(a:Nat)(b:Option Flt)(n:Nat):V:=.agg [.ro true (tToks W.L),vFp W.late,.con (.int .i64 a),vFp b,.con (.int .i64 n)]
def prO (W:Txt)(a:Nat)(b:Option Flt)(n:Nat):Obj:=⟨5,[prV W a b n],0,true⟩
def prQ (W:Txt)(a:Nat)(b:Option Flt)(n:Nat):OH:=[(0,prO W a b n)]
def pO (σ:PS W):OH:=prQ W σ.at_ σ.bad σ.opn
theorem vFp_dat (b:Option Flt):(vFp b).dat1:=by
 cases b with
 |none=>exact⟨_,.inl rfl⟩
 |some f=>exact⟨default,.inr ⟨_,_,rfl⟩⟩
theorem dat_cons {v:V}{l:List V}(h0:v.dat1)(h:∀v ∈ l,v.dat1):∀u ∈ v :: l,u.dat1:=by
 intro u hu
 rcases List.mem_cons.1 hu with rfl|hu
 ·exact h0
 ·exact h u hu
theorem prV_dat (a:Nat)(b:Option Flt)(n:Nat):∀v ∈ [V.ro true (tToks W.L),vFp W.late,.con (.int .i64 a),vFp b,.con (.int .i64 n)],v.dat1:=
 dat_ro (dat_cons (vFp_dat _) (dat_con (dat_cons (vFp_dat _) (dat_con dat_nil))))
theorem V.dat1.fl {v:V}(h:v.dat1):v.flat1:=by
 obtain⟨x,rfl|⟨f,t,rfl⟩⟩:=h<;>trivial
theorem prV_flat (a:Nat)(b:Option Flt)(n:Nat):(prV W a b n).flat:=fun v hv=>(prV_dat a b n v hv).fl
theorem pr_flat (a:Nat)(b:Option Flt)(n:Nat):∀e ∈ (prO W a b n).el,e.flat:=one_flat (prV_flat a b n)
theorem pr_cl {a:Nat}{b:Option Flt}{n:Nat}(oh:OH):∀v ∈ (prO W a b n).el,v.cl oh:=fun v hv=>(pr_flat a b n v hv).cl oh
theorem pr_after {a a':Nat}{b b':Option Flt}{n n':Nat}{i:Nat}{o:Obj}(h:oget (prQ W a' b' n' ++ prQ W a b n) i=some o):i=0∧o=prO W a' b' n':=by
 by_cases h0:i=0
 ·subst h0
  have e:oget (prQ W a' b' n' ++ prQ W a b n) 0=some (prO W a' b' n'):=rfl
  rw [e] at h
  exact⟨rfl,(Option.some.inj h).symm⟩
 ·rw [show prQ W a' b' n' ++ prQ W a b n=[(0,_),(0,_)] from rfl,oget,if_neg (Ne.symm h0),oget,if_neg (Ne.symm h0)] at h
  cases h
theorem pr_pin {s:St}{vs:List V}{a a':Nat}{b b':Option Flt}{n n' np:Nat}(hs:oget s.oh 0=some (prO W a' b' n'))(hnp:0 < np)(he:eget s.env 0=.ref 0 0 0 0) :
  ∀i o o',oget (prQ W a b n) i=some o→oget (prQ W a' b' n' ++ prQ W a b n) i=some o'→o'.ver=0→PinG np (.ref 0 0 0 0 :: vs) s i o:=by
 intro i o o' h1 h2 h3
 obtain⟨rfl,rfl⟩:=pr_after h2
 obtain⟨-,rfl⟩:=oget_one h1
 exact⟨Nat.zero_lt_succ _,⟨_,hs,rfl,rfl,rfl⟩,0,_,hnp,rfl,he,⟨rfl,rfl⟩⟩
theorem pr_bm {s:St}{a a':Nat}{b b':Option Flt}{n n':Nat}(hs:oget s.oh 0=some (prO W a' b' n')):Bm s.oh (prQ W a' b' n' ++ prQ W a b n):=by
 intro i o h
 obtain⟨rfl,rfl⟩:=pr_after h
 refine⟨_,hs,rfl,rfl,rfl,rfl,fun k e e1 he he1=>?_⟩
 rw [he] at he1
 obtain rfl:e=e1:=by simpa using he1
 cases k with
 |zero=>
  obtain rfl:prV W a' b' n'=e:=by simpa [prO] using he
  exact bm_aggD (prV_dat a' b' n')
 |succ k=>simp [prO] at he
theorem okp_of_ev {P:Program}{C:CT}(hC:∀q ts r,C q ts r→OkR P q ts r)(hmix:P.follows .mixedOrders=true){q:FuncId}{fn:Func}{c:Code}{a a':Nat}{b b':Option Flt}{n n':Nat}{vs:List V}{r:V}(np:Nat)(hnp:np≤(V.ref 0 0 0 0 :: vs).length)
  (hfn:P.funcs[q]?=some fn) (hname:(fn.name == "runtime.NumGoroutine")=false) (hbody:fn.body=some c) (hok:okB fn.ntmps c=true) (hpar:parB np c=true) (hlen:(V.ref 0 0 0 0 :: vs).length≤fn.ntmps)
  (hvs:∀v ∈ vs,v.flat)
  (h:evC P C c ⟨fn.ntmps,argEnvV 0 (.ref 0 0 0 0 :: vs),[(0,prO W a b n)]⟩ (RetG P fn np (prQ W a b n) (.ref 0 0 0 0 :: vs) (prQ W a' b' n') r)):OkG P q (prQ W a b n) [] (.ref 0 0 0 0 :: vs) (prQ W a' b' n') r:=
 okg_of_ev hC hmix np hnp hfn hname hbody hok hpar hlen
  (fun i o h=>by
   obtain⟨rfl,rfl⟩:=oget_one h
   exact⟨rfl,rfl,pr_cl _⟩)
  (fun v hv=>by
   rcases List.mem_cons.1 hv with rfl|hv
   ·exact rfl
   ·exact(hvs v hv).cl _)
  (fun i o h=>by
   obtain⟨rfl,rfl⟩:=oget_one h
   exact .inl rfl)
  (fun i o o' h1 h2 h3 h4=>by
   obtain⟨rfl,rfl⟩:=pr_after h2
   obtain⟨-,rfl⟩:=oget_one h1
   exact⟨rfl,Nat.le_refl _⟩) h
theorem rn_id (m vo:Nat→Nat){v:V}(h:v.flat):v.rnA m vo=v:=by
 cases v with
 |agg l=>
  show V.agg (l.map _)=_
  congr 1
  rw [List.map_congr_left (g:=id),List.map_id]
  intro u hu
  have:=h u hu
  cases u<;>first|rfl|exact this.elim
 |con _=>rfl
 |ro _ _=>rfl
 |emp=>rfl
 |undef=>exact h.elim
 |own _ _ _ _=>exact h.elim
 |ref _ _ _ _=>exact h.elim
 |wr _ _ _ _ _=>exact h.elim
 |tup _=>exact h.elim
theorem pr_rn (m vo:Nat→Nat)(hv:vo 0=0)(a:Nat)(b:Option Flt)(n:Nat):rnO m vo (prQ W a b n)=[(m 0,prO W a b n)]:=by
 show [(m 0,Obj.mk 5 [(prV W a b n).rnA m vo] (vo 0+0) true)]=_
 rw [rn_id _ _ (prV_flat a b n),hv];rfl
theorem pr_call {C:CT}{q:FuncId}{args vs:List V}{oh:OH}{a a':Nat}{b b':Option Flt}{n n':Nat}{r:V}{k:Acc→Prop}(id:Nat)(hc:C q [] (.gen (prQ W a b n) [] vs (prQ W a' b' n') r))
  (ha:args.map V.wk=vs.map (V.rnA (fun _=>id) (fun _=>0))) (hp:oget oh id=some (prO W a b n)) (hr:∀m vo,r.rn m vo=r)
  (hk:k ⟨[(id,prO W a b n)],[],[(id,prO W a' b' n')],r⟩):GenK C q args oh k:=by
 refine⟨_,_,vs,_,r,fun _=>id,fun _=>0,hc,ha,fun p hp'=>?_,fun i hi=>by simp at hi,fun i hi j hj _=>?_,?_⟩
 ·obtain rfl:=List.mem_singleton.1 hp'
  show oget oh id=some (Obj.mk 5 [(prV W a b n).rnA _ _] _ true)
  rw [rn_id _ _ (prV_flat a b n)];exact hp
 ·have e1:i=0:=by simpa [prQ] using hi
  have e2:j=0:=by simpa [prQ] using hj
  rw [e1,e2]
 ·rw [pr_rn _ _ rfl,pr_rn _ _ rfl,hr]
  exact hk
theorem zp {C:CT}{q:FuncId}{args vs:List V}{oh:OH}{a a':Nat}{b b':Option Flt}{n n':Nat}{r:V}{k:Acc→Prop}{A B D:Prop}(id:Nat)(hc:C q [] (.gen (prQ W a b n) [] vs (prQ W a' b' n') r))(hk:k ⟨[(id,prO W a b n)],[],[(id,prO W a' b' n')],r⟩)
  (ha:args.map V.wk=vs.map (V.rnA (fun _=>id) (fun _=>0)):=by rfl) (hp:oget oh id=some (prO W a b n):=by rfl) (hr:∀m vo,r.rn m vo=r:=by exact fun _ _=>rfl):A∨B∨GenK C q args oh k∨D:=Or.inr (Or.inr (Or.inl (pr_call id hc ha hp hr hk)))
theorem pr_ret0 {P:Program}{fn:Func}{s:St}{vs:List V}{a a':Nat}{b b':Option Flt}{n n' np:Nat}{x:X}(hx:match x with|.exit _=>False|_=>True)(hr:fn.results.toList=[])(hs:oget s.oh 0=some (prO W a' b' n'))(hnp:0 < np)(he:eget s.env 0=.ref 0 0 0 0) :
  RetG P fn np (prQ W a b n) (.ref 0 0 0 0 :: vs) (prQ W a' b' n') (.tup []) x s:=by
 refine⟨hx,false,s,rfl,pr_pin hs hnp he,pr_bm hs,?_⟩
 rw [hr]
theorem pr_ret1 {P:Program}{fn:Func}{s:St}{vs:List V}{a a':Nat}{b b':Option Flt}{n n' np t:Nat}{v:V}(hr:fn.results.toList=[.tmp t])(ht:eget s.env t=v)(hb:v.dat1)(hs:oget s.oh 0=some (prO W a' b' n'))(hnp:0 < np)(he:eget s.env 0=.ref 0 0 0 0) :
  RetG P fn np (prQ W a b n) (.ref 0 0 0 0 :: vs) (prQ W a' b' n') v .ret s:=by
 refine⟨trivial,false,s,rfl,pr_pin hs hnp he,pr_bm hs,?_⟩
 rw [hr]
 show BmA _ _ (eget s.env t) v
 rw [ht]
 obtain⟨x,rfl|⟨f,t,rfl⟩⟩:=hb
 ·exact BmC.con _
 ·exact BmC.ro _ _
theorem pr_retb {P:Program}{fn:Func}{s:St}{vs:List V}{a a':Nat}{b b':Option Flt}{n n' np t:Nat}{x y:Bool}(hr:fn.results.toList=[.tmp t])(ht:eget s.env t=.con (.bool x))(hb:x=y)(hs:oget s.oh 0=some (prO W a' b' n'))(hnp:0 < np)(he:eget s.env 0=.ref 0 0 0 0) :
  RetG P fn np (prQ W a b n) (.ref 0 0 0 0 :: vs) (prQ W a' b' n') (.con (.bool y)) .ret s:=pr_ret1 hr (hb▸ht) ⟨_,.inl rfl⟩ hs hnp he
theorem lv_ofT1 {oh oh1:OH}{f:Bool}{v:V}{r:T}(h:Fd1 oh oh1 f v r):LV oh oh1 v (V.ofT1 f r):=by
 cases r<;>exact Lc.frz f _ _ h
theorem bm_ofT1 {oh oh1:OH}{f:Bool}(r:T):BmA oh oh1 (V.ofT1 f r) (V.ofT1 f r):=by
 cases r<;>first|exact BmC.con _|exact BmC.ro _ _
theorem lv_prV {oh oh1:OH}{a:Nat}{b:Option Flt}{n:Nat}{e:V}(h:Lc oh oh1 e (vFp b)) :
  LV oh oh1 (.agg [.ro true (tToks W.L),vFp W.late,.con (.int .i64 a),e,.con (.int .i64 n)]) (prV W a b n):=by
 refine⟨rfl,fun j x y hx hy=>?_⟩
 match j with
 |0=>simp at hx hy;subst hx;subst hy;exact Lc.same _ trivial
 |1=>simp at hx hy;subst hx;subst hy;exact Lc.same _ ((vFp_dat _).fl.cl1 _)
 |2=>simp at hx hy;subst hx;subst hy;exact Lc.same _ trivial
 |3=>simp at hx hy;subst hx;subst hy;exact h
 |4=>simp at hx hy;subst hx;subst hy;exact Lc.same _ trivial
 |j+5=>simp at hx
theorem fd_flt {oh oh1:OH}{id:Nat}{f:Flt}(ho:oget oh id=some ⟨4,[.agg [.con (.int .i64 f.code),.con (.int .i64 f.line),.con (.int .i64 f.col),.con (.string f.word)]],0,true⟩)(hd:oget oh1 id=none):Lc oh oh1 (.ref id 0 0 0) (vFp (some f)):=by
 refine Lc.frz false (.ref id 0 0 0) (.ptr (fTl f)) (Fd1.ref id 0 0 0 _ _ _ ho hd rfl rfl rfl rfl fun j v u h1 h2=>?_)
 match j with
 |0=>simp [V.cells] at h1;simp [fTl] at h2;subst h1;subst h2;exact .con _
 |1=>simp [V.cells] at h1;simp [fTl] at h2;subst h1;subst h2;exact .con _
 |2=>simp [V.cells] at h1;simp [fTl] at h2;subst h1;subst h2;exact .con _
 |3=>simp [V.cells] at h1;simp [fTl] at h2;subst h1;subst h2;exact .con _
 |j+4=>simp [V.cells] at h1
theorem pr_retf0 {P:Program}{fn:Func}{s:St}{vs:List V}{a a':Nat}{b:Option Flt}{n n' np id:Nat}{f:Flt}{x:X}(hx:match x with|.exit _=>False|_=>True)(hr:fn.results.toList=[])
  (hs:oget s.oh 0=some ⟨5,[.agg [.ro true (tToks W.L),vFp W.late,.con (.int .i64 a'),.ref id 0 0 0,.con (.int .i64 n')]],0,true⟩) (h0:id≠0)
  (ho:oget s.oh id=some ⟨4,[.agg [.con (.int .i64 f.code),.con (.int .i64 f.line),.con (.int .i64 f.col),.con (.string f.word)]],0,true⟩) (hnp:0 < np) (he:eget s.env 0=.ref 0 0 0 0) :
  RetG P fn np (prQ W a b n) (.ref 0 0 0 0 :: vs) (prQ W a' (some f) n') (.tup []) x s:=by
 refine⟨hx,true,⟨s.n,[(0,.ref 0 0 0 0)],prQ W a' (some f) n'⟩,?_,pr_pin rfl hnp rfl,pr_bm rfl,?_⟩
 ·show Lf _ ⟨s.n,s.env,s.oh⟩
  refine lf_of0 ⟨?_,trivial⟩ ⟨?_,trivial⟩
  ·rw [he];exact Lc.same _ rfl
  ·exact lfOb_one hs (lv_prV (fd_flt ho (by show oget [(0,_)] id=none;rw [oget,if_neg (Ne.symm h0)];rfl)))
 ·rw [hr]
def ptokV : Option Tok→V
 |some t=>.tup [vTok t,.con (.bool true)]
 |none=>.tup [.agg [.con (.int .i8 0),.con (.string eS),.con (.int .i64 0),.con (.int .i64 0)],.con (.bool false)]
theorem pr_retn {P:Program}{fn:Func}{s:St}{vs:List V}{a a':Nat}{b b':Option Flt}{n n' np t t2 ty id ver sz:Nat}{l:List Value}{x:Value}{fs:List (Nat×Nat)}{z:List Value}(hr:fn.results.toList=[.cell t ty,.tmp t2])(ht:tk P ty=.st fs z)(hz:z.length=(l.map V.con).length)(h0:0 < (l.map V.con).length)
  (ha:eget s.env t=.ref id ver 0 0) (ho:oget s.oh id=some ⟨sz,[.agg (l.map .con)],ver,true⟩) (h2:eget s.env t2=.con x) (hs:oget s.oh 0=some (prO W a' b' n')) (hnp:0 < np) (he:eget s.env 0=.ref 0 0 0 0) :
  RetG P fn np (prQ W a b n) (.ref 0 0 0 0 :: vs) (prQ W a' b' n') (.tup [.agg (l.map .con),.con x]) .ret s:=by
 refine⟨trivial,false,s,rfl,pr_pin hs hnp he,pr_bm hs,?_⟩
 rw [hr]
 have h:resV P s (.cell t ty) (fun v=>resV P s (.tmp t2) fun u=>∃r1 r2,V.tup [.agg (l.map .con),.con x]=.tup [r1,r2]∧BmA s.oh (prQ W a' b' n' ++ prQ W a b n) v r1∧BmA s.oh (prQ W a' b' n' ++ prQ W a b n) u r2):=by
  refine resc ht hz h0 ha ho ?_
  refine⟨_,_,rfl,bm_aggC l,?_⟩
  show BmA _ _ (eget s.env t2) _
  rw [h2];exact BmC.con _
 exact h
theorem settle_pO {σ:PS W}(hb:σ.bad=none)(h:W.L[σ.at_]?=none):pO σ.settle=prQ W σ.at_ W.late σ.opn:=by
 unfold pO PS.settle
 rw [hb,h]
theorem fl0 : ∀v ∈ ([]:List V),v.flat:=fun v h=>by simp at h
theorem flc {x:Value}{l:List V}(h:∀v ∈ l,v.flat):∀v ∈ V.con x :: l,v.flat:=by
 intro v hv
 rcases List.mem_cons.1 hv with rfl|hv
 ·exact trivial
 ·exact h v hv
theorem pNow_ok (σ:PS W):OkG Tryz.prog 28 (pO σ) [] [.ref 0 0 0 0] (pO σ.settle) (ptokV σ.tok):=by
 cases hb:σ.bad with
 |some f=>
  have e1:σ.settle=σ:=by unfold PS.settle;rw [hb]
  have e2:σ.tok=none:=by unfold PS.tok;rw [hb]
  rw [e1,e2]
  unfold pO
  rw [hb]
  refine okp_of_ev hC0 mix 1 (zO rfl) Tryz.func28 rfl rfl (by kernel_rfl) (by kernel_rfl) (zO rfl) ?vs ?_
  case vs=>exact fl0
  repeat'(first|(with_reducible first|(refine zz ?_;try intro K hK)|refine zI ?_|refine zt ?_|refine zf ?_)|((first|refine hK _ ?_|refine hK _ _ rfl ?_);clear hK K)|(guard_hyp hK;first|(refine zY ?zz ?_;case zz=>first|exact rfl|exact gJ)|refine fresh_n ?_|refine freshO_n ?_|refine zW ?_|intro b0 hb)|((first|with_reducible refine zm ?_|guard_hyp hK);refine zY ?_ ?_;all_goals(intro hb;(try simp only [sn,sb] at hb);try exact ex0)))
  exact pr_retn (l:=[.int .i8 0,.string eS,.int .i64 0,.int .i64 0]) rfl tk85 rfl (Nat.zero_lt_succ _) rfl rfl rfl rfl (by decide) rfl
 |none=>
  cases hl:W.L[σ.at_]? with
  |some t=>
   have hlt:σ.at_ < W.L.length:=(List.getElem?_eq_some_iff.1 hl).1
   have e2:σ.tok=some t:=by unfold PS.tok;rw [hb];exact hl
   have e1:σ.settle=σ:=PS.settle_some e2
   rw [e1,e2]
   unfold pO
   rw [hb]
   refine okp_of_ev hC0 mix 1 (zO rfl) Tryz.func28 rfl rfl (by kernel_rfl) (by kernel_rfl) (zO rfl) ?vs ?_
   case vs=>exact fl0
   repeat'(first|(refine Exists.intro _ (And.intro (at_tk hl) ?_))|(with_reducible first|(refine zz ?_;try intro K hK)|refine zI ?_|refine zt ?_|refine zf ?_)|((first|refine hK _ ?_|refine hK _ _ rfl ?_);clear hK K)|(guard_hyp hK;first|(refine zY ?zz ?_;case zz=>first|exact rfl|exact gJ)|refine fresh_n ?_|refine freshO_n ?_|refine zW ?_|intro b0 hb)|((first|with_reducible refine zm ?_|guard_hyp hK);refine zY ?_ ?_;all_goals(intro hb;(try simp only [sn,sb] at hb);try exact ex0)))
   exact pr_retn (l:=[.int .i8 t.kind,.string t.text,.int .i64 t.line,.int .i64 t.col]) rfl tk85 rfl (Nat.zero_lt_succ _) rfl rfl rfl rfl (by decide) rfl
  |none=>
   have hlt:W.L.length≤σ.at_:=List.getElem?_eq_none_iff.1 hl
   have e2:σ.tok=none:=by unfold PS.tok;rw [hb];exact hl
   have hls:=late_some hl
   rw [settle_pO hb hl,e2]
   unfold pO
   rw [hb]
   clear e2 hl hb
   obtain⟨a,b,n,h1,h2⟩:=σ
   obtain⟨L,late,h3,h4⟩:=W
   dsimp only at hlt hls ⊢
   cases late with
   |none=>exact absurd rfl hls
   |some f=>
    refine okp_of_ev hC0 mix 1 (zO rfl) Tryz.func28 rfl rfl (by kernel_rfl) (by kernel_rfl) (zO rfl) ?vs ?_
    case vs=>exact fl0
    repeat'(first|(with_reducible first|(refine zz ?_;try intro K hK)|refine zI ?_|refine zt ?_|refine zf ?_)|((first|refine hK _ ?_|refine hK _ _ rfl ?_);clear hK K)|(guard_hyp hK;first|(refine zY ?zz ?_;case zz=>first|exact rfl|exact gJ)|refine fresh_n ?_|refine freshO_n ?_|refine zW ?_|intro b0 hb)|((first|with_reducible refine zm ?_|guard_hyp hK);refine zY ?_ ?_;all_goals(intro hb;(try simp only [sn,sb] at hb);try exact ex0)))
    exact pr_retn (l:=[.int .i8 0,.string eS,.int .i64 0,.int .i64 0]) rfl tk85 rfl (Nat.zero_lt_succ _) rfl rfl rfl rfl (by decide) rfl
theorem pO_none {σ:PS W}(ht:σ.tok=none):pO σ.settle=prQ W σ.at_ σ.settle.bad σ.opn:=by
 unfold pO PS.settle
 split
 ·rfl
 ·split<;>rfl
theorem pO_some {σ:PS W}{t:Tok}(ht:σ.tok=some t):pO σ=prQ W σ.at_ none σ.opn:=by
 unfold pO;rw [(PS.tok_at ht).1]
theorem pO_adv {σ:PS W}{t:Tok}(ht:σ.tok=some t)(hk:t.kind≠0):pO σ.adv=prQ W (σ.at_+1) none σ.opn:=by
 obtain⟨h1,h2,h3⟩:=PS.adv_at ht hk
 unfold pO;rw [h1,h2,h3]
theorem pO_wrong {σ:PS W}{t:Tok}(ht:σ.tok=some t)(c:Int)(hc:c≠0):pO (σ.wrong c hc)=prQ W σ.at_ (some ⟨c,t.line,t.col,t.text⟩) σ.opn:=by
 obtain⟨h1,h2,-⟩:=PS.tok_at ht
 unfold pO PS.wrong
 rw [h1,h2]
theorem pWrong_ok (σ:PS W)(c:Int)(hc:c≠0):OkG Tryz.prog 26 (pO σ) [] [.ref 0 0 0 0,.con (.int .i64 c)] (pO (σ.wrong c hc)) (.tup []):=by
 have hlk:=pNow_ok σ
 cases ht:σ.tok with
 |none=>
  rw [ht] at hlk
  rw [wrong_none ht,pO_none ht]
  rw [pO_none ht] at hlk
  unfold pO at hlk ⊢
  refine okp_of_ev hC0 mix 1 (zO rfl) Tryz.func26 rfl rfl (by kernel_rfl) (by kernel_rfl) (zO rfl) ?vs ?_
  case vs=>exact flc fl0
  repeat'(first|(with_reducible first|(refine zz ?_;try intro K hK)|refine zI ?_|refine zt ?_|refine zf ?_)|((first|refine hK _ ?_|refine hK _ _ rfl ?_);clear hK K)|(guard_hyp hK;first|(refine zY ?zz ?_;case zz=>first|exact rfl|exact gJ)|refine fresh_n ?_|refine freshO_n ?_|refine zW ?_|refine zp 0 (hlk) ?_|intro b0 hb)|((first|with_reducible refine zm ?_|guard_hyp hK);refine zY ?_ ?_;all_goals(intro hb;(try simp only [sn,sb] at hb);try exact ex0)))
  all_goals exact pr_ret0 trivial rfl rfl (by decide) rfl
 |some t=>
  rw [ht,PS.settle_some ht] at hlk
  rw [pO_wrong ht]
  rw [pO_some ht] at hlk ⊢
  refine okp_of_ev hC0 mix 1 (zO rfl) Tryz.func26 rfl rfl (by kernel_rfl) (by kernel_rfl) (zO rfl) ?vs ?_
  case vs=>exact flc fl0
  repeat'(first|(with_reducible first|(refine zz ?_;try intro K hK)|refine zI ?_|refine zt ?_|refine zf ?_)|((first|refine hK _ ?_|refine hK _ _ rfl ?_);clear hK K)|(guard_hyp hK;first|(refine zY ?zz ?_;case zz=>first|exact rfl|exact gJ)|refine fresh_n ?_|refine freshO_n ?_|refine zW ?_|refine zp 0 (hlk) ?_|intro b0 hb)|((first|with_reducible refine zm ?_|guard_hyp hK);refine zY ?_ ?_;all_goals(intro hb;(try simp only [sn,sb] at hb);try exact ex0)))
  all_goals exact pr_retf0 trivial rfl rfl (Nat.ne_of_gt (Nat.le_of_ble_eq_true rfl)) rfl (by decide) rfl
end Go.Ev
