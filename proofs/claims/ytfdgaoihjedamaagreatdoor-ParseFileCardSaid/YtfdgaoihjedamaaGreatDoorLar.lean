import Derived.Test.YtfdgaoihjedamaaGreatDoorLaq
import Derived.Test.YtfdgaoihjedamaaGreatDoorLap
import Derived.Test.YtfdgaoihjedamaaGreatDoorLal
set_option linter.all false
set_option maxHeartbeats 4000000
set_option maxRecDepth 10000
namespace Go.Ev
open Go.Proofs
variable {W : Txt}
open PS (Trm)
def prP (W:Txt)(a:Nat)(b:Option Flt)(n:Nat)(l:List Trm)(v:Nat):OH:=[(0,prO W a b n),(3,⟨4,l.map vT,v,true⟩)]
def prT (σ:PS W)(l:List Trm):OH:=prP W σ.at_ σ.bad σ.opn l 0
theorem prp_after {a a':Nat}{b b':Option Flt}{n n' v:Nat}{l:List Trm}{i:Nat}{o:Obj}(h:oget (prP W a' b' n' l v ++ prQ W a b n) i=some o):(i=0∧o=prO W a' b' n')∨(i=3∧o=⟨4,l.map vT,v,true⟩):=by
 by_cases h0:i=0
 ·subst h0
  exact .inl ⟨rfl,(Option.some.inj h).symm⟩
 ·by_cases h3:i=3
  ·subst h3
   exact .inr ⟨rfl,(Option.some.inj h).symm⟩
  ·rw [show prP W a' b' n' l v ++ prQ W a b n=[(0,_),(3,_),(0,_)] from rfl,oget,if_neg (Ne.symm h0),oget,if_neg (Ne.symm h3),oget,if_neg (Ne.symm h0)] at h
   cases h
theorem okpT_of_ev {P:Program}{C:CT}(hC:∀q ts r,C q ts r→OkR P q ts r)(hmix:P.follows .mixedOrders=true){q:FuncId}{fn:Func}{c:Code}{a a':Nat}{b b':Option Flt}{n n':Nat}{l:List Trm}{r:V}(np:Nat)(hnp:np≤1)
  (hfn:P.funcs[q]?=some fn) (hname:(fn.name == "runtime.NumGoroutine")=false) (hbody:fn.body=some c) (hok:okB fn.ntmps c=true) (hpar:parB np c=true) (hlen:1≤fn.ntmps)
  (h:evC P C c ⟨fn.ntmps,argEnvV 0 [.ref 0 0 0 0],[(0,prO W a b n)]⟩ (RetG P fn np (prQ W a b n) [.ref 0 0 0 0] (prP W a' b' n' l 0) r)):OkG P q (prQ W a b n) [3] [.ref 0 0 0 0] (prP W a' b' n' l 0) r:=
 okg_of_ev hC hmix np hnp hfn hname hbody hok hpar hlen
  (fun i o h=>by
   obtain⟨rfl,rfl⟩:=oget_one h
   exact⟨rfl,rfl,pr_cl _⟩)
  (one_vs rfl)
  (fun i o h=>by
   by_cases h0:i=0
   ·subst h0;exact .inl rfl
   ·by_cases h3:i=3
    ·subst h3;exact .inr (List.mem_singleton.2 rfl)
    ·rw [prP,oget,if_neg (Ne.symm h0),oget,if_neg (Ne.symm h3)] at h
     cases h)
  (fun i o o' h1 h2 h3 h4=>by
   obtain⟨rfl,rfl⟩:=oget_one h1
   rcases prp_after h2 with⟨-,rfl⟩|⟨e,-⟩
   ·exact⟨rfl,Nat.le_refl _⟩
   ·cases e) h
theorem prp_bm {s:St}{a a':Nat}{b b':Option Flt}{n n' v:Nat}{l:List Trm}(hs:oget s.oh 0=some (prO W a' b' n'))(h3:oget s.oh 3=some ⟨4,l.map vT,v,true⟩):Bm s.oh (prP W a' b' n' l 0 ++ prQ W a b n):=by
 intro i o h
 rcases prp_after h with⟨rfl,rfl⟩|⟨rfl,rfl⟩
 ·refine⟨_,hs,rfl,rfl,rfl,rfl,fun k e e1 he he1=>?_⟩
  rw [he] at he1
  obtain rfl:e=e1:=by simpa using he1
  exact bmA_flat (pr_flat _ _ _ e (List.mem_of_getElem? he))
 ·refine⟨_,h3,rfl,rfl,rfl,rfl,fun k e e1 he he1=>?_⟩
  rw [he] at he1
  obtain rfl:e=e1:=by simpa using he1
  exact bmA_flat (vTs_flat l e (List.mem_of_getElem? he))
theorem pr_retT {P:Program}{fn:Func}{s:St}{vs:List V}{a a':Nat}{b b':Option Flt}{n n' np t v:Nat}{l:List Trm}(len:Nat)(hlen:len=l.length)(hr:fn.results.toList=[.tmp t])(h0:0≠t)(hs:lfOb s.oh (prP W a' b' n' l v) 0 (prO W a' b' n'))
  (hv9:LV s.oh (prP W a' b' n' l v) (eget s.env t) (.own 3 v 0 len)) (hl:lfOb s.oh (prP W a' b' n' l v) 3 ⟨4,l.map vT,v,true⟩) (hnp:0 < np) (he:eget s.env 0=.ref 0 0 0 0) :
  RetG P fn np (prQ W a b n) (.ref 0 0 0 0 :: vs) (prP W a' b' n' l 0) (.own 3 0 0 l.length) .ret s:=by
 subst hlen
 have e1:eget [(0,V.ref 0 0 0 0),(t,V.own 3 v 0 l.length)] t=V.own 3 v 0 l.length:=by
  simp [eget,h0]
 refine⟨trivial,true,⟨s.n,[(0,.ref 0 0 0 0),(t,.own 3 v 0 l.length)],prP W a' b' n' l v⟩,?_,fun i o o' g1 g2 g3=>?_,prp_bm rfl rfl,?_⟩
 ·show Lf _ ⟨s.n,s.env,s.oh⟩
  refine lf_of0 ⟨?_,hv9,trivial⟩ ⟨hs,hl,trivial⟩
  rw [he];exact Lc.same _ rfl
 ·obtain⟨rfl,rfl⟩:=oget_one g1
  exact⟨Nat.zero_lt_succ _,⟨_,rfl,rfl,rfl,rfl⟩,0,_,hnp,rfl,rfl,⟨rfl,rfl⟩⟩
 ·rw [hr]
  have h9:BmC (prP W a' b' n' l v) (prP W a' b' n' l 0 ++ prQ W a b n) (eget [(0,V.ref 0 0 0 0),(t,V.own 3 v 0 l.length)] t) (.own 3 0 0 l.length):=by
   rw [e1]
   exact BmC.own 3 v 0 0 _ _ _ rfl rfl rfl rfl
  exact h9
theorem pr_nilT {P:Program}{fn:Func}{s:St}{vs:List V}{a a':Nat}{b b':Option Flt}{n n' np t:Nat}(hr:fn.results.toList=[.tmp t])(h0:0≠t)(hs:lfOb s.oh (prP W a' b' n' [] 0) 0 (prO W a' b' n'))
  (he9:eget s.env t=.emp) (h3:oget s.oh 3=none) (hnp:0 < np) (he:eget s.env 0=.ref 0 0 0 0) :
  RetG P fn np (prQ W a b n) (.ref 0 0 0 0 :: vs) (prP W a' b' n' [] 0) (.own 3 0 0 ([]:List Trm).length) .ret s:=
 pr_retT 0 rfl hr h0 hs (by rw [he9];exact Lc.adopt 3 _ h3 rfl) (lfOb_new h3) hnp he
theorem pr_callT {C:CT}{q:FuncId}{args:List V}{oh:OH}{a a':Nat}{b b':Option Flt}{n n':Nat}{l:List Trm}{k:Acc→Prop}(id c:Nat)(hc:C q [] (.gen (prQ W a b n) [3] [.ref 0 0 0 0] (prP W a' b' n' l 0) (.own 3 0 0 l.length)))
  (ha:args=[.ref id 0 0 0]) (hp:oget oh id=some (prO W a b n)) (hn:oget oh c=none) (hne:id≠c)
  (hk:k ⟨[(id,prO W a b n)],[c],[(id,prO W a' b' n'),(c,⟨4,l.map vT,0,true⟩)],.own c 0 0 l.length⟩):GenK C q args oh k:=by
 have ep:∀a b n,(prO W a b n).rn (lkM [(0,id,0),(3,c,0)]) (lkV [(0,id,0),(3,c,0)]) 0=prO W a b n:=by
  intro a b n
  show Obj.mk 5 [(prV W a b n).rnA _ _] 0 true=_
  rw [rn_id _ _ (prV_flat a b n)];rfl
 refine⟨_,_,_,_,_,lkM [(0,id,0),(3,c,0)],lkV [(0,id,0),(3,c,0)],hc,by rw [ha];rfl,fun p hp'=>?_,fun i hi=>?_,fun i hi j hj hij=>?_,?_⟩
 ·obtain rfl:=List.mem_singleton.1 hp'
  show oget oh id=some ((prO W a b n).rn _ _ 0)
  rw [ep];exact hp
 ·obtain rfl:=List.mem_singleton.1 hi
  exact hn
 ·have hi:i=0∨i=3:=by simpa [prQ] using hi
  have hj:j=0∨j=3:=by simpa [prQ] using hj
  rcases hi with rfl|rfl<;>rcases hj with rfl|rfl
  ·rfl
  ·exact absurd hij hne
  ·exact absurd hij.symm hne
  ·rfl
 ·have e1:rnO (lkM [(0,id,0),(3,c,0)]) (lkV [(0,id,0),(3,c,0)]) (prQ W a b n)=[(id,prO W a b n)]:=by
   show [(id,(prO W a b n).rn _ _ 0)]=_
   rw [ep]
  have e2:rnO (lkM [(0,id,0),(3,c,0)]) (lkV [(0,id,0),(3,c,0)]) (prP W a' b' n' l 0)=[(id,prO W a' b' n'),(c,⟨4,l.map vT,0,true⟩)]:=by
   show [(id,(prO W a' b' n').rn _ _ 0),(c,Obj.mk 4 ((l.map vT).map _) 0 true)]=_
   rw [ep,rn_map (F:=vT) (fun t=>rn_id _ _ (vT_flat t))]
  rw [e1,e2]
  exact hk
def stPc (W:Txt)(N:Nat)(z:PS W×List Trm×Nat×Nat):St:=⟨N,[(0,.ref 0 0 0 0),(3,.own 3 z.2.2.1 0 z.2.2.2)],prP W z.1.at_ z.1.bad z.1.opn z.2.1 z.2.2.1⟩
theorem sgn_yes {σ:PS W}{w:ByteArray}(h:σ.isB 4 w=true):σ.sgn w=σ.adv:=if_pos h
theorem sgn_no {σ:PS W}{w:ByteArray}(h:σ.isB 4 w=false):σ.sgn w=σ.settle:=if_neg (by rw [h];exact Bool.false_ne_true)
theorem chain_stp {R:List Trm×PS W}{f:PS.Rd W}{a b:ByteArray}{ka kb:Int}{k:Nat}{l:List Trm}{τ:PS W}(h:PS.chainL f a b ka kb (k+1) l τ=R) :
  (τ.isB 4 a=true→PS.chainL f a b ka kb k (l ++ (f τ.adv).1 ++ [⟨ka,0,0⟩]) (f τ.adv).2=R)∧
  (τ.isB 4 a=false→τ.isB 4 b=true→PS.chainL f a b ka kb k (l ++ (f τ.adv).1 ++ [⟨kb,0,0⟩]) (f τ.adv).2=R)∧
  (τ.isB 4 a=false→τ.isB 4 b=false→(l,τ.settle)=R):=by
 rw [PS.chainL] at h
 refine⟨fun h1=>?_,fun h1 h2=>?_,fun h1 h2=>?_⟩
 ·rw [if_pos h1] at h;exact h
 ·rw [if_neg (by rw [h1];exact Bool.false_ne_true),if_pos h2] at h;exact h
 ·rw [if_neg (by rw [h1];exact Bool.false_ne_true),if_neg (by rw [h2];exact Bool.false_ne_true)] at h;exact h
def chI (W:Txt)(R:List Trm×PS W)(f:PS.Rd W)(a b:ByteArray)(ka kb:Int)(d:Nat)(z:PS W×List Trm×Nat×Nat):Prop:=
 z.2.2.2=z.2.1.length∧z.1.opn+d=65∧z.1.at_≤W.L.length∧z.2.1.length≤2 * z.1.at_∧∃k,PS.chainL f a b ka kb k z.2.1 z.1=R∧1≤k∧W.L.length < k+z.1.at_
def UnOK (P:Program)(q:FuncId)(d:Nat)(f:PS.Rd W):Prop:=∀σ:PS W,σ.opn+d=65→σ.at_≤W.L.length→OkG P q (pO σ) [3] [.ref 0 0 0 0] (prT (f σ).2 (f σ).1) (.own 3 0 0 (f σ).1.length)
theorem pProd_ok {f:PS.Rd W}{d:Nat}(hL:W.L.length≤1073741824)(hgood:PS.Good f)(hc:UnOK Tryz.prog 69 d f):UnOK Tryz.prog 48 d (PS.prod (X:=W) f):=by
 intro σ ho ha
 have h0:=hc σ ho ha
 unfold prT at h0
 unfold pO at h0 ⊢
 generalize hR:PS.prod f σ=R
 refine okpT_of_ev hC0 mix 1 (zO rfl) Tryz.func48 rfl rfl (by kernel_rfl) (by kernel_rfl) (zO rfl) ?_
 obtain⟨g1,g2⟩:=hgood σ
 repeat'(first|(with_reducible first|(refine zz ?_;try intro K hK)|refine zI ?_|refine zt ?_|refine zf ?_)|((first|refine hK _ ?_|refine hK _ _ rfl ?_);clear hK K)|(guard_hyp hK;first|(refine zY ?zz ?_;case zz=>first|exact rfl|exact gJ)|refine fresh_n ?_|refine freshO_n ?_|refine zW ?_|(refine Or.inr (Or.inr (Or.inl (pr_callT 0 3 (h0) ?hga ?hgb ?hgc ?hgd ?_)));(case hga=>rfl);(case hgb=>rfl);(case hgc=>rfl);(case hgd=>decide))|intro b0 hb)|((first|with_reducible refine zm ?_|guard_hyp hK);refine zY ?_ ?_;all_goals(intro hb;(try simp only [sn,sb] at hb);try exact ex0)))
 refine loop_f (PS W×List Trm×Nat×Nat) (stPc W Tryz.f48.ntmps) (chI W R f PS.kStar PS.kOver 4 5 d) (fun z=>W.L.length - z.1.at_) ((f σ).2,(f σ).1,0,(f σ).1.length) ⟨rfl,by rw [g1.opn];exact ho,g1.hi ha,by dsimp only;omega,_,hR,Nat.succ_le_succ (Nat.zero_le _),by dsimp only;omega⟩ (lf_of0 ⟨Lc.same _ rfl,Lc.same _ rfl,trivial⟩ ⟨lfOb_same rfl (pr_flat _ _ _),lfOb_same rfl (vTs_flat _),trivial⟩) ?_
 rintro⟨τ,l,v,n⟩ ⟨q0,q1,q2,q3,k,q4,q5,q6⟩
 dsimp only at q0 q1 q2 q3 q4 q5 q6
 subst q0
 obtain⟨k,rfl⟩:∃j,k=j+1:=⟨k - 1,by omega⟩
 obtain⟨y1,y2,y3⟩:=chain_stp q4
 have ca:=pSign_ok τ PS.kStar hL
 unfold stPc
 dsimp only
 cases hA:τ.isB 4 PS.kStar with
 |true=>
  obtain⟨t,ht,hk,-⟩:=PS.isB_tok hA
  have hlt:=(PS.tok_at ht).2.2
  have hav:=PS.adv_at ht (by rw [hk];decide)
  have haf:=PS.adv_fol1 hA (by decide)
  have hc1:=hc τ.adv (by rw [hav.2.2];exact q1) (haf.hi q2)
  obtain⟨g3,g4⟩:=hgood τ.adv
  have g5:=g3.le
  have g6:=g3.hi (haf.hi q2)
  unfold prT at hc1
  rw [pO_adv ht (by rw [hk];decide)] at hc1
  rw [sgn_yes hA,hA,pO_adv ht (by rw [hk];decide),pO_some ht] at ca
  rw [(PS.tok_at ht).1]
  repeat'(first|(refine And.intro (allv_td fun _=>rfl) ?_)|(with_reducible first|(refine zz ?_;try intro K hK)|refine zI ?_|refine zt ?_|refine zf ?_)|((first|refine hK _ ?_|refine hK _ _ rfl ?_);clear hK K)|(guard_hyp hK;first|(refine zY ?zz ?_;case zz=>first|exact rfl|exact gJ)|refine fresh_n ?_|refine freshO_n ?_|refine zW ?_|refine zp 0 (ca) ?_|(refine Or.inr (Or.inr (Or.inl (pr_callT 0 7 (hc1) ?hga ?hgb ?hgc ?hgd ?_)));(case hga=>rfl);(case hgb=>rfl);(case hgc=>rfl);(case hgd=>decide))|intro b0 hb)|((first|with_reducible refine zm ?_|guard_hyp hK);refine zY ?_ ?_;all_goals(intro hb;(try simp only [sn,sb] at hb);try exact ex0)))
  refine⟨((f τ.adv).2,l ++ (f τ.adv).1 ++ [⟨4,0,0⟩],v+1+1,l.length+((((f τ.adv).1.map vT).drop 0).take (f τ.adv).1.length).length+1),⟨?_,by dsimp only;rw [g3.opn,hav.2.2];exact q1,g6,?_,k,y1 hA,by omega,by dsimp only;omega⟩,by dsimp only;omega,lf_of0 ⟨Lc.same _ rfl,Lc.same _ rfl,trivial⟩ ⟨lfOb_same rfl (pr_flat _ _ _),lfOb_two (l:=l) (l2:=(f τ.adv).1) (k:=4) rfl rfl rfl (by simp only [List.length_take,List.length_drop,List.length_map];omega) rfl (lv_sign 4),trivial⟩⟩
  ·simp only [List.length_take,List.length_drop,List.length_map,List.length_append,List.length_singleton];omega
  ·simp only [List.length_append,List.length_singleton];omega
 |false=>
  rw [hA,sgn_no hA] at ca
  have cb:=pSign_ok τ.settle PS.kOver hL
  rw [isB_settle] at cb
  cases hB:τ.isB 4 PS.kOver with
  |true=>
   obtain⟨t,ht,hk,-⟩:=PS.isB_tok hB
   have hlt:=(PS.tok_at ht).2.2
   have hav:=PS.adv_at ht (by rw [hk];decide)
   have haf:=PS.adv_fol1 hB (by decide)
   have hc1:=hc τ.adv (by rw [hav.2.2];exact q1) (haf.hi q2)
   obtain⟨g3,g4⟩:=hgood τ.adv
   have g5:=g3.le
   have g6:=g3.hi (haf.hi q2)
   unfold prT at hc1
   rw [pO_adv ht (by rw [hk];decide)] at hc1
   rw [PS.settle_some ht,pO_some ht] at ca
   rw [PS.settle_some ht,sgn_yes hB,hB,pO_adv ht (by rw [hk];decide),pO_some ht] at cb
   rw [(PS.tok_at ht).1]
   repeat'(first|(refine And.intro (allv_td fun _=>rfl) ?_)|(with_reducible first|(refine zz ?_;try intro K hK)|refine zI ?_|refine zt ?_|refine zf ?_)|((first|refine hK _ ?_|refine hK _ _ rfl ?_);clear hK K)|(guard_hyp hK;first|(refine zY ?zz ?_;case zz=>first|exact rfl|exact gJ)|refine fresh_n ?_|refine freshO_n ?_|refine zW ?_|refine zp 0 (ca) ?_|refine zp 0 (cb) ?_|(refine Or.inr (Or.inr (Or.inl (pr_callT 0 7 (hc1) ?hga ?hgb ?hgc ?hgd ?_)));(case hga=>rfl);(case hgb=>rfl);(case hgc=>rfl);(case hgd=>decide))|intro b0 hb)|((first|with_reducible refine zm ?_|guard_hyp hK);refine zY ?_ ?_;all_goals(intro hb;(try simp only [sn,sb] at hb);try exact ex0)))
   refine⟨((f τ.adv).2,l ++ (f τ.adv).1 ++ [⟨5,0,0⟩],v+1+1,l.length+((((f τ.adv).1.map vT).drop 0).take (f τ.adv).1.length).length+1),⟨?_,by dsimp only;rw [g3.opn,hav.2.2];exact q1,g6,?_,k,y2 hA hB,by omega,by dsimp only;omega⟩,by dsimp only;omega,lf_of0 ⟨Lc.same _ rfl,Lc.same _ rfl,trivial⟩ ⟨lfOb_same rfl (pr_flat _ _ _),lfOb_two (l:=l) (l2:=(f τ.adv).1) (k:=5) rfl rfl rfl (by simp only [List.length_take,List.length_drop,List.length_map];omega) rfl (lv_sign 5),trivial⟩⟩
   ·simp only [List.length_take,List.length_drop,List.length_map,List.length_append,List.length_singleton];omega
   ·simp only [List.length_append,List.length_singleton];omega
  |false=>
   have e9:τ.settle.isB 4 PS.kOver=false:=by rw [isB_settle];exact hB
   rw [hB,sgn_no e9,settle_settle] at cb
   unfold pO at ca cb
   repeat'(first|(with_reducible first|(refine zz ?_;try intro K hK)|refine zI ?_|refine zt ?_|refine zf ?_)|((first|refine hK _ ?_|refine hK _ _ rfl ?_);clear hK K)|(guard_hyp hK;first|(refine zY ?zz ?_;case zz=>first|exact rfl|exact gJ)|refine fresh_n ?_|refine freshO_n ?_|refine zW ?_|refine zp 0 (ca) ?_|refine zp 0 (cb) ?_|intro b0 hb)|((first|with_reducible refine zm ?_|guard_hyp hK);refine zY ?_ ?_;all_goals(intro hb;(try simp only [sn,sb] at hb);try exact ex0)))
   rw [← y3 hA hB]
   exact pr_retT (l:=l) (v:=v) _ rfl rfl (by decide) (lfOb_same rfl (pr_flat _ _ _)) (Lc.same _ rfl) (lfOb_same rfl (vTs_flat _)) (by decide) rfl
theorem pSum_ok {f:PS.Rd W}{d:Nat}(hL:W.L.length≤1073741824)(hgood0:PS.Good f)(hc:UnOK Tryz.prog 48 d (PS.prod (X:=W) f)):UnOK Tryz.prog 20 d (PS.sum (X:=W) f):=by
 intro σ ho ha
 have hgood:=PS.prod_good hgood0
 have h0:=hc σ ho ha
 unfold prT at h0
 unfold pO at h0 ⊢
 generalize hR:PS.sum f σ=R
 unfold PS.sum at hR
 generalize PS.prod f=f at *
 refine okpT_of_ev hC0 mix 1 (zO rfl) Tryz.func20 rfl rfl (by kernel_rfl) (by kernel_rfl) (zO rfl) ?_
 obtain⟨g1,g2⟩:=hgood σ
 repeat'(first|(with_reducible first|(refine zz ?_;try intro K hK)|refine zI ?_|refine zt ?_|refine zf ?_)|((first|refine hK _ ?_|refine hK _ _ rfl ?_);clear hK K)|(guard_hyp hK;first|(refine zY ?zz ?_;case zz=>first|exact rfl|exact gJ)|refine fresh_n ?_|refine freshO_n ?_|refine zW ?_|(refine Or.inr (Or.inr (Or.inl (pr_callT 0 3 (h0) ?hga ?hgb ?hgc ?hgd ?_)));(case hga=>rfl);(case hgb=>rfl);(case hgc=>rfl);(case hgd=>decide))|intro b0 hb)|((first|with_reducible refine zm ?_|guard_hyp hK);refine zY ?_ ?_;all_goals(intro hb;(try simp only [sn,sb] at hb);try exact ex0)))
 refine loop_f (PS W×List Trm×Nat×Nat) (stPc W Tryz.f20.ntmps) (chI W R f PS.kPlus PS.kMin 2 3 d) (fun z=>W.L.length - z.1.at_) ((f σ).2,(f σ).1,0,(f σ).1.length) ⟨rfl,by rw [g1.opn];exact ho,g1.hi ha,by dsimp only;omega,_,hR,Nat.succ_le_succ (Nat.zero_le _),by dsimp only;omega⟩ (lf_of0 ⟨Lc.same _ rfl,Lc.same _ rfl,trivial⟩ ⟨lfOb_same rfl (pr_flat _ _ _),lfOb_same rfl (vTs_flat _),trivial⟩) ?_
 rintro⟨τ,l,v,n⟩ ⟨q0,q1,q2,q3,k,q4,q5,q6⟩
 dsimp only at q0 q1 q2 q3 q4 q5 q6
 subst q0
 obtain⟨k,rfl⟩:∃j,k=j+1:=⟨k - 1,by omega⟩
 obtain⟨y1,y2,y3⟩:=chain_stp q4
 have ca:=pSign_ok τ PS.kPlus hL
 unfold stPc
 dsimp only
 cases hA:τ.isB 4 PS.kPlus with
 |true=>
  obtain⟨t,ht,hk,-⟩:=PS.isB_tok hA
  have hlt:=(PS.tok_at ht).2.2
  have hav:=PS.adv_at ht (by rw [hk];decide)
  have haf:=PS.adv_fol1 hA (by decide)
  have hc1:=hc τ.adv (by rw [hav.2.2];exact q1) (haf.hi q2)
  obtain⟨g3,g4⟩:=hgood τ.adv
  have g5:=g3.le
  have g6:=g3.hi (haf.hi q2)
  unfold prT at hc1
  rw [pO_adv ht (by rw [hk];decide)] at hc1
  rw [sgn_yes hA,hA,pO_adv ht (by rw [hk];decide),pO_some ht] at ca
  rw [(PS.tok_at ht).1]
  repeat'(first|(refine And.intro (allv_td fun _=>rfl) ?_)|(with_reducible first|(refine zz ?_;try intro K hK)|refine zI ?_|refine zt ?_|refine zf ?_)|((first|refine hK _ ?_|refine hK _ _ rfl ?_);clear hK K)|(guard_hyp hK;first|(refine zY ?zz ?_;case zz=>first|exact rfl|exact gJ)|refine fresh_n ?_|refine freshO_n ?_|refine zW ?_|refine zp 0 (ca) ?_|(refine Or.inr (Or.inr (Or.inl (pr_callT 0 7 (hc1) ?hga ?hgb ?hgc ?hgd ?_)));(case hga=>rfl);(case hgb=>rfl);(case hgc=>rfl);(case hgd=>decide))|intro b0 hb)|((first|with_reducible refine zm ?_|guard_hyp hK);refine zY ?_ ?_;all_goals(intro hb;(try simp only [sn,sb] at hb);try exact ex0)))
  refine⟨((f τ.adv).2,l ++ (f τ.adv).1 ++ [⟨2,0,0⟩],v+1+1,l.length+((((f τ.adv).1.map vT).drop 0).take (f τ.adv).1.length).length+1),⟨?_,by dsimp only;rw [g3.opn,hav.2.2];exact q1,g6,?_,k,y1 hA,by omega,by dsimp only;omega⟩,by dsimp only;omega,lf_of0 ⟨Lc.same _ rfl,Lc.same _ rfl,trivial⟩ ⟨lfOb_same rfl (pr_flat _ _ _),lfOb_two (l:=l) (l2:=(f τ.adv).1) (k:=2) rfl rfl rfl (by simp only [List.length_take,List.length_drop,List.length_map];omega) rfl (lv_sign 2),trivial⟩⟩
  ·simp only [List.length_take,List.length_drop,List.length_map,List.length_append,List.length_singleton];omega
  ·simp only [List.length_append,List.length_singleton];omega
 |false=>
  rw [hA,sgn_no hA] at ca
  have cb:=pSign_ok τ.settle PS.kMin hL
  rw [isB_settle] at cb
  cases hB:τ.isB 4 PS.kMin with
  |true=>
   obtain⟨t,ht,hk,-⟩:=PS.isB_tok hB
   have hlt:=(PS.tok_at ht).2.2
   have hav:=PS.adv_at ht (by rw [hk];decide)
   have haf:=PS.adv_fol1 hB (by decide)
   have hc1:=hc τ.adv (by rw [hav.2.2];exact q1) (haf.hi q2)
   obtain⟨g3,g4⟩:=hgood τ.adv
   have g5:=g3.le
   have g6:=g3.hi (haf.hi q2)
   unfold prT at hc1
   rw [pO_adv ht (by rw [hk];decide)] at hc1
   rw [PS.settle_some ht,pO_some ht] at ca
   rw [PS.settle_some ht,sgn_yes hB,hB,pO_adv ht (by rw [hk];decide),pO_some ht] at cb
   rw [(PS.tok_at ht).1]
   repeat'(first|(refine And.intro (allv_td fun _=>rfl) ?_)|(with_reducible first|(refine zz ?_;try intro K hK)|refine zI ?_|refine zt ?_|refine zf ?_)|((first|refine hK _ ?_|refine hK _ _ rfl ?_);clear hK K)|(guard_hyp hK;first|(refine zY ?zz ?_;case zz=>first|exact rfl|exact gJ)|refine fresh_n ?_|refine freshO_n ?_|refine zW ?_|refine zp 0 (ca) ?_|refine zp 0 (cb) ?_|(refine Or.inr (Or.inr (Or.inl (pr_callT 0 7 (hc1) ?hga ?hgb ?hgc ?hgd ?_)));(case hga=>rfl);(case hgb=>rfl);(case hgc=>rfl);(case hgd=>decide))|intro b0 hb)|((first|with_reducible refine zm ?_|guard_hyp hK);refine zY ?_ ?_;all_goals(intro hb;(try simp only [sn,sb] at hb);try exact ex0)))
   refine⟨((f τ.adv).2,l ++ (f τ.adv).1 ++ [⟨3,0,0⟩],v+1+1,l.length+((((f τ.adv).1.map vT).drop 0).take (f τ.adv).1.length).length+1),⟨?_,by dsimp only;rw [g3.opn,hav.2.2];exact q1,g6,?_,k,y2 hA hB,by omega,by dsimp only;omega⟩,by dsimp only;omega,lf_of0 ⟨Lc.same _ rfl,Lc.same _ rfl,trivial⟩ ⟨lfOb_same rfl (pr_flat _ _ _),lfOb_two (l:=l) (l2:=(f τ.adv).1) (k:=3) rfl rfl rfl (by simp only [List.length_take,List.length_drop,List.length_map];omega) rfl (lv_sign 3),trivial⟩⟩
   ·simp only [List.length_take,List.length_drop,List.length_map,List.length_append,List.length_singleton];omega
   ·simp only [List.length_append,List.length_singleton];omega
  |false=>
   have e9:τ.settle.isB 4 PS.kMin=false:=by rw [isB_settle];exact hB
   rw [hB,sgn_no e9,settle_settle] at cb
   unfold pO at ca cb
   repeat'(first|(with_reducible first|(refine zz ?_;try intro K hK)|refine zI ?_|refine zt ?_|refine zf ?_)|((first|refine hK _ ?_|refine hK _ _ rfl ?_);clear hK K)|(guard_hyp hK;first|(refine zY ?zz ?_;case zz=>first|exact rfl|exact gJ)|refine fresh_n ?_|refine freshO_n ?_|refine zW ?_|refine zp 0 (ca) ?_|refine zp 0 (cb) ?_|intro b0 hb)|((first|with_reducible refine zm ?_|guard_hyp hK);refine zY ?_ ?_;all_goals(intro hb;(try simp only [sn,sb] at hb);try exact ex0)))
   rw [← y3 hA hB]
   exact pr_retT (l:=l) (v:=v) _ rfl rfl (by decide) (lfOb_same rfl (pr_flat _ _ _)) (Lc.same _ rfl) (lfOb_same rfl (vTs_flat _)) (by decide) rfl
theorem pow32 {s:Nat}(hs:s < 32):2 ^ s < 4294967296:=Nat.lt_of_lt_of_le (Nat.pow_lt_pow_right (by decide) hs) (by decide)
theorem shlA {x s:Nat}{Q:Int→Prop}(hs:s < 32)(k:Q ((x * 2 ^ s % 4294967296:Nat):Int)):∃r,r=IntKind.u32.wrap ((x:Int) * 2 ^ (min ((s:Nat):Int).toNat IntKind.u32.bits))∧Q r:=by
 refine⟨_,?_,k⟩
 have e:(x:Int) * 2 ^ (min ((s:Nat):Int).toNat IntKind.u32.bits)=((x * 2 ^ s:Nat):Int):=by
  rw [Int.toNat_natCast,show IntKind.u32.bits=32 from rfl,Nat.min_eq_left (by omega)];simp
 rw [e,wrap32 (Int.natCast_nonneg _),Int.toNat_natCast,UInt32.toNat_ofNat']
theorem shlB {x s:Nat}{Q:Int→Prop}(hs:s < 32)(hx:x < 4294967296)(k:Q ((x * 2 ^ s:Nat):Int)):∃r,r=IntKind.u64.wrap ((x:Int) * 2 ^ (min ((s:Nat):Int).toNat IntKind.u64.bits))∧Q r:=by
 refine⟨_,?_,k⟩
 have e:(x:Int) * 2 ^ (min ((s:Nat):Int).toNat IntKind.u64.bits)=((x * 2 ^ s:Nat):Int):=by
  rw [Int.toNat_natCast,show IntKind.u64.bits=64 from rfl,Nat.min_eq_left (by omega)];simp
 have h:x * 2 ^ s < 4294967296 * 4294967296:=Nat.mul_lt_mul_of_lt_of_lt hx (pow32 hs)
 rw [e]
 exact wrapU64 (Int.natCast_nonneg _) (by omega)
theorem shrC {a:Nat}{Q:Int→Prop}(k:Q ((a / 4294967296:Nat):Int)):∃r,r=((a:Nat):Int).fdiv (2 ^ (min (32:Int).toNat IntKind.u64.bits))∧Q r:=by
 refine⟨_,?_,k⟩
 show _=((a:Nat):Int).fdiv 4294967296
 rw [Int.fdiv_eq_ediv_of_nonneg _ (by decide)];rfl
theorem or_eq32 {c x s:Nat}(hs:s < 32)(hc:c < 2 ^ s)(hx:x < 4294967296):IntKind.u32.wrap (((BitVec.ofInt 32 ((c:Nat):Int) |||BitVec.ofInt 32 ((x * 2 ^ s % 4294967296:Nat):Int)).toNat:Nat):Int)=((c+x * 2 ^ s % 4294967296:Nat):Int)∧c+x * 2 ^ s % 4294967296 < 4294967296:=by
 have hp:=pow32 hs
 have e4:(4294967296:Nat)=2 ^ s * 2 ^ (32 - s):=by rw [← Nat.pow_add,show s+(32 - s)=32 by omega]
 obtain⟨m,hm⟩:∃m,x * 2 ^ s % 4294967296=m * 2 ^ s:=⟨x % 2 ^ (32 - s),by rw [e4,Nat.mul_comm x,Nat.mul_mod_mul_left,Nat.mul_comm]⟩
 have hml:m * 2 ^ s < 4294967296:=by rw [← hm];exact Nat.mod_lt _ (by decide)
 have hlt:c+m * 2 ^ s < 4294967296:=by
  have h1:m < 2 ^ (32 - s):=by
   rw [e4,Nat.mul_comm] at hml
   exact Nat.lt_of_mul_lt_mul_left hml
  have h2:(m+1) * 2 ^ s≤2 ^ (32 - s) * 2 ^ s:=Nat.mul_le_mul_right _ h1
  rw [Nat.mul_comm (2 ^ (32 - s)),← e4,Nat.add_mul,Nat.one_mul] at h2
  omega
 have e1:BitVec.ofInt 32 ((c:Nat):Int)=BitVec.ofNat 32 c:=BitVec.ofInt_natCast ..
 have e2:BitVec.ofInt 32 ((m * 2 ^ s:Nat):Int)=BitVec.ofNat 32 (m * 2 ^ s):=BitVec.ofInt_natCast ..
 have e3:c |||m * 2 ^ s=c+m * 2 ^ s:=by
  have:=Nat.shiftLeft_add_eq_or_of_lt (b:=c) (i:=s) hc m
  rw [Nat.shiftLeft_eq] at this
  rw [Nat.or_comm,← this,Nat.add_comm]
 rw [hm]
 refine⟨?_,hlt⟩
 rw [e1,e2,BitVec.toNat_or,BitVec.toNat_ofNat,BitVec.toNat_ofNat,Nat.mod_eq_of_lt (by omega),Nat.mod_eq_of_lt (by omega),e3,wrap32 (Int.natCast_nonneg _),Int.toNat_natCast,UInt32.toNat_ofNat',Nat.mod_eq_of_lt hlt]
theorem val_take_one {l:List UInt32}{k:Nat}(h:k < l.length):val (l.take (k+1))=val (l.take k)+(l.getD k default).toNat * 4294967296 ^ k:=val_take_succ l k h
theorem at_setq {L:List UInt32}{i j:Nat}{v:V}{Q:V→Prop}(h:j < L.length)(hne:i≠j)(k:Q (cu (L.getD j default))):∃e,((L.map cu).set i v)[j]?=some e∧Q e:=by
 refine⟨_,?_,k⟩
 rw [List.getElem?_set_ne hne,List.getElem?_map,List.getElem?_eq_getElem h]
 simp [List.getD,h]
theorem set_two {q:List UInt32}{c a b:UInt32}{n:Nat}(hn:0 < n):(((q ++ c :: List.replicate n 0).set q.length a).set (q.length+1) b)=(q ++ [a]) ++ b :: List.replicate (n - 1) 0:=by
 obtain⟨m,rfl⟩:∃m,n=m+1:=⟨n - 1,by omega⟩
 rw [List.set_append_right _ _ (Nat.le_refl _),Nat.sub_self,List.set_cons_zero,List.set_append_right _ _ (by omega),show q.length+1 - q.length=1 by omega,List.set_cons_succ,List.replicate_succ,List.set_cons_zero,List.append_assoc]
 rfl
theorem left_okO (l:List UInt32)(s:Nat)(hs:s < 32)(hl:l.length≤10737418240):OkO Tryz.prog 164 [tn l,.con (.int .i64 s)] [(0,⟨1,(padL (l.length+1) (val l * 2 ^ s)).map cu,0,true⟩)] (.own 0 0 0 (l.length+1)):=by
 refine oko_of_ev hC0 mix Tryz.func164 rfl rfl (by kernel_rfl) (zO rfl) ?_
 repeat'(first|(with_reducible first|(refine zz ?_;try intro K hK)|refine zI ?_|refine zt ?_|refine zf ?_)|((first|refine hK _ ?_|refine hK _ _ rfl ?_);clear hK K)|(guard_hyp hK;first|(refine zY ?zz ?_;case zz=>first|exact rfl|exact gI)|refine fresh_n ?_|refine freshO_n ?_|(refine at_Q ?_;intro hu)|refine zP wA ?_|(refine mul_Q ?_;intro hm1 hm2)|refine zP at_M ?_|refine zP rfl ?_|intro b0 hb)|((first|with_reducible refine zm ?_|guard_hyp hK);refine zY ?_ ?_;all_goals(intro hb;(try simp only [sn,sb] at hb);try exact ex0)))
 refine loop_i (List UInt32×Nat) (fun(q,c)=>⟨Tryz.f164.ntmps,[(1,.con (.int .i64 s)),(5,.own 0 0 0 (l.length+1)),(12,.ro false (tn l)),(13,.con (.int .i64 l.length)),(14,.con (.int .i64 (q.length:Nat)))],[(0,⟨1,(q ++ UInt32.ofNat c :: List.replicate (l.length - q.length) 0).map cu,0,true⟩)]⟩)
  (fun(q,c)=>q.length≤l.length∧c < 2 ^ s∧val q+4294967296 ^ q.length * c=val (l.take q.length) * 2 ^ s) (fun(q,c)=>l.length - q.length) [] ([],0) trivial ⟨by simp,Nat.pow_pos (by decide),by simp [val]⟩ ⟨rfl,⟨rfl,trivial,?_,rfl,rfl,trivial,?_,trivial,rfl,trivial,trivial⟩,⟨?_,trivial⟩,clObjs_cu _ _⟩ ?_
 ·show V.own _ _ _ _=_
  simp only [List.length_map]
  rfl
 ·show V.con (.int .i64 ((l.map tu32).length:Nat))=_;rw [List.length_map]
 ·show some _=some _
  congr 1
  congr 1
  simp only [List.length_map]
  show List.replicate ((l.length:Int)+1).toNat (V.con (.int .u32 0))=_
  rw [show((l.length:Int)+1).toNat=l.length+1 by omega,List.replicate_succ]
  show _=cu 0 :: (List.replicate (l.length - 0) 0).map cu
  rw [Nat.sub_zero,List.map_replicate];rfl
 rintro⟨q,c⟩ ⟨h1,h2,h3⟩
 repeat'(first|(first|(refine shlA hs ?_)|(refine shlB hs (UInt32.toNat_lt _) ?_)|(refine shrC ?_)|(refine at_setq (by simp;omega) (by omega) ?_))|(with_reducible first|(refine zz ?_;try intro K hK)|refine zI ?_|refine zt ?_|refine zf ?_)|((first|refine hK _ ?_|refine hK _ _ rfl ?_);clear hK K)|(guard_hyp hK;first|(refine zY ?zz ?_;case zz=>first|exact rfl|exact gI)|refine fresh_n ?_|refine freshO_n ?_|(refine at_Q ?_;intro hu)|refine zP wA ?_|(refine mul_Q ?_;intro hm1 hm2)|refine zP at_M ?_|refine zP rfl ?_|intro b0 hb)|((first|with_reducible refine zm ?_|guard_hyp hK);refine zY ?_ ?_;all_goals(intro hb;(try simp only [sn,sb] at hb);try exact ex0)))
 ·obtain⟨x,hx⟩:∃x,(l.getD q.length default).toNat=x:=⟨_,rfl⟩
  have hxb:x < 4294967296:=by rw [← hx];exact UInt32.toNat_lt _
  have hk:q.length < l.length:=by omega
  obtain⟨ho1,ho2⟩:=or_eq32 hs h2 hxb
  have hp:=pow32 hs
  have hcb:c < 4294967296:=Nat.lt_trans h2 hp
  have hc2:x * 2 ^ s / 4294967296 < 2 ^ s:=by
   rw [Nat.div_lt_iff_lt_mul (by decide),Nat.mul_comm]
   exact Nat.mul_lt_mul_of_pos_left hxb (Nat.pow_pos (by decide))
  have el:(q ++ [UInt32.ofNat (c+x * 2 ^ s % 4294967296)]).length=q.length+1:=by simp
  have hgc:(((q ++ UInt32.ofNat c :: List.replicate (l.length - q.length) 0).getD (0+q.length) default).toNat:Int)=((c:Nat):Int):=by
   rw [Nat.zero_add,List.getD,List.getElem?_append_right (Nat.le_refl _),Nat.sub_self]
   show((UInt32.ofNat c).toNat:Int)=_
   rw [UInt32.toNat_ofNat',Nat.mod_eq_of_lt hcb]
  refine⟨(q ++ [UInt32.ofNat (c+x * 2 ^ s % 4294967296)],x * 2 ^ s / 4294967296),⟨by rw [el];omega,hc2,?ga⟩,by show l.length - (q ++ [_]).length < l.length - q.length;rw [List.length_append];show _ - (_+1) < _;omega,rfl,⟨rfl,trivial,rfl,rfl,rfl,trivial,rfl,trivial,?gc,trivial,trivial⟩,⟨?gd,trivial⟩,clObjs_cu _ _⟩
  case ga=>
   rw [el,val_take_one hk,hx,Nat.add_mul,← h3,val_append]
   have e1:val [UInt32.ofNat (c+x * 2 ^ s % 4294967296)]=c+x * 2 ^ s % 4294967296:=by
    show(UInt32.ofNat _).toNat+4294967296 * val []=_
    rw [UInt32.toNat_ofNat',Nat.mod_eq_of_lt ho2];rfl
   have e2:=Nat.div_add_mod (x * 2 ^ s) 4294967296
   rw [e1,Nat.pow_succ]
   generalize 4294967296 ^ q.length=w at *
   generalize x * 2 ^ s / 4294967296=hi at *
   generalize x * 2 ^ s % 4294967296=lo at *
   have e3:x * w * 2 ^ s=w * (x * 2 ^ s):=by ac_rfl
   rw [e3,← e2,Nat.mul_add,Nat.mul_add,Nat.mul_assoc w 4294967296 hi]
   omega
  case gc=>
   show V.con (.int .i64 ((q.length:Int)+1))=V.con (.int .i64 (((q ++ [UInt32.ofNat (c+x * 2 ^ s % 4294967296)]).length:Nat):Int))
   rw [el];rfl
  case gd=>
   refine congrArg (fun l=>some (Obj.mk 1 l 0 true)) (?_:(((q ++ UInt32.ofNat c :: List.replicate (l.length - q.length) 0).map cu).set (0+q.length) (V.con (.int .u32 (IntKind.u32.wrap (((BitVec.ofInt 32 (((q ++ UInt32.ofNat c :: List.replicate (l.length - q.length) 0).getD (0+q.length) default).toNat:Int) |||BitVec.ofInt 32 (((l.getD q.length default).toNat * 2 ^ s % 4294967296:Nat):Int)).toNat:Nat):Int))))).set (0+(q.length+1)) (V.con (.int .u32 (IntKind.u32.wrap (((l.getD q.length default).toNat * 2 ^ s / 4294967296:Nat):Int))))=_)
   rw [hgc,hx,ho1,Nat.zero_add,Nat.zero_add,wrap32 (Int.natCast_nonneg _),Int.toNat_natCast]
   have e9:(c+x * 2 ^ s % 4294967296)=(UInt32.ofNat (c+x * 2 ^ s % 4294967296)).toNat:=by rw [UInt32.toNat_ofNat',Nat.mod_eq_of_lt ho2]
   rw [show((c+x * 2 ^ s % 4294967296:Nat):Int)=(((UInt32.ofNat (c+x * 2 ^ s % 4294967296)).toNat:Nat):Int) from congrArg _ e9,set_cu2,set_cu2,set_two (by omega),el,show l.length - q.length - 1=l.length - (q.length+1) by omega]
 ·have hql:q.length=l.length:=by omega
  rw [hql,List.take_length] at h3
  have hp:=pow32 hs
  have hcb:c < 4294967296:=Nat.lt_trans h2 hp
  have hv:val (q ++ [UInt32.ofNat c])=val l * 2 ^ s:=by
   rw [val_append,hql,← h3]
   show val q+4294967296 ^ l.length * ((UInt32.ofNat c).toNat+4294967296 * val [])=_
   rw [UInt32.toNat_ofNat',Nat.mod_eq_of_lt hcb];rfl
  have hp2:padL (l.length+1) (val l * 2 ^ s)=q ++ [UInt32.ofNat c]:=by
   have:=padL_val (q ++ [UInt32.ofNat c])
   rwa [List.length_append,hql,hv] at this
  rw [hp2]
  have e9:q ++ UInt32.ofNat c :: List.replicate (l.length - q.length) 0=q ++ [UInt32.ofNat c]:=by rw [hql,Nat.sub_self];rfl
  have e8:=congrArg (fun L=>some (Obj.mk 1 (List.map cu L) 0 true)) e9
  refine⟨trivial,false,_,fun _=>0,rfl,ren_one (id:=0) (ver:=0) e8 (fun e he=>?_),RenC.own 0 0 0 (l.length+1) _ e8 rfl rfl⟩
  ·obtain⟨x,-,rfl⟩:=List.mem_map.1 he
   exact⟨_,rfl⟩
theorem left_ok (l:List UInt32)(s:Nat)(hs:s < 32)(hl:l.length≤10737418240):Ok Tryz.prog 164 [tn l,.con (.int .i64 s)] false (tn (padL (l.length+1) (val l * 2 ^ s))):=by
 refine ok_of_oko (left_okO l s hs hl) (fz_own (l:=padL (l.length+1) (val l * 2 ^ s)) (F:=cu) (G:=tu32) rfl rfl rfl ?_ ?_ (fun a _=>fze_con _) rfl)
 ·rw [padL_len]
 ·rw [List.drop_zero,List.take_of_length_le (by rw [List.length_map,padL_len];exact Nat.le_refl _)]
end Go.Ev
