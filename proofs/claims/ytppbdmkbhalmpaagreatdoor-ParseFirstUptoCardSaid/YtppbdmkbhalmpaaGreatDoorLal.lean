import Derived.Test.YtppbdmkbhalmpaaGreatDoorLak
set_option linter.all false
set_option maxHeartbeats 4000000
set_option maxRecDepth 10000
namespace Go.Ev
open Go.Proofs
variable {W : Txt}
theorem pr_retF {P:Program}{fn:Func}{s:St}{vs:List V}{a a':Nat}{b b':Option Flt}{n n' np t:Nat}{r:T}(hr:fn.results.toList=[.tmp t])(h0:0≠t)(hs:oget s.oh 0=some (prO W a' b' n'))
  (hf:Fd1 s.oh (prQ W a' b' n') false (eget s.env t) r) (hnp:0 < np) (he:eget s.env 0=.ref 0 0 0 0) :
  RetG P fn np (prQ W a b n) (.ref 0 0 0 0 :: vs) (prQ W a' b' n') (V.ofT1 false r) .ret s:=by
 have e1:eget [(0,V.ref 0 0 0 0),(t,V.ofT1 false r)] t=V.ofT1 false r:=by
  simp [eget,h0]
 refine⟨trivial,true,⟨s.n,[(0,.ref 0 0 0 0),(t,V.ofT1 false r)],prQ W a' b' n'⟩,?_,pr_pin rfl hnp rfl,pr_bm rfl,?_⟩
 ·show Lf _ ⟨s.n,s.env,s.oh⟩
  refine lf_of0 ⟨?_,lv_ofT1 hf,trivial⟩ ⟨lfOb_same hs (pr_flat _ _ _),trivial⟩
  rw [he];exact Lc.same _ rfl
 ·rw [hr]
  show BmA _ _ (eget _ t) _
  rw [e1]
  exact bm_ofT1 r
def stPm (N:Nat)(z:PS W×List ByteArray×Nat):St:=⟨N,[(0,.ref 0 0 0 0),(3,.own 1 z.2.2 0 z.2.2)],[(0,prO W z.1.at_ z.1.bad z.1.opn),(1,⟨1,z.2.1.map vS,z.2.2,true⟩)]⟩
theorem pProps_ok (σ:PS W)(hL:W.L.length≤1073741824)(hk:KindOK W (4,PS.kSemi)):OkG Tryz.prog 15 (pO σ) [] [.ref 0 0 0 0] (pO (PS.props σ).2) (.ro false (tSs (PS.props σ).1)):=by
 unfold pO
 refine okp_of_ev hC0 mix 1 (zO rfl) Tryz.func15 rfl rfl (by kernel_rfl) (by kernel_rfl) (zO rfl) ?vs ?_
 case vs=>exact fl0
 repeat'(first|(with_reducible first|(refine zz ?_;try intro K hK)|refine zI ?_|refine zt ?_|refine zf ?_)|((first|refine hK _ ?_|refine hK _ _ rfl ?_);clear hK K)|(guard_hyp hK;first|(refine zY ?zz ?_;case zz=>first|exact rfl|exact gJ)|refine fresh_n ?_|refine freshO_n ?_|refine zW ?_|intro b0 hb)|((first|with_reducible refine zm ?_|guard_hyp hK);refine zY ?_ ?_;all_goals(intro hb;(try simp only [sn,sb] at hb);try exact ex0)))
 refine loop_i (PS W×List ByteArray×Nat) (stPm Tryz.f15.ntmps) (fun z=>z.2.2=z.2.1.length∧∃k,PS.propsL k z.2.1 z.1=PS.props σ∧1≤k∧W.L.length < k+z.1.at_∧z.2.1.length+k=W.L.length+1) (fun z=>W.L.length - z.1.at_) [(3,1,1)] (σ,[],0) ⟨rfl,rfl,trivial⟩ ⟨rfl,_,rfl,Nat.succ_le_succ (Nat.zero_le _),by dsimp only;omega,Nat.zero_add _⟩ ⟨rfl,⟨rfl,rfl,rfl,rfl,trivial⟩,⟨rfl,rfl,trivial⟩,⟨pr_cl _,vS_cl _ _,trivial⟩⟩ ?_
 rintro⟨τ,l,n⟩ ⟨h0,k,h1,h2,h3,h4⟩
 dsimp only at h0 h1 h2 h3 h4
 obtain⟨k,rfl⟩:∃j,k=j+1:=⟨k - 1,by omega⟩
 have hcm:=pIs_ok τ 1 PS.kProp
 rw [PS.propsL] at h1
 cases hB:τ.isB 1 PS.kProp with
 |false=>
  rw [hB,if_neg Bool.false_ne_true] at h1
  rw [hB] at hcm
  rw [← h1]
  unfold pO at hcm
  repeat'(first|(with_reducible first|(refine zz ?_;try intro K hK)|refine zI ?_|refine zt ?_|refine zf ?_)|((first|refine hK _ ?_|refine hK _ _ rfl ?_);clear hK K)|(guard_hyp hK;first|(refine zY ?zz ?_;case zz=>first|exact rfl|exact gJ)|refine fresh_n ?_|refine freshO_n ?_|refine zW ?_|refine zp 0 (hcm) ?_|intro b0 hb)|((first|with_reducible refine zm ?_|guard_hyp hK);refine zY ?_ ?_;all_goals(intro hb;(try simp only [sn,sb] at hb);try exact ex0)))
  exact pr_retF (r:=tSs l) rfl (by decide) rfl (fd_vS rfl rfl rfl h0.symm) (by decide) rfl
 |true=>
  obtain⟨t,ht,hk2,-⟩:=PS.isB_tok hB
  have hlt:=(PS.tok_at ht).2.2
  have ha:=PS.adv_at ht (by rw [hk2];decide)
  rw [hB,if_pos rfl] at h1
  rw [hB,PS.settle_some ht,pO_some ht] at hcm
  have htx:=pTake_ok τ.adv 3 (by decide) hL
  rw [pO_adv ht (by rw [hk2];decide)] at htx
  have hsg:=pNeed_ok [(4,PS.kSemi)] (PS.take 3 τ.adv).2 hL (by decide) (by decide) (fun p hp=>by obtain rfl:=List.mem_singleton.1 hp;exact hk)
  unfold pO at htx hsg
  unfold stPm
  simp only [(PS.tok_at ht).1]
  repeat'(first|(with_reducible first|(refine zz ?_;try intro K hK)|refine zI ?_|refine zt ?_|refine zf ?_)|((first|refine hK _ ?_|refine hK _ _ rfl ?_);clear hK K)|(guard_hyp hK;first|(refine zY ?zz ?_;case zz=>first|exact rfl|exact gJ)|refine fresh_n ?_|refine freshO_n ?_|refine zW ?_|refine zp 0 (hcm) ?_|refine zp 0 (htx) ?_|(refine' Or.inr (Or.inr (Or.inl (need_call ([(4,PS.kSemi)]) _ _ (hsg) ?hga ?hgb ?hgc ?hgd ?_)));(case hga=>rfl);(case hgb=>rfl);(case hgc=>rfl);(case hgd=>exact Nat.ne_of_lt (zO rfl)))|intro b0 hb)|((first|with_reducible refine zm ?_|guard_hyp hK);refine zY ?_ ?_;all_goals(intro hb;(try simp only [sn,sb] at hb);try exact ex0)))
  have f1:=(PS.take_fol 3 τ.adv).le
  have f2:=(PS.need_fol 4 PS.kSemi (PS.take 3 τ.adv).2).le
  refine⟨(PS.need 4 PS.kSemi (PS.take 3 τ.adv).2,l ++ [(PS.take 3 τ.adv).1],n+1),⟨by dsimp only;rw [List.length_append,List.length_singleton];omega,k,h1,by omega,by dsimp only;omega,by dsimp only;rw [List.length_append,List.length_singleton];omega⟩,by dsimp only;omega,rfl,⟨rfl,rfl,rfl,rfl,trivial⟩,⟨rfl,?_,trivial⟩,⟨pr_cl _,vS_cl _ _,trivial⟩⟩
  exact congrArg (fun e=>some (⟨1,e,n+1,true⟩:Obj)) (take_app (F:=vS) h0)
theorem okp2_of_ev {P:Program}{C:CT}(hC:∀q ts r,C q ts r→OkR P q ts r)(hmix:P.follows .mixedOrders=true){q:FuncId}{fn:Func}{c:Code}{a a':Nat}{b b':Option Flt}{n n':Nat}{w:Wr}{r:V}(np:Nat)(hnp:np≤2)
  (hfn:P.funcs[q]?=some fn) (hname:(fn.name == "runtime.NumGoroutine")=false) (hbody:fn.body=some c) (hok:okB fn.ntmps c=true) (hpar:parB np c=true) (hlen:2≤fn.ntmps)
  (h:evC P C c ⟨fn.ntmps,argEnvV 0 [.ref 0 0 0 0,.wr w 0 0 0 0],[(0,prO W a b n)]⟩ (RetG P fn np (prQ W a b n) [.ref 0 0 0 0,.wr w 0 0 0 0] (prQ W a' b' n') r)):OkG P q (prQ W a b n) [] [.ref 0 0 0 0,.wr w 0 0 0 0] (prQ W a' b' n') r:=
 okg_of_ev hC hmix np hnp hfn hname hbody hok hpar hlen
  (fun i o h=>by
   obtain⟨rfl,rfl⟩:=oget_one h
   exact⟨rfl,rfl,pr_cl _⟩)
  (two_vs rfl rfl)
  (fun i o h=>by
   obtain⟨rfl,rfl⟩:=oget_one h
   exact .inl rfl)
  (fun i o o' h1 h2 h3 h4=>by
   obtain⟨rfl,rfl⟩:=pr_after h2
   obtain⟨-,rfl⟩:=oget_one h1
   exact⟨rfl,Nat.le_refl _⟩) h
def stPl (N f:Nat)(z:PS W×List ByteArray×Nat):St:=⟨N,[(0,.ref 0 0 0 0),(1,.wr (.clo f) 0 0 0 0),(5,.own 1 z.2.2 0 z.2.1.length)],[(0,prO W z.1.at_ z.1.bad z.1.opn),(1,⟨1,z.2.1.map vS,z.2.2,true⟩)]⟩
def PS.tlL (k:Nat)(l:List ByteArray)(τ:PS W):List ByteArray×PS W:=if τ.isB 4 PS.kComma=true then PS.namesL k l τ.adv else(l,τ.settle)
theorem namesL_tl (k:Nat)(l:List ByteArray)(σ:PS W):PS.namesL (k+1) l σ=PS.tlL k (l ++ [(PS.take 1 σ).1]) (PS.take 1 σ).2:=rfl
def nlI (R:List ByteArray×PS W)(z:PS W×List ByteArray×Nat):Prop:=z.2.1.length≤z.1.at_+1∧z.1.at_≤W.L.length∧∃k,PS.tlL k z.2.1 z.1=R∧W.L.length≤k+z.1.at_
theorem pNames_ok (σ:PS W)(hL:W.L.length≤1073741824)(ha0:σ.at_≤W.L.length):OkG Tryz.prog 30 (pO σ) [] [.ref 0 0 0 0,.wr (.clo 14) 0 0 0 0] (pO (PS.namesQ σ).2) (.ro false (tSs (PS.namesQ σ).1)):=by
 have c0:=pName_ok σ hL
 have f0:=PS.take_fol 1 σ
 unfold PS.namesQ
 rw [namesL_tl]
 unfold pO at c0 ⊢
 refine okp2_of_ev hC0 mix 2 (zO rfl) Tryz.func30 rfl rfl (by kernel_rfl) (by kernel_rfl) (zO rfl) ?_
 repeat'(first|(with_reducible first|(refine zz ?_;try intro K hK)|refine zI ?_|refine zt ?_|refine zf ?_)|((first|refine hK _ ?_|refine hK _ _ rfl ?_);clear hK K)|(guard_hyp hK;first|(refine zY ?zz ?_;case zz=>first|exact rfl|exact gJ)|refine fresh_n ?_|refine freshO_n ?_|refine zW ?_|(refine pr_call 0 (c0) ?hga ?hgb ?hgc ?_;(case hga=>rfl);(case hgb=>rfl);(case hgc=>exact fun _ _=>rfl))|intro b0 hb)|((first|with_reducible refine zm ?_|guard_hyp hK);refine zY ?_ ?_;all_goals(intro hb;(try simp only [sn,sb] at hb);try exact ex0)))
 generalize hR:PS.tlL W.L.length ([] ++ [(PS.take 1 σ).1]) (PS.take 1 σ).2=R
 refine loop_i (PS W×List ByteArray×Nat) (stPl Tryz.f30.ntmps 14) (nlI R) (fun z=>W.L.length - z.1.at_) [] ((PS.take 1 σ).2,[(PS.take 1 σ).1],0) trivial ⟨Nat.succ_le_succ (Nat.zero_le _),f0.hi ha0,_,hR,Nat.le_add_right _ _⟩ ⟨rfl,⟨rfl,rfl,rfl,rfl,rfl,rfl,trivial⟩,⟨rfl,rfl,trivial⟩,⟨pr_cl _,vS_cl _ _,trivial⟩⟩ ?_
 rintro⟨τ,l,v⟩ ⟨h1,h2,k,h3,h4⟩
 dsimp only at h1 h2 h3 h4
 unfold stPl
 dsimp only
 unfold PS.tlL at h3
 cases hb:τ.bad with
 |some f=>
  have hbb:τ.bad≠none:=by rw [hb];exact fun h=>by cases h
  rw [PS.isB_bad hbb,if_neg Bool.false_ne_true,PS.settle_stk hbb] at h3
  rw [← h3]
  dsimp only
  rw [hb]
  repeat'(first|(with_reducible first|(refine zz ?_;try intro K hK)|refine zI ?_|refine zt ?_|refine zf ?_)|((first|refine hK _ ?_|refine hK _ _ rfl ?_);clear hK K)|(guard_hyp hK;first|(refine zY ?zz ?_;case zz=>first|exact rfl|exact gJ)|refine fresh_n ?_|refine freshO_n ?_|refine zW ?_|intro b0 hb)|((first|with_reducible refine zm ?_|guard_hyp hK);refine zY ?_ ?_;all_goals(intro hb;(try simp only [sn,sb] at hb);try exact ex0)))
  exact pr_retF (r:=tSs l) rfl (by decide) rfl (fd_vS rfl rfl rfl rfl) (by decide) rfl
 |none=>
  have cs:=pSign_ok τ PS.kComma hL
  unfold PS.sgn at cs
  cases hB:τ.isB 4 PS.kComma with
  |false=>
   rw [hB,if_neg Bool.false_ne_true] at h3 cs
   rw [← h3]
   unfold pO at cs
   rw [hb] at cs
   repeat'(first|(with_reducible first|(refine zz ?_;try intro K hK)|refine zI ?_|refine zt ?_|refine zf ?_)|((first|refine hK _ ?_|refine hK _ _ rfl ?_);clear hK K)|(guard_hyp hK;first|(refine zY ?zz ?_;case zz=>first|exact rfl|exact gJ)|refine fresh_n ?_|refine freshO_n ?_|refine zW ?_|refine zp 0 (cs) ?_|intro b0 hb)|((first|with_reducible refine zm ?_|guard_hyp hK);refine zY ?_ ?_;all_goals(intro hb;(try simp only [sn,sb] at hb);try exact ex0)))
   exact pr_retF (r:=tSs l) rfl (by decide) rfl (fd_vS rfl rfl rfl rfl) (by decide) rfl
  |true=>
   obtain⟨t,ht,hk2,-⟩:=PS.isB_tok hB
   have hlt:=(PS.tok_at ht).2.2
   have hav:=PS.adv_at ht (by rw [hk2];decide)
   have haf:=PS.adv_fol1 hB (by decide)
   rw [hB,if_pos rfl] at h3 cs
   obtain⟨k,rfl⟩:∃j,k=j+1:=⟨k - 1,by omega⟩
   rw [namesL_tl] at h3
   have cn:=pName_ok τ.adv hL
   have f1:=PS.take_fol 1 τ.adv
   have f2:=f1.le
   rw [pO_adv ht (by rw [hk2];decide)] at cs cn
   unfold pO at cs cn
   rw [hb] at cs
   repeat'(first|(with_reducible first|(refine zz ?_;try intro K hK)|refine zI ?_|refine zt ?_|refine zf ?_)|((first|refine hK _ ?_|refine hK _ _ rfl ?_);clear hK K)|(guard_hyp hK;first|(refine zY ?zz ?_;case zz=>first|exact rfl|exact gJ)|refine fresh_n ?_|refine freshO_n ?_|refine zW ?_|refine zp 0 (cs) ?_|(refine pr_call 0 (cn) ?hga ?hgb ?hgc ?_;(case hga=>rfl);(case hgb=>rfl);(case hgc=>exact fun _ _=>rfl))|intro b0 hb)|((first|with_reducible refine zm ?_|guard_hyp hK);refine zY ?_ ?_;all_goals(intro hb;(try simp only [sn,sb] at hb);try exact ex0)))
   refine⟨((PS.take 1 τ.adv).2,l ++ [(PS.take 1 τ.adv).1],v+1),⟨by dsimp only;rw [List.length_append,List.length_singleton];omega,f1.hi (by omega),k,h3,by dsimp only;omega⟩,by dsimp only;omega,rfl,⟨rfl,rfl,rfl,rfl,?_,rfl,trivial⟩,⟨rfl,?_,trivial⟩,⟨pr_cl _,vS_cl _ _,trivial⟩⟩
   ·dsimp only;rw [List.length_append];rfl
   ·exact congrArg (fun e=>some (⟨1,e,v+1,true⟩:Obj)) (take_app (F:=vS) rfl)
variable {W : Txt}
open PS (Trm)
def prP (W:Txt)(a:Nat)(b:Option Flt)(n:Nat)(l:List Trm)(v:Nat):OH:=[(0,prO W a b n),(3,⟨4,l.map vT,v,true⟩)]
def prT (σ:PS W)(l:List Trm):OH:=prP W σ.at_ σ.bad σ.opn l 0
theorem prp_after {a a':Nat}{b b':Option Flt}{n n' v:Nat}{l:List Trm}{i:Nat}{o:Obj}(h:oget (prP W a' b' n' l v ++ prQ W a b n) i=some o):(i=0∧o=prO W a' b' n')∨(i=3∧o=⟨4,l.map vT,v,true⟩):=by
 by_cases h0:i=0
 ·subst h0
  exact .inl ⟨rfl,(Option.some.inj h).symm⟩
 ·by_cases h3:i=3
  ·subst h3
   exact .inr ⟨rfl,(Option.some.inj h).symm⟩
  ·rw [show prP W a' b' n' l v ++ prQ W a b n=[(0,_),(3,_),(0,_)] from rfl,oget,if_neg (Ne.symm h0),oget,if_neg (Ne.symm h3),oget,if_neg (Ne.symm h0)] at h
   cases h
theorem okpT_of_ev {P:Program}{C:CT}(hC:∀q ts r,C q ts r→OkR P q ts r)(hmix:P.follows .mixedOrders=true){q:FuncId}{fn:Func}{c:Code}{a a':Nat}{b b':Option Flt}{n n':Nat}{l:List Trm}{r:V}(np:Nat)(hnp:np≤1)
  (hfn:P.funcs[q]?=some fn) (hname:(fn.name == "runtime.NumGoroutine")=false) (hbody:fn.body=some c) (hok:okB fn.ntmps c=true) (hpar:parB np c=true) (hlen:1≤fn.ntmps)
  (h:evC P C c ⟨fn.ntmps,argEnvV 0 [.ref 0 0 0 0],[(0,prO W a b n)]⟩ (RetG P fn np (prQ W a b n) [.ref 0 0 0 0] (prP W a' b' n' l 0) r)):OkG P q (prQ W a b n) [3] [.ref 0 0 0 0] (prP W a' b' n' l 0) r:=
 okg_of_ev hC hmix np hnp hfn hname hbody hok hpar hlen
  (fun i o h=>by
   obtain⟨rfl,rfl⟩:=oget_one h
   exact⟨rfl,rfl,pr_cl _⟩)
  (one_vs rfl)
  (fun i o h=>by
   by_cases h0:i=0
   ·subst h0;exact .inl rfl
   ·by_cases h3:i=3
    ·subst h3;exact .inr (List.mem_singleton.2 rfl)
    ·rw [prP,oget,if_neg (Ne.symm h0),oget,if_neg (Ne.symm h3)] at h
     cases h)
  (fun i o o' h1 h2 h3 h4=>by
   obtain⟨rfl,rfl⟩:=oget_one h1
   rcases prp_after h2 with⟨-,rfl⟩|⟨e,-⟩
   ·exact⟨rfl,Nat.le_refl _⟩
   ·cases e) h
theorem prp_bm {s:St}{a a':Nat}{b b':Option Flt}{n n' v:Nat}{l:List Trm}(hs:oget s.oh 0=some (prO W a' b' n'))(h3:oget s.oh 3=some ⟨4,l.map vT,v,true⟩):Bm s.oh (prP W a' b' n' l 0 ++ prQ W a b n):=by
 intro i o h
 rcases prp_after h with⟨rfl,rfl⟩|⟨rfl,rfl⟩
 ·refine⟨_,hs,rfl,rfl,rfl,rfl,fun k e e1 he he1=>?_⟩
  rw [he] at he1
  obtain rfl:e=e1:=by simpa using he1
  exact bmA_flat (pr_flat _ _ _ e (List.mem_of_getElem? he))
 ·refine⟨_,h3,rfl,rfl,rfl,rfl,fun k e e1 he he1=>?_⟩
  rw [he] at he1
  obtain rfl:e=e1:=by simpa using he1
  exact bmA_flat (vTs_flat l e (List.mem_of_getElem? he))
theorem pr_retT {P:Program}{fn:Func}{s:St}{vs:List V}{a a':Nat}{b b':Option Flt}{n n' np t v:Nat}{l:List Trm}(len:Nat)(hlen:len=l.length)(hr:fn.results.toList=[.tmp t])(h0:0≠t)(hs:lfOb s.oh (prP W a' b' n' l v) 0 (prO W a' b' n'))
  (hv9:LV s.oh (prP W a' b' n' l v) (eget s.env t) (.own 3 v 0 len)) (hl:lfOb s.oh (prP W a' b' n' l v) 3 ⟨4,l.map vT,v,true⟩) (hnp:0 < np) (he:eget s.env 0=.ref 0 0 0 0) :
  RetG P fn np (prQ W a b n) (.ref 0 0 0 0 :: vs) (prP W a' b' n' l 0) (.own 3 0 0 l.length) .ret s:=by
 subst hlen
 have e1:eget [(0,V.ref 0 0 0 0),(t,V.own 3 v 0 l.length)] t=V.own 3 v 0 l.length:=by
  simp [eget,h0]
 refine⟨trivial,true,⟨s.n,[(0,.ref 0 0 0 0),(t,.own 3 v 0 l.length)],prP W a' b' n' l v⟩,?_,fun i o o' g1 g2 g3=>?_,prp_bm rfl rfl,?_⟩
 ·show Lf _ ⟨s.n,s.env,s.oh⟩
  refine lf_of0 ⟨?_,hv9,trivial⟩ ⟨hs,hl,trivial⟩
  rw [he];exact Lc.same _ rfl
 ·obtain⟨rfl,rfl⟩:=oget_one g1
  exact⟨Nat.zero_lt_succ _,⟨_,rfl,rfl,rfl,rfl⟩,0,_,hnp,rfl,rfl,⟨rfl,rfl⟩⟩
 ·rw [hr]
  have h9:BmC (prP W a' b' n' l v) (prP W a' b' n' l 0 ++ prQ W a b n) (eget [(0,V.ref 0 0 0 0),(t,V.own 3 v 0 l.length)] t) (.own 3 0 0 l.length):=by
   rw [e1]
   exact BmC.own 3 v 0 0 _ _ _ rfl rfl rfl rfl
  exact h9
theorem pr_nilT {P:Program}{fn:Func}{s:St}{vs:List V}{a a':Nat}{b b':Option Flt}{n n' np t:Nat}(hr:fn.results.toList=[.tmp t])(h0:0≠t)(hs:lfOb s.oh (prP W a' b' n' [] 0) 0 (prO W a' b' n'))
  (he9:eget s.env t=.emp) (h3:oget s.oh 3=none) (hnp:0 < np) (he:eget s.env 0=.ref 0 0 0 0) :
  RetG P fn np (prQ W a b n) (.ref 0 0 0 0 :: vs) (prP W a' b' n' [] 0) (.own 3 0 0 ([]:List Trm).length) .ret s:=
 pr_retT 0 rfl hr h0 hs (by rw [he9];exact Lc.adopt 3 _ h3 rfl) (lfOb_new h3) hnp he
theorem pr_callT {C:CT}{q:FuncId}{args:List V}{oh:OH}{a a':Nat}{b b':Option Flt}{n n':Nat}{l:List Trm}{k:Acc→Prop}(id c:Nat)(hc:C q [] (.gen (prQ W a b n) [3] [.ref 0 0 0 0] (prP W a' b' n' l 0) (.own 3 0 0 l.length)))
  (ha:args=[.ref id 0 0 0]) (hp:oget oh id=some (prO W a b n)) (hn:oget oh c=none) (hne:id≠c)
  (hk:k ⟨[(id,prO W a b n)],[c],[(id,prO W a' b' n'),(c,⟨4,l.map vT,0,true⟩)],.own c 0 0 l.length⟩):GenK C q args oh k:=by
 have ep:∀a b n,(prO W a b n).rn (lkM [(0,id,0),(3,c,0)]) (lkV [(0,id,0),(3,c,0)]) 0=prO W a b n:=by
  intro a b n
  show Obj.mk 5 [(prV W a b n).rnA _ _] 0 true=_
  rw [rn_id _ _ (prV_flat a b n)];rfl
 refine⟨_,_,_,_,_,lkM [(0,id,0),(3,c,0)],lkV [(0,id,0),(3,c,0)],hc,by rw [ha];rfl,fun p hp'=>?_,fun i hi=>?_,fun i hi j hj hij=>?_,?_⟩
 ·obtain rfl:=List.mem_singleton.1 hp'
  show oget oh id=some ((prO W a b n).rn _ _ 0)
  rw [ep];exact hp
 ·obtain rfl:=List.mem_singleton.1 hi
  exact hn
 ·have hi:i=0∨i=3:=by simpa [prQ] using hi
  have hj:j=0∨j=3:=by simpa [prQ] using hj
  rcases hi with rfl|rfl<;>rcases hj with rfl|rfl
  ·rfl
  ·exact absurd hij hne
  ·exact absurd hij.symm hne
  ·rfl
 ·have e1:rnO (lkM [(0,id,0),(3,c,0)]) (lkV [(0,id,0),(3,c,0)]) (prQ W a b n)=[(id,prO W a b n)]:=by
   show [(id,(prO W a b n).rn _ _ 0)]=_
   rw [ep]
  have e2:rnO (lkM [(0,id,0),(3,c,0)]) (lkV [(0,id,0),(3,c,0)]) (prP W a' b' n' l 0)=[(id,prO W a' b' n'),(c,⟨4,l.map vT,0,true⟩)]:=by
   show [(id,(prO W a' b' n').rn _ _ 0),(c,Obj.mk 4 ((l.map vT).map _) 0 true)]=_
   rw [ep,rn_map (F:=vT) (fun t=>rn_id _ _ (vT_flat t))]
  rw [e1,e2]
  exact hk
def stPc (W:Txt)(N:Nat)(z:PS W×List Trm×Nat×Nat):St:=⟨N,[(0,.ref 0 0 0 0),(3,.own 3 z.2.2.1 0 z.2.2.2)],prP W z.1.at_ z.1.bad z.1.opn z.2.1 z.2.2.1⟩
theorem sgn_yes {σ:PS W}{w:ByteArray}(h:σ.isB 4 w=true):σ.sgn w=σ.adv:=if_pos h
theorem sgn_no {σ:PS W}{w:ByteArray}(h:σ.isB 4 w=false):σ.sgn w=σ.settle:=if_neg (by rw [h];exact Bool.false_ne_true)
theorem chain_stp {R:List Trm×PS W}{f:PS.Rd W}{a b:ByteArray}{ka kb:Int}{k:Nat}{l:List Trm}{τ:PS W}(h:PS.chainL f a b ka kb (k+1) l τ=R) :
  (τ.isB 4 a=true→PS.chainL f a b ka kb k (l ++ (f τ.adv).1 ++ [⟨ka,0,0⟩]) (f τ.adv).2=R)∧
  (τ.isB 4 a=false→τ.isB 4 b=true→PS.chainL f a b ka kb k (l ++ (f τ.adv).1 ++ [⟨kb,0,0⟩]) (f τ.adv).2=R)∧
  (τ.isB 4 a=false→τ.isB 4 b=false→(l,τ.settle)=R):=by
 rw [PS.chainL] at h
 refine⟨fun h1=>?_,fun h1 h2=>?_,fun h1 h2=>?_⟩
 ·rw [if_pos h1] at h;exact h
 ·rw [if_neg (by rw [h1];exact Bool.false_ne_true),if_pos h2] at h;exact h
 ·rw [if_neg (by rw [h1];exact Bool.false_ne_true),if_neg (by rw [h2];exact Bool.false_ne_true)] at h;exact h
def chI (W:Txt)(R:List Trm×PS W)(f:PS.Rd W)(a b:ByteArray)(ka kb:Int)(d:Nat)(z:PS W×List Trm×Nat×Nat):Prop:=
 z.2.2.2=z.2.1.length∧z.1.opn+d=65∧z.1.at_≤W.L.length∧z.2.1.length≤2 * z.1.at_∧∃k,PS.chainL f a b ka kb k z.2.1 z.1=R∧1≤k∧W.L.length < k+z.1.at_
def UnOK (P:Program)(q:FuncId)(d:Nat)(f:PS.Rd W):Prop:=∀σ:PS W,σ.opn+d=65→σ.at_≤W.L.length→OkG P q (pO σ) [3] [.ref 0 0 0 0] (prT (f σ).2 (f σ).1) (.own 3 0 0 (f σ).1.length)
theorem pProd_ok {f:PS.Rd W}{d:Nat}(hL:W.L.length≤1073741824)(hgood:PS.Good f)(hc:UnOK Tryz.prog 42 d f):UnOK Tryz.prog 33 d (PS.prod (X:=W) f):=by
 intro σ ho ha
 have h0:=hc σ ho ha
 unfold prT at h0
 unfold pO at h0 ⊢
 generalize hR:PS.prod f σ=R
 refine okpT_of_ev hC0 mix 1 (zO rfl) Tryz.func33 rfl rfl (by kernel_rfl) (by kernel_rfl) (zO rfl) ?_
 obtain⟨g1,g2⟩:=hgood σ
 repeat'(first|(with_reducible first|(refine zz ?_;try intro K hK)|refine zI ?_|refine zt ?_|refine zf ?_)|((first|refine hK _ ?_|refine hK _ _ rfl ?_);clear hK K)|(guard_hyp hK;first|(refine zY ?zz ?_;case zz=>first|exact rfl|exact gJ)|refine fresh_n ?_|refine freshO_n ?_|refine zW ?_|(refine Or.inr (Or.inr (Or.inl (pr_callT 0 3 (h0) ?hga ?hgb ?hgc ?hgd ?_)));(case hga=>rfl);(case hgb=>rfl);(case hgc=>rfl);(case hgd=>decide))|intro b0 hb)|((first|with_reducible refine zm ?_|guard_hyp hK);refine zY ?_ ?_;all_goals(intro hb;(try simp only [sn,sb] at hb);try exact ex0)))
 refine loop_f (PS W×List Trm×Nat×Nat) (stPc W Tryz.f33.ntmps) (chI W R f PS.kStar PS.kOver 4 5 d) (fun z=>W.L.length - z.1.at_) ((f σ).2,(f σ).1,0,(f σ).1.length) ⟨rfl,by rw [g1.opn];exact ho,g1.hi ha,by dsimp only;omega,_,hR,Nat.succ_le_succ (Nat.zero_le _),by dsimp only;omega⟩ (lf_of0 ⟨Lc.same _ rfl,Lc.same _ rfl,trivial⟩ ⟨lfOb_same rfl (pr_flat _ _ _),lfOb_same rfl (vTs_flat _),trivial⟩) ?_
 rintro⟨τ,l,v,n⟩ ⟨q0,q1,q2,q3,k,q4,q5,q6⟩
 dsimp only at q0 q1 q2 q3 q4 q5 q6
 subst q0
 obtain⟨k,rfl⟩:∃j,k=j+1:=⟨k - 1,by omega⟩
 obtain⟨y1,y2,y3⟩:=chain_stp q4
 have ca:=pSign_ok τ PS.kStar hL
 unfold stPc
 dsimp only
 cases hA:τ.isB 4 PS.kStar with
 |true=>
  obtain⟨t,ht,hk,-⟩:=PS.isB_tok hA
  have hlt:=(PS.tok_at ht).2.2
  have hav:=PS.adv_at ht (by rw [hk];decide)
  have haf:=PS.adv_fol1 hA (by decide)
  have hc1:=hc τ.adv (by rw [hav.2.2];exact q1) (haf.hi q2)
  obtain⟨g3,g4⟩:=hgood τ.adv
  have g5:=g3.le
  have g6:=g3.hi (haf.hi q2)
  unfold prT at hc1
  rw [pO_adv ht (by rw [hk];decide)] at hc1
  rw [sgn_yes hA,hA,pO_adv ht (by rw [hk];decide),pO_some ht] at ca
  rw [(PS.tok_at ht).1]
  repeat'(first|(refine And.intro (allv_td fun _=>rfl) ?_)|(with_reducible first|(refine zz ?_;try intro K hK)|refine zI ?_|refine zt ?_|refine zf ?_)|((first|refine hK _ ?_|refine hK _ _ rfl ?_);clear hK K)|(guard_hyp hK;first|(refine zY ?zz ?_;case zz=>first|exact rfl|exact gJ)|refine fresh_n ?_|refine freshO_n ?_|refine zW ?_|refine zp 0 (ca) ?_|(refine Or.inr (Or.inr (Or.inl (pr_callT 0 7 (hc1) ?hga ?hgb ?hgc ?hgd ?_)));(case hga=>rfl);(case hgb=>rfl);(case hgc=>rfl);(case hgd=>decide))|intro b0 hb)|((first|with_reducible refine zm ?_|guard_hyp hK);refine zY ?_ ?_;all_goals(intro hb;(try simp only [sn,sb] at hb);try exact ex0)))
  refine⟨((f τ.adv).2,l ++ (f τ.adv).1 ++ [⟨4,0,0⟩],v+1+1,l.length+((((f τ.adv).1.map vT).drop 0).take (f τ.adv).1.length).length+1),⟨?_,by dsimp only;rw [g3.opn,hav.2.2];exact q1,g6,?_,k,y1 hA,by omega,by dsimp only;omega⟩,by dsimp only;omega,lf_of0 ⟨Lc.same _ rfl,Lc.same _ rfl,trivial⟩ ⟨lfOb_same rfl (pr_flat _ _ _),lfOb_two (l:=l) (l2:=(f τ.adv).1) (k:=4) rfl rfl rfl (by simp only [List.length_take,List.length_drop,List.length_map];omega) rfl (lv_sign 4),trivial⟩⟩
  ·simp only [List.length_take,List.length_drop,List.length_map,List.length_append,List.length_singleton];omega
  ·simp only [List.length_append,List.length_singleton];omega
 |false=>
  rw [hA,sgn_no hA] at ca
  have cb:=pSign_ok τ.settle PS.kOver hL
  rw [isB_settle] at cb
  cases hB:τ.isB 4 PS.kOver with
  |true=>
   obtain⟨t,ht,hk,-⟩:=PS.isB_tok hB
   have hlt:=(PS.tok_at ht).2.2
   have hav:=PS.adv_at ht (by rw [hk];decide)
   have haf:=PS.adv_fol1 hB (by decide)
   have hc1:=hc τ.adv (by rw [hav.2.2];exact q1) (haf.hi q2)
   obtain⟨g3,g4⟩:=hgood τ.adv
   have g5:=g3.le
   have g6:=g3.hi (haf.hi q2)
   unfold prT at hc1
   rw [pO_adv ht (by rw [hk];decide)] at hc1
   rw [PS.settle_some ht,pO_some ht] at ca
   rw [PS.settle_some ht,sgn_yes hB,hB,pO_adv ht (by rw [hk];decide),pO_some ht] at cb
   rw [(PS.tok_at ht).1]
   repeat'(first|(refine And.intro (allv_td fun _=>rfl) ?_)|(with_reducible first|(refine zz ?_;try intro K hK)|refine zI ?_|refine zt ?_|refine zf ?_)|((first|refine hK _ ?_|refine hK _ _ rfl ?_);clear hK K)|(guard_hyp hK;first|(refine zY ?zz ?_;case zz=>first|exact rfl|exact gJ)|refine fresh_n ?_|refine freshO_n ?_|refine zW ?_|refine zp 0 (ca) ?_|refine zp 0 (cb) ?_|(refine Or.inr (Or.inr (Or.inl (pr_callT 0 7 (hc1) ?hga ?hgb ?hgc ?hgd ?_)));(case hga=>rfl);(case hgb=>rfl);(case hgc=>rfl);(case hgd=>decide))|intro b0 hb)|((first|with_reducible refine zm ?_|guard_hyp hK);refine zY ?_ ?_;all_goals(intro hb;(try simp only [sn,sb] at hb);try exact ex0)))
   refine⟨((f τ.adv).2,l ++ (f τ.adv).1 ++ [⟨5,0,0⟩],v+1+1,l.length+((((f τ.adv).1.map vT).drop 0).take (f τ.adv).1.length).length+1),⟨?_,by dsimp only;rw [g3.opn,hav.2.2];exact q1,g6,?_,k,y2 hA hB,by omega,by dsimp only;omega⟩,by dsimp only;omega,lf_of0 ⟨Lc.same _ rfl,Lc.same _ rfl,trivial⟩ ⟨lfOb_same rfl (pr_flat _ _ _),lfOb_two (l:=l) (l2:=(f τ.adv).1) (k:=5) rfl rfl rfl (by simp only [List.length_take,List.length_drop,List.length_map];omega) rfl (lv_sign 5),trivial⟩⟩
   ·simp only [List.length_take,List.length_drop,List.length_map,List.length_append,List.length_singleton];omega
   ·simp only [List.length_append,List.length_singleton];omega
  |false=>
   have e9:τ.settle.isB 4 PS.kOver=false:=by rw [isB_settle];exact hB
   rw [hB,sgn_no e9,settle_settle] at cb
   unfold pO at ca cb
   repeat'(first|(with_reducible first|(refine zz ?_;try intro K hK)|refine zI ?_|refine zt ?_|refine zf ?_)|((first|refine hK _ ?_|refine hK _ _ rfl ?_);clear hK K)|(guard_hyp hK;first|(refine zY ?zz ?_;case zz=>first|exact rfl|exact gJ)|refine fresh_n ?_|refine freshO_n ?_|refine zW ?_|refine zp 0 (ca) ?_|refine zp 0 (cb) ?_|intro b0 hb)|((first|with_reducible refine zm ?_|guard_hyp hK);refine zY ?_ ?_;all_goals(intro hb;(try simp only [sn,sb] at hb);try exact ex0)))
   rw [← y3 hA hB]
   exact pr_retT (l:=l) (v:=v) _ rfl rfl (by decide) (lfOb_same rfl (pr_flat _ _ _)) (Lc.same _ rfl) (lfOb_same rfl (vTs_flat _)) (by decide) rfl
theorem pSum_ok {f:PS.Rd W}{d:Nat}(hL:W.L.length≤1073741824)(hgood0:PS.Good f)(hc:UnOK Tryz.prog 33 d (PS.prod (X:=W) f)):UnOK Tryz.prog 21 d (PS.sum (X:=W) f):=by
 intro σ ho ha
 have hgood:=PS.prod_good hgood0
 have h0:=hc σ ho ha
 unfold prT at h0
 unfold pO at h0 ⊢
 generalize hR:PS.sum f σ=R
 unfold PS.sum at hR
 generalize PS.prod f=f at *
 refine okpT_of_ev hC0 mix 1 (zO rfl) Tryz.func21 rfl rfl (by kernel_rfl) (by kernel_rfl) (zO rfl) ?_
 obtain⟨g1,g2⟩:=hgood σ
 repeat'(first|(with_reducible first|(refine zz ?_;try intro K hK)|refine zI ?_|refine zt ?_|refine zf ?_)|((first|refine hK _ ?_|refine hK _ _ rfl ?_);clear hK K)|(guard_hyp hK;first|(refine zY ?zz ?_;case zz=>first|exact rfl|exact gJ)|refine fresh_n ?_|refine freshO_n ?_|refine zW ?_|(refine Or.inr (Or.inr (Or.inl (pr_callT 0 3 (h0) ?hga ?hgb ?hgc ?hgd ?_)));(case hga=>rfl);(case hgb=>rfl);(case hgc=>rfl);(case hgd=>decide))|intro b0 hb)|((first|with_reducible refine zm ?_|guard_hyp hK);refine zY ?_ ?_;all_goals(intro hb;(try simp only [sn,sb] at hb);try exact ex0)))
 refine loop_f (PS W×List Trm×Nat×Nat) (stPc W Tryz.f21.ntmps) (chI W R f PS.kPlus PS.kMin 2 3 d) (fun z=>W.L.length - z.1.at_) ((f σ).2,(f σ).1,0,(f σ).1.length) ⟨rfl,by rw [g1.opn];exact ho,g1.hi ha,by dsimp only;omega,_,hR,Nat.succ_le_succ (Nat.zero_le _),by dsimp only;omega⟩ (lf_of0 ⟨Lc.same _ rfl,Lc.same _ rfl,trivial⟩ ⟨lfOb_same rfl (pr_flat _ _ _),lfOb_same rfl (vTs_flat _),trivial⟩) ?_
 rintro⟨τ,l,v,n⟩ ⟨q0,q1,q2,q3,k,q4,q5,q6⟩
 dsimp only at q0 q1 q2 q3 q4 q5 q6
 subst q0
 obtain⟨k,rfl⟩:∃j,k=j+1:=⟨k - 1,by omega⟩
 obtain⟨y1,y2,y3⟩:=chain_stp q4
 have ca:=pSign_ok τ PS.kPlus hL
 unfold stPc
 dsimp only
 cases hA:τ.isB 4 PS.kPlus with
 |true=>
  obtain⟨t,ht,hk,-⟩:=PS.isB_tok hA
  have hlt:=(PS.tok_at ht).2.2
  have hav:=PS.adv_at ht (by rw [hk];decide)
  have haf:=PS.adv_fol1 hA (by decide)
  have hc1:=hc τ.adv (by rw [hav.2.2];exact q1) (haf.hi q2)
  obtain⟨g3,g4⟩:=hgood τ.adv
  have g5:=g3.le
  have g6:=g3.hi (haf.hi q2)
  unfold prT at hc1
  rw [pO_adv ht (by rw [hk];decide)] at hc1
  rw [sgn_yes hA,hA,pO_adv ht (by rw [hk];decide),pO_some ht] at ca
  rw [(PS.tok_at ht).1]
  repeat'(first|(refine And.intro (allv_td fun _=>rfl) ?_)|(with_reducible first|(refine zz ?_;try intro K hK)|refine zI ?_|refine zt ?_|refine zf ?_)|((first|refine hK _ ?_|refine hK _ _ rfl ?_);clear hK K)|(guard_hyp hK;first|(refine zY ?zz ?_;case zz=>first|exact rfl|exact gJ)|refine fresh_n ?_|refine freshO_n ?_|refine zW ?_|refine zp 0 (ca) ?_|(refine Or.inr (Or.inr (Or.inl (pr_callT 0 7 (hc1) ?hga ?hgb ?hgc ?hgd ?_)));(case hga=>rfl);(case hgb=>rfl);(case hgc=>rfl);(case hgd=>decide))|intro b0 hb)|((first|with_reducible refine zm ?_|guard_hyp hK);refine zY ?_ ?_;all_goals(intro hb;(try simp only [sn,sb] at hb);try exact ex0)))
  refine⟨((f τ.adv).2,l ++ (f τ.adv).1 ++ [⟨2,0,0⟩],v+1+1,l.length+((((f τ.adv).1.map vT).drop 0).take (f τ.adv).1.length).length+1),⟨?_,by dsimp only;rw [g3.opn,hav.2.2];exact q1,g6,?_,k,y1 hA,by omega,by dsimp only;omega⟩,by dsimp only;omega,lf_of0 ⟨Lc.same _ rfl,Lc.same _ rfl,trivial⟩ ⟨lfOb_same rfl (pr_flat _ _ _),lfOb_two (l:=l) (l2:=(f τ.adv).1) (k:=2) rfl rfl rfl (by simp only [List.length_take,List.length_drop,List.length_map];omega) rfl (lv_sign 2),trivial⟩⟩
  ·simp only [List.length_take,List.length_drop,List.length_map,List.length_append,List.length_singleton];omega
  ·simp only [List.length_append,List.length_singleton];omega
 |false=>
  rw [hA,sgn_no hA] at ca
  have cb:=pSign_ok τ.settle PS.kMin hL
  rw [isB_settle] at cb
  cases hB:τ.isB 4 PS.kMin with
  |true=>
   obtain⟨t,ht,hk,-⟩:=PS.isB_tok hB
   have hlt:=(PS.tok_at ht).2.2
   have hav:=PS.adv_at ht (by rw [hk];decide)
   have haf:=PS.adv_fol1 hB (by decide)
   have hc1:=hc τ.adv (by rw [hav.2.2];exact q1) (haf.hi q2)
   obtain⟨g3,g4⟩:=hgood τ.adv
   have g5:=g3.le
   have g6:=g3.hi (haf.hi q2)
   unfold prT at hc1
   rw [pO_adv ht (by rw [hk];decide)] at hc1
   rw [PS.settle_some ht,pO_some ht] at ca
   rw [PS.settle_some ht,sgn_yes hB,hB,pO_adv ht (by rw [hk];decide),pO_some ht] at cb
   rw [(PS.tok_at ht).1]
   repeat'(first|(refine And.intro (allv_td fun _=>rfl) ?_)|(with_reducible first|(refine zz ?_;try intro K hK)|refine zI ?_|refine zt ?_|refine zf ?_)|((first|refine hK _ ?_|refine hK _ _ rfl ?_);clear hK K)|(guard_hyp hK;first|(refine zY ?zz ?_;case zz=>first|exact rfl|exact gJ)|refine fresh_n ?_|refine freshO_n ?_|refine zW ?_|refine zp 0 (ca) ?_|refine zp 0 (cb) ?_|(refine Or.inr (Or.inr (Or.inl (pr_callT 0 7 (hc1) ?hga ?hgb ?hgc ?hgd ?_)));(case hga=>rfl);(case hgb=>rfl);(case hgc=>rfl);(case hgd=>decide))|intro b0 hb)|((first|with_reducible refine zm ?_|guard_hyp hK);refine zY ?_ ?_;all_goals(intro hb;(try simp only [sn,sb] at hb);try exact ex0)))
   refine⟨((f τ.adv).2,l ++ (f τ.adv).1 ++ [⟨3,0,0⟩],v+1+1,l.length+((((f τ.adv).1.map vT).drop 0).take (f τ.adv).1.length).length+1),⟨?_,by dsimp only;rw [g3.opn,hav.2.2];exact q1,g6,?_,k,y2 hA hB,by omega,by dsimp only;omega⟩,by dsimp only;omega,lf_of0 ⟨Lc.same _ rfl,Lc.same _ rfl,trivial⟩ ⟨lfOb_same rfl (pr_flat _ _ _),lfOb_two (l:=l) (l2:=(f τ.adv).1) (k:=3) rfl rfl rfl (by simp only [List.length_take,List.length_drop,List.length_map];omega) rfl (lv_sign 3),trivial⟩⟩
   ·simp only [List.length_take,List.length_drop,List.length_map,List.length_append,List.length_singleton];omega
   ·simp only [List.length_append,List.length_singleton];omega
  |false=>
   have e9:τ.settle.isB 4 PS.kMin=false:=by rw [isB_settle];exact hB
   rw [hB,sgn_no e9,settle_settle] at cb
   unfold pO at ca cb
   repeat'(first|(with_reducible first|(refine zz ?_;try intro K hK)|refine zI ?_|refine zt ?_|refine zf ?_)|((first|refine hK _ ?_|refine hK _ _ rfl ?_);clear hK K)|(guard_hyp hK;first|(refine zY ?zz ?_;case zz=>first|exact rfl|exact gJ)|refine fresh_n ?_|refine freshO_n ?_|refine zW ?_|refine zp 0 (ca) ?_|refine zp 0 (cb) ?_|intro b0 hb)|((first|with_reducible refine zm ?_|guard_hyp hK);refine zY ?_ ?_;all_goals(intro hb;(try simp only [sn,sb] at hb);try exact ex0)))
   rw [← y3 hA hB]
   exact pr_retT (l:=l) (v:=v) _ rfl rfl (by decide) (lfOb_same rfl (pr_flat _ _ _)) (Lc.same _ rfl) (lfOb_same rfl (vTs_flat _)) (by decide) rfl
end Go.Ev
