import Derived.Test.YtfdgaoihjedamaaGreatDoorLao
import Derived.Test.YtfdgaoihjedamaaGreatDoorLap
set_option linter.all false
set_option maxHeartbeats 4000000
set_option maxRecDepth 10000
namespace Go.Ev
open Go.Proofs
variable {W : Txt}
def PS.needL (ws:List (Int×ByteArray))(σ:PS W):PS W:=ws.foldl (fun τ p=>PS.need p.1 p.2 τ) σ
theorem needL_bad {σ:PS W}(h:σ.bad≠none):∀ws:List (Int×ByteArray),σ.needL ws=σ
 | []=>rfl
 |p :: r=>by
  show(PS.need p.1 p.2 σ).needL r=σ
  rw [(PS.need_fol p.1 p.2 σ).stk h]
  exact needL_bad h r
def KindOK (W:Txt)(p:Int×ByteArray):Prop:=(p.1=1∨p.1=4)∧∀t ∈ W.L,t.text=p.2→t.kind=1∨t.kind=4→t.kind=p.1
def wOb (ws:List (Int×ByteArray)):Obj:=⟨1,ws.map fun p=>vS p.2,0,true⟩
def nO (W:Txt)(a:Nat)(b:Option Flt)(n:Nat)(ws:List (Int×ByteArray)):OH:=[(0,prO W a b n),(1,wOb ws)]
theorem wOb_flat (ws:List (Int×ByteArray)):∀e ∈ (wOb ws).el,e.flat:=by
 intro e he
 obtain⟨p,-,rfl⟩:=List.mem_map.1 he
 trivial
theorem nO_get {a:Nat}{b:Option Flt}{n:Nat}{ws:List (Int×ByteArray)}{i:Nat}{o:Obj}(h:oget (nO W a b n ws) i=some o):(i=0∧o=prO W a b n)∨(i=1∧o=wOb ws):=by
 by_cases h0:i=0
 ·subst h0;exact .inl ⟨rfl,(Option.some.inj h).symm⟩
 ·by_cases h1:i=1
  ·subst h1;exact .inr ⟨rfl,(Option.some.inj h).symm⟩
  ·rw [nO,oget,if_neg (Ne.symm h0),oget,if_neg (Ne.symm h1)] at h
   cases h
theorem nO_after {a a':Nat}{b b':Option Flt}{n n':Nat}{ws:List (Int×ByteArray)}{i:Nat}{o:Obj}(h:oget (prQ W a' b' n' ++ nO W a b n ws) i=some o):(i=0∧o=prO W a' b' n')∨(i=1∧o=wOb ws):=by
 by_cases h0:i=0
 ·subst h0;exact .inl ⟨rfl,(Option.some.inj h).symm⟩
 ·have:oget (nO W a b n ws) i=some o:=by
   rw [← h]
   show _=oget ((0,_) :: nO W a b n ws) i
   rw [oget,if_neg (Ne.symm h0)]
  rcases nO_get this with⟨e,-⟩|h9
  ·exact absurd e h0
  ·exact .inr h9
theorem nO_ret {P:Program}{fn:Func}{s:St}{a a':Nat}{b b':Option Flt}{n n' np:Nat}{ws:List (Int×ByteArray)}{x:X}(hx:match x with|.exit _=>False|_=>True)(hr:fn.results.toList=[])(hs:oget s.oh 0=some (prO W a' b' n'))(h1:oget s.oh 1=some (wOb ws))(hnp:1 < np)(he:eget s.env 0=.ref 0 0 0 0)(he1:eget s.env 1=.own 1 0 0 ws.length)(hw:0 < ws.length) :
  RetG P fn np (nO W a b n ws) [.ref 0 0 0 0,.own 1 0 0 ws.length] (prQ W a' b' n') (.tup []) x s:=by
 refine⟨hx,false,s,rfl,fun i o o' g1 g2 g3=>?_,fun i o h=>?_,?_⟩
 ·rcases nO_get g1 with⟨rfl,rfl⟩|⟨rfl,rfl⟩
  ·exact⟨Nat.zero_lt_succ _,⟨_,hs,rfl,rfl,rfl⟩,0,_,by omega,rfl,he,⟨rfl,rfl⟩⟩
  ·exact⟨Nat.zero_lt_succ _,⟨_,h1,rfl,rfl,rfl⟩,1,_,hnp,rfl,he1,⟨rfl,rfl,hw⟩⟩
 ·rcases nO_after h with⟨rfl,rfl⟩|⟨rfl,rfl⟩
  ·refine⟨_,hs,rfl,rfl,rfl,rfl,fun k e e1 g1 g2=>?_⟩
   rw [g1] at g2
   obtain rfl:e=e1:=by simpa using g2
   exact bmA_flat (pr_flat _ _ _ e (List.mem_of_getElem? g1))
  ·refine⟨_,h1,rfl,rfl,rfl,rfl,fun k e e1 g1 g2=>?_⟩
   rw [g1] at g2
   obtain rfl:e=e1:=by simpa using g2
   exact bmA_flat (wOb_flat _ e (List.mem_of_getElem? g1))
 ·rw [hr]
theorem needL_drop {ws:List (Int×ByteArray)}{i:Nat}{p:Int×ByteArray}(h:ws[i]?=some p)(σ:PS W):PS.needL (ws.drop i) σ=PS.needL (ws.drop (i+1)) (PS.need p.1 p.2 σ):=by
 obtain⟨hl,e⟩:=List.getElem?_eq_some_iff.1 h
 rw [List.drop_eq_getElem_cons hl,e];rfl
def stNd (N:Nat)(ws:List (Int×ByteArray))(z:Nat×PS W):St:=⟨N,[(0,.ref 0 0 0 0),(1,.own 1 0 0 ws.length),(6,.own 1 0 0 ws.length),(7,.con (.int .i64 ws.length)),(8,.con (.int .i64 z.1))],[(0,prO W z.2.at_ z.2.bad z.2.opn),(1,wOb ws)]⟩
theorem at_w {ws:List (Int×ByteArray)}{i:Nat}{p:Int×ByteArray}(h:ws[i]?=some p):(ws.map fun p=>vS p.2)[0+i]?=some (.con (.string p.2)):=by
 rw [Nat.zero_add,List.getElem?_map,h];rfl
theorem pNeed_ok (ws:List (Int×ByteArray))(σ:PS W)(hL:W.L.length≤1073741824)(hw:0 < ws.length)(hn:ws.length≤1024)(hk:∀p ∈ ws,KindOK W p):OkG Tryz.prog 32 (nO W σ.at_ σ.bad σ.opn ws) [] [.ref 0 0 0 0,.own 1 0 0 ws.length] (pO (σ.needL ws)) (.tup []):=by
 unfold pO
 refine okg_of_ev hC0 mix 2 (zO rfl) Tryz.func32 rfl rfl (by kernel_rfl) (by kernel_rfl) (zO rfl) ?wf ?vs ?po ?le ?_
 case wf=>
  intro i o h
  rcases nO_get h with⟨rfl,rfl⟩|⟨rfl,rfl⟩
  ·exact⟨rfl,rfl,pr_cl _⟩
  ·exact⟨rfl,rfl,fun v hv=>(wOb_flat ws v hv).cl _⟩
 case vs=>exact two_vs rfl rfl
 case po=>
  intro i o h
  obtain⟨rfl,rfl⟩:=oget_one h
  exact .inl rfl
 case le=>
  intro i o o' h1 h2 h3 h4
  rcases nO_get h1 with⟨rfl,rfl⟩|⟨rfl,rfl⟩
  ·rcases nO_after h2 with⟨-,rfl⟩|⟨e,-⟩
   ·exact⟨rfl,Nat.le_refl _⟩
   ·cases e
  ·rcases nO_after h2 with⟨e,-⟩|⟨-,rfl⟩
   ·cases e
   ·exact⟨rfl,Nat.le_refl _⟩
 repeat'(first|(with_reducible first|(refine zz ?_;try intro K hK)|refine zI ?_|refine zt ?_|refine zf ?_)|((first|refine hK _ ?_|refine hK _ _ rfl ?_);clear hK K)|(guard_hyp hK;first|(refine zY ?zz ?_;case zz=>first|exact rfl|exact gJ)|refine fresh_n ?_|refine freshO_n ?_|refine zW ?_|intro b0 hb)|((first|with_reducible refine zm ?_|guard_hyp hK);refine zY ?_ ?_;all_goals(intro hb;(try simp only [sn,sb] at hb);try exact ex0)))
 refine loop_i (Nat×PS W) (stNd Tryz.f32.ntmps ws) (fun z=>z.1≤ws.length∧PS.needL (ws.drop z.1) z.2=σ.needL ws) (fun z=>ws.length - z.1) [] (0,σ) trivial ⟨Nat.zero_le _,rfl⟩ ⟨rfl,⟨rfl,rfl,rfl,rfl,rfl,rfl,rfl,trivial,rfl,trivial,trivial⟩,⟨rfl,rfl,trivial⟩,⟨pr_cl _,fun v hv=>(wOb_flat ws v hv).cl _,trivial⟩⟩ ?_
 rintro⟨i,τ⟩ ⟨h0,h1⟩
 dsimp only at h0 h1
 unfold stNd
 dsimp only
 by_cases hlt:i < ws.length
 ·obtain⟨p,hp⟩:∃p,ws[i]?=some p:=⟨_,List.getElem?_eq_getElem hlt⟩
  have hpm:=List.mem_of_getElem? hp
  obtain⟨hk0,hk1⟩:=hk p hpm
  rw [needL_drop hp] at h1
  have hat:=at_w hp
  have ca:=pIs_ok τ 4 p.2
  have cb:=pIs_ok τ.settle 1 p.2
  rw [isB_settle,settle_settle] at cb
  by_cases hB:τ.isB p.1 p.2=true
  ·obtain⟨t,ht,hkk,htx⟩:=PS.isB_tok hB
   have hlt2:=(PS.tok_at ht).2.2
   rw [show PS.need p.1 p.2 τ=τ.adv from if_pos hB] at h1
   have hav:=PS.adv_at ht (by rw [hkk];omega)
   have fin:Le (stNd (W:=W) Tryz.f32.ntmps ws (i+1,τ.adv)) (stNd Tryz.f32.ntmps ws (i+1,τ.adv)):=⟨rfl,⟨rfl,rfl,rfl,rfl,rfl,rfl,rfl,trivial,rfl,trivial,trivial⟩,⟨rfl,rfl,trivial⟩,⟨pr_cl _,fun v hv=>(wOb_flat ws v hv).cl _,trivial⟩⟩
   rw [PS.settle_some ht,pO_some ht] at ca cb
   rw [(PS.tok_at ht).1]
   rcases hk0 with hk0|hk0
   ·have e4:τ.isB 4 p.2=false:=by
     unfold PS.isB
     rw [ht]
     exact decide_eq_false fun h=>by have:=h.1;omega
    rw [e4] at ca
    rw [hk0] at hB
    rw [hB] at cb
    repeat'(first|(refine Exists.intro _ (And.intro hat ?_))|(with_reducible first|(refine zz ?_;try intro K hK)|refine zI ?_|refine zt ?_|refine zf ?_)|((first|refine hK _ ?_|refine hK _ _ rfl ?_);clear hK K)|(guard_hyp hK;first|(refine zY ?zz ?_;case zz=>first|exact rfl|exact gJ)|refine fresh_n ?_|refine freshO_n ?_|refine zW ?_|refine zp 0 (ca) ?_|refine zp 0 (cb) ?_|intro b0 hb)|((first|with_reducible refine zm ?_|guard_hyp hK);refine zY ?_ ?_;all_goals(intro hb;(try simp only [sn,sb] at hb);try exact ex0)))
    refine⟨(i+1,τ.adv),⟨hlt,h1⟩,by dsimp only;omega,rfl,⟨rfl,rfl,rfl,rfl,rfl,rfl,rfl,trivial,rfl,trivial,trivial⟩,⟨?_,rfl,trivial⟩,⟨pr_cl _,fun v hv=>(wOb_flat ws v hv).cl _,trivial⟩⟩
    dsimp only
    rw [hav.1,hav.2.1,hav.2.2];rfl
   ·rw [hk0] at hB
    rw [hB] at ca
    repeat'(first|(refine Exists.intro _ (And.intro hat ?_))|(with_reducible first|(refine zz ?_;try intro K hK)|refine zI ?_|refine zt ?_|refine zf ?_)|((first|refine hK _ ?_|refine hK _ _ rfl ?_);clear hK K)|(guard_hyp hK;first|(refine zY ?zz ?_;case zz=>first|exact rfl|exact gJ)|refine fresh_n ?_|refine freshO_n ?_|refine zW ?_|refine zp 0 (ca) ?_|intro b0 hb)|((first|with_reducible refine zm ?_|guard_hyp hK);refine zY ?_ ?_;all_goals(intro hb;(try simp only [sn,sb] at hb);try exact ex0)))
    refine⟨(i+1,τ.adv),⟨hlt,h1⟩,by dsimp only;omega,rfl,⟨rfl,rfl,rfl,rfl,rfl,rfl,rfl,trivial,rfl,trivial,trivial⟩,⟨?_,rfl,trivial⟩,⟨pr_cl _,fun v hv=>(wOb_flat ws v hv).cl _,trivial⟩⟩
    dsimp only
    rw [hav.1,hav.2.1,hav.2.2];rfl
  ·have e:∀k,k=1∨k=4→τ.isB k p.2=false:=by
    intro k hk2
    cases hB2:τ.isB k p.2 with
    |false=>rfl
    |true=>
     obtain⟨t,ht,hkk,htx⟩:=PS.isB_tok hB2
     have:=hk1 t (List.mem_of_getElem? (PS.tok_at ht).2.1) htx (by omega)
     refine absurd ?_ hB
     rw [← this,hkk];exact hB2
   have hfl:=pWrong_ok τ.settle 30 (by decide)
   rw [settle_wrong] at hfl
   rw [e 4 (.inr rfl)] at ca
   rw [e 1 (.inl rfl)] at cb
   rw [show PS.need p.1 p.2 τ=τ.wrong 30 from if_neg hB,needL_bad (PS.wrong_bad τ 30)] at h1
   rw [← h1]
   unfold pO at ca cb hfl
   repeat'(first|(refine Exists.intro _ (And.intro hat ?_))|(with_reducible first|(refine zz ?_;try intro K hK)|refine zI ?_|refine zt ?_|refine zf ?_)|((first|refine hK _ ?_|refine hK _ _ rfl ?_);clear hK K)|(guard_hyp hK;first|(refine zY ?zz ?_;case zz=>first|exact rfl|exact gJ)|refine fresh_n ?_|refine freshO_n ?_|refine zW ?_|refine zp 0 (ca) ?_|refine zp 0 (cb) ?_|refine zp 0 (hfl) ?_|intro b0 hb)|((first|with_reducible refine zm ?_|guard_hyp hK);refine zY ?_ ?_;all_goals(intro hb;(try simp only [sn,sb] at hb);try exact ex0)))
   all_goals exact nO_ret trivial rfl rfl rfl (by decide) rfl rfl hw
 ·obtain rfl:i=ws.length:=by omega
  rw [List.drop_eq_nil_of_le (Nat.le_refl _)] at h1
  have h1:τ=σ.needL ws:=h1
  subst h1
  repeat'(first|(with_reducible first|(refine zz ?_;try intro K hK)|refine zI ?_|refine zt ?_|refine zf ?_)|((first|refine hK _ ?_|refine hK _ _ rfl ?_);clear hK K)|(guard_hyp hK;first|(refine zY ?zz ?_;case zz=>first|exact rfl|exact gJ)|refine fresh_n ?_|refine freshO_n ?_|refine zW ?_|intro b0 hb)|((first|with_reducible refine zm ?_|guard_hyp hK);refine zY ?_ ?_;all_goals(intro hb;(try simp only [sn,sb] at hb);try exact ex0)))
  all_goals exact nO_ret trivial rfl rfl rfl (by decide) rfl rfl hw
theorem need_call {C:CT}{q:FuncId}{args:List V}{oh:OH}{a a':Nat}{b b':Option Flt}{n n':Nat}{k:Acc→Prop}(ws:List (Int×ByteArray))(id id1:Nat)(hc:C q [] (.gen (nO W a b n ws) [] [.ref 0 0 0 0,.own 1 0 0 ws.length] (prQ W a' b' n') (.tup [])))
  (ha:args=[.ref id 0 0 0,.own id1 0 0 ws.length]) (hp:oget oh id=some (prO W a b n)) (hp1:oget oh id1=some (wOb ws)) (hne:id≠id1)
  (hk:k ⟨[(id,prO W a b n),(id1,wOb ws)],[],[(id,prO W a' b' n')],.tup []⟩):GenK C q args oh k:=by
 have ew:(wOb ws).rn (lkM [(0,id,0),(1,id1,0)]) (lkV [(0,id,0),(1,id1,0)]) 1=wOb ws:=by
  show Obj.mk 1 ((ws.map fun p=>vS p.2).map _) 0 true=wOb ws
  rw [rn_map (F:=fun p:Int×ByteArray=>vS p.2) (fun _=>rfl)];rfl
 have ep:∀a b n,(prO W a b n).rn (lkM [(0,id,0),(1,id1,0)]) (lkV [(0,id,0),(1,id1,0)]) 0=prO W a b n:=by
  intro a b n
  show Obj.mk 5 [(prV W a b n).rnA _ _] 0 true=_
  rw [rn_id _ _ (prV_flat a b n)];rfl
 refine⟨_,_,_,_,_,lkM [(0,id,0),(1,id1,0)],lkV [(0,id,0),(1,id1,0)],hc,by rw [ha];rfl,fun p hp'=>?_,fun i hi=>by simp at hi,fun i hi j hj hij=>?_,?_⟩
 ·rcases List.mem_cons.1 hp' with rfl|hp'
  ·show oget oh id=some ((prO W a b n).rn _ _ 0)
   rw [ep];exact hp
  ·obtain rfl:=List.mem_singleton.1 hp'
   show oget oh id1=some ((wOb ws).rn _ _ 1)
   rw [ew];exact hp1
 ·have hi:i=0∨i=1:=by simpa [nO] using hi
  have hj:j=0∨j=1:=by simpa [nO] using hj
  rcases hi with rfl|rfl<;>rcases hj with rfl|rfl
  ·rfl
  ·exact absurd hij hne
  ·exact absurd hij.symm hne
  ·rfl
 ·have e1:rnO (lkM [(0,id,0),(1,id1,0)]) (lkV [(0,id,0),(1,id1,0)]) (nO W a b n ws)=[(id,prO W a b n),(id1,wOb ws)]:=by
   show [(id,(prO W a b n).rn _ _ 0),(id1,(wOb ws).rn _ _ 1)]=_
   rw [ep,ew]
  have e2:rnO (lkM [(0,id,0),(1,id1,0)]) (lkV [(0,id,0),(1,id1,0)]) (prQ W a' b' n')=[(id,prO W a' b' n')]:=by
   show [(id,(prO W a' b' n').rn _ _ 0)]=_
   rw [ep]
  rw [e1,e2]
  exact hk
variable {W : Txt}
theorem pr_retF {P:Program}{fn:Func}{s:St}{vs:List V}{a a':Nat}{b b':Option Flt}{n n' np t:Nat}{r:T}(hr:fn.results.toList=[.tmp t])(h0:0≠t)(hs:oget s.oh 0=some (prO W a' b' n'))
  (hf:Fd1 s.oh (prQ W a' b' n') false (eget s.env t) r) (hnp:0 < np) (he:eget s.env 0=.ref 0 0 0 0) :
  RetG P fn np (prQ W a b n) (.ref 0 0 0 0 :: vs) (prQ W a' b' n') (V.ofT1 false r) .ret s:=by
 have e1:eget [(0,V.ref 0 0 0 0),(t,V.ofT1 false r)] t=V.ofT1 false r:=by
  simp [eget,h0]
 refine⟨trivial,true,⟨s.n,[(0,.ref 0 0 0 0),(t,V.ofT1 false r)],prQ W a' b' n'⟩,?_,pr_pin rfl hnp rfl,pr_bm rfl,?_⟩
 ·show Lf _ ⟨s.n,s.env,s.oh⟩
  refine lf_of0 ⟨?_,lv_ofT1 hf,trivial⟩ ⟨lfOb_same hs (pr_flat _ _ _),trivial⟩
  rw [he];exact Lc.same _ rfl
 ·rw [hr]
  show BmA _ _ (eget _ t) _
  rw [e1]
  exact bm_ofT1 r
def stPm (N:Nat)(z:PS W×List ByteArray×Nat):St:=⟨N,[(0,.ref 0 0 0 0),(3,.own 1 z.2.2 0 z.2.2)],[(0,prO W z.1.at_ z.1.bad z.1.opn),(1,⟨1,z.2.1.map vS,z.2.2,true⟩)]⟩
theorem pProps_ok (σ:PS W)(hL:W.L.length≤1073741824)(hk:KindOK W (4,PS.kSemi)):OkG Tryz.prog 34 (pO σ) [] [.ref 0 0 0 0] (pO (PS.props σ).2) (.ro false (tSs (PS.props σ).1)):=by
 unfold pO
 refine okp_of_ev hC0 mix 1 (zO rfl) Tryz.func34 rfl rfl (by kernel_rfl) (by kernel_rfl) (zO rfl) ?vs ?_
 case vs=>exact fl0
 repeat'(first|(with_reducible first|(refine zz ?_;try intro K hK)|refine zI ?_|refine zt ?_|refine zf ?_)|((first|refine hK _ ?_|refine hK _ _ rfl ?_);clear hK K)|(guard_hyp hK;first|(refine zY ?zz ?_;case zz=>first|exact rfl|exact gJ)|refine fresh_n ?_|refine freshO_n ?_|refine zW ?_|intro b0 hb)|((first|with_reducible refine zm ?_|guard_hyp hK);refine zY ?_ ?_;all_goals(intro hb;(try simp only [sn,sb] at hb);try exact ex0)))
 refine loop_i (PS W×List ByteArray×Nat) (stPm Tryz.f34.ntmps) (fun z=>z.2.2=z.2.1.length∧∃k,PS.propsL k z.2.1 z.1=PS.props σ∧1≤k∧W.L.length < k+z.1.at_∧z.2.1.length+k=W.L.length+1) (fun z=>W.L.length - z.1.at_) [(3,1,1)] (σ,[],0) ⟨rfl,rfl,trivial⟩ ⟨rfl,_,rfl,Nat.succ_le_succ (Nat.zero_le _),by dsimp only;omega,Nat.zero_add _⟩ ⟨rfl,⟨rfl,rfl,rfl,rfl,trivial⟩,⟨rfl,rfl,trivial⟩,⟨pr_cl _,vS_cl _ _,trivial⟩⟩ ?_
 rintro⟨τ,l,n⟩ ⟨h0,k,h1,h2,h3,h4⟩
 dsimp only at h0 h1 h2 h3 h4
 obtain⟨k,rfl⟩:∃j,k=j+1:=⟨k - 1,by omega⟩
 have hcm:=pIs_ok τ 1 PS.kProp
 rw [PS.propsL] at h1
 cases hB:τ.isB 1 PS.kProp with
 |false=>
  rw [hB,if_neg Bool.false_ne_true] at h1
  rw [hB] at hcm
  rw [← h1]
  unfold pO at hcm
  repeat'(first|(with_reducible first|(refine zz ?_;try intro K hK)|refine zI ?_|refine zt ?_|refine zf ?_)|((first|refine hK _ ?_|refine hK _ _ rfl ?_);clear hK K)|(guard_hyp hK;first|(refine zY ?zz ?_;case zz=>first|exact rfl|exact gJ)|refine fresh_n ?_|refine freshO_n ?_|refine zW ?_|refine zp 0 (hcm) ?_|intro b0 hb)|((first|with_reducible refine zm ?_|guard_hyp hK);refine zY ?_ ?_;all_goals(intro hb;(try simp only [sn,sb] at hb);try exact ex0)))
  exact pr_retF (r:=tSs l) rfl (by decide) rfl (fd_vS rfl rfl rfl h0.symm) (by decide) rfl
 |true=>
  obtain⟨t,ht,hk2,-⟩:=PS.isB_tok hB
  have hlt:=(PS.tok_at ht).2.2
  have ha:=PS.adv_at ht (by rw [hk2];decide)
  rw [hB,if_pos rfl] at h1
  rw [hB,PS.settle_some ht,pO_some ht] at hcm
  have htx:=pTake_ok τ.adv 3 (by decide) hL
  rw [pO_adv ht (by rw [hk2];decide)] at htx
  have hsg:=pNeed_ok [(4,PS.kSemi)] (PS.take 3 τ.adv).2 hL (by decide) (by decide) (fun p hp=>by obtain rfl:=List.mem_singleton.1 hp;exact hk)
  unfold pO at htx hsg
  unfold stPm
  simp only [(PS.tok_at ht).1]
  repeat'(first|(with_reducible first|(refine zz ?_;try intro K hK)|refine zI ?_|refine zt ?_|refine zf ?_)|((first|refine hK _ ?_|refine hK _ _ rfl ?_);clear hK K)|(guard_hyp hK;first|(refine zY ?zz ?_;case zz=>first|exact rfl|exact gJ)|refine fresh_n ?_|refine freshO_n ?_|refine zW ?_|refine zp 0 (hcm) ?_|refine zp 0 (htx) ?_|(refine' Or.inr (Or.inr (Or.inl (need_call ([(4,PS.kSemi)]) _ _ (hsg) ?hga ?hgb ?hgc ?hgd ?_)));(case hga=>rfl);(case hgb=>rfl);(case hgc=>rfl);(case hgd=>exact Nat.ne_of_lt (zO rfl)))|intro b0 hb)|((first|with_reducible refine zm ?_|guard_hyp hK);refine zY ?_ ?_;all_goals(intro hb;(try simp only [sn,sb] at hb);try exact ex0)))
  have f1:=(PS.take_fol 3 τ.adv).le
  have f2:=(PS.need_fol 4 PS.kSemi (PS.take 3 τ.adv).2).le
  refine⟨(PS.need 4 PS.kSemi (PS.take 3 τ.adv).2,l ++ [(PS.take 3 τ.adv).1],n+1),⟨by dsimp only;rw [List.length_append,List.length_singleton];omega,k,h1,by omega,by dsimp only;omega,by dsimp only;rw [List.length_append,List.length_singleton];omega⟩,by dsimp only;omega,rfl,⟨rfl,rfl,rfl,rfl,trivial⟩,⟨rfl,?_,trivial⟩,⟨pr_cl _,vS_cl _ _,trivial⟩⟩
  exact congrArg (fun e=>some (⟨1,e,n+1,true⟩:Obj)) (take_app (F:=vS) h0)
theorem okp2_of_ev {P:Program}{C:CT}(hC:∀q ts r,C q ts r→OkR P q ts r)(hmix:P.follows .mixedOrders=true){q:FuncId}{fn:Func}{c:Code}{a a':Nat}{b b':Option Flt}{n n':Nat}{w:Wr}{r:V}(np:Nat)(hnp:np≤2)
  (hfn:P.funcs[q]?=some fn) (hname:(fn.name == "runtime.NumGoroutine")=false) (hbody:fn.body=some c) (hok:okB fn.ntmps c=true) (hpar:parB np c=true) (hlen:2≤fn.ntmps)
  (h:evC P C c ⟨fn.ntmps,argEnvV 0 [.ref 0 0 0 0,.wr w 0 0 0 0],[(0,prO W a b n)]⟩ (RetG P fn np (prQ W a b n) [.ref 0 0 0 0,.wr w 0 0 0 0] (prQ W a' b' n') r)):OkG P q (prQ W a b n) [] [.ref 0 0 0 0,.wr w 0 0 0 0] (prQ W a' b' n') r:=
 okg_of_ev hC hmix np hnp hfn hname hbody hok hpar hlen
  (fun i o h=>by
   obtain⟨rfl,rfl⟩:=oget_one h
   exact⟨rfl,rfl,pr_cl _⟩)
  (two_vs rfl rfl)
  (fun i o h=>by
   obtain⟨rfl,rfl⟩:=oget_one h
   exact .inl rfl)
  (fun i o o' h1 h2 h3 h4=>by
   obtain⟨rfl,rfl⟩:=pr_after h2
   obtain⟨-,rfl⟩:=oget_one h1
   exact⟨rfl,Nat.le_refl _⟩) h
def stPl (N f:Nat)(z:PS W×List ByteArray×Nat):St:=⟨N,[(0,.ref 0 0 0 0),(1,.wr (.clo f) 0 0 0 0),(5,.own 1 z.2.2 0 z.2.1.length)],[(0,prO W z.1.at_ z.1.bad z.1.opn),(1,⟨1,z.2.1.map vS,z.2.2,true⟩)]⟩
def PS.tlL (k:Nat)(l:List ByteArray)(τ:PS W):List ByteArray×PS W:=if τ.isB 4 PS.kComma=true then PS.namesL k l τ.adv else(l,τ.settle)
theorem namesL_tl (k:Nat)(l:List ByteArray)(σ:PS W):PS.namesL (k+1) l σ=PS.tlL k (l ++ [(PS.take 1 σ).1]) (PS.take 1 σ).2:=rfl
def nlI (R:List ByteArray×PS W)(z:PS W×List ByteArray×Nat):Prop:=z.2.1.length≤z.1.at_+1∧z.1.at_≤W.L.length∧∃k,PS.tlL k z.2.1 z.1=R∧W.L.length≤k+z.1.at_
theorem pNames_ok (σ:PS W)(hL:W.L.length≤1073741824)(ha0:σ.at_≤W.L.length):OkG Tryz.prog 57 (pO σ) [] [.ref 0 0 0 0,.wr (.clo 33) 0 0 0 0] (pO (PS.namesQ σ).2) (.ro false (tSs (PS.namesQ σ).1)):=by
 have c0:=pName_ok σ hL
 have f0:=PS.take_fol 1 σ
 unfold PS.namesQ
 rw [namesL_tl]
 unfold pO at c0 ⊢
 refine okp2_of_ev hC0 mix 2 (zO rfl) Tryz.func57 rfl rfl (by kernel_rfl) (by kernel_rfl) (zO rfl) ?_
 repeat'(first|(with_reducible first|(refine zz ?_;try intro K hK)|refine zI ?_|refine zt ?_|refine zf ?_)|((first|refine hK _ ?_|refine hK _ _ rfl ?_);clear hK K)|(guard_hyp hK;first|(refine zY ?zz ?_;case zz=>first|exact rfl|exact gJ)|refine fresh_n ?_|refine freshO_n ?_|refine zW ?_|(refine pr_call 0 (c0) ?hga ?hgb ?hgc ?_;(case hga=>rfl);(case hgb=>rfl);(case hgc=>exact fun _ _=>rfl))|intro b0 hb)|((first|with_reducible refine zm ?_|guard_hyp hK);refine zY ?_ ?_;all_goals(intro hb;(try simp only [sn,sb] at hb);try exact ex0)))
 generalize hR:PS.tlL W.L.length ([] ++ [(PS.take 1 σ).1]) (PS.take 1 σ).2=R
 refine loop_i (PS W×List ByteArray×Nat) (stPl Tryz.f57.ntmps 33) (nlI R) (fun z=>W.L.length - z.1.at_) [] ((PS.take 1 σ).2,[(PS.take 1 σ).1],0) trivial ⟨Nat.succ_le_succ (Nat.zero_le _),f0.hi ha0,_,hR,Nat.le_add_right _ _⟩ ⟨rfl,⟨rfl,rfl,rfl,rfl,rfl,rfl,trivial⟩,⟨rfl,rfl,trivial⟩,⟨pr_cl _,vS_cl _ _,trivial⟩⟩ ?_
 rintro⟨τ,l,v⟩ ⟨h1,h2,k,h3,h4⟩
 dsimp only at h1 h2 h3 h4
 unfold stPl
 dsimp only
 unfold PS.tlL at h3
 cases hb:τ.bad with
 |some f=>
  have hbb:τ.bad≠none:=by rw [hb];exact fun h=>by cases h
  rw [PS.isB_bad hbb,if_neg Bool.false_ne_true,PS.settle_stk hbb] at h3
  rw [← h3]
  dsimp only
  rw [hb]
  repeat'(first|(with_reducible first|(refine zz ?_;try intro K hK)|refine zI ?_|refine zt ?_|refine zf ?_)|((first|refine hK _ ?_|refine hK _ _ rfl ?_);clear hK K)|(guard_hyp hK;first|(refine zY ?zz ?_;case zz=>first|exact rfl|exact gJ)|refine fresh_n ?_|refine freshO_n ?_|refine zW ?_|intro b0 hb)|((first|with_reducible refine zm ?_|guard_hyp hK);refine zY ?_ ?_;all_goals(intro hb;(try simp only [sn,sb] at hb);try exact ex0)))
  exact pr_retF (r:=tSs l) rfl (by decide) rfl (fd_vS rfl rfl rfl rfl) (by decide) rfl
 |none=>
  have cs:=pSign_ok τ PS.kComma hL
  unfold PS.sgn at cs
  cases hB:τ.isB 4 PS.kComma with
  |false=>
   rw [hB,if_neg Bool.false_ne_true] at h3 cs
   rw [← h3]
   unfold pO at cs
   rw [hb] at cs
   repeat'(first|(with_reducible first|(refine zz ?_;try intro K hK)|refine zI ?_|refine zt ?_|refine zf ?_)|((first|refine hK _ ?_|refine hK _ _ rfl ?_);clear hK K)|(guard_hyp hK;first|(refine zY ?zz ?_;case zz=>first|exact rfl|exact gJ)|refine fresh_n ?_|refine freshO_n ?_|refine zW ?_|refine zp 0 (cs) ?_|intro b0 hb)|((first|with_reducible refine zm ?_|guard_hyp hK);refine zY ?_ ?_;all_goals(intro hb;(try simp only [sn,sb] at hb);try exact ex0)))
   exact pr_retF (r:=tSs l) rfl (by decide) rfl (fd_vS rfl rfl rfl rfl) (by decide) rfl
  |true=>
   obtain⟨t,ht,hk2,-⟩:=PS.isB_tok hB
   have hlt:=(PS.tok_at ht).2.2
   have hav:=PS.adv_at ht (by rw [hk2];decide)
   have haf:=PS.adv_fol1 hB (by decide)
   rw [hB,if_pos rfl] at h3 cs
   obtain⟨k,rfl⟩:∃j,k=j+1:=⟨k - 1,by omega⟩
   rw [namesL_tl] at h3
   have cn:=pName_ok τ.adv hL
   have f1:=PS.take_fol 1 τ.adv
   have f2:=f1.le
   rw [pO_adv ht (by rw [hk2];decide)] at cs cn
   unfold pO at cs cn
   rw [hb] at cs
   repeat'(first|(with_reducible first|(refine zz ?_;try intro K hK)|refine zI ?_|refine zt ?_|refine zf ?_)|((first|refine hK _ ?_|refine hK _ _ rfl ?_);clear hK K)|(guard_hyp hK;first|(refine zY ?zz ?_;case zz=>first|exact rfl|exact gJ)|refine fresh_n ?_|refine freshO_n ?_|refine zW ?_|refine zp 0 (cs) ?_|(refine pr_call 0 (cn) ?hga ?hgb ?hgc ?_;(case hga=>rfl);(case hgb=>rfl);(case hgc=>exact fun _ _=>rfl))|intro b0 hb)|((first|with_reducible refine zm ?_|guard_hyp hK);refine zY ?_ ?_;all_goals(intro hb;(try simp only [sn,sb] at hb);try exact ex0)))
   refine⟨((PS.take 1 τ.adv).2,l ++ [(PS.take 1 τ.adv).1],v+1),⟨by dsimp only;rw [List.length_append,List.length_singleton];omega,f1.hi (by omega),k,h3,by dsimp only;omega⟩,by dsimp only;omega,rfl,⟨rfl,rfl,rfl,rfl,?_,rfl,trivial⟩,⟨rfl,?_,trivial⟩,⟨pr_cl _,vS_cl _ _,trivial⟩⟩
   ·dsimp only;rw [List.length_append];rfl
   ·exact congrArg (fun e=>some (⟨1,e,v+1,true⟩:Obj)) (take_app (F:=vS) rfl)
end Go.Ev
