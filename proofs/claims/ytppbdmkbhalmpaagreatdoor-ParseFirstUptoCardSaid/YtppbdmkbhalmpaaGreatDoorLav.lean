import Derived.Test.YtppbdmkbhalmpaaGreatDoorLau
import Derived.Test.YtppbdmkbhalmpaaGreatDoorLah
set_option linter.all false
set_option maxHeartbeats 4000000
set_option maxRecDepth 10000
namespace Go.Ev
open Go.Proofs
variable {W : Txt}
open PS (Trm EntD)
theorem pr_retw {P:Program}{fn:Func}{s:St}{vs:List V}{a a':Nat}{b b':Option Flt}{n n' np t ty id ver sz:Nat}{l l':List V}{fs:List (Nat×Nat)}{z:List Value}(hr:fn.results.toList=[.cell t ty])(h0t:0≠t)(ht:tk P ty=.st fs z)(hz:z.length=l'.length)(h0:0 < l'.length)
  (ha:eget s.env t=.ref id ver 0 0) (hid:0≠id) (ho:oget s.oh id=some ⟨sz,[.agg l],ver,true⟩) (hl:lcL s.oh [(0,prO W a' b' n'),(id,⟨sz,[.agg l'],ver,true⟩)] l l') (hd:∀v ∈ l',v.dat1) (hs:oget s.oh 0=some (prO W a' b' n')) (hnp:0 < np) (he:eget s.env 0=.ref 0 0 0 0) :
  RetG P fn np (prQ W a b n) (.ref 0 0 0 0 :: vs) (prQ W a' b' n') (.agg l') .ret s:=by
 have e1:eget [(0,V.ref 0 0 0 0),(t,V.ref id ver 0 0)] t=V.ref id ver 0 0:=by simp [eget,h0t]
 have e2:oget [(0,prO W a' b' n'),(id,⟨sz,[.agg l'],ver,true⟩)] id=some ⟨sz,[.agg l'],ver,true⟩:=by simp [oget,hid]
 refine⟨trivial,true,⟨s.n,[(0,.ref 0 0 0 0),(t,.ref id ver 0 0)],[(0,prO W a' b' n'),(id,⟨sz,[.agg l'],ver,true⟩)]⟩,?_,pr_pin rfl hnp rfl,pr_bm rfl,?_⟩
 ·show Lf _ ⟨s.n,s.env,s.oh⟩
  refine lf_of0 ⟨?_,?_,trivial⟩ ⟨lfOb_same hs (pr_flat _ _ _),lfOb_one ho (lv_agg hl),trivial⟩
  ·rw [he];exact Lc.same _ rfl
  ·rw [ha];exact Lc.same _ (by show(oget _ id).isSome=true;rw [e2];rfl)
 ·rw [hr]
  exact resc ht hz h0 e1 e2 (bm_aggD hd)
def stPp (W : Txt) (N : Nat) (nm : ByteArray) (pr : List ByteArray) (z : PrZ W) : St :=
  ⟨N, [(0, .ref 0 0 0 0), (2, .ref 1 0 0 0), (3, .ref 2 0 0 0)],
    [(0, prO W z.1.at_ z.1.bad z.1.opn), (1, ⟨4, [.agg [.con (.string .empty), .emp, .emp, .emp]], 0, true⟩),
     (2, ⟨4, [.agg [.con (.string nm), .ro false (tSs pr), .own 4 z.2.2.2.1.1 0 z.2.2.2.1.2, .own 5 z.2.2.2.2.1.1 0 z.2.2.2.2.1.2]], 0, true⟩),
     (4, ⟨3, z.2.1.map vEnt, z.2.2.2.1.1, true⟩), (5, ⟨1, z.2.2.1.map vS, z.2.2.2.2.1.1, true⟩)]⟩
def ppI (R:List EntD×List ByteArray×PS W)(dec:ByteArray→Int×Nat)(z:PrZ W):Prop:=
 z.1.opn=0∧z.1.at_≤W.L.length∧z.2.2.2.1.2=z.2.1.length∧z.2.2.2.2.1.2=z.2.2.1.length∧z.2.2.1.length≤z.1.at_∧z.2.1.length+z.2.2.2.2.2≤W.L.length+2∧
  PS.prbLQ dec z.2.2.2.2.2 z.2.1 z.2.2.1 z.1=R∧1≤z.2.2.2.2.2∧(z.1.bad=none→W.L.length+1 < z.2.2.2.2.2+z.1.at_)
theorem pPrb_ok {dec:ByteArray→Int×Nat}(hF:Fit W)(hkn:Kin W)(hS:UnOK Tryz.prog 21 65 (PS.sum (X:=W) (PS.un dec 65)))
  (σ0:PS W) (hB0:σ0.isB 1 PS.kProb=true) (ho0:σ0.opn=0) (ha0:σ0.at_≤W.L.length):OkG Tryz.prog 18 (pO σ0) [] [.ref 0 0 0 0] (pO (PS.prbD dec σ0.adv).2) (vPrb (PS.prbQ dec σ0.adv).1):=by
 have hL:=hF.len
 have f0:=PS.adv_fol1 hB0 (by decide)
 have ho:σ0.adv.opn=0:=f0.opn.trans ho0
 have ha:=f0.hi ha0
 have c1:=pNeed_ok [(1,PS.kProb),(4,PS.kOpen)] σ0 hL (by decide) (by decide) (kc hkn.prob (kc hkn.open_ kn))
 have e1:PS.needL [(1,PS.kProb),(4,PS.kOpen)] σ0=PS.need 4 PS.kOpen σ0.adv:=by
  show PS.need 4 PS.kOpen (PS.need 1 PS.kProb σ0)=_
  rw [show PS.need 1 PS.kProb σ0=σ0.adv from if_pos hB0]
 rw [e1] at c1
 have e2:(PS.prbD dec σ0.adv).2=(PS.prbLQ dec (W.L.length+2) [] [] (PS.prb2 σ0.adv)).2.2:=(PS.prbLQ_st dec _ _ _ _ _ _).symm
 rw [e2]
 unfold PS.prbQ
 rw [e2]
 unfold PS.prb2
 have f1:=PS.need_fol 4 PS.kOpen σ0.adv
 generalize PS.need 4 PS.kOpen σ0.adv=s1 at *
 have f2:=PS.take_fol 1 s1
 have c2:=pName_ok s1 hL
 generalize PS.take 1 s1=r2 at *
 have f3:=PS.prb1_fol r2.2
 rw [← PS.prb1Q_st] at f3 ⊢
 have c3:=pSign_ok r2.2 PS.kBar hL
 have hbr:r2.2.isB 4 PS.kBar=true→PS.prb1Q r2.2=PS.namesQ r2.2.adv:=fun h=>if_pos h
 have hbn:r2.2.isB 4 PS.kBar=false→PS.prb1Q r2.2=([],r2.2.settle):=fun h=>if_neg (by rw [h];exact Bool.false_ne_true)
 generalize PS.prb1Q r2.2=r3 at *
 have f4:=(PS.need_fol 4 PS.kShut r3.2).trans (PS.need_fol 4 PS.kLC _)
 have c4:=pNeed_ok [(4,PS.kShut),(4,PS.kLC)] r3.2 hL (by decide) (by decide) (kc hkn.shut (kc hkn.lc kn))
 have e4:PS.needL [(4,PS.kShut),(4,PS.kLC)] r3.2=PS.need 4 PS.kLC (PS.need 4 PS.kShut r3.2):=rfl
 rw [e4] at c4
 generalize PS.need 4 PS.kLC (PS.need 4 PS.kShut r3.2)=s5 at *
 have fo:=((f1.trans f2).trans f3).trans f4
 clear e1 e2 e4
 unfold pO at c1 c2 c3 c4 ⊢
 refine okp_of_ev hC0 mix 1 (zO rfl) Tryz.func18 rfl rfl (by kernel_rfl) (by kernel_rfl) (zO rfl) ?vs ?_
 case vs=>exact fl0
 repeat'(first|(refine seq_k (a:=Code.seq (Code.region 4 _ _) (Code.cond _ _ _)) Unit (fun _=>⟨Tryz.f18.ntmps,[(0,.ref 0 0 0 0),(2,.ref 1 0 0 0),(3,.ref 2 0 0 0)],[(0,prO W r3.2.at_ r3.2.bad r3.2.opn),(1,⟨4,[.agg [.con (.string .empty),.emp,.emp,.emp]],0,true⟩),(2,⟨4,[.agg [.con (.string r2.1),.ro false (tSs r3.1),.emp,.emp]],0,true⟩)]⟩) (fun _=>True) ?_ ?_)|(with_reducible first|(refine zz ?_;try intro K hK)|refine zI ?_|refine zt ?_|refine zf ?_)|((first|refine hK _ ?_|refine hK _ _ rfl ?_);clear hK K)|(guard_hyp hK;first|(refine zY ?zz ?_;case zz=>first|exact rfl|exact gJ)|refine fresh_n ?_|refine freshO_n ?_|refine zW ?_|(refine' Or.inr (Or.inr (Or.inl (need_call ([(1,PS.kProb),(4,PS.kOpen)]) _ _ (c1) ?hga ?hgb ?hgc ?hgd ?_)));(case hga=>rfl);(case hgb=>rfl);(case hgc=>rfl);(case hgd=>exact Nat.ne_of_lt (zO rfl)))|refine zp 0 (c2) ?_|refine zp 0 (c3) ?_|intro b0 hb)|((first|with_reducible refine zm ?_|guard_hyp hK);refine zY ?_ ?_;all_goals(intro hb;(try simp only [sn,sb] at hb);try exact ex0)))
 ·rintro - -
  repeat'(first|(with_reducible first|(refine zz ?_;try intro K hK)|refine zI ?_|refine zt ?_|refine zf ?_)|((first|refine hK _ ?_|refine hK _ _ rfl ?_);clear hK K)|(guard_hyp hK;first|(refine zY ?zz ?_;case zz=>first|exact rfl|exact gJ)|refine fresh_n ?_|refine freshO_n ?_|refine zW ?_|(refine' Or.inr (Or.inr (Or.inl (need_call ([(4,PS.kShut),(4,PS.kLC)]) _ _ (c4) ?hga ?hgb ?hgc ?hgd ?_)));(case hga=>rfl);(case hgb=>rfl);(case hgc=>rfl);(case hgd=>exact Nat.ne_of_lt (zO rfl)))|intro b0 hb)|((first|with_reducible refine zm ?_|guard_hyp hK);refine zY ?_ ?_;all_goals(intro hb;(try simp only [sn,sb] at hb);try exact ex0)))
  refine loop_f (PrZ W) (stPp W Tryz.f18.ntmps r2.1 r3.1) (ppI (PS.prbLQ dec (W.L.length+2) [] [] s5) dec) (fun z=>z.2.2.2.2.2) (s5,[],[],(0,0),(0,0),W.L.length+2) ⟨fo.opn.trans ho,fo.hi ha,rfl,rfl,Nat.zero_le _,by simp,rfl,Nat.succ_le_succ (Nat.zero_le _),fun _=>by dsimp only;omega⟩ (lf_of0 ⟨Lc.same _ rfl,Lc.same _ rfl,Lc.same _ rfl,trivial⟩ ⟨lfOb_same rfl (pr_flat _ _ _),agg_same rfl rfl,lfOb_one rfl (lv_agg ⟨Lc.same _ trivial,lc_ro,Lc.adopt 4 _ rfl rfl,Lc.adopt 5 _ rfl rfl,trivial⟩),lfOb_new rfl,lfOb_new rfl,trivial⟩) ?_
  rintro⟨τ,es,ps,⟨ve,ne⟩,⟨vp,np⟩,k⟩ ⟨q1,q2,q3,q4,q5,q6,q7,q8,q9⟩
  dsimp only at q1 q2 q3 q4 q5 q6 q7 q8 q9
  obtain⟨k,rfl⟩:∃j,k=j+1:=⟨k - 1,by omega⟩
  rw [PS.prbLQ] at q7
  unfold stPp
  dsimp only
  cases hb:τ.bad with
  |some f=>
   rw [hb] at q7
   dsimp only at q7
   rw [← q7]
   dsimp only
   rw [hb]
   repeat'(first|(with_reducible first|(refine zz ?_;try intro K hK)|refine zI ?_|refine zt ?_|refine zf ?_)|((first|refine hK _ ?_|refine hK _ _ rfl ?_);clear hK K)|(guard_hyp hK;first|(refine zY ?zz ?_;case zz=>first|exact rfl|exact gJ)|refine fresh_n ?_|refine freshO_n ?_|refine zW ?_|intro b0 hb)|((first|with_reducible refine zm ?_|guard_hyp hK);refine zY ?_ ?_;all_goals(intro hb;(try simp only [sn,sb] at hb);try exact ex0)))
   exact pr_retw (id:=1) (l':=[.con (.string r2.1),.ro false (tSs r3.1),.ro false (tEs es),.ro false (tSs ps)]) rfl (by decide) tk72 rfl (Nat.zero_lt_succ _) rfl (by decide) rfl ⟨Lc.same _ trivial,lc_ro,Lc.frz false _ (tEs es) (fd_Es rfl rfl q3.symm),Lc.frz false _ (tSs ps) (fd_vS rfl rfl rfl q4.symm),trivial⟩ (dat_con (dat_ro (dat_ro (dat_ro dat_nil)))) rfl (by decide) rfl
  |none=>
   have hq:=q9 hb
   rw [hb] at q7
   dsimp only at q7
   have d1:=pSign_ok τ PS.kRC hL
   cases hA:τ.isB 4 PS.kRC with
   |true=>
    obtain⟨t,ht,hk,-⟩:=PS.isB_tok hA
    have hlt:=(PS.tok_at ht).2.2
    have hav:=PS.adv_at ht (by rw [hk];decide)
    rw [hA,if_pos rfl] at q7
    rw [← q7]
    dsimp only
    rw [hav.1,hav.2.1,hav.2.2]
    rw [sgn_yes hA,hA,pO_adv ht (by rw [hk];decide),pO_some ht] at d1
    repeat'(first|(with_reducible first|(refine zz ?_;try intro K hK)|refine zI ?_|refine zt ?_|refine zf ?_)|((first|refine hK _ ?_|refine hK _ _ rfl ?_);clear hK K)|(guard_hyp hK;first|(refine zY ?zz ?_;case zz=>first|exact rfl|exact gJ)|refine fresh_n ?_|refine freshO_n ?_|refine zW ?_|refine zp 0 (d1) ?_|intro b0 hb)|((first|with_reducible refine zm ?_|guard_hyp hK);refine zY ?_ ?_;all_goals(intro hb;(try simp only [sn,sb] at hb);try exact ex0)))
    exact pr_retw (id:=1) (l':=[.con (.string r2.1),.ro false (tSs r3.1),.ro false (tEs es),.ro false (tSs ps)]) rfl (by decide) tk72 rfl (Nat.zero_lt_succ _) rfl (by decide) rfl ⟨Lc.same _ trivial,lc_ro,Lc.frz false _ (tEs es) (fd_Es rfl rfl q3.symm),Lc.frz false _ (tSs ps) (fd_vS rfl rfl rfl q4.symm),trivial⟩ (dat_con (dat_ro (dat_ro (dat_ro dat_nil)))) rfl (by decide) rfl
   |false=>
    have d2:=pIs_ok τ.settle 1 PS.kProp
    rw [isB_settle,settle_settle] at d2
    rw [hA,if_neg Bool.false_ne_true] at q7
    rw [sgn_no hA,hA] at d1
    cases hB:τ.isB 1 PS.kProp with
    |true=>
     obtain⟨t,ht,hk,-⟩:=PS.isB_tok hB
     have hlt:=(PS.tok_at ht).2.2
     rw [hB,if_pos rfl] at q7
     rw [PS.settle_some ht,pO_some ht] at d1
     rw [hB,PS.settle_some ht,pO_some ht] at d2
     have d3:=pProps_ok τ hL hkn.semi
     have l1:=props_len τ
     have l2:τ.at_+1≤(PS.props τ).2.at_:=propsL_one W.L.length [] hB
     have l3:=PS.props_fol τ
     have l4:=l3.hi q2
     rw [pO_some ht] at d3
     unfold pO at d3
     generalize PS.props τ=r9 at *
     have h5:(ps.map vS).take np ++ ((r9.1.map tS9).map (V.ofA false))=(ps ++ r9.1).map vS:=by
      rw [List.take_of_length_le (by rw [List.length_map];omega),List.map_map,List.map_append];rfl
     repeat'(first|(with_reducible first|(refine zz ?_;try intro K hK)|refine zI ?_|refine zt ?_|refine zf ?_)|((first|refine hK _ ?_|refine hK _ _ rfl ?_);clear hK K)|(guard_hyp hK;first|(refine zY ?zz ?_;case zz=>first|exact rfl|exact gJ)|refine fresh_n ?_|refine freshO_n ?_|refine zW ?_|refine zp 0 (d1) ?_|refine zp 0 (d2) ?_|refine zp 0 (d3) ?_|intro b0 hb)|((first|with_reducible refine zm ?_|guard_hyp hK);refine zY ?_ ?_;all_goals(intro hb;(try simp only [sn,sb] at hb);try exact ex0)))
     exact⟨(r9.2,es,ps ++ r9.1,(ve,ne),(vp+1,np+((r9.1.map tS9).map (V.ofA false)).length),k),⟨l3.opn.trans q1,l4,q3,by simp only [List.length_append,List.length_map];omega,by dsimp only;rw [List.length_append];omega,by dsimp only;omega,q7,by dsimp only;have:=hq;omega,fun _=>by dsimp only;have:=hq;omega⟩,Nat.lt_succ_self _,lf_of0 ⟨Lc.same _ rfl,Lc.same _ rfl,Lc.same _ rfl,trivial⟩ ⟨lfOb_same rfl (pr_flat _ _ _),agg_same rfl rfl,lfOb_one rfl (lv_agg ⟨Lc.same _ trivial,lc_ro,Lc.same _ rfl,Lc.same _ rfl,trivial⟩),lfOb_same rfl (vEs_flat _),lfOb_same (congrArg (fun e=>some (⟨1,e,vp+1,true⟩:Obj)) h5) (vS_flat _),trivial⟩⟩
    |false=>
     rw [hB,if_neg Bool.false_ne_true] at q7
     rw [hB] at d2
     have l0:=PS.settle_fol τ
     have d3:=pEnt_ok hF hkn hS τ.settle (l0.opn.trans q1) (l0.hi q2)
     obtain⟨l3,l5⟩:=PS.entD_fol dec τ.settle
     have l4:=l3.hi (l0.hi q2)
     have l6:=l0.le
     unfold pO at d1 d2 d3
     rw [hb] at d1
     generalize (PS.entD dec τ.settle).2=r9 at *
     generalize (PS.entQ dec τ.settle).1=e9 at *
     repeat'(first|(with_reducible first|(refine zz ?_;try intro K hK)|refine zI ?_|refine zt ?_|refine zf ?_)|((first|refine hK _ ?_|refine hK _ _ rfl ?_);clear hK K)|(guard_hyp hK;first|(refine zY ?zz ?_;case zz=>first|exact rfl|exact gJ)|refine fresh_n ?_|refine freshO_n ?_|refine zW ?_|refine zp 0 (d1) ?_|refine zp 0 (d2) ?_|refine zp 0 (d3) ?_|intro b0 hb)|((first|with_reducible refine zm ?_|guard_hyp hK);refine zY ?_ ?_;all_goals(intro hb;(try simp only [sn,sb] at hb);try exact ex0)))
     exact⟨(r9,es ++ [e9],ps,(ve+1,ne+1),(vp,np),k),⟨l3.opn.trans (l0.opn.trans q1),l4,by dsimp only;rw [List.length_append,List.length_singleton];omega,q4,by dsimp only;have:=l3.le;omega,by dsimp only;rw [List.length_append,List.length_singleton];omega,q7,by dsimp only;have:=hq;omega,fun h=>by dsimp only;have:=hq;have:=l5 h;omega⟩,Nat.lt_succ_self _,lf_of0 ⟨Lc.same _ rfl,Lc.same _ rfl,Lc.same _ rfl,trivial⟩ ⟨lfOb_same rfl (pr_flat _ _ _),agg_same rfl rfl,lfOb_one rfl (lv_agg ⟨Lc.same _ trivial,lc_ro,Lc.same _ rfl,Lc.same _ rfl,trivial⟩),lfOb_app (F:=vEnt) (l:=es) (a:=e9) rfl q3 rfl (fun x _=>vEnt_flat x) (vEnt_flat _).lv,lfOb_same rfl (vS_flat _),trivial⟩⟩
 ·intro R hR
  cases hB:r2.2.isB 4 PS.kBar with
  |true=>
   obtain⟨t,ht,hk,-⟩:=PS.isB_tok hB
   have hlt:=(PS.tok_at ht).2.2
   have hnm:=pNames_ok r2.2.adv hL ((PS.adv_fol1 hB (by decide)).hi (f2.hi (f1.hi ha)))
   rw [pO_adv ht (by rw [hk];decide),← hbr hB] at hnm
   rw [← pO_eq,← pO_eq,sgn_yes hB,hB,pO_adv ht (by rw [hk];decide)] at c3
   unfold pO at hnm c3
   repeat'(first|(with_reducible first|(refine zz ?_;try intro K hK)|refine zI ?_|refine zt ?_|refine zf ?_)|((first|refine hK _ ?_|refine hK _ _ rfl ?_);clear hK K)|(guard_hyp hK;first|(refine zY ?zz ?_;case zz=>first|exact rfl|exact gJ)|refine fresh_n ?_|refine freshO_n ?_|refine zW ?_|refine zp 0 (c3) ?_|refine zp 0 (hnm) ?_|intro b0 hb)|((first|with_reducible refine zm ?_|guard_hyp hK);refine zY ?_ ?_;all_goals(intro hb;(try simp only [sn,sb] at hb);try exact ex0)))
   exact hR _ () trivial (lf_of0 ⟨Lc.same _ rfl,Lc.same _ rfl,Lc.same _ rfl,trivial⟩ ⟨lfOb_same rfl (pr_flat _ _ _),agg_same rfl rfl,agg_same rfl rfl,trivial⟩)
  |false=>
   have e3:=hbn hB
   subst e3
   rw [← pO_eq,← pO_eq,sgn_no hB,hB] at c3
   unfold pO at c3
   repeat'(first|(with_reducible first|(refine zz ?_;try intro K hK)|refine zI ?_|refine zt ?_|refine zf ?_)|((first|refine hK _ ?_|refine hK _ _ rfl ?_);clear hK K)|(guard_hyp hK;first|(refine zY ?zz ?_;case zz=>first|exact rfl|exact gJ)|refine fresh_n ?_|refine freshO_n ?_|refine zW ?_|refine zp 0 (c3) ?_|intro b0 hb)|((first|with_reducible refine zm ?_|guard_hyp hK);refine zY ?_ ?_;all_goals(intro hb;(try simp only [sn,sb] at hb);try exact ex0)))
   exact hR _ () trivial (lf_of0 ⟨Lc.same _ rfl,Lc.same _ rfl,Lc.same _ rfl,trivial⟩ ⟨lfOb_same rfl (pr_flat _ _ _),agg_same rfl rfl,lfOb_one rfl (lv_agg ⟨Lc.same _ trivial,lc_emp rfl,Lc.same _ trivial,Lc.same _ trivial,trivial⟩),trivial⟩)
def tFe : Option Flt→T
 |none=>.con .nilIface
 |some f=>.ifc 63 (.ptr (fTl f))
def asO (v:V):OH:=[(0,⟨1,[v],0,true⟩)]
def AsOK (P:Program)(q:FuncId)(te tp:TypeId):Prop:=∀f:Flt,OkG P q (asO (.con (.pointer none))) [] [.ro false (.ifc te (.ptr (fTl f))),.wr (.ifc tp) 0 0 0 0] (asO (.ro false (.ptr (fTl f)))) (.con (.bool true))
theorem as_call {C:CT}{q:FuncId}{te tp:TypeId}{args:List V}{oh:OH}{f:Flt}{k:Acc→Prop}(fr:Bool)(id:Nat)(hc:C q [] (.gen (asO (.con (.pointer none))) [] [.ro false (.ifc te (.ptr (fTl f))),.wr (.ifc tp) 0 0 0 0] (asO (.ro false (.ptr (fTl f)))) (.con (.bool true))))
  (ha:args=[.ro fr (.ifc te (.ptr (fTl f))),.wr (.ifc tp) id 0 0 0]) (hp:oget oh id=some ⟨1,[.con (.pointer none)],0,true⟩)
  (hk:k ⟨[(id,⟨1,[.con (.pointer none)],0,true⟩)],[],[(id,⟨1,[.ro false (.ptr (fTl f))],0,true⟩)],.con (.bool true)⟩):GenK C q args oh k:=by
 refine⟨_,_,_,_,_,fun _=>id,fun _=>0,hc,by rw [ha];cases fr<;>rfl,fun p hp'=>?_,fun i hi=>by simp at hi,fun i hi j hj _=>?_,hk⟩
 ·obtain rfl:=List.mem_singleton.1 hp'
  exact hp
 ·have e1:i=0:=by simpa [asO] using hi
  have e2:j=0:=by simpa [asO] using hj
  rw [e1,e2]
theorem fault_ok (hA:AsOK Tryz.prog 23 63 79)(f:Flt):Ok Tryz.prog 8 [tFe (some f)] false (.tup [tFl f.code f.line f.col f.word,.con (.bool true)]):=by
 have h:=hA f
 refine ok_of_ev hC0 mix Tryz.func8 rfl rfl (by kernel_rfl) (zO rfl) ?_
 repeat'(first|(with_reducible first|(refine zz ?_;try intro K hK)|refine zI ?_|refine zt ?_|refine zf ?_)|((first|refine hK _ ?_|refine hK _ _ rfl ?_);clear hK K)|(guard_hyp hK;first|(refine zY ?zz ?_;case zz=>first|exact rfl|exact gJ)|refine fresh_n ?_|refine freshO_n ?_|refine zW ?_|(refine Or.inr (Or.inr (Or.inl (as_call false 1 (h) ?hga ?hgb ?_)));(case hga=>rfl);(case hgb=>rfl))|intro b0 hb)|((first|with_reducible refine zm ?_|guard_hyp hK);refine zY ?_ ?_;all_goals(intro hb;(try simp only [sn,sb] at hb);try exact ex0)))
 exact ret_ct (l2:=[.con (.int .i64 f.code),.con (.int .i64 f.line),.con (.int .i64 f.col),.con (.string f.word)]) rfl tk37 rfl (Nat.zero_lt_succ _) rfl rfl (fz_aggC [.int .i64 f.code,.int .i64 f.line,.int .i64 f.col,.string f.word]) rfl
theorem eqF : EqSt Tryz.prog 37 [.int .i64,.int .i64,.int .i64,.str]:=by
 refine⟨by kernel_rfl,by kernel_rfl,_,Tryz.underlying37,rfl,fun i f h=>?_⟩
 match i with
 |0=>obtain rfl:=Option.some.inj h;exact⟨rfl,by decide,_,rfl,by kernel_rfl,.inr (.inr ⟨_,rfl⟩)⟩
 |1=>obtain rfl:=Option.some.inj h;exact⟨rfl,by decide,_,rfl,by kernel_rfl,.inr (.inr ⟨_,rfl⟩)⟩
 |2=>obtain rfl:=Option.some.inj h;exact⟨rfl,by decide,_,rfl,by kernel_rfl,.inr (.inr ⟨_,rfl⟩)⟩
 |3=>obtain rfl:=Option.some.inj h;exact⟨rfl,by decide,_,rfl,by kernel_rfl,.inr (.inl rfl)⟩
 |i+4=>simp at h
end Go.Ev
