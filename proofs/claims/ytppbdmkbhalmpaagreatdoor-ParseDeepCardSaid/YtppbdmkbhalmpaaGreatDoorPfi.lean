import Derived.Test.YtppbdmkbhalmpaaGreatDoorLav
import Derived.Test.YtppbdmkbhalmpaaGreatDoorRdf
set_option linter.all false
set_option maxHeartbeats 40000000
set_option maxRecDepth 10000
namespace Go.Ev
open Go.Proofs
open PS (Trm EntD VarD PrbD FilD)
theorem ret_cf {P:Program}{fn:Func}{f:Bool}{s:St}{b tb c i1 v1 z1:Nat}{l2:List V}{t1 t2:T}{fs2:List (Nat×Nat)}{y2:List Value}
  (hr:fn.results.toList=[.cell b tb,.tmp c])
  (ht2:tk P tb=.st fs2 y2) (hz2:y2.length=l2.length) (h02:0 < l2.length) (ha2:eget s.env b=.ref i1 v1 0 0) (ho2:oget s.oh i1=some ⟨z1,[.agg l2],v1,true⟩) (hf:FzA s.oh f (.agg l2) t1) (hc:FzA s.oh f (eget s.env c) t2) :
  RetOK P fn f (.tup [t1,t2]) .ret s:=by
 refine⟨trivial,?_⟩
 rw [hr]
 have h:resV P s (.cell b tb) (fun v=>resV P s (.tmp c) fun u=>∃r1 r2,T.tup [t1,t2]=.tup [r1,r2]∧FzA s.oh f v r1∧FzA s.oh f u r2):=resc ht2 hz2 h02 ha2 ho2 ⟨_,_,rfl,hf,hc⟩
 exact h
def stPg {W:Txt}(N:Nat)(σ:PS W)(l:List V):St:=⟨N,[(2,.ref 0 0 0 0),(3,.con .nilIface),(4,.ref 1 0 0 0),(5,.ref 2 0 0 0)],[(0,⟨4,[.agg [.con (.string .empty),.emp,.emp,.emp]],0,true⟩),(1,prO W σ.at_ σ.bad σ.opn),(2,⟨4,[.agg l],0,true⟩)]⟩
def stPf (W : Txt) (N : Nat) (nm : ByteArray) (pr : List ByteArray) (z : FiZ W) : St :=
  ⟨N, [(2, .ref 0 0 0 0), (4, .ref 1 0 0 0), (5, .ref 2 0 0 0)],
    [(0, ⟨4, [.agg [.con (.string .empty), .emp, .emp, .emp]], 0, true⟩), (1, prO W z.1.at_ z.1.bad z.1.opn),
     (2, ⟨4, [.agg [.con (.string nm), .ro false (tSs pr), .own 4 z.2.2.2.1.1 0 z.2.2.2.1.2, .own 5 z.2.2.2.2.1.1 0 z.2.2.2.2.1.2]], 0, true⟩),
     (4, ⟨4, z.2.1.map vVar, z.2.2.2.1.1, true⟩), (5, ⟨4, z.2.2.1.map vPrb, z.2.2.2.2.1.1, true⟩)]⟩
def pfI {W:Txt}(R:List VarD×List PrbD×PS W)(dec:ByteArray→Int×Nat)(z:FiZ W):Prop:=
 z.1.opn=0∧z.1.at_≤W.L.length∧z.2.2.2.1.2=z.2.1.length∧z.2.2.2.2.1.2=z.2.2.1.length∧z.2.2.1.length+z.2.2.2.2.2≤W.L.length+1∧z.2.1.length+z.2.2.2.2.2≤W.L.length+1∧
  PS.partLQ dec natP z.2.2.2.2.2 z.2.1 z.2.2.1 z.1=R∧1≤z.2.2.2.2.2∧W.L.length < z.2.2.2.2.2+z.1.at_
theorem pr_sh {W:Txt}(d a:Nat)(b:Option Flt)(n:Nat):(prO W a b n).sh d=prO W a b n:=by
 have h1:∀v:V,v.dat1→v.sh1 d=v:=fun v h=>by obtain⟨x,rfl|⟨f,t,rfl⟩⟩:=h<;>rfl
 show Obj.mk 5 [V.agg (List.map (V.sh1 d) _)] 0 true=Obj.mk 5 [V.agg _] 0 true
 rw [List.map_congr_left fun v hv=>h1 v (prV_dat (W:=W) a b n v hv),List.map_id'']
 exact fun _=>rfl
theorem pFile_ok {dec:ByteArray→Int×Nat}(s:ByteArray)(hF:Fit (txt s))(hkn:Kin (txt s))(hS:UnOK Tryz.prog 21 65 (PS.sum (X:=txt s) (PS.un dec 65)))
  (c0:OkO Tryz.prog 12 [tS9 s] (pO (PS.begin s)) (.ref 0 0 0 0)) :
  Ok Tryz.prog 6 [tS9 s] false (.tup [tFil (fileS dec s).1,tFe (fileS dec s).2]):=by
 have hL:=hF.len
 have hS9:fileS dec s=(match(PS.fin (PS.partLQ dec natP ((txt s).L.length+1) [] [] (PS.fil2 (PS.begin s))).2.2).bad with
  |some f=>(⟨eS,[],[],[]⟩,some f)
  |none=>(⟨(PS.take 1 (PS.need 1 PS.kNet (PS.begin s))).1,(PS.props (PS.fil1 (PS.begin s))).1,(PS.partLQ dec natP ((txt s).L.length+1) [] [] (PS.fil2 (PS.begin s))).1,(PS.partLQ dec natP ((txt s).L.length+1) [] [] (PS.fil2 (PS.begin s))).2.1⟩,none)):=by
  have e:fileS dec s=(match(PS.fin (PS.partL dec natP ((txt s).L.length+1) [] [] (PS.fil2 (PS.begin s))).2.2).bad with
   |some f=>(⟨eS,[],[],[]⟩,some f)
   |none=>(⟨(PS.take 1 (PS.need 1 PS.kNet (PS.begin s))).1,(PS.props (PS.fil1 (PS.begin s))).1,(PS.partL dec natP ((txt s).L.length+1) [] [] (PS.fil2 (PS.begin s))).1,(PS.partL dec natP ((txt s).L.length+1) [] [] (PS.fil2 (PS.begin s))).2.1⟩,none)):=rfl
  rw [e,PS.partLQ_st dec natP _ [] [] [] []]
  cases hb:(PS.fin (PS.partL dec natP ((txt s).L.length+1) [] [] (PS.fil2 (PS.begin s))).2.2).bad with
  |some f=>rfl
  |none=>rw [PS.partLQ_eq dec natP _ _ _ _ (PS.bad_back (PS.fin_fol _) hb)]
 rw [hS9]
 clear hS9
 have ho:(PS.begin s).opn=0:=rfl
 have ha:(PS.begin s).at_≤(txt s).L.length:=Nat.zero_le _
 unfold PS.fil2 PS.fil1
 generalize PS.begin s=σ at *
 generalize txt s=W at *
 have f1:=PS.need_fol 1 PS.kNet σ
 have c1:=pNeed_ok [(1,PS.kNet)] σ hL (by decide) (by decide) (kc hkn.net kn)
 have e1:PS.needL [(1,PS.kNet)] σ=PS.need 1 PS.kNet σ:=rfl
 rw [e1] at c1
 generalize PS.need 1 PS.kNet σ=s1 at *
 have f2:=PS.take_fol 1 s1
 have c2:=pName_ok s1 hL
 generalize PS.take 1 s1=r2 at *
 have f3:=PS.need_fol 4 PS.kLC r2.2
 have c3:=pNeed_ok [(4,PS.kLC)] r2.2 hL (by decide) (by decide) (kc hkn.lc kn)
 have e3:PS.needL [(4,PS.kLC)] r2.2=PS.need 4 PS.kLC r2.2:=rfl
 rw [e3] at c3
 generalize PS.need 4 PS.kLC r2.2=s3 at *
 have f4:=PS.props_fol s3
 have c4:=pProps_ok s3 hL hkn.semi
 generalize PS.props s3=r4 at *
 have f5:=PS.need_fol 4 PS.kRC r4.2
 have c5:=pNeed_ok [(4,PS.kRC)] r4.2 hL (by decide) (by decide) (kc hkn.rc kn)
 have e5:PS.needL [(4,PS.kRC)] r4.2=PS.need 4 PS.kRC r4.2:=rfl
 rw [e5] at c5
 generalize PS.need 4 PS.kRC r4.2=s5 at *
 have fo:=(((f1.trans f2).trans f3).trans f4).trans f5
 clear e1 e3 e5
 unfold pO at c0 c1 c2 c3 c4 c5
 refine ok_of_ev hC0 mix Tryz.func6 rfl rfl (by kernel_rfl) (zO rfl) ?_
 repeat'(first|(refine seq_k (a:=Code.region 1 _ _) Unit (fun _=>⟨Tryz.f6.ntmps,[(2,.ref 0 0 0 0),(3,.con .nilIface),(4,.ref 1 0 0 0)],[(0,⟨4,[.agg [.con (.string .empty),.emp,.emp,.emp]],0,true⟩),(1,prO W σ.at_ σ.bad σ.opn)]⟩) (fun _=>True) ?_ ?_)|(with_reducible first|(refine zz ?_;try intro K hK)|refine zI ?_|refine zt ?_|refine zf ?_)|((first|refine hK _ ?_|refine hK _ _ rfl ?_);clear hK K)|(guard_hyp hK;first|(refine zY ?zz ?_;case zz=>first|exact rfl|exact gJ)|refine fresh_n ?_|refine freshO_n ?_|refine zW ?_|intro b0 hb)|((first|with_reducible refine zm ?_|guard_hyp hK);refine zY ?_ ?_;all_goals(intro hb;(try simp only [sn,sb] at hb);try exact ex0)))
 rotate_left
 ·intro R hR
  repeat'(first|(with_reducible first|(refine zz ?_;try intro K hK)|refine zI ?_|refine zt ?_|refine zf ?_)|((first|refine hK _ ?_|refine hK _ _ rfl ?_);clear hK K)|(guard_hyp hK;first|(refine zY ?zz ?_;case zz=>first|exact rfl|exact gJ)|refine fresh_n ?_|refine freshO_n ?_|refine zW ?_|(refine Or.inr (Exists.intro _ (Exists.intro _ (And.intro (c0) ?_))))|intro b0 hb)|((first|with_reducible refine zm ?_|guard_hyp hK);refine zY ?_ ?_;all_goals(intro hb;(try simp only [sn,sb] at hb);try exact ex0)))
  exact hR _ () trivial (lf_of0 ⟨Lc.same _ rfl,Lc.same _ trivial,Lc.same _ rfl,trivial⟩ ⟨agg_same rfl rfl,lfOb_same ((show oget _ 1=some ((prO W σ.at_ σ.bad σ.opn).sh 1) from rfl).trans (congrArg some (pr_sh _ _ _ _))) (pr_flat _ _ _),trivial⟩)
 rintro - -
 repeat'(first|(refine seq_k (a:=Code.region 5 _ _) Unit (fun _=>stPg Tryz.f6.ntmps s3 [.con (.string r2.1),.emp,.emp,.emp]) (fun _=>True) ?_ ?_)|(with_reducible first|(refine zz ?_;try intro K hK)|refine zI ?_|refine zt ?_|refine zf ?_)|((first|refine hK _ ?_|refine hK _ _ rfl ?_);clear hK K)|(guard_hyp hK;first|(refine zY ?zz ?_;case zz=>first|exact rfl|exact gJ)|refine fresh_n ?_|refine freshO_n ?_|refine zW ?_|(refine' Or.inr (Or.inr (Or.inl (need_call ([(1,PS.kNet)]) _ _ (c1) ?hga ?hgb ?hgc ?hgd ?_)));(case hga=>rfl);(case hgb=>rfl);(case hgc=>rfl);(case hgd=>exact Nat.ne_of_lt (zO rfl)))|refine zp 1 (c2) ?_|intro b0 hb)|((first|with_reducible refine zm ?_|guard_hyp hK);refine zY ?_ ?_;all_goals(intro hb;(try simp only [sn,sb] at hb);try exact ex0)))
 rotate_left
 ·intro R hR
  repeat'(first|(with_reducible first|(refine zz ?_;try intro K hK)|refine zI ?_|refine zt ?_|refine zf ?_)|((first|refine hK _ ?_|refine hK _ _ rfl ?_);clear hK K)|(guard_hyp hK;first|(refine zY ?zz ?_;case zz=>first|exact rfl|exact gJ)|refine fresh_n ?_|refine freshO_n ?_|refine zW ?_|(refine' Or.inr (Or.inr (Or.inl (need_call ([(4,PS.kLC)]) _ _ (c3) ?hga ?hgb ?hgc ?hgd ?_)));(case hga=>rfl);(case hgb=>rfl);(case hgc=>rfl);(case hgd=>exact Nat.ne_of_lt (zO rfl)))|intro b0 hb)|((first|with_reducible refine zm ?_|guard_hyp hK);refine zY ?_ ?_;all_goals(intro hb;(try simp only [sn,sb] at hb);try exact ex0)))
  exact hR _ () trivial (lf_of0 ⟨Lc.same _ rfl,Lc.same _ trivial,Lc.same _ rfl,Lc.same _ rfl,trivial⟩ ⟨agg_same rfl rfl,lfOb_same rfl (pr_flat _ _ _),agg_same rfl rfl,trivial⟩)
 rintro - -
 unfold stPg
 repeat'(first|(refine seq_k (a:=Code.region 7 _ _) Unit (fun _=>stPg Tryz.f6.ntmps s5 [.con (.string r2.1),.ro false (tSs r4.1),.emp,.emp]) (fun _=>True) ?_ ?_)|(with_reducible first|(refine zz ?_;try intro K hK)|refine zI ?_|refine zt ?_|refine zf ?_)|((first|refine hK _ ?_|refine hK _ _ rfl ?_);clear hK K)|(guard_hyp hK;first|(refine zY ?zz ?_;case zz=>first|exact rfl|exact gJ)|refine fresh_n ?_|refine freshO_n ?_|refine zW ?_|refine zp 1 (c4) ?_|intro b0 hb)|((first|with_reducible refine zm ?_|guard_hyp hK);refine zY ?_ ?_;all_goals(intro hb;(try simp only [sn,sb] at hb);try exact ex0)))
 rotate_left
 ·intro R hR
  repeat'(first|(with_reducible first|(refine zz ?_;try intro K hK)|refine zI ?_|refine zt ?_|refine zf ?_)|((first|refine hK _ ?_|refine hK _ _ rfl ?_);clear hK K)|(guard_hyp hK;first|(refine zY ?zz ?_;case zz=>first|exact rfl|exact gJ)|refine fresh_n ?_|refine freshO_n ?_|refine zW ?_|(refine' Or.inr (Or.inr (Or.inl (need_call ([(4,PS.kRC)]) _ _ (c5) ?hga ?hgb ?hgc ?hgd ?_)));(case hga=>rfl);(case hgb=>rfl);(case hgc=>rfl);(case hgd=>exact Nat.ne_of_lt (zO rfl)))|intro b0 hb)|((first|with_reducible refine zm ?_|guard_hyp hK);refine zY ?_ ?_;all_goals(intro hb;(try simp only [sn,sb] at hb);try exact ex0)))
  exact hR _ () trivial (lf_of0 ⟨Lc.same _ rfl,Lc.same _ trivial,Lc.same _ rfl,Lc.same _ rfl,trivial⟩ ⟨agg_same rfl rfl,lfOb_same rfl (pr_flat _ _ _),agg_same rfl rfl,trivial⟩)
 rintro - -
 unfold stPg
 repeat'(first|(with_reducible first|(refine zz ?_;try intro K hK)|refine zI ?_|refine zt ?_|refine zf ?_)|((first|refine hK _ ?_|refine hK _ _ rfl ?_);clear hK K)|(guard_hyp hK;first|(refine zY ?zz ?_;case zz=>first|exact rfl|exact gJ)|refine fresh_n ?_|refine freshO_n ?_|refine zW ?_|intro b0 hb)|((first|with_reducible refine zm ?_|guard_hyp hK);refine zY ?_ ?_;all_goals(intro hb;(try simp only [sn,sb] at hb);try exact ex0)))
 generalize hR:PS.partLQ dec natP (W.L.length+1) [] [] s5=R
 refine loop_f (FiZ W) (stPf W Tryz.f6.ntmps r2.1 r4.1) (pfI R dec) (fun z=>z.2.2.2.2.2) (s5,[],[],(0,0),(0,0),W.L.length+1) ⟨fo.opn.trans ho,fo.hi ha,rfl,rfl,Nat.le_of_eq (Nat.zero_add _),Nat.le_of_eq (Nat.zero_add _),hR,Nat.succ_le_succ (Nat.zero_le _),by dsimp only;omega⟩ (lf_of0 ⟨Lc.same _ rfl,Lc.same _ rfl,Lc.same _ rfl,trivial⟩ ⟨agg_same rfl rfl,lfOb_same rfl (pr_flat _ _ _),lfOb_one rfl (lv_agg ⟨Lc.same _ trivial,lc_ro,Lc.adopt 4 _ rfl rfl,Lc.adopt 5 _ rfl rfl,trivial⟩),lfOb_new rfl,lfOb_new rfl,trivial⟩) ?_
 rintro⟨τ,vs,ps,⟨vv,nv⟩,⟨vp,np⟩,k⟩ ⟨q1,q2,q3,q4,q5,q6,q7,q8,q9⟩
 dsimp only at q1 q2 q3 q4 q5 q6 q7 q8 q9
 obtain⟨k,rfl⟩:∃j,k=j+1:=⟨k - 1,by omega⟩
 rw [PS.partLQ] at q7
 unfold stPf
 dsimp only
 cases hb:τ.bad with
 |some f=>
  have hbb:τ.bad≠none:=by rw [hb];exact fun h=>by cases h
  rw [PS.isB_bad hbb,if_neg Bool.false_ne_true,PS.isB_bad hbb,if_neg Bool.false_ne_true,PS.settle_stk hbb] at q7
  rw [← q7]
  dsimp only
  have d3:=pDone_ok τ
  rw [(PS.fin_fol τ).stk hbb] at d3 ⊢
  unfold pO at d3
  rw [hb] at d3 ⊢
  repeat'(first|(with_reducible first|(refine zz ?_;try intro K hK)|refine zI ?_|refine zt ?_|refine zf ?_)|((first|refine hK _ ?_|refine hK _ _ rfl ?_);clear hK K)|(guard_hyp hK;first|(refine zY ?zz ?_;case zz=>first|exact rfl|exact gJ)|refine fresh_n ?_|refine freshO_n ?_|refine zW ?_|refine zp 1 (d3) ?_|intro b0 hb)|((first|with_reducible refine zm ?_|guard_hyp hK);refine zY ?_ ?_;all_goals(intro hb;(try simp only [sn,sb] at hb);try exact ex0)))
  exact ret_cf (l2:=[.con (.string .empty),.emp,.emp,.emp]) (t1:=tFil ⟨eS,[],[],[]⟩) (t2:=tFe (some f)) rfl tk27 rfl (Nat.zero_lt_succ _) rfl rfl (fz_agg4 (.con _) .emp .emp .emp) (Fz1.ro _ _ fun h=>Bool.noConfusion h)
 |none=>
  have d1:=pIs_ok τ 1 PS.kVar
  have d2:=pIs_ok τ.settle 1 PS.kProb
  rw [isB_settle,settle_settle] at d2
  cases hA:τ.isB 1 PS.kVar with
  |true=>
   obtain⟨t,ht,hk,-⟩:=PS.isB_tok hA
   have hlt:=(PS.tok_at ht).2.2
   have hav:=PS.adv_at ht (by rw [hk];decide)
   have haf:=PS.adv_fol1 hA (by decide)
   rw [hA,if_pos rfl] at q7
   rw [hA,PS.settle_some ht,pO_some ht] at d1
   have d3:=pVar_ok τ hF hkn q2 hA
   have l3:=PS.varD_fol natP τ.adv
   have l4:=l3.hi (haf.hi q2)
   have l5:=l3.le
   rw [pO_some ht] at d3
   unfold pO at d3
   generalize (PS.varD natP τ.adv).2=r9 at *
   generalize (PS.varQ natP τ.adv).1=e9 at *
   repeat'(first|(refine And.intro (by128 (Nat.le_of_ble_eq_true rfl) (by first|omega|(simp only [ln];omega))) ?_)|(with_reducible first|(refine zz ?_;try intro K hK)|refine zI ?_|refine zt ?_|refine zf ?_)|((first|refine hK _ ?_|refine hK _ _ rfl ?_);clear hK K)|(guard_hyp hK;first|(refine zY ?zz ?_;case zz=>first|exact rfl|exact gJ)|refine fresh_n ?_|refine freshO_n ?_|refine zW ?_|refine zp 1 (d1) ?_|refine zp 1 (d3) ?_|intro b0 hb)|((first|with_reducible refine zm ?_|guard_hyp hK);refine zY ?_ ?_;all_goals(intro hb;(try simp only [sn,sb] at hb);try exact ex0)))
   exact⟨(r9,vs ++ [e9],ps,(vv+1,nv+1),(vp,np),k),⟨l3.opn.trans (hav.2.2.trans q1),l4,by dsimp only;rw [List.length_append,List.length_singleton];omega,q4,by dsimp only;omega,by dsimp only;rw [List.length_append,List.length_singleton];omega,q7,by dsimp only;omega,by dsimp only;omega⟩,Nat.lt_succ_self _,lf_of0 ⟨Lc.same _ rfl,Lc.same _ rfl,Lc.same _ rfl,trivial⟩ ⟨agg_same rfl rfl,lfOb_same rfl (pr_flat _ _ _),lfOb_one rfl (lv_agg ⟨Lc.same _ trivial,lc_ro,Lc.same _ rfl,Lc.same _ rfl,trivial⟩),lfOb_app (F:=vVar) (l:=vs) (a:=e9) rfl q3 rfl (fun x _=>vVar_flat x) (vVar_flat _).lv,lfOb_same rfl (vPs_flat _),trivial⟩⟩
  |false=>
   rw [hA,if_neg Bool.false_ne_true] at q7
   rw [hA] at d1
   cases hB:τ.isB 1 PS.kProb with
   |true=>
    obtain⟨t,ht,hk,-⟩:=PS.isB_tok hB
    have hlt:=(PS.tok_at ht).2.2
    have hav:=PS.adv_at ht (by rw [hk];decide)
    have haf:=PS.adv_fol1 hB (by decide)
    rw [hB,if_pos rfl] at q7
    rw [PS.settle_some ht,pO_some ht] at d1
    rw [hB,PS.settle_some ht,pO_some ht] at d2
    have d3:=pPrb_ok hF hkn hS τ hB q1 q2
    have l3:=PS.prbD_fol dec τ.adv
    have l4:=l3.hi (haf.hi q2)
    have l5:=l3.le
    rw [pO_some ht] at d3
    unfold pO at d3
    generalize (PS.prbD dec τ.adv).2=r9 at *
    generalize (PS.prbQ dec τ.adv).1=e9 at *
    repeat'(first|(refine And.intro (by128 (Nat.le_of_ble_eq_true rfl) (by first|omega|(simp only [ln];omega))) ?_)|(with_reducible first|(refine zz ?_;try intro K hK)|refine zI ?_|refine zt ?_|refine zf ?_)|((first|refine hK _ ?_|refine hK _ _ rfl ?_);clear hK K)|(guard_hyp hK;first|(refine zY ?zz ?_;case zz=>first|exact rfl|exact gJ)|refine fresh_n ?_|refine freshO_n ?_|refine zW ?_|refine zp 1 (d1) ?_|refine zp 1 (d2) ?_|refine zp 1 (d3) ?_|intro b0 hb)|((first|with_reducible refine zm ?_|guard_hyp hK);refine zY ?_ ?_;all_goals(intro hb;(try simp only [sn,sb] at hb);try exact ex0)))
    exact⟨(r9,vs,ps ++ [e9],(vv,nv),(vp+1,np+1),k),⟨l3.opn.trans (hav.2.2.trans q1),l4,q3,by dsimp only;rw [List.length_append,List.length_singleton];omega,by dsimp only;rw [List.length_append,List.length_singleton];omega,by dsimp only;omega,q7,by dsimp only;omega,by dsimp only;omega⟩,Nat.lt_succ_self _,lf_of0 ⟨Lc.same _ rfl,Lc.same _ rfl,Lc.same _ rfl,trivial⟩ ⟨agg_same rfl rfl,lfOb_same rfl (pr_flat _ _ _),lfOb_one rfl (lv_agg ⟨Lc.same _ trivial,lc_ro,Lc.same _ rfl,Lc.same _ rfl,trivial⟩),lfOb_same rfl (vVs_flat _),lfOb_app (F:=vPrb) (l:=ps) (a:=e9) rfl q4 rfl (fun x _=>vPrb_flat x) (vPrb_flat _).lv,trivial⟩⟩
   |false=>
    rw [hB,if_neg Bool.false_ne_true] at q7
    rw [hB] at d2
    rw [← q7]
    dsimp only
    have d3:=pDone_ok τ.settle
    unfold pO at d1 d2 d3
    rw [hb] at d1
    generalize PS.fin τ.settle=s9 at *
    cases hb9:s9.bad with
    |some f=>
     rw [hb9] at d3
     repeat'(first|(with_reducible first|(refine zz ?_;try intro K hK)|refine zI ?_|refine zt ?_|refine zf ?_)|((first|refine hK _ ?_|refine hK _ _ rfl ?_);clear hK K)|(guard_hyp hK;first|(refine zY ?zz ?_;case zz=>first|exact rfl|exact gJ)|refine fresh_n ?_|refine freshO_n ?_|refine zW ?_|refine zp 1 (d1) ?_|refine zp 1 (d2) ?_|refine zp 1 (d3) ?_|intro b0 hb)|((first|with_reducible refine zm ?_|guard_hyp hK);refine zY ?_ ?_;all_goals(intro hb;(try simp only [sn,sb] at hb);try exact ex0)))
     exact ret_cf (l2:=[.con (.string .empty),.emp,.emp,.emp]) (t1:=tFil ⟨eS,[],[],[]⟩) (t2:=tFe (some f)) rfl tk27 rfl (Nat.zero_lt_succ _) rfl rfl (fz_agg4 (.con _) .emp .emp .emp) (Fz1.ro _ _ fun h=>Bool.noConfusion h)
    |none=>
     rw [hb9] at d3
     repeat'(first|(with_reducible first|(refine zz ?_;try intro K hK)|refine zI ?_|refine zt ?_|refine zf ?_)|((first|refine hK _ ?_|refine hK _ _ rfl ?_);clear hK K)|(guard_hyp hK;first|(refine zY ?zz ?_;case zz=>first|exact rfl|exact gJ)|refine fresh_n ?_|refine freshO_n ?_|refine zW ?_|refine zp 1 (d1) ?_|refine zp 1 (d2) ?_|refine zp 1 (d3) ?_|intro b0 hb)|((first|with_reducible refine zm ?_|guard_hyp hK);refine zY ?_ ?_;all_goals(intro hb;(try simp only [sn,sb] at hb);try exact ex0)))
     exact ret_cf (l2:=[.con (.string r2.1),.ro false (tSs r4.1),.own 4 vv 0 nv,.own 5 vp 0 np]) (t1:=tFil ⟨r2.1,r4.1,vs,ps⟩) (t2:=tFe none) rfl tk27 rfl (Nat.zero_lt_succ _) rfl rfl (fz_agg4 (.con _) (.ro _ _ fun h=>Bool.noConfusion h) (fz_list rfl q3.symm fze_Var) (fz_list rfl q4.symm fze_Prb)) (Fz1.con _)
end Go.Ev
