import Derived.Test.YtppbdmkbhalmpaaGreatDoorLav
import Derived.Test.YtppbdmkbhalmpaaGreatDoorRdf
import Derived.Test.YtppbdmkbhalmpaaGreatDoorLah
import Derived.Test.YtppbdmkbhalmpaaGreatDoorLar
import Derived.Test.YtppbdmkbhalmpaaGreatDoorLak
import Derived.WalkKit
import Derived.BigCall
import Derived.OwnWalk
import Derived.Test.YtppbdmkbhalmpaaGreatDoorLai
set_option linter.all false
set_option maxHeartbeats 60000000
set_option maxRecDepth 100000
namespace Go.Ev
open Go.Proofs
open PS (Trm EntD VarD PrbD FilD)
theorem ret_cf {P:Program}{fn:Func}{f:Bool}{s:St}{b tb c i1 v1 z1:Nat}{l2:List V}{t1 t2:T}{fs2:List (Nat×Nat)}{y2:List Value}
  (hr:fn.results.toList=[.cell b tb,.tmp c])
  (ht2:tk P tb=.st fs2 y2) (hz2:y2.length=l2.length) (h02:0 < l2.length) (ha2:eget s.env b=.ref i1 v1 0 0) (ho2:oget s.oh i1=some ⟨z1,[.agg l2],v1,true⟩) (hf:FzA s.oh f (.agg l2) t1) (hc:FzA s.oh f (eget s.env c) t2) :
  RetOK P fn f (.tup [t1,t2]) .ret s:=by
 refine⟨trivial,?_⟩
 rw [hr]
 have h:resV P s (.cell b tb) (fun v=>resV P s (.tmp c) fun u=>∃r1 r2,T.tup [t1,t2]=.tup [r1,r2]∧FzA s.oh f v r1∧FzA s.oh f u r2):=resc ht2 hz2 h02 ha2 ho2 ⟨_,_,rfl,hf,hc⟩
 exact h
def stPg {W:Txt}(N:Nat)(σ:PS W)(l:List V):St:=⟨N,[(2,.ref 0 0 0 0),(3,.con .nilIface),(4,.ref 1 0 0 0),(5,.ref 2 0 0 0)],[(0,⟨4,[.agg [.con (.string .empty),.emp,.emp,.emp]],0,true⟩),(1,prO W σ.at_ σ.bad σ.opn),(2,⟨4,[.agg l],0,true⟩)]⟩
def stPf (W : Txt) (N : Nat) (nm : ByteArray) (pr : List ByteArray) (z : FiZ W) : St :=
  ⟨N, [(2, .ref 0 0 0 0), (4, .ref 1 0 0 0), (5, .ref 2 0 0 0)],
    [(0, ⟨4, [.agg [.con (.string .empty), .emp, .emp, .emp]], 0, true⟩), (1, prO W z.1.at_ z.1.bad z.1.opn),
     (2, ⟨4, [.agg [.con (.string nm), .ro false (tSs pr), .own 4 z.2.2.2.1.1 0 z.2.2.2.1.2, .own 5 z.2.2.2.2.1.1 0 z.2.2.2.2.1.2]], 0, true⟩),
     (4, ⟨4, z.2.1.map vVar, z.2.2.2.1.1, true⟩), (5, ⟨4, z.2.2.1.map vPrb, z.2.2.2.2.1.1, true⟩)]⟩
def pfI {W:Txt}(R:List VarD×List PrbD×PS W)(dec:ByteArray→Int×Nat)(z:FiZ W):Prop:=
 z.1.opn=0∧z.1.at_≤W.L.length∧z.2.2.2.1.2=z.2.1.length∧z.2.2.2.2.1.2=z.2.2.1.length∧z.2.2.1.length+z.2.2.2.2.2≤W.L.length+1∧z.2.1.length+z.2.2.2.2.2≤W.L.length+1∧
  PS.partLQ dec natP z.2.2.2.2.2 z.2.1 z.2.2.1 z.1=R∧1≤z.2.2.2.2.2∧W.L.length < z.2.2.2.2.2+z.1.at_
theorem pr_sh {W:Txt}(d a:Nat)(b:Option Flt)(n:Nat):(prO W a b n).sh d=prO W a b n:=by
 have h1:∀v:V,v.dat1→v.sh1 d=v:=fun v h=>by obtain⟨x,rfl|⟨f,t,rfl⟩⟩:=h<;>rfl
 show Obj.mk 5 [V.agg (List.map (V.sh1 d) _)] 0 true=Obj.mk 5 [V.agg _] 0 true
 rw [List.map_congr_left fun v hv=>h1 v (prV_dat (W:=W) a b n v hv),List.map_id'']
 exact fun _=>rfl
theorem pFile_ok {dec:ByteArray→Int×Nat}(s:ByteArray)(hF:Fit (txt s))(hkn:Kin (txt s))(hS:UnOK Tryz.prog 21 65 (PS.sum (X:=txt s) (PS.un dec 65)))
  (c0:OkO Tryz.prog 12 [tS9 s] (pO (PS.begin s)) (.ref 0 0 0 0)) :
  Ok Tryz.prog 6 [tS9 s] false (.tup [tFil (fileS dec s).1,tFe (fileS dec s).2]):=by
 have hL:=hF.len
 have hS9:fileS dec s=(match(PS.fin (PS.partLQ dec natP ((txt s).L.length+1) [] [] (PS.fil2 (PS.begin s))).2.2).bad with
  |some f=>(⟨eS,[],[],[]⟩,some f)
  |none=>(⟨(PS.take 1 (PS.need 1 PS.kNet (PS.begin s))).1,(PS.props (PS.fil1 (PS.begin s))).1,(PS.partLQ dec natP ((txt s).L.length+1) [] [] (PS.fil2 (PS.begin s))).1,(PS.partLQ dec natP ((txt s).L.length+1) [] [] (PS.fil2 (PS.begin s))).2.1⟩,none)):=by
  have e:fileS dec s=(match(PS.fin (PS.partL dec natP ((txt s).L.length+1) [] [] (PS.fil2 (PS.begin s))).2.2).bad with
   |some f=>(⟨eS,[],[],[]⟩,some f)
   |none=>(⟨(PS.take 1 (PS.need 1 PS.kNet (PS.begin s))).1,(PS.props (PS.fil1 (PS.begin s))).1,(PS.partL dec natP ((txt s).L.length+1) [] [] (PS.fil2 (PS.begin s))).1,(PS.partL dec natP ((txt s).L.length+1) [] [] (PS.fil2 (PS.begin s))).2.1⟩,none)):=rfl
  rw [e,PS.partLQ_st dec natP _ [] [] [] []]
  cases hb:(PS.fin (PS.partL dec natP ((txt s).L.length+1) [] [] (PS.fil2 (PS.begin s))).2.2).bad with
  |some f=>rfl
  |none=>rw [PS.partLQ_eq dec natP _ _ _ _ (PS.bad_back (PS.fin_fol _) hb)]
 rw [hS9]
 clear hS9
 have ho:(PS.begin s).opn=0:=rfl
 have ha:(PS.begin s).at_≤(txt s).L.length:=Nat.zero_le _
 unfold PS.fil2 PS.fil1
 generalize PS.begin s=σ at *
 generalize txt s=W at *
 have f1:=PS.need_fol 1 PS.kNet σ
 have c1:=pNeed_ok [(1,PS.kNet)] σ hL (by decide) (by decide) (kc hkn.net kn)
 have e1:PS.needL [(1,PS.kNet)] σ=PS.need 1 PS.kNet σ:=rfl
 rw [e1] at c1
 generalize PS.need 1 PS.kNet σ=s1 at *
 have f2:=PS.take_fol 1 s1
 have c2:=pName_ok s1 hL
 generalize PS.take 1 s1=r2 at *
 have f3:=PS.need_fol 4 PS.kLC r2.2
 have c3:=pNeed_ok [(4,PS.kLC)] r2.2 hL (by decide) (by decide) (kc hkn.lc kn)
 have e3:PS.needL [(4,PS.kLC)] r2.2=PS.need 4 PS.kLC r2.2:=rfl
 rw [e3] at c3
 generalize PS.need 4 PS.kLC r2.2=s3 at *
 have f4:=PS.props_fol s3
 have c4:=pProps_ok s3 hL hkn.semi
 generalize PS.props s3=r4 at *
 have f5:=PS.need_fol 4 PS.kRC r4.2
 have c5:=pNeed_ok [(4,PS.kRC)] r4.2 hL (by decide) (by decide) (kc hkn.rc kn)
 have e5:PS.needL [(4,PS.kRC)] r4.2=PS.need 4 PS.kRC r4.2:=rfl
 rw [e5] at c5
 generalize PS.need 4 PS.kRC r4.2=s5 at *
 have fo:=(((f1.trans f2).trans f3).trans f4).trans f5
 clear e1 e3 e5
 unfold pO at c0 c1 c2 c3 c4 c5
 refine ok_of_ev hC0 mix Tryz.func6 rfl rfl (by kernel_rfl) (zO rfl) ?_
 repeat'(first|(refine seq_k (a:=Code.region 1 _ _) Unit (fun _=>⟨Tryz.f6.ntmps,[(2,.ref 0 0 0 0),(3,.con .nilIface),(4,.ref 1 0 0 0)],[(0,⟨4,[.agg [.con (.string .empty),.emp,.emp,.emp]],0,true⟩),(1,prO W σ.at_ σ.bad σ.opn)]⟩) (fun _=>True) ?_ ?_)|(with_reducible first|(refine zz ?_;try intro K hK)|refine zI ?_|refine zt ?_|refine zf ?_)|((first|refine hK _ ?_|refine hK _ _ rfl ?_);clear hK K)|(guard_hyp hK;first|(refine zY ?zz ?_;case zz=>first|exact rfl|exact gJ)|refine fresh_n ?_|refine freshO_n ?_|refine zW ?_|intro b0 hb)|((first|with_reducible refine zm ?_|guard_hyp hK);refine zY ?_ ?_;all_goals(intro hb;(try simp only [sn,sb] at hb);try exact ex0)))
 rotate_left
 ·intro R hR
  repeat'(first|(with_reducible first|(refine zz ?_;try intro K hK)|refine zI ?_|refine zt ?_|refine zf ?_)|((first|refine hK _ ?_|refine hK _ _ rfl ?_);clear hK K)|(guard_hyp hK;first|(refine zY ?zz ?_;case zz=>first|exact rfl|exact gJ)|refine fresh_n ?_|refine freshO_n ?_|refine zW ?_|(refine Or.inr (Exists.intro _ (Exists.intro _ (And.intro (c0) ?_))))|intro b0 hb)|((first|with_reducible refine zm ?_|guard_hyp hK);refine zY ?_ ?_;all_goals(intro hb;(try simp only [sn,sb] at hb);try exact ex0)))
  exact hR _ () trivial (lf_of0 ⟨Lc.same _ rfl,Lc.same _ trivial,Lc.same _ rfl,trivial⟩ ⟨agg_same rfl rfl,lfOb_same ((show oget _ 1=some ((prO W σ.at_ σ.bad σ.opn).sh 1) from rfl).trans (congrArg some (pr_sh _ _ _ _))) (pr_flat _ _ _),trivial⟩)
 rintro - -
 repeat'(first|(refine seq_k (a:=Code.region 5 _ _) Unit (fun _=>stPg Tryz.f6.ntmps s3 [.con (.string r2.1),.emp,.emp,.emp]) (fun _=>True) ?_ ?_)|(with_reducible first|(refine zz ?_;try intro K hK)|refine zI ?_|refine zt ?_|refine zf ?_)|((first|refine hK _ ?_|refine hK _ _ rfl ?_);clear hK K)|(guard_hyp hK;first|(refine zY ?zz ?_;case zz=>first|exact rfl|exact gJ)|refine fresh_n ?_|refine freshO_n ?_|refine zW ?_|(refine' Or.inr (Or.inr (Or.inl (need_call ([(1,PS.kNet)]) _ _ (c1) ?hga ?hgb ?hgc ?hgd ?_)));(case hga=>rfl);(case hgb=>rfl);(case hgc=>rfl);(case hgd=>exact Nat.ne_of_lt (zO rfl)))|refine zp 1 (c2) ?_|intro b0 hb)|((first|with_reducible refine zm ?_|guard_hyp hK);refine zY ?_ ?_;all_goals(intro hb;(try simp only [sn,sb] at hb);try exact ex0)))
 rotate_left
 ·intro R hR
  repeat'(first|(with_reducible first|(refine zz ?_;try intro K hK)|refine zI ?_|refine zt ?_|refine zf ?_)|((first|refine hK _ ?_|refine hK _ _ rfl ?_);clear hK K)|(guard_hyp hK;first|(refine zY ?zz ?_;case zz=>first|exact rfl|exact gJ)|refine fresh_n ?_|refine freshO_n ?_|refine zW ?_|(refine' Or.inr (Or.inr (Or.inl (need_call ([(4,PS.kLC)]) _ _ (c3) ?hga ?hgb ?hgc ?hgd ?_)));(case hga=>rfl);(case hgb=>rfl);(case hgc=>rfl);(case hgd=>exact Nat.ne_of_lt (zO rfl)))|intro b0 hb)|((first|with_reducible refine zm ?_|guard_hyp hK);refine zY ?_ ?_;all_goals(intro hb;(try simp only [sn,sb] at hb);try exact ex0)))
  exact hR _ () trivial (lf_of0 ⟨Lc.same _ rfl,Lc.same _ trivial,Lc.same _ rfl,Lc.same _ rfl,trivial⟩ ⟨agg_same rfl rfl,lfOb_same rfl (pr_flat _ _ _),agg_same rfl rfl,trivial⟩)
 rintro - -
 unfold stPg
 repeat'(first|(refine seq_k (a:=Code.region 7 _ _) Unit (fun _=>stPg Tryz.f6.ntmps s5 [.con (.string r2.1),.ro false (tSs r4.1),.emp,.emp]) (fun _=>True) ?_ ?_)|(with_reducible first|(refine zz ?_;try intro K hK)|refine zI ?_|refine zt ?_|refine zf ?_)|((first|refine hK _ ?_|refine hK _ _ rfl ?_);clear hK K)|(guard_hyp hK;first|(refine zY ?zz ?_;case zz=>first|exact rfl|exact gJ)|refine fresh_n ?_|refine freshO_n ?_|refine zW ?_|refine zp 1 (c4) ?_|intro b0 hb)|((first|with_reducible refine zm ?_|guard_hyp hK);refine zY ?_ ?_;all_goals(intro hb;(try simp only [sn,sb] at hb);try exact ex0)))
 rotate_left
 ·intro R hR
  repeat'(first|(with_reducible first|(refine zz ?_;try intro K hK)|refine zI ?_|refine zt ?_|refine zf ?_)|((first|refine hK _ ?_|refine hK _ _ rfl ?_);clear hK K)|(guard_hyp hK;first|(refine zY ?zz ?_;case zz=>first|exact rfl|exact gJ)|refine fresh_n ?_|refine freshO_n ?_|refine zW ?_|(refine' Or.inr (Or.inr (Or.inl (need_call ([(4,PS.kRC)]) _ _ (c5) ?hga ?hgb ?hgc ?hgd ?_)));(case hga=>rfl);(case hgb=>rfl);(case hgc=>rfl);(case hgd=>exact Nat.ne_of_lt (zO rfl)))|intro b0 hb)|((first|with_reducible refine zm ?_|guard_hyp hK);refine zY ?_ ?_;all_goals(intro hb;(try simp only [sn,sb] at hb);try exact ex0)))
  exact hR _ () trivial (lf_of0 ⟨Lc.same _ rfl,Lc.same _ trivial,Lc.same _ rfl,Lc.same _ rfl,trivial⟩ ⟨agg_same rfl rfl,lfOb_same rfl (pr_flat _ _ _),agg_same rfl rfl,trivial⟩)
 rintro - -
 unfold stPg
 repeat'(first|(with_reducible first|(refine zz ?_;try intro K hK)|refine zI ?_|refine zt ?_|refine zf ?_)|((first|refine hK _ ?_|refine hK _ _ rfl ?_);clear hK K)|(guard_hyp hK;first|(refine zY ?zz ?_;case zz=>first|exact rfl|exact gJ)|refine fresh_n ?_|refine freshO_n ?_|refine zW ?_|intro b0 hb)|((first|with_reducible refine zm ?_|guard_hyp hK);refine zY ?_ ?_;all_goals(intro hb;(try simp only [sn,sb] at hb);try exact ex0)))
 generalize hR:PS.partLQ dec natP (W.L.length+1) [] [] s5=R
 refine loop_f (FiZ W) (stPf W Tryz.f6.ntmps r2.1 r4.1) (pfI R dec) (fun z=>z.2.2.2.2.2) (s5,[],[],(0,0),(0,0),W.L.length+1) ⟨fo.opn.trans ho,fo.hi ha,rfl,rfl,Nat.le_of_eq (Nat.zero_add _),Nat.le_of_eq (Nat.zero_add _),hR,Nat.succ_le_succ (Nat.zero_le _),by dsimp only;omega⟩ (lf_of0 ⟨Lc.same _ rfl,Lc.same _ rfl,Lc.same _ rfl,trivial⟩ ⟨agg_same rfl rfl,lfOb_same rfl (pr_flat _ _ _),lfOb_one rfl (lv_agg ⟨Lc.same _ trivial,lc_ro,Lc.adopt 4 _ rfl rfl,Lc.adopt 5 _ rfl rfl,trivial⟩),lfOb_new rfl,lfOb_new rfl,trivial⟩) ?_
 rintro⟨τ,vs,ps,⟨vv,nv⟩,⟨vp,np⟩,k⟩ ⟨q1,q2,q3,q4,q5,q6,q7,q8,q9⟩
 dsimp only at q1 q2 q3 q4 q5 q6 q7 q8 q9
 obtain⟨k,rfl⟩:∃j,k=j+1:=⟨k - 1,by omega⟩
 rw [PS.partLQ] at q7
 unfold stPf
 dsimp only
 cases hb:τ.bad with
 |some f=>
  have hbb:τ.bad≠none:=by rw [hb];exact fun h=>by cases h
  rw [PS.isB_bad hbb,if_neg Bool.false_ne_true,PS.isB_bad hbb,if_neg Bool.false_ne_true,PS.settle_stk hbb] at q7
  rw [← q7]
  dsimp only
  have d3:=pDone_ok τ
  rw [(PS.fin_fol τ).stk hbb] at d3 ⊢
  unfold pO at d3
  rw [hb] at d3 ⊢
  repeat'(first|(with_reducible first|(refine zz ?_;try intro K hK)|refine zI ?_|refine zt ?_|refine zf ?_)|((first|refine hK _ ?_|refine hK _ _ rfl ?_);clear hK K)|(guard_hyp hK;first|(refine zY ?zz ?_;case zz=>first|exact rfl|exact gJ)|refine fresh_n ?_|refine freshO_n ?_|refine zW ?_|refine zp 1 (d3) ?_|intro b0 hb)|((first|with_reducible refine zm ?_|guard_hyp hK);refine zY ?_ ?_;all_goals(intro hb;(try simp only [sn,sb] at hb);try exact ex0)))
  exact ret_cf (l2:=[.con (.string .empty),.emp,.emp,.emp]) (t1:=tFil ⟨eS,[],[],[]⟩) (t2:=tFe (some f)) rfl tk27 rfl (Nat.zero_lt_succ _) rfl rfl (fz_agg4 (.con _) .emp .emp .emp) (Fz1.ro _ _ fun h=>Bool.noConfusion h)
 |none=>
  have d1:=pIs_ok τ 1 PS.kVar
  have d2:=pIs_ok τ.settle 1 PS.kProb
  rw [isB_settle,settle_settle] at d2
  cases hA:τ.isB 1 PS.kVar with
  |true=>
   obtain⟨t,ht,hk,-⟩:=PS.isB_tok hA
   have hlt:=(PS.tok_at ht).2.2
   have hav:=PS.adv_at ht (by rw [hk];decide)
   have haf:=PS.adv_fol1 hA (by decide)
   rw [hA,if_pos rfl] at q7
   rw [hA,PS.settle_some ht,pO_some ht] at d1
   have d3:=pVar_ok τ hF hkn q2 hA
   have l3:=PS.varD_fol natP τ.adv
   have l4:=l3.hi (haf.hi q2)
   have l5:=l3.le
   rw [pO_some ht] at d3
   unfold pO at d3
   generalize (PS.varD natP τ.adv).2=r9 at *
   generalize (PS.varQ natP τ.adv).1=e9 at *
   repeat'(first|(refine And.intro (by128 (Nat.le_of_ble_eq_true rfl) (by first|omega|(simp only [ln];omega))) ?_)|(with_reducible first|(refine zz ?_;try intro K hK)|refine zI ?_|refine zt ?_|refine zf ?_)|((first|refine hK _ ?_|refine hK _ _ rfl ?_);clear hK K)|(guard_hyp hK;first|(refine zY ?zz ?_;case zz=>first|exact rfl|exact gJ)|refine fresh_n ?_|refine freshO_n ?_|refine zW ?_|refine zp 1 (d1) ?_|refine zp 1 (d3) ?_|intro b0 hb)|((first|with_reducible refine zm ?_|guard_hyp hK);refine zY ?_ ?_;all_goals(intro hb;(try simp only [sn,sb] at hb);try exact ex0)))
   exact⟨(r9,vs ++ [e9],ps,(vv+1,nv+1),(vp,np),k),⟨l3.opn.trans (hav.2.2.trans q1),l4,by dsimp only;rw [List.length_append,List.length_singleton];omega,q4,by dsimp only;omega,by dsimp only;rw [List.length_append,List.length_singleton];omega,q7,by dsimp only;omega,by dsimp only;omega⟩,Nat.lt_succ_self _,lf_of0 ⟨Lc.same _ rfl,Lc.same _ rfl,Lc.same _ rfl,trivial⟩ ⟨agg_same rfl rfl,lfOb_same rfl (pr_flat _ _ _),lfOb_one rfl (lv_agg ⟨Lc.same _ trivial,lc_ro,Lc.same _ rfl,Lc.same _ rfl,trivial⟩),lfOb_app (F:=vVar) (l:=vs) (a:=e9) rfl q3 rfl (fun x _=>vVar_flat x) (vVar_flat _).lv,lfOb_same rfl (vPs_flat _),trivial⟩⟩
  |false=>
   rw [hA,if_neg Bool.false_ne_true] at q7
   rw [hA] at d1
   cases hB:τ.isB 1 PS.kProb with
   |true=>
    obtain⟨t,ht,hk,-⟩:=PS.isB_tok hB
    have hlt:=(PS.tok_at ht).2.2
    have hav:=PS.adv_at ht (by rw [hk];decide)
    have haf:=PS.adv_fol1 hB (by decide)
    rw [hB,if_pos rfl] at q7
    rw [PS.settle_some ht,pO_some ht] at d1
    rw [hB,PS.settle_some ht,pO_some ht] at d2
    have d3:=pPrb_ok hF hkn hS τ hB q1 q2
    have l3:=PS.prbD_fol dec τ.adv
    have l4:=l3.hi (haf.hi q2)
    have l5:=l3.le
    rw [pO_some ht] at d3
    unfold pO at d3
    generalize (PS.prbD dec τ.adv).2=r9 at *
    generalize (PS.prbQ dec τ.adv).1=e9 at *
    repeat'(first|(refine And.intro (by128 (Nat.le_of_ble_eq_true rfl) (by first|omega|(simp only [ln];omega))) ?_)|(with_reducible first|(refine zz ?_;try intro K hK)|refine zI ?_|refine zt ?_|refine zf ?_)|((first|refine hK _ ?_|refine hK _ _ rfl ?_);clear hK K)|(guard_hyp hK;first|(refine zY ?zz ?_;case zz=>first|exact rfl|exact gJ)|refine fresh_n ?_|refine freshO_n ?_|refine zW ?_|refine zp 1 (d1) ?_|refine zp 1 (d2) ?_|refine zp 1 (d3) ?_|intro b0 hb)|((first|with_reducible refine zm ?_|guard_hyp hK);refine zY ?_ ?_;all_goals(intro hb;(try simp only [sn,sb] at hb);try exact ex0)))
    exact⟨(r9,vs,ps ++ [e9],(vv,nv),(vp+1,np+1),k),⟨l3.opn.trans (hav.2.2.trans q1),l4,q3,by dsimp only;rw [List.length_append,List.length_singleton];omega,by dsimp only;rw [List.length_append,List.length_singleton];omega,by dsimp only;omega,q7,by dsimp only;omega,by dsimp only;omega⟩,Nat.lt_succ_self _,lf_of0 ⟨Lc.same _ rfl,Lc.same _ rfl,Lc.same _ rfl,trivial⟩ ⟨agg_same rfl rfl,lfOb_same rfl (pr_flat _ _ _),lfOb_one rfl (lv_agg ⟨Lc.same _ trivial,lc_ro,Lc.same _ rfl,Lc.same _ rfl,trivial⟩),lfOb_same rfl (vVs_flat _),lfOb_app (F:=vPrb) (l:=ps) (a:=e9) rfl q4 rfl (fun x _=>vPrb_flat x) (vPrb_flat _).lv,trivial⟩⟩
   |false=>
    rw [hB,if_neg Bool.false_ne_true] at q7
    rw [hB] at d2
    rw [← q7]
    dsimp only
    have d3:=pDone_ok τ.settle
    unfold pO at d1 d2 d3
    rw [hb] at d1
    generalize PS.fin τ.settle=s9 at *
    cases hb9:s9.bad with
    |some f=>
     rw [hb9] at d3
     repeat'(first|(with_reducible first|(refine zz ?_;try intro K hK)|refine zI ?_|refine zt ?_|refine zf ?_)|((first|refine hK _ ?_|refine hK _ _ rfl ?_);clear hK K)|(guard_hyp hK;first|(refine zY ?zz ?_;case zz=>first|exact rfl|exact gJ)|refine fresh_n ?_|refine freshO_n ?_|refine zW ?_|refine zp 1 (d1) ?_|refine zp 1 (d2) ?_|refine zp 1 (d3) ?_|intro b0 hb)|((first|with_reducible refine zm ?_|guard_hyp hK);refine zY ?_ ?_;all_goals(intro hb;(try simp only [sn,sb] at hb);try exact ex0)))
     exact ret_cf (l2:=[.con (.string .empty),.emp,.emp,.emp]) (t1:=tFil ⟨eS,[],[],[]⟩) (t2:=tFe (some f)) rfl tk27 rfl (Nat.zero_lt_succ _) rfl rfl (fz_agg4 (.con _) .emp .emp .emp) (Fz1.ro _ _ fun h=>Bool.noConfusion h)
    |none=>
     rw [hb9] at d3
     repeat'(first|(with_reducible first|(refine zz ?_;try intro K hK)|refine zI ?_|refine zt ?_|refine zf ?_)|((first|refine hK _ ?_|refine hK _ _ rfl ?_);clear hK K)|(guard_hyp hK;first|(refine zY ?zz ?_;case zz=>first|exact rfl|exact gJ)|refine fresh_n ?_|refine freshO_n ?_|refine zW ?_|refine zp 1 (d1) ?_|refine zp 1 (d2) ?_|refine zp 1 (d3) ?_|intro b0 hb)|((first|with_reducible refine zm ?_|guard_hyp hK);refine zY ?_ ?_;all_goals(intro hb;(try simp only [sn,sb] at hb);try exact ex0)))
     exact ret_cf (l2:=[.con (.string r2.1),.ro false (tSs r4.1),.own 4 vv 0 nv,.own 5 vp 0 np]) (t1:=tFil ⟨r2.1,r4.1,vs,ps⟩) (t2:=tFe none) rfl tk27 rfl (Nat.zero_lt_succ _) rfl rfl (fz_agg4 (.con _) (.ro _ _ fun h=>Bool.noConfusion h) (fz_list rfl q3.symm fze_Var) (fz_list rfl q4.symm fze_Prb)) (Fz1.con _)
open PS (Trm)
def bA (l:List UInt8):ByteArray:=⟨l.toArray⟩
section
variable {X : Txt}
namespace PS
end PS
end
open PS
variable (dec : ByteArray → Int × Nat)
def numS (s:ByteArray):List (List Trm)×Option Flt:=
 match(PS.numD dec (PS.begin s)).2.bad with
 |some f=>([],some f)
 |none=>((PS.numD dec (PS.begin s)).1,none)
end Go.Ev
namespace Go.Proofs
open Go.RowKit Go.Ev
theorem clip_calls (a:Option Addr)(n cap:Nat)(hc:n≤cap)(hm:cap≤maxLen)(w:World) :
  Calls Tryz.prog 22 #[.slice a n cap] w fun e w'=>e=.returned (.slice a n n)∧w'=w:=by
 have hu:Tryz.prog.underlying 32=some (.slice 43):=by kernel_rfl
 go_enter Tryz.func22,Tryz.ntmps22
 go_wp2
 go_ret
 exact⟨rfl,rfl⟩
end Go.Proofs
namespace Go.Ev
open Go.Proofs
open PS (Trm)
theorem rdT_clip {S:Sto}{l:List T}{a:Option Addr}{n cap:Nat}(h:RdT S (.sl l) (.slice a n cap))(hn:n=l.length):RdT S (.sl l) (.slice a n n):=by
 subst hn
 obtain⟨a',cap',esz,b,off,c,e,hc,hm,ha,hz,hs,h1,hr⟩:=rdT_sl h
 injection e with e1 e2 e3
 subst e1
 exact .sl _ a l.length esz b off c (Nat.le_refl _) (Nat.le_trans hc hm) ha hz hs h1 hr
theorem clip_ok (l:List (List Trm)):Ok Tryz.prog 22 [tRw l] false (tRw l):=by
 refine⟨⟨_,Tryz.func22,rfl,rfl⟩,fun S w args hS hgl hargs=>?_⟩
 obtain⟨hz,hr⟩:=hargs
 obtain⟨x,rfl⟩:∃x,args=#[x]:=Array.size_eq_one_iff.1 hz
 have hx:RdT S (tRw l) x:=hr 0 _ x rfl rfl
 have hx':=hx
 obtain⟨a,cap,esz,b,off,c,rfl,hc,hm,-⟩:=rdT_sl hx
 refine(clip_calls a _ cap hc hm w).mono fun e w' he=>?_
 obtain⟨rfl,rfl⟩:=he
 exact⟨_,fun _ _=>none,rfl,RowKit.Below.refl _ _,(fun _ _ _ hc=>by cases hc),RdT.mono (fun b o c h=>by simp [Sto.pick,Sto.un,h]) (rdT_clip hx' rfl)⟩
open PS (Trm EntD VarD PrbD FilD)
theorem ret_tt {P:Program}{fn:Func}{f:Bool}{s:St}{a c:Nat}{t1 t2:T}(hr:fn.results.toList=[.tmp a,.tmp c])(h1:FzA s.oh f (eget s.env a) t1)(h2:FzA s.oh f (eget s.env c) t2) :
  RetOK P fn f (.tup [t1,t2]) .ret s:=by
 refine⟨trivial,?_⟩
 rw [hr]
 exact⟨_,_,rfl,h1,h2⟩
theorem pNum_ok {dec:ByteArray→Int×Nat}(s:ByteArray)(hF:Fit (txt s))(hS:UnOK Tryz.prog 21 65 (PS.sum (X:=txt s) (PS.un dec 65)))
  (c0:OkO Tryz.prog 12 [tS9 s] (pO (PS.begin s)) (.ref 0 0 0 0)) :
  Ok Tryz.prog 7 [tS9 s] false (.tup [tRw (numS dec s).1,tFe (numS dec s).2]):=by
 have ho:(PS.begin s).opn=0:=rfl
 have ha:(PS.begin s).at_≤(txt s).L.length:=Nat.zero_le _
 have hb0:(PS.begin s).bad=none:=rfl
 have c1:=pRow_ok hF hS (PS.begin s) ho ha
 have hr:PS.rowQ dec (PS.begin s)=PS.row dec (PS.begin s):=PS.rowQ_eq dec hb0
 rw [hr] at c1
 have d3:=pDone_ok (PS.row dec (PS.begin s)).2
 unfold numS PS.numD
 generalize PS.row dec (PS.begin s)=r at *
 generalize PS.begin s=σ at *
 generalize txt s=W at *
 unfold pO at *
 refine ok_of_ev hC0 mix Tryz.func7 rfl rfl (by kernel_rfl) (zO rfl) ?_
 repeat'(first|(refine seq_k (a:=Code.region 1 _ _) Unit (fun _=>⟨Tryz.f7.ntmps,[(4,.ref 0 0 0 0)],[(0,prO W σ.at_ σ.bad σ.opn)]⟩) (fun _=>True) ?_ ?_)|(with_reducible first|(refine zz ?_;try intro K hK)|refine zI ?_|refine zt ?_|refine zf ?_)|((first|refine hK _ ?_|refine hK _ _ rfl ?_);clear hK K)|(guard_hyp hK;first|(refine zY ?zz ?_;case zz=>first|exact rfl|exact gJ)|refine fresh_n ?_|refine freshO_n ?_|refine zW ?_|intro b0 hb)|((first|with_reducible refine zm ?_|guard_hyp hK);refine zY ?_ ?_;all_goals(intro hb;(try simp only [sn,sb] at hb);try exact ex0)))
 rotate_left
 ·intro R hR
  repeat'(first|(with_reducible first|(refine zz ?_;try intro K hK)|refine zI ?_|refine zt ?_|refine zf ?_)|((first|refine hK _ ?_|refine hK _ _ rfl ?_);clear hK K)|(guard_hyp hK;first|(refine zY ?zz ?_;case zz=>first|exact rfl|exact gJ)|refine fresh_n ?_|refine freshO_n ?_|refine zW ?_|(refine Or.inr (Exists.intro _ (Exists.intro _ (And.intro (c0) ?_))))|intro b0 hb)|((first|with_reducible refine zm ?_|guard_hyp hK);refine zY ?_ ?_;all_goals(intro hb;(try simp only [sn,sb] at hb);try exact ex0)))
  exact hR _ () trivial (lf_of0 ⟨Lc.same _ rfl,trivial⟩ ⟨lfOb_same ((show oget _ 0=some ((prO W σ.at_ σ.bad σ.opn).sh 0) from rfl).trans (congrArg some (pr_sh _ _ _ _))) (pr_flat _ _ _),trivial⟩)
 rintro - -
 repeat'(first|(refine seq_k (a:=Code.region 2 _ _) Unit (fun _=>⟨Tryz.f7.ntmps,[(4,.ref 0 0 0 0),(5,.ro false (tRw r.1))],[(0,prO W r.2.at_ r.2.bad r.2.opn)]⟩) (fun _=>True) ?_ ?_)|(with_reducible first|(refine zz ?_;try intro K hK)|refine zI ?_|refine zt ?_|refine zf ?_)|((first|refine hK _ ?_|refine hK _ _ rfl ?_);clear hK K)|(guard_hyp hK;first|(refine zY ?zz ?_;case zz=>first|exact rfl|exact gJ)|refine fresh_n ?_|refine freshO_n ?_|refine zW ?_|intro b0 hb)|((first|with_reducible refine zm ?_|guard_hyp hK);refine zY ?_ ?_;all_goals(intro hb;(try simp only [sn,sb] at hb);try exact ex0)))
 rotate_left
 ·intro R hR
  repeat'(first|(with_reducible first|(refine zz ?_;try intro K hK)|refine zI ?_|refine zt ?_|refine zf ?_)|((first|refine hK _ ?_|refine hK _ _ rfl ?_);clear hK K)|(guard_hyp hK;first|(refine zY ?zz ?_;case zz=>first|exact rfl|exact gJ)|refine fresh_n ?_|refine freshO_n ?_|refine zW ?_|refine zp 0 (c1) ?_|intro b0 hb)|((first|with_reducible refine zm ?_|guard_hyp hK);refine zY ?_ ?_;all_goals(intro hb;(try simp only [sn,sb] at hb);try exact ex0)))
  exact hR _ () trivial (lf_of0 ⟨Lc.same _ rfl,lc_ro,trivial⟩ ⟨lfOb_same rfl (pr_flat _ _ _),trivial⟩)
 rintro - -
 have k1:=clip_ok r.1
 cases hb:r.2.fin.bad with
 |some f=>
  rw [hb] at d3
  repeat'(first|(with_reducible first|(refine zz ?_;try intro K hK)|refine zI ?_|refine zt ?_|refine zf ?_)|((first|refine hK _ ?_|refine hK _ _ rfl ?_);clear hK K)|(guard_hyp hK;first|(refine zY ?zz ?_;case zz=>first|exact rfl|exact gJ)|refine fresh_n ?_|refine freshO_n ?_|refine zW ?_|refine zp 0 (d3) ?_|intro b0 hb)|((first|with_reducible refine zm ?_|guard_hyp hK);refine zY ?_ ?_;all_goals(intro hb;(try simp only [sn,sb] at hb);try exact ex0)))
  exact ret_tt (t1:=tRw []) (t2:=tFe (some f)) rfl (fz_emp rfl) (Fz1.ro _ _ fun h=>Bool.noConfusion h)
 |none=>
  rw [hb] at d3
  repeat'(first|(with_reducible first|(refine zz ?_;try intro K hK)|refine zI ?_|refine zt ?_|refine zf ?_)|((first|refine hK _ ?_|refine hK _ _ rfl ?_);clear hK K)|(guard_hyp hK;first|(refine zY ?zz ?_;case zz=>first|exact rfl|exact gJ)|refine fresh_n ?_|refine freshO_n ?_|refine zW ?_|refine zp 0 (d3) ?_|(refine zQ (k1) ?_)|intro b0 hb)|((first|with_reducible refine zm ?_|guard_hyp hK);refine zY ?_ ?_;all_goals(intro hb;(try simp only [sn,sb] at hb);try exact ex0)))
  exact ret_tt (t1:=tRw r.1) (t2:=tFe none) rfl (Fz1.ro _ _ fun h=>Bool.noConfusion h) (Fz1.con _)
open PS (Trm FilD)
def quoG : Nat→ByteArray→Nat→ByteArray→Nat×ByteArray×Bool
 |0,_,_,_=>(0,⟨#[]⟩,false)
 |n+1,s,i,out=>
  if i < s.size then
   if(chr s i).toNat=34 then(i+1,out,true)
   else if(chr s i).toNat=10 then(0,⟨#[]⟩,false)
   else if(chr s i).toNat=92 then
    if(chr s (i+1)).toNat≠34∧(chr s (i+1)).toNat≠92 then(0,⟨#[]⟩,false)
    else quoG n s (i+2) (out ++ sub s (i+1) 1)
   else quoG n s (i+1) (out ++ sub s i 1)
  else(0,⟨#[]⟩,false)
theorem quoG_eq : ∀(n:Nat) (s:ByteArray) (i:Nat) (out:ByteArray),s.size - i < n→quoG n s i out=quoF s i out
 |0,_,_,_,h=>absurd h (Nat.not_lt_zero _)
 |n+1,s,i,out,h=>by
  rw [quoG,quoF]
  by_cases hi:i < s.size
  ·rw [if_pos hi,dif_pos hi,quoG_eq n s (i+2) _ (by omega),quoG_eq n s (i+1) _ (by omega)]
  ·rw [if_neg hi,dif_neg hi]
def takeG (s:ByteArray):TkR:=
 if skipF s < 0 then⟨0,0,eS,21,⟨#[47,42]⟩⟩
 else if 0 < skipF s then⟨(skipF s).toNat,0,eS,0,eS⟩
 else if isLet (chr s 0)=true then(if 64 < runF isWrd s 0 then⟨0,0,eS,20,s.extract 0 (runF isWrd s 0)⟩ else⟨runF isWrd s 0,1,s.extract 0 (runF isWrd s 0),0,eS⟩)
 else if isDig (chr s 0)=true then
  (if numB s=true∨isLet (chr s (numF s))=true then⟨0,0,eS,22,s.extract 0 (numF s+runF isWrd s (numF s))⟩ else⟨numF s,2,s.extract 0 (numF s),0,eS⟩)
 else if(chr s 0).toNat=34 then(if(quoG (s.size+1) s 1 ⟨#[]⟩).2.2=true then⟨(quoG (s.size+1) s 1 ⟨#[]⟩).1,3,(quoG (s.size+1) s 1 ⟨#[]⟩).2.1,0,eS⟩ else⟨0,0,eS,21,⟨#[34]⟩⟩)
 else if isSgn (chr s 0)=true then⟨1,4,s.extract 0 1,0,eS⟩
 else⟨0,0,eS,20,s.extract 0 1⟩
theorem takeG_eq (s:ByteArray):takeG s=takeF s:=by
 unfold takeG takeF
 rw [quoG_eq _ _ _ _ (by omega)]
def allG : Nat → ByteArray → Nat → List Tok × Option Flt
  | 0, _, _ => ([], none)
  | n + 1, s, i =>
    if i < s.size then
      (fun (r : TkR) =>
      if r.code ≠ 0 then ([], some ⟨r.code, (placeF s i).1, (placeF s i).2, r.word⟩)
      else if 0 < r.n then
        (if r.kind ≠ 0 then (⟨r.kind, r.text, (placeF s i).1, (placeF s i).2⟩ :: (allG n s (i + r.n)).1, (allG n s (i + r.n)).2)
         else allG n s (i + r.n))
      else ([], none)) (takeG (s.extract i s.size))
    else ([⟨0, eS, (placeF s s.size).1, (placeF s s.size).2⟩], none)
theorem allG_eq : ∀(n:Nat) (s:ByteArray) (i:Nat),s.size - i < n→allG n s i=allF s i
 |0,_,_,h=>absurd h (Nat.not_lt_zero _)
 |n+1,s,i,h=>by
  rw [allG,allF,takeG_eq]
  by_cases hi:i < s.size
  ·rw [if_pos hi,dif_pos hi]
   generalize takeF (s.extract i s.size)=r
   dsimp only
   split
   ·rfl
   ·by_cases hn:0 < r.n
    ·rw [if_pos hn,dif_pos hn,allG_eq n s (i+r.n) (by omega)]
    ·rw [if_neg hn,dif_neg hn]
  ·rw [if_neg hi,dif_neg hi]
theorem txt_of {s:ByteArray}{X:Txt}(h:allF s 0=(X.L,X.late)):txt s=X:=by
 obtain⟨L,o,h1,h2⟩:=X
 unfold txt
 congr 1
 ·rw [h]
 ·rw [h]
def PS.bgn (X:Txt):PS X:=⟨0,none,0,fun h=>by
 obtain⟨l,t,e,-⟩:=X.fine h
 rw [e,List.length_append];exact Nat.succ_pos _,fun _ h=>by cases h⟩
def numX (dec:ByteArray→Int×Nat)(X:Txt):List (List Trm)×Option Flt:=
 match(PS.numD dec (PS.bgn X)).2.bad with
 |some f=>([],some f)
 |none=>((PS.numD dec (PS.bgn X)).1,none)
def fileX (dec:ByteArray→Int×Nat)(X:Txt):FilD×Option Flt:=
 match(PS.filD dec natP (PS.bgn X)).2.bad with
 |some f=>(⟨eS,[],[],[]⟩,some f)
 |none=>((PS.filD dec natP (PS.bgn X)).1,none)
theorem numS_X (dec:ByteArray→Int×Nat){s:ByteArray}{X:Txt}(h:txt s=X):numS dec s=numX dec X:=by subst h;rfl
theorem fileS_X (dec:ByteArray→Int×Nat){s:ByteArray}{X:Txt}(h:txt s=X):fileS dec s=fileX dec X:=by subst h;rfl
def alA : ByteArray:=⟨#[49,32,45,32,50,32,42,32,45,51]⟩
def alB : ByteArray:=⟨#[110,101,116,119,111,114,107,32,110,32,123,32,112,114,111,112,101,114,116,121,32,34,97,34,59,32,125]⟩
def alC : ByteArray:=⟨#[110,101,116,119,111,114,107]⟩
def alAL : List Tok:=[⟨2,⟨#[49]⟩,1,1⟩,⟨4,⟨#[45]⟩,1,3⟩,⟨2,⟨#[50]⟩,1,5⟩,⟨4,⟨#[42]⟩,1,7⟩,⟨4,⟨#[45]⟩,1,9⟩,⟨2,⟨#[51]⟩,1,10⟩,⟨0,eS,1,11⟩]
def alBL : List Tok:=[⟨1,PS.kNet,1,1⟩,⟨1,⟨#[110]⟩,1,9⟩,⟨4,PS.kLC,1,11⟩,⟨1,PS.kProp,1,13⟩,⟨3,⟨#[97]⟩,1,22⟩,⟨4,PS.kSemi,1,25⟩,⟨4,PS.kRC,1,27⟩,⟨0,eS,1,28⟩]
def alCL : List Tok:=[⟨1,PS.kNet,1,1⟩,⟨0,eS,1,8⟩]
def alX (L:List Tok)(l:List Tok)(t:Tok)(h:L=l ++ [t])(hk:t.kind=0):Txt:=⟨L,none,fun _=>⟨l,t,h,hk⟩,fun _ h=>by cases h⟩
def xA : Txt:=alX alAL (alAL.take 6) ⟨0,eS,1,11⟩ rfl rfl
def xB : Txt:=alX alBL (alBL.take 7) ⟨0,eS,1,28⟩ rfl rfl
def xC : Txt:=alX alCL (alCL.take 1) ⟨0,eS,1,8⟩ rfl rfl
theorem gA : allG 11 alA 0=(alAL,none):=by kernel_rfl
theorem gB : allG 28 alB 0=(alBL,none):=by kernel_rfl
theorem gC : allG 8 alC 0=(alCL,none):=by kernel_rfl
theorem axA : txt alA=xA:=txt_of ((allG_eq 11 alA 0 (by decide)).symm.trans gA)
theorem axB : txt alB=xB:=txt_of ((allG_eq 28 alB 0 (by decide)).symm.trans gB)
theorem axC : txt alC=xC:=txt_of ((allG_eq 8 alC 0 (by decide)).symm.trans gC)
theorem nsA : numS decQ alA=([[⟨1,1,1⟩,⟨1,2,1⟩,⟨1,3,1⟩,⟨6,0,0⟩,⟨4,0,0⟩,⟨3,0,0⟩]],none):=by
 rw [numS_X decQ axA]
 kernel_rfl
theorem nsB : fileS decQ alB=(⟨⟨#[110]⟩,[⟨#[97]⟩],[],[]⟩,none):=by
 rw [fileS_X decQ axB]
 kernel_rfl
theorem nsC : fileS decQ alC=(⟨eS,[],[],[]⟩,some ⟨30,1,8,eS⟩):=by
 rw [fileS_X decQ axC]
 kernel_rfl
theorem lm_small {n:Nat}(h0:0 < n)(h:n < 4294967296):lm n=[UInt32.ofNat n]:=by
 rw [lm,if_neg (by omega),Nat.div_eq_of_lt h,lm,if_pos rfl]
theorem fz_agg4' {oh:OH}{f:Bool}{v1 v2 v3 v4:V}{t1 t2 t3 t4:T}(h1:Fz1 oh f v1 t1)(h2:Fz1 oh f v2 t2)(h3:Fz1 oh f v3 t3)(h4:Fz1 oh f v4 t4):FzA oh f (.agg [v1,v2,v3,v4]) (.agg [t1,t2,t3,t4]):=by
 refine⟨rfl,fun j v t e1 e2=>?_⟩
 match j with
 |0=>simp at e1 e2;subst e1;subst e2;exact h1
 |1=>simp at e1 e2;subst e1;subst e2;exact h2
 |2=>simp at e1 e2;subst e1;subst e2;exact h3
 |3=>simp at e1 e2;subst e1;subst e2;exact h4
 |j+4=>simp at e1
theorem numb_ok (n:Nat)(h0:0 < n)(h:n < 4294967296):Ok Tryz.prog 10 [.con (.int .u32 n)] false (tT ⟨1,n,1⟩):=by
 refine ok_of_ev hC0 mix Tryz.func10 rfl rfl (by kernel_rfl) (zO rfl) ?_
 repeat'(first|(with_reducible first|(refine zz ?_;try intro K hK)|refine zI ?_|refine zt ?_|refine zf ?_)|((first|refine hK _ ?_|refine hK _ _ rfl ?_);clear hK K)|(guard_hyp hK;first|(refine zY ?zz ?_;case zz=>first|exact rfl|exact gJ)|refine fresh_n ?_|refine freshO_n ?_|refine zW ?_|intro b0 hb)|((first|with_reducible refine zm ?_|guard_hyp hK);refine zY ?_ ?_;all_goals(intro hb;(try simp only [sn,sb] at hb);try exact ex0)))
 ·have e1:tn (lm n)=.sl ([UInt32.ofNat n].map tu32):=by rw [lm_small h0 h];rfl
  have e2:tn (lm 1)=.sl ([(1:UInt32)].map tu32):=by rw [lm_small (by decide) (by decide)];rfl
  have e3:(UInt32.ofNat n).toNat=n:=by rw [UInt32.toNat_ofNat'];omega
  have e4:tT ⟨1,n,1⟩=.agg [.con (.int .i8 1),.con (.bool false),.sl ([UInt32.ofNat n].map tu32),.sl ([(1:UInt32)].map tu32)]:=by
   rw [← e1,← e2]
   unfold tT
   rw [decide_eq_false (by simp only;omega)];rfl
  rw [e4]
  refine ret_cell (l:=[.con (.int .i8 1),.con (.bool false),.own 2 0 0 1,.own 3 0 0 1]) rfl tk52 rfl (Nat.zero_lt_succ _) rfl rfl (fz_agg4' (.con _) (.con _) ?_ ?_)
  ·exact fz_own (F:=fun u=>.con (.int .u32 u.toNat)) (G:=tu32) (l:=[UInt32.ofNat n]) (o:=⟨1,[.con (.int .u32 n)],0,true⟩) rfl rfl rfl rfl (by rw [List.map_singleton,e3];rfl) (fun a _=>fze_con _) rfl
  ·exact fz_own (F:=fun u=>.con (.int .u32 u.toNat)) (G:=tu32) (l:=[(1:UInt32)]) (o:=⟨1,[.con (.int .u32 1)],0,true⟩) rfl rfl rfl rfl rfl (fun a _=>fze_con _) rfl
end Go.Ev
