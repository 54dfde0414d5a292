import Derived.Test.YtppbdmkbhalmpaaGreatDoorLal
import Derived.Test.YtppbdmkbhalmpaaGreatDoorLam
set_option linter.all false
set_option maxHeartbeats 4000000
set_option maxRecDepth 10000
namespace Go.Ev
open Go.Proofs
variable {W : Txt}
theorem count_no {σ:PS W}{t:Tok}(ht:σ.tok=some t)(h:t.kind≠2∨natP t.text=none):PS.count natP σ=(0,σ.wrong 30):=by
 unfold PS.count
 rw [ht]
 cases hn:natP t.text with
 |none=>simp only [hn]
 |some n=>
  simp only [hn]
  refine if_neg fun hk=>?_
  rw [hn] at h
  exact h.elim (fun h=>h hk) (fun h=>by cases h)
theorem pCount_ok (σ:PS W)(hF:Fit W):OkG Tryz.prog 29 (pO σ) [] [.ref 0 0 0 0] (pO (PS.count natP σ).2) (.ro false (tn (lm (PS.count natP σ).1))):=by
 have hlk:=pNow_ok σ
 have hfl:=pWrong_ok σ.settle 30 (by decide)
 rw [settle_wrong] at hfl
 have hL:=hF.len
 cases ht:σ.tok with
 |none=>
  rw [wrong_none ht] at hfl
  rw [ht] at hlk
  rw [show PS.count natP σ=(0,σ.settle) from by unfold PS.count;rw [ht]]
  have hp:=nParse_ok eS (Nat.zero_le _)
  rw [show natP eS=none from rfl] at hp
  unfold pO at hlk hfl ⊢
  refine okp_of_ev hC0 mix 1 (zO rfl) Tryz.func29 rfl rfl (by kernel_rfl) (by kernel_rfl) (zO rfl) ?vs ?_
  case vs=>exact fl0
  repeat'(first|(with_reducible first|(refine zz ?_;try intro K hK)|refine zI ?_|refine zt ?_|refine zf ?_)|((first|refine hK _ ?_|refine hK _ _ rfl ?_);clear hK K)|(guard_hyp hK;first|(refine zY ?zz ?_;case zz=>first|exact rfl|exact gJ)|refine fresh_n ?_|refine freshO_n ?_|refine zW ?_|(refine zQ (hp) ?_)|refine zp 0 (hlk) ?_|refine zp 0 (hfl) ?_|intro b0 hb)|((first|with_reducible refine zm ?_|guard_hyp hK);refine zY ?_ ?_;all_goals(intro hb;(try simp only [sn,sb] at hb);try exact ex0)))
  all_goals exact pr_retF (r:=tn (lm 0)) rfl (by decide) rfl (fd_of lmz Fd1.emp) (by decide) rfl
 |some t=>
  have hlt:=(PS.tok_at ht).2.2
  have hp:=nParse_ok t.text (hF.tok ht)
  rw [ht,PS.settle_some ht] at hlk
  rw [PS.settle_some ht] at hfl
  cases hn:natP t.text with
  |none=>
   rw [count_no ht (.inr hn)]
   rw [hn] at hp
   unfold pO at hlk hfl ⊢
   refine okp_of_ev hC0 mix 1 (zO rfl) Tryz.func29 rfl rfl (by kernel_rfl) (by kernel_rfl) (zO rfl) ?vs ?_
   case vs=>exact fl0
   repeat'(first|(with_reducible first|(refine zz ?_;try intro K hK)|refine zI ?_|refine zt ?_|refine zf ?_)|((first|refine hK _ ?_|refine hK _ _ rfl ?_);clear hK K)|(guard_hyp hK;first|(refine zY ?zz ?_;case zz=>first|exact rfl|exact gJ)|refine fresh_n ?_|refine freshO_n ?_|refine zW ?_|(refine zQ (hp) ?_)|refine zp 0 (hlk) ?_|refine zp 0 (hfl) ?_|intro b0 hb)|((first|with_reducible refine zm ?_|guard_hyp hK);refine zY ?_ ?_;all_goals(intro hb;(try simp only [sn,sb] at hb);try exact ex0)))
   all_goals exact pr_retF (r:=tn (lm 0)) rfl (by decide) rfl (fd_of lmz Fd1.emp) (by decide) rfl
  |some n=>
   rw [hn] at hp
   by_cases hk:t.kind=2
   ·rw [show PS.count natP σ=(n,σ.adv) from by unfold PS.count;rw [ht];simp only [hn];exact if_pos hk,pO_adv ht (by rw [hk];decide)]
    rw [pO_some ht] at hlk ⊢
    refine okp_of_ev hC0 mix 1 (zO rfl) Tryz.func29 rfl rfl (by kernel_rfl) (by kernel_rfl) (zO rfl) ?vs ?_
    case vs=>exact fl0
    repeat'(first|(with_reducible first|(refine zz ?_;try intro K hK)|refine zI ?_|refine zt ?_|refine zf ?_)|((first|refine hK _ ?_|refine hK _ _ rfl ?_);clear hK K)|(guard_hyp hK;first|(refine zY ?zz ?_;case zz=>first|exact rfl|exact gJ)|refine fresh_n ?_|refine freshO_n ?_|refine zW ?_|(refine zQ (hp) ?_)|refine zp 0 (hlk) ?_|intro b0 hb)|((first|with_reducible refine zm ?_|guard_hyp hK);refine zY ?_ ?_;all_goals(intro hb;(try simp only [sn,sb] at hb);try exact ex0)))
    all_goals exact pr_retF (r:=tn (lm n)) rfl (by decide) rfl (Fd1.ro _ _ fun h=>Bool.noConfusion h) (by decide) rfl
   ·rw [count_no ht (.inl hk)]
    unfold pO at hlk hfl ⊢
    refine okp_of_ev hC0 mix 1 (zO rfl) Tryz.func29 rfl rfl (by kernel_rfl) (by kernel_rfl) (zO rfl) ?vs ?_
    case vs=>exact fl0
    repeat'(first|(with_reducible first|(refine zz ?_;try intro K hK)|refine zI ?_|refine zt ?_|refine zf ?_)|((first|refine hK _ ?_|refine hK _ _ rfl ?_);clear hK K)|(guard_hyp hK;first|(refine zY ?zz ?_;case zz=>first|exact rfl|exact gJ)|refine fresh_n ?_|refine freshO_n ?_|refine zW ?_|(refine zQ (hp) ?_)|refine zp 0 (hlk) ?_|refine zp 0 (hfl) ?_|intro b0 hb)|((first|with_reducible refine zm ?_|guard_hyp hK);refine zY ?_ ?_;all_goals(intro hb;(try simp only [sn,sb] at hb);try exact ex0)))
    all_goals exact pr_retF (r:=tn (lm 0)) rfl (by decide) rfl (fd_of lmz Fd1.emp) (by decide) rfl
theorem pr_retv {P:Program}{fn:Func}{s:St}{vs:List V}{a a':Nat}{b b':Option Flt}{n n' np t ty id ver sz:Nat}{l:List V}{fs:List (Nat×Nat)}{z:List Value}(hr:fn.results.toList=[.cell t ty])(ht:tk P ty=.st fs z)(hz:z.length=l.length)(h0:0 < l.length)
  (ha:eget s.env t=.ref id ver 0 0) (ho:oget s.oh id=some ⟨sz,[.agg l],ver,true⟩) (hd:∀v ∈ l,v.dat1) (hs:oget s.oh 0=some (prO W a' b' n')) (hnp:0 < np) (he:eget s.env 0=.ref 0 0 0 0) :
  RetG P fn np (prQ W a b n) (.ref 0 0 0 0 :: vs) (prQ W a' b' n') (.agg l) .ret s:=by
 refine⟨trivial,false,s,rfl,pr_pin hs hnp he,pr_bm hs,?_⟩
 rw [hr]
 exact resc ht hz h0 ha ho (bm_aggD hd)
structure Kin (W:Txt):Prop where
 var:KindOK W (1,PS.kVar)
 prob:KindOK W (1,PS.kProb)
 net:KindOK W (1,PS.kNet)
 type:KindOK W (1,PS.kType)
 disc:KindOK W (1,PS.kDisc)
 lc:KindOK W (4,PS.kLC)
 rc:KindOK W (4,PS.kRC)
 lk:KindOK W (4,PS.kLK)
 rk:KindOK W (4,PS.kRK)
 semi:KindOK W (4,PS.kSemi)
 open_:KindOK W (4,PS.kOpen)
 shut:KindOK W (4,PS.kShut)
theorem kn : ∀p ∈ ([]:List (Int×ByteArray)),KindOK W p:=fun p h=>by cases h
theorem kc {p:Int×ByteArray}{l:List (Int×ByteArray)}(h:KindOK W p)(hl:∀p ∈ l,KindOK W p):∀q ∈ p :: l,KindOK W q:=by
 intro q hq
 rcases List.mem_cons.1 hq with rfl|hq
 ·exact h
 ·exact hl q hq
def stVr (N sz:Nat)(z:List V)(σ:PS W)(l:List V):St:=⟨N,[(0,.ref 0 0 0 0),(2,.ref 1 0 0 0),(3,.ref 2 0 0 0)],[(0,prO W σ.at_ σ.bad σ.opn),(1,⟨sz,[.agg z],0,true⟩),(2,⟨sz,[.agg l],0,true⟩)]⟩
def V.flatB : V→Bool
 |.con _ | .ro .. | .emp=>true
 |_=>false
theorem agg_cl {l:List V}(h:l.all V.flatB=true)(oh:OH):∀v ∈ [V.agg l],v.cl oh:=by
 intro v hv
 obtain rfl:=List.mem_singleton.1 hv
 refine V.flat.cl (v:=.agg l) oh fun v hv=>?_
 have:=List.all_eq_true.1 h v hv
 cases v<;>first|trivial|exact absurd this Bool.false_ne_true
theorem pVar_ok (σ0:PS W)(hF:Fit W)(hk:Kin W)(ha:σ0.at_≤W.L.length)(hB:σ0.isB 1 PS.kVar=true):OkG Tryz.prog 17 (pO σ0) [] [.ref 0 0 0 0] (pO (PS.varD natP σ0.adv).2) (vVar (PS.varQ natP σ0.adv).1):=by
 have hL:=hF.len
 have k0:=pNeed_ok [(1,PS.kVar)] σ0 hL (by decide) (by decide) (kc hk.var kn)
 have e0:PS.needL [(1,PS.kVar)] σ0=σ0.adv:=if_pos hB
 rw [e0] at k0
 have ha1:=(PS.adv_fol1 hB (by decide)).hi ha
 generalize σ0.adv=σ at *
 have ha2:=(PS.var2_fol natP σ).hi ha1
 have k1:=pName_ok σ hL
 generalize h1:PS.take 1 σ=r1 at k1
 have k2:=pNeed_ok [(4,PS.kLC),(1,PS.kType),(1,PS.kDisc),(4,PS.kLK)] r1.2 hL (by decide) (by decide) (kc hk.lc (kc hk.type (kc hk.disc (kc hk.lk kn))))
 have e5:PS.var1 σ=PS.needL [(4,PS.kLC),(1,PS.kType),(1,PS.kDisc),(4,PS.kLK)] r1.2:=by unfold PS.var1;rw [h1];rfl
 rw [← e5] at k2
 generalize h5:PS.var1 σ=s5 at k2
 have k6:=pCount_ok s5 hF
 generalize h6:PS.count natP s5=r6 at k6
 have k7:=pNeed_ok [(4,PS.kRK),(4,PS.kLC)] r6.2 hL (by decide) (by decide) (kc hk.rk (kc hk.lc kn))
 have e8:PS.var2 natP σ=PS.needL [(4,PS.kRK),(4,PS.kLC)] r6.2:=by unfold PS.var2;rw [h5,h6];rfl
 rw [← e8] at k7
 generalize h8:PS.var2 natP σ=s8 at *
 have k9:=pNames_ok s8 hL ha2
 generalize h9:PS.namesQ s8=r9 at k9
 have k10:=pNeed_ok [(4,PS.kRC),(4,PS.kSemi)] r9.2 hL (by decide) (by decide) (kc hk.rc (kc hk.semi kn))
 have e11:PS.var3 natP σ=PS.needL [(4,PS.kRC),(4,PS.kSemi)] r9.2:=by unfold PS.var3;rw [h8,← PS.namesQ_st,h9];rfl
 rw [← e11] at k10
 generalize h11:PS.var3 natP σ=s11 at k10
 have k12:=pProps_ok s11 hL hk.semi
 generalize h12:PS.props s11=r12 at k12
 have k13:=pNeed_ok [(4,PS.kRC)] r12.2 hL (by decide) (by decide) (kc hk.rc kn)
 generalize h13:PS.needL [(4,PS.kRC)] r12.2=s13 at k13
 have e13:PS.varQ natP σ=(⟨r1.1,r6.1,r9.1,r12.1⟩,s13):=by
  unfold PS.varQ PS.varD
  rw [h5,h8,h11,h1,h6,h9,h12,← h13];rfl
 have e14:(PS.varD natP σ).2=s13:=by
  show(PS.varQ natP σ).2=s13
  rw [e13]
 rw [e13,e14]
 clear e13 e14 h13 h12 h11 h9 h8 h6 h5 h1 e11 e8 e5 e0 ha2
 unfold pO at *
 refine okp_of_ev hC0 mix 1 (zO rfl) Tryz.func17 rfl rfl (by kernel_rfl) (by kernel_rfl) (zO rfl) ?vs ?_
 case vs=>exact fl0
 repeat'(first|(refine seq_j (a:=Code.region 4 _ _) Unit (fun _=>stVr Tryz.f17.ntmps 4 [V.con (.string eS),V.emp,V.emp,V.emp] s5 [V.con (.string r1.1),V.emp,V.emp,V.emp]) (fun _=>True) ?_ ?_)|(with_reducible first|(refine zz ?_;try intro K hK)|refine zI ?_|refine zt ?_|refine zf ?_)|((first|refine hK _ ?_|refine hK _ _ rfl ?_);clear hK K)|(guard_hyp hK;first|(refine zY ?zz ?_;case zz=>first|exact rfl|exact gJ)|refine fresh_n ?_|refine freshO_n ?_|refine zW ?_|(refine' Or.inr (Or.inr (Or.inl (need_call ([(1,PS.kVar)]) _ _ (k0) ?hga ?hgb ?hgc ?hgd ?_)));(case hga=>rfl);(case hgb=>rfl);(case hgc=>rfl);(case hgd=>exact Nat.ne_of_lt (zO rfl)))|refine zp 0 (k1) ?_|intro b0 hb)|((first|with_reducible refine zm ?_|guard_hyp hK);refine zY ?_ ?_;all_goals(intro hb;(try simp only [sn,sb] at hb);try exact ex0)))
 rotate_left
 ·intro R hR
  repeat'(first|(with_reducible first|(refine zz ?_;try intro K hK)|refine zI ?_|refine zt ?_|refine zf ?_)|((first|refine hK _ ?_|refine hK _ _ rfl ?_);clear hK K)|(guard_hyp hK;first|(refine zY ?zz ?_;case zz=>first|exact rfl|exact gJ)|refine fresh_n ?_|refine freshO_n ?_|refine zW ?_|(refine' Or.inr (Or.inr (Or.inl (need_call ([(4,PS.kLC),(1,PS.kType),(1,PS.kDisc),(4,PS.kLK)]) _ _ (k2) ?hga ?hgb ?hgc ?hgd ?_)));(case hga=>rfl);(case hgb=>rfl);(case hgc=>rfl);(case hgd=>exact Nat.ne_of_lt (zO rfl)))|intro b0 hb)|((first|with_reducible refine zm ?_|guard_hyp hK);refine zY ?_ ?_;all_goals(intro hb;(try simp only [sn,sb] at hb);try exact ex0)))
  exact hR _ () trivial ⟨rfl,⟨rfl,rfl,rfl,rfl,rfl,rfl,trivial⟩,⟨rfl,rfl,rfl,trivial⟩,⟨pr_cl _,agg_cl rfl _,agg_cl rfl _,trivial⟩⟩
 rintro - -
 unfold stVr
 repeat'(first|(refine seq_j (a:=Code.region 6 _ _) Unit (fun _=>stVr Tryz.f17.ntmps 4 [V.con (.string eS),V.emp,V.emp,V.emp] s8 [V.con (.string r1.1),V.ro false (tn (lm r6.1)),V.emp,V.emp]) (fun _=>True) ?_ ?_)|(with_reducible first|(refine zz ?_;try intro K hK)|refine zI ?_|refine zt ?_|refine zf ?_)|((first|refine hK _ ?_|refine hK _ _ rfl ?_);clear hK K)|(guard_hyp hK;first|(refine zY ?zz ?_;case zz=>first|exact rfl|exact gJ)|refine fresh_n ?_|refine freshO_n ?_|refine zW ?_|refine zp 0 (k6) ?_|intro b0 hb)|((first|with_reducible refine zm ?_|guard_hyp hK);refine zY ?_ ?_;all_goals(intro hb;(try simp only [sn,sb] at hb);try exact ex0)))
 rotate_left
 ·intro R hR
  repeat'(first|(with_reducible first|(refine zz ?_;try intro K hK)|refine zI ?_|refine zt ?_|refine zf ?_)|((first|refine hK _ ?_|refine hK _ _ rfl ?_);clear hK K)|(guard_hyp hK;first|(refine zY ?zz ?_;case zz=>first|exact rfl|exact gJ)|refine fresh_n ?_|refine freshO_n ?_|refine zW ?_|(refine' Or.inr (Or.inr (Or.inl (need_call ([(4,PS.kRK),(4,PS.kLC)]) _ _ (k7) ?hga ?hgb ?hgc ?hgd ?_)));(case hga=>rfl);(case hgb=>rfl);(case hgc=>rfl);(case hgd=>exact Nat.ne_of_lt (zO rfl)))|intro b0 hb)|((first|with_reducible refine zm ?_|guard_hyp hK);refine zY ?_ ?_;all_goals(intro hb;(try simp only [sn,sb] at hb);try exact ex0)))
  exact hR _ () trivial ⟨rfl,⟨rfl,rfl,rfl,rfl,rfl,rfl,trivial⟩,⟨rfl,rfl,rfl,trivial⟩,⟨pr_cl _,agg_cl rfl _,agg_cl rfl _,trivial⟩⟩
 rintro - -
 unfold stVr
 repeat'(first|(refine seq_j (a:=Code.region 8 _ _) Unit (fun _=>stVr Tryz.f17.ntmps 4 [V.con (.string eS),V.emp,V.emp,V.emp] s11 [V.con (.string r1.1),V.ro false (tn (lm r6.1)),V.ro false (tSs r9.1),V.emp]) (fun _=>True) ?_ ?_)|(with_reducible first|(refine zz ?_;try intro K hK)|refine zI ?_|refine zt ?_|refine zf ?_)|((first|refine hK _ ?_|refine hK _ _ rfl ?_);clear hK K)|(guard_hyp hK;first|(refine zY ?zz ?_;case zz=>first|exact rfl|exact gJ)|refine fresh_n ?_|refine freshO_n ?_|refine zW ?_|refine zp 0 (k9) ?_|intro b0 hb)|((first|with_reducible refine zm ?_|guard_hyp hK);refine zY ?_ ?_;all_goals(intro hb;(try simp only [sn,sb] at hb);try exact ex0)))
 rotate_left
 ·intro R hR
  repeat'(first|(with_reducible first|(refine zz ?_;try intro K hK)|refine zI ?_|refine zt ?_|refine zf ?_)|((first|refine hK _ ?_|refine hK _ _ rfl ?_);clear hK K)|(guard_hyp hK;first|(refine zY ?zz ?_;case zz=>first|exact rfl|exact gJ)|refine fresh_n ?_|refine freshO_n ?_|refine zW ?_|(refine' Or.inr (Or.inr (Or.inl (need_call ([(4,PS.kRC),(4,PS.kSemi)]) _ _ (k10) ?hga ?hgb ?hgc ?hgd ?_)));(case hga=>rfl);(case hgb=>rfl);(case hgc=>rfl);(case hgd=>exact Nat.ne_of_lt (zO rfl)))|intro b0 hb)|((first|with_reducible refine zm ?_|guard_hyp hK);refine zY ?_ ?_;all_goals(intro hb;(try simp only [sn,sb] at hb);try exact ex0)))
  exact hR _ () trivial ⟨rfl,⟨rfl,rfl,rfl,rfl,rfl,rfl,trivial⟩,⟨rfl,rfl,rfl,trivial⟩,⟨pr_cl _,agg_cl rfl _,agg_cl rfl _,trivial⟩⟩
 rintro - -
 unfold stVr
 repeat'(first|(with_reducible first|(refine zz ?_;try intro K hK)|refine zI ?_|refine zt ?_|refine zf ?_)|((first|refine hK _ ?_|refine hK _ _ rfl ?_);clear hK K)|(guard_hyp hK;first|(refine zY ?zz ?_;case zz=>first|exact rfl|exact gJ)|refine fresh_n ?_|refine freshO_n ?_|refine zW ?_|refine zp 0 (k12) ?_|(refine' Or.inr (Or.inr (Or.inl (need_call ([(4,PS.kRC)]) _ _ (k13) ?hga ?hgb ?hgc ?hgd ?_)));(case hga=>rfl);(case hgb=>rfl);(case hgc=>rfl);(case hgd=>exact Nat.ne_of_lt (zO rfl)))|intro b0 hb)|((first|with_reducible refine zm ?_|guard_hyp hK);refine zY ?_ ?_;all_goals(intro hb;(try simp only [sn,sb] at hb);try exact ex0)))
 exact pr_retv (l:=[.con (.string r1.1),.ro false (tn (lm r6.1)),.ro false (tSs r9.1),.ro false (tSs r12.1)]) rfl tk68 rfl (Nat.zero_lt_succ _) rfl rfl (dat_con (dat_ro (dat_ro (dat_ro dat_nil)))) rfl (by decide) rfl
variable {W : Txt}
open PS (Trm)
def PS.tlR (dec:ByteArray→Int×Nat)(k:Nat)(l:List (List Trm))(τ:PS W):List (List Trm)×PS W:=if τ.isB 4 PS.kComma=true then PS.rowL dec k l τ.adv else(l,τ.settle)
theorem rowL_tl (dec:ByteArray→Int×Nat)(k:Nat)(l:List (List Trm))(σ:PS W):PS.rowL dec (k+1) l σ=PS.tlR dec k (l ++ [(PS.sum0 dec σ).1]) (PS.sum0 dec σ).2:=rfl
def rlI (dec:ByteArray→Int×Nat)(R:List (List Trm)×PS W)(z:PS W×List (List Trm)×Nat):Prop:=z.1.opn=0∧z.2.1.length≤z.1.at_+1∧z.1.at_≤W.L.length∧∃k,PS.tlR dec k z.2.1 z.1=R∧W.L.length≤k+z.1.at_
def stPw (N f:Nat)(z:PS W×List (List Trm)×Nat):St:=⟨N,[(0,.ref 0 0 0 0),(1,.wr (.clo f) 0 0 0 0),(5,.own 4 z.2.2 0 z.2.1.length)],[(0,prO W z.1.at_ z.1.bad z.1.opn),(4,⟨1,z.2.1.map vR,z.2.2,true⟩)]⟩
theorem pRow_ok {dec:ByteArray→Int×Nat}(hF:Fit W)(hS:UnOK Tryz.prog 21 65 (PS.sum (X:=W) (PS.un dec 65)))(σ:PS W)(ho:σ.opn=0)(ha0:σ.at_≤W.L.length) :
  OkG Tryz.prog 20 (pO σ) [] [.ref 0 0 0 0,.wr (.clo 21) 0 0 0 0] (pO (PS.rowQ dec σ).2) (.ro false (tRw (PS.rowQ dec σ).1)):=by
 have hL:=hF.len
 have hs0:∀τ:PS W,τ.opn=0→PS.sum0 dec τ=PS.sum (PS.un dec 65) τ:=fun τ h=>by unfold PS.sum0;rw [h]
 have c0:=hS σ (by omega) ha0
 rw [← hs0 σ ho] at c0
 have f0:=PS.sum0_good dec σ
 have f1:=f0.1.hi ha0
 have f2:=f0.1.opn
 unfold PS.rowQ
 rw [rowL_tl]
 generalize PS.sum0 dec σ=r at *
 unfold pO prT at *
 refine okp2_of_ev hC0 mix 2 (zO rfl) Tryz.func20 rfl rfl (by kernel_rfl) (by kernel_rfl) (zO rfl) ?_
 repeat'(first|(with_reducible first|(refine zz ?_;try intro K hK)|refine zI ?_|refine zt ?_|refine zf ?_)|((first|refine hK _ ?_|refine hK _ _ rfl ?_);clear hK K)|(guard_hyp hK;first|(refine zY ?zz ?_;case zz=>first|exact rfl|exact gJ)|refine fresh_n ?_|refine freshO_n ?_|refine zW ?_|(refine pr_callT 0 3 (c0) ?hga ?hgb ?hgc ?hgd ?_;(case hga=>rfl);(case hgb=>rfl);(case hgc=>rfl);(case hgd=>decide))|intro b0 hb)|((first|with_reducible refine zm ?_|guard_hyp hK);refine zY ?_ ?_;all_goals(intro hb;(try simp only [sn,sb] at hb);try exact ex0)))
 generalize hR:PS.tlR dec W.L.length ([] ++ [r.1]) r.2=R
 refine loop_f (PS W×List (List Trm)×Nat) (stPw Tryz.f20.ntmps 21) (rlI dec R) (fun z=>W.L.length - z.1.at_) (r.2,[r.1],0) ⟨f2.trans ho,Nat.succ_le_succ (Nat.zero_le _),f1,_,hR,Nat.le_add_right _ _⟩ (lf_of0 ⟨Lc.same _ rfl,Lc.same _ rfl,Lc.same _ rfl,trivial⟩ ⟨lfOb_same rfl (pr_flat _ _ _),lfOb_one rfl (Lc.frz false _ (tTs r.1) (fd_Ts rfl rfl rfl)),trivial⟩) ?_
 rintro⟨τ,l,v⟩ ⟨h0,h1,h2,k,h3,h4⟩
 dsimp only at h0 h1 h2 h3 h4
 unfold stPw
 dsimp only
 unfold PS.tlR at h3
 have hfd:∀oh oh1:OH,oget oh 4=some ⟨1,l.map vR,v,true⟩→oget oh1 4=none→Fd1 oh oh1 false (.own 4 v 0 l.length) (tRw l):=fun oh oh1 g1 g2=>fd_ofL g1 g2 (by rw [List.length_map]) (fdL_map fdE_R l)
 cases hb:τ.bad with
 |some f=>
  have hbb:τ.bad≠none:=by rw [hb];exact fun h=>by cases h
  rw [PS.isB_bad hbb,if_neg Bool.false_ne_true,PS.settle_stk hbb] at h3
  rw [← h3]
  dsimp only
  rw [hb]
  repeat'(first|(with_reducible first|(refine zz ?_;try intro K hK)|refine zI ?_|refine zt ?_|refine zf ?_)|((first|refine hK _ ?_|refine hK _ _ rfl ?_);clear hK K)|(guard_hyp hK;first|(refine zY ?zz ?_;case zz=>first|exact rfl|exact gJ)|refine fresh_n ?_|refine freshO_n ?_|refine zW ?_|intro b0 hb)|((first|with_reducible refine zm ?_|guard_hyp hK);refine zY ?_ ?_;all_goals(intro hb;(try simp only [sn,sb] at hb);try exact ex0)))
  exact pr_retF (r:=tRw l) rfl (by decide) rfl (hfd _ _ rfl rfl) (by decide) rfl
 |none=>
  have cs:=pSign_ok τ PS.kComma hL
  unfold PS.sgn at cs
  cases hB:τ.isB 4 PS.kComma with
  |false=>
   rw [hB,if_neg Bool.false_ne_true] at h3 cs
   rw [← h3]
   unfold pO at cs
   rw [hb] at cs
   repeat'(first|(with_reducible first|(refine zz ?_;try intro K hK)|refine zI ?_|refine zt ?_|refine zf ?_)|((first|refine hK _ ?_|refine hK _ _ rfl ?_);clear hK K)|(guard_hyp hK;first|(refine zY ?zz ?_;case zz=>first|exact rfl|exact gJ)|refine fresh_n ?_|refine freshO_n ?_|refine zW ?_|refine zp 0 (cs) ?_|intro b0 hb)|((first|with_reducible refine zm ?_|guard_hyp hK);refine zY ?_ ?_;all_goals(intro hb;(try simp only [sn,sb] at hb);try exact ex0)))
   exact pr_retF (r:=tRw l) rfl (by decide) rfl (hfd _ _ rfl rfl) (by decide) rfl
  |true=>
   obtain⟨t,ht,hk2,-⟩:=PS.isB_tok hB
   have hlt:=(PS.tok_at ht).2.2
   have hav:=PS.adv_at ht (by rw [hk2];decide)
   have haf:=PS.adv_fol1 hB (by decide)
   rw [hB,if_pos rfl] at h3 cs
   obtain⟨k,rfl⟩:∃j,k=j+1:=⟨k - 1,by omega⟩
   rw [rowL_tl] at h3
   have q0:τ.adv.opn=0:=hav.2.2.trans h0
   have cn:=hS τ.adv (by omega) (by omega)
   rw [← hs0 _ q0] at cn
   have g1:=(PS.sum0_good dec τ.adv).1
   have g2:=g1.le
   have g3:=g1.hi (by omega)
   have g4:=g1.opn
   generalize PS.sum0 dec τ.adv=u at *
   rw [pO_adv ht (by rw [hk2];decide)] at cs cn
   unfold pO at cs
   unfold prT at cn
   rw [hb] at cs
   repeat'(first|(with_reducible first|(refine zz ?_;try intro K hK)|refine zI ?_|refine zt ?_|refine zf ?_)|((first|refine hK _ ?_|refine hK _ _ rfl ?_);clear hK K)|(guard_hyp hK;first|(refine zY ?zz ?_;case zz=>first|exact rfl|exact gJ)|refine fresh_n ?_|refine freshO_n ?_|refine zW ?_|refine zp 0 (cs) ?_|(refine pr_callT 0 3 (cn) ?hga ?hgb ?hgc ?hgd ?_;(case hga=>rfl);(case hgb=>rfl);(case hgc=>rfl);(case hgd=>decide))|intro b0 hb)|((first|with_reducible refine zm ?_|guard_hyp hK);refine zY ?_ ?_;all_goals(intro hb;(try simp only [sn,sb] at hb);try exact ex0)))
   refine⟨(u.2,l ++ [u.1],v+1),⟨g4.trans q0,by dsimp only;rw [List.length_append,List.length_singleton];omega,g3,k,h3,by dsimp only;omega⟩,by dsimp only;omega,lf_of0 ⟨Lc.same _ rfl,Lc.same _ rfl,?_,trivial⟩ ⟨lfOb_same rfl (pr_flat _ _ _),lfOb_app (F:=vR) (l:=l) (a:=u.1) rfl rfl rfl (fun x _=>trivial) (Lc.frz false _ (tTs u.1) (fd_Ts rfl rfl rfl)),trivial⟩⟩
   show LV _ _ _ (V.own 4 (v+1) 0 (l ++ [u.1]).length)
   rw [List.length_append]
   exact Lc.same _ rfl
def seqs : List Code→Code→Code
 | [],c=>c
 |a :: r,c=>.seq a (seqs r c)
def spl : Nat→Code→List Code×Code
 |k+1,.seq a b=>(a :: (spl k b).1,(spl k b).2)
 |_,c=>([],c)
theorem spl_eq : ∀k c,seqs (spl k c).1 (spl k c).2=c
 |0,c=>by cases c<;>rfl
 |k+1,c=>by
  cases c with
  |seq a b=>exact congrArg (Code.seq a) (spl_eq k b)
  |_=>rfl
section
variable {P : Program}
theorem wp_mkdef {id tf tb:Nat}{cf:FuncId}{o1 o2:Oper}{Q:Exit→Act→World→Prop}{a:Act}{w:World}{aty:Array TypeId}(h1:o1.op=.makeFunc (.func cf) #[] #[.tmp tb])(hd1:o1.dst=some tf)(hg1:o1.guard=none)(h2:o2.op=.defer { callee:=.value (.tmp tf),args:=#[],argTypes:=aty })(hd2:o2.dst=none)(hg2:o2.guard=none)(hlt:tf < a.tmps.size)
  (hQ:Q .normal { a with tmps:=a.tmps.setIfInBounds tf (.func (.func cf) #[] #[a.eval (.tmp tb)]),defers:=⟨.fn (.func cf) #[a.eval (.tmp tb)],#[]⟩ :: a.defers } w):(Code.region id #[o1,o2] false).wp P Q a w:=by
 refine wp_region_list ?_
 show wpList P _ Q [o1,o2] a w
 refine wpList_step fun K hK=>?_
 have w1:∀y,Region.wanted o1 y=true:=fun y=>by unfold Region.wanted;rw [hg1]
 have w2:∀y,Region.wanted o2 y=true:=fun y=>by unfold Region.wanted;rw [hg2]
 rw [if_pos (w1 _)]
 have e1:(execOp a.eval o1).run P w=.ok (.value (.func (.func cf) #[] #[a.eval (.tmp tb)])) w:=by simp [execOp,h1,Instr.makeFunc]
 unfold Oper.wp
 rw [e1]
 refine hK _ _ ?_
 refine wpList_step fun K2 hK2=>?_
 rw [if_pos (w2 _)]
 have e2:∀a2:Act,a2.eval (.tmp tf)=.func (.func cf) #[] #[a.eval (.tmp tb)]→(execOp a2.eval o2).run P w=.ok (.defer ⟨.fn (.func cf) #[a.eval (.tmp tb)],#[]⟩) w:=by
  intro a2 h;simp [execOp,h2,resolve,h,Deferred.ofValue]
 unfold Oper.wp
 rw [e2]
 ·refine hK2 _ _ ?_
  rw [hd1,hd2]
  exact hQ
 ·rw [hd1]
  show(a.tmps.setIfInBounds tf _).getD tf _=_
  rw [Array.getD_eq_getD_getElem?,Array.getElem?_setIfInBounds_self_of_lt hlt];rfl
variable {γ : Gm}
theorem wp_cut {C:CT}(hC:∀q ts r,C q ts r→OkR P q ts r)(hmix:P.follows .mixedOrders=true){n np:Nat}(hnp:∀d,np≤d→γ.par d=none){c2:Code}{Q:X→St→Prop}{Q2:Exit→Act→World→Prop}{g0:Gh}{oh0:OH}{w0:World}
  (hx:∀x s,Q x s→x=.normal) (hk:∀g s a w,Q .normal s→Rel γ g s a w→Fr g0 oh0 w0 g s.oh w→s.n=n→c2.wp P Q2 a w) :
  ∀(l:List Code) (s:St),okB n (seqs l .skip)=true→parB np (seqs l .skip)=true→evC P C (seqs l .skip) s Q→s.n=n→∀g a w,Rel γ g s a w→Fr g0 oh0 w0 g s.oh w→(seqs l c2).wp P Q2 a w
 | [],s,_,_,h,hn,g,a,w,hr,hf=>hk g s a w h hr hf hn
 |x :: r,s,hb,hbp,h,hn,g,a,w,hr,hf=>by
  simp only [seqs,okB,Bool.and_eq_true] at hb
  simp only [seqs,parB,Bool.and_eq_true] at hbp
  rcases h with h|h
  ·refine wp_seq (wp_mono (evC_ok hC hmix hnp x s _ hb.1 hbp.1 h hn g a w hr) fun e a' w' hp=>?_)
   obtain⟨xx,s',g',rfl,h2,h3,h4,h5⟩:=hp
   cases xx with
   |normal=>exact wp_cut hC hmix hnp hx hk r s' hb.2 hbp.2 h2 h5 g' a' w' h3 (hf.trans h4)
   |ret=>cases hx _ _ h2
   |exit id=>cases hx _ _ h2
  ·refine wp_seq (wp_mono (evC_ok hC hmix hnp x s _ hb.1 hbp.1 h hn g a w hr) fun e a' w' hp=>?_)
   obtain⟨xx,s',g',rfl,h2,h3,h4,h5⟩:=hp
   cases xx with
   |normal=>
    obtain⟨fz,s2,hlf,h2⟩:=h2
    obtain⟨g6,h6,h7,h8⟩:=h3.leB hlf
    exact wp_cut hC hmix hnp hx hk r s2 hb.2 hbp.2 h2 (h8.trans h5) g6 a' w' h6 ((hf.trans h4).trans h7)
   |ret=>cases hx _ _ h2
   |exit id=>cases hx _ _ h2
def OkD (P:Program)(q:FuncId)(pre:OH)(vs:List V)(post:OH):Prop:=
 (∃fn,P.funcs[q]?=some fn∧(fn.name == "runtime.NumGoroutine")=false∧fn.body.isNone=false)∧(∀i o,oget pre i=some o→o.ver=0∧o.live=true∧∀v ∈ o.el,v.cl pre)∧(∀v ∈ vs,v.cl pre)∧(∀i o,oget post i=some o→(oget pre i).isSome=true∨i ∈ ([]:List Nat))∧
 (∀i o o',oget pre i=some o→oget (post ++ pre) i=some o'→o'.ver=0→o'.live=true→o'.sz=o.sz∧o.el.length≤o'.el.length)∧
 ∀(g:Gh) (w:World) (args:Array Value),HR g pre w→args.size=vs.length→(∀(j:Nat) (u:V) (x:Value),vs[j]?=some u→args[j]?=some x→RdV g pre u x)→
  ∀u,CallsD P q args u w fun e u' w'=>u'=u∧GPost g pre post (.tup []) w e w'
theorem pin_mono {g g':Gh}{pre oh':OH}{w w':World}{i:Nat}{o o2:Obj}(h1:HR g pre w)(hr':HR g' oh' w')(hmo:Mono g pre g' oh')(hfr:Fr g pre w g' oh' w')(hi:oget pre i=some o)(hol:o.live=true)(hsz0:0 < o.sz)(hel:o.el≠[])
  (ho2:oget oh' i=some o2) (hv2:o2.ver=0) (hl2:o2.live=true) (hs2:o2.sz=o.sz):g'.m i=g.m i∧g'.cp i=g.cp i:=by
 obtain⟨q1,q2⟩:=h1.obj i o hi hol
 obtain⟨b,hb⟩:∃b,g.m i=some b:=by
  cases hm:g.m i with
  |none=>exact absurd (q1 hm) hel
  |some b=>exact⟨b,rfl⟩
 obtain⟨arr,ty,hh,_,hba⟩:=q2 b hb
 have hrd:RdV1 g pre (.ref i 0 0 0) (.pointer (some ⟨b,0 * o.sz+0,none⟩)):=⟨⟨rfl,fun o3 h3 hm3=>by rw [hi] at h3;obtain rfl:o=o3:=(by simpa using h3);exact absurd hm3 (not_mp hol)⟩,o,hi,Nat.zero_le _,fun _ _=>⟨b,hb,rfl⟩⟩
 obtain⟨_,o3,ho3,_,hc⟩:=hmo _ _ hrd
 rw [ho2] at ho3
 obtain rfl:o2=o3:=by simpa using ho3
 obtain⟨b2,hb2,e⟩:=hc hv2 hl2
 have hm:g'.m i=g.m i:=by
  rw [hb,hb2]
  simp only [Value.pointer.injEq,Option.some.injEq,Addr.mk.injEq] at e
  rw [e.1]
 refine⟨hm,?_⟩
 obtain⟨_,q4⟩:=hr'.obj i o2 ho2 hl2
 obtain⟨arr2,ty2,hh2,_,hba2⟩:=q4 b (by rw [hm];exact hb)
 obtain⟨arr3,hh3,hs3⟩:=hfr.blk b arr ty (0,0) hh
 rw [hh2] at hh3
 simp only [Option.some.injEq,Go.Obj.cells.injEq] at hh3
 obtain⟨rfl,_,_⟩:=hh3
 have e1:=hba.1
 have e2:=hba2.1
 rw [hs3,e1,hs2] at e2
 exact(Nat.eq_of_mul_eq_mul_right hsz0 e2).symm
theorem okd_of_reg {C:CT}(hC:∀q ts r,C q ts r→OkR P q ts r){q:FuncId}{fn:Func}{id i0:Nat}{ops:Array Oper}{pre post:OH}
  (hfn:P.funcs[q]?=some fn) (hname:(fn.name == "runtime.NumGoroutine")=false) (hbody:fn.body=some (.region id ops false)) (hok:dstB fn.ntmps ops.toList=true) (hpar:parD 0 ops.toList=true) (hlen:1≤fn.ntmps) (hres:fn.results.toList=[])
  (hpre:∀i o,oget pre i=some o→o.ver=0∧o.live=true∧∀v ∈ o.el,v.cl pre) (hvs:∀v ∈ [V.ref i0 0 0 0],v.cl pre) (hpost:∀i o,oget post i=some o→(oget pre i).isSome=true∨i ∈ ([]:List Nat))
  (hle:∀i o o',oget pre i=some o→oget (post ++ pre) i=some o'→o'.ver=0→o'.live=true→o'.sz=o.sz∧o.el.length≤o'.el.length)
  (hne:∀i o,oget pre i=some o→0 < o.sz∧o.el≠[])
  (h:evC P C (.region id ops false) ⟨fn.ntmps,argEnvV 0 [.ref i0 0 0 0],pre⟩ (fun _ s=>Bm s.oh (post ++ pre)∧∀i o,oget pre i=some o→∃o2,oget s.oh i=some o2∧o2.ver=0∧o2.live=true∧o2.sz=o.sz)):OkD P q pre [.ref i0 0 0 0] post:=by
 refine⟨⟨fn,hfn,hname,by simp [hbody]⟩,hpre,hvs,hpost,hle,fun g w args h1 h2 h3 u=>callsD_of_wp hfn hbody ?_⟩
 have hr0:=entryG (fn:=fn) (vs:=[.ref i0 0 0 0]) 0 (Nat.zero_le _) hlen h1 h2 h3
 have fin:∀(s':St) (g':Gh) (a':Act) (w':World),(Bm s'.oh (post ++ pre)∧∀i o,oget pre i=some o→∃o2,oget s'.oh i=some o2∧o2.ver=0∧o2.live=true∧o2.sz=o.sz)→Rel ⟨fun j=>if j < 0 then some (args.getD j Go.undef) else none,[]⟩ g' s' a' w'→Fr g pre w g' s'.oh w'∧Mono g pre g' s'.oh→s'.n=fn.ntmps→bodyPost P fn (GPost g pre post (.tup []) w) .normal a' w':=by
  intro s' g' a' w' hk hr' hf' hn'
  obtain⟨hbm,hob⟩:=hk
  obtain⟨hfr,hmo⟩:=hf'
  obtain⟨v,hv,hrv⟩:=resultsG_ok (fn:=fn) (r:=.tup []) hbm hr' (by rw [hres])
  obtain⟨hhr,hown⟩:=bm_hr hbm hr'.hr
  have hpl:∀i o,oget (post ++ pre) i=some o→o.live=true:=fun i o1 ho1=>(hbm i o1 ho1).choose_spec.2.2.1
  refine⟨hr'.df,v,hv,v,g',rfl,hhr,hrv,⟨hfr.os,hfr.tape,hfr.output,hfr.size,hfr.keep,fun b hb=>hfr.own b (hown b hb),hfr.G,hfr.F,hfr.nG,hfr.nF,hfr.blk,fun b hb=>absurd hb (MpB.none hpl)⟩,hpl,?_⟩
  intro i o o' hi hi' hv0 hl
  obtain⟨o2,ho2,hv2,hl2,hs2⟩:=hob i o hi
  obtain⟨hov,hol,_⟩:=hpre i o hi
  obtain⟨hsz0,hel⟩:=hne i o hi
  exact pin_mono h1 hr'.hr hmo hfr hi hol hsz0 hel ho2 hv2 hl2 hs2
 refine(wpIn_wide (n:=0)).1 (wpIn_region ?_)
 have key:=evOps_ok (ro:=none) (nf:=0) (n:=fn.ntmps) (np:=0) (Q:=bodyPost P fn (GPost g pre post (.tup []) w)) hC hok (fun d _=>rfl) hpar fin ops.toList 0 _ rfl h g _ w hr0 ⟨Fr.refl _ _ _,Mono.refl _ _⟩ rfl
 rw [List.range_eq_range']
 exact key
theorem okgD_of_ev {C:CT}(hC:∀q ts r,C q ts r→OkR P q ts r)(hmix:P.follows .mixedOrders=true){q cf:FuncId}{fn:Func}{c P2:Code}{l:List Code}{pre post pre2 post2:OH}{nw:List Nat}{vs:List V}{r:V}{id tf i:Nat}{o1 o2:Oper}{aty:Array TypeId}{s0:St}(k:Nat)
  (hnp:1≤vs.length) (hfn:P.funcs[q]?=some fn) (hname:(fn.name == "runtime.NumGoroutine")=false) (hbody:fn.body=some c) (hsp:spl k c=(l,.seq (.region id #[o1,o2] false) P2))
  (h1:o1.op=.makeFunc (.func cf) #[] #[.tmp 1]) (hd1:o1.dst=some tf) (hg1:o1.guard=none) (h2:o2.op=.defer { callee:=.value (.tmp tf),args:=#[],argTypes:=aty }) (hd2:o2.dst=none) (hg2:o2.guard=none)
  (hok1:okB fn.ntmps (seqs l .skip)=true) (hpar1:parB 1 (seqs l .skip)=true) (hok2:okB fn.ntmps P2=true) (hpar2:parB 2 P2=true) (hlt:tf < fn.ntmps) (htf:2≤tf) (hlen:vs.length≤fn.ntmps)
  (hcl:OkD P cf pre2 [.ref i 0 0 0] post2) (hid:∀i o,oget pre2 i=some o→o.rn (fun i=>i) (fun _=>0) i=o) (hid2:rnO (fun i=>i) (fun _=>0) post2=post2)
  (h0n:s0.n=fn.ntmps) (h0:eget s0.env tf=.undef)
  (hpre:∀i o,oget pre i=some o→o.ver=0∧o.live=true∧∀v ∈ o.el,v.cl pre) (hvs:∀v ∈ vs,v.cl pre) (hpost:∀i o,oget post i=some o→(oget pre i).isSome=true∨i ∈ nw)
  (hle:∀i o o',oget pre i=some o→oget (post ++ pre) i=some o'→o'.ver=0→o'.live=true→o'.sz=o.sz∧o.el.length≤o'.el.length)
  (hE1:evC P C (seqs l .skip) ⟨fn.ntmps,argEnvV 0 vs,pre⟩ (fun x s=>x=.normal∧∃fz,LeB fz s0 s))
  (hE2:evC P C P2 s0 (fun x s=>(match x with|.exit _=>False|_=>True)∧eget s.env 1=.ref i 0 0 0∧(∀i o,oget pre2 i=some o→oget s.oh i=some o)∧RetG P fn 1 pre vs post r x ⟨s.n,s.env,post2 ++ s.oh⟩)):OkG P q pre nw vs post r:=by
 refine⟨⟨fn,hfn,hname,by simp [hbody]⟩,hpre,hvs,hpost,hle,fun g0 w args hr0' hsz hrd=>?_⟩
 refine calls_of_wp_defers hfn hbody ?_
 have hr0:=entryG (fn:=fn) 1 hnp hlen hr0' hsz hrd
 rw [← spl_eq k c,hsp]
 refine wp_cut hC hmix (np:=1) (fun d hd=>if_neg (by omega)) (fun x s h=>h.1) (fun g s a w1 hQ hr hf hn=>?_) l _ hok1 hpar1 hE1 rfl g0 _ w hr0 (Fr.refl _ _ _)
 obtain⟨-,fz,hlb⟩:=hQ
 obtain⟨g1,hr1,hf1,hn1⟩:=hr.leB hlb
 have hsz1:a.tmps.size=fn.ntmps:=hr1.sz.trans h0n
 refine wp_seq (wp_mkdef h1 hd1 hg1 h2 hd2 hg2 (by rw [hsz1];exact hlt) ?_)
 show P2.wp P _ _ _
 have hget:∀(v:Value) (j:Nat),j≠tf→(a.tmps.setIfInBounds tf v).getD j Go.undef=a.tmps.getD j Go.undef:=by
  intro v j hj
  rw [Array.getD_eq_getD_getElem?,Array.getElem?_setIfInBounds_ne (Ne.symm hj),← Array.getD_eq_getD_getElem?]
 have hr2:Rel ⟨fun j=>if j < 2 then some (a.tmps.getD j Go.undef) else none,[⟨.fn (.func cf) #[a.eval (.tmp 1)],#[]⟩]⟩ g1 s0 { a with tmps:=a.tmps.setIfInBounds tf (.func (.func cf) #[] #[a.eval (.tmp 1)]),defers:=⟨.fn (.func cf) #[a.eval (.tmp 1)],#[]⟩ :: a.defers } w1:=by
  refine⟨hr1.hr,?_,by show(a.tmps.setIfInBounds _ _).size=_;rw [Array.size_setIfInBounds];exact hr1.sz,fun t=>?_,fun t v hv=>?_⟩
  ·show _ :: a.defers=_
   rw [hr1.df]
  ·by_cases e:t=tf
   ·rw [e,h0];trivial
   ·show RdV _ _ _ ((a.tmps.setIfInBounds _ _).getD _ _)
    rw [hget _ _ e];exact hr1.env t
  ·dsimp only at hv
   split at hv
   ·rename_i hj
    show(a.tmps.setIfInBounds _ _).getD _ _=_
    rw [hget _ _ (by omega)]
    simpa using hv
   ·cases hv
 refine wp_mono (evC_ok (np:=2) hC hmix (fun d hd=>if_neg (by omega)) P2 s0 _ hok2 hpar2 hE2 h0n g1 _ w1 hr2) fun e a2 w2 hp=>?_
 obtain⟨xx,s,g2,rfl,⟨hx,he1,hob,hret⟩,hr3,hf3,hn3⟩:=hp
 have key:Leaves P fn a2.tmps (GPost g0 pre post r w) a2.defers .returning w2:=by
  rw [hr3.df]
  obtain⟨⟨fc,hcfn,hcname,hcbody⟩,hcwf,hcvs,hcpost,hcle,hclo⟩:=hcl
  have hcb:fc.body≠none:=by intro e;simp [e] at hcbody
  have hcn:fc.name≠ "runtime.NumGoroutine":=by simpa using hcname
  have hcap:a2.tmps.getD 1 Go.undef=a.eval (.tmp 1):=hr3.par 1 _ rfl
  refine leaves_cons (f:=cf) (args:=#[a.eval (.tmp 1)]) (fun e=>by cases e) (by simp [invoke,callFunc,hcfn,hcn,hcb]) ?_
  obtain⟨c1,c2,c3,c4⟩:=gen_core (r:=.tup []) (l:=[.ref i 0 0 0]) (m:=fun i=>i) (vo:=fun _=>0) hcwf hcvs hcpost hcle rfl (fun i _ j _ h=>h) hr3.hr (fun i o h=>by rw [hid i o h];exact hob i o h) (fun i hi=>by simp at hi) (args:=#[a.eval (.tmp 1)]) rfl (fun j v x hv hx=>by
   cases j with
   |zero=>
    obtain rfl:V.ref i 0 0 0=v:=by simpa using hv
    obtain rfl:a.eval (.tmp 1)=x:=by simpa using hx
    rw [← hcap,← he1]
    exact hr3.env 1
   |succ j=>simp at hv)
  refine CallsD.mono (hclo _ w2 _ c1 c2 c3 .returning) fun e u' w' hh=>?_
  obtain⟨rfl,hgp⟩:=hh
  obtain⟨v,rfl,g4,k1,k2,k3,k4⟩:=c4 e w' hgp
  rw [hid2] at k1 k2 k3 k4
  have hr4:Rel _ g4 ⟨s.n,s.env,post2 ++ s.oh⟩ a2 w':=⟨k1,hr3.df,hr3.sz,fun t=>k3.rdV (hr3.env t),hr3.par⟩
  obtain⟨-,v2,hv2,hfin⟩:=okg_fin hnp hpre hr0' hsz hrd hret hr4 (fun j hj=>by
   obtain rfl:j=0:=by omega
   rw [hr3.par 0 _ rfl]
   have:=hr.par 0 _ rfl
   exact this) ((hf.trans hf1).trans (hf3.trans k4))
  exact⟨v2,hv2,hfin⟩
 cases xx with
 |exit id=>exact hx.elim
 |normal=>exact key
 |ret=>exact key
end
end Go.Ev
