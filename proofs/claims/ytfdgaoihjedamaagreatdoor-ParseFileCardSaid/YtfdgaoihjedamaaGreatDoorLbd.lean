import Derived.Test.YtfdgaoihjedamaaGreatDoorLat
import Derived.Test.YtfdgaoihjedamaaGreatDoorLbc
set_option linter.all false
set_option maxHeartbeats 4000000
set_option maxRecDepth 10000
namespace Go.Ev
open Go.Proofs
variable {W : Txt}
open PS (Trm)
def stEn (N:Nat)(σ:PS W)(k:Int)(g:List ByteArray):St:=⟨N,[(0,.ref 0 0 0 0),(2,.ref 1 0 0 0),(3,.ref 2 0 0 0)],[(0,prO W σ.at_ σ.bad σ.opn),(1,⟨3,[.agg [.con (.int .i8 0),.emp,.emp]],0,true⟩),(2,⟨3,[.agg [.con (.int .i8 k),.ro false (tSs g),.emp]],0,true⟩)]⟩
theorem agg_same {oh oh1:OH}{l:List V}(h:l.all V.flatB=true){i sz ver:Nat}(ho:oget oh i=some ⟨sz,[.agg l],ver,true⟩):lfOb oh oh1 i ⟨sz,[.agg l],ver,true⟩:=by
 refine lfOb_same ho (one_flat fun v hv=>?_)
 have:=List.all_eq_true.1 h v hv
 cases v<;>first|trivial|exact absurd this Bool.false_ne_true
theorem pEnt_ok {dec:ByteArray→Int×Nat}(hF:Fit W)(hkn:Kin W)(hS:UnOK Tryz.prog 20 65 (PS.sum (X:=W) (PS.un dec 65)))
  (σ:PS W) (ho:σ.opn=0) (ha:σ.at_≤W.L.length):OkG Tryz.prog 58 (pO σ) [] [.ref 0 0 0 0] (pO (PS.entD dec σ).2) (vEnt (PS.entQ dec σ).1):=by
 have hL:=hF.len
 have ca:=pIs_ok σ 1 PS.kTab
 have cb:=pIs_ok σ.settle 1 PS.kDef
 rw [isB_settle,settle_settle] at cb
 obtain⟨hf1,-⟩:=PS.ent1_fol σ
 have hrow:=pRow_ok hF hS (PS.ent1Q σ).2.2 (by rw [PS.ent1Q_st];exact hf1.opn.trans ho) (by rw [PS.ent1Q_st];exact hf1.hi ha)
 have hsg:=pNeed_ok [(4,PS.kSemi)] (PS.rowQ dec (PS.ent1Q σ).2.2).2 hL (by decide) (by decide) (kc hkn.semi kn)
 have e9:(PS.entD dec σ).2=PS.needL [(4,PS.kSemi)] (PS.rowQ dec (PS.ent1Q σ).2.2).2:=by rw [PS.rowQ_st,PS.ent1Q_st];rfl
 unfold PS.entQ
 rw [e9]
 generalize PS.rowQ dec (PS.ent1Q σ).2.2=r at *
 generalize PS.needL [(4,PS.kSemi)] r.2=s9 at *
 clear e9
 generalize hE:PS.ent1Q σ=E at *
 unfold PS.ent1Q at hE
 dsimp only
 unfold pO at hrow hsg ca cb ⊢
 refine okp_of_ev hC0 mix 1 (zO rfl) Tryz.func58 rfl rfl (by kernel_rfl) (by kernel_rfl) (zO rfl) ?vs ?_
 case vs=>exact fl0
 repeat'(first|(refine seq_k (a:=Code.block 0 _) Unit (fun _=>stEn Tryz.f58.ntmps E.2.2 E.1 E.2.1) (fun _=>True) ?_ ?_)|(with_reducible first|(refine zz ?_;try intro K hK)|refine zI ?_|refine zt ?_|refine zf ?_)|((first|refine hK _ ?_|refine hK _ _ rfl ?_);clear hK K)|(guard_hyp hK;first|(refine zY ?zz ?_;case zz=>first|exact rfl|exact gJ)|refine fresh_n ?_|refine freshO_n ?_|refine zW ?_|intro b0 hb)|((first|with_reducible refine zm ?_|guard_hyp hK);refine zY ?_ ?_;all_goals(intro hb;(try simp only [sn,sb] at hb);try exact ex0)))
 ·rintro - -
  unfold stEn
  repeat'(first|(with_reducible first|(refine zz ?_;try intro K hK)|refine zI ?_|refine zt ?_|refine zf ?_)|((first|refine hK _ ?_|refine hK _ _ rfl ?_);clear hK K)|(guard_hyp hK;first|(refine zY ?zz ?_;case zz=>first|exact rfl|exact gJ)|refine fresh_n ?_|refine freshO_n ?_|refine zW ?_|refine zp 0 (hrow) ?_|(refine' Or.inr (Or.inr (Or.inl (need_call ([(4,PS.kSemi)]) _ _ (hsg) ?hga ?hgb ?hgc ?hgd ?_)));(case hga=>rfl);(case hgb=>rfl);(case hgc=>rfl);(case hgd=>exact Nat.ne_of_lt (zO rfl)))|intro b0 hb)|((first|with_reducible refine zm ?_|guard_hyp hK);refine zY ?_ ?_;all_goals(intro hb;(try simp only [sn,sb] at hb);try exact ex0)))
  exact pr_retv (l:=[.con (.int .i8 E.1),.ro false (tSs E.2.1),.ro false (tRw r.1)]) rfl tk95 rfl (Nat.zero_lt_succ _) rfl rfl (dat_con (dat_ro (dat_ro dat_nil))) rfl (by decide) rfl
 ·intro R hR
  clear hrow hsg
  cases hA:σ.isB 1 PS.kTab with
  |true=>
   obtain⟨t,ht,hk,-⟩:=PS.isB_tok hA
   have hlt:=(PS.tok_at ht).2.2
   have hav:=PS.adv_at ht (by rw [hk];decide)
   rw [if_pos hA] at hE
   subst hE
   rw [hA,PS.settle_some ht,(PS.tok_at ht).1] at ca
   rw [(PS.tok_at ht).1]
   repeat'(first|(with_reducible first|(refine zz ?_;try intro K hK)|refine zI ?_|refine zt ?_|refine zf ?_)|((first|refine hK _ ?_|refine hK _ _ rfl ?_);clear hK K)|(guard_hyp hK;first|(refine zY ?zz ?_;case zz=>first|exact rfl|exact gJ)|refine fresh_n ?_|refine freshO_n ?_|refine zW ?_|refine zp 0 (ca) ?_|intro b0 hb)|((first|with_reducible refine zm ?_|guard_hyp hK);refine zY ?_ ?_;all_goals(intro hb;(try simp only [sn,sb] at hb);try exact ex0)))
   refine hR _ () trivial (lf_of0 ⟨Lc.same _ rfl,Lc.same _ rfl,Lc.same _ rfl,trivial⟩ ⟨?_,agg_same rfl rfl,lfOb_one rfl (lv_agg ⟨Lc.same _ trivial,lc_emp rfl,Lc.same _ trivial,trivial⟩),trivial⟩)
   dsimp only
   rw [hav.1,hav.2.1,hav.2.2]
   exact lfOb_same rfl (pr_flat _ _ _)
  |false=>
   rw [if_neg (by rw [hA];exact Bool.false_ne_true)] at hE
   rw [hA] at ca
   cases hB:σ.isB 1 PS.kDef with
   |true=>
    obtain⟨t,ht,hk,-⟩:=PS.isB_tok hB
    have hlt:=(PS.tok_at ht).2.2
    have hav:=PS.adv_at ht (by rw [hk];decide)
    rw [if_pos hB] at hE
    subst hE
    rw [PS.settle_some ht,(PS.tok_at ht).1] at ca
    rw [hB,PS.settle_some ht,(PS.tok_at ht).1] at cb
    rw [(PS.tok_at ht).1]
    repeat'(first|(with_reducible first|(refine zz ?_;try intro K hK)|refine zI ?_|refine zt ?_|refine zf ?_)|((first|refine hK _ ?_|refine hK _ _ rfl ?_);clear hK K)|(guard_hyp hK;first|(refine zY ?zz ?_;case zz=>first|exact rfl|exact gJ)|refine fresh_n ?_|refine freshO_n ?_|refine zW ?_|refine zp 0 (ca) ?_|refine zp 0 (cb) ?_|intro b0 hb)|((first|with_reducible refine zm ?_|guard_hyp hK);refine zY ?_ ?_;all_goals(intro hb;(try simp only [sn,sb] at hb);try exact ex0)))
    refine hR _ () trivial (lf_of0 ⟨Lc.same _ rfl,Lc.same _ rfl,Lc.same _ rfl,trivial⟩ ⟨?_,agg_same rfl rfl,lfOb_one rfl (lv_agg ⟨Lc.same _ trivial,lc_emp rfl,Lc.same _ trivial,trivial⟩),trivial⟩)
    dsimp only
    rw [hav.1,hav.2.1,hav.2.2]
    exact lfOb_same rfl (pr_flat _ _ _)
   |false=>
    rw [if_neg (by rw [hB];exact Bool.false_ne_true),← PS.namesQ_st] at hE
    subst hE
    rw [hB] at cb
    have c1:=pNeed_ok [(4,PS.kOpen)] σ.settle hL (by decide) (by decide) (kc hkn.open_ kn)
    have e1:PS.needL [(4,PS.kOpen)] σ.settle=PS.need 4 PS.kOpen σ:=need_settle 4 PS.kOpen σ
    rw [e1] at c1
    have ha1:=(PS.need_fol 4 PS.kOpen σ).hi ha
    generalize PS.need 4 PS.kOpen σ=s1 at *
    have c2:=pNames_ok s1 hL ha1
    generalize PS.namesQ s1=r2 at *
    have c3:=pNeed_ok [(4,PS.kShut)] r2.2 hL (by decide) (by decide) (kc hkn.shut kn)
    have e3:PS.needL [(4,PS.kShut)] r2.2=PS.need 4 PS.kShut r2.2:=rfl
    rw [e3] at c3
    generalize PS.need 4 PS.kShut r2.2=s3 at *
    unfold pO at c1 c2 c3
    repeat'(first|(with_reducible first|(refine zz ?_;try intro K hK)|refine zI ?_|refine zt ?_|refine zf ?_)|((first|refine hK _ ?_|refine hK _ _ rfl ?_);clear hK K)|(guard_hyp hK;first|(refine zY ?zz ?_;case zz=>first|exact rfl|exact gJ)|refine fresh_n ?_|refine freshO_n ?_|refine zW ?_|refine zp 0 (ca) ?_|refine zp 0 (cb) ?_|(refine' Or.inr (Or.inr (Or.inl (need_call ([(4,PS.kOpen)]) _ _ (c1) ?hga ?hgb ?hgc ?hgd ?_)));(case hga=>rfl);(case hgb=>rfl);(case hgc=>rfl);(case hgd=>exact Nat.ne_of_lt (zO rfl)))|refine zp 0 (c2) ?_|(refine' Or.inr (Or.inr (Or.inl (need_call ([(4,PS.kShut)]) _ _ (c3) ?hga ?hgb ?hgc ?hgd ?_)));(case hga=>rfl);(case hgb=>rfl);(case hgc=>rfl);(case hgd=>exact Nat.ne_of_lt (zO rfl)))|intro b0 hb)|((first|with_reducible refine zm ?_|guard_hyp hK);refine zY ?_ ?_;all_goals(intro hb;(try simp only [sn,sb] at hb);try exact ex0)))
    exact hR _ () trivial (lf_of0 ⟨Lc.same _ rfl,Lc.same _ rfl,Lc.same _ rfl,trivial⟩ ⟨lfOb_same rfl (pr_flat _ _ _),agg_same rfl rfl,agg_same rfl rfl,trivial⟩)
variable {W : Txt}
open PS (Trm EntD)
theorem propsL_len : ∀(k:Nat) (l:List ByteArray) (σ:PS W),(PS.propsL k l σ).1.length+σ.at_≤l.length+(PS.propsL k l σ).2.at_
 |0,_,_=>Nat.le_refl _
 |k+1,l,σ=>by
  rw [PS.propsL];split
  ·rename_i h
   have h1:=(PS.adv_fol1 h (by decide)).le
   have h2:=(PS.take_fol 3 σ.adv).le
   have h3:=(PS.need_fol 4 PS.kSemi (PS.take 3 σ.adv).2).le
   have h4:=propsL_len k (l ++ [(PS.take 3 σ.adv).1]) (PS.need 4 PS.kSemi (PS.take 3 σ.adv).2)
   rw [List.length_append,List.length_singleton] at h4
   omega
  ·have:=(PS.settle_fol σ).le
   show l.length+σ.at_≤l.length+σ.settle.at_;omega
theorem props_len (σ:PS W):(PS.props σ).1.length+σ.at_≤(PS.props σ).2.at_:=by
 have:=propsL_len (W.L.length+1) [] σ
 rw [List.length_nil,Nat.zero_add] at this
 exact this
theorem propsL_one (k:Nat)(l:List ByteArray){σ:PS W}(h:σ.isB 1 PS.kProp=true):σ.at_+1≤(PS.propsL (k+1) l σ).2.at_:=by
 rw [PS.propsL,if_pos h]
 have h1:=(PS.adv_fol1 h (by decide)).le
 have h2:=(PS.take_fol 3 σ.adv).le
 have h3:=(PS.need_fol 4 PS.kSemi (PS.take 3 σ.adv).2).le
 have h4:=(PS.propsL_fol k (l ++ [(PS.take 3 σ.adv).1]) (PS.need 4 PS.kSemi (PS.take 3 σ.adv).2)).le
 omega
theorem isB_otherk {σ:PS W}{k k':Int}{w w':ByteArray}(h:σ.isB k w=true)(hk:k≠k'):σ.isB k' w'=false:=by
 obtain⟨t,ht,h1,h2⟩:=PS.isB_tok h
 unfold PS.isB
 rw [ht]
 exact decide_eq_false fun h3=>hk (h1.symm.trans h3.1)
def tEnt (e:EntD):T:=.agg [.con (.int .i8 e.kind),tSs e.given,tRw e.nums]
def tEs (l:List EntD):T:=.sl (l.map tEnt)
theorem vEnt_flat (e:EntD):(vEnt e).flat:=by
 intro v hv
 simp at hv
 rcases hv with rfl|rfl|rfl<;>trivial
theorem vEs_flat (l:List EntD):∀e ∈ l.map vEnt,e.flat:=by
 intro e he
 obtain⟨w,-,rfl⟩:=List.mem_map.1 he
 exact vEnt_flat w
theorem fdE_Ent {oh oh1:OH}(e:EntD):fdE oh oh1 (vEnt e) (tEnt e):=by
 refine⟨rfl,fun j v u h1 h2=>?_⟩
 match j with
 |0=>simp [vEnt,V.cells] at h1;simp [tEnt,T.cells] at h2;subst h1;subst h2;exact Fd1.con _
 |1=>simp [vEnt,V.cells] at h1;simp [tEnt,T.cells] at h2;subst h1;subst h2;exact Fd1.ro _ _ fun h=>Bool.noConfusion h
 |2=>simp [vEnt,V.cells] at h1;simp [tEnt,T.cells] at h2;subst h1;subst h2;exact Fd1.ro _ _ fun h=>Bool.noConfusion h
 |j+3=>simp [vEnt,V.cells] at h1
theorem fd_Es {oh oh1:OH}{id ver len:Nat}{l:List EntD}(ho:oget oh id=some ⟨3,l.map vEnt,ver,true⟩)(hd:oget oh1 id=none)(hn:l.length=len):Fd1 oh oh1 false (.own id ver 0 len) (tEs l):=
 fd_ofL ho hd (by rw [List.length_map];exact hn) (fdL_map fdE_Ent l)
def vPrb (p:PS.PrbD):V:=.agg [.con (.string p.name),.ro false (tSs p.pars),.ro false (tEs p.ents),.ro false (tSs p.prps)]
abbrev PrZ (W:Txt):=PS W×List EntD×List ByteArray×(Nat×Nat)×(Nat×Nat)×Nat
def stPr (W : Txt) (N : Nat) (nm : ByteArray) (pr : List ByteArray) (z : PrZ W) : St :=
  ⟨N, [(0, .ref 0 0 0 0), (2, .ref 1 0 0 0), (3, .ref 2 0 0 0)],
    [(0, ⟨11, [rdV W z.1.at_ z.1.bad z.1.opn], 0, true⟩), (1, ⟨4, [.agg [.con (.string .empty), .emp, .emp, .emp]], 0, true⟩),
     (2, ⟨4, [.agg [.con (.string nm), .ro false (tSs pr), .own 4 z.2.2.2.1.1 0 z.2.2.2.1.2, .own 5 z.2.2.2.2.1.1 0 z.2.2.2.2.1.2]], 0, true⟩),
     (4, ⟨3, z.2.1.map vEnt, z.2.2.2.1.1, true⟩), (5, ⟨1, z.2.2.1.map vS, z.2.2.2.2.1.1, true⟩)]⟩
def prI (R:List EntD×List ByteArray×PS W)(dec:ByteArray→Int×Nat)(z:PrZ W):Prop:=
 z.1.opn=0∧z.1.at_≤W.L.length∧z.2.2.2.1.2=z.2.1.length∧z.2.2.2.2.1.2=z.2.2.1.length∧z.2.2.1.length≤z.1.at_∧z.2.1.length+z.2.2.2.2.2≤W.L.length+2∧
  PS.prbL dec z.2.2.2.2.2 z.2.1 z.2.2.1 z.1=R∧1≤z.2.2.2.2.2∧(z.1.bad=none→W.L.length+1 < z.2.2.2.2.2+z.1.at_)
theorem rPrb_ok {dec:ByteArray→Int×Nat}(hF:Fit W)(hdec:∀t ∈ W.L,t.kind=2→Ok Tryz.prog 102 [tS9 t.text] true (.tup [tNum (dec t.text).1 (dec t.text).2,.con (.int .i64 0)]))
  (σ:PS W) (ho:σ.opn=0) (ha:σ.at_≤W.L.length):OkG Tryz.prog 31 (rdO σ) [] [.ref 0 0 0 0] (rdO (PS.prbD dec σ).2) (vPrb (PS.prbD dec σ).1):=by
 have hL:=hF.len
 have f1:=PS.need_fol 4 PS.kOpen σ
 have c1:=rSign_ok σ PS.kOpen hL
 unfold PS.prbD PS.prbR PS.prb2
 generalize PS.need 4 PS.kOpen σ=s1 at *
 have f2:=PS.take_fol 1 s1
 have c2:=rText_ok s1 1 (by decide) hL
 generalize PS.take 1 s1=r2 at *
 have f3:=PS.prb1_fol r2.2
 have c3:=rComes_ok r2.2 4 (by decide) PS.kBar
 have hbr:r2.2.isB 4 PS.kBar=true→PS.prb1 r2.2=PS.names r2.2.adv:=fun h=>if_pos h
 have hbn:r2.2.isB 4 PS.kBar=false→PS.prb1 r2.2=([],r2.2.settle):=fun h=>if_neg (by rw [h];exact Bool.false_ne_true)
 generalize PS.prb1 r2.2=r3 at *
 have f4:=PS.need_fol 4 PS.kShut r3.2
 have c4:=rSign_ok r3.2 PS.kShut hL
 generalize PS.need 4 PS.kShut r3.2=s4 at *
 have f5:=PS.need_fol 4 PS.kLC s4
 have c5:=rSign_ok s4 PS.kLC hL
 generalize PS.need 4 PS.kLC s4=s5 at *
 have fo:=(((f1.trans f2).trans f3).trans f4).trans f5
 unfold rdO at c1 c2 c3 c4 c5 ⊢
 refine okg_of_ev hC0 mix 1 (zO rfl) Tryz.func31 rfl rfl (by kernel_rfl) (by kernel_rfl) (zO rfl) ?wf ?vs ?po ?le ?_
 case wf=>exact rd_wf _ _ _
 case vs=>exact one_vs rfl
 case po=>exact rd_po _ _ _ _ _ _
 case le=>exact rd_le _ _ _ _ _ _
 repeat'(first|(refine seq_k (a:=Code.seq (Code.region 4 _ _) (Code.cond _ _ _)) Unit (fun _=>⟨Tryz.f31.ntmps,[(0,.ref 0 0 0 0),(2,.ref 1 0 0 0),(3,.ref 2 0 0 0)],[(0,⟨11,[rdV W r3.2.at_ r3.2.bad r3.2.opn],0,true⟩),(1,⟨4,[.agg [.con (.string .empty),.emp,.emp,.emp]],0,true⟩),(2,⟨4,[.agg [.con (.string r2.1),.ro false (tSs r3.1),.emp,.emp]],0,true⟩)]⟩) (fun _=>True) ?_ ?_)|(with_reducible first|(refine zz ?_;try intro K hK)|refine zI ?_|refine zt ?_|refine zf ?_)|((first|refine hK _ ?_|refine hK _ _ rfl ?_);clear hK K)|(guard_hyp hK;first|(refine zY ?zz ?_;case zz=>first|exact rfl|exact gJ)|refine fresh_n ?_|refine freshO_n ?_|refine zW ?_|refine zg ([]) (c1) (rdQ W σ.at_ σ.bad σ.opn) ([]) (rdQ W s1.at_ s1.bad s1.opn) (.tup []) ?_|refine zg ([]) (c2) (rdQ W s1.at_ s1.bad s1.opn) ([]) (rdQ W r2.2.at_ r2.2.bad r2.2.opn) (.con (.string r2.1)) ?_|refine zg ([]) (c3) (rdQ W r2.2.at_ r2.2.bad r2.2.opn) ([]) (rdQ W r2.2.settle.at_ r2.2.settle.bad r2.2.settle.opn) (.con (.bool (r2.2.isB 4 PS.kBar))) ?_|intro b0 hb)|((first|with_reducible refine zm ?_|guard_hyp hK);refine zY ?_ ?_;all_goals(intro hb;(try simp only [sn,sb] at hb);try exact ex0)))
 ·rintro - -
  repeat'(first|(with_reducible first|(refine zz ?_;try intro K hK)|refine zI ?_|refine zt ?_|refine zf ?_)|((first|refine hK _ ?_|refine hK _ _ rfl ?_);clear hK K)|(guard_hyp hK;first|(refine zY ?zz ?_;case zz=>first|exact rfl|exact gJ)|refine fresh_n ?_|refine freshO_n ?_|refine zW ?_|refine zg ([]) (c4) (rdQ W r3.2.at_ r3.2.bad r3.2.opn) ([]) (rdQ W s4.at_ s4.bad s4.opn) (.tup []) ?_|refine zg ([]) (c5) (rdQ W s4.at_ s4.bad s4.opn) ([]) (rdQ W s5.at_ s5.bad s5.opn) (.tup []) ?_|intro b0 hb)|((first|with_reducible refine zm ?_|guard_hyp hK);refine zY ?_ ?_;all_goals(intro hb;(try simp only [sn,sb] at hb);try exact ex0)))
  refine loop_f (PrZ W) (stPr W Tryz.f31.ntmps r2.1 r3.1) (prI (PS.prbL dec (W.L.length+2) [] [] s5) dec) (fun z=>z.2.2.2.2.2) (s5,[],[],(0,0),(0,0),W.L.length+2) ⟨fo.opn.trans ho,fo.hi ha,rfl,rfl,Nat.zero_le _,by simp,rfl,Nat.succ_le_succ (Nat.zero_le _),fun _=>by dsimp only;omega⟩ (lf_of0 ⟨Lc.same _ rfl,Lc.same _ rfl,Lc.same _ rfl,trivial⟩ ⟨lfOb_same rfl (one_flat (rdV_flat _ _ _)),lfOb_one rfl (lv_agg ⟨Lc.same _ trivial,Lc.same _ trivial,Lc.same _ trivial,Lc.same _ trivial,trivial⟩),lfOb_one rfl (lv_agg ⟨Lc.same _ trivial,lc_ro,Lc.adopt 4 _ rfl rfl,Lc.adopt 5 _ rfl rfl,trivial⟩),lfOb_new rfl,lfOb_new rfl,trivial⟩) ?_
  rintro⟨τ,es,ps,⟨ve,ne⟩,⟨vp,np⟩,k⟩ ⟨q1,q2,q3,q4,q5,q6,q7,q8,q9⟩
  dsimp only at q1 q2 q3 q4 q5 q6 q7 q8 q9
  obtain⟨k,rfl⟩:∃j,k=j+1:=⟨k - 1,by omega⟩
  rw [PS.prbL] at q7
  unfold stPr
  dsimp only
  cases hb:τ.bad with
  |some f=>
   have hcf:¬foC (some f)=0:=τ.cod f hb
   rw [hb] at q7
   dsimp only at q7
   rw [← q7]
   dsimp only
   rw [hb]
   repeat'(first|(with_reducible first|(refine zz ?_;try intro K hK)|refine zI ?_|refine zt ?_|refine zf ?_)|((first|refine hK _ ?_|refine hK _ _ rfl ?_);clear hK K)|(guard_hyp hK;first|(refine zY ?zz ?_;case zz=>first|exact rfl|exact gJ)|refine fresh_n ?_|refine freshO_n ?_|refine zW ?_|intro b0 hb)|((first|with_reducible refine zm ?_|guard_hyp hK);refine zY ?_ ?_;all_goals(intro hb;(try simp only [sn,sb] at hb);try exact ex0)))
   exact rd_retw (id:=1) (l':=[.con (.string r2.1),.ro false (tSs r3.1),.ro false (tEs es),.ro false (tSs ps)]) rfl (by decide) tk84 rfl (Nat.zero_lt_succ _) rfl (by decide) rfl ⟨Lc.same _ trivial,lc_ro,Lc.frz false _ (tEs es) (fd_Es rfl rfl q3.symm),Lc.frz false _ (tSs ps) (fd_vS rfl rfl rfl q4.symm),trivial⟩ (dat_con (dat_ro (dat_ro (dat_ro dat_nil)))) rfl (by decide) rfl rfl
  |none=>
   have hz:foC none=0:=rfl
   rw [hb] at q7
   dsimp only at q7
   have d1:=rComes_ok τ 4 (by decide) PS.kRC
   have d2:=rComes_ok τ.settle 1 (by decide) PS.kProp
   rw [isB_settle,settle_settle] at d2
   cases hA:τ.isB 4 PS.kRC with
   |true=>
    obtain⟨t,ht,hk,-⟩:=PS.isB_tok hA
    have hlt:=(PS.tok_at ht).2.2
    have hav:=PS.adv_at ht (by rw [hk];decide)
    rw [hA,if_pos rfl] at q7
    rw [← q7]
    dsimp only
    rw [hav.1,hav.2.1,hav.2.2]
    rw [hA,PS.settle_some ht,rdO_some ht] at d1
    rw [isB_otherk hA (by decide),PS.settle_some ht,rdO_some ht] at d2
    repeat'(first|(with_reducible first|(refine zz ?_;try intro K hK)|refine zI ?_|refine zt ?_|refine zf ?_)|((first|refine hK _ ?_|refine hK _ _ rfl ?_);clear hK K)|(guard_hyp hK;first|(refine zY ?zz ?_;case zz=>first|exact rfl|exact gJ)|refine fresh_n ?_|refine freshO_n ?_|refine zW ?_|refine zg ([]) (d1) (rdQ W τ.at_ none τ.opn) ([]) (rdQ W τ.at_ none τ.opn) (.con (.bool true)) ?_|refine zg ([]) (d2) (rdQ W τ.at_ none τ.opn) ([]) (rdQ W τ.at_ none τ.opn) (.con (.bool false)) ?_|intro b0 hb)|((first|with_reducible refine zm ?_|guard_hyp hK);refine zY ?_ ?_;all_goals(intro hb;(try simp only [sn,sb] at hb);try exact ex0)))
    exact rd_retw (id:=1) (l':=[.con (.string r2.1),.ro false (tSs r3.1),.ro false (tEs es),.ro false (tSs ps)]) rfl (by decide) tk84 rfl (Nat.zero_lt_succ _) rfl (by decide) rfl ⟨Lc.same _ trivial,lc_ro,Lc.frz false _ (tEs es) (fd_Es rfl rfl q3.symm),Lc.frz false _ (tSs ps) (fd_vS rfl rfl rfl q4.symm),trivial⟩ (dat_con (dat_ro (dat_ro (dat_ro dat_nil)))) rfl (by decide) rfl rfl
   |false=>
    rw [hA,if_neg Bool.false_ne_true] at q7
    rw [hA] at d1
    cases hB:τ.isB 1 PS.kProp with
    |true=>
     obtain⟨t,ht,hk,-⟩:=PS.isB_tok hB
     have hlt:=(PS.tok_at ht).2.2
     rw [hB,if_pos rfl] at q7
     rw [PS.settle_some ht,rdO_some ht] at d1
     rw [hB,PS.settle_some ht,rdO_some ht] at d2
     have d3:=rProps_ok τ hL
     have l1:=props_len τ
     have l2:τ.at_+1≤(PS.props τ).2.at_:=propsL_one W.L.length [] hB
     have l3:=PS.props_fol τ
     have l4:=l3.hi q2
     rw [rdO_some ht] at d3
     unfold rdO at d3
     generalize PS.props τ=r9 at *
     have h5:(ps.map vS).take np ++ ((r9.1.map tS9).map (V.ofA false))=(ps ++ r9.1).map vS:=by
      rw [List.take_of_length_le (by rw [List.length_map];omega),List.map_map,List.map_append];rfl
     repeat'(first|(with_reducible first|(refine zz ?_;try intro K hK)|refine zI ?_|refine zt ?_|refine zf ?_)|((first|refine hK _ ?_|refine hK _ _ rfl ?_);clear hK K)|(guard_hyp hK;first|(refine zY ?zz ?_;case zz=>first|exact rfl|exact gJ)|refine fresh_n ?_|refine freshO_n ?_|refine zW ?_|refine zg ([]) (d1) (rdQ W τ.at_ none τ.opn) ([]) (rdQ W τ.at_ none τ.opn) (.con (.bool false)) ?_|refine zg ([]) (d2) (rdQ W τ.at_ none τ.opn) ([]) (rdQ W τ.at_ none τ.opn) (.con (.bool true)) ?_|refine zg ([]) (d3) (rdQ W τ.at_ none τ.opn) ([]) (rdQ W r9.2.at_ r9.2.bad r9.2.opn) (.ro false (tSs r9.1)) ?_|intro b0 hb)|((first|with_reducible refine zm ?_|guard_hyp hK);refine zY ?_ ?_;all_goals(intro hb;(try simp only [sn,sb] at hb);try exact ex0)))
     exact⟨(r9.2,es,ps ++ r9.1,(ve,ne),(vp+1,np+((r9.1.map tS9).map (V.ofA false)).length),k),⟨l3.opn.trans q1,l4,q3,by simp only [List.length_append,List.length_map];omega,by dsimp only;rw [List.length_append];omega,by dsimp only;omega,q7,by dsimp only;have:=q9 hb;omega,fun _=>by dsimp only;have:=q9 hb;omega⟩,Nat.lt_succ_self _,lf_of0 ⟨Lc.same _ rfl,Lc.same _ rfl,Lc.same _ rfl,trivial⟩ ⟨lfOb_same rfl (one_flat (rdV_flat _ _ _)),lfOb_one rfl (lv_agg ⟨Lc.same _ trivial,Lc.same _ trivial,Lc.same _ trivial,Lc.same _ trivial,trivial⟩),lfOb_one rfl (lv_agg ⟨Lc.same _ trivial,lc_ro,Lc.same _ rfl,Lc.same _ rfl,trivial⟩),lfOb_same rfl (vEs_flat _),lfOb_same (congrArg (fun e=>some (⟨1,e,vp+1,true⟩:Obj)) h5) (vS_flat _),trivial⟩⟩
    |false=>
     rw [hB,if_neg Bool.false_ne_true] at q7
     rw [hB] at d2
     have l0:=PS.settle_fol τ
     have d3:=rEnt_ok hF hdec τ.settle (l0.opn.trans q1) (l0.hi q2)
     obtain⟨l3,l5⟩:=PS.entD_fol dec τ.settle
     have l4:=l3.hi (l0.hi q2)
     have l6:=l0.le
     unfold rdO at d1 d2 d3
     rw [hb] at d1
     generalize PS.entD dec τ.settle=r9 at *
     repeat'(first|(with_reducible first|(refine zz ?_;try intro K hK)|refine zI ?_|refine zt ?_|refine zf ?_)|((first|refine hK _ ?_|refine hK _ _ rfl ?_);clear hK K)|(guard_hyp hK;first|(refine zY ?zz ?_;case zz=>first|exact rfl|exact gJ)|refine fresh_n ?_|refine freshO_n ?_|refine zW ?_|refine zg ([]) (d1) (rdQ W τ.at_ none τ.opn) ([]) (rdQ W τ.settle.at_ τ.settle.bad τ.settle.opn) (.con (.bool false)) ?_|refine zg ([]) (d2) (rdQ W τ.settle.at_ τ.settle.bad τ.settle.opn) ([]) (rdQ W τ.settle.at_ τ.settle.bad τ.settle.opn) (.con (.bool false)) ?_|refine zg ([]) (d3) (rdQ W τ.settle.at_ τ.settle.bad τ.settle.opn) ([]) (rdQ W r9.2.at_ r9.2.bad r9.2.opn) (vEnt r9.1) ?_|intro b0 hb)|((first|with_reducible refine zm ?_|guard_hyp hK);refine zY ?_ ?_;all_goals(intro hb;(try simp only [sn,sb] at hb);try exact ex0)))
     exact⟨(r9.2,es ++ [r9.1],ps,(ve+1,ne+1),(vp,np),k),⟨l3.opn.trans (l0.opn.trans q1),l4,by dsimp only;rw [List.length_append,List.length_singleton];omega,q4,by dsimp only;have:=l3.le;omega,by dsimp only;rw [List.length_append,List.length_singleton];omega,q7,by dsimp only;have:=q9 hb;omega,fun h=>by dsimp only;have:=q9 hb;have:=l5 h;omega⟩,Nat.lt_succ_self _,lf_of0 ⟨Lc.same _ rfl,Lc.same _ rfl,Lc.same _ rfl,trivial⟩ ⟨lfOb_same rfl (one_flat (rdV_flat _ _ _)),lfOb_one rfl (lv_agg ⟨Lc.same _ trivial,Lc.same _ trivial,Lc.same _ trivial,Lc.same _ trivial,trivial⟩),lfOb_one rfl (lv_agg ⟨Lc.same _ trivial,lc_ro,Lc.same _ rfl,Lc.same _ rfl,trivial⟩),lfOb_app (F:=vEnt) (l:=es) (a:=r9.1) rfl q3 rfl (fun x _=>vEnt_flat x) (vEnt_flat _).lv,lfOb_same rfl (vS_flat _),trivial⟩⟩
 ·intro R hR
  cases hB:r2.2.isB 4 PS.kBar with
  |true=>
   obtain⟨t,ht,hk,-⟩:=PS.isB_tok hB
   have hlt:=(PS.tok_at ht).2.2
   have hnm:=rNames_ok r2.2.adv hL
   rw [rdO_adv ht (by rw [hk];decide),← hbr hB] at hnm
   unfold rdO at hnm
   rw [PS.settle_some ht,(PS.tok_at ht).1]
   repeat'(first|(with_reducible first|(refine zz ?_;try intro K hK)|refine zI ?_|refine zt ?_|refine zf ?_)|((first|refine hK _ ?_|refine hK _ _ rfl ?_);clear hK K)|(guard_hyp hK;first|(refine zY ?zz ?_;case zz=>first|exact rfl|exact gJ)|refine fresh_n ?_|refine freshO_n ?_|refine zW ?_|refine zg ([]) (hnm) (rdQ W (r2.2.at_+1) none r2.2.opn) ([]) (rdQ W r3.2.at_ r3.2.bad r3.2.opn) (.ro false (tSs r3.1)) ?_|intro b0 hb)|((first|with_reducible refine zm ?_|guard_hyp hK);refine zY ?_ ?_;all_goals(intro hb;(try simp only [sn,sb] at hb);try exact ex0)))
   exact hR _ () trivial (lf_of0 ⟨Lc.same _ rfl,Lc.same _ rfl,Lc.same _ rfl,trivial⟩ ⟨lfOb_same rfl (one_flat (rdV_flat _ _ _)),lfOb_one rfl (lv_agg ⟨Lc.same _ trivial,Lc.same _ trivial,Lc.same _ trivial,Lc.same _ trivial,trivial⟩),lfOb_one rfl (lv_agg ⟨Lc.same _ trivial,lc_ro,Lc.same _ trivial,Lc.same _ trivial,trivial⟩),trivial⟩)
  |false=>
   have e3:=hbn hB
   subst e3
   repeat'(first|(with_reducible first|(refine zz ?_;try intro K hK)|refine zI ?_|refine zt ?_|refine zf ?_)|((first|refine hK _ ?_|refine hK _ _ rfl ?_);clear hK K)|(guard_hyp hK;first|(refine zY ?zz ?_;case zz=>first|exact rfl|exact gJ)|refine fresh_n ?_|refine freshO_n ?_|refine zW ?_|intro b0 hb)|((first|with_reducible refine zm ?_|guard_hyp hK);refine zY ?_ ?_;all_goals(intro hb;(try simp only [sn,sb] at hb);try exact ex0)))
   exact hR _ () trivial (lf_of0 ⟨Lc.same _ rfl,Lc.same _ rfl,Lc.same _ rfl,trivial⟩ ⟨lfOb_same rfl (one_flat (rdV_flat _ _ _)),lfOb_one rfl (lv_agg ⟨Lc.same _ trivial,Lc.same _ trivial,Lc.same _ trivial,Lc.same _ trivial,trivial⟩),lfOb_one rfl (lv_agg ⟨Lc.same _ trivial,lc_emp rfl,Lc.same _ trivial,Lc.same _ trivial,trivial⟩),trivial⟩)
end Go.Ev
