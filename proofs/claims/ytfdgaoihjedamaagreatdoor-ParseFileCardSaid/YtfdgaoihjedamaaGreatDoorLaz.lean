import Derived.Test.YtfdgaoihjedamaaGreatDoorLay
import Derived.Test.YtfdgaoihjedamaaGreatDoorLaf
set_option linter.all false
set_option maxHeartbeats 4000000
set_option maxRecDepth 10000
namespace Go.Ev
open Go.Proofs
section
variable {w : ByteArray} (h : NumOK w)
include h
theorem t_sub {k n:Nat}(hk:k+n=w.size):w.extract k w.size=sub w k n:=by
 unfold sub;rw [hk]
theorem t0_chr (c:numE w):chr (w.extract (numA w+1) w.size) 0=chr w (numA w+1):=by
 obtain⟨h1,h2,h3,h4⟩:=nm_E h c
 rw [ext_chr (by omega)]
theorem k_dig (c:numE w):allDig (w.extract (numK w) w.size)∧decV (bs (w.extract (numK w) w.size))=decXn w∧1≤(w.extract (numK w) w.size).size:=by
 obtain⟨h1,h2,h3,h4⟩:=nm_E h c
 rw [t_sub h h2]
 refine⟨runF_dig (by omega),rfl,?_⟩
 rw [sub_len (Nat.le_of_eq h2)];exact h3
theorem t1_eq (c:numE w)(hk:numK w=numA w+2):(w.extract (numA w+1) w.size).extract 1 (w.extract (numA w+1) w.size).size=w.extract (numK w) w.size:=by
 refine bs_ext ?_
 obtain⟨h1,h2,h3,h4⟩:=nm_E h c
 rw [ext_bs,t0_len h c,ext_bs,ext_bs,List.drop_take,List.drop_drop,List.take_take,hk]
 congr 1
 omega
theorem t_facts (c:numE w):∃(U U1:ByteArray),U=w.extract (numA w+1) w.size∧0 < U.size∧
  (((chr U 0).toNat=45∨(chr U 0).toNat=43)→U1=U.extract 1 U.size)∧(¬((chr U 0).toNat=45∨(chr U 0).toNat=43)→U1=U)∧
  allDig U1∧decV (bs U1)=decXn w∧1≤U1.size∧U1.size≤w.size∧decX w=(if(chr U 0).toNat=45 then -(decXn w:Int) else decXn w):=by
 obtain⟨h1,h2,h3,h4⟩:=nm_E h c
 obtain⟨k1,k2,k3⟩:=k_dig h c
 have hl:=t0_len h c
 have hX:decX w=(if(chr w (numA w+1)).toNat=45 then -(decXn w:Int) else decXn w):=if_pos c
 refine⟨w.extract (numA w+1) w.size,w.extract (numK w) w.size,rfl,by omega,fun e=>?_,fun e=>?_,k1,k2,k3,by rw [ext_len (Nat.le_refl _)];omega,by rw [t0_chr h c];exact hX⟩
 ·rw [t0_chr h c] at e
  exact(t1_eq h c (if_pos (e.elim .inr .inl))).symm
 ·rw [t0_chr h c] at e
  have hK:numK w=numA w+1:=if_neg (fun e2=>e (e2.elim .inr .inl))
  rw [hK]
end
theorem wT {a b:ByteArray}(h:a=b):V.con (.string a)=V.con (.string b):=by rw [h]
theorem rDec_ok (w:ByteArray)(h:NumOK w)(hw:w.size≤100000):Ok Tryz.prog 102 [tS9 w] true (.tup [tNum (decQ w).1 (decQ w).2,.con (.int .i64 0)]):=by
 have hpos:=h.pos
 have hd0:=h.dig
 unfold isDig at hd0
 simp only [Bool.and_eq_true,decide_eq_true_eq] at hd0
 have hA:=numA_le (s:=w)
 have c1:=rfind_ok w 101 69 (numA w) (by omega) hA (fun j hj=>nm_noE h hj) (fun hlt=>by
  by_cases c:numE w
  ·exact c.1.elim (fun e=>.inl (UInt8.toNat_inj.1 e)) (fun e=>.inr (UInt8.toNat_inj.1 e))
  ·have:=nm_N h c;omega)
 refine ok_of_ev hC0 mix Tryz.func102 rfl rfl (by kernel_rfl) (zO rfl) ?_
 repeat'(first|(first|(refine at_s (s:=w) (i:=0) ?_ hpos;intro hu)|refine seq_j (a:=Code.seq (Code.region 6 _ _) (Code.cond _ _ _)) Unit (fun _=>stD1 Tryz.f102.ntmps w (numA w) (decX w)) (fun _=>True) ?_ ?_)|(with_reducible first|(refine zz ?_;try intro K hK)|refine zI ?_|refine zt ?_|refine zf ?_)|((first|refine hK _ ?_|refine hK _ _ rfl ?_);clear hK K)|(guard_hyp hK;first|(refine zY ?zz ?_;case zz=>first|exact rfl|exact gJ)|refine fresh_n ?_|refine freshO_n ?_|refine zW ?_|(refine zQ (c1) ?_)|intro b0 hb)|((first|with_reducible refine zm ?_|guard_hyp hK);refine zY ?_ ?_;all_goals(intro hb;(try simp only [sn,sb] at hb);try exact ex0)))
 ·rintro - -
  have q1:=nm_pos h
  have q2:=nm_A h
  have q3:=nm_le h
  obtain⟨S0,hS0⟩:∃S,S=w.extract 0 (numA w):=⟨_,rfl⟩
  obtain⟨AH,hAH⟩:∃S,S=S0.extract 0 (nmA w):=⟨_,rfl⟩
  obtain⟨BH,hBH⟩:∃S,S=behS w:=⟨_,rfl⟩
  have l0:S0.size=numA w:=by rw [hS0];exact s0_len h
  have l1:AH.size=nmA w:=by rw [hAH,hS0];exact ahd_len h
  have l2:BH.size=nmB w:=by rw [hBH];exact beh_len h
  have g1:allDig AH:=by rw [hAH,hS0];exact ahd_dig h
  have g2:allDig BH:=by rw [hBH];exact beh_dig h
  have hP:natP (AH ++ BH)=some (decV (decMl w)):=by rw [hAH,hBH,hS0];exact nat_all h
  have hML:(decMl w).length≤100000:=by
   have e:=all_bs h
   rw [← hS0,← hAH,← hBH] at e
   rw [← e,bs_len,ByteArray.size_append,l1,l2]
   by_cases c:ptB w
   ·rw [if_pos c] at q2;omega
   ·rw [if_neg c] at q2;unfold nmB;rw [if_neg c];omega
  have hmv:=decV_len (decMl w)
  have hM:decV (decMl w) < 256 ^ (decMl w).length:=by have:=decV_lt (decMl w) 0;rw [Nat.zero_add,Nat.one_mul] at this;exact this
  have c4:=rfind_ok S0 46 46 (nmA w) (by omega) (by omega) (fun j hj=>by
   have hd:=nm_dig h hj
   rw [hS0,s0_chr h (by omega)]
   unfold isDig at hd
   simp only [Bool.and_eq_true,decide_eq_true_eq] at hd
   have:chr w j≠46:=fun e=>by rw [e] at hd;exact absurd hd.1 (by decide)
   exact⟨this,this⟩) (fun hlt=>by
   rw [hS0,s0_chr h (by omega)]
   by_cases c:ptB w
   ·exact .inl (UInt8.toNat_inj.1 (nm_pt h c).1)
   ·rw [if_neg c] at q2;omega)
  have hBt:ptB w→nmA w < S0.size∧BH=S0.extract (nmA w+1) S0.size∧1≤BH.size:=fun c=>by
   have:=(nm_pt h c).2
   rw [if_pos c] at q2
   exact⟨by omega,by rw [hBH,hS0];exact if_pos c,by omega⟩
  have hBf:¬ptB w→nmA w=S0.size∧BH=⟨#[]⟩:=fun c=>by
   rw [if_neg c] at q2
   exact⟨by omega,by rw [hBH];exact if_neg c⟩
  have hXb : -1000≤decX w∧decX w≤1000:=by
   unfold decX
   by_cases c:numE w
   ·have:=(nm_E h c).2.2.2
    rw [if_pos c];split<;>omega
   ·rw [if_neg c];omega
  have hb0:nmB w≤100000:=by
   by_cases c:ptB w
   ·rw [if_pos c] at q2;omega
   ·unfold nmB;rw [if_neg c];omega
  have d3:=rdigs_ok AH (by omega) (by omega) g1
  have dP:=rParse_ok (AH ++ BH) (by rw [ByteArray.size_append];omega)
  rw [hP] at dP
  have e1:(decQ w).1=qz (decPn w) (decPd w):=rfl
  have e2:(decQ w).2=qd (decPn w) (decPd w):=rfl
  rw [e1,e2]
  have e3:0≤decX w - nmB w→decPn w=decV (decMl w) * 10 ^ (decX w - nmB w).toNat∧decPd w=1:=fun c=>⟨if_pos c,if_pos c⟩
  have e4:¬0≤decX w - nmB w→decPn w=decV (decMl w)∧decPd w=10 ^ (-(decX w - nmB w)).toNat:=fun c=>⟨if_neg c,if_neg c⟩
  unfold stD1
  rw [← hS0]
  clear c1 hBH hS0 g1 hP e1 e2
  generalize decV (decMl w)=M at *
  generalize decPn w=Pn at *
  generalize decPd w=Pd at *
  generalize decX w=X9 at *
  generalize nmB w=b9 at *
  generalize nmA w=a9 at *
  repeat'(first|(refine seq_j (a:=Code.seq (Code.region 24 _ _) (Code.cond _ _ _)) Unit (fun _=>stD2 Tryz.f102.ntmps X9 AH BH) (fun _=>True) ?_ ?_)|(with_reducible first|(refine zz ?_;try intro K hK)|refine zI ?_|refine zt ?_|refine zf ?_)|((first|refine hK _ ?_|refine hK _ _ rfl ?_);clear hK K)|(guard_hyp hK;first|(refine zY ?zz ?_;case zz=>first|exact rfl|exact gJ)|refine fresh_n ?_|refine freshO_n ?_|refine zW ?_|(refine zQ (c4) ?_)|intro b0 hb)|((first|with_reducible refine zm ?_|guard_hyp hK);refine zY ?_ ?_;all_goals(intro hb;(try simp only [sn,sb] at hb);try exact ex0)))
  ·rintro - -
   unfold stD2
   by_cases hs:0≤X9 - b9
   ·obtain⟨e5,e6⟩:=e3 hs
    have hsub:(((X9 - b9).toNat:Nat):Int)=IntKind.i64.wrap (X9 - (BH.size:Int)):=by
     rw [l2,Int.toNat_of_nonneg hs]
     exact wrapAny (by simp only [kmin];omega) (by simp only [kmax];omega)
    have hn:(X9 - b9).toNat≤1000:=by omega
    rw [e5,e6]
    generalize (X9 - b9).toNat=n0 at *
    have p1:=pow10_le n0
    have t1:=rTen_ok n0 (by omega)
    have t2:=rMul_ok (lm M) (lm (10 ^ n0)) (by omega) (by omega)
    rw [val_lm,val_lm] at t2
    have hml:(lm (M * 10 ^ n0)).length≤200000:=by
     have h8:M * 10 ^ n0 < 4294967296 ^ ((decMl w).length+n0):=by
      rw [Nat.pow_add]
      refine Nat.lt_of_lt_of_le (Nat.mul_lt_mul_of_pos_right hM (Nat.pow_pos (by decide))) (Nat.mul_le_mul (Nat.pow_le_pow_left (by decide) _) (Nat.pow_le_pow_left (by decide) _))
     exact Nat.le_trans (lm_len h8) (by omega)
    have t3:=rLow4_ok (M * 10 ^ n0) 1 (by decide) (by omega) (by rw [lm_one];decide)
    repeat'(first|(guard_hyp hK;refine Exists.intro _ (And.intro hsub ?_))|(with_reducible first|(refine zz ?_;try intro K hK)|refine zI ?_|refine zt ?_|refine zf ?_)|((first|refine hK _ ?_|refine hK _ _ rfl ?_);clear hK K)|(guard_hyp hK;first|(refine zY ?zz ?_;case zz=>first|exact rfl|exact gJ)|refine fresh_n ?_|refine freshO_n ?_|refine zW ?_|(refine zQ (d3) ?_)|(refine zQ (dP) ?_)|(refine zQ (t1) ?_)|(refine zQ (t2) ?_)|(refine' Or.inl (Exists.intro _ (Exists.intro _ (Exists.intro _ (And.intro (t3) (Exists.intro [(1,_)] (And.intro (lpre1 ?lh) (And.intro ?lz (And.intro rfl ?_))))))));(case lh=>exact rfl);(case lz=>exact fz_l3 (fz_con rfl) (fz_ro rfl (fun _=>rfl)) (fz_cu1 rfl)))|intro b0 hb)|((first|with_reducible refine zm ?_|guard_hyp hK);refine zY ?_ ?_;all_goals(intro hb;(try simp only [sn,sb] at hb);try exact ex0)))
    exact ret_ct (l2:=[.con (.bool (decide (qz ((M * 10 ^ n0:Nat):Int) 1 < 0))),.ro true (tn (lm (qz ((M * 10 ^ n0:Nat):Int) 1).natAbs)),.ro true (tn (lm (qd ((M * 10 ^ n0:Nat):Int) 1)))]) rfl tk40 rfl (Nat.zero_lt_succ _) rfl rfl (fz_num _ _) rfl
   ·obtain⟨e5,e6⟩:=e4 hs
    have hneg:(((-(X9 - b9)).toNat:Nat):Int)=IntKind.i64.wrap (0 - (X9 - (BH.size:Int))):=by
     rw [l2,Int.toNat_of_nonneg (by omega)]
     rw [show(0 - (X9 - (b9:Int))) = -(X9 - b9) by omega]
     exact wrapAny (by simp only [kmin];omega) (by simp only [kmax];omega)
    have hn:(-(X9 - b9)).toNat≤200000:=by omega
    rw [e5,e6]
    generalize (-(X9 - b9)).toNat=n0 at *
    have p1:=pow10_le n0
    have t1:=rTen_ok n0 (by omega)
    have t3:=rLow4_ok M (10 ^ n0) (Nat.ne_of_gt (Nat.pow_pos (by decide))) (by omega) (by omega)
    repeat'(first|(guard_hyp hK;refine Exists.intro _ (And.intro hneg ?_))|(with_reducible first|(refine zz ?_;try intro K hK)|refine zI ?_|refine zt ?_|refine zf ?_)|((first|refine hK _ ?_|refine hK _ _ rfl ?_);clear hK K)|(guard_hyp hK;first|(refine zY ?zz ?_;case zz=>first|exact rfl|exact gJ)|refine fresh_n ?_|refine freshO_n ?_|refine zW ?_|(refine zQ (d3) ?_)|(refine zQ (dP) ?_)|(refine zQ (t1) ?_)|(refine zQ (t3) ?_)|intro b0 hb)|((first|with_reducible refine zm ?_|guard_hyp hK);refine zY ?_ ?_;all_goals(intro hb;(try simp only [sn,sb] at hb);try exact ex0)))
    exact ret_ct (l2:=[.con (.bool (decide (qz (M:Int) (10 ^ n0) < 0))),.ro true (tn (lm (qz (M:Int) (10 ^ n0)).natAbs)),.ro true (tn (lm (qd (M:Int) (10 ^ n0))))]) rfl tk40 rfl (Nat.zero_lt_succ _) rfl rfl (fz_num _ _) rfl
  ·intro R2 hR2
   by_cases c:ptB w
   ·obtain⟨b1,b2,b3⟩:=hBt c
    have d4:=rdigs_ok BH (by omega) b3 g2
    rw [b2] at d4
    repeat'(first|(with_reducible first|(refine zz ?_;try intro K hK)|refine zI ?_|refine zt ?_|refine zf ?_)|((first|refine hK _ ?_|refine hK _ _ rfl ?_);clear hK K)|(guard_hyp hK;first|(refine zY ?zz ?_;case zz=>first|exact rfl|exact gJ)|refine fresh_n ?_|refine freshO_n ?_|refine zW ?_|(refine zQ (d4) ?_)|intro b0 hb)|((first|with_reducible refine zm ?_|guard_hyp hK);refine zY ?_ ?_;all_goals(intro hb;(try simp only [sn,sb] at hb);try exact ex0)))
    exact hR2 _ () trivial ⟨rfl,⟨rfl,rfl,rfl,trivial,rfl,trivial,wT hAH.symm,trivial,wT b2.symm,trivial,trivial⟩,⟨rfl,trivial⟩,⟨bxR_cl _,trivial⟩⟩
   ·obtain⟨b1,b2⟩:=hBf c
    repeat'(first|(with_reducible first|(refine zz ?_;try intro K hK)|refine zI ?_|refine zt ?_|refine zf ?_)|((first|refine hK _ ?_|refine hK _ _ rfl ?_);clear hK K)|(guard_hyp hK;first|(refine zY ?zz ?_;case zz=>first|exact rfl|exact gJ)|refine fresh_n ?_|refine freshO_n ?_|refine zW ?_|intro b0 hb)|((first|with_reducible refine zm ?_|guard_hyp hK);refine zY ?_ ?_;all_goals(intro hb;(try simp only [sn,sb] at hb);try exact ex0)))
    exact hR2 _ () trivial ⟨rfl,⟨rfl,rfl,rfl,trivial,rfl,trivial,wT hAH.symm,trivial,wT b2.symm,trivial,trivial⟩,⟨rfl,trivial⟩,⟨bxR_cl _,trivial⟩⟩
 ·intro R hR
  by_cases c:numE w
  ·obtain⟨-,-,-,h4⟩:=nm_E h c
   have hlt:numA w < w.size:=by
    obtain⟨h1,h2,h3,-⟩:=nm_E h c
    omega
   obtain⟨U,U1,e0,l0,e1,e2,k1,k2,k3,k4,hX⟩:=t_facts h c
   have d1:=rdigs_ok U1 (by omega) k3 k1
   have d2:=rsmall_ok U1 (by omega) k1 (by rw [k2];exact h4)
   rw [k2] at d2
   clear c1 h c
   generalize numA w=A9 at *
   generalize decX w=X9 at *
   generalize decXn w=Y9 at *
   have h45:(((chr w 0).toNat:Int) == 45)=false:=beq_eq_false_iff_ne.2 (by omega)
   repeat'(first|(refine seq_j (a:=Code.region 7 _ _) Unit (fun _=>⟨Tryz.f102.ntmps,[(0,.con (.string w)),(2,.ref 0 0 0 0),(4,.con (.bool false)),(5,.con (.int .i64 A9)),(7,.con (.string U))],[(0,bxR)]⟩) (fun _=>True) ?_ ?_)|(with_reducible first|(refine zz ?_;try intro K hK)|refine zI ?_|refine zt ?_|refine zf ?_)|((first|refine hK _ ?_|refine hK _ _ rfl ?_);clear hK K)|(guard_hyp hK;first|(refine zY ?zz ?_;case zz=>first|exact rfl|exact gJ)|refine fresh_n ?_|refine freshO_n ?_|refine zW ?_|intro b0 hb)|((first|with_reducible refine zm ?_|guard_hyp hK);refine zY ?_ ?_;all_goals(intro hb;(try simp only [sn,sb] at hb);try exact ex0)))
   ·rintro - -
    by_cases c45:(chr U 0).toNat=45
    ·have e3:=e1 (.inl c45)
     rw [if_pos c45] at hX
     repeat'(first|(first|(refine at_s (s:=U) (i:=0) ?_ l0;intro hu)|refine seq_j (a:=Code.seq (Code.region 9 _ _) (Code.cond _ _ _)) Unit (fun _=>⟨Tryz.f102.ntmps,[(0,.con (.string w)),(2,.ref 0 0 0 0),(4,.con (.bool false)),(5,.con (.int .i64 A9)),(7,.con (.string U1)),(8,.con (.bool true))],[(0,bxR)]⟩) (fun _=>True) ?_ ?_)|(with_reducible first|(refine zz ?_;try intro K hK)|refine zI ?_|refine zt ?_|refine zf ?_)|((first|refine hK _ ?_|refine hK _ _ rfl ?_);clear hK K)|(guard_hyp hK;first|(refine zY ?zz ?_;case zz=>first|exact rfl|exact gJ)|refine fresh_n ?_|refine freshO_n ?_|refine zW ?_|intro b0 hb)|((first|with_reducible refine zm ?_|guard_hyp hK);refine zY ?_ ?_;all_goals(intro hb;(try simp only [sn,sb] at hb);try exact ex0)))
     ·rintro - -
      repeat'(first|(with_reducible first|(refine zz ?_;try intro K hK)|refine zI ?_|refine zt ?_|refine zf ?_)|((first|refine hK _ ?_|refine hK _ _ rfl ?_);clear hK K)|(guard_hyp hK;first|(refine zY ?zz ?_;case zz=>first|exact rfl|exact gJ)|refine fresh_n ?_|refine freshO_n ?_|refine zW ?_|(refine zQ (d1) ?_)|(refine zQ (d2) ?_)|intro b0 hb)|((first|with_reducible refine zm ?_|guard_hyp hK);refine zY ?_ ?_;all_goals(intro hb;(try simp only [sn,sb] at hb);try exact ex0)))
      exact hR _ () trivial ⟨rfl,⟨rfl,trivial,rfl,rfl,rfl,trivial,congrArg (fun x=>V.con (.int .i64 x)) (show(0 - (Y9:Int))=X9 by omega),trivial,trivial⟩,⟨rfl,trivial⟩,⟨bxR_cl _,trivial⟩⟩
     ·intro R3 hR3
      repeat'(first|((refine at_s (s:=U) (i:=0) ?_ l0;intro hu))|(with_reducible first|(refine zz ?_;try intro K hK)|refine zI ?_|refine zt ?_|refine zf ?_)|((first|refine hK _ ?_|refine hK _ _ rfl ?_);clear hK K)|(guard_hyp hK;first|(refine zY ?zz ?_;case zz=>first|exact rfl|exact gJ)|refine fresh_n ?_|refine freshO_n ?_|refine zW ?_|intro b0 hb)|((first|with_reducible refine zm ?_|guard_hyp hK);refine zY ?_ ?_;all_goals(intro hb;(try simp only [sn,sb] at hb);try exact ex0)))
      exact hR3 _ () trivial ⟨rfl,⟨rfl,trivial,rfl,rfl,rfl,trivial,rfl,trivial,wT e3.symm,trivial,congrArg (fun b=>V.con (.bool b)) (beq_iff_eq.2 (by omega)),trivial,trivial⟩,⟨rfl,trivial⟩,⟨bxR_cl _,trivial⟩⟩
    ·rw [if_neg c45] at hX
     by_cases c43:(chr U 0).toNat=43
     ·have e3:=e1 (.inr c43)
      repeat'(first|(first|(refine at_s (s:=U) (i:=0) ?_ l0;intro hu)|refine seq_j (a:=Code.seq (Code.region 9 _ _) (Code.cond _ _ _)) Unit (fun _=>⟨Tryz.f102.ntmps,[(0,.con (.string w)),(2,.ref 0 0 0 0),(4,.con (.bool false)),(5,.con (.int .i64 A9)),(7,.con (.string U1)),(8,.con (.bool false))],[(0,bxR)]⟩) (fun _=>True) ?_ ?_)|(with_reducible first|(refine zz ?_;try intro K hK)|refine zI ?_|refine zt ?_|refine zf ?_)|((first|refine hK _ ?_|refine hK _ _ rfl ?_);clear hK K)|(guard_hyp hK;first|(refine zY ?zz ?_;case zz=>first|exact rfl|exact gJ)|refine fresh_n ?_|refine freshO_n ?_|refine zW ?_|intro b0 hb)|((first|with_reducible refine zm ?_|guard_hyp hK);refine zY ?_ ?_;all_goals(intro hb;(try simp only [sn,sb] at hb);try exact ex0)))
      ·rintro - -
       repeat'(first|(with_reducible first|(refine zz ?_;try intro K hK)|refine zI ?_|refine zt ?_|refine zf ?_)|((first|refine hK _ ?_|refine hK _ _ rfl ?_);clear hK K)|(guard_hyp hK;first|(refine zY ?zz ?_;case zz=>first|exact rfl|exact gJ)|refine fresh_n ?_|refine freshO_n ?_|refine zW ?_|(refine zQ (d1) ?_)|(refine zQ (d2) ?_)|intro b0 hb)|((first|with_reducible refine zm ?_|guard_hyp hK);refine zY ?_ ?_;all_goals(intro hb;(try simp only [sn,sb] at hb);try exact ex0)))
       exact hR _ () trivial ⟨rfl,⟨rfl,trivial,rfl,rfl,rfl,trivial,congrArg (fun x=>V.con (.int .i64 x)) (show(Y9:Int)=X9 by omega),trivial,trivial⟩,⟨rfl,trivial⟩,⟨bxR_cl _,trivial⟩⟩
      ·intro R3 hR3
       repeat'(first|((refine at_s (s:=U) (i:=0) ?_ l0;intro hu))|(with_reducible first|(refine zz ?_;try intro K hK)|refine zI ?_|refine zt ?_|refine zf ?_)|((first|refine hK _ ?_|refine hK _ _ rfl ?_);clear hK K)|(guard_hyp hK;first|(refine zY ?zz ?_;case zz=>first|exact rfl|exact gJ)|refine fresh_n ?_|refine freshO_n ?_|refine zW ?_|intro b0 hb)|((first|with_reducible refine zm ?_|guard_hyp hK);refine zY ?_ ?_;all_goals(intro hb;(try simp only [sn,sb] at hb);try exact ex0)))
       exact hR3 _ () trivial ⟨rfl,⟨rfl,trivial,rfl,rfl,rfl,trivial,rfl,trivial,wT e3.symm,trivial,congrArg (fun b=>V.con (.bool b)) (beq_eq_false_iff_ne.2 (by omega)),trivial,trivial⟩,⟨rfl,trivial⟩,⟨bxR_cl _,trivial⟩⟩
     ·have e3:=e2 (fun h=>h.elim c45 c43)
      repeat'(first|(first|(refine at_s (s:=U) (i:=0) ?_ l0;intro hu)|refine seq_j (a:=Code.seq (Code.region 9 _ _) (Code.cond _ _ _)) Unit (fun _=>⟨Tryz.f102.ntmps,[(0,.con (.string w)),(2,.ref 0 0 0 0),(4,.con (.bool false)),(5,.con (.int .i64 A9)),(7,.con (.string U1)),(8,.con (.bool false))],[(0,bxR)]⟩) (fun _=>True) ?_ ?_)|(with_reducible first|(refine zz ?_;try intro K hK)|refine zI ?_|refine zt ?_|refine zf ?_)|((first|refine hK _ ?_|refine hK _ _ rfl ?_);clear hK K)|(guard_hyp hK;first|(refine zY ?zz ?_;case zz=>first|exact rfl|exact gJ)|refine fresh_n ?_|refine freshO_n ?_|refine zW ?_|intro b0 hb)|((first|with_reducible refine zm ?_|guard_hyp hK);refine zY ?_ ?_;all_goals(intro hb;(try simp only [sn,sb] at hb);try exact ex0)))
      ·rintro - -
       repeat'(first|(with_reducible first|(refine zz ?_;try intro K hK)|refine zI ?_|refine zt ?_|refine zf ?_)|((first|refine hK _ ?_|refine hK _ _ rfl ?_);clear hK K)|(guard_hyp hK;first|(refine zY ?zz ?_;case zz=>first|exact rfl|exact gJ)|refine fresh_n ?_|refine freshO_n ?_|refine zW ?_|(refine zQ (d1) ?_)|(refine zQ (d2) ?_)|intro b0 hb)|((first|with_reducible refine zm ?_|guard_hyp hK);refine zY ?_ ?_;all_goals(intro hb;(try simp only [sn,sb] at hb);try exact ex0)))
       exact hR _ () trivial ⟨rfl,⟨rfl,trivial,rfl,rfl,rfl,trivial,congrArg (fun x=>V.con (.int .i64 x)) (show(Y9:Int)=X9 by omega),trivial,trivial⟩,⟨rfl,trivial⟩,⟨bxR_cl _,trivial⟩⟩
      ·intro R3 hR3
       repeat'(first|((refine at_s (s:=U) (i:=0) ?_ l0;intro hu))|(with_reducible first|(refine zz ?_;try intro K hK)|refine zI ?_|refine zt ?_|refine zf ?_)|((first|refine hK _ ?_|refine hK _ _ rfl ?_);clear hK K)|(guard_hyp hK;first|(refine zY ?zz ?_;case zz=>first|exact rfl|exact gJ)|refine fresh_n ?_|refine freshO_n ?_|refine zW ?_|intro b0 hb)|((first|with_reducible refine zm ?_|guard_hyp hK);refine zY ?_ ?_;all_goals(intro hb;(try simp only [sn,sb] at hb);try exact ex0)))
       exact hR3 _ () trivial ⟨rfl,⟨rfl,trivial,rfl,rfl,rfl,trivial,rfl,trivial,wT e3.symm,trivial,congrArg (fun b=>V.con (.bool b)) (beq_eq_false_iff_ne.2 (by omega)),trivial,trivial⟩,⟨rfl,trivial⟩,⟨bxR_cl _,trivial⟩⟩
   ·intro R2 hR2
    repeat'(first|(with_reducible first|(refine zz ?_;try intro K hK)|refine zI ?_|refine zt ?_|refine zf ?_)|((first|refine hK _ ?_|refine hK _ _ rfl ?_);clear hK K)|(guard_hyp hK;first|(refine zY ?zz ?_;case zz=>first|exact rfl|exact gJ)|refine fresh_n ?_|refine freshO_n ?_|refine zW ?_|intro b0 hb)|((first|with_reducible refine zm ?_|guard_hyp hK);refine zY ?_ ?_;all_goals(intro hb;(try simp only [sn,sb] at hb);try exact ex0)))
    exact hR2 _ () trivial ⟨rfl,⟨rfl,trivial,rfl,rfl,congrArg (fun b=>V.con (.bool b)) h45,trivial,rfl,trivial,wT e0.symm,trivial,trivial⟩,⟨rfl,trivial⟩,⟨bxR_cl _,trivial⟩⟩
  ·have hN:=nm_N h c
   have hX:(0:Int)=decX w:=(if_neg c).symm
   have e0:w=w.extract 0 (numA w):=by
    refine bs_ext ?_
    rw [ext_bs,hN,List.drop_zero,Nat.sub_zero,List.take_of_length_le (Nat.le_of_eq (bs_len w))]
   have h45:(((chr w 0).toNat:Int) == 45)=false:=beq_eq_false_iff_ne.2 (by omega)
   generalize numA w=A9 at *
   generalize decX w=X9 at *
   repeat'(first|(with_reducible first|(refine zz ?_;try intro K hK)|refine zI ?_|refine zt ?_|refine zf ?_)|((first|refine hK _ ?_|refine hK _ _ rfl ?_);clear hK K)|(guard_hyp hK;first|(refine zY ?zz ?_;case zz=>first|exact rfl|exact gJ)|refine fresh_n ?_|refine freshO_n ?_|refine zW ?_|intro b0 hb)|((first|with_reducible refine zm ?_|guard_hyp hK);refine zY ?_ ?_;all_goals(intro hb;(try simp only [sn,sb] at hb);try exact ex0)))
   exact hR _ () trivial ⟨rfl,⟨wT e0,trivial,rfl,rfl,congrArg (fun b=>V.con (.bool b)) h45,trivial,congrArg (fun x=>V.con (.int .i64 x)) hX,trivial,trivial⟩,⟨rfl,trivial⟩,⟨bxR_cl _,trivial⟩⟩
structure Kn (W v1 v2 vl top u2 ul V U:Nat):Prop where
 v:V=vl+W * v2+4294967296 * (W * v1)
 u:U=ul+W * u2+4294967296 * (W * top)
 vl:vl < W
 ul:ul < W
 v2:v2 < 4294967296
 u2:u2 < 4294967296
 v1:1≤v1
theorem Kn.low {W v1 v2 vl top u2 ul V U:Nat}(h:Kn W v1 v2 vl top u2 ul V U):vl+W * v2 < 4294967296 * W∧ul+W * u2 < 4294967296 * W:=by
 have h1:W * (v2+1)≤W * 4294967296:=Nat.mul_le_mul_left _ h.v2
 have h2:W * (u2+1)≤W * 4294967296:=Nat.mul_le_mul_left _ h.u2
 rw [Nat.mul_add,Nat.mul_one] at h1 h2
 have:=h.vl
 have:=h.ul
 omega
theorem Kn.up {W v1 v2 vl top u2 ul V U q:Nat}(h:Kn W v1 v2 vl top u2 ul V U)(hq:q * V≤U):q * v1≤top:=by
 rcases Nat.lt_or_ge top (q * v1) with h1|h1
 ·exfalso
  have h2:W * (top+1)≤W * (q * v1):=Nat.mul_le_mul_left _ h1
  have h3:q * (4294967296 * (W * v1))≤q * V:=Nat.mul_le_mul_left _ (by rw [h.v];omega)
  have e1:q * (4294967296 * (W * v1))=4294967296 * (W * (q * v1)):=by ac_rfl
  have h4:=h.low.2
  have h5:=h.u
  rw [Nat.mul_add,Nat.mul_one] at h2
  omega
 ·exact h1
theorem Kn.less {W v1 v2 vl top u2 ul V U q g r:Nat}(h:Kn W v1 v2 vl top u2 ul V U)(hq:q * V≤U)(hg:g * v1+r=top)(hl:r * 4294967296+u2 < g * v2):q+1≤g:=by
 rcases Nat.lt_or_ge q g with h1|h1
 ·exact h1
 ·exfalso
  have h2:g * V≤q * V:=Nat.mul_le_mul_right _ h1
  have h3:W * (r * 4294967296+u2+1)≤W * (g * v2):=Nat.mul_le_mul_left _ hl
  have e1:g * V=g * vl+W * (g * v2)+4294967296 * (W * (g * v1)):=by
   rw [h.v,Nat.mul_add,Nat.mul_add]
   have a1:g * (W * v2)=W * (g * v2):=by ac_rfl
   have a2:g * (4294967296 * (W * v1))=4294967296 * (W * (g * v1)):=by ac_rfl
   rw [a1,a2]
  have e2:W * top=W * (g * v1)+W * r:=by rw [← hg,Nat.mul_add]
  have e3:W * (r * 4294967296+u2+1)=4294967296 * (W * r)+W * u2+W:=by
   rw [Nat.mul_add,Nat.mul_add,Nat.mul_one]
   have:W * (r * 4294967296)=4294967296 * (W * r):=by ac_rfl
   rw [this]
  have h5:=h.u
  have h6:=h.ul
  omega
theorem Kn.last {W v1 v2 vl top u2 ul V U g r:Nat}(h:Kn W v1 v2 vl top u2 ul V U)(hg:g * v1+r=top)(hb:g < 4294967296)(hl:4294967296≤r∨g * v2≤r * 4294967296+u2):g * V≤U+V:=by
 have e1:g * V=g * vl+W * (g * v2)+4294967296 * (W * (g * v1)):=by
  rw [h.v,Nat.mul_add,Nat.mul_add]
  have a1:g * (W * v2)=W * (g * v2):=by ac_rfl
  have a2:g * (4294967296 * (W * v1))=4294967296 * (W * (g * v1)):=by ac_rfl
  rw [a1,a2]
 have e2:W * top=W * (g * v1)+W * r:=by rw [← hg,Nat.mul_add]
 have h5:=h.u
 have h6:=h.v
 rcases hl with hl|hl
 ·have h1:g * (vl+W * v2)≤4294967296 * (4294967296 * W):=Nat.mul_le_mul (Nat.le_of_lt hb) (Nat.le_of_lt h.low.1)
  have e3:g * (vl+W * v2)=g * vl+W * (g * v2):=by
   rw [Nat.mul_add]
   have a1:g * (W * v2)=W * (g * v2):=by ac_rfl
   rw [a1]
  have h2:W * 4294967296≤W * r:=Nat.mul_le_mul_left _ hl
  omega
 ·have h1:W * (g * v2)≤W * (r * 4294967296+u2):=Nat.mul_le_mul_left _ hl
  have e3:W * (r * 4294967296+u2)=4294967296 * (W * r)+W * u2:=by
   rw [Nat.mul_add]
   have:W * (r * 4294967296)=4294967296 * (W * r):=by ac_rfl
   rw [this]
  have h2:g * vl≤4294967296 * W:=Nat.mul_le_mul (Nat.le_of_lt hb) (Nat.le_of_lt h.vl)
  have h3:W * 1≤W * v1:=Nat.mul_le_mul_left _ h.v1
  omega
theorem dig_eq {U V g:Nat}(h1:g * V≤U)(h2:U < (g+1) * V):g=U / V:=by
 have hv:0 < V:=by
  rcases Nat.eq_zero_or_pos V with h|h
  ·rw [h] at h2;simp at h2
  ·exact h
 refine(Nat.div_eq_of_lt_le ?_ ?_).symm
 ·exact h1
 ·exact h2
theorem Kn.dn {W v1 v2 vl top u2 ul V U g r:Nat}(h:Kn W v1 v2 vl top u2 ul V U)(hU:U < 4294967296 * V)(hg:g * v1+r=top)(hc:4294967296≤g∨r * 4294967296+u2 < g * v2):1≤g∧U < (g - 1+1) * V∧(g - 1) * v1+(r+v1)=top:=by
 have hlt:U < g * V:=by
  rcases hc with hc|hc
  ·exact Nat.lt_of_lt_of_le hU (Nat.mul_le_mul_right _ hc)
  ·have hV:0 < V:=by
    rcases Nat.eq_zero_or_pos V with h0|h0
    ·rw [h0] at hU;omega
    ·exact h0
   have h1:=h.less (q:=U / V) (Nat.div_mul_le_self _ _) hg hc
   have h2:(U / V+1) * V≤g * V:=Nat.mul_le_mul_right _ h1
   have h3:=Nat.div_add_mod U V
   have h4:=Nat.mod_lt U hV
   rw [Nat.add_mul,Nat.one_mul,Nat.mul_comm] at h2
   omega
 obtain⟨k,rfl⟩:∃k,g=k+1:=by
  rcases g with _|k
  ·simp at hlt
  ·exact⟨k,rfl⟩
 refine⟨by omega,by simpa using hlt,?_⟩
 rw [Nat.add_sub_cancel]
 rw [Nat.add_mul,Nat.one_mul] at hg
 omega
theorem Kn.br {W v1 v2 vl top u2 ul V U g r:Nat}(h:Kn W v1 v2 vl top u2 ul V U)(hU:U < 4294967296 * V)(hT:top < 4294967296 * v1+4294967296)(hg:g * v1+r=top)(hc:4294967296≤g∨r * 4294967296+u2 < g * v2)(hb:4294967296≤r+v1) :
  g - 1 < 4294967296∧(g - 1) * V≤U+V:=by
 have h1:g - 1 < 4294967296:=by
  rcases Nat.lt_or_ge (g - 1) 4294967296 with h1|h1
  ·exact h1
  ·exfalso
   have h2:(4294967296+1) * v1≤g * v1:=Nat.mul_le_mul_right _ (by omega)
   rw [Nat.add_mul,Nat.one_mul] at h2
   omega
 exact⟨h1,h.last (h.dn hU hg hc).2.2 h1 (.inl hb)⟩
theorem val_split3 {l:List UInt32}{k:Nat}(h:k+3≤l.length):val (l.take (k+3))=val (l.take k)+4294967296 ^ k * (l.getD k default).toNat+4294967296 * (4294967296 ^ k * ((l.getD (k+2) default).toNat * 4294967296+(l.getD (k+1) default).toNat)):=by
 rw [val_take_succ l (k+2) (by omega),val_take_succ l (k+1) (by omega),val_take_succ l k (by omega),show 4294967296 ^ (k+2)=4294967296 ^ k * 4294967296 * 4294967296 from rfl,show 4294967296 ^ (k+1)=4294967296 ^ k * 4294967296 from rfl]
 generalize 4294967296 ^ k=w
 generalize (l.getD k default).toNat=a
 generalize (l.getD (k+1) default).toNat=b
 generalize (l.getD (k+2) default).toNat=c
 rw [Nat.mul_add,Nat.mul_add]
 have e1:c * (w * 4294967296 * 4294967296)=4294967296 * (w * (c * 4294967296)):=by ac_rfl
 have e2:b * (w * 4294967296)=4294967296 * (w * b):=by ac_rfl
 rw [e1,e2,Nat.mul_comm a w]
 omega
theorem val_split2 {l:List UInt32}{k:Nat}(h:k+2≤l.length):val (l.take (k+2))=val (l.take k)+4294967296 ^ k * (l.getD k default).toNat+4294967296 * (4294967296 ^ k * (l.getD (k+1) default).toNat):=by
 rw [val_take_succ l (k+1) (by omega),val_take_succ l k (by omega),Nat.pow_succ]
 generalize 4294967296 ^ k=w
 generalize (l.getD k default).toNat=a
 generalize (l.getD (k+1) default).toNat=b
 have e2:b * (w * 4294967296)=4294967296 * (w * b):=by ac_rfl
 rw [e2,Nat.mul_comm a w]
theorem getD_drop {l:List UInt32}{o k:Nat}:(l.drop o).getD k default=l.getD (o+k) default:=by simp [List.getD]
theorem kn_of {p v:List UInt32}{off n:Nat}(hn:v.length=n)(h2:2≤n)(ho:off+(n+1)≤p.length)(h1:1≤(v.getD (n - 1) default).toNat) :
  ∃w vl ul,Kn w (v.getD (n - 1) default).toNat (v.getD (n - 2) default).toNat vl ((p.getD (off+n) default).toNat * 4294967296+(p.getD (off+(n - 1)) default).toNat) (p.getD (off+(n - 2)) default).toNat ul (val v) (val ((p.drop off).take (n+1))):=by
 obtain⟨k,rfl⟩:∃k,n=k+2:=⟨n - 2,by omega⟩
 have hl:(p.drop off).length=p.length - off:=List.length_drop
 refine⟨4294967296 ^ k,val (v.take k),val ((p.drop off).take k),?_⟩
 have e1:val v=val (v.take (k+2)):=by rw [List.take_of_length_le (by omega)]
 constructor
 ·rw [e1,val_split2 (by omega)];rfl
 ·rw [show k+2+1=k+3 from rfl,val_split3 (by omega),getD_drop,getD_drop,getD_drop];rfl
 ·have:=val_lt (v.take k);rwa [List.length_take,Nat.min_eq_left (by omega)] at this
 ·have:=val_lt ((p.drop off).take k);rwa [List.length_take,Nat.min_eq_left (by omega)] at this
 ·exact UInt32.toNat_lt _
 ·exact UInt32.toNat_lt _
 ·exact h1
def subd (u low:Nat):Nat:=(u+4294967296 - low) % 4294967296
theorem subd_eq {u low:Nat}(hu:u < 4294967296)(hl:low≤4294967296):subd u low+low=u+4294967296 * (if u < low then 1 else 0):=by
 unfold subd;split<;>omega
theorem subd_lt (u low:Nat):subd u low < 4294967296:=Nat.mod_lt _ (by decide)
theorem dg_val {x:List UInt32}{d:Nat}(hd:d < 4294967296):val (x ++ [UInt32.ofNat d])=val x+4294967296 ^ x.length * d:=by
 rw [val_append]
 have e1:val [UInt32.ofNat d]=d:=by
  show(UInt32.ofNat _).toNat+4294967296 * val []=_
  rw [UInt32.toNat_ofNat',Nat.mod_eq_of_lt hd];rfl
 rw [e1]
theorem ksub_step {X V g w c b u k t d b':Nat}{U:Nat}(h:X+g * V=U+w * (c+b))(ht:t=c+g * k)(hd:d+(t % 4294967296+b)=u+4294967296 * b') :
  (X+w * d)+g * (V+k * w)=(U+u * w)+(w * 4294967296) * (t / 4294967296+b'):=by
 have h1:=Nat.div_add_mod t 4294967296
 have e0:c+g * k+b+d=4294967296 * (t / 4294967296+b')+u:=by rw [Nat.mul_add];omega
 have e1:=congrArg (fun x=>w * x) e0
 simp only [Nat.mul_add] at e1
 have e2:g * (k * w)=w * (g * k):=by ac_rfl
 rw [Nat.mul_add,e2,Nat.mul_add] at *
 have e3:w * 4294967296 * (t / 4294967296)=w * (4294967296 * (t / 4294967296)):=by ac_rfl
 have e4:w * 4294967296 * b'=w * (4294967296 * b'):=by ac_rfl
 rw [e3,e4,Nat.mul_comm u w]
 omega
theorem kadd_step {Y V w c u k t:Nat}{U:Nat}(h:Y+w * c=U+V)(ht:t=c+(u+k)):(Y+w * (t % 4294967296))+(w * 4294967296) * (t / 4294967296)=(U+u * w)+(V+k * w):=by
 have h1:=Nat.div_add_mod t 4294967296
 have e1:=congrArg (fun x=>w * x) h1
 simp only [Nat.mul_add] at e1
 rw [ht] at e1 ⊢
 have e3:w * 4294967296 * ((c+(u+k)) / 4294967296)=w * (4294967296 * ((c+(u+k)) / 4294967296)):=by ac_rfl
 rw [e3,Nat.mul_comm u w,Nat.mul_comm k w]
 simp only [Nat.mul_add] at e1
 omega
theorem dig_a {vx vp w d c b u g W U:Nat}(s4:vx+g * W=vp+w * (c+b))(hd:d+(c+b)=u)(hU:U=vp+u * w):(vx+w * d)+g * W=U:=by
 have e1:=congrArg (fun x=>w * x) hd
 simp only [Nat.mul_add] at e1 s4
 rw [hU,Nat.mul_comm u w];omega
theorem dig_b {vx vp w d c b u g W U:Nat}(s4:vx+g * W=vp+w * (c+b))(hd:d+(c+b)=u+4294967296)(hU:U=vp+u * w):(vx+w * d)+g * W=U+w * 4294967296:=by
 have e1:=congrArg (fun x=>w * x) hd
 simp only [Nat.mul_add] at e1 s4
 rw [hU,Nat.mul_comm u w];omega
theorem dig_c {vx vy w d d1 ov k g W U:Nat}(t4:vy+w * k=vx+W)(hd1:d1+4294967296 * ov=d+k)(h:(vx+w * d)+g * W=U+w * 4294967296):(vy+w * d1)+w * 4294967296 * ov+g * W=U+w * 4294967296+W:=by
 have e1:=congrArg (fun x=>w * x) hd1
 simp only [Nat.mul_add] at e1
 have e3:w * 4294967296 * ov=w * (4294967296 * ov):=by ac_rfl
 rw [e3];omega
theorem dig_d {z wB ov g W U:Nat}(h:z+wB * ov+g * W=U+wB+W)(hz:z < wB)(ho:ov≤1)(hg:g * W≤U+W):z+g * W=U+W:=by
 rcases Nat.eq_zero_or_pos ov with h0|h0
 ·subst h0;rw [Nat.mul_zero] at h;omega
 ·have:ov=1:=by omega
  subst this;omega
theorem dig_fin {U W g r:Nat}(h:r+g * W=U)(h2:U < (g+1) * W):U / W=g∧U % W=r:=by
 have h3:=dig_eq (U:=U) (V:=W) (g:=g) (by omega) h2
 refine⟨h3.symm,?_⟩
 have:=Nat.div_add_mod U W
 rw [← h3,Nat.mul_comm] at this;omega
end Go.Ev
