import Derived.Test.YtfdgaoihjedamaaGreatDoorLaj
import Derived.Test.YtfdgaoihjedamaaGreatDoorLam
import Derived.Test.YtfdgaoihjedamaaGreatDoorLah
set_option linter.all false
set_option maxHeartbeats 4000000
set_option maxRecDepth 10000
namespace Go.Ev
open Go.Proofs
def m10 : List UInt32→Nat→List UInt32
 | [],c=>if c=0 then [] else [UInt32.ofNat c]
 |x :: r,c=>UInt32.ofNat ((c+10 * x.toNat) % 4294967296) :: m10 r ((c+10 * x.toNat) / 4294967296)
theorem val_m10 : ∀(l:List UInt32) (c:Nat),c < 4294967296→val (m10 l c)=c+10 * val l
 | [],c,h=>by
  unfold m10
  split
  ·rename_i e;subst e;rfl
  ·show(UInt32.ofNat c).toNat+4294967296 * 0=c+10 * 0
   rw [UInt32.toNat_ofNat',Nat.mod_eq_of_lt h]
 |x :: r,c,h=>by
  have hx:=UInt32.toNat_lt x
  rw [m10,val,val_m10 r _ (by omega),val,UInt32.toNat_ofNat',Nat.mod_eq_of_lt (by omega)]
  omega
theorem m10_len : ∀(l:List UInt32) (c:Nat),(m10 l c).length≤l.length+1
 | [],c=>by unfold m10;split<;>simp
 |x :: r,c=>by rw [m10,List.length_cons,List.length_cons];have:=m10_len r ((c+10 * x.toNat) / 4294967296);omega
def natP (s:ByteArray):Option Nat:=if s.size≠0∧(bs s).all isDig=true then some (decV (bs s)) else none
theorem natP_no {s:ByteArray}{i:Nat}(h:i < s.size)(hd:isDig (chr s i)=false):natP s=none:=by
 unfold natP
 refine if_neg fun h9=>?_
 have h2:i < (bs s).length:=by rw [bs_len];exact h
 have h3:=(List.all_eq_true.1 h9.2) (bs s)[i] (List.getElem_mem h2)
 unfold chr at hd
 rw [List.getD,List.getElem?_eq_getElem h2] at hd
 rw [show(some (bs s)[i]).getD 0=(bs s)[i] from rfl,h3] at hd
 cases hd
theorem natP_yes {s:ByteArray}(h:s.size≠0)(hd:∀i,i < s.size→isDig (chr s i)=true):natP s=some (decV (bs s)):=by
 unfold natP
 refine if_pos ⟨h,List.all_eq_true.2 fun b hb=>?_⟩
 obtain⟨i,hi,rfl⟩:=List.mem_iff_getElem.1 hb
 have:=hd i (by rw [← bs_len];exact hi)
 unfold chr at this
 rw [List.getD,List.getElem?_eq_getElem hi] at this
 exact this
def tP : Option Nat→T
 |some n=>.tup [tn (lm n),.con (.int .i64 0)]
 |none=>.tup [tn [],.con (.int .i64 10)]
theorem fd_cu {oh oh1:OH}{id ver len:Nat}{l:List UInt32}{el:List V}(ho:oget oh id=some ⟨1,el,ver,true⟩)(hel:el=l.map cu)(hd:oget oh1 id=none)(hn:l.length=len):Fd1 oh oh1 false (.own id ver 0 len) (tn l):=by
 subst hel
 refine fd_map (F:=cu) (G:=tu32) ho hd hn (fun a _=>rfl) (fun a _ j v u h1 h2=>?_)
 cases j with
 |zero=>
  obtain rfl:cu a=v:=by simpa [cu,V.cells] using h1
  obtain rfl:tu32 a=u:=by simpa [tu32,T.cells] using h2
  exact Fd1.con _
 |succ j=>simp [cu,V.cells] at h1
theorem cu_cl9 (oh:OH)(l:List UInt32):∀v ∈ l.map cu,v.cl oh:=by
 intro v hv
 obtain⟨x,-,rfl⟩:=List.mem_map.1 hv
 trivial
def stP (N:Nat)(s:ByteArray)(i:Nat)(x:List UInt32)(z:Nat×Nat×List UInt32):St:=⟨N,[(0,.con (.string s)),(4,.ro false (tn x)),(5,.con (.int .i64 i)),(6,.con (.int .u64 z.2.1)),(7,.own 0 z.1 0 z.1),(8,.con (.int .i64 z.1))],[(0,⟨1,z.2.2.map cu,z.1,true⟩)]⟩
theorem rParse_ok (s:ByteArray)(hs:s.size≤1073741824):Ok Tryz.prog 70 [tS9 s] true (tP (natP s)):=by
 refine ok_of_ev hC0 mix Tryz.func70 rfl rfl (by kernel_rfl) (zO rfl) ?_
 by_cases h0:s.size=0
 ·have hn:natP s=none:=if_neg fun h=>h.1 h0
  rw [hn]
  have he:s=.empty:=ByteArray.ext (by have:s.data.size=0:=h0;exact Array.eq_empty_of_size_eq_zero this)
  subst he
  repeat'(first|(with_reducible first|(refine zz ?_;try intro K hK)|refine zI ?_|refine zt ?_|refine zf ?_)|((first|refine hK _ ?_|refine hK _ _ rfl ?_);clear hK K)|(guard_hyp hK;first|(refine zY ?zz ?_;case zz=>first|exact rfl|exact gJ)|refine fresh_n ?_|refine freshO_n ?_|(refine at_Q ?_;intro hu)|refine zP wA ?_|(refine mul_Q ?_;intro hm1 hm2)|refine zP at_M ?_|refine zP rfl ?_|intro b0 hb)|((first|with_reducible refine zm ?_|guard_hyp hK);refine zY ?_ ?_;all_goals(intro hb;(try simp only [sn,sb] at hb);try exact ex0)))
  exact⟨trivial,_,_,rfl,fz_emp rfl,fz_con rfl⟩
 ·repeat'(first|(with_reducible first|(refine zz ?_;try intro K hK)|refine zI ?_|refine zt ?_|refine zf ?_)|((first|refine hK _ ?_|refine hK _ _ rfl ?_);clear hK K)|(guard_hyp hK;first|(refine zY ?zz ?_;case zz=>first|exact rfl|exact gJ)|refine fresh_n ?_|refine freshO_n ?_|(refine at_Q ?_;intro hu)|refine zP wA ?_|(refine mul_Q ?_;intro hm1 hm2)|refine zP at_M ?_|refine zP rfl ?_|intro b0 hb)|((first|with_reducible refine zm ?_|guard_hyp hK);refine zY ?_ ?_;all_goals(intro hb;(try simp only [sn,sb] at hb);try exact ex0)))
  ·exact absurd (congrArg ByteArray.size (bq_inj hb)) h0
  refine loop_f (Nat×List UInt32) (fun z=>⟨Tryz.f70.ntmps,[(0,.con (.string s)),(4,.ro false (tn z.2)),(5,.con (.int .i64 z.1))],[]⟩) (fun z=>z.1≤s.size∧val z.2=decV ((bs s).take z.1)∧z.2.length≤z.1∧∀j,j < z.1→isDig (chr s j)=true) (fun z=>s.size - z.1) (0,[]) ⟨Nat.zero_le _,rfl,Nat.le_refl _,fun j hj=>absurd hj (Nat.not_lt_zero _)⟩ (lf_of0 ⟨Lc.same _ trivial,Lc.frz false _ (tn []) Fd1.emp,Lc.same _ trivial,trivial⟩ trivial) ?_
  rintro⟨i,x⟩ ⟨h1,h2,h3,h4⟩
  dsimp only at h1 h2 h3 h4
  by_cases hlt:i < s.size
  ·cases hd:isDig (chr s i) with
   |false=>
    rw [natP_no hlt hd]
    unfold isDig at hd
    simp only [Bool.and_eq_false_iff,decide_eq_false_iff_not] at hd
    repeat'(first|(refine at_s ?_;intro hu)|(with_reducible first|(refine zz ?_;try intro K hK)|refine zI ?_|refine zt ?_|refine zf ?_)|((first|refine hK _ ?_|refine hK _ _ rfl ?_);clear hK K)|(guard_hyp hK;first|(refine zY ?zz ?_;case zz=>first|exact rfl|exact gJ)|refine fresh_n ?_|refine freshO_n ?_|(refine at_Q ?_;intro hu)|refine zP wA ?_|(refine mul_Q ?_;intro hm1 hm2)|refine zP at_M ?_|refine zP rfl ?_|intro b0 hb)|((first|with_reducible refine zm ?_|guard_hyp hK);refine zY ?_ ?_;all_goals(intro hb;(try simp only [sn,sb] at hb);try exact ex0)))
    all_goals first|exact⟨trivial,_,_,rfl,fz_emp rfl,fz_con rfl⟩|(exfalso;omega)
   |true=>
    have hd2:=hd
    unfold isDig at hd
    simp only [Bool.and_eq_true,decide_eq_true_eq] at hd
    have hv:=decV_take hlt
    repeat'(first|(refine at_s ?_;intro hu)|(with_reducible first|(refine zz ?_;try intro K hK)|refine zI ?_|refine zt ?_|refine zf ?_)|((first|refine hK _ ?_|refine hK _ _ rfl ?_);clear hK K)|(guard_hyp hK;first|(refine zY ?zz ?_;case zz=>first|exact rfl|exact gJ)|refine fresh_n ?_|refine freshO_n ?_|(refine at_Q ?_;intro hu)|refine zP wA ?_|(refine mul_Q ?_;intro hm1 hm2)|refine zP at_M ?_|refine zP rfl ?_|intro b0 hb)|((first|with_reducible refine zm ?_|guard_hyp hK);refine zY ?_ ?_;all_goals(intro hb;(try simp only [sn,sb] at hb);try exact ex0)))
    refine loop_i (Nat×Nat×List UInt32) (stP Tryz.f70.ntmps s i x) (fun z=>z.1≤x.length∧z.2.1 < 4294967296∧z.2.2.length=z.1∧z.2.2 ++ m10 (x.drop z.1) z.2.1=m10 x ((chr s i).toNat - 48)) (fun z=>x.length - z.1) [(7,0,1)] (0,(chr s i).toNat - 48,[]) ⟨rfl,rfl,trivial⟩ ⟨Nat.zero_le _,by dsimp only;omega,rfl,rfl⟩ ⟨rfl,⟨rfl,trivial,rfl,trivial,rfl,trivial,?_,trivial,rfl,rfl,rfl,trivial,trivial⟩,⟨rfl,trivial⟩,⟨cu_cl9 _ _,trivial⟩⟩ ?_
    ·show V.con (.int .u64 (((chr s i).toNat:Int) - 48))=V.con (.int .u64 (((chr s i).toNat - 48:Nat):Int))
     rw [show(((chr s i).toNat - 48:Nat):Int)=((chr s i).toNat:Int) - 48 by omega]
    rintro⟨k,c,y⟩ ⟨g1,g2,g3,g4⟩
    dsimp only at g1 g2 g3 g4
    unfold stP
    dsimp only
    by_cases hk:k < x.length
    ·have hdr:x.drop k=x.getD k default :: x.drop (k+1):=by
      rw [List.drop_eq_getElem_cons hk];simp [List.getD,hk]
     have hxk:=UInt32.toNat_lt (x.getD k default)
     have hw:V.con (.int .u32 (((c:Int)+10 * ((x.getD k default).toNat:Int)).tmod 4294967296))=cu (UInt32.ofNat ((c+10 * (x.getD k default).toNat) % 4294967296)):=by
      unfold cu
      rw [UInt32.toNat_ofNat',Nat.mod_eq_of_lt (Nat.mod_lt _ (by decide)),show((c:Int)+10 * ((x.getD k default).toNat:Int))=((c+10 * (x.getD k default).toNat:Nat):Int) by omega];rfl
     have hq:((c:Int)+10 * ((x.getD k default).toNat:Int)).tdiv 4294967296=(((c+10 * (x.getD k default).toNat) / 4294967296:Nat):Int):=by
      rw [show((c:Int)+10 * ((x.getD k default).toNat:Int))=((c+10 * (x.getD k default).toNat:Nat):Int) by omega];rfl
     have hr:((c:Int)+10 * ((x.getD k default).toNat:Int)).tmod 4294967296=(((c+10 * (x.getD k default).toNat) % 4294967296:Nat):Int):=by
      rw [show((c:Int)+10 * ((x.getD k default).toNat:Int))=((c+10 * (x.getD k default).toNat:Nat):Int) by omega];rfl
     rw [hdr,m10] at g4
     repeat'(first|(with_reducible first|(refine zz ?_;try intro K hK)|refine zI ?_|refine zt ?_|refine zf ?_)|((first|refine hK _ ?_|refine hK _ _ rfl ?_);clear hK K)|(guard_hyp hK;first|(refine zY ?zz ?_;case zz=>first|exact rfl|exact gJ)|refine fresh_n ?_|refine freshO_n ?_|(refine at_Q ?_;intro hu)|refine zP wA ?_|(refine mul_Q ?_;intro hm1 hm2)|refine zP at_M ?_|refine zP rfl ?_|intro b0 hb)|((first|with_reducible refine zm ?_|guard_hyp hK);refine zY ?_ ?_;all_goals(intro hb;(try simp only [sn,sb] at hb);try exact ex0)))
     refine⟨(k+1,(c+10 * (x.getD k default).toNat) / 4294967296,y ++ [UInt32.ofNat ((c+10 * (x.getD k default).toNat) % 4294967296)]),⟨hk,by dsimp only;omega,by dsimp only;rw [List.length_append,List.length_singleton,g3],by dsimp only;rw [List.append_assoc];exact g4⟩,by dsimp only;omega,rfl,⟨rfl,trivial,rfl,trivial,rfl,trivial,congrArg (fun q=>V.con (.int .u64 q)) hq,trivial,rfl,rfl,rfl,trivial,trivial⟩,⟨?_,trivial⟩,⟨cu_cl9 _ _,trivial⟩⟩
     show some (⟨1,(y.map cu).take k ++ [V.con (.int .u32 (((c:Int)+10 * ((x.getD k default).toNat:Int)).tmod 4294967296))],k+1,true⟩:Obj)=_
     rw [hw,take_app (F:=cu) g3.symm]
    ·obtain rfl:k=x.length:=by omega
     rw [List.drop_length] at g4
     have hL:=m10_len x ((chr s i).toNat - 48)
     have hV:=val_m10 x ((chr s i).toNat - 48) (by omega)
     have hw:V.con (.int .u32 (c:Int))=cu (UInt32.ofNat c):=by
      unfold cu
      rw [UInt32.toNat_ofNat',Nat.mod_eq_of_lt g2]
     have hD:∀j,j < i+1→isDig (chr s j)=true:=fun j hj=>by
      by_cases e:j=i
      ·rw [e];exact hd2
      ·exact h4 j (by omega)
     repeat'(first|(with_reducible first|(refine zz ?_;try intro K hK)|refine zI ?_|refine zt ?_|refine zf ?_)|((first|refine hK _ ?_|refine hK _ _ rfl ?_);clear hK K)|(guard_hyp hK;first|(refine zY ?zz ?_;case zz=>first|exact rfl|exact gJ)|refine fresh_n ?_|refine freshO_n ?_|(refine at_Q ?_;intro hu)|refine zP wA ?_|(refine mul_Q ?_;intro hm1 hm2)|refine zP at_M ?_|refine zP rfl ?_|intro b0 hb)|((first|with_reducible refine zm ?_|guard_hyp hK);refine zY ?_ ?_;all_goals(intro hb;(try simp only [sn,sb] at hb);try exact ex0)))
     ·have hm:y ++ [UInt32.ofNat c]=m10 x ((chr s i).toNat - 48):=by
       rw [← g4];unfold m10;rw [if_neg (by omega)]
      refine⟨(i+1,m10 x ((chr s i).toNat - 48)),⟨hlt,by dsimp only;rw [hV,hv,h2];omega,by dsimp only;omega,hD⟩,by dsimp only;omega,lf_of0 ⟨Lc.same _ trivial,Lc.frz false _ (tn (m10 x ((chr s i).toNat - 48))) (fd_cu rfl ?_ rfl ?_),Lc.same _ trivial,trivial⟩ trivial⟩
      ·show(y.map cu).take x.length ++ [V.con (.int .u32 (c:Int))]=_
       rw [hw,take_app (F:=cu) g3.symm,hm]
      ·show _=x.length+1
       rw [← hm,List.length_append,List.length_singleton,g3]
     ·have hm:y=m10 x ((chr s i).toNat - 48):=by
       rw [← g4];unfold m10;rw [if_pos (by omega),List.append_nil]
      refine⟨(i+1,m10 x ((chr s i).toNat - 48)),⟨hlt,by dsimp only;rw [hV,hv,h2];omega,by dsimp only;omega,hD⟩,by dsimp only;omega,lf_of0 ⟨Lc.same _ trivial,Lc.frz false _ (tn (m10 x ((chr s i).toNat - 48))) (fd_cu rfl ?_ rfl ?_),Lc.same _ trivial,trivial⟩ trivial⟩
      ·show y.map cu=_
       rw [hm]
      ·show _=x.length
       rw [← hm,g3]
  ·repeat'(first|(with_reducible first|(refine zz ?_;try intro K hK)|refine zI ?_|refine zt ?_|refine zf ?_)|((first|refine hK _ ?_|refine hK _ _ rfl ?_);clear hK K)|(guard_hyp hK;first|(refine zY ?zz ?_;case zz=>first|exact rfl|exact gJ)|refine fresh_n ?_|refine freshO_n ?_|(refine at_Q ?_;intro hu)|refine zP wA ?_|(refine mul_Q ?_;intro hm1 hm2)|refine zP at_M ?_|refine zP rfl ?_|(refine zQ (rNormL_ok x (by omega)) ?_)|intro b0 hb)|((first|with_reducible refine zm ?_|guard_hyp hK);refine zY ?_ ?_;all_goals(intro hb;(try simp only [sn,sb] at hb);try exact ex0)))
   obtain rfl:i=s.size:=by omega
   rw [List.take_of_length_le (Nat.le_of_eq (bs_len s))] at h2
   rw [natP_yes h0 h4,← h2]
   exact⟨trivial,_,_,rfl,fz_ro rfl (fun h=>h),fz_con rfl⟩
variable {W : Txt}
theorem lmz : T.sl []=tn (lm 0):=by rw [show lm 0=[] from by simp [lm]];rfl
structure Fit (W:Txt):Prop where
 len:W.L.length≤1073741824
 txt:∀t ∈ W.L,t.text.size≤1073741824
theorem Fit.tok {σ:PS W}{t:Tok}(h:Fit W)(ht:σ.tok=some t):t.text.size≤1073741824:=h.txt t (List.mem_of_getElem? (PS.tok_at ht).2.1)
theorem rCount_ok (σ:PS W)(hF:Fit W):OkG Tryz.prog 52 (rdO σ) [] [.ref 0 0 0 0] (rdO (PS.count natP σ).2) (.ro false (tn (lm (PS.count natP σ).1))):=by
 have hlk:=rLook_ok σ
 have hfl:=rFail_ok σ.settle 30 (by decide)
 rw [settle_wrong] at hfl
 have hL:=hF.len
 cases ht:σ.tok with
 |none=>
  rw [wrong_none ht] at hfl
  rw [ht] at hlk
  rw [show PS.count natP σ=(0,σ.settle) from by unfold PS.count;rw [ht]]
  have hp:=rParse_ok eS (Nat.zero_le _)
  rw [show natP eS=none from rfl] at hp
  unfold rdO at hlk hfl ⊢
  refine okg_of_ev hC0 mix 1 (zO rfl) Tryz.func52 rfl rfl (by kernel_rfl) (by kernel_rfl) (zO rfl) ?wf ?vs ?po ?le ?_
  case wf=>exact rd_wf _ _ _
  case vs=>exact one_vs rfl
  case po=>exact rd_po _ _ _ _ _ _
  case le=>exact rd_le _ _ _ _ _ _
  repeat'(first|(with_reducible first|(refine zz ?_;try intro K hK)|refine zI ?_|refine zt ?_|refine zf ?_)|((first|refine hK _ ?_|refine hK _ _ rfl ?_);clear hK K)|(guard_hyp hK;first|(refine zY ?zz ?_;case zz=>first|exact rfl|exact gJ)|refine fresh_n ?_|refine freshO_n ?_|refine zW ?_|(refine zQ (hp) ?_)|refine zg ([]) (hlk) (rdQ W σ.at_ σ.bad σ.opn) ([]) (rdQ W σ.settle.at_ σ.settle.bad σ.settle.opn) (tokN) ?_|refine zg ([]) (hfl) (rdQ W σ.settle.at_ σ.settle.bad σ.settle.opn) ([]) (rdQ W σ.settle.at_ σ.settle.bad σ.settle.opn) (.tup []) ?_|intro b0 hb)|((first|with_reducible refine zm ?_|guard_hyp hK);refine zY ?_ ?_;all_goals(intro hb;(try simp only [sn,sb] at hb);try exact ex0)))
  all_goals exact rd_retF (r:=tn (lm 0)) rfl (by decide) rfl (fd_of lmz Fd1.emp) (by decide) rfl rfl
 |some t=>
  have hlt:=(PS.tok_at ht).2.2
  have hp:=rParse_ok t.text (hF.tok ht)
  rw [ht,PS.settle_some ht] at hlk
  rw [PS.settle_some ht] at hfl
  have bad:PS.count natP σ=(0,σ.wrong 30)→((t.kind=2∧natP t.text=none)∨t.kind≠2)→OkG Tryz.prog 52 (rdO σ) [] [.ref 0 0 0 0] (rdO (PS.count natP σ).2) (.ro false (tn (lm (PS.count natP σ).1))):=by
   intro e hk
   rw [e]
   unfold rdO at hlk hfl ⊢
   rcases hk with⟨hk,hn⟩|hk
   ·rw [hn] at hp
    refine okg_of_ev hC0 mix 1 (zO rfl) Tryz.func52 rfl rfl (by kernel_rfl) (by kernel_rfl) (zO rfl) ?wf ?vs ?po ?le ?_
    case wf=>exact rd_wf _ _ _
    case vs=>exact one_vs rfl
    case po=>exact rd_po _ _ _ _ _ _
    case le=>exact rd_le _ _ _ _ _ _
    repeat'(first|(with_reducible first|(refine zz ?_;try intro K hK)|refine zI ?_|refine zt ?_|refine zf ?_)|((first|refine hK _ ?_|refine hK _ _ rfl ?_);clear hK K)|(guard_hyp hK;first|(refine zY ?zz ?_;case zz=>first|exact rfl|exact gJ)|refine fresh_n ?_|refine freshO_n ?_|refine zW ?_|(refine zQ (hp) ?_)|refine zg ([]) (hlk) (rdQ W σ.at_ σ.bad σ.opn) ([]) (rdQ W σ.at_ σ.bad σ.opn) (vTok t) ?_|refine zg ([]) (hfl) (rdQ W σ.at_ σ.bad σ.opn) ([]) (rdQ W (σ.wrong 30).at_ (σ.wrong 30).bad (σ.wrong 30).opn) (.tup []) ?_|intro b0 hb)|((first|with_reducible refine zm ?_|guard_hyp hK);refine zY ?_ ?_;all_goals(intro hb;(try simp only [sn,sb] at hb);try exact ex0)))
    all_goals exact rd_retF (r:=tn (lm 0)) rfl (by decide) rfl (fd_of lmz Fd1.emp) (by decide) rfl rfl
   ·cases hn:natP t.text with
    |none=>
     rw [hn] at hp
     refine okg_of_ev hC0 mix 1 (zO rfl) Tryz.func52 rfl rfl (by kernel_rfl) (by kernel_rfl) (zO rfl) ?wf ?vs ?po ?le ?_
     case wf=>exact rd_wf _ _ _
     case vs=>exact one_vs rfl
     case po=>exact rd_po _ _ _ _ _ _
     case le=>exact rd_le _ _ _ _ _ _
     repeat'(first|(with_reducible first|(refine zz ?_;try intro K hK)|refine zI ?_|refine zt ?_|refine zf ?_)|((first|refine hK _ ?_|refine hK _ _ rfl ?_);clear hK K)|(guard_hyp hK;first|(refine zY ?zz ?_;case zz=>first|exact rfl|exact gJ)|refine fresh_n ?_|refine freshO_n ?_|refine zW ?_|(refine zQ (hp) ?_)|refine zg ([]) (hlk) (rdQ W σ.at_ σ.bad σ.opn) ([]) (rdQ W σ.at_ σ.bad σ.opn) (vTok t) ?_|refine zg ([]) (hfl) (rdQ W σ.at_ σ.bad σ.opn) ([]) (rdQ W (σ.wrong 30).at_ (σ.wrong 30).bad (σ.wrong 30).opn) (.tup []) ?_|intro b0 hb)|((first|with_reducible refine zm ?_|guard_hyp hK);refine zY ?_ ?_;all_goals(intro hb;(try simp only [sn,sb] at hb);try exact ex0)))
     all_goals exact rd_retF (r:=tn (lm 0)) rfl (by decide) rfl (fd_of lmz Fd1.emp) (by decide) rfl rfl
    |some n=>
     rw [hn] at hp
     refine okg_of_ev hC0 mix 1 (zO rfl) Tryz.func52 rfl rfl (by kernel_rfl) (by kernel_rfl) (zO rfl) ?wf ?vs ?po ?le ?_
     case wf=>exact rd_wf _ _ _
     case vs=>exact one_vs rfl
     case po=>exact rd_po _ _ _ _ _ _
     case le=>exact rd_le _ _ _ _ _ _
     repeat'(first|(with_reducible first|(refine zz ?_;try intro K hK)|refine zI ?_|refine zt ?_|refine zf ?_)|((first|refine hK _ ?_|refine hK _ _ rfl ?_);clear hK K)|(guard_hyp hK;first|(refine zY ?zz ?_;case zz=>first|exact rfl|exact gJ)|refine fresh_n ?_|refine freshO_n ?_|refine zW ?_|(refine zQ (hp) ?_)|refine zg ([]) (hlk) (rdQ W σ.at_ σ.bad σ.opn) ([]) (rdQ W σ.at_ σ.bad σ.opn) (vTok t) ?_|refine zg ([]) (hfl) (rdQ W σ.at_ σ.bad σ.opn) ([]) (rdQ W (σ.wrong 30).at_ (σ.wrong 30).bad (σ.wrong 30).opn) (.tup []) ?_|intro b0 hb)|((first|with_reducible refine zm ?_|guard_hyp hK);refine zY ?_ ?_;all_goals(intro hb;(try simp only [sn,sb] at hb);try exact ex0)))
     all_goals exact rd_retF (r:=tn (lm 0)) rfl (by decide) rfl (fd_of lmz Fd1.emp) (by decide) rfl rfl
  by_cases hk:t.kind=2
  ·cases hn:natP t.text with
   |none=>exact bad (by unfold PS.count;rw [ht];simp only [hn]) (.inl ⟨hk,hn⟩)
   |some n=>
    rw [show PS.count natP σ=(n,σ.adv) from by unfold PS.count;rw [ht];simp only [hn];exact if_pos hk,rdO_adv ht (by rw [hk];decide)]
    rw [hn] at hp
    rw [rdO_some ht] at hlk ⊢
    refine okg_of_ev hC0 mix 1 (zO rfl) Tryz.func52 rfl rfl (by kernel_rfl) (by kernel_rfl) (zO rfl) ?wf ?vs ?po ?le ?_
    case wf=>exact rd_wf _ _ _
    case vs=>exact one_vs rfl
    case po=>exact rd_po _ _ _ _ _ _
    case le=>exact rd_le _ _ _ _ _ _
    repeat'(first|(with_reducible first|(refine zz ?_;try intro K hK)|refine zI ?_|refine zt ?_|refine zf ?_)|((first|refine hK _ ?_|refine hK _ _ rfl ?_);clear hK K)|(guard_hyp hK;first|(refine zY ?zz ?_;case zz=>first|exact rfl|exact gJ)|refine fresh_n ?_|refine freshO_n ?_|refine zW ?_|(refine zQ (hp) ?_)|refine zg ([]) (hlk) (rdQ W σ.at_ none σ.opn) ([]) (rdQ W σ.at_ none σ.opn) (vTok t) ?_|intro b0 hb)|((first|with_reducible refine zm ?_|guard_hyp hK);refine zY ?_ ?_;all_goals(intro hb;(try simp only [sn,sb] at hb);try exact ex0)))
    all_goals exact rd_retF (r:=tn (lm n)) rfl (by decide) rfl (Fd1.ro _ _ fun h=>Bool.noConfusion h) (by decide) rfl rfl
  ·refine bad ?_ (.inr hk)
   unfold PS.count
   rw [ht]
   cases hn:natP t.text with
   |none=>simp only [hn]
   |some n=>simp only [hn];exact if_neg hk
def V.dat1 (v:V):Prop:=∃x,v=.con x∨∃f t,v=.ro f t
theorem bm_aggD {oh oh1:OH}{l:List V}(h:∀v ∈ l,v.dat1):BmA oh oh1 (.agg l) (.agg l):=by
 refine⟨rfl,fun j x y hx hy=>?_⟩
 rw [hx] at hy
 obtain rfl:x=y:=by simpa using hy
 exact bmC_self (h x (List.mem_of_getElem? hx))
theorem dat_nil : ∀v ∈ ([]:List V),v.dat1:=fun v h=>by simp at h
theorem dat_con {x:Value}{l:List V}(h:∀v ∈ l,v.dat1):∀v ∈ V.con x :: l,v.dat1:=by
 intro v hv
 rcases List.mem_cons.1 hv with rfl|hv
 ·exact⟨x,.inl rfl⟩
 ·exact h v hv
theorem dat_ro {f:Bool}{t:T}{l:List V}(h:∀v ∈ l,v.dat1):∀v ∈ V.ro f t :: l,v.dat1:=by
 intro v hv
 rcases List.mem_cons.1 hv with rfl|hv
 ·exact⟨default,.inr ⟨f,t,rfl⟩⟩
 ·exact h v hv
theorem rd_retv {P:Program}{fn:Func}{s:St}{vs:List V}{a a':Nat}{b b':Option Flt}{n n' np t ty id ver sz:Nat}{l:List V}{fs:List (Nat×Nat)}{z:List Value}(hr:fn.results.toList=[.cell t ty])(ht:tk P ty=.st fs z)(hz:z.length=l.length)(h0:0 < l.length)
  (ha:eget s.env t=.ref id ver 0 0) (ho:oget s.oh id=some ⟨sz,[.agg l],ver,true⟩) (hd:∀v ∈ l,v.dat1) (hs:oget s.oh 0=some ⟨11,[rdV W a' b' n'],0,true⟩) (hnp:0 < np) (hv:vs[0]?=some (.ref 0 0 0 0)) (he:eget s.env 0=.ref 0 0 0 0) :
  RetG P fn np (rdQ W a b n) vs (rdQ W a' b' n') (.agg l) .ret s:=by
 refine⟨trivial,false,s,rfl,rd_pin hs hnp hv he,rd_bm hs,?_⟩
 rw [hr]
 exact resc ht hz h0 ha ho (bm_aggD hd)
def vVar (v:PS.VarD):V:=.agg [.con (.string v.name),.ro false (tn (lm v.count)),.ro false (tSs v.vals),.ro false (tSs v.prps)]
theorem rVar_ok (σ:PS W)(hF:Fit W):OkG Tryz.prog 30 (rdO σ) [] [.ref 0 0 0 0] (rdO (PS.varD natP σ).2) (vVar (PS.varD natP σ).1):=by
 have hL:=hF.len
 generalize h1:PS.take 1 σ=r1
 have k1:=rText_ok σ 1 (by decide) hL
 rw [h1] at k1
 have k2:=rSign_ok r1.2 PS.kLC hL
 generalize h2:PS.need 4 PS.kLC r1.2=s2 at k2
 have k3:=rWord_ok s2 PS.kType hL
 generalize h3:PS.need 1 PS.kType s2=s3 at k3
 have k4:=rWord_ok s3 PS.kDisc hL
 generalize h4:PS.need 1 PS.kDisc s3=s4 at k4
 have k5:=rSign_ok s4 PS.kLK hL
 generalize h5:PS.need 4 PS.kLK s4=s5 at k5
 have e5:PS.var1 σ=s5:=by unfold PS.var1;rw [h1,h2,h3,h4,h5]
 have k6:=rCount_ok s5 hF
 generalize h6:PS.count natP s5=r6 at k6
 have k7:=rSign_ok r6.2 PS.kRK hL
 generalize h7:PS.need 4 PS.kRK r6.2=s7 at k7
 have k8:=rSign_ok s7 PS.kLC hL
 generalize h8:PS.need 4 PS.kLC s7=s8 at k8
 have e8:PS.var2 natP σ=s8:=by unfold PS.var2;rw [e5,h6,h7,h8]
 have k9:=rNames_ok s8 hL
 generalize h9:PS.names s8=r9 at k9
 have k10:=rSign_ok r9.2 PS.kRC hL
 generalize h10:PS.need 4 PS.kRC r9.2=s10 at k10
 have k11:=rSign_ok s10 PS.kSemi hL
 generalize h11:PS.need 4 PS.kSemi s10=s11 at k11
 have e11:PS.var3 natP σ=s11:=by unfold PS.var3;rw [e8,h9,h10,h11]
 have k12:=rProps_ok s11 hL
 generalize h12:PS.props s11=r12 at k12
 have k13:=rSign_ok r12.2 PS.kRC hL
 generalize h13:PS.need 4 PS.kRC r12.2=s13 at k13
 have e13:PS.varD natP σ=(⟨r1.1,r6.1,r9.1,r12.1⟩,s13):=by unfold PS.varD;rw [e5,e8,e11,h1,h6,h9,h12,h13]
 rw [e13]
 refine okg_of_ev hC0 mix 1 (zO rfl) Tryz.func30 rfl rfl (by kernel_rfl) (by kernel_rfl) (zO rfl) ?wf ?vs ?po ?le ?_
 case wf=>exact rd_wf _ _ _
 case vs=>exact one_vs rfl
 case po=>exact rd_po _ _ _ _ _ _
 case le=>exact rd_le _ _ _ _ _ _
 repeat'(first|(with_reducible first|(refine zz ?_;try intro K hK)|refine zI ?_|refine zt ?_|refine zf ?_)|((first|refine hK _ ?_|refine hK _ _ rfl ?_);clear hK K)|(guard_hyp hK;first|(refine zY ?zz ?_;case zz=>first|exact rfl|exact gJ)|refine fresh_n ?_|refine freshO_n ?_|refine zW ?_|refine zg ([]) (k1) (rdO σ) ([]) (rdO r1.2) (.con (.string r1.1)) ?_|refine zg ([]) (k2) (rdO r1.2) ([]) (rdO s2) (.tup []) ?_|refine zg ([]) (k3) (rdO s2) ([]) (rdO s3) (.tup []) ?_|refine zg ([]) (k4) (rdO s3) ([]) (rdO s4) (.tup []) ?_|refine zg ([]) (k5) (rdO s4) ([]) (rdO s5) (.tup []) ?_|refine zg ([]) (k6) (rdO s5) ([]) (rdO r6.2) (.ro false (tn (lm r6.1))) ?_|refine zg ([]) (k7) (rdO r6.2) ([]) (rdO s7) (.tup []) ?_|refine zg ([]) (k8) (rdO s7) ([]) (rdO s8) (.tup []) ?_|refine zg ([]) (k9) (rdO s8) ([]) (rdO r9.2) (.ro false (tSs r9.1)) ?_|refine zg ([]) (k10) (rdO r9.2) ([]) (rdO s10) (.tup []) ?_|refine zg ([]) (k11) (rdO s10) ([]) (rdO s11) (.tup []) ?_|refine zg ([]) (k12) (rdO s11) ([]) (rdO r12.2) (.ro false (tSs r12.1)) ?_|refine zg ([]) (k13) (rdO r12.2) ([]) (rdO s13) (.tup []) ?_|intro b0 hb)|((first|with_reducible refine zm ?_|guard_hyp hK);refine zY ?_ ?_;all_goals(intro hb;(try simp only [sn,sb] at hb);try exact ex0)))
 exact rd_retv (l:=[.con (.string r1.1),.ro false (tn (lm r6.1)),.ro false (tSs r9.1),.ro false (tSs r12.1)]) rfl tk80 rfl (Nat.zero_lt_succ _) rfl rfl (dat_con (dat_ro (dat_ro (dat_ro dat_nil)))) rfl (by decide) rfl rfl
namespace PS
variable {X : Txt}
theorem settle_stk {σ:PS X}(h:σ.bad≠none):σ.settle=σ:=(settle_fol σ).stk h
theorem isB_bad {σ:PS X}(h:σ.bad≠none)(k:Int)(w:ByteArray):σ.isB k w=false:=by
 cases hB:σ.isB k w with
 |false=>rfl
 |true=>obtain⟨t,ht,-⟩:=isB_tok hB;exact absurd (tok_at ht).1 h
theorem bad_back {n:Nat}{σ τ:PS X}(h:Fol n σ τ)(hb:τ.bad=none):σ.bad=none:=by
 cases hs:σ.bad with
 |none=>rfl
 |some f=>exact absurd hb (h.bad (by rw [hs];exact fun e=>by cases e))
def namesQ (σ:PS X):List ByteArray×PS X:=namesL (X.L.length+1) [] σ
theorem namesQ_st (σ:PS X):(namesQ σ).2=(names σ).2:=by
 unfold namesQ names
 cases hb:σ.bad with
 |none=>rfl
 |some f=>
  have h:σ.bad≠none:=by rw [hb];exact fun e=>by cases e
  have e1:(take 1 σ).2=σ:=(take_fol 1 σ).stk h
  rw [namesL,e1,isB_bad h,if_neg Bool.false_ne_true]
  exact settle_stk h
theorem namesQ_eq {σ:PS X}(h:σ.bad=none):namesQ σ=names σ:=by unfold namesQ names;rw [h]
section
variable (dec : ByteArray → Int × Nat)
def rowQ (σ:PS X):List (List Trm)×PS X:=rowL dec (X.L.length+1) [] σ
theorem rowQ_st (σ:PS X):(rowQ dec σ).2=(row dec σ).2:=by
 unfold rowQ row
 cases hb:σ.bad with
 |none=>rfl
 |some f=>
  have h:σ.bad≠none:=by rw [hb];exact fun e=>by cases e
  have e1:(sum0 dec σ).2=σ:=(sum0_good dec σ).1.stk h
  rw [rowL,e1,isB_bad h,if_neg Bool.false_ne_true]
  exact settle_stk h
theorem rowQ_eq {σ:PS X}(h:σ.bad=none):rowQ dec σ=row dec σ:=by unfold rowQ row;rw [h]
variable (cnt : ByteArray → Option Nat)
def varQ (σ:PS X):VarD×PS X:=(⟨(take 1 σ).1,(count cnt (var1 σ)).1,(namesQ (var2 cnt σ)).1,(props (var3 cnt σ)).1⟩,(varD cnt σ).2)
theorem varQ_eq {σ:PS X}(h:(varD cnt σ).2.bad=none):varQ cnt σ=varD cnt σ:=by
 have f:Fol 0 (var2 cnt σ) (varD cnt σ).2:=((((names_fol _).trans (need_fol 4 kRC _)).trans (need_fol 4 kSemi _)).trans (props_fol _)).trans (need_fol 4 kRC _)
 unfold varQ
 rw [namesQ_eq (bad_back f h)]
 rfl
def ent1Q (σ:PS X):Int×List ByteArray×PS X:=
 if σ.isB 1 kTab=true then(1,[],σ.adv)
 else if σ.isB 1 kDef=true then(2,[],σ.adv)
 else(3,(namesQ (need 4 kOpen σ)).1,need 4 kShut (names (need 4 kOpen σ)).2)
theorem ent1Q_st (σ:PS X):(ent1Q σ).2.2=(ent1 σ).2.2:=by
 unfold ent1Q ent1
 split
 ·rfl
 ·split<;>rfl
theorem ent1Q_eq {σ:PS X}(h:(ent1 σ).2.2.bad=none):ent1Q σ=ent1 σ:=by
 unfold ent1Q ent1 at *
 split at h
 ·rename_i c;rw [if_pos c,if_pos c]
 ·rename_i c
  rw [if_neg c,if_neg c]
  split at h
  ·rename_i c2;rw [if_pos c2,if_pos c2]
  ·rename_i c2
   rw [if_neg c2,if_neg c2]
   rw [namesQ_eq (bad_back ((names_fol _).trans (need_fol 4 kShut _)) h)]
def entQ (σ:PS X):EntD×PS X:=(⟨(ent1Q σ).1,(ent1Q σ).2.1,(rowQ dec (ent1Q σ).2.2).1⟩,(entD dec σ).2)
theorem entQ_eq {σ:PS X}(h:(entD dec σ).2.bad=none):entQ dec σ=entD dec σ:=by
 have f:Fol 0 (ent1 σ).2.2 (entD dec σ).2:=(row_fol dec _).trans (need_fol 4 kSemi _)
 have hb:=bad_back f h
 unfold entQ
 rw [ent1Q_eq hb,rowQ_eq dec hb]
 rfl
def prbLQ : Nat→List EntD→List ByteArray→PS X→List EntD×List ByteArray×PS X
 |0,es,ps,σ=>(es,ps,σ)
 |k+1,es,ps,σ=>
  match σ.bad with
  |some _=>(es,ps,σ)
  |none=>
   if σ.isB 4 kRC=true then(es,ps,σ.adv)
   else if σ.isB 1 kProp=true then prbLQ k es (ps ++ (props σ).1) (props σ).2
   else prbLQ k (es ++ [(entQ dec σ.settle).1]) ps (entD dec σ.settle).2
theorem prbLQ_st : ∀(k:Nat) (es es':List EntD) (ps ps':List ByteArray) (σ:PS X),(prbLQ dec k es ps σ).2.2=(prbL dec k es' ps' σ).2.2
 |0,_,_,_,_,_=>rfl
 |k+1,es,es',ps,ps',σ=>by
  rw [prbLQ,prbL]
  cases hb:σ.bad with
  |some f=>rfl
  |none=>
   simp only
   split
   ·rfl
   ·split
    ·exact prbLQ_st k _ _ _ _ _
    ·exact prbLQ_st k _ _ _ _ _
theorem prbLQ_eq : ∀(k:Nat) (es:List EntD) (ps:List ByteArray) (σ:PS X),(prbL dec k es ps σ).2.2.bad=none→prbLQ dec k es ps σ=prbL dec k es ps σ
 |0,_,_,_,_=>rfl
 |k+1,es,ps,σ,h=>by
  rw [prbL] at h
  rw [prbLQ,prbL]
  cases hb:σ.bad with
  |some f=>rfl
  |none=>
   rw [hb] at h
   simp only at h ⊢
   split
   ·rfl
   ·rename_i c1
    rw [if_neg c1] at h
    split
    ·rename_i c2
     rw [if_pos c2] at h
     exact prbLQ_eq k _ _ _ h
    ·rename_i c2
     rw [if_neg c2] at h
     rw [entQ_eq dec (bad_back (prbL_fol dec k _ _ _) h)]
     exact prbLQ_eq k _ _ _ h
def prb1Q (σ:PS X):List ByteArray×PS X:=if σ.isB 4 kBar=true then namesQ σ.adv else([],σ.settle)
theorem prb1Q_st (σ:PS X):(prb1Q σ).2=(prb1 σ).2:=by
 unfold prb1Q prb1
 split
 ·exact namesQ_st _
 ·rfl
theorem prb1Q_eq {σ:PS X}(h:(prb1 σ).2.bad=none):prb1Q σ=prb1 σ:=by
 unfold prb1Q
 unfold prb1 at h ⊢
 split
 ·rename_i c
  rw [if_pos c] at h
  exact namesQ_eq (bad_back (names_fol _) h)
 ·rfl
def prbQ (σ:PS X):PrbD×PS X:=(⟨(take 1 (need 4 kOpen σ)).1,(prb1Q (take 1 (need 4 kOpen σ)).2).1,(prbLQ dec (X.L.length+2) [] [] (prb2 σ)).1,(prbLQ dec (X.L.length+2) [] [] (prb2 σ)).2.1⟩,(prbD dec σ).2)
theorem prbQ_eq {σ:PS X}(h:(prbD dec σ).2.bad=none):prbQ dec σ=prbD dec σ:=by
 have h1:(prbR dec σ).2.2.bad=none:=h
 have h2:=bad_back (prbL_fol dec (X.L.length+2) [] [] (prb2 σ)) h1
 have h3:=bad_back ((need_fol 4 kShut (prb1 (take 1 (need 4 kOpen σ)).2).2).trans (need_fol 4 kLC _)) h2
 unfold prbQ
 rw [prbLQ_eq dec _ _ _ _ h1,prb1Q_eq h3]
 rfl
def partLQ : Nat→List VarD→List PrbD→PS X→List VarD×List PrbD×PS X
 |0,vs,ps,σ=>(vs,ps,σ)
 |k+1,vs,ps,σ=>
  if σ.isB 1 kVar=true then partLQ k (vs ++ [(varQ cnt σ.adv).1]) ps (varD cnt σ.adv).2
  else if σ.isB 1 kProb=true then partLQ k vs (ps ++ [(prbQ dec σ.adv).1]) (prbD dec σ.adv).2
  else(vs,ps,σ.settle)
theorem partL_fol : ∀(k:Nat) (vs:List VarD) (ps:List PrbD) (σ:PS X),Fol 0 σ (partL dec cnt k vs ps σ).2.2
 |0,_,_,_=>Fol.refl _
 |k+1,vs,ps,σ=>by
  rw [partL];split
  ·rename_i h;exact(((adv_fol1 h (by decide)).trans (varD_fol cnt _)).trans (partL_fol k _ _ _)).weak (Nat.zero_le _)
  ·split
   ·rename_i h;exact(((adv_fol1 h (by decide)).trans (prbD_fol dec _)).trans (partL_fol k _ _ _)).weak (Nat.zero_le _)
   ·exact settle_fol _
theorem partLQ_st : ∀(k:Nat) (vs vs':List VarD) (ps ps':List PrbD) (σ:PS X),(partLQ dec cnt k vs ps σ).2.2=(partL dec cnt k vs' ps' σ).2.2
 |0,_,_,_,_,_=>rfl
 |k+1,vs,vs',ps,ps',σ=>by
  rw [partLQ,partL]
  split
  ·exact partLQ_st k _ _ _ _ _
  ·split
   ·exact partLQ_st k _ _ _ _ _
   ·rfl
theorem partLQ_eq : ∀(k:Nat) (vs:List VarD) (ps:List PrbD) (σ:PS X),(partL dec cnt k vs ps σ).2.2.bad=none→partLQ dec cnt k vs ps σ=partL dec cnt k vs ps σ
 |0,_,_,_,_=>rfl
 |k+1,vs,ps,σ,h=>by
  rw [partL] at h
  rw [partLQ,partL]
  split
  ·rename_i c
   rw [if_pos c] at h
   rw [varQ_eq cnt (bad_back (partL_fol dec cnt k _ _ _) h)]
   exact partLQ_eq k _ _ _ h
  ·rename_i c
   rw [if_neg c] at h
   split
   ·rename_i c2
    rw [if_pos c2] at h
    rw [prbQ_eq dec (bad_back (partL_fol dec cnt k _ _ _) h)]
    exact partLQ_eq k _ _ _ h
   ·rfl
theorem fin_fol (σ:PS X):Fol 0 σ (fin σ):=by
 unfold fin
 split
 ·split
  ·exact Fol.refl _
  ·exact wrong_fol _ _
 ·exact settle_fol _
end
end PS
end Go.Ev
