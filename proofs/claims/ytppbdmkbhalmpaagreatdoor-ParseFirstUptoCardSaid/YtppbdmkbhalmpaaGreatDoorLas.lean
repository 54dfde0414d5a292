import Derived.Test.YtppbdmkbhalmpaaGreatDoorDivN
import Derived.Test.YtppbdmkbhalmpaaGreatDoorLai
set_option linter.all false
set_option maxHeartbeats 8000000
set_option maxRecDepth 10000
namespace Go.Ev
open Go.Proofs
theorem lo {p:Prop}(h:p:=by first|omega|(simp only [ln];omega)):p:=h
theorem lz32_ok (x:UInt32):Ok Tryz.prog 105 [tu32 x] true (.con (.int .i64 (32 - len32 x.toNat:Nat))):=by
 refine ok_of_ev hC0 mix Tryz.func105 rfl rfl (by kernel_rfl) (zO rfl) ?_
 have hl:=len32_le (UInt32.toNat_lt x)
 repeat'(first|(with_reducible first|(refine zz ?_;try intro K hK)|refine zI ?_|refine zt ?_|refine zf ?_)|((first|refine hK _ ?_|refine hK _ _ rfl ?_);clear hK K)|(guard_hyp hK;first|(refine zY ?zz ?_;case zz=>first|exact rfl|exact gI)|(refine fresh_c 0 rfl ?_)|(refine fresh_c 1 rfl ?_)|(refine fresh_c 2 rfl ?_)|refine freshO_n ?_|(refine at_Q ?_;intro hu)|refine zP wA ?_|(refine mul_Q ?_;intro hm1 hm2)|refine zP at_M ?_|refine zP rfl ?_|(refine zQ (Len32_ok x) ?_)|intro b0 hb)|((first|with_reducible refine zm ?_|guard_hyp hK);refine zY ?_ ?_;all_goals(intro hb;(try simp only [sn,sb] at hb);try exact ex0)))
 exact And.intro trivial (fz_con (by rw [Int.natCast_sub hl];rfl))
theorem clc (oh:OH)(l:List UInt32):∀v ∈ l.map cu,v.cl oh:=by
 intro v hv
 obtain⟨x,-,rfl⟩:=List.mem_map.1 hv
 trivial
def obN (l:List UInt32):Obj:=⟨1,l.map cu,0,true⟩
theorem ren_obN {oh:OH}{id ver:Nat}{l:List UInt32}(h:oget oh id=some ⟨1,l.map cu,ver,true⟩):Ren oh [(0,obN l)] (fun _=>id):=by
 refine ren_one (ver:=ver) h fun e he=>?_
 obtain⟨x,-,rfl⟩:=List.mem_map.1 he
 exact⟨_,rfl⟩
theorem own_okO (l:List UInt32)(hl:l.length≤2199023255552)(h0:norm l≠[]):OkO Tryz.prog 57 [tn l] [(0,obN (norm l))] (.own 0 0 0 (norm l).length):=by
 refine oko_of_ev hC0 mix Tryz.func57 rfl rfl (by kernel_rfl) (zO rfl) ?_
 have hn:=norm_le l
 have h1:=List.length_pos_iff.2 h0
 repeat'(first|(with_reducible first|(refine zz ?_;try intro K hK)|refine zI ?_|refine zt ?_|refine zf ?_)|((first|refine hK _ ?_|refine hK _ _ rfl ?_);clear hK K)|(guard_hyp hK;first|(refine zY ?zz ?_;case zz=>first|exact rfl|exact gI)|refine fresh_n ?_|refine freshO_n ?_|(refine at_Q ?_;intro hu)|refine zP wA ?_|(refine mul_Q ?_;intro hm1 hm2)|refine zP at_M ?_|refine zP rfl ?_|(refine zQ (trim_ok l (by omega)) ?_)|(refine Or.inr (objs_cu (clone_okO (norm l) (by omega) h1) ?_))|intro b0 hb)|((first|with_reducible refine zm ?_|guard_hyp hK);refine zY ?_ ?_;all_goals(intro hb;(try simp only [sn,sb] at hb);try exact ex0)))
 exact⟨trivial,false,_,fun _=>0,rfl,ren_obN (ver:=0) rfl,RenC.own 0 0 0 _ _ rfl rfl rfl⟩
theorem DivMod_lt (a b:List UInt32)(ha:a.length≤2147483648)(hb9:b.length≤2147483648)(h0:val b≠0)(hlt:val a < val b):Ok Tryz.prog 97 [tn a,tn b] true (.tup [tn (lm (val a / val b)),tn (lm (val a % val b)),.con (.int .i64 0)]):=by
 have hna:=norm_le a
 have hnb:=norm_le b
 have hva:=val_norm a
 have hvb:=val_norm b
 rw [← hva,← hvb] at hlt ⊢
 refine ok_of_ev hC0 mix Tryz.func97 rfl rfl (by kernel_rfl) (zO rfl) ?_
 repeat'(first|(with_reducible first|(refine zz ?_;try intro K hK)|refine zI ?_|refine zt ?_|refine zf ?_)|((first|refine hK _ ?_|refine hK _ _ rfl ?_);clear hK K)|(guard_hyp hK;first|(refine zY ?zz ?_;case zz=>first|exact rfl|exact gI)|(refine fresh_c 0 rfl ?_)|(refine fresh_c 1 rfl ?_)|(refine fresh_c 2 rfl ?_)|refine freshO_n ?_|(refine at_Q ?_;intro hu)|refine zP wA ?_|(refine mul_Q ?_;intro hm1 hm2)|refine zP at_M ?_|refine zP rfl ?_|(refine zQ (trim_ok a (by omega)) ?_)|(refine zQ (trim_ok b (by omega)) ?_)|intro b0 hb)|((first|with_reducible refine zm ?_|guard_hyp hK);refine zY ?_ ?_;all_goals(intro hb;(try simp only [sn,sb] at hb);try exact ex0)))
 ·exfalso
  have h9:norm b=[]:=List.eq_nil_of_length_eq_zero (by omega)
  rw [h9] at hvb
  exact h0 (by rw [← hvb];rfl)
 generalize norm a=x at *
 generalize norm b=y at *
 clear hva hvb
 have hc0:cmpN (val x) (val y) < 0:=by unfold cmpN;simp [hlt]
 repeat'(first|(with_reducible first|(refine zz ?_;try intro K hK)|refine zI ?_|refine zt ?_|refine zf ?_)|((first|refine hK _ ?_|refine hK _ _ rfl ?_);clear hK K)|(guard_hyp hK;first|(refine zY ?zz ?_;case zz=>first|exact rfl|exact gI)|(refine fresh_c 0 rfl ?_)|(refine fresh_c 1 rfl ?_)|(refine fresh_c 2 rfl ?_)|refine freshO_n ?_|(refine at_Q ?_;intro hu)|refine zP wA ?_|(refine mul_Q ?_;intro hm1 hm2)|refine zP at_M ?_|refine zP rfl ?_|(refine zQ (Cmp_ok x y (by omega) (by omega)) ?_)|(refine zQ (own_ok x (by omega)) ?_)|intro b0 hb)|((first|with_reducible refine zm ?_|guard_hyp hK);refine zY ?_ ?_;all_goals(intro hb;(try simp only [sn,sb] at hb);try exact ex0)))
 rw [Nat.div_eq_of_lt hlt,Nat.mod_eq_of_lt hlt]
 exact⟨trivial,_,_,_,rfl,fz_emp (by rw [(lm_nil_iff 0).2 rfl];rfl),fz_ro (by rw [norm_lm]) fun h=>h,fz_con rfl⟩
theorem DivMod_okO (a b:List UInt32)(ha:a.length≤2147483648)(hb9:b.length≤2147483648)(h0:val b≠0)(hle:val b≤val a):OkO Tryz.prog 97 [tn a,tn b] [(0,obN (lm (val a / val b)))] (.tup [.own 0 0 0 (lm (val a / val b)).length,.ro true (tn (lm (val a % val b))),.con (.int .i64 0)]):=by
 have hna:=norm_le a
 have hnb:=norm_le b
 have hva:=val_norm a
 have hvb:=val_norm b
 have hcx:=can_norm a
 have hcy:=can_norm b
 rw [← hva,← hvb] at hle ⊢
 refine oko_of_ev hC0 mix Tryz.func97 rfl rfl (by kernel_rfl) (zO rfl) ?_
 repeat'(first|(with_reducible first|(refine zz ?_;try intro K hK)|refine zI ?_|refine zt ?_|refine zf ?_)|((first|refine hK _ ?_|refine hK _ _ rfl ?_);clear hK K)|(guard_hyp hK;first|(refine zY ?zz ?_;case zz=>first|exact rfl|exact gI)|(refine fresh_c 0 rfl ?_)|(refine fresh_c 1 rfl ?_)|(refine fresh_c 2 rfl ?_)|refine freshO_n ?_|(refine at_Q ?_;intro hu)|refine zP wA ?_|(refine mul_Q ?_;intro hm1 hm2)|refine zP at_M ?_|refine zP rfl ?_|(refine zQ (trim_ok a (by omega)) ?_)|(refine zQ (trim_ok b (by omega)) ?_)|intro b0 hb)|((first|with_reducible refine zm ?_|guard_hyp hK);refine zY ?_ ?_;all_goals(intro hb;(try simp only [sn,sb] at hb);try exact ex0)))
 ·exfalso
  have h9:norm b=[]:=List.eq_nil_of_length_eq_zero (by omega)
  rw [h9] at hvb
  exact h0 (by rw [← hvb];rfl)
 generalize norm a=x at *
 generalize norm b=y at *
 rw [← hvb] at h0
 clear hva hvb
 have hy0:y≠[]:=fun e=>h0 (by rw [e];rfl)
 have hyt:(y.getD (y.length - 1) default).toNat≠0:=fun e=>(hcy.resolve_left hy0) (UInt32.toNat_inj.1 e)
 have hx0:0≤cmpN (val x) (val y)→x≠[]:=fun h e=>by
  have:=cmpN_ge0 h
  rw [e] at this
  exact h0 (Nat.le_zero.1 this)
 repeat'(first|(with_reducible first|(refine zz ?_;try intro K hK)|refine zI ?_|refine zt ?_|refine zf ?_)|((first|refine hK _ ?_|refine hK _ _ rfl ?_);clear hK K)|(guard_hyp hK;first|(refine zY ?zz ?_;case zz=>first|exact rfl|exact gI)|(refine fresh_c 0 rfl ?_)|(refine fresh_c 1 rfl ?_)|(refine fresh_c 2 rfl ?_)|refine freshO_n ?_|(refine at_Q ?_;intro hu)|refine zP wA ?_|(refine mul_Q ?_;intro hm1 hm2)|refine zP at_M ?_|refine zP rfl ?_|(refine zQ (Cmp_ok x y (by omega) (by omega)) ?_)|(refine zQ (own_ok x (by omega)) ?_)|(refine Or.inr (objs_cu (clone_okO x (by omega) (List.length_pos_iff.2 (hx0 (by assumption)))) ?_))|intro b0 hb)|((first|with_reducible refine zm ?_|guard_hyp hK);refine zY ?_ ?_;all_goals(intro hb;(try simp only [sn,sb] at hb);try exact ex0)))
 ·clear hx0
  have hlt:=cmpN_neg hb
  exact absurd hlt (Nat.not_lt.2 hle)
 ·rename_i hcm
  have hx1:=hx0 hcm
  have hy1:(y.getD 0 default).toNat≠0:=by rwa [show y.length - 1=0 by omega] at hyt
  repeat'(first|(with_reducible first|(refine zz ?_;try intro K hK)|refine zI ?_|refine zt ?_|refine zf ?_)|((first|refine hK _ ?_|refine hK _ _ rfl ?_);clear hK K)|(guard_hyp hK;first|(refine zY ?zz ?_;case zz=>first|exact rfl|exact gI)|(refine fresh_c 0 rfl ?_)|(refine fresh_c 1 rfl ?_)|(refine fresh_c 2 rfl ?_)|refine freshO_n ?_|(refine at_Q ?_;intro hu)|refine zP wA ?_|(refine mul_Q ?_;intro hm1 hm2)|refine zP at_M ?_|refine zP rfl ?_|(refine Or.inr (Or.inl (mut_1 (0) (0) (small_ok x (y.getD 0 default) hy1 (by omega) hx1) ?hmo ?hmv ?hma rfl ?_));(case hmo=>rfl);(case hmv=>exact⟨⟨_,List.mem_singleton.2 rfl,rfl⟩,trivial,trivial⟩);(case hma=>exact⟨.own 0 0 _,.con _,trivial⟩))|intro b0 hb)|((first|with_reducible refine zm ?_|guard_hyp hK);refine zY ?_ ?_;all_goals(intro hb;(try simp only [sn,sb] at hb);try exact ex0)))
  repeat'(first|(with_reducible first|(refine zz ?_;try intro K hK)|refine zI ?_|refine zt ?_|refine zf ?_)|((first|refine hK _ ?_|refine hK _ _ rfl ?_);clear hK K)|(guard_hyp hK;first|(refine zY ?zz ?_;case zz=>first|exact rfl|exact gI)|(refine fresh_c 0 rfl ?_)|(refine fresh_c 1 rfl ?_)|(refine fresh_c 2 rfl ?_)|refine freshO_n ?_|(refine at_Q ?_;intro hu)|refine zP wA ?_|(refine mul_Q ?_;intro hm1 hm2)|refine zP at_M ?_|refine zP rfl ?_|intro b0 hb)|((first|with_reducible refine zm ?_|guard_hyp hK);refine zY ?_ ?_;all_goals(intro hb;(try simp only [sn,sb] at hb);try exact ex0)))
  have hyv:val y=(y.getD 0 default).toNat:=by
   have:=val_drop_step (l:=y) (i:=0) (by omega)
   rw [List.drop_zero,List.drop_eq_nil_of_le (by omega)] at this
   simpa [val] using this
  have hqe:norm (padL x.length (val x / (y.getD 0 default).toNat))=lm (val x / (y.getD 0 default).toNat):=by rw [norm_lm,val_padL _ _ (Nat.lt_of_le_of_lt (Nat.div_le_self _ _) (val_lt x))]
  have hq0:norm (padL x.length (val x / (y.getD 0 default).toNat))≠[]:=by
   rw [hqe]
   exact fun e=>Nat.ne_of_gt (Nat.div_pos (by rw [← hyv];exact hle) (Nat.pos_of_ne_zero hy1)) ((lm_nil_iff _).1 e)
  have hpl:(padL x.length (val x / (y.getD 0 default).toNat)).length≤2199023255552:=by rw [padL_len];omega
  repeat'(first|(with_reducible first|(refine zz ?_;try intro K hK)|refine zI ?_|refine zt ?_|refine zf ?_)|((first|refine hK _ ?_|refine hK _ _ rfl ?_);clear hK K)|(guard_hyp hK;first|(refine zY ?zz ?_;case zz=>first|exact rfl|exact gI)|(refine fresh_c 0 rfl ?_)|(refine fresh_c 1 rfl ?_)|(refine fresh_c 2 rfl ?_)|refine freshO_n ?_|(refine at_Q ?_;intro hu)|refine zP wA ?_|(refine mul_Q ?_;intro hm1 hm2)|refine zP at_M ?_|refine zP rfl ?_|(refine' Or.inr (Or.inr (Or.inr (lendo_cu (own_okO (padL x.length (val x / (y.getD 0 default).toNat)) hpl hq0) (0) ?lh ?lz ?_)));(case lh=>exact rfl);(case lz=>exact fzl1 (fzo_cu (l:=padL x.length (val x / (y.getD 0 default).toNat)) (ver:=0) (congrArg some rfl:some _=some _) (padL_len _ _))))|intro b0 hb)|((first|with_reducible refine zm ?_|guard_hyp hK);refine zY ?_ ?_;all_goals(intro hb;(try simp only [sn,sb] at hb);try exact ex0)))
  rw [hqe]
  repeat'(first|(with_reducible first|(refine zz ?_;try intro K hK)|refine zI ?_|refine zt ?_|refine zf ?_)|((first|refine hK _ ?_|refine hK _ _ rfl ?_);clear hK K)|(guard_hyp hK;first|(refine zY ?zz ?_;case zz=>first|exact rfl|exact gI)|(refine fresh_c 0 rfl ?_)|(refine fresh_c 1 rfl ?_)|(refine fresh_c 2 rfl ?_)|refine freshO_n ?_|(refine at_Q ?_;intro hu)|refine zP wA ?_|(refine mul_Q ?_;intro hm1 hm2)|refine zP at_M ?_|refine zP rfl ?_|intro b0 hb)|((first|with_reducible refine zm ?_|guard_hyp hK);refine zY ?_ ?_;all_goals(intro hb;(try simp only [sn,sb] at hb);try exact ex0)))
  refine Or.inl (Exists.intro _ (Exists.intro _ (Exists.intro _ (And.intro (own_ok [UInt32.ofNat (val x % (y.getD 0 default).toNat)] (by simp)) (Exists.intro [(2,?o)] (And.intro (lpre1 ?ho) (And.intro ?z (And.intro rfl ?_))))))))
  case ho=>exact rfl
  case z=>
   refine fzl1 (fzo_cu (l:=[UInt32.ofNat (val x % (y.getD 0 default).toNat)]) (ver:=0) ?_ rfl)
   refine congrArg (fun c=>some (Obj.mk 1 [V.con (.int .u32 c)] 0 true)) (?_:((val x % (y.getD 0 default).toNat:Nat):Int)=((UInt32.ofNat (val x % (y.getD 0 default).toNat)).toNat:Int))
   rw [UInt32.toNat_ofNat',Nat.mod_eq_of_lt (Nat.lt_trans (Nat.mod_lt _ (Nat.pos_of_ne_zero hy1)) (UInt32.toNat_lt _))]
  repeat'(first|(with_reducible first|(refine zz ?_;try intro K hK)|refine zI ?_|refine zt ?_|refine zf ?_)|((first|refine hK _ ?_|refine hK _ _ rfl ?_);clear hK K)|(guard_hyp hK;first|(refine zY ?zz ?_;case zz=>first|exact rfl|exact gI)|refine fresh_n ?_|refine freshO_n ?_|(refine at_Q ?_;intro hu)|refine zP wA ?_|(refine mul_Q ?_;intro hm1 hm2)|refine zP at_M ?_|refine zP rfl ?_|intro b0 hb)|((first|with_reducible refine zm ?_|guard_hyp hK);refine zY ?_ ?_;all_goals(intro hb;(try simp only [sn,sb] at hb);try exact ex0)))
  rw [hyv]
  have hre:norm [UInt32.ofNat (val x % (y.getD 0 default).toNat)]=lm (val x % (y.getD 0 default).toNat):=by
   rw [norm_lm]
   show lm ((UInt32.ofNat _).toNat+4294967296 * 0)=_
   rw [UInt32.toNat_ofNat',Nat.mod_eq_of_lt (Nat.lt_trans (Nat.mod_lt _ (Nat.pos_of_ne_zero hy1)) (UInt32.toNat_lt _))];rfl
  rw [hre]
  exact⟨trivial,false,_,fun _=>1,rfl,ren_obN (ver:=0) rfl,_,_,_,rfl,RenC.own 0 0 0 _ _ rfl rfl rfl,RenC.ro _ _,RenC.con _⟩
 ·rename_i hcm
  have hx1:=hx0 hcm
  have hlen:y.length≤x.length:=by
   rcases Nat.lt_or_ge x.length y.length with h|h
   ·have h1:=can_len_lt hcy h
    have h2:=cmpN_ge0 hcm
    omega
   ·exact h
  obtain⟨hs,htp,hup⟩:=top_shift hyt (UInt32.toNat_lt _)
  have lzY:=lz32_ok (y.getD (y.length - 1) default)
  obtain⟨s,hsd⟩:∃s,32 - len32 (y.getD (y.length - 1) default).toNat=s:=⟨_,rfl⟩
  rw [hsd] at lzY hs htp hup
  rw [show y.length - 1=((List.map tu32 y).length - 1:Int).toNat by rw [List.length_map];omega] at lzY
  repeat'(first|(with_reducible first|(refine zz ?_;try intro K hK)|refine zI ?_|refine zt ?_|refine zf ?_)|((first|refine hK _ ?_|refine hK _ _ rfl ?_);clear hK K)|(guard_hyp hK;first|(refine zY ?zz ?_;case zz=>first|exact rfl|exact gI)|(refine fresh_c 0 rfl ?_)|(refine fresh_c 1 rfl ?_)|(refine fresh_c 2 rfl ?_)|refine freshO_n ?_|(refine at_Q ?_;intro hu)|refine zP wA ?_|(refine mul_Q ?_;intro hm1 hm2)|refine zP at_M ?_|refine zP rfl ?_|(refine zQ (lzY) ?_)|(refine Or.inr (objs_cu (left_okO x s hs (by omega)) ?_))|(refine zQ (left_ok y s hs (by omega)) ?_)|(refine zQ (trim_ok (padL (y.length+1) (val y * 2 ^ s)) (by rw [padL_len];omega)) ?_)|intro b0 hb)|((first|with_reducible refine zm ?_|guard_hyp hK);refine zY ?_ ?_;all_goals(intro hb;(try simp only [sn,sb] at hb);try exact ex0)))
  obtain⟨W,hV⟩:∃W,val y * 2 ^ s=W:=⟨_,rfl⟩
  obtain⟨n,hn⟩:∃n,y.length=n:=⟨_,rfl⟩
  have hn2:2≤n:=by
   have:y.length≠0:=fun e=>hy0 (List.eq_nil_of_length_eq_zero e)
   omega
  obtain⟨hV1,hV2⟩:=div_shift (b:=y) (s:=s) hn (by omega) (by rw [← hn];exact htp) (by rw [← hn];exact hup)
  rw [hV] at hV1 hV2 ⊢
  rw [hn] at ⊢ hlen
  have hvl:val (padL (n+1) W)=W:=val_padL _ _ (by rw [Nat.pow_succ];omega)
  obtain⟨v,hv⟩:∃v,norm (padL (n+1) W)=v:=⟨_,rfl⟩
  have hvV:val v=W:=by rw [← hv,val_norm,hvl]
  have hvn:v.length=n:=by
   rw [← hv,norm_lm,hvl]
   exact lm_len_eq (by omega) (by omega) hV2
  rw [hv]
  obtain⟨U,hU⟩:∃U,val x * 2 ^ s=U:=⟨_,rfl⟩
  have hUl:U < 4294967296 ^ x.length * 2 ^ s:=by rw [← hU];exact Nat.mul_lt_mul_of_pos_right (val_lt x) (Nat.pow_pos (by decide))
  have hm:((x.length:Int) - n+1).toNat=x.length - n+1:=by omega
  refine loop_i (Int×List UInt32×List UInt32) (fun(i,p,q)=>⟨Tryz.f97.ntmps,[(9,.con (.int .i64 s)),(10,.own 0 0 0 (x.length+1)),(11,.ro false (tn v)),(12,.own 1 0 0 (x.length - n+1)),(13,.con (.int .i64 i))],[(0,⟨1,p.map cu,0,true⟩),(1,⟨1,q.map cu,0,true⟩)]⟩)
   (fun(i,p,q)=>-1≤i∧i < (x.length - n+1:Nat)∧p.length=x.length+1∧q.length=x.length - n+1∧U=W * (4294967296 ^ (i+1).toNat * val (q.drop (i+1).toNat))+val p∧val (p.drop (i+1).toNat) < W) (fun(i,p,q)=>(i+1).toNat) []
   (((x.length - n+1:Nat):Int) - 1,padL (x.length+1) (val x * 2 ^ s),List.replicate (x.length - n+1) 0) trivial ⟨by omega,by omega,padL_len _ _,by simp,?_,?_⟩ ⟨rfl,⟨rfl,trivial,rfl,rfl,?_,trivial,?_,rfl,?_,trivial,trivial⟩,⟨?_,?_,trivial⟩,?_⟩ ?_
  ·have e1:((x.length - n+1:Nat):Int) - 1+1=((x.length - n+1:Nat):Int):=by omega
   rw [e1,Int.toNat_natCast,List.drop_of_length_le (by simp),hU,val_padL _ _ (by rw [Nat.pow_succ];have:=pow32 hs;exact Nat.lt_of_lt_of_le hUl (Nat.mul_le_mul_left _ (Nat.le_of_lt this)))]
   have e9:val ([]:List UInt32)=0:=rfl
   rw [e9,Nat.mul_zero,Nat.mul_zero,Nat.zero_add]
  ·have e1:((x.length - n+1:Nat):Int) - 1+1=((x.length - n+1:Nat):Int):=by omega
   rw [e1,Int.toNat_natCast,← val_div_pow,hU,val_padL _ _ (by rw [Nat.pow_succ];have:=pow32 hs;exact Nat.lt_of_lt_of_le hUl (Nat.mul_le_mul_left _ (Nat.le_of_lt this))),Nat.div_lt_iff_lt_mul (Nat.pow_pos (by decide))]
   refine Nat.lt_of_lt_of_le hUl ?_
   have e2:4294967296 ^ x.length=4294967296 ^ (n - 1) * 4294967296 ^ (x.length - n+1):=by rw [← Nat.pow_add];congr 1;omega
   have h5:2 ^ s≤2147483648:=Nat.pow_le_pow_right (by decide) (show s≤31 by omega)
   rw [e2,Nat.mul_right_comm]
   exact Nat.mul_le_mul_right _ (Nat.le_trans (Nat.mul_le_mul_left _ h5) hV1)
  ·rfl
  ·show V.own 1 0 0 (((x.map tu32).length:Int) - ((y.map tu32).length:Int)+1).toNat=_
   rw [List.length_map,List.length_map,hn,hm]
  ·show V.con (.int .i64 (((((x.map tu32).length:Int) - ((y.map tu32).length:Int)+1).toNat:Int) - 1))=_
   rw [List.length_map,List.length_map,hn,hm]
  ·rfl
  ·refine congrArg (fun l=>some (Obj.mk 1 l 0 true)) (?_:List.replicate (((x.map tu32).length:Int) - ((y.map tu32).length:Int)+1).toNat (V.con (.int .u32 0))=_)
   rw [List.length_map,List.length_map,hn,hm,List.map_replicate];rfl
  ·exact⟨clc _ _,clc _ _,trivial⟩
  rintro⟨i,p,q⟩ ⟨h1,h2,h3,h4,h5,h6⟩
  have kp0:=Keep.mk (And.intro hup (And.intro htp (And.intro hUl (And.intro hU (And.intro hV1 (And.intro hV2 (And.intro hvl hvV)))))))
  clear lzY hsd hup
  by_cases hi0:0≤i
  ·obtain⟨j,rfl⟩:∃k:Nat,i=k:=⟨i.toNat,by omega⟩
   have ej:((j:Int)+1).toNat=j+1:=rfl
   rw [ej] at h5 h6
   have hjl:j+(n+1)≤p.length:=by omega
   have hdj:=div_digit (p:=p) (j:=j) (n:=n) (V:=W) hjl h6 hV2
   have htop:=top_ge hvn (by omega) (by rw [hvV];exact hV1)
   have hdig:=digit_ok p v j (by clear kp0 htp hUl hU hV1 hV2 hvl hvV h5 h6;omega) (by clear kp0 htp hUl hU hV1 hV2 hvl hvV h5 h6;omega) (by rw [hvn];exact hjl) (by rw [hvn];exact htop) (by rw [hvn,hdj.1,hvV];exact hdj.2.1)
   rw [hvn,hdj.1,hvV] at hdig
   have kp:=Keep.mk (And.intro hdj (And.intro h5 h6))
   clear htp hUl hU hV1 hV2 hvl hvV h5 h6 hdj htop
   repeat'(first|(with_reducible first|(refine zz ?_;try intro K hK)|refine zI ?_|refine zt ?_|refine zf ?_)|((first|refine hK _ ?_|refine hK _ _ rfl ?_);clear hK K)|(guard_hyp hK;first|(refine zY ?zz ?_;case zz=>first|exact rfl|exact gI)|refine fresh_n ?_|refine freshO_n ?_|(refine at_Q ?_;intro hu)|refine zP wA ?_|(refine mul_Q ?_;intro hm1 hm2)|refine zP at_M ?_|refine zP rfl ?_|(refine Or.inr (Or.inl (mut_1 (0) (0) (hdig) ?hmo ?hmv ?hma rfl ?_));(case hmo=>rfl);(case hmv=>exact⟨⟨_,List.mem_singleton.2 rfl,rfl⟩,trivial,trivial⟩);(case hma=>exact⟨arC_own 0 lo lo,.ro _ _,trivial⟩))|intro b0 hb)|((first|with_reducible refine zm ?_|guard_hyp hK);refine zY ?_ ?_;all_goals(intro hb;(try simp only [sn,sb] at hb);try exact ex0)))
   obtain⟨hup,htp,hUl,hU,hV1,hV2,hvl,hvV⟩:=kp0.out
   obtain⟨⟨d1,d2,d3,d4⟩,h5,h6⟩:=kp.out
   have hdl:val (p.drop j) / W < 4294967296:=by rw [Nat.div_lt_iff_lt_mul (by omega)];exact d2
   refine⟨((j:Int) - 1,digP p j (n+1) (val (p.drop j) % W),q.set j (UInt32.ofNat (val (p.drop j) / W))),⟨by clear hup htp hUl hV1 hV2 h5;omega,by clear hup htp hUl hV1 hV2 h5;omega,by rw [digP_len hjl];exact h3,by rw [List.length_set];exact h4,?ga,?gb⟩,by show((j:Int) - 1+1).toNat < ((j:Int)+1).toNat;clear hup htp hUl hV1 hV2 h5;omega,rfl,⟨rfl,trivial,rfl,rfl,rfl,trivial,rfl,rfl,rfl,trivial,trivial⟩,⟨rfl,?gc,trivial⟩,⟨clc _ _,clc _ _,trivial⟩⟩
   case ga=>
    rw [show((j:Int) - 1+1).toNat=j by clear hup htp hUl hV1 hV2 h5;omega]
    exact div_inv (by clear hup htp hUl hV1 hV2 h5;omega) h5 d3 d4 rfl hdl
   case gb=>
    rw [show((j:Int) - 1+1).toNat=j by clear hup htp hUl hV1 hV2 h5;omega,d4]
    exact Nat.mod_lt _ (by clear hup htp hUl h5;omega)
   case gc=>
    refine congrArg (fun l=>some (Obj.mk 1 l 0 true)) (?_:(q.map cu).set (0+j) (V.con (.int .u32 ((val (p.drop j) / W:Nat):Int)))=_)
    rw [Nat.zero_add,set_cu hdl]
  ·clear htp hUl hU hV1 hV2 hvl hvV
   rw [← h3]
   repeat'(first|(with_reducible first|(refine zz ?_;try intro K hK)|refine zI ?_|refine zt ?_|refine zf ?_)|((first|refine hK _ ?_|refine hK _ _ rfl ?_);clear hK K)|(guard_hyp hK;first|(refine zY ?zz ?_;case zz=>first|exact rfl|exact gI)|refine fresh_n ?_|refine freshO_n ?_|(refine at_Q ?_;intro hu)|refine zP wA ?_|(refine mul_Q ?_;intro hm1 hm2)|refine zP at_M ?_|refine zP rfl ?_|(refine Or.inr (Or.inr (Or.inl (gen_call ([(0,0,0)]) (trim_g p (by omega)) (pre':=[(0,⟨1,p.map cu,0,true⟩)]) (nw':=[]) (post':=[(0,⟨1,p.map cu,1,true⟩)]) (r':=.own 0 1 0 (norm p).length) ?hg1 rfl ?hg3 rfl rfl ?hgp ?hgn ?hgi ?_)));(case hg1=>exact rnO_cu _ _ _);(case hg3=>exact rnO_cu _ _ _);(case hgp=>(repeat'(first|exact allp_nil|exact alln_nil|refine allp_cons ?_ ?_|refine alln_cons ?_ ?_|rfl)));(case hgn=>(repeat'(first|exact allp_nil|exact alln_nil|refine allp_cons ?_ ?_|refine alln_cons ?_ ?_|rfl)));(case hgi=>(first|exact inj1|exact inj2 (by decide)|exact inj2 (Nat.ne_of_lt (Nat.le_of_ble_eq_true rfl))|exact inj2 (Nat.ne_of_gt (Nat.le_of_ble_eq_true rfl)))))|intro b0 hb)|((first|with_reducible refine zm ?_|guard_hyp hK);refine zY ?_ ?_;all_goals(intro hb;(try simp only [sn,sb] at hb);try exact ex0)))
   obtain⟨hup,htp,hUl,hU,hV1,hV2,hvl,hvV⟩:=kp0.out
   rw [show(i+1).toNat=0 by omega,Nat.pow_zero,Nat.one_mul,List.drop_zero] at h5
   rw [show(i+1).toNat=0 by omega,List.drop_zero] at h6
   have hs2:0 < 2 ^ s:=Nat.pow_pos (by decide)
   have hqv:val q=val x / val y:=by
    have:U / W=val q:=by rw [h5,Nat.mul_add_div (by omega),Nat.div_eq_of_lt h6,Nat.add_zero]
    rw [← this,← hU,← hV,Nat.mul_div_mul_right _ _ hs2]
   have hpv:val p=(val x % val y) * 2 ^ s:=by
    have:U % W=val p:=by rw [h5,Nat.mul_add_mod,Nat.mod_eq_of_lt h6]
    rw [← this,← hU,← hV,Nat.mul_mod_mul_right]
   obtain⟨R,hR⟩:∃R,val x % val y=R:=⟨_,rfl⟩
   rw [hR] at hpv
   rw [hR,← hqv]
   have hq0:norm q≠[]:=by
    rw [norm_lm,hqv]
    exact fun e=>Nat.ne_of_gt (Nat.div_pos hle (Nat.pos_of_ne_zero h0)) ((lm_nil_iff _).1 e)
   have hnp:=norm_le p
   have hnv:=val_norm p
   have hnt:=norm_take p
   clear kp0 hup htp hUl hU hV1 hV2 hvl hvV h5 h6 hb hV hcm hlen
   refine loop_i (List UInt32) (fun r=>⟨Tryz.f97.ntmps,[(9,.con (.int .i64 s)),(10,.own 0 1 0 (norm p).length),(12,.own 1 0 0 (x.length - n+1)),(88,.con (.int .i64 (norm p).length)),(89,.con (.int .i64 r.length))],[(0,⟨1,(wq p 0 r).map cu,1,true⟩),(1,⟨1,q.map cu,0,true⟩)]⟩)
    (fun r=>r.length≤(norm p).length∧val r=R % 4294967296 ^ r.length) (fun r=>(norm p).length - r.length) [] [] trivial ⟨Nat.zero_le _,(Nat.mod_one _).symm⟩ ⟨rfl,⟨rfl,trivial,rfl,rfl,rfl,rfl,rfl,trivial,rfl,trivial,trivial⟩,⟨?_,rfl,trivial⟩,⟨clc _ _,clc _ _,trivial⟩⟩ ?_
   ·rw [wq_nil];rfl
   rintro r ⟨g1,g2⟩
   have hwl:(wq p 0 r).length=p.length:=wq_len (by omega)
   have kp:=Keep.mk (And.intro hpv (And.intro g2 (And.intro hR hs2)))
   clear hpv g2 hR hs2 hqv
   repeat'(first|(first|(refine shl32 (by omega) (by omega) ?_)|(refine shrS hs ?_))|(with_reducible first|(refine zz ?_;try intro K hK)|refine zI ?_|refine zt ?_|refine zf ?_)|((first|refine hK _ ?_|refine hK _ _ rfl ?_);clear hK K)|(guard_hyp hK;first|(refine zY ?zz ?_;case zz=>first|exact rfl|exact gI)|refine fresh_n ?_|refine freshO_n ?_|(refine at_Q ?_;intro hu)|refine zP wA ?_|(refine mul_Q ?_;intro hm1 hm2)|refine zP at_M ?_|refine zP rfl ?_|intro b0 hb)|((first|with_reducible refine zm ?_|guard_hyp hK);refine zY ?_ ?_;all_goals(intro hb;(try simp only [sn,sb] at hb);try exact ex0)))
   ·obtain⟨hpv,g2,hR,hs2⟩:=kp.out
    refine⟨r ++ [UInt32.ofNat ((((norm p).getD (r.length+1) default).toNat * 4294967296+((norm p).getD r.length default).toNat) / 2 ^ s % 4294967296)],⟨by rw [List.length_append];show r.length+1≤_;omega,?ga⟩,by rw [List.length_append];show _ - (r.length+1) < _;omega,rfl,⟨rfl,trivial,rfl,rfl,rfl,rfl,rfl,trivial,?gc,trivial,trivial⟩,⟨?gd,rfl,trivial⟩,⟨clc _ _,clc _ _,trivial⟩⟩
    case ga=>
     rw [List.length_append]
     exact back_step hs (by rw [hnv];exact hpv) rfl g2 (by omega)
    case gc=>
     show V.con (.int .i64 ((r.length:Int)+1))=_
     rw [List.length_append];rfl
    case gd=>
     refine congrArg (fun l=>some (Obj.mk 1 l 1 true)) (?_:((wq p 0 r).map cu).set (0+r.length) (V.con (.int .u32 (IntKind.u32.wrap ((IntKind.u64.wrap (((BitVec.ofInt 64 ((((wq p 0 r).getD (0+(r.length+1)) default).toNat:Int) * 4294967296) |||BitVec.ofInt 64 (((wq p 0 r).getD (0+r.length) default).toNat:Int)).toNat:Nat):Int)).fdiv ((2 ^ s:Nat):Int)))))=_)
     rw [Nat.zero_add (r.length+1),wq0_get (Nat.le_succ _),norm_get (j:=r.length+1) (by omega)]
     conv=>lhs;arg 3;rw [Nat.zero_add,wq0_get (Nat.le_refl _),norm_get (j:=r.length) (by omega)]
     exact back_set (UInt32.toNat_lt _) (UInt32.toNat_lt _) (by omega)
   ·obtain⟨hpv,g2,hR,hs2⟩:=kp.out
    refine⟨r ++ [UInt32.ofNat ((((norm p).getD (r.length+1) default).toNat * 4294967296+((norm p).getD r.length default).toNat) / 2 ^ s % 4294967296)],⟨by rw [List.length_append];show r.length+1≤_;omega,?ga2⟩,by rw [List.length_append];show _ - (r.length+1) < _;omega,rfl,⟨rfl,trivial,rfl,rfl,rfl,rfl,rfl,trivial,?gc2,trivial,trivial⟩,⟨?gd2,rfl,trivial⟩,⟨clc _ _,clc _ _,trivial⟩⟩
    case ga2=>
     rw [List.length_append]
     exact back_step hs (by rw [hnv];exact hpv) rfl g2 (by omega)
    case gc2=>
     show V.con (.int .i64 ((r.length:Int)+1))=_
     rw [List.length_append];rfl
    case gd2=>
     have e0:((norm p).getD (r.length+1) default).toNat=0:=by
      rw [List.getD,List.getElem?_eq_none (by omega)];rfl
     rw [e0]
     refine congrArg (fun l=>some (Obj.mk 1 l 1 true)) (?_:((wq p 0 r).map cu).set (0+r.length) (V.con (.int .u32 (IntKind.u32.wrap ((IntKind.u64.wrap (((BitVec.ofInt 64 (((0:Nat):Int) * 4294967296) |||BitVec.ofInt 64 (((wq p 0 r).getD (0+r.length) default).toNat:Int)).toNat:Nat):Int)).fdiv ((2 ^ s:Nat):Int)))))=_)
     conv=>lhs;arg 3;rw [Nat.zero_add,wq0_get (Nat.le_refl _),norm_get (j:=r.length) (by omega)]
     exact back_set (by decide) (UInt32.toNat_lt _) (by omega)
   ·obtain⟨hpv,g2,hR,hs2⟩:=kp.out
    have hrl:r.length=(norm p).length:=by omega
    clear kp
    repeat'(first|(with_reducible first|(refine zz ?_;try intro K hK)|refine zI ?_|refine zt ?_|refine zf ?_)|((first|refine hK _ ?_|refine hK _ _ rfl ?_);clear hK K)|(guard_hyp hK;first|(refine zY ?zz ?_;case zz=>first|exact rfl|exact gI)|(refine fresh_c 2 rfl ?_)|refine freshO_n ?_|(refine at_Q ?_;intro hu)|refine zP wA ?_|(refine mul_Q ?_;intro hm1 hm2)|refine zP at_M ?_|refine zP rfl ?_|(refine' Or.inr (Or.inr (Or.inr (lendo_cu (own_okO q (by omega) hq0) (1) ?lh ?lz ?_)));(case lh=>exact rfl);(case lz=>exact fzl1 (fzo_cu (l:=q) (ver:=0) rfl h4)))|intro b0 hb)|((first|with_reducible refine zm ?_|guard_hyp hK);refine zY ?_ ?_;all_goals(intro hb;(try simp only [sn,sb] at hb);try exact ex0)))
    refine Or.inl (Exists.intro _ (Exists.intro _ (Exists.intro _ (And.intro (own_ok r (by omega)) (Exists.intro [(0,?o2)] (And.intro (lpre1 ?ho2) (And.intro ?z2 (And.intro rfl ?_))))))))
    case ho2=>exact rfl
    case z2=>
     refine fzl1 (fz_own (l:=r) (F:=cu) (G:=tu32) rfl rfl rfl hrl ?_ (fun a _=>fze_con _) rfl)
     show List.take (norm p).length (List.drop 0 ((wq p 0 r).map cu))=_
     rw [List.drop_zero,← List.map_take,← hrl]
     unfold wq
     rw [List.take_zero,List.nil_append,List.take_left]
    repeat'(first|(with_reducible first|(refine zz ?_;try intro K hK)|refine zI ?_|refine zt ?_|refine zf ?_)|((first|refine hK _ ?_|refine hK _ _ rfl ?_);clear hK K)|(guard_hyp hK;first|(refine zY ?zz ?_;case zz=>first|exact rfl|exact gI)|refine fresh_n ?_|refine freshO_n ?_|(refine at_Q ?_;intro hu)|refine zP wA ?_|(refine mul_Q ?_;intro hm1 hm2)|refine zP at_M ?_|refine zP rfl ?_|intro b0 hb)|((first|with_reducible refine zm ?_|guard_hyp hK);refine zY ?_ ?_;all_goals(intro hb;(try simp only [sn,sb] at hb);try exact ex0)))
    rw [← norm_lm q]
    have hRl:R < 4294967296 ^ r.length:=by
     have h1:=val_lt (norm p)
     rw [hnv,hpv,← hrl] at h1
     exact Nat.lt_of_le_of_lt (Nat.le_mul_of_pos_right _ hs2) h1
    rw [norm_lm r,g2,Nat.mod_eq_of_lt hRl]
    exact⟨trivial,false,_,fun _=>2,rfl,ren_obN (ver:=0) rfl,_,_,_,rfl,RenC.own 0 0 0 _ _ rfl rfl rfl,RenC.ro _ _,RenC.con _⟩
theorem DivMod_ok (a b:List UInt32)(ha:a.length≤2147483648)(hb9:b.length≤2147483648)(h0:val b≠0):Ok Tryz.prog 97 [tn a,tn b] true (.tup [tn (lm (val a / val b)),tn (lm (val a % val b)),.con (.int .i64 0)]):=by
 rcases Nat.lt_or_ge (val a) (val b) with h|h
 ·exact DivMod_lt a b ha hb9 h0 h
 ·exact ok_of_okoT (DivMod_okO a b ha hb9 h0 h) rfl (fzt3 (fz_own (l:=lm (val a / val b)) (F:=cu) (G:=tu32) rfl rfl rfl rfl (by show List.take _ (List.drop 0 ((lm (val a / val b)).map cu))=_;rw [List.drop_zero,List.take_of_length_le (by simp)]) (fun a _=>fze_con _) rfl) (fz_ro rfl fun h=>h) (fz_con rfl))
theorem GcdN_ok (a b:List UInt32)(ha:a.length≤2147483648)(hb9:b.length≤2147483648):Ok Tryz.prog 96 [tn a,tn b] true (tn (lm (Nat.gcd (val a) (val b)))):=by
 have hna:=norm_le a
 have hnb:=norm_le b
 refine ok_of_ev hC0 mix Tryz.func96 rfl rfl (by kernel_rfl) (zO rfl) ?_
 repeat'(first|(with_reducible first|(refine zz ?_;try intro K hK)|refine zI ?_|refine zt ?_|refine zf ?_)|((first|refine hK _ ?_|refine hK _ _ rfl ?_);clear hK K)|(guard_hyp hK;first|(refine zY ?zz ?_;case zz=>first|exact rfl|exact gI)|refine fresh_n ?_|refine freshO_n ?_|(refine at_Q ?_;intro hu)|refine zP wA ?_|(refine mul_Q ?_;intro hm1 hm2)|refine zP at_M ?_|refine zP rfl ?_|(refine zQ (own_ok a (by omega)) ?_)|(refine zQ (own_ok b (by omega)) ?_)|intro b0 hb)|((first|with_reducible refine zm ?_|guard_hyp hK);refine zY ?_ ?_;all_goals(intro hb;(try simp only [sn,sb] at hb);try exact ex0)))
 rw [norm_lm] at hna hnb
 refine loop_i (Nat×Nat) (fun(A,B)=>⟨Tryz.f96.ntmps,[(0,.ro true (tn (lm A))),(1,.ro true (tn (lm B)))],[]⟩) (fun(A,B)=>Nat.gcd A B=Nat.gcd (val a) (val b)∧(lm A).length≤2147483648∧(lm B).length≤2147483648) (fun(A,B)=>B) [] (val a,val b) trivial ⟨rfl,by omega,by omega⟩ ⟨rfl,⟨?_,trivial,?_,trivial,trivial⟩,trivial,trivial⟩ ?_
 ·show V.ro true (tn (norm a))=_
  rw [norm_lm]
 ·show V.ro true (tn (norm b))=_
  rw [norm_lm]
 rintro⟨A,B⟩ ⟨h1,h2,h3⟩
 by_cases hB:B=0
 ·subst hB
  have e0:(lm 0).length=0:=by rw [(lm_nil_iff 0).2 rfl];rfl
  repeat'(first|(with_reducible first|(refine zz ?_;try intro K hK)|refine zI ?_|refine zt ?_|refine zf ?_)|((first|refine hK _ ?_|refine hK _ _ rfl ?_);clear hK K)|(guard_hyp hK;first|(refine zY ?zz ?_;case zz=>first|exact rfl|exact gI)|refine fresh_n ?_|refine freshO_n ?_|(refine at_Q ?_;intro hu)|refine zP wA ?_|(refine mul_Q ?_;intro hm1 hm2)|refine zP at_M ?_|refine zP rfl ?_|intro b0 hb)|((first|with_reducible refine zm ?_|guard_hyp hK);refine zY ?_ ?_;all_goals(intro hb;(try simp only [sn,sb] at hb);try exact ex0)))
  refine And.intro trivial (fz_ro ?_ fun h=>h)
  rw [← h1,Nat.gcd_zero_right]
 ·have hd:=DivMod_ok (lm A) (lm B) h2 h3 (by rw [val_lm];exact hB)
  rw [val_lm,val_lm] at hd
  have hp:(lm B).length≠0:=fun e=>hB ((lm_nil_iff B).1 (List.eq_nil_of_length_eq_zero e))
  repeat'(first|(with_reducible first|(refine zz ?_;try intro K hK)|refine zI ?_|refine zt ?_|refine zf ?_)|((first|refine hK _ ?_|refine hK _ _ rfl ?_);clear hK K)|(guard_hyp hK;first|(refine zY ?zz ?_;case zz=>first|exact rfl|exact gI)|refine fresh_n ?_|refine freshO_n ?_|(refine at_Q ?_;intro hu)|refine zP wA ?_|(refine mul_Q ?_;intro hm1 hm2)|refine zP at_M ?_|refine zP rfl ?_|(refine zQ (hd) ?_)|intro b0 hb)|((first|with_reducible refine zm ?_|guard_hyp hK);refine zY ?_ ?_;all_goals(intro hb;(try simp only [sn,sb] at hb);try exact ex0)))
  have hlt:=Nat.mod_lt A (Nat.pos_of_ne_zero hB)
  have:=lm_len_lt hlt
  exact⟨(B,A % B),⟨by rw [← h1,Nat.gcd_comm B,← Nat.gcd_rec,Nat.gcd_comm],h3,by omega⟩,hlt,rfl,⟨rfl,trivial,rfl,trivial,trivial⟩,trivial,trivial⟩
end Go.Ev
