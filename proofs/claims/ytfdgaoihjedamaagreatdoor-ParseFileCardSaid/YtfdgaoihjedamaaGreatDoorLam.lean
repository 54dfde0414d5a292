import Derived.Test.YtfdgaoihjedamaaGreatDoorLal
set_option linter.all false
set_option maxHeartbeats 4000000
set_option maxRecDepth 10000
namespace Go.Ev
open Go.Proofs
theorem shl1 {b:Nat}{Q:Int→Prop}(hb:b < 32)(k:Q ((2 ^ b:Nat):Int)):∃r,r=IntKind.u32.wrap (1 * 2 ^ (min ((b:Nat):Int).toNat IntKind.u32.bits))∧Q r:=by
 refine⟨_,?_,k⟩
 have h:2 ^ b < 4294967296:=Nat.lt_of_lt_of_le (Nat.pow_lt_pow_right (by decide) hb) (by decide)
 have e:(1:Int) * 2 ^ (min ((b:Nat):Int).toNat IntKind.u32.bits)=((2 ^ b:Nat):Int):=by
  rw [Int.toNat_natCast,show IntKind.u32.bits=32 from rfl,Nat.min_eq_left (by omega),Int.one_mul];simp
 rw [e,wrap32 (Int.natCast_nonneg _),Int.toNat_natCast,UInt32.toNat_ofNat',Nat.mod_eq_of_lt h]
theorem put_bit {q:List UInt32}{i Q:Nat}(hi:i / 32 < q.length)(hq:val q=Q * 2 ^ (i+1)) :
  (q.getD (i / 32) default).toNat+2 ^ (i % 32) < 4294967296∧val (q.set (i / 32) (UInt32.ofNat ((q.getD (i / 32) default).toNat+2 ^ (i % 32))))=(2 * Q+1) * 2 ^ i:=by
 have e1:2 ^ i=4294967296 ^ (i / 32) * 2 ^ (i % 32):=by
  rw [show(4294967296:Nat)=2 ^ 32 by decide,← Nat.pow_mul,← Nat.pow_add,Nat.div_add_mod]
 have e2:(4294967296:Nat)=2 ^ (i % 32+1) * 2 ^ (31 - i % 32):=by
  rw [← Nat.pow_add,show i % 32+1+(31 - i % 32)=32 by omega]
 obtain⟨x,hx⟩:∃x,(q.getD (i / 32) default).toNat=x:=⟨_,rfl⟩
 have hxb:x < 4294967296:=by rw [← hx];exact UInt32.toNat_lt _
 have h1:val q / 4294967296 ^ (i / 32)=Q * 2 ^ (i % 32+1):=by
  rw [hq,Nat.pow_succ 2 i,e1,show Q * (4294967296 ^ (i / 32) * 2 ^ (i % 32) * 2)=4294967296 ^ (i / 32) * (Q * 2 ^ (i % 32+1)) by rw [Nat.pow_succ];ac_rfl,Nat.mul_div_cancel_left _ (Nat.pow_pos (by decide))]
 rw [val_div_pow,val_drop_step hi,hx] at h1
 obtain⟨z,hz⟩:∃z,x=2 ^ (i % 32+1) * z:=by
  have hd:2 ^ (i % 32+1)∣x+4294967296 * val (q.drop (i / 32+1)):=⟨Q,by rw [h1,Nat.mul_comm]⟩
  have hd2:2 ^ (i % 32+1)∣4294967296 * val (q.drop (i / 32+1)):=Nat.dvd_trans ⟨2 ^ (31 - i % 32),e2⟩ (Nat.dvd_mul_right _ _)
  exact(Nat.dvd_add_left hd2).1 hd
 have hlt:x+2 ^ (i % 32) < 4294967296:=by
  have hp:0 < 2 ^ (i % 32):=Nat.pow_pos (by decide)
  have hzl:z < 2 ^ (31 - i % 32):=by
   rw [hz,e2] at hxb
   exact Nat.lt_of_mul_lt_mul_left hxb
  have h2:2 ^ (i % 32+1) * (z+1)≤2 ^ (i % 32+1) * 2 ^ (31 - i % 32):=Nat.mul_le_mul_left _ hzl
  rw [← e2,Nat.mul_add,← hz,Nat.pow_succ] at h2
  omega
 refine⟨by rw [hx];exact hlt,?_⟩
 have hs:=val_set q (i / 32) (UInt32.ofNat ((q.getD (i / 32) default).toNat+2 ^ (i % 32))) hi
 rw [hx,UInt32.toNat_ofNat',Nat.mod_eq_of_lt hlt,hq] at hs
 rw [hx]
 rw [Nat.add_mul,Nat.mul_comm (2 ^ (i % 32)),← e1] at hs
 rw [Nat.add_mul,Nat.one_mul]
 rw [Nat.pow_succ] at hs
 have e3:Q * (2 ^ i * 2)=2 * Q * 2 ^ i:=by ac_rfl
 omega
theorem div_bit (v i:Nat):v / 2 ^ i=2 * (v / 2 ^ (i+1))+v / 2 ^ i % 2:=by
 rw [Nat.pow_succ,← Nat.div_div_eq_div_mul];omega
theorem cmpN_ge0 {a b:Nat}(h:0≤cmpN a b):b≤a:=by
 rcases Nat.lt_or_ge a b with h1|h1
 ·rw [cmpN_lt h1] at h;omega
 ·exact h1
theorem cmpN_neg {a b:Nat}(h:cmpN a b < 0):a < b:=by
 rcases Nat.lt_or_ge a b with h1|h1
 ·exact h1
 ·unfold cmpN at h
  rw [if_neg (by omega)] at h
  split at h<;>omega
theorem lm_len_lt {a b:Nat}(h:a < b):(lm a).length≤(lm b).length:=by
 rcases Nat.lt_or_ge (lm b).length (lm a).length with h1|h1
 ·have:=can_len_lt (can_lm a) h1
  rw [val_lm,val_lm] at this;omega
 ·exact h1
theorem rNormD_ok (R b:Nat)(hb:b≤1)(hR:(lm R).length≤1099511627776):Ok Tryz.prog 97 [tn (dblL b (lm R))] true (tn (lm (b+2 * R))):=by
 have h:=rNorm_ok (dblL b (lm R)) (Nat.le_trans (dblL_len _ _) (by omega))
 rwa [norm_lm,dblL_val _ _ (by omega),val_lm] at h
theorem rDivMod_ok (l b:List UInt32)(hl:l.length≤10737418240)(hb9:b.length≤10737418240)(h0:val b≠0):Ok Tryz.prog 138 [tn l,tn b] true (.tup [tn (lm (val l / val b)),tn (lm (val l % val b)),.con (.int .i64 0)]):=by
 have hy:=norm_le b
 have hn:=@rbits_le l
 have hvy:=val_norm b
 refine ok_of_ev hC0 mix Tryz.func138 rfl rfl (by kernel_rfl) (zO rfl) ?_
 repeat'(first|(refine quo31 (by omega) ?_)|(with_reducible first|(refine zz ?_;try intro K hK)|refine zI ?_|refine zt ?_|refine zf ?_)|((first|refine hK _ ?_|refine hK _ _ rfl ?_);clear hK K)|(guard_hyp hK;first|(refine zY ?zz ?_;case zz=>first|exact rfl|exact gI)|refine fresh_n ?_|refine freshO_n ?_|(refine at_Q ?_;intro hu)|refine zP wA ?_|(refine mul_Q ?_;intro hm1 hm2)|refine zP at_M ?_|refine zP rfl ?_|(refine zQ (rNorm_ok b (by omega)) ?_)|(refine zQ (rBits_ok l (by omega)) ?_)|intro b0 hb)|((first|with_reducible refine zm ?_|guard_hyp hK);refine zY ?_ ?_;all_goals(intro hb;(try simp only [sn,sb] at hb);try exact ex0)))
 ·exfalso
  have h9:norm b=[]:=List.eq_nil_of_length_eq_zero (by omega)
  rw [h9] at hvy
  exact h0 (by rw [← hvy];rfl)
 obtain⟨V0,hV0⟩:∃V,val b=V:=⟨_,rfl⟩
 have hcy:norm b=lm V0:=by rw [norm_lm,hV0]
 rw [hV0] at h0 hvy ⊢
 generalize norm b=y at *
 obtain⟨n,hN⟩:∃n,rbits l=n:=⟨_,rfl⟩
 have hlt:=rbits_lt l
 rw [hN] at hn hlt
 refine loop_f (Int×List UInt32×Nat×Nat) (fun(i,q,Q,R)=>⟨Tryz.f138.ntmps,[(0,.ro false (tn l)),(7,.ro true (tn y)),(9,.own 0 0 0 ((n+31) / 32)),(10,.ro true (tn (lm R))),(11,.con (.int .i64 i))],[(0,⟨1,q.map cu,0,true⟩)]⟩)
  (fun(i,q,Q,R)=>-1≤i∧i < n∧q.length=(n+31) / 32∧R < V0∧val q=Q * 2 ^ (i+1).toNat∧val l / 2 ^ (i+1).toNat=V0 * Q+R) (fun(i,q,Q,R)=>(i+1).toNat) ((n:Int) - 1,List.replicate ((n+31) / 32) 0,0,0) ⟨by omega,by omega,by simp,by omega,?_,?_⟩ (lf_of0 ?_ ?_) ?_
 ·rw [val_replicate,Nat.zero_mul]
 ·rw [show((n:Int) - 1+1).toNat=n by omega,Nat.div_eq_of_lt hlt];rfl
 ·refine⟨Lc.same _ trivial,Lc.same _ trivial,?_,?_,?_,trivial⟩
  ·show LV _ _ (V.own 0 0 0 ((((rbits l+31) / 32:Nat):Int)).toNat) _
   rw [hN];exact Lc.same _ rfl
  ·rw [show lm 0=[] from(lm_nil_iff 0).2 rfl]
   exact Lc.frz true .emp (tn []) .emp
  ·show LV _ _ (.con (.int .i64 ((rbits l:Int) - 1))) _
   rw [hN];exact Lc.same _ trivial
 ·refine⟨lfOb_same ?_ (fun e he=>?_),trivial⟩
  ·show some (Obj.mk 1 (List.replicate ((((rbits l+31) / 32:Nat):Int)).toNat (V.con (.int .u32 0))) 0 true)=some (Obj.mk 1 ((List.replicate ((n+31) / 32) 0).map cu) 0 true)
   rw [hN,List.map_replicate];rfl
  ·obtain⟨x,-,rfl⟩:=List.mem_map.1 he
   trivial
 rintro⟨i,q,Q,R⟩ ⟨h1,h2,hql,h3,h4,h5⟩
 have hRl:(lm R).length≤10737418240:=by have:=lm_len_lt h3;rw [← hcy] at this;omega
 by_cases hi0:0≤i
 ·obtain⟨k,rfl⟩:∃k:Nat,i=k:=⟨i.toNat,by omega⟩
  have hbit:=Nat.mod_lt (val l / 2 ^ k) (show 0 < 2 by decide)
  obtain⟨B,hB⟩:∃B,val l / 2 ^ k % 2=B:=⟨_,rfl⟩
  have hbo:=rBit_ok l k (by omega)
  rw [hB] at hbo hbit
  have hR1:(lm (B+2 * R)).length≤10737418242:=by
   have h7:=dblL_len (lm R) B
   have h8:=norm_le (dblL B (lm R))
   rw [norm_lm,dblL_val _ _ (by omega),val_lm] at h8
   omega
  repeat'(first|(first|(refine quo32 (by omega) ?_)|(refine rem32 ?_)|(refine shl1 (by omega) ?_))|(with_reducible first|(refine zz ?_;try intro K hK)|refine zI ?_|refine zt ?_|refine zf ?_)|((first|refine hK _ ?_|refine hK _ _ rfl ?_);clear hK K)|(guard_hyp hK;first|(refine zY ?zz ?_;case zz=>first|exact rfl|exact gI)|refine fresh_n ?_|refine freshO_n ?_|(refine at_Q ?_;intro hu)|refine zP wA ?_|(refine mul_Q ?_;intro hm1 hm2)|refine zP at_M ?_|refine zP rfl ?_|(refine zQ (hbo) ?_)|(refine zQ (rdouble_ok (lm R) B (by omega) (by omega)) ?_)|(refine zQ (rNormD_ok R B (by omega) (by omega)) ?_)|(refine zQ (rCmp_ok (lm (B+2 * R)) y (by omega) (by omega)) ?_)|(refine zQ (rSub_ge (lm (B+2 * R)) y (by omega) (by omega) (cmpN_ge0 (by assumption))) ?_)|intro b0 hb)|((first|with_reducible refine zm ?_|guard_hyp hK);refine zY ?_ ?_;all_goals(intro hb;(try simp only [sn,sb] at hb);try exact ex0)))
  ·have hge:V0≤B+2 * R:=by have:=cmpN_ge0 hb;rwa [val_lm,hvy] at this
   have e0:(((k / 32:Nat):Int)).toNat=k / 32:=rfl
   have hk:k / 32 < q.length:=by omega
   obtain⟨hp1,hp2⟩:=put_bit (i:=k) (Q:=Q) hk (by rw [h4];rfl)
   have hdb:=div_bit (val l) k
   rw [hB,show val l / 2 ^ (k+1)=V0 * Q+R from h5] at hdb
   refine⟨((k:Int) - 1,q.set (k / 32) (UInt32.ofNat ((q.getD (k / 32) default).toNat+2 ^ (k % 32))),2 * Q+1,B+2 * R - V0),⟨by omega,by omega,by rw [List.length_set];exact hql,by omega,?_,?_⟩,by show((k:Int) - 1+1).toNat < ((k:Int)+1).toNat;omega,lf_of0 ?_ ?_⟩
   ·rw [show((k:Int) - 1+1).toNat=k by omega];exact hp2
   ·have e7:V0 * (2 * Q+1)=2 * (V0 * Q)+V0:=by rw [Nat.mul_add,Nat.mul_one,Nat.mul_left_comm]
    rw [show((k:Int) - 1+1).toNat=k by omega,hdb]
    omega
   ·refine⟨Lc.same _ trivial,Lc.same _ trivial,Lc.same _ rfl,?_,Lc.same _ trivial,trivial⟩
    show LV _ _ (.ro true (tn (lm (val (lm (B+2 * R)) - val y)))) _
    rw [val_lm,hvy]
    exact Lc.same _ trivial
   ·refine⟨lfOb_same ?_ (fun e he=>?_),trivial⟩
    ·refine congrArg (fun l=>some (Obj.mk 1 l 0 true)) (?_:(q.map cu).set (0+k / 32) (V.con (.int .u32 (IntKind.u32.wrap (((q.getD (0+k / 32) default).toNat:Int)+((2 ^ (k % 32):Nat):Int)))))=_)
     rw [Nat.zero_add,← Int.natCast_add,wrap32 (Int.natCast_nonneg _),Int.toNat_natCast,set_cu2]
    ·obtain⟨x,-,rfl⟩:=List.mem_map.1 he
     trivial
  ·have hlt2:B+2 * R < V0:=by have:=cmpN_neg hb;rwa [val_lm,hvy] at this
   have hdb:=div_bit (val l) k
   rw [hB,show val l / 2 ^ (k+1)=V0 * Q+R from h5] at hdb
   refine⟨((k:Int) - 1,q,2 * Q,B+2 * R),⟨by omega,by omega,hql,by omega,?_,?_⟩,by show((k:Int) - 1+1).toNat < ((k:Int)+1).toNat;omega,lf_of0 ?_ ?_⟩
   ·rw [show((k:Int) - 1+1).toNat=k by omega,h4,show((k:Int)+1).toNat=k+1 from rfl,Nat.pow_succ];ac_rfl
   ·rw [show((k:Int) - 1+1).toNat=k by omega,hdb]
    have:V0 * (2 * Q)=2 * (V0 * Q):=by ac_rfl
    omega
   ·exact⟨Lc.same _ trivial,Lc.same _ trivial,Lc.same _ rfl,Lc.same _ trivial,Lc.same _ trivial,trivial⟩
   ·refine⟨lfOb_same rfl (fun e he=>?_),trivial⟩
    obtain⟨x,-,rfl⟩:=List.mem_map.1 he
    trivial
 ·repeat'(first|(with_reducible first|(refine zz ?_;try intro K hK)|refine zI ?_|refine zt ?_|refine zf ?_)|((first|refine hK _ ?_|refine hK _ _ rfl ?_);clear hK K)|(guard_hyp hK;first|(refine zY ?zz ?_;case zz=>first|exact rfl|exact gI)|refine fresh_n ?_|refine freshO_n ?_|(refine at_Q ?_;intro hu)|refine zP wA ?_|(refine mul_Q ?_;intro hm1 hm2)|refine zP at_M ?_|refine zP rfl ?_|intro b0 hb)|((first|with_reducible refine zm ?_|guard_hyp hK);refine zY ?_ ?_;all_goals(intro hb;(try simp only [sn,sb] at hb);try exact ex0)))
  have e1:(i+1).toNat=0:=by omega
  rw [e1,Nat.pow_zero,Nat.mul_one] at h4
  rw [e1,Nat.pow_zero,Nat.div_one] at h5
  have hd1:val l / V0=Q:=by rw [h5,Nat.mul_add_div (Nat.pos_of_ne_zero h0),Nat.div_eq_of_lt h3,Nat.add_zero]
  have hd2:val l % V0=R:=by rw [h5,Nat.mul_add_mod,Nat.mod_eq_of_lt h3]
  refine Or.inl (Exists.intro _ (Exists.intro _ (Exists.intro _ (And.intro (rNorm_ok q (by omega)) (Exists.intro [(0,?o)] (And.intro (lpre1 ?ho) (And.intro ?z (And.intro rfl ?_))))))))
  case ho=>exact rfl
  case z=>
   refine fzl1 (fz_own (l:=q) (F:=cu) (G:=tu32) rfl rfl rfl hql ?_ (fun a _=>fze_con _) rfl)
   show List.take _ (List.drop 0 (q.map cu))=_
   rw [List.drop_zero,List.take_of_length_le (by rw [List.length_map];omega)]
  repeat'(first|(with_reducible first|(refine zz ?_;try intro K hK)|refine zI ?_|refine zt ?_|refine zf ?_)|((first|refine hK _ ?_|refine hK _ _ rfl ?_);clear hK K)|(guard_hyp hK;first|(refine zY ?zz ?_;case zz=>first|exact rfl|exact gI)|refine fresh_n ?_|refine freshO_n ?_|(refine at_Q ?_;intro hu)|refine zP wA ?_|(refine mul_Q ?_;intro hm1 hm2)|refine zP at_M ?_|refine zP rfl ?_|intro b0 hb)|((first|with_reducible refine zm ?_|guard_hyp hK);refine zY ?_ ?_;all_goals(intro hb;(try simp only [sn,sb] at hb);try exact ex0)))
  rw [hd1,hd2]
  exact⟨trivial,_,_,_,rfl,fz_ro (by rw [norm_lm,h4]) fun h=>h,fz_ro rfl fun h=>h,fz_con rfl⟩
theorem lm_len_le {a b:Nat}(h:a≤b):(lm a).length≤(lm b).length:=by
 rcases Nat.lt_or_ge a b with h1|h1
 ·exact lm_len_lt h1
 ·rw [Nat.le_antisymm h h1];exact Nat.le_refl _
theorem lm_step {n:Nat}(h:n≠0):lm n=UInt32.ofNat n :: lm (n / 4294967296):=by rw [lm,if_neg h]
theorem dbl_lm (U:Nat):∀c,c≤1→dblL c (lm U)=lm (c+2 * U):=by
 induction U using Nat.strongRecOn with
 |_ U ih=>
  intro c hc
  by_cases h0:U=0
  ·subst h0
   rw [(lm_nil_iff 0).2 rfl]
   unfold dblL
   split
   ·rw [lm_step (by omega),(lm_nil_iff _).2 (by omega:(c+2 * 0) / 4294967296=0)];rfl
   ·rw [(lm_nil_iff _).2 (by omega)]
  ·rw [lm_step h0,dblL,lm_step (n:=c+2 * U) (by omega),UInt32.toNat_ofNat',ih _ (Nat.div_lt_self (by omega) (by decide)) _ (by omega)]
   congr 1
   ·refine UInt32.toNat_inj.1 ?_
    rw [UInt32.toNat_ofNat',UInt32.toNat_ofNat'];omega
   ·congr 1;omega
theorem odd_gcd {x y:Nat}(hy:y % 2=1):Nat.gcd (2 * x) y=Nat.gcd x y:=by
 have hc:Nat.Coprime 2 y:=by
  rw [Nat.coprime_comm,Nat.Coprime,Nat.gcd_comm,Nat.gcd_rec,hy];rfl
 exact Nat.Coprime.gcd_mul_left_cancel x hc
theorem gcd_less {x y:Nat}(h:x≤y):Nat.gcd x (y - x)=Nat.gcd x y:=by
 obtain⟨z,rfl⟩:∃z,y=x+z:=⟨y - x,by omega⟩
 rw [Nat.add_sub_cancel_left]
 refine Nat.dvd_antisymm (Nat.dvd_gcd (Nat.gcd_dvd_left _ _) (Nat.dvd_add (Nat.gcd_dvd_left _ _) (Nat.gcd_dvd_right _ _))) (Nat.dvd_gcd (Nat.gcd_dvd_left _ _) ?_)
 exact(Nat.dvd_add_right (Nat.gcd_dvd_left _ _)).1 (Nat.gcd_dvd_right x (x+z))
theorem pow_bound {s W L:Nat}(h:2 ^ s≤W)(hW:W < 4294967296 ^ L):s < 32 * L:=by
 rw [show(4294967296:Nat)=2 ^ 32 by decide,← Nat.pow_mul] at hW
 exact(Nat.pow_lt_pow_iff_right (by decide)).1 (Nat.lt_of_le_of_lt h hW)
theorem rNormL_ok (l:List UInt32)(hl:l.length≤2199023255552):Ok Tryz.prog 97 [tn l] true (tn (lm (val l))):=by
 have:=rNorm_ok l hl
 rwa [norm_lm] at this
theorem evenX_ok (U:Nat)(h:(lm U).length≤1099511627776):Ok Tryz.prog 150 [tn (lm U)] true (.con (.bool (U % 2 == 0))):=by
 have:=reven_ok (lm U) (by omega)
 rwa [val_lm] at this
theorem halfX_ok (U:Nat)(h:(lm U).length≤1099511627776):Ok Tryz.prog 151 [tn (lm U)] true (tn (lm (U / 2))):=by
 have:=rhalf_ok (lm U) h
 rwa [val_lm] at this
theorem doubleX_ok (U:Nat)(h:(lm U).length≤1099511627776):Ok Tryz.prog 154 [tn (lm U),.con (.int .u32 0)] true (tn (lm (2 * U))):=by
 have:=rdouble_ok (lm U) 0 (by decide) h
 rwa [dbl_lm U 0 (by decide),Nat.zero_add] at this
theorem cmpX_ok (U Z:Nat)(h:(lm U).length≤1099511627776)(h2:(lm Z).length≤1099511627776):Ok Tryz.prog 152 [tn (lm U),tn (lm Z)] true (.con (.int .i64 (cmpN U Z))):=by
 have:=rCmp_ok (lm U) (lm Z) (by omega) (by omega)
 rwa [val_lm,val_lm] at this
theorem subX_ok (U Z:Nat)(h:(lm U).length≤1099511627776)(h2:(lm Z).length≤1099511627776)(hle:Z≤U):Ok Tryz.prog 153 [tn (lm U),tn (lm Z)] true (.tup [tn (lm (U - Z)),.con (.bool true)]):=by
 have:=rSub_ge (lm U) (lm Z) h h2 (by rw [val_lm,val_lm];exact hle)
 rwa [val_lm,val_lm] at this
theorem lm0 (n:Nat):(lm n).length=0↔n=0:=⟨fun h=>(lm_nil_iff n).1 (List.eq_nil_of_length_eq_zero h),fun h=>by rw [(lm_nil_iff n).2 h];rfl⟩
theorem cmpN_le {a b:Nat}(h:cmpN a b≤0):a≤b:=by
 rcases Nat.lt_or_ge b a with h1|h1
 ·rw [cmpN_gt h1] at h;omega
 ·exact h1
theorem cmpN_pos {a b:Nat}(h:0 < cmpN a b):b < a:=by
 rcases Nat.lt_or_ge b a with h1|h1
 ·exact h1
 ·unfold cmpN at h
  split at h
  ·omega
  ·rw [if_neg (by omega)] at h;omega
theorem rGcd_ok (a b:List UInt32)(ha:a.length≤10737418240)(hb9:b.length≤10737418240):Ok Tryz.prog 137 [tn a,tn b] true (tn (lm (Nat.gcd (val a) (val b)))):=by
 have hla:(lm (val a)).length≤10737418240:=by have:=norm_le a;rw [norm_lm] at this;omega
 have hlb:(lm (val b)).length≤10737418240:=by have:=norm_le b;rw [norm_lm] at this;omega
 have hva:=val_lt a
 obtain⟨A,hA⟩:∃A,val a=A:=⟨_,rfl⟩
 obtain⟨B,hB⟩:∃B,val b=B:=⟨_,rfl⟩
 have hna:=rNormL_ok a (by omega)
 have hnb:=rNormL_ok b (by omega)
 rw [hA] at hna hla hva ⊢
 rw [hB] at hnb hlb ⊢
 refine ok_of_ev hC0 mix Tryz.func137 rfl rfl (by kernel_rfl) (zO rfl) ?_
 repeat'(first|(refine seq_j (a:=Code.block 0 _) (Nat×Nat×Nat) (fun(U,Z,s)=>⟨Tryz.f137.ntmps,[(5,.ro true (tn (lm U))),(6,.ro true (tn (lm Z))),(7,.con (.int .i64 s))],[]⟩) (fun(U,Z,s)=>0 < U∧U≤A∧Z≤B∧s≤343597383680∧Nat.gcd U Z * 2 ^ s=Nat.gcd A B∧¬(U % 2=0∧Z % 2=0)) ?_ ?_)|(with_reducible first|(refine zz ?_;try intro K hK)|refine zI ?_|refine zt ?_|refine zf ?_)|((first|refine hK _ ?_|refine hK _ _ rfl ?_);clear hK K)|(guard_hyp hK;first|(refine zY ?zz ?_;case zz=>first|exact rfl|exact gI)|refine fresh_n ?_|refine freshO_n ?_|(refine at_Q ?_;intro hu)|refine zP wA ?_|(refine mul_Q ?_;intro hm1 hm2)|refine zP at_M ?_|refine zP rfl ?_|(refine zQ (hna) ?_)|(refine zQ (hnb) ?_)|intro b0 hb)|((first|with_reducible refine zm ?_|guard_hyp hK);refine zY ?_ ?_;all_goals(intro hb;(try simp only [sn,sb] at hb);try exact ex0)))
 ·have h0:A=0:=(lm0 A).1 (by omega)
  exact And.intro trivial (fz_ro (by rw [h0,Nat.gcd_zero_left]) fun h=>h)
 ·have h0:B=0:=(lm0 B).1 (by omega)
  exact And.intro trivial (fz_ro (by rw [h0,Nat.gcd_zero_right]) fun h=>h)
 rotate_left
 ·intro R hR
  have hA0:A≠0:=fun h=>by have:=(lm0 A).2 h;omega
  have hB0:B≠0:=fun h=>by have:=(lm0 B).2 h;omega
  repeat'(first|(with_reducible first|(refine zz ?_;try intro K hK)|refine zI ?_|refine zt ?_|refine zf ?_)|((first|refine hK _ ?_|refine hK _ _ rfl ?_);clear hK K)|(guard_hyp hK;first|(refine zY ?zz ?_;case zz=>first|exact rfl|exact gI)|refine fresh_n ?_|refine freshO_n ?_|(refine at_Q ?_;intro hu)|refine zP wA ?_|(refine mul_Q ?_;intro hm1 hm2)|refine zP at_M ?_|refine zP rfl ?_|intro b0 hb)|((first|with_reducible refine zm ?_|guard_hyp hK);refine zY ?_ ?_;all_goals(intro hb;(try simp only [sn,sb] at hb);try exact ex0)))
  refine loop_i (Nat×Nat×Nat) (fun(U,Z,s)=>⟨Tryz.f137.ntmps,[(5,.ro true (tn (lm U))),(6,.ro true (tn (lm Z))),(7,.con (.int .i64 s))],[]⟩)
   (fun(U,Z,s)=>0 < U∧0 < Z∧U * 2 ^ s≤A∧Z≤B∧Nat.gcd U Z * 2 ^ s=Nat.gcd A B) (fun(U,Z,s)=>U) [] (A,B,0) trivial ⟨by omega,by omega,by omega,by omega,by omega⟩ ⟨rfl,⟨rfl,trivial,rfl,trivial,rfl,trivial,trivial⟩,trivial,trivial⟩ ?_
  rintro⟨U,Z,s⟩ ⟨h1,h2,h3,h4,h5⟩
  have hXA:U≤A:=Nat.le_trans (Nat.le_mul_of_pos_right _ (Nat.pow_pos (by decide))) h3
  have hX:=lm_len_le hXA
  have hY:=lm_len_le h4
  have hs:s≤343597383680:=by
   have:=pow_bound (s:=s) (Nat.le_trans (Nat.le_mul_of_pos_left _ h1) h3) hva
   omega
  repeat'(first|(with_reducible first|(refine zz ?_;try intro K hK)|refine zI ?_|refine zt ?_|refine zf ?_)|((first|refine hK _ ?_|refine hK _ _ rfl ?_);clear hK K)|(guard_hyp hK;first|(refine zY ?zz ?_;case zz=>first|exact rfl|exact gI)|refine fresh_n ?_|refine freshO_n ?_|(refine at_Q ?_;intro hu)|refine zP wA ?_|(refine mul_Q ?_;intro hm1 hm2)|refine zP at_M ?_|refine zP rfl ?_|(refine zQ (evenX_ok U (by omega)) ?_)|(refine zQ (evenX_ok Z (by omega)) ?_)|(refine zQ (halfX_ok U (by omega)) ?_)|(refine zQ (halfX_ok Z (by omega)) ?_)|intro b0 hb)|((first|with_reducible refine zm ?_|guard_hyp hK);refine zY ?_ ?_;all_goals(intro hb;(try simp only [sn,sb] at hb);try exact ex0)))
  ·have ex:U % 2=0:=by assumption
   have ey:Z % 2=0:=by assumption
   obtain⟨x,rfl⟩:∃x,U=2 * x:=⟨U / 2,by omega⟩
   obtain⟨y,rfl⟩:∃y,Z=2 * y:=⟨Z / 2,by omega⟩
   rw [Nat.gcd_mul_left] at h5
   refine⟨((2 * x) / 2,(2 * y) / 2,s+1),⟨by omega,by omega,?_,by omega,?_⟩,by show(2 * x) / 2 < 2 * x;omega,rfl,⟨rfl,trivial,rfl,trivial,rfl,trivial,trivial⟩,trivial,trivial⟩
   ·rw [Nat.mul_div_cancel_left _ (by decide),Nat.pow_succ]
    have:x * (2 ^ s * 2)=2 * x * 2 ^ s:=by ac_rfl
    omega
   ·rw [Nat.mul_div_cancel_left _ (by decide),Nat.mul_div_cancel_left _ (by decide),Nat.pow_succ,← h5];ac_rfl
  all_goals exact hR _ (U,Z,s) ⟨h1,hXA,h4,hs,h5,fun h=>by simp_all⟩ ⟨rfl,⟨rfl,trivial,rfl,trivial,rfl,trivial,trivial⟩,trivial,trivial⟩
 rintro⟨U,Z,s⟩ ⟨h1,h2,h3,hs,h5,h6⟩
 obtain⟨W,hW⟩:∃W,max A B=W:=⟨_,rfl⟩
 have hWl:(lm W).length≤10737418240:=by
  rcases Nat.le_total A B with h|h
  ·rw [← hW,Nat.max_eq_right h];exact hlb
  ·rw [← hW,Nat.max_eq_left h];exact hla
 repeat'(first|(with_reducible first|(refine zz ?_;try intro K hK)|refine zI ?_|refine zt ?_|refine zf ?_)|((first|refine hK _ ?_|refine hK _ _ rfl ?_);clear hK K)|(guard_hyp hK;first|(refine zY ?zz ?_;case zz=>first|exact rfl|exact gI)|refine fresh_n ?_|refine freshO_n ?_|(refine at_Q ?_;intro hu)|refine zP wA ?_|(refine mul_Q ?_;intro hm1 hm2)|refine zP at_M ?_|refine zP rfl ?_|intro b0 hb)|((first|with_reducible refine zm ?_|guard_hyp hK);refine zY ?_ ?_;all_goals(intro hb;(try simp only [sn,sb] at hb);try exact ex0)))
 refine loop_i (Nat×Nat) (fun(U,Z)=>⟨Tryz.f137.ntmps,[(5,.ro true (tn (lm U))),(6,.ro true (tn (lm Z))),(7,.con (.int .i64 s))],[]⟩) (fun(U,Z)=>0 < U∧U≤W∧Z≤W∧Nat.gcd U Z * 2 ^ s=Nat.gcd A B∧¬(U % 2=0∧Z % 2=0)) (fun(U,Z)=>U+Z) [] (U,Z) trivial ⟨h1,by omega,by omega,h5,h6⟩ ⟨rfl,⟨rfl,trivial,rfl,trivial,rfl,trivial,trivial⟩,trivial,trivial⟩ ?_
 clear h1 h2 h3 h5 h6 U Z
 rintro⟨U0,Z0⟩ ⟨h1,h2,h3,h5,h6⟩
 have hX:=lm_len_le h2
 have hY:=lm_len_le h3
 repeat'(first|(with_reducible first|(refine zz ?_;try intro K hK)|refine zI ?_|refine zt ?_|refine zf ?_)|((first|refine hK _ ?_|refine hK _ _ rfl ?_);clear hK K)|(guard_hyp hK;first|(refine zY ?zz ?_;case zz=>first|exact rfl|exact gI)|refine fresh_n ?_|refine freshO_n ?_|(refine at_Q ?_;intro hu)|refine zP wA ?_|(refine mul_Q ?_;intro hm1 hm2)|refine zP at_M ?_|refine zP rfl ?_|intro b0 hb)|((first|with_reducible refine zm ?_|guard_hyp hK);refine zY ?_ ?_;all_goals(intro hb;(try simp only [sn,sb] at hb);try exact ex0)))
 ·have hz0:0 < Z0:=by
   rcases Nat.eq_zero_or_pos Z0 with h|h
   ·have:=(lm0 Z0).2 h;omega
   ·exact h
  refine loop_i Nat (fun U=>⟨Tryz.f137.ntmps,[(5,.ro true (tn (lm U))),(6,.ro true (tn (lm Z0))),(7,.con (.int .i64 s))],[]⟩) (fun U=>0 < U∧U≤U0∧Nat.gcd U Z0 * 2 ^ s=Nat.gcd A B∧¬(U % 2=0∧Z0 % 2=0)) (fun U=>U) [] U0 trivial ⟨h1,Nat.le_refl _,h5,h6⟩ ⟨rfl,⟨rfl,trivial,rfl,trivial,rfl,trivial,trivial⟩,trivial,trivial⟩ ?_
  rintro U ⟨k1,k2,k3,k4⟩
  have hU:=lm_len_le k2
  repeat'(first|(with_reducible first|(refine zz ?_;try intro K hK)|refine zI ?_|refine zt ?_|refine zf ?_)|((first|refine hK _ ?_|refine hK _ _ rfl ?_);clear hK K)|(guard_hyp hK;first|(refine zY ?zz ?_;case zz=>first|exact rfl|exact gI)|refine fresh_n ?_|refine freshO_n ?_|(refine at_Q ?_;intro hu)|refine zP wA ?_|(refine mul_Q ?_;intro hm1 hm2)|refine zP at_M ?_|refine zP rfl ?_|(refine zQ (evenX_ok U (by omega)) ?_)|(refine zQ (halfX_ok U (by omega)) ?_)|intro b0 hb)|((first|with_reducible refine zm ?_|guard_hyp hK);refine zY ?_ ?_;all_goals(intro hb;(try simp only [sn,sb] at hb);try exact ex0)))
  ·obtain⟨u,rfl⟩:∃u,U=2 * u:=⟨U / 2,by omega⟩
   refine⟨2 * u / 2,⟨by omega,by omega,?_,fun h=>by omega⟩,by omega,rfl,⟨rfl,trivial,rfl,trivial,rfl,trivial,trivial⟩,trivial,trivial⟩
   rw [Nat.mul_div_cancel_left _ (by decide),← k3,odd_gcd (by omega)]
  have hodd:U % 2=1:=by omega
  refine loop_i Nat (fun Z=>⟨Tryz.f137.ntmps,[(5,.ro true (tn (lm U))),(6,.ro true (tn (lm Z))),(7,.con (.int .i64 s))],[]⟩) (fun Z=>0 < Z∧Z≤Z0∧Nat.gcd U Z * 2 ^ s=Nat.gcd A B) (fun Z=>Z) [] Z0 trivial ⟨hz0,Nat.le_refl _,k3⟩ ⟨rfl,⟨rfl,trivial,rfl,trivial,rfl,trivial,trivial⟩,trivial,trivial⟩ ?_
  rintro Z ⟨j1,j2,j3⟩
  have hZ:=lm_len_le j2
  repeat'(first|(with_reducible first|(refine zz ?_;try intro K hK)|refine zI ?_|refine zt ?_|refine zf ?_)|((first|refine hK _ ?_|refine hK _ _ rfl ?_);clear hK K)|(guard_hyp hK;first|(refine zY ?zz ?_;case zz=>first|exact rfl|exact gI)|refine fresh_n ?_|refine freshO_n ?_|(refine at_Q ?_;intro hu)|refine zP wA ?_|(refine mul_Q ?_;intro hm1 hm2)|refine zP at_M ?_|refine zP rfl ?_|(refine zQ (evenX_ok Z (by omega)) ?_)|(refine zQ (halfX_ok Z (by omega)) ?_)|(refine zQ (cmpX_ok U Z (by omega) (by omega)) ?_)|(refine zQ (subX_ok U Z (by omega) (by omega) (Nat.le_of_lt (cmpN_pos (by assumption)))) ?_)|(refine zQ (subX_ok Z U (by omega) (by omega) (cmpN_le (by assumption))) ?_)|intro b0 hb)|((first|with_reducible refine zm ?_|guard_hyp hK);refine zY ?_ ?_;all_goals(intro hb;(try simp only [sn,sb] at hb);try exact ex0)))
  ·obtain⟨z,rfl⟩:∃z,Z=2 * z:=⟨Z / 2,by omega⟩
   refine⟨2 * z / 2,⟨by omega,by omega,?_⟩,by omega,rfl,⟨rfl,trivial,rfl,trivial,rfl,trivial,trivial⟩,trivial,trivial⟩
   rw [Nat.mul_div_cancel_left _ (by decide),← j3,Nat.gcd_comm U,Nat.gcd_comm U,odd_gcd hodd]
  ·have hlt:=cmpN_pos hb
   refine⟨(Z,U - Z),⟨by omega,by omega,by omega,?_,fun h=>by omega⟩,by show Z+(U - Z) < U0+Z0;omega,rfl,⟨rfl,trivial,rfl,trivial,rfl,trivial,trivial⟩,trivial,trivial⟩
   rw [← j3,gcd_less (Nat.le_of_lt hlt),Nat.gcd_comm]
  ·have hle:=cmpN_le hb
   refine⟨(U,Z - U),⟨by omega,by omega,by omega,?_,fun h=>by omega⟩,by show U+(Z - U) < U0+Z0;omega,rfl,⟨rfl,trivial,rfl,trivial,rfl,trivial,trivial⟩,trivial,trivial⟩
   rw [← j3,gcd_less hle]
  all_goals
   exfalso
   have:=(lm0 Z).1 (by omega)
   omega
 ·have hz0:Z0=0:=(lm0 Z0).1 (by omega)
  subst hz0
  rw [Nat.gcd_zero_right] at h5
  repeat'(first|(with_reducible first|(refine zz ?_;try intro K hK)|refine zI ?_|refine zt ?_|refine zf ?_)|((first|refine hK _ ?_|refine hK _ _ rfl ?_);clear hK K)|(guard_hyp hK;first|(refine zY ?zz ?_;case zz=>first|exact rfl|exact gI)|refine fresh_n ?_|refine freshO_n ?_|(refine at_Q ?_;intro hu)|refine zP wA ?_|(refine mul_Q ?_;intro hm1 hm2)|refine zP at_M ?_|refine zP rfl ?_|intro b0 hb)|((first|with_reducible refine zm ?_|guard_hyp hK);refine zY ?_ ?_;all_goals(intro hb;(try simp only [sn,sb] at hb);try exact ex0)))
  refine loop_i (Nat×Nat) (fun(U,i)=>⟨Tryz.f137.ntmps,[(5,.ro true (tn (lm U))),(7,.con (.int .i64 s)),(8,.con (.int .i64 i))],[]⟩) (fun(U,i)=>i≤s∧U≤Nat.gcd A B∧U * 2 ^ (s - i)=Nat.gcd A B) (fun(U,i)=>s - i) [] (U0,0) trivial ⟨by omega,by rw [← h5];exact Nat.le_mul_of_pos_right _ (Nat.pow_pos (by decide)),h5⟩ ⟨rfl,⟨rfl,trivial,rfl,trivial,rfl,trivial,trivial⟩,trivial,trivial⟩ ?_
  rintro⟨U,i⟩ ⟨k1,k2,k3⟩
  have hU:=lm_len_le k2
  have hG:Nat.gcd A B≤A:=Nat.le_of_dvd (Nat.pos_of_ne_zero fun h=>by have:=(lm0 A).2 h;omega) (Nat.gcd_dvd_left A B)
  have hU2:=lm_len_le hG
  repeat'(first|(with_reducible first|(refine zz ?_;try intro K hK)|refine zI ?_|refine zt ?_|refine zf ?_)|((first|refine hK _ ?_|refine hK _ _ rfl ?_);clear hK K)|(guard_hyp hK;first|(refine zY ?zz ?_;case zz=>first|exact rfl|exact gI)|refine fresh_n ?_|refine freshO_n ?_|(refine at_Q ?_;intro hu)|refine zP wA ?_|(refine mul_Q ?_;intro hm1 hm2)|refine zP at_M ?_|refine zP rfl ?_|(refine zQ (doubleX_ok U (by omega)) ?_)|intro b0 hb)|((first|with_reducible refine zm ?_|guard_hyp hK);refine zY ?_ ?_;all_goals(intro hb;(try simp only [sn,sb] at hb);try exact ex0)))
  ·have e:s - i=(s - (i+1))+1:=by omega
   rw [e,Nat.pow_succ] at k3
   refine⟨(2 * U,i+1),⟨by omega,?_,?_⟩,by show s - (i+1) < s - i;omega,rfl,⟨rfl,trivial,rfl,trivial,rfl,trivial,trivial⟩,trivial,trivial⟩
   ·have:U * (2 ^ (s - (i+1)) * 2)=2 * U * 2 ^ (s - (i+1)):=by ac_rfl
    rw [← k3,this];exact Nat.le_mul_of_pos_right _ (Nat.pow_pos (by decide))
   ·rw [← k3];ac_rfl
  ·have e:s - i=0:=by omega
   rw [e,Nat.pow_zero,Nat.mul_one] at k3
   exact And.intro trivial (fz_ro (by rw [k3]) fun h=>h)
end Go.Ev
