import Derived.Test.YtppbdmkbhalmpaaGreatDoorLam
import Derived.Test.YtppbdmkbhalmpaaGreatDoorKnu
set_option linter.all false
set_option maxHeartbeats 4000000
set_option maxRecDepth 10000
namespace Go.Ev
open Go.Proofs
def digP (p:List UInt32)(off n w:Nat):List UInt32:=p.take off ++ padL n w ++ p.drop (off+n)
theorem digP_len {p:List UInt32}{off n w:Nat}(h:off+n≤p.length):(digP p off n w).length=p.length:=by
 unfold digP
 simp [padL_len];omega
def wq (p:List UInt32)(off:Nat)(x:List UInt32):List UInt32:=p.take off ++ (x ++ p.drop (off+x.length))
theorem wq_len {p x:List UInt32}{off:Nat}(h:off+x.length≤p.length):(wq p off x).length=p.length:=by
 unfold wq
 simp only [List.length_append,List.length_take,List.length_drop];omega
theorem wq_nil (p:List UInt32)(off:Nat):wq p off []=p:=by unfold wq;simp
theorem wq_get {p x:List UInt32}{off:Nat}(h:off+x.length < p.length):(wq p off x).getD (off+x.length) default=p.getD (off+x.length) default:=by
 unfold wq
 have e:off+x.length=(p.take off).length+(x.length+0):=by rw [List.length_take];omega
 rw [List.getD,e,List.getElem?_append_right (by omega),Nat.add_sub_cancel_left,List.getElem?_append_right (by omega),Nat.add_sub_cancel_left,List.getElem?_drop,← e]
 rfl
theorem wq_set {p x:List UInt32}{off:Nat}{d:UInt32}(h:off+x.length < p.length):(wq p off x).set (off+x.length) d=wq p off (x ++ [d]):=by
 unfold wq
 have e:(p.take off).length=off:=by rw [List.length_take];omega
 rw [List.set_append_right _ _ (by omega),List.set_append_right _ _ (by omega),e,show off+x.length - off - x.length=0 by omega,List.drop_eq_getElem_cons h,List.set_cons_zero,List.append_assoc,List.length_append]
 rfl
theorem wq_take {p x:List UInt32}{off:Nat}(h:off≤p.length):(wq p off x).take off=p.take off:=by
 unfold wq
 rw [List.take_append_of_le_length (by rw [List.length_take];omega),List.take_take,Nat.min_self]
theorem wq_drop {p x:List UInt32}{off:Nat}(h:off≤p.length):(wq p off x).drop (off+x.length)=p.drop (off+x.length):=by
 unfold wq
 have e:(p.take off).length=off:=by rw [List.length_take];omega
 rw [← List.drop_drop,List.drop_left' e,List.drop_left]
theorem wq_wq {p x y:List UInt32}{off:Nat}(h:off≤p.length)(hl:y.length=x.length):wq (wq p off x) off y=wq p off y:=by
 show(wq p off x).take off ++ (y ++ (wq p off x).drop (off+y.length))=_
 rw [wq_take h,hl,wq_drop h,← hl];rfl
theorem digP_wq {p z:List UInt32}{off n w:Nat}(hz:z.length=n)(hv:val z=w):digP p off n w=wq p off z:=by
 unfold digP wq
 rw [← hv,← hz,padL_val,List.append_assoc]
theorem lowE {t b:Nat}(h1:t < 18446744073709551616)(hb:b≤1):IntKind.u64.wrap (IntKind.u64.wrap (((BitVec.ofInt IntKind.u64.bits (t:Int) &&& BitVec.ofInt IntKind.u64.bits 4294967295).toNat:Nat):Int)+(b:Int))=((t % 4294967296+b:Nat):Int):=by
 rw [show IntKind.u64.bits=64 from rfl]
 have e1:BitVec.ofInt 64 (t:Int)=BitVec.ofNat 64 t:=BitVec.ofInt_natCast ..
 have e2:BitVec.ofInt 64 4294967295=BitVec.ofNat 64 4294967295:=rfl
 have e3:t &&& 4294967295=t % 4294967296:=Nat.and_two_pow_sub_one_eq_mod t 32
 rw [e1,e2,BitVec.toNat_and,BitVec.toNat_ofNat,BitVec.toNat_ofNat,Nat.mod_eq_of_lt (by omega),Nat.mod_eq_of_lt (by omega),e3,← wrapU64 (a:=((t % 4294967296:Nat):Int)) (by omega) (by omega)]
 exact(wrapU64 (by omega) (by omega)).symm
theorem shrD {a:Int}{Q:Int→Prop}(h0:0≤a)(k:Q (a / 4294967296)):∃r,r=a.fdiv (2 ^ (min (32:Int).toNat IntKind.u64.bits))∧Q r:=by
 refine⟨_,?_,k⟩
 show _=a.fdiv 4294967296
 rw [Int.fdiv_eq_ediv_of_nonneg _ (by decide)]
theorem ne_v {x y:Nat}(h:x=y)(h2:2147483648≤y):((x:Nat):Int)≠0:=by omega
theorem gcast {g:Nat}(h:1≤g):V.con (.int .u64 ((g:Int) - 1))=V.con (.int .u64 ((g - 1:Nat):Int)):=by rw [Int.natCast_sub h];rfl
theorem gcast2 {g:Nat}(h:1≤g)(h2:g≤8589934592):V.con (.int .u64 (IntKind.u64.wrap ((g:Int) - 1)))=V.con (.int .u64 ((g - 1:Nat):Int)):=by
 rw [← wrapU64 (by omega) (by omega)];exact gcast h
theorem subd_wrap {u low:Nat}(hu:u < 4294967296)(hl:low≤4294967296):IntKind.u32.wrap ((u:Int) - IntKind.u32.wrap ((low:Nat):Int))=((subd u low:Nat):Int):=by
 simp [IntKind.wrap,IntKind.bits,IntKind.signed,subd];omega
theorem set_wrap {p:List UInt32}{i t:Nat}:(p.map cu).set i (V.con (.int .u32 (IntKind.u32.wrap ((t:Nat):Int))))=(p.set i (UInt32.ofNat t)).map cu:=by
 rw [wrap32 (Int.natCast_nonneg _),Int.toNat_natCast,set_cu2]
theorem ofN_mod (t:Nat):UInt32.ofNat t=UInt32.ofNat (t % 4294967296):=by
 apply UInt32.toNat_inj.1;simp
theorem wq_top {p x:List UInt32}{off:Nat}{d:UInt32}(h:off+x.length < p.length):(wq p off (x ++ [d])).getD (off+x.length) default=d:=by
 unfold wq
 have e:off+x.length=(p.take off).length+x.length:=by rw [List.length_take];omega
 rw [List.getD,e,List.getElem?_append_right (by omega),Nat.add_sub_cancel_left,List.append_assoc,List.getElem?_append_right (Nat.le_refl _),Nat.sub_self]
 rfl
theorem wq_low {p x:List UInt32}{off:Nat}{d:UInt32}(h:off≤p.length):((wq p off (x ++ [d])).drop off).take x.length=x:=by
 unfold wq
 have e:(p.take off).length=off:=by rw [List.length_take];omega
 rw [List.drop_left' e,List.append_assoc,List.take_left]
theorem addd_wrap {u k:Nat}(hk:k≤1):IntKind.u32.wrap ((u:Int)+(k:Int))=(((u+k) % 4294967296:Nat):Int):=by
 simp [IntKind.wrap,IntKind.bits,IntKind.signed]
theorem digit_ok (p v:List UInt32)(off:Nat)(hp:p.length≤10737418241)(hv2:2≤v.length)(ho:off+(v.length+1)≤p.length)
  (htop:2147483648≤(v.getD (v.length - 1) default).toNat) (hU:val ((p.drop off).take (v.length+1)) < 4294967296 * val v) :
  OkM Tryz.prog 107 [⟨0,1,p.map cu,(digP p off (v.length+1) (val ((p.drop off).take (v.length+1)) % val v)).map cu⟩] [.own 0 0 off (v.length+1),.ro false (tn v)] true (.con (.int .u32 (val ((p.drop off).take (v.length+1)) / val v:Nat))):=by
 obtain⟨n,hn⟩:∃n,v.length=n:=⟨_,rfl⟩
 obtain⟨v1,hv1⟩:∃x,(v.getD (n - 1) default).toNat=x:=⟨_,rfl⟩
 obtain⟨v2,hv2e⟩:∃x,(v.getD (n - 2) default).toNat=x:=⟨_,rfl⟩
 obtain⟨u0,hu0⟩:∃x,(p.getD (off+n) default).toNat=x:=⟨_,rfl⟩
 obtain⟨u1,hu1⟩:∃x,(p.getD (off+(n - 1)) default).toNat=x:=⟨_,rfl⟩
 obtain⟨u2,hu2⟩:∃x,(p.getD (off+(n - 2)) default).toNat=x:=⟨_,rfl⟩
 obtain⟨U,hUe⟩:∃x,val ((p.drop off).take (n+1))=x:=⟨_,rfl⟩
 obtain⟨W,hW⟩:∃x,val v=x:=⟨_,rfl⟩
 rw [hn] at hv2 ho htop hU ⊢
 rw [hUe,hW] at hU
 rw [hv1] at htop
 rw [hUe,hW]
 have b1:v1 < 4294967296:=by rw [← hv1];exact UInt32.toNat_lt _
 have b2:v2 < 4294967296:=by rw [← hv2e];exact UInt32.toNat_lt _
 have b3:u0 < 4294967296:=by rw [← hu0];exact UInt32.toNat_lt _
 have b4:u1 < 4294967296:=by rw [← hu1];exact UInt32.toNat_lt _
 have b5:u2 < 4294967296:=by rw [← hu2];exact UInt32.toNat_lt _
 obtain⟨w,vl,ul,hk⟩:∃w vl ul,Kn w v1 v2 vl (u0 * 4294967296+u1) u2 ul W U:=by
  have:=kn_of (p:=p) (v:=v) (off:=off) hn hv2 ho (by omega)
  rwa [hv1,hv2e,hu0,hu1,hu2,hW,hUe] at this
 have hpl:0 < p.length:=by omega
 have hvx:(v.getD ((((v.map tu32).length:Int) - 1).toNat) default).toNat=v1:=by
  rw [List.length_map,hn,show((n:Int) - 1).toNat=n - 1 by omega,hv1]
 have hvy:(v.getD (((n:Int) - 1).toNat) default).toNat=v1:=by rw [show((n:Int) - 1).toNat=n - 1 by omega,hv1]
 have hvz:(v.getD (((n:Int) - 2).toNat) default).toNat=v2:=by rw [show((n:Int) - 2).toNat=n - 2 by omega,hv2e]
 have hpu2:(p.getD (off+(((n:Int) - 2).toNat)) default).toNat=u2:=by rw [show((n:Int) - 2).toNat=n - 2 by omega,hu2]
 have horb:∀r x:Nat,r < 4294967296→x < 4294967296→IntKind.u64.wrap (((BitVec.ofInt IntKind.u64.bits ((r:Int) * 4294967296) |||BitVec.ofInt IntKind.u64.bits (x:Int)).toNat:Nat):Int)=((r * 4294967296+x:Nat):Int):=fun r x h1 h2=>or_eq h1 h2
 have hpu0:(p.getD (off+(((v.map tu32).length:Int)).toNat) default).toNat=u0:=by rw [List.length_map,hn];exact hu0
 have hpu1:(p.getD (off+((((v.map tu32).length:Int) - 1).toNat)) default).toNat=u1:=by rw [List.length_map,hn,show((n:Int) - 1).toNat=n - 1 by omega,hu1]
 have hT:u0 * 4294967296+u1 < 4294967296 * v1+4294967296:=by
  have h1:=hk.v
  have h2:=hk.u
  have h3:=hk.low.1
  have h4:=hk.low.2
  rcases Nat.lt_or_ge (u0 * 4294967296+u1) (4294967296 * v1+4294967296) with h5|h5
  ·exact h5
  ·exfalso
   have h6:w * (4294967296 * v1+4294967296)≤w * (u0 * 4294967296+u1):=Nat.mul_le_mul_left _ h5
   rw [Nat.mul_add] at h6
   have e1:w * (4294967296 * v1)=4294967296 * (w * v1):=by ac_rfl
   omega
 refine okm_of_ev hC0 mix Tryz.func107 rfl rfl (by kernel_rfl) (by kernel_rfl) (zO rfl) ?wf ?nd ?_
 case wf=>exact wf_cu (digP_len ho)
 case nd=>exact nd_one _
 repeat'(first|(first|(refine shl32 (by omega) (by omega) ?_)|(refine And.intro (ne_v hvx htop) ?_)|(refine seq_j (a:=Code.block 0 _) Nat (fun g=>⟨Tryz.f107.ntmps,[(0,.own 0 0 off (n+1)),(1,.ro false (tn v)),(5,.con (.int .i64 n)),(7,.con (.int .u64 g))],[(0,⟨1,p.map cu,0,true⟩)]⟩) (fun g=>g < 4294967296∧g * W≤U+W∧U < (g+1) * W) ?_ ?_))|(with_reducible first|(refine zz ?_;try intro K hK)|refine zI ?_|refine zt ?_|refine zf ?_)|((first|refine hK _ ?_|refine hK _ _ rfl ?_);clear hK K)|(guard_hyp hK;first|(refine zY ?zz ?_;case zz=>first|exact rfl|exact gI)|refine fresh_n ?_|refine freshO_n ?_|(refine at_Q ?_;intro hu)|refine zP wA ?_|(refine mul_Q ?_;intro hm1 hm2)|refine zP at_M ?_|refine zP rfl ?_|intro b0 hb)|((first|with_reducible refine zm ?_|guard_hyp hK);refine zY ?_ ?_;all_goals(intro hb;(try simp only [sn,sb] at hb);try exact ex0)))
 rotate_left
 ·intro R hR
  repeat'(first|(with_reducible first|(refine zz ?_;try intro K hK)|refine zI ?_|refine zt ?_|refine zf ?_)|((first|refine hK _ ?_|refine hK _ _ rfl ?_);clear hK K)|(guard_hyp hK;first|(refine zY ?zz ?_;case zz=>first|exact rfl|exact gI)|refine fresh_n ?_|refine freshO_n ?_|(refine at_Q ?_;intro hu)|refine zP wA ?_|(refine mul_Q ?_;intro hm1 hm2)|refine zP at_M ?_|refine zP rfl ?_|intro b0 hb)|((first|with_reducible refine zm ?_|guard_hyp hK);refine zY ?_ ?_;all_goals(intro hb;(try simp only [sn,sb] at hb);try exact ex0)))
  have htd:=Nat.div_add_mod (u0 * 4294967296+u1) v1
  have htm:=Nat.mod_lt (u0 * 4294967296+u1) (show 0 < v1 by omega)
  refine loop_i (Nat×Nat) (fun(g,r)=>⟨Tryz.f107.ntmps,[(0,.own 0 0 off (n+1)),(1,.ro false (tn v)),(5,.con (.int .i64 n)),(7,.con (.int .u64 g)),(8,.con (.int .u64 r))],[(0,⟨1,p.map cu,0,true⟩)]⟩) (fun(g,r)=>g * v1+r=u0 * 4294967296+u1∧r < 4294967296∧g≤8589934592∧U < (g+1) * W) (fun(g,r)=>g) [] ((u0 * 4294967296+u1) / v1,(u0 * 4294967296+u1) % v1) trivial ⟨?_,by omega,?_,?_⟩ ⟨rfl,⟨rfl,rfl,rfl,trivial,?_,trivial,?_,trivial,?_,trivial,trivial⟩,⟨rfl,trivial⟩,clObjs_cu _ _⟩ ?_
  ·rw [Nat.mul_comm];exact htd
  ·exact Nat.le_of_lt_succ ((Nat.div_lt_iff_lt_mul (by omega)).2 (by omega))
  ·rcases Nat.lt_or_ge U (((u0 * 4294967296+u1) / v1+1) * W) with h|h
   ·exact h
   ·have:=hk.up h
    rw [Nat.add_mul,Nat.one_mul,Nat.mul_comm] at this
    omega
  ·show V.con (.int .i64 ((v.map tu32).length:Nat))=_
   rw [List.length_map,hn]
  ·show V.con (.int .u64 (IntKind.u64.wrap ((IntKind.u64.wrap (((BitVec.ofInt 64 (((p.getD (off+(((v.map tu32).length:Int)).toNat) default).toNat:Int) * 4294967296) |||BitVec.ofInt 64 ((p.getD (off+((((v.map tu32).length:Int) - 1).toNat)) default).toNat:Int)).toNat:Nat):Int)).tdiv ((v.getD ((((v.map tu32).length:Int) - 1).toNat) default).toNat:Int))))=_
   rw [hpu0,hpu1,hvx,or_eq b3 b4,tdivn]
   refine congrArg (fun n=>V.con (.int .u64 n)) (wrapU64 (Int.natCast_nonneg _) ?_).symm
   have:=Nat.div_le_self (u0 * 4294967296+u1) v1
   exact Int.ofNat_lt.2 (Nat.lt_of_le_of_lt this (by omega:u0 * 4294967296+u1 < 18446744073709551616))
  ·show V.con (.int .u64 ((IntKind.u64.wrap (((BitVec.ofInt 64 (((p.getD (off+(((v.map tu32).length:Int)).toNat) default).toNat:Int) * 4294967296) |||BitVec.ofInt 64 ((p.getD (off+((((v.map tu32).length:Int) - 1).toNat)) default).toNat:Int)).toNat:Nat):Int)).tmod ((v.getD ((((v.map tu32).length:Int) - 1).toNat) default).toNat:Int)))=_
   rw [hpu0,hpu1,hvx,or_eq b3 b4,tmodn]
  rintro⟨g,r⟩ ⟨h1,h2,h3,h4⟩
  repeat'(first|(first|(refine shl32 (by omega) (by omega) ?_)|(refine And.intro (ne_v hvx htop) ?_))|(with_reducible first|(refine zz ?_;try intro K hK)|refine zI ?_|refine zt ?_|refine zf ?_)|((first|refine hK _ ?_|refine hK _ _ rfl ?_);clear hK K)|(guard_hyp hK;first|(refine zY ?zz ?_;case zz=>first|exact rfl|exact gI)|refine fresh_n ?_|refine freshO_n ?_|(refine at_Q ?_;intro hu)|refine zP wA ?_|(refine mul_Q ?_;intro hm1 hm2)|refine zP at_M ?_|refine zP rfl ?_|intro b0 hb)|((first|with_reducible refine zm ?_|guard_hyp hK);refine zY ?_ ?_;all_goals(intro hb;(try simp only [sn,sb] at hb);try exact ex0)))
  ·rename_i hg1
   rw [hvy] at hb
   have hc:4294967296≤g∨r * 4294967296+u2 < g * v2:=.inl (by omega)
   have d1:=hk.dn hU h1 hc
   have d2:=hk.br hU hT h1 hc (by omega)
   exact hR _ (g - 1) ⟨d2.1,d2.2,d1.2.1⟩ ⟨rfl,⟨rfl,rfl,rfl,trivial,rfl,trivial,gcast d1.1,trivial,trivial⟩,⟨rfl,trivial⟩,clObjs_cu _ _⟩
  ·rename_i hg1
   rw [hvy] at hb
   have hc:4294967296≤g∨r * 4294967296+u2 < g * v2:=.inl (by omega)
   have d1:=hk.dn hU h1 hc
   refine⟨(g - 1,r+v1),⟨d1.2.2,by omega,by omega,d1.2.1⟩,?gm,rfl,⟨rfl,rfl,rfl,trivial,rfl,trivial,gcast d1.1,trivial,?gr,trivial,trivial⟩,⟨rfl,trivial⟩,clObjs_cu _ _⟩
   case gm=>show g - 1 < g;omega
   case gr=>
    show V.con (.int .u64 ((r:Int)+((v.getD (((n:Int) - 1).toNat) default).toNat:Int)))=_
    rw [hvy];rfl
  ·rename_i hg1 _ _ _ hl
   rw [hvy] at hb
   rw [hpu2,hvz,horb r u2 h2 b5,← Int.natCast_mul] at hl
   have hc:4294967296≤g∨r * 4294967296+u2 < g * v2:=.inr (Int.ofNat_lt.1 hl)
   have d1:=hk.dn hU h1 hc
   have d2:=hk.br hU hT h1 hc (by omega)
   exact hR _ (g - 1) ⟨d2.1,d2.2,d1.2.1⟩ ⟨rfl,⟨rfl,rfl,rfl,trivial,rfl,trivial,gcast2 d1.1 h3,trivial,trivial⟩,⟨rfl,trivial⟩,clObjs_cu _ _⟩
  ·rename_i hg1 _ _ _ hl
   rw [hvy] at hb
   rw [hpu2,hvz,horb r u2 h2 b5,← Int.natCast_mul] at hl
   have hc:4294967296≤g∨r * 4294967296+u2 < g * v2:=.inr (Int.ofNat_lt.1 hl)
   have d1:=hk.dn hU h1 hc
   refine⟨(g - 1,r+v1),⟨d1.2.2,by omega,by omega,d1.2.1⟩,?gm,rfl,⟨rfl,rfl,rfl,trivial,rfl,trivial,gcast2 d1.1 h3,trivial,?gr,trivial,trivial⟩,⟨rfl,trivial⟩,clObjs_cu _ _⟩
   case gm=>show g - 1 < g;omega
   case gr=>
    show V.con (.int .u64 ((r:Int)+((v.getD (((n:Int) - 1).toNat) default).toNat:Int)))=_
    rw [hvy];rfl
  ·rename_i hg1 _ _
   rw [hpu2,hvz,horb r u2 h2 b5,← Int.natCast_mul] at hb
   exact hR _ g ⟨by omega,hk.last h1 (by omega) (.inr (Int.ofNat_le.1 hb)),h4⟩ ⟨rfl,⟨rfl,rfl,rfl,trivial,rfl,trivial,rfl,trivial,trivial⟩,⟨rfl,trivial⟩,clObjs_cu _ _⟩
 rintro g ⟨hg1,hg2,hg3⟩
 clear hk hT hvx hvy hvz hpu2 horb hpu0 hpu1 hv1 hv2e hu1 hu2 b1 b2 b4 b5 htop
 have hv32:v.length≤10737418241:=by omega
 repeat'(first|(with_reducible first|(refine zz ?_;try intro K hK)|refine zI ?_|refine zt ?_|refine zf ?_)|((first|refine hK _ ?_|refine hK _ _ rfl ?_);clear hK K)|(guard_hyp hK;first|(refine zY ?zz ?_;case zz=>first|exact rfl|exact gI)|refine fresh_n ?_|refine freshO_n ?_|(refine at_Q ?_;intro hu)|refine zP wA ?_|(refine mul_Q ?_;intro hm1 hm2)|refine zP at_M ?_|refine zP rfl ?_|intro b0 hb)|((first|with_reducible refine zm ?_|guard_hyp hK);refine zY ?_ ?_;all_goals(intro hb;(try simp only [sn,sb] at hb);try exact ex0)))
 refine loop_i (List UInt32×Nat×Nat) (fun(x,c,b)=>⟨Tryz.f107.ntmps,[(0,.own 0 0 off (n+1)),(1,.ro false (tn v)),(5,.con (.int .i64 n)),(7,.con (.int .u64 g)),(9,.con (.int .u64 c)),(10,.con (.int .u64 b)),(87,.ro false (tn v)),(88,.con (.int .i64 n)),(89,.con (.int .i64 (x.length:Nat)))],[(0,⟨1,(wq p off x).map cu,0,true⟩)]⟩)
  (fun(x,c,b)=>x.length≤n∧c < 4294967296∧b≤1∧val x+g * val (v.take x.length)=val ((p.drop off).take x.length)+4294967296 ^ x.length * (c+b)) (fun(x,c,b)=>n - x.length) [] ([],0,0) trivial ⟨by simp,by omega,by omega,by simp [val]⟩ ⟨rfl,⟨rfl,rfl,rfl,trivial,rfl,trivial,rfl,trivial,rfl,trivial,rfl,trivial,rfl,trivial,?_,trivial,rfl,trivial,trivial⟩,⟨?_,trivial⟩,clObjs_cu _ _⟩ ?_
 ·show V.con (.int .i64 ((v.map tu32).length:Nat))=_
  rw [List.length_map,hn]
 ·show some _=some _
  rw [wq_nil]
 rintro⟨x,c,b⟩ ⟨s1,s2,s3,s4⟩
 have hql:(wq p off x).length=p.length:=wq_len (by omega)
 repeat'(first|(first|(refine shrD (by omega) ?_))|(with_reducible first|(refine zz ?_;try intro K hK)|refine zI ?_|refine zt ?_|refine zf ?_)|((first|refine hK _ ?_|refine hK _ _ rfl ?_);clear hK K)|(guard_hyp hK;first|(refine zY ?zz ?_;case zz=>first|exact rfl|exact gI)|refine fresh_n ?_|refine freshO_n ?_|(refine at_Q ?_;intro hu)|refine zP wA ?_|(refine mul_Q ?_;intro hm1 hm2)|refine zP at_M ?_|refine zP rfl ?_|intro b0 hb)|((first|with_reducible refine zm ?_|guard_hyp hK);refine zY ?_ ?_;all_goals(intro hb;(try simp only [sn,sb] at hb);try exact ex0)))
 ·rename_i hlt _ _ _
  obtain⟨vk,hvk⟩:∃k,(v.getD x.length default).toNat=k:=⟨_,rfl⟩
  obtain⟨u,hux⟩:∃k,(p.getD (off+x.length) default).toNat=k:=⟨_,rfl⟩
  have hvkb:vk < 4294967296:=by rw [← hvk];exact UInt32.toNat_lt _
  have hub:u < 4294967296:=by rw [← hux];exact UInt32.toNat_lt _
  have hwg:(wq p off x).getD (off+x.length) default=p.getD (off+x.length) default:=wq_get (by omega)
  obtain⟨t,ht⟩:∃t,c+g * vk=t:=⟨_,rfl⟩
  have hti:(c:Int)+(g:Int) * (vk:Int)=(t:Int):=by rw [← ht];simp
  have h9:g * vk≤4294967295 * 4294967295:=Nat.mul_le_mul (by omega) (by omega)
  have htb:t / 4294967296 < 4294967296:=by omega
  have hlow:=lowE (t:=t) (b:=b) (by omega) s3
  rw [hwg,hux,hvk,hti,hlow] at hb
  have hd:=subd_eq (u:=u) (low:=t % 4294967296+b) hub (by omega)
  rw [if_pos (by omega),Nat.mul_one] at hd
  have el:(x ++ [UInt32.ofNat (subd u (t % 4294967296+b))]).length=x.length+1:=by simp
  refine⟨(x ++ [UInt32.ofNat (subd u (t % 4294967296+b))],t / 4294967296,1),⟨by rw [el];omega,htb,by omega,?gv⟩,?gm,rfl,⟨rfl,rfl,rfl,trivial,rfl,trivial,rfl,trivial,?gc,trivial,rfl,trivial,rfl,trivial,rfl,trivial,?gk,trivial,trivial⟩,⟨?gd,trivial⟩,clObjs_cu _ _⟩
  case gv=>
   rw [el,dg_val (subd_lt _ _),val_take_one (by omega),val_take_one (l:=p.drop off) (by rw [List.length_drop];omega),getD_drop,hvk,hux,Nat.pow_succ]
   exact ksub_step s4 ht.symm (by omega)
  case gm=>show n - (x ++ [_]).length < n - x.length;rw [List.length_append];show n - (x.length+1) < _;omega
  case gc=>
   show V.con (.int .u64 (((c:Int)+(g:Int) * ((v.getD x.length default).toNat:Int)) / 4294967296))=_
   rw [hvk,hti];rfl
  case gk=>
   show V.con (.int .i64 ((x.length:Int)+1))=V.con (.int .i64 (((x ++ [UInt32.ofNat (subd u (t % 4294967296+b))]).length:Nat):Int))
   rw [el];rfl
  case gd=>
   refine congrArg (fun l=>some (Obj.mk 1 l 0 true)) (?_:((wq p off x).map cu).set (off+x.length) (V.con (.int .u32 (IntKind.u32.wrap ((((wq p off x).getD (off+x.length) default).toNat:Int) - IntKind.u32.wrap (IntKind.u64.wrap (IntKind.u64.wrap (((BitVec.ofInt IntKind.u64.bits ((c:Int)+(g:Int) * ((v.getD x.length default).toNat:Int)) &&& BitVec.ofInt IntKind.u64.bits 4294967295).toNat:Nat):Int)+(b:Int)))))))=_)
   rw [hwg,hux,hvk,hti,hlow,subd_wrap hub (by omega),set_cu (subd_lt _ _),wq_set (by omega)]
 ·rename_i hlt _ _ _
  obtain⟨vk,hvk⟩:∃k,(v.getD x.length default).toNat=k:=⟨_,rfl⟩
  obtain⟨u,hux⟩:∃k,(p.getD (off+x.length) default).toNat=k:=⟨_,rfl⟩
  have hvkb:vk < 4294967296:=by rw [← hvk];exact UInt32.toNat_lt _
  have hub:u < 4294967296:=by rw [← hux];exact UInt32.toNat_lt _
  have hwg:(wq p off x).getD (off+x.length) default=p.getD (off+x.length) default:=wq_get (by omega)
  obtain⟨t,ht⟩:∃t,c+g * vk=t:=⟨_,rfl⟩
  have hti:(c:Int)+(g:Int) * (vk:Int)=(t:Int):=by rw [← ht];simp
  have h9:g * vk≤4294967295 * 4294967295:=Nat.mul_le_mul (by omega) (by omega)
  have htb:t / 4294967296 < 4294967296:=by omega
  have hlow:=lowE (t:=t) (b:=b) (by omega) s3
  rw [hwg,hux,hvk,hti,hlow] at hb
  have hd:=subd_eq (u:=u) (low:=t % 4294967296+b) hub (by omega)
  rw [if_neg (by omega),Nat.mul_zero] at hd
  have el:(x ++ [UInt32.ofNat (subd u (t % 4294967296+b))]).length=x.length+1:=by simp
  refine⟨(x ++ [UInt32.ofNat (subd u (t % 4294967296+b))],t / 4294967296,0),⟨by rw [el];omega,htb,by omega,?gv⟩,?gm,rfl,⟨rfl,rfl,rfl,trivial,rfl,trivial,rfl,trivial,?gc,trivial,rfl,trivial,rfl,trivial,rfl,trivial,?gk,trivial,trivial⟩,⟨?gd,trivial⟩,clObjs_cu _ _⟩
  case gv=>
   rw [el,dg_val (subd_lt _ _),val_take_one (by omega),val_take_one (l:=p.drop off) (by rw [List.length_drop];omega),getD_drop,hvk,hux,Nat.pow_succ]
   exact ksub_step s4 ht.symm (by omega)
  case gm=>show n - (x ++ [_]).length < n - x.length;rw [List.length_append];show n - (x.length+1) < _;omega
  case gc=>
   show V.con (.int .u64 (((c:Int)+(g:Int) * ((v.getD x.length default).toNat:Int)) / 4294967296))=_
   rw [hvk,hti];rfl
  case gk=>
   show V.con (.int .i64 ((x.length:Int)+1))=V.con (.int .i64 (((x ++ [UInt32.ofNat (subd u (t % 4294967296+b))]).length:Nat):Int))
   rw [el];rfl
  case gd=>
   refine congrArg (fun l=>some (Obj.mk 1 l 0 true)) (?_:((wq p off x).map cu).set (off+x.length) (V.con (.int .u32 (IntKind.u32.wrap ((((wq p off x).getD (off+x.length) default).toNat:Int) - IntKind.u32.wrap (IntKind.u64.wrap (IntKind.u64.wrap (((BitVec.ofInt IntKind.u64.bits ((c:Int)+(g:Int) * ((v.getD x.length default).toNat:Int)) &&& BitVec.ofInt IntKind.u64.bits 4294967295).toNat:Nat):Int)+(b:Int)))))))=_)
   rw [hwg,hux,hvk,hti,hlow,subd_wrap hub (by omega),set_cu (subd_lt _ _),wq_set (by omega)]
 ·rename_i hle _ _ _
  have hx:x.length=n:=by omega
  have hwg:(wq p off x).getD (off+n) default=p.getD (off+n) default:=by rw [← hx];exact wq_get (by omega)
  rw [hwg,hu0] at hb
  have hbn:u0 < c+b:=by omega
  have hd:=subd_eq (u:=u0) (low:=c+b) b3 (by omega)
  rw [if_pos hbn,Nat.mul_one] at hd
  have hdb:=subd_lt u0 (c+b)
  obtain⟨d0,hd0⟩:∃d,subd u0 (c+b)=d:=⟨_,rfl⟩
  rw [hd0] at hd hdb
  rw [hx,List.take_of_length_le (by omega),hW] at s4
  have hUs:U=val ((p.drop off).take n)+u0 * 4294967296 ^ n:=by
   rw [← hUe,val_take_one (by rw [List.length_drop];omega),getD_drop,hu0]
  have hB:=dig_b s4 hd hUs
  have hzl:=val_lt (x ++ [UInt32.ofNat d0])
  rw [dg_val hdb,List.length_append,hx,show n + [UInt32.ofNat d0].length=n+1 from rfl,Nat.pow_succ] at hzl
  have hgU:U < g * W:=by omega
  have hg0:1≤g:=by
   rcases Nat.eq_zero_or_pos g with h0|h0
   ·rw [h0,Nat.zero_mul] at hgU;omega
   ·exact h0
  obtain⟨p2,hp2e⟩:∃q,wq p off (x ++ [UInt32.ofNat d0])=q:=⟨_,rfl⟩
  have hp2:p2.length=p.length:=by rw [← hp2e];exact wq_len (by simp;omega)
  have htop2:p2.getD (off+n) default=UInt32.ofNat d0:=by rw [← hp2e,← hx];exact wq_top (by omega)
  have hlow2:(p2.drop off).take n=x:=by rw [← hp2e,← hx];exact wq_low (by omega)
  refine loop_i (List UInt32×Nat) (fun(y,k)=>⟨Tryz.f107.ntmps,[(0,.own 0 0 off (n+1)),(1,.ro false (tn v)),(5,.con (.int .i64 n)),(7,.con (.int .u64 ((g - 1:Nat):Int))),(9,.con (.int .u64 k)),(143,.ro false (tn v)),(144,.con (.int .i64 n)),(145,.con (.int .i64 (y.length:Nat)))],[(0,⟨1,(wq p2 off y).map cu,0,true⟩)]⟩)
   (fun(y,k)=>y.length≤n∧k≤1∧val y+4294967296 ^ y.length * k=val ((p2.drop off).take y.length)+val (v.take y.length)) (fun(y,k)=>n - y.length) [] ([],0) trivial ⟨by simp,by omega,by simp [val]⟩ ⟨rfl,⟨rfl,rfl,rfl,trivial,rfl,trivial,gcast2 hg0 (by omega),trivial,rfl,trivial,rfl,trivial,?_,trivial,rfl,trivial,trivial⟩,⟨?_,trivial⟩,clObjs_cu _ _⟩ ?_
  ·show V.con (.int .i64 ((v.map tu32).length:Nat))=_
   rw [List.length_map,hn]
  ·rw [wq_nil,← hp2e]
   refine congrArg (fun l=>some (Obj.mk 1 l 0 true)) (?_:((wq p off x).map cu).set (off+n) (V.con (.int .u32 (IntKind.u32.wrap ((((wq p off x).getD (off+n) default).toNat:Int) - IntKind.u32.wrap ((c:Int)+(b:Int))))))=_)
   rw [hwg,hu0,show((c:Int)+(b:Int))=((c+b:Nat):Int) from rfl,subd_wrap b3 (by omega),hd0,set_cu hdb]
   conv=>lhs;rw [← hx]
   rw [wq_set (by omega)]
  rintro⟨y,k⟩ ⟨q1,q2,q3⟩
  have hql2:(wq p2 off y).length=p.length:=by rw [wq_len (by omega),hp2]
  clear s4 hUs hql hb hbn
  repeat'(first|(first|(refine shrD (by omega) ?_))|(with_reducible first|(refine zz ?_;try intro K hK)|refine zI ?_|refine zt ?_|refine zf ?_)|((first|refine hK _ ?_|refine hK _ _ rfl ?_);clear hK K)|(guard_hyp hK;first|(refine zY ?zz ?_;case zz=>first|exact rfl|exact gI)|refine fresh_n ?_|refine freshO_n ?_|(refine at_Q ?_;intro hu)|refine zP wA ?_|(refine mul_Q ?_;intro hm1 hm2)|refine zP at_M ?_|refine zP rfl ?_|intro b0 hb)|((first|with_reducible refine zm ?_|guard_hyp hK);refine zY ?_ ?_;all_goals(intro hb;(try simp only [sn,sb] at hb);try exact ex0)))
  ·rename_i hlt _ _
   obtain⟨vk,hvk⟩:∃k,(v.getD y.length default).toNat=k:=⟨_,rfl⟩
   obtain⟨u,hux⟩:∃k,(p2.getD (off+y.length) default).toNat=k:=⟨_,rfl⟩
   have hvkb:vk < 4294967296:=by rw [← hvk];exact UInt32.toNat_lt _
   have hub:u < 4294967296:=by rw [← hux];exact UInt32.toNat_lt _
   have hwg2:(wq p2 off y).getD (off+y.length) default=p2.getD (off+y.length) default:=wq_get (by omega)
   obtain⟨t,ht⟩:∃t,k+(u+vk)=t:=⟨_,rfl⟩
   have hti:(k:Int)+((u:Int)+(vk:Int))=(t:Int):=by rw [← ht];simp
   have el:(y ++ [UInt32.ofNat t]).length=y.length+1:=by simp
   refine⟨(y ++ [UInt32.ofNat t],t / 4294967296),⟨by rw [el];omega,by omega,?gv⟩,?gm,rfl,⟨rfl,rfl,rfl,trivial,rfl,trivial,rfl,trivial,?gc,trivial,rfl,trivial,rfl,trivial,?gk,trivial,trivial⟩,⟨?gd,trivial⟩,clObjs_cu _ _⟩
   case gv=>
    rw [el,ofN_mod,dg_val (Nat.mod_lt _ (by decide)),val_take_one (l:=v) (by omega),val_take_one (l:=p2.drop off) (by rw [List.length_drop];omega),getD_drop,hvk,hux,Nat.pow_succ]
    exact kadd_step q3 ht.symm
   case gm=>show n - (y ++ [_]).length < n - y.length;rw [List.length_append];show n - (y.length+1) < _;omega
   case gc=>
    show V.con (.int .u64 (((k:Int)+((((wq p2 off y).getD (off+y.length) default).toNat:Int)+((v.getD y.length default).toNat:Int))) / 4294967296))=_
    rw [hwg2,hux,hvk,hti];rfl
   case gk=>
    show V.con (.int .i64 ((y.length:Int)+1))=V.con (.int .i64 (((y ++ [UInt32.ofNat t]).length:Nat):Int))
    rw [el];rfl
   case gd=>
    refine congrArg (fun l=>some (Obj.mk 1 l 0 true)) (?_:((wq p2 off y).map cu).set (off+y.length) (V.con (.int .u32 (IntKind.u32.wrap ((k:Int)+((((wq p2 off y).getD (off+y.length) default).toNat:Int)+((v.getD y.length default).toNat:Int))))))=_)
    rw [hwg2,hux,hvk,hti,set_wrap,wq_set (by omega)]
  ·have hy:y.length=n:=by omega
   rw [hy,List.take_of_length_le (l:=v) (by omega),hW,hlow2] at q3
   obtain⟨d1,hd1⟩:∃d,(d0+k) % 4294967296=d:=⟨_,rfl⟩
   obtain⟨ov,hov⟩:∃d,(d0+k) / 4294967296=d:=⟨_,rfl⟩
   have hd1b:d1 < 4294967296:=by omega
   have hC:=dig_c (d1:=d1) (ov:=ov) q3 (by omega) hB
   have hz2:=val_lt (y ++ [UInt32.ofNat d1])
   rw [dg_val hd1b,List.length_append,hy,show n + [UInt32.ofNat d1].length=n+1 from rfl,Nat.pow_succ] at hz2
   have hD:=dig_d hC hz2 (by omega) hg2
   have hF:=dig_fin (U:=U) (W:=W) (g:=g - 1) (r:=val y+4294967296 ^ n * d1) (by
    obtain⟨g',rfl⟩:∃g',g=g'+1:=⟨g - 1,by omega⟩
    rw [Nat.add_mul,Nat.one_mul] at hD
    rw [Nat.add_sub_cancel];omega) (by rw [Nat.sub_add_cancel hg0];exact hgU)
   have hz:digP p off (n+1) (U % W)=wq p off (y ++ [UInt32.ofNat d1]):=digP_wq (by simp [hy]) (by rw [dg_val hd1b,hy,hF.2])
   have hwg2:(wq p2 off y).getD (off+n) default=UInt32.ofNat d0:=by rw [← htop2,← hy];exact wq_get (by omega)
   have hd0n:(UInt32.ofNat d0).toNat=d0:=by rw [UInt32.toNat_ofNat',Nat.mod_eq_of_lt hdb]
   refine⟨trivial,?_,?_,⟨Tryz.f107.ntmps,[(4,.con (.int .u32 ((g - 1:Nat):Int)))],[]⟩,⟨rfl,⟨?_,trivial,trivial⟩,trivial,trivial⟩,?_,trivial,fz_con ?_⟩
   ·intro y' hy'
    obtain rfl:=List.mem_singleton.1 hy'
    refine congrArg (fun l=>some (Obj.mk 1 l 0 true)) (?_:((wq p2 off y).map cu).set (off+n) (V.con (.int .u32 (IntKind.u32.wrap ((((wq p2 off y).getD (off+n) default).toNat:Int)+(k:Int)))))=(digP p off (n+1) (U % W)).map cu)
    rw [hz,hwg2,hd0n,addd_wrap q2,hd1,set_cu hd1b]
    conv=>lhs;rw [← hy]
    rw [wq_set (by omega),← hp2e,wq_wq (by omega) (by simp [hy,hx])]
   ·intro y' hy'
    obtain rfl:=List.mem_singleton.1 hy'
    exact⟨0,.own 0 0 off (n+1),rfl,rfl,rfl,rfl,by omega⟩
   ·rfl
   ·intro y' hy';rfl
   ·rw [hF.1]
 ·rename_i hle _ _ _
  have hx:x.length=n:=by omega
  have hwg:(wq p off x).getD (off+n) default=p.getD (off+n) default:=by rw [← hx];exact wq_get (by omega)
  rw [hwg,hu0] at hb
  have hbn:¬u0 < c+b:=by omega
  have hd:=subd_eq (u:=u0) (low:=c+b) b3 (by omega)
  rw [if_neg hbn,Nat.mul_zero,Nat.add_zero] at hd
  have hdb:=subd_lt u0 (c+b)
  obtain⟨d0,hd0⟩:∃d,subd u0 (c+b)=d:=⟨_,rfl⟩
  rw [hd0] at hd hdb
  rw [hx,List.take_of_length_le (by omega),hW] at s4
  have hUs:U=val ((p.drop off).take n)+u0 * 4294967296 ^ n:=by
   rw [← hUe,val_take_one (by rw [List.length_drop];omega),getD_drop,hu0]
  have hA:=dig_a s4 hd hUs
  have hF:=dig_fin hA hg3
  have hz:digP p off (n+1) (U % W)=wq p off (x ++ [UInt32.ofNat d0]):=digP_wq (by simp [hx]) (by rw [dg_val hdb,hx,hF.2])
  refine⟨trivial,?_,?_,⟨Tryz.f107.ntmps,[(4,.con (.int .u32 g))],[]⟩,⟨rfl,⟨?_,trivial,trivial⟩,trivial,trivial⟩,?_,trivial,fz_con ?_⟩
  ·intro y hy
   obtain rfl:=List.mem_singleton.1 hy
   refine congrArg (fun l=>some (Obj.mk 1 l 0 true)) (?_:((wq p off x).map cu).set (off+n) (V.con (.int .u32 (IntKind.u32.wrap ((((wq p off x).getD (off+n) default).toNat:Int) - IntKind.u32.wrap ((c:Int)+(b:Int))))))=(digP p off (n+1) (U % W)).map cu)
   rw [hz,hwg,hu0,show((c:Int)+(b:Int))=((c+b:Nat):Int) from rfl,subd_wrap b3 (by omega),hd0,set_cu hdb]
   conv=>lhs;rw [← hx]
   rw [wq_set (by omega)]
  ·intro y hy
   obtain rfl:=List.mem_singleton.1 hy
   exact⟨0,.own 0 0 off (n+1),rfl,rfl,rfl,rfl,by omega⟩
  ·rfl
  ·intro y hy;rfl
  ·rw [hF.1]
end Go.Ev
