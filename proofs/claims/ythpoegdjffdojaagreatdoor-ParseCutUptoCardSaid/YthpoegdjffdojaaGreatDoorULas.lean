import Derived.Test.YthpoegdjffdojaaGreatDoorULar
set_option linter.all false
set_option maxHeartbeats 4000000
set_option maxRecDepth 10000
namespace Go.Ev
open Go.Proofs
def pG (p:List UInt32)(off n w:Nat):List UInt32:=p.take off ++ ig n w ++ p.drop (off+n)
theorem BY {p:List UInt32}{off n w:Nat}(h:off+n<=p.length):(pG p off n w).length=p.length:=by
 unfold pG;simp [eJ];omega
def wq (p:List UInt32)(off:Nat)(x:List UInt32):List UInt32:=p.take off ++ (x ++ p.drop (off+x.length))
theorem xr {p x:List UInt32}{off:Nat}(h:off+x.length<=p.length):(wq p off x).length=p.length:=by
 unfold wq;simp only [List.length_append,List.length_take,List.length_drop];omega
theorem CA (p:List UInt32)(off:Nat):wq p off []=p:=by unfold wq;simp
theorem pU {p x:List UInt32}{off:Nat}(h:off+x.length < p.length):(wq p off x).getD (off+x.length) default=p.getD (off+x.length) default:=by
 unfold wq;have e:off+x.length=(p.take off).length+(x.length+0):=by rw [List.length_take];omega
 rw [List.getD,e,IX A8,H4,IX A8,H4,G0,<- e];rfl
theorem nM {p x:List UInt32}{off:Nat}{d:UInt32}(h:off+x.length < p.length):(wq p off x).set (off+x.length) d=wq p off (x ++ [d]):=by
 unfold wq;have e:(p.take off).length=off:=by rw [List.length_take];omega
 rw [N3 _ _ A8,N3 _ _ A8,e,show off+x.length - off - x.length=0 by omega,F7 h,U8,List.append_assoc,List.length_append];rfl
theorem Nj {p x:List UInt32}{off:Nat}(h:off<=p.length):(wq p off x).take off=p.take off:=by
 unfold wq;rw [J4 (by rw [List.length_take];omega),J3,Nat.min_self]
theorem Nk {p x:List UInt32}{off:Nat}(h:off<=p.length):(wq p off x).drop (off+x.length)=p.drop (off+x.length):=by
 unfold wq;have e:(p.take off).length=off:=by rw [List.length_take];omega
 rw [<- L4,List.drop_left' e,List.drop_left]
theorem TS {p x y:List UInt32}{off:Nat}(h:off<=p.length)(hl:y.length=x.length):wq (wq p off x) off y=wq p off y:=by
 show(wq p off x).take off ++ (y ++ (wq p off x).drop (off+y.length))=_;rw [Nj h,hl,Nk h,<- hl];rfl
theorem Gk {p z:List UInt32}{off n w:Nat}(hz:z.length=n)(hv:val z=w):pG p off n w=wq p off z:=by
 unfold pG wq;rw [<- hv,<- hz,ma,List.append_assoc]
theorem UR {t b:Nat}(h1:t < 18446744073709551616)(hb:b<=1):IntKind.u64.wrap (IntKind.u64.wrap (((BitVec.ofInt IntKind.u64.bits (t:Int) &&& BitVec.ofInt IntKind.u64.bits 4294967295).toNat:Nat):Int)+(b:Int))=((t % 4294967296+b:Nat):Int):=by
 rw [show IntKind.u64.bits=64 from rfl];have e1:BitVec.ofInt 64 (t:Int)=BitVec.ofNat 64 t:=R8 ..;have e2:BitVec.ofInt 64 4294967295=BitVec.ofNat 64 4294967295:=rfl;have e3:t &&& 4294967295=t % 4294967296:=Nat.and_two_pow_sub_one_eq_mod t 32;rw [e1,e2,BitVec.toNat_and,Q5,Q5,E2 A8,E2 A8,e3,<- fU (a:=((t % 4294967296:Nat):Int)) A8 A8];exact(fU A8 A8).symm
theorem Us {a:Int}{Q:Int->Prop}(h0:0<=a)(k:Q (a / 4294967296)):∃r,r=a.fdiv (2 ^ (min (32:Int).toNat IntKind.u64.bits))/\Q r:=by
 refine⟨_,?_,k⟩;show _=a.fdiv 4294967296;rw [M6 _ B3]
theorem UM {x y:Nat}(h:x=y)(h2:2147483648<=y):((x:Nat):Int)≠0:=by omega
theorem LM {g:Nat}(h:1<=g):V.af (.int .u64 ((g:Int) - 1))=V.af (.int .u64 ((g - 1:Nat):Int)):=by rw [Int.natCast_sub h];rfl
theorem DX {g:Nat}(h:1<=g)(h2:g<=8589934592):V.af (.int .u64 (IntKind.u64.wrap ((g:Int) - 1)))=V.af (.int .u64 ((g - 1:Nat):Int)):=by
 rw [<- fU A8 A8];exact LM h
theorem mW {u low:Nat}(hu:u < 4294967296)(hl:low<=4294967296):IntKind.u32.wrap ((u:Int) - IntKind.u32.wrap ((low:Nat):Int))=((qk u low:Nat):Int):=by
 simp [IntKind.wrap,IntKind.bits,IntKind.signed,qk];omega
theorem AN {p:List UInt32}{i t:Nat}:(p.map cu).set i (V.af (.int .u32 (IntKind.u32.wrap ((t:Nat):Int))))=(p.set i (UInt32.ofNat t)).map cu:=by
 rw [wrap32 (L8 _),K4,oT]
theorem FF (t:Nat):UInt32.ofNat t=UInt32.ofNat (t % 4294967296):=by
 apply M9.1;simp
theorem Rm {p x:List UInt32}{off:Nat}{d:UInt32}(h:off+x.length < p.length):(wq p off (x ++ [d])).getD (off+x.length) default=d:=by
 unfold wq;have e:off+x.length=(p.take off).length+x.length:=by rw [List.length_take];omega
 rw [List.getD,e,IX A8,H4,List.append_assoc,IX (wU _),H6];rfl
theorem Rn {p x:List UInt32}{off:Nat}{d:UInt32}(h:off<=p.length):((wq p off (x ++ [d])).drop off).take x.length=x:=by
 unfold wq;have e:(p.take off).length=off:=by rw [List.length_take];omega
 rw [List.drop_left' e,List.append_assoc,O1]
theorem IC {u k:Nat}(hk:k<=1):IntKind.u32.wrap ((u:Int)+(k:Int))=(((u+k) % 4294967296:Nat):Int):=by
 simp [IntKind.wrap,IntKind.bits,IntKind.signed]
theorem Mn (p v:List UInt32)(off:Nat)(hp:p.length<=10737418241)(hv2:2<=v.length)(ho:off+(v.length+1)<=p.length)
  (htop:2147483648<=(v.getD (v.length - 1) default).toNat) (hU:val ((p.drop off).take (v.length+1)) < 4294967296 * val v) :
  TP Tryz.prog 156 [⟨0,1,p.map cu,(pG p off (v.length+1) (val ((p.drop off).take (v.length+1)) % val v)).map cu⟩] [.own 0 0 off (v.length+1),.ro false (tn v)] true (.af (.int .u32 (val ((p.drop off).take (v.length+1)) / val v:Nat))):=by
 obtain⟨n,hn⟩:∃n,v.length=n:=⟨_,rfl⟩
 obtain⟨v1,hv1⟩:∃x,(v.getD (n - 1) default).toNat=x:=⟨_,rfl⟩
 obtain⟨v2,hv2e⟩:∃x,(v.getD (n - 2) default).toNat=x:=⟨_,rfl⟩
 obtain⟨u0,hu0⟩:∃x,(p.getD (off+n) default).toNat=x:=⟨_,rfl⟩
 obtain⟨u1,hu1⟩:∃x,(p.getD (off+(n - 1)) default).toNat=x:=⟨_,rfl⟩
 obtain⟨u2,hu2⟩:∃x,(p.getD (off+(n - 2)) default).toNat=x:=⟨_,rfl⟩
 obtain⟨U,hUe⟩:∃x,val ((p.drop off).take (n+1))=x:=⟨_,rfl⟩
 obtain⟨W,hW⟩:∃x,val v=x:=⟨_,rfl⟩
 rw [hn] at hv2 ho htop hU |-;rw [hUe,hW] at hU;rw [hv1] at htop;rw [hUe,hW];have b1:v1 < 4294967296:=by rw [<- hv1];exact E6 _
 have b2:v2 < 4294967296:=by rw [<- hv2e];exact E6 _
 have b3:u0 < 4294967296:=by rw [<- hu0];exact E6 _
 have b4:u1 < 4294967296:=by rw [<- hu1];exact E6 _
 have b5:u2 < 4294967296:=by rw [<- hu2];exact E6 _
 obtain⟨w,vl,ul,hk⟩:∃w vl ul,Kn w v1 v2 vl (u0 * 4294967296+u1) u2 ul W U:=by
  have:=UX (p:=p) (v:=v) (off:=off) hn hv2 ho A8
  rwa [hv1,hv2e,hu0,hu1,hu2,hW,hUe] at this
 have hpl:0 < p.length:=by omega
 have hvx:(v.getD ((((v.map bw).length:Int) - 1).toNat) default).toNat=v1:=by
  rw [List.length_map,hn,show((n:Int) - 1).toNat=n - 1 by omega,hv1]
 have hvy:(v.getD (((n:Int) - 1).toNat) default).toNat=v1:=by rw [show((n:Int) - 1).toNat=n - 1 by omega,hv1]
 have hvz:(v.getD (((n:Int) - 2).toNat) default).toNat=v2:=by rw [show((n:Int) - 2).toNat=n - 2 by omega,hv2e]
 have hpu2:(p.getD (off+(((n:Int) - 2).toNat)) default).toNat=u2:=by rw [show((n:Int) - 2).toNat=n - 2 by omega,hu2]
 have horb:∀r x:Nat,r < 4294967296->x < 4294967296->IntKind.u64.wrap (((BitVec.ofInt IntKind.u64.bits ((r:Int) * 4294967296) |||BitVec.ofInt IntKind.u64.bits (x:Int)).toNat:Nat):Int)=((r * 4294967296+x:Nat):Int):=fun r x h1 h2=>or_eq h1 h2
 have hpu0:(p.getD (off+(((v.map bw).length:Int)).toNat) default).toNat=u0:=by rw [List.length_map,hn];exact hu0
 have hpu1:(p.getD (off+((((v.map bw).length:Int) - 1).toNat)) default).toNat=u1:=by rw [List.length_map,hn,show((n:Int) - 1).toNat=n - 1 by omega,hu1]
 have hT:u0 * 4294967296+u1 < 4294967296 * v1+4294967296:=by
  have h1:=hk.v;have h2:=hk.u;have h3:=hk.low.1;have h4:=hk.low.2;rcases G8 (u0 * 4294967296+u1) (4294967296 * v1+4294967296) with h5|h5
  ·exact h5
  ·exfalso;have h6:w * (4294967296 * v1+4294967296)<=w * (u0 * 4294967296+u1):=H7 _ h5;rw [H3] at h6;have e1:w * (4294967296 * v1)=4294967296 * (w * v1):=by ac_rfl
   omega
 refine nk bN mix Tryz.func156 rfl rfl B1 B1 (zO rfl) ?wf ?nd ?_
 case wf=>exact Jd (BY ho)
 case nd=>exact yF _
 repeat'(first|(first|(refine AM A8 A8 ?_)|(refine UO (UM hvx htop) ?_)|(refine dU (a:=Code.block 0 _) Nat (fun g=>⟨Tryz.f156.ntmps,[(0,.own 0 0 off (n+1)),(1,.ro false (tn v)),(5,.af (.int .i64 n)),(7,.af (.int .u64 g))],[(0,⟨1,p.map cu,0,true⟩)]⟩) (fun g=>g < 4294967296/\g * W<=U+W/\U < (g+1) * W) ?_ ?_))|(with_reducible first|(refine zz ?_;try intro K hK)|refine zi ?_|refine zh ?_)|((first|apply hK _ _ rfl|apply hK);clear hK K)|(guard_hyp hK;first|refine zy ?_|apply ab|apply aa|(refine aY ?_;intro hu)|refine zP wA ?_|(refine aD ?_;intro hm1 hm2)|refine zP aZ ?_|refine zP rfl ?_|intro b0 hb)|((first|refine zj ?_|guard_hyp hK);refine zY ?_ ?_;all_goals(intro hb;(try simp only [sn,sb] at hb);try exact ao)))
 rotate_left
 ·intro R hR
  repeat'(first|(with_reducible first|(refine zz ?_;try intro K hK)|refine zi ?_|refine zh ?_)|((first|apply hK _ _ rfl|apply hK);clear hK K)|(guard_hyp hK;first|refine zy ?_|apply ab|apply aa|(refine aY ?_;intro hu)|refine zP wA ?_|(refine aD ?_;intro hm1 hm2)|refine zP aZ ?_|refine zP rfl ?_|intro b0 hb)|((first|refine zj ?_|guard_hyp hK);refine zY ?_ ?_;all_goals(intro hb;(try simp only [sn,sb] at hb);try exact ao)))
  have htd:=M0 (u0 * 4294967296+u1) v1;have htm:=J9 (u0 * 4294967296+u1) (show 0 < v1 by omega);refine aT (Nat×Nat) (fun(g,r)=>⟨Tryz.f156.ntmps,[(0,.own 0 0 off (n+1)),(1,.ro false (tn v)),(5,.af (.int .i64 n)),(7,.af (.int .u64 g)),(8,.af (.int .u64 r))],[(0,⟨1,p.map cu,0,true⟩)]⟩) (fun(g,r)=>g * v1+r=u0 * 4294967296+u1/\r < 4294967296/\g<=8589934592/\U < (g+1) * W) (fun(g,r)=>g) [] ((u0 * 4294967296+u1) / v1,(u0 * 4294967296+u1) % v1) trivial ⟨?_,by omega,?_,?_⟩ ⟨rfl,⟨rfl,rfl,rfl,trivial,?_,trivial,?_,trivial,?_,trivial,trivial⟩,⟨rfl,trivial⟩,bc _ _⟩ ?_
  ·rw [E0];exact htd
  ·exact Nat.le_of_lt_succ ((N2 A8).2 A8)
  ·rcases G8 U (((u0 * 4294967296+u1) / v1+1) * W) with h|h
   ·exact h
   ·have:=hk.up h;rw [I8,Q1,E0] at this;omega
  ·show V.af (.int .i64 ((v.map bw).length:Nat))=_;rw [List.length_map,hn]
  ·show V.af (.int .u64 (IntKind.u64.wrap ((IntKind.u64.wrap (((BitVec.ofInt 64 (((p.getD (off+(((v.map bw).length:Int)).toNat) default).toNat:Int) * 4294967296) |||BitVec.ofInt 64 ((p.getD (off+((((v.map bw).length:Int) - 1).toNat)) default).toNat:Int)).toNat:Nat):Int)).tdiv ((v.getD ((((v.map bw).length:Int) - 1).toNat) default).toNat:Int))))=_;rw [hpu0,hpu1,hvx,or_eq b3 b4,Jy];refine B4 (fun n=>V.af (.int .u64 n)) (fU (L8 _) ?_).symm;have:=X2 (u0 * 4294967296+u1) v1;exact Int.ofNat_lt.2 (N4 this (by omega:u0 * 4294967296+u1 < 18446744073709551616))
  ·show V.af (.int .u64 ((IntKind.u64.wrap (((BitVec.ofInt 64 (((p.getD (off+(((v.map bw).length:Int)).toNat) default).toNat:Int) * 4294967296) |||BitVec.ofInt 64 ((p.getD (off+((((v.map bw).length:Int) - 1).toNat)) default).toNat:Int)).toNat:Nat):Int)).tmod ((v.getD ((((v.map bw).length:Int) - 1).toNat) default).toNat:Int)))=_;rw [hpu0,hpu1,hvx,or_eq b3 b4,Js]
  rintro⟨g,r⟩ ⟨h1,h2,h3,h4⟩
  repeat'(first|(first|(refine AM A8 A8 ?_)|(refine UO (UM hvx htop) ?_))|(with_reducible first|(refine zz ?_;try intro K hK)|refine zi ?_|refine zh ?_)|((first|apply hK _ _ rfl|apply hK);clear hK K)|(guard_hyp hK;first|refine zy ?_|apply ab|apply aa|(refine aY ?_;intro hu)|refine zP wA ?_|(refine aD ?_;intro hm1 hm2)|refine zP aZ ?_|refine zP rfl ?_|intro b0 hb)|((first|refine zj ?_|guard_hyp hK);refine zY ?_ ?_;all_goals(intro hb;(try simp only [sn,sb] at hb);try exact ao)))
  ·rename_i hg1;rw [hvy] at hb;have hc:4294967296<=g\/r * 4294967296+u2 < g * v2:=.inl A8;have d1:=hk.dn hU h1 hc;have d2:=hk.br hU hT h1 hc A8;exact hR _ (g - 1) ⟨d2.1,d2.2,d1.2.1⟩ ⟨rfl,⟨rfl,rfl,rfl,trivial,rfl,trivial,LM d1.1,trivial,trivial⟩,⟨rfl,trivial⟩,bc _ _⟩
  ·rename_i hg1;rw [hvy] at hb;have hc:4294967296<=g\/r * 4294967296+u2 < g * v2:=.inl A8;have d1:=hk.dn hU h1 hc;refine⟨(g - 1,r+v1),⟨d1.2.2,by omega,by omega,d1.2.1⟩,?gm,rfl,⟨rfl,rfl,rfl,trivial,rfl,trivial,LM d1.1,trivial,?gr,trivial,trivial⟩,⟨rfl,trivial⟩,bc _ _⟩
   case gm=>show g - 1 < g;omega
   case gr=>
    show V.af (.int .u64 ((r:Int)+((v.getD (((n:Int) - 1).toNat) default).toNat:Int)))=_;rw [hvy];rfl
  ·rename_i hg1 _ _ _ hl;rw [hvy] at hb;rw [hpu2,hvz,horb r u2 h2 b5,<- X5] at hl;have hc:4294967296<=g\/r * 4294967296+u2 < g * v2:=.inr (Int.ofNat_lt.1 hl);have d1:=hk.dn hU h1 hc;have d2:=hk.br hU hT h1 hc A8;exact hR _ (g - 1) ⟨d2.1,d2.2,d1.2.1⟩ ⟨rfl,⟨rfl,rfl,rfl,trivial,rfl,trivial,DX d1.1 h3,trivial,trivial⟩,⟨rfl,trivial⟩,bc _ _⟩
  ·rename_i hg1 _ _ _ hl;rw [hvy] at hb;rw [hpu2,hvz,horb r u2 h2 b5,<- X5] at hl;have hc:4294967296<=g\/r * 4294967296+u2 < g * v2:=.inr (Int.ofNat_lt.1 hl);have d1:=hk.dn hU h1 hc;refine⟨(g - 1,r+v1),⟨d1.2.2,by omega,by omega,d1.2.1⟩,?gm,rfl,⟨rfl,rfl,rfl,trivial,rfl,trivial,DX d1.1 h3,trivial,?gr,trivial,trivial⟩,⟨rfl,trivial⟩,bc _ _⟩
   case gm=>show g - 1 < g;omega
   case gr=>
    show V.af (.int .u64 ((r:Int)+((v.getD (((n:Int) - 1).toNat) default).toNat:Int)))=_;rw [hvy];rfl
  ·rename_i hg1 _ _;rw [hpu2,hvz,horb r u2 h2 b5,<- X5] at hb;exact hR _ g ⟨by omega,hk.last h1 A8 (.inr (Int.ofNat_le.1 hb)),h4⟩ ⟨rfl,⟨rfl,rfl,rfl,trivial,rfl,trivial,rfl,trivial,trivial⟩,⟨rfl,trivial⟩,bc _ _⟩
 rintro g ⟨hg1,hg2,hg3⟩;clear hk hT hvx hvy hvz hpu2 horb hpu0 hpu1 hv1 hv2e hu1 hu2 b1 b2 b4 b5 htop;have hv32:v.length<=10737418241:=by omega
 repeat'(first|(with_reducible first|(refine zz ?_;try intro K hK)|refine zi ?_|refine zh ?_)|((first|apply hK _ _ rfl|apply hK);clear hK K)|(guard_hyp hK;first|refine zy ?_|apply ab|apply aa|(refine aY ?_;intro hu)|refine zP wA ?_|(refine aD ?_;intro hm1 hm2)|refine zP aZ ?_|refine zP rfl ?_|intro b0 hb)|((first|refine zj ?_|guard_hyp hK);refine zY ?_ ?_;all_goals(intro hb;(try simp only [sn,sb] at hb);try exact ao)))
 refine aT (List UInt32×Nat×Nat) (fun(x,c,b)=>⟨Tryz.f156.ntmps,[(0,.own 0 0 off (n+1)),(1,.ro false (tn v)),(5,.af (.int .i64 n)),(7,.af (.int .u64 g)),(9,.af (.int .u64 c)),(10,.af (.int .u64 b)),(87,.ro false (tn v)),(88,.af (.int .i64 n)),(89,.af (.int .i64 (x.length:Nat)))],[(0,⟨1,(wq p off x).map cu,0,true⟩)]⟩)
  (fun(x,c,b)=>x.length<=n/\c < 4294967296/\b<=1/\val x+g * val (v.take x.length)=val ((p.drop off).take x.length)+4294967296 ^ x.length * (c+b)) (fun(x,c,b)=>n - x.length) [] ([],0,0) trivial ⟨by simp,by omega,by omega,by simp [val]⟩ ⟨rfl,⟨rfl,rfl,rfl,trivial,rfl,trivial,rfl,trivial,rfl,trivial,rfl,trivial,rfl,trivial,?_,trivial,rfl,trivial,trivial⟩,⟨?_,trivial⟩,bc _ _⟩ ?_
 ·show V.af (.int .i64 ((v.map bw).length:Nat))=_;rw [List.length_map,hn]
 ·show some _=some _;rw [CA]
 rintro⟨x,c,b⟩ ⟨s1,s2,s3,s4⟩;have hql:(wq p off x).length=p.length:=xr A8
 repeat'(first|(first|(refine Us A8 ?_))|(with_reducible first|(refine zz ?_;try intro K hK)|refine zi ?_|refine zh ?_)|((first|apply hK _ _ rfl|apply hK);clear hK K)|(guard_hyp hK;first|refine zy ?_|apply ab|apply aa|(refine aY ?_;intro hu)|refine zP wA ?_|(refine aD ?_;intro hm1 hm2)|refine zP aZ ?_|refine zP rfl ?_|intro b0 hb)|((first|refine zj ?_|guard_hyp hK);refine zY ?_ ?_;all_goals(intro hb;(try simp only [sn,sb] at hb);try exact ao)))
 ·rename_i hlt _ _ _;obtain⟨vk,hvk⟩:∃k,(v.getD x.length default).toNat=k:=⟨_,rfl⟩
  obtain⟨u,hux⟩:∃k,(p.getD (off+x.length) default).toNat=k:=⟨_,rfl⟩
  have hvkb:vk < 4294967296:=by rw [<- hvk];exact E6 _
  have hub:u < 4294967296:=by rw [<- hux];exact E6 _
  have hwg:(wq p off x).getD (off+x.length) default=p.getD (off+x.length) default:=pU A8;obtain⟨t,ht⟩:∃t,c+g * vk=t:=⟨_,rfl⟩
  have hti:(c:Int)+(g:Int) * (vk:Int)=(t:Int):=by rw [<- ht];simp
  have h9:g * vk<=4294967295 * 4294967295:=V1 A8 A8;have htb:t / 4294967296 < 4294967296:=by omega
  have hlow:=UR (t:=t) (b:=b) A8 s3;rw [hwg,hux,hvk,hti,hlow] at hb;have hd:=sm (u:=u) (low:=t % 4294967296+b) hub A8;rw [if_pos A8,R4] at hd;have el:(x ++ [UInt32.ofNat (qk u (t % 4294967296+b))]).length=x.length+1:=by simp
  refine⟨(x ++ [UInt32.ofNat (qk u (t % 4294967296+b))],t / 4294967296,1),⟨by rw [el];omega,htb,by omega,?gv⟩,?gm,rfl,⟨rfl,rfl,rfl,trivial,rfl,trivial,rfl,trivial,?gc,trivial,rfl,trivial,rfl,trivial,rfl,trivial,?gk,trivial,trivial⟩,⟨?gd,trivial⟩,bc _ _⟩
  case gv=>
   rw [el,mB (mX _ _),qp A8,qp (l:=p.drop off) (by rw [List.length_drop];omega),getD_drop,hvk,hux,H9];exact wZ s4 ht.symm A8
  case gm=>show n - (x ++ [_]).length < n - x.length;rw [List.length_append];show n - (x.length+1) < _;omega
  case gc=>
   show V.af (.int .u64 (((c:Int)+(g:Int) * ((v.getD x.length default).toNat:Int)) / 4294967296))=_;rw [hvk,hti];rfl
  case gk=>
   show V.af (.int .i64 ((x.length:Int)+1))=V.af (.int .i64 (((x ++ [UInt32.ofNat (qk u (t % 4294967296+b))]).length:Nat):Int));rw [el];rfl
  case gd=>
   refine B4 (fun l=>some (Obj.mk 1 l 0 true)) (?_:((wq p off x).map cu).set (off+x.length) (V.af (.int .u32 (IntKind.u32.wrap ((((wq p off x).getD (off+x.length) default).toNat:Int) - IntKind.u32.wrap (IntKind.u64.wrap (IntKind.u64.wrap (((BitVec.ofInt IntKind.u64.bits ((c:Int)+(g:Int) * ((v.getD x.length default).toNat:Int)) &&& BitVec.ofInt IntKind.u64.bits 4294967295).toNat:Nat):Int)+(b:Int)))))))=_);rw [hwg,hux,hvk,hti,hlow,mW hub A8,qo (mX _ _),nM A8]
 ·rename_i hlt _ _ _;obtain⟨vk,hvk⟩:∃k,(v.getD x.length default).toNat=k:=⟨_,rfl⟩
  obtain⟨u,hux⟩:∃k,(p.getD (off+x.length) default).toNat=k:=⟨_,rfl⟩
  have hvkb:vk < 4294967296:=by rw [<- hvk];exact E6 _
  have hub:u < 4294967296:=by rw [<- hux];exact E6 _
  have hwg:(wq p off x).getD (off+x.length) default=p.getD (off+x.length) default:=pU A8;obtain⟨t,ht⟩:∃t,c+g * vk=t:=⟨_,rfl⟩
  have hti:(c:Int)+(g:Int) * (vk:Int)=(t:Int):=by rw [<- ht];simp
  have h9:g * vk<=4294967295 * 4294967295:=V1 A8 A8;have htb:t / 4294967296 < 4294967296:=by omega
  have hlow:=UR (t:=t) (b:=b) A8 s3;rw [hwg,hux,hvk,hti,hlow] at hb;have hd:=sm (u:=u) (low:=t % 4294967296+b) hub A8;rw [if_neg A8,O9] at hd;have el:(x ++ [UInt32.ofNat (qk u (t % 4294967296+b))]).length=x.length+1:=by simp
  refine⟨(x ++ [UInt32.ofNat (qk u (t % 4294967296+b))],t / 4294967296,0),⟨by rw [el];omega,htb,by omega,?gv⟩,?gm,rfl,⟨rfl,rfl,rfl,trivial,rfl,trivial,rfl,trivial,?gc,trivial,rfl,trivial,rfl,trivial,rfl,trivial,?gk,trivial,trivial⟩,⟨?gd,trivial⟩,bc _ _⟩
  case gv=>
   rw [el,mB (mX _ _),qp A8,qp (l:=p.drop off) (by rw [List.length_drop];omega),getD_drop,hvk,hux,H9];exact wZ s4 ht.symm A8
  case gm=>show n - (x ++ [_]).length < n - x.length;rw [List.length_append];show n - (x.length+1) < _;omega
  case gc=>
   show V.af (.int .u64 (((c:Int)+(g:Int) * ((v.getD x.length default).toNat:Int)) / 4294967296))=_;rw [hvk,hti];rfl
  case gk=>
   show V.af (.int .i64 ((x.length:Int)+1))=V.af (.int .i64 (((x ++ [UInt32.ofNat (qk u (t % 4294967296+b))]).length:Nat):Int));rw [el];rfl
  case gd=>
   refine B4 (fun l=>some (Obj.mk 1 l 0 true)) (?_:((wq p off x).map cu).set (off+x.length) (V.af (.int .u32 (IntKind.u32.wrap ((((wq p off x).getD (off+x.length) default).toNat:Int) - IntKind.u32.wrap (IntKind.u64.wrap (IntKind.u64.wrap (((BitVec.ofInt IntKind.u64.bits ((c:Int)+(g:Int) * ((v.getD x.length default).toNat:Int)) &&& BitVec.ofInt IntKind.u64.bits 4294967295).toNat:Nat):Int)+(b:Int)))))))=_);rw [hwg,hux,hvk,hti,hlow,mW hub A8,qo (mX _ _),nM A8]
 ·rename_i hle _ _ _;have hx:x.length=n:=by omega
  have hwg:(wq p off x).getD (off+n) default=p.getD (off+n) default:=by rw [<- hx];exact pU A8
  rw [hwg,hu0] at hb;have hbn:u0 < c+b:=by omega
  have hd:=sm (u:=u0) (low:=c+b) b3 A8;rw [if_pos hbn,R4] at hd;have hdb:=mX u0 (c+b);obtain⟨d0,hd0⟩:∃d,qk u0 (c+b)=d:=⟨_,rfl⟩
  rw [hd0] at hd hdb;rw [hx,B7 A8,hW] at s4
  have hUs:U=val ((p.drop off).take n)+u0 * 4294967296 ^ n:=by
   rw [<- hUe,qp (by rw [List.length_drop];omega),getD_drop,hu0]
  have hB:=Vr s4 hd hUs;have hzl:=dZ (x ++ [UInt32.ofNat d0]);rw [mB hdb,List.length_append,hx,show n + [UInt32.ofNat d0].length=n+1 from rfl,H9] at hzl;have hgU:U < g * W:=by omega
  have hg0:1<=g:=by
   rcases N5 g with h0|h0
   ·rw [h0,Nat.zero_mul] at hgU;omega
   ·exact h0
  obtain⟨p2,hp2e⟩:∃q,wq p off (x ++ [UInt32.ofNat d0])=q:=⟨_,rfl⟩
  have hp2:p2.length=p.length:=by rw [<- hp2e];exact xr (by simp;omega)
  have htop2:p2.getD (off+n) default=UInt32.ofNat d0:=by rw [<- hp2e,<- hx];exact Rm A8
  have hlow2:(p2.drop off).take n=x:=by rw [<- hp2e,<- hx];exact Rn A8
  refine aT (List UInt32×Nat) (fun(y,k)=>⟨Tryz.f156.ntmps,[(0,.own 0 0 off (n+1)),(1,.ro false (tn v)),(5,.af (.int .i64 n)),(7,.af (.int .u64 ((g - 1:Nat):Int))),(9,.af (.int .u64 k)),(143,.ro false (tn v)),(144,.af (.int .i64 n)),(145,.af (.int .i64 (y.length:Nat)))],[(0,⟨1,(wq p2 off y).map cu,0,true⟩)]⟩)
   (fun(y,k)=>y.length<=n/\k<=1/\val y+4294967296 ^ y.length * k=val ((p2.drop off).take y.length)+val (v.take y.length)) (fun(y,k)=>n - y.length) [] ([],0) trivial ⟨by simp,by omega,by simp [val]⟩ ⟨rfl,⟨rfl,rfl,rfl,trivial,rfl,trivial,DX hg0 A8,trivial,rfl,trivial,rfl,trivial,?_,trivial,rfl,trivial,trivial⟩,⟨?_,trivial⟩,bc _ _⟩ ?_
  ·show V.af (.int .i64 ((v.map bw).length:Nat))=_;rw [List.length_map,hn]
  ·rw [CA,<- hp2e];refine B4 (fun l=>some (Obj.mk 1 l 0 true)) (?_:((wq p off x).map cu).set (off+n) (V.af (.int .u32 (IntKind.u32.wrap ((((wq p off x).getD (off+n) default).toNat:Int) - IntKind.u32.wrap ((c:Int)+(b:Int))))))=_);rw [hwg,hu0,show((c:Int)+(b:Int))=((c+b:Nat):Int) from rfl,mW b3 A8,hd0,qo hdb]
   conv=>lhs;rw [<- hx]
   rw [nM A8]
  rintro⟨y,k⟩ ⟨q1,q2,q3⟩;have hql2:(wq p2 off y).length=p.length:=by rw [xr A8,hp2]
  clear s4 hUs hql hb hbn
  repeat'(first|(first|(refine Us A8 ?_))|(with_reducible first|(refine zz ?_;try intro K hK)|refine zi ?_|refine zh ?_)|((first|apply hK _ _ rfl|apply hK);clear hK K)|(guard_hyp hK;first|refine zy ?_|apply ab|apply aa|(refine aY ?_;intro hu)|refine zP wA ?_|(refine aD ?_;intro hm1 hm2)|refine zP aZ ?_|refine zP rfl ?_|intro b0 hb)|((first|refine zj ?_|guard_hyp hK);refine zY ?_ ?_;all_goals(intro hb;(try simp only [sn,sb] at hb);try exact ao)))
  ·rename_i hlt _ _;obtain⟨vk,hvk⟩:∃k,(v.getD y.length default).toNat=k:=⟨_,rfl⟩
   obtain⟨u,hux⟩:∃k,(p2.getD (off+y.length) default).toNat=k:=⟨_,rfl⟩
   have hvkb:vk < 4294967296:=by rw [<- hvk];exact E6 _
   have hub:u < 4294967296:=by rw [<- hux];exact E6 _
   have hwg2:(wq p2 off y).getD (off+y.length) default=p2.getD (off+y.length) default:=pU A8;obtain⟨t,ht⟩:∃t,k+(u+vk)=t:=⟨_,rfl⟩
   have hti:(k:Int)+((u:Int)+(vk:Int))=(t:Int):=by rw [<- ht];simp
   have el:(y ++ [UInt32.ofNat t]).length=y.length+1:=by simp
   refine⟨(y ++ [UInt32.ofNat t],t / 4294967296),⟨by rw [el];omega,by omega,?gv⟩,?gm,rfl,⟨rfl,rfl,rfl,trivial,rfl,trivial,rfl,trivial,?gc,trivial,rfl,trivial,rfl,trivial,?gk,trivial,trivial⟩,⟨?gd,trivial⟩,bc _ _⟩
   case gv=>
    rw [el,FF,mB (J9 _ B3),qp (l:=v) A8,qp (l:=p2.drop off) (by rw [List.length_drop];omega),getD_drop,hvk,hux,H9];exact HZ q3 ht.symm
   case gm=>show n - (y ++ [_]).length < n - y.length;rw [List.length_append];show n - (y.length+1) < _;omega
   case gc=>
    show V.af (.int .u64 (((k:Int)+((((wq p2 off y).getD (off+y.length) default).toNat:Int)+((v.getD y.length default).toNat:Int))) / 4294967296))=_;rw [hwg2,hux,hvk,hti];rfl
   case gk=>
    show V.af (.int .i64 ((y.length:Int)+1))=V.af (.int .i64 (((y ++ [UInt32.ofNat t]).length:Nat):Int));rw [el];rfl
   case gd=>
    refine B4 (fun l=>some (Obj.mk 1 l 0 true)) (?_:((wq p2 off y).map cu).set (off+y.length) (V.af (.int .u32 (IntKind.u32.wrap ((k:Int)+((((wq p2 off y).getD (off+y.length) default).toNat:Int)+((v.getD y.length default).toNat:Int))))))=_);rw [hwg2,hux,hvk,hti,AN,nM A8]
  ·have hy:y.length=n:=by omega
   rw [hy,B7 (l:=v) A8,hW,hlow2] at q3;obtain⟨d1,hd1⟩:∃d,(d0+k) % 4294967296=d:=⟨_,rfl⟩
   obtain⟨ov,hov⟩:∃d,(d0+k) / 4294967296=d:=⟨_,rfl⟩
   have hd1b:d1 < 4294967296:=by omega
   have hC:=Vq (d1:=d1) (ov:=ov) q3 A8 hB;have hz2:=dZ (y ++ [UInt32.ofNat d1]);rw [mB hd1b,List.length_append,hy,show n + [UInt32.ofNat d1].length=n+1 from rfl,H9] at hz2;have hD:=Vp hC hz2 A8 hg2
   have hF:=Gj (U:=U) (W:=W) (g:=g - 1) (r:=val y+4294967296 ^ n * d1) (by
    obtain⟨g',rfl⟩:∃g',g=g'+1:=⟨g - 1,by omega⟩
    rw [I8,Q1] at hD
    rw [O5];omega) (by rw [Nat.sub_add_cancel hg0];exact hgU)
   have hz:pG p off (n+1) (U % W)=wq p off (y ++ [UInt32.ofNat d1]):=Gk (by simp [hy]) (by rw [mB hd1b,hy,hF.2]);have hwg2:(wq p2 off y).getD (off+n) default=UInt32.ofNat d0:=by rw [<- htop2,<- hy];exact pU A8
   have hd0n:(UInt32.ofNat d0).toNat=d0:=by rw [E9,E2 hdb]
   refine⟨trivial,?_,?_,⟨Tryz.f156.ntmps,[(4,.af (.int .u32 ((g - 1:Nat):Int)))],[]⟩,⟨rfl,⟨?_,trivial,trivial⟩,trivial,trivial⟩,?_,trivial,ay ?_⟩
   ·intro y' hy';obtain rfl:=HQ.1 hy';refine B4 (fun l=>some (Obj.mk 1 l 0 true)) (?_:((wq p2 off y).map cu).set (off+n) (V.af (.int .u32 (IntKind.u32.wrap ((((wq p2 off y).getD (off+n) default).toNat:Int)+(k:Int)))))=(pG p off (n+1) (U % W)).map cu);rw [hz,hwg2,hd0n,IC q2,hd1,qo hd1b]
    conv=>lhs;rw [<- hy]
    rw [nM A8,<- hp2e,TS A8 (by simp [hy,hx])]
   ·intro y' hy';obtain rfl:=HQ.1 hy';exact⟨0,.own 0 0 off (n+1),rfl,rfl,rfl,rfl,by omega⟩
   ·rfl
   ·intro y' hy';rfl
   ·rw [hF.1]
 ·rename_i hle _ _ _;have hx:x.length=n:=by omega
  have hwg:(wq p off x).getD (off+n) default=p.getD (off+n) default:=by rw [<- hx];exact pU A8
  rw [hwg,hu0] at hb;have hbn:¬u0 < c+b:=by omega
  have hd:=sm (u:=u0) (low:=c+b) b3 A8;rw [if_neg hbn,O9,H8] at hd;have hdb:=mX u0 (c+b);obtain⟨d0,hd0⟩:∃d,qk u0 (c+b)=d:=⟨_,rfl⟩
  rw [hd0] at hd hdb;rw [hx,B7 A8,hW] at s4
  have hUs:U=val ((p.drop off).take n)+u0 * 4294967296 ^ n:=by
   rw [<- hUe,qp (by rw [List.length_drop];omega),getD_drop,hu0]
  have hA:=Vs s4 hd hUs;have hF:=Gj hA hg3;have hz:pG p off (n+1) (U % W)=wq p off (x ++ [UInt32.ofNat d0]):=Gk (by simp [hx]) (by rw [mB hdb,hx,hF.2]);refine⟨trivial,?_,?_,⟨Tryz.f156.ntmps,[(4,.af (.int .u32 g))],[]⟩,⟨rfl,⟨?_,trivial,trivial⟩,trivial,trivial⟩,?_,trivial,ay ?_⟩
  ·intro y hy;obtain rfl:=HQ.1 hy;refine B4 (fun l=>some (Obj.mk 1 l 0 true)) (?_:((wq p off x).map cu).set (off+n) (V.af (.int .u32 (IntKind.u32.wrap ((((wq p off x).getD (off+n) default).toNat:Int) - IntKind.u32.wrap ((c:Int)+(b:Int))))))=(pG p off (n+1) (U % W)).map cu);rw [hz,hwg,hu0,show((c:Int)+(b:Int))=((c+b:Nat):Int) from rfl,mW b3 A8,hd0,qo hdb]
   conv=>lhs;rw [<- hx]
   rw [nM A8]
  ·intro y hy;obtain rfl:=HQ.1 hy;exact⟨0,.own 0 0 off (n+1),rfl,rfl,rfl,rfl,by omega⟩
  ·rfl
  ·intro y hy;rfl
  ·rw [hF.1]
theorem Je (l:List UInt32):∀i o,ae [(0,(⟨1,l.map cu,0,true⟩:Obj))] i=some o->o.ver=0/\o.live=true/\∀v ∈ o.el,v.cl [(0,(⟨1,l.map cu,0,true⟩:Obj))]:=by
 intro i o h;obtain⟨rfl,rfl⟩:=aR h;refine⟨rfl,rfl,fun v hv=>?_⟩;obtain⟨x,-,rfl⟩:=D4.1 hv;trivial
theorem Jh (l:List UInt32)(n:Nat):∀v ∈ [V.own 0 0 0 n],v.cl [(0,(⟨1,l.map cu,0,true⟩:Obj))]:=by
 intro v hv;obtain rfl:=HQ.1 hv;exact rfl
theorem sy {C:CT}{q:FuncId}{ts:List T}{oh:OH}{l:List UInt32}{off len:Nat}{k:Acc->Prop}(hc:C q ts (.Br [(0,⟨1,l.map cu,0,true⟩)] (.own 0 0 off len)))
  (h:fresh oh fun c=>k ⟨[],[c],[(c,⟨1,l.map cu,0,true⟩)],.own c 0 off len⟩):VH C q ts oh k:=by
 obtain⟨c,h0,hk⟩:=h;refine⟨_,_,hc,c,fun i hi=>?_,?_⟩
 ·obtain rfl:i=0+c:=by simpa [ny] using hi
  rw [C2];exact h0
 ·have e1:(l.map cu).map (V.Hl c)=l.map cu:=by rw [List.map_map];rfl
  show k ⟨[],[0+c],[(0+c,⟨1,(l.map cu).map (V.Hl c),0,true⟩)],.own (0+c) 0 off len⟩;rw [e1,C2];exact hk
theorem BA {C:CT}{q:FuncId}{ts:List T}{args:List V}{oh:OH}{l:List UInt32}{off len:Nat}{o:Obj}{k:Acc->Prop}(hc:C q ts (.Br [(0,⟨1,l.map cu,0,true⟩)] (.own 0 0 off len)))(id:Nat)
  (ho:ae oh id=some o) (hz:TB [(id,o)] args ts) (h:fresh oh fun c=>k ⟨[(id,o)],[c],[(c,⟨1,l.map cu,0,true⟩)],.own c 0 off len⟩):MT C q args oh k:=by
 obtain⟨c,h0,hk⟩:=h;refine⟨ts,_,_,[(id,o)],hc,uC ho,hz,rfl,fun p hp e he=>?_,c,fun i hi=>?_,?_⟩
 ·rw [HQ.1 hp] at he;obtain⟨x,-,rfl⟩:=D4.1 he;rfl
 ·obtain rfl:i=0+c:=by simpa [ny] using hi
  rw [C2];exact h0
 ·have e1:(l.map cu).map (V.Hl c)=l.map cu:=by rw [List.map_map];rfl
  show k ⟨[(id,o)],[0+c],[(0+c,⟨1,(l.map cu).map (V.Hl c),0,true⟩)],.own (0+c) 0 off len⟩;rw [e1,C2];exact hk
theorem yW {oh:OH}{id ver len:Nat}{l:List UInt32}(ho:ae oh id=some ⟨1,l.map cu,ver,true⟩)(hl:l.length=len):gM oh false (.own id ver 0 len) (tn l):=by
 refine gW (l:=l) (F:=cu) (G:=bw) ho rfl rfl hl ?_ (fun a _=>gp _) rfl;show List.take _ (List.drop 0 (l.map cu))=_;rw [F4,B7 (by rw [List.length_map];omega)]
theorem Qg {m vo:Nat->Nat}(i:Nat){off len off' len':Nat}(h1:off'=off)(h2:len'=len):IU m vo (.own (m i) (vo i) off' len') (.own i 0 off len):=by
 subst h1 h2;exact IU.own i _ _
theorem yf (m vo:Nat->Nat){i ver:Nat}(l:List UInt32):pN m vo [(i,⟨1,l.map cu,ver,true⟩)]=[(m i,⟨1,l.map cu,vo i+ver,true⟩)]:=by
 have e:(l.map cu).map (V.oI m vo)=l.map cu:=Di (fun _=>rfl) l;show [(m i,(⟨1,(l.map cu).map (V.oI m vo),vo i+ver,true⟩:Obj))]=_;rw [e]
theorem ph {A:List UInt32}{B:List V}{C:Nat->Obj->Prop}:∀i o o',ae [(0,(⟨1,A.map cu,0,true⟩:Obj))] i=some o->ae ([(0,(⟨1,B,1,true⟩:Obj))] ++ [(0,(⟨1,A.map cu,0,true⟩:Obj))]) i=some o'->o'.ver=0->C i o:=by
 intro i o o' h1 h2 h3;obtain⟨rfl,rfl⟩:=aR h1;rw [G1,an] at h2;obtain rfl:(⟨1,B,1,true⟩:Obj)=o':=by simpa using h2
 exact absurd (show(1:Nat)=0 from h3) B3
theorem Gv {oh:OH}{a b:Obj}{l:List UInt32}{ver ver1:Nat}(ho:ae oh 0=some ⟨1,l.map cu,ver,true⟩)(hb:b=⟨1,l.map cu,ver1,true⟩):Bm oh ([(0,b)] ++ [(0,a)]):=by
 refine PV fun i o1 h=>?_
 by_cases e:i=0
 ·subst e;rw [G1,an] at h;obtain rfl:b=o1:=by simpa using h
  subst hb;refine⟨rfl,⟨ver,ho⟩,fun e he=>?_⟩;obtain⟨x,-,rfl⟩:=D4.1 he;exact⟨_,rfl⟩
 ·rw [G1,ah _ _ e,Q8,ah _ _ e] at h;cases h
theorem Rz (l:List UInt32)(hl:l.length<=140737488355328):jP Tryz.prog 51 [(0,⟨1,l.map cu,0,true⟩)] [] [.own 0 0 0 l.length] [(0,⟨1,l.map cu,1,true⟩)] (.own 0 1 0 (norm l).length):=by
 refine di bN mix 0 (zO rfl) Tryz.func51 rfl rfl B1 B1 (zO rfl) ?wf ?vs ?po ?le ?_
 case wf=>exact Je l
 case vs=>exact Jh l _
 case po=>intro i o h;obtain⟨rfl,rfl⟩:=aR h;exact .inl rfl
 case le=>intro i o o' h1 h2;obtain⟨rfl,rfl⟩:=aR h1;intro h3;simp [ae] at h2;subst h2;exact absurd (show(1:Nat)=0 from h3) B3
 repeat'(first|(with_reducible first|(refine zz ?_;try intro K hK)|refine zi ?_|refine zh ?_)|((first|apply hK _ _ rfl|apply hK);clear hK K)|(guard_hyp hK;first|refine zy ?_|apply ab|apply aa|(refine aY ?_;intro hu)|refine zP wA ?_|(refine aD ?_;intro hm1 hm2)|refine zP aZ ?_|refine zP rfl ?_|intro b0 hb)|((first|refine zj ?_|guard_hyp hK);refine zY ?_ ?_;all_goals(intro hb;(try simp only [sn,sb] at hb);try exact ao)))
 refine aT (List UInt32) (fun l'=>⟨21,[(0,.own 0 0 0 l'.length)],[(0,⟨1,l.map cu,0,true⟩)]⟩) (fun l'=>norm l'=norm l/\l'.length<=l.length/\l'=l.take l'.length) (fun l'=>l'.length) [] l trivial ⟨rfl,wU _,(J0).symm⟩ ⟨rfl,⟨rfl,rfl,trivial⟩,⟨rfl,trivial⟩,bc _ _⟩ ?_;rintro l' ⟨hl',hle,htk⟩
 repeat'(first|(with_reducible first|(refine zz ?_;try intro K hK)|refine zi ?_|refine zh ?_)|((first|apply hK _ _ rfl|apply hK);clear hK K)|(guard_hyp hK;first|refine zy ?_|apply ab|apply aa|(refine aY ?_;intro hu)|refine zP wA ?_|(refine aD ?_;intro hm1 hm2)|refine zP aZ ?_|refine zP rfl ?_|intro b0 hb)|((first|refine zj ?_|guard_hyp hK);refine zY ?_ ?_;all_goals(intro hb;(try simp only [sn,sb] at hb);try exact ao)))
 ·have e:(↑l'.length - 1:Int).toNat=l'.length - 1:=by omega
  have e2:(l'.take (l'.length - 1)).length=l'.length - 1:=by rw [List.length_take];omega
  have e3:(l.getD (0+(l'.length - 1)) default)=l'.getD (l'.length - 1) default:=by
   rw [C2,List.getD,List.getD,htk,L7,List.length_take,if_pos A8]
  rw [e,e3] at hb;have hb:=qL (UInt32.toNat_inj.mp (W6 hb));refine⟨l'.take (l'.length - 1),⟨hb.trans hl',by rw [e2];omega,?_⟩,by rw [e2];omega,rfl,⟨?_,rfl,trivial⟩,⟨rfl,trivial⟩,bc _ _⟩
  ·rw [e2]
   have e5:∀n,n<=l'.length->l'.take n=l.take n:=by
    intro n hn;obtain⟨k,hk⟩:∃k,l'.length=k:=⟨_,rfl⟩
    rw [hk] at htk hn;rw [htk,J3,I5 hn]
   exact e5 _ A8
  ·show V.own 0 0 (0+Int.toNat 0) ((l'.length:Int) - 1 - 0).toNat=_;rw [e2,Int.sub_zero,e];rfl
 ·have e:(↑l'.length - 1:Int).toNat=l'.length - 1:=by omega
  have e3:(l.getD (0+(l'.length - 1)) default)=l'.getD (l'.length - 1) default:=by
   rw [C2,List.getD,List.getD,htk,L7,List.length_take,if_pos A8]
  rw [e,e3] at hb;rw [<- hl',qK fun h=>hb (B4 (fun x:UInt32=>Int.ofNat x.toNat) h)];exact⟨trivial,false,_,rfl,ph,Gv rfl rfl,mO.own 0 0 1 0 _ _ _ rfl rfl rfl rfl⟩
 ·have:l'=[]:=C8 A8;subst this;rw [<- hl'];exact⟨trivial,false,_,rfl,ph,Gv rfl rfl,mO.own 0 0 1 0 _ _ _ rfl rfl rfl rfl⟩
theorem xh (l:List UInt32)(hl:l.length<=2199023255552)(h0:0 < l.length):IG Tryz.prog 72 [tn l] [(0,⟨1,l.map cu,0,true⟩)] (.own 0 0 0 l.length):=by
 refine kf bN mix Tryz.func72 rfl rfl B1 (zO rfl) ?_
 repeat'(first|(with_reducible first|(refine zz ?_;try intro K hK)|refine zi ?_|refine zh ?_)|((first|apply hK _ _ rfl|apply hK);clear hK K)|(guard_hyp hK;first|refine zy ?_|apply ab|apply aa|(refine aY ?_;intro hu)|refine zP wA ?_|(refine aD ?_;intro hm1 hm2)|refine zP aZ ?_|refine zP rfl ?_|intro b0 hb)|((first|refine zj ?_|guard_hyp hK);refine zY ?_ ?_;all_goals(intro hb;(try simp only [sn,sb] at hb);try exact ao)))
 ·rename_i h;have h1:=B4 List.length (h hb);rw [List.length_map,M1] at h1;omega
 ·have e9:List.take 0 [] ++ List.map (V.IL false) (List.map bw l)=l.map cu:=by
   rw [List.take_nil,Q8,List.map_map];rfl
  have e8:=B4 (fun L=>some (Obj.mk 1 L 1 true)) e9;have e7:0+(List.map (V.IL false) (List.map bw l)).length=l.length:=by rw [C2,List.length_map,List.length_map]
  refine⟨trivial,false,_,fun _=>0,rfl,yg (id:=0) (ver:=1) e8 (fun e he=>?_),?_⟩
  ·obtain⟨x,-,rfl⟩:=D4.1 he;exact⟨_,rfl⟩
  ·rw [<- e7];exact fg.own 0 1 0 _ _ e8 rfl rfl
end Go.Ev
