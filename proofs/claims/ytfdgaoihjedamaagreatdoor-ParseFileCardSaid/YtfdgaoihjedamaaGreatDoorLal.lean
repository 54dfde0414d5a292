import Derived.Test.YtfdgaoihjedamaaGreatDoorLak
import Derived.Test.YtfdgaoihjedamaaGreatDoorEvP
import Derived.Test.YtfdgaoihjedamaaGreatDoorLaf
set_option linter.all false
set_option maxHeartbeats 4000000
set_option maxRecDepth 10000
namespace Go.Ev
open Go.Proofs
theorem allv1 {e:V}{n:Nat}(h:e.cells.length=n):∀y ∈ [e],y.cells.length=n:=by
 intro y hy
 rw [List.mem_singleton.1 hy];exact h
theorem val_drop_step {l:List UInt32}{i:Nat}(h:i < l.length):val (l.drop i)=(l.getD i default).toNat+4294967296 * val (l.drop (i+1)):=by
 rw [List.drop_eq_getElem_cons h,val];simp [List.getD,h]
theorem drop_set_self {p:List UInt32}{i:Nat}{q:UInt32}(h:i < p.length):(p.set i q).drop i=q :: p.drop (i+1):=by
 rw [List.drop_eq_getElem_cons (by simpa using h),List.drop_set_of_lt (by omega)];simp
theorem tmodn (T n:Nat):(T:Int).tmod (n:Int)=((T % n:Nat):Int):=rfl
theorem tdivn (T n:Nat):(T:Int).tdiv (n:Int)=((T / n:Nat):Int):=rfl
theorem div_step {l o:List UInt32}{i d r q r':Nat}(hl:i < l.length)(ho:i < o.length)(h:val (l.drop (i+1))=d * val (o.drop (i+1))+r)(hq:q < 4294967296)(hr:r * 4294967296+(l.getD i default).toNat=d * q+r') :
  val (l.drop i)=d * val ((o.set i (UInt32.ofNat q)).drop i)+r':=by
 rw [val_drop_step hl,h,drop_set_self ho,val,UInt32.toNat_ofNat',Nat.mod_eq_of_lt hq,Nat.mul_add,Nat.mul_add]
 have e1:4294967296 * (d * val (o.drop (i+1)))=d * (4294967296 * val (o.drop (i+1))):=by rw [← Nat.mul_assoc,← Nat.mul_assoc,Nat.mul_comm 4294967296 d]
 omega
theorem set_cu {p:List UInt32}{i q:Nat}(h:q < 4294967296):(p.map cu).set i (V.con (.int .u32 (q:Nat)))=(p.set i (UInt32.ofNat q)).map cu:=by
 rw [List.map_set]
 congr 1
 show _=V.con (.int .u32 ((UInt32.ofNat q).toNat:Nat))
 rw [UInt32.toNat_ofNat',Nat.mod_eq_of_lt h]
theorem set_cu2 {p:List UInt32}{i:Nat}{q:UInt32}:(p.map cu).set i (V.con (.int .u32 (q.toNat:Nat)))=(p.set i q).map cu:=by
 rw [List.map_set];rfl
theorem reven_ok (l:List UInt32)(hl:l.length≤2199023255552):Ok Tryz.prog 150 [tn l] true (.con (.bool (val l % 2 == 0))):=by
 refine ok_of_ev hC0 mix Tryz.func150 rfl rfl (by kernel_rfl) (zO rfl) ?_
 repeat'(first|(with_reducible first|(refine zz ?_;try intro K hK)|refine zI ?_|refine zt ?_|refine zf ?_)|((first|refine hK _ ?_|refine hK _ _ rfl ?_);clear hK K)|(guard_hyp hK;first|(refine zY ?zz ?_;case zz=>first|exact rfl|exact gI)|refine fresh_n ?_|refine freshO_n ?_|(refine at_Q ?_;intro hu)|refine zP wA ?_|(refine mul_Q ?_;intro hm1 hm2)|refine zP at_M ?_|refine zP rfl ?_|intro b0 hb)|((first|with_reducible refine zm ?_|guard_hyp hK);refine zY ?_ ?_;all_goals(intro hb;(try simp only [sn,sb] at hb);try exact ex0)))
 ·have:l=[]:=List.eq_nil_of_length_eq_zero (by omega)
  exact And.intro trivial (fz_con (by rw [this];rfl))
 ·refine And.intro trivial (fz_con (congrArg Value.bool ?_))
  have h1:=val_drop_step (l:=l) (i:=0) (by omega)
  rw [List.drop_zero] at h1
  have h2:val l % 2=(l.getD 0 default).toNat % 2:=by omega
  rw [h2]
  show((((l.getD (Int.toNat 0) default).toNat:Int).tmod 2) == 0)=_
  show((((l.getD 0 default).toNat:Int).tmod 2) == 0)=_
  rw [show(2:Int)=((2:Nat):Int) from rfl,tmodn,Bool.eq_iff_iff,beq_iff_eq,beq_iff_eq]
  omega
theorem rhalf_ok (l:List UInt32)(hl:l.length≤1099511627776):Ok Tryz.prog 151 [tn l] true (tn (lm (val l / 2))):=by
 refine ok_of_ev hC0 mix Tryz.func151 rfl rfl (by kernel_rfl) (zO rfl) ?_
 repeat'(first|(with_reducible first|(refine zz ?_;try intro K hK)|refine zI ?_|refine zt ?_|refine zf ?_)|((first|refine hK _ ?_|refine hK _ _ rfl ?_);clear hK K)|(guard_hyp hK;first|(refine zY ?zz ?_;case zz=>first|exact rfl|exact gI)|refine fresh_n ?_|refine freshO_n ?_|(refine at_Q ?_;intro hu)|refine zP wA ?_|(refine mul_Q ?_;intro hm1 hm2)|refine zP at_M ?_|refine zP rfl ?_|intro b0 hb)|((first|with_reducible refine zm ?_|guard_hyp hK);refine zY ?_ ?_;all_goals(intro hb;(try simp only [sn,sb] at hb);try exact ex0)))
 refine loop_i (Int×List UInt32×Nat) (fun(i,p,r)=>⟨Tryz.f151.ntmps,[(0,.ro false (tn l)),(3,.own 0 0 0 l.length),(4,.con (.int .u64 r)),(5,.con (.int .i64 i))],[(0,⟨1,p.map cu,0,true⟩)]⟩)
  (fun(i,p,r)=>-1≤i∧i < l.length∧p.length=l.length∧r≤1∧val (l.drop (i+1).toNat)=2 * val (p.drop (i+1).toNat)+r) (fun(i,p,r)=>(i+1).toNat) [] ((l.length:Int) - 1,List.replicate l.length 0,0) trivial ⟨by omega,by omega,by simp,by omega,?_⟩ ⟨rfl,⟨rfl,trivial,?_,rfl,rfl,trivial,?_,trivial,trivial⟩,⟨?_,trivial⟩,clObjs_cu _ _⟩ ?_
 ·rw [show((l.length:Int) - 1+1).toNat=l.length by omega,List.drop_length,List.drop_eq_nil_of_le (by simp)];rfl
 ·show V.own _ _ _ _=_
  simp only [List.length_map]
  rfl
 ·show V.con (.int .i64 (((l.map tu32).length:Int) - 1))=_
  rw [List.length_map]
 ·show some _=some _
  congr 1
  congr 1
  simp only [List.length_map]
  rw [List.map_replicate]
  rfl
 rintro⟨i,p,r⟩ ⟨h0,h1,hpl,h2,h3⟩
 repeat'(first|(with_reducible first|(refine zz ?_;try intro K hK)|refine zI ?_|refine zt ?_|refine zf ?_)|((first|refine hK _ ?_|refine hK _ _ rfl ?_);clear hK K)|(guard_hyp hK;first|(refine zY ?zz ?_;case zz=>first|exact rfl|exact gI)|refine fresh_n ?_|refine freshO_n ?_|(refine at_Q ?_;intro hu)|refine zP wA ?_|(refine mul_Q ?_;intro hm1 hm2)|refine zP at_M ?_|refine zP rfl ?_|intro b0 hb)|((first|with_reducible refine zm ?_|guard_hyp hK);refine zY ?_ ?_;all_goals(intro hb;(try simp only [sn,sb] at hb);try exact ex0)))
 ·obtain⟨n,rfl⟩:∃n:Nat,i=n:=⟨i.toNat,by omega⟩
  obtain⟨x,hx⟩:∃x,(l.getD n default).toNat=x:=⟨_,rfl⟩
  have hxl:x < 4294967296:=by rw [← hx];exact UInt32.toNat_lt _
  have e1:((n:Int)+1).toNat=n+1:=by omega
  have e2:((n:Int)).toNat=n:=rfl
  rw [e1] at h3
  have hq:(r * 4294967296+x) / 2 < 4294967296:=by omega
  refine⟨((n:Int) - 1,p.set n (UInt32.ofNat ((r * 4294967296+x) / 2)),(r * 4294967296+x) % 2),⟨by omega,by omega,by rw [List.length_set];exact hpl,by omega,?ga⟩,by show((n:Int) - 1+1).toNat < ((n:Int)+1).toNat;omega,rfl,⟨rfl,trivial,rfl,rfl,?gc,trivial,rfl,trivial,trivial⟩,⟨?gd,trivial⟩,clObjs_cu _ _⟩
  case ga=>
   rw [show((n:Int) - 1+1).toNat=n by omega]
   exact div_step (d:=2) (r:=r) (by omega) (by omega) h3 hq (by rw [hx];have:=Nat.div_add_mod (r * 4294967296+x) 2;omega)
  case gc=>
   refine congrArg (fun n=>V.con (.int .u64 n)) ?_
   show((r:Int) * 4294967296+((l.getD n default).toNat:Int)).tmod 2=_
   rw [hx,show((r:Int) * 4294967296+(x:Int))=((r * 4294967296+x:Nat):Int) by simp]
   rfl
  case gd=>
   refine congrArg (fun l=>some (Obj.mk 1 l 0 true)) (?_:(p.map cu).set (0+((n:Int)).toNat) (V.con (.int .u32 _))=_)
   show(p.map cu).set (0+n) (V.con (.int .u32 (IntKind.u32.wrap (IntKind.u64.wrap (((r:Int) * 4294967296+((l.getD n default).toNat:Int)).tdiv 2)))))=_
   rw [hx,show((r:Int) * 4294967296+(x:Int))=((r * 4294967296+x:Nat):Int) by simp,show(2:Int)=((2:Nat):Int) from rfl,tdivn,Nat.zero_add,← wrapU64 (a:=(((r * 4294967296+x) / 2:Nat):Int)) (by omega) (by omega),wrap32 (Int.natCast_nonneg _),Int.toNat_natCast,set_cu2]
 ·have e1:(i+1).toNat=0:=by omega
  rw [e1,List.drop_zero,List.drop_zero] at h3
  repeat'(first|(with_reducible first|(refine zz ?_;try intro K hK)|refine zI ?_|refine zt ?_|refine zf ?_)|((first|refine hK _ ?_|refine hK _ _ rfl ?_);clear hK K)|(guard_hyp hK;first|(refine zY ?zz ?_;case zz=>first|exact rfl|exact gI)|refine fresh_n ?_|refine freshO_n ?_|(refine at_Q ?_;intro hu)|refine zP wA ?_|(refine mul_Q ?_;intro hm1 hm2)|refine zP at_M ?_|refine zP rfl ?_|intro b0 hb)|((first|with_reducible refine zm ?_|guard_hyp hK);refine zY ?_ ?_;all_goals(intro hb;(try simp only [sn,sb] at hb);try exact ex0)))
  refine Or.inl (Exists.intro _ (Exists.intro _ (Exists.intro _ (And.intro (rNorm_ok p (by omega)) (Exists.intro [(0,?o)] (And.intro (lpre1 ?ho) (And.intro ?z (And.intro rfl ?_))))))))
  case ho=>exact rfl
  case z=>
   refine fzl1 (fz_own (l:=p) (F:=cu) (G:=tu32) rfl rfl rfl hpl ?_ (fun a _=>fze_con _) rfl)
   show List.take _ (List.drop 0 (p.map cu))=_
   rw [List.drop_zero,List.take_of_length_le (by rw [List.length_map];omega)]
  repeat'(first|(with_reducible first|(refine zz ?_;try intro K hK)|refine zI ?_|refine zt ?_|refine zf ?_)|((first|refine hK _ ?_|refine hK _ _ rfl ?_);clear hK K)|(guard_hyp hK;first|(refine zY ?zz ?_;case zz=>first|exact rfl|exact gI)|refine fresh_n ?_|refine freshO_n ?_|(refine at_Q ?_;intro hu)|refine zP wA ?_|(refine mul_Q ?_;intro hm1 hm2)|refine zP at_M ?_|refine zP rfl ?_|intro b0 hb)|((first|with_reducible refine zm ?_|guard_hyp hK);refine zY ?_ ?_;all_goals(intro hb;(try simp only [sn,sb] at hb);try exact ex0)))
  exact And.intro trivial (fz_ro (by rw [norm_lm,show val p=val l / 2 by omega]) fun h=>h)
def dblL : Nat→List UInt32→List UInt32
 |c,[]=>if 0 < c then [UInt32.ofNat c] else []
 |c,x :: r=>UInt32.ofNat (c+2 * x.toNat) :: dblL ((c+2 * x.toNat) / 4294967296) r
theorem dblL_val : ∀(l:List UInt32) (c:Nat),c < 4294967296→val (dblL c l)=c+2 * val l
 | [],c,h=>by
  unfold dblL
  split
  ·simp only [val,UInt32.toNat_ofNat'];omega
  ·simp only [val];omega
 |x :: r,c,h=>by
  have hx:=UInt32.toNat_lt x
  rw [dblL,val,val,dblL_val r _ (by omega),UInt32.toNat_ofNat']
  omega
theorem dblL_len : ∀(l:List UInt32) (c:Nat),(dblL c l).length≤l.length+1
 | [],c=>by unfold dblL;split<;>simp
 |x :: r,c=>by rw [dblL,List.length_cons,List.length_cons];have:=dblL_len r ((c+2 * x.toNat) / 4294967296);omega
theorem dblL_step {l:List UInt32}{c i:Nat}(h:i < l.length):dblL c (l.drop i)=UInt32.ofNat (c+2 * (l.getD i default).toNat) :: dblL ((c+2 * (l.getD i default).toNat) / 4294967296) (l.drop (i+1)):=by
 rw [List.drop_eq_getElem_cons h,dblL];simp [List.getD,h]
theorem rdouble_ok (l:List UInt32)(b:Nat)(hb0:b≤1)(hl:l.length≤1099511627776):Ok Tryz.prog 154 [tn l,.con (.int .u32 (b:Nat))] true (tn (dblL b l)):=by
 refine ok_of_ev hC0 mix Tryz.func154 rfl rfl (by kernel_rfl) (zO rfl) ?_
 repeat'(first|(with_reducible first|(refine zz ?_;try intro K hK)|refine zI ?_|refine zt ?_|refine zf ?_)|((first|refine hK _ ?_|refine hK _ _ rfl ?_);clear hK K)|(guard_hyp hK;first|(refine zY ?zz ?_;case zz=>first|exact rfl|exact gI)|refine fresh_n ?_|refine freshO_n ?_|(refine at_Q ?_;intro hu)|refine zP wA ?_|(refine mul_Q ?_;intro hm1 hm2)|refine zP at_M ?_|refine zP rfl ?_|intro b0 hb)|((first|with_reducible refine zm ?_|guard_hyp hK);refine zY ?_ ?_;all_goals(intro hb;(try simp only [sn,sb] at hb);try exact ex0)))
 refine loop_i (List UInt32×Nat) (fun(o,c)=>⟨Tryz.f154.ntmps,[(0,.ro false (tn l)),(5,.own 0 o.length 0 o.length),(6,.con (.int .u64 c)),(7,.con (.int .i64 (o.length:Nat)))],[(0,⟨1,o.map cu,o.length,true⟩)]⟩)
  (fun(o,c)=>c≤2∧o.length≤l.length∧o ++ dblL c (l.drop o.length)=dblL b l) (fun(o,c)=>l.length - o.length) [(5,0,1)] ([],b) ⟨rfl,rfl,trivial⟩ ⟨by omega,by simp,rfl⟩ ⟨rfl,⟨rfl,trivial,rfl,rfl,rfl,trivial,rfl,trivial,trivial⟩,⟨rfl,trivial⟩,clObjs_cu' _ _ _⟩ ?_
 rintro⟨o,c⟩ ⟨g0,g1,g2⟩
 repeat'(first|(refine And.intro (allv1 rfl) ?_)|(with_reducible first|(refine zz ?_;try intro K hK)|refine zI ?_|refine zt ?_|refine zf ?_)|((first|refine hK _ ?_|refine hK _ _ rfl ?_);clear hK K)|(guard_hyp hK;first|(refine zY ?zz ?_;case zz=>first|exact rfl|exact gI)|refine fresh_n ?_|refine freshO_n ?_|(refine at_Q ?_;intro hu)|refine zP wA ?_|(refine mul_Q ?_;intro hm1 hm2)|refine zP at_M ?_|refine zP rfl ?_|intro b0 hb)|((first|with_reducible refine zm ?_|guard_hyp hK);refine zY ?_ ?_;all_goals(intro hb;(try simp only [sn,sb] at hb);try exact ex0)))
 ·obtain⟨x,hx⟩:∃n,(l.getD o.length default).toNat=n:=⟨_,rfl⟩
  have eo:((o.length:Int)).toNat=o.length:=rfl
  rw [eo,hx] at hu
  have hi:o.length < l.length:=by omega
  have el:(o ++ [UInt32.ofNat (c+2 * x)]).length=o.length+1:=by simp
  have eT:((c:Int)+2 * (x:Int))=((c+2 * x:Nat):Int):=by simp
  refine⟨(o ++ [UInt32.ofNat (c+2 * x)],(c+2 * x) / 4294967296),⟨by omega,by rw [el];omega,?gv⟩,?gm,rfl,⟨rfl,trivial,?g5,rfl,?g6,trivial,?g7,trivial,trivial⟩,⟨?gd,trivial⟩,clObjs_cu' _ _ _⟩
  case gv=>rw [← g2,el,dblL_step hi,hx,List.append_assoc];rfl
  case gm=>
   show l.length - (o ++ [UInt32.ofNat (c+2 * x)]).length < l.length - o.length
   rw [el];omega
  case g5=>
   show V.own 0 (o.length+1) 0 (o.length+1)=V.own 0 (o ++ [UInt32.ofNat (c+2 * x)]).length 0 (o ++ [UInt32.ofNat (c+2 * x)]).length
   rw [el]
  case g6=>
   refine congrArg (fun n=>V.con (.int .u64 n)) (?_:IntKind.u64.wrap (((c:Int)+2 * ((l.getD o.length default).toNat:Int)).tdiv 4294967296)=_)
   rw [hx,eT,tdiv_nat]
   exact(wrapU64 (by omega) (by omega)).symm
  case g7=>
   show V.con (.int .i64 ((o.length:Int)+1))=V.con (.int .i64 (((o ++ [UInt32.ofNat (c+2 * x)]).length:Nat):Int))
   rw [el];rfl
  case gd=>
   show some (Obj.mk 1 (List.take o.length (o.map cu) ++ [V.con (.int .u32 (IntKind.u32.wrap (((c:Int)+2 * ((l.getD o.length default).toNat:Int)).tmod 4294967296)))]) (o.length+1) true)=some (Obj.mk 1 ((o ++ [UInt32.ofNat (c+2 * x)]).map cu) (o ++ [UInt32.ofNat (c+2 * x)]).length true)
   have e5:UInt32.ofNat (((c+2 * x) % 4294967296:Nat):Int).toNat=UInt32.ofNat (c+2 * x):=UInt32.toNat_inj.1 (by rw [Int.toNat_natCast,UInt32.toNat_ofNat',UInt32.toNat_ofNat',Nat.mod_mod])
   rw [el,hx,eT,tmod_nat,wrap32 (Int.natCast_nonneg _),e5,List.take_of_length_le (by simp),List.map_append]
   rfl
 ·have e0:l.drop o.length=[]:=List.drop_eq_nil_of_le (by omega)
  rw [e0,dblL,if_pos (by omega)] at g2
  have ec:(UInt32.ofNat c).toNat=c:=by rw [UInt32.toNat_ofNat'];omega
  refine And.intro trivial (fz_own (l:=o ++ [UInt32.ofNat c]) (F:=cu) (G:=tu32) rfl rfl rfl (by rw [List.length_append];rfl) ?_ (fun a _=>fze_con _) (by rw [← g2];rfl))
  show(List.drop 0 (List.take o.length (o.map cu) ++ [V.con (.int .u32 (c:Int))])).take (o.length+1)=(o ++ [UInt32.ofNat c]).map cu
  rw [List.drop_zero,List.take_of_length_le (l:=o.map cu) (by simp),List.take_of_length_le (by simp),List.map_append]
  show _=o.map cu ++ [V.con (.int .u32 ((UInt32.ofNat c).toNat:Nat))]
  rw [ec]
 ·have e0:l.drop o.length=[]:=List.drop_eq_nil_of_le (by omega)
  rw [e0,dblL,if_neg (by omega),List.append_nil] at g2
  refine And.intro trivial (fz_own (l:=o) (F:=cu) (G:=tu32) rfl rfl rfl rfl ?_ (fun a _=>fze_con _) (by rw [← g2];rfl))
  show(List.drop 0 (o.map cu)).take o.length=o.map cu
  rw [List.drop_zero,List.take_of_length_le (by simp)]
def padL : Nat→Nat→List UInt32
 |0,_=>[]
 |n+1,v=>UInt32.ofNat v :: padL n (v / 4294967296)
theorem padL_len : ∀(n v:Nat),(padL n v).length=n
 |0,_=>rfl
 |n+1,v=>by rw [padL,List.length_cons,padL_len]
theorem padL_val : ∀(p:List UInt32),padL p.length (val p)=p
 | []=>rfl
 |x :: r=>by
  have hx:=UInt32.toNat_lt x
  rw [List.length_cons,padL,val,show(x.toNat+4294967296 * val r) / 4294967296=val r by omega,padL_val r]
  congr 1
  refine UInt32.toNat_inj.1 ?_
  rw [UInt32.toNat_ofNat'];omega
theorem val_padL : ∀(n v:Nat),v < 4294967296 ^ n→val (padL n v)=v
 |0,v,h=>by simp at h;subst h;rfl
 |n+1,v,h=>by
  rw [padL,val,UInt32.toNat_ofNat',val_padL n _ (by rw [Nat.pow_succ] at h;exact Nat.div_lt_of_lt_mul (by rw [Nat.mul_comm];exact h))]
  omega
theorem or_eq {a x:Nat}(ha:a < 4294967296)(hx:x < 4294967296):IntKind.u64.wrap (((BitVec.ofInt 64 ((a:Int) * 4294967296) |||BitVec.ofInt 64 (x:Int)).toNat:Nat):Int)=((a * 4294967296+x:Nat):Int):=by
 have e1:BitVec.ofInt 64 ((a:Int) * 4294967296)=BitVec.ofNat 64 (a * 4294967296):=by
  rw [show((a:Int) * 4294967296)=((a * 4294967296:Nat):Int) by simp];exact BitVec.ofInt_natCast ..
 have e2:BitVec.ofInt 64 (x:Int)=BitVec.ofNat 64 x:=BitVec.ofInt_natCast ..
 have e3:(a * 4294967296) |||x=a * 4294967296+x:=by
  have:=Nat.shiftLeft_add_eq_or_of_lt (b:=x) (i:=32) (by omega) a
  rw [Nat.shiftLeft_eq] at this
  exact this.symm
 rw [e1,e2,BitVec.toNat_or,BitVec.toNat_ofNat,BitVec.toNat_ofNat,Nat.mod_eq_of_lt (by omega),Nat.mod_eq_of_lt (by omega),e3]
 exact(wrapU64 (by omega) (by omega)).symm
theorem shl32 {a:Int}{Q:Int→Prop}(h0:0≤a)(h1:a < 4294967296)(h:Q (a * 4294967296)):∃r,r=IntKind.u64.wrap (a * 2 ^ (min (32:Int).toNat IntKind.u64.bits))∧Q r:=by
 refine⟨_,?_,h⟩
 show a * 4294967296=IntKind.u64.wrap (a * 4294967296)
 exact wrapU64 (by omega) (by omega)
theorem cu_scal (l:List UInt32):∀e ∈ l.map cu,e.scal:=by
 intro e he
 obtain⟨x,-,rfl⟩:=List.mem_map.1 he
 trivial
theorem wf_cu {l q:List UInt32}(h:q.length=l.length):∀x ∈ [(⟨0,1,l.map cu,q.map cu⟩:MO)],0 < x.sz∧x.a.length=x.b.length∧(∀e ∈ x.a,e.scal)∧(∀e ∈ x.b,e.scal):=by
 intro x hx
 obtain rfl:=List.mem_singleton.1 hx
 exact⟨Nat.zero_lt_one,by simp [h],cu_scal l,cu_scal q⟩
theorem nd_one (x:MO):([x].map (·.id)).Nodup:=by simp
theorem small_ok (l:List UInt32)(d:UInt32)(hd:d.toNat≠0)(hl:l.length≤1099511627776)(h0:l≠[]) :
  OkM Tryz.prog 162 [⟨0,1,l.map cu,(padL l.length (val l / d.toNat)).map cu⟩] [.own 0 0 0 l.length,.con (.int .u32 d.toNat)] true (.con (.int .u32 (val l % d.toNat:Nat))):=by
 have hdl:=UInt32.toNat_lt d
 have hpos:0 < l.length:=List.length_pos_iff.2 h0
 refine okm_of_ev hC0 mix Tryz.func162 rfl rfl (by kernel_rfl) (by kernel_rfl) (zO rfl) ?wf ?nd ?_
 case wf=>exact wf_cu (padL_len _ _)
 case nd=>exact nd_one _
 repeat'(first|(with_reducible first|(refine zz ?_;try intro K hK)|refine zI ?_|refine zt ?_|refine zf ?_)|((first|refine hK _ ?_|refine hK _ _ rfl ?_);clear hK K)|(guard_hyp hK;first|(refine zY ?zz ?_;case zz=>first|exact rfl|exact gI)|refine fresh_n ?_|refine freshO_n ?_|(refine at_Q ?_;intro hu)|refine zP wA ?_|(refine mul_Q ?_;intro hm1 hm2)|refine zP at_M ?_|refine zP rfl ?_|intro b0 hb)|((first|with_reducible refine zm ?_|guard_hyp hK);refine zY ?_ ?_;all_goals(intro hb;(try simp only [sn,sb] at hb);try exact ex0)))
 refine loop_i (Int×List UInt32×Nat) (fun(i,p,r)=>⟨Tryz.f162.ntmps,[(0,.own 0 0 0 l.length),(1,.con (.int .u32 d.toNat)),(5,.con (.int .u64 r)),(6,.con (.int .i64 i))],[(0,⟨1,p.map cu,0,true⟩)]⟩)
  (fun(i,p,r)=>-1≤i∧i < l.length∧p.length=l.length∧r < d.toNat∧p.take (i+1).toNat=l.take (i+1).toNat∧val (l.drop (i+1).toNat)=d.toNat * val (p.drop (i+1).toNat)+r) (fun(i,p,r)=>(i+1).toNat) [] ((l.length:Int) - 1,l,0) trivial ⟨by omega,by omega,rfl,by omega,rfl,?_⟩ ⟨rfl,⟨rfl,rfl,rfl,trivial,rfl,trivial,rfl,trivial,trivial⟩,⟨rfl,trivial⟩,clObjs_cu _ _⟩ ?_
 ·rw [show((l.length:Int) - 1+1).toNat=l.length by omega,List.drop_length];rfl
 rintro⟨i,p,r⟩ ⟨h0,h1,hpl,h2,h3,h4⟩
 repeat'(first|(refine shl32 (by omega) (by omega) ?_)|(with_reducible first|(refine zz ?_;try intro K hK)|refine zI ?_|refine zt ?_|refine zf ?_)|((first|refine hK _ ?_|refine hK _ _ rfl ?_);clear hK K)|(guard_hyp hK;first|(refine zY ?zz ?_;case zz=>first|exact rfl|exact gI)|refine fresh_n ?_|refine freshO_n ?_|(refine at_Q ?_;intro hu)|refine zP wA ?_|(refine mul_Q ?_;intro hm1 hm2)|refine zP at_M ?_|refine zP rfl ?_|intro b0 hb)|((first|with_reducible refine zm ?_|guard_hyp hK);refine zY ?_ ?_;all_goals(intro hb;(try simp only [sn,sb] at hb);try exact ex0)))
 ·obtain⟨n,rfl⟩:∃n:Nat,i=n:=⟨i.toNat,by omega⟩
  have e1:((n:Int)+1).toNat=n+1:=by omega
  rw [e1] at h3 h4
  have hxl:p.getD n default=l.getD n default:=by
   have:=congrArg (fun q=>List.getD q n default) h3
   simpa [List.getD,List.getElem?_take] using this
  obtain⟨x,hx⟩:∃x,(l.getD n default).toNat=x:=⟨_,rfl⟩
  have hxb:x < 4294967296:=by rw [← hx];exact UInt32.toNat_lt _
  obtain⟨D,hD⟩:∃D,d.toNat=D:=⟨_,rfl⟩
  rw [hD] at hd h2 h4 hdl
  have hT:=Nat.div_add_mod (r * 4294967296+x) D
  have hm:=Nat.mod_lt (r * 4294967296+x) (Nat.pos_of_ne_zero hd)
  have hq:(r * 4294967296+x) / D < 4294967296:=by
   rw [Nat.div_lt_iff_lt_mul (Nat.pos_of_ne_zero hd)]
   have:(r+1) * 4294967296≤D * 4294967296:=Nat.mul_le_mul_right _ h2
   rw [Nat.mul_comm 4294967296 D]
   omega
  obtain⟨Q,hQ⟩:∃Q,(r * 4294967296+x) / D=Q:=⟨_,rfl⟩
  have hq2:Q < 4294967296:=by rw [← hQ];exact hq
  have hor:=or_eq (a:=r) (x:=x) (by omega) hxb
  refine⟨((n:Int) - 1,p.set n (UInt32.ofNat ((r * 4294967296+x) / D)),(r * 4294967296+x) % D),⟨by omega,by omega,by rw [List.length_set];exact hpl,by rw [hD];exact hm,?gt,?ga⟩,by show((n:Int) - 1+1).toNat < ((n:Int)+1).toNat;omega,rfl,⟨rfl,rfl,rfl,trivial,?gc,trivial,rfl,trivial,trivial⟩,⟨?gd,trivial⟩,clObjs_cu _ _⟩
  case gt=>
   rw [show((n:Int) - 1+1).toNat=n by omega,List.take_set_of_le (Nat.le_refl _)]
   have:=congrArg (List.take n) h3
   rwa [List.take_take,List.take_take,Nat.min_eq_left (by omega)] at this
  case ga=>
   rw [show((n:Int) - 1+1).toNat=n by omega,hD]
   exact div_step (d:=D) (r:=r) (by omega) (by omega) h4 hq (by rw [hx];omega)
  case gc=>
   refine congrArg (fun n=>V.con (.int .u64 n)) (?_:(IntKind.u64.wrap (((BitVec.ofInt 64 ((r:Int) * 4294967296) |||BitVec.ofInt 64 ((p.getD (0+n) default).toNat:Int)).toNat:Nat):Int)).tmod (d.toNat:Int)=_)
   rw [Nat.zero_add,hxl,hx,hor,hD,tmodn]
  case gd=>
   refine congrArg (fun l=>some (Obj.mk 1 l 0 true)) (?_:(p.map cu).set (0+n) (V.con (.int .u32 (IntKind.u32.wrap (IntKind.u64.wrap ((IntKind.u64.wrap (((BitVec.ofInt 64 ((r:Int) * 4294967296) |||BitVec.ofInt 64 ((p.getD (0+n) default).toNat:Int)).toNat:Nat):Int)).tdiv (d.toNat:Int))))))=_)
   rw [Nat.zero_add,hxl,hx,hor,hD,tdivn,hQ,← wrapU64 (a:=((Q:Nat):Int)) (by omega) (by omega),wrap32 (Int.natCast_nonneg _),Int.toNat_natCast,set_cu2]
 ·have e1:(i+1).toNat=0:=by omega
  rw [e1,List.drop_zero,List.drop_zero] at h4
  have hv:val p=val l / d.toNat∧r=val l % d.toNat:=by
   rw [h4]
   constructor
   ·rw [Nat.mul_add_div (Nat.pos_of_ne_zero hd),Nat.div_eq_of_lt h2,Nat.add_zero]
   ·rw [Nat.mul_add_mod,Nat.mod_eq_of_lt h2]
  have hp:p=padL l.length (val l / d.toNat):=by rw [← hv.1,← hpl,padL_val]
  refine⟨trivial,?_,?_,⟨Tryz.f162.ntmps,[(4,.con (.int .u32 r))],[]⟩,⟨rfl,⟨?_,trivial,trivial⟩,trivial,trivial⟩,?_,trivial,fz_con ?_⟩
  ·intro y hy
   obtain rfl:=List.mem_singleton.1 hy
   exact congrArg (fun l=>some (Obj.mk 1 (l.map cu) 0 true)) hp
  ·intro y hy
   obtain rfl:=List.mem_singleton.1 hy
   exact⟨0,.own 0 0 0 l.length,rfl,rfl,rfl,rfl,hpos⟩
  ·rfl
  ·intro y hy;rfl
  ·rw [hv.2]
def bl (t:Nat):Nat:=if t=0 then 0 else Nat.log2 t+1
theorem bl_step {t:Nat}(h:0 < t):bl t=bl (t / 2)+1:=by
 unfold bl
 rw [if_neg (by omega)]
 by_cases h2:t / 2=0
 ·rw [if_pos h2]
  have:t=1:=by omega
  subst this;rfl
 ·rw [if_neg h2,Nat.log2_def,if_pos (by omega)]
theorem bl_lt (t:Nat):t < 2 ^ bl t:=by
 unfold bl
 split
 ·rename_i h;subst h;decide
 ·exact Nat.lt_log2_self
theorem bl_le {t:Nat}(h:t < 4294967296):bl t≤32:=by
 unfold bl
 split
 ·omega
 ·rename_i h0
  have:=(Nat.log2_lt h0 (k:=32)).2 (by simpa using h)
  omega
def rbits (l:List UInt32):Nat:=if norm l=[] then 0 else 32 * ((norm l).length - 1)+bl ((norm l).getD ((norm l).length - 1) default).toNat
theorem quo32 {n:Nat}{Q:Int→Prop}(h:n≤4611686018427387904)(k:Q ((n / 32:Nat):Int)):∃r,r=IntKind.i64.wrap ((n:Int).tdiv 32)∧Q r:=
 ⟨_,wrapI (a:=((n / 32:Nat):Int)) (by omega) (by omega),k⟩
theorem quo31 {n:Nat}{Q:Int→Prop}(h:n≤4611686018427387904)(k:Q (((n+31) / 32:Nat):Int)):∃r,r=IntKind.i64.wrap (((n:Int)+31).tdiv 32)∧Q r:=
 ⟨_,wrapI (a:=(((n+31) / 32:Nat):Int)) (by omega) (by omega),k⟩
theorem rem32 {n:Nat}{Q:Int→Prop}(k:Q ((n % 32:Nat):Int)):∃r,r=(n:Int).tmod 32∧Q r:=⟨_,rfl,k⟩
theorem quo2 {n:Nat}{Q:Int→Prop}(h:n < 4294967296)(k:Q ((n / 2:Nat):Int)):∃r,r=IntKind.u32.wrap ((n:Int).tdiv 2)∧Q r:=by
 refine⟨_,?_,k⟩
 show _=IntKind.u32.wrap ((n / 2:Nat):Int)
 rw [wrap32 (Int.natCast_nonneg _),Int.toNat_natCast,UInt32.toNat_ofNat',Nat.mod_eq_of_lt (by omega)]
theorem shrN {a b:Nat}{Q:Int→Prop}(hb:b≤64)(k:Q ((a / 2 ^ b:Nat):Int)):∃r,r=((a:Nat):Int).fdiv (2 ^ (min ((b:Nat):Int).toNat IntKind.u64.bits))∧Q r:=by
 refine⟨_,?_,k⟩
 rw [Int.toNat_natCast,show IntKind.u64.bits=64 from rfl,Nat.min_eq_left hb,Int.fdiv_eq_ediv_of_nonneg _ (by exact_mod_cast Nat.zero_le _)]
 simp
theorem val_div_pow (l:List UInt32)(k:Nat):val l / 4294967296 ^ k=val (l.drop k):=by
 rw [val_split l k,Nat.mul_comm (4294967296 ^ k),Nat.add_mul_div_right _ _ (Nat.pow_pos (by decide))]
 have h1:=val_lt (l.take k)
 have h2:4294967296 ^ (l.take k).length≤4294967296 ^ k:=Nat.pow_le_pow_right (by decide) (by rw [List.length_take];omega)
 rw [Nat.div_eq_of_lt (by omega)];omega
theorem val_bit (l:List UInt32)(i:Nat):val l / 2 ^ i % 2=(l.getD (i / 32) 0).toNat / 2 ^ (i % 32) % 2:=by
 have e1:2 ^ i=4294967296 ^ (i / 32) * 2 ^ (i % 32):=by
  rw [show(4294967296:Nat)=2 ^ 32 by decide,← Nat.pow_mul,← Nat.pow_add,Nat.div_add_mod]
 rw [e1,← Nat.div_div_eq_div_mul,val_div_pow,val_drop_succ]
 have e2:(4294967296:Nat)=2 ^ (i % 32) * (2 * 2 ^ (31 - i % 32)):=by
  rw [← Nat.pow_succ',← Nat.pow_add,show i % 32+(31 - i % 32+1)=32 by omega]
 rw [show(l.getD (i / 32) 0).toNat+4294967296 * val (l.drop (i / 32+1))=(l.getD (i / 32) 0).toNat+2 ^ (i % 32) * (2 * (2 ^ (31 - i % 32) * val (l.drop (i / 32+1)))) by
  rw [show 4294967296 * val (l.drop (i / 32+1))=2 ^ (i % 32) * (2 * 2 ^ (31 - i % 32)) * val (l.drop (i / 32+1)) by rw [← e2],Nat.mul_assoc,Nat.mul_assoc]]
 rw [Nat.add_mul_div_left _ _ (Nat.pow_pos (by decide)),Nat.add_mul_mod_self_left]
theorem rBits_ok (l:List UInt32)(hl:l.length≤1099511627776):Ok Tryz.prog 155 [tn l] true (.con (.int .i64 (rbits l))):=by
 have hn:=norm_le l
 refine ok_of_ev hC0 mix Tryz.func155 rfl rfl (by kernel_rfl) (zO rfl) ?_
 repeat'(first|(with_reducible first|(refine zz ?_;try intro K hK)|refine zI ?_|refine zt ?_|refine zf ?_)|((first|refine hK _ ?_|refine hK _ _ rfl ?_);clear hK K)|(guard_hyp hK;first|(refine zY ?zz ?_;case zz=>first|exact rfl|exact gI)|refine fresh_n ?_|refine freshO_n ?_|(refine at_Q ?_;intro hu)|refine zP wA ?_|(refine mul_Q ?_;intro hm1 hm2)|refine zP at_M ?_|refine zP rfl ?_|(refine zQ (rNorm_ok l (by omega)) ?_)|intro b0 hb)|((first|with_reducible refine zm ?_|guard_hyp hK);refine zY ?_ ?_;all_goals(intro hb;(try simp only [sn,sb] at hb);try exact ex0)))
 ·have h0:norm l=[]:=List.eq_nil_of_length_eq_zero (by omega)
  exact And.intro trivial (fz_con (congrArg (fun n:Nat=>Value.int .i64 n) (by unfold rbits;rw [if_pos h0])))
 have h0:norm l≠[]:=fun h=>hb (by rw [h];rfl)
 obtain⟨m,hm⟩:∃m,norm l=m:=⟨_,rfl⟩
 have e1:((((m.map tu32).length:Int)) - 1).toNat=m.length - 1:=by rw [List.length_map];omega
 rw [hm] at h0 hb hu hn
 rw [e1] at hu
 have hp:0 < m.length:=List.length_pos_iff.2 h0
 refine loop_i (Nat×Nat) (fun(n,t)=>⟨Tryz.f155.ntmps,[(4,.con (.int .i64 n)),(5,.con (.int .u32 t))],[]⟩)
  (fun(n,t)=>t < 4294967296∧n≤32 * m.length+32∧n+bl t=rbits l∧n+bl t≤32 * m.length) (fun(n,t)=>t) [] (32 * (m.length - 1),(m.getD (m.length - 1) default).toNat) trivial ⟨hu,by omega,?_,?_⟩ ⟨rfl,⟨?_,trivial,?_,trivial,trivial⟩,trivial,trivial⟩ ?_
 ·unfold rbits;rw [hm,if_neg h0]
 ·have:=bl_le hu;omega
 ·show V.con (.int .i64 (32 * (((norm l).map tu32).length - 1:Int)))=_
  rw [hm,List.length_map]
  refine congrArg (fun n=>V.con (.int .i64 n)) (by omega)
 ·show V.con (.int .u32 (((norm l).getD ((((norm l).map tu32).length:Int) - 1).toNat default).toNat:Nat))=_
  rw [hm,e1]
 rintro⟨n,t⟩ ⟨g0,g1,g2,g3⟩
 repeat'(first|(refine quo2 (by omega) ?_)|(with_reducible first|(refine zz ?_;try intro K hK)|refine zI ?_|refine zt ?_|refine zf ?_)|((first|refine hK _ ?_|refine hK _ _ rfl ?_);clear hK K)|(guard_hyp hK;first|(refine zY ?zz ?_;case zz=>first|exact rfl|exact gI)|refine fresh_n ?_|refine freshO_n ?_|(refine at_Q ?_;intro hu)|refine zP wA ?_|(refine mul_Q ?_;intro hm1 hm2)|refine zP at_M ?_|refine zP rfl ?_|intro b0 hb)|((first|with_reducible refine zm ?_|guard_hyp hK);refine zY ?_ ?_;all_goals(intro hb;(try simp only [sn,sb] at hb);try exact ex0)))
 ·have hs:=bl_step (t:=t) (by omega)
  exact⟨(n+1,t / 2),⟨by omega,by omega,by omega,by omega⟩,by show t / 2 < t;omega,rfl,⟨rfl,trivial,rfl,trivial,trivial⟩,trivial,trivial⟩
 ·have ht:t=0:=by omega
  subst ht
  exact And.intro trivial (fz_con (congrArg (fun n:Nat=>Value.int .i64 n) (by rw [← g2];rfl)))
theorem rbits_lt (l:List UInt32):val l < 2 ^ rbits l:=by
 unfold rbits
 rw [← val_norm l]
 split
 ·rename_i h;rw [h];decide
 ·rename_i h
  obtain⟨m,hm⟩:∃m,norm l=m:=⟨_,rfl⟩
  rw [hm] at h ⊢
  have hp:0 < m.length:=List.length_pos_iff.2 h
  have h1:=val_split m (m.length - 1)
  have h2:=val_drop_step (l:=m) (i:=m.length - 1) (by omega)
  rw [show m.length - 1+1=m.length by omega,List.drop_length] at h2
  have h3:=val_lt (m.take (m.length - 1))
  rw [List.length_take,Nat.min_eq_left (by omega)] at h3
  have h4:=bl_lt (m.getD (m.length - 1) default).toNat
  have e:2 ^ (32 * (m.length - 1))=4294967296 ^ (m.length - 1):=by rw [Nat.pow_mul]
  have h6:val (m.drop (m.length - 1))=(m.getD (m.length - 1) default).toNat:=by rw [h2];rfl
  have h5:4294967296 ^ (m.length - 1) * ((m.getD (m.length - 1) default).toNat+1)≤4294967296 ^ (m.length - 1) * 2 ^ bl (m.getD (m.length - 1) default).toNat:=Nat.mul_le_mul_left _ h4
  rw [Nat.mul_add,Nat.mul_one] at h5
  rw [h6] at h1
  rw [Nat.pow_add,e,h1]
  omega
theorem rbits_le {l:List UInt32}:rbits l≤32 * l.length:=by
 have hn:=norm_le l
 unfold rbits
 split
 ·omega
 ·rename_i h
  have hp:0 < (norm l).length:=List.length_pos_iff.2 h
  have:=bl_le (UInt32.toNat_lt ((norm l).getD ((norm l).length - 1) default))
  omega
theorem rBit_ok (l:List UInt32)(i:Nat)(hi:i≤1099511627776):Ok Tryz.prog 156 [tn l,.con (.int .i64 i)] true (.con (.int .u32 (val l / 2 ^ i % 2:Nat))):=by
 refine ok_of_ev hC0 mix Tryz.func156 rfl rfl (by kernel_rfl) (zO rfl) ?_
 repeat'(first|(first|(refine quo32 (by omega) ?_)|(refine rem32 ?_)|(refine shrN (by omega) ?_))|(with_reducible first|(refine zz ?_;try intro K hK)|refine zI ?_|refine zt ?_|refine zf ?_)|((first|refine hK _ ?_|refine hK _ _ rfl ?_);clear hK K)|(guard_hyp hK;first|(refine zY ?zz ?_;case zz=>first|exact rfl|exact gI)|refine fresh_n ?_|refine freshO_n ?_|(refine at_Q ?_;intro hu)|refine zP wA ?_|(refine mul_Q ?_;intro hm1 hm2)|refine zP at_M ?_|refine zP rfl ?_|(refine zQ (rlimb_ok l ((i / 32:Nat):Int) (Int.natCast_nonneg _)) ?_)|intro b0 hb)|((first|with_reducible refine zm ?_|guard_hyp hK);refine zY ?_ ?_;all_goals(intro hb;(try simp only [sn,sb] at hb);try exact ex0)))
 refine And.intro trivial (fz_con (congrArg (Value.int .u32) ?_))
 have h1:=UInt32.toNat_lt (l.getD (i / 32) 0)
 have h2:(l.getD (i / 32) 0).toNat / 2 ^ (i % 32) < 4294967296:=Nat.lt_of_le_of_lt (Nat.div_le_self _ _) h1
 rw [val_bit]
 show(IntKind.u32.wrap (((l.getD (i / 32) 0).toNat / 2 ^ (i % 32):Nat):Int)).tmod ((2:Nat):Int)=_
 rw [wrap32 (Int.natCast_nonneg _),Int.toNat_natCast,UInt32.toNat_ofNat',Nat.mod_eq_of_lt h2,tmodn]
end Go.Ev
