import Derived.Test.YtppbdmkbhalmpaaGreatDoorLai
import Derived.Test.YtppbdmkbhalmpaaGreatDoorLag
set_option linter.all false
set_option maxHeartbeats 4000000
set_option maxRecDepth 10000
namespace Go.Ev
open Go.Proofs
theorem pow32 {s:Nat}(hs:s < 32):2 ^ s < 4294967296:=Nat.lt_of_lt_of_le (Nat.pow_lt_pow_right (by decide) hs) (by decide)
theorem shlA {x s:Nat}{Q:Int→Prop}(hs:s < 32)(k:Q ((x * 2 ^ s % 4294967296:Nat):Int)):∃r,r=IntKind.u32.wrap ((x:Int) * 2 ^ (min ((s:Nat):Int).toNat IntKind.u32.bits))∧Q r:=by
 refine⟨_,?_,k⟩
 have e:(x:Int) * 2 ^ (min ((s:Nat):Int).toNat IntKind.u32.bits)=((x * 2 ^ s:Nat):Int):=by
  rw [Int.toNat_natCast,show IntKind.u32.bits=32 from rfl,Nat.min_eq_left (by omega)];simp
 rw [e,wrap32 (Int.natCast_nonneg _),Int.toNat_natCast,UInt32.toNat_ofNat']
theorem shlB {x s:Nat}{Q:Int→Prop}(hs:s < 32)(hx:x < 4294967296)(k:Q ((x * 2 ^ s:Nat):Int)):∃r,r=IntKind.u64.wrap ((x:Int) * 2 ^ (min ((s:Nat):Int).toNat IntKind.u64.bits))∧Q r:=by
 refine⟨_,?_,k⟩
 have e:(x:Int) * 2 ^ (min ((s:Nat):Int).toNat IntKind.u64.bits)=((x * 2 ^ s:Nat):Int):=by
  rw [Int.toNat_natCast,show IntKind.u64.bits=64 from rfl,Nat.min_eq_left (by omega)];simp
 have h:x * 2 ^ s < 4294967296 * 4294967296:=Nat.mul_lt_mul_of_lt_of_lt hx (pow32 hs)
 rw [e]
 exact wrapU64 (Int.natCast_nonneg _) (by omega)
theorem shrC {a:Nat}{Q:Int→Prop}(k:Q ((a / 4294967296:Nat):Int)):∃r,r=((a:Nat):Int).fdiv (2 ^ (min (32:Int).toNat IntKind.u64.bits))∧Q r:=by
 refine⟨_,?_,k⟩
 show _=((a:Nat):Int).fdiv 4294967296
 rw [Int.fdiv_eq_ediv_of_nonneg _ (by decide)];rfl
theorem or_eq32 {c x s:Nat}(hs:s < 32)(hc:c < 2 ^ s)(hx:x < 4294967296):IntKind.u32.wrap (((BitVec.ofInt 32 ((c:Nat):Int) |||BitVec.ofInt 32 ((x * 2 ^ s % 4294967296:Nat):Int)).toNat:Nat):Int)=((c+x * 2 ^ s % 4294967296:Nat):Int)∧c+x * 2 ^ s % 4294967296 < 4294967296:=by
 have hp:=pow32 hs
 have e4:(4294967296:Nat)=2 ^ s * 2 ^ (32 - s):=by rw [← Nat.pow_add,show s+(32 - s)=32 by omega]
 obtain⟨m,hm⟩:∃m,x * 2 ^ s % 4294967296=m * 2 ^ s:=⟨x % 2 ^ (32 - s),by rw [e4,Nat.mul_comm x,Nat.mul_mod_mul_left,Nat.mul_comm]⟩
 have hml:m * 2 ^ s < 4294967296:=by rw [← hm];exact Nat.mod_lt _ (by decide)
 have hlt:c+m * 2 ^ s < 4294967296:=by
  have h1:m < 2 ^ (32 - s):=by
   rw [e4,Nat.mul_comm] at hml
   exact Nat.lt_of_mul_lt_mul_left hml
  have h2:(m+1) * 2 ^ s≤2 ^ (32 - s) * 2 ^ s:=Nat.mul_le_mul_right _ h1
  rw [Nat.mul_comm (2 ^ (32 - s)),← e4,Nat.add_mul,Nat.one_mul] at h2
  omega
 have e1:BitVec.ofInt 32 ((c:Nat):Int)=BitVec.ofNat 32 c:=BitVec.ofInt_natCast ..
 have e2:BitVec.ofInt 32 ((m * 2 ^ s:Nat):Int)=BitVec.ofNat 32 (m * 2 ^ s):=BitVec.ofInt_natCast ..
 have e3:c |||m * 2 ^ s=c+m * 2 ^ s:=by
  have:=Nat.shiftLeft_add_eq_or_of_lt (b:=c) (i:=s) hc m
  rw [Nat.shiftLeft_eq] at this
  rw [Nat.or_comm,← this,Nat.add_comm]
 rw [hm]
 refine⟨?_,hlt⟩
 rw [e1,e2,BitVec.toNat_or,BitVec.toNat_ofNat,BitVec.toNat_ofNat,Nat.mod_eq_of_lt (by omega),Nat.mod_eq_of_lt (by omega),e3,wrap32 (Int.natCast_nonneg _),Int.toNat_natCast,UInt32.toNat_ofNat',Nat.mod_eq_of_lt hlt]
theorem val_take_one {l:List UInt32}{k:Nat}(h:k < l.length):val (l.take (k+1))=val (l.take k)+(l.getD k default).toNat * 4294967296 ^ k:=val_take_succ l k h
theorem at_setq {L:List UInt32}{i j:Nat}{v:V}{Q:V→Prop}(h:j < L.length)(hne:i≠j)(k:Q (cu (L.getD j default))):∃e,((L.map cu).set i v)[j]?=some e∧Q e:=by
 refine⟨_,?_,k⟩
 rw [List.getElem?_set_ne hne,List.getElem?_map,List.getElem?_eq_getElem h]
 simp [List.getD,h]
theorem set_two {q:List UInt32}{c a b:UInt32}{n:Nat}(hn:0 < n):(((q ++ c :: List.replicate n 0).set q.length a).set (q.length+1) b)=(q ++ [a]) ++ b :: List.replicate (n - 1) 0:=by
 obtain⟨m,rfl⟩:∃m,n=m+1:=⟨n - 1,by omega⟩
 rw [List.set_append_right _ _ (Nat.le_refl _),Nat.sub_self,List.set_cons_zero,List.set_append_right _ _ (by omega),show q.length+1 - q.length=1 by omega,List.set_cons_succ,List.replicate_succ,List.set_cons_zero,List.append_assoc]
 rfl
theorem left_okO (l:List UInt32)(s:Nat)(hs:s < 32)(hl:l.length≤10737418240):OkO Tryz.prog 106 [tn l,.con (.int .i64 s)] [(0,⟨1,(padL (l.length+1) (val l * 2 ^ s)).map cu,0,true⟩)] (.own 0 0 0 (l.length+1)):=by
 refine oko_of_ev hC0 mix Tryz.func106 rfl rfl (by kernel_rfl) (zO rfl) ?_
 repeat'(first|(with_reducible first|(refine zz ?_;try intro K hK)|refine zI ?_|refine zt ?_|refine zf ?_)|((first|refine hK _ ?_|refine hK _ _ rfl ?_);clear hK K)|(guard_hyp hK;first|(refine zY ?zz ?_;case zz=>first|exact rfl|exact gI)|refine fresh_n ?_|refine freshO_n ?_|(refine at_Q ?_;intro hu)|refine zP wA ?_|(refine mul_Q ?_;intro hm1 hm2)|refine zP at_M ?_|refine zP rfl ?_|intro b0 hb)|((first|with_reducible refine zm ?_|guard_hyp hK);refine zY ?_ ?_;all_goals(intro hb;(try simp only [sn,sb] at hb);try exact ex0)))
 refine loop_i (List UInt32×Nat) (fun(q,c)=>⟨Tryz.f106.ntmps,[(1,.con (.int .i64 s)),(5,.own 0 0 0 (l.length+1)),(12,.ro false (tn l)),(13,.con (.int .i64 l.length)),(14,.con (.int .i64 (q.length:Nat)))],[(0,⟨1,(q ++ UInt32.ofNat c :: List.replicate (l.length - q.length) 0).map cu,0,true⟩)]⟩)
  (fun(q,c)=>q.length≤l.length∧c < 2 ^ s∧val q+4294967296 ^ q.length * c=val (l.take q.length) * 2 ^ s) (fun(q,c)=>l.length - q.length) [] ([],0) trivial ⟨by simp,Nat.pow_pos (by decide),by simp [val]⟩ ⟨rfl,⟨rfl,trivial,?_,rfl,rfl,trivial,?_,trivial,rfl,trivial,trivial⟩,⟨?_,trivial⟩,clObjs_cu _ _⟩ ?_
 ·show V.own _ _ _ _=_
  simp only [List.length_map]
  rfl
 ·show V.con (.int .i64 ((l.map tu32).length:Nat))=_;rw [List.length_map]
 ·show some _=some _
  congr 1
  congr 1
  simp only [List.length_map]
  show List.replicate ((l.length:Int)+1).toNat (V.con (.int .u32 0))=_
  rw [show((l.length:Int)+1).toNat=l.length+1 by omega,List.replicate_succ]
  show _=cu 0 :: (List.replicate (l.length - 0) 0).map cu
  rw [Nat.sub_zero,List.map_replicate];rfl
 rintro⟨q,c⟩ ⟨h1,h2,h3⟩
 repeat'(first|(first|(refine shlA hs ?_)|(refine shlB hs (UInt32.toNat_lt _) ?_)|(refine shrC ?_)|(refine at_setq (by simp;omega) (by omega) ?_))|(with_reducible first|(refine zz ?_;try intro K hK)|refine zI ?_|refine zt ?_|refine zf ?_)|((first|refine hK _ ?_|refine hK _ _ rfl ?_);clear hK K)|(guard_hyp hK;first|(refine zY ?zz ?_;case zz=>first|exact rfl|exact gI)|refine fresh_n ?_|refine freshO_n ?_|(refine at_Q ?_;intro hu)|refine zP wA ?_|(refine mul_Q ?_;intro hm1 hm2)|refine zP at_M ?_|refine zP rfl ?_|intro b0 hb)|((first|with_reducible refine zm ?_|guard_hyp hK);refine zY ?_ ?_;all_goals(intro hb;(try simp only [sn,sb] at hb);try exact ex0)))
 ·obtain⟨x,hx⟩:∃x,(l.getD q.length default).toNat=x:=⟨_,rfl⟩
  have hxb:x < 4294967296:=by rw [← hx];exact UInt32.toNat_lt _
  have hk:q.length < l.length:=by omega
  obtain⟨ho1,ho2⟩:=or_eq32 hs h2 hxb
  have hp:=pow32 hs
  have hcb:c < 4294967296:=Nat.lt_trans h2 hp
  have hc2:x * 2 ^ s / 4294967296 < 2 ^ s:=by
   rw [Nat.div_lt_iff_lt_mul (by decide),Nat.mul_comm]
   exact Nat.mul_lt_mul_of_pos_left hxb (Nat.pow_pos (by decide))
  have el:(q ++ [UInt32.ofNat (c+x * 2 ^ s % 4294967296)]).length=q.length+1:=by simp
  have hgc:(((q ++ UInt32.ofNat c :: List.replicate (l.length - q.length) 0).getD (0+q.length) default).toNat:Int)=((c:Nat):Int):=by
   rw [Nat.zero_add,List.getD,List.getElem?_append_right (Nat.le_refl _),Nat.sub_self]
   show((UInt32.ofNat c).toNat:Int)=_
   rw [UInt32.toNat_ofNat',Nat.mod_eq_of_lt hcb]
  refine⟨(q ++ [UInt32.ofNat (c+x * 2 ^ s % 4294967296)],x * 2 ^ s / 4294967296),⟨by rw [el];omega,hc2,?ga⟩,by show l.length - (q ++ [_]).length < l.length - q.length;rw [List.length_append];show _ - (_+1) < _;omega,rfl,⟨rfl,trivial,rfl,rfl,rfl,trivial,rfl,trivial,?gc,trivial,trivial⟩,⟨?gd,trivial⟩,clObjs_cu _ _⟩
  case ga=>
   rw [el,val_take_one hk,hx,Nat.add_mul,← h3,val_append]
   have e1:val [UInt32.ofNat (c+x * 2 ^ s % 4294967296)]=c+x * 2 ^ s % 4294967296:=by
    show(UInt32.ofNat _).toNat+4294967296 * val []=_
    rw [UInt32.toNat_ofNat',Nat.mod_eq_of_lt ho2];rfl
   have e2:=Nat.div_add_mod (x * 2 ^ s) 4294967296
   rw [e1,Nat.pow_succ]
   generalize 4294967296 ^ q.length=w at *
   generalize x * 2 ^ s / 4294967296=hi at *
   generalize x * 2 ^ s % 4294967296=lo at *
   have e3:x * w * 2 ^ s=w * (x * 2 ^ s):=by ac_rfl
   rw [e3,← e2,Nat.mul_add,Nat.mul_add,Nat.mul_assoc w 4294967296 hi]
   omega
  case gc=>
   show V.con (.int .i64 ((q.length:Int)+1))=V.con (.int .i64 (((q ++ [UInt32.ofNat (c+x * 2 ^ s % 4294967296)]).length:Nat):Int))
   rw [el];rfl
  case gd=>
   refine congrArg (fun l=>some (Obj.mk 1 l 0 true)) (?_:(((q ++ UInt32.ofNat c :: List.replicate (l.length - q.length) 0).map cu).set (0+q.length) (V.con (.int .u32 (IntKind.u32.wrap (((BitVec.ofInt 32 (((q ++ UInt32.ofNat c :: List.replicate (l.length - q.length) 0).getD (0+q.length) default).toNat:Int) |||BitVec.ofInt 32 (((l.getD q.length default).toNat * 2 ^ s % 4294967296:Nat):Int)).toNat:Nat):Int))))).set (0+(q.length+1)) (V.con (.int .u32 (IntKind.u32.wrap (((l.getD q.length default).toNat * 2 ^ s / 4294967296:Nat):Int))))=_)
   rw [hgc,hx,ho1,Nat.zero_add,Nat.zero_add,wrap32 (Int.natCast_nonneg _),Int.toNat_natCast]
   have e9:(c+x * 2 ^ s % 4294967296)=(UInt32.ofNat (c+x * 2 ^ s % 4294967296)).toNat:=by rw [UInt32.toNat_ofNat',Nat.mod_eq_of_lt ho2]
   rw [show((c+x * 2 ^ s % 4294967296:Nat):Int)=(((UInt32.ofNat (c+x * 2 ^ s % 4294967296)).toNat:Nat):Int) from congrArg _ e9,set_cu2,set_cu2,set_two (by omega),el,show l.length - q.length - 1=l.length - (q.length+1) by omega]
 ·have hql:q.length=l.length:=by omega
  rw [hql,List.take_length] at h3
  have hp:=pow32 hs
  have hcb:c < 4294967296:=Nat.lt_trans h2 hp
  have hv:val (q ++ [UInt32.ofNat c])=val l * 2 ^ s:=by
   rw [val_append,hql,← h3]
   show val q+4294967296 ^ l.length * ((UInt32.ofNat c).toNat+4294967296 * val [])=_
   rw [UInt32.toNat_ofNat',Nat.mod_eq_of_lt hcb];rfl
  have hp2:padL (l.length+1) (val l * 2 ^ s)=q ++ [UInt32.ofNat c]:=by
   have:=padL_val (q ++ [UInt32.ofNat c])
   rwa [List.length_append,hql,hv] at this
  rw [hp2]
  have e9:q ++ UInt32.ofNat c :: List.replicate (l.length - q.length) 0=q ++ [UInt32.ofNat c]:=by rw [hql,Nat.sub_self];rfl
  have e8:=congrArg (fun L=>some (Obj.mk 1 (List.map cu L) 0 true)) e9
  refine⟨trivial,false,_,fun _=>0,rfl,ren_one (id:=0) (ver:=0) e8 (fun e he=>?_),RenC.own 0 0 0 (l.length+1) _ e8 rfl rfl⟩
  ·obtain⟨x,-,rfl⟩:=List.mem_map.1 he
   exact⟨_,rfl⟩
theorem left_ok (l:List UInt32)(s:Nat)(hs:s < 32)(hl:l.length≤10737418240):Ok Tryz.prog 106 [tn l,.con (.int .i64 s)] false (tn (padL (l.length+1) (val l * 2 ^ s))):=by
 refine ok_of_oko (left_okO l s hs hl) (fz_own (l:=padL (l.length+1) (val l * 2 ^ s)) (F:=cu) (G:=tu32) rfl rfl rfl ?_ ?_ (fun a _=>fze_con _) rfl)
 ·rw [padL_len]
 ·rw [List.drop_zero,List.take_of_length_le (by rw [List.length_map,padL_len];exact Nat.le_refl _)]
theorem wfG_cu (l:List UInt32):∀i o,oget [(0,(⟨1,l.map cu,0,true⟩:Obj))] i=some o→o.ver=0∧o.live=true∧∀v ∈ o.el,v.cl [(0,(⟨1,l.map cu,0,true⟩:Obj))]:=by
 intro i o h
 obtain⟨rfl,rfl⟩:=oget_one h
 refine⟨rfl,rfl,fun v hv=>?_⟩
 obtain⟨x,-,rfl⟩:=List.mem_map.1 hv
 trivial
theorem vsG_cu (l:List UInt32)(n:Nat):∀v ∈ [V.own 0 0 0 n],v.cl [(0,(⟨1,l.map cu,0,true⟩:Obj))]:=by
 intro v hv
 obtain rfl:=List.mem_singleton.1 hv
 exact rfl
theorem objs_cu {C:CT}{q:FuncId}{ts:List T}{oh:OH}{l:List UInt32}{off len:Nat}{k:Acc→Prop}(hc:C q ts (.objs [(0,⟨1,l.map cu,0,true⟩)] (.own 0 0 off len)))
  (h:fresh oh fun c=>k ⟨[],[c],[(c,⟨1,l.map cu,0,true⟩)],.own c 0 off len⟩):ObjK C q ts oh k:=by
 obtain⟨c,h0,hk⟩:=h
 refine⟨_,_,hc,c,fun i hi=>?_,?_⟩
 ·obtain rfl:i=0+c:=by simpa [shO] using hi
  rw [Nat.zero_add];exact h0
 ·have e1:(l.map cu).map (V.shA c)=l.map cu:=by rw [List.map_map];rfl
  show k ⟨[],[0+c],[(0+c,⟨1,(l.map cu).map (V.shA c),0,true⟩)],.own (0+c) 0 off len⟩
  rw [e1,Nat.zero_add];exact hk
theorem lendo_cu {C:CT}{q:FuncId}{ts:List T}{args:List V}{oh:OH}{l:List UInt32}{off len:Nat}{o:Obj}{k:Acc→Prop}(hc:C q ts (.objs [(0,⟨1,l.map cu,0,true⟩)] (.own 0 0 off len)))(id:Nat)
  (ho:oget oh id=some o) (hz:FzL [(id,o)] args ts) (h:fresh oh fun c=>k ⟨[(id,o)],[c],[(c,⟨1,l.map cu,0,true⟩)],.own c 0 off len⟩):LendK C q args oh k:=by
 obtain⟨c,h0,hk⟩:=h
 refine⟨ts,_,_,[(id,o)],hc,lpre1 ho,hz,rfl,fun p hp e he=>?_,c,fun i hi=>?_,?_⟩
 ·rw [List.mem_singleton.1 hp] at he
  obtain⟨x,-,rfl⟩:=List.mem_map.1 he
  rfl
 ·obtain rfl:i=0+c:=by simpa [shO] using hi
  rw [Nat.zero_add];exact h0
 ·have e1:(l.map cu).map (V.shA c)=l.map cu:=by rw [List.map_map];rfl
  show k ⟨[(id,o)],[0+c],[(0+c,⟨1,(l.map cu).map (V.shA c),0,true⟩)],.own (0+c) 0 off len⟩
  rw [e1,Nat.zero_add];exact hk
theorem fzo_cu {oh:OH}{id ver len:Nat}{l:List UInt32}(ho:oget oh id=some ⟨1,l.map cu,ver,true⟩)(hl:l.length=len):FzA oh false (.own id ver 0 len) (tn l):=by
 refine fz_own (l:=l) (F:=cu) (G:=tu32) ho rfl rfl hl ?_ (fun a _=>fze_con _) rfl
 show List.take _ (List.drop 0 (l.map cu))=_
 rw [List.drop_zero,List.take_of_length_le (by rw [List.length_map];omega)]
theorem arC_own {m vo:Nat→Nat}(i:Nat){off len off' len':Nat}(h1:off'=off)(h2:len'=len):ArC m vo (.own (m i) (vo i) off' len') (.own i 0 off len):=by
 subst h1 h2;exact ArC.own i _ _
theorem rnO_cu (m vo:Nat→Nat){i ver:Nat}(l:List UInt32):rnO m vo [(i,⟨1,l.map cu,ver,true⟩)]=[(m i,⟨1,l.map cu,vo i+ver,true⟩)]:=by
 have e:(l.map cu).map (V.rnA m vo)=l.map cu:=rn_map (fun _=>rfl) l
 show [(m i,(⟨1,(l.map cu).map (V.rnA m vo),vo i+ver,true⟩:Obj))]=_
 rw [e]
theorem nopin_cu {A:List UInt32}{B:List V}{C:Nat→Obj→Prop}:∀i o o',oget [(0,(⟨1,A.map cu,0,true⟩:Obj))] i=some o→oget ([(0,(⟨1,B,1,true⟩:Obj))] ++ [(0,(⟨1,A.map cu,0,true⟩:Obj))]) i=some o'→o'.ver=0→C i o:=by
 intro i o o' h1 h2 h3
 obtain⟨rfl,rfl⟩:=oget_one h1
 rw [List.cons_append,oget_cons_same] at h2
 obtain rfl:(⟨1,B,1,true⟩:Obj)=o':=by simpa using h2
 exact absurd (show(1:Nat)=0 from h3) (by decide)
theorem bm_cu {oh:OH}{a b:Obj}{l:List UInt32}{ver ver1:Nat}(ho:oget oh 0=some ⟨1,l.map cu,ver,true⟩)(hb:b=⟨1,l.map cu,ver1,true⟩):Bm oh ([(0,b)] ++ [(0,a)]):=by
 refine bm_scal fun i o1 h=>?_
 by_cases e:i=0
 ·subst e
  rw [List.cons_append,oget_cons_same] at h
  obtain rfl:b=o1:=by simpa using h
  subst hb
  refine⟨rfl,⟨ver,ho⟩,fun e he=>?_⟩
  obtain⟨x,-,rfl⟩:=List.mem_map.1 he
  exact⟨_,rfl⟩
 ·rw [List.cons_append,oget_cons_other _ _ e,List.nil_append,oget_cons_other _ _ e] at h
  cases h
theorem trim_g (l:List UInt32)(hl:l.length≤140737488355328):OkG Tryz.prog 66 [(0,⟨1,l.map cu,0,true⟩)] [] [.own 0 0 0 l.length] [(0,⟨1,l.map cu,1,true⟩)] (.own 0 1 0 (norm l).length):=by
 refine okg_of_ev hC0 mix 0 (zO rfl) Tryz.func66 rfl rfl (by kernel_rfl) (by kernel_rfl) (zO rfl) ?wf ?vs ?po ?le ?_
 case wf=>exact wfG_cu l
 case vs=>exact vsG_cu l _
 case po=>intro i o h;obtain⟨rfl,rfl⟩:=oget_one h;exact .inl rfl
 case le=>intro i o o' h1 h2;obtain⟨rfl,rfl⟩:=oget_one h1;intro h3;simp [oget] at h2;subst h2;exact absurd (show(1:Nat)=0 from h3) (by decide)
 repeat'(first|(with_reducible first|(refine zz ?_;try intro K hK)|refine zI ?_|refine zt ?_|refine zf ?_)|((first|refine hK _ ?_|refine hK _ _ rfl ?_);clear hK K)|(guard_hyp hK;first|(refine zY ?zz ?_;case zz=>first|exact rfl|exact gI)|refine fresh_n ?_|refine freshO_n ?_|(refine at_Q ?_;intro hu)|refine zP wA ?_|(refine mul_Q ?_;intro hm1 hm2)|refine zP at_M ?_|refine zP rfl ?_|intro b0 hb)|((first|with_reducible refine zm ?_|guard_hyp hK);refine zY ?_ ?_;all_goals(intro hb;(try simp only [sn,sb] at hb);try exact ex0)))
 refine loop_i (List UInt32) (fun l'=>⟨21,[(0,.own 0 0 0 l'.length)],[(0,⟨1,l.map cu,0,true⟩)]⟩) (fun l'=>norm l'=norm l∧l'.length≤l.length∧l'=l.take l'.length) (fun l'=>l'.length) [] l trivial ⟨rfl,Nat.le_refl _,(List.take_length).symm⟩ ⟨rfl,⟨rfl,rfl,trivial⟩,⟨rfl,trivial⟩,clObjs_cu _ _⟩ ?_
 rintro l' ⟨hl',hle,htk⟩
 repeat'(first|(with_reducible first|(refine zz ?_;try intro K hK)|refine zI ?_|refine zt ?_|refine zf ?_)|((first|refine hK _ ?_|refine hK _ _ rfl ?_);clear hK K)|(guard_hyp hK;first|(refine zY ?zz ?_;case zz=>first|exact rfl|exact gI)|refine fresh_n ?_|refine freshO_n ?_|(refine at_Q ?_;intro hu)|refine zP wA ?_|(refine mul_Q ?_;intro hm1 hm2)|refine zP at_M ?_|refine zP rfl ?_|intro b0 hb)|((first|with_reducible refine zm ?_|guard_hyp hK);refine zY ?_ ?_;all_goals(intro hb;(try simp only [sn,sb] at hb);try exact ex0)))
 ·have e:(↑l'.length - 1:Int).toNat=l'.length - 1:=by omega
  have e2:(l'.take (l'.length - 1)).length=l'.length - 1:=by rw [List.length_take];omega
  have e3:(l.getD (0+(l'.length - 1)) default)=l'.getD (l'.length - 1) default:=by
   rw [Nat.zero_add,List.getD,List.getD,htk,List.getElem?_take,List.length_take,if_pos (by omega)]
  rw [e,e3] at hb
  have hb:=norm_drop (UInt32.toNat_inj.mp (Int.ofNat.inj hb))
  refine⟨l'.take (l'.length - 1),⟨hb.trans hl',by rw [e2];omega,?_⟩,by rw [e2];omega,rfl,⟨?_,rfl,trivial⟩,⟨rfl,trivial⟩,clObjs_cu _ _⟩
  ·rw [e2]
   have e5:∀n,n≤l'.length→l'.take n=l.take n:=by
    intro n hn
    obtain⟨k,hk⟩:∃k,l'.length=k:=⟨_,rfl⟩
    rw [hk] at htk hn
    rw [htk,List.take_take,Nat.min_eq_left hn]
   exact e5 _ (by omega)
  ·show V.own 0 0 (0+Int.toNat 0) ((l'.length:Int) - 1 - 0).toNat=_
   rw [e2,Int.sub_zero,e];rfl
 ·have e:(↑l'.length - 1:Int).toNat=l'.length - 1:=by omega
  have e3:(l.getD (0+(l'.length - 1)) default)=l'.getD (l'.length - 1) default:=by
   rw [Nat.zero_add,List.getD,List.getD,htk,List.getElem?_take,List.length_take,if_pos (by omega)]
  rw [e,e3] at hb
  rw [← hl',norm_last fun h=>hb (congrArg (fun x:UInt32=>Int.ofNat x.toNat) h)]
  exact⟨trivial,false,_,rfl,nopin_cu,bm_cu rfl rfl,BmC.own 0 0 1 0 _ _ _ rfl rfl rfl rfl⟩
 ·have:l'=[]:=List.eq_nil_of_length_eq_zero (by omega)
  subst this;rw [← hl']
  exact⟨trivial,false,_,rfl,nopin_cu,bm_cu rfl rfl,BmC.own 0 0 1 0 _ _ _ rfl rfl rfl rfl⟩
theorem clone_okO (l:List UInt32)(hl:l.length≤2199023255552)(h0:0 < l.length):OkO Tryz.prog 67 [tn l] [(0,⟨1,l.map cu,0,true⟩)] (.own 0 0 0 l.length):=by
 refine oko_of_ev hC0 mix Tryz.func67 rfl rfl (by kernel_rfl) (zO rfl) ?_
 repeat'(first|(with_reducible first|(refine zz ?_;try intro K hK)|refine zI ?_|refine zt ?_|refine zf ?_)|((first|refine hK _ ?_|refine hK _ _ rfl ?_);clear hK K)|(guard_hyp hK;first|(refine zY ?zz ?_;case zz=>first|exact rfl|exact gI)|refine fresh_n ?_|refine freshO_n ?_|(refine at_Q ?_;intro hu)|refine zP wA ?_|(refine mul_Q ?_;intro hm1 hm2)|refine zP at_M ?_|refine zP rfl ?_|intro b0 hb)|((first|with_reducible refine zm ?_|guard_hyp hK);refine zY ?_ ?_;all_goals(intro hb;(try simp only [sn,sb] at hb);try exact ex0)))
 ·rename_i h
  have h1:=congrArg List.length (h hb)
  rw [List.length_map,List.length_nil] at h1
  omega
 ·have e9:List.take 0 [] ++ List.map (V.ofA false) (List.map tu32 l)=l.map cu:=by
   rw [List.take_nil,List.nil_append,List.map_map];rfl
  have e8:=congrArg (fun L=>some (Obj.mk 1 L 1 true)) e9
  have e7:0+(List.map (V.ofA false) (List.map tu32 l)).length=l.length:=by rw [Nat.zero_add,List.length_map,List.length_map]
  refine⟨trivial,false,_,fun _=>0,rfl,ren_one (id:=0) (ver:=1) e8 (fun e he=>?_),?_⟩
  ·obtain⟨x,-,rfl⟩:=List.mem_map.1 he
   exact⟨_,rfl⟩
  ·rw [← e7]
   exact RenC.own 0 1 0 _ _ e8 rfl rfl
theorem at_mid {y x:List UInt32}{k:Nat}(hy:y.length=k)(hk:k < x.length):((y ++ x.drop k).map cu)[0+k]?=some (cu (x.getD k default)):=by
 rw [Nat.zero_add,List.getElem?_map,List.getElem?_append_right (by omega),hy,Nat.sub_self,List.getElem?_drop,Nat.add_zero,List.getElem?_eq_getElem hk]
 simp [List.getD,hk]
theorem set_mid9 {y x:List UInt32}{k:Nat}{c:UInt32}(hy:y.length=k)(hk:k < x.length):((y ++ x.drop k).map cu).set (0+k) (cu c)=((y ++ [c]) ++ x.drop (k+1)).map cu:=by
 have hdr:x.drop k=x[k] :: x.drop (k+1):=List.drop_eq_getElem_cons hk
 have e:(x.drop k).map cu=cu x[k] :: (x.drop (k+1)).map cu:=by rw [hdr];rfl
 rw [Nat.zero_add,List.map_append,e,List.set_append_right (h:=by rw [List.length_map];omega),List.length_map,hy,Nat.sub_self,List.set_cons_zero,List.map_append,List.map_append,List.append_assoc];rfl
theorem shrN9 {a:Int}{n:Nat}{Q:Int→Prop}(h:a=n)(k:Q ((n / 4294967296:Nat):Int)):∃r,r=a.fdiv (2 ^ (min (32:Int).toNat IntKind.u64.bits))∧Q r:=by
 subst h
 exact shrC k
def stN (N:Nat)(s:ByteArray)(z:Nat×List UInt32×Nat):St:=⟨N,[(0,.con (.string s)),(4,.own 0 z.2.2 0 z.2.1.length),(13,.con (.int .i64 s.size)),(14,.con (.int .i64 z.1))],[(0,⟨1,z.2.1.map cu,z.2.2,true⟩)]⟩
def stNi (N:Nat)(s:ByteArray)(i v:Nat)(x:List UInt32)(z:Nat×Nat×List UInt32):St:=⟨N,[(0,.con (.string s)),(4,.own 0 v 0 x.length),(13,.con (.int .i64 s.size)),(14,.con (.int .i64 i)),(7,.con (.int .u64 z.2.1)),(29,.own 0 v 0 x.length),(30,.con (.int .i64 x.length)),(31,.con (.int .i64 z.1))],[(0,⟨1,(z.2.2 ++ x.drop z.1).map cu,v,true⟩)]⟩
theorem nParse_ok (s:ByteArray)(hs:s.size≤1073741824):Ok Tryz.prog 41 [tS9 s] true (tP (natP s)):=by
 refine ok_of_ev hC0 mix Tryz.func41 rfl rfl (by kernel_rfl) (zO rfl) ?_
 by_cases h0:s.size=0
 ·have hn:natP s=none:=if_neg fun h=>h.1 h0
  rw [hn]
  have he:s=.empty:=ByteArray.ext (by have:s.data.size=0:=h0;exact Array.eq_empty_of_size_eq_zero this)
  subst he
  repeat'(first|(with_reducible first|(refine zz ?_;try intro K hK)|refine zI ?_|refine zt ?_|refine zf ?_)|((first|refine hK _ ?_|refine hK _ _ rfl ?_);clear hK K)|(guard_hyp hK;first|(refine zY ?zz ?_;case zz=>first|exact rfl|exact gJ)|refine fresh_n ?_|refine freshO_n ?_|(refine at_Q ?_;intro hu)|refine zP wA ?_|(refine mul_Q ?_;intro hm1 hm2)|refine zP at_M ?_|refine zP rfl ?_|intro b0 hb)|((first|with_reducible refine zm ?_|guard_hyp hK);refine zY ?_ ?_;all_goals(intro hb;(try simp only [sn,sb] at hb);try exact ex0)))
  all_goals exact⟨trivial,_,_,rfl,fz_emp rfl,fz_con rfl⟩
 ·repeat'(first|(with_reducible first|(refine zz ?_;try intro K hK)|refine zI ?_|refine zt ?_|refine zf ?_)|((first|refine hK _ ?_|refine hK _ _ rfl ?_);clear hK K)|(guard_hyp hK;first|(refine zY ?zz ?_;case zz=>first|exact rfl|exact gJ)|refine fresh_n ?_|refine freshO_n ?_|(refine at_Q ?_;intro hu)|refine zP wA ?_|(refine mul_Q ?_;intro hm1 hm2)|refine zP at_M ?_|refine zP rfl ?_|intro b0 hb)|((first|with_reducible refine zm ?_|guard_hyp hK);refine zY ?_ ?_;all_goals(intro hb;(try simp only [sn,sb] at hb);try exact ex0)))
  ·exact absurd (congrArg ByteArray.size (bq_inj hb)) h0
  refine loop_i (Nat×List UInt32×Nat) (stN Tryz.f41.ntmps s) (fun z=>z.1≤s.size∧val z.2.1=decV ((bs s).take z.1)∧z.2.1.length≤z.1∧∀j,j < z.1→isDig (chr s j)=true) (fun z=>s.size - z.1) [(4,0,1)] (0,[],0) ⟨rfl,rfl,trivial⟩ ⟨Nat.zero_le _,rfl,Nat.le_refl _,fun j hj=>absurd hj (Nat.not_lt_zero _)⟩ ⟨rfl,⟨rfl,trivial,rfl,rfl,rfl,trivial,rfl,trivial,trivial⟩,⟨rfl,trivial⟩,⟨cu_cl9 _ _,trivial⟩⟩ ?_
  rintro⟨i,x,v⟩ ⟨h1,h2,h3,h4⟩
  dsimp only at h1 h2 h3 h4
  unfold stN
  dsimp only
  by_cases hlt:i < s.size
  ·cases hd:isDig (chr s i) with
   |false=>
    rw [natP_no hlt hd]
    unfold isDig at hd
    simp only [Bool.and_eq_false_iff,decide_eq_false_iff_not] at hd
    repeat'(first|(refine at_s ?_;intro hu)|(with_reducible first|(refine zz ?_;try intro K hK)|refine zI ?_|refine zt ?_|refine zf ?_)|((first|refine hK _ ?_|refine hK _ _ rfl ?_);clear hK K)|(guard_hyp hK;first|(refine zY ?zz ?_;case zz=>first|exact rfl|exact gJ)|refine fresh_n ?_|refine freshO_n ?_|(refine at_Q ?_;intro hu)|refine zP wA ?_|(refine mul_Q ?_;intro hm1 hm2)|refine zP at_M ?_|refine zP rfl ?_|intro b0 hb)|((first|with_reducible refine zm ?_|guard_hyp hK);refine zY ?_ ?_;all_goals(intro hb;(try simp only [sn,sb] at hb);try exact ex0)))
    all_goals first|exact⟨trivial,_,_,rfl,fz_emp rfl,fz_con rfl⟩|(exfalso;omega)
   |true=>
    have hd2:=hd
    unfold isDig at hd
    simp only [Bool.and_eq_true,decide_eq_true_eq] at hd
    have hv:=decV_take hlt
    repeat'(first|(refine at_s ?_;intro hu)|(with_reducible first|(refine zz ?_;try intro K hK)|refine zI ?_|refine zt ?_|refine zf ?_)|((first|refine hK _ ?_|refine hK _ _ rfl ?_);clear hK K)|(guard_hyp hK;first|(refine zY ?zz ?_;case zz=>first|exact rfl|exact gJ)|refine fresh_n ?_|refine freshO_n ?_|(refine at_Q ?_;intro hu)|refine zP wA ?_|(refine mul_Q ?_;intro hm1 hm2)|refine zP at_M ?_|refine zP rfl ?_|intro b0 hb)|((first|with_reducible refine zm ?_|guard_hyp hK);refine zY ?_ ?_;all_goals(intro hb;(try simp only [sn,sb] at hb);try exact ex0)))
    refine loop_i (Nat×Nat×List UInt32) (stNi Tryz.f41.ntmps s i v x) (fun z=>z.1≤x.length∧z.2.1 < 4294967296∧z.2.2.length=z.1∧z.2.2 ++ m10 (x.drop z.1) z.2.1=m10 x ((chr s i).toNat - 48)) (fun z=>x.length - z.1) [] (0,(chr s i).toNat - 48,[]) trivial ⟨Nat.zero_le _,by dsimp only;omega,rfl,rfl⟩ ⟨rfl,⟨rfl,trivial,rfl,rfl,rfl,trivial,rfl,trivial,?_,trivial,rfl,rfl,rfl,trivial,rfl,trivial,trivial⟩,⟨rfl,trivial⟩,⟨cu_cl9 _ _,trivial⟩⟩ ?_
    ·show V.con (.int .u64 (((chr s i).toNat:Int) - 48))=V.con (.int .u64 (((chr s i).toNat - 48:Nat):Int))
     rw [show(((chr s i).toNat - 48:Nat):Int)=((chr s i).toNat:Int) - 48 by omega]
    rintro⟨k,c,y⟩ ⟨g1,g2,g3,g4⟩
    dsimp only at g1 g2 g3 g4
    unfold stNi
    dsimp only
    by_cases hk:k < x.length
    ·have hdr:x.drop k=x.getD k default :: x.drop (k+1):=by
      rw [List.drop_eq_getElem_cons hk];simp [List.getD,hk]
     have hxk:=UInt32.toNat_lt (x.getD k default)
     have hat:=at_mid g3 hk
     rw [hdr,m10] at g4
     have hS:((c:Int)+10 * ((x.getD k default).toNat:Int))=((c+10 * (x.getD k default).toNat:Nat):Int):=by omega
     have hw:V.con (.int .u32 (IntKind.u32.wrap ((c:Int)+10 * ((x.getD k default).toNat:Int))))=cu (UInt32.ofNat ((c+10 * (x.getD k default).toNat) % 4294967296)):=by
      unfold cu
      rw [UInt32.toNat_ofNat',Nat.mod_eq_of_lt (Nat.mod_lt _ (by decide)),hS,wrap32 (Int.natCast_nonneg _),UInt32.toNat_ofNat'];rfl
     repeat'(first|(first|refine Exists.intro _ (And.intro hat ?_)|refine shrN9 hS ?_)|(with_reducible first|(refine zz ?_;try intro K hK)|refine zI ?_|refine zt ?_|refine zf ?_)|((first|refine hK _ ?_|refine hK _ _ rfl ?_);clear hK K)|(guard_hyp hK;first|(refine zY ?zz ?_;case zz=>first|exact rfl|exact gJ)|refine fresh_n ?_|refine freshO_n ?_|(refine at_Q ?_;intro hu)|refine zP wA ?_|(refine mul_Q ?_;intro hm1 hm2)|refine zP at_M ?_|refine zP rfl ?_|intro b0 hb)|((first|with_reducible refine zm ?_|guard_hyp hK);refine zY ?_ ?_;all_goals(intro hb;(try simp only [sn,sb] at hb);try exact ex0)))
     refine⟨(k+1,(c+10 * (x.getD k default).toNat) / 4294967296,y ++ [UInt32.ofNat ((c+10 * (x.getD k default).toNat) % 4294967296)]),⟨hk,by dsimp only;omega,by dsimp only;rw [List.length_append,List.length_singleton,g3],by dsimp only;rw [List.append_assoc];exact g4⟩,by dsimp only;omega,rfl,⟨rfl,trivial,rfl,rfl,rfl,trivial,rfl,trivial,rfl,trivial,rfl,rfl,rfl,trivial,rfl,trivial,trivial⟩,⟨?_,trivial⟩,⟨cu_cl9 _ _,trivial⟩⟩
     show some (⟨1,((y ++ x.drop k).map cu).set (0+k) (V.con (.int .u32 (IntKind.u32.wrap ((c:Int)+10 * ((x.getD k default).toNat:Int))))),v,true⟩:Obj)=_
     rw [hw,set_mid9 g3 hk]
    ·obtain rfl:k=x.length:=by omega
     rw [List.drop_length] at g4 ⊢
     rw [List.append_nil]
     have hL:=m10_len x ((chr s i).toNat - 48)
     have hV:=val_m10 x ((chr s i).toNat - 48) (by omega)
     have hw:V.con (.int .u32 (c:Int))=cu (UInt32.ofNat c):=by
      unfold cu
      rw [UInt32.toNat_ofNat',Nat.mod_eq_of_lt g2]
     have hD:∀j,j < i+1→isDig (chr s j)=true:=fun j hj=>by
      by_cases e:j=i
      ·rw [e];exact hd2
      ·exact h4 j (by omega)
     repeat'(first|(with_reducible first|(refine zz ?_;try intro K hK)|refine zI ?_|refine zt ?_|refine zf ?_)|((first|refine hK _ ?_|refine hK _ _ rfl ?_);clear hK K)|(guard_hyp hK;first|(refine zY ?zz ?_;case zz=>first|exact rfl|exact gJ)|refine fresh_n ?_|refine freshO_n ?_|(refine at_Q ?_;intro hu)|refine zP wA ?_|(refine mul_Q ?_;intro hm1 hm2)|refine zP at_M ?_|refine zP rfl ?_|intro b0 hb)|((first|with_reducible refine zm ?_|guard_hyp hK);refine zY ?_ ?_;all_goals(intro hb;(try simp only [sn,sb] at hb);try exact ex0)))
     ·have hm:y ++ [UInt32.ofNat c]=m10 x ((chr s i).toNat - 48):=by
       rw [← g4];unfold m10;rw [if_neg (by omega)]
      refine⟨(i+1,m10 x ((chr s i).toNat - 48),v+1),⟨hlt,by dsimp only;rw [hV,hv,h2];omega,by dsimp only;omega,hD⟩,by dsimp only;omega,rfl,⟨rfl,trivial,?_,rfl,rfl,trivial,rfl,trivial,trivial⟩,⟨?_,trivial⟩,⟨cu_cl9 _ _,trivial⟩⟩
      ·show V.own 0 (v+1) 0 (x.length+1)=_
       dsimp only
       rw [← hm,List.length_append,g3];rfl
      ·show some (⟨1,(y.map cu).take x.length ++ [V.con (.int .u32 (c:Int))],v+1,true⟩:Obj)=_
       rw [hw,take_app (F:=cu) g3.symm,hm]
     ·have hm:y=m10 x ((chr s i).toNat - 48):=by
       rw [← g4];unfold m10;rw [if_pos (by omega),List.append_nil]
      refine⟨(i+1,m10 x ((chr s i).toNat - 48),v),⟨hlt,by dsimp only;rw [hV,hv,h2];omega,by dsimp only;omega,hD⟩,by dsimp only;omega,rfl,⟨rfl,trivial,?_,rfl,rfl,trivial,rfl,trivial,trivial⟩,⟨?_,trivial⟩,⟨cu_cl9 _ _,trivial⟩⟩
      ·dsimp only
       rw [← hm,g3];rfl
      ·dsimp only
       rw [← hm];rfl
  ·obtain rfl:i=s.size:=by omega
   rw [List.take_of_length_le (Nat.le_of_eq (bs_len s))] at h2
   rw [natP_yes h0 h4,← h2]
   repeat'(first|(with_reducible first|(refine zz ?_;try intro K hK)|refine zI ?_|refine zt ?_|refine zf ?_)|((first|refine hK _ ?_|refine hK _ _ rfl ?_);clear hK K)|(guard_hyp hK;first|(refine zY ?zz ?_;case zz=>first|exact rfl|exact gJ)|refine fresh_n ?_|refine freshO_n ?_|(refine at_Q ?_;intro hu)|refine zP wA ?_|(refine mul_Q ?_;intro hm1 hm2)|refine zP at_M ?_|refine zP rfl ?_|(refine' Or.inl (Exists.intro _ (Exists.intro _ (Exists.intro _ (And.intro (own_ok x (by omega)) (Exists.intro [(0,_)] (And.intro (lpre1 ?lh) (And.intro ?lz (And.intro rfl ?_))))))));(case lh=>exact rfl);(case lz=>exact fzl1 (fzo_cu (l:=x) (ver:=v) (congrArg some rfl:some _=some _) rfl)))|intro b0 hb)|((first|with_reducible refine zm ?_|guard_hyp hK);refine zY ?_ ?_;all_goals(intro hb;(try simp only [sn,sb] at hb);try exact ex0)))
   rw [norm_lm]
   exact⟨trivial,_,_,rfl,fz_ro rfl (fun h=>h),fz_con rfl⟩
end Go.Ev
