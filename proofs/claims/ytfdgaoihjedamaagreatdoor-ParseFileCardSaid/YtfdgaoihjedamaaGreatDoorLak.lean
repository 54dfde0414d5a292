import Derived.Test.YtfdgaoihjedamaaGreatDoorLaj
set_option linter.all false
set_option maxHeartbeats 4000000
set_option maxRecDepth 10000
namespace Go.Ev
open Go.Proofs
theorem rlimb_ok (l:List UInt32)(i:Int)(h0:0≤i):Ok Tryz.prog 167 [tn l,.con (.int .i64 i)] true (.con (.int .u64 (l.getD i.toNat 0).toNat)):=by
 refine ok_of_ev hC0 mix Tryz.func167 rfl rfl (by kernel_rfl) (zO rfl) ?_
 repeat'(first|(with_reducible first|(refine zz ?_;try intro K hK)|refine zI ?_|refine zt ?_|refine zf ?_)|((first|refine hK _ ?_|refine hK _ _ rfl ?_);clear hK K)|(guard_hyp hK;first|(refine zY ?zz ?_;case zz=>first|exact rfl|exact gI)|refine fresh_n ?_|refine freshO_n ?_|(refine at_Q ?_;intro hu)|refine zP wA ?_|(refine mul_Q ?_;intro hm1 hm2)|refine zP at_M ?_|refine zP rfl ?_|intro b0 hb)|((first|with_reducible refine zm ?_|guard_hyp hK);refine zY ?_ ?_;all_goals(intro hb;(try simp only [sb] at hb);try exact ex0)))
 ·exact And.intro trivial (fz_con rfl)
 ·exact And.intro trivial (fz_con (by simp [List.getD,List.getElem?_eq_none (show l.length≤i.toNat by omega)]))
theorem all1 (f:Bool)(n m:Nat)(l:List UInt32):∀y ∈ List.map (V.ofA f) (List.take n (List.drop m (List.map tu32 l))),y.cells.length=1:=by
 intro y hy
 obtain⟨t,ht,rfl⟩:=List.mem_map.1 hy
 obtain⟨u,_,rfl⟩:=List.mem_map.1 (List.mem_of_mem_drop (List.mem_of_mem_take ht))
 rfl
theorem fz_app {f:Bool}{l:List UInt32}{n k:Nat}(hn:n≤l.length)(hk:k=n):FzA [(0,⟨1,List.map (V.ofA f) (List.take k (List.drop 0 (List.map tu32 l))),0,true⟩)] true (.own 0 0 0 (List.map (V.ofA f) (List.take k (List.drop 0 (List.map tu32 l)))).length) (tn (l.take n)):=by
 subst hk
 have e:List.map (V.ofA f) (List.take k (List.drop 0 (List.map tu32 l)))=(l.take k).map cu:=by
  rw [List.drop_zero,← List.map_take,List.map_map];rfl
 rw [e]
 refine fz_own (l:=l.take k) (F:=cu) (G:=tu32) rfl rfl rfl ?_ ?_ (fun a _=>fze_con _) rfl
 ·simp
 ·show List.take _ (List.drop 0 ((l.take k).map cu))=_
  rw [List.drop_zero,List.take_of_length_le (by simp)]
theorem rNorm_ok (l:List UInt32)(hl:l.length≤2199023255552):Ok Tryz.prog 97 [tn l] true (tn (norm l)):=by
 refine ok_of_ev hC0 mix Tryz.func97 rfl rfl (by kernel_rfl) (zO rfl) ?_
 repeat'(first|(with_reducible first|(refine zz ?_;try intro K hK)|refine zI ?_|refine zt ?_|refine zf ?_)|((first|refine hK _ ?_|refine hK _ _ rfl ?_);clear hK K)|(guard_hyp hK;first|(refine zY ?zz ?_;case zz=>first|exact rfl|exact gI)|refine fresh_n ?_|refine freshO_n ?_|(refine at_Q ?_;intro hu)|refine zP wA ?_|(refine mul_Q ?_;intro hm1 hm2)|refine zP at_M ?_|refine zP rfl ?_|intro b0 hb)|((first|with_reducible refine zm ?_|guard_hyp hK);refine zY ?_ ?_;all_goals(intro hb;(try simp only [sb] at hb);try exact ex0)))
 refine loop_i Nat (fun n=>⟨Tryz.f97.ntmps,[(0,.ro false (tn l)),(3,.con (.int .i64 (n:Nat)))],[]⟩) (fun n=>n≤l.length∧norm (l.take n)=norm l) (fun n=>n) [] l.length trivial ⟨Nat.le_refl _,by rw [List.take_length]⟩ ⟨rfl,⟨rfl,trivial,?_,trivial,trivial⟩,trivial,trivial⟩ ?_
 ·show V.con (.int .i64 ((l.map tu32).length:Int))=_;rw [List.length_map]
 rintro n ⟨h1,h2⟩
 repeat'(first|(with_reducible first|(refine zz ?_;try intro K hK)|refine zI ?_|refine zt ?_|refine zf ?_)|((first|refine hK _ ?_|refine hK _ _ rfl ?_);clear hK K)|(guard_hyp hK;first|(refine zY ?zz ?_;case zz=>first|exact rfl|exact gI)|refine fresh_n ?_|refine freshO_n ?_|(refine at_Q ?_;intro hu)|refine zP wA ?_|(refine mul_Q ?_;intro hm1 hm2)|refine zP at_M ?_|refine zP rfl ?_|intro b0 hb)|((first|with_reducible refine zm ?_|guard_hyp hK);refine zY ?_ ?_;all_goals(intro hb;(try simp only [sb] at hb);try exact ex0)))
 ·have e:((n:Int) - 1).toNat=n - 1:=by omega
  rw [e] at hb
  refine⟨n - 1,⟨by omega,?_⟩,by omega,rfl,⟨rfl,trivial,?_,trivial,trivial⟩,trivial,trivial⟩
  ·have hd:=norm_drop (l:=l.take n) (by
    rw [List.length_take,Nat.min_eq_left h1]
    have h9:(l.getD (n - 1) default).toNat=0:=by omega
    have:=UInt32.toNat_inj.1 (h9.trans (show 0=(0:UInt32).toNat from rfl))
    show(List.take n l).getD (n - 1) default=0
    have e9:(List.take n l).getD (n - 1) default=l.getD (n - 1) default:=by
     simp only [List.getD,List.getElem?_take,if_pos (show n - 1 < n by omega)]
    rw [e9];exact this)
   rw [List.length_take,Nat.min_eq_left h1,List.take_take,Nat.min_eq_left (by omega)] at hd
   rw [hd,h2]
  ·show V.con (.int .i64 ((n:Int) - 1))=V.con (.int .i64 ((n - 1:Nat):Int))
   rw [show((n - 1:Nat):Int)=(n:Int) - 1 by omega]
 ·refine And.intro (all1 _ _ _ _) ?_
  repeat'(first|(with_reducible first|(refine zz ?_;try intro K hK)|refine zI ?_|refine zt ?_|refine zf ?_)|((first|refine hK _ ?_|refine hK _ _ rfl ?_);clear hK K)|(guard_hyp hK;first|(refine zY ?zz ?_;case zz=>first|exact rfl|exact gI)|refine fresh_n ?_|refine freshO_n ?_|(refine at_Q ?_;intro hu)|refine zP wA ?_|(refine mul_Q ?_;intro hm1 hm2)|refine zP at_M ?_|refine zP rfl ?_|intro b0 hb)|((first|with_reducible refine zm ?_|guard_hyp hK);refine zY ?_ ?_;all_goals(intro hb;(try simp only [sb] at hb);try exact ex0)))
  have e:((n:Int) - 1).toNat=n - 1:=by omega
  rw [e] at hb
  have hn:l.take n=norm l:=by
   rw [← h2]
   refine(norm_last fun hz=>hb ?_).symm
   rw [List.length_take,Nat.min_eq_left h1] at hz
   have:l.getD (n - 1) default=0:=by rw [← hz];simp [List.getD,List.getElem?_take,show n - 1 < n by omega];rfl
   rw [this];rfl
  rw [← hn]
  exact And.intro trivial (fz_app h1 (by omega))
 ·refine And.intro (all1 _ _ _ _) ?_
  repeat'(first|(with_reducible first|(refine zz ?_;try intro K hK)|refine zI ?_|refine zt ?_|refine zf ?_)|((first|refine hK _ ?_|refine hK _ _ rfl ?_);clear hK K)|(guard_hyp hK;first|(refine zY ?zz ?_;case zz=>first|exact rfl|exact gI)|refine fresh_n ?_|refine freshO_n ?_|(refine at_Q ?_;intro hu)|refine zP wA ?_|(refine mul_Q ?_;intro hm1 hm2)|refine zP at_M ?_|refine zP rfl ?_|intro b0 hb)|((first|with_reducible refine zm ?_|guard_hyp hK);refine zY ?_ ?_;all_goals(intro hb;(try simp only [sb] at hb);try exact ex0)))
  have hn:l.take n=norm l:=by
   rw [← h2,show n=0 by omega];rfl
  rw [← hn]
  exact And.intro trivial (fz_app h1 (by omega))
theorem tmod_nat (T:Nat):(T:Int).tmod 4294967296=((T % 4294967296:Nat):Int):=by
 rw [Int.tmod_eq_emod_of_nonneg (by omega)];simp
theorem tdiv_nat (T:Nat):(T:Int).tdiv 4294967296=((T / 4294967296:Nat):Int):=by
 rw [Int.tdiv_eq_ediv_of_nonneg (by omega)];simp
theorem rMul_ok (a b:List UInt32)(ha:a.length≤1099511627776)(hb:b.length≤1099511627776):Ok Tryz.prog 122 [tn a,tn b] true (tn (lm (val a * val b))):=by
 refine ok_of_ev hC0 mix Tryz.func122 rfl rfl (by kernel_rfl) (zO rfl) ?_
 have hna:=norm_le a
 have hnb:=norm_le b
 repeat'(first|(with_reducible first|(refine zz ?_;try intro K hK)|refine zI ?_|refine zt ?_|refine zf ?_)|((first|refine hK _ ?_|refine hK _ _ rfl ?_);clear hK K)|(guard_hyp hK;first|(refine zY ?zz ?_;case zz=>first|exact rfl|exact gI)|refine fresh_n ?_|refine freshO_n ?_|(refine at_Q ?_;intro hu)|refine zP wA ?_|(refine mul_Q ?_;intro hm1 hm2)|refine zP at_M ?_|refine zP rfl ?_|(refine zQ (rNorm_ok a (by omega)) ?_)|(refine zQ (rNorm_ok b (by omega)) ?_)|intro b0 hb)|((first|with_reducible refine zm ?_|guard_hyp hK);refine zY ?_ ?_;all_goals(intro hb;(try simp only [sb] at hb);try exact ex0)))
 rw [← val_norm a,← val_norm b]
 have hx:(norm a).length≤1099511627776:=by omega
 have hy:(norm b).length≤1099511627776:=by omega
 clear hna hnb
 generalize norm a=x at *
 generalize norm b=y at *
 refine loop_i (Int×List UInt32) (fun(i,p)=>⟨Tryz.f122.ntmps,[(5,.ro true (tn x)),(6,.ro true (tn y)),(7,.own 0 0 0 (x.length+y.length)),(8,.con (.int .i64 i))],[(0,⟨1,p.map cu,0,true⟩)]⟩)
  (fun(i,p)=>0≤i∧i≤x.length∧p.length=x.length+y.length∧val p=val (x.take i.toNat) * val y) (fun(i,p)=>(x.length - i).toNat) [] (0,List.replicate (x.length+y.length) 0) trivial ⟨by omega,by omega,by simp,?_⟩ ⟨rfl,⟨rfl,trivial,rfl,trivial,?_,rfl,rfl,trivial,trivial⟩,⟨?_,trivial⟩,clObjs_cu _ _⟩ ?_
 ·rw [val_replicate];simp [val]
 ·show V.own _ _ _ _=_
  simp only [List.length_map]
  congr 1
 ·show some _=some _
  congr 1
  congr 1
  simp only [List.length_map]
  rw [List.map_replicate,show((x.length:Int)+(y.length:Int)).toNat=x.length+y.length by omega]
  rfl
 rintro⟨i,p⟩ ⟨h0,h1,hpl,hpv⟩
 repeat'(first|(with_reducible first|(refine zz ?_;try intro K hK)|refine zI ?_|refine zt ?_|refine zf ?_)|((first|refine hK _ ?_|refine hK _ _ rfl ?_);clear hK K)|(guard_hyp hK;first|(refine zY ?zz ?_;case zz=>first|exact rfl|exact gI)|refine fresh_n ?_|refine freshO_n ?_|(refine at_Q ?_;intro hu)|refine zP wA ?_|(refine mul_Q ?_;intro hm1 hm2)|refine zP at_M ?_|refine zP rfl ?_|intro b0 hb)|((first|with_reducible refine zm ?_|guard_hyp hK);refine zY ?_ ?_;all_goals(intro hb;(try simp only [sb] at hb);try exact ex0)))
 ·refine loop_i (Nat×List UInt32×Nat) (fun(k,q,c)=>⟨Tryz.f122.ntmps,[(5,.ro true (tn x)),(6,.ro true (tn y)),(7,.own 0 0 0 (x.length+y.length)),(8,.con (.int .i64 i)),(9,.con (.int .u64 c)),(10,.con (.int .i64 k))],[(0,⟨1,q.map cu,0,true⟩)]⟩)
   (fun(k,q,c)=>k≤y.length∧q.length=x.length+y.length∧c < 4294967296∧val q+c * 4294967296 ^ (i.toNat+k)=val p+(x.getD i.toNat default).toNat * val (y.take k) * 4294967296 ^ i.toNat∧q.drop (i.toNat+k)=p.drop (i.toNat+k)) (fun(k,q,c)=>y.length - k) [] (0,p,0) trivial ⟨by omega,hpl,by decide,by simp [val],rfl⟩ ⟨rfl,⟨rfl,trivial,rfl,trivial,rfl,rfl,rfl,trivial,rfl,trivial,rfl,trivial,trivial⟩,⟨rfl,trivial⟩,clObjs_cu _ _⟩ ?_
  rintro⟨k,q,c⟩ ⟨g0,g1,g2,g3,g4⟩
  repeat'(first|(with_reducible first|(refine zz ?_;try intro K hK)|refine zI ?_|refine zt ?_|refine zf ?_)|((first|refine hK _ ?_|refine hK _ _ rfl ?_);clear hK K)|(guard_hyp hK;first|(refine zY ?zz ?_;case zz=>first|exact rfl|exact gI)|refine fresh_n ?_|refine freshO_n ?_|(refine at_Q ?_;intro hu)|refine zP wA ?_|(refine mul_Q ?_;intro hm1 hm2)|refine zP at_M ?_|refine zP rfl ?_|intro b0 hb)|((first|with_reducible refine zm ?_|guard_hyp hK);refine zY ?_ ?_;all_goals(intro hb;(try simp only [sb] at hb);try exact ex0)))
  ·have ej:(0+(i+(k:Int)).toNat)=i.toNat+k:=by omega
   have ek:((k:Int)).toNat=k:=rfl
   rw [ej] at hu
   rw [ek] at hm1 hm2
   obtain⟨xi,hxi⟩:∃n,(x.getD i.toNat default).toNat=n:=⟨_,rfl⟩
   obtain⟨yk,hyk⟩:∃n,(y.getD k default).toNat=n:=⟨_,rfl⟩
   obtain⟨qj,hqj⟩:∃n,(q.getD (i.toNat+k) default).toNat=n:=⟨_,rfl⟩
   have hstep:=mul_step (p:=p) (p':=q) (y:=y) (xi:=xi) (c:=c) (i:=i.toNat) (k:=k) (t:=c+(xi * yk+qj)) (by omega) (by omega) (by rw [← hxi];exact g3) (by rw [hyk,hqj])
   have hT:c+(xi * yk+qj) < 18446744073709551616:=by
    rw [hxi,hyk] at hm2
    have hm2':((xi * yk:Nat):Int)≤18446744065119617025:=by rw [Int.natCast_mul];exact hm2
    omega
   have eT:((c:Int)+(xi:Int) * (yk:Int)+(qj:Int))=((c+(xi * yk+qj):Nat):Int):=by simp [Int.add_assoc]
   refine⟨(k+1,q.set (i.toNat+k) (UInt32.ofNat (c+(xi * yk+qj))),(c+(xi * yk+qj)) / 4294967296),⟨by omega,by rw [List.length_set];exact g1,by omega,?ga,?gb⟩,by show y.length - (k+1) < y.length - k;omega,rfl,⟨rfl,trivial,rfl,trivial,rfl,rfl,rfl,trivial,?gc,trivial,rfl,trivial,trivial⟩,⟨?gd,trivial⟩,clObjs_cu _ _⟩
   case ga=>rw [show i.toNat+(k+1)=i.toNat+k+1 by omega,hxi];exact hstep
   case gb=>rw [show i.toNat+(k+1)=i.toNat+k+1 by omega];exact drop_set_succ g4
   case gc=>
    refine congrArg (fun n=>V.con (.int .u64 n)) (?_:IntKind.u64.wrap (((c:Int)+((x.getD i.toNat default).toNat:Int) * ((y.getD ((k:Int)).toNat default).toNat:Int)+((q.getD (0+(i+(k:Int)).toNat) default).toNat:Int)).tdiv 4294967296)=_)
    rw [ej,ek,hxi,hyk,hqj,eT,tdiv_nat]
    exact(wrapU64 (by omega) (by omega)).symm
   case gd=>
    refine congrArg (fun l=>some (Obj.mk 1 l 0 true)) (?_:(q.map cu).set (0+(i+(k:Int)).toNat) (V.con (.int .u32 (IntKind.u32.wrap (((c:Int)+((x.getD i.toNat default).toNat:Int) * ((y.getD ((k:Int)).toNat default).toNat:Int)+((q.getD (0+(i+(k:Int)).toNat) default).toNat:Int)).tmod 4294967296))))=_)
    rw [ej,ek,hxi,hyk,hqj,List.map_set,eT,tmod_nat,wrap32 (by omega)]
    have e5:UInt32.ofNat (((c+(xi * yk+qj)) % 4294967296:Nat):Int).toNat=UInt32.ofNat (c+(xi * yk+qj)):=UInt32.toNat_inj.1 (by rw [Int.toNat_natCast,UInt32.toNat_ofNat',UInt32.toNat_ofNat',Nat.mod_mod])
    show(q.map cu).set (i.toNat+k) (cu (UInt32.ofNat (((c+(xi * yk+qj)) % 4294967296:Nat):Int).toNat))=_
    rw [e5]
  ·have hkk:k=y.length:=by omega
   subst hkk
   have ej:(0+(i+((y.map tu32).length:Int)).toNat)=i.toNat+y.length:=by rw [List.length_map];omega
   rw [List.take_length] at g3
   have hc32:(UInt32.ofNat c).toNat=c:=by simp;omega
   refine⟨(i+1,q.set (i.toNat+y.length) (UInt32.ofNat c)),⟨by omega,by omega,by rw [List.length_set];exact g1,?ga⟩,by show((x.length:Int) - (i+1)).toNat < ((x.length:Int) - i).toNat;omega,rfl,⟨rfl,trivial,rfl,trivial,rfl,rfl,rfl,trivial,trivial⟩,⟨?gd,trivial⟩,clObjs_cu _ _⟩
   case ga=>
    rw [show(i+1).toNat=i.toNat+1 by omega]
    exact mul_end (by omega) (by omega) hpv (by rw [hc32];exact g3) g4
   case gd=>
    refine congrArg (fun l=>some (Obj.mk 1 l 0 true)) (?_:(q.map cu).set (0+(i+((y.map tu32).length:Int)).toNat) (V.con (.int .u32 (c:Int)))=_)
    rw [ej,List.map_set]
    refine congrArg (fun v=>(q.map cu).set _ v) ?_
    show _=V.con (.int .u32 (((UInt32.ofNat c).toNat:Nat):Int))
    rw [hc32]
 ·have hii:i.toNat=x.length:=by omega
  rw [hii,List.take_length] at hpv
  refine Or.inl (Exists.intro _ (Exists.intro _ (Exists.intro _ (And.intro (rNorm_ok p (by omega)) (Exists.intro [(0,?o)] (And.intro (lpre1 ?ho) (And.intro ?z (And.intro rfl ?_))))))))
  case ho=>exact rfl
  case z=>
   refine fzl1 (fz_own (l:=p) (F:=fun x=>V.con (.int .u32 x.toNat)) (G:=tu32) rfl rfl rfl hpl ?_ (fun a _=>fze_con _) rfl)
   show List.take _ (List.drop 0 (p.map cu))=_
   rw [List.drop_zero,List.take_of_length_le (by rw [List.length_map];omega)]
   rfl
  repeat'(first|(with_reducible first|(refine zz ?_;try intro K hK)|refine zI ?_|refine zt ?_|refine zf ?_)|((first|refine hK _ ?_|refine hK _ _ rfl ?_);clear hK K)|(guard_hyp hK;first|(refine zY ?zz ?_;case zz=>first|exact rfl|exact gI)|refine fresh_n ?_|refine freshO_n ?_|(refine at_Q ?_;intro hu)|refine zP wA ?_|(refine mul_Q ?_;intro hm1 hm2)|refine zP at_M ?_|refine zP rfl ?_|intro b0 hb)|((first|with_reducible refine zm ?_|guard_hyp hK);refine zY ?_ ?_;all_goals(intro hb;(try simp only [sb] at hb);try exact ex0)))
  exact And.intro trivial (fz_ro (by rw [norm_lm,hpv]) fun h=>h)
theorem limb0 (l:List UInt32){n:Nat}(h:l.length≤n):l.getD n 0=0:=by simp [List.getD,List.getElem?_eq_none h]
theorem val_drop_succ (l:List UInt32)(i:Nat):val (l.drop i)=(l.getD i 0).toNat+4294967296 * val (l.drop (i+1)):=by
 by_cases h:i < l.length
 ·rw [List.drop_eq_getElem_cons h,val]
  simp [List.getD,h]
 ·rw [List.drop_eq_nil_of_le (by omega),List.drop_eq_nil_of_le (by omega),limb0 l (by omega)];rfl
theorem val_split (l:List UInt32)(i:Nat):val l=val (l.take i)+4294967296 ^ i * val (l.drop i):=by
 by_cases h:i≤l.length
 ·conv=>lhs;rw [← List.take_append_drop i l]
  rw [val_append,List.length_take,Nat.min_eq_left h]
 ·rw [List.take_of_length_le (by omega),List.drop_eq_nil_of_le (by omega)];simp [val]
theorem val_over {a b:List UInt32}{i:Nat}(h:val (a.drop (i+1))=val (b.drop (i+1)))(hlt:(a.getD i 0).toNat < (b.getD i 0).toNat):val a < val b:=by
 rw [val_split a i,val_split b i,val_drop_succ a,val_drop_succ b,h]
 have h1:=val_lt (a.take i)
 have h2:4294967296 ^ (a.take i).length≤4294967296 ^ i:=Nat.pow_le_pow_right (by decide) (by simp;omega)
 have h3:4294967296 ^ i * ((a.getD i 0).toNat+1)≤4294967296 ^ i * (b.getD i 0).toNat:=Nat.mul_le_mul_left _ hlt
 rw [Nat.mul_add,Nat.mul_add]
 rw [Nat.mul_add,Nat.mul_one] at h3
 omega
theorem rCmp_ok (a b:List UInt32)(ha:a.length≤2199023255552)(hb:b.length≤2199023255552):Ok Tryz.prog 152 [tn a,tn b] true (.con (.int .i64 (cmpN (val a) (val b)))):=by
 refine ok_of_ev hC0 mix Tryz.func152 rfl rfl (by kernel_rfl) (zO rfl) ?_
 repeat'(first|(with_reducible first|(refine zz ?_;try intro K hK)|refine zI ?_|refine zt ?_|refine zf ?_)|((first|refine hK _ ?_|refine hK _ _ rfl ?_);clear hK K)|(guard_hyp hK;first|(refine zY ?zz ?_;case zz=>first|exact rfl|exact gI)|refine fresh_n ?_|refine freshO_n ?_|(refine at_Q ?_;intro hu)|refine zP wA ?_|(refine mul_Q ?_;intro hm1 hm2)|refine zP at_M ?_|refine zP rfl ?_|intro b0 hb)|((first|with_reducible refine zm ?_|guard_hyp hK);refine zY ?_ ?_;all_goals(intro hb;(try simp only [sb] at hb);try exact ex0)))
 ·refine loop_i Int (fun i=>⟨Tryz.f152.ntmps,[(0,.ro false (tn a)),(1,.ro false (tn b)),(6,.con (.int .i64 i))],[]⟩) (fun i=>-1≤i∧i < b.length∧val (a.drop (i+1).toNat)=val (b.drop (i+1).toNat)) (fun i=>(i+1).toNat) [] (b.length - 1:Int) trivial ⟨by omega,by omega,?_⟩ ⟨rfl,⟨rfl,trivial,rfl,trivial,?_,trivial,trivial⟩,trivial,trivial⟩ ?_
  ·have e:((b.length:Int) - 1+1).toNat=b.length:=by omega
   rw [e,List.drop_eq_nil_of_le (by omega),List.drop_eq_nil_of_le (by omega)]
  ·show V.con (.int .i64 (((b.map tu32).length:Int) - 1))=_;rw [List.length_map]
  rintro i ⟨h0,h1,h2⟩
  repeat'(first|(with_reducible first|(refine zz ?_;try intro K hK)|refine zI ?_|refine zt ?_|refine zf ?_)|((first|refine hK _ ?_|refine hK _ _ rfl ?_);clear hK K)|(guard_hyp hK;first|(refine zY ?zz ?_;case zz=>first|exact rfl|exact gI)|refine fresh_n ?_|refine freshO_n ?_|(refine at_Q ?_;intro hu)|refine zP wA ?_|(refine mul_Q ?_;intro hm1 hm2)|refine zP at_M ?_|refine zP rfl ?_|(refine zQ (rlimb_ok a i (by omega)) ?_)|(refine zQ (rlimb_ok b i (by omega)) ?_)|intro b0 hb)|((first|with_reducible refine zm ?_|guard_hyp hK);refine zY ?_ ?_;all_goals(intro hb;(try simp only [sb] at hb);try exact ex0)))
  ·have e:(i+1).toNat=i.toNat+1:=by omega
   rw [e] at h2
   exact And.intro trivial (fz_con (by rw [cmpN_lt (val_over h2 (by omega))]))
  ·have e:(i+1).toNat=i.toNat+1:=by omega
   rw [e] at h2
   exact And.intro trivial (fz_con (by rw [cmpN_gt (val_over h2.symm (by omega))]))
  ·have e:(i+1).toNat=i.toNat+1:=by omega
   rw [e] at h2
   refine⟨i - 1,⟨by omega,by omega,?_⟩,by omega,rfl,⟨rfl,trivial,rfl,trivial,rfl,trivial,trivial⟩,trivial,trivial⟩
   rw [show(i - 1+1).toNat=i.toNat by omega,val_drop_succ a,val_drop_succ b,h2,show(a.getD i.toNat 0).toNat=(b.getD i.toNat 0).toNat by omega]
  ·rw [show(i+1).toNat=0 by omega] at h2
   have h2:val a=val b:=h2
   exact And.intro trivial (fz_con (by rw [h2,cmpN_eq]))
 ·refine loop_i Int (fun i=>⟨Tryz.f152.ntmps,[(0,.ro false (tn a)),(1,.ro false (tn b)),(6,.con (.int .i64 i))],[]⟩) (fun i=>-1≤i∧i < a.length∧val (a.drop (i+1).toNat)=val (b.drop (i+1).toNat)) (fun i=>(i+1).toNat) [] (a.length - 1:Int) trivial ⟨by omega,by omega,?_⟩ ⟨rfl,⟨rfl,trivial,rfl,trivial,?_,trivial,trivial⟩,trivial,trivial⟩ ?_
  ·have e:((a.length:Int) - 1+1).toNat=a.length:=by omega
   rw [e,List.drop_eq_nil_of_le (by omega),List.drop_eq_nil_of_le (by omega)]
  ·show V.con (.int .i64 (((a.map tu32).length:Int) - 1))=_;rw [List.length_map]
  rintro i ⟨h0,h1,h2⟩
  repeat'(first|(with_reducible first|(refine zz ?_;try intro K hK)|refine zI ?_|refine zt ?_|refine zf ?_)|((first|refine hK _ ?_|refine hK _ _ rfl ?_);clear hK K)|(guard_hyp hK;first|(refine zY ?zz ?_;case zz=>first|exact rfl|exact gI)|refine fresh_n ?_|refine freshO_n ?_|(refine at_Q ?_;intro hu)|refine zP wA ?_|(refine mul_Q ?_;intro hm1 hm2)|refine zP at_M ?_|refine zP rfl ?_|(refine zQ (rlimb_ok a i (by omega)) ?_)|(refine zQ (rlimb_ok b i (by omega)) ?_)|intro b0 hb)|((first|with_reducible refine zm ?_|guard_hyp hK);refine zY ?_ ?_;all_goals(intro hb;(try simp only [sb] at hb);try exact ex0)))
  ·have e:(i+1).toNat=i.toNat+1:=by omega
   rw [e] at h2
   exact And.intro trivial (fz_con (by rw [cmpN_lt (val_over h2 (by omega))]))
  ·have e:(i+1).toNat=i.toNat+1:=by omega
   rw [e] at h2
   exact And.intro trivial (fz_con (by rw [cmpN_gt (val_over h2.symm (by omega))]))
  ·have e:(i+1).toNat=i.toNat+1:=by omega
   rw [e] at h2
   refine⟨i - 1,⟨by omega,by omega,?_⟩,by omega,rfl,⟨rfl,trivial,rfl,trivial,rfl,trivial,trivial⟩,trivial,trivial⟩
   rw [show(i - 1+1).toNat=i.toNat by omega,val_drop_succ a,val_drop_succ b,h2,show(a.getD i.toNat 0).toNat=(b.getD i.toNat 0).toNat by omega]
  ·rw [show(i+1).toNat=0 by omega] at h2
   have h2:val a=val b:=h2
   exact And.intro trivial (fz_con (by rw [h2,cmpN_eq]))
theorem clObjs_cu' (oh:OH)(p:List UInt32)(v:Nat):clObjs oh [(0,⟨1,p.map cu,v,true⟩)]:=by
 refine⟨fun v hv=>?_,trivial⟩
 obtain⟨u,_,rfl⟩:=List.mem_map.1 hv
 trivial
theorem val_take_next (l:List UInt32)(n:Nat):val (l.take (n+1))=val (l.take n)+(l.getD n 0).toNat * 4294967296 ^ n:=by
 by_cases h:n < l.length
 ·exact val_take_succ l n h
 ·rw [List.take_of_length_le (by omega),List.take_of_length_le (by omega),limb0 l (by omega)]
  show _=_+0 * _
  rw [Nat.zero_mul,Nat.add_zero]
theorem cmpN_ge {a b:Nat}(h:b≤a):0≤cmpN a b:=by
 unfold cmpN
 rw [if_neg (by omega)]
 split<;>decide
theorem val_take_lt (l:List UInt32)(n:Nat)(h:val l < 4294967296 ^ n):val (l.take n)=val l:=by
 have hs:=val_split l n
 have h0:val (l.drop n)=0:=by
  cases hz:val (l.drop n) with
  |zero=>rfl
  |succ k=>
   rw [hz,Nat.mul_add,Nat.mul_one] at hs
   omega
 rw [h0,Nat.mul_zero,Nat.add_zero] at hs
 exact hs.symm
theorem sub_step {a b o:List UInt32}{w w' ai bi d:Nat}(h:val (a.take o.length)+w * 4294967296 ^ o.length=val o+val (b.take o.length))(ha:(a.getD o.length 0).toNat=ai)(hb:(b.getD o.length 0).toNat=bi)
  (hd:d < 4294967296) (hs:ai+w' * 4294967296=d+(bi+w)) :
  val (a.take (o ++ [UInt32.ofNat d]).length)+w' * 4294967296 ^ (o ++ [UInt32.ofNat d]).length=val (o ++ [UInt32.ofNat d])+val (b.take (o ++ [UInt32.ofNat d]).length):=by
 rw [show(o ++ [UInt32.ofNat d]).length=o.length+1 by simp,val_take_next,val_take_next,ha,hb,val_append]
 have e1:val [UInt32.ofNat d]=d:=by simp [val];omega
 rw [e1,Nat.pow_succ,Nat.mul_comm (4294967296 ^ o.length) d]
 generalize 4294967296 ^ o.length=p at *
 have e2:ai * p+w' * (p * 4294967296)=d * p+(bi * p+w * p):=by
  rw [Nat.mul_comm p 4294967296,← Nat.mul_assoc,← Nat.add_mul,hs,Nat.add_mul,Nat.add_mul]
 omega
theorem rSub_ge (a b:List UInt32)(ha:a.length≤1099511627776)(hb:b.length≤1099511627776)(h:val b≤val a):Ok Tryz.prog 153 [tn a,tn b] true (.tup [tn (lm (val a - val b)),.con (.bool true)]):=by
 refine ok_of_ev hC0 mix Tryz.func153 rfl rfl (by kernel_rfl) (zO rfl) ?_
 repeat'(first|(with_reducible first|(refine zz ?_;try intro K hK)|refine zI ?_|refine zt ?_|refine zf ?_)|((first|refine hK _ ?_|refine hK _ _ rfl ?_);clear hK K)|(guard_hyp hK;first|(refine zY ?zz ?_;case zz=>first|exact rfl|exact gI)|refine fresh_n ?_|refine freshO_n ?_|(refine at_Q ?_;intro hu)|refine zP wA ?_|(refine mul_Q ?_;intro hm1 hm2)|refine zP at_M ?_|refine zP rfl ?_|(refine zQ (rCmp_ok a b (by omega) (by omega)) ?_)|intro b0 hb)|((first|with_reducible refine zm ?_|guard_hyp hK);refine zY ?_ ?_;all_goals(intro hb;(try simp only [sb] at hb);try exact ex0)))
 ·exfalso;have:=cmpN_ge h;omega
 ·refine loop_i (List UInt32×Nat) (fun(o,w)=>⟨Tryz.f153.ntmps,[(0,.ro false (tn a)),(1,.ro false (tn b)),(6,.own 0 o.length 0 o.length),(7,.con (.int .u64 w)),(8,.con (.int .i64 (o.length:Nat)))],[(0,⟨1,o.map cu,o.length,true⟩)]⟩)
   (fun(o,w)=>w≤1∧o.length≤a.length∧val (a.take o.length)+w * 4294967296 ^ o.length=val o+val (b.take o.length)) (fun(o,w)=>a.length - o.length) [(6,0,1)] ([],0) ⟨rfl,rfl,trivial⟩ ⟨by omega,by simp,by simp [val]⟩ ⟨rfl,⟨rfl,trivial,rfl,trivial,rfl,rfl,rfl,trivial,rfl,trivial,trivial⟩,⟨rfl,trivial⟩,clObjs_cu' _ _ _⟩ ?_
  rintro⟨o,w⟩ ⟨g0,g1,g2⟩
  have eo:((o.length:Int)).toNat=o.length:=rfl
  have ua:=UInt32.toNat_lt (a.getD ((o.length:Int)).toNat 0)
  have ub:=UInt32.toNat_lt (b.getD ((o.length:Int)).toNat 0)
  repeat'(first|(with_reducible first|(refine zz ?_;try intro K hK)|refine zI ?_|refine zt ?_|refine zf ?_)|((first|refine hK _ ?_|refine hK _ _ rfl ?_);clear hK K)|(guard_hyp hK;first|(refine zY ?zz ?_;case zz=>first|exact rfl|exact gI)|refine fresh_n ?_|refine freshO_n ?_|(refine at_Q ?_;intro hu)|refine zP wA ?_|(refine mul_Q ?_;intro hm1 hm2)|refine zP at_M ?_|refine zP rfl ?_|(refine zQ (rlimb_ok a (o.length:Int) (by omega)) ?_)|(refine zQ (rlimb_ok b (o.length:Int) (by omega)) ?_)|intro b0 hb)|((first|with_reducible refine zm ?_|guard_hyp hK);refine zY ?_ ?_;all_goals(intro hb;(try simp only [sb] at hb);try exact ex0)))
  ·refine And.intro (fun y hy=>by have hy:y ∈ [V.con _]:=hy;rw [List.mem_singleton.1 hy];rfl) ?_
   repeat'(first|(with_reducible first|(refine zz ?_;try intro K hK)|refine zI ?_|refine zt ?_|refine zf ?_)|((first|refine hK _ ?_|refine hK _ _ rfl ?_);clear hK K)|(guard_hyp hK;first|(refine zY ?zz ?_;case zz=>first|exact rfl|exact gI)|refine fresh_n ?_|refine freshO_n ?_|(refine at_Q ?_;intro hu)|refine zP wA ?_|(refine mul_Q ?_;intro hm1 hm2)|refine zP at_M ?_|refine zP rfl ?_|intro b0 hb)|((first|with_reducible refine zm ?_|guard_hyp hK);refine zY ?_ ?_;all_goals(intro hb;(try simp only [sb] at hb);try exact ex0)))
   rw [eo] at ua ub
   obtain⟨ai,hai⟩:∃n,(a.getD o.length 0).toNat=n:=⟨_,rfl⟩
   obtain⟨bi,hbi⟩:∃n,(b.getD o.length 0).toNat=n:=⟨_,rfl⟩
   rw [eo,hai,hbi] at hb
   rw [hai] at ua
   rw [hbi] at ub
   have el:(o ++ [UInt32.ofNat (ai+4294967296 - (bi+w))]).length=o.length+1:=by simp
   have hv:=sub_step (w':=1) (d:=ai+4294967296 - (bi+w)) g2 hai hbi (by omega) (by omega)
   refine⟨(o ++ [UInt32.ofNat (ai+4294967296 - (bi+w))],1),⟨by omega,by rw [el];omega,hv⟩,?gm,rfl,⟨rfl,trivial,rfl,trivial,?g5,rfl,rfl,trivial,?g7,trivial,trivial⟩,⟨?gd,trivial⟩,clObjs_cu' _ _ _⟩
   case gm=>
    show a.length - (o ++ [UInt32.ofNat (ai+4294967296 - (bi+w))]).length < a.length - o.length
    rw [el];omega
   case g5=>
    show V.own 0 (o.length+1) 0 (o.length+1)=V.own 0 (o ++ [UInt32.ofNat (ai+4294967296 - (bi+w))]).length 0 (o ++ [UInt32.ofNat (ai+4294967296 - (bi+w))]).length
    rw [el]
   case g7=>
    show V.con (.int .i64 ((o.length:Int)+1))=V.con (.int .i64 (((o ++ [UInt32.ofNat (ai+4294967296 - (bi+w))]).length:Nat):Int))
    rw [el];rfl
   case gd=>
    show some (Obj.mk 1 (List.take o.length (o.map cu) ++ [V.con (.int .u32 (((a.getD ((o.length:Int)).toNat 0).toNat:Int)+4294967296 - (((b.getD ((o.length:Int)).toNat 0).toNat:Int)+(w:Int))))]) (o.length+1) true)=some (Obj.mk 1 ((o ++ [UInt32.ofNat (ai+4294967296 - (bi+w))]).map cu) (o ++ [UInt32.ofNat (ai+4294967296 - (bi+w))]).length true)
    have e6:(((a.getD ((o.length:Int)).toNat 0).toNat:Int)+4294967296 - (((b.getD ((o.length:Int)).toNat 0).toNat:Int)+(w:Int)):Int)=((UInt32.ofNat (ai+4294967296 - (bi+w))).toNat:Nat):=by
     rw [eo,hai,hbi,UInt32.toNat_ofNat']
     omega
    rw [el,e6,List.take_of_length_le (by simp),List.map_append]
    rfl
  ·refine And.intro (fun y hy=>by have hy:y ∈ [V.con _]:=hy;rw [List.mem_singleton.1 hy];rfl) ?_
   repeat'(first|(with_reducible first|(refine zz ?_;try intro K hK)|refine zI ?_|refine zt ?_|refine zf ?_)|((first|refine hK _ ?_|refine hK _ _ rfl ?_);clear hK K)|(guard_hyp hK;first|(refine zY ?zz ?_;case zz=>first|exact rfl|exact gI)|refine fresh_n ?_|refine freshO_n ?_|(refine at_Q ?_;intro hu)|refine zP wA ?_|(refine mul_Q ?_;intro hm1 hm2)|refine zP at_M ?_|refine zP rfl ?_|intro b0 hb)|((first|with_reducible refine zm ?_|guard_hyp hK);refine zY ?_ ?_;all_goals(intro hb;(try simp only [sb] at hb);try exact ex0)))
   rw [eo] at ua ub
   obtain⟨ai,hai⟩:∃n,(a.getD o.length 0).toNat=n:=⟨_,rfl⟩
   obtain⟨bi,hbi⟩:∃n,(b.getD o.length 0).toNat=n:=⟨_,rfl⟩
   rw [eo,hai,hbi] at hb
   rw [hai] at ua
   rw [hbi] at ub
   have el:(o ++ [UInt32.ofNat (ai - (bi+w))]).length=o.length+1:=by simp
   have hv:=sub_step (w':=0) (d:=ai - (bi+w)) g2 hai hbi (by omega) (by omega)
   refine⟨(o ++ [UInt32.ofNat (ai - (bi+w))],0),⟨by omega,by rw [el];omega,hv⟩,?gm,rfl,⟨rfl,trivial,rfl,trivial,?g5,rfl,rfl,trivial,?g7,trivial,trivial⟩,⟨?gd,trivial⟩,clObjs_cu' _ _ _⟩
   case gm=>
    show a.length - (o ++ [UInt32.ofNat (ai - (bi+w))]).length < a.length - o.length
    rw [el];omega
   case g5=>
    show V.own 0 (o.length+1) 0 (o.length+1)=V.own 0 (o ++ [UInt32.ofNat (ai - (bi+w))]).length 0 (o ++ [UInt32.ofNat (ai - (bi+w))]).length
    rw [el]
   case g7=>
    show V.con (.int .i64 ((o.length:Int)+1))=V.con (.int .i64 (((o ++ [UInt32.ofNat (ai - (bi+w))]).length:Nat):Int))
    rw [el];rfl
   case gd=>
    show some (Obj.mk 1 (List.take o.length (o.map cu) ++ [V.con (.int .u32 (((a.getD ((o.length:Int)).toNat 0).toNat:Int) - (((b.getD ((o.length:Int)).toNat 0).toNat:Int)+(w:Int))))]) (o.length+1) true)=some (Obj.mk 1 ((o ++ [UInt32.ofNat (ai - (bi+w))]).map cu) (o ++ [UInt32.ofNat (ai - (bi+w))]).length true)
    have e6:(((a.getD ((o.length:Int)).toNat 0).toNat:Int) - (((b.getD ((o.length:Int)).toNat 0).toNat:Int)+(w:Int)):Int)=((UInt32.ofNat (ai - (bi+w))).toNat:Nat):=by
     rw [eo,hai,hbi,UInt32.toNat_ofNat']
     omega
    rw [el,e6,List.take_of_length_le (by simp),List.map_append]
    rfl
  ·skip
   refine Or.inl (Exists.intro _ (Exists.intro _ (Exists.intro _ (And.intro (rNorm_ok o (by omega)) (Exists.intro [(0,?o)] (And.intro (lpre1 ?ho) (And.intro ?z (And.intro rfl ?_))))))))
   case ho=>exact rfl
   case z=>
    refine fzl1 (fz_own (l:=o) (F:=fun x=>V.con (.int .u32 x.toNat)) (G:=tu32) rfl rfl rfl rfl ?_ (fun a _=>fze_con _) rfl)
    show List.take _ (List.drop 0 (o.map cu))=_
    rw [List.drop_zero,List.take_of_length_le (by rw [List.length_map];omega)]
    rfl
   repeat'(first|(with_reducible first|(refine zz ?_;try intro K hK)|refine zI ?_|refine zt ?_|refine zf ?_)|((first|refine hK _ ?_|refine hK _ _ rfl ?_);clear hK K)|(guard_hyp hK;first|(refine zY ?zz ?_;case zz=>first|exact rfl|exact gI)|refine fresh_n ?_|refine freshO_n ?_|(refine at_Q ?_;intro hu)|refine zP wA ?_|(refine mul_Q ?_;intro hm1 hm2)|refine zP at_M ?_|refine zP rfl ?_|intro b0 hb)|((first|with_reducible refine zm ?_|guard_hyp hK);refine zY ?_ ?_;all_goals(intro hb;(try simp only [sb] at hb);try exact ex0)))
   have hol:o.length=a.length:=by omega
   rw [hol,List.take_length,val_take_lt b a.length (Nat.lt_of_le_of_lt h (val_lt a))] at g2
   have hov:=val_lt o
   rw [hol] at hov
   have hw:w=0:=by
    rcases(show w=0∨w=1 by omega) with h1|h1
    ·exact h1
    ·subst h1;omega
   subst hw
   exact And.intro trivial ⟨_,_,rfl,fz_ro (by rw [norm_lm];congr 2;omega) fun h=>h,fz_con rfl⟩
def tI (n:Bool)(m:List UInt32):T:=.agg [.con (.bool n),tn m]
def iv (n:Bool)(m:List UInt32):Int:=if n then -(val m:Int) else val m
def tZ (z:Int):T:=tI (decide (z < 0)) (lm z.natAbs)
theorem fz_agg2 {oh:OH}{f:Bool}{v1 v2:V}{t1 t2:T}(h1:Fz1 oh f v1 t1)(h2:Fz1 oh f v2 t2):FzA oh f (.agg [v1,v2]) (.agg [t1,t2]):=by
 refine⟨rfl,fun j v t a b=>?_⟩
 match j with
 |0=>simp at a b;subst a;subst b;exact h1
 |1=>simp at a b;subst a;subst b;exact h2
 |j+2=>simp at a
theorem ret_cell {P:Program}{fn:Func}{f:Bool}{r:T}{s:St}{a t id ver sz:Nat}{l:List V}{fs:List (Nat×Nat)}{z:List Value}(hr:fn.results.toList=[.cell a t])(ht:tk P t=.st fs z)(hz:z.length=l.length)(h0:0 < l.length)
  (ha:eget s.env a=.ref id ver 0 0) (ho:oget s.oh id=some ⟨sz,[.agg l],ver,true⟩) (hf:FzA s.oh f (.agg l) r):RetOK P fn f r .ret s:=by
 refine⟨trivial,?_⟩
 rw [hr]
 show sload (tk P t) s.oh (eget s.env a) _
 rw [ha,ht]
 show use s.oh id ver _
 unfold use
 rw [ho]
 refine⟨rfl,rfl,.agg l,rfl,by simp only [TK.size];omega,by simp only [TK.size,V.cells];omega,?_⟩
 show FzA s.oh f (V.ofCells true ((l.drop 0).take z.length)) r
 rw [List.drop_zero,hz,List.take_length]
 exact hf
theorem lm_nil_iff (n:Nat):lm n=[]↔n=0:=by
 constructor
 ·intro h;have:=val_lm n;rw [h] at this;simpa [val] using this.symm
 ·intro h;subst h;unfold lm;rfl
theorem fz_Z {oh:OH}(z:Int):FzA oh true (.agg [V.con (.bool (decide (z < 0))),.ro true (tn (lm z.natAbs))]) (tZ z):=fz_agg2 (.con _) (.ro true _ fun h=>h)
theorem lm_len {n k:Nat}(h:n < 4294967296 ^ k):(lm n).length≤k:=by
 rcases can_lm n with h1|h1
 ·rw [h1];simp
 ·by_cases h2:lm n=[]
  ·rw [h2];simp
  ·have:=can_low (can_lm n) h2
   rw [val_lm] at this
   have h3:4294967296 ^ ((lm n).length - 1) < 4294967296 ^ k:=Nat.lt_of_le_of_lt this h
   have:=(Nat.pow_lt_pow_iff_right (by decide:1 < 4294967296)).1 h3
   omega
end Go.Ev
