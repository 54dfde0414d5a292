import Derived.Test.YtppbdmkbhalmpaaGreatDoorLag
import Derived.Test.YtppbdmkbhalmpaaGreatDoorEvP
import Derived.Test.YtppbdmkbhalmpaaGreatDoorLaf
import Derived.Test.YtppbdmkbhalmpaaGreatDoorLah
set_option linter.all false
set_option maxHeartbeats 4000000
set_option maxRecDepth 10000
namespace Go.Ev
open Go.Proofs
theorem clObjs_cu (oh:OH)(p:List UInt32):clObjs oh [(0,⟨1,p.map cu,0,true⟩)]:=by
 refine⟨fun v hv=>?_,trivial⟩
 obtain⟨u,_,rfl⟩:=List.mem_map.1 hv
 trivial
theorem Mul_ok (a b:List UInt32)(ha:a.length≤1099511627776)(hb:b.length≤1099511627776):Ok Tryz.prog 72 [tn a,tn b] true (tn (lm (val a * val b))):=by
 refine ok_of_ev hC0 mix Tryz.func72 rfl rfl (by kernel_rfl) (zO rfl) ?_
 have hna:=norm_le a
 have hnb:=norm_le b
 repeat'(first|(with_reducible first|(refine zz ?_;try intro K hK)|refine zI ?_|refine zt ?_|refine zf ?_)|((first|refine hK _ ?_|refine hK _ _ rfl ?_);clear hK K)|(guard_hyp hK;first|(refine zY ?zz ?_;case zz=>first|exact rfl|exact gI)|refine fresh_n ?_|refine freshO_n ?_|(refine at_Q ?_;intro hu)|refine zP wA ?_|(refine mul_Q ?_;intro hm1 hm2)|refine zP at_M ?_|refine zP rfl ?_|(refine zQ (trim_ok a (by omega)) ?_)|(refine zQ (trim_ok b (by omega)) ?_)|intro b0 hb)|((first|with_reducible refine zm ?_|guard_hyp hK);refine zY ?_ ?_;all_goals(intro hb;(try simp only [sb] at hb);try exact ex0)))
 rw [← val_norm a,← val_norm b]
 have hx:(norm a).length≤1099511627776:=by omega
 have hy:(norm b).length≤1099511627776:=by omega
 clear hna hnb
 generalize norm a=x at *
 generalize norm b=y at *
 refine loop_i (Int×List UInt32) (fun(i,p)=>⟨Tryz.f72.ntmps,[(1,.ro false (tn y)),(5,.own 0 0 0 (x.length+y.length)),(21,.ro false (tn x)),(22,.con (.int .i64 ((x.map tu32).length:Nat))),(23,.con (.int .i64 i))],[(0,⟨1,p.map cu,0,true⟩)]⟩)
  (fun(i,p)=>0≤i∧i≤x.length∧p.length=x.length+y.length∧val p=val (x.take i.toNat) * val y) (fun(i,p)=>(x.length - i).toNat) [] (0,List.replicate (x.length+y.length) 0) trivial ⟨by omega,by omega,by simp,?_⟩ ⟨rfl,⟨rfl,trivial,?_,rfl,rfl,trivial,rfl,trivial,rfl,trivial,trivial⟩,⟨?_,trivial⟩,clObjs_cu _ _⟩ ?_
 ·rw [val_replicate];simp [val]
 ·show V.own _ _ _ _=_
  simp only [List.length_map]
  congr 1
 ·show some _=some _
  congr 1
  congr 1
  simp only [List.length_map]
  rw [List.map_replicate,show((x.length:Int)+(y.length:Int)).toNat=x.length+y.length by omega]
  rfl
 rintro⟨i,p⟩ ⟨h0,h1,hpl,hpv⟩
 repeat'(first|(with_reducible first|(refine zz ?_;try intro K hK)|refine zI ?_|refine zt ?_|refine zf ?_)|((first|refine hK _ ?_|refine hK _ _ rfl ?_);clear hK K)|(guard_hyp hK;first|(refine zY ?zz ?_;case zz=>first|exact rfl|exact gI)|refine fresh_n ?_|refine freshO_n ?_|(refine at_Q ?_;intro hu)|refine zP wA ?_|(refine mul_Q ?_;intro hm1 hm2)|refine zP at_M ?_|refine zP rfl ?_|intro b0 hb)|((first|with_reducible refine zm ?_|guard_hyp hK);refine zY ?_ ?_;all_goals(intro hb;(try simp only [sb] at hb);try exact ex0)))
 ·refine loop_i (Nat×List UInt32×Nat) (fun(k,q,c)=>⟨Tryz.f72.ntmps,[(1,.ro false (tn y)),(5,.own 0 0 0 (x.length+y.length)),(6,.con (.int .i64 i)),(7,.con (.int .u32 (x.getD i.toNat default).toNat)),(8,.con (.int .u64 c)),(21,.ro false (tn x)),(22,.con (.int .i64 ((x.map tu32).length:Nat))),(23,.con (.int .i64 i)),(28,.ro false (tn y)),(29,.con (.int .i64 ((y.map tu32).length:Nat))),(30,.con (.int .i64 k))],[(0,⟨1,q.map cu,0,true⟩)]⟩)
   (fun(k,q,c)=>k≤y.length∧q.length=x.length+y.length∧c < 4294967296∧val q+c * 4294967296 ^ (i.toNat+k)=val p+(x.getD i.toNat default).toNat * val (y.take k) * 4294967296 ^ i.toNat∧q.drop (i.toNat+k)=p.drop (i.toNat+k)) (fun(k,q,c)=>y.length - k) [] (0,p,0) trivial ⟨by omega,hpl,by decide,by simp [val],rfl⟩ ⟨rfl,⟨rfl,trivial,rfl,rfl,rfl,trivial,rfl,trivial,rfl,trivial,rfl,trivial,rfl,trivial,rfl,trivial,rfl,trivial,rfl,trivial,rfl,trivial,trivial⟩,⟨rfl,trivial⟩,clObjs_cu _ _⟩ ?_
  rintro⟨k,q,c⟩ ⟨g0,g1,g2,g3,g4⟩
  repeat'(first|(with_reducible first|(refine zz ?_;try intro K hK)|refine zI ?_|refine zt ?_|refine zf ?_)|((first|refine hK _ ?_|refine hK _ _ rfl ?_);clear hK K)|(guard_hyp hK;first|(refine zY ?zz ?_;case zz=>first|exact rfl|exact gI)|refine fresh_n ?_|refine freshO_n ?_|(refine at_Q ?_;intro hu)|refine zP wA ?_|(refine mul_Q ?_;intro hm1 hm2)|refine zP at_M ?_|refine zP rfl ?_|intro b0 hb)|((first|with_reducible refine zm ?_|guard_hyp hK);refine zY ?_ ?_;all_goals(intro hb;(try simp only [sb] at hb);try exact ex0)))
  ·have ej:(0+(i+(k:Int)).toNat)=i.toNat+k:=by omega
   have ek:((k:Int)).toNat=k:=rfl
   rw [ej] at hu
   rw [ek] at hm1 hm2
   obtain⟨xi,hxi⟩:∃n,(x.getD i.toNat default).toNat=n:=⟨_,rfl⟩
   obtain⟨yk,hyk⟩:∃n,(y.getD k default).toNat=n:=⟨_,rfl⟩
   obtain⟨qj,hqj⟩:∃n,(q.getD (i.toNat+k) default).toNat=n:=⟨_,rfl⟩
   have hstep:=mul_step (p:=p) (p':=q) (y:=y) (xi:=xi) (c:=c) (i:=i.toNat) (k:=k) (t:=c+(xi * yk+qj)) (by omega) (by omega) (by rw [← hxi];exact g3) (by rw [hyk,hqj])
   have hT:c+(xi * yk+qj) < 18446744073709551616:=by
    rw [hxi,hyk] at hm2
    have hm2':((xi * yk:Nat):Int)≤18446744065119617025:=by rw [Int.natCast_mul];exact hm2
    omega
   refine⟨(k+1,q.set (i.toNat+k) (UInt32.ofNat (c+(xi * yk+qj))),(c+(xi * yk+qj)) / 4294967296),⟨by omega,by rw [List.length_set];exact g1,by omega,?ga,?gb⟩,by show y.length - (k+1) < y.length - k;omega,rfl,⟨rfl,trivial,rfl,rfl,rfl,trivial,rfl,trivial,?gc,trivial,rfl,trivial,rfl,trivial,rfl,trivial,rfl,trivial,rfl,trivial,rfl,trivial,trivial⟩,⟨?gd,trivial⟩,clObjs_cu _ _⟩
   case ga=>rw [show i.toNat+(k+1)=i.toNat+k+1 by omega,hxi];exact hstep
   case gb=>rw [show i.toNat+(k+1)=i.toNat+k+1 by omega];exact drop_set_succ g4
   case gc=>
    refine congrArg (fun n=>V.con (.int .u64 n)) (?_:Int.fdiv ((c:Int)+(((x.getD i.toNat default).toNat:Int) * ((y.getD ((k:Int)).toNat default).toNat:Int)+((q.getD (0+(i+(k:Int)).toNat) default).toNat:Int))) (2 ^ (min (32:Int).toNat IntKind.u64.bits))=_)
    rw [ej,ek,hxi,hyk,hqj]
    have e2:((2:Int) ^ (min (32:Int).toNat IntKind.u64.bits))=((4294967296:Nat):Int):=rfl
    rw [e2,show((c:Int)+((xi:Int) * (yk:Int)+(qj:Int)))=((c+(xi * yk+qj):Nat):Int) by simp]
    exact(Int.ofNat_fdiv _ _).symm
   case gd=>
    refine congrArg (fun l=>some (Obj.mk 1 l 0 true)) (?_:(q.map cu).set (0+(i+(k:Int)).toNat) (V.con (.int .u32 (IntKind.u32.wrap ((c:Int)+(((x.getD i.toNat default).toNat:Int) * ((y.getD ((k:Int)).toNat default).toNat:Int)+((q.getD (0+(i+(k:Int)).toNat) default).toNat:Int))))))=_)
    rw [ej,ek,hxi,hyk,hqj,List.map_set,show((c:Int)+((xi:Int) * (yk:Int)+(qj:Int)))=((c+(xi * yk+qj):Nat):Int) by simp,wrap32 (by omega)]
    rfl
  ·have hkk:k=y.length:=by omega
   subst hkk
   have ej:(0+(i+((y.map tu32).length:Int)).toNat)=i.toNat+y.length:=by rw [List.length_map];omega
   rw [List.take_length] at g3
   have hc32:(UInt32.ofNat c).toNat=c:=by simp;omega
   refine⟨(i+1,q.set (i.toNat+y.length) (UInt32.ofNat c)),⟨by omega,by omega,by rw [List.length_set];exact g1,?ga⟩,by show((x.length:Int) - (i+1)).toNat < ((x.length:Int) - i).toNat;omega,rfl,⟨rfl,trivial,rfl,rfl,rfl,trivial,rfl,trivial,rfl,trivial,trivial⟩,⟨?gd,trivial⟩,clObjs_cu _ _⟩
   case ga=>
    rw [show(i+1).toNat=i.toNat+1 by omega]
    exact mul_end (by omega) (by omega) hpv (by rw [hc32];exact g3) g4
   case gd=>
    refine congrArg (fun l=>some (Obj.mk 1 l 0 true)) (?_:(q.map cu).set (0+(i+((y.map tu32).length:Int)).toNat) (V.con (.int .u32 (c:Int)))=_)
    rw [ej,List.map_set]
    refine congrArg (fun v=>(q.map cu).set _ v) ?_
    show _=V.con (.int .u32 (((UInt32.ofNat c).toNat:Nat):Int))
    rw [hc32]
 ·have hii:i.toNat=x.length:=by omega
  rw [hii,List.take_length] at hpv
  refine Or.inl (Exists.intro _ (Exists.intro _ (Exists.intro _ (And.intro (own_ok p (by omega)) (Exists.intro [(0,?o)] (And.intro (lpre1 ?ho) (And.intro ?z (And.intro rfl ?_))))))))
  case ho=>exact rfl
  case z=>
   refine fzl1 (fz_own (l:=p) (F:=fun x=>V.con (.int .u32 x.toNat)) (G:=tu32) rfl rfl rfl hpl ?_ (fun a _=>fze_con _) rfl)
   show List.take _ (List.drop 0 (p.map cu))=_
   rw [List.drop_zero,List.take_of_length_le (by rw [List.length_map];omega)]
   rfl
  repeat'(first|(with_reducible first|(refine zz ?_;try intro K hK)|refine zI ?_|refine zt ?_|refine zf ?_)|((first|refine hK _ ?_|refine hK _ _ rfl ?_);clear hK K)|(guard_hyp hK;first|(refine zY ?zz ?_;case zz=>first|exact rfl|exact gI)|refine fresh_n ?_|refine freshO_n ?_|(refine at_Q ?_;intro hu)|refine zP wA ?_|(refine mul_Q ?_;intro hm1 hm2)|refine zP at_M ?_|refine zP rfl ?_|intro b0 hb)|((first|with_reducible refine zm ?_|guard_hyp hK);refine zY ?_ ?_;all_goals(intro hb;(try simp only [sb] at hb);try exact ex0)))
  exact And.intro trivial (fz_ro (by rw [norm_lm,hpv]) fun h=>h)
theorem limb0 (l:List UInt32){n:Nat}(h:l.length≤n):l.getD n 0=0:=by simp [List.getD,List.getElem?_eq_none h]
theorem val_drop_succ (l:List UInt32)(i:Nat):val (l.drop i)=(l.getD i 0).toNat+4294967296 * val (l.drop (i+1)):=by
 by_cases h:i < l.length
 ·rw [List.drop_eq_getElem_cons h,val]
  simp [List.getD,h]
 ·rw [List.drop_eq_nil_of_le (by omega),List.drop_eq_nil_of_le (by omega),limb0 l (by omega)];rfl
theorem val_split (l:List UInt32)(i:Nat):val l=val (l.take i)+4294967296 ^ i * val (l.drop i):=by
 by_cases h:i≤l.length
 ·conv=>lhs;rw [← List.take_append_drop i l]
  rw [val_append,List.length_take,Nat.min_eq_left h]
 ·rw [List.take_of_length_le (by omega),List.drop_eq_nil_of_le (by omega)];simp [val]
def tI (n:Bool)(m:List UInt32):T:=.agg [.con (.bool n),tn m]
def iv (n:Bool)(m:List UInt32):Int:=if n then -(val m:Int) else val m
def tZ (z:Int):T:=tI (decide (z < 0)) (lm z.natAbs)
theorem fz_agg2 {oh:OH}{f:Bool}{v1 v2:V}{t1 t2:T}(h1:Fz1 oh f v1 t1)(h2:Fz1 oh f v2 t2):FzA oh f (.agg [v1,v2]) (.agg [t1,t2]):=by
 refine⟨rfl,fun j v t a b=>?_⟩
 match j with
 |0=>simp at a b;subst a;subst b;exact h1
 |1=>simp at a b;subst a;subst b;exact h2
 |j+2=>simp at a
theorem ret_cell {P:Program}{fn:Func}{f:Bool}{r:T}{s:St}{a t id ver sz:Nat}{l:List V}{fs:List (Nat×Nat)}{z:List Value}(hr:fn.results.toList=[.cell a t])(ht:tk P t=.st fs z)(hz:z.length=l.length)(h0:0 < l.length)
  (ha:eget s.env a=.ref id ver 0 0) (ho:oget s.oh id=some ⟨sz,[.agg l],ver,true⟩) (hf:FzA s.oh f (.agg l) r):RetOK P fn f r .ret s:=by
 refine⟨trivial,?_⟩
 rw [hr]
 show sload (tk P t) s.oh (eget s.env a) _
 rw [ha,ht]
 show use s.oh id ver _
 unfold use
 rw [ho]
 refine⟨rfl,rfl,.agg l,rfl,by simp only [TK.size];omega,by simp only [TK.size,V.cells];omega,?_⟩
 show FzA s.oh f (V.ofCells true ((l.drop 0).take z.length)) r
 rw [List.drop_zero,hz,List.take_length]
 exact hf
theorem lm_nil_iff (n:Nat):lm n=[]↔n=0:=by
 constructor
 ·intro h;have:=val_lm n;rw [h] at this;simpa [val] using this.symm
 ·intro h;subst h;unfold lm;rfl
theorem fz_Z {oh:OH}(z:Int):FzA oh true (.agg [V.con (.bool (decide (z < 0))),.ro true (tn (lm z.natAbs))]) (tZ z):=fz_agg2 (.con _) (.ro true _ fun h=>h)
theorem lm_len {n k:Nat}(h:n < 4294967296 ^ k):(lm n).length≤k:=by
 rcases can_lm n with h1|h1
 ·rw [h1];simp
 ·by_cases h2:lm n=[]
  ·rw [h2];simp
  ·have:=can_low (can_lm n) h2
   rw [val_lm] at this
   have h3:4294967296 ^ ((lm n).length - 1) < 4294967296 ^ k:=Nat.lt_of_le_of_lt this h
   have:=(Nat.pow_lt_pow_iff_right (by decide:1 < 4294967296)).1 h3
   omega
theorem val_drop_step {l:List UInt32}{i:Nat}(h:i < l.length):val (l.drop i)=(l.getD i default).toNat+4294967296 * val (l.drop (i+1)):=by
 rw [List.drop_eq_getElem_cons h,val];simp [List.getD,h]
theorem drop_set_self {p:List UInt32}{i:Nat}{q:UInt32}(h:i < p.length):(p.set i q).drop i=q :: p.drop (i+1):=by
 rw [List.drop_eq_getElem_cons (by simpa using h),List.drop_set_of_lt (by omega)];simp
theorem tmodn (T n:Nat):(T:Int).tmod (n:Int)=((T % n:Nat):Int):=rfl
theorem tdivn (T n:Nat):(T:Int).tdiv (n:Int)=((T / n:Nat):Int):=rfl
theorem div_step {l o:List UInt32}{i d r q r':Nat}(hl:i < l.length)(ho:i < o.length)(h:val (l.drop (i+1))=d * val (o.drop (i+1))+r)(hq:q < 4294967296)(hr:r * 4294967296+(l.getD i default).toNat=d * q+r') :
  val (l.drop i)=d * val ((o.set i (UInt32.ofNat q)).drop i)+r':=by
 rw [val_drop_step hl,h,drop_set_self ho,val,UInt32.toNat_ofNat',Nat.mod_eq_of_lt hq,Nat.mul_add,Nat.mul_add]
 have e1:4294967296 * (d * val (o.drop (i+1)))=d * (4294967296 * val (o.drop (i+1))):=by rw [← Nat.mul_assoc,← Nat.mul_assoc,Nat.mul_comm 4294967296 d]
 omega
theorem set_cu {p:List UInt32}{i q:Nat}(h:q < 4294967296):(p.map cu).set i (V.con (.int .u32 (q:Nat)))=(p.set i (UInt32.ofNat q)).map cu:=by
 rw [List.map_set]
 congr 1
 show _=V.con (.int .u32 ((UInt32.ofNat q).toNat:Nat))
 rw [UInt32.toNat_ofNat',Nat.mod_eq_of_lt h]
theorem set_cu2 {p:List UInt32}{i:Nat}{q:UInt32}:(p.map cu).set i (V.con (.int .u32 (q.toNat:Nat)))=(p.set i q).map cu:=by
 rw [List.map_set];rfl
def padL : Nat→Nat→List UInt32
 |0,_=>[]
 |n+1,v=>UInt32.ofNat v :: padL n (v / 4294967296)
theorem padL_len : ∀(n v:Nat),(padL n v).length=n
 |0,_=>rfl
 |n+1,v=>by rw [padL,List.length_cons,padL_len]
theorem padL_val : ∀(p:List UInt32),padL p.length (val p)=p
 | []=>rfl
 |x :: r=>by
  have hx:=UInt32.toNat_lt x
  rw [List.length_cons,padL,val,show(x.toNat+4294967296 * val r) / 4294967296=val r by omega,padL_val r]
  congr 1
  refine UInt32.toNat_inj.1 ?_
  rw [UInt32.toNat_ofNat'];omega
theorem val_padL : ∀(n v:Nat),v < 4294967296 ^ n→val (padL n v)=v
 |0,v,h=>by simp at h;subst h;rfl
 |n+1,v,h=>by
  rw [padL,val,UInt32.toNat_ofNat',val_padL n _ (by rw [Nat.pow_succ] at h;exact Nat.div_lt_of_lt_mul (by rw [Nat.mul_comm];exact h))]
  omega
theorem or_eq {a x:Nat}(ha:a < 4294967296)(hx:x < 4294967296):IntKind.u64.wrap (((BitVec.ofInt 64 ((a:Int) * 4294967296) |||BitVec.ofInt 64 (x:Int)).toNat:Nat):Int)=((a * 4294967296+x:Nat):Int):=by
 have e1:BitVec.ofInt 64 ((a:Int) * 4294967296)=BitVec.ofNat 64 (a * 4294967296):=by
  rw [show((a:Int) * 4294967296)=((a * 4294967296:Nat):Int) by simp];exact BitVec.ofInt_natCast ..
 have e2:BitVec.ofInt 64 (x:Int)=BitVec.ofNat 64 x:=BitVec.ofInt_natCast ..
 have e3:(a * 4294967296) |||x=a * 4294967296+x:=by
  have:=Nat.shiftLeft_add_eq_or_of_lt (b:=x) (i:=32) (by omega) a
  rw [Nat.shiftLeft_eq] at this
  exact this.symm
 rw [e1,e2,BitVec.toNat_or,BitVec.toNat_ofNat,BitVec.toNat_ofNat,Nat.mod_eq_of_lt (by omega),Nat.mod_eq_of_lt (by omega),e3]
 exact(wrapU64 (by omega) (by omega)).symm
theorem shl32 {a:Int}{Q:Int→Prop}(h0:0≤a)(h1:a < 4294967296)(h:Q (a * 4294967296)):∃r,r=IntKind.u64.wrap (a * 2 ^ (min (32:Int).toNat IntKind.u64.bits))∧Q r:=by
 refine⟨_,?_,h⟩
 show a * 4294967296=IntKind.u64.wrap (a * 4294967296)
 exact wrapU64 (by omega) (by omega)
theorem cu_scal (l:List UInt32):∀e ∈ l.map cu,e.scal:=by
 intro e he
 obtain⟨x,-,rfl⟩:=List.mem_map.1 he
 trivial
theorem wf_cu {l q:List UInt32}(h:q.length=l.length):∀x ∈ [(⟨0,1,l.map cu,q.map cu⟩:MO)],0 < x.sz∧x.a.length=x.b.length∧(∀e ∈ x.a,e.scal)∧(∀e ∈ x.b,e.scal):=by
 intro x hx
 obtain rfl:=List.mem_singleton.1 hx
 exact⟨Nat.zero_lt_one,by simp [h],cu_scal l,cu_scal q⟩
theorem nd_one (x:MO):([x].map (·.id)).Nodup:=by simp
theorem small_ok (l:List UInt32)(d:UInt32)(hd:d.toNat≠0)(hl:l.length≤1099511627776)(h0:l≠[]) :
  OkM Tryz.prog 104 [⟨0,1,l.map cu,(padL l.length (val l / d.toNat)).map cu⟩] [.own 0 0 0 l.length,.con (.int .u32 d.toNat)] true (.con (.int .u32 (val l % d.toNat:Nat))):=by
 have hdl:=UInt32.toNat_lt d
 have hpos:0 < l.length:=List.length_pos_iff.2 h0
 refine okm_of_ev hC0 mix Tryz.func104 rfl rfl (by kernel_rfl) (by kernel_rfl) (zO rfl) ?wf ?nd ?_
 case wf=>exact wf_cu (padL_len _ _)
 case nd=>exact nd_one _
 repeat'(first|(with_reducible first|(refine zz ?_;try intro K hK)|refine zI ?_|refine zt ?_|refine zf ?_)|((first|refine hK _ ?_|refine hK _ _ rfl ?_);clear hK K)|(guard_hyp hK;first|(refine zY ?zz ?_;case zz=>first|exact rfl|exact gI)|refine fresh_n ?_|refine freshO_n ?_|(refine at_Q ?_;intro hu)|refine zP wA ?_|(refine mul_Q ?_;intro hm1 hm2)|refine zP at_M ?_|refine zP rfl ?_|intro b0 hb)|((first|with_reducible refine zm ?_|guard_hyp hK);refine zY ?_ ?_;all_goals(intro hb;(try simp only [sn,sb] at hb);try exact ex0)))
 refine loop_i (Int×List UInt32×Nat) (fun(i,p,r)=>⟨Tryz.f104.ntmps,[(0,.own 0 0 0 l.length),(1,.con (.int .u32 d.toNat)),(5,.con (.int .u64 r)),(6,.con (.int .i64 i))],[(0,⟨1,p.map cu,0,true⟩)]⟩)
  (fun(i,p,r)=>-1≤i∧i < l.length∧p.length=l.length∧r < d.toNat∧p.take (i+1).toNat=l.take (i+1).toNat∧val (l.drop (i+1).toNat)=d.toNat * val (p.drop (i+1).toNat)+r) (fun(i,p,r)=>(i+1).toNat) [] ((l.length:Int) - 1,l,0) trivial ⟨by omega,by omega,rfl,by omega,rfl,?_⟩ ⟨rfl,⟨rfl,rfl,rfl,trivial,rfl,trivial,rfl,trivial,trivial⟩,⟨rfl,trivial⟩,clObjs_cu _ _⟩ ?_
 ·rw [show((l.length:Int) - 1+1).toNat=l.length by omega,List.drop_length];rfl
 rintro⟨i,p,r⟩ ⟨h0,h1,hpl,h2,h3,h4⟩
 repeat'(first|(refine shl32 (by omega) (by omega) ?_)|(with_reducible first|(refine zz ?_;try intro K hK)|refine zI ?_|refine zt ?_|refine zf ?_)|((first|refine hK _ ?_|refine hK _ _ rfl ?_);clear hK K)|(guard_hyp hK;first|(refine zY ?zz ?_;case zz=>first|exact rfl|exact gI)|refine fresh_n ?_|refine freshO_n ?_|(refine at_Q ?_;intro hu)|refine zP wA ?_|(refine mul_Q ?_;intro hm1 hm2)|refine zP at_M ?_|refine zP rfl ?_|intro b0 hb)|((first|with_reducible refine zm ?_|guard_hyp hK);refine zY ?_ ?_;all_goals(intro hb;(try simp only [sn,sb] at hb);try exact ex0)))
 ·obtain⟨n,rfl⟩:∃n:Nat,i=n:=⟨i.toNat,by omega⟩
  have e1:((n:Int)+1).toNat=n+1:=by omega
  rw [e1] at h3 h4
  have hxl:p.getD n default=l.getD n default:=by
   have:=congrArg (fun q=>List.getD q n default) h3
   simpa [List.getD,List.getElem?_take] using this
  obtain⟨x,hx⟩:∃x,(l.getD n default).toNat=x:=⟨_,rfl⟩
  have hxb:x < 4294967296:=by rw [← hx];exact UInt32.toNat_lt _
  obtain⟨D,hD⟩:∃D,d.toNat=D:=⟨_,rfl⟩
  rw [hD] at hd h2 h4 hdl
  have hT:=Nat.div_add_mod (r * 4294967296+x) D
  have hm:=Nat.mod_lt (r * 4294967296+x) (Nat.pos_of_ne_zero hd)
  have hq:(r * 4294967296+x) / D < 4294967296:=by
   rw [Nat.div_lt_iff_lt_mul (Nat.pos_of_ne_zero hd)]
   have:(r+1) * 4294967296≤D * 4294967296:=Nat.mul_le_mul_right _ h2
   rw [Nat.mul_comm 4294967296 D]
   omega
  obtain⟨Q,hQ⟩:∃Q,(r * 4294967296+x) / D=Q:=⟨_,rfl⟩
  have hq2:Q < 4294967296:=by rw [← hQ];exact hq
  have hor:=or_eq (a:=r) (x:=x) (by omega) hxb
  refine⟨((n:Int) - 1,p.set n (UInt32.ofNat ((r * 4294967296+x) / D)),(r * 4294967296+x) % D),⟨by omega,by omega,by rw [List.length_set];exact hpl,by rw [hD];exact hm,?gt,?ga⟩,by show((n:Int) - 1+1).toNat < ((n:Int)+1).toNat;omega,rfl,⟨rfl,rfl,rfl,trivial,?gc,trivial,rfl,trivial,trivial⟩,⟨?gd,trivial⟩,clObjs_cu _ _⟩
  case gt=>
   rw [show((n:Int) - 1+1).toNat=n by omega,List.take_set_of_le (Nat.le_refl _)]
   have:=congrArg (List.take n) h3
   rwa [List.take_take,List.take_take,Nat.min_eq_left (by omega)] at this
  case ga=>
   rw [show((n:Int) - 1+1).toNat=n by omega,hD]
   exact div_step (d:=D) (r:=r) (by omega) (by omega) h4 hq (by rw [hx];omega)
  case gc=>
   refine congrArg (fun n=>V.con (.int .u64 n)) (?_:(IntKind.u64.wrap (((BitVec.ofInt 64 ((r:Int) * 4294967296) |||BitVec.ofInt 64 ((p.getD (0+n) default).toNat:Int)).toNat:Nat):Int)).tmod (d.toNat:Int)=_)
   rw [Nat.zero_add,hxl,hx,hor,hD,tmodn]
  case gd=>
   refine congrArg (fun l=>some (Obj.mk 1 l 0 true)) (?_:(p.map cu).set (0+n) (V.con (.int .u32 (IntKind.u32.wrap (IntKind.u64.wrap ((IntKind.u64.wrap (((BitVec.ofInt 64 ((r:Int) * 4294967296) |||BitVec.ofInt 64 ((p.getD (0+n) default).toNat:Int)).toNat:Nat):Int)).tdiv (d.toNat:Int))))))=_)
   rw [Nat.zero_add,hxl,hx,hor,hD,tdivn,hQ,← wrapU64 (a:=((Q:Nat):Int)) (by omega) (by omega),wrap32 (Int.natCast_nonneg _),Int.toNat_natCast,set_cu2]
 ·have e1:(i+1).toNat=0:=by omega
  rw [e1,List.drop_zero,List.drop_zero] at h4
  have hv:val p=val l / d.toNat∧r=val l % d.toNat:=by
   rw [h4]
   constructor
   ·rw [Nat.mul_add_div (Nat.pos_of_ne_zero hd),Nat.div_eq_of_lt h2,Nat.add_zero]
   ·rw [Nat.mul_add_mod,Nat.mod_eq_of_lt h2]
  have hp:p=padL l.length (val l / d.toNat):=by rw [← hv.1,← hpl,padL_val]
  refine⟨trivial,?_,?_,⟨Tryz.f104.ntmps,[(4,.con (.int .u32 r))],[]⟩,⟨rfl,⟨?_,trivial,trivial⟩,trivial,trivial⟩,?_,trivial,fz_con ?_⟩
  ·intro y hy
   obtain rfl:=List.mem_singleton.1 hy
   exact congrArg (fun l=>some (Obj.mk 1 (l.map cu) 0 true)) hp
  ·intro y hy
   obtain rfl:=List.mem_singleton.1 hy
   exact⟨0,.own 0 0 0 l.length,rfl,rfl,rfl,rfl,hpos⟩
  ·rfl
  ·intro y hy;rfl
  ·rw [hv.2]
theorem val_div_pow (l:List UInt32)(k:Nat):val l / 4294967296 ^ k=val (l.drop k):=by
 rw [val_split l k,Nat.mul_comm (4294967296 ^ k),Nat.add_mul_div_right _ _ (Nat.pow_pos (by decide))]
 have h1:=val_lt (l.take k)
 have h2:4294967296 ^ (l.take k).length≤4294967296 ^ k:=Nat.pow_le_pow_right (by decide) (by rw [List.length_take];omega)
 rw [Nat.div_eq_of_lt (by omega)];omega
theorem cmpN_ge0 {a b:Nat}(h:0≤cmpN a b):b≤a:=by
 rcases Nat.lt_or_ge a b with h1|h1
 ·rw [cmpN_lt h1] at h;omega
 ·exact h1
theorem cmpN_neg {a b:Nat}(h:cmpN a b < 0):a < b:=by
 rcases Nat.lt_or_ge a b with h1|h1
 ·exact h1
 ·unfold cmpN at h
  rw [if_neg (by omega)] at h
  split at h<;>omega
theorem lm_len_lt {a b:Nat}(h:a < b):(lm a).length≤(lm b).length:=by
 rcases Nat.lt_or_ge (lm b).length (lm a).length with h1|h1
 ·have:=can_len_lt (can_lm a) h1
  rw [val_lm,val_lm] at this;omega
 ·exact h1
theorem lm_len_le {a b:Nat}(h:a≤b):(lm a).length≤(lm b).length:=by
 rcases Nat.lt_or_ge a b with h1|h1
 ·exact lm_len_lt h1
 ·rw [Nat.le_antisymm h h1];exact Nat.le_refl _
def m10 : List UInt32→Nat→List UInt32
 | [],c=>if c=0 then [] else [UInt32.ofNat c]
 |x :: r,c=>UInt32.ofNat ((c+10 * x.toNat) % 4294967296) :: m10 r ((c+10 * x.toNat) / 4294967296)
theorem val_m10 : ∀(l:List UInt32) (c:Nat),c < 4294967296→val (m10 l c)=c+10 * val l
 | [],c,h=>by
  unfold m10
  split
  ·rename_i e;subst e;rfl
  ·show(UInt32.ofNat c).toNat+4294967296 * 0=c+10 * 0
   rw [UInt32.toNat_ofNat',Nat.mod_eq_of_lt h]
 |x :: r,c,h=>by
  have hx:=UInt32.toNat_lt x
  rw [m10,val,val_m10 r _ (by omega),val,UInt32.toNat_ofNat',Nat.mod_eq_of_lt (by omega)]
  omega
theorem m10_len : ∀(l:List UInt32) (c:Nat),(m10 l c).length≤l.length+1
 | [],c=>by unfold m10;split<;>simp
 |x :: r,c=>by rw [m10,List.length_cons,List.length_cons];have:=m10_len r ((c+10 * x.toNat) / 4294967296);omega
def natP (s:ByteArray):Option Nat:=if s.size≠0∧(bs s).all isDig=true then some (decV (bs s)) else none
theorem natP_no {s:ByteArray}{i:Nat}(h:i < s.size)(hd:isDig (chr s i)=false):natP s=none:=by
 unfold natP
 refine if_neg fun h9=>?_
 have h2:i < (bs s).length:=by rw [bs_len];exact h
 have h3:=(List.all_eq_true.1 h9.2) (bs s)[i] (List.getElem_mem h2)
 unfold chr at hd
 rw [List.getD,List.getElem?_eq_getElem h2] at hd
 rw [show(some (bs s)[i]).getD 0=(bs s)[i] from rfl,h3] at hd
 cases hd
theorem natP_yes {s:ByteArray}(h:s.size≠0)(hd:∀i,i < s.size→isDig (chr s i)=true):natP s=some (decV (bs s)):=by
 unfold natP
 refine if_pos ⟨h,List.all_eq_true.2 fun b hb=>?_⟩
 obtain⟨i,hi,rfl⟩:=List.mem_iff_getElem.1 hb
 have:=hd i (by rw [← bs_len];exact hi)
 unfold chr at this
 rw [List.getD,List.getElem?_eq_getElem hi] at this
 exact this
def tP : Option Nat→T
 |some n=>.tup [tn (lm n),.con (.int .i64 0)]
 |none=>.tup [tn [],.con (.int .i64 10)]
theorem cu_cl9 (oh:OH)(l:List UInt32):∀v ∈ l.map cu,v.cl oh:=by
 intro v hv
 obtain⟨x,-,rfl⟩:=List.mem_map.1 hv
 trivial
variable {W : Txt}
theorem lmz : T.sl []=tn (lm 0):=by rw [show lm 0=[] from by simp [lm]];rfl
structure Fit (W:Txt):Prop where
 len:W.L.length≤1073741824
 txt:∀t ∈ W.L,t.text.size≤1073741824
theorem Fit.tok {σ:PS W}{t:Tok}(h:Fit W)(ht:σ.tok=some t):t.text.size≤1073741824:=h.txt t (List.mem_of_getElem? (PS.tok_at ht).2.1)
def V.dat1 (v:V):Prop:=∃x,v=.con x∨∃f t,v=.ro f t
theorem bm_aggD {oh oh1:OH}{l:List V}(h:∀v ∈ l,v.dat1):BmA oh oh1 (.agg l) (.agg l):=by
 refine⟨rfl,fun j x y hx hy=>?_⟩
 rw [hx] at hy
 obtain rfl:x=y:=by simpa using hy
 exact bmC_self (h x (List.mem_of_getElem? hx))
theorem dat_nil : ∀v ∈ ([]:List V),v.dat1:=fun v h=>by simp at h
theorem dat_con {x:Value}{l:List V}(h:∀v ∈ l,v.dat1):∀v ∈ V.con x :: l,v.dat1:=by
 intro v hv
 rcases List.mem_cons.1 hv with rfl|hv
 ·exact⟨x,.inl rfl⟩
 ·exact h v hv
theorem dat_ro {f:Bool}{t:T}{l:List V}(h:∀v ∈ l,v.dat1):∀v ∈ V.ro f t :: l,v.dat1:=by
 intro v hv
 rcases List.mem_cons.1 hv with rfl|hv
 ·exact⟨default,.inr ⟨f,t,rfl⟩⟩
 ·exact h v hv
def vVar (v:PS.VarD):V:=.agg [.con (.string v.name),.ro false (tn (lm v.count)),.ro false (tSs v.vals),.ro false (tSs v.prps)]
end Go.Ev
