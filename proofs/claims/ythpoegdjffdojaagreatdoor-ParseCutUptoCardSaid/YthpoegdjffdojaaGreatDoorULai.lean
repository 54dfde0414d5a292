import Derived.Test.YthpoegdjffdojaaGreatDoorULah
set_option linter.all false
set_option maxHeartbeats 4000000
set_option maxRecDepth 10000
namespace Go.Ev
open Go.Proofs
theorem bc (oh:OH)(p:List UInt32):eV oh [(0,⟨1,p.map cu,0,true⟩)]:=by
 refine⟨fun v hv=>?_,trivial⟩;obtain⟨u,_,rfl⟩:=D4.1 hv;trivial
theorem vw (a b:List UInt32)(ha:a.length<=1099511627776)(hb:b.length<=1099511627776):Ok Tryz.prog 102 [tn a,tn b] true (tn (lm (val a * val b))):=by
 refine aw bN mix Tryz.func102 rfl rfl B1 (zO rfl) ?_;have hna:=norm_le a;have hnb:=norm_le b
 repeat'(first|(with_reducible first|(refine zz ?_;try intro K hK)|refine zi ?_|refine zh ?_)|((first|apply hK _ _ rfl|apply hK);clear hK K)|(guard_hyp hK;first|refine zy ?_|apply ab|apply aa|(refine aY ?_;intro hu)|refine zP wA ?_|(refine aD ?_;intro hm1 hm2)|refine zP aZ ?_|refine zP rfl ?_|(refine zQ (eo a A8) ?_)|(refine zQ (eo b A8) ?_)|intro b0 hb)|((first|refine zj ?_|guard_hyp hK);refine zY ?_ ?_;all_goals(intro hb;(try simp only [sb] at hb);try exact ao)))
 rw [<- bX a,<- bX b];have hx:(norm a).length<=1099511627776:=by omega
 have hy:(norm b).length<=1099511627776:=by omega
 clear hna hnb;generalize norm a=x at *;generalize norm b=y at *
 refine aT (Int×List UInt32) (fun(i,p)=>⟨Tryz.f102.ntmps,[(1,.ro false (tn y)),(5,.own 0 0 0 (x.length+y.length)),(21,.ro false (tn x)),(22,.af (.int .i64 ((x.map bw).length:Nat))),(23,.af (.int .i64 i))],[(0,⟨1,p.map cu,0,true⟩)]⟩)
  (fun(i,p)=>0<=i/\i<=x.length/\p.length=x.length+y.length/\val p=val (x.take i.toNat) * val y) (fun(i,p)=>(x.length - i).toNat) [] (0,List.replicate (x.length+y.length) 0) trivial ⟨by omega,by omega,by simp,?_⟩ ⟨rfl,⟨rfl,trivial,?_,rfl,rfl,trivial,rfl,trivial,rfl,trivial,trivial⟩,⟨?_,trivial⟩,bc _ _⟩ ?_
 ·rw [vD];simp [val]
 ·show V.own _ _ _ _=_;simp only [List.length_map]
  congr 1
 ·show some _=some _
  congr 1
  congr 1
  simp only [List.length_map];rw [List.map_replicate,show((x.length:Int)+(y.length:Int)).toNat=x.length+y.length by omega];rfl
 rintro⟨i,p⟩ ⟨h0,h1,hpl,hpv⟩
 repeat'(first|(with_reducible first|(refine zz ?_;try intro K hK)|refine zi ?_|refine zh ?_)|((first|apply hK _ _ rfl|apply hK);clear hK K)|(guard_hyp hK;first|refine zy ?_|apply ab|apply aa|(refine aY ?_;intro hu)|refine zP wA ?_|(refine aD ?_;intro hm1 hm2)|refine zP aZ ?_|refine zP rfl ?_|intro b0 hb)|((first|refine zj ?_|guard_hyp hK);refine zY ?_ ?_;all_goals(intro hb;(try simp only [sb] at hb);try exact ao)))
 ·refine aT (Nat×List UInt32×Nat) (fun(k,q,c)=>⟨Tryz.f102.ntmps,[(1,.ro false (tn y)),(5,.own 0 0 0 (x.length+y.length)),(6,.af (.int .i64 i)),(7,.af (.int .u32 (x.getD i.toNat default).toNat)),(8,.af (.int .u64 c)),(21,.ro false (tn x)),(22,.af (.int .i64 ((x.map bw).length:Nat))),(23,.af (.int .i64 i)),(28,.ro false (tn y)),(29,.af (.int .i64 ((y.map bw).length:Nat))),(30,.af (.int .i64 k))],[(0,⟨1,q.map cu,0,true⟩)]⟩)
   (fun(k,q,c)=>k<=y.length/\q.length=x.length+y.length/\c < 4294967296/\val q+c * 4294967296 ^ (i.toNat+k)=val p+(x.getD i.toNat default).toNat * val (y.take k) * 4294967296 ^ i.toNat/\q.drop (i.toNat+k)=p.drop (i.toNat+k)) (fun(k,q,c)=>y.length - k) [] (0,p,0) trivial ⟨by omega,hpl,by decide,by simp [val],rfl⟩ ⟨rfl,⟨rfl,trivial,rfl,rfl,rfl,trivial,rfl,trivial,rfl,trivial,rfl,trivial,rfl,trivial,rfl,trivial,rfl,trivial,rfl,trivial,rfl,trivial,trivial⟩,⟨rfl,trivial⟩,bc _ _⟩ ?_
  rintro⟨k,q,c⟩ ⟨g0,g1,g2,g3,g4⟩
  repeat'(first|(with_reducible first|(refine zz ?_;try intro K hK)|refine zi ?_|refine zh ?_)|((first|apply hK _ _ rfl|apply hK);clear hK K)|(guard_hyp hK;first|refine zy ?_|apply ab|apply aa|(refine aY ?_;intro hu)|refine zP wA ?_|(refine aD ?_;intro hm1 hm2)|refine zP aZ ?_|refine zP rfl ?_|intro b0 hb)|((first|refine zj ?_|guard_hyp hK);refine zY ?_ ?_;all_goals(intro hb;(try simp only [sb] at hb);try exact ao)))
  ·have ej:(0+(i+(k:Int)).toNat)=i.toNat+k:=by omega
   have ek:((k:Int)).toNat=k:=rfl;rw [ej] at hu;rw [ek] at hm1 hm2;obtain⟨xi,hxi⟩:∃n,(x.getD i.toNat default).toNat=n:=⟨_,rfl⟩
   obtain⟨yk,hyk⟩:∃n,(y.getD k default).toNat=n:=⟨_,rfl⟩
   obtain⟨qj,hqj⟩:∃n,(q.getD (i.toNat+k) default).toNat=n:=⟨_,rfl⟩
   have hstep:=Lp (p:=p) (p':=q) (y:=y) (xi:=xi) (c:=c) (i:=i.toNat) (k:=k) (t:=c+(xi * yk+qj)) A8 A8 (by rw [<- hxi];exact g3) (by rw [hyk,hqj])
   have hT:c+(xi * yk+qj) < 18446744073709551616:=by
    rw [hxi,hyk] at hm2;have hm2':((xi * yk:Nat):Int)<=18446744065119617025:=by rw [X5];exact hm2
    omega
   refine⟨(k+1,q.set (i.toNat+k) (UInt32.ofNat (c+(xi * yk+qj))),(c+(xi * yk+qj)) / 4294967296),⟨by omega,by rw [O3];exact g1,by omega,?ga,?gb⟩,by show y.length - (k+1) < y.length - k;omega,rfl,⟨rfl,trivial,rfl,rfl,rfl,trivial,rfl,trivial,?gc,trivial,rfl,trivial,rfl,trivial,rfl,trivial,rfl,trivial,rfl,trivial,rfl,trivial,trivial⟩,⟨?gd,trivial⟩,bc _ _⟩
   case ga=>rw [show i.toNat+(k+1)=i.toNat+k+1 by omega,hxi];exact hstep
   case gb=>rw [show i.toNat+(k+1)=i.toNat+k+1 by omega];exact vP g4
   case gc=>
    refine B4 (fun n=>V.af (.int .u64 n)) (?_:Int.fdiv ((c:Int)+(((x.getD i.toNat default).toNat:Int) * ((y.getD ((k:Int)).toNat default).toNat:Int)+((q.getD (0+(i+(k:Int)).toNat) default).toNat:Int))) (2 ^ (min (32:Int).toNat IntKind.u64.bits))=_);rw [ej,ek,hxi,hyk,hqj];have e2:((2:Int) ^ (min (32:Int).toNat IntKind.u64.bits))=((4294967296:Nat):Int):=rfl;rw [e2,show((c:Int)+((xi:Int) * (yk:Int)+(qj:Int)))=((c+(xi * yk+qj):Nat):Int) by simp];exact(Int.ofNat_fdiv _ _).symm
   case gd=>
    refine B4 (fun l=>some (Obj.mk 1 l 0 true)) (?_:(q.map cu).set (0+(i+(k:Int)).toNat) (V.af (.int .u32 (IntKind.u32.wrap ((c:Int)+(((x.getD i.toNat default).toNat:Int) * ((y.getD ((k:Int)).toNat default).toNat:Int)+((q.getD (0+(i+(k:Int)).toNat) default).toNat:Int))))))=_);rw [ej,ek,hxi,hyk,hqj,Y0,show((c:Int)+((xi:Int) * (yk:Int)+(qj:Int)))=((c+(xi * yk+qj):Nat):Int) by simp,wrap32 A8];rfl
  ·have hkk:k=y.length:=by omega
   subst hkk;have ej:(0+(i+((y.map bw).length:Int)).toNat)=i.toNat+y.length:=by rw [List.length_map];omega
   rw [J0] at g3;have hc32:(UInt32.ofNat c).toNat=c:=by simp;omega
   refine⟨(i+1,q.set (i.toNat+y.length) (UInt32.ofNat c)),⟨by omega,by omega,by rw [O3];exact g1,?ga⟩,by show((x.length:Int) - (i+1)).toNat < ((x.length:Int) - i).toNat;omega,rfl,⟨rfl,trivial,rfl,rfl,rfl,trivial,rfl,trivial,rfl,trivial,trivial⟩,⟨?gd,trivial⟩,bc _ _⟩
   case ga=>
    rw [show(i+1).toNat=i.toNat+1 by omega];exact Pa A8 A8 hpv (by rw [hc32];exact g3) g4
   case gd=>
    refine B4 (fun l=>some (Obj.mk 1 l 0 true)) (?_:(q.map cu).set (0+(i+((y.map bw).length:Int)).toNat) (V.af (.int .u32 (c:Int)))=_);rw [ej,Y0];refine B4 (fun v=>(q.map cu).set _ v) ?_;show _=V.af (.int .u32 (((UInt32.ofNat c).toNat:Nat):Int));rw [hc32]
 ·have hii:i.toNat=x.length:=by omega
  rw [hii,J0] at hpv;refine Or.inl (Sk _ (Sk _ (Sk _ (UO (iu p A8) (Sk [(0,?o)] (UO (uC ?ho) (UO ?z (UO rfl ?_))))))))
  case ho=>exact rfl
  case z=>
   refine DZ (gW (l:=p) (F:=fun x=>V.af (.int .u32 x.toNat)) (G:=bw) rfl rfl rfl hpl ?_ (fun a _=>gp _) rfl);show List.take _ (List.drop 0 (p.map cu))=_;rw [F4,B7 (by rw [List.length_map];omega)];rfl
  repeat'(first|(with_reducible first|(refine zz ?_;try intro K hK)|refine zi ?_|refine zh ?_)|((first|apply hK _ _ rfl|apply hK);clear hK K)|(guard_hyp hK;first|refine zy ?_|apply ab|apply aa|(refine aY ?_;intro hu)|refine zP wA ?_|(refine aD ?_;intro hm1 hm2)|refine zP aZ ?_|refine zP rfl ?_|intro b0 hb)|((first|refine zj ?_|guard_hyp hK);refine zY ?_ ?_;all_goals(intro hb;(try simp only [sb] at hb);try exact ao)))
  exact UO trivial (kr (by rw [bL,hpv]) fun h=>h)
theorem US (l:List UInt32){n:Nat}(h:l.length<=n):l.getD n 0=0:=by simp [List.getD,Q6 h]
theorem vE (l:List UInt32)(i:Nat):val (l.drop i)=(l.getD i 0).toNat+4294967296 * val (l.drop (i+1)):=by
 by_cases h:i < l.length
 ·rw [F7 h,val];simp [List.getD,h]
 ·rw [I7 A8,I7 A8,US l A8];rfl
theorem mR (l:List UInt32)(i:Nat):val l=val (l.take i)+4294967296 ^ i * val (l.drop i):=by
 by_cases h:i<=l.length
 ·conv=>lhs;rw [<- L1 i l]
  rw [dN,List.length_take,I5 h]
 ·rw [B7 A8,I7 A8];simp [val]
def tI (n:Bool)(m:List UInt32):T:=.agg [.af (.bool n),tn m]
def iv (n:Bool)(m:List UInt32):Int:=if n then -(val m:Int) else val m
def tZ (z:Int):T:=tI (decide (z < 0)) (lm z.natAbs)
theorem yY {oh:OH}{f:Bool}{v1 v2:V}{t1 t2:T}(h1:jF oh f v1 t1)(h2:jF oh f v2 t2):gM oh f (.agg [v1,v2]) (.agg [t1,t2]):=by
 refine⟨rfl,fun j v t a b=>?_⟩
 match j with
 |0=>simp at a b;subst a;subst b;exact h1
 |1=>simp at a b;subst a;subst b;exact h2
 |j+2=>simp at a
theorem lU {P:Program}{fn:Func}{f:Bool}{r:T}{s:St}{a t id ver sz:Nat}{l:List V}{fs:List (Nat×Nat)}{z:List Value}(hr:fn.results.toList=[.cell a t])(ht:tk P t=.st fs z)(hz:z.length=l.length)(h0:0 < l.length)
  (ha:aA s.env a=.ref id ver 0 0) (ho:ae s.oh id=some ⟨sz,[.agg l],ver,true⟩) (hf:gM s.oh f (.agg l) r):kz P fn f r .ret s:=by
 refine⟨trivial,?_⟩;rw [hr];show rj (tk P t) s.oh (aA s.env a) _;rw [ha,ht];show use s.oh id ver _;unfold use;rw [ho];refine⟨rfl,rfl,.agg l,rfl,by simp only [TK.size];omega,by simp only [TK.size,V.cells];omega,?_⟩;show gM s.oh f (V.cz true ((l.drop 0).take z.length)) r;rw [F4,hz,J0];exact hf
theorem gV (n:Nat):lm n=[]↔n=0:=by
 constructor
 ·intro h;have:=bM n;rw [h] at this;simpa [val] using this.symm
 ·intro h;subst h;unfold lm;rfl
theorem WN {oh:OH}(z:Int):gM oh true (.agg [V.af (.bool (decide (z < 0))),.ro true (tn (lm z.natAbs))]) (tZ z):=yY (.af _) (.ro true _ fun h=>h)
theorem uF {n k:Nat}(h:n < 4294967296 ^ k):(lm n).length<=k:=by
 rcases vc n with h1|h1
 ·rw [h1];simp
 ·by_cases h2:lm n=[]
  ·rw [h2];simp
  ·have:=sH (vc n) h2;rw [bM] at this;have h3:4294967296 ^ ((lm n).length - 1) < 4294967296 ^ k:=N4 this h;have:=(Nat.pow_lt_pow_iff_right (by decide:1 < 4294967296)).1 h3;omega
theorem gY {l:List UInt32}{i:Nat}(h:i < l.length):val (l.drop i)=(l.getD i default).toNat+4294967296 * val (l.drop (i+1)):=by
 rw [F7 h,val];simp [List.getD,h]
theorem nK {p:List UInt32}{i:Nat}{q:UInt32}(h:i < p.length):(p.set i q).drop i=q :: p.drop (i+1):=by
 rw [F7 (by simpa using h),List.drop_set_of_lt A8];simp
theorem Js (T n:Nat):(T:Int).tmod (n:Int)=((T % n:Nat):Int):=rfl
theorem Jy (T n:Nat):(T:Int).tdiv (n:Int)=((T / n:Nat):Int):=rfl
theorem BX {l o:List UInt32}{i d r q r':Nat}(hl:i < l.length)(ho:i < o.length)(h:val (l.drop (i+1))=d * val (o.drop (i+1))+r)(hq:q < 4294967296)(hr:r * 4294967296+(l.getD i default).toNat=d * q+r') :
  val (l.drop i)=d * val ((o.set i (UInt32.ofNat q)).drop i)+r':=by
 rw [gY hl,h,nK ho,val,E9,E2 hq,H3,H3];have e1:4294967296 * (d * val (o.drop (i+1)))=d * (4294967296 * val (o.drop (i+1))):=by rw [<- J2,<- J2,E0 4294967296 d]
 omega
theorem qo {p:List UInt32}{i q:Nat}(h:q < 4294967296):(p.map cu).set i (V.af (.int .u32 (q:Nat)))=(p.set i (UInt32.ofNat q)).map cu:=by
 rw [Y0]
 congr 1
 show _=V.af (.int .u32 ((UInt32.ofNat q).toNat:Nat));rw [E9,E2 h]
theorem oT {p:List UInt32}{i:Nat}{q:UInt32}:(p.map cu).set i (V.af (.int .u32 (q.toNat:Nat)))=(p.set i q).map cu:=by
 rw [Y0];rfl
def ig : Nat->Nat->List UInt32
 |0,_=>[]
 |n+1,v=>UInt32.ofNat v :: ig n (v / 4294967296)
theorem eJ : ∀(n v:Nat),(ig n v).length=n
 |0,_=>rfl
 |n+1,v=>by rw [ig,B9,eJ]
theorem ma : ∀(p:List UInt32),ig p.length (val p)=p
 | []=>rfl
 |x :: r=>by
  have hx:=E6 x;rw [B9,ig,val,show(x.toNat+4294967296 * val r) / 4294967296=val r by omega,ma r]
  congr 1
  refine M9.1 ?_;rw [E9];omega
theorem ja : ∀(n v:Nat),v < 4294967296 ^ n->val (ig n v)=v
 |0,v,h=>by simp at h;subst h;rfl
 |n+1,v,h=>by
  rw [ig,val,E9,ja n _ (by rw [H9] at h;exact P4 (by rw [E0];exact h))];omega
theorem or_eq {a x:Nat}(ha:a < 4294967296)(hx:x < 4294967296):IntKind.u64.wrap (((BitVec.ofInt 64 ((a:Int) * 4294967296) |||BitVec.ofInt 64 (x:Int)).toNat:Nat):Int)=((a * 4294967296+x:Nat):Int):=by
 have e1:BitVec.ofInt 64 ((a:Int) * 4294967296)=BitVec.ofNat 64 (a * 4294967296):=by
  rw [show((a:Int) * 4294967296)=((a * 4294967296:Nat):Int) by simp];exact R8 ..
 have e2:BitVec.ofInt 64 (x:Int)=BitVec.ofNat 64 x:=R8 ..
 have e3:(a * 4294967296) |||x=a * 4294967296+x:=by
  have:=Nat.shiftLeft_add_eq_or_of_lt (b:=x) (i:=32) A8 a;rw [Nat.shiftLeft_eq] at this;exact this.symm
 rw [e1,e2,BitVec.toNat_or,Q5,Q5,E2 A8,E2 A8,e3];exact(fU A8 A8).symm
theorem AM {a:Int}{Q:Int->Prop}(h0:0<=a)(h1:a < 4294967296)(h:Q (a * 4294967296)):∃r,r=IntKind.u64.wrap (a * 2 ^ (min (32:Int).toNat IntKind.u64.bits))/\Q r:=by
 refine⟨_,?_,h⟩;show a * 4294967296=IntKind.u64.wrap (a * 4294967296);exact fU A8 A8
theorem Gp (l:List UInt32):∀e ∈ l.map cu,e.oU:=by
 intro e he;obtain⟨x,-,rfl⟩:=D4.1 he;trivial
theorem Jd {l q:List UInt32}(h:q.length=l.length):∀x ∈ [(⟨0,1,l.map cu,q.map cu⟩:MO)],0 < x.sz/\x.a.length=x.b.length/\(∀e ∈ x.a,e.oU)/\(∀e ∈ x.b,e.oU):=by
 intro x hx;obtain rfl:=HQ.1 hx;exact⟨Nat.zero_lt_one,by simp [h],Gp l,Gp q⟩
theorem yF (x:MO):([x].map (·.id)).Nodup:=by simp
theorem JS (l:List UInt32)(d:UInt32)(hd:d.toNat≠0)(hl:l.length<=1099511627776)(h0:l≠[]) :
  TP Tryz.prog 50 [⟨0,1,l.map cu,(ig l.length (val l / d.toNat)).map cu⟩] [.own 0 0 0 l.length,.af (.int .u32 d.toNat)] true (.af (.int .u32 (val l % d.toNat:Nat))):=by
 have hdl:=E6 d;have hpos:0 < l.length:=G3.2 h0;refine nk bN mix Tryz.func50 rfl rfl B1 B1 (zO rfl) ?wf ?nd ?_
 case wf=>exact Jd (eJ _ _)
 case nd=>exact yF _
 repeat'(first|(with_reducible first|(refine zz ?_;try intro K hK)|refine zi ?_|refine zh ?_)|((first|apply hK _ _ rfl|apply hK);clear hK K)|(guard_hyp hK;first|refine zy ?_|apply ab|apply aa|(refine aY ?_;intro hu)|refine zP wA ?_|(refine aD ?_;intro hm1 hm2)|refine zP aZ ?_|refine zP rfl ?_|intro b0 hb)|((first|refine zj ?_|guard_hyp hK);refine zY ?_ ?_;all_goals(intro hb;(try simp only [sn,sb] at hb);try exact ao)))
 refine aT (Int×List UInt32×Nat) (fun(i,p,r)=>⟨Tryz.f50.ntmps,[(0,.own 0 0 0 l.length),(1,.af (.int .u32 d.toNat)),(5,.af (.int .u64 r)),(6,.af (.int .i64 i))],[(0,⟨1,p.map cu,0,true⟩)]⟩)
  (fun(i,p,r)=>-1<=i/\i < l.length/\p.length=l.length/\r < d.toNat/\p.take (i+1).toNat=l.take (i+1).toNat/\val (l.drop (i+1).toNat)=d.toNat * val (p.drop (i+1).toNat)+r) (fun(i,p,r)=>(i+1).toNat) [] ((l.length:Int) - 1,l,0) trivial ⟨by omega,by omega,rfl,by omega,rfl,?_⟩ ⟨rfl,⟨rfl,rfl,rfl,trivial,rfl,trivial,rfl,trivial,trivial⟩,⟨rfl,trivial⟩,bc _ _⟩ ?_
 ·rw [show((l.length:Int) - 1+1).toNat=l.length by omega,O6];rfl
 rintro⟨i,p,r⟩ ⟨h0,h1,hpl,h2,h3,h4⟩
 repeat'(first|(refine AM A8 A8 ?_)|(with_reducible first|(refine zz ?_;try intro K hK)|refine zi ?_|refine zh ?_)|((first|apply hK _ _ rfl|apply hK);clear hK K)|(guard_hyp hK;first|refine zy ?_|apply ab|apply aa|(refine aY ?_;intro hu)|refine zP wA ?_|(refine aD ?_;intro hm1 hm2)|refine zP aZ ?_|refine zP rfl ?_|intro b0 hb)|((first|refine zj ?_|guard_hyp hK);refine zY ?_ ?_;all_goals(intro hb;(try simp only [sn,sb] at hb);try exact ao)))
 ·obtain⟨n,rfl⟩:∃n:Nat,i=n:=⟨i.toNat,by omega⟩
  have e1:((n:Int)+1).toNat=n+1:=by omega
  rw [e1] at h3 h4
  have hxl:p.getD n default=l.getD n default:=by
   have:=B4 (fun q=>List.getD q n default) h3;simpa [List.getD,L7] using this
  obtain⟨x,hx⟩:∃x,(l.getD n default).toNat=x:=⟨_,rfl⟩
  have hxb:x < 4294967296:=by rw [<- hx];exact E6 _
  obtain⟨D,hD⟩:∃D,d.toNat=D:=⟨_,rfl⟩
  rw [hD] at hd h2 h4 hdl;have hT:=M0 (r * 4294967296+x) D;have hm:=J9 (r * 4294967296+x) (I9 hd)
  have hq:(r * 4294967296+x) / D < 4294967296:=by
   rw [N2 (I9 hd)];have:(r+1) * 4294967296<=D * 4294967296:=F6 _ h2;rw [E0 4294967296 D];omega
  obtain⟨Q,hQ⟩:∃Q,(r * 4294967296+x) / D=Q:=⟨_,rfl⟩
  have hq2:Q < 4294967296:=by rw [<- hQ];exact hq
  have hor:=or_eq (a:=r) (x:=x) A8 hxb;refine⟨((n:Int) - 1,p.set n (UInt32.ofNat ((r * 4294967296+x) / D)),(r * 4294967296+x) % D),⟨by omega,by omega,by rw [O3];exact hpl,by rw [hD];exact hm,?gt,?ga⟩,by show((n:Int) - 1+1).toNat < ((n:Int)+1).toNat;omega,rfl,⟨rfl,rfl,rfl,trivial,?gc,trivial,rfl,trivial,trivial⟩,⟨?gd,trivial⟩,bc _ _⟩
  case gt=>
   rw [show((n:Int) - 1+1).toNat=n by omega,List.take_set_of_le (wU _)];have:=B4 (List.take n) h3
   rwa [J3,J3,I5 A8] at this
  case ga=>
   rw [show((n:Int) - 1+1).toNat=n by omega,hD];exact BX (d:=D) (r:=r) A8 A8 h4 hq (by rw [hx];omega)
  case gc=>
   refine B4 (fun n=>V.af (.int .u64 n)) (?_:(IntKind.u64.wrap (((BitVec.ofInt 64 ((r:Int) * 4294967296) |||BitVec.ofInt 64 ((p.getD (0+n) default).toNat:Int)).toNat:Nat):Int)).tmod (d.toNat:Int)=_);rw [C2,hxl,hx,hor,hD,Js]
  case gd=>
   refine B4 (fun l=>some (Obj.mk 1 l 0 true)) (?_:(p.map cu).set (0+n) (V.af (.int .u32 (IntKind.u32.wrap (IntKind.u64.wrap ((IntKind.u64.wrap (((BitVec.ofInt 64 ((r:Int) * 4294967296) |||BitVec.ofInt 64 ((p.getD (0+n) default).toNat:Int)).toNat:Nat):Int)).tdiv (d.toNat:Int))))))=_);rw [C2,hxl,hx,hor,hD,Jy,hQ,<- fU (a:=((Q:Nat):Int)) A8 A8,wrap32 (L8 _),K4,oT]
 ·have e1:(i+1).toNat=0:=by omega
  rw [e1,F4,F4] at h4
  have hv:val p=val l / d.toNat/\r=val l % d.toNat:=by
   rw [h4];constructor
   ·rw [X1 (I9 hd),N6 h2,H8]
   ·rw [U5,E2 h2]
  have hp:p=ig l.length (val l / d.toNat):=by rw [<- hv.1,<- hpl,ma]
  refine⟨trivial,?_,?_,⟨Tryz.f50.ntmps,[(4,.af (.int .u32 r))],[]⟩,⟨rfl,⟨?_,trivial,trivial⟩,trivial,trivial⟩,?_,trivial,ay ?_⟩
  ·intro y hy;obtain rfl:=HQ.1 hy;exact B4 (fun l=>some (Obj.mk 1 (l.map cu) 0 true)) hp
  ·intro y hy;obtain rfl:=HQ.1 hy;exact⟨0,.own 0 0 0 l.length,rfl,rfl,rfl,rfl,hpos⟩
  ·rfl
  ·intro y hy;rfl
  ·rw [hv.2]
def bl (t:Nat):Nat:=if t=0 then 0 else Nat.log2 t+1
theorem jt (l:List UInt32)(k:Nat):val l / 4294967296 ^ k=val (l.drop k):=by
 rw [mR l k,E0 (4294967296 ^ k),Nat.add_mul_div_right _ _ (M3 B3)];have h1:=dZ (l.take k);have h2:4294967296 ^ (l.take k).length<=4294967296 ^ k:=K8 B3 (by rw [List.length_take];omega);rw [N6 A8];omega
theorem Cc {a b:Nat}(h:0<=qW a b):b<=a:=by
 rcases G8 a b with h1|h1
 ·rw [zo h1] at h;omega
 ·exact h1
theorem Mq {a b:Nat}(h:qW a b < 0):a < b:=by
 rcases G8 a b with h1|h1
 ·exact h1
 ·unfold qW at h;rw [if_neg A8] at h;split at h<;>omega
theorem wW {a b:Nat}(h:a < b):(lm a).length<=(lm b).length:=by
 rcases G8 (lm b).length (lm a).length with h1|h1
 ·have:=kX (vc a) h1;rw [bM,bM] at this;omega
 ·exact h1
theorem fL {a b:Nat}(h:a<=b):(lm a).length<=(lm b).length:=by
 rcases G8 a b with h1|h1
 ·exact wW h1
 ·rw [Nat.le_antisymm h h1];exact wU _
def m10 : List UInt32->Nat->List UInt32
 | [],c=>if c=0 then [] else [UInt32.ofNat c]
 |x :: r,c=>UInt32.ofNat ((c+10 * x.toNat) % 4294967296) :: m10 r ((c+10 * x.toNat) / 4294967296)
theorem EN : ∀(l:List UInt32) (c:Nat),c < 4294967296->val (m10 l c)=c+10 * val l
 | [],c,h=>by
  unfold m10;split
  ·rename_i e;subst e;rfl
  ·show(UInt32.ofNat c).toNat+4294967296 * 0=c+10 * 0;rw [E9,E2 h]
 |x :: r,c,h=>by
  have hx:=E6 x;rw [m10,val,EN r _ A8,val,E9,E2 A8];omega
theorem FL : ∀(l:List UInt32) (c:Nat),(m10 l c).length<=l.length+1
 | [],c=>by unfold m10;split<;>simp
 |x :: r,c=>by rw [m10,B9,B9];have:=FL r ((c+10 * x.toNat) / 4294967296);omega
def cg (s:ByteArray):Option Nat:=if s.size≠0/\(bs s).all ak=true then some (eg (bs s)) else none
theorem OX {s:ByteArray}{i:Nat}(h:i < s.size)(hd:ak (ax s i)=false):cg s=none:=by
 unfold cg;refine if_neg fun h9=>?_
 have h2:i < (bs s).length:=by rw [aU];exact h
 have h3:=(F8.1 h9.2) (bs s)[i] (G9 h2)
 unfold ax at hd;rw [List.getD,uz h2] at hd;rw [show(some (bs s)[i]).getD 0=(bs s)[i] from rfl,h3] at hd;cases hd
theorem pj {s:ByteArray}(h:s.size≠0)(hd:∀i,i < s.size->ak (ax s i)=true):cg s=some (eg (bs s)):=by
 unfold cg;refine if_pos ⟨h,F8.2 fun b hb=>?_⟩;obtain⟨i,hi,rfl⟩:=L6.1 hb;have:=hd i (by rw [<- aU];exact hi);unfold ax at this;rw [List.getD,uz hi] at this;exact this
def tP : Option Nat->T
 |some n=>.ba [tn (lm n),.af (.int .i64 0)]
 |none=>.ba [tn [],.af (.int .i64 10)]
theorem uU (oh:OH)(l:List UInt32):∀v ∈ l.map cu,v.cl oh:=by
 intro v hv;obtain⟨x,-,rfl⟩:=D4.1 hv;trivial
variable {W : fA}
theorem VP : T.sl []=tn (lm 0):=by rw [show lm 0=[] from by simp [lm]];rfl
structure Fit (W:fA):Prop where
 len:W.L.length<=1073741824
 fQ:∀t ∈ W.L,t.text.size<=1073741824
theorem Fit.tok {σ:PS W}{t:Tok}(h:Fit W)(ht:σ.tok=some t):t.text.size<=1073741824:=h.fQ t (MH (PS.aX ht).2.1)
def V.kx (v:V):Prop:=∃x,v=.af x\/∃f t,v=.ro f t
theorem sK {oh oh1:OH}{l:List V}(h:∀v ∈ l,v.kx):vB oh oh1 (.agg l) (.agg l):=by
 refine⟨rfl,fun j x y hx hy=>?_⟩;rw [hx] at hy;obtain rfl:x=y:=by simpa using hy
 exact Mz (h x (MH hx))
theorem gq : ∀v ∈ ([]:List V),v.kx:=fun v h=>by simp at h
theorem dR {x:Value}{l:List V}(h:∀v ∈ l,v.kx):∀v ∈ V.af x :: l,v.kx:=by
 intro v hv;rcases B5.1 hv with rfl|hv
 ·exact⟨x,.inl rfl⟩
 ·exact h v hv
theorem cr {f:Bool}{t:T}{l:List V}(h:∀v ∈ l,v.kx):∀v ∈ V.ro f t :: l,v.kx:=by
 intro v hv;rcases B5.1 hv with rfl|hv
 ·exact⟨default,.inr ⟨f,t,rfl⟩⟩
 ·exact h v hv
def sZ (v:PS.dW):V:=.agg [.af (.string v.name),.ro false (tn (lm v.count)),.ro false (jO v.dL),.ro false (jO v.aN)]
end Go.Ev
namespace Go.Ev
open Go.Proofs
variable {W : fA}
open PS (cE)
def tA (z:Int)(d:Nat):T:=.agg [.af (.bool (decide (z < 0))),tn (lm z.natAbs),tn (lm d)]
def vT (t:cE):V:=.agg [.af (.int .i8 t.kind),.af (.bool (decide (t.z < 0))),.ro false (tn (lm t.z.natAbs)),.ro false (tn (lm t.d))]
def tT (t:cE):T:=.agg [.af (.int .i8 t.kind),.af (.bool (decide (t.z < 0))),tn (lm t.z.natAbs),tn (lm t.d)]
def CG (l:List cE):T:=.sl (l.map tT)
theorem kE (t:cE):(vT t).flat:=by
 intro v hv;simp at hv;rcases hv with rfl|rfl|rfl|rfl<;>trivial
theorem jR (l:List cE):∀e ∈ l.map vT,e.flat:=by
 intro e he;obtain⟨w,-,rfl⟩:=D4.1 he;exact kE w
theorem jk {oh oh1:OH}{v:V}(h:v.flat):vB oh oh1 v v:=by
 cases v with
 |agg l=>
  refine⟨rfl,fun j x y hx hy=>?_⟩;rw [hx] at hy;obtain rfl:x=y:=by simpa using hy
  have:=h x (MH hx)
  cases x with
  |af x=>exact .af _
  |ro f t=>exact .ro _ _
  |emp=>exact .emp
  |_=>exact this.elim
 |af x=>exact mO.af _
 |ro f t=>exact mO.ro _ _
 |emp=>exact mO.emp
 |_=>exact h.elim
theorem sL {α:Type}{F:α->V}{l:List α}{a b n:Nat}(h:∀x,(F x).cells.length=n):∀y ∈ ((l.map F).drop a).take b,y.cells.length=n:=by
 intro y hy;obtain⟨x,-,rfl⟩:=D4.1 (List.mem_of_mem_drop (J5 hy));exact h x
theorem dw (σ:PS W)(k:Int)(w:ByteArray):σ.settle.du k w=σ.du k w:=by
 cases ht:σ.tok with
 |some t=>rw [PS.az ht]
 |none=>
  rw [pA ht];refine pA ?_ k w;have:=PS.jc ht;unfold PS.tok
  cases hb:σ.settle.bad with
  |none=>exact absurd hb this
  |some f=>rfl
theorem sJ (σ:PS W):σ.settle.settle=σ.settle:=by
 cases ht:σ.tok with
 |some t=>rw [PS.az ht,PS.az ht]
 |none=>
  have:=PS.jc ht
  cases hb:σ.settle.bad with
  |none=>exact absurd hb this
  |some f=>rw [PS.settle.eq_def σ.settle,hb]
theorem pq {oh oh1:OH}(k:Int):LV oh oh1 (.agg [.af (.int .i8 k),.af (.bool false),.emp,.emp]) (vT ⟨k,0,0⟩):=by
 have h:∀oh oh1:OH,Lc oh oh1 .emp (.ro false (tn (lm 0))):=fun oh oh1=>Lc.vM false _ (tn (lm 0)) (Gc VP iT.emp)
 exact gg ⟨Lc.same _ trivial,Lc.same _ trivial,h _ _,h _ _,trivial⟩
theorem pt {oh oh1:OH}{v n m w:Nat}{l l2 l':List cE}{k:Int}{e:V}(h:ae oh 3=some ⟨4,((l.map vT).take n ++ ((l2.map vT).drop 0).take m).take w ++ [e],v,true⟩)(hn:n=l.length)(hm:m=l2.length)(hw:w=n+m)(hl':l'=l ++ l2 ++ [⟨k,0,0⟩])(hl:LV oh oh1 e (vT ⟨k,0,0⟩)) :
  rW oh oh1 3 ⟨4,l'.map vT,v,true⟩:=by
 have e1:(l.map vT).take n ++ ((l2.map vT).drop 0).take m=(l ++ l2).map vT:=by
  rw [F4,B7 (by rw [List.length_map];omega),B7 (by rw [List.length_map];omega),G7]
 rw [e1] at h;exact kj (F:=vT) (l:=l ++ l2) (a:=⟨k,0,0⟩) h (by rw [List.length_append];omega) hl' (fun x _=>kE x) hl
end Go.Ev
namespace Go.Ev
open Go.Proofs
theorem LF (n:Bool)(m:List UInt32):(iv n m).natAbs=val m:=by unfold iv;split<;>omega
def oR (z:Int):Int:=if z=0 then 0 else if z < 0 then -1 else 1
def tR (n:Bool)(m d:List UInt32):T:=.agg [.af (.bool n),tn m,tn d]
theorem DQ : lm 1=[1]:=by unfold lm;rw [if_neg B3];unfold lm;rfl
def qz (z:Int)(d:Nat):Int:=z.tdiv (Nat.gcd z.natAbs d)
def qd (z:Int)(d:Nat):Nat:=d / Nat.gcd z.natAbs d
def tQ (z:Int)(d:Nat):T:=tR (decide (qz z d < 0)) (lm (qz z d).natAbs) (lm (qd z d))
theorem SF (n:Bool)(m g:Nat):iv n (lm (m / g))=(iv n (lm m)).tdiv g:=by
 unfold iv;rw [bM,bM];cases n
 ·rfl
 ·show -((m / g:Nat):Int)=(-(m:Int)).tdiv g;rw [Int.neg_tdiv];rfl
theorem UZ (n:Bool)(a:List UInt32):iv n (lm (val a))=iv n a:=by unfold iv;rw [bM]
theorem kQ (a:List UInt32):(lm (val a)).length<=a.length:=by rw [<- bL];exact norm_le a
theorem Fp {z:Int}{d:Nat}{oh:OH}:gM oh true (.agg [V.af (.bool (decide (qz z d < 0))),.ro true (tn (lm (qz z d).natAbs)),.ro true (tn (lm (qd z d)))]) (tQ z d):=by
 refine⟨rfl,fun j v t a b=>?_⟩
 match j with
 |0=>simp at a;simp [tQ,tR] at b;subst a;subst b;exact .af _
 |1=>simp at a;simp [tQ,tR] at b;subst a;subst b;exact .ro true _ fun h=>h
 |2=>simp at a;simp [tQ,tR] at b;subst a;subst b;exact .ro true _ fun h=>h
 |j+3=>simp at a
theorem pd (n:Nat):(lm (10 ^ n)).length<=n+1:=by
 refine uF (N4 (P9 (show 10<=4294967296 by decide) n) (Nat.pow_lt_pow_right B3 (T7 n)))
theorem Lw : lm 10=[10]:=by rw [show(10:Nat)=val [10] from rfl,<- bL];rfl
theorem Jw {P T n R:Nat}(h:P * T ^ n=R):(n % 2=1->P * T * (T * T) ^ (n / 2)=R)/\(n % 2=0->P * (T * T) ^ (n / 2)=R):=by
 have e:(T * T) ^ (n / 2)=T ^ (2 * (n / 2)):=by rw [<- Nat.pow_two,<- Nat.pow_mul]
 constructor
 ·intro h2;rw [e,J2,<- h]
  congr 1
  rw [E0,<- H9]
  congr 1
  omega
 ·intro h2;rw [e,<- h]
  congr 2
  omega
structure lu (w:ByteArray):Prop where
 TJ:ak (ax w 0)=true
 len:aS w=w.size
 Yo:kh w=false
 pos:1<=w.size
def fb (w:ByteArray):Nat:=ar ak w 0
def vG (w:ByteArray):Prop:=(ax w (ar ak w 0)).toNat=46/\0 < ar ak w (ar ak w 0+1)
instance  (w:ByteArray):Decidable (vG w):=inferInstanceAs (Decidable (_/\_))
def lJ (w:ByteArray):Nat:=if vG w then ar ak w (fb w+1) else 0
def dH (w:ByteArray):List UInt8:=(bs w).take (fb w) ++ ((bs w).drop (fb w+1)).take (lJ w)
def mC (w:ByteArray):Nat:=eg (bs (sub w (bJ w) (ar ak w (bJ w))))
def lI (w:ByteArray):Int:=if eM w then(if(ax w (aI w+1)).toNat=45 then -(mC w:Int) else mC w) else 0
def pH (w:ByteArray):Nat:=if 0<=lI w - lJ w then eg (dH w) * 10 ^ (lI w - lJ w).toNat else eg (dH w)
def pI (w:ByteArray):Nat:=if 0<=lI w - lJ w then 1 else 10 ^ (-(lI w - lJ w)).toNat
def dV (w:ByteArray):Int×Nat:=(qz (pH w) (pI w),qd (pH w) (pI w))
theorem cI {s:ByteArray}{i j k:Nat}(h:i+k < j):ax (s.extract i j) k=ax s (i+k):=by
 have:=Fb (s:=s) (i:=i) (n:=j - i) (j:=k) A8;unfold sub at this;rw [show i+(j - i)=j by omega] at this;exact this
theorem dQ {s:ByteArray}{i j:Nat}(h:j<=s.size):(s.extract i j).size=j - i:=by
 rw [F5];omega
theorem cZ (s:ByteArray)(i j:Nat):bs (s.extract i j)=((bs s).drop i).take (j - i):=by
 unfold bs;rw [V4,T3,T8]
theorem qX {s t:ByteArray}(h:bs s=bs t):s=t:=P1 (W5.1 h)
theorem ll : ∀(l:List UInt8) (v:Nat),l.foldl (fun v b=>10 * v+(b.toNat - 48)) v < (v+1) * 256 ^ l.length
 | [],v=>by simp
 |b :: r,v=>by
  have hb:=T2 b;have ih:=ll r (10 * v+(b.toNat - 48));rw [List.foldl_cons,B9,H9];refine L0 ih ?_;rw [E0 (256 ^ r.length) 256,<- J2];exact F6 _ A8
theorem Mo (l:List UInt8):(lm (eg l)).length<=l.length:=by
 refine uF ?_;have:=ll l 0;rw [C2,Q1] at this;exact L0 this (P9 B3 _)
section
variable {w : ByteArray} (h : lu w)
include h
theorem Lm : 1<=fb w:=by
 have:=fj (p:=ak) h.pos h.TJ;unfold fb;omega
theorem wO : fb w<=w.size:=by
 have:=fC (p:=ak) (s:=w) (i:=0) (C0 _);unfold fb;omega
theorem ur : aI w=fb w+(if vG w then 1+lJ w else 0):=by
 by_cases c:vG w
 ·have e1:aI w=ar ak w 0+1+ar ak w (ar ak w 0+1):=if_pos c;have e2:lJ w=ar ak w (ar ak w 0+1):=if_pos c;rw [if_pos c,e1,e2];unfold fb;omega
 ·have e1:aI w=ar ak w 0:=if_neg c;rw [if_neg c,e1];rfl
theorem HP (c:eM w):aI w+1<=bJ w/\bJ w+ar ak w (bJ w)=w.size/\0 < ar ak w (bJ w)/\mC w<=1000:=by
 have h1:=h.len;have h2:=h.Yo;unfold aS at h1;rw [if_pos c] at h1;unfold kh at h2;rw [F9 c,L5] at h2;have h3:=U7 h2;refine⟨by unfold bJ;split<;>omega,h1,c.2,by unfold mC;omega⟩
theorem UL (c:¬eM w):aI w=w.size:=by
 have h1:=h.len;unfold aS at h1;rw [if_neg c] at h1;exact h1
theorem Ss {j:Nat}(hj:j < fb w):ak (ax w j)=true:=by
 have:=tJ (p:=ak) (s:=w) (i:=0) (j:=j) hj;rw [C2] at this;exact this
theorem OS (c:vG w){j:Nat}(hj:j < lJ w):ak (ax w (fb w+1+j))=true:=by
 unfold lJ at hj;rw [if_pos c] at hj;exact tJ hj
theorem Ll (c:vG w):(ax w (fb w)).toNat=46/\0 < lJ w:=by
 unfold lJ;rw [if_pos c];exact c
end
end Go.Ev
