import Derived.Test.YthpoegdjffdojaaGreatDoorULas
set_option linter.all false
set_option maxHeartbeats 4000000
set_option maxRecDepth 10000
namespace Go.Ev
open Go.Proofs
def xM (n:Nat):Nat:=if n=0 then 0 else Nat.log2 n+1
def fM (x:Nat):Nat:=
 if x < 65536 then(if x < 256 then xM x else 8+xM (x / 256)) else(if x / 65536 < 256 then 16+xM (x / 65536) else 24+xM (x / 65536 / 256))
theorem uH (x:Nat):fM x=0↔x=0:=by
 have ht:∀n,xM n=0↔n=0:=fun n=>by unfold xM;split<;>simp_all
 unfold fM;split
 ·split
  ·exact ht x
  ·omega
 ·split<;>omega
def Ub : ByteArray:=⟨((List.range 256).map fun n=>UInt8.ofNat (xM n)).toArray⟩
theorem tu {n:Nat}(h:n < 256):xM n<=8:=by
 unfold xM;split
 ·omega
 ·have:=(Nat.log2_lt (by assumption:n≠0) (k:=8)).2 (by simpa using h);omega
theorem Uu {a:Int}{Q:Int->Prop}(ha:0<=a)(h:∀r,r=a / 65536->Q r):∃r,r=a.fdiv (2 ^ (min (16:Int).toNat IntKind.u32.bits))/\Q r:=by
 refine⟨_,rfl,h _ ?_⟩;show a.fdiv 65536=_;exact M6 _ B3
theorem Ws {a:Int}{Q:Int->Prop}(ha:0<=a)(h:∀r,r=a / 256->Q r):∃r,r=a.fdiv (2 ^ (min (8:Int).toNat IntKind.u32.bits))/\Q r:=by
 refine⟨_,rfl,h _ ?_⟩;show a.fdiv 256=_;exact M6 _ B3
theorem Ti (a:Array UInt8)(i:Nat):(ByteArray.mk a)[i]?=a[i]?:=by
 by_cases h:i < a.size
 ·rw [E3 h];exact I2 h
 ·rw [S6 A8];exact O4 h
theorem Ua {n:Int}{Q:UInt8->Prop}(h0:0<=n)(h:n < 256)(k:(UInt8.ofNat (xM n.toNat)).toNat=xM n.toNat->xM n.toNat<=8->Q (UInt8.ofNat (xM n.toNat))):∃b:UInt8,Ub[n.toNat]?=some b/\Q b:=by
 have hl:=tu (n:=n.toNat) A8;refine⟨_,?_,k (by simp;omega) hl⟩;have:Ub[n.toNat]?=((List.range 256).map fun n=>UInt8.ofNat (xM n))[n.toNat]?:=(Ti _ _).trans (L2 ..);rw [this,Zf,L3 A8];rfl
theorem Cs (x:UInt32):Ok Tryz.prog 152 [bw x] true (.af (.int .i64 (fM x.toNat))):=by
 have hx:=E6 x;refine aw bN mix Tryz.func152 rfl rfl B1 (zO rfl) ?_
 repeat'(first|(first|(refine Uu A8 ?_;intro r hr)|(refine Ws A8 ?_;intro r hr)|(refine Ua A8 A8 ?_;intro ht1 ht2))|(with_reducible first|(refine zz ?_;try intro K hK)|refine zi ?_|refine zh ?_)|((first|apply hK _ _ rfl|apply hK);clear hK K)|(guard_hyp hK;first|refine zy ?_|apply ab|apply aa|(refine aY ?_;intro hu)|refine zP wA ?_|(refine aD ?_;intro hm1 hm2)|refine zP aZ ?_|refine zP rfl ?_|intro b0 hb)|((first|refine zj ?_|guard_hyp hK);refine zY ?_ ?_;all_goals(intro hb;(try simp only [sb] at hb);try exact ao)))
 all_goals refine UO trivial (ay (B4 (Value.int .i64) ?_))
 all_goals rw [ht1]
 ·have e:r.toNat=x.toNat / 65536 / 256:=by omega
  rw [e];unfold fM;rw [if_neg A8,if_neg A8];omega
 ·have e:r.toNat=x.toNat / 65536:=by omega
  rw [e];unfold fM;rw [if_neg A8,if_pos A8];omega
 ·have e:r.toNat=x.toNat / 256:=by omega
  rw [e];unfold fM;rw [if_pos A8,if_neg A8];omega
 ·have e:((x.toNat:Int)).toNat=x.toNat:=by omega
  rw [e];unfold fM;rw [if_pos A8,if_pos A8];omega
theorem pw {x:Nat}(h:x < 4294967296):fM x<=32:=by
 unfold fM;split
 ·split
  ·have:=tu (n:=x) A8;omega
  ·have:=tu (n:=x / 256) A8;omega
 ·split
  ·have:=tu (n:=x / 65536) A8;omega
  ·have:=tu (n:=x / 65536 / 256) A8;omega
def rH (l:List UInt32):Nat:=if l=[] then 0 else 32 * (l.length - 1)+fM (l.getD (l.length - 1) default).toNat
theorem Eu {l:List UInt32}(h:Can l):rH l=0↔l=[]:=by
 unfold rH;split
 ·simp_all
 ·rename_i hn
  have h1:l.getD (l.length - 1) default≠0:=by
   rcases h with h|h
   ·exact absurd h hn
   ·exact h
  have h2:(l.getD (l.length - 1) default).toNat≠0:=fun h=>h1 (M9.1 h)
  have:=mt (uH _).1 h2;constructor
  ·intro h;omega
  ·intro h;exact absurd h hn
theorem Yp {a:Int}{n:Nat}{Q:Int->Prop}(h0:0<=a)(h1:a<=4611686018427387904)(h:n<=32)(k:Q (a+n)):∃r,r=IntKind.i64.wrap (a+n)/\Q r:=
 ⟨_,Qu A8 A8,k⟩
theorem Aa (l:List UInt32)(hl:l.length<=2199023255552):Ok Tryz.prog 136 [tn l] true (.af (.int .i64 (rH (norm l)))):=by
 have hn:=norm_le l;refine aw bN mix Tryz.func136 rfl rfl B1 (zO rfl) ?_
 repeat'(first|(refine Yp (by simp only [List.length_map];omega) (by simp only [List.length_map];omega) (pw (E6 _)) ?_)|(with_reducible first|(refine zz ?_;try intro K hK)|refine zi ?_|refine zh ?_)|((first|apply hK _ _ rfl|apply hK);clear hK K)|(guard_hyp hK;first|refine zy ?_|apply ab|apply aa|(refine aY ?_;intro hu)|refine zP wA ?_|(refine aD ?_;intro hm1 hm2)|refine zP aZ ?_|refine zP rfl ?_|(refine zQ (eo l A8) ?_)|(refine zQ (Cs _) ?_)|intro b0 hb)|((first|refine zj ?_|guard_hyp hK);refine zY ?_ ?_;all_goals(intro hb;(try simp only [sb] at hb);try exact ao)))
 ·have h0:norm l=[]:=C8 A8;exact UO trivial (ay (by rw [h0];rfl))
 ·have h0:norm l≠[]:=fun h=>by rw [h] at hb;simp at hb
  refine UO trivial (ay (B4 (Value.int .i64) ?_));rw [List.length_map];have e:(((norm l).length:Int) - 1).toNat=(norm l).length - 1:=by omega
  rw [e];unfold rH;rw [if_neg h0];omega
theorem AL (x:Int):oR x=0/\x=0\/oR x = -1/\x < 0\/oR x=1/\0 < x:=by
 unfold oR;split
 ·exact .inl ⟨rfl,by assumption⟩
 ·split
  ·exact .inr (.inl ⟨rfl,by assumption⟩)
  ·exact .inr (.inr ⟨rfl,by omega⟩)
theorem Qo (n:Bool)(m:List UInt32)(hm:m.length<=2199023255552):Ok Tryz.prog 121 [tI n m] true (.af (.int .i64 (oR (iv n m)))):=by
 have hz:rH (norm m)=0↔val m=0:=by
  rw [Eu (jj m),<- bX m];constructor
  ·intro h;rw [h];rfl
  ·intro h;refine kW (jj m) (.inl rfl) ?_;rw [h];rfl
 refine aw bN mix Tryz.func121 rfl rfl B1 (zO rfl) ?_
 repeat'(first|(with_reducible first|(refine zz ?_;try intro K hK)|refine zi ?_|refine zh ?_)|((first|apply hK _ _ rfl|apply hK);clear hK K)|(guard_hyp hK;first|refine zy ?_|apply ab|apply aa|(refine aY ?_;intro hu)|refine zP wA ?_|(refine aD ?_;intro hm1 hm2)|refine zP aZ ?_|refine zP rfl ?_|(refine zQ (Aa m A8) ?_)|intro b0 hb)|((first|refine zj ?_|guard_hyp hK);refine zY ?_ ?_;all_goals(intro hb;(try simp only [sb] at hb);try exact ao)))
 ·have h0:val m=0:=hz.1 A8;have h1:iv n m=0:=by unfold iv;split<;>omega
  exact UO trivial (ay (by rw [h1];rfl))
 ·rename_i h;have h0:val m≠0:=fun h9=>h (by rw [hz.2 h9];rfl)
  subst hb;have h1:iv true m < 0:=by show -(val m:Int) < 0;omega
  exact UO trivial (ay (by unfold oR;rw [if_neg A8,if_pos h1]))
 ·rename_i h;have h0:val m≠0:=fun h9=>h (by rw [hz.2 h9];rfl)
  subst hb;have h1:0 < iv false m:=by show(0:Int) < val m;omega
  exact UO trivial (ay (by unfold oR;rw [if_neg A8,if_neg A8]))
theorem UI (n:Bool)(m:List UInt32)(hm:m.length<=2199023255552):Ok Tryz.prog 157 [.af (.bool n),tn m] true (tZ (iv n m)):=by
 have hl:=norm_le m;have hn:=bL m;have ez:(iv n m).natAbs=val m:=by unfold iv;split<;>omega
 unfold tZ;rw [ez,<- hn]
 cases n with
 |false=>
  have hd:decide (iv false m < 0)=false:=by simp [iv]
  rw [hd];refine aw bN mix Tryz.func157 rfl rfl B1 (zO rfl) ?_
  repeat'(first|(with_reducible first|(refine zz ?_;try intro K hK)|refine zi ?_|refine zh ?_)|((first|apply hK _ _ rfl|apply hK);clear hK K)|(guard_hyp hK;first|refine zy ?_|apply ab|apply aa|(refine aY ?_;intro hu)|refine zP wA ?_|(refine aD ?_;intro hm1 hm2)|refine zP aZ ?_|refine zP rfl ?_|(refine zQ (GC m A8) ?_)|intro b0 hb)|((first|refine zj ?_|guard_hyp hK);refine zY ?_ ?_;all_goals(intro hb;(try simp only [sb] at hb);try exact ao)))
  exact lU (l:=[.af (.bool false),.ro true (tn (norm m))]) rfl RB rfl (D0 _) rfl rfl (yY (.af _) (.ro true _ fun h=>h))
 |true=>
  refine aw bN mix Tryz.func157 rfl rfl B1 (zO rfl) ?_
  repeat'(first|(with_reducible first|(refine zz ?_;try intro K hK)|refine zi ?_|refine zh ?_)|((first|apply hK _ _ rfl|apply hK);clear hK K)|(guard_hyp hK;first|refine zy ?_|apply ab|apply aa|(refine aY ?_;intro hu)|refine zP wA ?_|(refine aD ?_;intro hm1 hm2)|refine zP aZ ?_|refine zP rfl ?_|(refine zQ (GC m A8) ?_)|intro b0 hb)|((first|refine zj ?_|guard_hyp hK);refine zY ?_ ?_;all_goals(intro hb;(try simp only [sb] at hb);try exact ao)))
  refine lU (l:=[V.af (.bool (decide ((((norm m).map bw).length:Int) > 0))),.ro true (tn (norm m))]) rfl RB rfl (D0 _) rfl rfl (yY (f:=true) (?_:jF _ true (V.af (.bool (decide ((((norm m).map bw).length:Int) > 0)))) _) (.ro true _ fun h=>h))
  have e:decide ((((norm m).map bw).length:Int) > 0)=decide (iv true m < 0):=by
   rw [List.length_map];have h1:=gV (val m);rw [<- hn] at h1;have h2:iv true m = -(val m:Int):=rfl;rw [h2,V9];constructor
   ·intro h;have:norm m≠[]:=fun h9=>by rw [h9] at h;simp at h
    have:val m≠0:=fun h9=>this (h1.2 h9)
    omega
   ·intro h;have:norm m≠[]:=fun h9=>by have:=h1.1 h9;omega
    have:=G3.2 this;omega
  rw [e];exact .af _
theorem si {n:Nat}(h:n≠0):2 ^ (xM n - 1)<=n/\n < 2 ^ xM n:=by
 unfold xM;rw [if_neg h,O5];exact⟨Nat.log2_self_le h,Nat.lt_log2_self⟩
theorem xL {n:Nat}(h:n≠0):1<=xM n:=by
 unfold xM;rw [if_neg h];omega
theorem Dt {x y t k:Nat}(hy:x / 2 ^ k=y)(h1:1<=t)(h:2 ^ (t - 1)<=y/\y < 2 ^ t):2 ^ (k+t - 1)<=x/\x < 2 ^ (k+t):=by
 subst hy;have hp:0 < 2 ^ k:=M3 B3;obtain⟨ha,hb⟩:=h;refine⟨?_,?_⟩
 ·rw [show k+t - 1=(t - 1)+k by omega,P3];exact(Nat.le_div_iff_mul_le hp).1 ha
 ·rw [show k+t=t+k by omega,P3];exact(N2 hp).1 hb
theorem HW {x:Nat}(h0:x≠0):2 ^ (fM x - 1)<=x/\x < 2 ^ fM x:=by
 unfold fM;split
 ·split
  ·exact si h0
  ·have h:x / 256≠0:=by omega
   exact Dt (k:=8) rfl (xL h) (si h)
 ·split
  ·have h:x / 65536≠0:=by omega
   exact Dt (k:=16) rfl (xL h) (si h)
  ·have h:x / 65536 / 256≠0:=by omega
   rw [V2] at h |-;exact Dt (k:=24) rfl (xL h) (si h)
theorem GP {x:Nat}(h0:x≠0)(hx:x < 4294967296):32 - fM x < 32/\2147483648<=x * 2 ^ (32 - fM x)/\(x+1) * 2 ^ (32 - fM x)<=4294967296:=by
 obtain⟨h1,h2⟩:=HW h0;have h3:=pw hx;have h4:fM x≠0:=fun e=>h0 ((uH x).1 e)
 obtain⟨n,hn⟩:∃n,fM x=n:=⟨_,rfl⟩
 rw [hn] at h1 h2 h3 h4 |-;refine⟨by omega,?_,?_⟩
 ·have:=F6 (2 ^ (32 - n)) h1;rw [<- P3,show n - 1+(32 - n)=31 by omega] at this;exact this
 ·have:=F6 (2 ^ (32 - n)) h2;rw [<- P3,show n+(32 - n)=32 by omega] at this;exact this
theorem Io {b:List UInt32}{n s:Nat}(hn:b.length=n)(h1:1<=n)(ht:2147483648<=(b.getD (n - 1) default).toNat * 2 ^ s)(hu:((b.getD (n - 1) default).toNat+1) * 2 ^ s<=4294967296) :
  4294967296 ^ (n - 1) * 2147483648<=val b * 2 ^ s/\val b * 2 ^ s < 4294967296 ^ n:=by
 have hs:=bO b (n - 1) A8;rw [show n - 1+1=n by omega,<- hn,J0,hn] at hs
 have hl:val (b.take (n - 1)) < 4294967296 ^ (n - 1):=by
  have:=dZ (b.take (n - 1))
  rwa [List.length_take,I5 A8] at this
 have e:4294967296 ^ n=4294967296 ^ (n - 1) * 4294967296:=by rw [<- H9,show(n - 1).succ=n by omega]
 generalize (b.getD (n - 1) default).toNat=x at *;generalize 4294967296 ^ (n - 1)=w at *;generalize 2 ^ s=z at *;rw [hs,e];constructor
 ·have:=H7 w ht;rw [I8,E0 x w,J2];omega
 ·have hz:0 < z:=by
   rcases N5 z with h|h
   ·subst h;omega
   ·exact h
  have h2:=H7 w hu
  have h3:(val (b.take (n - 1))+x * w) * z < (w * (x+1)) * z:=by
   refine T0 ?_ hz;rw [H3,R4,E0 w x];omega
  rw [J2] at h3;omega
theorem HT {V n:Nat}(h1:1<=n)(hl:4294967296 ^ (n - 1)<=V)(hu:V < 4294967296 ^ n):(lm V).length=n:=by
 have h2:=uF hu;rcases G8 (lm V).length n with h|h
 ·exfalso;have h3:=dZ (lm V);rw [bM] at h3;have:4294967296 ^ (lm V).length<=4294967296 ^ (n - 1):=K8 B3 A8;omega
 ·omega
theorem RA {v:List UInt32}{n:Nat}(hn:v.length=n)(h1:1<=n)(h:4294967296 ^ (n - 1) * 2147483648<=val v):2147483648<=(v.getD (n - 1) default).toNat:=by
 have hs:=bO v (n - 1) A8;rw [show n - 1+1=n by omega,<- hn,J0,hn] at hs
 have hl:val (v.take (n - 1)) < 4294967296 ^ (n - 1):=by
  have:=dZ (v.take (n - 1))
  rwa [List.length_take,I5 A8] at this
 rcases G8 (v.getD (n - 1) default).toNat 2147483648 with h2|h2
 ·exfalso;generalize (v.getD (n - 1) default).toNat=x at *;generalize 4294967296 ^ (n - 1)=w at *;have h3:=F6 w (show x+1<=2147483648 from h2);rw [I8,Q1,E0 2147483648] at h3;omega
 ·exact h2
theorem sY {l:List UInt32}{n:Nat}(h:val l < 4294967296 ^ n):val (l.take n)=val l:=by
 have hs:=mR l n;have:val (l.drop n)=0:=by rw [<- jt];exact N6 h
 rw [this,O9] at hs;omega
theorem Ip {p:List UInt32}{j n V:Nat}(hj:j+(n+1)<=p.length)(h:val (p.drop (j+1)) < V)(hV:V < 4294967296 ^ n) :
  val ((p.drop j).take (n+1))=val (p.drop j)/\val (p.drop j) < 4294967296 * V/\(pG p j (n+1) (val (p.drop j) % V)).take j=p.take j/\val ((pG p j (n+1) (val (p.drop j) % V)).drop j)=val (p.drop j) % V:=by
 have h1:=gY (l:=p) (i:=j) A8;have h2:=E6 (p.getD j default);have h3:val (p.drop j) < 4294967296 * V:=by omega
 have h4:val (p.drop j) < 4294967296 ^ (n+1):=by rw [H9];omega
 have h6:val (p.drop (j+(n+1)))=0:=by
  have:=jt (p.drop j) (n+1);rw [N6 h4,L4] at this;exact this.symm
 have h7:val (p.drop j) % V < 4294967296 ^ (n+1):=N4 (Nat.mod_le _ _) h4;refine⟨sY h4,h3,?_,?_⟩
 ·unfold pG;rw [List.append_assoc,J4 (by rw [List.length_take];omega),J3,Nat.min_self]
 ·unfold pG;have e:(p.take j).length=j:=by rw [List.length_take];omega
  rw [List.append_assoc,List.drop_left' e,dN,ja _ _ h7,h6,O9,H8]
theorem PL {p p' q:List UInt32}{j V U d:Nat}(hq:j < q.length)(hU:U=V * (4294967296 ^ (j+1) * val (q.drop (j+1)))+val p)(ht:p'.take j=p.take j)(hr:val (p'.drop j)=val (p.drop j) % V)(hd:d=val (p.drop j) / V)(hdl:d < 4294967296) :
  U=V * (4294967296 ^ j * val ((q.set j (UInt32.ofNat d)).drop j))+val p':=by
 have e1:=mR p j;have e2:=mR p' j;have e3:=M0 (val (p.drop j)) V;have e4:=nK (q:=UInt32.ofNat d) hq;have e5:(UInt32.ofNat d).toNat=d:=by rw [E9,E2 hdl]
 rw [e4,val,e5,hU,e1,e2,ht,hr,H9,hd];generalize val (p.drop j) / V=c at *;generalize val (p.drop j) % V=r at *;generalize val (q.drop (j+1))=Q at *;generalize 4294967296 ^ j=w at *;rw [<- e3,H3,H3,H3];have a1:V * (w * (4294967296 * Q))=V * (w * 4294967296 * Q):=by rw [J2 w]
 have a2:w * (V * c)=V * (w * c):=by rw [<- J2,<- J2,E0 w V]
 omega
theorem xl {l x:List UInt32}{i s R:Nat}(hs:s < 32)(hR:val l=R * 2 ^ s)(hx:x.length=i)(hv:val x=R % 4294967296 ^ i)(hi:i < l.length) :
  val (x ++ [UInt32.ofNat (((l.getD (i+1) default).toNat * 4294967296+(l.getD i default).toNat) / 2 ^ s % 4294967296)])=R % 4294967296 ^ (i+1):=by
 have hp:0 < 2 ^ s:=M3 B3;have hw:0 < 4294967296 ^ i:=M3 B3;have h1:=gY (l:=l) (i:=i) hi
 have e0:R / 4294967296 ^ i % 4294967296=((l.getD (i+1) default).toNat * 4294967296+(l.getD i default).toNat) / 2 ^ s % 4294967296:=by
  have e1:R / 4294967296 ^ i=val (l.drop i) / 2 ^ s:=by
   rw [<- jt,hR,V2,E0 (4294967296 ^ i),E0 R,<- V2,Nat.mul_div_cancel_left _ hp]
  have h2:val (l.drop (i+1))=(l.getD (i+1) default).toNat+4294967296 * val (l.drop (i+2)):=by
   have:=vE l (i+1);exact this
  rw [e1,h1,h2];have e4:(4294967296:Nat)=2 ^ s * 2 ^ (32 - s):=by rw [<- P3,show s+(32 - s)=32 by omega]
  generalize (l.getD (i+1) default).toNat=a;generalize (l.getD i default).toNat=b;generalize val (l.drop (i+2))=c
  have e5:b+4294967296 * (a+4294967296 * c)=(a * 4294967296+b)+2 ^ s * (4294967296 * (2 ^ (32 - s) * c)):=by
   have:2 ^ s * (4294967296 * (2 ^ (32 - s) * c))=4294967296 * (4294967296 * c):=by
    rw [Nat.mul_left_comm,<- J2 (2 ^ s),<- e4]
   omega
  rw [e5,Nat.add_mul_div_left _ _ hp,Nat.add_mul_mod_self_left]
 have hlt:((l.getD (i+1) default).toNat * 4294967296+(l.getD i default).toNat) / 2 ^ s % 4294967296 < 4294967296:=J9 _ B3;rw [<- e0] at hlt |-;rw [mB hlt,hx,hv,H9,Nat.mod_mul]
theorem qJ (l:List UInt32):l.take (norm l).length=norm l:=by
 have h:l=norm l ++ (l.reverse.takeWhile (· == 0)).reverse:=by
  unfold norm;rw [<- List.reverse_append,List.takeWhile_append_dropWhile,R6]
 obtain⟨t,ht⟩:∃t,(l.reverse.takeWhile (· == 0)).reverse=t:=⟨_,rfl⟩
 rw [ht] at h;obtain⟨k,hk⟩:∃k,norm l=k:=⟨_,rfl⟩
 rw [hk] at h |-;rw [h,J4 (wU _),J0]
theorem Wq {a:Int}{s:Nat}{Q:Int->Prop}(hs:s < 32)(k:Q (a.fdiv ((2 ^ s:Nat):Int))):∃r,r=a.fdiv (2 ^ (min ((s:Nat):Int).toNat IntKind.u64.bits))/\Q r:=by
 refine⟨_,?_,k⟩;rw [K4,show IntKind.u64.bits=64 from rfl,I5 A8];simp
theorem LY (a s:Nat):((a:Nat):Int).fdiv ((2 ^ s:Nat):Int)=((a / 2 ^ s:Nat):Int):=by
 rw [M6 _ (L8 _)];rfl
theorem xt {p r:List UInt32}{j:Nat}(h:r.length<=j):(wq p 0 r).getD j default=p.getD j default:=by
 unfold wq;rw [Q3,Q8,C2,List.getD,IX h,G0,show r.length+(j - r.length)=j by omega];rfl
theorem uq {p:List UInt32}{j:Nat}(h:j < (norm p).length):p.getD j default=(norm p).getD j default:=by
 conv=>rhs;rw [<- qJ p]
 rw [List.getD,List.getD,L7,if_pos h]
theorem Cn {p r:List UInt32}{nx u s:Nat}(hnx:nx < 4294967296)(hu:u < 4294967296)(h:r.length < p.length) :
  ((wq p 0 r).map cu).set (0+r.length) (V.af (.int .u32 (IntKind.u32.wrap ((IntKind.u64.wrap (((BitVec.ofInt 64 ((nx:Int) * 4294967296) |||BitVec.ofInt 64 (u:Int)).toNat:Nat):Int)).fdiv ((2 ^ s:Nat):Int)))))=(wq p 0 (r ++ [UInt32.ofNat ((nx * 4294967296+u) / 2 ^ s % 4294967296)])).map cu:=by
 rw [or_eq hnx hu,LY,AN,nM A8,FF]
end Go.Ev
