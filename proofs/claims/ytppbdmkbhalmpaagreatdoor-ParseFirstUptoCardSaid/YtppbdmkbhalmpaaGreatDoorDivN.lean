import Derived.Test.YtppbdmkbhalmpaaGreatDoorDig
import Derived.Test.YtppbdmkbhalmpaaGreatDoorLam
import Derived.Test.YtppbdmkbhalmpaaGreatDoorLao
set_option linter.all false
set_option maxHeartbeats 4000000
set_option maxRecDepth 10000
namespace Go.Ev
open Go.Proofs
theorem tab_pow {n:Nat}(h:n≠0):2 ^ (tab n - 1)≤n∧n < 2 ^ tab n:=by
 unfold tab
 rw [if_neg h,Nat.add_sub_cancel]
 exact⟨Nat.log2_self_le h,Nat.lt_log2_self⟩
theorem tab_pos {n:Nat}(h:n≠0):1≤tab n:=by
 unfold tab
 rw [if_neg h];omega
theorem pow_up {x y t k:Nat}(hy:x / 2 ^ k=y)(h1:1≤t)(h:2 ^ (t - 1)≤y∧y < 2 ^ t):2 ^ (k+t - 1)≤x∧x < 2 ^ (k+t):=by
 subst hy
 have hp:0 < 2 ^ k:=Nat.pow_pos (by decide)
 obtain⟨ha,hb⟩:=h
 refine⟨?_,?_⟩
 ·rw [show k+t - 1=(t - 1)+k by omega,Nat.pow_add]
  exact(Nat.le_div_iff_mul_le hp).1 ha
 ·rw [show k+t=t+k by omega,Nat.pow_add]
  exact(Nat.div_lt_iff_lt_mul hp).1 hb
theorem len32_pow {x:Nat}(h0:x≠0):2 ^ (len32 x - 1)≤x∧x < 2 ^ len32 x:=by
 unfold len32
 split
 ·split
  ·exact tab_pow h0
  ·have h:x / 256≠0:=by omega
   exact pow_up (k:=8) rfl (tab_pos h) (tab_pow h)
 ·split
  ·have h:x / 65536≠0:=by omega
   exact pow_up (k:=16) rfl (tab_pos h) (tab_pow h)
  ·have h:x / 65536 / 256≠0:=by omega
   rw [Nat.div_div_eq_div_mul] at h ⊢
   exact pow_up (k:=24) rfl (tab_pos h) (tab_pow h)
theorem top_shift {x:Nat}(h0:x≠0)(hx:x < 4294967296):32 - len32 x < 32∧2147483648≤x * 2 ^ (32 - len32 x)∧(x+1) * 2 ^ (32 - len32 x)≤4294967296:=by
 obtain⟨h1,h2⟩:=len32_pow h0
 have h3:=len32_le hx
 have h4:len32 x≠0:=fun e=>h0 ((len32_zero x).1 e)
 obtain⟨n,hn⟩:∃n,len32 x=n:=⟨_,rfl⟩
 rw [hn] at h1 h2 h3 h4 ⊢
 refine⟨by omega,?_,?_⟩
 ·have:=Nat.mul_le_mul_right (2 ^ (32 - n)) h1
  rw [← Nat.pow_add,show n - 1+(32 - n)=31 by omega] at this
  exact this
 ·have:=Nat.mul_le_mul_right (2 ^ (32 - n)) h2
  rw [← Nat.pow_add,show n+(32 - n)=32 by omega] at this
  exact this
theorem div_shift {b:List UInt32}{n s:Nat}(hn:b.length=n)(h1:1≤n)(ht:2147483648≤(b.getD (n - 1) default).toNat * 2 ^ s)(hu:((b.getD (n - 1) default).toNat+1) * 2 ^ s≤4294967296) :
  4294967296 ^ (n - 1) * 2147483648≤val b * 2 ^ s∧val b * 2 ^ s < 4294967296 ^ n:=by
 have hs:=val_take_succ b (n - 1) (by omega)
 rw [show n - 1+1=n by omega,← hn,List.take_length,hn] at hs
 have hl:val (b.take (n - 1)) < 4294967296 ^ (n - 1):=by
  have:=val_lt (b.take (n - 1))
  rwa [List.length_take,Nat.min_eq_left (by omega)] at this
 have e:4294967296 ^ n=4294967296 ^ (n - 1) * 4294967296:=by rw [← Nat.pow_succ,show(n - 1).succ=n by omega]
 generalize (b.getD (n - 1) default).toNat=x at *
 generalize 4294967296 ^ (n - 1)=w at *
 generalize 2 ^ s=z at *
 rw [hs,e]
 constructor
 ·have:=Nat.mul_le_mul_left w ht
  rw [Nat.add_mul,Nat.mul_comm x w,Nat.mul_assoc];omega
 ·have hz:0 < z:=by
   rcases Nat.eq_zero_or_pos z with h|h
   ·subst h;omega
   ·exact h
  have h2:=Nat.mul_le_mul_left w hu
  have h3:(val (b.take (n - 1))+x * w) * z < (w * (x+1)) * z:=by
   refine Nat.mul_lt_mul_of_pos_right ?_ hz
   rw [Nat.mul_add,Nat.mul_one,Nat.mul_comm w x];omega
  rw [Nat.mul_assoc] at h3
  omega
theorem lm_len_eq {V n:Nat}(h1:1≤n)(hl:4294967296 ^ (n - 1)≤V)(hu:V < 4294967296 ^ n):(lm V).length=n:=by
 have h2:=lm_len hu
 rcases Nat.lt_or_ge (lm V).length n with h|h
 ·exfalso
  have h3:=val_lt (lm V)
  rw [val_lm] at h3
  have:4294967296 ^ (lm V).length≤4294967296 ^ (n - 1):=Nat.pow_le_pow_right (by decide) (by omega)
  omega
 ·omega
theorem top_ge {v:List UInt32}{n:Nat}(hn:v.length=n)(h1:1≤n)(h:4294967296 ^ (n - 1) * 2147483648≤val v):2147483648≤(v.getD (n - 1) default).toNat:=by
 have hs:=val_take_succ v (n - 1) (by omega)
 rw [show n - 1+1=n by omega,← hn,List.take_length,hn] at hs
 have hl:val (v.take (n - 1)) < 4294967296 ^ (n - 1):=by
  have:=val_lt (v.take (n - 1))
  rwa [List.length_take,Nat.min_eq_left (by omega)] at this
 rcases Nat.lt_or_ge (v.getD (n - 1) default).toNat 2147483648 with h2|h2
 ·exfalso
  generalize (v.getD (n - 1) default).toNat=x at *
  generalize 4294967296 ^ (n - 1)=w at *
  have h3:=Nat.mul_le_mul_right w (show x+1≤2147483648 from h2)
  rw [Nat.add_mul,Nat.one_mul,Nat.mul_comm 2147483648] at h3
  omega
 ·exact h2
theorem val_take_of_lt {l:List UInt32}{n:Nat}(h:val l < 4294967296 ^ n):val (l.take n)=val l:=by
 have hs:=val_split l n
 have:val (l.drop n)=0:=by rw [← val_div_pow];exact Nat.div_eq_of_lt h
 rw [this,Nat.mul_zero] at hs;omega
theorem div_digit {p:List UInt32}{j n V:Nat}(hj:j+(n+1)≤p.length)(h:val (p.drop (j+1)) < V)(hV:V < 4294967296 ^ n) :
  val ((p.drop j).take (n+1))=val (p.drop j)∧val (p.drop j) < 4294967296 * V∧(digP p j (n+1) (val (p.drop j) % V)).take j=p.take j∧val ((digP p j (n+1) (val (p.drop j) % V)).drop j)=val (p.drop j) % V:=by
 have h1:=val_drop_step (l:=p) (i:=j) (by omega)
 have h2:=UInt32.toNat_lt (p.getD j default)
 have h3:val (p.drop j) < 4294967296 * V:=by omega
 have h4:val (p.drop j) < 4294967296 ^ (n+1):=by rw [Nat.pow_succ];omega
 have h6:val (p.drop (j+(n+1)))=0:=by
  have:=val_div_pow (p.drop j) (n+1)
  rw [Nat.div_eq_of_lt h4,List.drop_drop] at this
  exact this.symm
 have h7:val (p.drop j) % V < 4294967296 ^ (n+1):=Nat.lt_of_le_of_lt (Nat.mod_le _ _) h4
 refine⟨val_take_of_lt h4,h3,?_,?_⟩
 ·unfold digP
  rw [List.append_assoc,List.take_append_of_le_length (by rw [List.length_take];omega),List.take_take,Nat.min_self]
 ·unfold digP
  have e:(p.take j).length=j:=by rw [List.length_take];omega
  rw [List.append_assoc,List.drop_left' e,val_append,val_padL _ _ h7,h6,Nat.mul_zero,Nat.add_zero]
theorem div_inv {p p' q:List UInt32}{j V U d:Nat}(hq:j < q.length)(hU:U=V * (4294967296 ^ (j+1) * val (q.drop (j+1)))+val p)(ht:p'.take j=p.take j)(hr:val (p'.drop j)=val (p.drop j) % V)(hd:d=val (p.drop j) / V)(hdl:d < 4294967296) :
  U=V * (4294967296 ^ j * val ((q.set j (UInt32.ofNat d)).drop j))+val p':=by
 have e1:=val_split p j
 have e2:=val_split p' j
 have e3:=Nat.div_add_mod (val (p.drop j)) V
 have e4:=drop_set_self (q:=UInt32.ofNat d) hq
 have e5:(UInt32.ofNat d).toNat=d:=by rw [UInt32.toNat_ofNat',Nat.mod_eq_of_lt hdl]
 rw [e4,val,e5,hU,e1,e2,ht,hr,Nat.pow_succ,hd]
 generalize val (p.drop j) / V=c at *
 generalize val (p.drop j) % V=r at *
 generalize val (q.drop (j+1))=Q at *
 generalize 4294967296 ^ j=w at *
 rw [← e3,Nat.mul_add,Nat.mul_add,Nat.mul_add]
 have a1:V * (w * (4294967296 * Q))=V * (w * 4294967296 * Q):=by rw [Nat.mul_assoc w]
 have a2:w * (V * c)=V * (w * c):=by rw [← Nat.mul_assoc,← Nat.mul_assoc,Nat.mul_comm w V]
 omega
theorem back_step {l x:List UInt32}{i s R:Nat}(hs:s < 32)(hR:val l=R * 2 ^ s)(hx:x.length=i)(hv:val x=R % 4294967296 ^ i)(hi:i < l.length) :
  val (x ++ [UInt32.ofNat (((l.getD (i+1) default).toNat * 4294967296+(l.getD i default).toNat) / 2 ^ s % 4294967296)])=R % 4294967296 ^ (i+1):=by
 have hp:0 < 2 ^ s:=Nat.pow_pos (by decide)
 have hw:0 < 4294967296 ^ i:=Nat.pow_pos (by decide)
 have h1:=val_drop_step (l:=l) (i:=i) hi
 have e0:R / 4294967296 ^ i % 4294967296=((l.getD (i+1) default).toNat * 4294967296+(l.getD i default).toNat) / 2 ^ s % 4294967296:=by
  have e1:R / 4294967296 ^ i=val (l.drop i) / 2 ^ s:=by
   rw [← val_div_pow,hR,Nat.div_div_eq_div_mul,Nat.mul_comm (4294967296 ^ i),Nat.mul_comm R,← Nat.div_div_eq_div_mul,Nat.mul_div_cancel_left _ hp]
  have h2:val (l.drop (i+1))=(l.getD (i+1) default).toNat+4294967296 * val (l.drop (i+2)):=by
   have:=val_drop_succ l (i+1)
   exact this
  rw [e1,h1,h2]
  have e4:(4294967296:Nat)=2 ^ s * 2 ^ (32 - s):=by rw [← Nat.pow_add,show s+(32 - s)=32 by omega]
  generalize (l.getD (i+1) default).toNat=a
  generalize (l.getD i default).toNat=b
  generalize val (l.drop (i+2))=c
  have e5:b+4294967296 * (a+4294967296 * c)=(a * 4294967296+b)+2 ^ s * (4294967296 * (2 ^ (32 - s) * c)):=by
   have:2 ^ s * (4294967296 * (2 ^ (32 - s) * c))=4294967296 * (4294967296 * c):=by
    rw [Nat.mul_left_comm,← Nat.mul_assoc (2 ^ s),← e4]
   omega
  rw [e5,Nat.add_mul_div_left _ _ hp,Nat.add_mul_mod_self_left]
 have hlt:((l.getD (i+1) default).toNat * 4294967296+(l.getD i default).toNat) / 2 ^ s % 4294967296 < 4294967296:=Nat.mod_lt _ (by decide)
 rw [← e0] at hlt ⊢
 rw [dg_val hlt,hx,hv,Nat.pow_succ,Nat.mod_mul]
theorem norm_take (l:List UInt32):l.take (norm l).length=norm l:=by
 have h:l=norm l ++ (l.reverse.takeWhile (· == 0)).reverse:=by
  unfold norm
  rw [← List.reverse_append,List.takeWhile_append_dropWhile,List.reverse_reverse]
 obtain⟨t,ht⟩:∃t,(l.reverse.takeWhile (· == 0)).reverse=t:=⟨_,rfl⟩
 rw [ht] at h
 obtain⟨k,hk⟩:∃k,norm l=k:=⟨_,rfl⟩
 rw [hk] at h ⊢
 rw [h,List.take_append_of_le_length (Nat.le_refl _),List.take_length]
theorem shrS {a:Int}{s:Nat}{Q:Int→Prop}(hs:s < 32)(k:Q (a.fdiv ((2 ^ s:Nat):Int))):∃r,r=a.fdiv (2 ^ (min ((s:Nat):Int).toNat IntKind.u64.bits))∧Q r:=by
 refine⟨_,?_,k⟩
 rw [Int.toNat_natCast,show IntKind.u64.bits=64 from rfl,Nat.min_eq_left (by omega)]
 simp
theorem fdiv_nat (a s:Nat):((a:Nat):Int).fdiv ((2 ^ s:Nat):Int)=((a / 2 ^ s:Nat):Int):=by
 rw [Int.fdiv_eq_ediv_of_nonneg _ (Int.natCast_nonneg _)];rfl
theorem wq0_get {p r:List UInt32}{j:Nat}(h:r.length≤j):(wq p 0 r).getD j default=p.getD j default:=by
 unfold wq
 rw [List.take_zero,List.nil_append,Nat.zero_add,List.getD,List.getElem?_append_right h,List.getElem?_drop,show r.length+(j - r.length)=j by omega]
 rfl
theorem norm_get {p:List UInt32}{j:Nat}(h:j < (norm p).length):p.getD j default=(norm p).getD j default:=by
 conv=>rhs;rw [← norm_take p]
 rw [List.getD,List.getD,List.getElem?_take,if_pos h]
theorem back_set {p r:List UInt32}{nx u s:Nat}(hnx:nx < 4294967296)(hu:u < 4294967296)(h:r.length < p.length) :
  ((wq p 0 r).map cu).set (0+r.length) (V.con (.int .u32 (IntKind.u32.wrap ((IntKind.u64.wrap (((BitVec.ofInt 64 ((nx:Int) * 4294967296) |||BitVec.ofInt 64 (u:Int)).toNat:Nat):Int)).fdiv ((2 ^ s:Nat):Int)))))=(wq p 0 (r ++ [UInt32.ofNat ((nx * 4294967296+u) / 2 ^ s % 4294967296)])).map cu:=by
 rw [or_eq hnx hu,fdiv_nat,set_wrap,wq_set (by omega),ofN_mod]
end Go.Ev
