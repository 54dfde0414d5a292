import Derived.Test.YtppbdmkbhalmpaaGreatDoorLai
import Derived.Test.YtppbdmkbhalmpaaGreatDoorLak
import Derived.Test.YtppbdmkbhalmpaaGreatDoorLam
set_option linter.all false
set_option maxHeartbeats 4000000
set_option maxRecDepth 10000
namespace Go.Ev
open Go.Proofs
theorem iv_abs (n:Bool)(m:List UInt32):(iv n m).natAbs=val m:=by unfold iv;split<;>omega
def signZ (z:Int):Int:=if z=0 then 0 else if z < 0 then -1 else 1
def tR (n:Bool)(m d:List UInt32):T:=.agg [.con (.bool n),tn m,tn d]
theorem lm_one : lm 1=[1]:=by unfold lm;rw [if_neg (by decide)];unfold lm;rfl
def tab (n:Nat):Nat:=if n=0 then 0 else Nat.log2 n+1
def len32 (x:Nat):Nat:=
 if x < 65536 then(if x < 256 then tab x else 8+tab (x / 256)) else(if x / 65536 < 256 then 16+tab (x / 65536) else 24+tab (x / 65536 / 256))
theorem len32_zero (x:Nat):len32 x=0↔x=0:=by
 have ht:∀n,tab n=0↔n=0:=fun n=>by unfold tab;split<;>simp_all
 unfold len32
 split
 ·split
  ·exact ht x
  ·omega
 ·split<;>omega
def tabS : ByteArray:=⟨((List.range 256).map fun n=>UInt8.ofNat (tab n)).toArray⟩
theorem tab_le {n:Nat}(h:n < 256):tab n≤8:=by
 unfold tab
 split
 ·omega
 ·have:=(Nat.log2_lt (by assumption:n≠0) (k:=8)).2 (by simpa using h)
  omega
theorem shr16 {a:Int}{Q:Int→Prop}(ha:0≤a)(h:∀r,r=a / 65536→Q r):∃r,r=a.fdiv (2 ^ (min (16:Int).toNat IntKind.u32.bits))∧Q r:=by
 refine⟨_,rfl,h _ ?_⟩
 show a.fdiv 65536=_
 exact Int.fdiv_eq_ediv_of_nonneg _ (by decide)
theorem shr8 {a:Int}{Q:Int→Prop}(ha:0≤a)(h:∀r,r=a / 256→Q r):∃r,r=a.fdiv (2 ^ (min (8:Int).toNat IntKind.u32.bits))∧Q r:=by
 refine⟨_,rfl,h _ ?_⟩
 show a.fdiv 256=_
 exact Int.fdiv_eq_ediv_of_nonneg _ (by decide)
theorem ba_get (a:Array UInt8)(i:Nat):(ByteArray.mk a)[i]?=a[i]?:=by
 by_cases h:i < a.size
 ·rw [Array.getElem?_eq_getElem h];exact dif_pos h
 ·rw [Array.getElem?_eq_none (by omega)];exact dif_neg h
theorem tab_q {n:Int}{Q:UInt8→Prop}(h0:0≤n)(h:n < 256)(k:(UInt8.ofNat (tab n.toNat)).toNat=tab n.toNat→tab n.toNat≤8→Q (UInt8.ofNat (tab n.toNat))):∃b:UInt8,tabS[n.toNat]?=some b∧Q b:=by
 have hl:=tab_le (n:=n.toNat) (by omega)
 refine⟨_,?_,k (by simp;omega) hl⟩
 have:tabS[n.toNat]?=((List.range 256).map fun n=>UInt8.ofNat (tab n))[n.toNat]?:=(ba_get _ _).trans (List.getElem?_toArray ..)
 rw [this,List.getElem?_map,List.getElem?_range (by omega)];rfl
theorem Len32_ok (x:UInt32):Ok Tryz.prog 102 [tu32 x] true (.con (.int .i64 (len32 x.toNat))):=by
 have hx:=UInt32.toNat_lt x
 refine ok_of_ev hC0 mix Tryz.func102 rfl rfl (by kernel_rfl) (zO rfl) ?_
 repeat'(first|(first|(refine shr16 (by omega) ?_;intro r hr)|(refine shr8 (by omega) ?_;intro r hr)|(refine tab_q (by omega) (by omega) ?_;intro ht1 ht2))|(with_reducible first|(refine zz ?_;try intro K hK)|refine zI ?_|refine zt ?_|refine zf ?_)|((first|refine hK _ ?_|refine hK _ _ rfl ?_);clear hK K)|(guard_hyp hK;first|(refine zY ?zz ?_;case zz=>first|exact rfl|exact gI)|refine fresh_n ?_|refine freshO_n ?_|(refine at_Q ?_;intro hu)|refine zP wA ?_|(refine mul_Q ?_;intro hm1 hm2)|refine zP at_M ?_|refine zP rfl ?_|intro b0 hb)|((first|with_reducible refine zm ?_|guard_hyp hK);refine zY ?_ ?_;all_goals(intro hb;(try simp only [sb] at hb);try exact ex0)))
 all_goals refine And.intro trivial (fz_con (congrArg (Value.int .i64) ?_))
 all_goals rw [ht1]
 ·have e:r.toNat=x.toNat / 65536 / 256:=by omega
  rw [e];unfold len32;rw [if_neg (by omega),if_neg (by omega)];omega
 ·have e:r.toNat=x.toNat / 65536:=by omega
  rw [e];unfold len32;rw [if_neg (by omega),if_pos (by omega)];omega
 ·have e:r.toNat=x.toNat / 256:=by omega
  rw [e];unfold len32;rw [if_pos (by omega),if_neg (by omega)];omega
 ·have e:((x.toNat:Int)).toNat=x.toNat:=by omega
  rw [e];unfold len32;rw [if_pos (by omega),if_pos (by omega)];omega
theorem len32_le {x:Nat}(h:x < 4294967296):len32 x≤32:=by
 unfold len32
 split
 ·split
  ·have:=tab_le (n:=x) (by omega);omega
  ·have:=tab_le (n:=x / 256) (by omega);omega
 ·split
  ·have:=tab_le (n:=x / 65536) (by omega);omega
  ·have:=tab_le (n:=x / 65536 / 256) (by omega);omega
def bitsN (l:List UInt32):Nat:=if l=[] then 0 else 32 * (l.length - 1)+len32 (l.getD (l.length - 1) default).toNat
theorem bitsN_zero {l:List UInt32}(h:Can l):bitsN l=0↔l=[]:=by
 unfold bitsN
 split
 ·simp_all
 ·rename_i hn
  have h1:l.getD (l.length - 1) default≠0:=by
   rcases h with h|h
   ·exact absurd h hn
   ·exact h
  have h2:(l.getD (l.length - 1) default).toNat≠0:=fun h=>h1 (UInt32.toNat_inj.1 h)
  have:=mt (len32_zero _).1 h2
  constructor
  ·intro h;omega
  ·intro h;exact absurd h hn
theorem b_q {a:Int}{n:Nat}{Q:Int→Prop}(h0:0≤a)(h1:a≤4611686018427387904)(h:n≤32)(k:Q (a+n)):∃r,r=IntKind.i64.wrap (a+n)∧Q r:=
 ⟨_,wrapI (by omega) (by omega),k⟩
theorem Bits_ok (l:List UInt32)(hl:l.length≤2199023255552):Ok Tryz.prog 95 [tn l] true (.con (.int .i64 (bitsN (norm l)))):=by
 have hn:=norm_le l
 refine ok_of_ev hC0 mix Tryz.func95 rfl rfl (by kernel_rfl) (zO rfl) ?_
 repeat'(first|(refine b_q (by simp only [List.length_map];omega) (by simp only [List.length_map];omega) (len32_le (UInt32.toNat_lt _)) ?_)|(with_reducible first|(refine zz ?_;try intro K hK)|refine zI ?_|refine zt ?_|refine zf ?_)|((first|refine hK _ ?_|refine hK _ _ rfl ?_);clear hK K)|(guard_hyp hK;first|(refine zY ?zz ?_;case zz=>first|exact rfl|exact gI)|refine fresh_n ?_|refine freshO_n ?_|(refine at_Q ?_;intro hu)|refine zP wA ?_|(refine mul_Q ?_;intro hm1 hm2)|refine zP at_M ?_|refine zP rfl ?_|(refine zQ (trim_ok l (by omega)) ?_)|(refine zQ (Len32_ok _) ?_)|intro b0 hb)|((first|with_reducible refine zm ?_|guard_hyp hK);refine zY ?_ ?_;all_goals(intro hb;(try simp only [sb] at hb);try exact ex0)))
 ·have h0:norm l=[]:=List.eq_nil_of_length_eq_zero (by omega)
  exact And.intro trivial (fz_con (by rw [h0];rfl))
 ·have h0:norm l≠[]:=fun h=>by rw [h] at hb;simp at hb
  refine And.intro trivial (fz_con (congrArg (Value.int .i64) ?_))
  rw [List.length_map]
  have e:(((norm l).length:Int) - 1).toNat=(norm l).length - 1:=by omega
  rw [e]
  unfold bitsN
  rw [if_neg h0];omega
theorem signZ_cases (x:Int):signZ x=0∧x=0∨signZ x = -1∧x < 0∨signZ x=1∧0 < x:=by
 unfold signZ
 split
 ·exact .inl ⟨rfl,by assumption⟩
 ·split
  ·exact .inr (.inl ⟨rfl,by assumption⟩)
  ·exact .inr (.inr ⟨rfl,by omega⟩)
theorem Sign_ok (n:Bool)(m:List UInt32)(hm:m.length≤2199023255552):Ok Tryz.prog 86 [tI n m] true (.con (.int .i64 (signZ (iv n m)))):=by
 have hz:bitsN (norm m)=0↔val m=0:=by
  rw [bitsN_zero (can_norm m),← val_norm m]
  constructor
  ·intro h;rw [h];rfl
  ·intro h
   refine can_unique (can_norm m) (.inl rfl) ?_
   rw [h];rfl
 refine ok_of_ev hC0 mix Tryz.func86 rfl rfl (by kernel_rfl) (zO rfl) ?_
 repeat'(first|(with_reducible first|(refine zz ?_;try intro K hK)|refine zI ?_|refine zt ?_|refine zf ?_)|((first|refine hK _ ?_|refine hK _ _ rfl ?_);clear hK K)|(guard_hyp hK;first|(refine zY ?zz ?_;case zz=>first|exact rfl|exact gI)|refine fresh_n ?_|refine freshO_n ?_|(refine at_Q ?_;intro hu)|refine zP wA ?_|(refine mul_Q ?_;intro hm1 hm2)|refine zP at_M ?_|refine zP rfl ?_|(refine zQ (Bits_ok m (by omega)) ?_)|intro b0 hb)|((first|with_reducible refine zm ?_|guard_hyp hK);refine zY ?_ ?_;all_goals(intro hb;(try simp only [sb] at hb);try exact ex0)))
 ·have h0:val m=0:=hz.1 (by omega)
  have h1:iv n m=0:=by unfold iv;split<;>omega
  exact And.intro trivial (fz_con (by rw [h1];rfl))
 ·rename_i h
  have h0:val m≠0:=fun h9=>h (by rw [hz.2 h9];rfl)
  subst hb
  have h1:iv true m < 0:=by show -(val m:Int) < 0;omega
  exact And.intro trivial (fz_con (by unfold signZ;rw [if_neg (by omega),if_pos h1]))
 ·rename_i h
  have h0:val m≠0:=fun h9=>h (by rw [hz.2 h9];rfl)
  subst hb
  have h1:0 < iv false m:=by show(0:Int) < val m;omega
  exact And.intro trivial (fz_con (by unfold signZ;rw [if_neg (by omega),if_neg (by omega)]))
theorem of_ok (n:Bool)(m:List UInt32)(hm:m.length≤2199023255552):Ok Tryz.prog 108 [.con (.bool n),tn m] true (tZ (iv n m)):=by
 have hl:=norm_le m
 have hn:=norm_lm m
 have ez:(iv n m).natAbs=val m:=by unfold iv;split<;>omega
 unfold tZ
 rw [ez,← hn]
 cases n with
 |false=>
  have hd:decide (iv false m < 0)=false:=by simp [iv]
  rw [hd]
  refine ok_of_ev hC0 mix Tryz.func108 rfl rfl (by kernel_rfl) (zO rfl) ?_
  repeat'(first|(with_reducible first|(refine zz ?_;try intro K hK)|refine zI ?_|refine zt ?_|refine zf ?_)|((first|refine hK _ ?_|refine hK _ _ rfl ?_);clear hK K)|(guard_hyp hK;first|(refine zY ?zz ?_;case zz=>first|exact rfl|exact gI)|refine fresh_n ?_|refine freshO_n ?_|(refine at_Q ?_;intro hu)|refine zP wA ?_|(refine mul_Q ?_;intro hm1 hm2)|refine zP at_M ?_|refine zP rfl ?_|(refine zQ (Norm_ok m (by omega)) ?_)|intro b0 hb)|((first|with_reducible refine zm ?_|guard_hyp hK);refine zY ?_ ?_;all_goals(intro hb;(try simp only [sb] at hb);try exact ex0)))
  exact ret_cell (l:=[.con (.bool false),.ro true (tn (norm m))]) rfl tk48 rfl (Nat.zero_lt_succ _) rfl rfl (fz_agg2 (.con _) (.ro true _ fun h=>h))
 |true=>
  refine ok_of_ev hC0 mix Tryz.func108 rfl rfl (by kernel_rfl) (zO rfl) ?_
  repeat'(first|(with_reducible first|(refine zz ?_;try intro K hK)|refine zI ?_|refine zt ?_|refine zf ?_)|((first|refine hK _ ?_|refine hK _ _ rfl ?_);clear hK K)|(guard_hyp hK;first|(refine zY ?zz ?_;case zz=>first|exact rfl|exact gI)|refine fresh_n ?_|refine freshO_n ?_|(refine at_Q ?_;intro hu)|refine zP wA ?_|(refine mul_Q ?_;intro hm1 hm2)|refine zP at_M ?_|refine zP rfl ?_|(refine zQ (Norm_ok m (by omega)) ?_)|intro b0 hb)|((first|with_reducible refine zm ?_|guard_hyp hK);refine zY ?_ ?_;all_goals(intro hb;(try simp only [sb] at hb);try exact ex0)))
  refine ret_cell (l:=[V.con (.bool (decide ((((norm m).map tu32).length:Int) > 0))),.ro true (tn (norm m))]) rfl tk48 rfl (Nat.zero_lt_succ _) rfl rfl (fz_agg2 (f:=true) (?_:Fz1 _ true (V.con (.bool (decide ((((norm m).map tu32).length:Int) > 0)))) _) (.ro true _ fun h=>h))
  have e:decide ((((norm m).map tu32).length:Int) > 0)=decide (iv true m < 0):=by
   rw [List.length_map]
   have h1:=lm_nil_iff (val m)
   rw [← hn] at h1
   have h2:iv true m = -(val m:Int):=rfl
   rw [h2,decide_eq_decide]
   constructor
   ·intro h
    have:norm m≠[]:=fun h9=>by rw [h9] at h;simp at h
    have:val m≠0:=fun h9=>this (h1.2 h9)
    omega
   ·intro h
    have:norm m≠[]:=fun h9=>by have:=h1.1 h9;omega
    have:=List.length_pos_iff.2 this
    omega
  rw [e]
  exact .con _
def qz (z:Int)(d:Nat):Int:=z.tdiv (Nat.gcd z.natAbs d)
def qd (z:Int)(d:Nat):Nat:=d / Nat.gcd z.natAbs d
def tQ (z:Int)(d:Nat):T:=tR (decide (qz z d < 0)) (lm (qz z d).natAbs) (lm (qd z d))
theorem iv_div (n:Bool)(m g:Nat):iv n (lm (m / g))=(iv n (lm m)).tdiv g:=by
 unfold iv
 rw [val_lm,val_lm]
 cases n
 ·rfl
 ·show -((m / g:Nat):Int)=(-(m:Int)).tdiv g
  rw [Int.neg_tdiv];rfl
theorem iv_lm (n:Bool)(a:List UInt32):iv n (lm (val a))=iv n a:=by unfold iv;rw [val_lm]
theorem lm_val_len (a:List UInt32):(lm (val a)).length≤a.length:=by rw [← norm_lm];exact norm_le a
theorem rat_eta {z:Int}{d:Nat}{oh:OH}:FzA oh true (.agg [V.con (.bool (decide (qz z d < 0))),.ro true (tn (lm (qz z d).natAbs)),.ro true (tn (lm (qd z d)))]) (tQ z d):=by
 refine⟨rfl,fun j v t a b=>?_⟩
 match j with
 |0=>simp at a;simp [tQ,tR] at b;subst a;subst b;exact .con _
 |1=>simp at a;simp [tQ,tR] at b;subst a;subst b;exact .ro true _ fun h=>h
 |2=>simp at a;simp [tQ,tR] at b;subst a;subst b;exact .ro true _ fun h=>h
 |j+3=>simp at a
theorem pow10_le (n:Nat):(lm (10 ^ n)).length≤n+1:=by
 refine lm_len (Nat.lt_of_le_of_lt (Nat.pow_le_pow_left (show 10≤4294967296 by decide) n) (Nat.pow_lt_pow_right (by decide) (Nat.lt_succ_self n)))
theorem lm_ten : lm 10=[10]:=by rw [show(10:Nat)=val [10] from rfl,← norm_lm];rfl
theorem ten_step {P T n R:Nat}(h:P * T ^ n=R):(n % 2=1→P * T * (T * T) ^ (n / 2)=R)∧(n % 2=0→P * (T * T) ^ (n / 2)=R):=by
 have e:(T * T) ^ (n / 2)=T ^ (2 * (n / 2)):=by rw [← Nat.pow_two,← Nat.pow_mul]
 constructor
 ·intro h2
  rw [e,Nat.mul_assoc,← h]
  congr 1
  rw [Nat.mul_comm,← Nat.pow_succ]
  congr 1
  omega
 ·intro h2
  rw [e,← h]
  congr 2
  omega
theorem bitsN_le (l:List UInt32):bitsN l≤32 * l.length:=by
 unfold bitsN
 split
 ·exact Nat.zero_le _
 ·have:=len32_le (UInt32.toNat_lt (l.getD (l.length - 1) default))
  have h:l.length≠0:=fun h=>by
   have:=List.eq_nil_of_length_eq_zero h
   contradiction
  omega
theorem shr1 {n:Nat}{Q:Int→Prop}(k:Q ((n / 2:Nat):Int)):∃r,r=(n:Int).fdiv (2 ^ (min (1:Int).toNat IntKind.i64.bits))∧Q r:=by
 refine⟨_,rfl,?_⟩
 have:(n:Int).fdiv (2 ^ (min (1:Int).toNat IntKind.i64.bits))=((n / 2:Nat):Int):=by
  show(n:Int).fdiv 2=_
  rw [Int.fdiv_eq_ediv_of_nonneg _ (by decide)];rfl
 rw [this];exact k
theorem and1 {n:Nat}(h:n≤4294967296):IntKind.i64.wrap (((BitVec.ofInt IntKind.i64.bits (n:Int) &&& BitVec.ofInt IntKind.i64.bits (1:Int)).toNat:Nat):Int)=((n % 2:Nat):Int):=by
 have e:(BitVec.ofInt IntKind.i64.bits (n:Int) &&& BitVec.ofInt IntKind.i64.bits (1:Int)).toNat=n % 2:=by
  rw [BitVec.toNat_and]
  have h1:(BitVec.ofInt IntKind.i64.bits (n:Int)).toNat=n:=by
   rw [BitVec.toNat_ofInt]
   show((n:Int) % (2 ^ 64:Nat)).toNat=n
   omega
  have h2:(BitVec.ofInt IntKind.i64.bits (1:Int)).toNat=1:=by decide
  rw [h1,h2,Nat.and_one_is_mod]
 rw [e]
 exact(wrapI (by omega) (by omega)).symm
theorem Of1_ok (u:UInt64)(n:Nat)(h:val [u.toUInt32,(u >>> 32).toUInt32]=n):Ok Tryz.prog 71 [.con (.int .u64 u.toNat)] true (tn (lm n)):=by
 have:=Of_ok u
 rw [norm_lm,h] at this
 exact this
theorem Pow_ok (n0:Nat)(hn:n0≤1024):Ok Tryz.prog 85 [tn (lm 10),.con (.int .i64 n0)] true (.tup [tn (lm (10 ^ n0)),.con (.int .i64 0)]):=by
 have hT:=trim_ok [10] (by decide)
 rw [show norm [(10:UInt32)]=[10] from rfl] at hT
 have hB:=Bits_ok [10] (by decide)
 rw [show bitsN (norm [(10:UInt32)])=4 from by decide] at hB
 have hO:=Of1_ok 1 1 (by decide)
 have hw:=own_ok [10] (by decide)
 rw [show norm [(10:UInt32)]=lm 10 from by rw [lm_ten];rfl] at hw
 have e10:tn (lm 10)=tn [10]:=by rw [lm_ten]
 rw [e10]
 refine ok_of_ev hC0 mix Tryz.func85 rfl rfl (by kernel_rfl) (zO rfl) ?_
 repeat'(first|(with_reducible first|(refine zz ?_;try intro K hK)|refine zI ?_|refine zt ?_|refine zf ?_)|((first|refine hK _ ?_|refine hK _ _ rfl ?_);clear hK K)|(guard_hyp hK;first|(refine zY ?zz ?_;case zz=>first|exact rfl|exact gJ)|refine fresh_n ?_|refine freshO_n ?_|refine zW ?_|(refine zQ (hT) ?_)|(refine zQ (hB) ?_)|(refine zQ (hO) ?_)|(refine zQ (hw) ?_)|intro b0 hb)|((first|with_reducible refine zm ?_|guard_hyp hK);refine zY ?_ ?_;all_goals(intro hb;(try simp only [sn,sb] at hb);try exact ex0)))
 refine loop_i (Nat×Nat×Nat) (fun z=>⟨Tryz.f85.ntmps,[(1,.con (.int .i64 z.1)),(7,.ro true (tn (lm z.2.1))),(8,.ro true (tn (lm z.2.2)))],[]⟩) (fun z=>z.1≤n0∧z.2.1 * z.2.2 ^ z.1=10 ^ n0) (fun z=>z.1) [] (n0,1,10) trivial ⟨Nat.le_refl _,Nat.one_mul _⟩ ⟨rfl,⟨rfl,trivial,rfl,trivial,rfl,trivial,trivial⟩,trivial,trivial⟩ ?_
 rintro⟨n,B,U⟩ ⟨h1,h2⟩
 dsimp only at h1 h2
 obtain⟨s1,s2⟩:=ten_step h2
 have hp:=pow10_le n0
 have hA:=and1 (n:=n) (by omega)
 by_cases hz:1≤n
 ·have hB1:1≤B:=by
   rcases Nat.eq_zero_or_pos B with h9|h9
   ·rw [h9,Nat.zero_mul] at h2
    exact absurd h2.symm (Nat.ne_of_gt (Nat.pow_pos (by decide)))
   ·exact h9
  have hU:1≤U:=by
   rcases Nat.eq_zero_or_pos U with h9|h9
   ·rw [h9,Nat.zero_pow hz,Nat.mul_zero] at h2
    exact absurd h2.symm (Nat.ne_of_gt (Nat.pow_pos (by decide)))
   ·exact h9
  have b1:B≤10 ^ n0:=by rw [← h2];exact Nat.le_mul_of_pos_right _ (Nat.pow_pos hU)
  have b2:U≤10 ^ n0:=by
   rw [← h2]
   exact Nat.le_trans (Nat.le_pow (b:=n) hz) (Nat.le_mul_of_pos_left _ hB1)
  have l1:=lm_len_le b1
  have l2:=lm_len_le b2
  have m1:=Mul_ok (lm B) (lm U) (by omega) (by omega)
  have m2:=Mul_ok (lm U) (lm U) (by omega) (by omega)
  rw [val_lm,val_lm] at m1
  rw [val_lm] at m2
  repeat'(first|(refine shr1 ?_)|(with_reducible first|(refine zz ?_;try intro K hK)|refine zI ?_|refine zt ?_|refine zf ?_)|((first|refine hK _ ?_|refine hK _ _ rfl ?_);clear hK K)|(guard_hyp hK;first|(refine zY ?zz ?_;case zz=>first|exact rfl|exact gJ)|refine fresh_n ?_|refine freshO_n ?_|refine zW ?_|(refine zQ (m1) ?_)|(refine zQ (m2) ?_)|intro b0 hb)|((first|with_reducible refine zm ?_|guard_hyp hK);refine zY ?_ ?_;all_goals(intro hb;(try simp only [sn,sb] at hb);try exact ex0)))
  ·exact⟨(n / 2,B * U,U * U),⟨by dsimp only;omega,s1 (by omega)⟩,by dsimp only;omega,rfl,⟨rfl,trivial,rfl,trivial,rfl,trivial,trivial⟩,trivial,trivial⟩
  ·have hn1:n=1:=by omega
   exact⟨(n / 2,B * U,U),⟨by dsimp only;omega,by dsimp only;rw [hn1] at h2 ⊢;rw [Nat.pow_one] at h2;rw [Nat.pow_zero,Nat.mul_one];exact h2⟩,by dsimp only;omega,rfl,⟨rfl,trivial,rfl,trivial,rfl,trivial,trivial⟩,trivial,trivial⟩
  ·exact⟨(n / 2,B,U * U),⟨by dsimp only;omega,s2 (by omega)⟩,by dsimp only;omega,rfl,⟨rfl,trivial,rfl,trivial,rfl,trivial,trivial⟩,trivial,trivial⟩
 ·obtain rfl:n=0:=by omega
  rw [Nat.pow_zero,Nat.mul_one] at h2
  have hL:=lm_len_le (Nat.le_of_eq h2)
  have hb9:=Bits_ok (lm B) (by omega)
  have hbl:=bitsN_le (norm (lm B))
  have hnl:=norm_le (lm B)
  repeat'(first|(with_reducible first|(refine zz ?_;try intro K hK)|refine zI ?_|refine zt ?_|refine zf ?_)|((first|refine hK _ ?_|refine hK _ _ rfl ?_);clear hK K)|(guard_hyp hK;first|(refine zY ?zz ?_;case zz=>first|exact rfl|exact gJ)|refine fresh_n ?_|refine freshO_n ?_|refine zW ?_|(refine zQ (hb9) ?_)|intro b0 hb)|((first|with_reducible refine zm ?_|guard_hyp hK);refine zY ?_ ?_;all_goals(intro hb;(try simp only [sn,sb] at hb);try exact ex0)))
  rw [← h2]
  exact⟨trivial,_,_,rfl,fz_ro rfl (fun h=>h),fz_con rfl⟩
theorem ten_ok (n0:Nat)(hn:n0≤8000000):Ok Tryz.prog 73 [.con (.int .i64 n0)] true (tn (lm (10 ^ n0))):=by
 have hO:=Of1_ok 1 1 (by decide)
 have hT:=Of1_ok 10 10 (by decide)
 have hp:=pow10_le n0
 refine ok_of_ev hC0 mix Tryz.func73 rfl rfl (by kernel_rfl) (zO rfl) ?_
 repeat'(first|(with_reducible first|(refine zz ?_;try intro K hK)|refine zI ?_|refine zt ?_|refine zf ?_)|((first|refine hK _ ?_|refine hK _ _ rfl ?_);clear hK K)|(guard_hyp hK;first|(refine zY ?zz ?_;case zz=>first|exact rfl|exact gJ)|refine fresh_n ?_|refine freshO_n ?_|refine zW ?_|(refine zQ (hO) ?_)|intro b0 hb)|((first|with_reducible refine zm ?_|guard_hyp hK);refine zY ?_ ?_;all_goals(intro hb;(try simp only [sn,sb] at hb);try exact ex0)))
 refine loop_i Nat (fun n=>⟨Tryz.f73.ntmps,[(0,.con (.int .i64 n)),(3,.ro true (tn (lm (10 ^ (n0 - n)))))],[]⟩) (fun n=>n≤n0) (fun n=>n) [] n0 trivial (Nat.le_refl _) ⟨rfl,⟨rfl,trivial,(by rw [Nat.sub_self];rfl),trivial,trivial⟩,trivial,trivial⟩ ?_
 intro n hle
 have l0:=lm_len_le (Nat.pow_le_pow_right (show 0 < 10 by decide) (show n0 - n≤n0 by omega))
 by_cases hlt:1024 < n
 ·obtain⟨B,hB⟩:∃B,B=1024:=⟨_,rfl⟩
  have hP:=Pow_ok B (Nat.le_of_eq hB)
  have l1:=lm_len_le (Nat.pow_le_pow_right (show 0 < 10 by decide) (show B≤n0 by omega))
  have hm:=Mul_ok (lm (10 ^ (n0 - n))) (lm (10 ^ B)) (by omega) (by omega)
  rw [val_lm,val_lm,← Nat.pow_add] at hm
  generalize 10 ^ B=Z at hP hm
  subst hB
  repeat'(first|(with_reducible first|(refine zz ?_;try intro K hK)|refine zI ?_|refine zt ?_|refine zf ?_)|((first|refine hK _ ?_|refine hK _ _ rfl ?_);clear hK K)|(guard_hyp hK;first|(refine zY ?zz ?_;case zz=>first|exact rfl|exact gJ)|refine fresh_n ?_|refine freshO_n ?_|refine zW ?_|(refine zQ (hT) ?_)|(refine zQ (hP) ?_)|(refine zQ (hm) ?_)|intro b0 hb)|((first|with_reducible refine zm ?_|guard_hyp hK);refine zY ?_ ?_;all_goals(intro hb;(try simp only [sn,sb] at hb);try exact ex0)))
  refine⟨n - 1024,by omega,by omega,rfl,⟨?_,trivial,?_,trivial,trivial⟩,trivial,trivial⟩
  ·exact congrArg (fun q=>V.con (.int .i64 q)) (by omega)
  ·rw [show n0 - (n - 1024)=n0 - n+1024 by omega];rfl
 ·have hP:=Pow_ok n (by omega)
  have l1:=lm_len_le (Nat.pow_le_pow_right (show 0 < 10 by decide) hle)
  have hm:=Mul_ok (lm (10 ^ (n0 - n))) (lm (10 ^ n)) (by omega) (by omega)
  rw [val_lm,val_lm,← Nat.pow_add,show n0 - n+n=n0 by omega] at hm
  repeat'(first|(with_reducible first|(refine zz ?_;try intro K hK)|refine zI ?_|refine zt ?_|refine zf ?_)|((first|refine hK _ ?_|refine hK _ _ rfl ?_);clear hK K)|(guard_hyp hK;first|(refine zY ?zz ?_;case zz=>first|exact rfl|exact gJ)|refine fresh_n ?_|refine freshO_n ?_|refine zW ?_|(refine zQ (hT) ?_)|(refine zQ (hP) ?_)|(refine zQ (hm) ?_)|intro b0 hb)|((first|with_reducible refine zm ?_|guard_hyp hK);refine zY ?_ ?_;all_goals(intro hb;(try simp only [sn,sb] at hb);try exact ex0)))
  exact⟨trivial,fz_ro rfl (fun h=>h)⟩
theorem or0 {n:Nat}(h:n < 4294967296):IntKind.u64.wrap (((BitVec.ofInt IntKind.u64.bits (0:Int) |||BitVec.ofInt IntKind.u64.bits (n:Int)).toNat:Nat):Int)=(n:Int):=by
 have e:(BitVec.ofInt IntKind.u64.bits (0:Int) |||BitVec.ofInt IntKind.u64.bits (n:Int)).toNat=n:=by
  rw [BitVec.toNat_or]
  have h1:(BitVec.ofInt IntKind.u64.bits (n:Int)).toNat=n:=by
   rw [BitVec.toNat_ofInt]
   show((n:Int) % (2 ^ 64:Nat)).toNat=n
   omega
  have h2:(BitVec.ofInt IntKind.u64.bits (0:Int)).toNat=0:=by decide
  rw [h1,h2,Nat.zero_or]
 rw [e]
 exact(wrapU64 (by omega) (by omega)).symm
theorem shl0 {n:Nat}{Q:Int→Prop}(h:n < 4294967296)(k:Q (n:Int)):∃r,r=IntKind.u64.wrap ((n:Int) * 2 ^ (min (32 * 0:Int).toNat IntKind.u64.bits))∧Q r:=by
 refine⟨_,rfl,?_⟩
 have:IntKind.u64.wrap ((n:Int) * 2 ^ (min (32 * 0:Int).toNat IntKind.u64.bits))=n:=by
  show IntKind.u64.wrap ((n:Int) * 1)=n
  rw [Int.mul_one]
  exact(wrapU64 (by omega) (by omega)).symm
 rw [this];exact k
theorem Uint_ok (n:Nat)(hn:n < 4294967296):Ok Tryz.prog 84 [tn (lm n)] true (.tup [.con (.int .u64 n),.con (.bool true)]):=by
 have hT:=trim_ok (lm n) (Nat.le_trans (lm_len (k:=1) (by omega)) (by decide))
 have e1:norm (lm n)=lm n:=by rw [norm_lm,val_lm]
 rw [e1] at hT
 by_cases h0:n=0
 ·subst h0
  have e0:lm 0=[]:=by simp [lm]
  rw [e0] at hT ⊢
  refine ok_of_ev hC0 mix Tryz.func84 rfl rfl (by kernel_rfl) (zO rfl) ?_
  repeat'(first|(with_reducible first|(refine zz ?_;try intro K hK)|refine zI ?_|refine zt ?_|refine zf ?_)|((first|refine hK _ ?_|refine hK _ _ rfl ?_);clear hK K)|(guard_hyp hK;first|(refine zY ?zz ?_;case zz=>first|exact rfl|exact gJ)|refine fresh_n ?_|refine freshO_n ?_|refine zW ?_|(refine zQ (hT) ?_)|intro b0 hb)|((first|with_reducible refine zm ?_|guard_hyp hK);refine zY ?_ ?_;all_goals(intro hb;(try simp only [sn,sb] at hb);try exact ex0)))
  refine loop_i Unit (fun _=>⟨Tryz.f84.ntmps,[(4,.con (.int .u64 0)),(13,.con (.int .i64 0)),(14,.con (.int .i64 0))],[]⟩) (fun _=>True) (fun _=>0) [] () trivial trivial ⟨rfl,⟨rfl,trivial,rfl,trivial,rfl,trivial,trivial⟩,trivial,trivial⟩ ?_
  rintro - -
  repeat'(first|(with_reducible first|(refine zz ?_;try intro K hK)|refine zI ?_|refine zt ?_|refine zf ?_)|((first|refine hK _ ?_|refine hK _ _ rfl ?_);clear hK K)|(guard_hyp hK;first|(refine zY ?zz ?_;case zz=>first|exact rfl|exact gJ)|refine fresh_n ?_|refine freshO_n ?_|refine zW ?_|intro b0 hb)|((first|with_reducible refine zm ?_|guard_hyp hK);refine zY ?_ ?_;all_goals(intro hb;(try simp only [sn,sb] at hb);try exact ex0)))
  exact⟨trivial,_,_,rfl,fz_con rfl,fz_con rfl⟩
 ·have e2:lm n=[UInt32.ofNat n]:=by
   have h1:val [UInt32.ofNat n]=n:=by
    show(UInt32.ofNat n).toNat+4294967296 * 0=n
    rw [UInt32.toNat_ofNat',Nat.mod_eq_of_lt hn];omega
   rw [← h1,← norm_lm]
   have h2:(UInt32.ofNat n)≠0:=fun e=>by
    have:=congrArg UInt32.toNat e
    rw [UInt32.toNat_ofNat',Nat.mod_eq_of_lt hn] at this
    exact h0 this
   rw [h1]
   simp [norm,h2]
  have e3:(UInt32.ofNat n).toNat=n:=by rw [UInt32.toNat_ofNat',Nat.mod_eq_of_lt hn]
  rw [e2] at hT ⊢
  refine ok_of_ev hC0 mix Tryz.func84 rfl rfl (by kernel_rfl) (zO rfl) ?_
  repeat'(first|(with_reducible first|(refine zz ?_;try intro K hK)|refine zI ?_|refine zt ?_|refine zf ?_)|((first|refine hK _ ?_|refine hK _ _ rfl ?_);clear hK K)|(guard_hyp hK;first|(refine zY ?zz ?_;case zz=>first|exact rfl|exact gJ)|refine fresh_n ?_|refine freshO_n ?_|refine zW ?_|(refine zQ (hT) ?_)|intro b0 hb)|((first|with_reducible refine zm ?_|guard_hyp hK);refine zY ?_ ?_;all_goals(intro hb;(try simp only [sn,sb] at hb);try exact ex0)))
  refine loop_i Nat (fun i=>⟨Tryz.f84.ntmps,[(4,.con (.int .u64 (if i=0 then 0 else n:Nat))),(12,.ro false (tn [UInt32.ofNat n])),(13,.con (.int .i64 1)),(14,.con (.int .i64 i))],[]⟩) (fun i=>i≤1) (fun i=>1 - i) [] 0 trivial (Nat.zero_le _) ⟨rfl,⟨rfl,trivial,rfl,trivial,rfl,trivial,rfl,trivial,trivial⟩,trivial,trivial⟩ ?_
  intro i hi
  by_cases hi0:i=0
  ·subst hi0
   rw [if_pos rfl]
   have hz:=or0 hn
   have hat:(([UInt32.ofNat n]:List UInt32).map tu32)[0]?=some (.con (.int .u32 n)):=by
    show some (tu32 (UInt32.ofNat n))=_
    unfold tu32
    rw [e3]
   repeat'(first|(first|refine Exists.intro _ (And.intro hat ?_)|refine shl0 hn ?_)|(with_reducible first|(refine zz ?_;try intro K hK)|refine zI ?_|refine zt ?_|refine zf ?_)|((first|refine hK _ ?_|refine hK _ _ rfl ?_);clear hK K)|(guard_hyp hK;first|(refine zY ?zz ?_;case zz=>first|exact rfl|exact gJ)|refine fresh_n ?_|refine freshO_n ?_|refine zW ?_|intro b0 hb)|((first|with_reducible refine zm ?_|guard_hyp hK);refine zY ?_ ?_;all_goals(intro hb;(try simp only [sn,sb] at hb);try exact ex0)))
   refine⟨1,Nat.le_refl _,by decide,rfl,⟨?_,trivial,rfl,trivial,rfl,trivial,rfl,trivial,trivial⟩,trivial,trivial⟩
   exact congrArg (fun q=>V.con (.int .u64 q)) hz
  ·obtain rfl:i=1:=by omega
   rw [if_neg (by decide)]
   repeat'(first|(with_reducible first|(refine zz ?_;try intro K hK)|refine zI ?_|refine zt ?_|refine zf ?_)|((first|refine hK _ ?_|refine hK _ _ rfl ?_);clear hK K)|(guard_hyp hK;first|(refine zY ?zz ?_;case zz=>first|exact rfl|exact gJ)|refine fresh_n ?_|refine freshO_n ?_|refine zW ?_|intro b0 hb)|((first|with_reducible refine zm ?_|guard_hyp hK);refine zY ?_ ?_;all_goals(intro hb;(try simp only [sn,sb] at hb);try exact ex0)))
   exact⟨trivial,_,_,rfl,fz_con rfl,fz_con rfl⟩
end Go.Ev
