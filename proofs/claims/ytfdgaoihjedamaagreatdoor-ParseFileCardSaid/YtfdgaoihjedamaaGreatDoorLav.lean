import Derived.Test.YtfdgaoihjedamaaGreatDoorLau
import Derived.Test.YtfdgaoihjedamaaGreatDoorLas
import Derived.Test.YtfdgaoihjedamaaGreatDoorLexA
import Derived.Test.YtfdgaoihjedamaaGreatDoorLai
set_option linter.all false
set_option maxHeartbeats 4000000
set_option maxRecDepth 10000
namespace Go.Ev
open Go.Proofs
theorem bitsN_le (l:List UInt32):bitsN l≤32 * l.length:=by
 unfold bitsN
 split
 ·exact Nat.zero_le _
 ·have:=len32_le (UInt32.toNat_lt (l.getD (l.length - 1) default))
  have h:l.length≠0:=fun h=>by
   have:=List.eq_nil_of_length_eq_zero h
   contradiction
  omega
theorem shr1 {n:Nat}{Q:Int→Prop}(k:Q ((n / 2:Nat):Int)):∃r,r=(n:Int).fdiv (2 ^ (min (1:Int).toNat IntKind.i64.bits))∧Q r:=by
 refine⟨_,rfl,?_⟩
 have:(n:Int).fdiv (2 ^ (min (1:Int).toNat IntKind.i64.bits))=((n / 2:Nat):Int):=by
  show(n:Int).fdiv 2=_
  rw [Int.fdiv_eq_ediv_of_nonneg _ (by decide)];rfl
 rw [this];exact k
theorem and1 {n:Nat}(h:n≤4294967296):IntKind.i64.wrap (((BitVec.ofInt IntKind.i64.bits (n:Int) &&& BitVec.ofInt IntKind.i64.bits (1:Int)).toNat:Nat):Int)=((n % 2:Nat):Int):=by
 have e:(BitVec.ofInt IntKind.i64.bits (n:Int) &&& BitVec.ofInt IntKind.i64.bits (1:Int)).toNat=n % 2:=by
  rw [BitVec.toNat_and]
  have h1:(BitVec.ofInt IntKind.i64.bits (n:Int)).toNat=n:=by
   rw [BitVec.toNat_ofInt]
   show((n:Int) % (2 ^ 64:Nat)).toNat=n
   omega
  have h2:(BitVec.ofInt IntKind.i64.bits (1:Int)).toNat=1:=by decide
  rw [h1,h2,Nat.and_one_is_mod]
 rw [e]
 exact(wrapI (by omega) (by omega)).symm
theorem Of1_ok (u:UInt64)(n:Nat)(h:val [u.toUInt32,(u >>> 32).toUInt32]=n):Ok Tryz.prog 112 [.con (.int .u64 u.toNat)] true (tn (lm n)):=by
 have:=Of_ok u
 rw [norm_lm,h] at this
 exact this
theorem Pow_ok (n0:Nat)(hn:n0≤1024):Ok Tryz.prog 134 [tn (lm 10),.con (.int .i64 n0)] true (.tup [tn (lm (10 ^ n0)),.con (.int .i64 0)]):=by
 have hT:=trim_ok [10] (by decide)
 rw [show norm [(10:UInt32)]=[10] from rfl] at hT
 have hB:=Bits_ok [10] (by decide)
 rw [show bitsN (norm [(10:UInt32)])=4 from by decide] at hB
 have hO:=Of1_ok 1 1 (by decide)
 have hw:=own_ok [10] (by decide)
 rw [show norm [(10:UInt32)]=lm 10 from by rw [lm_ten];rfl] at hw
 have e10:tn (lm 10)=tn [10]:=by rw [lm_ten]
 rw [e10]
 refine ok_of_ev hC0 mix Tryz.func134 rfl rfl (by kernel_rfl) (zO rfl) ?_
 repeat'(first|(with_reducible first|(refine zz ?_;try intro K hK)|refine zI ?_|refine zt ?_|refine zf ?_)|((first|refine hK _ ?_|refine hK _ _ rfl ?_);clear hK K)|(guard_hyp hK;first|(refine zY ?zz ?_;case zz=>first|exact rfl|exact gJ)|refine fresh_n ?_|refine freshO_n ?_|refine zW ?_|(refine zQ (hT) ?_)|(refine zQ (hB) ?_)|(refine zQ (hO) ?_)|(refine zQ (hw) ?_)|intro b0 hb)|((first|with_reducible refine zm ?_|guard_hyp hK);refine zY ?_ ?_;all_goals(intro hb;(try simp only [sn,sb] at hb);try exact ex0)))
 refine loop_i (Nat×Nat×Nat) (fun z=>⟨Tryz.f134.ntmps,[(1,.con (.int .i64 z.1)),(7,.ro true (tn (lm z.2.1))),(8,.ro true (tn (lm z.2.2)))],[]⟩) (fun z=>z.1≤n0∧z.2.1 * z.2.2 ^ z.1=10 ^ n0) (fun z=>z.1) [] (n0,1,10) trivial ⟨Nat.le_refl _,Nat.one_mul _⟩ ⟨rfl,⟨rfl,trivial,rfl,trivial,rfl,trivial,trivial⟩,trivial,trivial⟩ ?_
 rintro⟨n,B,U⟩ ⟨h1,h2⟩
 dsimp only at h1 h2
 obtain⟨s1,s2⟩:=ten_step h2
 have hp:=pow10_le n0
 have hA:=and1 (n:=n) (by omega)
 by_cases hz:1≤n
 ·have hB1:1≤B:=by
   rcases Nat.eq_zero_or_pos B with h9|h9
   ·rw [h9,Nat.zero_mul] at h2
    exact absurd h2.symm (Nat.ne_of_gt (Nat.pow_pos (by decide)))
   ·exact h9
  have hU:1≤U:=by
   rcases Nat.eq_zero_or_pos U with h9|h9
   ·rw [h9,Nat.zero_pow hz,Nat.mul_zero] at h2
    exact absurd h2.symm (Nat.ne_of_gt (Nat.pow_pos (by decide)))
   ·exact h9
  have b1:B≤10 ^ n0:=by rw [← h2];exact Nat.le_mul_of_pos_right _ (Nat.pow_pos hU)
  have b2:U≤10 ^ n0:=by
   rw [← h2]
   exact Nat.le_trans (Nat.le_pow (b:=n) hz) (Nat.le_mul_of_pos_left _ hB1)
  have l1:=lm_len_le b1
  have l2:=lm_len_le b2
  have m1:=Mul_ok (lm B) (lm U) (by omega) (by omega)
  have m2:=Mul_ok (lm U) (lm U) (by omega) (by omega)
  rw [val_lm,val_lm] at m1
  rw [val_lm] at m2
  repeat'(first|(refine shr1 ?_)|(with_reducible first|(refine zz ?_;try intro K hK)|refine zI ?_|refine zt ?_|refine zf ?_)|((first|refine hK _ ?_|refine hK _ _ rfl ?_);clear hK K)|(guard_hyp hK;first|(refine zY ?zz ?_;case zz=>first|exact rfl|exact gJ)|refine fresh_n ?_|refine freshO_n ?_|refine zW ?_|(refine zQ (m1) ?_)|(refine zQ (m2) ?_)|intro b0 hb)|((first|with_reducible refine zm ?_|guard_hyp hK);refine zY ?_ ?_;all_goals(intro hb;(try simp only [sn,sb] at hb);try exact ex0)))
  ·exact⟨(n / 2,B * U,U * U),⟨by dsimp only;omega,s1 (by omega)⟩,by dsimp only;omega,rfl,⟨rfl,trivial,rfl,trivial,rfl,trivial,trivial⟩,trivial,trivial⟩
  ·have hn1:n=1:=by omega
   exact⟨(n / 2,B * U,U),⟨by dsimp only;omega,by dsimp only;rw [hn1] at h2 ⊢;rw [Nat.pow_one] at h2;rw [Nat.pow_zero,Nat.mul_one];exact h2⟩,by dsimp only;omega,rfl,⟨rfl,trivial,rfl,trivial,rfl,trivial,trivial⟩,trivial,trivial⟩
  ·exact⟨(n / 2,B,U * U),⟨by dsimp only;omega,s2 (by omega)⟩,by dsimp only;omega,rfl,⟨rfl,trivial,rfl,trivial,rfl,trivial,trivial⟩,trivial,trivial⟩
 ·obtain rfl:n=0:=by omega
  rw [Nat.pow_zero,Nat.mul_one] at h2
  have hL:=lm_len_le (Nat.le_of_eq h2)
  have hb9:=Bits_ok (lm B) (by omega)
  have hbl:=bitsN_le (norm (lm B))
  have hnl:=norm_le (lm B)
  repeat'(first|(with_reducible first|(refine zz ?_;try intro K hK)|refine zI ?_|refine zt ?_|refine zf ?_)|((first|refine hK _ ?_|refine hK _ _ rfl ?_);clear hK K)|(guard_hyp hK;first|(refine zY ?zz ?_;case zz=>first|exact rfl|exact gJ)|refine fresh_n ?_|refine freshO_n ?_|refine zW ?_|(refine zQ (hb9) ?_)|intro b0 hb)|((first|with_reducible refine zm ?_|guard_hyp hK);refine zY ?_ ?_;all_goals(intro hb;(try simp only [sn,sb] at hb);try exact ex0)))
  rw [← h2]
  exact⟨trivial,_,_,rfl,fz_ro rfl (fun h=>h),fz_con rfl⟩
theorem ten_ok (n0:Nat)(hn:n0≤1000000):Ok Tryz.prog 114 [.con (.int .i64 n0)] true (tn (lm (10 ^ n0))):=by
 have hO:=Of1_ok 1 1 (by decide)
 have hT:=Of1_ok 10 10 (by decide)
 have hp:=pow10_le n0
 refine ok_of_ev hC0 mix Tryz.func114 rfl rfl (by kernel_rfl) (zO rfl) ?_
 repeat'(first|(with_reducible first|(refine zz ?_;try intro K hK)|refine zI ?_|refine zt ?_|refine zf ?_)|((first|refine hK _ ?_|refine hK _ _ rfl ?_);clear hK K)|(guard_hyp hK;first|(refine zY ?zz ?_;case zz=>first|exact rfl|exact gJ)|refine fresh_n ?_|refine freshO_n ?_|refine zW ?_|(refine zQ (hO) ?_)|intro b0 hb)|((first|with_reducible refine zm ?_|guard_hyp hK);refine zY ?_ ?_;all_goals(intro hb;(try simp only [sn,sb] at hb);try exact ex0)))
 refine loop_i Nat (fun n=>⟨Tryz.f114.ntmps,[(0,.con (.int .i64 n)),(3,.ro true (tn (lm (10 ^ (n0 - n)))))],[]⟩) (fun n=>n≤n0) (fun n=>n) [] n0 trivial (Nat.le_refl _) ⟨rfl,⟨rfl,trivial,(by rw [Nat.sub_self];rfl),trivial,trivial⟩,trivial,trivial⟩ ?_
 intro n hle
 have l0:=lm_len_le (Nat.pow_le_pow_right (show 0 < 10 by decide) (show n0 - n≤n0 by omega))
 by_cases hlt:1024 < n
 ·obtain⟨B,hB⟩:∃B,B=1024:=⟨_,rfl⟩
  have hP:=Pow_ok B (Nat.le_of_eq hB)
  have l1:=lm_len_le (Nat.pow_le_pow_right (show 0 < 10 by decide) (show B≤n0 by omega))
  have hm:=Mul_ok (lm (10 ^ (n0 - n))) (lm (10 ^ B)) (by omega) (by omega)
  rw [val_lm,val_lm,← Nat.pow_add] at hm
  generalize 10 ^ B=Z at hP hm
  subst hB
  repeat'(first|(with_reducible first|(refine zz ?_;try intro K hK)|refine zI ?_|refine zt ?_|refine zf ?_)|((first|refine hK _ ?_|refine hK _ _ rfl ?_);clear hK K)|(guard_hyp hK;first|(refine zY ?zz ?_;case zz=>first|exact rfl|exact gJ)|refine fresh_n ?_|refine freshO_n ?_|refine zW ?_|(refine zQ (hT) ?_)|(refine zQ (hP) ?_)|(refine zQ (hm) ?_)|intro b0 hb)|((first|with_reducible refine zm ?_|guard_hyp hK);refine zY ?_ ?_;all_goals(intro hb;(try simp only [sn,sb] at hb);try exact ex0)))
  refine⟨n - 1024,by omega,by omega,rfl,⟨?_,trivial,?_,trivial,trivial⟩,trivial,trivial⟩
  ·exact congrArg (fun q=>V.con (.int .i64 q)) (by omega)
  ·rw [show n0 - (n - 1024)=n0 - n+1024 by omega];rfl
 ·have hP:=Pow_ok n (by omega)
  have l1:=lm_len_le (Nat.pow_le_pow_right (show 0 < 10 by decide) hle)
  have hm:=Mul_ok (lm (10 ^ (n0 - n))) (lm (10 ^ n)) (by omega) (by omega)
  rw [val_lm,val_lm,← Nat.pow_add,show n0 - n+n=n0 by omega] at hm
  repeat'(first|(with_reducible first|(refine zz ?_;try intro K hK)|refine zI ?_|refine zt ?_|refine zf ?_)|((first|refine hK _ ?_|refine hK _ _ rfl ?_);clear hK K)|(guard_hyp hK;first|(refine zY ?zz ?_;case zz=>first|exact rfl|exact gJ)|refine fresh_n ?_|refine freshO_n ?_|refine zW ?_|(refine zQ (hT) ?_)|(refine zQ (hP) ?_)|(refine zQ (hm) ?_)|intro b0 hb)|((first|with_reducible refine zm ?_|guard_hyp hK);refine zY ?_ ?_;all_goals(intro hb;(try simp only [sn,sb] at hb);try exact ex0)))
  exact⟨trivial,fz_ro rfl (fun h=>h)⟩
theorem or0 {n:Nat}(h:n < 4294967296):IntKind.u64.wrap (((BitVec.ofInt IntKind.u64.bits (0:Int) |||BitVec.ofInt IntKind.u64.bits (n:Int)).toNat:Nat):Int)=(n:Int):=by
 have e:(BitVec.ofInt IntKind.u64.bits (0:Int) |||BitVec.ofInt IntKind.u64.bits (n:Int)).toNat=n:=by
  rw [BitVec.toNat_or]
  have h1:(BitVec.ofInt IntKind.u64.bits (n:Int)).toNat=n:=by
   rw [BitVec.toNat_ofInt]
   show((n:Int) % (2 ^ 64:Nat)).toNat=n
   omega
  have h2:(BitVec.ofInt IntKind.u64.bits (0:Int)).toNat=0:=by decide
  rw [h1,h2,Nat.zero_or]
 rw [e]
 exact(wrapU64 (by omega) (by omega)).symm
theorem shl0 {n:Nat}{Q:Int→Prop}(h:n < 4294967296)(k:Q (n:Int)):∃r,r=IntKind.u64.wrap ((n:Int) * 2 ^ (min (32 * 0:Int).toNat IntKind.u64.bits))∧Q r:=by
 refine⟨_,rfl,?_⟩
 have:IntKind.u64.wrap ((n:Int) * 2 ^ (min (32 * 0:Int).toNat IntKind.u64.bits))=n:=by
  show IntKind.u64.wrap ((n:Int) * 1)=n
  rw [Int.mul_one]
  exact(wrapU64 (by omega) (by omega)).symm
 rw [this];exact k
theorem Uint_ok (n:Nat)(hn:n < 4294967296):Ok Tryz.prog 133 [tn (lm n)] true (.tup [.con (.int .u64 n),.con (.bool true)]):=by
 have hT:=trim_ok (lm n) (Nat.le_trans (lm_len (k:=1) (by omega)) (by decide))
 have e1:norm (lm n)=lm n:=by rw [norm_lm,val_lm]
 rw [e1] at hT
 by_cases h0:n=0
 ·subst h0
  have e0:lm 0=[]:=by simp [lm]
  rw [e0] at hT ⊢
  refine ok_of_ev hC0 mix Tryz.func133 rfl rfl (by kernel_rfl) (zO rfl) ?_
  repeat'(first|(with_reducible first|(refine zz ?_;try intro K hK)|refine zI ?_|refine zt ?_|refine zf ?_)|((first|refine hK _ ?_|refine hK _ _ rfl ?_);clear hK K)|(guard_hyp hK;first|(refine zY ?zz ?_;case zz=>first|exact rfl|exact gJ)|refine fresh_n ?_|refine freshO_n ?_|refine zW ?_|(refine zQ (hT) ?_)|intro b0 hb)|((first|with_reducible refine zm ?_|guard_hyp hK);refine zY ?_ ?_;all_goals(intro hb;(try simp only [sn,sb] at hb);try exact ex0)))
  refine loop_i Unit (fun _=>⟨Tryz.f133.ntmps,[(4,.con (.int .u64 0)),(13,.con (.int .i64 0)),(14,.con (.int .i64 0))],[]⟩) (fun _=>True) (fun _=>0) [] () trivial trivial ⟨rfl,⟨rfl,trivial,rfl,trivial,rfl,trivial,trivial⟩,trivial,trivial⟩ ?_
  rintro - -
  repeat'(first|(with_reducible first|(refine zz ?_;try intro K hK)|refine zI ?_|refine zt ?_|refine zf ?_)|((first|refine hK _ ?_|refine hK _ _ rfl ?_);clear hK K)|(guard_hyp hK;first|(refine zY ?zz ?_;case zz=>first|exact rfl|exact gJ)|refine fresh_n ?_|refine freshO_n ?_|refine zW ?_|intro b0 hb)|((first|with_reducible refine zm ?_|guard_hyp hK);refine zY ?_ ?_;all_goals(intro hb;(try simp only [sn,sb] at hb);try exact ex0)))
  exact⟨trivial,_,_,rfl,fz_con rfl,fz_con rfl⟩
 ·have e2:lm n=[UInt32.ofNat n]:=by
   have h1:val [UInt32.ofNat n]=n:=by
    show(UInt32.ofNat n).toNat+4294967296 * 0=n
    rw [UInt32.toNat_ofNat',Nat.mod_eq_of_lt hn];omega
   rw [← h1,← norm_lm]
   have h2:(UInt32.ofNat n)≠0:=fun e=>by
    have:=congrArg UInt32.toNat e
    rw [UInt32.toNat_ofNat',Nat.mod_eq_of_lt hn] at this
    exact h0 this
   rw [h1]
   simp [norm,h2]
  have e3:(UInt32.ofNat n).toNat=n:=by rw [UInt32.toNat_ofNat',Nat.mod_eq_of_lt hn]
  rw [e2] at hT ⊢
  refine ok_of_ev hC0 mix Tryz.func133 rfl rfl (by kernel_rfl) (zO rfl) ?_
  repeat'(first|(with_reducible first|(refine zz ?_;try intro K hK)|refine zI ?_|refine zt ?_|refine zf ?_)|((first|refine hK _ ?_|refine hK _ _ rfl ?_);clear hK K)|(guard_hyp hK;first|(refine zY ?zz ?_;case zz=>first|exact rfl|exact gJ)|refine fresh_n ?_|refine freshO_n ?_|refine zW ?_|(refine zQ (hT) ?_)|intro b0 hb)|((first|with_reducible refine zm ?_|guard_hyp hK);refine zY ?_ ?_;all_goals(intro hb;(try simp only [sn,sb] at hb);try exact ex0)))
  refine loop_i Nat (fun i=>⟨Tryz.f133.ntmps,[(4,.con (.int .u64 (if i=0 then 0 else n:Nat))),(12,.ro false (tn [UInt32.ofNat n])),(13,.con (.int .i64 1)),(14,.con (.int .i64 i))],[]⟩) (fun i=>i≤1) (fun i=>1 - i) [] 0 trivial (Nat.zero_le _) ⟨rfl,⟨rfl,trivial,rfl,trivial,rfl,trivial,rfl,trivial,trivial⟩,trivial,trivial⟩ ?_
  intro i hi
  by_cases hi0:i=0
  ·subst hi0
   rw [if_pos rfl]
   have hz:=or0 hn
   have hat:(([UInt32.ofNat n]:List UInt32).map tu32)[0]?=some (.con (.int .u32 n)):=by
    show some (tu32 (UInt32.ofNat n))=_
    unfold tu32
    rw [e3]
   repeat'(first|(first|refine Exists.intro _ (And.intro hat ?_)|refine shl0 hn ?_)|(with_reducible first|(refine zz ?_;try intro K hK)|refine zI ?_|refine zt ?_|refine zf ?_)|((first|refine hK _ ?_|refine hK _ _ rfl ?_);clear hK K)|(guard_hyp hK;first|(refine zY ?zz ?_;case zz=>first|exact rfl|exact gJ)|refine fresh_n ?_|refine freshO_n ?_|refine zW ?_|intro b0 hb)|((first|with_reducible refine zm ?_|guard_hyp hK);refine zY ?_ ?_;all_goals(intro hb;(try simp only [sn,sb] at hb);try exact ex0)))
   refine⟨1,Nat.le_refl _,by decide,rfl,⟨?_,trivial,rfl,trivial,rfl,trivial,rfl,trivial,trivial⟩,trivial,trivial⟩
   exact congrArg (fun q=>V.con (.int .u64 q)) hz
  ·obtain rfl:i=1:=by omega
   rw [if_neg (by decide)]
   repeat'(first|(with_reducible first|(refine zz ?_;try intro K hK)|refine zI ?_|refine zt ?_|refine zf ?_)|((first|refine hK _ ?_|refine hK _ _ rfl ?_);clear hK K)|(guard_hyp hK;first|(refine zY ?zz ?_;case zz=>first|exact rfl|exact gJ)|refine fresh_n ?_|refine freshO_n ?_|refine zW ?_|intro b0 hb)|((first|with_reducible refine zm ?_|guard_hyp hK);refine zY ?_ ?_;all_goals(intro hb;(try simp only [sn,sb] at hb);try exact ex0)))
   exact⟨trivial,_,_,rfl,fz_con rfl,fz_con rfl⟩
theorem letter_ok (b:UInt8):Ok Tryz.prog 83 [tb b] true (.con (.bool (isLet b))):=by
 refine ok_of_ev hC0 mix Tryz.func83 rfl rfl (by kernel_rfl) (zO rfl) ?_
 repeat'(first|(with_reducible first|(refine zz ?_;try intro K hK)|refine zI ?_|refine zt ?_|refine zf ?_)|((first|refine hK _ ?_|refine hK _ _ rfl ?_);clear hK K)|(guard_hyp hK;first|(refine zY ?zz ?_;case zz=>first|exact rfl|exact gJ)|refine fresh_n ?_|refine freshO_n ?_|refine zW ?_|intro b0 hb)|((first|with_reducible refine zm ?_|guard_hyp hK);refine zY ?_ ?_;all_goals(intro hb;(try simp only [sn,sb] at hb);try exact ex0)))
 all_goals(refine retb rfl rfl ?_;rw [Bool.eq_iff_iff];unfold isLet;simp;omega)
theorem ldigit_ok (b:UInt8):Ok Tryz.prog 86 [tb b] true (.con (.bool (isDig b))):=by
 refine ok_of_ev hC0 mix Tryz.func86 rfl rfl (by kernel_rfl) (zO rfl) ?_
 repeat'(first|(with_reducible first|(refine zz ?_;try intro K hK)|refine zI ?_|refine zt ?_|refine zf ?_)|((first|refine hK _ ?_|refine hK _ _ rfl ?_);clear hK K)|(guard_hyp hK;first|(refine zY ?zz ?_;case zz=>first|exact rfl|exact gJ)|refine fresh_n ?_|refine freshO_n ?_|refine zW ?_|intro b0 hb)|((first|with_reducible refine zm ?_|guard_hyp hK);refine zY ?_ ?_;all_goals(intro hb;(try simp only [sn,sb] at hb);try exact ex0)))
 all_goals(refine retb rfl rfl ?_;rw [Bool.eq_iff_iff];unfold isDig;simp;omega)
theorem inWord_ok (b:UInt8):Ok Tryz.prog 85 [tb b] true (.con (.bool (isWrd b))):=by
 have h1:=letter_ok b
 have h2:=ldigit_ok b
 refine ok_of_ev hC0 mix Tryz.func85 rfl rfl (by kernel_rfl) (zO rfl) ?_
 repeat'(first|(with_reducible first|(refine zz ?_;try intro K hK)|refine zI ?_|refine zt ?_|refine zf ?_)|((first|refine hK _ ?_|refine hK _ _ rfl ?_);clear hK K)|(guard_hyp hK;first|(refine zY ?zz ?_;case zz=>first|exact rfl|exact gJ)|refine fresh_n ?_|refine freshO_n ?_|refine zW ?_|(refine zQ (h1) ?_)|(refine zQ (h2) ?_)|intro b0 hb)|((first|with_reducible refine zm ?_|guard_hyp hK);refine zY ?_ ?_;all_goals(intro hb;(try simp only [sn,sb] at hb);try exact ex0)))
 all_goals(refine retb rfl rfl ?_;unfold isWrd;simp_all)
def tFn (q:Nat):T:=.con (.func (.func q) #[] #[])
theorem run_ok (s:ByteArray)(i:Nat)(q:Nat)(p:UInt8→Bool)(hq:∀b,Ok Tryz.prog q [tb b] true (.con (.bool (p b))))(hs:s.size≤1073741824)(hi:i≤4294967296):Ok Tryz.prog 84 [tS9 s,.con (.int .i64 i),tFn q] true (.con (.int .i64 (runF p s i))):=by
 refine ok_of_ev hC0 mix Tryz.func84 rfl rfl (by kernel_rfl) (zO rfl) ?_
 repeat'(first|(with_reducible first|(refine zz ?_;try intro K hK)|refine zI ?_|refine zt ?_|refine zf ?_)|((first|refine hK _ ?_|refine hK _ _ rfl ?_);clear hK K)|(guard_hyp hK;first|(refine zY ?zz ?_;case zz=>first|exact rfl|exact gJ)|refine fresh_n ?_|refine freshO_n ?_|refine zW ?_|intro b0 hb)|((first|with_reducible refine zm ?_|guard_hyp hK);refine zY ?_ ?_;all_goals(intro hb;(try simp only [sn,sb] at hb);try exact ex0)))
 refine loop_i Nat (fun n=>⟨Tryz.f84.ntmps,[(0,.con (.string s)),(1,.con (.int .i64 i)),(2,.con (.func (.func q) #[] #[])),(7,.con (.int .i64 n))],[]⟩) (fun n=>(n=0∨i+n≤s.size)∧n+runF p s (i+n)=runF p s i) (fun n=>s.size - (i+n)) [] 0 trivial ⟨.inl rfl,by simp⟩ ⟨rfl,⟨rfl,trivial,rfl,trivial,rfl,trivial,rfl,trivial,trivial⟩,trivial,trivial⟩ ?_
 rintro n ⟨h0,h1⟩
 by_cases hlt:i+n < s.size
 ·have hd:=hq (chr s (i+n))
  repeat'(first|(refine at_s ?_;intro hu)|(with_reducible first|(refine zz ?_;try intro K hK)|refine zI ?_|refine zt ?_|refine zf ?_)|((first|refine hK _ ?_|refine hK _ _ rfl ?_);clear hK K)|(guard_hyp hK;first|(refine zY ?zz ?_;case zz=>first|exact rfl|exact gJ)|refine fresh_n ?_|refine freshO_n ?_|refine zW ?_|(refine zQ (hd) ?_)|intro b0 hb)|((first|with_reducible refine zm ?_|guard_hyp hK);refine zY ?_ ?_;all_goals(intro hb;(try simp only [sn,sb] at hb);try exact ex0)))
  ·refine⟨n+1,⟨.inr (by omega),?_⟩,by omega,rfl,⟨rfl,trivial,rfl,trivial,rfl,trivial,rfl,trivial,trivial⟩,trivial,trivial⟩
   rw [runF_yes hlt hb] at h1
   rw [← h1,← Nat.add_assoc i n 1];omega
  ·refine reti rfl rfl ?_
   rw [runF_no hlt hb,Nat.add_zero] at h1
   rw [h1]
 ·repeat'(first|(with_reducible first|(refine zz ?_;try intro K hK)|refine zI ?_|refine zt ?_|refine zf ?_)|((first|refine hK _ ?_|refine hK _ _ rfl ?_);clear hK K)|(guard_hyp hK;first|(refine zY ?zz ?_;case zz=>first|exact rfl|exact gJ)|refine fresh_n ?_|refine freshO_n ?_|refine zW ?_|intro b0 hb)|((first|with_reducible refine zm ?_|guard_hyp hK);refine zY ?_ ?_;all_goals(intro hb;(try simp only [sn,sb] at hb);try exact ex0)))
  refine reti rfl rfl ?_
  rw [runF_end (by omega),Nat.add_zero] at h1
  rw [h1]
def preB (s w:ByteArray):Bool:=decide (w.size≤s.size) && ((s.extract 0 w.size).toList == w.toList)
theorem slPre_ok (s w:ByteArray)(hs:s.size≤1073741826)(hw:w.size≤1073741826):Ok Tryz.prog 124 [tS9 s,tS9 w] true (.con (.bool (preB s w))):=by
 unfold preB
 refine ok_of_ev hC0 mix Tryz.func124 rfl rfl (by kernel_rfl) (zO rfl) ?_
 repeat'(first|(with_reducible first|(refine zz ?_;try intro K hK)|refine zI ?_|refine zt ?_|refine zf ?_)|((first|refine hK _ ?_|refine hK _ _ rfl ?_);clear hK K)|(guard_hyp hK;first|(refine zY ?zz ?_;case zz=>first|exact rfl|exact gJ)|refine fresh_n ?_|refine freshO_n ?_|refine zW ?_|intro b0 hb)|((first|with_reducible refine zm ?_|guard_hyp hK);refine zY ?_ ?_;all_goals(intro hb;(try simp only [sn,sb] at hb);try exact ex0)))
 ·exact retb rfl rfl (by rw [decide_eq_true (by omega),Bool.true_and];rfl)
 ·exact retb rfl rfl (by rw [decide_eq_false (by omega),Bool.false_and])
theorem HasPre_ok (s w:ByteArray)(hs:s.size≤1073741826)(hw:w.size≤1073741826):Ok Tryz.prog 103 [tS9 s,tS9 w] true (.con (.bool (preB s w))):=by
 refine ok_of_ev hC0 mix Tryz.func103 rfl rfl (by kernel_rfl) (zO rfl) ?_
 repeat'(first|(with_reducible first|(refine zz ?_;try intro K hK)|refine zI ?_|refine zt ?_|refine zf ?_)|((first|refine hK _ ?_|refine hK _ _ rfl ?_);clear hK K)|(guard_hyp hK;first|(refine zY ?zz ?_;case zz=>first|exact rfl|exact gJ)|refine fresh_n ?_|refine freshO_n ?_|refine zW ?_|(refine zQ (slPre_ok s w hs hw) ?_)|intro b0 hb)|((first|with_reducible refine zm ?_|guard_hyp hK);refine zY ?_ ?_;all_goals(intro hb;(try simp only [sn,sb] at hb);try exact ex0)))
 exact retb rfl rfl rfl
theorem slCut_no (s w:ByteArray)(hs:s.size≤1073741826)(hw:w.size≤1073741826)(h:preB s w=false):Ok Tryz.prog 132 [tS9 s,tS9 w] true (.tup [tS9 s,.con (.bool false)]):=by
 have h1:=slPre_ok s w hs hw
 rw [h] at h1
 refine ok_of_ev hC0 mix Tryz.func132 rfl rfl (by kernel_rfl) (zO rfl) ?_
 repeat'(first|(with_reducible first|(refine zz ?_;try intro K hK)|refine zI ?_|refine zt ?_|refine zf ?_)|((first|refine hK _ ?_|refine hK _ _ rfl ?_);clear hK K)|(guard_hyp hK;first|(refine zY ?zz ?_;case zz=>first|exact rfl|exact gJ)|refine fresh_n ?_|refine freshO_n ?_|refine zW ?_|(refine zQ (h1) ?_)|intro b0 hb)|((first|with_reducible refine zm ?_|guard_hyp hK);refine zY ?_ ?_;all_goals(intro hb;(try simp only [sn,sb] at hb);try exact ex0)))
 exact⟨trivial,_,_,rfl,fz_con rfl,fz_con rfl⟩
theorem Cut_no (s w:ByteArray)(hs:s.size≤1073741826)(hw:w.size≤1073741826)(h:preB s w=false):Ok Tryz.prog 109 [tS9 s,tS9 w] true (.tup [tS9 s,.con (.bool false)]):=by
 refine ok_of_ev hC0 mix Tryz.func109 rfl rfl (by kernel_rfl) (zO rfl) ?_
 repeat'(first|(with_reducible first|(refine zz ?_;try intro K hK)|refine zI ?_|refine zt ?_|refine zf ?_)|((first|refine hK _ ?_|refine hK _ _ rfl ?_);clear hK K)|(guard_hyp hK;first|(refine zY ?zz ?_;case zz=>first|exact rfl|exact gJ)|refine fresh_n ?_|refine freshO_n ?_|refine zW ?_|(refine zQ (slCut_no s w hs hw h) ?_)|intro b0 hb)|((first|with_reducible refine zm ?_|guard_hyp hK);refine zY ?_ ?_;all_goals(intro hb;(try simp only [sn,sb] at hb);try exact ex0)))
 exact⟨trivial,_,_,rfl,fz_con rfl,fz_con rfl⟩
def expS (s:ByteArray):ByteArray:=if numE s then sub s (numK s) (runF isDig s (numK s)) else⟨#[]⟩
theorem number_ok (s:ByteArray)(hs:s.size≤1073741824):Ok Tryz.prog 87 [tS9 s] true (.tup [.con (.int .i64 (numF s)),.con (.string (expS s))]):=by
 have h0:=runF_le (p:=isDig) (s:=s) (i:=0) (Nat.zero_le _)
 have hA:=numA_le (s:=s)
 have r0:=run_ok s 0 86 isDig ldigit_ok hs (by omega)
 refine ok_of_ev hC0 mix Tryz.func87 rfl rfl (by kernel_rfl) (zO rfl) ?_
 repeat'(first|(first|(refine at_s (s:=s) (i:=runF isDig s 0) ?_ (by omega);intro hu)|refine seq_j (a:=Code.seq (Code.region 2 _ _) (Code.cond _ _ _)) Unit (fun _=>⟨Tryz.f87.ntmps,[(0,.con (.string s)),(4,.con (.int .i64 (numA s)))],[]⟩) (fun _=>True) ?_ ?_)|(with_reducible first|(refine zz ?_;try intro K hK)|refine zI ?_|refine zt ?_|refine zf ?_)|((first|refine hK _ ?_|refine hK _ _ rfl ?_);clear hK K)|(guard_hyp hK;first|(refine zY ?zz ?_;case zz=>first|exact rfl|exact gJ)|refine fresh_n ?_|refine freshO_n ?_|refine zW ?_|(refine zQ (r0) ?_)|intro b0 hb)|((first|with_reducible refine zm ?_|guard_hyp hK);refine zY ?_ ?_;all_goals(intro hb;(try simp only [sn,sb] at hb);try exact ex0)))
 ·rintro - -
  have hlt:∀i,(chr s i).toNat≠0→i < s.size:=fun i h=>by
   rcases Nat.lt_or_ge i s.size with h9|h9
   ·exact h9
   ·rw [chr_end h9] at h;exact absurd rfl h
  by_cases hc:(chr s (numA s)).toNat=101∨(chr s (numA s)).toNat=69
  ·have ha:=hlt (numA s) (by omega)
   by_cases hk:(chr s (numA s+1)).toNat=43∨(chr s (numA s+1)).toNat=45
   ·have hK:numK s=numA s+2:=if_pos hk
    have ha2:=hlt (numA s+1) (by omega)
    have hl:=runF_le (p:=isDig) (s:=s) (i:=numA s+2) (by omega)
    have hdg:=run_ok s (numA s+2) 86 isDig ldigit_ok hs (by omega)
    by_cases hm:0 < runF isDig s (numA s+2)
    ·have hq:numE s:=⟨hc,by rw [hK];exact hm⟩
     have hF:numF s=numA s+2+runF isDig s (numA s+2):=by unfold numF;rw [if_pos hq,hK]
     have hX:expS s=sub s (numA s+2) (runF isDig s (numA s+2)):=by unfold expS;rw [if_pos hq,hK]
     rw [hF,hX]
     clear hF hX hq hK r0
     generalize numA s=A9 at *
     repeat'(first|(first|(refine at_s (s:=s) (i:=A9) ?_ (by omega);intro hu)|(refine at_s (s:=s) (i:=A9+1) ?_ (by omega);intro hu))|(with_reducible first|(refine zz ?_;try intro K hK)|refine zI ?_|refine zt ?_|refine zf ?_)|((first|refine hK _ ?_|refine hK _ _ rfl ?_);clear hK K)|(guard_hyp hK;first|(refine zY ?zz ?_;case zz=>first|exact rfl|exact gJ)|refine fresh_n ?_|refine freshO_n ?_|refine zW ?_|(refine zQ (hdg) ?_)|intro b0 hb)|((first|with_reducible refine zm ?_|guard_hyp hK);refine zY ?_ ?_;all_goals(intro hb;(try simp only [sn,sb] at hb);try exact ex0)))
     all_goals first|refine Exists.intro _ (Exists.intro _ (And.intro rfl (And.intro (fz_con rfl) (fz_con rfl))))|exact⟨trivial,_,_,rfl,fz_con rfl,fz_con rfl⟩|(exfalso;omega)
    ·have hq:¬numE s:=fun h=>hm (by rw [← hK];exact h.2)
     have hF:numF s=numA s:=by unfold numF;rw [if_neg hq]
     have hX:expS s=⟨#[]⟩:=by unfold expS;rw [if_neg hq]
     rw [hF,hX]
     clear hF hX hq hK r0
     generalize numA s=A9 at *
     repeat'(first|(first|(refine at_s (s:=s) (i:=A9) ?_ (by omega);intro hu)|(refine at_s (s:=s) (i:=A9+1) ?_ (by omega);intro hu))|(with_reducible first|(refine zz ?_;try intro K hK)|refine zI ?_|refine zt ?_|refine zf ?_)|((first|refine hK _ ?_|refine hK _ _ rfl ?_);clear hK K)|(guard_hyp hK;first|(refine zY ?zz ?_;case zz=>first|exact rfl|exact gJ)|refine fresh_n ?_|refine freshO_n ?_|refine zW ?_|(refine zQ (hdg) ?_)|intro b0 hb)|((first|with_reducible refine zm ?_|guard_hyp hK);refine zY ?_ ?_;all_goals(intro hb;(try simp only [sn,sb] at hb);try exact ex0)))
     all_goals first|refine Exists.intro _ (Exists.intro _ (And.intro rfl (And.intro (fz_con rfl) (fz_con rfl))))|exact⟨trivial,_,_,rfl,fz_con rfl,fz_con rfl⟩|(exfalso;omega)
   ·have hK:numK s=numA s+1:=if_neg hk
    have hl:=runF_le (p:=isDig) (s:=s) (i:=numA s+1) (by omega)
    have hdg:=run_ok s (numA s+1) 86 isDig ldigit_ok hs (by omega)
    by_cases hm:0 < runF isDig s (numA s+1)
    ·have hq:numE s:=⟨hc,by rw [hK];exact hm⟩
     have hF:numF s=numA s+1+runF isDig s (numA s+1):=by unfold numF;rw [if_pos hq,hK]
     have hX:expS s=sub s (numA s+1) (runF isDig s (numA s+1)):=by unfold expS;rw [if_pos hq,hK]
     rw [hF,hX]
     clear hF hX hq hK r0
     generalize numA s=A9 at *
     repeat'(first|(first|(refine at_s (s:=s) (i:=A9) ?_ (by omega);intro hu)|(refine at_s (s:=s) (i:=A9+1) ?_ (by omega);intro hu))|(with_reducible first|(refine zz ?_;try intro K hK)|refine zI ?_|refine zt ?_|refine zf ?_)|((first|refine hK _ ?_|refine hK _ _ rfl ?_);clear hK K)|(guard_hyp hK;first|(refine zY ?zz ?_;case zz=>first|exact rfl|exact gJ)|refine fresh_n ?_|refine freshO_n ?_|refine zW ?_|(refine zQ (hdg) ?_)|intro b0 hb)|((first|with_reducible refine zm ?_|guard_hyp hK);refine zY ?_ ?_;all_goals(intro hb;(try simp only [sn,sb] at hb);try exact ex0)))
     all_goals first|refine Exists.intro _ (Exists.intro _ (And.intro rfl (And.intro (fz_con rfl) (fz_con rfl))))|exact⟨trivial,_,_,rfl,fz_con rfl,fz_con rfl⟩|(exfalso;omega)
    ·have hq:¬numE s:=fun h=>hm (by rw [← hK];exact h.2)
     have hF:numF s=numA s:=by unfold numF;rw [if_neg hq]
     have hX:expS s=⟨#[]⟩:=by unfold expS;rw [if_neg hq]
     rw [hF,hX]
     clear hF hX hq hK r0
     generalize numA s=A9 at *
     repeat'(first|(first|(refine at_s (s:=s) (i:=A9) ?_ (by omega);intro hu)|(refine at_s (s:=s) (i:=A9+1) ?_ (by omega);intro hu))|(with_reducible first|(refine zz ?_;try intro K hK)|refine zI ?_|refine zt ?_|refine zf ?_)|((first|refine hK _ ?_|refine hK _ _ rfl ?_);clear hK K)|(guard_hyp hK;first|(refine zY ?zz ?_;case zz=>first|exact rfl|exact gJ)|refine fresh_n ?_|refine freshO_n ?_|refine zW ?_|(refine zQ (hdg) ?_)|intro b0 hb)|((first|with_reducible refine zm ?_|guard_hyp hK);refine zY ?_ ?_;all_goals(intro hb;(try simp only [sn,sb] at hb);try exact ex0)))
     all_goals first|refine Exists.intro _ (Exists.intro _ (And.intro rfl (And.intro (fz_con rfl) (fz_con rfl))))|exact⟨trivial,_,_,rfl,fz_con rfl,fz_con rfl⟩|(exfalso;omega)
  ·have hq:¬numE s:=fun h=>hc h.1
   have hF:numF s=numA s:=by unfold numF;rw [if_neg hq]
   have hX:expS s=⟨#[]⟩:=by unfold expS;rw [if_neg hq]
   rw [hF,hX]
   clear hF hX hq r0
   generalize numA s=A9 at *
   repeat'(first|(refine at_s (s:=s) (i:=A9) ?_ (by omega);intro hu)|(with_reducible first|(refine zz ?_;try intro K hK)|refine zI ?_|refine zt ?_|refine zf ?_)|((first|refine hK _ ?_|refine hK _ _ rfl ?_);clear hK K)|(guard_hyp hK;first|(refine zY ?zz ?_;case zz=>first|exact rfl|exact gJ)|refine fresh_n ?_|refine freshO_n ?_|refine zW ?_|intro b0 hb)|((first|with_reducible refine zm ?_|guard_hyp hK);refine zY ?_ ?_;all_goals(intro hb;(try simp only [sn,sb] at hb);try exact ex0)))
   all_goals first|refine Exists.intro _ (Exists.intro _ (And.intro rfl (And.intro (fz_con rfl) (fz_con rfl))))|exact⟨trivial,_,_,rfl,fz_con rfl,fz_con rfl⟩|(exfalso;omega)
 ·intro R hR
  have e1:∀h:(chr s (runF isDig s 0)).toNat=46∧0 < runF isDig s (runF isDig s 0+1),numA s=runF isDig s 0+1+runF isDig s (runF isDig s 0+1):=fun h=>if_pos h
  have e2:∀h:¬((chr s (runF isDig s 0)).toNat=46∧0 < runF isDig s (runF isDig s 0+1)),numA s=runF isDig s 0:=fun h=>if_neg h
  have r1:=run_ok s (runF isDig s 0+1) 86 isDig ldigit_ok hs (by omega)
  have hlt:∀i,(chr s i).toNat≠0→i < s.size:=fun i h=>by
   rcases Nat.lt_or_ge i s.size with h9|h9
   ·exact h9
   ·rw [chr_end h9] at h;exact absurd rfl h
  have hlt0:=hlt (runF isDig s 0)
  have e3:¬runF isDig s 0 < s.size→¬((chr s (runF isDig s 0)).toNat=46∧0 < runF isDig s (runF isDig s 0+1)):=fun h h2=>h (hlt0 (by rw [h2.1];decide))
  repeat'(first|(refine at_s (s:=s) (i:=runF isDig s 0) ?_ (by omega);intro hu)|(with_reducible first|(refine zz ?_;try intro K hK)|refine zI ?_|refine zt ?_|refine zf ?_)|((first|refine hK _ ?_|refine hK _ _ rfl ?_);clear hK K)|(guard_hyp hK;first|(refine zY ?zz ?_;case zz=>first|exact rfl|exact gJ)|refine fresh_n ?_|refine freshO_n ?_|refine zW ?_|(refine zQ (r1) ?_)|intro b0 hb)|((first|with_reducible refine zm ?_|guard_hyp hK);refine zY ?_ ?_;all_goals(intro hb;(try simp only [sn,sb] at hb);try exact ex0)))
  all_goals first
   |(rw [e1 ⟨by omega,by omega⟩] at hR;exact hR _ () trivial ⟨rfl,⟨rfl,trivial,congrArg (fun x=>V.con (.int .i64 x)) (by omega),trivial,trivial⟩,trivial,trivial⟩)
   |(rw [e2 (by omega)] at hR;exact hR _ () trivial ⟨rfl,⟨rfl,trivial,congrArg (fun x=>V.con (.int .i64 x)) (by omega),trivial,trivial⟩,trivial,trivial⟩)
   |(rw [e2 (e3 (by omega))] at hR;exact hR _ () trivial ⟨rfl,⟨rfl,trivial,congrArg (fun x=>V.con (.int .i64 x)) (by omega),trivial,trivial⟩,trivial,trivial⟩)
end Go.Ev
