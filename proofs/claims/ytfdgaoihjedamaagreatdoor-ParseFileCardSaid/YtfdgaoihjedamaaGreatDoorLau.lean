import Derived.Test.YtfdgaoihjedamaaGreatDoorLak
import Derived.Test.YtfdgaoihjedamaaGreatDoorLam
import Derived.Test.YtfdgaoihjedamaaGreatDoorRdt
set_option linter.all false
set_option maxHeartbeats 4000000
set_option maxRecDepth 10000
namespace Go.Ev
open Go.Proofs
theorem iv_abs (n:Bool)(m:List UInt32):(iv n m).natAbs=val m:=by unfold iv;split<;>omega
def signZ (z:Int):Int:=if z=0 then 0 else if z < 0 then -1 else 1
def tR (n:Bool)(m d:List UInt32):T:=.agg [.con (.bool n),tn m,tn d]
theorem lm_one : lm 1=[1]:=by unfold lm;rw [if_neg (by decide)];unfold lm;rfl
def tab (n:Nat):Nat:=if n=0 then 0 else Nat.log2 n+1
def len32 (x:Nat):Nat:=
 if x < 65536 then(if x < 256 then tab x else 8+tab (x / 256)) else(if x / 65536 < 256 then 16+tab (x / 65536) else 24+tab (x / 65536 / 256))
theorem len32_zero (x:Nat):len32 x=0↔x=0:=by
 have ht:∀n,tab n=0↔n=0:=fun n=>by unfold tab;split<;>simp_all
 unfold len32
 split
 ·split
  ·exact ht x
  ·omega
 ·split<;>omega
def tabS : ByteArray:=⟨((List.range 256).map fun n=>UInt8.ofNat (tab n)).toArray⟩
theorem tab_le {n:Nat}(h:n < 256):tab n≤8:=by
 unfold tab
 split
 ·omega
 ·have:=(Nat.log2_lt (by assumption:n≠0) (k:=8)).2 (by simpa using h)
  omega
theorem shr16 {a:Int}{Q:Int→Prop}(ha:0≤a)(h:∀r,r=a / 65536→Q r):∃r,r=a.fdiv (2 ^ (min (16:Int).toNat IntKind.u32.bits))∧Q r:=by
 refine⟨_,rfl,h _ ?_⟩
 show a.fdiv 65536=_
 exact Int.fdiv_eq_ediv_of_nonneg _ (by decide)
theorem shr8 {a:Int}{Q:Int→Prop}(ha:0≤a)(h:∀r,r=a / 256→Q r):∃r,r=a.fdiv (2 ^ (min (8:Int).toNat IntKind.u32.bits))∧Q r:=by
 refine⟨_,rfl,h _ ?_⟩
 show a.fdiv 256=_
 exact Int.fdiv_eq_ediv_of_nonneg _ (by decide)
theorem ba_get (a:Array UInt8)(i:Nat):(ByteArray.mk a)[i]?=a[i]?:=by
 by_cases h:i < a.size
 ·rw [Array.getElem?_eq_getElem h];exact dif_pos h
 ·rw [Array.getElem?_eq_none (by omega)];exact dif_neg h
theorem tab_q {n:Int}{Q:UInt8→Prop}(h0:0≤n)(h:n < 256)(k:(UInt8.ofNat (tab n.toNat)).toNat=tab n.toNat→tab n.toNat≤8→Q (UInt8.ofNat (tab n.toNat))):∃b:UInt8,tabS[n.toNat]?=some b∧Q b:=by
 have hl:=tab_le (n:=n.toNat) (by omega)
 refine⟨_,?_,k (by simp;omega) hl⟩
 have:tabS[n.toNat]?=((List.range 256).map fun n=>UInt8.ofNat (tab n))[n.toNat]?:=(ba_get _ _).trans (List.getElem?_toArray ..)
 rw [this,List.getElem?_map,List.getElem?_range (by omega)];rfl
theorem Len32_ok (x:UInt32):Ok Tryz.prog 160 [tu32 x] true (.con (.int .i64 (len32 x.toNat))):=by
 have hx:=UInt32.toNat_lt x
 refine ok_of_ev hC0 mix Tryz.func160 rfl rfl (by kernel_rfl) (zO rfl) ?_
 repeat'(first|(first|(refine shr16 (by omega) ?_;intro r hr)|(refine shr8 (by omega) ?_;intro r hr)|(refine tab_q (by omega) (by omega) ?_;intro ht1 ht2))|(with_reducible first|(refine zz ?_;try intro K hK)|refine zI ?_|refine zt ?_|refine zf ?_)|((first|refine hK _ ?_|refine hK _ _ rfl ?_);clear hK K)|(guard_hyp hK;first|(refine zY ?zz ?_;case zz=>first|exact rfl|exact gI)|refine fresh_n ?_|refine freshO_n ?_|(refine at_Q ?_;intro hu)|refine zP wA ?_|(refine mul_Q ?_;intro hm1 hm2)|refine zP at_M ?_|refine zP rfl ?_|intro b0 hb)|((first|with_reducible refine zm ?_|guard_hyp hK);refine zY ?_ ?_;all_goals(intro hb;(try simp only [sb] at hb);try exact ex0)))
 all_goals refine And.intro trivial (fz_con (congrArg (Value.int .i64) ?_))
 all_goals rw [ht1]
 ·have e:r.toNat=x.toNat / 65536 / 256:=by omega
  rw [e];unfold len32;rw [if_neg (by omega),if_neg (by omega)];omega
 ·have e:r.toNat=x.toNat / 65536:=by omega
  rw [e];unfold len32;rw [if_neg (by omega),if_pos (by omega)];omega
 ·have e:r.toNat=x.toNat / 256:=by omega
  rw [e];unfold len32;rw [if_pos (by omega),if_neg (by omega)];omega
 ·have e:((x.toNat:Int)).toNat=x.toNat:=by omega
  rw [e];unfold len32;rw [if_pos (by omega),if_pos (by omega)];omega
theorem len32_le {x:Nat}(h:x < 4294967296):len32 x≤32:=by
 unfold len32
 split
 ·split
  ·have:=tab_le (n:=x) (by omega);omega
  ·have:=tab_le (n:=x / 256) (by omega);omega
 ·split
  ·have:=tab_le (n:=x / 65536) (by omega);omega
  ·have:=tab_le (n:=x / 65536 / 256) (by omega);omega
def bitsN (l:List UInt32):Nat:=if l=[] then 0 else 32 * (l.length - 1)+len32 (l.getD (l.length - 1) default).toNat
theorem bitsN_zero {l:List UInt32}(h:Can l):bitsN l=0↔l=[]:=by
 unfold bitsN
 split
 ·simp_all
 ·rename_i hn
  have h1:l.getD (l.length - 1) default≠0:=by
   rcases h with h|h
   ·exact absurd h hn
   ·exact h
  have h2:(l.getD (l.length - 1) default).toNat≠0:=fun h=>h1 (UInt32.toNat_inj.1 h)
  have:=mt (len32_zero _).1 h2
  constructor
  ·intro h;omega
  ·intro h;exact absurd h hn
theorem b_q {a:Int}{n:Nat}{Q:Int→Prop}(h0:0≤a)(h1:a≤4611686018427387904)(h:n≤32)(k:Q (a+n)):∃r,r=IntKind.i64.wrap (a+n)∧Q r:=
 ⟨_,wrapI (by omega) (by omega),k⟩
theorem Bits_ok (l:List UInt32)(hl:l.length≤2199023255552):Ok Tryz.prog 146 [tn l] true (.con (.int .i64 (bitsN (norm l)))):=by
 have hn:=norm_le l
 refine ok_of_ev hC0 mix Tryz.func146 rfl rfl (by kernel_rfl) (zO rfl) ?_
 repeat'(first|(refine b_q (by simp only [List.length_map];omega) (by simp only [List.length_map];omega) (len32_le (UInt32.toNat_lt _)) ?_)|(with_reducible first|(refine zz ?_;try intro K hK)|refine zI ?_|refine zt ?_|refine zf ?_)|((first|refine hK _ ?_|refine hK _ _ rfl ?_);clear hK K)|(guard_hyp hK;first|(refine zY ?zz ?_;case zz=>first|exact rfl|exact gI)|refine fresh_n ?_|refine freshO_n ?_|(refine at_Q ?_;intro hu)|refine zP wA ?_|(refine mul_Q ?_;intro hm1 hm2)|refine zP at_M ?_|refine zP rfl ?_|(refine zQ (trim_ok l (by omega)) ?_)|(refine zQ (Len32_ok _) ?_)|intro b0 hb)|((first|with_reducible refine zm ?_|guard_hyp hK);refine zY ?_ ?_;all_goals(intro hb;(try simp only [sb] at hb);try exact ex0)))
 ·have h0:norm l=[]:=List.eq_nil_of_length_eq_zero (by omega)
  exact And.intro trivial (fz_con (by rw [h0];rfl))
 ·have h0:norm l≠[]:=fun h=>by rw [h] at hb;simp at hb
  refine And.intro trivial (fz_con (congrArg (Value.int .i64) ?_))
  rw [List.length_map]
  have e:(((norm l).length:Int) - 1).toNat=(norm l).length - 1:=by omega
  rw [e]
  unfold bitsN
  rw [if_neg h0];omega
theorem signZ_cases (x:Int):signZ x=0∧x=0∨signZ x = -1∧x < 0∨signZ x=1∧0 < x:=by
 unfold signZ
 split
 ·exact .inl ⟨rfl,by assumption⟩
 ·split
  ·exact .inr (.inl ⟨rfl,by assumption⟩)
  ·exact .inr (.inr ⟨rfl,by omega⟩)
theorem Sign_ok (n:Bool)(m:List UInt32)(hm:m.length≤2199023255552):Ok Tryz.prog 135 [tI n m] true (.con (.int .i64 (signZ (iv n m)))):=by
 have hz:bitsN (norm m)=0↔val m=0:=by
  rw [bitsN_zero (can_norm m),← val_norm m]
  constructor
  ·intro h;rw [h];rfl
  ·intro h
   refine can_unique (can_norm m) (.inl rfl) ?_
   rw [h];rfl
 refine ok_of_ev hC0 mix Tryz.func135 rfl rfl (by kernel_rfl) (zO rfl) ?_
 repeat'(first|(with_reducible first|(refine zz ?_;try intro K hK)|refine zI ?_|refine zt ?_|refine zf ?_)|((first|refine hK _ ?_|refine hK _ _ rfl ?_);clear hK K)|(guard_hyp hK;first|(refine zY ?zz ?_;case zz=>first|exact rfl|exact gI)|refine fresh_n ?_|refine freshO_n ?_|(refine at_Q ?_;intro hu)|refine zP wA ?_|(refine mul_Q ?_;intro hm1 hm2)|refine zP at_M ?_|refine zP rfl ?_|(refine zQ (Bits_ok m (by omega)) ?_)|intro b0 hb)|((first|with_reducible refine zm ?_|guard_hyp hK);refine zY ?_ ?_;all_goals(intro hb;(try simp only [sb] at hb);try exact ex0)))
 ·have h0:val m=0:=hz.1 (by omega)
  have h1:iv n m=0:=by unfold iv;split<;>omega
  exact And.intro trivial (fz_con (by rw [h1];rfl))
 ·rename_i h
  have h0:val m≠0:=fun h9=>h (by rw [hz.2 h9];rfl)
  subst hb
  have h1:iv true m < 0:=by show -(val m:Int) < 0;omega
  exact And.intro trivial (fz_con (by unfold signZ;rw [if_neg (by omega),if_pos h1]))
 ·rename_i h
  have h0:val m≠0:=fun h9=>h (by rw [hz.2 h9];rfl)
  subst hb
  have h1:0 < iv false m:=by show(0:Int) < val m;omega
  exact And.intro trivial (fz_con (by unfold signZ;rw [if_neg (by omega),if_neg (by omega)]))
theorem of_ok (n:Bool)(m:List UInt32)(hm:m.length≤2199023255552):Ok Tryz.prog 166 [.con (.bool n),tn m] true (tZ (iv n m)):=by
 have hl:=norm_le m
 have hn:=norm_lm m
 have ez:(iv n m).natAbs=val m:=by unfold iv;split<;>omega
 unfold tZ
 rw [ez,← hn]
 cases n with
 |false=>
  have hd:decide (iv false m < 0)=false:=by simp [iv]
  rw [hd]
  refine ok_of_ev hC0 mix Tryz.func166 rfl rfl (by kernel_rfl) (zO rfl) ?_
  repeat'(first|(with_reducible first|(refine zz ?_;try intro K hK)|refine zI ?_|refine zt ?_|refine zf ?_)|((first|refine hK _ ?_|refine hK _ _ rfl ?_);clear hK K)|(guard_hyp hK;first|(refine zY ?zz ?_;case zz=>first|exact rfl|exact gI)|refine fresh_n ?_|refine freshO_n ?_|(refine at_Q ?_;intro hu)|refine zP wA ?_|(refine mul_Q ?_;intro hm1 hm2)|refine zP at_M ?_|refine zP rfl ?_|(refine zQ (Norm_ok m (by omega)) ?_)|intro b0 hb)|((first|with_reducible refine zm ?_|guard_hyp hK);refine zY ?_ ?_;all_goals(intro hb;(try simp only [sb] at hb);try exact ex0)))
  exact ret_cell (l:=[.con (.bool false),.ro true (tn (norm m))]) rfl tk38 rfl (Nat.zero_lt_succ _) rfl rfl (fz_agg2 (.con _) (.ro true _ fun h=>h))
 |true=>
  refine ok_of_ev hC0 mix Tryz.func166 rfl rfl (by kernel_rfl) (zO rfl) ?_
  repeat'(first|(with_reducible first|(refine zz ?_;try intro K hK)|refine zI ?_|refine zt ?_|refine zf ?_)|((first|refine hK _ ?_|refine hK _ _ rfl ?_);clear hK K)|(guard_hyp hK;first|(refine zY ?zz ?_;case zz=>first|exact rfl|exact gI)|refine fresh_n ?_|refine freshO_n ?_|(refine at_Q ?_;intro hu)|refine zP wA ?_|(refine mul_Q ?_;intro hm1 hm2)|refine zP at_M ?_|refine zP rfl ?_|(refine zQ (Norm_ok m (by omega)) ?_)|intro b0 hb)|((first|with_reducible refine zm ?_|guard_hyp hK);refine zY ?_ ?_;all_goals(intro hb;(try simp only [sb] at hb);try exact ex0)))
  refine ret_cell (l:=[V.con (.bool (decide ((((norm m).map tu32).length:Int) > 0))),.ro true (tn (norm m))]) rfl tk38 rfl (Nat.zero_lt_succ _) rfl rfl (fz_agg2 (f:=true) (?_:Fz1 _ true (V.con (.bool (decide ((((norm m).map tu32).length:Int) > 0)))) _) (.ro true _ fun h=>h))
  have e:decide ((((norm m).map tu32).length:Int) > 0)=decide (iv true m < 0):=by
   rw [List.length_map]
   have h1:=lm_nil_iff (val m)
   rw [← hn] at h1
   have h2:iv true m = -(val m:Int):=rfl
   rw [h2,decide_eq_decide]
   constructor
   ·intro h
    have:norm m≠[]:=fun h9=>by rw [h9] at h;simp at h
    have:val m≠0:=fun h9=>this (h1.2 h9)
    omega
   ·intro h
    have:norm m≠[]:=fun h9=>by have:=h1.1 h9;omega
    have:=List.length_pos_iff.2 this
    omega
  rw [e]
  exact .con _
def qz (z:Int)(d:Nat):Int:=z.tdiv (Nat.gcd z.natAbs d)
def qd (z:Int)(d:Nat):Nat:=d / Nat.gcd z.natAbs d
def tQ (z:Int)(d:Nat):T:=tR (decide (qz z d < 0)) (lm (qz z d).natAbs) (lm (qd z d))
theorem iv_div (n:Bool)(m g:Nat):iv n (lm (m / g))=(iv n (lm m)).tdiv g:=by
 unfold iv
 rw [val_lm,val_lm]
 cases n
 ·rfl
 ·show -((m / g:Nat):Int)=(-(m:Int)).tdiv g
  rw [Int.neg_tdiv];rfl
theorem iv_lm (n:Bool)(a:List UInt32):iv n (lm (val a))=iv n a:=by unfold iv;rw [val_lm]
theorem lm_val_len (a:List UInt32):(lm (val a)).length≤a.length:=by rw [← norm_lm];exact norm_le a
theorem rat_eta {z:Int}{d:Nat}{oh:OH}:FzA oh true (.agg [V.con (.bool (decide (qz z d < 0))),.ro true (tn (lm (qz z d).natAbs)),.ro true (tn (lm (qd z d)))]) (tQ z d):=by
 refine⟨rfl,fun j v t a b=>?_⟩
 match j with
 |0=>simp at a;simp [tQ,tR] at b;subst a;subst b;exact .con _
 |1=>simp at a;simp [tQ,tR] at b;subst a;subst b;exact .ro true _ fun h=>h
 |2=>simp at a;simp [tQ,tR] at b;subst a;subst b;exact .ro true _ fun h=>h
 |j+3=>simp at a
theorem rfind_ok (s:ByteArray)(a b:UInt8)(i:Nat)(hs:s.size≤1073741826)(hi:i≤s.size)(hn:∀j,j < i→chr s j≠a∧chr s j≠b)(hy:i < s.size→chr s i=a∨chr s i=b):Ok Tryz.prog 118 [tS9 s,tb a,tb b] true (.con (.int .i64 i)):=by
 refine ok_of_ev hC0 mix Tryz.func118 rfl rfl (by kernel_rfl) (zO rfl) ?_
 repeat'(first|(with_reducible first|(refine zz ?_;try intro K hK)|refine zI ?_|refine zt ?_|refine zf ?_)|((first|refine hK _ ?_|refine hK _ _ rfl ?_);clear hK K)|(guard_hyp hK;first|(refine zY ?zz ?_;case zz=>first|exact rfl|exact gJ)|refine fresh_n ?_|refine freshO_n ?_|refine zW ?_|intro b0 hb)|((first|with_reducible refine zm ?_|guard_hyp hK);refine zY ?_ ?_;all_goals(intro hb;(try simp only [sn,sb] at hb);try exact ex0)))
 refine loop_i Nat (fun k=>⟨Tryz.f118.ntmps,[(0,.con (.string s)),(1,.con (.int .u8 a.toNat)),(2,.con (.int .u8 b.toNat)),(7,.con (.int .i64 k))],[]⟩) (fun k=>k≤i) (fun k=>i - k) [] 0 trivial (Nat.zero_le _) ⟨rfl,⟨rfl,trivial,rfl,trivial,rfl,trivial,rfl,trivial,trivial⟩,trivial,trivial⟩ ?_
 intro k hk
 by_cases hlt:k < s.size
 ·by_cases e:k=i
  ·subst e
   have hy2:(chr s k).toNat=a.toNat∨(chr s k).toNat=b.toNat:=(hy hlt).elim (fun h=>.inl (by rw [h])) (fun h=>.inr (by rw [h]))
   repeat'(first|(refine at_s ?_;intro hu)|(with_reducible first|(refine zz ?_;try intro K hK)|refine zI ?_|refine zt ?_|refine zf ?_)|((first|refine hK _ ?_|refine hK _ _ rfl ?_);clear hK K)|(guard_hyp hK;first|(refine zY ?zz ?_;case zz=>first|exact rfl|exact gJ)|refine fresh_n ?_|refine freshO_n ?_|refine zW ?_|intro b0 hb)|((first|with_reducible refine zm ?_|guard_hyp hK);refine zY ?_ ?_;all_goals(intro hb;(try simp only [sn,sb] at hb);try exact ex0)))
   all_goals first|exact reti rfl rfl rfl|(exfalso;omega)
  ·have hn2:=hn k (by omega)
   have h1:¬(chr s k).toNat=a.toNat:=fun h=>hn2.1 (UInt8.toNat_inj.1 h)
   have h2:¬(chr s k).toNat=b.toNat:=fun h=>hn2.2 (UInt8.toNat_inj.1 h)
   repeat'(first|(refine at_s ?_;intro hu)|(with_reducible first|(refine zz ?_;try intro K hK)|refine zI ?_|refine zt ?_|refine zf ?_)|((first|refine hK _ ?_|refine hK _ _ rfl ?_);clear hK K)|(guard_hyp hK;first|(refine zY ?zz ?_;case zz=>first|exact rfl|exact gJ)|refine fresh_n ?_|refine freshO_n ?_|refine zW ?_|intro b0 hb)|((first|with_reducible refine zm ?_|guard_hyp hK);refine zY ?_ ?_;all_goals(intro hb;(try simp only [sn,sb] at hb);try exact ex0)))
   all_goals first|exact⟨k+1,by omega,by omega,rfl,⟨rfl,trivial,rfl,trivial,rfl,trivial,rfl,trivial,trivial⟩,trivial,trivial⟩|(exfalso;omega)
 ·obtain rfl:k=i:=by omega
  repeat'(first|(with_reducible first|(refine zz ?_;try intro K hK)|refine zI ?_|refine zt ?_|refine zf ?_)|((first|refine hK _ ?_|refine hK _ _ rfl ?_);clear hK K)|(guard_hyp hK;first|(refine zY ?zz ?_;case zz=>first|exact rfl|exact gJ)|refine fresh_n ?_|refine freshO_n ?_|refine zW ?_|intro b0 hb)|((first|with_reducible refine zm ?_|guard_hyp hK);refine zY ?_ ?_;all_goals(intro hb;(try simp only [sn,sb] at hb);try exact ex0)))
  exact reti rfl rfl (by omega)
theorem rdigs_ok (s:ByteArray)(hs:s.size≤1073741826)(h1:1≤s.size)(hd:allDig s):Ok Tryz.prog 119 [tS9 s] true (.con (.bool true)):=by
 refine ok_of_ev hC0 mix Tryz.func119 rfl rfl (by kernel_rfl) (zO rfl) ?_
 repeat'(first|(with_reducible first|(refine zz ?_;try intro K hK)|refine zI ?_|refine zt ?_|refine zf ?_)|((first|refine hK _ ?_|refine hK _ _ rfl ?_);clear hK K)|(guard_hyp hK;first|(refine zY ?zz ?_;case zz=>first|exact rfl|exact gJ)|refine fresh_n ?_|refine freshO_n ?_|refine zW ?_|intro b0 hb)|((first|with_reducible refine zm ?_|guard_hyp hK);refine zY ?_ ?_;all_goals(intro hb;(try simp only [sn,sb] at hb);try exact ex0)))
 refine loop_i Nat (fun k=>⟨Tryz.f119.ntmps,[(0,.con (.string s)),(3,.con (.int .i64 k))],[]⟩) (fun k=>k≤s.size) (fun k=>s.size - k) [] 0 trivial (Nat.zero_le _) ⟨rfl,⟨rfl,trivial,rfl,trivial,trivial⟩,trivial,trivial⟩ ?_
 intro k hk
 by_cases hlt:k < s.size
 ·have hdk:=hd k hlt
  unfold isDig at hdk
  simp only [Bool.and_eq_true,decide_eq_true_eq] at hdk
  repeat'(first|(refine at_s ?_;intro hu)|(with_reducible first|(refine zz ?_;try intro K hK)|refine zI ?_|refine zt ?_|refine zf ?_)|((first|refine hK _ ?_|refine hK _ _ rfl ?_);clear hK K)|(guard_hyp hK;first|(refine zY ?zz ?_;case zz=>first|exact rfl|exact gJ)|refine fresh_n ?_|refine freshO_n ?_|refine zW ?_|intro b0 hb)|((first|with_reducible refine zm ?_|guard_hyp hK);refine zY ?_ ?_;all_goals(intro hb;(try simp only [sn,sb] at hb);try exact ex0)))
  all_goals first|exact⟨k+1,by omega,by omega,rfl,⟨rfl,trivial,rfl,trivial,trivial⟩,trivial,trivial⟩|(exfalso;omega)
 ·repeat'(first|(with_reducible first|(refine zz ?_;try intro K hK)|refine zI ?_|refine zt ?_|refine zf ?_)|((first|refine hK _ ?_|refine hK _ _ rfl ?_);clear hK K)|(guard_hyp hK;first|(refine zY ?zz ?_;case zz=>first|exact rfl|exact gJ)|refine fresh_n ?_|refine freshO_n ?_|refine zW ?_|intro b0 hb)|((first|with_reducible refine zm ?_|guard_hyp hK);refine zY ?_ ?_;all_goals(intro hb;(try simp only [sn,sb] at hb);try exact ex0)))
  exact retb rfl rfl (decide_eq_true (by omega))
theorem rsmall_ok (s:ByteArray)(hs:s.size≤1073741826)(hd:allDig s)(hv:decV (bs s)≤1000):Ok Tryz.prog 120 [tS9 s] true (.tup [.con (.int .i64 (decV (bs s):Nat)),.con (.bool true)]):=by
 refine ok_of_ev hC0 mix Tryz.func120 rfl rfl (by kernel_rfl) (zO rfl) ?_
 repeat'(first|(with_reducible first|(refine zz ?_;try intro K hK)|refine zI ?_|refine zt ?_|refine zf ?_)|((first|refine hK _ ?_|refine hK _ _ rfl ?_);clear hK K)|(guard_hyp hK;first|(refine zY ?zz ?_;case zz=>first|exact rfl|exact gJ)|refine fresh_n ?_|refine freshO_n ?_|refine zW ?_|intro b0 hb)|((first|with_reducible refine zm ?_|guard_hyp hK);refine zY ?_ ?_;all_goals(intro hb;(try simp only [sn,sb] at hb);try exact ex0)))
 refine loop_i Nat (fun i=>⟨Tryz.f120.ntmps,[(0,.con (.string s)),(4,.con (.int .i64 (decV ((bs s).take i):Nat))),(5,.con (.int .i64 i))],[]⟩) (fun i=>i≤s.size∧decV ((bs s).take i)≤1000) (fun i=>s.size - i) [] 0 trivial ⟨Nat.zero_le _,Nat.zero_le _⟩ ⟨rfl,⟨rfl,trivial,rfl,trivial,rfl,trivial,trivial⟩,trivial,trivial⟩ ?_
 rintro i ⟨h0,h1⟩
 by_cases hlt:i < s.size
 ·have hdi:=hd i hlt
  unfold isDig at hdi
  simp only [Bool.and_eq_true,decide_eq_true_eq] at hdi
  have ht:=decV_take hlt
  have hm:=decV_mono (s:=s) (i:=i+1) (j:=s.size) (by omega) (Nat.le_refl _)
  rw [List.take_of_length_le (Nat.le_of_eq (bs_len s))] at hm
  repeat'(first|(refine at_s ?_;intro hu)|(with_reducible first|(refine zz ?_;try intro K hK)|refine zI ?_|refine zt ?_|refine zf ?_)|((first|refine hK _ ?_|refine hK _ _ rfl ?_);clear hK K)|(guard_hyp hK;first|(refine zY ?zz ?_;case zz=>first|exact rfl|exact gJ)|refine fresh_n ?_|refine freshO_n ?_|refine zW ?_|intro b0 hb)|((first|with_reducible refine zm ?_|guard_hyp hK);refine zY ?_ ?_;all_goals(intro hb;(try simp only [sn,sb] at hb);try exact ex0)))
  refine⟨i+1,⟨by omega,by omega⟩,by omega,rfl,⟨rfl,trivial,?_,trivial,rfl,trivial,trivial⟩,trivial,trivial⟩
  show V.con (.int .i64 (10 * (decV ((bs s).take i):Int)+((chr s i).toNat:Int) - 48))=_
  rw [ht]
  refine congrArg (fun x=>V.con (.int .i64 x)) ?_
  omega
 ·repeat'(first|(with_reducible first|(refine zz ?_;try intro K hK)|refine zI ?_|refine zt ?_|refine zf ?_)|((first|refine hK _ ?_|refine hK _ _ rfl ?_);clear hK K)|(guard_hyp hK;first|(refine zY ?zz ?_;case zz=>first|exact rfl|exact gJ)|refine fresh_n ?_|refine freshO_n ?_|refine zW ?_|intro b0 hb)|((first|with_reducible refine zm ?_|guard_hyp hK);refine zY ?_ ?_;all_goals(intro hb;(try simp only [sn,sb] at hb);try exact ex0)))
  obtain rfl:i=s.size:=by omega
  rw [List.take_of_length_le (Nat.le_of_eq (bs_len s))]
  exact⟨trivial,_,_,rfl,fz_con rfl,fz_con rfl⟩
theorem pow10_le (n:Nat):(lm (10 ^ n)).length≤n+1:=by
 refine lm_len (Nat.lt_of_le_of_lt (Nat.pow_le_pow_left (show 10≤4294967296 by decide) n) (Nat.pow_lt_pow_right (by decide) (Nat.lt_succ_self n)))
theorem fd_cuT {oh oh1:OH}{f:Bool}{id ver len:Nat}{l:List UInt32}{el:List V}(ho:oget oh id=some ⟨1,el,ver,true⟩)(hel:el=l.map cu)(hd:oget oh1 id=none)(hn:l.length=len):Fd1 oh oh1 f (.own id ver 0 len) (tn l):=by
 subst hel
 have key:∀(i:Nat) (e:V) (t:T),(l.map cu)[0+i]?=some e→(l.map tu32)[i]?=some t→∃a,e=cu a∧t=tu32 a:=by
  intro i e t h1 h2
  rw [Nat.zero_add,List.getElem?_map] at h1
  rw [List.getElem?_map] at h2
  obtain⟨a,ha,rfl⟩:=Option.map_eq_some_iff.1 h1
  rw [ha] at h2
  exact⟨a,rfl,by simpa using h2.symm⟩
 refine .own id ver 0 len _ _ ho hd rfl rfl (by rw [List.length_map];exact hn) (fun i e t _ h1 h2=>?_) (fun i e t j v u _ h1 h2 h3 h4=>?_)
 ·obtain⟨a,rfl,rfl⟩:=key i e t h1 h2;rfl
 ·obtain⟨a,rfl,rfl⟩:=key i e t h1 h2
  cases j with
  |zero=>
   obtain rfl:cu a=v:=by simpa [cu,V.cells] using h3
   obtain rfl:tu32 a=u:=by simpa [tu32,T.cells] using h4
   exact Fd1.con _
  |succ j=>simp [cu,V.cells] at h3
theorem lm_ten : lm 10=[10]:=by rw [show(10:Nat)=val [10] from rfl,← norm_lm];rfl
theorem ten_step {P T n R:Nat}(h:P * T ^ n=R):(n % 2=1→P * T * (T * T) ^ (n / 2)=R)∧(n % 2=0→P * (T * T) ^ (n / 2)=R):=by
 have e:(T * T) ^ (n / 2)=T ^ (2 * (n / 2)):=by rw [← Nat.pow_two,← Nat.pow_mul]
 constructor
 ·intro h2
  rw [e,Nat.mul_assoc,← h]
  congr 1
  rw [Nat.mul_comm,← Nat.pow_succ]
  congr 1
  omega
 ·intro h2
  rw [e,← h]
  congr 2
  omega
theorem rTen_ok (n0:Nat)(hn:n0≤1000000):Ok Tryz.prog 123 [.con (.int .i64 n0)] true (tn (lm (10 ^ n0))):=by
 refine ok_of_ev hC0 mix Tryz.func123 rfl rfl (by kernel_rfl) (zO rfl) ?_
 repeat'(first|(with_reducible first|(refine zz ?_;try intro K hK)|refine zI ?_|refine zt ?_|refine zf ?_)|((first|refine hK _ ?_|refine hK _ _ rfl ?_);clear hK K)|(guard_hyp hK;first|(refine zY ?zz ?_;case zz=>first|exact rfl|exact gJ)|refine fresh_n ?_|refine freshO_n ?_|refine zW ?_|intro b0 hb)|((first|with_reducible refine zm ?_|guard_hyp hK);refine zY ?_ ?_;all_goals(intro hb;(try simp only [sn,sb] at hb);try exact ex0)))
 refine loop_f (Nat×Nat×Nat) (fun z=>⟨Tryz.f123.ntmps,[(0,.con (.int .i64 z.1)),(3,.ro true (tn (lm z.2.1))),(4,.ro true (tn (lm z.2.2)))],[]⟩) (fun z=>z.1≤n0∧z.2.1 * z.2.2 ^ z.1=10 ^ n0) (fun z=>z.1) (n0,1,10) ⟨Nat.le_refl _,Nat.one_mul _⟩ (lf_of0 ⟨Lc.same _ trivial,?_,?_,trivial⟩ trivial) ?_
 ·exact Lc.frz true _ (tn (lm 1)) (fd_cuT rfl (by rw [lm_one];rfl) rfl (by rw [lm_one];rfl))
 ·exact Lc.frz true _ (tn (lm 10)) (fd_cuT rfl (by rw [lm_ten];rfl) rfl (by rw [lm_ten];rfl))
 rintro⟨n,B,U⟩ ⟨h1,h2⟩
 dsimp only at h1 h2
 obtain⟨s1,s2⟩:=ten_step h2
 have hp:=pow10_le n0
 have hB:1≤B:=by
  rcases Nat.eq_zero_or_pos B with h9|h9
  ·rw [h9,Nat.zero_mul] at h2
   exact absurd h2.symm (Nat.ne_of_gt (Nat.pow_pos (by decide)))
  ·exact h9
 have hU:1≤n→1≤U:=fun h=>by
  rcases Nat.eq_zero_or_pos U with h9|h9
  ·rw [h9,Nat.zero_pow h,Nat.mul_zero] at h2
   exact absurd h2.symm (Nat.ne_of_gt (Nat.pow_pos (by decide)))
  ·exact h9
 have b1:1≤n→B≤10 ^ n0:=fun h=>by rw [← h2];exact Nat.le_mul_of_pos_right _ (Nat.pow_pos (hU h))
 have b2:1≤n→U≤10 ^ n0:=fun h=>by
  rw [← h2]
  exact Nat.le_trans (Nat.le_pow (b:=n) h) (Nat.le_mul_of_pos_left _ hB)
 have hdv:(n:Int).tdiv 2=((n / 2:Nat):Int):=rfl
 have hrm:(n:Int).tmod 2=((n % 2:Nat):Int):=rfl
 by_cases hz:1≤n
 ·have l1:=lm_len_le (b1 hz)
  have l2:=lm_len_le (b2 hz)
  have m1:=rMul_ok (lm B) (lm U) (by omega) (by omega)
  have m2:=rMul_ok (lm U) (lm U) (by omega) (by omega)
  rw [val_lm,val_lm] at m1
  rw [val_lm] at m2
  repeat'(first|(with_reducible first|(refine zz ?_;try intro K hK)|refine zI ?_|refine zt ?_|refine zf ?_)|((first|refine hK _ ?_|refine hK _ _ rfl ?_);clear hK K)|(guard_hyp hK;first|(refine zY ?zz ?_;case zz=>first|exact rfl|exact gJ)|refine fresh_n ?_|refine freshO_n ?_|refine zW ?_|(refine zQ (m1) ?_)|(refine zQ (m2) ?_)|intro b0 hb)|((first|with_reducible refine zm ?_|guard_hyp hK);refine zY ?_ ?_;all_goals(intro hb;(try simp only [sn,sb] at hb);try exact ex0)))
  ·exact⟨(n / 2,B * U,U * U),⟨by dsimp only;omega,s1 (by omega)⟩,by dsimp only;omega,lf_of0 ⟨Lc.same _ trivial,Lc.same _ trivial,Lc.same _ trivial,trivial⟩ trivial⟩
  ·exact⟨(n / 2,B,U * U),⟨by dsimp only;omega,s2 (by omega)⟩,by dsimp only;omega,lf_of0 ⟨Lc.same _ trivial,Lc.same _ trivial,Lc.same _ trivial,trivial⟩ trivial⟩
 ·obtain rfl:n=0:=by omega
  repeat'(first|(with_reducible first|(refine zz ?_;try intro K hK)|refine zI ?_|refine zt ?_|refine zf ?_)|((first|refine hK _ ?_|refine hK _ _ rfl ?_);clear hK K)|(guard_hyp hK;first|(refine zY ?zz ?_;case zz=>first|exact rfl|exact gJ)|refine fresh_n ?_|refine freshO_n ?_|refine zW ?_|intro b0 hb)|((first|with_reducible refine zm ?_|guard_hyp hK);refine zY ?_ ?_;all_goals(intro hb;(try simp only [sn,sb] at hb);try exact ex0)))
  rw [Nat.pow_zero,Nat.mul_one] at h2
  rw [← h2]
  exact⟨trivial,fz_ro rfl (fun h=>h)⟩
theorem rLow4_ok (a d:Nat)(hd:d≠0)(ha:(lm a).length≤2147483648)(hl:(lm d).length≤2147483648):Ok Tryz.prog 121 [.con (.bool false),tn (lm a),tn (lm d)] true (tNum (qz a d) (qd a d)):=by
 have hg0:Nat.gcd a d≠0:=fun h=>hd (Nat.eq_zero_of_gcd_eq_zero_right h)
 have hgd:Nat.gcd a d≤d:=Nat.le_of_dvd (Nat.pos_of_ne_zero hd) (Nat.gcd_dvd_right _ _)
 have hgl:=lm_len_le hgd
 have h1:=rGcd_ok (lm a) (lm d) (by omega) (by omega)
 have h2:=rDivMod_ok (lm a) (lm (Nat.gcd a d)) (by omega) (by omega) (by rw [val_lm];exact hg0)
 have h3:=rDivMod_ok (lm d) (lm (Nat.gcd a d)) (by omega) (by omega) (by rw [val_lm];exact hg0)
 rw [val_lm,val_lm] at h1 h2 h3
 have e1:qz (a:Int) d=((a / Nat.gcd a d:Nat):Int):=rfl
 have e2:qd (a:Int) d=d / Nat.gcd a d:=rfl
 rw [e1,e2]
 have e3:decide (((a / Nat.gcd a d:Nat):Int) < 0)=false:=decide_eq_false (Int.not_lt.2 (Int.natCast_nonneg _))
 have e4:(((a / Nat.gcd a d:Nat):Int)).natAbs=a / Nat.gcd a d:=Int.natAbs_natCast _
 unfold tNum
 rw [e3,e4]
 refine ok_of_ev hC0 mix Tryz.func121 rfl rfl (by kernel_rfl) (zO rfl) ?_
 repeat'(first|(with_reducible first|(refine zz ?_;try intro K hK)|refine zI ?_|refine zt ?_|refine zf ?_)|((first|refine hK _ ?_|refine hK _ _ rfl ?_);clear hK K)|(guard_hyp hK;first|(refine zY ?zz ?_;case zz=>first|exact rfl|exact gJ)|refine fresh_n ?_|refine freshO_n ?_|refine zW ?_|(refine zQ (h1) ?_)|(refine zQ (h2) ?_)|(refine zQ (h3) ?_)|intro b0 hb)|((first|with_reducible refine zm ?_|guard_hyp hK);refine zY ?_ ?_;all_goals(intro hb;(try simp only [sn,sb] at hb);try exact ex0)))
 exact ret_cell (l:=[V.con (.bool false),.ro true (tn (lm (a / Nat.gcd a d))),.ro true (tn (lm (d / Nat.gcd a d)))]) rfl tk40 rfl (Nat.zero_lt_succ _) rfl rfl ⟨rfl,fun j v t h1 h2=>by
  match j with
  |0=>simp at h1 h2;subst h1;subst h2;exact .con _
  |1=>simp at h1 h2;subst h1;subst h2;exact .ro true _ fun h=>h
  |2=>simp at h1 h2;subst h1;subst h2;exact .ro true _ fun h=>h
  |j+3=>simp at h1⟩
end Go.Ev
