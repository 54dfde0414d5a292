import Derived.Test.YtfdgaoihjedamaaGreatDoorLag
set_option linter.all false
set_option maxHeartbeats 4000000
set_option maxRecDepth 10000
namespace Go.Ev
open Go.Proofs
def bs (s:ByteArray):List UInt8:=s.data.toList
def chr (s:ByteArray)(i:Nat):UInt8:=(bs s).getD i 0
theorem bs_len (s:ByteArray):(bs s).length=s.size:=Array.length_toList
theorem ba_get2 (a:Array UInt8)(i:Nat):(ByteArray.mk a)[i]?=a[i]?:=by
 by_cases h:i < a.size
 ·rw [Array.getElem?_eq_getElem h];exact dif_pos h
 ·rw [Array.getElem?_eq_none (by omega)];exact dif_neg h
theorem at_s {s:ByteArray}{i:Nat}{Q:UInt8→Prop}(k:(chr s i).toNat < 256→Q (chr s i))(h:i < s.size:=by first|omega|(simp only [ln];omega)):∃b:UInt8,s[i]?=some b∧Q b:=by
 refine⟨chr s i,?_,k (UInt8.toNat_lt _)⟩
 have h2:i < s.data.size:=h
 have e:s[i]?=s.data[i]?:=ba_get2 s.data i
 rw [e]
 unfold chr bs
 rw [List.getD,Array.getElem?_toList,Array.getElem?_eq_getElem h2]
 rfl
theorem retb {P:Program}{fn:Func}{f:Bool}{s:St}{t:Nat}{a b:Bool}(hr:fn.results.toList=[.tmp t])(he:eget s.env t=.con (.bool a))(h:a=b):RetOK P fn f (.con (.bool b)) .ret s:=by
 refine⟨trivial,?_⟩
 rw [hr]
 show FzA s.oh f (eget s.env t) _
 rw [he,h];exact Fz1.con _
theorem reti {P:Program}{fn:Func}{f:Bool}{s:St}{t:Nat}{k:IntKind}{a b:Int}(hr:fn.results.toList=[.tmp t])(he:eget s.env t=.con (.int k a))(h:a=b):RetOK P fn f (.con (.int k b)) .ret s:=by
 refine⟨trivial,?_⟩
 rw [hr]
 show FzA s.oh f (eget s.env t) _
 rw [he,h];exact Fz1.con _
def isLet (b:UInt8):Bool:=(decide (65≤b.toNat) && decide (b.toNat≤90)) ||(decide (97≤b.toNat) && decide (b.toNat≤122)) ||decide (b.toNat=95)
def isDig (b:UInt8):Bool:=decide (48≤b.toNat) && decide (b.toNat≤57)
def isBlk (b:UInt8):Bool:=decide (b.toNat=32) ||decide (b.toNat=9) ||decide (b.toNat=10) ||decide (b.toNat=13)
def sgS : ByteArray:=⟨#[123,125,40,41,91,93,44,59,124,61,43,45,42,47]⟩
def isSgn (b:UInt8):Bool:=decide (b ∈ bs sgS)
def runF (p:UInt8→Bool)(s:ByteArray)(i:Nat):Nat:=(((bs s).drop i).takeWhile p).length
def tb (b:UInt8):T:=.con (.int .u8 b.toNat)
theorem rLetter_ok (b:UInt8):Ok Tryz.prog 73 [tb b] true (.con (.bool (isLet b))):=by
 refine ok_of_ev hC0 mix Tryz.func73 rfl rfl (by kernel_rfl) (zO rfl) ?_
 repeat'(first|(with_reducible first|(refine zz ?_;try intro K hK)|refine zI ?_|refine zt ?_|refine zf ?_)|((first|refine hK _ ?_|refine hK _ _ rfl ?_);clear hK K)|(guard_hyp hK;first|(refine zY ?zz ?_;case zz=>first|exact rfl|exact gI)|refine fresh_n ?_|refine freshO_n ?_|refine zW ?_|intro b0 hb)|((first|with_reducible refine zm ?_|guard_hyp hK);refine zY ?_ ?_;all_goals(intro hb;(try simp only [sn,sb] at hb);try exact ex0)))
 all_goals(refine retb rfl rfl ?_;rw [Bool.eq_iff_iff];unfold isLet;simp;omega)
theorem rDigit_ok (b:UInt8):Ok Tryz.prog 75 [tb b] true (.con (.bool (isDig b))):=by
 refine ok_of_ev hC0 mix Tryz.func75 rfl rfl (by kernel_rfl) (zO rfl) ?_
 repeat'(first|(with_reducible first|(refine zz ?_;try intro K hK)|refine zI ?_|refine zt ?_|refine zf ?_)|((first|refine hK _ ?_|refine hK _ _ rfl ?_);clear hK K)|(guard_hyp hK;first|(refine zY ?zz ?_;case zz=>first|exact rfl|exact gI)|refine fresh_n ?_|refine freshO_n ?_|refine zW ?_|intro b0 hb)|((first|with_reducible refine zm ?_|guard_hyp hK);refine zY ?_ ?_;all_goals(intro hb;(try simp only [sn,sb] at hb);try exact ex0)))
 all_goals(refine retb rfl rfl ?_;rw [Bool.eq_iff_iff];unfold isDig;simp;omega)
theorem rBlank_ok (b:UInt8):Ok Tryz.prog 99 [tb b] true (.con (.bool (isBlk b))):=by
 refine ok_of_ev hC0 mix Tryz.func99 rfl rfl (by kernel_rfl) (zO rfl) ?_
 repeat'(first|(with_reducible first|(refine zz ?_;try intro K hK)|refine zI ?_|refine zt ?_|refine zf ?_)|((first|refine hK _ ?_|refine hK _ _ rfl ?_);clear hK K)|(guard_hyp hK;first|(refine zY ?zz ?_;case zz=>first|exact rfl|exact gI)|refine fresh_n ?_|refine freshO_n ?_|refine zW ?_|intro b0 hb)|((first|with_reducible refine zm ?_|guard_hyp hK);refine zY ?_ ?_;all_goals(intro hb;(try simp only [sn,sb] at hb);try exact ex0)))
 all_goals(refine retb rfl rfl ?_;rw [Bool.eq_iff_iff];unfold isBlk;simp;omega)
theorem drop_at {s:ByteArray}{i:Nat}(h:i < s.size):(bs s).drop i=chr s i :: (bs s).drop (i+1):=by
 have h2:i < (bs s).length:=by rw [bs_len];exact h
 rw [List.drop_eq_getElem_cons h2]
 unfold chr
 rw [List.getD,List.getElem?_eq_getElem h2];rfl
theorem runF_end {p:UInt8→Bool}{s:ByteArray}{i:Nat}(h:s.size≤i):runF p s i=0:=by
 unfold runF
 rw [List.drop_eq_nil_of_le (by rw [bs_len];exact h)];rfl
theorem runF_yes {p:UInt8→Bool}{s:ByteArray}{i:Nat}(h:i < s.size)(hp:p (chr s i)=true):runF p s i=runF p s (i+1)+1:=by
 unfold runF
 rw [drop_at h,List.takeWhile_cons,if_pos hp];rfl
theorem runF_no {p:UInt8→Bool}{s:ByteArray}{i:Nat}(h:i < s.size)(hp:p (chr s i)=false):runF p s i=0:=by
 unfold runF
 rw [drop_at h,List.takeWhile_cons,if_neg (by rw [hp];exact Bool.false_ne_true)];rfl
theorem runF_le {p:UInt8→Bool}{s:ByteArray}{i:Nat}(h:i≤s.size):i+runF p s i≤s.size:=by
 have h1:(((bs s).drop i).takeWhile p).length≤((bs s).drop i).length:=(List.takeWhile_sublist p).length_le
 rw [List.length_drop,bs_len] at h1
 unfold runF
 omega
def tS9 (s:ByteArray):T:=.con (.string s)
theorem rdigits_ok (s:ByteArray)(i:Nat)(hs:s.size≤1073741824)(hi:i≤4294967296):Ok Tryz.prog 100 [tS9 s,.con (.int .i64 i)] true (.con (.int .i64 (runF isDig s i))):=by
 refine ok_of_ev hC0 mix Tryz.func100 rfl rfl (by kernel_rfl) (zO rfl) ?_
 repeat'(first|(with_reducible first|(refine zz ?_;try intro K hK)|refine zI ?_|refine zt ?_|refine zf ?_)|((first|refine hK _ ?_|refine hK _ _ rfl ?_);clear hK K)|(guard_hyp hK;first|(refine zY ?zz ?_;case zz=>first|exact rfl|exact gI)|refine fresh_n ?_|refine freshO_n ?_|refine zW ?_|intro b0 hb)|((first|with_reducible refine zm ?_|guard_hyp hK);refine zY ?_ ?_;all_goals(intro hb;(try simp only [sn,sb] at hb);try exact ex0)))
 refine loop_i Nat (fun n=>⟨Tryz.f100.ntmps,[(0,.con (.string s)),(1,.con (.int .i64 i)),(5,.con (.int .i64 n))],[]⟩) (fun n=>(n=0∨i+n≤s.size)∧n+runF isDig s (i+n)=runF isDig s i) (fun n=>s.size - (i+n)) [] 0 trivial ⟨.inl rfl,by simp⟩ ⟨rfl,⟨rfl,trivial,rfl,trivial,rfl,trivial,trivial⟩,trivial,trivial⟩ ?_
 rintro n ⟨h0,h1⟩
 by_cases hlt:i+n < s.size
 ·have hd:=rDigit_ok (chr s (i+n))
  repeat'(first|(refine at_s ?_;intro hu)|(with_reducible first|(refine zz ?_;try intro K hK)|refine zI ?_|refine zt ?_|refine zf ?_)|((first|refine hK _ ?_|refine hK _ _ rfl ?_);clear hK K)|(guard_hyp hK;first|(refine zY ?zz ?_;case zz=>first|exact rfl|exact gI)|refine fresh_n ?_|refine freshO_n ?_|refine zW ?_|(refine zQ (hd) ?_)|intro b0 hb)|((first|with_reducible refine zm ?_|guard_hyp hK);refine zY ?_ ?_;all_goals(intro hb;(try simp only [sn,sb] at hb);try exact ex0)))
  ·refine reti rfl rfl ?_
   rw [runF_no hlt hb,Nat.add_zero] at h1
   rw [h1]
  ·refine⟨n+1,⟨.inr (by omega),?_⟩,by omega,rfl,⟨rfl,trivial,rfl,trivial,rfl,trivial,trivial⟩,trivial,trivial⟩
   rw [runF_yes hlt hb] at h1
   rw [← h1,← Nat.add_assoc i n 1];omega
 ·repeat'(first|(with_reducible first|(refine zz ?_;try intro K hK)|refine zI ?_|refine zt ?_|refine zf ?_)|((first|refine hK _ ?_|refine hK _ _ rfl ?_);clear hK K)|(guard_hyp hK;first|(refine zY ?zz ?_;case zz=>first|exact rfl|exact gI)|refine fresh_n ?_|refine freshO_n ?_|refine zW ?_|intro b0 hb)|((first|with_reducible refine zm ?_|guard_hyp hK);refine zY ?_ ?_;all_goals(intro hb;(try simp only [sn,sb] at hb);try exact ex0)))
  refine reti rfl rfl ?_
  rw [runF_end (by omega),Nat.add_zero] at h1
  rw [h1]
def isWrd (b:UInt8):Bool:=isLet b ||isDig b
theorem rword_ok (s:ByteArray)(i:Nat)(hs:s.size≤1073741824)(hi:i≤4294967296):Ok Tryz.prog 74 [tS9 s,.con (.int .i64 i)] true (.con (.int .i64 (runF isWrd s i))):=by
 refine ok_of_ev hC0 mix Tryz.func74 rfl rfl (by kernel_rfl) (zO rfl) ?_
 repeat'(first|(with_reducible first|(refine zz ?_;try intro K hK)|refine zI ?_|refine zt ?_|refine zf ?_)|((first|refine hK _ ?_|refine hK _ _ rfl ?_);clear hK K)|(guard_hyp hK;first|(refine zY ?zz ?_;case zz=>first|exact rfl|exact gI)|refine fresh_n ?_|refine freshO_n ?_|refine zW ?_|intro b0 hb)|((first|with_reducible refine zm ?_|guard_hyp hK);refine zY ?_ ?_;all_goals(intro hb;(try simp only [sn,sb] at hb);try exact ex0)))
 refine loop_i Nat (fun n=>⟨Tryz.f74.ntmps,[(0,.con (.string s)),(1,.con (.int .i64 i)),(5,.con (.int .i64 n))],[]⟩) (fun n=>(n=0∨i+n≤s.size)∧n+runF isWrd s (i+n)=runF isWrd s i) (fun n=>s.size - (i+n)) [] 0 trivial ⟨.inl rfl,by simp⟩ ⟨rfl,⟨rfl,trivial,rfl,trivial,rfl,trivial,trivial⟩,trivial,trivial⟩ ?_
 rintro n ⟨h0,h1⟩
 by_cases hlt:i+n < s.size
 ·have hl:=rLetter_ok (chr s (i+n))
  have hd:=rDigit_ok (chr s (i+n))
  cases hc:isWrd (chr s (i+n)) with
  |false=>
   have c1:isLet (chr s (i+n))=false:=by unfold isWrd at hc;revert hc;cases isLet (chr s (i+n))<;>simp
   have c2:isDig (chr s (i+n))=false:=by unfold isWrd at hc;revert hc;cases isDig (chr s (i+n))<;>simp
   rw [c1] at hl
   rw [c2] at hd
   repeat'(first|(refine at_s ?_;intro hu)|(with_reducible first|(refine zz ?_;try intro K hK)|refine zI ?_|refine zt ?_|refine zf ?_)|((first|refine hK _ ?_|refine hK _ _ rfl ?_);clear hK K)|(guard_hyp hK;first|(refine zY ?zz ?_;case zz=>first|exact rfl|exact gI)|refine fresh_n ?_|refine freshO_n ?_|refine zW ?_|(refine zQ (hl) ?_)|(refine zQ (hd) ?_)|intro b0 hb)|((first|with_reducible refine zm ?_|guard_hyp hK);refine zY ?_ ?_;all_goals(intro hb;(try simp only [sn,sb] at hb);try exact ex0)))
   refine reti rfl rfl ?_
   rw [runF_no hlt hc,Nat.add_zero] at h1
   rw [h1]
  |true=>
   have c3:isLet (chr s (i+n))=true∨isDig (chr s (i+n))=true:=by
    unfold isWrd at hc;revert hc;cases isLet (chr s (i+n))<;>simp
   rw [runF_yes hlt hc] at h1
   by_cases c1:isLet (chr s (i+n))=true
   ·rw [c1] at hl
    repeat'(first|(refine at_s ?_;intro hu)|(with_reducible first|(refine zz ?_;try intro K hK)|refine zI ?_|refine zt ?_|refine zf ?_)|((first|refine hK _ ?_|refine hK _ _ rfl ?_);clear hK K)|(guard_hyp hK;first|(refine zY ?zz ?_;case zz=>first|exact rfl|exact gI)|refine fresh_n ?_|refine freshO_n ?_|refine zW ?_|(refine zQ (hl) ?_)|(refine zQ (hd) ?_)|intro b0 hb)|((first|with_reducible refine zm ?_|guard_hyp hK);refine zY ?_ ?_;all_goals(intro hb;(try simp only [sn,sb] at hb);try exact ex0)))
    refine⟨n+1,⟨.inr (by omega),?_⟩,by omega,rfl,⟨rfl,trivial,rfl,trivial,rfl,trivial,trivial⟩,trivial,trivial⟩
    rw [← h1,← Nat.add_assoc i n 1];omega
   ·have c4:isDig (chr s (i+n))=true:=c3.resolve_left c1
    have c1:isLet (chr s (i+n))=false:=by revert c1;cases isLet (chr s (i+n))<;>simp
    rw [c1] at hl
    rw [c4] at hd
    repeat'(first|(refine at_s ?_;intro hu)|(with_reducible first|(refine zz ?_;try intro K hK)|refine zI ?_|refine zt ?_|refine zf ?_)|((first|refine hK _ ?_|refine hK _ _ rfl ?_);clear hK K)|(guard_hyp hK;first|(refine zY ?zz ?_;case zz=>first|exact rfl|exact gI)|refine fresh_n ?_|refine freshO_n ?_|refine zW ?_|(refine zQ (hl) ?_)|(refine zQ (hd) ?_)|intro b0 hb)|((first|with_reducible refine zm ?_|guard_hyp hK);refine zY ?_ ?_;all_goals(intro hb;(try simp only [sn,sb] at hb);try exact ex0)))
    refine⟨n+1,⟨.inr (by omega),?_⟩,by omega,rfl,⟨rfl,trivial,rfl,trivial,rfl,trivial,trivial⟩,trivial,trivial⟩
    rw [← h1,← Nat.add_assoc i n 1];omega
 ·repeat'(first|(with_reducible first|(refine zz ?_;try intro K hK)|refine zI ?_|refine zt ?_|refine zf ?_)|((first|refine hK _ ?_|refine hK _ _ rfl ?_);clear hK K)|(guard_hyp hK;first|(refine zY ?zz ?_;case zz=>first|exact rfl|exact gI)|refine fresh_n ?_|refine freshO_n ?_|refine zW ?_|intro b0 hb)|((first|with_reducible refine zm ?_|guard_hyp hK);refine zY ?_ ?_;all_goals(intro hb;(try simp only [sn,sb] at hb);try exact ex0)))
  refine reti rfl rfl ?_
  rw [runF_end (by omega),Nat.add_zero] at h1
  rw [h1]
theorem chr_end {s:ByteArray}{i:Nat}(h:s.size≤i):chr s i=0:=by
 unfold chr
 rw [List.getD,List.getElem?_eq_none (by rw [bs_len];exact h)];rfl
theorem rat_ok (s:ByteArray)(i:Nat):Ok Tryz.prog 77 [tS9 s,.con (.int .i64 i)] true (.con (.int .u8 (chr s i).toNat)):=by
 by_cases hlt:i < s.size
 ·refine ok_of_ev hC0 mix Tryz.func77 rfl rfl (by kernel_rfl) (zO rfl) ?_
  repeat'(first|(refine at_s ?_;intro hu)|(with_reducible first|(refine zz ?_;try intro K hK)|refine zI ?_|refine zt ?_|refine zf ?_)|((first|refine hK _ ?_|refine hK _ _ rfl ?_);clear hK K)|(guard_hyp hK;first|(refine zY ?zz ?_;case zz=>first|exact rfl|exact gI)|refine fresh_n ?_|refine freshO_n ?_|refine zW ?_|intro b0 hb)|((first|with_reducible refine zm ?_|guard_hyp hK);refine zY ?_ ?_;all_goals(intro hb;(try simp only [sn,sb] at hb);try exact ex0)))
  exact reti rfl rfl rfl
 ·rw [chr_end (by omega)]
  refine ok_of_ev hC0 mix Tryz.func77 rfl rfl (by kernel_rfl) (zO rfl) ?_
  repeat'(first|(with_reducible first|(refine zz ?_;try intro K hK)|refine zI ?_|refine zt ?_|refine zf ?_)|((first|refine hK _ ?_|refine hK _ _ rfl ?_);clear hK K)|(guard_hyp hK;first|(refine zY ?zz ?_;case zz=>first|exact rfl|exact gI)|refine fresh_n ?_|refine freshO_n ?_|refine zW ?_|intro b0 hb)|((first|with_reducible refine zm ?_|guard_hyp hK);refine zY ?_ ?_;all_goals(intro hb;(try simp only [sn,sb] at hb);try exact ex0)))
  exact reti rfl rfl rfl
def decV (l:List UInt8):Nat:=l.foldl (fun v b=>10 * v+(b.toNat - 48)) 0
def allDig (s:ByteArray):Prop:=∀i,i < s.size→isDig (chr s i)=true
theorem decV_take {s:ByteArray}{i:Nat}(h:i < s.size):decV ((bs s).take (i+1))=10 * decV ((bs s).take i)+((chr s i).toNat - 48):=by
 have h2:i < (bs s).length:=by rw [bs_len];exact h
 unfold decV
 rw [List.take_succ_eq_append_getElem h2,List.foldl_append]
 unfold chr
 rw [List.getD,List.getElem?_eq_getElem h2];rfl
theorem decV_mono {s : ByteArray} {i : Nat} : ∀ {j : Nat}, i ≤ j → j ≤ s.size → decV ((bs s).take i) ≤ decV ((bs s).take j)
  | 0, h, _ => by obtain rfl : i = 0 := by omega
                  exact Nat.le_refl _
  | j + 1, h, hj => by
    by_cases e : i = j + 1
    · subst e; exact Nat.le_refl _
    · have := decV_mono (s := s) (i := i) (j := j) (by omega) (by omega)
      rw [decV_take (by omega)]; omega
theorem rlarge_ok (s:ByteArray)(hs:s.size≤1073741824)(hd:allDig s):Ok Tryz.prog 101 [tS9 s] true (.con (.bool (decide (1000 < decV (bs s))))):=by
 refine ok_of_ev hC0 mix Tryz.func101 rfl rfl (by kernel_rfl) (zO rfl) ?_
 repeat'(first|(with_reducible first|(refine zz ?_;try intro K hK)|refine zI ?_|refine zt ?_|refine zf ?_)|((first|refine hK _ ?_|refine hK _ _ rfl ?_);clear hK K)|(guard_hyp hK;first|(refine zY ?zz ?_;case zz=>first|exact rfl|exact gI)|refine fresh_n ?_|refine freshO_n ?_|refine zW ?_|intro b0 hb)|((first|with_reducible refine zm ?_|guard_hyp hK);refine zY ?_ ?_;all_goals(intro hb;(try simp only [sn,sb] at hb);try exact ex0)))
 refine loop_i Nat (fun i=>⟨Tryz.f101.ntmps,[(0,.con (.string s)),(3,.con (.int .i64 (decV ((bs s).take i):Nat))),(4,.con (.int .i64 i))],[]⟩) (fun i=>i≤s.size∧decV ((bs s).take i)≤1000) (fun i=>s.size - i) [] 0 trivial ⟨Nat.zero_le _,Nat.zero_le _⟩ ⟨rfl,⟨rfl,trivial,rfl,trivial,rfl,trivial,trivial⟩,trivial,trivial⟩ ?_
 rintro i ⟨h0,h1⟩
 by_cases hlt:i < s.size
 ·have hdi:=hd i hlt
  unfold isDig at hdi
  simp only [Bool.and_eq_true,decide_eq_true_eq] at hdi
  have ht:=decV_take hlt
  have hm:=decV_mono (s:=s) (i:=i+1) (j:=s.size) (by omega) (Nat.le_refl _)
  rw [List.take_of_length_le (Nat.le_of_eq (bs_len s))] at hm
  repeat'(first|(refine at_s ?_;intro hu)|(with_reducible first|(refine zz ?_;try intro K hK)|refine zI ?_|refine zt ?_|refine zf ?_)|((first|refine hK _ ?_|refine hK _ _ rfl ?_);clear hK K)|(guard_hyp hK;first|(refine zY ?zz ?_;case zz=>first|exact rfl|exact gI)|refine fresh_n ?_|refine freshO_n ?_|refine zW ?_|intro b0 hb)|((first|with_reducible refine zm ?_|guard_hyp hK);refine zY ?_ ?_;all_goals(intro hb;(try simp only [sn,sb] at hb);try exact ex0)))
  ·refine retb rfl rfl ?_
   exact(decide_eq_true (by omega)).symm
  ·refine⟨i+1,⟨by omega,by omega⟩,by omega,rfl,⟨rfl,trivial,?_,trivial,rfl,trivial,trivial⟩,trivial,trivial⟩
   show V.con (.int .i64 (10 * (decV ((bs s).take i):Int)+(((chr s i).toNat:Int) - 48)))=_
   rw [ht]
   refine congrArg (fun x=>V.con (.int .i64 x)) ?_
   omega
 ·repeat'(first|(with_reducible first|(refine zz ?_;try intro K hK)|refine zI ?_|refine zt ?_|refine zf ?_)|((first|refine hK _ ?_|refine hK _ _ rfl ?_);clear hK K)|(guard_hyp hK;first|(refine zY ?zz ?_;case zz=>first|exact rfl|exact gI)|refine fresh_n ?_|refine freshO_n ?_|refine zW ?_|intro b0 hb)|((first|with_reducible refine zm ?_|guard_hyp hK);refine zY ?_ ?_;all_goals(intro hb;(try simp only [sn,sb] at hb);try exact ex0)))
  refine retb rfl rfl ?_
  rw [List.take_of_length_le (by rw [bs_len];omega)] at h1
  exact(decide_eq_false (by omega)).symm
theorem rsign_ok (b:UInt8):Ok Tryz.prog 79 [tb b] true (.con (.bool (isSgn b))):=by
 refine ok_of_ev hC0 mix Tryz.func79 rfl rfl (by kernel_rfl) (zO rfl) ?_
 repeat'(first|(with_reducible first|(refine zz ?_;try intro K hK)|refine zI ?_|refine zt ?_|refine zf ?_)|((first|refine hK _ ?_|refine hK _ _ rfl ?_);clear hK K)|(guard_hyp hK;first|(refine zY ?zz ?_;case zz=>first|exact rfl|exact gI)|refine fresh_n ?_|refine freshO_n ?_|refine zW ?_|intro b0 hb)|((first|with_reducible refine zm ?_|guard_hyp hK);refine zY ?_ ?_;all_goals(intro hb;(try simp only [sn,sb] at hb);try exact ex0)))
 refine loop_i Nat (fun i=>⟨Tryz.f79.ntmps,[(0,.con (.int .u8 b.toNat)),(3,.con (.int .i64 i))],[]⟩) (fun i=>i≤14∧∀j,j < i→chr sgS j≠b) (fun i=>14 - i) [] 0 trivial ⟨Nat.zero_le _,fun j h=>by omega⟩ ⟨rfl,⟨rfl,trivial,rfl,trivial,trivial⟩,trivial,trivial⟩ ?_
 rintro i ⟨h0,h1⟩
 have hz:sgS.size=14:=rfl
 by_cases hlt:i < 14
 ·have hl2:i < sgS.size:=by rw [hz];exact hlt
  repeat'(first|(refine at_s (s:=sgS) ?_ hl2;intro hu)|(with_reducible first|(refine zz ?_;try intro K hK)|refine zI ?_|refine zt ?_|refine zf ?_)|((first|refine hK _ ?_|refine hK _ _ rfl ?_);clear hK K)|(guard_hyp hK;first|(refine zY ?zz ?_;case zz=>first|exact rfl|exact gI)|refine fresh_n ?_|refine freshO_n ?_|refine zW ?_|intro b0 hb)|((first|with_reducible refine zm ?_|guard_hyp hK);refine zY ?_ ?_;all_goals(intro hb;(try simp only [sn,sb] at hb);try exact ex0)))
  ·refine retb rfl rfl ?_
   have e:chr sgS i=b:=UInt8.toNat_inj.1 (by omega)
   refine(decide_eq_true ?_).symm
   rw [← e]
   have h2:i < (bs sgS).length:=by rw [bs_len];exact hl2
   unfold chr
   rw [List.getD,List.getElem?_eq_getElem h2]
   exact List.getElem_mem h2
  ·refine⟨i+1,⟨by omega,fun j hj=>?_⟩,by omega,rfl,⟨rfl,trivial,rfl,trivial,trivial⟩,trivial,trivial⟩
   by_cases e:j=i
   ·subst e
    intro e2
    exact hb (by rw [← e2])
   ·exact h1 j (by omega)
 ·repeat'(first|(with_reducible first|(refine zz ?_;try intro K hK)|refine zI ?_|refine zt ?_|refine zf ?_)|((first|refine hK _ ?_|refine hK _ _ rfl ?_);clear hK K)|(guard_hyp hK;first|(refine zY ?zz ?_;case zz=>first|exact rfl|exact gI)|refine fresh_n ?_|refine freshO_n ?_|refine zW ?_|intro b0 hb)|((first|with_reducible refine zm ?_|guard_hyp hK);refine zY ?_ ?_;all_goals(intro hb;(try simp only [sn,sb] at hb);try exact ex0)))
  refine retb rfl rfl ?_
  refine(decide_eq_false fun hm=>?_).symm
  obtain⟨j,hj,e⟩:=List.mem_iff_getElem.1 hm
  have hj2:j < 14:=Nat.lt_of_lt_of_eq hj ((bs_len sgS).trans hz)
  refine h1 j (by omega) ?_
  unfold chr
  rw [List.getD,List.getElem?_eq_getElem hj]
  exact e
def sub (s:ByteArray)(i n:Nat):ByteArray:=s.extract i (i+n)
def numA (s:ByteArray):Nat:=if(chr s (runF isDig s 0)).toNat=46∧0 < runF isDig s (runF isDig s 0+1) then runF isDig s 0+1+runF isDig s (runF isDig s 0+1) else runF isDig s 0
def numK (s:ByteArray):Nat:=if(chr s (numA s+1)).toNat=43∨(chr s (numA s+1)).toNat=45 then numA s+2 else numA s+1
def numE (s:ByteArray):Prop:=((chr s (numA s)).toNat=101∨(chr s (numA s)).toNat=69)∧0 < runF isDig s (numK s)
instance  (s:ByteArray):Decidable (numE s):=inferInstanceAs (Decidable (_∧_))
def numF (s:ByteArray):Nat:=if numE s then numK s+runF isDig s (numK s) else numA s
def numB (s:ByteArray):Bool:=decide (numE s) && decide (1000 < decV (bs (sub s (numK s) (runF isDig s (numK s)))))
theorem sub_bs (s:ByteArray)(i n:Nat):bs (sub s i n)=((bs s).drop i).take n:=by
 unfold sub bs
 rw [ByteArray.data_extract,Array.toList_extract,List.extract_eq_take_drop]
 rw [show i+n - i=n by omega]
theorem sub_len {s:ByteArray}{i n:Nat}(h:i+n≤s.size):(sub s i n).size=n:=by
 rw [← bs_len,sub_bs,List.length_take,List.length_drop,bs_len];omega
theorem sub_chr {s:ByteArray}{i n j:Nat}(h:j < n):chr (sub s i n) j=chr s (i+j):=by
 unfold chr
 rw [sub_bs,List.getD,List.getD,List.getElem?_take_of_lt h,List.getElem?_drop]
theorem runF_all {p:UInt8→Bool}{s:ByteArray}{i j:Nat}(h:j < runF p s i):p (chr s (i+j))=true:=by
 unfold runF at h
 have h2:(((bs s).drop i).takeWhile p)[j]?=some ((((bs s).drop i).takeWhile p)[j]):=List.getElem?_eq_getElem h
 have h3:=List.mem_of_getElem? h2
 have h4:p _=true:=(List.all_takeWhile (l:=(bs s).drop i) (p:=p) |> List.all_eq_true.1) _ h3
 have h5:((bs s).drop i)[j]?=some ((((bs s).drop i).takeWhile p)[j]):=by
  have:=List.takeWhile_prefix p (l:=(bs s).drop i)
  obtain⟨t,ht⟩:=this
  conv=>lhs;rw [← ht]
  rw [List.getElem?_append_left h,h2]
 rw [List.getElem?_drop] at h5
 unfold chr
 rw [List.getD,h5];exact h4
theorem runF_dig {s:ByteArray}{i:Nat}(h:i≤s.size):allDig (sub s i (runF isDig s i)):=by
 intro j hj
 rw [sub_len (runF_le h)] at hj
 rw [sub_chr hj]
 exact runF_all hj
theorem numA_le {s:ByteArray}:numA s≤s.size:=by
 have h0:=runF_le (p:=isDig) (s:=s) (i:=0) (Nat.zero_le _)
 unfold numA
 split
 ·rename_i h
  have h3:runF isDig s 0 < s.size:=by
   rcases Nat.lt_or_ge (runF isDig s 0) s.size with h9|h9
   ·exact h9
   ·rw [chr_end h9] at h;exact absurd h.1 (by decide)
  exact runF_le (by omega)
 ·omega
theorem rnumber_ok (s:ByteArray)(hs:s.size≤1073741824):Ok Tryz.prog 76 [tS9 s] true (.tup [.con (.int .i64 (numF s)),.con (.bool (numB s))]):=by
 have h0:=runF_le (p:=isDig) (s:=s) (i:=0) (Nat.zero_le _)
 have hA:=numA_le (s:=s)
 refine ok_of_ev hC0 mix Tryz.func76 rfl rfl (by kernel_rfl) (zO rfl) ?_
 repeat'(first|(refine seq_j (a:=Code.seq _ (Code.cond (Operand.tmp 13) _ _)) Unit (fun _=>⟨Tryz.f76.ntmps,[(0,.con (.string s)),(4,.con (.int .i64 (numA s)))],[]⟩) (fun _=>True) ?_ ?_)|(with_reducible first|(refine zz ?_;try intro K hK)|refine zI ?_|refine zt ?_|refine zf ?_)|((first|refine hK _ ?_|refine hK _ _ rfl ?_);clear hK K)|(guard_hyp hK;first|(refine zY ?zz ?_;case zz=>first|exact rfl|exact gI)|refine fresh_n ?_|refine freshO_n ?_|refine zW ?_|(refine zQ (rdigits_ok s 0 hs (by omega)) ?_)|intro b0 hb)|((first|with_reducible refine zm ?_|guard_hyp hK);refine zY ?_ ?_;all_goals(intro hb;(try simp only [sn,sb] at hb);try exact ex0)))
 ·rintro - -
  have hlt:∀i,(chr s i).toNat≠0→i < s.size:=fun i h=>by
   rcases Nat.lt_or_ge i s.size with h9|h9
   ·exact h9
   ·rw [chr_end h9] at h;exact absurd rfl h
  by_cases hc:(chr s (numA s)).toNat=101∨(chr s (numA s)).toNat=69
  ·have ha:=hlt (numA s) (by omega)
   by_cases hk:(chr s (numA s+1)).toNat=43∨(chr s (numA s+1)).toNat=45
   ·have hK:numK s=numA s+2:=if_pos hk
    have ha2:=hlt (numA s+1) (by omega)
    have hl:=runF_le (p:=isDig) (s:=s) (i:=numA s+2) (by omega)
    have hlg:=rlarge_ok (sub s (numA s+2) (runF isDig s (numA s+2))) (by rw [sub_len hl];omega) (runF_dig (by omega))
    have hdg:=rdigits_ok s (numA s+2) hs (by omega)
    by_cases hm:0 < runF isDig s (numA s+2)
    ·have hq:numE s:=⟨hc,by rw [hK];exact hm⟩
     have hF:numF s=numA s+2+runF isDig s (numA s+2):=by unfold numF;rw [if_pos hq,hK]
     have hB:numB s=decide (1000 < decV (bs (sub s (numA s+2) (runF isDig s (numA s+2))))):=by unfold numB;rw [decide_eq_true hq,Bool.true_and,hK]
     rw [hF,hB]
     repeat'(first|(with_reducible first|(refine zz ?_;try intro K hK)|refine zI ?_|refine zt ?_|refine zf ?_)|((first|refine hK _ ?_|refine hK _ _ rfl ?_);clear hK K)|(guard_hyp hK;first|(refine zY ?zz ?_;case zz=>first|exact rfl|exact gI)|refine fresh_n ?_|refine freshO_n ?_|refine zW ?_|(refine zQ (rat_ok s (numA s)) ?_)|(refine zQ (rat_ok s (numA s+1)) ?_)|(refine zQ (hdg) ?_)|(refine zQ (hlg) ?_)|intro b0 hb)|((first|with_reducible refine zm ?_|guard_hyp hK);refine zY ?_ ?_;all_goals(intro hb;(try simp only [sn,sb] at hb);try exact ex0)))
     all_goals first|refine Exists.intro _ (Exists.intro _ (And.intro rfl (And.intro (fz_con rfl) (fz_con rfl))))|exact⟨trivial,_,_,rfl,fz_con rfl,fz_con rfl⟩
    ·have hq:¬numE s:=fun h=>hm (by rw [← hK];exact h.2)
     have hF:numF s=numA s:=by unfold numF;rw [if_neg hq]
     have hB:numB s=false:=by unfold numB;rw [decide_eq_false hq,Bool.false_and]
     rw [hF,hB]
     repeat'(first|(with_reducible first|(refine zz ?_;try intro K hK)|refine zI ?_|refine zt ?_|refine zf ?_)|((first|refine hK _ ?_|refine hK _ _ rfl ?_);clear hK K)|(guard_hyp hK;first|(refine zY ?zz ?_;case zz=>first|exact rfl|exact gI)|refine fresh_n ?_|refine freshO_n ?_|refine zW ?_|(refine zQ (rat_ok s (numA s)) ?_)|(refine zQ (rat_ok s (numA s+1)) ?_)|(refine zQ (hdg) ?_)|(refine zQ (hlg) ?_)|intro b0 hb)|((first|with_reducible refine zm ?_|guard_hyp hK);refine zY ?_ ?_;all_goals(intro hb;(try simp only [sn,sb] at hb);try exact ex0)))
     all_goals first|refine Exists.intro _ (Exists.intro _ (And.intro rfl (And.intro (fz_con rfl) (fz_con rfl))))|exact⟨trivial,_,_,rfl,fz_con rfl,fz_con rfl⟩
   ·have hK:numK s=numA s+1:=if_neg hk
    have hl:=runF_le (p:=isDig) (s:=s) (i:=numA s+1) (by omega)
    have hlg:=rlarge_ok (sub s (numA s+1) (runF isDig s (numA s+1))) (by rw [sub_len hl];omega) (runF_dig (by omega))
    have hdg:=rdigits_ok s (numA s+1) hs (by omega)
    by_cases hm:0 < runF isDig s (numA s+1)
    ·have hq:numE s:=⟨hc,by rw [hK];exact hm⟩
     have hF:numF s=numA s+1+runF isDig s (numA s+1):=by unfold numF;rw [if_pos hq,hK]
     have hB:numB s=decide (1000 < decV (bs (sub s (numA s+1) (runF isDig s (numA s+1))))):=by unfold numB;rw [decide_eq_true hq,Bool.true_and,hK]
     rw [hF,hB]
     repeat'(first|(with_reducible first|(refine zz ?_;try intro K hK)|refine zI ?_|refine zt ?_|refine zf ?_)|((first|refine hK _ ?_|refine hK _ _ rfl ?_);clear hK K)|(guard_hyp hK;first|(refine zY ?zz ?_;case zz=>first|exact rfl|exact gI)|refine fresh_n ?_|refine freshO_n ?_|refine zW ?_|(refine zQ (rat_ok s (numA s)) ?_)|(refine zQ (rat_ok s (numA s+1)) ?_)|(refine zQ (hdg) ?_)|(refine zQ (hlg) ?_)|intro b0 hb)|((first|with_reducible refine zm ?_|guard_hyp hK);refine zY ?_ ?_;all_goals(intro hb;(try simp only [sn,sb] at hb);try exact ex0)))
     all_goals first|refine Exists.intro _ (Exists.intro _ (And.intro rfl (And.intro (fz_con rfl) (fz_con rfl))))|exact⟨trivial,_,_,rfl,fz_con rfl,fz_con rfl⟩
    ·have hq:¬numE s:=fun h=>hm (by rw [← hK];exact h.2)
     have hF:numF s=numA s:=by unfold numF;rw [if_neg hq]
     have hB:numB s=false:=by unfold numB;rw [decide_eq_false hq,Bool.false_and]
     rw [hF,hB]
     repeat'(first|(with_reducible first|(refine zz ?_;try intro K hK)|refine zI ?_|refine zt ?_|refine zf ?_)|((first|refine hK _ ?_|refine hK _ _ rfl ?_);clear hK K)|(guard_hyp hK;first|(refine zY ?zz ?_;case zz=>first|exact rfl|exact gI)|refine fresh_n ?_|refine freshO_n ?_|refine zW ?_|(refine zQ (rat_ok s (numA s)) ?_)|(refine zQ (rat_ok s (numA s+1)) ?_)|(refine zQ (hdg) ?_)|(refine zQ (hlg) ?_)|intro b0 hb)|((first|with_reducible refine zm ?_|guard_hyp hK);refine zY ?_ ?_;all_goals(intro hb;(try simp only [sn,sb] at hb);try exact ex0)))
     all_goals first|refine Exists.intro _ (Exists.intro _ (And.intro rfl (And.intro (fz_con rfl) (fz_con rfl))))|exact⟨trivial,_,_,rfl,fz_con rfl,fz_con rfl⟩
  ·have hq:¬numE s:=fun h=>hc h.1
   have hF:numF s=numA s:=by unfold numF;rw [if_neg hq]
   have hB:numB s=false:=by unfold numB;rw [decide_eq_false hq,Bool.false_and]
   rw [hF,hB]
   repeat'(first|(with_reducible first|(refine zz ?_;try intro K hK)|refine zI ?_|refine zt ?_|refine zf ?_)|((first|refine hK _ ?_|refine hK _ _ rfl ?_);clear hK K)|(guard_hyp hK;first|(refine zY ?zz ?_;case zz=>first|exact rfl|exact gI)|refine fresh_n ?_|refine freshO_n ?_|refine zW ?_|(refine zQ (rat_ok s (numA s)) ?_)|intro b0 hb)|((first|with_reducible refine zm ?_|guard_hyp hK);refine zY ?_ ?_;all_goals(intro hb;(try simp only [sn,sb] at hb);try exact ex0)))
   all_goals first|refine Exists.intro _ (Exists.intro _ (And.intro rfl (And.intro (fz_con rfl) (fz_con rfl))))|exact⟨trivial,_,_,rfl,fz_con rfl,fz_con rfl⟩
 ·intro R hR
  have e1:∀h:(chr s (runF isDig s 0)).toNat=46∧0 < runF isDig s (runF isDig s 0+1),numA s=runF isDig s 0+1+runF isDig s (runF isDig s 0+1):=fun h=>if_pos h
  have e2:∀h:¬((chr s (runF isDig s 0)).toNat=46∧0 < runF isDig s (runF isDig s 0+1)),numA s=runF isDig s 0:=fun h=>if_neg h
  repeat'(first|(with_reducible first|(refine zz ?_;try intro K hK)|refine zI ?_|refine zt ?_|refine zf ?_)|((first|refine hK _ ?_|refine hK _ _ rfl ?_);clear hK K)|(guard_hyp hK;first|(refine zY ?zz ?_;case zz=>first|exact rfl|exact gI)|refine fresh_n ?_|refine freshO_n ?_|refine zW ?_|(refine zQ (rat_ok s (runF isDig s 0)) ?_)|(refine zQ (rdigits_ok s (runF isDig s 0+1) hs (by omega)) ?_)|intro b0 hb)|((first|with_reducible refine zm ?_|guard_hyp hK);refine zY ?_ ?_;all_goals(intro hb;(try simp only [sn,sb] at hb);try exact ex0)))
  all_goals first
   |(rw [e1 ⟨by omega,by omega⟩] at hR;exact hR _ () trivial ⟨rfl,⟨rfl,trivial,rfl,trivial,trivial⟩,trivial,trivial⟩)
   |(rw [e2 (by omega)] at hR;exact hR _ () trivial ⟨rfl,⟨rfl,trivial,rfl,trivial,trivial⟩,trivial,trivial⟩)
def quoF (s:ByteArray)(i:Nat)(out:ByteArray):Nat×ByteArray×Bool:=
 if h:i < s.size then
  if(chr s i).toNat=34 then(i+1,out,true)
  else if(chr s i).toNat=10 then(0,⟨#[]⟩,false)
  else if(chr s i).toNat=92 then
   if(chr s (i+1)).toNat≠34∧(chr s (i+1)).toNat≠92 then(0,⟨#[]⟩,false)
   else quoF s (i+2) (out ++ sub s (i+1) 1)
  else quoF s (i+1) (out ++ sub s i 1)
 else(0,⟨#[]⟩,false)
termination_by s.size - i
theorem cat_s {out s:ByteArray}{a b:Nat}{Q:Prop}(ho:out.size≤1073741826)(hs:s.size≤1073741824)(h:Q):out.size+(s.extract a b).size≤9223372036854775807∧Q:=by
 refine⟨?_,h⟩
 rw [ByteArray.size_extract];omega
theorem cat_len {out s:ByteArray}{i j:Nat}(h:i+1≤s.size)(ho:out.size≤j):(out ++ sub s i 1).size≤j+1:=by
 rw [ByteArray.size_append,sub_len h];omega
theorem rquoted_ok (s:ByteArray)(hs:s.size≤1073741824):Ok Tryz.prog 78 [tS9 s] true (.tup [.con (.int .i64 ((quoF s 1 ⟨#[]⟩).1:Nat)),.con (.string (quoF s 1 ⟨#[]⟩).2.1),.con (.bool (quoF s 1 ⟨#[]⟩).2.2)]):=by
 refine ok_of_ev hC0 mix Tryz.func78 rfl rfl (by kernel_rfl) (zO rfl) ?_
 repeat'(first|(with_reducible first|(refine zz ?_;try intro K hK)|refine zI ?_|refine zt ?_|refine zf ?_)|((first|refine hK _ ?_|refine hK _ _ rfl ?_);clear hK K)|(guard_hyp hK;first|(refine zY ?zz ?_;case zz=>first|exact rfl|exact gI)|refine fresh_n ?_|refine freshO_n ?_|refine zW ?_|intro b0 hb)|((first|with_reducible refine zm ?_|guard_hyp hK);refine zY ?_ ?_;all_goals(intro hb;(try simp only [sn,sb] at hb);try exact ex0)))
 refine loop_i (Nat×ByteArray) (fun q=>⟨Tryz.f78.ntmps,[(0,.con (.string s)),(5,.con (.string q.2)),(6,.con (.int .i64 q.1))],[]⟩) (fun q=>1≤q.1∧q.1≤s.size+2∧quoF s q.1 q.2=quoF s 1 ⟨#[]⟩∧q.2.size≤q.1) (fun q=>s.size+2 - q.1) [] (1,⟨#[]⟩) trivial ⟨Nat.le_refl _,by omega,rfl,Nat.zero_le _⟩ ⟨rfl,⟨rfl,trivial,rfl,trivial,rfl,trivial,trivial⟩,trivial,trivial⟩ ?_
 rintro⟨i,out⟩ ⟨h00,h0,h1,h2⟩
 simp only at h00 h0 h1 h2
 have h3:out.size≤1073741826:=by omega
 by_cases hlt:i < s.size
 ·rw [quoF,dif_pos hlt] at h1
  by_cases c1:(chr s i).toNat=34
  ·rw [if_pos c1] at h1
   rw [← h1]
   repeat'(first|(refine at_s ?_;intro hu)|(with_reducible first|(refine zz ?_;try intro K hK)|refine zI ?_|refine zt ?_|refine zf ?_)|((first|refine hK _ ?_|refine hK _ _ rfl ?_);clear hK K)|(guard_hyp hK;first|(refine zY ?zz ?_;case zz=>first|exact rfl|exact gI)|refine fresh_n ?_|refine freshO_n ?_|refine zW ?_|intro b0 hb)|((first|with_reducible refine zm ?_|guard_hyp hK);refine zY ?_ ?_;all_goals(intro hb;(try simp only [sn,sb] at hb);try exact ex0)))
   all_goals first|refine Exists.intro _ (Exists.intro _ (Exists.intro _ (And.intro rfl (And.intro (fz_con rfl) (And.intro (fz_con rfl) (fz_con rfl))))))|exact⟨trivial,_,_,_,rfl,fz_con rfl,fz_con rfl,fz_con rfl⟩
  rw [if_neg c1] at h1
  by_cases c2:(chr s i).toNat=10
  ·rw [if_pos c2] at h1
   rw [← h1]
   repeat'(first|(refine at_s ?_;intro hu)|(with_reducible first|(refine zz ?_;try intro K hK)|refine zI ?_|refine zt ?_|refine zf ?_)|((first|refine hK _ ?_|refine hK _ _ rfl ?_);clear hK K)|(guard_hyp hK;first|(refine zY ?zz ?_;case zz=>first|exact rfl|exact gI)|refine fresh_n ?_|refine freshO_n ?_|refine zW ?_|intro b0 hb)|((first|with_reducible refine zm ?_|guard_hyp hK);refine zY ?_ ?_;all_goals(intro hb;(try simp only [sn,sb] at hb);try exact ex0)))
   all_goals first|refine Exists.intro _ (Exists.intro _ (Exists.intro _ (And.intro rfl (And.intro (fz_con rfl) (And.intro (fz_con rfl) (fz_con rfl))))))|exact⟨trivial,_,_,_,rfl,fz_con rfl,fz_con rfl,fz_con rfl⟩
  rw [if_neg c2] at h1
  by_cases c3:(chr s i).toNat=92
  ·rw [if_pos c3] at h1
   have hlt2:∀i,(chr s i).toNat≠0→i < s.size:=fun i h=>by
    rcases Nat.lt_or_ge i s.size with h9|h9
    ·exact h9
    ·rw [chr_end h9] at h;exact absurd rfl h
   by_cases c4:(chr s (i+1)).toNat≠34∧(chr s (i+1)).toNat≠92
   ·rw [if_pos c4] at h1
    rw [← h1]
    repeat'(first|(refine at_s ?_;intro hu)|(with_reducible first|(refine zz ?_;try intro K hK)|refine zI ?_|refine zt ?_|refine zf ?_)|((first|refine hK _ ?_|refine hK _ _ rfl ?_);clear hK K)|(guard_hyp hK;first|(refine zY ?zz ?_;case zz=>first|exact rfl|exact gI)|refine fresh_n ?_|refine freshO_n ?_|refine zW ?_|(refine zQ (rat_ok s (i+1)) ?_)|intro b0 hb)|((first|with_reducible refine zm ?_|guard_hyp hK);refine zY ?_ ?_;all_goals(intro hb;(try simp only [sn,sb] at hb);try exact ex0)))
    all_goals first|refine Exists.intro _ (Exists.intro _ (Exists.intro _ (And.intro rfl (And.intro (fz_con rfl) (And.intro (fz_con rfl) (fz_con rfl))))))|exact⟨trivial,_,_,_,rfl,fz_con rfl,fz_con rfl,fz_con rfl⟩
   ·rw [if_neg c4] at h1
    have hlt3:=hlt2 (i+1) (by omega)
    repeat'(first|(first|(refine at_s ?_;intro hu)|refine cat_s h3 hs ?_)|(with_reducible first|(refine zz ?_;try intro K hK)|refine zI ?_|refine zt ?_|refine zf ?_)|((first|refine hK _ ?_|refine hK _ _ rfl ?_);clear hK K)|(guard_hyp hK;first|(refine zY ?zz ?_;case zz=>first|exact rfl|exact gI)|refine fresh_n ?_|refine freshO_n ?_|refine zW ?_|(refine zQ (rat_ok s (i+1)) ?_)|intro b0 hb)|((first|with_reducible refine zm ?_|guard_hyp hK);refine zY ?_ ?_;all_goals(intro hb;(try simp only [sn,sb] at hb);try exact ex0)))
    all_goals exact⟨(i+2,out ++ sub s (i+1) 1),⟨by omega,by omega,h1,cat_len (by omega) (by omega)⟩,by omega,rfl,⟨rfl,trivial,rfl,trivial,rfl,trivial,trivial⟩,trivial,trivial⟩
  rw [if_neg c3] at h1
  repeat'(first|(first|(refine at_s ?_;intro hu)|refine cat_s h3 hs ?_)|(with_reducible first|(refine zz ?_;try intro K hK)|refine zI ?_|refine zt ?_|refine zf ?_)|((first|refine hK _ ?_|refine hK _ _ rfl ?_);clear hK K)|(guard_hyp hK;first|(refine zY ?zz ?_;case zz=>first|exact rfl|exact gI)|refine fresh_n ?_|refine freshO_n ?_|refine zW ?_|intro b0 hb)|((first|with_reducible refine zm ?_|guard_hyp hK);refine zY ?_ ?_;all_goals(intro hb;(try simp only [sn,sb] at hb);try exact ex0)))
  all_goals exact⟨(i+1,out ++ sub s i 1),⟨by omega,by omega,h1,cat_len (by omega) h2⟩,by omega,rfl,⟨rfl,trivial,rfl,trivial,rfl,trivial,trivial⟩,trivial,trivial⟩
 ·rw [quoF,dif_neg hlt] at h1
  rw [← h1]
  repeat'(first|(with_reducible first|(refine zz ?_;try intro K hK)|refine zI ?_|refine zt ?_|refine zf ?_)|((first|refine hK _ ?_|refine hK _ _ rfl ?_);clear hK K)|(guard_hyp hK;first|(refine zY ?zz ?_;case zz=>first|exact rfl|exact gI)|refine fresh_n ?_|refine freshO_n ?_|refine zW ?_|intro b0 hb)|((first|with_reducible refine zm ?_|guard_hyp hK);refine zY ?_ ?_;all_goals(intro hb;(try simp only [sn,sb] at hb);try exact ex0)))
  all_goals first|refine Exists.intro _ (Exists.intro _ (Exists.intro _ (And.intro rfl (And.intro (fz_con rfl) (And.intro (fz_con rfl) (fz_con rfl))))))|exact⟨trivial,_,_,_,rfl,fz_con rfl,fz_con rfl,fz_con rfl⟩
def skipA (s:ByteArray)(i:Nat):Int:=
 if h:i < s.size then
  if(chr s 1).toNat=47∧(chr s i).toNat=10 then i
  else if(chr s 1).toNat=42∧(chr s i).toNat=42∧(chr s (i+1)).toNat=47 then i+2
  else skipA s (i+1)
 else if(chr s 1).toNat=47 then s.size else -1
termination_by s.size - i
def skipF (s:ByteArray):Int:=if isBlk (chr s 0)=true then 1 else if(chr s 0).toNat≠47∨((chr s 1).toNat≠47∧(chr s 1).toNat≠42) then 0 else skipA s 2
theorem rskipped_ok (s:ByteArray)(hs:s.size≤1073741824)(h1:1≤s.size):Ok Tryz.prog 72 [tS9 s] true (.con (.int .i64 (skipF s))):=by
 have hbl:=rBlank_ok (chr s 0)
 refine ok_of_ev hC0 mix Tryz.func72 rfl rfl (by kernel_rfl) (zO rfl) ?_
 cases hB:isBlk (chr s 0) with
 |true=>
  rw [hB] at hbl
  have hF:skipF s=1:=by unfold skipF;rw [if_pos hB]
  rw [hF]
  repeat'(first|(refine at_s ?_;intro hu)|(with_reducible first|(refine zz ?_;try intro K hK)|refine zI ?_|refine zt ?_|refine zf ?_)|((first|refine hK _ ?_|refine hK _ _ rfl ?_);clear hK K)|(guard_hyp hK;first|(refine zY ?zz ?_;case zz=>first|exact rfl|exact gI)|refine fresh_n ?_|refine freshO_n ?_|refine zW ?_|(refine zQ (hbl) ?_)|intro b0 hb)|((first|with_reducible refine zm ?_|guard_hyp hK);refine zY ?_ ?_;all_goals(intro hb;(try simp only [sn,sb] at hb);try exact ex0)))
  all_goals exact reti rfl rfl rfl
 |false=>
  rw [hB] at hbl
  have hF0:skipF s=if(chr s 0).toNat≠47∨((chr s 1).toNat≠47∧(chr s 1).toNat≠42) then 0 else skipA s 2:=by unfold skipF;rw [if_neg (by rw [hB];exact Bool.false_ne_true)]
  by_cases hc:(chr s 0).toNat≠47∨((chr s 1).toNat≠47∧(chr s 1).toNat≠42)
  ·rw [if_pos hc] at hF0
   rw [hF0]
   repeat'(first|(refine at_s ?_;intro hu)|(with_reducible first|(refine zz ?_;try intro K hK)|refine zI ?_|refine zt ?_|refine zf ?_)|((first|refine hK _ ?_|refine hK _ _ rfl ?_);clear hK K)|(guard_hyp hK;first|(refine zY ?zz ?_;case zz=>first|exact rfl|exact gI)|refine fresh_n ?_|refine freshO_n ?_|refine zW ?_|(refine zQ (hbl) ?_)|(refine zQ (rat_ok s 1) ?_)|intro b0 hb)|((first|with_reducible refine zm ?_|guard_hyp hK);refine zY ?_ ?_;all_goals(intro hb;(try simp only [sn,sb] at hb);try exact ex0)))
   all_goals first|exact reti rfl rfl rfl|(exfalso;simp only [show Int.toNat 0=0 from rfl] at *;omega)
  ·rw [if_neg hc] at hF0
   rw [hF0]
   have hl1:1 < s.size:=by
    rcases Nat.lt_or_ge 1 s.size with h9|h9
    ·exact h9
    ·have:=chr_end h9;rw [this] at hc;exact absurd (by simp) hc
   repeat'(first|(refine at_s ?_;intro hu)|(with_reducible first|(refine zz ?_;try intro K hK)|refine zI ?_|refine zt ?_|refine zf ?_)|((first|refine hK _ ?_|refine hK _ _ rfl ?_);clear hK K)|(guard_hyp hK;first|(refine zY ?zz ?_;case zz=>first|exact rfl|exact gI)|refine fresh_n ?_|refine freshO_n ?_|refine zW ?_|(refine zQ (hbl) ?_)|(refine zQ (rat_ok s 1) ?_)|intro b0 hb)|((first|with_reducible refine zm ?_|guard_hyp hK);refine zY ?_ ?_;all_goals(intro hb;(try simp only [sn,sb] at hb);try exact ex0)))
   all_goals try simp only [show Int.toNat 0=0 from rfl,show Int.toNat 1=1 from rfl] at *
   all_goals try(exfalso;omega)
   all_goals refine loop_i Nat (fun i=>⟨Tryz.f72.ntmps,[(0,.con (.string s)),(4,.con (.int .i64 i))],[]⟩) (fun i=>2≤i∧i≤s.size∧skipA s i=skipA s 2) (fun i=>s.size - i) [] 2 trivial ⟨Nat.le_refl _,by omega,rfl⟩ ⟨rfl,⟨rfl,trivial,rfl,trivial,trivial⟩,trivial,trivial⟩ ?_
   all_goals
    rintro i ⟨h2,h3,h4⟩
    by_cases hlt:i < s.size
    ·rw [skipA,dif_pos hlt] at h4
     by_cases d1:(chr s 1).toNat=47∧(chr s i).toNat=10
     ·rw [if_pos d1] at h4
      rw [← h4]
      repeat'(first|(refine at_s ?_;intro hu)|(with_reducible first|(refine zz ?_;try intro K hK)|refine zI ?_|refine zt ?_|refine zf ?_)|((first|refine hK _ ?_|refine hK _ _ rfl ?_);clear hK K)|(guard_hyp hK;first|(refine zY ?zz ?_;case zz=>first|exact rfl|exact gI)|refine fresh_n ?_|refine freshO_n ?_|refine zW ?_|intro b0 hb)|((first|with_reducible refine zm ?_|guard_hyp hK);refine zY ?_ ?_;all_goals(intro hb;(try simp only [sn,sb] at hb);try exact ex0)))
      all_goals first|exact reti rfl rfl rfl|(exfalso;simp only [show Int.toNat 1=1 from rfl] at *;omega)
     ·rw [if_neg d1] at h4
      by_cases d2:(chr s 1).toNat=42∧(chr s i).toNat=42∧(chr s (i+1)).toNat=47
      ·rw [if_pos d2] at h4
       rw [← h4]
       repeat'(first|(refine at_s ?_;intro hu)|(with_reducible first|(refine zz ?_;try intro K hK)|refine zI ?_|refine zt ?_|refine zf ?_)|((first|refine hK _ ?_|refine hK _ _ rfl ?_);clear hK K)|(guard_hyp hK;first|(refine zY ?zz ?_;case zz=>first|exact rfl|exact gI)|refine fresh_n ?_|refine freshO_n ?_|refine zW ?_|(refine zQ (rat_ok s (i+1)) ?_)|intro b0 hb)|((first|with_reducible refine zm ?_|guard_hyp hK);refine zY ?_ ?_;all_goals(intro hb;(try simp only [sn,sb] at hb);try exact ex0)))
       all_goals first|exact reti rfl rfl rfl|(exfalso;simp only [show Int.toNat 1=1 from rfl] at *;omega)
      ·rw [if_neg d2] at h4
       repeat'(first|(refine at_s ?_;intro hu)|(with_reducible first|(refine zz ?_;try intro K hK)|refine zI ?_|refine zt ?_|refine zf ?_)|((first|refine hK _ ?_|refine hK _ _ rfl ?_);clear hK K)|(guard_hyp hK;first|(refine zY ?zz ?_;case zz=>first|exact rfl|exact gI)|refine fresh_n ?_|refine freshO_n ?_|refine zW ?_|(refine zQ (rat_ok s (i+1)) ?_)|intro b0 hb)|((first|with_reducible refine zm ?_|guard_hyp hK);refine zY ?_ ?_;all_goals(intro hb;(try simp only [sn,sb] at hb);try exact ex0)))
       all_goals first|(exfalso;simp only [show Int.toNat 1=1 from rfl] at *;omega)|exact⟨i+1,⟨by omega,by omega,h4⟩,by omega,rfl,⟨rfl,trivial,rfl,trivial,trivial⟩,trivial,trivial⟩
    ·rw [skipA,dif_neg hlt] at h4
     by_cases d1:(chr s 1).toNat=47
     ·rw [if_pos d1] at h4
      rw [← h4]
      repeat'(first|(refine at_s ?_;intro hu)|(with_reducible first|(refine zz ?_;try intro K hK)|refine zI ?_|refine zt ?_|refine zf ?_)|((first|refine hK _ ?_|refine hK _ _ rfl ?_);clear hK K)|(guard_hyp hK;first|(refine zY ?zz ?_;case zz=>first|exact rfl|exact gI)|refine fresh_n ?_|refine freshO_n ?_|refine zW ?_|intro b0 hb)|((first|with_reducible refine zm ?_|guard_hyp hK);refine zY ?_ ?_;all_goals(intro hb;(try simp only [sn,sb] at hb);try exact ex0)))
      all_goals first|exact reti rfl rfl rfl|(exfalso;simp only [show Int.toNat 1=1 from rfl] at *;omega)
     ·rw [if_neg d1] at h4
      rw [← h4]
      repeat'(first|(refine at_s ?_;intro hu)|(with_reducible first|(refine zz ?_;try intro K hK)|refine zI ?_|refine zt ?_|refine zf ?_)|((first|refine hK _ ?_|refine hK _ _ rfl ?_);clear hK K)|(guard_hyp hK;first|(refine zY ?zz ?_;case zz=>first|exact rfl|exact gI)|refine fresh_n ?_|refine freshO_n ?_|refine zW ?_|intro b0 hb)|((first|with_reducible refine zm ?_|guard_hyp hK);refine zY ?_ ?_;all_goals(intro hb;(try simp only [sn,sb] at hb);try exact ex0)))
      all_goals first|exact reti rfl rfl rfl|(exfalso;simp only [show Int.toNat 1=1 from rfl] at *;omega)
end Go.Ev
