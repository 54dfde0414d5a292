import Derived.Test.YtppbdmkbhalmpaaGreatDoorLag
import Derived.Test.YtppbdmkbhalmpaaGreatDoorLah
import Derived.Shelf.Strings.Builder1
import Derived.Shelf.Strings.Trim
import Derived.Shelf.Small.Utf8
import Derived.Shelf.Small.Bits
import Derived.Shelf.Small.Strs
import Derived.Shelf.Small.Wraps
import Derived.Shelf.Strings.BuilderF
import Derived.Shelf.Strings.BuilderK
import Derived.Shelf.Strings.Search1
import Derived.Shelf.Strings.Search2
import Derived.Shelf.Strings.Search3
import Derived.Shelf.LaysM
import Derived.Shelf.Strings.Shaped
import Derived.Shelf.Strings.Prefix
import Derived.Shelf.Strings.Runes
import Derived.Shelf.Strings.AsciiSet
import Derived.Shelf.Unicode.DecodeSlow
import Derived.Test.YtppbdmkbhalmpaaGreatDoorProg
set_option linter.all false
set_option maxHeartbeats 4000000
set_option maxRecDepth 10000
namespace Go.Ev
open Go.Proofs
theorem letter_ok (b:UInt8):Ok Tryz.prog 48 [tb b] true (.con (.bool (isLet b))):=by
 refine ok_of_ev hC0 mix Tryz.func48 rfl rfl (by kernel_rfl) (zO rfl) ?_
 repeat'(first|(with_reducible first|(refine zz ?_;try intro K hK)|refine zI ?_|refine zt ?_|refine zf ?_)|((first|refine hK _ ?_|refine hK _ _ rfl ?_);clear hK K)|(guard_hyp hK;first|(refine zY ?zz ?_;case zz=>first|exact rfl|exact gJ)|refine fresh_n ?_|refine freshO_n ?_|refine zW ?_|intro b0 hb)|((first|with_reducible refine zm ?_|guard_hyp hK);refine zY ?_ ?_;all_goals(intro hb;(try simp only [sn,sb] at hb);try exact ex0)))
 all_goals(refine retb rfl rfl ?_;rw [Bool.eq_iff_iff];unfold isLet;simp;omega)
theorem ldigit_ok (b:UInt8):Ok Tryz.prog 51 [tb b] true (.con (.bool (isDig b))):=by
 refine ok_of_ev hC0 mix Tryz.func51 rfl rfl (by kernel_rfl) (zO rfl) ?_
 repeat'(first|(with_reducible first|(refine zz ?_;try intro K hK)|refine zI ?_|refine zt ?_|refine zf ?_)|((first|refine hK _ ?_|refine hK _ _ rfl ?_);clear hK K)|(guard_hyp hK;first|(refine zY ?zz ?_;case zz=>first|exact rfl|exact gJ)|refine fresh_n ?_|refine freshO_n ?_|refine zW ?_|intro b0 hb)|((first|with_reducible refine zm ?_|guard_hyp hK);refine zY ?_ ?_;all_goals(intro hb;(try simp only [sn,sb] at hb);try exact ex0)))
 all_goals(refine retb rfl rfl ?_;rw [Bool.eq_iff_iff];unfold isDig;simp;omega)
theorem inWord_ok (b:UInt8):Ok Tryz.prog 50 [tb b] true (.con (.bool (isWrd b))):=by
 have h1:=letter_ok b
 have h2:=ldigit_ok b
 refine ok_of_ev hC0 mix Tryz.func50 rfl rfl (by kernel_rfl) (zO rfl) ?_
 repeat'(first|(with_reducible first|(refine zz ?_;try intro K hK)|refine zI ?_|refine zt ?_|refine zf ?_)|((first|refine hK _ ?_|refine hK _ _ rfl ?_);clear hK K)|(guard_hyp hK;first|(refine zY ?zz ?_;case zz=>first|exact rfl|exact gJ)|refine fresh_n ?_|refine freshO_n ?_|refine zW ?_|(refine zQ (h1) ?_)|(refine zQ (h2) ?_)|intro b0 hb)|((first|with_reducible refine zm ?_|guard_hyp hK);refine zY ?_ ?_;all_goals(intro hb;(try simp only [sn,sb] at hb);try exact ex0)))
 all_goals(refine retb rfl rfl ?_;unfold isWrd;simp_all)
def tFn (q:Nat):T:=.con (.func (.func q) #[] #[])
theorem run_ok (s:ByteArray)(i:Nat)(q:Nat)(p:UInt8→Bool)(hq:∀b,Ok Tryz.prog q [tb b] true (.con (.bool (p b))))(hs:s.size≤1073741824)(hi:i≤4294967296):Ok Tryz.prog 49 [tS9 s,.con (.int .i64 i),tFn q] true (.con (.int .i64 (runF p s i))):=by
 refine ok_of_ev hC0 mix Tryz.func49 rfl rfl (by kernel_rfl) (zO rfl) ?_
 repeat'(first|(with_reducible first|(refine zz ?_;try intro K hK)|refine zI ?_|refine zt ?_|refine zf ?_)|((first|refine hK _ ?_|refine hK _ _ rfl ?_);clear hK K)|(guard_hyp hK;first|(refine zY ?zz ?_;case zz=>first|exact rfl|exact gJ)|refine fresh_n ?_|refine freshO_n ?_|refine zW ?_|intro b0 hb)|((first|with_reducible refine zm ?_|guard_hyp hK);refine zY ?_ ?_;all_goals(intro hb;(try simp only [sn,sb] at hb);try exact ex0)))
 refine loop_i Nat (fun n=>⟨Tryz.f49.ntmps,[(0,.con (.string s)),(1,.con (.int .i64 i)),(2,.con (.func (.func q) #[] #[])),(7,.con (.int .i64 n))],[]⟩) (fun n=>(n=0∨i+n≤s.size)∧n+runF p s (i+n)=runF p s i) (fun n=>s.size - (i+n)) [] 0 trivial ⟨.inl rfl,by simp⟩ ⟨rfl,⟨rfl,trivial,rfl,trivial,rfl,trivial,rfl,trivial,trivial⟩,trivial,trivial⟩ ?_
 rintro n ⟨h0,h1⟩
 by_cases hlt:i+n < s.size
 ·have hd:=hq (chr s (i+n))
  repeat'(first|(refine at_s ?_;intro hu)|(with_reducible first|(refine zz ?_;try intro K hK)|refine zI ?_|refine zt ?_|refine zf ?_)|((first|refine hK _ ?_|refine hK _ _ rfl ?_);clear hK K)|(guard_hyp hK;first|(refine zY ?zz ?_;case zz=>first|exact rfl|exact gJ)|refine fresh_n ?_|refine freshO_n ?_|refine zW ?_|(refine zQ (hd) ?_)|intro b0 hb)|((first|with_reducible refine zm ?_|guard_hyp hK);refine zY ?_ ?_;all_goals(intro hb;(try simp only [sn,sb] at hb);try exact ex0)))
  ·refine⟨n+1,⟨.inr (by omega),?_⟩,by omega,rfl,⟨rfl,trivial,rfl,trivial,rfl,trivial,rfl,trivial,trivial⟩,trivial,trivial⟩
   rw [runF_yes hlt hb] at h1
   rw [← h1,← Nat.add_assoc i n 1];omega
  ·refine reti rfl rfl ?_
   rw [runF_no hlt hb,Nat.add_zero] at h1
   rw [h1]
 ·repeat'(first|(with_reducible first|(refine zz ?_;try intro K hK)|refine zI ?_|refine zt ?_|refine zf ?_)|((first|refine hK _ ?_|refine hK _ _ rfl ?_);clear hK K)|(guard_hyp hK;first|(refine zY ?zz ?_;case zz=>first|exact rfl|exact gJ)|refine fresh_n ?_|refine freshO_n ?_|refine zW ?_|intro b0 hb)|((first|with_reducible refine zm ?_|guard_hyp hK);refine zY ?_ ?_;all_goals(intro hb;(try simp only [sn,sb] at hb);try exact ex0)))
  refine reti rfl rfl ?_
  rw [runF_end (by omega),Nat.add_zero] at h1
  rw [h1]
def preB (s w:ByteArray):Bool:=decide (w.size≤s.size) && ((s.extract 0 w.size).toList == w.toList)
theorem slPre_ok (s w:ByteArray)(hs:s.size≤1073741826)(hw:w.size≤1073741826):Ok Tryz.prog 75 [tS9 s,tS9 w] true (.con (.bool (preB s w))):=by
 unfold preB
 refine ok_of_ev hC0 mix Tryz.func75 rfl rfl (by kernel_rfl) (zO rfl) ?_
 repeat'(first|(with_reducible first|(refine zz ?_;try intro K hK)|refine zI ?_|refine zt ?_|refine zf ?_)|((first|refine hK _ ?_|refine hK _ _ rfl ?_);clear hK K)|(guard_hyp hK;first|(refine zY ?zz ?_;case zz=>first|exact rfl|exact gJ)|refine fresh_n ?_|refine freshO_n ?_|refine zW ?_|intro b0 hb)|((first|with_reducible refine zm ?_|guard_hyp hK);refine zY ?_ ?_;all_goals(intro hb;(try simp only [sn,sb] at hb);try exact ex0)))
 ·exact retb rfl rfl (by rw [decide_eq_true (by omega),Bool.true_and];rfl)
 ·exact retb rfl rfl (by rw [decide_eq_false (by omega),Bool.false_and])
theorem HasPre_ok (s w:ByteArray)(hs:s.size≤1073741826)(hw:w.size≤1073741826):Ok Tryz.prog 60 [tS9 s,tS9 w] true (.con (.bool (preB s w))):=by
 refine ok_of_ev hC0 mix Tryz.func60 rfl rfl (by kernel_rfl) (zO rfl) ?_
 repeat'(first|(with_reducible first|(refine zz ?_;try intro K hK)|refine zI ?_|refine zt ?_|refine zf ?_)|((first|refine hK _ ?_|refine hK _ _ rfl ?_);clear hK K)|(guard_hyp hK;first|(refine zY ?zz ?_;case zz=>first|exact rfl|exact gJ)|refine fresh_n ?_|refine freshO_n ?_|refine zW ?_|(refine zQ (slPre_ok s w hs hw) ?_)|intro b0 hb)|((first|with_reducible refine zm ?_|guard_hyp hK);refine zY ?_ ?_;all_goals(intro hb;(try simp only [sn,sb] at hb);try exact ex0)))
 exact retb rfl rfl rfl
theorem slCut_no (s w:ByteArray)(hs:s.size≤1073741826)(hw:w.size≤1073741826)(h:preB s w=false):Ok Tryz.prog 83 [tS9 s,tS9 w] true (.tup [tS9 s,.con (.bool false)]):=by
 have h1:=slPre_ok s w hs hw
 rw [h] at h1
 refine ok_of_ev hC0 mix Tryz.func83 rfl rfl (by kernel_rfl) (zO rfl) ?_
 repeat'(first|(with_reducible first|(refine zz ?_;try intro K hK)|refine zI ?_|refine zt ?_|refine zf ?_)|((first|refine hK _ ?_|refine hK _ _ rfl ?_);clear hK K)|(guard_hyp hK;first|(refine zY ?zz ?_;case zz=>first|exact rfl|exact gJ)|refine fresh_n ?_|refine freshO_n ?_|refine zW ?_|(refine zQ (h1) ?_)|intro b0 hb)|((first|with_reducible refine zm ?_|guard_hyp hK);refine zY ?_ ?_;all_goals(intro hb;(try simp only [sn,sb] at hb);try exact ex0)))
 exact⟨trivial,_,_,rfl,fz_con rfl,fz_con rfl⟩
theorem Cut_no (s w:ByteArray)(hs:s.size≤1073741826)(hw:w.size≤1073741826)(h:preB s w=false):Ok Tryz.prog 68 [tS9 s,tS9 w] true (.tup [tS9 s,.con (.bool false)]):=by
 refine ok_of_ev hC0 mix Tryz.func68 rfl rfl (by kernel_rfl) (zO rfl) ?_
 repeat'(first|(with_reducible first|(refine zz ?_;try intro K hK)|refine zI ?_|refine zt ?_|refine zf ?_)|((first|refine hK _ ?_|refine hK _ _ rfl ?_);clear hK K)|(guard_hyp hK;first|(refine zY ?zz ?_;case zz=>first|exact rfl|exact gJ)|refine fresh_n ?_|refine freshO_n ?_|refine zW ?_|(refine zQ (slCut_no s w hs hw h) ?_)|intro b0 hb)|((first|with_reducible refine zm ?_|guard_hyp hK);refine zY ?_ ?_;all_goals(intro hb;(try simp only [sn,sb] at hb);try exact ex0)))
 exact⟨trivial,_,_,rfl,fz_con rfl,fz_con rfl⟩
def expS (s:ByteArray):ByteArray:=if numE s then sub s (numK s) (runF isDig s (numK s)) else⟨#[]⟩
theorem number_ok (s:ByteArray)(hs:s.size≤1073741824):Ok Tryz.prog 52 [tS9 s] true (.tup [.con (.int .i64 (numF s)),.con (.string (expS s))]):=by
 have h0:=runF_le (p:=isDig) (s:=s) (i:=0) (Nat.zero_le _)
 have hA:=numA_le (s:=s)
 have r0:=run_ok s 0 51 isDig ldigit_ok hs (by omega)
 refine ok_of_ev hC0 mix Tryz.func52 rfl rfl (by kernel_rfl) (zO rfl) ?_
 repeat'(first|(first|(refine at_s (s:=s) (i:=runF isDig s 0) ?_ (by omega);intro hu)|refine seq_j (a:=Code.seq (Code.region 2 _ _) (Code.cond _ _ _)) Unit (fun _=>⟨Tryz.f52.ntmps,[(0,.con (.string s)),(4,.con (.int .i64 (numA s)))],[]⟩) (fun _=>True) ?_ ?_)|(with_reducible first|(refine zz ?_;try intro K hK)|refine zI ?_|refine zt ?_|refine zf ?_)|((first|refine hK _ ?_|refine hK _ _ rfl ?_);clear hK K)|(guard_hyp hK;first|(refine zY ?zz ?_;case zz=>first|exact rfl|exact gJ)|refine fresh_n ?_|refine freshO_n ?_|refine zW ?_|(refine zQ (r0) ?_)|intro b0 hb)|((first|with_reducible refine zm ?_|guard_hyp hK);refine zY ?_ ?_;all_goals(intro hb;(try simp only [sn,sb] at hb);try exact ex0)))
 ·rintro - -
  have hlt:∀i,(chr s i).toNat≠0→i < s.size:=fun i h=>by
   rcases Nat.lt_or_ge i s.size with h9|h9
   ·exact h9
   ·rw [chr_end h9] at h;exact absurd rfl h
  by_cases hc:(chr s (numA s)).toNat=101∨(chr s (numA s)).toNat=69
  ·have ha:=hlt (numA s) (by omega)
   by_cases hk:(chr s (numA s+1)).toNat=43∨(chr s (numA s+1)).toNat=45
   ·have hK:numK s=numA s+2:=if_pos hk
    have ha2:=hlt (numA s+1) (by omega)
    have hl:=runF_le (p:=isDig) (s:=s) (i:=numA s+2) (by omega)
    have hdg:=run_ok s (numA s+2) 51 isDig ldigit_ok hs (by omega)
    by_cases hm:0 < runF isDig s (numA s+2)
    ·have hq:numE s:=⟨hc,by rw [hK];exact hm⟩
     have hF:numF s=numA s+2+runF isDig s (numA s+2):=by unfold numF;rw [if_pos hq,hK]
     have hX:expS s=sub s (numA s+2) (runF isDig s (numA s+2)):=by unfold expS;rw [if_pos hq,hK]
     rw [hF,hX]
     clear hF hX hq hK r0
     generalize numA s=A9 at *
     repeat'(first|(first|(refine at_s (s:=s) (i:=A9) ?_ (by omega);intro hu)|(refine at_s (s:=s) (i:=A9+1) ?_ (by omega);intro hu))|(with_reducible first|(refine zz ?_;try intro K hK)|refine zI ?_|refine zt ?_|refine zf ?_)|((first|refine hK _ ?_|refine hK _ _ rfl ?_);clear hK K)|(guard_hyp hK;first|(refine zY ?zz ?_;case zz=>first|exact rfl|exact gJ)|refine fresh_n ?_|refine freshO_n ?_|refine zW ?_|(refine zQ (hdg) ?_)|intro b0 hb)|((first|with_reducible refine zm ?_|guard_hyp hK);refine zY ?_ ?_;all_goals(intro hb;(try simp only [sn,sb] at hb);try exact ex0)))
     all_goals first|refine Exists.intro _ (Exists.intro _ (And.intro rfl (And.intro (fz_con rfl) (fz_con rfl))))|exact⟨trivial,_,_,rfl,fz_con rfl,fz_con rfl⟩|(exfalso;omega)
    ·have hq:¬numE s:=fun h=>hm (by rw [← hK];exact h.2)
     have hF:numF s=numA s:=by unfold numF;rw [if_neg hq]
     have hX:expS s=⟨#[]⟩:=by unfold expS;rw [if_neg hq]
     rw [hF,hX]
     clear hF hX hq hK r0
     generalize numA s=A9 at *
     repeat'(first|(first|(refine at_s (s:=s) (i:=A9) ?_ (by omega);intro hu)|(refine at_s (s:=s) (i:=A9+1) ?_ (by omega);intro hu))|(with_reducible first|(refine zz ?_;try intro K hK)|refine zI ?_|refine zt ?_|refine zf ?_)|((first|refine hK _ ?_|refine hK _ _ rfl ?_);clear hK K)|(guard_hyp hK;first|(refine zY ?zz ?_;case zz=>first|exact rfl|exact gJ)|refine fresh_n ?_|refine freshO_n ?_|refine zW ?_|(refine zQ (hdg) ?_)|intro b0 hb)|((first|with_reducible refine zm ?_|guard_hyp hK);refine zY ?_ ?_;all_goals(intro hb;(try simp only [sn,sb] at hb);try exact ex0)))
     all_goals first|refine Exists.intro _ (Exists.intro _ (And.intro rfl (And.intro (fz_con rfl) (fz_con rfl))))|exact⟨trivial,_,_,rfl,fz_con rfl,fz_con rfl⟩|(exfalso;omega)
   ·have hK:numK s=numA s+1:=if_neg hk
    have hl:=runF_le (p:=isDig) (s:=s) (i:=numA s+1) (by omega)
    have hdg:=run_ok s (numA s+1) 51 isDig ldigit_ok hs (by omega)
    by_cases hm:0 < runF isDig s (numA s+1)
    ·have hq:numE s:=⟨hc,by rw [hK];exact hm⟩
     have hF:numF s=numA s+1+runF isDig s (numA s+1):=by unfold numF;rw [if_pos hq,hK]
     have hX:expS s=sub s (numA s+1) (runF isDig s (numA s+1)):=by unfold expS;rw [if_pos hq,hK]
     rw [hF,hX]
     clear hF hX hq hK r0
     generalize numA s=A9 at *
     repeat'(first|(first|(refine at_s (s:=s) (i:=A9) ?_ (by omega);intro hu)|(refine at_s (s:=s) (i:=A9+1) ?_ (by omega);intro hu))|(with_reducible first|(refine zz ?_;try intro K hK)|refine zI ?_|refine zt ?_|refine zf ?_)|((first|refine hK _ ?_|refine hK _ _ rfl ?_);clear hK K)|(guard_hyp hK;first|(refine zY ?zz ?_;case zz=>first|exact rfl|exact gJ)|refine fresh_n ?_|refine freshO_n ?_|refine zW ?_|(refine zQ (hdg) ?_)|intro b0 hb)|((first|with_reducible refine zm ?_|guard_hyp hK);refine zY ?_ ?_;all_goals(intro hb;(try simp only [sn,sb] at hb);try exact ex0)))
     all_goals first|refine Exists.intro _ (Exists.intro _ (And.intro rfl (And.intro (fz_con rfl) (fz_con rfl))))|exact⟨trivial,_,_,rfl,fz_con rfl,fz_con rfl⟩|(exfalso;omega)
    ·have hq:¬numE s:=fun h=>hm (by rw [← hK];exact h.2)
     have hF:numF s=numA s:=by unfold numF;rw [if_neg hq]
     have hX:expS s=⟨#[]⟩:=by unfold expS;rw [if_neg hq]
     rw [hF,hX]
     clear hF hX hq hK r0
     generalize numA s=A9 at *
     repeat'(first|(first|(refine at_s (s:=s) (i:=A9) ?_ (by omega);intro hu)|(refine at_s (s:=s) (i:=A9+1) ?_ (by omega);intro hu))|(with_reducible first|(refine zz ?_;try intro K hK)|refine zI ?_|refine zt ?_|refine zf ?_)|((first|refine hK _ ?_|refine hK _ _ rfl ?_);clear hK K)|(guard_hyp hK;first|(refine zY ?zz ?_;case zz=>first|exact rfl|exact gJ)|refine fresh_n ?_|refine freshO_n ?_|refine zW ?_|(refine zQ (hdg) ?_)|intro b0 hb)|((first|with_reducible refine zm ?_|guard_hyp hK);refine zY ?_ ?_;all_goals(intro hb;(try simp only [sn,sb] at hb);try exact ex0)))
     all_goals first|refine Exists.intro _ (Exists.intro _ (And.intro rfl (And.intro (fz_con rfl) (fz_con rfl))))|exact⟨trivial,_,_,rfl,fz_con rfl,fz_con rfl⟩|(exfalso;omega)
  ·have hq:¬numE s:=fun h=>hc h.1
   have hF:numF s=numA s:=by unfold numF;rw [if_neg hq]
   have hX:expS s=⟨#[]⟩:=by unfold expS;rw [if_neg hq]
   rw [hF,hX]
   clear hF hX hq r0
   generalize numA s=A9 at *
   repeat'(first|(refine at_s (s:=s) (i:=A9) ?_ (by omega);intro hu)|(with_reducible first|(refine zz ?_;try intro K hK)|refine zI ?_|refine zt ?_|refine zf ?_)|((first|refine hK _ ?_|refine hK _ _ rfl ?_);clear hK K)|(guard_hyp hK;first|(refine zY ?zz ?_;case zz=>first|exact rfl|exact gJ)|refine fresh_n ?_|refine freshO_n ?_|refine zW ?_|intro b0 hb)|((first|with_reducible refine zm ?_|guard_hyp hK);refine zY ?_ ?_;all_goals(intro hb;(try simp only [sn,sb] at hb);try exact ex0)))
   all_goals first|refine Exists.intro _ (Exists.intro _ (And.intro rfl (And.intro (fz_con rfl) (fz_con rfl))))|exact⟨trivial,_,_,rfl,fz_con rfl,fz_con rfl⟩|(exfalso;omega)
 ·intro R hR
  have e1:∀h:(chr s (runF isDig s 0)).toNat=46∧0 < runF isDig s (runF isDig s 0+1),numA s=runF isDig s 0+1+runF isDig s (runF isDig s 0+1):=fun h=>if_pos h
  have e2:∀h:¬((chr s (runF isDig s 0)).toNat=46∧0 < runF isDig s (runF isDig s 0+1)),numA s=runF isDig s 0:=fun h=>if_neg h
  have r1:=run_ok s (runF isDig s 0+1) 51 isDig ldigit_ok hs (by omega)
  have hlt:∀i,(chr s i).toNat≠0→i < s.size:=fun i h=>by
   rcases Nat.lt_or_ge i s.size with h9|h9
   ·exact h9
   ·rw [chr_end h9] at h;exact absurd rfl h
  have hlt0:=hlt (runF isDig s 0)
  have e3:¬runF isDig s 0 < s.size→¬((chr s (runF isDig s 0)).toNat=46∧0 < runF isDig s (runF isDig s 0+1)):=fun h h2=>h (hlt0 (by rw [h2.1];decide))
  repeat'(first|(refine at_s (s:=s) (i:=runF isDig s 0) ?_ (by omega);intro hu)|(with_reducible first|(refine zz ?_;try intro K hK)|refine zI ?_|refine zt ?_|refine zf ?_)|((first|refine hK _ ?_|refine hK _ _ rfl ?_);clear hK K)|(guard_hyp hK;first|(refine zY ?zz ?_;case zz=>first|exact rfl|exact gJ)|refine fresh_n ?_|refine freshO_n ?_|refine zW ?_|(refine zQ (r1) ?_)|intro b0 hb)|((first|with_reducible refine zm ?_|guard_hyp hK);refine zY ?_ ?_;all_goals(intro hb;(try simp only [sn,sb] at hb);try exact ex0)))
  all_goals first
   |(rw [e1 ⟨by omega,by omega⟩] at hR;exact hR _ () trivial ⟨rfl,⟨rfl,trivial,congrArg (fun x=>V.con (.int .i64 x)) (by omega),trivial,trivial⟩,trivial,trivial⟩)
   |(rw [e2 (by omega)] at hR;exact hR _ () trivial ⟨rfl,⟨rfl,trivial,congrArg (fun x=>V.con (.int .i64 x)) (by omega),trivial,trivial⟩,trivial,trivial⟩)
   |(rw [e2 (e3 (by omega))] at hR;exact hR _ () trivial ⟨rfl,⟨rfl,trivial,congrArg (fun x=>V.con (.int .i64 x)) (by omega),trivial,trivial⟩,trivial,trivial⟩)
end Go.Ev
namespace Go.Proofs
open Go.Shelf
def Tryz.lays169_ren : Go.Shelf.Ren:=⟨fun|169=>63|n=>n,fun|70=>147|9=>9|0=>0|72=>150|37=>148|127=>168|3=>3|5=>5|n=>n,fun|n=>n⟩
theorem Tryz.lays169 : Go.Proofs.Lays.n169 Tryz.prog Tryz.lays169_ren:={
 mixed:=by kernel_rfl
 f169:=Tryz.func63.trans (congrArg some (by kernel_rfl))
 t0:=Tryz.underlying0
 a0:=Tryz.isAgg0
 z0:=Tryz.sizeOf0
 v0:=Tryz.zeroValue0
 t3:=Tryz.underlying3
 a3:=Tryz.isAgg3
 z3:=Tryz.sizeOf3
 v3:=Tryz.zeroValue3
 t9:=Tryz.underlying9
 a9:=Tryz.isAgg9
 z9:=Tryz.sizeOf9
 v9:=Tryz.zeroValue9
 t37:=Tryz.underlying148
 a37:=Tryz.isAgg148
 z37:=Tryz.sizeOf148
 v37:=Tryz.zeroValue148
 t70:=Tryz.underlying147
 a70:=Tryz.isAgg147
 z70:=Tryz.sizeOf147
 v70:=Tryz.zeroValue147
 t72:=Tryz.underlying150
 a72:=Tryz.isAgg150
 z72:=Tryz.sizeOf150
 v72:=Tryz.zeroValue150
 t127:=Tryz.underlying168
 a127:=Tryz.isAgg168
 z127:=Tryz.sizeOf168
 v127:=Tryz.zeroValue168 }
theorem Tryz.Builder_Extra_169 : Builder.Extra Tryz.prog Tryz.lays169_ren:={
 sizeBuilder:=by kernel_rfl
 liesBuilder:=by kernel_rfl
 t5:=Tryz.underlying5
 a5:=Tryz.isAgg5
 z5:=Tryz.sizeOf5
 v5:=Tryz.zeroValue5
 infoByte:=by kernel_rfl
 cellsByte:=by kernel_rfl
 sizeByte:=by kernel_rfl
 neB5:=by decide }
def Tryz.lays161_ren : Go.Shelf.Ren:=⟨fun|161=>62|231=>77|227=>78|233=>79|235=>80|228=>91|197=>92|151=>93|260=>100|152=>101|137=>55|119=>109|224=>89|225=>88|217=>65|266=>82|n=>n,fun|9=>9|4=>4|3=>3|5=>5|117=>164|116=>163|0=>0|124=>167|105=>175|21=>21|119=>192|46=>140|139=>195|138=>194|n=>n,fun|3=>2|4=>3|n=>n⟩
theorem Tryz.lays161 : Go.Proofs.Lays.n161 Tryz.prog Tryz.lays161_ren:={
 mixed:=by kernel_rfl
 f119:=Tryz.func109.trans (congrArg some (by kernel_rfl))
 f137:=Tryz.func55.trans (congrArg some (by kernel_rfl))
 f151:=Tryz.func93.trans (congrArg some (by kernel_rfl))
 f152:=Tryz.func101.trans (congrArg some (by kernel_rfl))
 f161:=Tryz.func62.trans (congrArg some (by kernel_rfl))
 f197:=Tryz.func92.trans (congrArg some (by kernel_rfl))
 f217:=Tryz.func65.trans (congrArg some (by kernel_rfl))
 f224:=Tryz.func89.trans (congrArg some (by kernel_rfl))
 f225:=Tryz.func88.trans (congrArg some (by kernel_rfl))
 f227:=Tryz.func78.trans (congrArg some (by kernel_rfl))
 f228:=Tryz.func91.trans (congrArg some (by kernel_rfl))
 f231:=Tryz.func77.trans (congrArg some (by kernel_rfl))
 f233:=Tryz.func79.trans (congrArg some (by kernel_rfl))
 f235:=Tryz.func80.trans (congrArg some (by kernel_rfl))
 f260:=Tryz.func100.trans (congrArg some (by kernel_rfl))
 f266:=Tryz.func82.trans (congrArg some (by kernel_rfl))
 t0:=Tryz.underlying0
 a0:=Tryz.isAgg0
 z0:=Tryz.sizeOf0
 v0:=Tryz.zeroValue0
 t3:=Tryz.underlying3
 a3:=Tryz.isAgg3
 z3:=Tryz.sizeOf3
 v3:=Tryz.zeroValue3
 t4:=Tryz.underlying4
 a4:=Tryz.isAgg4
 z4:=Tryz.sizeOf4
 v4:=Tryz.zeroValue4
 t5:=Tryz.underlying5
 a5:=Tryz.isAgg5
 z5:=Tryz.sizeOf5
 v5:=Tryz.zeroValue5
 t9:=Tryz.underlying9
 a9:=Tryz.isAgg9
 z9:=Tryz.sizeOf9
 v9:=Tryz.zeroValue9
 t21:=Tryz.underlying21
 a21:=Tryz.isAgg21
 z21:=Tryz.sizeOf21
 v21:=Tryz.zeroValue21
 t46:=Tryz.underlying140
 a46:=Tryz.isAgg140
 z46:=Tryz.sizeOf140
 v46:=Tryz.zeroValue140
 t105:=Tryz.underlying175
 a105:=Tryz.isAgg175
 z105:=Tryz.sizeOf175
 v105:=Tryz.zeroValue175
 t116:=Tryz.underlying163
 a116:=Tryz.isAgg163
 z116:=Tryz.sizeOf163
 t117:=Tryz.underlying164
 a117:=Tryz.isAgg164
 z117:=Tryz.sizeOf164
 v117:=Tryz.zeroValue164
 t119:=Tryz.underlying192
 a119:=Tryz.isAgg192
 z119:=Tryz.sizeOf192
 t124:=Tryz.underlying167
 a124:=Tryz.isAgg167
 z124:=Tryz.sizeOf167
 v124:=Tryz.zeroValue167
 t138:=Tryz.underlying194
 a138:=Tryz.isAgg194
 z138:=Tryz.sizeOf194
 v138:=Tryz.zeroValue194
 t139:=Tryz.underlying195
 a139:=Tryz.isAgg195
 z139:=Tryz.sizeOf195
 v139:=Tryz.zeroValue195
 g3:=by kernel_rfl
 g4:=by kernel_rfl }
open Go.RowKit in
theorem Tryz.strings_TrimLeft_one (s:ByteArray)(c:UInt8)(hc:c.toNat < 128)(w:World) :
  Calls Tryz.prog 62 #[.string s,.string ⟨#[c]⟩] w fun e w'=>e=.returned (.string ⟨(Lib.trimLeftB s.data.toList c).toArray⟩)∧w'=w:=Any.strings_TrimLeft_one Tryz.lays161 s c hc w
def Tryz.lays137_ren : Go.Shelf.Ren:=⟨fun|137=>55|217=>65|266=>82|n=>n,fun|9=>9|5=>5|3=>3|n=>n,fun|n=>n⟩
theorem Tryz.lays137 : Go.Proofs.Lays.n137 Tryz.prog Tryz.lays137_ren:={
 mixed:=by kernel_rfl
 f137:=Tryz.func55.trans (congrArg some (by kernel_rfl))
 f217:=Tryz.func65.trans (congrArg some (by kernel_rfl))
 f266:=Tryz.func82.trans (congrArg some (by kernel_rfl))
 t3:=Tryz.underlying3
 a3:=Tryz.isAgg3
 z3:=Tryz.sizeOf3
 v3:=Tryz.zeroValue3
 t5:=Tryz.underlying5
 a5:=Tryz.isAgg5
 z5:=Tryz.sizeOf5
 v5:=Tryz.zeroValue5
 t9:=Tryz.underlying9
 a9:=Tryz.isAgg9
 z9:=Tryz.sizeOf9
 v9:=Tryz.zeroValue9 }
open Go.RowKit in
theorem Tryz.strings_IndexByte (s:ByteArray)(c:Int)(w:World) :
  Calls Tryz.prog 55 #[.string s,.int .u8 c] w fun e w'=>e=.returned (.int .i64 (Lib.indexByte s.data.toList c.toNat.toUInt8))∧w'=w:=Any.strings_IndexByte Tryz.lays137 s c w
open Go.RowKit in
theorem Tryz.Builder_String_any_k (B b:Nat)(l:List UInt8)(w:World)(h:Lib.IsBuilderF 150 5 B b (Lib.byteCells l) w)(hBw:B≤w.heap.size) :
  Calls Tryz.prog 63 #[.pointer (some ⟨b,0,none⟩)] w fun e w'=>e=.returned (.string ⟨l.toArray⟩)∧(Lib.IsBuilderF 150 5 B b (Lib.byteCells l) w'∧Below B w w'∧Lib.OthersKept 5 (some b) w w'):=Any.Builder_String_any_k Tryz.lays169 Tryz.Builder_Extra_169 B b l w h hBw
def Tryz.lays143_ren : Go.Shelf.Ren:=⟨fun|143=>61|219=>76|217=>65|225=>88|224=>89|267=>90|266=>82|314=>99|n=>n,fun|9=>9|3=>3|4=>4|5=>5|46=>140|146=>183|51=>54|n=>n,fun|1=>1|n=>n⟩
theorem Tryz.lays143 : Go.Proofs.Lays.n143 Tryz.prog Tryz.lays143_ren:={
 mixed:=by kernel_rfl
 f143:=Tryz.func61.trans (congrArg some (by kernel_rfl))
 f217:=Tryz.func65.trans (congrArg some (by kernel_rfl))
 f219:=Tryz.func76.trans (congrArg some (by kernel_rfl))
 f224:=Tryz.func89.trans (congrArg some (by kernel_rfl))
 f225:=Tryz.func88.trans (congrArg some (by kernel_rfl))
 f266:=Tryz.func82.trans (congrArg some (by kernel_rfl))
 f267:=Tryz.func90.trans (congrArg some (by kernel_rfl))
 f314:=Tryz.func99.trans (congrArg some (by kernel_rfl))
 t3:=Tryz.underlying3
 a3:=Tryz.isAgg3
 z3:=Tryz.sizeOf3
 v3:=Tryz.zeroValue3
 t4:=Tryz.underlying4
 a4:=Tryz.isAgg4
 z4:=Tryz.sizeOf4
 v4:=Tryz.zeroValue4
 t5:=Tryz.underlying5
 a5:=Tryz.isAgg5
 z5:=Tryz.sizeOf5
 v5:=Tryz.zeroValue5
 t9:=Tryz.underlying9
 a9:=Tryz.isAgg9
 z9:=Tryz.sizeOf9
 v9:=Tryz.zeroValue9
 t46:=Tryz.underlying140
 a46:=Tryz.isAgg140
 z46:=Tryz.sizeOf140
 v46:=Tryz.zeroValue140
 t51:=Tryz.underlying54
 a51:=Tryz.isAgg54
 z51:=Tryz.sizeOf54
 v51:=Tryz.zeroValue54
 t146:=Tryz.underlying183
 a146:=Tryz.isAgg183
 z146:=Tryz.sizeOf183
 v146:=Tryz.zeroValue183
 g1:=by kernel_rfl }
open Go.RowKit Go.Lib in
theorem Tryz.strings_Index (s sub:ByteArray)(m:Int)(w:World)(hs:s.size < 4294967281)(hm:w.cell? ⟨1,0,none⟩=some (.int .i64 m)) :
  Calls Tryz.prog 61 #[.string s,.string sub] w fun e w'=>e=.returned (.int .i64 (Lib.index s.data.toList sub.data.toList))∧w'=w:=Any.strings_Index Tryz.lays143 s sub m w hs hm
end Go.Proofs
namespace Go.Ev
open Go.Proofs
theorem reads_con {S:Sto}{l:List Value}{args:Array Value}(h:Reads S (l.map T.con) args):args=l.toArray:=by
 obtain⟨h1,h2⟩:=h
 rw [List.length_map] at h1
 refine Array.ext (by simpa using h1) fun i h3 h4=>?_
 have hl:i < l.length:=by omega
 have:=h2 i (.con l[i]) args[i] (by rw [List.getElem?_map,List.getElem?_eq_getElem hl];rfl) (by rw [Array.getElem?_eq_getElem h3])
 generalize args[i]=x at this
 cases this
 simp
theorem ok_shelf {P:Program}{q:FuncId}{l:List Value}{f:Bool}{v:Value}{t:T}(hq:Callable P q)(hr:∀S,RdT S t v)
  (h:∀(S:Sto) (w:World),GL S→(∀b o c,S b o=some c→w.cell? ⟨b,o,none⟩=some c)→Calls P q l.toArray w fun e w'=>e=.returned v∧w'=w):Ok P q (l.map T.con) f t:=by
 refine⟨hq,fun S w args hS hgl hargs=>?_⟩
 rw [reads_con hargs]
 refine(h S w hgl hS).mono fun e w' he=>?_
 obtain⟨rfl,rfl⟩:=he
 exact⟨v,fun _ _=>none,rfl,RowKit.Below.refl _ _,(fun _ _ _ hc=>by cases hc),hr _⟩
theorem IndexByte_ok (s:ByteArray)(b:UInt8):Ok Tryz.prog 55 [tS9 s,tb b] true (.con (.int .i64 (Lib.indexByte s.data.toList b))):=by
 have e:(b.toNat:Int).toNat.toUInt8=b:=by simp
 refine ok_shelf (l:=[.string s,.int .u8 b.toNat]) ⟨_,Tryz.func55,rfl,rfl⟩ (fun S=>RdT.con _ rfl) (fun S w _ _=>?_)
 have:=Tryz.strings_IndexByte s b.toNat w
 rw [e] at this
 exact this
theorem Index_ok (s u:ByteArray)(hs:s.size < 4294967281):Ok Tryz.prog 61 [tS9 s,tS9 u] true (.con (.int .i64 (Lib.index s.data.toList u.data.toList))):=by
 refine ok_shelf (l:=[.string s,.string u]) ⟨_,Tryz.func61,rfl,rfl⟩ (fun S=>RdT.con _ rfl) (fun S w hg hS=>?_)
 obtain⟨m,hm⟩:∃m,S 1 0=some (.int .i64 m):=hg.1
 exact Tryz.strings_Index s u m w hs (hS _ _ _ hm)
theorem TrimLeft1_ok (s:ByteArray)(c:UInt8)(hc:c.toNat < 128):Ok Tryz.prog 62 [tS9 s,tS9 ⟨#[c]⟩] true (tS9 ⟨(Lib.trimLeftB s.data.toList c).toArray⟩):=by
 refine ok_shelf (l:=[.string s,.string ⟨#[c]⟩]) ⟨_,Tryz.func62,rfl,rfl⟩ (fun S=>RdT.con _ rfl) (fun S w _ _=>?_)
 exact Tryz.strings_TrimLeft_one s c hc w
def decF (v:Nat)(l:List UInt8):Nat:=l.foldl (fun v b=>10 * v+(b.toNat - 48)) v
theorem decF_ge : ∀(l:List UInt8) (v:Nat),v * 10 ^ l.length≤decF v l
 | [],v=>by simp [decF]
 |b :: r,v=>by
  have:=decF_ge r (10 * v+(b.toNat - 48))
  show _≤decF (10 * v+(b.toNat - 48)) r
  rw [List.length_cons,Nat.pow_succ]
  refine Nat.le_trans ?_ this
  rw [Nat.mul_comm (10 ^ r.length) 10,← Nat.mul_assoc]
  exact Nat.mul_le_mul_right _ (by omega)
theorem decF_lt : ∀(l:List UInt8) (v:Nat),(∀b ∈ l,isDig b=true)→decF v l < (v+1) * 10 ^ l.length
 | [],v,_=>by simp [decF]
 |b :: r,v,h=>by
  have hb:=h b (List.mem_cons_self ..)
  unfold isDig at hb
  simp only [Bool.and_eq_true,decide_eq_true_eq] at hb
  have:=decF_lt r (10 * v+(b.toNat - 48)) (fun c hc=>h c (List.mem_cons_of_mem _ hc))
  show decF (10 * v+(b.toNat - 48)) r < _
  rw [List.length_cons,Nat.pow_succ]
  refine Nat.lt_of_lt_of_le this ?_
  rw [Nat.mul_comm (10 ^ r.length) 10,← Nat.mul_assoc]
  exact Nat.mul_le_mul_right _ (by omega)
theorem decV_drop : ∀(l:List UInt8),decV (Lib.trimLeftB l 48)=decV l
 | []=>rfl
 |b :: r=>by
  unfold Lib.trimLeftB
  rw [List.dropWhile_cons]
  split
  ·rename_i hb
   obtain rfl:b=48:=by simpa using hb
   have:=decV_drop r
   unfold Lib.trimLeftB at this
   rw [this];rfl
  ·rfl
theorem drop_head (l:List UInt8):Lib.trimLeftB l 48=[]∨∃b r,Lib.trimLeftB l 48=b :: r∧b≠48:=by
 unfold Lib.trimLeftB
 induction l with
 |nil=>exact .inl rfl
 |cons b r ih=>
  rw [List.dropWhile_cons]
  split
  ·exact ih
  ·rename_i hb
   exact .inr ⟨b,r,rfl,by simpa using hb⟩
theorem drop_mem {l:List UInt8}{b:UInt8}(h:b ∈ Lib.trimLeftB l 48):b ∈ l:=(List.dropWhile_sublist _).subset h
def kThou : List UInt8:=[49,48,48,48]
theorem large_law {l:List UInt8}(hd:∀b ∈ l,isDig b=true)(hz:l=[]∨∃b r,l=b :: r∧b≠48) :
  (4 < l.length→1000 < decV l)∧(l.length < 4→¬1000 < decV l)∧(l.length=4→(1000 < decV l↔l≠kThou)∧Op.bytesLess l kThou=false):=by
 have dg:∀b ∈ l,48≤b.toNat∧b.toNat≤57:=fun b hb=>by
  have:=hd b hb
  unfold isDig at this
  simpa using this
 refine⟨fun h=>?_,fun h=>?_,fun h=>?_⟩
 ·rcases hz with rfl|⟨b,r,rfl,hb⟩
  ·simp at h
  ·have h1:=decF_ge r (b.toNat - 48)
   have h2:=dg b (List.mem_cons_self ..)
   have h3:b.toNat≠48:=fun e=>hb (UInt8.toNat_inj.1 e)
   rw [List.length_cons] at h
   have h4:10 ^ 4≤10 ^ r.length:=Nat.pow_le_pow_right (by decide) (by omega)
   have h5:1 * 10 ^ r.length≤(b.toNat - 48) * 10 ^ r.length:=Nat.mul_le_mul_right _ (by omega)
   have h6:decV (b :: r)=decF (b.toNat - 48) r:=by show decF (10 * 0+(b.toNat - 48)) r=_;rw [Nat.mul_zero,Nat.zero_add]
   rw [h6]
   omega
 ·have h1:=decF_lt l 0 hd
  have h4:10 ^ l.length≤10 ^ 3:=Nat.pow_le_pow_right (by decide) (by omega)
  have h6:decV l=decF 0 l:=rfl
  rw [h6]
  omega
 ·match l,h with
  | [a,b,c,d],_=>
   obtain⟨ha,ha2⟩:=dg a (by simp)
   obtain⟨hb,hb2⟩:=dg b (by simp)
   obtain⟨hc,hc2⟩:=dg c (by simp)
   obtain⟨hd1,hd2⟩:=dg d (by simp)
   have hne:a.toNat≠48:=by
    rcases hz with e|⟨b',r',e,h9⟩
    ·cases e
    ·cases e;exact fun e=>h9 (UInt8.toNat_inj.1 e)
   have hv:decV [a,b,c,d]=1000 * (a.toNat - 48)+100 * (b.toNat - 48)+10 * (c.toNat - 48)+(d.toNat - 48):=by
    simp only [decV,List.foldl];omega
   refine⟨?_,?_⟩
   ·rw [hv]
    constructor
    ·intro h e
     unfold kThou at e
     simp at e
     obtain⟨rfl,rfl,rfl,rfl⟩:=e
     revert h;decide
    ·intro h
     by_cases h9:1000 < 1000 * (a.toNat - 48)+100 * (b.toNat - 48)+10 * (c.toNat - 48)+(d.toNat - 48)
     ·exact h9
     ·exfalso
      apply h
      have e1:a=49:=UInt8.toNat_inj.1 (by show a.toNat=49;omega)
      have e2:b=48:=UInt8.toNat_inj.1 (by show b.toNat=48;omega)
      have e3:c=48:=UInt8.toNat_inj.1 (by show c.toNat=48;omega)
      have e4:d=48:=UInt8.toNat_inj.1 (by show d.toNat=48;omega)
      rw [e1,e2,e3,e4];rfl
   ·unfold kThou
    have n1:¬a < 49:=fun h=>by have:a.toNat < 49:=h;omega
    have n2:¬b < 48:=fun h=>by have:b.toNat < 48:=h;omega
    have n3:¬c < 48:=fun h=>by have:c.toNat < 48:=h;omega
    have n4:¬d < 48:=fun h=>by have:d.toNat < 48:=h;omega
    simp [Op.bytesLess,n1,n2,n3,n4]
theorem large_ok (s:ByteArray)(hs:s.size≤1073741824)(hd:allDig s):Ok Tryz.prog 53 [tS9 s] true (.con (.bool (decide (1000 < decV (bs s))))):=by
 have hdl:∀b ∈ bs s,isDig b=true:=fun b hb=>by
  obtain⟨i,hi,rfl⟩:=List.mem_iff_getElem.1 hb
  have:=hd i (by rw [← bs_len];exact hi)
  unfold chr at this
  rw [List.getD,List.getElem?_eq_getElem hi] at this
  exact this
 have h1:=TrimLeft1_ok s 48 (by decide)
 have hbb:Lib.trimLeftB s.data.toList 48=Lib.trimLeftB (bs s) 48:=rfl
 rw [hbb] at h1
 obtain⟨a1,a2,a3⟩:=large_law (l:=Lib.trimLeftB (bs s) 48) (fun b hb=>hdl b (drop_mem hb)) (drop_head _)
 rw [← decV_drop]
 obtain⟨U,hU⟩:∃U:ByteArray,U=⟨(Lib.trimLeftB (bs s) 48).toArray⟩:=⟨_,rfl⟩
 have hl:(Lib.trimLeftB (bs s) 48).length=U.size:=by rw [hU];exact(List.size_toArray).symm
 have ht:Lib.trimLeftB (bs s) 48=U.toList:=by rw [hU,bq_data]
 have hle:U.size≤s.size:=by rw [← hl,← bs_len];exact(List.dropWhile_sublist _).length_le
 rw [← hU] at h1
 rw [ht] at a1 a2 a3 ⊢
 have hl2:U.toList.length=U.size:=by rw [← ht];exact hl
 rw [hl2] at a1 a2 a3
 refine ok_of_ev hC0 mix Tryz.func53 rfl rfl (by kernel_rfl) (zO rfl) ?_
 have hk:(⟨#[49,48,48,48]⟩:ByteArray).toList=kThou:=by rw [bq_data];rfl
 repeat'(first|(with_reducible first|(refine zz ?_;try intro K hK)|refine zI ?_|refine zt ?_|refine zf ?_)|((first|refine hK _ ?_|refine hK _ _ rfl ?_);clear hK K)|(guard_hyp hK;first|(refine zY ?zz ?_;case zz=>first|exact rfl|exact gJ)|refine fresh_n ?_|refine freshO_n ?_|refine zW ?_|(refine zQ (h1) ?_)|intro b0 hb)|((first|with_reducible refine zm ?_|guard_hyp hK);refine zY ?_ ?_;all_goals(intro hb;(try simp only [sn,sb] at hb);try exact ex0)))
 ·exact retb rfl rfl (decide_eq_true (a1 (by omega))).symm
 ·obtain⟨e1,e2⟩:=a3 (by omega)
  refine retb rfl rfl ?_
  show(!Op.bytesLess U.toList (⟨#[49,48,48,48]⟩:ByteArray).toList && !(U.toList == (⟨#[49,48,48,48]⟩:ByteArray).toList))=_
  rw [hk,e2,Bool.eq_iff_iff]
  simp [e1]
 ·exact retb rfl rfl (decide_eq_false (a2 (by omega))).symm
end Go.Ev
