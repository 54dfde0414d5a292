import Derived.Test.YtfdgaoihjedamaaGreatDoorLaz
import Derived.Test.YtfdgaoihjedamaaGreatDoorRdf
set_option linter.all false
set_option maxHeartbeats 8000000
set_option maxRecDepth 10000
namespace Go.Ev
open Go.Proofs
theorem tw_take {α:Type}(p:α→Bool):∀(l:List α) (m:Nat),((l.take m).takeWhile p).length=min (l.takeWhile p).length m
 | [],m=>by simp
 |a :: r,0=>by simp
 |a :: r,m+1=>by
  rw [List.take_succ_cons,List.takeWhile_cons,List.takeWhile_cons]
  split
  ·rw [List.length_cons,List.length_cons,tw_take p r m];omega
  ·simp
theorem pre_run {s:ByteArray}{n i:Nat}(p:UInt8→Bool):runF p (s.extract 0 n) i=min (runF p s i) (n - i):=by
 unfold runF
 rw [ext_bs,List.drop_zero,Nat.sub_zero,List.drop_take,tw_take]
theorem pre_chr {s:ByteArray}{n i:Nat}(h:i < n):chr (s.extract 0 n) i=chr s i:=by rw [ext_chr (by omega),Nat.zero_add]
theorem lt_of_chr {s:ByteArray}{i:Nat}(h:(chr s i).toNat≠0):i < s.size:=by
 rcases Nat.lt_or_ge i s.size with h9|h9
 ·exact h9
 ·rw [chr_end h9] at h;exact absurd rfl h
theorem numOK_of {s:ByteArray}(hd:isDig (chr s 0)=true)(hb:numB s=false)(h1:1≤s.size):NumOK (s.extract 0 (numF s)):=by
 have hpos:=numF_pos hd h1
 have hle:=numF_le (s:=s)
 have hA:=numA_le (s:=s)
 have hA0:=numA_pos hd h1
 have hsz:(s.extract 0 (numF s)).size=numF s:=by rw [ext_len hle];omega
 have ha:runF isDig s 0≤numA s:=by unfold numA;split<;>omega
 have key:numA s≤numF s→(numA s < numF s∨numA s=numF s)→numA (s.extract 0 (numF s))=numA s:=by
  intro hAF _
  have r0:runF isDig (s.extract 0 (numF s)) 0=runF isDig s 0:=by rw [pre_run];omega
  by_cases c:(chr s (runF isDig s 0)).toNat=46∧0 < runF isDig s (runF isDig s 0+1)
  ·have eA:numA s=runF isDig s 0+1+runF isDig s (runF isDig s 0+1):=if_pos c
   have r1:runF isDig (s.extract 0 (numF s)) (runF isDig s 0+1)=runF isDig s (runF isDig s 0+1):=by rw [pre_run];omega
   have e:(chr (s.extract 0 (numF s)) (runF isDig (s.extract 0 (numF s)) 0)).toNat=46∧0 < runF isDig (s.extract 0 (numF s)) (runF isDig (s.extract 0 (numF s)) 0+1):=by
    rw [r0,r1,pre_chr (by omega)];exact c
   rw [show numA (s.extract 0 (numF s))=_ from if_pos e,r0,r1,eA]
  ·have eA:numA s=runF isDig s 0:=if_neg c
   have e:¬((chr (s.extract 0 (numF s)) (runF isDig (s.extract 0 (numF s)) 0)).toNat=46∧0 < runF isDig (s.extract 0 (numF s)) (runF isDig (s.extract 0 (numF s)) 0+1)):=by
    rw [r0]
    rintro⟨e1,e2⟩
    rw [pre_run] at e2
    have hlt:=lt_of_chr (s:=s.extract 0 (numF s)) (i:=runF isDig s 0) (by omega)
    rw [hsz] at hlt
    rw [pre_chr hlt] at e1
    exact c ⟨e1,by omega⟩
   rw [show numA (s.extract 0 (numF s))=_ from if_neg e,r0,eA]
 by_cases c:numE s
 ·have eF:numF s=numK s+runF isDig s (numK s):=if_pos c
  have hK:numA s+1≤numK s:=by unfold numK;split<;>omega
  have hx:=c.2
  have wA:=key (by omega) (.inl (by omega))
  have wK:numK (s.extract 0 (numF s))=numK s:=by
   unfold numK
   rw [wA,pre_chr (by omega)]
  have wx:runF isDig (s.extract 0 (numF s)) (numK s)=runF isDig s (numK s):=by rw [pre_run];omega
  have wE:numE (s.extract 0 (numF s)):=by
   unfold numE
   rw [wA,wK,wx,pre_chr (by omega)]
   exact c
  have wF:numF (s.extract 0 (numF s))=numF s:=by
   rw [show numF (s.extract 0 (numF s))=_ from if_pos wE,wK,wx,← eF]
  have wS:sub (s.extract 0 (numF s)) (numK s) (runF isDig s (numK s))=sub s (numK s) (runF isDig s (numK s)):=by
   refine bs_ext ?_
   rw [sub_bs,sub_bs,ext_bs,List.drop_zero,Nat.sub_zero,List.drop_take,List.take_take]
   congr 1;omega
  refine⟨by rw [pre_chr hpos];exact hd,by rw [wF,hsz],?_,by rw [hsz];exact hpos⟩
  unfold numB at hb ⊢
  rw [wK,wx,wS,decide_eq_true wE]
  rw [decide_eq_true c] at hb
  exact hb
 ·have eF:numF s=numA s:=if_neg c
  have wA:=key (by omega) (.inr eF.symm)
  have wE:¬numE (s.extract 0 (numF s)):=by
   rintro⟨e1,-⟩
   rw [wA,chr_end (by rw [hsz,eF];exact Nat.le_refl _)] at e1
   exact absurd e1 (by decide)
  have wF:numF (s.extract 0 (numF s))=numF s:=by
   rw [show numF (s.extract 0 (numF s))=_ from if_neg wE,wA,eF]
  refine⟨by rw [pre_chr hpos];exact hd,by rw [wF,hsz],?_,by rw [hsz];exact hpos⟩
  unfold numB
  rw [decide_eq_false wE,Bool.false_and]
theorem quoF_len (s:ByteArray)(i:Nat)(out:ByteArray)(h:out.size≤i)(hi:i≤s.size+2):(quoF s i out).2.1.size≤s.size+2:=by
 rw [quoF]
 split
 ·rename_i hlt
  split
  ·simp only;omega
  ·split
   ·exact Nat.zero_le _
   ·split
    ·split
     ·exact Nat.zero_le _
     ·rename_i h4
      have hlt2:i+1 < s.size:=lt_of_chr (by omega)
      exact quoF_len s (i+2) _ (by rw [ByteArray.size_append,sub_len (by omega)];omega) (by omega)
    ·exact quoF_len s (i+1) _ (by rw [ByteArray.size_append,sub_len (by omega)];omega) (by omega)
 ·exact Nat.zero_le _
termination_by s.size+2 - i
def TokOK (n:Nat)(t:Tok):Prop:=t.text.size≤n+2∧(t.kind=2→NumOK t.text)
theorem takeF_ok {s:ByteArray}(h1:1≤s.size)(l c:Int):TokOK s.size ⟨(takeF s).kind,(takeF s).text,l,c⟩:=by
 have he:eS.size=0:=rfl
 have hx:∀n,(s.extract 0 n).size≤s.size:=fun n=>by rw [ByteArray.size_extract];omega
 unfold TokOK takeF
 split
 ·exact⟨Nat.zero_le _,fun h=>by(exfalso;dsimp only at h;revert h;decide)⟩
 ·split
  ·exact⟨Nat.zero_le _,fun h=>by(exfalso;dsimp only at h;revert h;decide)⟩
  ·split
   ·split
    ·exact⟨Nat.zero_le _,fun h=>by(exfalso;dsimp only at h;revert h;decide)⟩
    ·exact⟨Nat.le_trans (hx _) (by omega),fun h=>by(exfalso;dsimp only at h;revert h;decide)⟩
   ·split
    ·rename_i hd
     split
     ·exact⟨Nat.zero_le _,fun h=>by(exfalso;dsimp only at h;revert h;decide)⟩
     ·rename_i hb
      refine⟨Nat.le_trans (hx _) (by omega),fun _=>numOK_of hd ?_ h1⟩
      cases hB:numB s with
      |false=>rfl
      |true=>exact absurd (.inl hB) hb
    ·split
     ·split
      ·exact⟨quoF_len s 1 _ (by decide) (by omega),fun h=>by(exfalso;dsimp only at h;revert h;decide)⟩
      ·exact⟨Nat.zero_le _,fun h=>by(exfalso;dsimp only at h;revert h;decide)⟩
     ·split
      ·exact⟨Nat.le_trans (hx _) (by omega),fun h=>by(exfalso;dsimp only at h;revert h;decide)⟩
      ·exact⟨Nat.zero_le _,fun h=>by(exfalso;dsimp only at h;revert h;decide)⟩
theorem allF_ok (s:ByteArray)(i:Nat)(hi:i≤s.size):(allF s i).1.length+i≤s.size+1∧∀t ∈ (allF s i).1,TokOK s.size t:=by
 rw [allF]
 split
 ·rename_i hlt
  have hl:=rest_len hi
  split
  ·exact⟨by simp;omega,fun t ht=>by simp at ht⟩
  ·rename_i hc
   have hp:=takeF_prog (s:=s.extract i s.size) (by omega) (Decidable.not_not.1 hc)
   have ih:=allF_ok s (i+(takeF (s.extract i s.size)).n) (by omega)
   split
   ·split
    ·refine⟨by simp only [List.length_cons];omega,fun t ht=>?_⟩
     rcases List.mem_cons.1 ht with rfl|ht
     ·have:=takeF_ok (s:=s.extract i s.size) (by omega) (placeF s i).1 (placeF s i).2
      exact⟨by have:=this.1;simp only at this ⊢;omega,this.2⟩
     ·exact ih.2 t ht
    ·exact⟨by omega,ih.2⟩
   ·exact⟨by simp;omega,fun t ht=>by simp at ht⟩
 ·refine⟨by simp only [List.length_singleton];omega,fun t ht=>?_⟩
  obtain rfl:=List.mem_singleton.1 ht
  exact⟨Nat.zero_le _,fun h=>by(exfalso;dsimp only at h;revert h;decide)⟩
termination_by s.size - i
theorem txt_fit (s:ByteArray)(hs:s.size≤90000):Fit (txt s):=by
 obtain⟨h1,h2⟩:=allF_ok s 0 (Nat.zero_le _)
 exact⟨by show(allF s 0).1.length≤_;omega,fun t ht=>by have:=(h2 t ht).1;omega⟩
theorem txt_dec (s:ByteArray)(hs:s.size≤90000):∀t ∈ (txt s).L,t.kind=2→Ok Tryz.prog 102 [tS9 t.text] true (.tup [tNum (decQ t.text).1 (decQ t.text).2,.con (.int .i64 0)]):=by
 obtain⟨h1,h2⟩:=allF_ok s 0 (Nat.zero_le _)
 exact fun t ht hk=>rDec_ok t.text ((h2 t ht).2 hk) (by have:=(h2 t ht).1;omega)
theorem rFile (s:ByteArray)(hs:s.size≤90000):Ok Tryz.prog 10 [tS9 s] false (.tup [tFil (fileS decQ s).1,tFo (fileS decQ s).2]):=
 rFile_ok s (by omega) (txt_fit s hs) (txt_dec s hs)
open PS (Trm EntD VarD PrbD FilD)
instance  : Inhabited Trm:=⟨⟨0,0,0⟩⟩
instance  : Inhabited EntD:=⟨⟨0,[],[]⟩⟩
instance  : Inhabited VarD:=⟨⟨.empty,0,[],[]⟩⟩
instance  : Inhabited PrbD:=⟨⟨.empty,[],[],[]⟩⟩
instance  : Inhabited ByteArray:=⟨.empty⟩
def LOK {α:Type}(l:List α):Prop:=l.length≤4611686018427387904
structure TrmOK (t:Trm):Prop where
 z:LOK (lm t.z.natAbs)
 d:LOK (lm t.d)
structure RwOK (L:List (List Trm)):Prop where
 len:LOK L
 el:∀l ∈ L,LOK l∧∀t ∈ l,TrmOK t
structure EntOK (e:EntD):Prop where
 given:LOK e.given
 nums:RwOK e.nums
structure VarOK (v:VarD):Prop where
 count:LOK (lm v.count)
 vals:LOK v.vals
 prps:LOK v.prps
structure PrbOK (p:PrbD):Prop where
 pars:LOK p.pars
 prps:LOK p.prps
 ents:LOK p.ents
 el:∀e ∈ p.ents,EntOK e
structure FilOK (f:FilD):Prop where
 prps:LOK f.prps
 vars:LOK f.vars
 prbs:LOK f.prbs
 vel:∀v ∈ f.vars,VarOK v
 pel:∀p ∈ f.prbs,PrbOK p
theorem getD_mem9 {α:Type}[Inhabited α]{l:List α}{i:Nat}(h:i < l.length):l.getD i default ∈ l:=by
 rw [List.getD,List.getElem?_eq_getElem h];exact List.getElem_mem h
theorem sSame1 (a:List UInt32)(ha:LOK a):Ok Tryz.prog 59 [tn a,tn a] true (.con (.bool true)):=by
 unfold LOK at ha
 refine ok_of_ev hC0 mix Tryz.func59 rfl rfl (by kernel_rfl) (zO rfl) ?_
 repeat'(first|(with_reducible first|(refine zz ?_;try intro K hK)|refine zI ?_|refine zt ?_|refine zf ?_)|((first|refine hK _ ?_|refine hK _ _ rfl ?_);clear hK K)|(guard_hyp hK;first|(refine zY ?zz ?_;case zz=>first|exact rfl|exact gJ)|refine fresh_n ?_|refine freshO_n ?_|(refine at_Q ?_;intro hu)|refine zP wA ?_|(refine mul_Q ?_;intro hm1 hm2)|refine zP at_M ?_|refine zP rfl ?_|intro b0 hb)|((first|with_reducible refine zm ?_|guard_hyp hK);refine zY ?_ ?_;all_goals(intro hb;(try simp only [sn,sb] at hb);try exact ex0)))
 refine loop_i Nat (fun i=>⟨Tryz.f59.ntmps,[(0,.ro false (tn a)),(1,.ro false (tn a)),(5,.con (.int .i64 i))],[]⟩) (fun i=>i≤a.length) (fun i=>a.length - i) [] 0 trivial (Nat.zero_le _) ⟨rfl,⟨rfl,trivial,rfl,trivial,rfl,trivial,trivial⟩,trivial,trivial⟩ ?_
 intro i h0
 by_cases hi:i < a.length
 ·repeat'(first|(with_reducible first|(refine zz ?_;try intro K hK)|refine zI ?_|refine zt ?_|refine zf ?_)|((first|refine hK _ ?_|refine hK _ _ rfl ?_);clear hK K)|(guard_hyp hK;first|(refine zY ?zz ?_;case zz=>first|exact rfl|exact gJ)|refine fresh_n ?_|refine freshO_n ?_|(refine at_Q ?_;intro hu)|refine zP wA ?_|(refine mul_Q ?_;intro hm1 hm2)|refine zP at_M ?_|refine zP rfl ?_|intro b0 hb)|((first|with_reducible refine zm ?_|guard_hyp hK);refine zY ?_ ?_;all_goals(intro hb;(try simp only [sn,sb] at hb);try exact ex0)))
  exact⟨i+1,hi,by omega,rfl,⟨rfl,trivial,rfl,trivial,rfl,trivial,trivial⟩,trivial,trivial⟩
 ·repeat'(first|(with_reducible first|(refine zz ?_;try intro K hK)|refine zI ?_|refine zt ?_|refine zf ?_)|((first|refine hK _ ?_|refine hK _ _ rfl ?_);clear hK K)|(guard_hyp hK;first|(refine zY ?zz ?_;case zz=>first|exact rfl|exact gJ)|refine fresh_n ?_|refine freshO_n ?_|(refine at_Q ?_;intro hu)|refine zP wA ?_|(refine mul_Q ?_;intro hm1 hm2)|refine zP at_M ?_|refine zP rfl ?_|intro b0 hb)|((first|with_reducible refine zm ?_|guard_hyp hK);refine zY ?_ ?_;all_goals(intro hb;(try simp only [sn,sb] at hb);try exact ex0)))
  exact And.intro trivial (fz_con rfl)
theorem sSame4 (t:Trm)(h:TrmOK t):Ok Tryz.prog 51 [tNum t.z t.d,tNum t.z t.d] true (.con (.bool true)):=by
 refine ok_of_ev hC0 mix Tryz.func51 rfl rfl (by kernel_rfl) (zO rfl) ?_
 repeat'(first|(with_reducible first|(refine zz ?_;try intro K hK)|refine zI ?_|refine zt ?_|refine zf ?_)|((first|refine hK _ ?_|refine hK _ _ rfl ?_);clear hK K)|(guard_hyp hK;first|(refine zY ?zz ?_;case zz=>first|exact rfl|exact gJ)|refine fresh_n ?_|refine freshO_n ?_|(refine at_Q ?_;intro hu)|refine zP wA ?_|(refine mul_Q ?_;intro hm1 hm2)|refine zP at_M ?_|refine zP rfl ?_|(refine zQ (sSame1 _ h.z) ?_)|(refine zQ (sSame1 _ h.d) ?_)|intro b0 hb)|((first|with_reducible refine zm ?_|guard_hyp hK);refine zY ?_ ?_;all_goals(intro hb;(try simp only [sn,sb] at hb);try exact ex0)))
 all_goals exact And.intro trivial (fz_con rfl)
theorem sTexts (a:List ByteArray)(ha:LOK a):Ok Tryz.prog 38 [tSs a,tSs a] true (.con (.bool true)):=by
 unfold LOK at ha
 refine ok_of_ev hC0 mix Tryz.func38 rfl rfl (by kernel_rfl) (zO rfl) ?_
 repeat'(first|(with_reducible first|(refine zz ?_;try intro K hK)|refine zI ?_|refine zt ?_|refine zf ?_)|((first|refine hK _ ?_|refine hK _ _ rfl ?_);clear hK K)|(guard_hyp hK;first|(refine zY ?zz ?_;case zz=>first|exact rfl|exact gJ)|refine fresh_n ?_|refine freshO_n ?_|(refine at_Q ?_;intro hu)|refine zP wA ?_|(refine mul_Q ?_;intro hm1 hm2)|refine zP at_M ?_|refine zP rfl ?_|intro b0 hb)|((first|with_reducible refine zm ?_|guard_hyp hK);refine zY ?_ ?_;all_goals(intro hb;(try simp only [sn,sb] at hb);try exact ex0)))
 refine loop_i Nat (fun i=>⟨Tryz.f38.ntmps,[(0,.ro false (tSs a)),(1,.ro false (tSs a)),(5,.con (.int .i64 i))],[]⟩) (fun i=>i≤a.length) (fun i=>a.length - i) [] 0 trivial (Nat.zero_le _) ⟨rfl,⟨rfl,trivial,rfl,trivial,rfl,trivial,trivial⟩,trivial,trivial⟩ ?_
 intro i h0
 by_cases hi:i < a.length
 ·repeat'(first|(with_reducible first|(refine zz ?_;try intro K hK)|refine zI ?_|refine zt ?_|refine zf ?_)|((first|refine hK _ ?_|refine hK _ _ rfl ?_);clear hK K)|(guard_hyp hK;first|(refine zY ?zz ?_;case zz=>first|exact rfl|exact gJ)|refine fresh_n ?_|refine freshO_n ?_|(refine at_Q ?_;intro hu)|refine zP wA ?_|(refine mul_Q ?_;intro hm1 hm2)|refine zP at_M ?_|refine zP rfl ?_|intro b0 hb)|((first|with_reducible refine zm ?_|guard_hyp hK);refine zY ?_ ?_;all_goals(intro hb;(try simp only [sn,sb] at hb);try exact ex0)))
  all_goals exact⟨i+1,hi,by omega,rfl,⟨rfl,trivial,rfl,trivial,rfl,trivial,trivial⟩,trivial,trivial⟩
 ·repeat'(first|(with_reducible first|(refine zz ?_;try intro K hK)|refine zI ?_|refine zt ?_|refine zf ?_)|((first|refine hK _ ?_|refine hK _ _ rfl ?_);clear hK K)|(guard_hyp hK;first|(refine zY ?zz ?_;case zz=>first|exact rfl|exact gJ)|refine fresh_n ?_|refine freshO_n ?_|(refine at_Q ?_;intro hu)|refine zP wA ?_|(refine mul_Q ?_;intro hm1 hm2)|refine zP at_M ?_|refine zP rfl ?_|intro b0 hb)|((first|with_reducible refine zm ?_|guard_hyp hK);refine zY ?_ ?_;all_goals(intro hb;(try simp only [sn,sb] at hb);try exact ex0)))
  exact And.intro trivial (fz_con rfl)
theorem sTerms (a:List Trm)(ha:LOK a)(hx:∀t ∈ a,TrmOK t):Ok Tryz.prog 24 [tTs a,tTs a] true (.con (.bool true)):=by
 unfold LOK at ha
 refine ok_of_ev hC0 mix Tryz.func24 rfl rfl (by kernel_rfl) (zO rfl) ?_
 repeat'(first|(with_reducible first|(refine zz ?_;try intro K hK)|refine zI ?_|refine zt ?_|refine zf ?_)|((first|refine hK _ ?_|refine hK _ _ rfl ?_);clear hK K)|(guard_hyp hK;first|(refine zY ?zz ?_;case zz=>first|exact rfl|exact gJ)|refine fresh_n ?_|refine freshO_n ?_|(refine at_Q ?_;intro hu)|refine zP wA ?_|(refine mul_Q ?_;intro hm1 hm2)|refine zP at_M ?_|refine zP rfl ?_|intro b0 hb)|((first|with_reducible refine zm ?_|guard_hyp hK);refine zY ?_ ?_;all_goals(intro hb;(try simp only [sn,sb] at hb);try exact ex0)))
 refine loop_i Nat (fun i=>⟨Tryz.f24.ntmps,[(0,.ro false (tTs a)),(1,.ro false (tTs a)),(5,.con (.int .i64 i))],[]⟩) (fun i=>i≤a.length) (fun i=>a.length - i) [] 0 trivial (Nat.zero_le _) ⟨rfl,⟨rfl,trivial,rfl,trivial,rfl,trivial,trivial⟩,trivial,trivial⟩ ?_
 intro i h0
 by_cases hi:i < a.length
 ·have h4:=sSame4 (a.getD i default) (hx _ (getD_mem9 hi))
  repeat'(first|(with_reducible first|(refine zz ?_;try intro K hK)|refine zI ?_|refine zt ?_|refine zf ?_)|((first|refine hK _ ?_|refine hK _ _ rfl ?_);clear hK K)|(guard_hyp hK;first|(refine zY ?zz ?_;case zz=>first|exact rfl|exact gJ)|refine fresh_n ?_|refine freshO_n ?_|(refine at_Q ?_;intro hu)|refine zP wA ?_|(refine mul_Q ?_;intro hm1 hm2)|refine zP at_M ?_|refine zP rfl ?_|(refine zQ (h4) ?_)|intro b0 hb)|((first|with_reducible refine zm ?_|guard_hyp hK);refine zY ?_ ?_;all_goals(intro hb;(try simp only [sn,sb] at hb);try exact ex0)))
  all_goals exact⟨i+1,hi,by omega,rfl,⟨rfl,trivial,rfl,trivial,rfl,trivial,trivial⟩,trivial,trivial⟩
 ·repeat'(first|(with_reducible first|(refine zz ?_;try intro K hK)|refine zI ?_|refine zt ?_|refine zf ?_)|((first|refine hK _ ?_|refine hK _ _ rfl ?_);clear hK K)|(guard_hyp hK;first|(refine zY ?zz ?_;case zz=>first|exact rfl|exact gJ)|refine fresh_n ?_|refine freshO_n ?_|(refine at_Q ?_;intro hu)|refine zP wA ?_|(refine mul_Q ?_;intro hm1 hm2)|refine zP at_M ?_|refine zP rfl ?_|intro b0 hb)|((first|with_reducible refine zm ?_|guard_hyp hK);refine zY ?_ ?_;all_goals(intro hb;(try simp only [sn,sb] at hb);try exact ex0)))
  exact And.intro trivial (fz_con rfl)
theorem sRow (a:List (List Trm))(h:RwOK a):Ok Tryz.prog 9 [tRw a,tRw a] true (.con (.bool true)):=by
 have ha:=h.len
 unfold LOK at ha
 refine ok_of_ev hC0 mix Tryz.func9 rfl rfl (by kernel_rfl) (zO rfl) ?_
 repeat'(first|(with_reducible first|(refine zz ?_;try intro K hK)|refine zI ?_|refine zt ?_|refine zf ?_)|((first|refine hK _ ?_|refine hK _ _ rfl ?_);clear hK K)|(guard_hyp hK;first|(refine zY ?zz ?_;case zz=>first|exact rfl|exact gJ)|refine fresh_n ?_|refine freshO_n ?_|(refine at_Q ?_;intro hu)|refine zP wA ?_|(refine mul_Q ?_;intro hm1 hm2)|refine zP at_M ?_|refine zP rfl ?_|intro b0 hb)|((first|with_reducible refine zm ?_|guard_hyp hK);refine zY ?_ ?_;all_goals(intro hb;(try simp only [sn,sb] at hb);try exact ex0)))
 refine loop_i Nat (fun i=>⟨Tryz.f9.ntmps,[(0,.ro false (tRw a)),(1,.ro false (tRw a)),(5,.con (.int .i64 i))],[]⟩) (fun i=>i≤a.length) (fun i=>a.length - i) [] 0 trivial (Nat.zero_le _) ⟨rfl,⟨rfl,trivial,rfl,trivial,rfl,trivial,trivial⟩,trivial,trivial⟩ ?_
 intro i h0
 by_cases hi:i < a.length
 ·obtain⟨e1,e2⟩:=h.el _ (getD_mem9 hi)
  have h4:=sTerms (a.getD i default) e1 e2
  repeat'(first|(with_reducible first|(refine zz ?_;try intro K hK)|refine zI ?_|refine zt ?_|refine zf ?_)|((first|refine hK _ ?_|refine hK _ _ rfl ?_);clear hK K)|(guard_hyp hK;first|(refine zY ?zz ?_;case zz=>first|exact rfl|exact gJ)|refine fresh_n ?_|refine freshO_n ?_|(refine at_Q ?_;intro hu)|refine zP wA ?_|(refine mul_Q ?_;intro hm1 hm2)|refine zP at_M ?_|refine zP rfl ?_|(refine zQ (h4) ?_)|intro b0 hb)|((first|with_reducible refine zm ?_|guard_hyp hK);refine zY ?_ ?_;all_goals(intro hb;(try simp only [sn,sb] at hb);try exact ex0)))
  all_goals exact⟨i+1,hi,by omega,rfl,⟨rfl,trivial,rfl,trivial,rfl,trivial,trivial⟩,trivial,trivial⟩
 ·repeat'(first|(with_reducible first|(refine zz ?_;try intro K hK)|refine zI ?_|refine zt ?_|refine zf ?_)|((first|refine hK _ ?_|refine hK _ _ rfl ?_);clear hK K)|(guard_hyp hK;first|(refine zY ?zz ?_;case zz=>first|exact rfl|exact gJ)|refine fresh_n ?_|refine freshO_n ?_|(refine at_Q ?_;intro hu)|refine zP wA ?_|(refine mul_Q ?_;intro hm1 hm2)|refine zP at_M ?_|refine zP rfl ?_|intro b0 hb)|((first|with_reducible refine zm ?_|guard_hyp hK);refine zY ?_ ?_;all_goals(intro hb;(try simp only [sn,sb] at hb);try exact ex0)))
  exact And.intro trivial (fz_con rfl)
theorem sVar (v:VarD)(h:VarOK v):Ok Tryz.prog 39 [tVar v,tVar v] true (.con (.bool true)):=by
 refine ok_of_ev hC0 mix Tryz.func39 rfl rfl (by kernel_rfl) (zO rfl) ?_
 repeat'(first|(with_reducible first|(refine zz ?_;try intro K hK)|refine zI ?_|refine zt ?_|refine zf ?_)|((first|refine hK _ ?_|refine hK _ _ rfl ?_);clear hK K)|(guard_hyp hK;first|(refine zY ?zz ?_;case zz=>first|exact rfl|exact gJ)|refine fresh_n ?_|refine freshO_n ?_|(refine at_Q ?_;intro hu)|refine zP wA ?_|(refine mul_Q ?_;intro hm1 hm2)|refine zP at_M ?_|refine zP rfl ?_|(refine zQ (sSame1 _ h.count) ?_)|(refine zQ (sTexts _ h.vals) ?_)|(refine zQ (sTexts _ h.prps) ?_)|intro b0 hb)|((first|with_reducible refine zm ?_|guard_hyp hK);refine zY ?_ ?_;all_goals(intro hb;(try simp only [sn,sb] at hb);try exact ex0)))
 all_goals exact And.intro trivial (fz_con rfl)
def bxPr (p:PrbD):Obj:=⟨4,[.agg [.con (.string p.name),.ro false (tSs p.pars),.ro false (tEs p.ents),.ro false (tSs p.prps)]],0,true⟩
theorem bxPr_cl (p:PrbD)(oh:OH):∀v ∈ (bxPr p).el,v.cl oh:=by
 intro v hv
 obtain rfl:=List.mem_singleton.1 hv
 intro v hv
 simp at hv
 rcases hv with rfl|rfl|rfl|rfl<;>trivial
theorem sPrb (p:PrbD)(h:PrbOK p):Ok Tryz.prog 40 [tPrb p,tPrb p] true (.con (.bool true)):=by
 have ha:=h.ents
 unfold LOK at ha
 refine ok_of_ev hC0 mix Tryz.func40 rfl rfl (by kernel_rfl) (zO rfl) ?_
 repeat'(first|(with_reducible first|(refine zz ?_;try intro K hK)|refine zI ?_|refine zt ?_|refine zf ?_)|((first|refine hK _ ?_|refine hK _ _ rfl ?_);clear hK K)|(guard_hyp hK;first|(refine zY ?zz ?_;case zz=>first|exact rfl|exact gJ)|refine fresh_n ?_|refine freshO_n ?_|(refine at_Q ?_;intro hu)|refine zP wA ?_|(refine mul_Q ?_;intro hm1 hm2)|refine zP at_M ?_|refine zP rfl ?_|(refine zQ (sTexts _ h.pars) ?_)|(refine zQ (sTexts _ h.prps) ?_)|intro b0 hb)|((first|with_reducible refine zm ?_|guard_hyp hK);refine zY ?_ ?_;all_goals(intro hb;(try simp only [sn,sb] at hb);try exact ex0)))
 all_goals refine loop_i Nat (fun i=>⟨Tryz.f40.ntmps,[(2,.ref 0 0 0 0),(3,.ref 1 0 0 0),(6,.con (.int .i64 i))],[(0,bxPr p),(1,bxPr p)]⟩) (fun i=>i≤p.ents.length) (fun i=>p.ents.length - i) [] 0 trivial (Nat.zero_le _) ⟨rfl,⟨rfl,rfl,rfl,rfl,rfl,trivial,trivial⟩,⟨rfl,rfl,trivial⟩,⟨bxPr_cl p _,bxPr_cl p _,trivial⟩⟩ ?_
 intro i h0
 by_cases hi:i < p.ents.length
 ·have he:=h.el _ (getD_mem9 hi)
  have h4:=sTexts _ he.given
  have h5:=sRow _ he.nums
  repeat'(first|(with_reducible first|(refine zz ?_;try intro K hK)|refine zI ?_|refine zt ?_|refine zf ?_)|((first|refine hK _ ?_|refine hK _ _ rfl ?_);clear hK K)|(guard_hyp hK;first|(refine zY ?zz ?_;case zz=>first|exact rfl|exact gJ)|refine fresh_n ?_|refine freshO_n ?_|(refine at_Q ?_;intro hu)|refine zP wA ?_|(refine mul_Q ?_;intro hm1 hm2)|refine zP at_M ?_|refine zP rfl ?_|(refine zQ (h4) ?_)|(refine zQ (h5) ?_)|intro b0 hb)|((first|with_reducible refine zm ?_|guard_hyp hK);refine zY ?_ ?_;all_goals(intro hb;(try simp only [sn,sb] at hb);try exact ex0)))
  all_goals exact⟨i+1,hi,by omega,rfl,⟨rfl,rfl,rfl,rfl,rfl,trivial,trivial⟩,⟨rfl,rfl,trivial⟩,⟨bxPr_cl p _,bxPr_cl p _,trivial⟩⟩
 ·repeat'(first|(with_reducible first|(refine zz ?_;try intro K hK)|refine zI ?_|refine zt ?_|refine zf ?_)|((first|refine hK _ ?_|refine hK _ _ rfl ?_);clear hK K)|(guard_hyp hK;first|(refine zY ?zz ?_;case zz=>first|exact rfl|exact gJ)|refine fresh_n ?_|refine freshO_n ?_|(refine at_Q ?_;intro hu)|refine zP wA ?_|(refine mul_Q ?_;intro hm1 hm2)|refine zP at_M ?_|refine zP rfl ?_|intro b0 hb)|((first|with_reducible refine zm ?_|guard_hyp hK);refine zY ?_ ?_;all_goals(intro hb;(try simp only [sn,sb] at hb);try exact ex0)))
  all_goals exact And.intro trivial (fz_con rfl)
def bxFi (f:FilD):Obj:=⟨4,[.agg [.con (.string f.name),.ro false (tSs f.prps),.ro false (.sl (f.vars.map tVar)),.ro false (.sl (f.prbs.map tPrb))]],0,true⟩
theorem bxFi_cl (p:FilD)(oh:OH):∀v ∈ (bxFi p).el,v.cl oh:=by
 intro v hv
 obtain rfl:=List.mem_singleton.1 hv
 intro v hv
 simp at hv
 rcases hv with rfl|rfl|rfl|rfl<;>trivial
theorem sFile (f:FilD)(h:FilOK f):Ok Tryz.prog 12 [tFil f,tFil f] true (.con (.bool true)):=by
 have ha:=h.vars
 have hb9:=h.prbs
 unfold LOK at ha hb9
 refine ok_of_ev hC0 mix Tryz.func12 rfl rfl (by kernel_rfl) (zO rfl) ?_
 repeat'(first|(with_reducible first|(refine zz ?_;try intro K hK)|refine zI ?_|refine zt ?_|refine zf ?_)|((first|refine hK _ ?_|refine hK _ _ rfl ?_);clear hK K)|(guard_hyp hK;first|(refine zY ?zz ?_;case zz=>first|exact rfl|exact gJ)|refine fresh_n ?_|refine freshO_n ?_|(refine at_Q ?_;intro hu)|refine zP wA ?_|(refine mul_Q ?_;intro hm1 hm2)|refine zP at_M ?_|refine zP rfl ?_|(refine zQ (sTexts _ h.prps) ?_)|intro b0 hb)|((first|with_reducible refine zm ?_|guard_hyp hK);refine zY ?_ ?_;all_goals(intro hb;(try simp only [sn,sb] at hb);try exact ex0)))
 all_goals refine loop_i Nat (fun i=>⟨Tryz.f12.ntmps,[(2,.ref 0 0 0 0),(3,.ref 1 0 0 0),(6,.con (.int .i64 i))],[(0,bxFi f),(1,bxFi f)]⟩) (fun i=>i≤f.vars.length) (fun i=>f.vars.length - i) [] 0 trivial (Nat.zero_le _) ⟨rfl,⟨rfl,rfl,rfl,rfl,rfl,trivial,trivial⟩,⟨rfl,rfl,trivial⟩,⟨bxFi_cl f _,bxFi_cl f _,trivial⟩⟩ ?_
 intro i h0
 by_cases hi:i < f.vars.length
 ·have h4:=sVar _ (h.vel _ (getD_mem9 hi))
  repeat'(first|(with_reducible first|(refine zz ?_;try intro K hK)|refine zI ?_|refine zt ?_|refine zf ?_)|((first|refine hK _ ?_|refine hK _ _ rfl ?_);clear hK K)|(guard_hyp hK;first|(refine zY ?zz ?_;case zz=>first|exact rfl|exact gJ)|refine fresh_n ?_|refine freshO_n ?_|(refine at_Q ?_;intro hu)|refine zP wA ?_|(refine mul_Q ?_;intro hm1 hm2)|refine zP at_M ?_|refine zP rfl ?_|(refine zQ (h4) ?_)|intro b0 hb)|((first|with_reducible refine zm ?_|guard_hyp hK);refine zY ?_ ?_;all_goals(intro hb;(try simp only [sn,sb] at hb);try exact ex0)))
  all_goals exact⟨i+1,hi,by omega,rfl,⟨rfl,rfl,rfl,rfl,rfl,trivial,trivial⟩,⟨rfl,rfl,trivial⟩,⟨bxFi_cl f _,bxFi_cl f _,trivial⟩⟩
 ·repeat'(first|(with_reducible first|(refine zz ?_;try intro K hK)|refine zI ?_|refine zt ?_|refine zf ?_)|((first|refine hK _ ?_|refine hK _ _ rfl ?_);clear hK K)|(guard_hyp hK;first|(refine zY ?zz ?_;case zz=>first|exact rfl|exact gJ)|refine fresh_n ?_|refine freshO_n ?_|(refine at_Q ?_;intro hu)|refine zP wA ?_|(refine mul_Q ?_;intro hm1 hm2)|refine zP at_M ?_|refine zP rfl ?_|intro b0 hb)|((first|with_reducible refine zm ?_|guard_hyp hK);refine zY ?_ ?_;all_goals(intro hb;(try simp only [sn,sb] at hb);try exact ex0)))
  all_goals refine loop_i Nat (fun i=>⟨Tryz.f12.ntmps,[(2,.ref 0 0 0 0),(3,.ref 1 0 0 0),(8,.con (.int .i64 i))],[(0,bxFi f),(1,bxFi f)]⟩) (fun i=>i≤f.prbs.length) (fun i=>f.prbs.length - i) [] 0 trivial (Nat.zero_le _) ⟨rfl,⟨rfl,rfl,rfl,rfl,rfl,trivial,trivial⟩,⟨rfl,rfl,trivial⟩,⟨bxFi_cl f _,bxFi_cl f _,trivial⟩⟩ ?_
  intro k k0
  by_cases hk:k < f.prbs.length
  ·have h5:=sPrb _ (h.pel _ (getD_mem9 hk))
   repeat'(first|(with_reducible first|(refine zz ?_;try intro K hK)|refine zI ?_|refine zt ?_|refine zf ?_)|((first|refine hK _ ?_|refine hK _ _ rfl ?_);clear hK K)|(guard_hyp hK;first|(refine zY ?zz ?_;case zz=>first|exact rfl|exact gJ)|refine fresh_n ?_|refine freshO_n ?_|(refine at_Q ?_;intro hu)|refine zP wA ?_|(refine mul_Q ?_;intro hm1 hm2)|refine zP at_M ?_|refine zP rfl ?_|(refine zQ (h5) ?_)|intro b0 hb)|((first|with_reducible refine zm ?_|guard_hyp hK);refine zY ?_ ?_;all_goals(intro hb;(try simp only [sn,sb] at hb);try exact ex0)))
   all_goals exact⟨k+1,hk,by omega,rfl,⟨rfl,rfl,rfl,rfl,rfl,trivial,trivial⟩,⟨rfl,rfl,trivial⟩,⟨bxFi_cl f _,bxFi_cl f _,trivial⟩⟩
  ·repeat'(first|(with_reducible first|(refine zz ?_;try intro K hK)|refine zI ?_|refine zt ?_|refine zf ?_)|((first|refine hK _ ?_|refine hK _ _ rfl ?_);clear hK K)|(guard_hyp hK;first|(refine zY ?zz ?_;case zz=>first|exact rfl|exact gJ)|refine fresh_n ?_|refine freshO_n ?_|(refine at_Q ?_;intro hu)|refine zP wA ?_|(refine mul_Q ?_;intro hm1 hm2)|refine zP at_M ?_|refine zP rfl ?_|intro b0 hb)|((first|with_reducible refine zm ?_|guard_hyp hK);refine zY ?_ ?_;all_goals(intro hb;(try simp only [sn,sb] at hb);try exact ex0)))
   all_goals exact And.intro trivial (fz_con rfl)
end Go.Ev
