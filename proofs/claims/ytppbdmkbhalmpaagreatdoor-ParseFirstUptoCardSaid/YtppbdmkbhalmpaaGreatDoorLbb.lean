import Derived.Test.YtppbdmkbhalmpaaGreatDoorLar
import Derived.Test.YtppbdmkbhalmpaaGreatDoorRdf
import Derived.Test.YtppbdmkbhalmpaaGreatDoorLan
import Derived.Test.YtppbdmkbhalmpaaGreatDoorLaw
import Derived.Test.YtppbdmkbhalmpaaGreatDoorLba
import Derived.Test.YtppbdmkbhalmpaaGreatDoorLat
set_option linter.all false
set_option maxHeartbeats 60000000
set_option maxRecDepth 10000
namespace Go.Ev
open Go.Proofs
theorem tw_take {α:Type}(p:α→Bool):∀(l:List α) (m:Nat),((l.take m).takeWhile p).length=min (l.takeWhile p).length m
 | [],m=>by simp
 |a :: r,0=>by simp
 |a :: r,m+1=>by
  rw [List.take_succ_cons,List.takeWhile_cons,List.takeWhile_cons]
  split
  ·rw [List.length_cons,List.length_cons,tw_take p r m];omega
  ·simp
theorem pre_run {s:ByteArray}{n i:Nat}(p:UInt8→Bool):runF p (s.extract 0 n) i=min (runF p s i) (n - i):=by
 unfold runF
 rw [ext_bs,List.drop_zero,Nat.sub_zero,List.drop_take,tw_take]
theorem pre_chr {s:ByteArray}{n i:Nat}(h:i < n):chr (s.extract 0 n) i=chr s i:=by rw [ext_chr (by omega),Nat.zero_add]
theorem lt_of_chr {s:ByteArray}{i:Nat}(h:(chr s i).toNat≠0):i < s.size:=by
 rcases Nat.lt_or_ge i s.size with h9|h9
 ·exact h9
 ·rw [chr_end h9] at h;exact absurd rfl h
theorem numOK_of {s:ByteArray}(hd:isDig (chr s 0)=true)(hb:numB s=false)(h1:1≤s.size):NumOK (s.extract 0 (numF s)):=by
 have hpos:=numF_pos hd h1
 have hle:=numF_le (s:=s)
 have hA:=numA_le (s:=s)
 have hA0:=numA_pos hd h1
 have hsz:(s.extract 0 (numF s)).size=numF s:=by rw [ext_len hle];omega
 have ha:runF isDig s 0≤numA s:=by unfold numA;split<;>omega
 have key:numA s≤numF s→(numA s < numF s∨numA s=numF s)→numA (s.extract 0 (numF s))=numA s:=by
  intro hAF _
  have r0:runF isDig (s.extract 0 (numF s)) 0=runF isDig s 0:=by rw [pre_run];omega
  by_cases c:(chr s (runF isDig s 0)).toNat=46∧0 < runF isDig s (runF isDig s 0+1)
  ·have eA:numA s=runF isDig s 0+1+runF isDig s (runF isDig s 0+1):=if_pos c
   have r1:runF isDig (s.extract 0 (numF s)) (runF isDig s 0+1)=runF isDig s (runF isDig s 0+1):=by rw [pre_run];omega
   have e:(chr (s.extract 0 (numF s)) (runF isDig (s.extract 0 (numF s)) 0)).toNat=46∧0 < runF isDig (s.extract 0 (numF s)) (runF isDig (s.extract 0 (numF s)) 0+1):=by
    rw [r0,r1,pre_chr (by omega)];exact c
   rw [show numA (s.extract 0 (numF s))=_ from if_pos e,r0,r1,eA]
  ·have eA:numA s=runF isDig s 0:=if_neg c
   have e:¬((chr (s.extract 0 (numF s)) (runF isDig (s.extract 0 (numF s)) 0)).toNat=46∧0 < runF isDig (s.extract 0 (numF s)) (runF isDig (s.extract 0 (numF s)) 0+1)):=by
    rw [r0]
    rintro⟨e1,e2⟩
    rw [pre_run] at e2
    have hlt:=lt_of_chr (s:=s.extract 0 (numF s)) (i:=runF isDig s 0) (by omega)
    rw [hsz] at hlt
    rw [pre_chr hlt] at e1
    exact c ⟨e1,by omega⟩
   rw [show numA (s.extract 0 (numF s))=_ from if_neg e,r0,eA]
 by_cases c:numE s
 ·have eF:numF s=numK s+runF isDig s (numK s):=if_pos c
  have hK:numA s+1≤numK s:=by unfold numK;split<;>omega
  have hx:=c.2
  have wA:=key (by omega) (.inl (by omega))
  have wK:numK (s.extract 0 (numF s))=numK s:=by
   unfold numK
   rw [wA,pre_chr (by omega)]
  have wx:runF isDig (s.extract 0 (numF s)) (numK s)=runF isDig s (numK s):=by rw [pre_run];omega
  have wE:numE (s.extract 0 (numF s)):=by
   unfold numE
   rw [wA,wK,wx,pre_chr (by omega)]
   exact c
  have wF:numF (s.extract 0 (numF s))=numF s:=by
   rw [show numF (s.extract 0 (numF s))=_ from if_pos wE,wK,wx,← eF]
  have wS:sub (s.extract 0 (numF s)) (numK s) (runF isDig s (numK s))=sub s (numK s) (runF isDig s (numK s)):=by
   refine bs_ext ?_
   rw [sub_bs,sub_bs,ext_bs,List.drop_zero,Nat.sub_zero,List.drop_take,List.take_take]
   congr 1;omega
  refine⟨by rw [pre_chr hpos];exact hd,by rw [wF,hsz],?_,by rw [hsz];exact hpos⟩
  unfold numB at hb ⊢
  rw [wK,wx,wS,decide_eq_true wE]
  rw [decide_eq_true c] at hb
  exact hb
 ·have eF:numF s=numA s:=if_neg c
  have wA:=key (by omega) (.inr eF.symm)
  have wE:¬numE (s.extract 0 (numF s)):=by
   rintro⟨e1,-⟩
   rw [wA,chr_end (by rw [hsz,eF];exact Nat.le_refl _)] at e1
   exact absurd e1 (by decide)
  have wF:numF (s.extract 0 (numF s))=numF s:=by
   rw [show numF (s.extract 0 (numF s))=_ from if_neg wE,wA,eF]
  refine⟨by rw [pre_chr hpos];exact hd,by rw [wF,hsz],?_,by rw [hsz];exact hpos⟩
  unfold numB
  rw [decide_eq_false wE,Bool.false_and]
theorem quoF_len (s:ByteArray)(i:Nat)(out:ByteArray)(h:out.size≤i)(hi:i≤s.size+2):(quoF s i out).2.1.size≤s.size+2:=by
 rw [quoF]
 split
 ·rename_i hlt
  split
  ·simp only;omega
  ·split
   ·exact Nat.zero_le _
   ·split
    ·split
     ·exact Nat.zero_le _
     ·rename_i h4
      have hlt2:i+1 < s.size:=lt_of_chr (by omega)
      exact quoF_len s (i+2) _ (by rw [ByteArray.size_append,sub_len (by omega)];omega) (by omega)
    ·exact quoF_len s (i+1) _ (by rw [ByteArray.size_append,sub_len (by omega)];omega) (by omega)
 ·exact Nat.zero_le _
termination_by s.size+2 - i
def TokOK (n:Nat)(t:Tok):Prop:=t.text.size≤n+2∧(t.kind=2→NumOK t.text)
theorem takeF_ok {s:ByteArray}(h1:1≤s.size)(l c:Int):TokOK s.size ⟨(takeF s).kind,(takeF s).text,l,c⟩:=by
 have he:eS.size=0:=rfl
 have hx:∀n,(s.extract 0 n).size≤s.size:=fun n=>by rw [ByteArray.size_extract];omega
 unfold TokOK takeF
 split
 ·exact⟨Nat.zero_le _,fun h=>by(exfalso;dsimp only at h;revert h;decide)⟩
 ·split
  ·exact⟨Nat.zero_le _,fun h=>by(exfalso;dsimp only at h;revert h;decide)⟩
  ·split
   ·split
    ·exact⟨Nat.zero_le _,fun h=>by(exfalso;dsimp only at h;revert h;decide)⟩
    ·exact⟨Nat.le_trans (hx _) (by omega),fun h=>by(exfalso;dsimp only at h;revert h;decide)⟩
   ·split
    ·rename_i hd
     split
     ·exact⟨Nat.zero_le _,fun h=>by(exfalso;dsimp only at h;revert h;decide)⟩
     ·rename_i hb
      refine⟨Nat.le_trans (hx _) (by omega),fun _=>numOK_of hd ?_ h1⟩
      cases hB:numB s with
      |false=>rfl
      |true=>exact absurd (.inl hB) hb
    ·split
     ·split
      ·exact⟨quoF_len s 1 _ (by decide) (by omega),fun h=>by(exfalso;dsimp only at h;revert h;decide)⟩
      ·exact⟨Nat.zero_le _,fun h=>by(exfalso;dsimp only at h;revert h;decide)⟩
     ·split
      ·exact⟨Nat.le_trans (hx _) (by omega),fun h=>by(exfalso;dsimp only at h;revert h;decide)⟩
      ·exact⟨Nat.zero_le _,fun h=>by(exfalso;dsimp only at h;revert h;decide)⟩
theorem allF_ok (s:ByteArray)(i:Nat)(hi:i≤s.size):(allF s i).1.length+i≤s.size+1∧∀t ∈ (allF s i).1,TokOK s.size t:=by
 rw [allF]
 split
 ·rename_i hlt
  have hl:=rest_len hi
  split
  ·exact⟨by simp;omega,fun t ht=>by simp at ht⟩
  ·rename_i hc
   have hp:=takeF_prog (s:=s.extract i s.size) (by omega) (Decidable.not_not.1 hc)
   have ih:=allF_ok s (i+(takeF (s.extract i s.size)).n) (by omega)
   split
   ·split
    ·refine⟨by simp only [List.length_cons];omega,fun t ht=>?_⟩
     rcases List.mem_cons.1 ht with rfl|ht
     ·have:=takeF_ok (s:=s.extract i s.size) (by omega) (placeF s i).1 (placeF s i).2
      exact⟨by have:=this.1;simp only at this ⊢;omega,this.2⟩
     ·exact ih.2 t ht
    ·exact⟨by omega,ih.2⟩
   ·exact⟨by simp;omega,fun t ht=>by simp at ht⟩
 ·refine⟨by simp only [List.length_singleton];omega,fun t ht=>?_⟩
  obtain rfl:=List.mem_singleton.1 ht
  exact⟨Nat.zero_le _,fun h=>by(exfalso;dsimp only at h;revert h;decide)⟩
termination_by s.size - i
theorem txt_fit (s:ByteArray)(hs:s.size≤1900000):Fit (txt s):=by
 obtain⟨h1,h2⟩:=allF_ok s 0 (Nat.zero_le _)
 exact⟨by show(allF s 0).1.length≤_;omega,fun t ht=>by have:=(h2 t ht).1;omega⟩
open PS (Trm EntD VarD PrbD FilD)
instance  : Inhabited Trm:=⟨⟨0,0,0⟩⟩
instance  : Inhabited EntD:=⟨⟨0,[],[]⟩⟩
instance  : Inhabited VarD:=⟨⟨.empty,0,[],[]⟩⟩
instance  : Inhabited PrbD:=⟨⟨.empty,[],[],[]⟩⟩
instance  : Inhabited ByteArray:=⟨.empty⟩
def LOK {α:Type}(l:List α):Prop:=l.length≤4611686018427387904
structure TrmOK (t:Trm):Prop where
 z:LOK (lm t.z.natAbs)
 d:LOK (lm t.d)
theorem getD_mem9 {α:Type}[Inhabited α]{l:List α}{i:Nat}(h:i < l.length):l.getD i default ∈ l:=by
 rw [List.getD,List.getElem?_eq_getElem h];exact List.getElem_mem h
theorem sSame1 (a:List UInt32)(ha:LOK a):Ok Tryz.prog 38 [tn a,tn a] true (.con (.bool true)):=by
 unfold LOK at ha
 refine ok_of_ev hC0 mix Tryz.func38 rfl rfl (by kernel_rfl) (zO rfl) ?_
 repeat'(first|(with_reducible first|(refine zz ?_;try intro K hK)|refine zI ?_|refine zt ?_|refine zf ?_)|((first|refine hK _ ?_|refine hK _ _ rfl ?_);clear hK K)|(guard_hyp hK;first|(refine zY ?zz ?_;case zz=>first|exact rfl|exact gJ)|refine fresh_n ?_|refine freshO_n ?_|(refine at_Q ?_;intro hu)|refine zP wA ?_|(refine mul_Q ?_;intro hm1 hm2)|refine zP at_M ?_|refine zP rfl ?_|intro b0 hb)|((first|with_reducible refine zm ?_|guard_hyp hK);refine zY ?_ ?_;all_goals(intro hb;(try simp only [sn,sb] at hb);try exact ex0)))
 refine loop_i Nat (fun i=>⟨Tryz.f38.ntmps,[(0,.ro false (tn a)),(1,.ro false (tn a)),(5,.con (.int .i64 i))],[]⟩) (fun i=>i≤a.length) (fun i=>a.length - i) [] 0 trivial (Nat.zero_le _) ⟨rfl,⟨rfl,trivial,rfl,trivial,rfl,trivial,trivial⟩,trivial,trivial⟩ ?_
 intro i h0
 by_cases hi:i < a.length
 ·repeat'(first|(with_reducible first|(refine zz ?_;try intro K hK)|refine zI ?_|refine zt ?_|refine zf ?_)|((first|refine hK _ ?_|refine hK _ _ rfl ?_);clear hK K)|(guard_hyp hK;first|(refine zY ?zz ?_;case zz=>first|exact rfl|exact gJ)|refine fresh_n ?_|refine freshO_n ?_|(refine at_Q ?_;intro hu)|refine zP wA ?_|(refine mul_Q ?_;intro hm1 hm2)|refine zP at_M ?_|refine zP rfl ?_|intro b0 hb)|((first|with_reducible refine zm ?_|guard_hyp hK);refine zY ?_ ?_;all_goals(intro hb;(try simp only [sn,sb] at hb);try exact ex0)))
  exact⟨i+1,hi,by omega,rfl,⟨rfl,trivial,rfl,trivial,rfl,trivial,trivial⟩,trivial,trivial⟩
 ·repeat'(first|(with_reducible first|(refine zz ?_;try intro K hK)|refine zI ?_|refine zt ?_|refine zf ?_)|((first|refine hK _ ?_|refine hK _ _ rfl ?_);clear hK K)|(guard_hyp hK;first|(refine zY ?zz ?_;case zz=>first|exact rfl|exact gJ)|refine fresh_n ?_|refine freshO_n ?_|(refine at_Q ?_;intro hu)|refine zP wA ?_|(refine mul_Q ?_;intro hm1 hm2)|refine zP at_M ?_|refine zP rfl ?_|intro b0 hb)|((first|with_reducible refine zm ?_|guard_hyp hK);refine zY ?_ ?_;all_goals(intro hb;(try simp only [sn,sb] at hb);try exact ex0)))
  exact And.intro trivial (fz_con rfl)
theorem sSame4 (t:Trm)(h:TrmOK t):Ok Tryz.prog 24 [tNum t.z t.d,tNum t.z t.d] true (.con (.bool true)):=by
 refine ok_of_ev hC0 mix Tryz.func24 rfl rfl (by kernel_rfl) (zO rfl) ?_
 repeat'(first|(with_reducible first|(refine zz ?_;try intro K hK)|refine zI ?_|refine zt ?_|refine zf ?_)|((first|refine hK _ ?_|refine hK _ _ rfl ?_);clear hK K)|(guard_hyp hK;first|(refine zY ?zz ?_;case zz=>first|exact rfl|exact gJ)|refine fresh_n ?_|refine freshO_n ?_|(refine at_Q ?_;intro hu)|refine zP wA ?_|(refine mul_Q ?_;intro hm1 hm2)|refine zP at_M ?_|refine zP rfl ?_|(refine zQ (sSame1 _ h.z) ?_)|(refine zQ (sSame1 _ h.d) ?_)|intro b0 hb)|((first|with_reducible refine zm ?_|guard_hyp hK);refine zY ?_ ?_;all_goals(intro hb;(try simp only [sn,sb] at hb);try exact ex0)))
 all_goals exact And.intro trivial (fz_con rfl)
theorem sTerms (a:List Trm)(ha:LOK a)(hx:∀t ∈ a,TrmOK t):Ok Tryz.prog 11 [tTs a,tTs a] true (.con (.bool true)):=by
 unfold LOK at ha
 refine ok_of_ev hC0 mix Tryz.func11 rfl rfl (by kernel_rfl) (zO rfl) ?_
 repeat'(first|(with_reducible first|(refine zz ?_;try intro K hK)|refine zI ?_|refine zt ?_|refine zf ?_)|((first|refine hK _ ?_|refine hK _ _ rfl ?_);clear hK K)|(guard_hyp hK;first|(refine zY ?zz ?_;case zz=>first|exact rfl|exact gJ)|refine fresh_n ?_|refine freshO_n ?_|(refine at_Q ?_;intro hu)|refine zP wA ?_|(refine mul_Q ?_;intro hm1 hm2)|refine zP at_M ?_|refine zP rfl ?_|intro b0 hb)|((first|with_reducible refine zm ?_|guard_hyp hK);refine zY ?_ ?_;all_goals(intro hb;(try simp only [sn,sb] at hb);try exact ex0)))
 refine loop_i Nat (fun i=>⟨Tryz.f11.ntmps,[(0,.ro false (tTs a)),(1,.ro false (tTs a)),(5,.con (.int .i64 i))],[]⟩) (fun i=>i≤a.length) (fun i=>a.length - i) [] 0 trivial (Nat.zero_le _) ⟨rfl,⟨rfl,trivial,rfl,trivial,rfl,trivial,trivial⟩,trivial,trivial⟩ ?_
 intro i h0
 by_cases hi:i < a.length
 ·have h4:=sSame4 (a.getD i default) (hx _ (getD_mem9 hi))
  repeat'(first|(with_reducible first|(refine zz ?_;try intro K hK)|refine zI ?_|refine zt ?_|refine zf ?_)|((first|refine hK _ ?_|refine hK _ _ rfl ?_);clear hK K)|(guard_hyp hK;first|(refine zY ?zz ?_;case zz=>first|exact rfl|exact gJ)|refine fresh_n ?_|refine freshO_n ?_|(refine at_Q ?_;intro hu)|refine zP wA ?_|(refine mul_Q ?_;intro hm1 hm2)|refine zP at_M ?_|refine zP rfl ?_|(refine zQ (h4) ?_)|intro b0 hb)|((first|with_reducible refine zm ?_|guard_hyp hK);refine zY ?_ ?_;all_goals(intro hb;(try simp only [sn,sb] at hb);try exact ex0)))
  all_goals exact⟨i+1,hi,by omega,rfl,⟨rfl,trivial,rfl,trivial,rfl,trivial,trivial⟩,trivial,trivial⟩
 ·repeat'(first|(with_reducible first|(refine zz ?_;try intro K hK)|refine zI ?_|refine zt ?_|refine zf ?_)|((first|refine hK _ ?_|refine hK _ _ rfl ?_);clear hK K)|(guard_hyp hK;first|(refine zY ?zz ?_;case zz=>first|exact rfl|exact gJ)|refine fresh_n ?_|refine freshO_n ?_|(refine at_Q ?_;intro hu)|refine zP wA ?_|(refine mul_Q ?_;intro hm1 hm2)|refine zP at_M ?_|refine zP rfl ?_|intro b0 hb)|((first|with_reducible refine zm ?_|guard_hyp hK);refine zY ?_ ?_;all_goals(intro hb;(try simp only [sn,sb] at hb);try exact ex0)))
  exact And.intro trivial (fz_con rfl)
variable {W : Txt}
def TsOK (l:List Trm):Prop:=∀t ∈ l,TrmOK t
theorem TsOK.nil : TsOK []:=fun t h=>by simp at h
theorem TsOK.app {a b:List Trm}(h:TsOK a)(k:TsOK b):TsOK (a ++ b):=fun t ht=>(List.mem_append.1 ht).elim (h t) (k t)
theorem TsOK.one {t:Trm}(h:TrmOK t):TsOK [t]:=fun u hu=>by obtain rfl:=List.mem_singleton.1 hu;exact h
section
variable (hF : Fit W)
include hF
end
def TokK (t:Tok):Prop:=(t.kind=1→isLet (chr t.text 0)=true)∧(t.kind=4→isSgn (chr t.text 0)=true)
theorem takeF_kind {s:ByteArray}(h1:1≤s.size)(l c:Int):TokK ⟨(takeF s).kind,(takeF s).text,l,c⟩:=by
 have no:∀{k:Int} {p q:Prop},k≠1→k≠4→(k=1→p)∧(k=4→q):=fun a b=>⟨fun h=>absurd h a,fun h=>absurd h b⟩
 unfold TokK takeF
 split
 ·refine no ?_ ?_<;>(intro h;dsimp only at h;revert h;decide)
 ·split
  ·refine no ?_ ?_<;>(intro h;dsimp only at h;revert h;decide)
  ·split
   ·rename_i hl
    split
    ·refine no ?_ ?_<;>(intro h;dsimp only at h;revert h;decide)
    ·refine⟨fun _=>?_,fun h=>by(exfalso;dsimp only at h;revert h;decide)⟩
     have hw:=runF_yes (p:=isWrd) (s:=s) (i:=0) h1 (by unfold isWrd;rw [hl];rfl)
     dsimp only
     rw [pre_chr (by omega)];exact hl
   ·split
    ·split
     ·refine no ?_ ?_<;>(intro h;dsimp only at h;revert h;decide)
     ·refine no ?_ ?_<;>(intro h;dsimp only at h;revert h;decide)
    ·split
     ·split
      ·refine no ?_ ?_<;>(intro h;dsimp only at h;revert h;decide)
      ·refine no ?_ ?_<;>(intro h;dsimp only at h;revert h;decide)
     ·split
      ·rename_i hg
       refine⟨fun h=>by(exfalso;dsimp only at h;revert h;decide),fun _=>?_⟩
       dsimp only
       rw [pre_chr (by omega)];exact hg
      ·refine no ?_ ?_<;>(intro h;dsimp only at h;revert h;decide)
theorem allF_kind (s:ByteArray)(i:Nat)(hi:i≤s.size):∀t ∈ (allF s i).1,TokK t:=by
 rw [allF]
 split
 ·rename_i hlt
  have hl:=rest_len hi
  split
  ·exact fun t ht=>by simp at ht
  ·rename_i hc
   have hp:=takeF_prog (s:=s.extract i s.size) (by omega) (Decidable.not_not.1 hc)
   have ih:=allF_kind s (i+(takeF (s.extract i s.size)).n) (by omega)
   split
   ·split
    ·intro t ht
     rcases List.mem_cons.1 ht with rfl|ht
     ·exact takeF_kind (s:=s.extract i s.size) (by omega) (placeF s i).1 (placeF s i).2
     ·exact ih t ht
    ·exact ih
   ·exact fun t ht=>by simp at ht
 ·intro t ht
  obtain rfl:=List.mem_singleton.1 ht
  exact⟨fun h=>by(exfalso;dsimp only at h;revert h;decide),fun h=>by(exfalso;dsimp only at h;revert h;decide)⟩
termination_by s.size - i
theorem kind_1 {s w:ByteArray}(h:isSgn (chr w 0)=false):KindOK (txt s) (1,w):=
 ⟨.inl rfl,fun t ht e hk=>hk.elim id fun h4=>by
  have:=(allF_kind s 0 (Nat.zero_le _) t ht).2 h4
  rw [show t.text=w from e,h] at this;cases this⟩
theorem kind_4 {s w:ByteArray}(h:isLet (chr w 0)=false):KindOK (txt s) (4,w):=
 ⟨.inr rfl,fun t ht e hk=>hk.elim (fun h1=>by
  have:=(allF_kind s 0 (Nat.zero_le _) t ht).1 h1
  rw [show t.text=w from e,h] at this;cases this) id⟩
theorem txt_kin (s:ByteArray):Kin (txt s):=
 ⟨kind_1 (by decide),kind_1 (by decide),kind_1 (by decide),kind_1 (by decide),kind_1 (by decide),kind_4 (by decide),kind_4 (by decide),kind_4 (by decide),kind_4 (by decide),kind_4 (by decide),kind_4 (by decide),kind_4 (by decide)⟩
theorem pTxt_dec (s:ByteArray)(hs:s.size≤1900000):∀t ∈ (txt s).L,t.kind=2→Ok Tryz.prog 58 [tS9 t.text] true (.tup [tNum (decQ t.text).1 (decQ t.text).2,.con (.int .i64 0)]):=by
 obtain⟨h1,h2⟩:=allF_ok s 0 (Nat.zero_le _)
 exact fun t ht hk=>dPar_ok t.text ((h2 t ht).2 hk) (by have:=(h2 t ht).1;omega)
theorem pSum65 (s:ByteArray)(hs:s.size≤1900000):UnOK Tryz.prog 21 65 (PS.sum (X:=txt s) (PS.un decQ 65)):=by
 have hF:=txt_fit s hs
 exact pSum_ok hF.len (PS.un_good decQ 65) (pProd_ok hF.len (PS.un_good decQ 65) (pUn_ok hF (txt_kin s) (pTxt_dec s hs) 65 (by decide)))
theorem pFile (s:ByteArray)(hs:s.size≤1900000):Ok Tryz.prog 6 [tS9 s] false (.tup [tFil (fileS decQ s).1,tFe (fileS decQ s).2]):=
 pFile_ok s (txt_fit s hs) (txt_kin s) (pSum65 s hs) (start_ok s (by omega))
theorem pNums (s:ByteArray)(hs:s.size≤1900000):Ok Tryz.prog 7 [tS9 s] false (.tup [tRw (numS decQ s).1,tFe (numS decQ s).2]):=
 pNum_ok s (txt_fit s hs) (pSum65 s hs) (start_ok s (by omega))
def alL : List Trm:=[⟨1,1,1⟩,⟨1,2,1⟩,⟨1,3,1⟩,⟨6,0,0⟩,⟨4,0,0⟩,⟨3,0,0⟩]
theorem lm_zero : lm 0=[]:=by rw [lm,if_pos rfl]
def alEv : Option Flt→V
 |none=>.con .nilIface
 |some f=>.ro false (.ifc 63 (.ptr (fTl f)))
def alFi (f:FilD):Obj:=⟨4,[.agg [.con (.string f.name),.ro false (tSs f.prps),.ro false (.sl (f.vars.map tVar)),.ro false (.sl (f.prbs.map tPrb))]],0,true⟩
def alFl (o:Option Flt):Obj:=⟨4,[.agg [.con (.int .i64 (foC o)),.con (.int .i64 (foL o)),.con (.int .i64 (foK o)),.con (.string (foW o))]],0,true⟩
theorem lok_al : LOK alL∧∀t ∈ alL,TrmOK t:=by
 have h1:∀n,0 < n→n < 100→LOK (lm n):=fun n h0 h=>by
  unfold LOK
  rw [lm_small h0 (by omega)];exact Nat.le_of_ble_eq_true rfl
 have h0:LOK (lm 0):=by
  unfold LOK
  rw [lm_zero];decide
 refine⟨by unfold LOK alL;decide,fun t ht=>?_⟩
 simp only [alL,List.mem_cons,List.not_mem_nil,or_false] at ht
 rcases ht with rfl|rfl|rfl|rfl|rfl|rfl
 ·exact⟨h1 1 (by decide) (by decide),h1 1 (by decide) (by decide)⟩
 ·exact⟨h1 2 (by decide) (by decide),h1 1 (by decide) (by decide)⟩
 ·exact⟨h1 3 (by decide) (by decide),h1 1 (by decide) (by decide)⟩
 ·exact⟨h0,h0⟩
 ·exact⟨h0,h0⟩
 ·exact⟨h0,h0⟩
def vSg (k:Int):V:=.agg [.con (.int .i8 k),.con (.bool false),.emp,.emp]
def alO : Obj:=⟨4,[vT ⟨1,1,1⟩,vT ⟨1,2,1⟩,vT ⟨1,3,1⟩,vSg 6,vSg 4,vSg 3],0,true⟩
theorem al_flat : ∀e ∈ alO.el,e.flat:=by
 intro e he
 simp only [alO,List.mem_cons,List.not_mem_nil,or_false] at he
 rcases he with rfl|rfl|rfl|rfl|rfl|rfl
 ·exact vT_flat _
 ·exact vT_flat _
 ·exact vT_flat _
 all_goals
  intro v hv
  simp at hv
  rcases hv with rfl|rfl|rfl<;>trivial
theorem al_eq : veqL [.int .i64,.int .i64,.int .i64,.str] [.con (.int .i64 30),.con (.int .i64 1),.con (.int .i64 8),.con (.string eS)] [.con (.int .i64 30),.con (.int .i64 1),.con (.int .i64 8),.con (.string .empty)]=some true:=by simp [veqL,veq1,eS]
theorem fze_T {oh:OH}(t:Trm):FzE oh false (vT t) (tT t):=by
 refine⟨rfl,fun j v u e1 e2=>?_⟩
 match j with
 |0=>simp [vT,V.cells] at e1;simp [tT,T.cells] at e2;subst e1;subst e2;exact .con _
 |1=>simp [vT,V.cells] at e1;simp [tT,T.cells] at e2;subst e1;subst e2;exact .con _
 |2=>simp [vT,V.cells] at e1;simp [tT,T.cells] at e2;subst e1;subst e2;exact .ro false _ fun h=>h
 |3=>simp [vT,V.cells] at e1;simp [tT,T.cells] at e2;subst e1;subst e2;exact .ro false _ fun h=>h
 |j+4=>simp [vT,V.cells] at e1
def vTz (t:Trm):V:=if t.kind=1 then vT t else vSg t.kind
theorem fze_Tz {oh:OH}{t:Trm}(h:t.kind=1∨(t.z=0∧t.d=0)):FzE oh false (vTz t) (tT t):=by
 unfold vTz
 by_cases h1:t.kind=1
 ·rw [if_pos h1]
  exact fze_T t
 ·rw [if_neg h1]
  obtain⟨h2,h3⟩:=h.resolve_left h1
  have e:tT t=.agg [.con (.int .i8 t.kind),.con (.bool false),.sl [],.sl []]:=by
   unfold tT
   rw [h2,h3,show Int.natAbs 0=0 from rfl,lm_zero];rfl
  rw [e]
  refine⟨rfl,fun j v u e1 e2=>?_⟩
  match j with
  |0=>simp [vSg,V.cells] at e1;simp [T.cells] at e2;subst e1;subst e2;exact .con _
  |1=>simp [vSg,V.cells] at e1;simp [T.cells] at e2;subst e1;subst e2;exact .con _
  |2=>simp [vSg,V.cells] at e1;simp [T.cells] at e2;subst e1;subst e2;exact .emp
  |3=>simp [vSg,V.cells] at e1;simp [T.cells] at e2;subst e1;subst e2;exact .emp
  |j+4=>simp [vSg,V.cells] at e1
theorem fz_l2 {oh:OH}{v v2:V}{t t2:T}(h:FzA oh false v t)(h2:FzA oh false v2 t2):FzL oh [v,v2] [t,t2]:=by
 refine⟨rfl,fun j v' t' e1 e2=>?_⟩
 match j with
 |0=>simp at e1 e2;subst e1;subst e2;exact h
 |1=>simp at e1 e2;subst e1;subst e2;exact h2
 |j+2=>simp at e1
theorem al_args : FzL [(0,alO)] [.ro false (tTs alL),.own 0 0 0 6] [tTs alL,tTs alL]:=
 fz_l2 (fz_ro rfl fun h=>Bool.noConfusion h) (fz_own (F:=vTz) (G:=tT) (l:=alL) rfl rfl rfl rfl rfl (fun t ht=>fze_Tz (by
  simp only [alL,List.mem_cons,List.not_mem_nil,or_false] at ht
  rcases ht with rfl|rfl|rfl|rfl|rfl|rfl<;>simp)) rfl)
theorem alive_ok : Ok Tryz.prog 5 [] true (.con (.bool true)):=by
 have p1:=pNums alA (by decide)
 rw [nsA] at p1
 have p2:=pFile alB (by decide)
 rw [nsB] at p2
 have p3:=pFile alC (by decide)
 rw [nsC] at p3
 have n1:=numb_ok 1 (by decide) (by decide)
 have n2:=numb_ok 2 (by decide) (by decide)
 have n3:=numb_ok 3 (by decide) (by decide)
 have fo:=fault_ok as_ok ⟨30,1,8,eS⟩
 have st:=sTerms alL lok_al.1 lok_al.2
 refine ok_of_ev hC0 mix Tryz.func5 rfl rfl (by kernel_rfl) (zO rfl) ?_
 repeat'(first|(refine seq_k (a:=Code.region 1 _ _) Unit (fun _=>⟨Tryz.f5.ntmps,[(1,.ro false (tRw [alL])),(2,.con .nilIface)],[]⟩) (fun _=>True) ?_ ?_)|(with_reducible first|(refine zz ?_;try intro K hK)|refine zI ?_|refine zt ?_|refine zf ?_)|((first|refine hK _ ?_|refine hK _ _ rfl ?_);clear hK K)|(guard_hyp hK;first|(refine zY ?zz ?_;case zz=>first|exact rfl|exact gJ)|refine fresh_n ?_|refine freshO_n ?_|refine zW ?_|intro b0 hb)|((first|with_reducible refine zm ?_|guard_hyp hK);refine zY ?_ ?_;all_goals(intro hb;(try simp only [sn,sb] at hb);try exact ex0)))
 rotate_left
 ·intro R hR
  repeat'(first|(with_reducible first|(refine zz ?_;try intro K hK)|refine zI ?_|refine zt ?_|refine zf ?_)|((first|refine hK _ ?_|refine hK _ _ rfl ?_);clear hK K)|(guard_hyp hK;first|(refine zY ?zz ?_;case zz=>first|exact rfl|exact gJ)|refine fresh_n ?_|refine freshO_n ?_|refine zW ?_|(refine zQ (p1) ?_)|intro b0 hb)|((first|with_reducible refine zm ?_|guard_hyp hK);refine zY ?_ ?_;all_goals(intro hb;(try simp only [sn,sb] at hb);try exact ex0)))
  exact hR _ () trivial (lf_of0 ⟨lc_ro,Lc.same _ trivial,trivial⟩ trivial)
 rintro - -
 repeat'(first|(refine seq_k (a:=Code.region 2 _ _) Unit (fun _=>⟨Tryz.f5.ntmps,[(1,.ro false (tRw [alL])),(2,.con .nilIface),(3,.own 0 0 0 6)],[(0,alO)]⟩) (fun _=>True) ?_ ?_)|(with_reducible first|(refine zz ?_;try intro K hK)|refine zI ?_|refine zt ?_|refine zf ?_)|((first|refine hK _ ?_|refine hK _ _ rfl ?_);clear hK K)|(guard_hyp hK;first|(refine zY ?zz ?_;case zz=>first|exact rfl|exact gJ)|refine fresh_n ?_|refine freshO_n ?_|refine zW ?_|intro b0 hb)|((first|with_reducible refine zm ?_|guard_hyp hK);refine zY ?_ ?_;all_goals(intro hb;(try simp only [sn,sb] at hb);try exact ex0)))
 rotate_left
 ·intro R hR
  repeat'(first|(with_reducible first|(refine zz ?_;try intro K hK)|refine zI ?_|refine zt ?_|refine zf ?_)|((first|refine hK _ ?_|refine hK _ _ rfl ?_);clear hK K)|(guard_hyp hK;first|(refine zY ?zz ?_;case zz=>first|exact rfl|exact gJ)|refine fresh_n ?_|refine freshO_n ?_|refine zW ?_|(refine zQ (n1) ?_)|(refine zQ (n2) ?_)|(refine zQ (n3) ?_)|intro b0 hb)|((first|with_reducible refine zm ?_|guard_hyp hK);refine zY ?_ ?_;all_goals(intro hb;(try simp only [sn,sb] at hb);try exact ex0)))
  exact hR _ () trivial (lf_of0 ⟨lc_ro,Lc.same _ trivial,Lc.same _ rfl,trivial⟩ ⟨lfOb_same rfl al_flat,trivial⟩)
 rintro - -
 repeat'(first|(refine seq_k (a:=Code.region 3 _ _) Unit (fun _=>⟨Tryz.f5.ntmps,[(1,.ro false (tRw [alL])),(2,.con .nilIface),(3,.own 0 0 0 6),(4,.ref 1 0 0 0),(5,.con .nilIface)],[(0,alO),(1,alFi ⟨⟨#[110]⟩,[⟨#[97]⟩],[],[]⟩)]⟩) (fun _=>True) ?_ ?_)|(with_reducible first|(refine zz ?_;try intro K hK)|refine zI ?_|refine zt ?_|refine zf ?_)|((first|refine hK _ ?_|refine hK _ _ rfl ?_);clear hK K)|(guard_hyp hK;first|(refine zY ?zz ?_;case zz=>first|exact rfl|exact gJ)|refine fresh_n ?_|refine freshO_n ?_|refine zW ?_|intro b0 hb)|((first|with_reducible refine zm ?_|guard_hyp hK);refine zY ?_ ?_;all_goals(intro hb;(try simp only [sn,sb] at hb);try exact ex0)))
 rotate_left
 ·intro R hR
  repeat'(first|(with_reducible first|(refine zz ?_;try intro K hK)|refine zI ?_|refine zt ?_|refine zf ?_)|((first|refine hK _ ?_|refine hK _ _ rfl ?_);clear hK K)|(guard_hyp hK;first|(refine zY ?zz ?_;case zz=>first|exact rfl|exact gJ)|refine fresh_n ?_|refine freshO_n ?_|refine zW ?_|(refine zQ (p2) ?_)|intro b0 hb)|((first|with_reducible refine zm ?_|guard_hyp hK);refine zY ?_ ?_;all_goals(intro hb;(try simp only [sn,sb] at hb);try exact ex0)))
  exact hR _ () trivial (lf_of0 ⟨lc_ro,Lc.same _ trivial,Lc.same _ rfl,Lc.same _ rfl,Lc.same _ trivial,trivial⟩ ⟨lfOb_same rfl al_flat,agg_same rfl rfl,trivial⟩)
 rintro - -
 repeat'(first|(refine seq_k (a:=Code.region 4 _ _) Unit (fun _=>⟨Tryz.f5.ntmps,[(1,.ro false (tRw [alL])),(2,.con .nilIface),(3,.own 0 0 0 6),(4,.ref 1 0 0 0),(5,.con .nilIface),(7,alEv (some ⟨30,1,8,eS⟩))],[(0,alO),(1,alFi ⟨⟨#[110]⟩,[⟨#[97]⟩],[],[]⟩)]⟩) (fun _=>True) ?_ ?_)|(with_reducible first|(refine zz ?_;try intro K hK)|refine zI ?_|refine zt ?_|refine zf ?_)|((first|refine hK _ ?_|refine hK _ _ rfl ?_);clear hK K)|(guard_hyp hK;first|(refine zY ?zz ?_;case zz=>first|exact rfl|exact gJ)|refine fresh_n ?_|refine freshO_n ?_|refine zW ?_|intro b0 hb)|((first|with_reducible refine zm ?_|guard_hyp hK);refine zY ?_ ?_;all_goals(intro hb;(try simp only [sn,sb] at hb);try exact ex0)))
 rotate_left
 ·intro R hR
  repeat'(first|(with_reducible first|(refine zz ?_;try intro K hK)|refine zI ?_|refine zt ?_|refine zf ?_)|((first|refine hK _ ?_|refine hK _ _ rfl ?_);clear hK K)|(guard_hyp hK;first|(refine zY ?zz ?_;case zz=>first|exact rfl|exact gJ)|refine fresh_n ?_|refine freshO_n ?_|refine zW ?_|(refine zQ (p3) ?_)|intro b0 hb)|((first|with_reducible refine zm ?_|guard_hyp hK);refine zY ?_ ?_;all_goals(intro hb;(try simp only [sn,sb] at hb);try exact ex0)))
  exact hR _ () trivial (lf_of0 ⟨lc_ro,Lc.same _ trivial,Lc.same _ rfl,Lc.same _ rfl,Lc.same _ trivial,Lc.same _ trivial,trivial⟩ ⟨lfOb_same rfl al_flat,agg_same rfl rfl,trivial⟩)
 rintro - -
 repeat'(first|(refine seq_k (a:=Code.region 5 _ _) Unit (fun _=>⟨Tryz.f5.ntmps,[(1,.ro false (tRw [alL])),(2,.con .nilIface),(3,.own 0 0 0 6),(4,.ref 1 0 0 0),(5,.con .nilIface),(8,.ref 2 0 0 0),(9,.con (.bool true))],[(0,alO),(1,alFi ⟨⟨#[110]⟩,[⟨#[97]⟩],[],[]⟩),(2,alFl (some ⟨30,1,8,eS⟩))]⟩) (fun _=>True) ?_ ?_)|(with_reducible first|(refine zz ?_;try intro K hK)|refine zI ?_|refine zt ?_|refine zf ?_)|((first|refine hK _ ?_|refine hK _ _ rfl ?_);clear hK K)|(guard_hyp hK;first|(refine zY ?zz ?_;case zz=>first|exact rfl|exact gJ)|refine fresh_n ?_|refine freshO_n ?_|refine zW ?_|intro b0 hb)|((first|with_reducible refine zm ?_|guard_hyp hK);refine zY ?_ ?_;all_goals(intro hb;(try simp only [sn,sb] at hb);try exact ex0)))
 rotate_left
 ·intro R hR
  repeat'(first|(with_reducible first|(refine zz ?_;try intro K hK)|refine zI ?_|refine zt ?_|refine zf ?_)|((first|refine hK _ ?_|refine hK _ _ rfl ?_);clear hK K)|(guard_hyp hK;first|(refine zY ?zz ?_;case zz=>first|exact rfl|exact gJ)|refine fresh_n ?_|refine freshO_n ?_|refine zW ?_|(refine zQ (fo) ?_)|intro b0 hb)|((first|with_reducible refine zm ?_|guard_hyp hK);refine zY ?_ ?_;all_goals(intro hb;(try simp only [sn,sb] at hb);try exact ex0)))
  exact hR _ () trivial (lf_of0 ⟨lc_ro,Lc.same _ trivial,Lc.same _ rfl,Lc.same _ rfl,Lc.same _ trivial,Lc.same _ rfl,Lc.same _ trivial,trivial⟩ ⟨lfOb_same rfl al_flat,agg_same rfl rfl,agg_same rfl rfl,trivial⟩)
 rintro - -
 repeat'(first|(refine Exists.intro _ (Exists.intro true (And.intro eqF (And.intro rfl (And.intro rfl (And.intro al_eq ?_))))))|(with_reducible first|(refine zz ?_;try intro K hK)|refine zI ?_|refine zt ?_|refine zf ?_)|((first|refine hK _ ?_|refine hK _ _ rfl ?_);clear hK K)|(guard_hyp hK;first|(refine zY ?zz ?_;case zz=>first|exact rfl|exact gJ)|refine fresh_n ?_|refine freshO_n ?_|refine zW ?_|(refine' Or.inl (Exists.intro _ (Exists.intro _ (Exists.intro _ (And.intro (st) (Exists.intro [(0,_)] (And.intro (lpre1 ?lh) (And.intro ?lz (And.intro rfl ?_))))))));(case lh=>exact rfl);(case lz=>exact al_args))|intro b0 hb)|((first|with_reducible refine zm ?_|guard_hyp hK);refine zY ?_ ?_;all_goals(intro hb;(try simp only [sn,sb] at hb);try exact ex0)))
 all_goals exact retb rfl rfl rfl
end Go.Ev
