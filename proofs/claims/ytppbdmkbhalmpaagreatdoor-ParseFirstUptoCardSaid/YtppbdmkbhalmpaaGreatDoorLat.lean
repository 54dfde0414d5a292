import Derived.Test.YtppbdmkbhalmpaaGreatDoorLas
import Derived.Test.YtppbdmkbhalmpaaGreatDoorLao
import Derived.Test.YtppbdmkbhalmpaaGreatDoorLar
set_option linter.all false
set_option maxHeartbeats 4000000
set_option maxRecDepth 10000
namespace Go.Ev
open Go.Proofs
theorem wNorm_ok (n:Bool)(m:List UInt32)(hm:m.length≤2199023255552):Ok Tryz.prog 98 [tI n m] true (tZ (iv n m)):=by
 refine ok_of_ev hC0 mix Tryz.func98 rfl rfl (by kernel_rfl) (zO rfl) ?_
 repeat'(first|(with_reducible first|(refine zz ?_;try intro K hK)|refine zI ?_|refine zt ?_|refine zf ?_)|((first|refine hK _ ?_|refine hK _ _ rfl ?_);clear hK K)|(guard_hyp hK;first|(refine zY ?zz ?_;case zz=>first|exact rfl|exact gI)|refine fresh_n ?_|refine freshO_n ?_|(refine at_Q ?_;intro hu)|refine zP wA ?_|(refine mul_Q ?_;intro hm1 hm2)|refine zP at_M ?_|refine zP rfl ?_|(refine zQ (of_ok n m hm) ?_)|intro b0 hb)|((first|with_reducible refine zm ?_|guard_hyp hK);refine zY ?_ ?_;all_goals(intro hb;(try simp only [sn,sb] at hb);try exact ex0)))
 exact ret_cell (l:=[V.con (.bool (decide (iv n m < 0))),.ro true (tn (lm (iv n m).natAbs))]) rfl tk48 rfl (Nat.zero_lt_succ _) rfl rfl (fz_Z _)
theorem lowest_ok (n:Bool)(a d:List UInt32)(hd:val d≠0)(ha:a.length≤2147483648)(hl:d.length≤2147483648):Ok Tryz.prog 87 [.con (.bool n),tn a,tn d] true (tQ (iv n a) (val d)):=by
 have hg0:Nat.gcd (val a) (val d)≠0:=fun h=>hd (Nat.eq_zero_of_gcd_eq_zero_right h)
 have hgd:Nat.gcd (val a) (val d)≤val d:=Nat.le_of_dvd (Nat.pos_of_ne_zero hd) (Nat.gcd_dvd_right _ _)
 have hgl:=lm_len_le hgd
 have hdl:=lm_val_len d
 have hal:=lm_val_len a
 have h1:=GcdN_ok a d ha hl
 have h2:=DivMod_ok a (lm (Nat.gcd (val a) (val d))) ha (by omega) (by rw [val_lm];exact hg0)
 have h3:=DivMod_ok d (lm (Nat.gcd (val a) (val d))) hl (by omega) (by rw [val_lm];exact hg0)
 rw [val_lm] at h2 h3
 have hm:=lm_len_le (Nat.div_le_self (val a) (Nat.gcd (val a) (val d)))
 have h4:=wNorm_ok n (lm (val a / Nat.gcd (val a) (val d))) (by omega)
 rw [iv_div,iv_lm] at h4
 have e1:qz (iv n a) (val d)=(iv n a).tdiv (Nat.gcd (val a) (val d)):=by unfold qz;rw [iv_abs]
 have e2:qd (iv n a) (val d)=val d / Nat.gcd (val a) (val d):=by unfold qd;rw [iv_abs]
 rw [← e1] at h4
 refine ok_of_ev hC0 mix Tryz.func87 rfl rfl (by kernel_rfl) (zO rfl) ?_
 repeat'(first|(with_reducible first|(refine zz ?_;try intro K hK)|refine zI ?_|refine zt ?_|refine zf ?_)|((first|refine hK _ ?_|refine hK _ _ rfl ?_);clear hK K)|(guard_hyp hK;first|(refine zY ?zz ?_;case zz=>first|exact rfl|exact gI)|refine fresh_n ?_|refine freshO_n ?_|(refine at_Q ?_;intro hu)|refine zP wA ?_|(refine mul_Q ?_;intro hm1 hm2)|refine zP at_M ?_|refine zP rfl ?_|(refine zQ (h1) ?_)|(refine zQ (h2) ?_)|(refine zQ (h3) ?_)|(refine zQ (h4) ?_)|intro b0 hb)|((first|with_reducible refine zm ?_|guard_hyp hK);refine zY ?_ ?_;all_goals(intro hb;(try simp only [sn,sb] at hb);try exact ex0)))
 rw [← e2]
 exact ret_cell (l:=[V.con (.bool (decide (qz (iv n a) (val d) < 0))),.ro true (tn (lm (qz (iv n a) (val d)).natAbs)),.ro true (tn (lm (qd (iv n a) (val d))))]) rfl tk50 rfl (Nat.zero_lt_succ _) rfl rfl rat_eta
theorem bq_one (s:ByteArray)(a:UInt8)(ha:a≠0):preB s ⟨#[a]⟩=decide (chr s 0=a):=by
 unfold preB
 rw [Bool.eq_iff_iff,Bool.and_eq_true,decide_eq_true_eq,decide_eq_true_eq,beq_iff_eq,bq_data,bq_data]
 have e1:(⟨#[a]⟩:ByteArray).size=1:=rfl
 rw [e1]
 have e2:(s.extract 0 1).data.toList=(bs s).take 1:=by
  have:=sub_bs s 0 1
  rw [List.drop_zero] at this
  exact this
 rw [e2]
 show 1≤s.size∧(bs s).take 1=[a]↔_
 rw [← bs_len]
 unfold chr
 match hq:bs s with
 | []=>simp;intro h;exact absurd h.symm ha
 |x :: r=>simp
theorem run_all {s:ByteArray}(h:allDig s):runF isDig s 0=s.size:=by
 have key:∀l:List UInt8,(∀b ∈ l,isDig b=true)→l.takeWhile isDig=l:=by
  intro l hl
  induction l with
  |nil=>rfl
  |cons x r ih=>rw [List.takeWhile_cons,if_pos (hl x (List.mem_cons_self ..)),ih (fun b hb=>hl b (List.mem_cons_of_mem _ hb))]
 have h1:(bs s).takeWhile isDig=bs s:=by
  refine key _ fun b hb=>?_
  obtain⟨i,hi,rfl⟩:=List.mem_iff_getElem.1 hb
  have:=h i (by rw [← bs_len];exact hi)
  unfold chr at this
  rw [List.getD,List.getElem?_eq_getElem hi] at this
  exact this
 unfold runF
 rw [List.drop_zero,h1,bs_len]
theorem nat_dig {s:ByteArray}(h:allDig s)(h1:1≤s.size):natP s=some (decV (bs s)):=natP_yes (by omega) h
theorem exp_ok (w T:ByteArray)(h:NumOK w)(hw:w.size≤2000000)(hT:T=w.extract (numA w) w.size):Ok Tryz.prog 70 [tS9 T] true (.tup [.con (.int .i64 (decX w)),.con (.bool true)]):=by
 have hA:=numA_le (s:=w)
 have hTl:T.size=w.size - numA w:=by rw [hT,ext_len (Nat.le_refl _)]
 by_cases c:numE w
 ·obtain⟨q1,q2,q3,q4⟩:=nm_E h c
  obtain⟨U0,U1,f1,f2,f3,f4,f5,f6,f7,f8,f9⟩:=t_facts h c
  have hT0:chr T 0=chr w (numA w):=by rw [hT,ext_chr (by omega)];rfl
  have hU:T.extract 1 T.size=U0:=by
   refine bs_ext ?_
   rw [f1,hT,ext_bs,ext_bs,ext_bs,ext_len (Nat.le_refl _),List.drop_take,List.drop_drop,List.take_take]
   congr 1
   omega
  have hc0:=c.1
  rw [← hT0] at hc0
  have hne:¬T.toList=(⟨#[]⟩:ByteArray).toList:=fun e=>by
   have:=congrArg ByteArray.size (bq_inj e)
   have e9:(⟨#[]⟩:ByteArray).size=0:=rfl
   omega
  have hpos:0 < T.size:=by omega
  have hTs:T.size≤2000000:=by omega
  clear hT hTl hT0 hA f1
  refine ok_of_ev hC0 mix Tryz.func70 rfl rfl (by kernel_rfl) (zO rfl) ?_
  repeat'(first|(first|(refine at_s (s:=T) (i:=0) ?_ hpos;intro hu)|refine seq_j (a:=Code.seq (Code.region 3 _ _) (Code.cond _ _ _)) Unit (fun _=>⟨Tryz.f70.ntmps,[(0,.con (.string T))],[]⟩) (fun _=>True) ?_ ?_)|(with_reducible first|(refine zz ?_;try intro K hK)|refine zI ?_|refine zt ?_|refine zf ?_)|((first|refine hK _ ?_|refine hK _ _ rfl ?_);clear hK K)|(guard_hyp hK;first|(refine zY ?zz ?_;case zz=>first|exact rfl|exact gJ)|refine fresh_n ?_|refine freshO_n ?_|refine zW ?_|intro b0 hb)|((first|with_reducible refine zm ?_|guard_hyp hK);refine zY ?_ ?_;all_goals(intro hb;(try simp only [sn,sb] at hb);try exact ex0)))
  all_goals try exact absurd hb hne
  rotate_left
  ·intro R hR
   repeat'(first|(refine at_s (s:=T) (i:=0) ?_ hpos;intro hu)|(with_reducible first|(refine zz ?_;try intro K hK)|refine zI ?_|refine zt ?_|refine zf ?_)|((first|refine hK _ ?_|refine hK _ _ rfl ?_);clear hK K)|(guard_hyp hK;first|(refine zY ?zz ?_;case zz=>first|exact rfl|exact gJ)|refine fresh_n ?_|refine freshO_n ?_|refine zW ?_|intro b0 hb)|((first|with_reducible refine zm ?_|guard_hyp hK);refine zY ?_ ?_;all_goals(intro hb;(try simp only [sn,sb] at hb);try exact ex0)))
   all_goals first|(exfalso;omega)|exact hR _ () trivial ⟨rfl,⟨rfl,trivial,trivial⟩,trivial,trivial⟩
  rintro - -
  repeat'(first|(refine seq_j (a:=Code.region 5 _ _) ByteArray (fun U=>⟨Tryz.f70.ntmps,[(0,.con (.string U))],[]⟩) (fun U=>U=T.extract 1 T.size) ?_ ?_)|(with_reducible first|(refine zz ?_;try intro K hK)|refine zI ?_|refine zt ?_|refine zf ?_)|((first|refine hK _ ?_|refine hK _ _ rfl ?_);clear hK K)|(guard_hyp hK;first|(refine zY ?zz ?_;case zz=>first|exact rfl|exact gJ)|refine fresh_n ?_|refine freshO_n ?_|refine zW ?_|intro b0 hb)|((first|with_reducible refine zm ?_|guard_hyp hK);refine zY ?_ ?_;all_goals(intro hb;(try simp only [sn,sb] at hb);try exact ex0)))
  ·intro U hUe
   obtain rfl:U=U0:=hUe.trans hU
   have hUl:U.size≤2000000:=by
    have:=congrArg ByteArray.size hU
    rw [ByteArray.size_extract] at this
    omega
   clear hUe hU
   have hm:=HasPre_ok U ⟨#[45]⟩ (by omega) (by decide)
   have hp:=HasPre_ok U ⟨#[43]⟩ (by omega) (by decide)
   rw [bq_one _ _ (by decide)] at hm hp
   have hn:=nParse_ok U1 (by omega)
   rw [nat_dig f5 f7,f6] at hn
   have hr:=drun_ok U1 (by omega)
   rw [run_all f5] at hr
   have hu:=Uint_ok (decXn w) (by omega)
   have hl1:¬U1.toList=(⟨#[]⟩:ByteArray).toList:=fun e=>by
    have:=congrArg ByteArray.size (bq_inj e)
    have e9:(⟨#[]⟩:ByteArray).size=0:=rfl
    omega
   by_cases c1:(chr U 0).toNat=45
   ·rw [decide_eq_true (UInt8.toNat_inj.1 c1:chr U 0=45)] at hm
    rw [if_pos c1] at f9
    rw [f3 (.inl c1)] at hn hr hl1 f7 f8
    rw [f9]
    repeat'(first|(with_reducible first|(refine zz ?_;try intro K hK)|refine zI ?_|refine zt ?_|refine zf ?_)|((first|refine hK _ ?_|refine hK _ _ rfl ?_);clear hK K)|(guard_hyp hK;first|(refine zY ?zz ?_;case zz=>first|exact rfl|exact gJ)|refine fresh_n ?_|refine freshO_n ?_|refine zW ?_|(refine zQ (hm) ?_)|(refine zQ (hn) ?_)|(refine zQ (hr) ?_)|(refine zQ (hu) ?_)|intro b0 hb)|((first|with_reducible refine zm ?_|guard_hyp hK);refine zY ?_ ?_;all_goals(intro hb;(try simp only [sn,sb] at hb);try exact ex0)))
    all_goals first|exact absurd hb hl1|exact⟨trivial,_,_,rfl,fz_con rfl,fz_con rfl⟩|exact⟨trivial,_,_,rfl,fz_con (congrArg (Value.int .i64) (by omega)),fz_con rfl⟩
   ·have hnm:¬chr U 0=45:=fun e=>c1 (by rw [e];rfl)
    rw [decide_eq_false hnm] at hm
    rw [if_neg c1] at f9
    rw [f9]
    by_cases c2:(chr U 0).toNat=43
    ·rw [decide_eq_true (UInt8.toNat_inj.1 c2:chr U 0=43)] at hp
     rw [f3 (.inr c2)] at hn hr hl1 f7 f8
     repeat'(first|(with_reducible first|(refine zz ?_;try intro K hK)|refine zI ?_|refine zt ?_|refine zf ?_)|((first|refine hK _ ?_|refine hK _ _ rfl ?_);clear hK K)|(guard_hyp hK;first|(refine zY ?zz ?_;case zz=>first|exact rfl|exact gJ)|refine fresh_n ?_|refine freshO_n ?_|refine zW ?_|(refine zQ (hm) ?_)|(refine zQ (hp) ?_)|(refine zQ (hn) ?_)|(refine zQ (hr) ?_)|(refine zQ (hu) ?_)|intro b0 hb)|((first|with_reducible refine zm ?_|guard_hyp hK);refine zY ?_ ?_;all_goals(intro hb;(try simp only [sn,sb] at hb);try exact ex0)))
     all_goals first|exact absurd hb hl1|exact⟨trivial,_,_,rfl,fz_con rfl,fz_con rfl⟩|exact⟨trivial,_,_,rfl,fz_con (congrArg (Value.int .i64) (by omega)),fz_con rfl⟩
    ·have hnp:¬chr U 0=43:=fun e=>c2 (by rw [e];rfl)
     rw [decide_eq_false hnp] at hp
     rw [f4 (fun e=>e.elim c1 c2)] at hn hr hl1 f7 f8
     repeat'(first|(with_reducible first|(refine zz ?_;try intro K hK)|refine zI ?_|refine zt ?_|refine zf ?_)|((first|refine hK _ ?_|refine hK _ _ rfl ?_);clear hK K)|(guard_hyp hK;first|(refine zY ?zz ?_;case zz=>first|exact rfl|exact gJ)|refine fresh_n ?_|refine freshO_n ?_|refine zW ?_|(refine zQ (hm) ?_)|(refine zQ (hp) ?_)|(refine zQ (hn) ?_)|(refine zQ (hr) ?_)|(refine zQ (hu) ?_)|intro b0 hb)|((first|with_reducible refine zm ?_|guard_hyp hK);refine zY ?_ ?_;all_goals(intro hb;(try simp only [sn,sb] at hb);try exact ex0)))
     all_goals first|exact absurd hb hl1|exact⟨trivial,_,_,rfl,fz_con rfl,fz_con rfl⟩|exact⟨trivial,_,_,rfl,fz_con (congrArg (Value.int .i64) (by omega)),fz_con rfl⟩
  ·intro R hR
   repeat'(first|(with_reducible first|(refine zz ?_;try intro K hK)|refine zI ?_|refine zt ?_|refine zf ?_)|((first|refine hK _ ?_|refine hK _ _ rfl ?_);clear hK K)|(guard_hyp hK;first|(refine zY ?zz ?_;case zz=>first|exact rfl|exact gJ)|refine fresh_n ?_|refine freshO_n ?_|refine zW ?_|intro b0 hb)|((first|with_reducible refine zm ?_|guard_hyp hK);refine zY ?_ ?_;all_goals(intro hb;(try simp only [sn,sb] at hb);try exact ex0)))
   exact hR _ _ rfl ⟨rfl,⟨rfl,trivial,trivial⟩,trivial,trivial⟩
 ·have h1:=nm_N h c
  have he:T=⟨#[]⟩:=by
   apply ByteArray.ext
   have h2:T.data.size=0:=by rw [show T.data.size=T.size from rfl,hTl];omega
   exact Array.eq_empty_of_size_eq_zero h2
  rw [show decX w=0 from if_neg c,he]
  clear hT hTl
  refine ok_of_ev hC0 mix Tryz.func70 rfl rfl (by kernel_rfl) (zO rfl) ?_
  repeat'(first|(with_reducible first|(refine zz ?_;try intro K hK)|refine zI ?_|refine zt ?_|refine zf ?_)|((first|refine hK _ ?_|refine hK _ _ rfl ?_);clear hK K)|(guard_hyp hK;first|(refine zY ?zz ?_;case zz=>first|exact rfl|exact gJ)|refine fresh_n ?_|refine freshO_n ?_|refine zW ?_|intro b0 hb)|((first|with_reducible refine zm ?_|guard_hyp hK);refine zY ?_ ?_;all_goals(intro hb;(try simp only [sn,sb] at hb);try exact ex0)))
  all_goals first|exact⟨trivial,_,_,rfl,fz_con rfl,fz_con rfl⟩|exact absurd rfl hb
theorem sgn0 {z:Int}:signZ z=0↔z=0:=by rcases signZ_cases z with h|h|h<;>omega
theorem ivn0 {k:Bool}{d:List UInt32}(h:val d≠0):iv k d≠0:=by unfold iv;split<;>omega
theorem retR {f:Bool}{fn:Func}{P:Program}{s:St}{a t b id ver sz:Nat}{l:List V}{fs:List (Nat×Nat)}{z:List Value}{r:T}{n:Int}(hr:fn.results.toList=[.cell a t,.tmp b])(ht:tk P t=.st fs z)(hz:z.length=l.length)(h0:0 < l.length)
  (ha:eget s.env a=.ref id ver 0 0) (ho:oget s.oh id=some ⟨sz,[.agg l],ver,true⟩) (hb:eget s.env b=.con (.int .i64 n)) (hf:FzA s.oh f (.agg l) r):RetOK P fn f (.tup [r,.con (.int .i64 n)]) .ret s:=by
 refine⟨trivial,?_⟩
 rw [hr]
 have h:resV P s (.cell a t) (fun v=>resV P s (.tmp b) fun u=>∃t1 t2,T.tup [r,.con (.int .i64 n)]=.tup [t1,t2]∧FzA s.oh f v t1∧FzA s.oh f u t2):=by
  refine resc ht hz h0 ha ho ⟨_,_,rfl,hf,?_⟩
  show FzA s.oh f (eget s.env b) _
  rw [hb]
  exact fz_con rfl
 exact h
theorem NewD_ok (n k:Bool)(a d:List UInt32)(hd:val d≠0)(ha:a.length≤2147483648)(hl:d.length≤2147483648):Ok Tryz.prog 74 [tI n a,tI k d] true (.tup [tQ (iv (n != k) a) (val d),.con (.int .i64 0)]):=by
 have hs:signZ (iv k d)≠0:=fun h=>ivn0 hd (sgn0.1 h)
 refine ok_of_ev hC0 mix Tryz.func74 rfl rfl (by kernel_rfl) (zO rfl) ?_
 repeat'(first|(with_reducible first|(refine zz ?_;try intro K hK)|refine zI ?_|refine zt ?_|refine zf ?_)|((first|refine hK _ ?_|refine hK _ _ rfl ?_);clear hK K)|(guard_hyp hK;first|(refine zY ?zz ?_;case zz=>first|exact rfl|exact gJ)|refine fresh_n ?_|refine freshO_n ?_|refine zW ?_|(refine zQ (Sign_ok k d (by omega)) ?_)|(refine zQ (lowest_ok (n != k) a d hd ha hl) ?_)|intro b0 hb)|((first|with_reducible refine zm ?_|guard_hyp hK);refine zY ?_ ?_;all_goals(intro hb;(try simp only [sn,sb] at hb);try exact ex0)))
 exact retR (l:=[V.con (.bool (decide (qz (iv (n != k) a) (val d) < 0))),.ro true (tn (lm (qz (iv (n != k) a) (val d)).natAbs)),.ro true (tn (lm (qd (iv (n != k) a) (val d))))]) rfl tk50 rfl (Nat.zero_lt_succ _) rfl rfl rfl rat_eta
section
variable {w : ByteArray} (h : NumOK w)
include h
theorem pt_iff : (chr w (nmA w)).toNat=46↔ptB w:=by
 constructor
 ·intro e
  by_cases c:ptB w
  ·exact c
  ·exfalso
   have hA:=nm_A h
   rw [if_neg c] at hA
   have hE:¬numE w:=fun c2=>by
    have:=c2.1
    rw [hA] at this
    simp only [Nat.add_zero] at this
    omega
   have hN:=nm_N h hE
   rw [chr_end (by omega)] at e
   exact absurd e (by decide)
 ·exact fun c=>(nm_pt h c).1
theorem beh_run (c:ptB w):runF isDig (w.extract (nmA w+1) w.size) 0=nmB w:=by
 have e:nmB w=runF isDig w (nmA w+1):=if_pos c
 rw [e]
 unfold runF
 rw [ext_bs,List.drop_zero]
 congr 2
 rw [List.take_of_length_le]
 rw [List.length_drop,bs_len]
 exact Nat.le_refl _
theorem ml_len : (decMl w).length≤w.size:=by
 have q3:=nm_le h
 have e:(decMl w).length≤(bs w).length:=by
  unfold decMl
  rw [List.length_append,List.length_take,List.length_take,List.length_drop]
  by_cases c:ptB w
  ·have:=(nm_pt h c).2
   have q2:=nm_A h
   rw [if_pos c] at q2
   have hA:=numA_le (s:=w)
   rw [bs_len]
   omega
  ·have:nmB w=0:=if_neg c
   rw [this]
   omega
 rw [bs_len] at e
 exact e
end
def stDa (N:Nat)(w:ByteArray)(z:ByteArray×ByteArray):St:=⟨N,[(0,.con (.string z.2)),(2,.ref 0 0 0 0),(4,.con (.bool false)),(5,.con (.int .i64 (nmA w))),(6,.con (.string z.1))],[(0,bxR)]⟩
def stDb (N:Nat)(w:ByteArray)(z:ByteArray×ByteArray):St:=⟨N,[(0,.con (.string z.2)),(2,.ref 0 0 0 0),(4,.con (.bool false)),(5,.con (.int .i64 (nmA w))),(6,.con (.string z.1)),(7,.con (.int .i64 (nmB w)))],[(0,bxR)]⟩
theorem dp_nat {w D:ByteArray}(h:NumOK w)(hD:bs D=decMl w):natP D=some (decV (decMl w))∧D.size=(decMl w).length:=by
 have e:D=(w.extract 0 (numA w)).extract 0 (nmA w) ++ behS w:=bs_ext (hD.trans (all_bs h).symm)
 exact⟨by rw [e];exact nat_all h,by rw [← hD,bs_len]⟩
theorem dp_bs {w:ByteArray}(h:NumOK w)(c:ptB w):bs (w.extract 0 (nmA w) ++ (w.extract (nmA w) w.size).extract 1 (nmB w+1))=decMl w:=by
 have q2:=nm_A h
 have hA:=numA_le (s:=w)
 rw [if_pos c] at q2
 have e:bs (w.extract 0 (nmA w) ++ (w.extract (nmA w) w.size).extract 1 (nmB w+1))=bs (w.extract 0 (nmA w)) ++ bs ((w.extract (nmA w) w.size).extract 1 (nmB w+1)):=by
  unfold bs
  rw [ByteArray.data_append,Array.toList_append]
 rw [e,ext_bs,ext_bs,ext_bs,List.drop_zero,List.drop_take,List.drop_drop,List.take_take]
 unfold decMl
 congr 2
 omega
theorem dp_bs0 {w:ByteArray}(c:¬ptB w):bs (w.extract 0 (nmA w))=decMl w:=by
 rw [ext_bs,List.drop_zero]
 unfold decMl
 rw [show nmB w=0 from if_neg c,List.take_zero,List.append_nil,Nat.sub_zero]
theorem dp_T {w:ByteArray}(h:NumOK w)(c:ptB w):(w.extract (nmA w) w.size).extract (nmB w+1) (w.extract (nmA w) w.size).size=w.extract (numA w) w.size:=by
 have q2:=nm_A h
 have hA:=numA_le (s:=w)
 rw [if_pos c] at q2
 refine bs_ext ?_
 rw [ext_bs,ext_len (Nat.le_refl _),ext_bs,ext_bs,List.drop_take,List.drop_drop,List.take_take]
 rw [show nmA w+(nmB w+1)=numA w by omega]
 congr 1
 omega
theorem dp_S1 {w:ByteArray}(h:NumOK w):chr (w.extract (nmA w) w.size) 0=chr w (nmA w):=by
 have:=nm_le h
 by_cases c:nmA w < w.size
 ·rw [ext_chr (by omega)];rfl
 ·rw [chr_end (by rw [ext_len (Nat.le_refl _)];omega),chr_end (by omega)]
theorem dp_R {w:ByteArray}:(w.extract (nmA w) w.size).extract 1 (w.extract (nmA w) w.size).size=w.extract (nmA w+1) w.size:=by
 refine bs_ext ?_
 rw [ext_bs,ext_len (Nat.le_refl _),ext_bs,ext_bs,List.drop_take,List.drop_drop,List.take_take]
 congr 1
 omega
theorem dPar_ok (w:ByteArray)(h:NumOK w)(hw:w.size≤2000000):Ok Tryz.prog 58 [tS9 w] true (.tup [tNum (decQ w).1 (decQ w).2,.con (.int .i64 0)]):=by
 have q1:=nm_pos h
 have q2:=nm_A h
 have q3:=nm_le h
 have hA:=numA_le (s:=w)
 have hmn:preB w ⟨#[45]⟩=false:=by
  rw [bq_one _ _ (by decide)]
  have hd:=h.dig
  unfold isDig at hd
  simp only [Bool.and_eq_true,decide_eq_true_eq] at hd
  exact decide_eq_false fun e=>by rw [e] at hd;exact absurd hd.1 (by decide)
 have c1:=Cut_no w ⟨#[45]⟩ (by omega) (by decide) hmn
 have c2:=drun_ok w (by omega)
 rw [show runF isDig w 0=nmA w from rfl] at c2
 refine ok_of_ev hC0 mix Tryz.func58 rfl rfl (by kernel_rfl) (zO rfl) ?_
 repeat'(first|(refine seq_j (a:=Code.region 3 _ _) Unit (fun _=>stDa Tryz.f58.ntmps w (w.extract 0 (nmA w),w.extract (nmA w) w.size)) (fun _=>True) ?_ ?_)|(with_reducible first|(refine zz ?_;try intro K hK)|refine zI ?_|refine zt ?_|refine zf ?_)|((first|refine hK _ ?_|refine hK _ _ rfl ?_);clear hK K)|(guard_hyp hK;first|(refine zY ?zz ?_;case zz=>first|exact rfl|exact gJ)|refine fresh_n ?_|refine freshO_n ?_|refine zW ?_|(refine zQ (c1) ?_)|(refine zQ (c2) ?_)|intro b0 hb)|((first|with_reducible refine zm ?_|guard_hyp hK);refine zY ?_ ?_;all_goals(intro hb;(try simp only [sn,sb] at hb);try exact ex0)))
 ·rintro - -
  have hX:=exp_ok w (w.extract (numA w) w.size) h hw rfl
  have c3:=HasPre_ok (w.extract (nmA w) w.size) ⟨#[46]⟩ (by rw [ext_len (Nat.le_refl _)];omega) (by decide)
  rw [bq_one _ _ (by decide),dp_S1 h] at c3
  have c4:=drun_ok ((w.extract (nmA w) w.size).extract 1 (w.extract (nmA w) w.size).size) (by rw [dp_R,ext_len (Nat.le_refl _)];omega)
  rw [dp_R] at c4
  unfold stDa
  dsimp only
  repeat'(first|(refine seq_j (a:=Code.seq (Code.region 5 _ _) (Code.cond _ _ _)) ByteArray (fun D=>stDb Tryz.f58.ntmps w (D,w.extract (numA w) w.size)) (fun D=>bs D=decMl w) ?_ ?_)|(with_reducible first|(refine zz ?_;try intro K hK)|refine zI ?_|refine zt ?_|refine zf ?_)|((first|refine hK _ ?_|refine hK _ _ rfl ?_);clear hK K)|(guard_hyp hK;first|(refine zY ?zz ?_;case zz=>first|exact rfl|exact gJ)|refine fresh_n ?_|refine freshO_n ?_|refine zW ?_|intro b0 hb)|((first|with_reducible refine zm ?_|guard_hyp hK);refine zY ?_ ?_;all_goals(intro hb;(try simp only [sn,sb] at hb);try exact ex0)))
  ·intro D hD
   obtain⟨hP,hDl⟩:=dp_nat h hD
   have hml:=ml_len h
   have hP2:=nParse_ok D (by omega)
   rw [hP] at hP2
   have hO:=Of1_ok 1 1 (by decide)
   have hmv:=decV_len (decMl w)
   have hM:decV (decMl w) < 256 ^ (decMl w).length:=by have:=decV_lt (decMl w) 0;rw [Nat.zero_add,Nat.one_mul] at this;exact this
   have hXb : -1000≤decX w∧decX w≤1000:=by
    unfold decX
    by_cases c:numE w
    ·have:=(nm_E h c).2.2.2
     rw [if_pos c];split<;>omega
    ·rw [if_neg c];omega
   have hb0:nmB w≤2000000:=by
    by_cases c:ptB w
    ·rw [if_pos c] at q2;omega
    ·unfold nmB;rw [if_neg c];omega
   have e1:(decQ w).1=qz (decPn w) (decPd w):=rfl
   have e2:(decQ w).2=qd (decPn w) (decPd w):=rfl
   rw [e1,e2]
   have e3:0≤decX w - nmB w→decPn w=decV (decMl w) * 10 ^ (decX w - nmB w).toNat∧decPd w=1:=fun c=>⟨if_pos c,if_pos c⟩
   have e4:¬0≤decX w - nmB w→decPn w=decV (decMl w)∧decPd w=10 ^ (-(decX w - nmB w)).toNat:=fun c=>⟨if_neg c,if_neg c⟩
   have hnz:¬((nmA w:Int)=0):=by omega
   unfold stDb
   dsimp only
   clear c1 c2 c3 c4 hP e1 e2 hD
   generalize decV (decMl w)=M at *
   generalize decPn w=Pn at *
   generalize decPd w=Pd at *
   generalize decX w=X9 at *
   generalize nmB w=b9 at *
   generalize nmA w=a9 at *
   generalize w.extract (numA w) w.size=TT at *
   have hq:∀(z:Nat) (d:Nat),tQ (iv (false != false) (lm z)) (val (lm d))=tNum (qz z d) (qd z d):=fun z d=>by
    unfold iv
    rw [val_lm,val_lm];rfl
   by_cases hs:0≤X9 - b9
   ·obtain⟨e5,e6⟩:=e3 hs
    have hsub:(((X9 - b9).toNat:Nat):Int)=IntKind.i64.wrap (X9 - (b9:Int)):=by
     rw [Int.toNat_of_nonneg hs]
     exact wrapAny (by simp only [kmin];omega) (by simp only [kmax];omega)
    have hn:(X9 - b9).toNat≤1000:=by omega
    rw [e5,e6]
    generalize (X9 - b9).toNat=n0 at *
    have p1:=pow10_le n0
    have t1:=ten_ok n0 (by omega)
    have t2:=Mul_ok (lm M) (lm (10 ^ n0)) (by omega) (by omega)
    rw [val_lm,val_lm] at t2
    have hml2:(lm (M * 10 ^ n0)).length≤4000000:=by
     have h8:M * 10 ^ n0 < 4294967296 ^ ((decMl w).length+n0):=by
      rw [Nat.pow_add]
      refine Nat.lt_of_lt_of_le (Nat.mul_lt_mul_of_pos_right hM (Nat.pow_pos (by decide))) (Nat.mul_le_mul (Nat.pow_le_pow_left (by decide) _) (Nat.pow_le_pow_left (by decide) _))
     exact Nat.le_trans (lm_len h8) (by omega)
    have t3:=NewD_ok false false (lm (M * 10 ^ n0)) (lm 1) (by rw [val_lm];decide) (by omega) (by rw [lm_one];decide)
    rw [hq] at t3
    repeat'(first|(guard_hyp hK;refine Exists.intro _ (And.intro hsub ?_))|(with_reducible first|(refine zz ?_;try intro K hK)|refine zI ?_|refine zt ?_|refine zf ?_)|((first|refine hK _ ?_|refine hK _ _ rfl ?_);clear hK K)|(guard_hyp hK;first|(refine zY ?zz ?_;case zz=>first|exact rfl|exact gJ)|refine fresh_n ?_|refine freshO_n ?_|refine zW ?_|(refine zQ (hX) ?_)|(refine zQ (hP2) ?_)|(refine zQ (hO) ?_)|(refine zQ (t1) ?_)|(refine zQ (t2) ?_)|(refine zQ (t3) ?_)|intro b0 hb)|((first|with_reducible refine zm ?_|guard_hyp hK);refine zY ?_ ?_;all_goals(intro hb;(try simp only [sn,sb] at hb);try exact ex0)))
    exact retR (l:=[V.con (.bool (decide (qz ((M * 10 ^ n0:Nat):Int) 1 < 0))),.ro true (tn (lm (qz ((M * 10 ^ n0:Nat):Int) 1).natAbs)),.ro true (tn (lm (qd ((M * 10 ^ n0:Nat):Int) 1)))]) rfl tk50 rfl (Nat.zero_lt_succ _) rfl rfl rfl (fz_num _ _)
   ·obtain⟨e5,e6⟩:=e4 hs
    have hneg:(((-(X9 - b9)).toNat:Nat):Int)=IntKind.i64.wrap (0 - (X9 - (b9:Int))):=by
     rw [Int.toNat_of_nonneg (by omega)]
     rw [show(0 - (X9 - (b9:Int))) = -(X9 - b9) by omega]
     exact wrapAny (by simp only [kmin];omega) (by simp only [kmax];omega)
    have hn:(-(X9 - b9)).toNat≤4000000:=by omega
    rw [e5,e6]
    generalize (-(X9 - b9)).toNat=n0 at *
    have p1:=pow10_le n0
    have t1:=ten_ok n0 (by omega)
    have t3:=NewD_ok false false (lm M) (lm (10 ^ n0)) (by rw [val_lm];exact Nat.ne_of_gt (Nat.pow_pos (by decide))) (by omega) (by omega)
    rw [hq] at t3
    repeat'(first|(guard_hyp hK;refine Exists.intro _ (And.intro hneg ?_))|(with_reducible first|(refine zz ?_;try intro K hK)|refine zI ?_|refine zt ?_|refine zf ?_)|((first|refine hK _ ?_|refine hK _ _ rfl ?_);clear hK K)|(guard_hyp hK;first|(refine zY ?zz ?_;case zz=>first|exact rfl|exact gJ)|refine fresh_n ?_|refine freshO_n ?_|refine zW ?_|(refine zQ (hX) ?_)|(refine zQ (hP2) ?_)|(refine zQ (hO) ?_)|(refine zQ (t1) ?_)|(refine zQ (t3) ?_)|intro b0 hb)|((first|with_reducible refine zm ?_|guard_hyp hK);refine zY ?_ ?_;all_goals(intro hb;(try simp only [sn,sb] at hb);try exact ex0)))
    exact retR (l:=[V.con (.bool (decide (qz (M:Int) (10 ^ n0) < 0))),.ro true (tn (lm (qz (M:Int) (10 ^ n0)).natAbs)),.ro true (tn (lm (qd (M:Int) (10 ^ n0))))]) rfl tk50 rfl (Nat.zero_lt_succ _) rfl rfl rfl (fz_num _ _)
  ·intro R2 hR2
   by_cases c:ptB w
   ·rw [decide_eq_true (UInt8.toNat_inj.1 ((pt_iff h).2 c):chr w (nmA w)=46)] at c3
    rw [beh_run h c] at c4
    have hp:=(nm_pt h c).2
    have hbs:=dp_bs h c
    have hTT:=dp_T h c
    rw [if_pos c] at q2
    have hlen:(w.extract (nmA w) w.size).size=w.size - nmA w:=ext_len (Nat.le_refl _)
    have hl2:(w.extract 0 (nmA w)).size≤2000000:=by rw [ext_len q3];omega
    rw [← dp_R] at c4
    repeat'(first|(refine cat_s (by omega) (by omega) ?_)|(with_reducible first|(refine zz ?_;try intro K hK)|refine zI ?_|refine zt ?_|refine zf ?_)|((first|refine hK _ ?_|refine hK _ _ rfl ?_);clear hK K)|(guard_hyp hK;first|(refine zY ?zz ?_;case zz=>first|exact rfl|exact gJ)|refine fresh_n ?_|refine freshO_n ?_|refine zW ?_|(refine zQ (c3) ?_)|(refine zQ (c4) ?_)|intro b0 hb)|((first|with_reducible refine zm ?_|guard_hyp hK);refine zY ?_ ?_;all_goals(intro hb;(try simp only [sn,sb] at hb);try exact ex0)))
    exact hR2 _ _ hbs ⟨rfl,⟨wT hTT,trivial,rfl,rfl,rfl,trivial,rfl,trivial,rfl,trivial,rfl,trivial,trivial⟩,⟨rfl,trivial⟩,⟨bxR_cl _,trivial⟩⟩
   ·rw [decide_eq_false (fun e=>c ((pt_iff h).1 (by rw [e];rfl)):¬chr w (nmA w)=46)] at c3
    have hbs:=dp_bs0 c
    have hTT:w.extract (nmA w) w.size=w.extract (numA w) w.size:=by rw [q2,if_neg c,Nat.add_zero]
    have hB:nmB w=0:=if_neg c
    repeat'(first|(with_reducible first|(refine zz ?_;try intro K hK)|refine zI ?_|refine zt ?_|refine zf ?_)|((first|refine hK _ ?_|refine hK _ _ rfl ?_);clear hK K)|(guard_hyp hK;first|(refine zY ?zz ?_;case zz=>first|exact rfl|exact gJ)|refine fresh_n ?_|refine freshO_n ?_|refine zW ?_|(refine zQ (c3) ?_)|intro b0 hb)|((first|with_reducible refine zm ?_|guard_hyp hK);refine zY ?_ ?_;all_goals(intro hb;(try simp only [sn,sb] at hb);try exact ex0)))
    exact hR2 _ _ hbs ⟨rfl,⟨wT hTT,trivial,rfl,rfl,rfl,trivial,rfl,trivial,rfl,trivial,(by rw [hB];rfl),trivial,trivial⟩,⟨rfl,trivial⟩,⟨bxR_cl _,trivial⟩⟩
 ·intro R hR
  repeat'(first|(with_reducible first|(refine zz ?_;try intro K hK)|refine zI ?_|refine zt ?_|refine zf ?_)|((first|refine hK _ ?_|refine hK _ _ rfl ?_);clear hK K)|(guard_hyp hK;first|(refine zY ?zz ?_;case zz=>first|exact rfl|exact gJ)|refine fresh_n ?_|refine freshO_n ?_|refine zW ?_|intro b0 hb)|((first|with_reducible refine zm ?_|guard_hyp hK);refine zY ?_ ?_;all_goals(intro hb;(try simp only [sn,sb] at hb);try exact ex0)))
  exact hR _ () trivial ⟨rfl,⟨rfl,trivial,rfl,rfl,rfl,trivial,rfl,trivial,rfl,trivial,trivial⟩,⟨rfl,trivial⟩,⟨bxR_cl _,trivial⟩⟩
end Go.Ev
