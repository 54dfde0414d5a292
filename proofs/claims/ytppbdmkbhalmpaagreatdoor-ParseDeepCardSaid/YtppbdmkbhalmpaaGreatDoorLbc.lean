import Derived.Test.YtppbdmkbhalmpaaGreatDoorLbb
import Derived.Test.YtppbdmkbhalmpaaGreatDoorLaa
import Derived.Deep.Slices
set_option linter.all false
set_option maxHeartbeats 60000000
set_option maxRecDepth 10000
namespace Go.Ev
open Go.Proofs
open PS (Trm EntD VarD PrbD FilD)
def tIn (l:List Int):T:=.sl (l.map fun n=>.con (.int .i64 n))
def tuB (l:List Int):List Bool:=(l.take 70).map fun n=>decide (n.tmod 2=0)
def dpA (t:List Bool):ByteArray:=bA (t.map sgB)
def dpC (t:List Bool):ByteArray:=bA (List.replicate (t.count false) 41)
theorem dpA_size (t:List Bool):(dpA t).size=t.length:=by
 unfold dpA
 rw [bA_size,List.length_map]
theorem dpC_size (t:List Bool):(dpC t).size≤t.length:=by
 unfold dpC
 rw [bA_size,List.length_replicate];exact List.count_le_length
theorem dpA_next (t:List Bool)(b:Bool):dpA (t ++ [b])=dpA t ++ bA [sgB b]:=by
 unfold dpA
 rw [bA_app,List.map_append];rfl
theorem dpC_false (t:List Bool):dpC (t ++ [false])=dpC t ++ bA [41]:=by
 unfold dpC
 rw [bA_app,List.count_append,List.count_singleton_self,← List.replicate_append_replicate];rfl
theorem dpC_true (t:List Bool):dpC (t ++ [true])=dpC t:=by
 unfold dpC
 rw [List.count_append];rfl
theorem dp_cat (t:List Bool):dpA t ++ bA [55] ++ dpC t=bA (dpL t):=by
 unfold dpA dpC dpL
 rw [bA_app,bA_app,List.append_assoc];rfl
theorem tuB_len (l:List Int):(tuB l).length=min 70 l.length:=by
 unfold tuB
 rw [List.length_map,List.length_take]
theorem tuB_take {l:List Int}{i:Nat}(h:i < l.length)(h2:i < 70):(tuB l).take (i+1)=(tuB l).take i ++ [decide ((l.getD i 0).tmod 2=0)]:=by
 have hl:i < (tuB l).length:=by rw [tuB_len];omega
 rw [List.take_succ_eq_append_getElem hl]
 congr 2
 unfold tuB
 simp [List.getD_eq_getElem?_getD,List.getElem?_eq_getElem h]
def wanL (k:Nat):List Trm:=⟨1,7,1⟩ :: List.replicate k ⟨6,0,0⟩
def dwS (N:Nat)(l:List Int)(i:Nat):St:=⟨N,[(0,.ro false (tIn l)),(3,.con (.bool true)),(4,.con (.string (dpA ((tuB l).take i)))),(5,.con (.string (dpC ((tuB l).take i)))),(6,.emp),(7,.con (.int .i64 i))],[]⟩
theorem at_I {α:Type}{F:α→T}{l:List α}{j:Nat}{a:α}{K:T→Prop}(h:l[j]?=some a)(k:K (F a)):∃t,(l.map F)[j]?=some t∧K t:=⟨F a,by rw [List.getElem?_map,h];rfl,k⟩
def dwR (N:Nat)(t:List Bool)(z:Nat×List Trm×Nat×Nat):St:=⟨N,[(3,.con (.bool true)),(4,.con (.string (dpA t))),(5,.con (.string (dpC t))),(6,.own 1 z.2.2.1 0 z.2.2.2),(8,.con (.int .i64 (dpA t).size)),(9,.con (.int .i64 ((z.1:Int) - 1)))],[(1,⟨4,z.2.1.map vTz,z.2.2.1,true⟩)]⟩
def dwQ (N:Nat)(t:List Bool):St:=⟨N,[(3,.con (.bool true)),(4,.con (.string (dpA t))),(5,.con (.string (dpC t))),(6,.own 1 (t.count true) 0 (t.count true+1)),(8,.con (.int .i64 (dpA t).size))],[(1,⟨4,(wanL (t.count true)).map vTz,t.count true,true⟩)]⟩
theorem vTz_flat (l:List Trm):∀e ∈ l.map vTz,e.flat:=by
 intro e he
 obtain⟨w,-,rfl⟩:=List.mem_map.1 he
 unfold vTz
 split
 ·exact vT_flat w
 ·intro v hv
  simp at hv
  rcases hv with rfl|rfl|rfl<;>trivial
theorem and_b {α:Type}{p:Prop}{K:α→Prop}{x:α}(h:p)(k:K x):p∧K x:=⟨h,k⟩
theorem sfill_nil {fs:List (Nat×Nat)}{cs:List V}{K:List V→Prop}(h:K cs):sfill fs cs [] K:=h
theorem dp_eq (t:List Bool)(h:64 < t.length):veqL [.int .i64,.int .i64,.int .i64,.str] [.con (.int .i64 31),.con (.int .i64 1),.con (.int .i64 65),.con (.string (bA [sgB (t.getD 64 true)]))] [.con (.int .i64 31),.con (.int .i64 1),.con (.int .i64 65),.con (.string ((dpA t).extract (Int.toNat 64) (Int.toNat 65)))]=some true:=by
 have e:(dpA t).extract (Int.toNat 64) (Int.toNat 65)=bA [sgB (t.getD 64 true)]:=by
  apply ByteArray.ext
  apply Array.ext'
  show((dpA t).extract 64 65).data.toList=_
  rw [ByteArray.data_extract,Array.toList_extract,List.extract_eq_take_drop]
  show List.take 1 (List.drop 64 (t.map sgB))=[_]
  rw [List.drop_eq_getElem_cons (by rw [List.length_map];omega),List.take_succ_cons,List.take_zero,List.getElem_map,List.getD_eq_getElem?_getD,List.getElem?_eq_getElem h];rfl
 rw [e]
 simp [veqL,veq1]
theorem dq7 : decQ (bA [55])=(7,1):=by kernel_rfl
theorem dp_s1 (t:List Bool):(dpA t ++ bA [55]).size=t.length+1:=by
 unfold dpA
 rw [bA_app,bA_size,List.length_append,List.length_map];rfl
theorem wan_ok (k:Nat)(h:k≤70):LOK (wanL k)∧∀t ∈ wanL k,TrmOK t:=by
 refine⟨by unfold LOK wanL;rw [List.length_cons,List.length_replicate];omega,fun t ht=>?_⟩
 have h0:LOK (lm 0):=by
  unfold LOK
  rw [lm_zero];decide
 rcases List.mem_cons.1 ht with rfl|h
 ·refine⟨?_,?_⟩
  ·show LOK (lm 7)
   unfold LOK
   rw [lm_small (by decide) (by decide)];decide
  ·show LOK (lm 1)
   unfold LOK
   rw [lm_small (by decide) (by decide)];decide
 ·obtain⟨-,rfl⟩:=List.mem_replicate.1 h
  exact⟨h0,h0⟩
theorem wan_args (k:Nat):FzL [(1,⟨4,(wanL k).map vTz,k,true⟩)] [.ro false (tTs (wanL k)),.own 1 k 0 (k+1)] [tTs (wanL k),tTs (wanL k)]:=
 fz_l2 (fz_ro rfl fun h=>Bool.noConfusion h) (fz_own (F:=vTz) (G:=tT) (l:=wanL k) rfl rfl rfl (by unfold wanL;rw [List.length_cons,List.length_replicate]) (by rw [List.drop_zero];exact List.take_of_length_le (by unfold wanL;rw [List.length_map,List.length_cons,List.length_replicate];exact Nat.le_refl _)) (fun t ht=>fze_Tz (by
  rcases List.mem_cons.1 ht with rfl|h
  ·exact Or.inl rfl
  ·obtain⟨-,rfl⟩:=List.mem_replicate.1 h
   exact Or.inr ⟨rfl,rfl⟩)) rfl)
theorem deep_ok (l:List Int):Ok Tryz.prog 4 [tIn l] true (.con (.bool true)):=by
 have al:=alive_ok
 refine ok_of_ev hC0 mix Tryz.func4 rfl rfl (by kernel_rfl) (zO rfl) ?_
 repeat'(first|(refine seq_k (a:=(Code.region 5 _ _).seq (Code.block 0 _)) Unit (fun _=>⟨Tryz.f4.ntmps,[(3,.con (.bool true)),(4,.con (.string (dpA (tuB l)))),(5,.con (.string (dpC (tuB l)))),(6,.emp)],[]⟩) (fun _=>True) ?_ ?_)|(with_reducible first|(refine zz ?_;try intro K hK)|refine zI ?_|refine zt ?_|refine zf ?_)|((first|refine hK _ ?_|refine hK _ _ rfl ?_);clear hK K)|(guard_hyp hK;first|(refine zY ?zz ?_;case zz=>first|exact rfl|exact gJ)|refine fresh_n ?_|refine freshO_n ?_|refine zW ?_|(refine zQ (al) ?_)|intro b0 hb)|((first|with_reducible refine zm ?_|guard_hyp hK);refine zY ?_ ?_;all_goals(intro hb;(try simp only [sn,sb] at hb);try exact ex0)))
 rotate_left
 ·intro R hR
  have hd:∀i,i≤l.length→¬(i < l.length∧i < 70)→i≤70→(tuB l).take i=tuB l:=fun i h1 h2 h3=>List.take_of_length_le (by rw [tuB_len];omega)
  repeat'(first|(refine loop_i Nat (dwS Tryz.f4.ntmps l) (fun i=>i≤70∧i≤l.length) (fun i=>70 - i) [] 0 trivial ⟨Nat.zero_le _,Nat.zero_le _⟩ ⟨rfl,⟨rfl,trivial,rfl,trivial,rfl,trivial,rfl,trivial,rfl,trivial,rfl,trivial,trivial⟩,trivial,trivial⟩ ?_)|(with_reducible first|(refine zz ?_;try intro K hK)|refine zI ?_|refine zt ?_|refine zf ?_)|((first|refine hK _ ?_|refine hK _ _ rfl ?_);clear hK K)|(guard_hyp hK;first|(refine zY ?zz ?_;case zz=>first|exact rfl|exact gJ)|refine fresh_n ?_|refine freshO_n ?_|refine zW ?_|intro b0 hb)|((first|with_reducible refine zm ?_|guard_hyp hK);refine zY ?_ ?_;all_goals(intro hb;(try simp only [sn,sb] at hb);try exact ex0)))
  rintro i ⟨h1,h2⟩
  have za:=dpA_size ((tuB l).take i)
  have zc:=dpC_size ((tuB l).take i)
  have zl:((tuB l).take i).length≤70:=by rw [List.length_take,tuB_len];omega
  unfold dwS
  by_cases hi:i < l.length∧i < 70
  ·have hgl:l[i]?=some (l.getD i 0):=by rw [List.getD_eq_getElem?_getD,List.getElem?_eq_getElem hi.1];rfl
   have ht:=tuB_take hi.1 hi.2
   by_cases hp:(l.getD i 0).tmod 2=0
   ·rw [decide_eq_true hp] at ht
    have e4:=dpA_next ((tuB l).take i) true
    have e5:=dpC_true ((tuB l).take i)
    rw [← ht] at e4 e5
    repeat'(first|(guard_hyp hK;first|refine at_I hgl ?_|refine And.intro (show(_:Nat)+1≤9223372036854775807 by omega) ?_)|(with_reducible first|(refine zz ?_;try intro K hK)|refine zI ?_|refine zt ?_|refine zf ?_)|((first|refine hK _ ?_|refine hK _ _ rfl ?_);clear hK K)|(guard_hyp hK;first|(refine zY ?zz ?_;case zz=>first|exact rfl|exact gJ)|refine fresh_n ?_|refine freshO_n ?_|refine zW ?_|intro b0 hb)|((first|with_reducible refine zm ?_|guard_hyp hK);refine zY ?_ ?_;all_goals(intro hb;(try simp only [sn,sb] at hb);try exact ex0)))
    refine⟨i+1,⟨by omega,by omega⟩,by omega,?_⟩
    rw [e4,e5]
    exact⟨rfl,⟨rfl,trivial,rfl,trivial,rfl,trivial,rfl,trivial,rfl,trivial,rfl,trivial,trivial⟩,trivial,trivial⟩
   ·rw [decide_eq_false hp] at ht
    have e4:=dpA_next ((tuB l).take i) false
    have e5:=dpC_false ((tuB l).take i)
    rw [← ht] at e4 e5
    repeat'(first|(guard_hyp hK;first|refine at_I hgl ?_|refine And.intro (show(_:Nat)+1≤9223372036854775807 by omega) ?_)|(with_reducible first|(refine zz ?_;try intro K hK)|refine zI ?_|refine zt ?_|refine zf ?_)|((first|refine hK _ ?_|refine hK _ _ rfl ?_);clear hK K)|(guard_hyp hK;first|(refine zY ?zz ?_;case zz=>first|exact rfl|exact gJ)|refine fresh_n ?_|refine freshO_n ?_|refine zW ?_|intro b0 hb)|((first|with_reducible refine zm ?_|guard_hyp hK);refine zY ?_ ?_;all_goals(intro hb;(try simp only [sn,sb] at hb);try exact ex0)))
    refine⟨i+1,⟨by omega,by omega⟩,by omega,?_⟩
    rw [e4,e5]
    exact⟨rfl,⟨rfl,trivial,rfl,trivial,rfl,trivial,rfl,trivial,rfl,trivial,rfl,trivial,trivial⟩,trivial,trivial⟩
  ·rw [hd i h2 hi h1]
   repeat'(first|(with_reducible first|(refine zz ?_;try intro K hK)|refine zI ?_|refine zt ?_|refine zf ?_)|((first|refine hK _ ?_|refine hK _ _ rfl ?_);clear hK K)|(guard_hyp hK;first|(refine zY ?zz ?_;case zz=>first|exact rfl|exact gJ)|refine fresh_n ?_|refine freshO_n ?_|refine zW ?_|intro b0 hb)|((first|with_reducible refine zm ?_|guard_hyp hK);refine zY ?_ ?_;all_goals(intro hb;(try simp only [sn,sb] at hb);try exact ex0)))
   all_goals first|(exfalso;omega)|exact hR _ () trivial (lf_of0 ⟨Lc.same _ trivial,Lc.same _ trivial,Lc.same _ trivial,Lc.same _ trivial,trivial⟩ trivial)
 rintro - -
 have h70:(tuB l).length≤70:=by rw [tuB_len];omega
 have za:=dpA_size (tuB l)
 have zc:=dpC_size (tuB l)
 generalize tuB l=t at *
 have n7:=numb_ok 7 (by decide) (by decide)
 repeat'(first|(refine seq_k (a:=(Code.region 14 _ _).seq (Code.block 2 _)) Unit (fun _=>dwQ Tryz.f4.ntmps t) (fun _=>True) ?_ ?_)|(with_reducible first|(refine zz ?_;try intro K hK)|refine zI ?_|refine zt ?_|refine zf ?_)|((first|refine hK _ ?_|refine hK _ _ rfl ?_);clear hK K)|(guard_hyp hK;first|(refine zY ?zz ?_;case zz=>first|exact rfl|exact gJ)|refine fresh_n ?_|refine freshO_n ?_|refine zW ?_|(refine zQ (n7) ?_)|intro b0 hb)|((first|with_reducible refine zm ?_|guard_hyp hK);refine zY ?_ ?_;all_goals(intro hb;(try simp only [sn,sb] at hb);try exact ex0)))
 rotate_left
 ·intro R hR
  repeat'(first|(with_reducible first|(refine zz ?_;try intro K hK)|refine zI ?_|refine zt ?_|refine zf ?_)|((first|refine hK _ ?_|refine hK _ _ rfl ?_);clear hK K)|(guard_hyp hK;first|(refine zY ?zz ?_;case zz=>first|exact rfl|exact gJ)|refine fresh_n ?_|refine freshO_n ?_|refine zW ?_|intro b0 hb)|((first|with_reducible refine zm ?_|guard_hyp hK);refine zY ?_ ?_;all_goals(intro hb;(try simp only [sn,sb] at hb);try exact ex0)))
  refine loop_f (Nat×List Trm×Nat×Nat) (dwR Tryz.f4.ntmps t) (fun z=>z.1≤t.length∧z.2.2.1=(t.drop z.1).count true∧z.2.2.2=z.2.2.1+1∧z.2.1=wanL z.2.2.1) (fun z=>z.1) ((dpA t).size,[⟨1,7,1⟩],0,1) ⟨Nat.le_of_eq za,by dsimp only;rw [za,List.drop_length];rfl,rfl,rfl⟩ (lf_of0 ⟨Lc.same _ trivial,Lc.same _ trivial,Lc.same _ trivial,Lc.same _ rfl,Lc.same _ trivial,Lc.same _ trivial,trivial⟩ ⟨lfOb_same rfl (vTz_flat _),trivial⟩) ?_
  rintro⟨j,L,v,n⟩ ⟨q1,q2,q3,q4⟩
  dsimp only at q1 q2 q3 q4
  have hlc:=List.count_le_length (a:=true) (l:=t.drop j)
  rw [List.length_drop] at hlc
  unfold dwR
  dsimp only
  have hL:L.length=v+1:=by rw [q4,wanL,List.length_cons,List.length_replicate]
  cases j with
  |zero=>
   rw [List.drop_zero] at q2
   repeat'(first|(with_reducible first|(refine zz ?_;try intro K hK)|refine zI ?_|refine zt ?_|refine zf ?_)|((first|refine hK _ ?_|refine hK _ _ rfl ?_);clear hK K)|(guard_hyp hK;first|(refine zY ?zz ?_;case zz=>first|exact rfl|exact gJ)|refine fresh_n ?_|refine freshO_n ?_|refine zW ?_|intro b0 hb)|((first|with_reducible refine zm ?_|guard_hyp hK);refine zY ?_ ?_;all_goals(intro hb;(try simp only [sn,sb] at hb);try exact ex0)))
   rw [q3,q4,q2]
   exact hR _ () trivial (lf_of0 ⟨Lc.same _ trivial,Lc.same _ trivial,Lc.same _ trivial,Lc.same _ rfl,Lc.same _ trivial,trivial⟩ ⟨lfOb_same rfl (vTz_flat _),trivial⟩)
  |succ m=>
   have em:(((m+1:Nat):Int) - 1)=(m:Int):=by omega
   rw [em]
   have hx:chr (dpA t) m=sgB (t.getD m true):=by
    unfold dpA
    rw [bA_chr,List.getD_eq_getElem?_getD,List.getElem?_map,List.getD_eq_getElem?_getD,List.getElem?_eq_getElem q1];rfl
   have hdr:t.drop m=t.getD m true :: t.drop (m+1):=by
    rw [List.drop_eq_getElem_cons q1,List.getD_eq_getElem?_getD,List.getElem?_eq_getElem q1];rfl
   repeat'(first|(guard_hyp hK;first|(refine at_s ?_;intro hu)|refine And.intro (by128 (Nat.le_of_ble_eq_true rfl) (by first|omega|(simp only [ln];omega))) ?_)|(with_reducible first|(refine zz ?_;try intro K hK)|refine zI ?_|refine zt ?_|refine zf ?_)|((first|refine hK _ ?_|refine hK _ _ rfl ?_);clear hK K)|(guard_hyp hK;first|(refine zY ?zz ?_;case zz=>first|exact rfl|exact gJ)|refine fresh_n ?_|refine freshO_n ?_|refine zW ?_|intro b0 hb)|((first|with_reducible refine zm ?_|guard_hyp hK);refine zY ?_ ?_;all_goals(intro hb;(try simp only [sn,sb] at hb);try exact ex0)))
   ·have hb9:t.getD m true=true:=by
     cases hc:t.getD m true with
     |true=>rfl
     |false=>rw [hx,hc] at hb;exact absurd hb (by decide)
    rw [hb9] at hdr
    refine⟨(m,L ++ [⟨6,0,0⟩],v+1,n+1),⟨by dsimp only;omega,by dsimp only;rw [hdr,List.count_cons_self,q2],by dsimp only;omega,by dsimp only;rw [q4,wanL,wanL,List.replicate_succ',List.cons_append]⟩,Nat.lt_succ_self _,lf_of0 ⟨Lc.same _ trivial,Lc.same _ trivial,Lc.same _ trivial,Lc.same _ rfl,Lc.same _ trivial,Lc.same _ trivial,trivial⟩ ⟨lfOb_app (F:=vTz) (l:=L) (a:=⟨6,0,0⟩) rfl (by omega) rfl (fun x hx=>vTz_flat L _ (List.mem_map_of_mem hx)) (vTz_flat [⟨6,0,0⟩] _ (List.mem_singleton.2 rfl)).lv,trivial⟩⟩
   ·have hb9:t.getD m true=false:=by
     cases hc:t.getD m true with
     |false=>rfl
     |true=>rw [hx,hc] at hb;exact absurd rfl hb
    rw [hb9] at hdr
    refine⟨(m,L,v,n),⟨by dsimp only;omega,by dsimp only;rw [hdr,List.count_cons_of_ne (by decide),q2],q3,q4⟩,Nat.lt_succ_self _,lf_of0 ⟨Lc.same _ trivial,Lc.same _ trivial,Lc.same _ trivial,Lc.same _ rfl,Lc.same _ trivial,Lc.same _ trivial,trivial⟩ ⟨lfOb_same rfl (vTz_flat _),trivial⟩⟩
 rintro - -
 have hk:t.count true≤t.length:=List.count_le_length
 have p:=pNums (bA (dpL t)) (by rw [bA_size,dp_len];have:=List.count_le_length (a:=false) (l:=t);omega)
 unfold dwQ
 by_cases hn:t.length≤64
 ·rw [deep_le decQ t hn,dq7,← dp_cat] at p
  have st:=sTerms (wanL (t.count true)) (wan_ok _ (by omega)).1 (wan_ok _ (by omega)).2
  repeat'(first|(guard_hyp hK;first|refine and_b (show(_:Nat)+1≤9223372036854775807 by omega) ?_|refine and_b (show ByteArray.size (dpA t ++ bA [55])+ByteArray.size (dpC t)≤9223372036854775807 by rw [dp_s1];omega) ?_)|(with_reducible first|(refine zz ?_;try intro K hK)|refine zI ?_|refine zt ?_|refine zf ?_)|((first|refine hK _ ?_|refine hK _ _ rfl ?_);clear hK K)|(guard_hyp hK;first|(refine zY ?zz ?_;case zz=>first|exact rfl|exact gJ)|refine fresh_n ?_|refine freshO_n ?_|refine zW ?_|(refine zQ (p) ?_)|(refine' Or.inl (Exists.intro _ (Exists.intro _ (Exists.intro _ (And.intro (st) (Exists.intro [(1,_)] (And.intro (lpre1 ?lh) (And.intro ?lz (And.intro rfl ?_))))))));(case lh=>exact rfl);(case lz=>exact wan_args _))|intro b0 hb)|((first|with_reducible refine zm ?_|guard_hyp hK);refine zY ?_ ?_;all_goals(intro hb;(try simp only [sn,sb] at hb);try exact ex0)))
  all_goals exact retb rfl rfl rfl
 ·rw [deep_gt decQ t (by omega),← dp_cat] at p
  have fo:=fault_ok as_ok ⟨31,1,65,bA [sgB (t.getD 64 true)]⟩
  have hv:=dp_eq t (by omega)
  repeat'(first|(guard_hyp hK;first|refine Exists.intro _ (Exists.intro true (And.intro eqF (And.intro rfl (And.intro rfl (And.intro hv ?_)))))|refine sfill_nil ?_|refine and_b (show(_:Nat)+1≤9223372036854775807 by omega) ?_|refine and_b (show ByteArray.size (dpA t ++ bA [55])+ByteArray.size (dpC t)≤9223372036854775807 by rw [dp_s1];omega) ?_)|(with_reducible first|(refine zz ?_;try intro K hK)|refine zI ?_|refine zt ?_|refine zf ?_)|((first|refine hK _ ?_|refine hK _ _ rfl ?_);clear hK K)|(guard_hyp hK;first|(refine zY ?zz ?_;case zz=>first|exact rfl|exact gJ)|refine fresh_n ?_|refine freshO_n ?_|refine zW ?_|(refine zQ (p) ?_)|(refine zQ (fo) ?_)|intro b0 hb)|((first|with_reducible refine zm ?_|guard_hyp hK);refine zY ?_ ?_;all_goals(intro hb;(try simp only [sn,sb] at hb);try exact ex0)))
  all_goals exact retb rfl rfl rfl
open Go.Deep
def memS (W:World):Sto:=fun b o=>W.cell? ⟨b,o,none⟩
def RdC (S:Sto)(t:T)(cs:List Value):Prop:=
 t.cells.length=cs.length∧∀(j:Nat) (u:T) (c:Value),t.cells[j]?=some u→cs[j]?=some c→RdT S u c∧c.oneCell'=true
structure Bulk {H:Type}(B:DataW H→Nat):Prop where
 len:∀e s,e.length≤B (.slice e s)
 mem:∀e s d,d ∈ e→B d≤B (.slice e s)
 part:∀ps d,d ∈ ps→B d≤B (.agg ps)
 sum:∀e s,(e.map B).sum≤B (.slice e s)
section
variable {H : Type} (enc : TypeId × Value → H) (P : Program) (B : DataW H → Nat) (M : Nat)
def Rdr {α:Type}(t:TypeId)(F:α→T)(good:α→Prop):Prop:=
 ∀(W:World) (sp:Nat→Bool) (hd:Bool) (fuel:Nat) (cs:List Value) (d:DataW H) (ps:List MemPlace),DataW.trod enc P W 0 sp hd fuel t cs=some (d,ps)→B d≤M→
  ∃a:α,good a∧RdC (memS W) (F a) cs
variable {enc P B M}
theorem rdc_con {S:Sto}{v:Value}(h:v.oneCell'=true):RdC S (.con v) [v]:=by
 refine⟨rfl,fun j u c h1 h2=>?_⟩
 cases j with
 |zero=>simp [T.cells] at h1 h2;subst h1;subst h2;exact⟨.con _ h,h⟩
 |succ j=>simp at h2
theorem rdr_int {t:TypeId}{k:IntKind}(ht:P.underlying t=some (.int k)):Rdr enc P B M t (fun n:Int=>T.con (.int k n)) (fun n=>(Lit.int k n).wf=true):=by
 intro W sp hd fuel cs d ps h _
 obtain⟨n,rfl,_,hw⟩:=DataW.trod_int ht h
 exact⟨n,hw,rdc_con rfl⟩
theorem rdr_sliceB {α:Type}[Inhabited α]{t e:TypeId}{sz:Nat}{F:α→T}{good:Nat→α→Prop}(hB:Bulk B)(ht:P.underlying t=some (.slice e))(hsz:P.cellsOf e=sz)(h0:0 < sz)(hF:∀a,(F a).cells.length=sz)
  (he:∀(W:World) (sp:Nat→Bool) (hd:Bool) (fuel:Nat) (cs:List Value) (d:DataW H) (ps:List MemPlace),DataW.trod enc P W 0 sp hd fuel e cs=some (d,ps)→B d≤M→∃a:α,good (B d) a∧RdC (memS W) (F a) cs):Rdr enc P B M t (fun l:List α=>T.sl (l.map F)) (fun l=>l.length≤M∧∃ms:Nat→Nat,((List.range l.length).map ms).sum≤M∧∀i,i < l.length→ms i≤M∧good (ms i) (l.getD i default)):=by
 intro W sp hd fuel cs d ps h hb
 rcases open_slice ht h with⟨rfl,hx⟩|⟨a,len,cap,m,n,D,Pl,rfl,_,hl,hm,hmm,hx,hel⟩
 ·refine⟨[],⟨Nat.zero_le _,fun _=>0,Nat.zero_le _,fun i h=>absurd h (Nat.not_lt_zero i)⟩,rfl,fun j u c h1 h2=>?_⟩
  cases j with
  |zero=>
   simp [T.cells] at h1 h2;subst h1;subst h2
   refine⟨?_,rfl⟩
   exact RdT.sl [] none 0 0 0 0 (fun _ _=>undef) (Nat.zero_le _) (Nat.zero_le _) (fun h=>absurd rfl h) (fun i t h=>by simp at h) (fun i t j h=>by simp at h) (fun i t j h=>by simp at h) (fun i t j u h=>by simp at h)
  |succ j=>simp at h2
 ·have hlm:len≤m:=by rw [hmm];split<;>omega
  simp only [Prod.mk.injEq] at hx
  have hd':=hx.1
  subst hd'
  have hall:∀i,i < len→∃p:α×List Value,W.cells? 0 (a.add (i * sz)) sz=some p.2∧good (B (D i)) p.1∧RdC (memS W) (F p.1) p.2:=by
   intro i hi
   obtain⟨cs',h1,h2⟩:=hel i (by omega)
   rw [hsz] at h1
   obtain⟨x,hx1,hx2⟩:=he W sp hd n cs' (D i) (Pl i) h2 (Nat.le_trans (hB.mem _ _ _ (List.mem_map.2 ⟨i,by simpa using hi,rfl⟩)) hb)
   exact⟨(x,cs'),h1,hx1,hx2⟩
  obtain⟨f,hf⟩:=choose_lt hall
  have hlen:len≤M:=by have:=hB.len ((List.range len).map D) ((List.range (m - len)).map fun j=>D (len+j));simp at this;omega
  refine⟨(List.range len).map fun i=>(f i).1,⟨by simpa using hlen,fun i=>B (D i),?_,fun i hi=>?_⟩,rfl,fun j u c h1 h2=>?_⟩
  ·have:=hB.sum ((List.range len).map D) ((List.range (m - len)).map fun j=>D (len+j))
   rw [List.map_map] at this
   rw [List.length_map,List.length_range]
   exact Nat.le_trans this hb
  ·have hi:i < len:=by simpa using hi
   refine⟨Nat.le_trans (hB.mem _ _ _ (List.mem_map.2 ⟨i,by simpa using hi,rfl⟩)) hb,?_⟩
   rw [List.getD,List.getElem?_map,List.getElem?_range hi]
   exact(hf i hi).2.1
  ·cases j with
   |succ j=>simp at h2
   |zero=>
    simp [T.cells] at h1 h2;subst h1;subst h2
    refine⟨?_,rfl⟩
    have hget:∀(i:Nat) (t:T),((List.range len).map (F ∘ fun i=>(f i).1))[i]?=some t→i < len∧t=F (f i).1:=by
     intro i t hi
     rw [List.getElem?_map] at hi
     obtain⟨k,hk,rfl⟩:=Option.map_eq_some_iff.1 hi
     have hil:i < len:=by have:=(List.getElem?_eq_some_iff.1 hk).1;simpa using this
     rw [List.getElem?_range hil] at hk
     obtain rfl:i=k:=by simpa using hk
     exact⟨hil,rfl⟩
    have hcell:∀i j,i < len→j < sz→W.cell? ((a.add (i * sz)).add j)=(f i).2[j]?∧(f i).2.length=sz:=by
     intro i j hi hj
     obtain⟨_,h2,h3⟩:=World.cells?_some (hf i hi).1
     exact⟨h3 j hj,h2⟩
    have hspot:0 < len→a.spot=none:=by
     intro hl0
     obtain⟨h3,h4⟩:=hcell 0 0 hl0 h0
     rw [List.getElem?_eq_getElem (by omega)] at h3
     have:=World.cell?_spot h3
     simpa [Addr.add] using this
    have haddr:∀i j,0 < len→(a.add (i * sz)).add j=⟨a.block,a.off+i * sz+j,none⟩:=by
     intro i j hl0
     have hs:=hspot hl0
     obtain⟨b,o,spot⟩:=a
     simp only at hs
     subst hs
     unfold Addr.add
     by_cases h1:i * sz=0<;>by_cases h2:j=0<;>simp [h1,h2]
    have hlen':len=((List.range len).map (F ∘ fun i=>(f i).1)).length:=by simp
    have key:=RdT.sl (S:=memS W) ((List.range len).map (F ∘ fun i=>(f i).1)) (some a) cap sz a.block a.off (fun i j=>(f i).2.getD j undef) (by simpa using hl) hm
     (fun hne=>by
      have hl0:0 < len:=by
       cases len with
       |zero=>simp at hne
       |succ n=>omega
      have hs:=hspot hl0
      obtain⟨b,o,spot⟩:=a
      simp only at hs
      subst hs;rfl)
     (fun i t hi=>by rw [(hget i t hi).2];exact hF _)
     (fun i t j hi hj=>by
      obtain⟨hil,rfl⟩:=hget i t hi
      rw [hF] at hj
      obtain⟨h3,h4⟩:=hcell i j hil hj
      rw [haddr i j (by omega),List.getElem?_eq_getElem (by omega)] at h3
      show W.cell? ⟨a.block,a.off+i * sz+j,none⟩=some ((f i).2.getD j undef)
      rw [h3];simp [List.getD,List.getElem?_eq_getElem (show j < (f i).2.length by omega)])
     (fun i t j hi hj=>by
      obtain⟨hil,rfl⟩:=hget i t hi
      obtain⟨h5,h6⟩:=(hf i hil).2.2
      have hj2:j < (f i).2.length:=by omega
      have:=(h6 j _ _ (List.getElem?_eq_getElem hj) (List.getElem?_eq_getElem hj2)).2
      simpa [List.getD,List.getElem?_eq_getElem hj2] using this)
     (fun i t j u hi hu=>by
      obtain⟨hil,rfl⟩:=hget i t hi
      obtain⟨h5,h6⟩:=(hf i hil).2.2
      have hj:=(List.getElem?_eq_some_iff.1 hu).1
      have hj2:j < (f i).2.length:=by omega
      have:=(h6 j _ _ hu (List.getElem?_eq_getElem hj2)).1
      simpa [List.getD,List.getElem?_eq_getElem hj2] using this)
    rw [← hlen'] at key
    exact key
theorem rdr_slice {α:Type}[Inhabited α]{t e:TypeId}{sz:Nat}{F:α→T}{good:α→Prop}(hB:Bulk B)(ht:P.underlying t=some (.slice e))(hsz:P.cellsOf e=sz)(h0:0 < sz)(hF:∀a,(F a).cells.length=sz)
  (he:Rdr enc P B M e F good):Rdr enc P B M t (fun l:List α=>T.sl (l.map F)) (fun l=>l.length≤M∧∀x ∈ l,good x):=by
 intro W sp hd fuel cs d ps h hb
 obtain⟨l,⟨h1,ms,_,h3⟩,h4⟩:=rdr_sliceB (good:=fun _=>good) hB ht hsz h0 hF he W sp hd fuel cs d ps h hb
 refine⟨l,⟨h1,fun x hx=>?_⟩,h4⟩
 obtain⟨i,hi,rfl⟩:=List.mem_iff_getElem.1 hx
 have:=(h3 i hi).2
 rwa [List.getD,List.getElem?_eq_getElem hi] at this
end
end Go.Ev
