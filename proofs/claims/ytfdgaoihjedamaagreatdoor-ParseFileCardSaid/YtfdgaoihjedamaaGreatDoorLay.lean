import Derived.Test.YtfdgaoihjedamaaGreatDoorLav
import Derived.WalkKit
import Derived.BigCall
import Derived.Lib.OthersKept
import Derived.Laws.RangeAny
import Derived.Test.YtfdgaoihjedamaaGreatDoorLax
import Derived.Test.YtfdgaoihjedamaaGreatDoorLau
set_option linter.all false
set_option maxHeartbeats 8000000
set_option maxRecDepth 10000
namespace Go.Proofs
open Go.RowKit Go.Ev
set_option maxHeartbeats 4000000 in
set_option maxRecDepth 1000000 in
theorem drun_calls (s:ByteArray)(w:World)(hs:s.size≤1073741824) :
  Calls Tryz.prog 110 #[.string s] w fun e w'=>e=.returned (.int .i64 (runF isDig s 0:Nat))∧Below w.heap.size w w':=by
 go_enter Tryz.func110,Tryz.ntmps110
 go_wp2
 go_loopw [3] (fun i wr=>∃n:Nat,i=.int .i64 (n:Nat)∧wr.heap[w.heap.size]?=some (.stringIter s n)∧Below w.heap.size w wr∧n≤s.size∧n+runF isDig s n=runF isDig s 0)
  (fun i _=>s.size - (intOf i).toNat)
 case atStart=>
  refine⟨0,rfl,?_,?_,Nat.zero_le _,Nat.zero_add _⟩
  ·have:=World.iter_heap w s 0
   simpa using this
  ·first|exact(Below.refl _ w).alloc (Nat.le_refl _) _|(have h9:=(Below.refl w.heap.size w).alloc (Nat.le_refl _) (.stringIter s 0);exact h9)
 case round=>
  obtain⟨n,rfl,hit,hbw,hn,hr⟩:=hrel
  by_cases hp:n < s.size
  ·have hnx:∀ty,(Instr.next (.pointer (some ⟨w.heap.size,0,none⟩)) true ty).run Tryz.prog wr=_:=fun ty=>Lib.run_next_any_at wr w.heap.size s n ty hit hp
   have hg:=chr_get hp
   have hit2:=Lib.iterAt_heap wr w.heap.size s n (n+(Utf8.decode s n).2) hit
   have hbw2:=Lib.below_iterAt hbw (k:=w.heap.size) (Nat.le_refl _) s (n+(Utf8.decode s n).2)
   cases hD:isDig (chr s n) with
   |true=>
    have hd2:=hD
    unfold isDig at hd2
    simp only [Bool.and_eq_true,decide_eq_true_eq] at hd2
    have he:=decode_ascii s n hp (by rw [hg];omega)
    have e1:(Utf8.decode s n).1=(chr s n).toNat:=by rw [he,hg]
    have e2:(Utf8.decode s n).2=1:=by rw [he]
    rw [runF_yes hp hD] at hr
    have b1:(decide (((Utf8.decode s n).1:Int) < 48))=false:=by rw [e1];simp;omega
    have b2:(decide (((Utf8.decode s n).1:Int) > 57))=false:=by rw [e1];simp;omega
    rw [e2] at hit2 hbw2
    go_wp2
    all_goals first|(exfalso;omega)|exact⟨⟨n+1,by simp,hit2,hbw2,hp,by rw [← hr];omega⟩,by simp [intOf];omega⟩
   |false=>
    rw [runF_no hp hD,Nat.add_zero] at hr
    have hlo:(Utf8.decode s n).1 < 48∨57 < (Utf8.decode s n).1:=by
     by_cases h9:(chr s n).toNat < 128
     ·have he:=decode_ascii s n hp (by rw [hg];exact h9)
      have e1:(Utf8.decode s n).1=(chr s n).toNat:=by rw [he,hg]
      unfold isDig at hD
      simp only [Bool.and_eq_false_iff,decide_eq_false_iff_not] at hD
      omega
     ·have:=(decode_high s n hp (by rw [hg];omega)).1
      omega
    subst hr
    go_wp2
    all_goals first|(exfalso;omega)|(go_ret;exact⟨rfl,hbw2⟩)
  ·have hnx:∀ty,(Instr.next (.pointer (some ⟨w.heap.size,0,none⟩)) true ty).run Tryz.prog wr=_:=fun ty=>Lib.run_next_end_at wr w.heap.size s n ty hit hp
   rw [runF_end (by omega),Nat.add_zero] at hr
   subst hr
   go_wp2
   go_ret
   exact⟨rfl,hbw⟩
end Go.Proofs
namespace Go.Ev
open Go.Proofs
theorem drun_ok (s:ByteArray)(hs:s.size≤1073741824):Ok Tryz.prog 110 [tS9 s] true (.con (.int .i64 (runF isDig s 0:Nat))):=
 ok_below (l:=[.string s]) ⟨_,Tryz.func110,rfl,rfl⟩ (fun S=>.con _ rfl) (fun w=>drun_calls s w hs)
structure NumOK (w:ByteArray):Prop where
 dig:isDig (chr w 0)=true
 len:numF w=w.size
 big:numB w=false
 pos:1≤w.size
def nmA (w:ByteArray):Nat:=runF isDig w 0
def ptB (w:ByteArray):Prop:=(chr w (runF isDig w 0)).toNat=46∧0 < runF isDig w (runF isDig w 0+1)
instance  (w:ByteArray):Decidable (ptB w):=inferInstanceAs (Decidable (_∧_))
def nmB (w:ByteArray):Nat:=if ptB w then runF isDig w (nmA w+1) else 0
def decMl (w:ByteArray):List UInt8:=(bs w).take (nmA w) ++ ((bs w).drop (nmA w+1)).take (nmB w)
def decXn (w:ByteArray):Nat:=decV (bs (sub w (numK w) (runF isDig w (numK w))))
def decX (w:ByteArray):Int:=if numE w then(if(chr w (numA w+1)).toNat=45 then -(decXn w:Int) else decXn w) else 0
def decPn (w:ByteArray):Nat:=if 0≤decX w - nmB w then decV (decMl w) * 10 ^ (decX w - nmB w).toNat else decV (decMl w)
def decPd (w:ByteArray):Nat:=if 0≤decX w - nmB w then 1 else 10 ^ (-(decX w - nmB w)).toNat
def decQ (w:ByteArray):Int×Nat:=(qz (decPn w) (decPd w),qd (decPn w) (decPd w))
theorem ext_chr {s:ByteArray}{i j k:Nat}(h:i+k < j):chr (s.extract i j) k=chr s (i+k):=by
 have:=sub_chr (s:=s) (i:=i) (n:=j - i) (j:=k) (by omega)
 unfold sub at this
 rw [show i+(j - i)=j by omega] at this
 exact this
theorem ext_len {s:ByteArray}{i j:Nat}(h:j≤s.size):(s.extract i j).size=j - i:=by
 rw [ByteArray.size_extract];omega
theorem ext_bs (s:ByteArray)(i j:Nat):bs (s.extract i j)=((bs s).drop i).take (j - i):=by
 unfold bs
 rw [ByteArray.data_extract,Array.toList_extract,List.extract_eq_take_drop]
theorem bs_ext {s t:ByteArray}(h:bs s=bs t):s=t:=ByteArray.ext (Array.toList_inj.1 h)
theorem decV_lt : ∀(l:List UInt8) (v:Nat),l.foldl (fun v b=>10 * v+(b.toNat - 48)) v < (v+1) * 256 ^ l.length
 | [],v=>by simp
 |b :: r,v=>by
  have hb:=UInt8.toNat_lt b
  have ih:=decV_lt r (10 * v+(b.toNat - 48))
  rw [List.foldl_cons,List.length_cons,Nat.pow_succ]
  refine Nat.lt_of_lt_of_le ih ?_
  rw [Nat.mul_comm (256 ^ r.length) 256,← Nat.mul_assoc]
  exact Nat.mul_le_mul_right _ (by omega)
theorem decV_len (l:List UInt8):(lm (decV l)).length≤l.length:=by
 refine lm_len ?_
 have:=decV_lt l 0
 rw [Nat.zero_add,Nat.one_mul] at this
 exact Nat.lt_of_lt_of_le this (Nat.pow_le_pow_left (by decide) _)
section
variable {w : ByteArray} (h : NumOK w)
include h
theorem nm_pos : 1≤nmA w:=by
 have:=runF_yes (p:=isDig) h.pos h.dig
 unfold nmA;omega
theorem nm_le : nmA w≤w.size:=by
 have:=runF_le (p:=isDig) (s:=w) (i:=0) (Nat.zero_le _)
 unfold nmA;omega
theorem nm_A : numA w=nmA w+(if ptB w then 1+nmB w else 0):=by
 by_cases c:ptB w
 ·have e1:numA w=runF isDig w 0+1+runF isDig w (runF isDig w 0+1):=if_pos c
  have e2:nmB w=runF isDig w (runF isDig w 0+1):=if_pos c
  rw [if_pos c,e1,e2];unfold nmA;omega
 ·have e1:numA w=runF isDig w 0:=if_neg c
  rw [if_neg c,e1];rfl
theorem nm_E (c:numE w):numA w+1≤numK w∧numK w+runF isDig w (numK w)=w.size∧0 < runF isDig w (numK w)∧decXn w≤1000:=by
 have h1:=h.len
 have h2:=h.big
 unfold numF at h1
 rw [if_pos c] at h1
 unfold numB at h2
 rw [decide_eq_true c,Bool.true_and] at h2
 have h3:=of_decide_eq_false h2
 refine⟨by unfold numK;split<;>omega,h1,c.2,by unfold decXn;omega⟩
theorem nm_N (c:¬numE w):numA w=w.size:=by
 have h1:=h.len
 unfold numF at h1
 rw [if_neg c] at h1
 exact h1
theorem nm_dig {j:Nat}(hj:j < nmA w):isDig (chr w j)=true:=by
 have:=runF_all (p:=isDig) (s:=w) (i:=0) (j:=j) hj
 rw [Nat.zero_add] at this
 exact this
theorem nm_dig2 (c:ptB w){j:Nat}(hj:j < nmB w):isDig (chr w (nmA w+1+j))=true:=by
 unfold nmB at hj
 rw [if_pos c] at hj
 exact runF_all hj
theorem nm_pt (c:ptB w):(chr w (nmA w)).toNat=46∧0 < nmB w:=by
 unfold nmB
 rw [if_pos c];exact c
theorem nm_noE {j:Nat}(hj:j < numA w):chr w j≠101∧chr w j≠69:=by
 have key:isDig (chr w j)=true→chr w j≠101∧chr w j≠69:=by
  intro hd
  unfold isDig at hd
  simp only [Bool.and_eq_true,decide_eq_true_eq] at hd
  constructor
  ·intro e;rw [e] at hd;exact absurd hd.2 (by decide)
  ·intro e;rw [e] at hd;exact absurd hd.2 (by decide)
 rw [nm_A h] at hj
 by_cases h1:j < nmA w
 ·exact key (nm_dig h h1)
 ·by_cases c:ptB w
  ·rw [if_pos c] at hj
   by_cases h2:j=nmA w
   ·have:=(nm_pt h c).1
    subst h2
    constructor
    ·intro e;rw [e] at this;exact absurd this (by decide)
    ·intro e;rw [e] at this;exact absurd this (by decide)
   ·have:=nm_dig2 h c (j:=j - nmA w - 1) (by omega)
    rw [show nmA w+1+(j - nmA w - 1)=j by omega] at this
    exact key this
  ·rw [if_neg c] at hj;omega
end
theorem fz_l3 {oh:OH}{v v2 v3:V}{t t2 t3:T}(h:FzA oh false v t)(h2:FzA oh false v2 t2)(h3:FzA oh false v3 t3):FzL oh [v,v2,v3] [t,t2,t3]:=by
 refine⟨rfl,fun j v' t' e1 e2=>?_⟩
 match j with
 |0=>simp at e1 e2;subst e1;subst e2;exact h
 |1=>simp at e1 e2;subst e1;subst e2;exact h2
 |2=>simp at e1 e2;subst e1;subst e2;exact h3
 |j+3=>simp at e1
theorem fz_cu1 {oh:OH}{id:Nat}{f:Bool}(ho:oget oh id=some ⟨1,[V.con (.int .u32 1)],0,true⟩):FzA oh f (.own id 0 0 1) (tn (lm 1)):=by
 rw [lm_one]
 exact fz_own (F:=cu) (G:=tu32) (l:=[1]) ho rfl rfl rfl rfl (fun a _=>fze_con _) rfl
theorem ret_ct {P:Program}{fn:Func}{f:Bool}{s:St}{b tb c i1 v1 z1:Nat}{l2:List V}{t1:T}{x:Value}{fs2:List (Nat×Nat)}{y2:List Value}
  (hr:fn.results.toList=[.cell b tb,.tmp c])
  (ht2:tk P tb=.st fs2 y2) (hz2:y2.length=l2.length) (h02:0 < l2.length) (ha2:eget s.env b=.ref i1 v1 0 0) (ho2:oget s.oh i1=some ⟨z1,[.agg l2],v1,true⟩) (hf:FzA s.oh f (.agg l2) t1) (hc:eget s.env c=.con x) :
  RetOK P fn f (.tup [t1,.con x]) .ret s:=by
 refine⟨trivial,?_⟩
 rw [hr]
 have h:resV P s (.cell b tb) (fun v=>resV P s (.tmp c) (fun u=>∃r1 r2,T.tup [t1,.con x]=.tup [r1,r2]∧FzA s.oh f v r1∧FzA s.oh f u r2)):=
  resc ht2 hz2 h02 ha2 ho2 ⟨_,_,rfl,hf,by rw [hc];exact Fz1.con x⟩
 exact h
theorem fz_num {oh:OH}(z:Int)(d:Nat):FzA oh true (.agg [.con (.bool (decide (z < 0))),.ro true (tn (lm z.natAbs)),.ro true (tn (lm d))]) (tNum z d):=by
 refine⟨rfl,fun j v t h1 h2=>?_⟩
 match j with
 |0=>simp at h1;simp [tNum] at h2;subst h1;subst h2;exact .con _
 |1=>simp at h1;simp [tNum] at h2;subst h1;subst h2;exact .ro true _ fun h=>h
 |2=>simp at h1;simp [tNum] at h2;subst h1;subst h2;exact .ro true _ fun h=>h
 |j+3=>simp at h1
def bxR : Obj:=⟨3,[.agg [.con (.bool false),.emp,.emp]],0,true⟩
theorem bxR_cl (oh:OH):∀v ∈ bxR.el,v.cl oh:=by
 intro v hv
 obtain rfl:=List.mem_singleton.1 hv
 intro v hv
 simp at hv
 rcases hv with rfl|rfl<;>trivial
def stD1 (N:Nat)(w:ByteArray)(a:Nat)(x:Int):St:=⟨N,[(0,.con (.string (w.extract 0 a))),(2,.ref 0 0 0 0),(4,.con (.bool false)),(6,.con (.int .i64 x))],[(0,bxR)]⟩
def behS (w:ByteArray):ByteArray:=if ptB w then(w.extract 0 (numA w)).extract (nmA w+1) (w.extract 0 (numA w)).size else⟨#[]⟩
def stD2 (N:Nat)(x:Int)(a b:ByteArray):St:=⟨N,[(2,.ref 0 0 0 0),(4,.con (.bool false)),(6,.con (.int .i64 x)),(13,.con (.string a)),(14,.con (.string b))],[(0,bxR)]⟩
section
variable {w : ByteArray} (h : NumOK w)
include h
theorem s0_len : (w.extract 0 (numA w)).size=numA w:=by rw [ext_len numA_le];omega
theorem s0_chr {j:Nat}(hj:j < numA w):chr (w.extract 0 (numA w)) j=chr w j:=by rw [ext_chr (by omega),Nat.zero_add]
theorem beh_len : (behS w).size=nmB w:=by
 have h1:=nm_A h
 unfold behS
 by_cases c:ptB w
 ·rw [if_pos c] at h1 ⊢
  rw [ext_len (Nat.le_refl _),s0_len h];omega
 ·rw [if_neg c];unfold nmB;rw [if_neg c];rfl
theorem beh_bs : bs (behS w)=((bs w).drop (nmA w+1)).take (nmB w):=by
 have h1:=nm_A h
 unfold behS
 by_cases c:ptB w
 ·rw [if_pos c] at h1 ⊢
  rw [ext_bs,s0_len h,ext_bs,Nat.sub_zero,List.drop_zero,List.drop_take,List.take_take,Nat.min_eq_left (Nat.le_refl _)]
  congr 1;omega
 ·rw [if_neg c];unfold nmB;rw [if_neg c,List.take_zero];rfl
theorem ahd_bs : bs ((w.extract 0 (numA w)).extract 0 (nmA w))=(bs w).take (nmA w):=by
 have h1:=nm_A h
 rw [ext_bs,ext_bs,List.drop_zero,List.drop_zero,List.take_take]
 congr 1;omega
theorem ahd_len : ((w.extract 0 (numA w)).extract 0 (nmA w)).size=nmA w:=by
 have h1:=nm_A h
 rw [ext_len (by rw [s0_len h];omega)];omega
theorem ahd_dig : allDig ((w.extract 0 (numA w)).extract 0 (nmA w)):=by
 intro j hj
 rw [ahd_len h] at hj
 have h1:=nm_A h
 rw [ext_chr (by omega),s0_chr h (by omega),Nat.zero_add]
 exact nm_dig h hj
theorem beh_dig : allDig (behS w):=by
 intro j hj
 rw [beh_len h] at hj
 have h1:=nm_A h
 by_cases c:ptB w
 ·rw [if_pos c] at h1
  unfold behS
  rw [if_pos c,ext_chr (by rw [s0_len h];omega),s0_chr h (by omega)]
  exact nm_dig2 h c hj
 ·unfold nmB at hj;rw [if_neg c] at hj;omega
theorem all_bs : bs ((w.extract 0 (numA w)).extract 0 (nmA w) ++ behS w)=decMl w:=by
 have e:bs ((w.extract 0 (numA w)).extract 0 (nmA w) ++ behS w)=bs ((w.extract 0 (numA w)).extract 0 (nmA w)) ++ bs (behS w):=by
  unfold bs
  rw [ByteArray.data_append,Array.toList_append]
 rw [e,ahd_bs h,beh_bs h];rfl
theorem nat_all : natP ((w.extract 0 (numA w)).extract 0 (nmA w) ++ behS w)=some (decV (decMl w)):=by
 have h1:=nm_pos h
 have hl:((w.extract 0 (numA w)).extract 0 (nmA w) ++ behS w).size=nmA w+nmB w:=by rw [ByteArray.size_append,ahd_len h,beh_len h]
 rw [natP_yes (by omega),all_bs h]
 intro i hi
 rw [hl] at hi
 by_cases hlt:i < nmA w
 ·have e:chr ((w.extract 0 (numA w)).extract 0 (nmA w) ++ behS w) i=chr ((w.extract 0 (numA w)).extract 0 (nmA w)) i:=by
   unfold chr
   rw [all_bs h,ahd_bs h,List.getD,List.getD,decMl,List.getElem?_append_left (by rw [List.length_take,bs_len];have:=nm_le h;omega)]
  rw [e]
  exact ahd_dig h i (by rw [ahd_len h];exact hlt)
 ·have e:chr ((w.extract 0 (numA w)).extract 0 (nmA w) ++ behS w) i=chr (behS w) (i - nmA w):=by
   unfold chr
   rw [all_bs h,beh_bs h,List.getD,List.getD,decMl,List.getElem?_append_right (by rw [List.length_take,bs_len];have:=nm_le h;omega),List.length_take,bs_len,Nat.min_eq_left (nm_le h)]
  rw [e]
  exact beh_dig h _ (by rw [beh_len h];omega)
theorem t0_len (c:numE w):(w.extract (numA w+1) w.size).size=w.size - (numA w+1):=ext_len (Nat.le_refl _)
end
end Go.Ev
