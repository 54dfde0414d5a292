import Derived.Test.YtppbdmkbhalmpaaGreatDoorLah
import Derived.Test.YtppbdmkbhalmpaaGreatDoorLar
import Derived.Test.YtppbdmkbhalmpaaGreatDoorRdf
import Derived.Test.YtppbdmkbhalmpaaGreatDoorLak
import Derived.WalkKit
import Derived.BigCall
import Derived.OwnWalk
import Derived.Test.YtppbdmkbhalmpaaGreatDoorPfi
import Derived.Test.YtppbdmkbhalmpaaGreatDoorLai
set_option linter.all false
set_option maxHeartbeats 60000000
set_option maxRecDepth 100000
namespace Go.Ev
open Go.Proofs
open PS (Trm)
def bA (l:List UInt8):ByteArray:=⟨l.toArray⟩
theorem bA_bs (l:List UInt8):bs (bA l)=l:=rfl
theorem bA_size (l:List UInt8):(bA l).size=l.length:=rfl
theorem bA_chr (l:List UInt8)(i:Nat):chr (bA l) i=l.getD i 0:=rfl
theorem bA_app (a b:List UInt8):bA a ++ bA b=bA (a ++ b):=by
 apply ByteArray.ext
 apply Array.ext'
 simp [bA]
theorem skip_no {u:ByteArray}(h1:isBlk (chr u 0)=false)(h2:(chr u 0).toNat≠47):skipF u=0:=by
 unfold skipF
 rw [if_neg (by rw [h1];exact Bool.false_ne_true),if_pos (Or.inl h2)]
theorem ext_one (u:ByteArray)(h:0 < u.size):u.extract 0 1=bA [chr u 0]:=by
 apply ByteArray.ext
 apply Array.ext'
 have e:bs u=chr u 0 :: (bs u).drop 1:=by
  have:=drop_at h
  rwa [List.drop_zero] at this
 show(u.extract 0 1).data.toList=[chr u 0]
 rw [ByteArray.data_extract,Array.toList_extract]
 show List.take (1 - 0) (List.drop 0 (bs u))=_
 rw [List.drop_zero,e]
 rfl
theorem take_sgn {u:ByteArray}(hu:0 < u.size)(hc:chr u 0=45∨chr u 0=40∨chr u 0=41):takeF u=⟨1,4,bA [chr u 0],0,eS⟩:=by
 have hs:skipF u=0:=by
  refine skip_no ?_ ?_<;>rcases hc with h|h|h<;>rw [h]<;>decide
 unfold takeF
 rw [hs,if_neg (by decide),if_neg (by decide),if_neg (by rcases hc with h|h|h<;>rw [h]<;>decide),if_neg (by rcases hc with h|h|h<;>rw [h]<;>decide),
  if_neg (by rcases hc with h|h|h<;>rw [h]<;>decide),if_pos (by rcases hc with h|h|h<;>rw [h]<;>decide),ext_one u hu]
theorem take_num {u:ByteArray}(hu:0 < u.size)(h0:chr u 0=55)(h1:chr u 1=41∨chr u 1=0):takeF u=⟨1,2,bA [chr u 0],0,eS⟩:=by
 have hs:skipF u=0:=by
  refine skip_no ?_ ?_<;>rw [h0]<;>decide
 have r1:runF isDig u 1=0:=by
  rcases Nat.lt_or_ge 1 u.size with h|h
  ·exact runF_no h (by rcases h1 with h|h<;>rw [h]<;>decide)
  ·exact runF_end h
 have r0:runF isDig u 0=1:=by rw [runF_yes hu (by rw [h0];decide),r1]
 have hA:numA u=1:=by
  unfold numA
  rw [r0,if_neg (by rcases h1 with h|h<;>rw [h]<;>exact fun k=>absurd k.1 (by decide))]
 have hE:¬numE u:=by
  unfold numE
  rw [hA]
  rcases h1 with h|h<;>rw [h]<;>exact fun k=>absurd k.1 (by decide)
 have hF:numF u=1:=by
  unfold numF
  rw [if_neg hE,hA]
 have hB:numB u=false:=by
  unfold numB
  rw [decide_eq_false hE];rfl
 unfold takeF
 rw [hs,if_neg (by decide),if_neg (by decide),if_neg (by rw [h0];decide),if_pos (by rw [h0];decide),hB,hF,
  if_neg (by rcases h1 with h|h<;>rw [h]<;>decide),ext_one u hu]
def tokL : List UInt8→Nat→List Tok
 | [],c=>[⟨0,eS,1,c⟩]
 |b :: r,c=>⟨if b=55 then 2 else 4,bA [b],1,c⟩ :: tokL r (c+1)
theorem tokL_get : ∀(l:List UInt8) (c i:Nat) (b:UInt8),l[i]?=some b→(tokL l c)[i]?=some ⟨if b=55 then 2 else 4,bA [b],1,(c+i:Nat)⟩
 | [],_,_,_,h=>by simp at h
 |a :: r,c,0,b,h=>by
  simp at h;subst h;rfl
 |a :: r,c,i+1,b,h=>by
  rw [tokL,List.getElem?_cons_succ,tokL_get r (c+1) i b (by simpa using h)]
  rw [show c+1+i=c+(i+1) by omega]
theorem tokL_end : ∀(l:List UInt8) (c:Nat),(tokL l c)[l.length]?=some ⟨0,eS,1,(c+l.length:Nat)⟩
 | [],c=>rfl
 |a :: r,c=>by
  rw [tokL,List.length_cons,List.getElem?_cons_succ,tokL_end r (c+1)]
  rw [show c+1+r.length=c+(r.length+1) by omega]
def Alone : List UInt8→Prop
 | []=>True
 |b :: r=>(b=45∨b=40∨b=41∨(b=55∧(r.getD 0 0=41∨r.getD 0 0=0)))∧Alone r
theorem alone_nl : ∀{l:List UInt8},Alone l→∀i,(l.getD i 0).toNat≠10
 | [],_,i=>by simp
 |b :: r,h,0=>by
  show b.toNat≠10
  rcases h.1 with h|h|h|⟨h,-⟩<;>subst h<;>decide
 |b :: r,h,i+1=>by
  have:=alone_nl h.2 i
  simpa using this
theorem place1 {l:List UInt8}(h:Alone l):∀i,placeF (bA l) i=(1,i+1)
 |0=>rfl
 |i+1=>by
  rw [placeF,bA_chr,if_neg (alone_nl h i),place1 h i]
theorem alone_all {l:List UInt8}(hl:Alone l):∀(r p:List UInt8),l=p ++ r→Alone r→allF (bA l) p.length=(tokL r (p.length+1),none)
 | [],p,e,_=>by
  have hz:(bA l).size=p.length:=by rw [bA_size,e,List.append_nil]
  rw [allF,dif_neg (by omega),hz,place1 hl]
  rfl
 |b :: r,p,e,hr=>by
  have hz:(bA l).size=p.length+(r.length+1):=by rw [bA_size,e,List.length_append,List.length_cons]
  have hu:((bA l).extract p.length (bA l).size).size=r.length+1:=by rw [ByteArray.size_extract];omega
  have c0:chr ((bA l).extract p.length (bA l).size) 0=b:=by
   rw [ext_chr (by omega),bA_chr,e,List.getD_eq_getElem?_getD,List.getElem?_append_right (by omega)]
   simp
  have c1:chr ((bA l).extract p.length (bA l).size) 1=r.getD 0 0:=by
   rcases Nat.eq_zero_or_pos r.length with h|h
   ·rw [chr_end (by omega),List.eq_nil_of_length_eq_zero h];rfl
   ·rw [ext_chr (by omega),bA_chr,e,List.getD_eq_getElem?_getD,List.getElem?_append_right (by omega)]
    simp
  have ht:takeF ((bA l).extract p.length (bA l).size)=⟨1,if b=55 then 2 else 4,bA [b],0,eS⟩:=by
   rcases hr.1 with h|h|h|⟨h,h2⟩
   ·rw [take_sgn (by omega) (by rw [c0];exact Or.inl h),c0,h];rfl
   ·rw [take_sgn (by omega) (by rw [c0];exact Or.inr (Or.inl h)),c0,h];rfl
   ·rw [take_sgn (by omega) (by rw [c0];exact Or.inr (Or.inr h)),c0,h];rfl
   ·rw [take_num (by omega) (by rw [c0];exact h) (by rw [c1];exact h2),c0,h];rfl
  have ih:=alone_all hl r (p ++ [b]) (by rw [e,List.append_assoc];rfl) hr.2
  rw [List.length_append,List.length_singleton] at ih
  rw [allF,dif_pos (by omega),ht]
  simp only
  rw [if_neg (by decide),dif_pos (by decide),if_pos (by split<;>decide),ih,place1 hl]
  simp only [tokL]
  congr 2
  split<;>rfl
def sgB (b:Bool):UInt8:=if b=true then 45 else 40
def dpL (t:List Bool):List UInt8:=t.map sgB ++ 55 :: List.replicate (t.count false) 41
theorem alone_rep : ∀n,Alone (List.replicate n 41)
 |0=>trivial
 |n+1=>⟨Or.inr (Or.inr (Or.inl rfl)),alone_rep n⟩
theorem alone_dp (n:Nat):∀t:List Bool,Alone (t.map sgB ++ 55 :: List.replicate n 41)
 | []=>⟨Or.inr (Or.inr (Or.inr ⟨rfl,by cases n with
  |zero=>exact Or.inr rfl
  |succ n=>exact Or.inl rfl⟩)),alone_rep n⟩
 |b :: t=>⟨by cases b with
  |true=>exact Or.inl rfl
  |false=>exact Or.inr (Or.inl rfl),alone_dp n t⟩
theorem dp_txt (t:List Bool):allF (bA (dpL t)) 0=(tokL (dpL t) 1,none):=alone_all (alone_dp _ t) (dpL t) [] rfl (alone_dp _ t)
theorem dp_len (t:List Bool):(dpL t).length=t.length+1+t.count false:=by
 unfold dpL
 rw [List.length_append,List.length_cons,List.length_map,List.length_replicate];omega
section
variable {X : Txt}
namespace PS
theorem tok_no {σ:PS X}{f:Flt}(h:σ.bad=some f):σ.tok=none:=by unfold tok;rw [h]
theorem isB_no {σ:PS X}{f:Flt}(h:σ.bad=some f)(k:Int)(w:ByteArray):σ.isB k w=false:=by unfold isB;rw [tok_no h]
theorem settle_no {σ:PS X}{f:Flt}(h:σ.bad=some f):σ.settle=σ:=by unfold settle;rw [h]
theorem wrong_no {σ:PS X}{f:Flt}(h:σ.bad=some f)(c:Int)(hc:c≠0):σ.wrong c hc=σ:=by unfold wrong;rw [h]
theorem chain_no (u:Rd X)(a b:ByteArray)(ka kb:Int){l:List Trm}{σ:PS X}{f:Flt}(h:σ.bad=some f):∀k,chainL u a b ka kb k l σ=(l,σ)
 |0=>rfl
 |k+1=>by rw [chainL,isB_no h,isB_no h,if_neg Bool.false_ne_true,if_neg Bool.false_ne_true,settle_no h]
theorem sum_no {u:Rd X}{σ:PS X}{f:Flt}(h:(u σ).2.bad=some f):sum u σ=u σ:=by
 have hp:prod u σ=u σ:=chain_no u _ _ _ _ h _
 unfold sum
 rw [hp,chain_no (prod u) _ _ _ _ h]
theorem isB_ne {σ:PS X}{t:Tok}(h:σ.tok=some t){k:Int}{w:ByteArray}(hw:t.kind≠k∨t.text≠w):σ.isB k w=false:=by
 unfold isB
 rw [h]
 exact decide_eq_false fun k=>hw.elim (fun h=>h k.1) (fun h=>h k.2)
theorem isB_yes {σ:PS X}{t:Tok}(h:σ.tok=some t){k:Int}{w:ByteArray}(hk:t.kind=k)(hw:t.text=w):σ.isB k w=true:=by
 unfold isB
 rw [h]
 exact decide_eq_true ⟨hk,hw⟩
theorem chain_stop (u:Rd X)(a b:ByteArray)(ka kb:Int){l:List Trm}{σ:PS X}{t:Tok}(h:σ.tok=some t)(ha:t.kind≠4∨t.text≠a)(hb:t.kind≠4∨t.text≠b):∀k,chainL u a b ka kb k l σ=(l,σ)
 |0=>rfl
 |k+1=>by rw [chainL,isB_ne h ha,isB_ne h hb,if_neg Bool.false_ne_true,if_neg Bool.false_ne_true,settle_some h]
theorem sum_stop {u:Rd X}{σ:PS X}{t:Tok}(h:(u σ).2.tok=some t)(hw:t.kind≠4∨(t.text≠kStar∧t.text≠kOver∧t.text≠kPlus∧t.text≠kMin)):sum u σ=u σ:=by
 have hp:prod u σ=u σ:=chain_stop u _ _ _ _ h (hw.imp_right fun h=>h.1) (hw.imp_right fun h=>h.2.1) _
 unfold sum
 rw [hp,chain_stop (prod u) _ _ _ _ h (hw.imp_right fun h=>h.2.2.1) (hw.imp_right fun h=>h.2.2.2)]
theorem tok_of {σ:PS X}{t:Tok}(h:σ.bad=none)(ht:X.L[σ.at_]?=some t):σ.tok=some t:=by
 unfold tok;rw [h];exact ht
end PS
end
open PS
theorem bA1_ne {a b:UInt8}(h:a≠b):bA [a]≠bA [b]:=fun k=>h (by
 have:bs (bA [a])=bs (bA [b]):=by rw [k]
 simpa [bA_bs] using this)
theorem dp_get (t:List Bool){p s:List Bool}(e:t=p ++ s)(b:Bool)(r:List Bool)(hs:s=b :: r):(dpL t)[p.length]?=some (sgB b):=by
 subst e hs
 unfold dpL
 rw [List.map_append,List.append_assoc,List.getElem?_append_right (by rw [List.length_map];exact Nat.le_refl _),List.length_map,Nat.sub_self]
 rfl
theorem dp_mid (t:List Bool):(dpL t)[t.length]?=some 55:=by
 unfold dpL
 rw [List.getElem?_append_right (by rw [List.length_map];exact Nat.le_refl _),List.length_map,Nat.sub_self]
 rfl
theorem dp_shut (t:List Bool)(i:Nat)(h:i < t.count false):(dpL t)[t.length+1+i]?=some 41:=by
 unfold dpL
 rw [List.getElem?_append_right (by rw [List.length_map];omega),List.length_map,show t.length+1+i - t.length=i+1 by omega,List.getElem?_cons_succ,List.getElem?_replicate,if_pos h]
variable (dec : ByteArray → Int × Nat)
theorem un_deep (t:List Bool){X:Txt}(hX:X.L=tokL (dpL t) 1)(hn:t.length≤64):∀(s p:List Bool),t=p ++ s→∀d,s.length+1≤d→∀σ:PS X,σ.at_=p.length→σ.bad=none→σ.opn=p.length→
  (un dec d σ).1=⟨1,(dec (bA [55])).1,(dec (bA [55])).2⟩ :: List.replicate (s.count true) ⟨6,0,0⟩∧(un dec d σ).2.at_=t.length+1+s.count false∧(un dec d σ).2.bad=none∧(un dec d σ).2.opn=p.length
 | [],p,e,d,hd,σ,h1,h2,h3=>by
  obtain⟨d,rfl⟩:∃k,d=k+1:=⟨d - 1,by omega⟩
  have ep:t=p:=by rw [e,List.append_nil]
  have ht:σ.tok=some ⟨2,bA [55],1,(1+t.length:Nat)⟩:=tok_of h2 (by rw [hX,h1,← ep];exact tokL_get _ 1 _ 55 (dp_mid t))
  have hu:un dec (d+1) σ=([⟨1,(dec (bA [55])).1,(dec (bA [55])).2⟩],σ.adv):=by
   rw [un,ht];rfl
  obtain⟨a1,a2,a3⟩:=adv_at ht (show(2:Int)≠0 by decide)
  rw [hu]
  refine⟨rfl,?_,a2,a3.trans h3⟩
  show σ.adv.at_=_
  rw [a1,h1,← ep]
  simp
 |true :: s,p,e,d,hd,σ,h1,h2,h3=>by
  rw [List.length_cons] at hd
  obtain⟨d,rfl⟩:∃k,d=k+1:=⟨d - 1,by omega⟩
  have hl:t.length=p.length+(s.length+1):=by rw [e,List.length_append,List.length_cons]
  have ht:σ.tok=some ⟨4,bA [45],1,(1+p.length:Nat)⟩:=tok_of h2 (by rw [hX,h1];exact tokL_get _ 1 _ 45 (dp_get t e true s rfl))
  obtain⟨a1,a2,a3⟩:=adv_at ht (show(4:Int)≠0 by decide)
  obtain⟨i1,i2,i3,i4⟩:=un_deep t hX hn s (p ++ [true]) (by rw [e,List.append_assoc];rfl) d (by omega) (σ.adv.setO (σ.opn+1)) (by rw [List.length_append,← h1];exact a1) a2 (by rw [List.length_append,← h3];rfl)
  have hu:un dec (d+1) σ=((un dec d (σ.adv.setO (σ.opn+1))).1 ++ [⟨6,0,0⟩],(un dec d (σ.adv.setO (σ.opn+1))).2.setO σ.opn):=by
   rw [un,ht]
   simp only
   rw [if_neg (by decide),if_pos ⟨trivial,rfl⟩,if_neg (by omega)]
  rw [hu]
  refine⟨?_,?_,i3,h3⟩
  ·show(un dec d (σ.adv.setO (σ.opn+1))).1 ++ [⟨6,0,0⟩]=_
   rw [i1,List.count_cons_self,List.replicate_succ',List.cons_append]
  ·show(un dec d (σ.adv.setO (σ.opn+1))).2.at_=_
   rw [i2,List.count_cons_of_ne (by decide)]
 |false :: s,p,e,d,hd,σ,h1,h2,h3=>by
  rw [List.length_cons] at hd
  obtain⟨d,rfl⟩:∃k,d=k+1:=⟨d - 1,by omega⟩
  have hl:t.length=p.length+(s.length+1):=by rw [e,List.length_append,List.length_cons]
  have hc:s.count false < t.count false:=by
   rw [e,List.count_append,List.count_cons_self];omega
  have ht:σ.tok=some ⟨4,bA [40],1,(1+p.length:Nat)⟩:=tok_of h2 (by rw [hX,h1];exact tokL_get _ 1 _ 40 (dp_get t e false s rfl))
  obtain⟨a1,a2,a3⟩:=adv_at ht (show(4:Int)≠0 by decide)
  obtain⟨i1,i2,i3,i4⟩:=un_deep t hX hn s (p ++ [false]) (by rw [e,List.append_assoc];rfl) d (by omega) (σ.adv.setO (σ.opn+1)) (by rw [List.length_append,← h1];exact a1) a2 (by rw [List.length_append,← h3];rfl)
  have hu:un dec (d+1) σ=((sum (un dec d) (σ.adv.setO (σ.opn+1))).1,(need 4 kShut (sum (un dec d) (σ.adv.setO (σ.opn+1))).2).setO σ.opn):=by
   rw [un,ht]
   simp only
   rw [if_neg (by decide),if_neg (fun h=>absurd h.2 (bA1_ne (by decide))),if_pos ⟨trivial,rfl⟩,if_neg (by omega)]
  have hk:(un dec d (σ.adv.setO (σ.opn+1))).2.tok=some ⟨4,bA [41],1,(1+(t.length+1+s.count false):Nat)⟩:=tok_of i3 (by rw [hX,i2];exact tokL_get _ 1 _ 41 (dp_shut t _ hc))
  have hs:sum (un dec d) (σ.adv.setO (σ.opn+1))=un dec d (σ.adv.setO (σ.opn+1)):=sum_stop hk (Or.inr ⟨bA1_ne (by decide),bA1_ne (by decide),bA1_ne (by decide),bA1_ne (by decide)⟩)
  have hb:need 4 kShut (un dec d (σ.adv.setO (σ.opn+1))).2=(un dec d (σ.adv.setO (σ.opn+1))).2.adv:=if_pos (isB_yes hk rfl rfl)
  obtain⟨b1,b2,b3⟩:=adv_at hk (show(4:Int)≠0 by decide)
  rw [hu,hs,hb]
  refine⟨?_,?_,b2,h3⟩
  ·rw [i1,List.count_cons_of_ne (by decide)]
  ·show(un dec d (σ.adv.setO (σ.opn+1))).2.adv.at_=_
   rw [b1,i2,List.count_cons_self];omega
theorem un_more (t:List Bool){X:Txt}(hX:X.L=tokL (dpL t) 1)(hn:64 < t.length):∀(s p:List Bool),t=p ++ s→p.length≤64→∀d,65 - p.length≤d→∀σ:PS X,σ.at_=p.length→σ.bad=none→σ.opn=p.length→
  (un dec d σ).2.bad=some ⟨31,1,65,bA [sgB (t.getD 64 true)]⟩
 | [],p,e,hp,_,_,_,_,_,_=>by
  rw [e,List.append_nil] at hn;omega
 |b :: s,p,e,hp,d,hd,σ,h1,h2,h3=>by
  obtain⟨d,rfl⟩:∃k,d=k+1:=⟨d - 1,by omega⟩
  have ht:σ.tok=some ⟨if sgB b=55 then 2 else 4,bA [sgB b],1,(1+p.length:Nat)⟩:=tok_of h2 (by rw [hX,h1];exact tokL_get _ 1 _ _ (dp_get t e b s rfl))
  have h55:sgB b≠55:=by cases b<;>decide
  rw [if_neg h55] at ht
  by_cases hq:p.length=64
  ·have hw:∀c hc,σ.wrong c hc=⟨σ.at_,some ⟨c,1,(1+p.length:Nat),bA [sgB b]⟩,σ.opn,σ.inv,fun f h=>by cases h;exact hc⟩:=by
    intro c hc
    have hx:=(tok_at ht).2.1
    unfold PS.wrong
    rw [h2]
    simp only
    rw [hx]
   have hg:t.getD 64 true=b:=by
    rw [e,List.getD_eq_getElem?_getD,List.getElem?_append_right (by omega),hq];rfl
   rw [un,ht]
   simp only
   rw [if_neg (by decide),hg]
   cases b with
   |true=>
    rw [if_pos ⟨trivial,rfl⟩,if_pos (by omega),hw]
    simp only [hq]
    rfl
   |false=>
    rw [if_neg (fun h=>absurd h.2 (bA1_ne (by decide))),if_pos ⟨trivial,rfl⟩,if_pos (by omega),hw]
    simp only [hq]
    rfl
  ·obtain⟨a1,a2,a3⟩:=adv_at ht (show(4:Int)≠0 by decide)
   have ih:=un_more t hX hn s (p ++ [b]) (by rw [e,List.append_assoc];rfl) (by rw [List.length_append,List.length_singleton];omega) d (by rw [List.length_append,List.length_singleton];omega) (σ.adv.setO (σ.opn+1)) (by rw [List.length_append,← h1];exact a1) a2 (by rw [List.length_append,← h3];rfl)
   rw [un,ht]
   simp only
   rw [if_neg (by decide)]
   cases b with
   |true=>
    rw [if_pos ⟨trivial,rfl⟩,if_neg (by omega)]
    exact ih
   |false=>
    rw [if_neg (fun h=>absurd h.2 (bA1_ne (by decide))),if_pos ⟨trivial,rfl⟩,if_neg (by omega),sum_no ih]
    have hb:need 4 kShut (un dec d (σ.adv.setO (σ.opn+1))).2=(un dec d (σ.adv.setO (σ.opn+1))).2:=by
     unfold need
     rw [isB_no ih,if_neg Bool.false_ne_true,wrong_no ih]
    rw [hb]
    exact ih
def numS (s:ByteArray):List (List Trm)×Option Flt:=
 match(PS.numD dec (PS.begin s)).2.bad with
 |some f=>([],some f)
 |none=>((PS.numD dec (PS.begin s)).1,none)
theorem rowL_one (X:Txt)(k:Nat)(σ τ:PS X)(l:List Trm)(h:sum0 dec σ=(l,τ))(hc:τ.isB 4 kComma=false)(hs:τ.settle=τ):rowL dec (k+1) [] σ=([l],τ):=by
 rw [rowL,h]
 simp only
 rw [hc,if_neg Bool.false_ne_true,hs];rfl
theorem numS_of (s:ByteArray)(r:List Trm×PS (txt s))(h:sum0 dec (PS.begin s)=r)(hc:r.2.isB 4 kComma=false)(hs:r.2.settle=r.2)(hf:fin r.2=r.2):numS dec s=match r.2.bad with|some f=>([],some f)|none=>([r.1],none):=by
 have h1:row dec (PS.begin s)=([r.1],r.2):=rowL_one dec _ _ _ r.2 r.1 h hc hs
 unfold numS numD
 rw [h1]
 simp only
 rw [hf]
theorem deep_le (t:List Bool)(hn:t.length≤64):numS dec (bA (dpL t))=([⟨1,(dec (bA [55])).1,(dec (bA [55])).2⟩ :: List.replicate (t.count true) ⟨6,0,0⟩],none):=by
 have hX:(txt (bA (dpL t))).L=tokL (dpL t) 1:=by
  show(allF (bA (dpL t)) 0).1=_
  rw [dp_txt]
 obtain⟨h1,h2,h3,h4⟩:=un_deep dec t hX hn t [] rfl 65 (by omega) (PS.begin (bA (dpL t))) rfl rfl rfl
 have ht:(un dec 65 (PS.begin (bA (dpL t)))).2.tok=some ⟨0,eS,1,(1+(dpL t).length:Nat)⟩:=tok_of h3 (by rw [hX,h2,← dp_len];exact tokL_end _ 1)
 have hs:sum0 dec (PS.begin (bA (dpL t)))=un dec 65 (PS.begin (bA (dpL t))):=sum_stop (u:=un dec 65) ht (Or.inl (show(0:Int)≠4 by decide))
 rw [numS_of dec _ _ hs (isB_ne ht (Or.inl (show(0:Int)≠4 by decide))) (settle_some ht) (by unfold fin;rw [ht];rfl),h3,h1]
theorem deep_gt (t:List Bool)(hn:64 < t.length):numS dec (bA (dpL t))=([],some ⟨31,1,65,bA [sgB (t.getD 64 true)]⟩):=by
 have hX:(txt (bA (dpL t))).L=tokL (dpL t) 1:=by
  show(allF (bA (dpL t)) 0).1=_
  rw [dp_txt]
 have h:=un_more dec t hX hn t [] rfl (by decide) 65 (by decide) (PS.begin (bA (dpL t))) rfl rfl rfl
 have hs:sum0 dec (PS.begin (bA (dpL t)))=un dec 65 (PS.begin (bA (dpL t))):=sum_no (u:=un dec 65) h
 rw [numS_of dec _ _ hs (isB_no h _ _) (settle_no h) (by unfold fin;rw [tok_no h];exact settle_no h),h]
end Go.Ev
namespace Go.Proofs
open Go.RowKit Go.Ev
theorem clip_calls (a:Option Addr)(n cap:Nat)(hc:n≤cap)(hm:cap≤maxLen)(w:World) :
  Calls Tryz.prog 22 #[.slice a n cap] w fun e w'=>e=.returned (.slice a n n)∧w'=w:=by
 have hu:Tryz.prog.underlying 32=some (.slice 43):=by kernel_rfl
 go_enter Tryz.func22,Tryz.ntmps22
 go_wp2
 go_ret
 exact⟨rfl,rfl⟩
end Go.Proofs
namespace Go.Ev
open Go.Proofs
open PS (Trm)
theorem rdT_clip {S:Sto}{l:List T}{a:Option Addr}{n cap:Nat}(h:RdT S (.sl l) (.slice a n cap))(hn:n=l.length):RdT S (.sl l) (.slice a n n):=by
 subst hn
 obtain⟨a',cap',esz,b,off,c,e,hc,hm,ha,hz,hs,h1,hr⟩:=rdT_sl h
 injection e with e1 e2 e3
 subst e1
 exact .sl _ a l.length esz b off c (Nat.le_refl _) (Nat.le_trans hc hm) ha hz hs h1 hr
theorem clip_ok (l:List (List Trm)):Ok Tryz.prog 22 [tRw l] false (tRw l):=by
 refine⟨⟨_,Tryz.func22,rfl,rfl⟩,fun S w args hS hgl hargs=>?_⟩
 obtain⟨hz,hr⟩:=hargs
 obtain⟨x,rfl⟩:∃x,args=#[x]:=Array.size_eq_one_iff.1 hz
 have hx:RdT S (tRw l) x:=hr 0 _ x rfl rfl
 have hx':=hx
 obtain⟨a,cap,esz,b,off,c,rfl,hc,hm,-⟩:=rdT_sl hx
 refine(clip_calls a _ cap hc hm w).mono fun e w' he=>?_
 obtain⟨rfl,rfl⟩:=he
 exact⟨_,fun _ _=>none,rfl,RowKit.Below.refl _ _,(fun _ _ _ hc=>by cases hc),RdT.mono (fun b o c h=>by simp [Sto.pick,Sto.un,h]) (rdT_clip hx' rfl)⟩
open PS (Trm EntD VarD PrbD FilD)
theorem ret_tt {P:Program}{fn:Func}{f:Bool}{s:St}{a c:Nat}{t1 t2:T}(hr:fn.results.toList=[.tmp a,.tmp c])(h1:FzA s.oh f (eget s.env a) t1)(h2:FzA s.oh f (eget s.env c) t2) :
  RetOK P fn f (.tup [t1,t2]) .ret s:=by
 refine⟨trivial,?_⟩
 rw [hr]
 exact⟨_,_,rfl,h1,h2⟩
theorem pNum_ok {dec:ByteArray→Int×Nat}(s:ByteArray)(hF:Fit (txt s))(hS:UnOK Tryz.prog 21 65 (PS.sum (X:=txt s) (PS.un dec 65)))
  (c0:OkO Tryz.prog 12 [tS9 s] (pO (PS.begin s)) (.ref 0 0 0 0)) :
  Ok Tryz.prog 7 [tS9 s] false (.tup [tRw (numS dec s).1,tFe (numS dec s).2]):=by
 have ho:(PS.begin s).opn=0:=rfl
 have ha:(PS.begin s).at_≤(txt s).L.length:=Nat.zero_le _
 have hb0:(PS.begin s).bad=none:=rfl
 have c1:=pRow_ok hF hS (PS.begin s) ho ha
 have hr:PS.rowQ dec (PS.begin s)=PS.row dec (PS.begin s):=PS.rowQ_eq dec hb0
 rw [hr] at c1
 have d3:=pDone_ok (PS.row dec (PS.begin s)).2
 unfold numS PS.numD
 generalize PS.row dec (PS.begin s)=r at *
 generalize PS.begin s=σ at *
 generalize txt s=W at *
 unfold pO at *
 refine ok_of_ev hC0 mix Tryz.func7 rfl rfl (by kernel_rfl) (zO rfl) ?_
 repeat'(first|(refine seq_k (a:=Code.region 1 _ _) Unit (fun _=>⟨Tryz.f7.ntmps,[(4,.ref 0 0 0 0)],[(0,prO W σ.at_ σ.bad σ.opn)]⟩) (fun _=>True) ?_ ?_)|(with_reducible first|(refine zz ?_;try intro K hK)|refine zI ?_|refine zt ?_|refine zf ?_)|((first|refine hK _ ?_|refine hK _ _ rfl ?_);clear hK K)|(guard_hyp hK;first|(refine zY ?zz ?_;case zz=>first|exact rfl|exact gJ)|refine fresh_n ?_|refine freshO_n ?_|refine zW ?_|intro b0 hb)|((first|with_reducible refine zm ?_|guard_hyp hK);refine zY ?_ ?_;all_goals(intro hb;(try simp only [sn,sb] at hb);try exact ex0)))
 rotate_left
 ·intro R hR
  repeat'(first|(with_reducible first|(refine zz ?_;try intro K hK)|refine zI ?_|refine zt ?_|refine zf ?_)|((first|refine hK _ ?_|refine hK _ _ rfl ?_);clear hK K)|(guard_hyp hK;first|(refine zY ?zz ?_;case zz=>first|exact rfl|exact gJ)|refine fresh_n ?_|refine freshO_n ?_|refine zW ?_|(refine Or.inr (Exists.intro _ (Exists.intro _ (And.intro (c0) ?_))))|intro b0 hb)|((first|with_reducible refine zm ?_|guard_hyp hK);refine zY ?_ ?_;all_goals(intro hb;(try simp only [sn,sb] at hb);try exact ex0)))
  exact hR _ () trivial (lf_of0 ⟨Lc.same _ rfl,trivial⟩ ⟨lfOb_same ((show oget _ 0=some ((prO W σ.at_ σ.bad σ.opn).sh 0) from rfl).trans (congrArg some (pr_sh _ _ _ _))) (pr_flat _ _ _),trivial⟩)
 rintro - -
 repeat'(first|(refine seq_k (a:=Code.region 2 _ _) Unit (fun _=>⟨Tryz.f7.ntmps,[(4,.ref 0 0 0 0),(5,.ro false (tRw r.1))],[(0,prO W r.2.at_ r.2.bad r.2.opn)]⟩) (fun _=>True) ?_ ?_)|(with_reducible first|(refine zz ?_;try intro K hK)|refine zI ?_|refine zt ?_|refine zf ?_)|((first|refine hK _ ?_|refine hK _ _ rfl ?_);clear hK K)|(guard_hyp hK;first|(refine zY ?zz ?_;case zz=>first|exact rfl|exact gJ)|refine fresh_n ?_|refine freshO_n ?_|refine zW ?_|intro b0 hb)|((first|with_reducible refine zm ?_|guard_hyp hK);refine zY ?_ ?_;all_goals(intro hb;(try simp only [sn,sb] at hb);try exact ex0)))
 rotate_left
 ·intro R hR
  repeat'(first|(with_reducible first|(refine zz ?_;try intro K hK)|refine zI ?_|refine zt ?_|refine zf ?_)|((first|refine hK _ ?_|refine hK _ _ rfl ?_);clear hK K)|(guard_hyp hK;first|(refine zY ?zz ?_;case zz=>first|exact rfl|exact gJ)|refine fresh_n ?_|refine freshO_n ?_|refine zW ?_|refine zp 0 (c1) ?_|intro b0 hb)|((first|with_reducible refine zm ?_|guard_hyp hK);refine zY ?_ ?_;all_goals(intro hb;(try simp only [sn,sb] at hb);try exact ex0)))
  exact hR _ () trivial (lf_of0 ⟨Lc.same _ rfl,lc_ro,trivial⟩ ⟨lfOb_same rfl (pr_flat _ _ _),trivial⟩)
 rintro - -
 have k1:=clip_ok r.1
 cases hb:r.2.fin.bad with
 |some f=>
  rw [hb] at d3
  repeat'(first|(with_reducible first|(refine zz ?_;try intro K hK)|refine zI ?_|refine zt ?_|refine zf ?_)|((first|refine hK _ ?_|refine hK _ _ rfl ?_);clear hK K)|(guard_hyp hK;first|(refine zY ?zz ?_;case zz=>first|exact rfl|exact gJ)|refine fresh_n ?_|refine freshO_n ?_|refine zW ?_|refine zp 0 (d3) ?_|intro b0 hb)|((first|with_reducible refine zm ?_|guard_hyp hK);refine zY ?_ ?_;all_goals(intro hb;(try simp only [sn,sb] at hb);try exact ex0)))
  exact ret_tt (t1:=tRw []) (t2:=tFe (some f)) rfl (fz_emp rfl) (Fz1.ro _ _ fun h=>Bool.noConfusion h)
 |none=>
  rw [hb] at d3
  repeat'(first|(with_reducible first|(refine zz ?_;try intro K hK)|refine zI ?_|refine zt ?_|refine zf ?_)|((first|refine hK _ ?_|refine hK _ _ rfl ?_);clear hK K)|(guard_hyp hK;first|(refine zY ?zz ?_;case zz=>first|exact rfl|exact gJ)|refine fresh_n ?_|refine freshO_n ?_|refine zW ?_|refine zp 0 (d3) ?_|(refine zQ (k1) ?_)|intro b0 hb)|((first|with_reducible refine zm ?_|guard_hyp hK);refine zY ?_ ?_;all_goals(intro hb;(try simp only [sn,sb] at hb);try exact ex0)))
  exact ret_tt (t1:=tRw r.1) (t2:=tFe none) rfl (Fz1.ro _ _ fun h=>Bool.noConfusion h) (Fz1.con _)
open PS (Trm FilD)
def quoG : Nat→ByteArray→Nat→ByteArray→Nat×ByteArray×Bool
 |0,_,_,_=>(0,⟨#[]⟩,false)
 |n+1,s,i,out=>
  if i < s.size then
   if(chr s i).toNat=34 then(i+1,out,true)
   else if(chr s i).toNat=10 then(0,⟨#[]⟩,false)
   else if(chr s i).toNat=92 then
    if(chr s (i+1)).toNat≠34∧(chr s (i+1)).toNat≠92 then(0,⟨#[]⟩,false)
    else quoG n s (i+2) (out ++ sub s (i+1) 1)
   else quoG n s (i+1) (out ++ sub s i 1)
  else(0,⟨#[]⟩,false)
theorem quoG_eq : ∀(n:Nat) (s:ByteArray) (i:Nat) (out:ByteArray),s.size - i < n→quoG n s i out=quoF s i out
 |0,_,_,_,h=>absurd h (Nat.not_lt_zero _)
 |n+1,s,i,out,h=>by
  rw [quoG,quoF]
  by_cases hi:i < s.size
  ·rw [if_pos hi,dif_pos hi,quoG_eq n s (i+2) _ (by omega),quoG_eq n s (i+1) _ (by omega)]
  ·rw [if_neg hi,dif_neg hi]
def takeG (s:ByteArray):TkR:=
 if skipF s < 0 then⟨0,0,eS,21,⟨#[47,42]⟩⟩
 else if 0 < skipF s then⟨(skipF s).toNat,0,eS,0,eS⟩
 else if isLet (chr s 0)=true then(if 64 < runF isWrd s 0 then⟨0,0,eS,20,s.extract 0 (runF isWrd s 0)⟩ else⟨runF isWrd s 0,1,s.extract 0 (runF isWrd s 0),0,eS⟩)
 else if isDig (chr s 0)=true then
  (if numB s=true∨isLet (chr s (numF s))=true then⟨0,0,eS,22,s.extract 0 (numF s+runF isWrd s (numF s))⟩ else⟨numF s,2,s.extract 0 (numF s),0,eS⟩)
 else if(chr s 0).toNat=34 then(if(quoG (s.size+1) s 1 ⟨#[]⟩).2.2=true then⟨(quoG (s.size+1) s 1 ⟨#[]⟩).1,3,(quoG (s.size+1) s 1 ⟨#[]⟩).2.1,0,eS⟩ else⟨0,0,eS,21,⟨#[34]⟩⟩)
 else if isSgn (chr s 0)=true then⟨1,4,s.extract 0 1,0,eS⟩
 else⟨0,0,eS,20,s.extract 0 1⟩
theorem takeG_eq (s:ByteArray):takeG s=takeF s:=by
 unfold takeG takeF
 rw [quoG_eq _ _ _ _ (by omega)]
def allG : Nat → ByteArray → Nat → List Tok × Option Flt
  | 0, _, _ => ([], none)
  | n + 1, s, i =>
    if i < s.size then
      (fun (r : TkR) =>
      if r.code ≠ 0 then ([], some ⟨r.code, (placeF s i).1, (placeF s i).2, r.word⟩)
      else if 0 < r.n then
        (if r.kind ≠ 0 then (⟨r.kind, r.text, (placeF s i).1, (placeF s i).2⟩ :: (allG n s (i + r.n)).1, (allG n s (i + r.n)).2)
         else allG n s (i + r.n))
      else ([], none)) (takeG (s.extract i s.size))
    else ([⟨0, eS, (placeF s s.size).1, (placeF s s.size).2⟩], none)
theorem allG_eq : ∀(n:Nat) (s:ByteArray) (i:Nat),s.size - i < n→allG n s i=allF s i
 |0,_,_,h=>absurd h (Nat.not_lt_zero _)
 |n+1,s,i,h=>by
  rw [allG,allF,takeG_eq]
  by_cases hi:i < s.size
  ·rw [if_pos hi,dif_pos hi]
   generalize takeF (s.extract i s.size)=r
   dsimp only
   split
   ·rfl
   ·by_cases hn:0 < r.n
    ·rw [if_pos hn,dif_pos hn,allG_eq n s (i+r.n) (by omega)]
    ·rw [if_neg hn,dif_neg hn]
  ·rw [if_neg hi,dif_neg hi]
theorem txt_of {s:ByteArray}{X:Txt}(h:allF s 0=(X.L,X.late)):txt s=X:=by
 obtain⟨L,o,h1,h2⟩:=X
 unfold txt
 congr 1
 ·rw [h]
 ·rw [h]
def PS.bgn (X:Txt):PS X:=⟨0,none,0,fun h=>by
 obtain⟨l,t,e,-⟩:=X.fine h
 rw [e,List.length_append];exact Nat.succ_pos _,fun _ h=>by cases h⟩
def numX (dec:ByteArray→Int×Nat)(X:Txt):List (List Trm)×Option Flt:=
 match(PS.numD dec (PS.bgn X)).2.bad with
 |some f=>([],some f)
 |none=>((PS.numD dec (PS.bgn X)).1,none)
def fileX (dec:ByteArray→Int×Nat)(X:Txt):FilD×Option Flt:=
 match(PS.filD dec natP (PS.bgn X)).2.bad with
 |some f=>(⟨eS,[],[],[]⟩,some f)
 |none=>((PS.filD dec natP (PS.bgn X)).1,none)
theorem numS_X (dec:ByteArray→Int×Nat){s:ByteArray}{X:Txt}(h:txt s=X):numS dec s=numX dec X:=by subst h;rfl
theorem fileS_X (dec:ByteArray→Int×Nat){s:ByteArray}{X:Txt}(h:txt s=X):fileS dec s=fileX dec X:=by subst h;rfl
def alA : ByteArray:=⟨#[49,32,45,32,50,32,42,32,45,51]⟩
def alB : ByteArray:=⟨#[110,101,116,119,111,114,107,32,110,32,123,32,112,114,111,112,101,114,116,121,32,34,97,34,59,32,125]⟩
def alC : ByteArray:=⟨#[110,101,116,119,111,114,107]⟩
def alAL : List Tok:=[⟨2,⟨#[49]⟩,1,1⟩,⟨4,⟨#[45]⟩,1,3⟩,⟨2,⟨#[50]⟩,1,5⟩,⟨4,⟨#[42]⟩,1,7⟩,⟨4,⟨#[45]⟩,1,9⟩,⟨2,⟨#[51]⟩,1,10⟩,⟨0,eS,1,11⟩]
def alBL : List Tok:=[⟨1,PS.kNet,1,1⟩,⟨1,⟨#[110]⟩,1,9⟩,⟨4,PS.kLC,1,11⟩,⟨1,PS.kProp,1,13⟩,⟨3,⟨#[97]⟩,1,22⟩,⟨4,PS.kSemi,1,25⟩,⟨4,PS.kRC,1,27⟩,⟨0,eS,1,28⟩]
def alCL : List Tok:=[⟨1,PS.kNet,1,1⟩,⟨0,eS,1,8⟩]
def alX (L:List Tok)(l:List Tok)(t:Tok)(h:L=l ++ [t])(hk:t.kind=0):Txt:=⟨L,none,fun _=>⟨l,t,h,hk⟩,fun _ h=>by cases h⟩
def xA : Txt:=alX alAL (alAL.take 6) ⟨0,eS,1,11⟩ rfl rfl
def xB : Txt:=alX alBL (alBL.take 7) ⟨0,eS,1,28⟩ rfl rfl
def xC : Txt:=alX alCL (alCL.take 1) ⟨0,eS,1,8⟩ rfl rfl
theorem gA : allG 11 alA 0=(alAL,none):=by kernel_rfl
theorem gB : allG 28 alB 0=(alBL,none):=by kernel_rfl
theorem gC : allG 8 alC 0=(alCL,none):=by kernel_rfl
theorem axA : txt alA=xA:=txt_of ((allG_eq 11 alA 0 (by decide)).symm.trans gA)
theorem axB : txt alB=xB:=txt_of ((allG_eq 28 alB 0 (by decide)).symm.trans gB)
theorem axC : txt alC=xC:=txt_of ((allG_eq 8 alC 0 (by decide)).symm.trans gC)
theorem nsA : numS decQ alA=([[⟨1,1,1⟩,⟨1,2,1⟩,⟨1,3,1⟩,⟨6,0,0⟩,⟨4,0,0⟩,⟨3,0,0⟩]],none):=by
 rw [numS_X decQ axA]
 kernel_rfl
theorem nsB : fileS decQ alB=(⟨⟨#[110]⟩,[⟨#[97]⟩],[],[]⟩,none):=by
 rw [fileS_X decQ axB]
 kernel_rfl
theorem nsC : fileS decQ alC=(⟨eS,[],[],[]⟩,some ⟨30,1,8,eS⟩):=by
 rw [fileS_X decQ axC]
 kernel_rfl
theorem lm_small {n:Nat}(h0:0 < n)(h:n < 4294967296):lm n=[UInt32.ofNat n]:=by
 rw [lm,if_neg (by omega),Nat.div_eq_of_lt h,lm,if_pos rfl]
theorem fz_agg4' {oh:OH}{f:Bool}{v1 v2 v3 v4:V}{t1 t2 t3 t4:T}(h1:Fz1 oh f v1 t1)(h2:Fz1 oh f v2 t2)(h3:Fz1 oh f v3 t3)(h4:Fz1 oh f v4 t4):FzA oh f (.agg [v1,v2,v3,v4]) (.agg [t1,t2,t3,t4]):=by
 refine⟨rfl,fun j v t e1 e2=>?_⟩
 match j with
 |0=>simp at e1 e2;subst e1;subst e2;exact h1
 |1=>simp at e1 e2;subst e1;subst e2;exact h2
 |2=>simp at e1 e2;subst e1;subst e2;exact h3
 |3=>simp at e1 e2;subst e1;subst e2;exact h4
 |j+4=>simp at e1
theorem numb_ok (n:Nat)(h0:0 < n)(h:n < 4294967296):Ok Tryz.prog 10 [.con (.int .u32 n)] false (tT ⟨1,n,1⟩):=by
 refine ok_of_ev hC0 mix Tryz.func10 rfl rfl (by kernel_rfl) (zO rfl) ?_
 repeat'(first|(with_reducible first|(refine zz ?_;try intro K hK)|refine zI ?_|refine zt ?_|refine zf ?_)|((first|refine hK _ ?_|refine hK _ _ rfl ?_);clear hK K)|(guard_hyp hK;first|(refine zY ?zz ?_;case zz=>first|exact rfl|exact gJ)|refine fresh_n ?_|refine freshO_n ?_|refine zW ?_|intro b0 hb)|((first|with_reducible refine zm ?_|guard_hyp hK);refine zY ?_ ?_;all_goals(intro hb;(try simp only [sn,sb] at hb);try exact ex0)))
 ·have e1:tn (lm n)=.sl ([UInt32.ofNat n].map tu32):=by rw [lm_small h0 h];rfl
  have e2:tn (lm 1)=.sl ([(1:UInt32)].map tu32):=by rw [lm_small (by decide) (by decide)];rfl
  have e3:(UInt32.ofNat n).toNat=n:=by rw [UInt32.toNat_ofNat'];omega
  have e4:tT ⟨1,n,1⟩=.agg [.con (.int .i8 1),.con (.bool false),.sl ([UInt32.ofNat n].map tu32),.sl ([(1:UInt32)].map tu32)]:=by
   rw [← e1,← e2]
   unfold tT
   rw [decide_eq_false (by simp only;omega)];rfl
  rw [e4]
  refine ret_cell (l:=[.con (.int .i8 1),.con (.bool false),.own 2 0 0 1,.own 3 0 0 1]) rfl tk52 rfl (Nat.zero_lt_succ _) rfl rfl (fz_agg4' (.con _) (.con _) ?_ ?_)
  ·exact fz_own (F:=fun u=>.con (.int .u32 u.toNat)) (G:=tu32) (l:=[UInt32.ofNat n]) (o:=⟨1,[.con (.int .u32 n)],0,true⟩) rfl rfl rfl rfl (by rw [List.map_singleton,e3];rfl) (fun a _=>fze_con _) rfl
  ·exact fz_own (F:=fun u=>.con (.int .u32 u.toNat)) (G:=tu32) (l:=[(1:UInt32)]) (o:=⟨1,[.con (.int .u32 1)],0,true⟩) rfl rfl rfl rfl rfl (fun a _=>fze_con _) rfl
end Go.Ev
