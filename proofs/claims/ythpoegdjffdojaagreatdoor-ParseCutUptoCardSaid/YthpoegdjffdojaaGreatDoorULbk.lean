import Derived.Test.YthpoegdjffdojaaGreatDoorULap
set_option linter.all false
set_option maxHeartbeats 4000000
set_option maxRecDepth 10000
namespace Go.Ev
open Go.Proofs
def ZG (b:UInt8):Prop:=b.toNat≠123/\b.toNat≠125
def y6 (t:Tok):Prop:=t.kind=4->t.text≠PS.dM/\t.text≠PS.dc
theorem ZL {s:ByteArray}(h:ZG (ax s 0))(l c:Int):y6 ⟨(aH s).kind,(aH s).text,l,c⟩:=by
 have no:∀b:UInt8,ax s 0≠b->s.extract 0 1≠⟨#[b]⟩:=fun b hb e=>by
  by_cases h1:0 < s.size
  ·have:ax (s.extract 0 1) 0=b:=by rw [e];rfl
   rw [cI A8,C2] at this;exact hb this
  ·have:(s.extract 0 1).size=1:=by rw [e];rfl
   rw [F5] at this;omega
 have n1:ax s 0≠123:=fun e=>h.1 (by rw [e];rfl)
 have n2:ax s 0≠125:=fun e=>h.2 (by rw [e];rfl)
 intro hk;dsimp only at hk |-;unfold aH at hk |-;split at hk
 ·(exfalso;dsimp only at hk;omega)
 ·rename_i c1;rw [if_neg c1];split at hk
  ·(exfalso;dsimp only at hk;omega)
  ·rename_i c2;rw [if_neg c2];split at hk
   ·split at hk<;>(exfalso;dsimp only at hk;omega)
   ·rename_i c3;rw [if_neg c3];split at hk
    ·split at hk<;>(exfalso;dsimp only at hk;omega)
    ·rename_i c4;rw [if_neg c4];split at hk
     ·split at hk<;>(exfalso;dsimp only at hk;omega)
     ·rename_i c5;rw [if_neg c5];split at hk
      ·rename_i c6;rw [if_pos c6];exact⟨no _ n1,no _ n2⟩
      ·(exfalso;dsimp only at hk;omega)
theorem Zv (v:ByteArray)(a:Nat)(h:∀i,a<=i->i < v.size->ZG (ax v i)):∀t ∈ (bQ v a).1,y6 t:=by
 rw [bQ];split
 ·rename_i hlt;split
  ·exact fun t ht=>by cases ht
  ·rename_i hc;split
   ·rename_i hp;have ih:=Zv v (a+(aH (v.extract a v.size)).n) fun i hi hs=>h i A8 hs
    split
    ·intro t ht;rcases B5.1 ht with rfl|ht
     ·exact ZL (by rw [WT hlt];exact h a (wU _) hlt) _ _
     ·exact ih t ht
    ·exact ih
   ·exact fun t ht=>by cases ht
 ·intro t ht;obtain rfl:=HQ.1 ht;exact fun k=>by(exfalso;dsimp only at k;revert k;decide)
termination_by v.size - a
theorem YA (v:ByteArray)(a:Nat)(h:(bQ v a).2≠none):∀t ∈ (bQ v a).1,t.kind≠0:=by
 rw [bQ] at h |-;split at h
 ·rename_i hlt;rw [I2 hlt];split at h
  ·rename_i hc;rw [if_pos hc];exact fun t ht=>by cases ht
  ·rename_i hc;rw [if_neg hc];split at h
   ·rename_i hp;rw [I2 hp];split at h
    ·rename_i hk;rw [if_pos hk];have ih:=YA v (a+(aH (v.extract a v.size)).n) h;intro t ht;rcases B5.1 ht with rfl|ht
     ·show((aH (v.extract a v.size)).kind:Int)≠0;omega
     ·exact ih t ht
    ·rename_i hk;rw [if_neg hk];exact YA v (a+(aH (v.extract a v.size)).n) h
   ·rename_i hp;exact absurd rfl h
 ·rename_i hlt;exact absurd rfl h
termination_by v.size - a
structure YT (v:ByteArray)(a:Nat)(g:ByteArray)(d:Nat):Prop where
 le:d<=g.size
 sz:a+d=v.size
 ch:∀i,i < d->ax v (a+i)=ax g i
def Cut (v:ByteArray)(a:Nat):Prop:=(bQ v a).2≠none\/∀t ∈ (bQ v a).1,y6 t
theorem YT.all {v g:ByteArray}{a d:Nat}(h:YT v a g d)(e:d=g.size):Has v a g:=⟨by have:=h.sz;omega,fun i hi=>h.ch i A8⟩
theorem Qd {v g:ByteArray}{a d:Nat}(h:YT v a g d)(hn:∀i,i < d->ZG (ax g i)):Cut v a:=by
 refine Or.inr (Zv v a fun i hi hs=>?_);have h1:=h.sz;have h2:=h.ch (i - a) A8;rw [show a+(i - a)=i by omega] at h2;rw [h2];exact hn _ A8
theorem Mv {v:ByteArray}{a:Nat}(h:v.size<=a):Cut v a:=by
 refine Or.inr ?_;rw [bQ,O4 A8];intro t ht;obtain rfl:=HQ.1 ht;exact fun k=>by(exfalso;dsimp only at k;revert k;decide)
def Fh (g:ByteArray):Prop:=∀(v:ByteArray) (a d:Nat),YT v a g d->Cut v a
def VK (g:ByteArray):Prop:=∀(v:ByteArray) (a d:Nat),d < g.size->YT v a g d->Cut v a
theorem WC {u:ByteArray}(h1:(ax u 1).toNat=42)(h:∀i,2<=i->i < u.size->¬((ax u i).toNat=42/\(ax u (i+1)).toNat=47))(i:Nat)(hi:2<=i):fJ u i = -1:=by
 rw [fJ];split
 ·rename_i hlt;rw [if_neg (fun k=>by omega),if_neg (fun k=>h i hi hlt ⟨k.2.1,k.2.2⟩)];exact WC h1 h (i+1) A8
 ·rw [if_neg A8]
termination_by u.size - i
theorem YE {u:ByteArray}(h1:(ax u 1).toNat=47)(h:∀i,2<=i->i < u.size->(ax u i).toNat≠10)(i:Nat)(hi:2<=i):fJ u i=u.size:=by
 rw [fJ];split
 ·rename_i hlt;rw [if_neg (fun k=>h i hi hlt k.2),if_neg (fun k=>by omega)];exact YE h1 h (i+1) A8
 ·first|rfl|rw [if_pos h1]
termination_by u.size - i
theorem YG {v:ByteArray}{a:Nat}(ha:a < v.size)(h:(aH (v.extract a v.size)).code≠0):Cut v a:=by
 refine Or.inl ?_;rw [bQ,I2 ha,if_pos h];exact fun k=>by cases k
theorem v7 : Fh eS:=fun v a d h=>Mv (by have:=h.le;have:=h.sz;have h0:eS.size=0:=rfl;omega)
theorem l7 (t:List UInt8)(ht:∀b ∈ t,b.toNat≠42):Fh (bA ([47,42] ++ t ++ [42,47])):=fun v a d h=>by
 have hz:(bA ([47,42] ++ t ++ [42,47])).size=t.length+4:=by rw [rI];simp
 have hle:=h.le;have hsz:=h.sz;rw [hz] at hle;have hc:∀i,i < d->ax v (a+i)=([47,42] ++ t ++ [42,47]:List UInt8).getD i 0:=fun i hi=>h.ch i hi
 by_cases hfull:d=t.length+4
 ·have:=Dd t ht v a (h.all (by rw [hz];exact hfull));unfold Cut;rw [this,hz];exact Mv A8
 ·by_cases hsm:d<=1
  ·refine Qd h fun i hi=>?_
   obtain rfl:i=0:=by omega
   exact(show ZG 47 from⟨by decide,by decide⟩)
  ·refine YG A8 ?_;have hu:(v.extract a v.size).size=d:=by rw [dm (wU _)];omega
   have hcu:∀i,i < d->ax (v.extract a v.size) i=([47,42] ++ t ++ [42,47]:List UInt8).getD i 0:=fun i hi=>by
    rw [cI A8,hc i hi]
   have e0:ax (v.extract a v.size) 0=47:=hcu 0 A8;have e1:ax (v.extract a v.size) 1=42:=hcu 1 A8
   have hs:bf (v.extract a v.size) = -1:=by
    unfold bf;rw [e0,e1,if_neg B3,if_neg B3];refine WC (by rw [e1];rfl) (fun i h2 hi k=>?_) 2 (wU _);rw [hu] at hi;obtain⟨k1,k2⟩:=k
    have hi1:i+1 < d:=by
     refine I4 fun hge=>?_
     rw [bU A8] at k2;exact absurd k2 B3
    rw [hcu i hi,C9,C5 (by simp;omega),IX (by simp;omega)] at k1;have hj:i - 2 < t.length:=by omega
    have k1':((t[i - 2]?).getD 0).toNat=42:=k1;rw [uz hj] at k1';exact ht _ (G9 hj) k1'
   unfold aH;rw [hs,if_pos B3];exact(by decide:(21:Nat)≠0)
theorem k8 (t:List UInt8)(ht:∀b ∈ t,b.toNat≠10):Fh (bA ([10] ++ ([47,47] ++ t ++ [10]))):=fun v a d h=>by
 have hz:(bA ([10] ++ ([47,47] ++ t ++ [10]))).size=t.length+4:=by rw [rI];simp
 have hle:=h.le;have hsz:=h.sz;rw [hz] at hle;have hc:∀i,i < d->ax v (a+i)=([10] ++ ([47,47] ++ t ++ [10]):List UInt8).getD i 0:=fun i hi=>h.ch i hi
 by_cases hfull:d=t.length+4
 ·have hH:Has v a (bA [10] ++ bA ([47,47] ++ t ++ [10])):=by rw [Gy];exact h.all (by rw [hz];exact hfull)
  have:=((nZ [10] B3).app (Dc t ht)) v a hH;unfold Cut;rw [this,Gy,hz];exact Mv A8
 ·by_cases hsm:d<=2
  ·refine Qd h fun i hi=>?_
   have:i=0\/i=1:=by omega
   rcases this with rfl|rfl
   ·exact(show ZG 10 from⟨by decide,by decide⟩)
   ·exact(show ZG 47 from⟨by decide,by decide⟩)
  ·have c0:ax v a=10:=hc 0 A8;have s1:bQ v a=bQ v (a+1):=AJ A8 (by rw [c0];decide);have hu:(v.extract (a+1) v.size).size=d - 1:=by rw [dm (wU _)];omega
   have hcu:∀i,i < d - 1->ax (v.extract (a+1) v.size) i=([10] ++ ([47,47] ++ t ++ [10]):List UInt8).getD (1+i) 0:=fun i hi=>by
    rw [cI A8,P0,hc _ A8]
   have e0:ax (v.extract (a+1) v.size) 0=47:=hcu 0 A8;have e1:ax (v.extract (a+1) v.size) 1=47:=hcu 1 A8
   have hs:bf (v.extract (a+1) v.size)=((d - 1:Nat):Int):=by
    unfold bf;rw [e0,e1,if_neg B3,if_neg B3,<- hu];refine YE (by rw [e1];rfl) (fun i h2 hi k=>?_) 2 (wU _);rw [hu] at hi;rw [hcu i hi,C9,IX (by simp),C5 (by simp<;>omega),IX (by simp<;>omega)] at k;have hj:i - 2 < t.length:=by omega
    have k':((t[1+i - [(10:UInt8)].length - [(47:UInt8),47].length]?).getD 0).toNat=10:=k;rw [show 1+i - [(10:UInt8)].length - [(47:UInt8),47].length=i - 2 by(simp only [B9,M1];omega),uz hj] at k';exact ht _ (G9 hj) k'
   have s2:=vj A8 hs A8;unfold Cut;rw [s1,s2];exact Mv A8
theorem ZD (s:ByteArray):Fh (gX s):=by
 unfold gX;split
 ·have e:bA [10,47,47,32] ++ ml s ++ bA [10]=bA ([10] ++ ([47,47] ++ (32 :: HV (bs s)) ++ [10])):=by
   unfold ml;rw [Gy,Gy];rfl
  rw [e];refine k8 _ fun b hb=>?_
  rcases B5.1 hb with rfl|hb
  ·decide
  ·unfold HV at hb;have:=(U6.1 hb).2;simpa using this
 ·rename_i h1;split
  ·exact fun v a d h=>Qd h fun i hi=>by
    have:=h.le;have h3:(bA [9,10,13]).size=3:=rfl;have:i=0\/i=1\/i=2:=by omega
    rcases this with rfl|rfl|rfl
    ·exact⟨by decide,by decide⟩
    ·exact⟨by decide,by decide⟩
    ·exact⟨by decide,by decide⟩
  ·rw [Gy,Gy];refine l7 _ fun b hb h42=>h1 ?_
   rw [S4];exact⟨b,hb,F9 h42⟩
theorem YL : ∀(l p:List UInt8) (m:Nat) (out:ByteArray),m < (bH l).length+1->(dv (bA (p ++ (bH l ++ [34]).take m)) p.length out).2.2=false
 | [],p,m,out,h=>by
  obtain rfl:m=0:=by
   have:(bH []).length=0:=rfl;omega
  rw [Q3,J8,dv,O4 (by rw [rI];omega)]
 |b :: r,p,0,out,h=>by
  rw [Q3,J8,dv,O4 (by rw [rI];omega)]
 |b :: r,p,m+1,out,h=>by
  by_cases hq:b=34\/b=92
  ·have e1:bH (b :: r)=92 :: b :: bH r:=by rw [bH,if_pos hq]
   rw [e1] at h |-;rw [G1,G1,M4]
   have c0:∀x:List UInt8,ax (bA (p ++ 92 :: x)) p.length=92:=fun x=>by
    show(p ++ 92 :: x).getD p.length 0=92;simp
   cases m with
   |zero=>
    have c1:ax (bA (p ++ [92])) (p.length+1)=0:=bU (by rw [rI];simp);rw [Q3,dv,I2 (by rw [rI];simp),c0,if_neg B3,if_neg B3,if_pos B3,c1,if_pos ⟨by decide,by decide⟩]
   |succ m=>
    rw [M4]
    have c1:ax (bA (p ++ 92 :: b :: (bH r ++ [34]).take m)) (p.length+1)=b:=by
     show(p ++ 92 :: b :: (bH r ++ [34]).take m).getD (p.length+1) 0=b;simp
    rw [dv,I2 (by rw [rI];simp),c0,if_neg B3,if_neg B3,if_pos B3,c1,if_neg (by rcases hq with rfl|rfl<;>decide)];have e2:p ++ 92 :: b :: (bH r ++ [34]).take m=(p ++ [92,b]) ++ (bH r ++ [34]).take m:=by simp
    rw [e2,show p.length+2=(p ++ [92,b]).length by simp];exact YL r (p ++ [92,b]) m _ (by simp only [B9] at h;omega)
  ·have e1:bH (b :: r)=b :: bH r:=by rw [bH,if_neg hq]
   rw [e1] at h |-;rw [G1,M4]
   have c0:ax (bA (p ++ b :: (bH r ++ [34]).take m)) p.length=b:=by
    show(p ++ b :: (bH r ++ [34]).take m).getD p.length 0=b;simp
   have n34:b.toNat≠34:=fun k=>hq (Or.inl (I3.1 k))
   have n92:b.toNat≠92:=fun k=>hq (Or.inr (I3.1 k))
   rw [dv,I2 (by rw [rI];simp),c0,if_neg n34];by_cases n10:b.toNat=10
   ·rw [if_pos n10]
   ·rw [if_neg n10,if_neg n92];have e2:p ++ b :: (bH r ++ [34]).take m=(p ++ [b]) ++ (bH r ++ [34]).take m:=by simp
    rw [e2,show p.length+1=(p ++ [b]).length by simp];exact YL r (p ++ [b]) m _ (by simp only [B9] at h;omega)
theorem ZY (s:ByteArray):VK (lX s):=fun v a d hd h=>by
 have hsz:=h.sz;have hz:(lX s).size=(bH (bs s)).length+2:=by unfold lX;rw [rI];simp
 by_cases h0:d=0
 ·exact Mv A8
 ·have hu:(v.extract a v.size).size=d:=by rw [dm (wU _)];omega
  have e:v.extract a v.size=bA ([34] ++ (bH (bs s) ++ [34]).take (d - 1)):=by
   refine mH (by rw [hu,rI];simp;omega) fun i hi=>?_
   rw [hu] at hi;rw [cI A8,h.ch i hi];show([34] ++ bH (bs s) ++ [34]).getD i 0=([34] ++ (bH (bs s) ++ [34]).take (d - 1)).getD i 0;rw [List.append_assoc]
   cases i with
   |zero=>rfl
   |succ i=>
    show(bH (bs s) ++ [34]).getD i 0=((bH (bs s) ++ [34]).take (d - 1)).getD i 0;rw [C9,C9,L7,if_pos A8]
  refine YG A8 ?_;have c0:ax (v.extract a v.size) 0=34:=by rw [e];rfl
  have hs:bf (v.extract a v.size)=0:=by
   unfold bf;rw [c0,if_neg B3,if_pos (Or.inl B3)]
  have hq:=YL (bs s) [34] (d - 1) ⟨#[]⟩ A8;rw [<- e] at hq;have hq':(dv (v.extract a v.size) 1 ⟨#[]⟩).2.2=false:=hq;unfold aH;rw [hs,if_neg B3,if_neg B3,c0,if_neg B3,if_neg B3,if_pos B3,hq',if_neg B6];exact(by decide:(21:Nat)≠0)
theorem YB {g:ByteArray}(h:∀i,i < g.size->ZG (ax g i)):VK g:=fun v a d hd hp=>Qd hp fun i hi=>h i A8
theorem ZZ {g:ByteArray}(h:g.size=1):VK g:=fun v a d hd hp=>Mv (by have:=hp.sz;omega)
theorem Zo {b:UInt8}(h:ak b=true):ZG b:=by
 unfold ak at h;rw [C7,E5,E5] at h;exact⟨by omega,by omega⟩
theorem j7 {b:UInt8}(h:bp b=true):ZG b:=by
 unfold bp at h;rw [M7] at h;rcases h with h|h
 ·unfold isLet at h;simp only [M7,C7,E5] at h;exact⟨by omega,by omega⟩
 ·exact Zo h
theorem j5 {s:ByteArray}(i:Nat)(hi:i < aS s):ZG (ax s i):=by
 have dg:∀a,a<=i->i < a+ar ak s a->ZG (ax s i):=fun a h1 h2=>by
  have:=tJ (p:=ak) (s:=s) (i:=a) (j:=i - a) A8;rw [show a+(i - a)=i by omega] at this;exact Zo this
 have hA:i < aI s->ZG (ax s i):=fun h=>by
  unfold aI at h;split at h
  ·rename_i c;by_cases h1:i < ar ak s 0
   ·exact dg 0 (C0 _) A8
   ·by_cases h2:i=ar ak s 0
    ·subst h2;exact⟨by omega,by omega⟩
    ·exact dg (ar ak s 0+1) A8 A8
  ·exact dg 0 (C0 _) A8
 unfold aS at hi;split at hi
 ·rename_i c;by_cases h1:i < aI s
  ·exact hA h1
  ·by_cases h2:i=aI s
   ·subst h2;rcases c.1 with k|k<;>exact⟨by omega,by omega⟩
   ·by_cases h3:bJ s<=i
    ·exact dg _ h3 hi
    ·have hk:(ax s (aI s+1)).toNat=43\/(ax s (aI s+1)).toNat=45:=by
      refine I4 fun k=>h3 ?_
      unfold bJ;rw [if_neg k];omega
     have:bJ s=aI s+2:=by unfold bJ;rw [if_pos hk]
     obtain rfl:i=aI s+1:=by omega
     rcases hk with k|k<;>exact⟨by omega,by omega⟩
 ·exact hA hi
theorem ZH {src m:ByteArray}{k:Nat}(h:Word src k m)(h3:k≠3):VK src:=by
 have ht:=h.take;have hk:=h.kind;have hp:=h.pos;unfold aH at ht;split at ht
 ·(exfalso;have hz:=B4 TM.kind ht;dsimp only at hz;omega)
 ·split at ht
  ·(exfalso;have hz:=B4 TM.kind ht;dsimp only at hz;omega)
  ·split at ht
   ·split at ht
    ·(exfalso;have hz:=B4 TM.kind ht;dsimp only at hz;omega)
    ·have hn:ar bp src 0=src.size:=B4 TM.n ht;refine YB fun i hi=>?_
     have:=tJ (p:=bp) (s:=src) (i:=0) (j:=i) A8;rw [C2] at this;exact j7 this
   ·split at ht
    ·split at ht
     ·(exfalso;have hz:=B4 TM.kind ht;dsimp only at hz;omega)
     ·have hn:aS src=src.size:=B4 TM.n ht;exact YB fun i hi=>j5 i A8
    ·split at ht
     ·split at ht
      ·have hkk:3=k:=B4 TM.kind ht;omega
      ·(exfalso;have hz:=B4 TM.kind ht;dsimp only at hz;omega)
     ·split at ht
      ·have hn:1=src.size:=B4 TM.n ht;exact ZZ hn.symm
      ·(exfalso;have hz:=B4 TM.kind ht;dsimp only at hz;omega)
theorem c7 {w:Int×ByteArray}(h:Af w):VK (fS w):=by
 by_cases h3:w.1=3
 ·have:fS w=lX w.2:=by unfold fS;rw [if_pos h3]
  rw [this];exact ZY _
 ·exact ZH h.2 (by have:=h.1;omega)
structure p9 (p:Piece):Prop where
 Ad:Fh p.Ad
 src:VK p.src
theorem YT.fst {v g h:ByteArray}{a d:Nat}(H:YT v a (g ++ h) d)(hd:d<=g.size):YT v a g d:=
 ⟨hd,H.sz,fun i hi=>by rw [H.ch i hi,QR A8]⟩
theorem YT.has {v g h:ByteArray}{a d:Nat}(H:YT v a (g ++ h) d)(hd:g.size<=d):Has v a g:=
 ⟨by have:=H.sz;omega,fun i hi=>by rw [H.ch i A8,QR hi]⟩
theorem YT.snd {v g h:ByteArray}{a d:Nat}(H:YT v a (g ++ h) d)(hd:g.size<=d):YT v (a+g.size) h (d - g.size):=by
 have hl:=H.le;rw [B8] at hl;refine⟨by omega,by have:=H.sz;omega,fun i hi=>?_⟩;rw [P0,H.ch (g.size+i) A8,QQ A8]
theorem ZB {p:Piece}(hp:p.OK)(hc:p9 p){v r:ByteArray}{a d:Nat}(H:YT v a (bA [32] ++ p.Ad ++ p.src ++ r) d)(hd:d < 1+p.Ad.size+p.src.size):Cut v a:=by
 have h1:(bA [32]).size=1:=rfl;have z1:(bA [32] ++ p.Ad).size=1+p.Ad.size:=by rw [B8];rfl
 have hsz:=H.sz;by_cases h0:d=0
 ·exact Mv A8
 ·have H0:YT v a (bA [32] ++ (p.Ad ++ (p.src ++ r))) d:=by
   have e:bA [32] ++ p.Ad ++ p.src ++ r=bA [32] ++ (p.Ad ++ (p.src ++ r)):=by simp only [K0]
   rw [<- e];exact H
  have c0:ax v a=32:=by
   have:=H0.ch 0 A8;rw [H8,QR (by exact Q9 _)] at this;exact this
  have s1:bQ v a=bQ v (a+1):=AJ A8 (by rw [c0];decide);have H1:YT v (a+1) (p.Ad ++ (p.src ++ r)) (d - 1):=H0.snd A8;unfold Cut;rw [s1];by_cases hg:d - 1<=p.Ad.size
  ·exact hc.Ad v (a+1) (d - 1) (H1.fst hg)
  ·rw [hp.Ad v (a+1) (H1.has A8)];have H2:=H1.snd A8;exact hc.src v _ _ A8 (H2.fst A8)
theorem Zr (v:ByteArray):∀(l:List Piece) (a d:Nat),(∀p ∈ l,p.OK/\p9 p)->YT v a (jJ l) d->d < (jJ l).size->
  (bQ v a).2≠none\/∃ts T k,k < l.length/\d < (jJ (l.take (k+1))).size/\(bQ v a).1=ts ++ T/\ts.map (fun t=>(t.kind,t.text))=(l.take k).map (fun p=>((p.kind:Int),p.Sy))/\∀t ∈ T,y6 t
 | [],a,d,_,H,hd=>absurd hd (P6 _)
 |p :: r,a,d,h,H,hd=>by
  obtain⟨hp,hc⟩:=h p (D7 ..);have H0:YT v a (bA [32] ++ p.Ad ++ p.src ++ jJ r) d:=H;have z1:(bA [32] ++ p.Ad).size=1+p.Ad.size:=by rw [B8];rfl
  have z2:(bA [32] ++ p.Ad ++ p.src).size=1+p.Ad.size+p.src.size:=by rw [B8,z1]
  have hsz:(jJ (p :: r)).size=1+p.Ad.size+p.src.size+(jJ r).size:=by
   rw [jJ,B8,z2]
  rw [hsz] at hd;by_cases hs:d < 1+p.Ad.size+p.src.size
  ·rcases ZB hp hc H0 hs with k|k
   ·exact Or.inl k
   ·refine Or.inr ⟨[],_,0,D0 _,?_,rfl,rfl,k⟩;show d < (bA [32] ++ p.Ad ++ p.src ++ eS).size;rw [B8,z2];omega
  ·have Hs:=H0.has A8;have Hr:=H0.snd A8;rw [z2] at Hr;have hg:As (bA [32] ++ p.Ad):=(nZ [32] B3).app hp.Ad;have e1:=hg v a Hs.fst;have Hw:=Hs.snd;rw [z1] at e1 Hw;have hvs:=H.sz
   have e2:=hp.word.at Hw (by
    by_cases hz:d - (1+p.Ad.size+p.src.size)=0
    ·left;omega
    ·right;have h3:=Hr.ch 0 A8
     cases r with
     |nil=>
      have h4:=Hr.le;have:(jJ []).size=0:=rfl;omega
     |cons q r'=>
      rw [show a+(1+p.Ad.size)+p.src.size=a+(1+p.Ad.size+p.src.size)+0 by omega,h3]
      have e:jJ (q :: r')=bA [32] ++ (q.Ad ++ q.src ++ jJ r'):=by
       rw [jJ,K0,K0,K0]
      rw [e,QR (by exact Q9 _)];rfl)
   rw [show a+(1+p.Ad.size)+p.src.size=a+(1+p.Ad.size+p.src.size) by omega] at e2;rw [e1,e2];rcases Zr v r _ _ (fun q hq=>h q (D5 _ hq)) Hr A8 with k|⟨ts,T,k,k1,k5,k2,k3,k4⟩
   ·exact Or.inl k
   ·refine Or.inr ⟨_ :: ts,T,k+1,by rw [B9];omega,?_,by rw [k2];rfl,?_,k4⟩
    ·rw [M4,jJ,B8,z2];omega
    rw [E7,k3,M4,E7]
def PD (k:Int)(m:ByteArray):Int:=if k=4/\m=PS.dM then 1 else if k=4/\m=PS.dc then -1 else 0
namespace PS
variable {X : fA}
def ZW (X:fA)(n:Nat):Int:=((X.L.take n).map fun t=>PD t.kind t.text).sum
structure Bl (c:Int)(σ τ:PS X):Prop where
 ok:τ.bad=none->σ.bad=none/\ZW X τ.at_=ZW X σ.at_+c
theorem Bl.refl (σ:PS X):Bl 0 σ σ:=⟨fun h=>⟨h,by omega⟩⟩
theorem Bl.trans {a b:Int}{σ τ ρ:PS X}(h:Bl a σ τ)(k:Bl b τ ρ):Bl (a+b) σ ρ:=⟨fun hb=>by
 obtain⟨k1,k2⟩:=k.ok hb;obtain⟨h1,h2⟩:=h.ok k1
 exact⟨h1,by omega⟩⟩
theorem Bl.to {a b:Int}{σ τ:PS X}(h:Bl a σ τ)(e:a=b):Bl b σ τ:=by subst e;exact h
theorem Bl.bad {c:Int}{σ τ:PS X}(h:τ.bad≠none):Bl c σ τ:=⟨fun k=>absurd k h⟩
theorem At (σ:PS X):Bl 0 σ σ.settle:=by
 cases hb:σ.tok with
 |none=>exact Bl.bad (jc hb)
 |some t=>rw [az hb];exact Bl.refl σ
theorem Kr {c:Int}{σ:PS X}{d:Int}(hd:d≠0:=by decide):Bl c σ (σ.bZ d hd):=Bl.bad (vX σ d hd)
theorem ZV {n:Nat}{t:Tok}(h:X.L[n]?=some t):ZW X (n+1)=ZW X n+PD t.kind t.text:=by
 unfold ZW;rw [List.take_add_one,h,G7,X3];simp
theorem Vg {σ:PS X}{t:Tok}(h:σ.tok=some t)(hk:t.kind≠0):Bl (PD t.kind t.text) σ σ.aK:=by
 obtain⟨h1,h2,h3⟩:=aX h;obtain⟨a1,a2,a3⟩:=dx h hk;exact⟨fun _=>⟨h1,by rw [a1];exact ZV h2⟩⟩
theorem BJ {σ:PS X}{q:Int}{w:ByteArray}(h:σ.du q w=true)(hq:q≠0):Bl (PD q w) σ σ.aK:=by
 obtain⟨t,ht,h1,h2⟩:=cj h;rw [<- h1,<- h2];exact Vg ht (by rw [h1];exact hq)
theorem gU (q:Int)(w:ByteArray)(σ:PS X)(hq:q≠0:=by decide):Bl (PD q w) σ (aO q w σ):=by
 unfold aO;split
 ·rename_i h;exact BJ h hq
 ·exact Kr
theorem Zs {k:Int}(h:k≠4)(m:ByteArray):PD k m=0:=by
 unfold PD;rw [if_neg (fun e=>h e.1),if_neg (fun e=>h e.1)]
theorem Rb (q:Int)(σ:PS X)(hq:q≠4:=by decide)(h0:q≠0:=by decide):Bl 0 σ (take q σ).2:=by
 unfold take;split
 ·rename_i t ht;split
  ·rename_i hk;exact(Vg ht (by rw [hk];exact h0)).to (Zs (by rw [hk];exact hq) _)
  ·exact Kr
 ·exact At _
theorem YI : ∀(n:Nat) (l:List ByteArray) (σ:PS X),Bl 0 σ (iy n l σ).2
 |0,_,σ=>Bl.refl σ
 |n+1,l,σ=>by
  rw [PS.iy];split
  ·rename_i hb;exact((Rb 1 σ).trans ((BJ hb B3).trans (YI n _ _))).to B3
  ·exact((Rb 1 σ).trans (At _)).to rfl
theorem Yz (σ:PS X):Bl 0 σ (names σ).2:=by
 unfold PS.names;split
 ·exact Bl.refl σ
 ·exact YI _ _ _
theorem YH : ∀(n:Nat) (l:List ByteArray) (σ:PS X),Bl 0 σ (fG n l σ).2
 |0,_,σ=>Bl.refl σ
 |n+1,l,σ=>by
  rw [PS.fG];split
  ·rename_i hb;exact((BJ hb B3).trans ((Rb 3 _).trans ((gU 4 aV _).trans (YH n _ _)))).to B3
  ·exact At _
theorem Yc (σ:PS X):Bl 0 σ (props σ).2:=YH _ _ _
def r8 (f:Rd X):Prop:=∀σ,Bl 0 σ (f σ).2
theorem Re {f:Rd X}(hf:r8 f){a b:ByteArray}{ka kb:Int}(ha:PD 4 a=0)(hb:PD 4 b=0):∀(n:Nat) (l:List cE) (σ:PS X),Bl 0 σ (da f a b ka kb n l σ).2
 |0,_,σ=>Bl.refl σ
 |n+1,l,σ=>by
  rw [PS.da];split
  ·rename_i h;exact((BJ h B3).trans ((hf _).trans (Re hf ha hb n _ _))).to (by rw [ha];rfl)
  ·split
   ·rename_i h;exact((BJ h B3).trans ((hf _).trans (Re hf ha hb n _ _))).to (by rw [hb];rfl)
   ·exact At _
theorem r8.prod {f:Rd X}(hf:r8 f):r8 (prod f):=fun σ=>((hf σ).trans (Re hf B3 B3 _ _ _)).to rfl
theorem r8.sum {f:Rd X}(hf:r8 f):r8 (sum f):=fun σ=>((hf.prod σ).trans (Re hf.prod B3 B3 _ _ _)).to rfl
theorem Bl.bE {c:Int}{σ τ:PS X}(h:Bl c σ τ)(n:Nat):Bl c σ (τ.bE n):=⟨h.ok⟩
theorem Bl.s7 {c:Int}{σ τ:PS X}{n:Nat}(h:Bl c (σ.bE n) τ):Bl c σ τ:=⟨h.ok⟩
variable (dec : ByteArray -> Int × Nat)
theorem u5 : ∀d,r8 (X:=X) (un dec d)
 |0=>fun σ=>Bl.refl σ
 |d+1=>fun σ=>by
  have hd:=u5 d;rw [un];split
  ·rename_i t ht;split
   ·rename_i hk;exact(Vg ht (by rw [hk];decide)).to (Zs (by rw [hk];decide) _)
   ·split
    ·rename_i hk;split
     ·exact Kr
     ·refine Bl.bE ?_ _;have h1:=Vg ht (by rw [hk.1];decide);rw [hk.1,hk.2] at h1;exact(h1.trans (hd _).s7).to B3
    ·split
     ·rename_i hk;split
      ·exact Kr
      ·refine Bl.bE ?_ _;have h1:=Vg ht (by rw [hk.1];decide);rw [hk.1,hk.2] at h1;exact(h1.trans ((hd.sum _).s7.trans (gU 4 aF _))).to B3
     ·exact Kr
  ·exact At _
theorem Zt : r8 (X:=X) (lB dec):=fun σ=>(u5 dec _).sum σ
theorem Zu : ∀(n:Nat) (l:List (List cE)) (σ:PS X),Bl 0 σ (rO dec n l σ).2
 |0,_,σ=>Bl.refl σ
 |n+1,l,σ=>by
  rw [PS.rO];split
  ·rename_i hb;exact((Zt dec σ).trans ((BJ hb B3).trans (Zu n _ _))).to B3
  ·exact((Zt dec σ).trans (At _)).to rfl
theorem x6 (σ:PS X):Bl 0 σ (row dec σ).2:=by
 unfold PS.row;split
 ·exact Bl.refl σ
 ·exact Zu dec _ _ _
variable (cnt : ByteArray -> Option Nat)
theorem ZX (σ:PS X):Bl 0 σ (count cnt σ).2:=by
 unfold PS.count;split
 ·rename_i t ht;split
  ·split
   ·rename_i hk;exact(Vg ht (by rw [hk];decide)).to (Zs (by rw [hk];decide) _)
   ·exact Kr
  ·exact Kr
 ·exact At _
theorem o4 (σ:PS X):Bl 1 σ (vC σ):=((Rb 1 σ).trans ((gU 4 dM _).trans ((gU 1 eT _).trans ((gU 1 fa _).trans (gU 4 yQ _))))).to B3
theorem n9 (σ:PS X):Bl 2 σ (xy cnt σ):=((o4 σ).trans ((ZX cnt _).trans ((gU 4 vA _).trans (gU 4 dM _)))).to B3
theorem n7 (σ:PS X):Bl 1 σ (Ap cnt σ):=((n9 cnt σ).trans ((Yz _).trans ((gU 4 dc _).trans (gU 4 aV _)))).to B3
theorem n6 (σ:PS X):Bl 0 σ (nR cnt σ).2:=((n7 cnt σ).trans ((Yc _).trans (gU 4 dc _))).to B3
theorem o9 (σ:PS X):Bl 0 σ (iP σ).2.2:=by
 unfold PS.iP;split
 ·rename_i hb;exact(BJ hb B3).to B3
 ·split
  ·rename_i hb;exact(BJ hb B3).to B3
  ·exact((gU 4 aE σ).trans ((Yz _).trans (gU 4 aF _))).to B3
theorem o8 (σ:PS X):Bl 0 σ (jL dec σ).2:=((o9 σ).trans ((x6 dec _).trans (gU 4 aV _))).to B3
def r7 (τ:PS X):Prop:=τ.bad=none->∃n t,τ.at_=n+1/\X.L[n]?=some t/\t.kind=4/\t.text=dc
theorem YX {σ:PS X}(h:σ.du 4 dc=true):r7 σ.aK:=fun _=>by
 obtain⟨t,ht,h1,h2⟩:=cj h;obtain⟨-,h3,-⟩:=aX ht;exact⟨_,t,(dx ht (by rw [h1];decide)).1,h3,h1,h2⟩
theorem YW (σ:PS X):r7 (aO 4 dc σ):=by
 unfold aO;split
 ·rename_i h;exact YX h
 ·exact fun h=>absurd h (vX _ _)
theorem r7.settle {σ:PS X}(h:r7 σ):r7 σ.settle:=by
 cases hb:σ.tok with
 |none=>exact fun h=>absurd h (jc hb)
 |some t=>rw [az hb];exact h
theorem ZO {σ:PS X}(h:σ.du 1 eC=true):σ.at_+1<=(props σ).2.at_:=by
 unfold props;rw [fG,if_pos h];have h1:=(bq h B3).le;have h2:=(dC 3 σ.aK).le;have h3:=(aJ 4 aV (take 3 σ.aK).2).le;have h4:=(om X.L.length ([] ++ [(take 3 σ.aK).1]) (aO 4 aV (take 3 σ.aK).2)).le;omega
theorem YS (hl:X.late=none):∀(n:Nat) (es:List eZ) (ps:List ByteArray) (σ:PS X),X.L.length+1<=n+σ.at_->Bl (-1) σ (lD dec n es ps σ).2.2/\r7 (lD dec n es ps σ).2.2
 |0,_,_,σ,h=>absurd (σ.inv hl) A8
 |n+1,es,ps,σ,h=>by
  rw [PS.lD];split
  ·rename_i f hf;exact⟨Bl.bad (by rw [hf];exact fun h=>by cases h),fun k=>by rw [hf] at k;cases k⟩
  ·split
   ·rename_i hb;exact⟨(BJ hb B3).to B3,YX hb⟩
   ·split
    ·rename_i hb;have h1:=ZO hb;obtain⟨g1,g2⟩:=YS hl n es (ps ++ (PS.props σ).1) (PS.props σ).2 A8;exact⟨((Yc σ).trans g1).to B3,g2⟩
    ·by_cases hbad:(PS.jL dec σ.settle).2.bad=none
     ·have h1:=(BU dec σ.settle).2 hbad;have h2:=(bD σ).le;obtain⟨g1,g2⟩:=YS hl n (es ++ [(PS.jL dec σ.settle).1]) ps (PS.jL dec σ.settle).2 A8;exact⟨(((At σ).trans (o8 dec _)).trans g1).to B3,g2⟩
     ·have h1:=(lY dec n (es ++ [(PS.jL dec σ.settle).1]) ps (PS.jL dec σ.settle).2).bad hbad;exact⟨Bl.bad h1,fun k=>absurd k h1⟩
theorem o7 (σ:PS X):Bl 0 σ (qB σ).2:=by
 unfold PS.qB;split
 ·rename_i hb;exact((BJ hb B3).trans (Yz _)).to B3
 ·exact At _
theorem o6 (σ:PS X):Bl 1 σ (Bg σ):=((gU 4 aE σ).trans ((Rb 1 _).trans ((o7 _).trans ((gU 4 aF _).trans (gU 4 dM _))))).to B3
theorem o5 (hl:X.late=none)(σ:PS X):Bl 0 σ (qA dec σ).2/\r7 (qA dec σ).2:=by
 obtain⟨g1,g2⟩:=YS dec hl (X.L.length+2) [] [] (Bg σ) A8;exact⟨((o6 σ).trans g1).to B3,g2⟩
theorem Yy (hl:X.late=none):∀(n:Nat) (vs:List dW) (ps:List eY) (σ:PS X),r7 σ->Bl 0 σ (ey dec cnt n vs ps σ).2.2/\r7 (ey dec cnt n vs ps σ).2.2
 |0,_,_,σ,h=>⟨Bl.refl σ,h⟩
 |n+1,vs,ps,σ,h=>by
  rw [PS.ey];split
  ·rename_i hb;obtain⟨g1,g2⟩:=Yy hl n (vs ++ [(PS.nR cnt σ.aK).1]) ps (PS.nR cnt σ.aK).2 (YW _);exact⟨((BJ hb B3).trans ((n6 cnt _).trans g1)).to B3,g2⟩
  ·split
   ·rename_i hb;obtain⟨k1,k2⟩:=o5 dec hl σ.aK;obtain⟨g1,g2⟩:=Yy hl n vs (ps ++ [(PS.qA dec σ.aK).1]) (PS.qA dec σ.aK).2 k2;exact⟨((BJ hb B3).trans (k1.trans g1)).to B3,g2⟩
   ·exact⟨At _,h.settle⟩
theorem ZT {σ:PS X}(h:(fin σ).bad=none):fin σ=σ/\∃t,σ.tok=some t/\t.kind=0:=by
 unfold PS.fin at h |-;split at h
 ·rename_i t ht;split at h
  ·rename_i hk;rw [if_pos hk];exact⟨rfl,t,ht,hk⟩
  ·exact absurd h (vX _ _)
 ·rename_i ht;exact absurd h (jc ht)
theorem ZE (hl:X.late=none)(σ:PS X)(h:(Ec dec cnt σ).2.bad=none) :
  ∃(n:Nat) (t e:Tok),X.L[n]?=some t/\t.kind=4/\t.text=dc/\X.L[n+1]?=some e/\e.kind=0/\ZW X (n+1)=ZW X σ.at_:=by
 obtain⟨h1,e,h2,h3⟩:=ZT h;have hb:(BM dec cnt σ).2.2.bad=none:=by rw [<- h1];exact h
 obtain⟨g1,g2⟩:=Yy dec cnt hl (X.L.length+1) [] [] (vN σ) (YW _);have b1:Bl 0 σ (vN σ):=((gU 1 fe σ).trans ((Rb 1 _).trans ((gU 4 dM _).trans ((Yc _).trans (gU 4 dc _))))).to B3;obtain⟨n,t,q1,q2,q3,q4⟩:=g2 hb;obtain⟨-,q5⟩:=(b1.trans g1).ok hb;obtain⟨-,q6,-⟩:=aX h2;have q7:(BM dec cnt σ).2.2.at_=n+1:=q1;have q8:ZW X (BM dec cnt σ).2.2.at_=ZW X σ.at_+(0+0):=q5;rw [q7] at q6 q8;exact⟨n,t,e,q2,q3,q4,q6,h3,by rw [q8];omega⟩
theorem ZU (hk:∀t ∈ X.L,t.kind≠0)(σ:PS X):(Ec dec cnt σ).2.bad≠none:=fun h=>by
 obtain⟨-,e,h2,h3⟩:=ZT h;obtain⟨-,q6,-⟩:=aX h2;exact hk e (MH q6) h3
end PS
end Go.Ev
