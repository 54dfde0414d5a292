import Derived.Test.YthpoegdjffdojaaGreatDoorTRdf
set_option linter.all false
set_option maxHeartbeats 4000000
set_option maxRecDepth 10000
namespace Go.Ev
open Go.Proofs
open PS (cE)
def bA (l:List UInt8):ByteArray:=⟨l.toArray⟩
section
variable {X : fA}
namespace PS
end PS
end
open PS
variable (dec : ByteArray → Int × Nat)
def yC (s:ByteArray):List (List cE)×Option dy:=
 match(PS.DG dec (PS.begin s)).2.bad with
 |some f=>([],some f)
 |none=>((PS.DG dec (PS.begin s)).1,none)
end Go.Ev
namespace Go.Ev
namespace PS
section
variable {X Z : fA} {k : Nat}
def Src (σ:PS X):Prop:=∀f,σ.bad=some f→(X.L[σ.at_]?=none∧X.late=some f)∨∃t c,X.L[σ.at_]?=some t∧f=⟨c,t.line,t.Ae,t.text⟩∧(c=30∨(c=31∧t.kind=4))
def Yu (f:Rd X):Prop:=∀σ,Src σ→Src (f σ).2
variable (dec : ByteArray → Int × Nat)
variable (cnt : ByteArray → Option Nat)
end
structure XF {X Z:fA}(σ:PS X)(τ:PS Z):Prop where
 at_:σ.at_=τ.at_
 bad:σ.bad=τ.bad
 bu:σ.bu=τ.bu
structure Yw (X Z:fA)(k:Nat):Prop where
 eq:∀i,i≤k→Z.L[i]?=X.L[i]?
 lt:k < X.L.length
structure G2 {X Z:fA}(k:Nat)(f:PS X→PS X)(g:PS Z→PS Z):Prop where
 mono:∀σ,σ.at_≤(f σ).at_
 Yx:∀σ τ,XF σ τ→(f σ).at_≤k→XF (f σ) (g τ)
section
variable {X Z : fA} {k : Nat}
variable (hA : Yw X Z k)
include hA
variable (dec : ByteArray → Int × Nat)
variable (cnt : ByteArray → Option Nat)
end
end PS
end Go.Ev
namespace Go.Ev
open Go.Proofs
open PS
theorem QR {a b:ByteArray}{i:Nat}(h:i < a.size):ax (a ++ b) i=ax a i:=by
 unfold ax
 have e:bs (a ++ b)=bs a ++ bs b:=by
  show(a ++ b).data.toList=_;rw [ByteArray.data_append,Array.toList_append];rfl
 rw [e,List.getD_eq_getElem?_getD,List.getElem?_append_left (by rw [aU];exact h),← List.getD_eq_getElem?_getD]
theorem QQ {a b:ByteArray}{i:Nat}(h:i < b.size):ax (a ++ b) (a.size+i)=ax b i:=by
 unfold ax
 have e:bs (a ++ b)=bs a ++ bs b:=by
  show(a ++ b).data.toList=_;rw [ByteArray.data_append,Array.toList_append];rfl
 rw [e,List.getD_eq_getElem?_getD,List.getElem?_append_right (by rw [aU];omega),aU,Nat.add_sub_cancel_left,← List.getD_eq_getElem?_getD]
theorem rI (l:List UInt8):(bA l).size=l.length:=rfl
theorem Gy (a b:List UInt8):bA a ++ bA b=bA (a ++ b):=by
 apply ByteArray.ext;apply Array.ext';simp [bA]
structure Has (v:ByteArray)(a:Nat)(g:ByteArray):Prop where
 le:a+g.size≤v.size
 ch:∀i,i < g.size→ax v (a+i)=ax g i
theorem Has.fst {v g h:ByteArray}{a:Nat}(H:Has v a (g ++ h)):Has v a g:=by
 refine⟨?_,fun i hi=>?_⟩
 ·have:=H.le;rw [ByteArray.size_append] at this;omega
 ·rw [H.ch i (by rw [ByteArray.size_append];omega),QR hi]
theorem Has.snd {v g h:ByteArray}{a:Nat}(H:Has v a (g ++ h)):Has v (a+g.size) h:=by
 have:=H.le;rw [ByteArray.size_append] at this;refine⟨by omega,fun i hi=>?_⟩;rw [show a+g.size+i=a+(g.size+i) by omega,H.ch (g.size+i) (by rw [ByteArray.size_append];omega),QQ hi]
theorem Has.self (v:ByteArray):Has v 0 v:=⟨by omega,fun i _=>by rw [Nat.zero_add]⟩
theorem WT {v:ByteArray}{a:Nat}(h:a < v.size):ax (v.extract a v.size) 0=ax v a:=by rw [cI Yy,Nat.add_zero]
theorem vj {v:ByteArray}{a n:Nat}(ha:a < v.size)(hs:bf (v.extract a v.size)=(n:Int))(hn:0 < n):bQ v a=bQ v (a+n):=by
 have ht:aH (v.extract a v.size)=⟨n,0,eS,0,eS⟩:=by
  unfold aH;rw [hs,if_neg Yy,if_pos Yy];rfl
 rw [bQ,dif_pos ha,ht];rw [if_neg (show ¬((0:Nat)≠0) by decide),dif_pos hn,if_neg (show ¬((0:Nat)≠0) by decide)]
theorem AJ {v:ByteArray}{a:Nat}(ha:a < v.size)(hb:gj (ax v a)=true):bQ v a=bQ v (a+1):=by
 refine vj ha ?_ YA;unfold bf;rw [WT ha,if_pos hb];rfl
theorem wm : ∀(l:List UInt8) {v:ByteArray} {a:Nat},Has v a (bA l)→(∀b ∈ l,gj b=true)→bQ v a=bQ v (a+l.length)
 | [],v,a,_,_=>rfl
 |b :: r,v,a,H,h=>by
  have H2:Has v a (bA [b] ++ bA r):=by rw [Gy];exact H
  have hle:=H.le;rw [rI,List.length_cons] at hle;have h0:=H.ch 0 (by rw [rI,List.length_cons];omega);rw [AJ Yy (by rw [show ax v a=b from h0];exact h b (List.mem_cons_self ..)),wm r (a:=a+1) H2.snd fun b hb=>h b (List.mem_cons_of_mem _ hb),List.length_cons];rw [show a+1+r.length=a+(r.length+1) by omega]
theorem wu {u:ByteArray}(h1:(ax u 1).toNat=42)(n:Nat)(hn:n+2≤u.size)(h2:(ax u n).toNat=42)(h3:(ax u (n+1)).toNat=47):∀(d i:Nat),d=n - i→i≤n→(∀j,i≤j→j < n→(ax u j).toNat≠42)→fJ u i=((n+2:Nat):Int)
 |0,i,hd,hi,_=>by
  obtain rfl:i=n:=by omega
  rw [fJ,dif_pos Yy,if_neg Yy,if_pos ⟨h1,h2,h3⟩];rfl
 |d+1,i,hd,hi,h=>by
  have:=h i (Nat.le_refl _) Yy;rw [fJ,dif_pos Yy,if_neg Yy,if_neg (fun k=>this k.2.1)];exact wu h1 n hn h2 h3 d (i+1) Yy Yy fun j hj hj2=>h j Yy hj2
theorem wo {u:ByteArray}(h1:(ax u 1).toNat=47)(n:Nat)(hn:n < u.size)(h2:(ax u n).toNat=10):∀(d i:Nat),d=n - i→i≤n→(∀j,i≤j→j < n→(ax u j).toNat≠10)→fJ u i=(n:Int)
 |0,i,hd,hi,_=>by
  obtain rfl:i=n:=by omega
  rw [fJ,dif_pos Yy,if_pos ⟨h1,h2⟩]
 |d+1,i,hd,hi,h=>by
  have:=h i (Nat.le_refl _) Yy;rw [fJ,dif_pos Yy,if_neg (fun k=>this k.2),if_neg Yy];exact wo h1 n hn h2 d (i+1) Yy Yy fun j hj hj2=>h j Yy hj2
def ff (g:ByteArray):Prop:=∀(v:ByteArray) (a:Nat),Has v a g→bQ v a=bQ v (a+g.size)
theorem ff.app {g h:ByteArray}(hg:ff g)(hh:ff h):ff (g ++ h):=fun v a H=>by
 rw [hg v a H.fst,hh v _ H.snd,ByteArray.size_append,Nat.add_assoc]
theorem nZ (l:List UInt8)(h:∀b ∈ l,gj b=true):ff (bA l):=fun v a H=>wm l H h
theorem Dd (t:List UInt8)(h:∀b ∈ t,b.toNat≠42):ff (bA ([47,42] ++ t ++ [42,47])):=fun v a H=>by
 have hz:(bA ([47,42] ++ t ++ [42,47])).size=t.length+4:=by rw [rI];simp
 have hle:=H.le;rw [hz] at hle ⊢;have hu:(v.extract a v.size).size=v.size - a:=dm (Nat.le_refl _)
 have hc:∀i,i < t.length+4→ax (v.extract a v.size) i=([47,42] ++ t ++ [42,47]:List UInt8).getD i 0:=fun i hi=>by
  rw [cI Yy,H.ch i Yy];rfl
 have e0:ax (v.extract a v.size) 0=47:=hc 0 Yy;have e1:ax (v.extract a v.size) 1=42:=hc 1 Yy
 have e2:ax (v.extract a v.size) (t.length+2)=42:=by
  rw [hc _ Yy,List.getD_eq_getElem?_getD,List.getElem?_append_right (by simp)];simp
 have e3:ax (v.extract a v.size) (t.length+2+1)=47:=by
  rw [hc _ Yy,List.getD_eq_getElem?_getD,List.getElem?_append_right (by simp)];simp
 refine vj Yy ?_ Yy;unfold bf;rw [e0,e1,if_neg YA,if_neg YA];refine wu (by rw [e1];rfl) (t.length+2) Yy (by rw [e2];rfl) (by rw [e3];rfl) _ 2 rfl Yy fun j h1 h2=>?_
 rw [hc j Yy,List.getD_eq_getElem?_getD,List.getElem?_append_left (by simp;omega),List.getElem?_append_right (by simp;omega)];have hj:j - 2 < t.length:=by omega
 show((t[j - 2]?).getD 0).toNat≠42;rw [List.getElem?_eq_getElem hj];exact h _ (List.getElem_mem hj)
theorem Dc (t:List UInt8)(h:∀b ∈ t,b.toNat≠10):ff (bA ([47,47] ++ t ++ [10])):=fun v a H=>by
 have hz:(bA ([47,47] ++ t ++ [10])).size=t.length+3:=by rw [rI];simp
 have hle:=H.le;rw [hz] at hle ⊢;have hu:(v.extract a v.size).size=v.size - a:=dm (Nat.le_refl _)
 have hc:∀i,i < t.length+3→ax (v.extract a v.size) i=([47,47] ++ t ++ [10]:List UInt8).getD i 0:=fun i hi=>by
  rw [cI Yy,H.ch i Yy];rfl
 have e0:ax (v.extract a v.size) 0=47:=hc 0 Yy;have e1:ax (v.extract a v.size) 1=47:=hc 1 Yy
 have e2:ax (v.extract a v.size) (t.length+2)=10:=by
  rw [hc _ Yy,List.getD_eq_getElem?_getD,List.getElem?_append_right (by simp)];simp
 have s1:bQ v a=bQ v (a+(t.length+2)):=by
  refine vj Yy ?_ Yy;unfold bf;rw [e0,e1,if_neg YA,if_neg YA];refine wo (by rw [e1];rfl) (t.length+2) Yy (by rw [e2];rfl) _ 2 rfl Yy fun j h1 h2=>?_
  rw [hc j Yy,List.getD_eq_getElem?_getD,List.getElem?_append_left (by simp;omega),List.getElem?_append_right (by simp;omega)];have hj:j - 2 < t.length:=by omega
  show((t[j - 2]?).getD 0).toNat≠10;rw [List.getElem?_eq_getElem hj];exact h _ (List.getElem_mem hj)
 rw [s1,AJ Yy (by
  have:ax v (a+(t.length+2))=10:=by rw [← e2,cI Yy]
  rw [this];decide)]
 rw [show a+(t.length+2)+1=a+(t.length+3) by omega]
structure Word (src:ByteArray)(k:Nat)(m:ByteArray):Prop where
 pos:0 < src.size
 kind:k≠0
 take:aH src=⟨src.size,k,m,0,eS⟩
theorem Word.at {src m:ByteArray}{k:Nat}(h:Word src k m){v:ByteArray}{a:Nat}(H:Has v a src)(hn:a+src.size=v.size∨ax v (a+src.size)=32) :
  bQ v a=(⟨k,m,(aj v a).1,(aj v a).2⟩ :: (bQ v (a+src.size)).1,(bQ v (a+src.size)).2):=by
 have hp:=h.pos;have hle:=H.le;have hu:(v.extract a v.size).size=v.size - a:=dm (Nat.le_refl _);have hag:Nf src (v.extract a v.size) src.size:=fun i hi=>by rw [cI Yy,H.ch i hi]
 have ht:aH (v.extract a v.size)=⟨src.size,k,m,0,eS⟩:=by
  by_cases he:a+src.size=v.size
  ·have e:v.extract a v.size=src:=mH Yy fun i hi=>hag i Yy
   rw [e];exact h.take
  ·have h32:=hn.resolve_left he;rw [← h.take];refine GQ (n:=src.size) (by rw [h.take]) (by rw [h.take]) hp hag (Nat.le_refl _) Yy (Or.inl ⟨?_,by rw [h.take];exact h.kind⟩);rw [cI Yy];exact h32
 rw [bQ,dif_pos Yy,ht];rw [if_neg (show ¬((0:Nat)≠0) by decide),dif_pos hp,if_pos h.kind]
structure Piece where
 Ad:ByteArray
 src:ByteArray
 kind:Nat
 Sy:ByteArray
structure Piece.OK (p:Piece):Prop where
 Ad:ff p.Ad
 word:Word p.src p.kind p.Sy
def jJ : List Piece→ByteArray
 | []=>eS
 |p :: r=>bA [32] ++ p.Ad ++ p.src ++ jJ r
theorem FU (v:ByteArray):∀(l:List Piece) (a:Nat),(∀p ∈ l,p.OK)→Has v a (jJ l)→a+(jJ l).size=v.size→
  ∃ts,bQ v a=(ts,none)∧ts.map (fun t=>(t.kind,t.text))=l.map (fun p=>((p.kind:Int),p.Sy)) ++ [(0,eS)]
 | [],a,_,H,he=>by
  have hz:a=v.size:=he;rw [bQ,dif_neg Yy];exact⟨_,rfl,rfl⟩
 |p :: r,a,h,H,he=>by
  have hp:=h p (List.mem_cons_self ..)
  have hsz:(jJ (p :: r)).size=1+p.Ad.size+p.src.size+(jJ r).size:=by
   rw [jJ,ByteArray.size_append,ByteArray.size_append,ByteArray.size_append];rfl
  rw [hsz] at he;have H1:Has v a ((bA [32] ++ p.Ad) ++ p.src ++ jJ r):=H;have Hr:=H1.snd;have Hg:=H1.fst.fst;have Hs:=H1.fst.snd;have z1:(bA [32] ++ p.Ad).size=1+p.Ad.size:=by rw [ByteArray.size_append];rfl
  have z2:((bA [32] ++ p.Ad) ++ p.src).size=1+p.Ad.size+p.src.size:=by rw [ByteArray.size_append,z1]
  rw [z2] at Hr;rw [z1] at Hs;have hg:ff (bA [32] ++ p.Ad):=(nZ [32] YA).app hp.Ad;have e1:=hg v a Hg;rw [z1] at e1;obtain⟨ts,e3,e4⟩:=FU v r (a+(1+p.Ad.size+p.src.size)) (fun q hq=>h q (List.mem_cons_of_mem _ hq)) Hr Yy
  have e2:=hp.word.at Hs (by
   cases r with
   |nil=>
    left;have:(jJ []).size=0:=rfl;omega
   |cons q r'=>
    right
    have:=Hr.ch 0 (by
     have:(jJ (q :: r')).size=1+q.Ad.size+q.src.size+(jJ r').size:=by
      rw [jJ,ByteArray.size_append,ByteArray.size_append,ByteArray.size_append];rfl
     omega)
    rw [show a+(1+p.Ad.size)+p.src.size=a+(1+p.Ad.size+p.src.size)+0 by omega,this]
    have e:jJ (q :: r')=bA [32] ++ (q.Ad ++ q.src ++ jJ r'):=by
     rw [jJ,ByteArray.append_assoc,ByteArray.append_assoc,ByteArray.append_assoc]
    rw [e,QR (by exact Nat.succ_pos _)];rfl)
  rw [show a+(1+p.Ad.size)+p.src.size=a+(1+p.Ad.size+p.src.size) by omega,e3] at e2;refine⟨_,e1.trans e2,?_⟩;rw [List.map_cons,e4];rfl
end Go.Ev
