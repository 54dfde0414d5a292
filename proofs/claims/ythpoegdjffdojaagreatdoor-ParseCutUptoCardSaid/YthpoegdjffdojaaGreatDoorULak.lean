import Derived.Test.YthpoegdjffdojaaGreatDoorURdf
set_option linter.all false
set_option maxHeartbeats 4000000
set_option maxRecDepth 10000
namespace Go.Ev
open Go.Proofs
open PS (cE)
def bA (l:List UInt8):ByteArray:=⟨l.toArray⟩
section
variable {X : fA}
namespace PS
end PS
end
open PS
variable (dec : ByteArray -> Int × Nat)
def yC (s:ByteArray):List (List cE)×Option dy:=
 match(PS.DG dec (PS.begin s)).2.bad with
 |some f=>([],some f)
 |none=>((PS.DG dec (PS.begin s)).1,none)
end Go.Ev
namespace Go.Ev
namespace PS
section
variable {X Z : fA} {k : Nat}
def Src (σ:PS X):Prop:=∀f,σ.bad=some f->(X.L[σ.at_]?=none/\X.late=some f)\/∃t c,X.L[σ.at_]?=some t/\f=⟨c,t.line,t.Ae,t.text⟩/\(c=30\/(c=31/\t.kind=4))
def Yu (f:Rd X):Prop:=∀σ,Src σ->Src (f σ).2
variable (dec : ByteArray -> Int × Nat)
variable (cnt : ByteArray -> Option Nat)
end
structure XF {X Z:fA}(σ:PS X)(τ:PS Z):Prop where
 at_:σ.at_=τ.at_
 bad:σ.bad=τ.bad
 bu:σ.bu=τ.bu
structure Yw (X Z:fA)(k:Nat):Prop where
 eq:∀i,i<=k->Z.L[i]?=X.L[i]?
 lt:k < X.L.length
structure G2 {X Z:fA}(k:Nat)(f:PS X->PS X)(g:PS Z->PS Z):Prop where
 mono:∀σ,σ.at_<=(f σ).at_
 Yx:∀σ τ,XF σ τ->(f σ).at_<=k->XF (f σ) (g τ)
section
variable {X Z : fA} {k : Nat}
variable (hA : Yw X Z k)
include hA
variable (dec : ByteArray -> Int × Nat)
variable (cnt : ByteArray -> Option Nat)
end
end PS
end Go.Ev
namespace Go.Ev
open Go.Proofs
open PS
theorem QR {a b:ByteArray}{i:Nat}(h:i < a.size):ax (a ++ b) i=ax a i:=by
 unfold ax
 have e:bs (a ++ b)=bs a ++ bs b:=by
  show(a ++ b).data.toList=_;rw [Q7,S1];rfl
 rw [e,C9,C5 (by rw [aU];exact h),<- C9]
theorem QQ {a b:ByteArray}{i:Nat}(h:i < b.size):ax (a ++ b) (a.size+i)=ax b i:=by
 unfold ax
 have e:bs (a ++ b)=bs a ++ bs b:=by
  show(a ++ b).data.toList=_;rw [Q7,S1];rfl
 rw [e,C9,IX (by rw [aU];omega),aU,H4,<- C9]
theorem rI (l:List UInt8):(bA l).size=l.length:=rfl
theorem Gy (a b:List UInt8):bA a ++ bA b=bA (a ++ b):=by
 apply P1;apply U9;simp [bA]
structure Has (v:ByteArray)(a:Nat)(g:ByteArray):Prop where
 le:a+g.size<=v.size
 ch:∀i,i < g.size->ax v (a+i)=ax g i
theorem Has.fst {v g h:ByteArray}{a:Nat}(H:Has v a (g ++ h)):Has v a g:=by
 refine⟨?_,fun i hi=>?_⟩
 ·have:=H.le;rw [B8] at this;omega
 ·rw [H.ch i (by rw [B8];omega),QR hi]
theorem Has.snd {v g h:ByteArray}{a:Nat}(H:Has v a (g ++ h)):Has v (a+g.size) h:=by
 have:=H.le;rw [B8] at this;refine⟨by omega,fun i hi=>?_⟩;rw [show a+g.size+i=a+(g.size+i) by omega,H.ch (g.size+i) (by rw [B8];omega),QQ hi]
theorem Has.self (v:ByteArray):Has v 0 v:=⟨by omega,fun i _=>by rw [C2]⟩
theorem WT {v:ByteArray}{a:Nat}(h:a < v.size):ax (v.extract a v.size) 0=ax v a:=by rw [cI A8,H8]
theorem vj {v:ByteArray}{a n:Nat}(ha:a < v.size)(hs:bf (v.extract a v.size)=(n:Int))(hn:0 < n):bQ v a=bQ v (a+n):=by
 have ht:aH (v.extract a v.size)=⟨n,0,eS,0,eS⟩:=by
  unfold aH;rw [hs,if_neg A8,if_pos A8];rfl
 rw [bQ,I2 ha,ht];rw [if_neg (show ¬((0:Nat)≠0) by decide),I2 hn,if_neg (show ¬((0:Nat)≠0) by decide)]
theorem AJ {v:ByteArray}{a:Nat}(ha:a < v.size)(hb:gj (ax v a)=true):bQ v a=bQ v (a+1):=by
 refine vj ha ?_ B3;unfold bf;rw [WT ha,if_pos hb];rfl
theorem wm : ∀(l:List UInt8) {v:ByteArray} {a:Nat},Has v a (bA l)->(∀b ∈ l,gj b=true)->bQ v a=bQ v (a+l.length)
 | [],v,a,_,_=>rfl
 |b :: r,v,a,H,h=>by
  have H2:Has v a (bA [b] ++ bA r):=by rw [Gy];exact H
  have hle:=H.le;rw [rI,B9] at hle;have h0:=H.ch 0 (by rw [rI,B9];omega);rw [AJ A8 (by rw [show ax v a=b from h0];exact h b (D7 ..)),wm r (a:=a+1) H2.snd fun b hb=>h b (D5 _ hb),B9];rw [show a+1+r.length=a+(r.length+1) by omega]
theorem wu {u:ByteArray}(h1:(ax u 1).toNat=42)(n:Nat)(hn:n+2<=u.size)(h2:(ax u n).toNat=42)(h3:(ax u (n+1)).toNat=47):∀(d i:Nat),d=n - i->i<=n->(∀j,i<=j->j < n->(ax u j).toNat≠42)->fJ u i=((n+2:Nat):Int)
 |0,i,hd,hi,_=>by
  obtain rfl:i=n:=by omega
  rw [fJ,I2 A8,if_neg A8,if_pos ⟨h1,h2,h3⟩];rfl
 |d+1,i,hd,hi,h=>by
  have:=h i (wU _) A8;rw [fJ,I2 A8,if_neg A8,if_neg (fun k=>this k.2.1)];exact wu h1 n hn h2 h3 d (i+1) A8 A8 fun j hj hj2=>h j A8 hj2
theorem wo {u:ByteArray}(h1:(ax u 1).toNat=47)(n:Nat)(hn:n < u.size)(h2:(ax u n).toNat=10):∀(d i:Nat),d=n - i->i<=n->(∀j,i<=j->j < n->(ax u j).toNat≠10)->fJ u i=(n:Int)
 |0,i,hd,hi,_=>by
  obtain rfl:i=n:=by omega
  rw [fJ,I2 A8,if_pos ⟨h1,h2⟩]
 |d+1,i,hd,hi,h=>by
  have:=h i (wU _) A8;rw [fJ,I2 A8,if_neg (fun k=>this k.2),if_neg A8];exact wo h1 n hn h2 d (i+1) A8 A8 fun j hj hj2=>h j A8 hj2
def As (g:ByteArray):Prop:=∀(v:ByteArray) (a:Nat),Has v a g->bQ v a=bQ v (a+g.size)
theorem As.app {g h:ByteArray}(hg:As g)(hh:As h):As (g ++ h):=fun v a H=>by
 rw [hg v a H.fst,hh v _ H.snd,B8,P0]
theorem nZ (l:List UInt8)(h:∀b ∈ l,gj b=true):As (bA l):=fun v a H=>wm l H h
theorem Dd (t:List UInt8)(h:∀b ∈ t,b.toNat≠42):As (bA ([47,42] ++ t ++ [42,47])):=fun v a H=>by
 have hz:(bA ([47,42] ++ t ++ [42,47])).size=t.length+4:=by rw [rI];simp
 have hle:=H.le;rw [hz] at hle |-;have hu:(v.extract a v.size).size=v.size - a:=dm (wU _)
 have hc:∀i,i < t.length+4->ax (v.extract a v.size) i=([47,42] ++ t ++ [42,47]:List UInt8).getD i 0:=fun i hi=>by
  rw [cI A8,H.ch i A8];rfl
 have e0:ax (v.extract a v.size) 0=47:=hc 0 A8;have e1:ax (v.extract a v.size) 1=42:=hc 1 A8
 have e2:ax (v.extract a v.size) (t.length+2)=42:=by
  rw [hc _ A8,C9,IX (by simp)];simp
 have e3:ax (v.extract a v.size) (t.length+2+1)=47:=by
  rw [hc _ A8,C9,IX (by simp)];simp
 refine vj A8 ?_ A8;unfold bf;rw [e0,e1,if_neg B3,if_neg B3];refine wu (by rw [e1];rfl) (t.length+2) A8 (by rw [e2];rfl) (by rw [e3];rfl) _ 2 rfl A8 fun j h1 h2=>?_
 rw [hc j A8,C9,C5 (by simp;omega),IX (by simp;omega)];have hj:j - 2 < t.length:=by omega
 show((t[j - 2]?).getD 0).toNat≠42;rw [uz hj];exact h _ (G9 hj)
theorem Dc (t:List UInt8)(h:∀b ∈ t,b.toNat≠10):As (bA ([47,47] ++ t ++ [10])):=fun v a H=>by
 have hz:(bA ([47,47] ++ t ++ [10])).size=t.length+3:=by rw [rI];simp
 have hle:=H.le;rw [hz] at hle |-;have hu:(v.extract a v.size).size=v.size - a:=dm (wU _)
 have hc:∀i,i < t.length+3->ax (v.extract a v.size) i=([47,47] ++ t ++ [10]:List UInt8).getD i 0:=fun i hi=>by
  rw [cI A8,H.ch i A8];rfl
 have e0:ax (v.extract a v.size) 0=47:=hc 0 A8;have e1:ax (v.extract a v.size) 1=47:=hc 1 A8
 have e2:ax (v.extract a v.size) (t.length+2)=10:=by
  rw [hc _ A8,C9,IX (by simp)];simp
 have s1:bQ v a=bQ v (a+(t.length+2)):=by
  refine vj A8 ?_ A8;unfold bf;rw [e0,e1,if_neg B3,if_neg B3];refine wo (by rw [e1];rfl) (t.length+2) A8 (by rw [e2];rfl) _ 2 rfl A8 fun j h1 h2=>?_
  rw [hc j A8,C9,C5 (by simp;omega),IX (by simp;omega)];have hj:j - 2 < t.length:=by omega
  show((t[j - 2]?).getD 0).toNat≠10;rw [uz hj];exact h _ (G9 hj)
 rw [s1,AJ A8 (by
  have:ax v (a+(t.length+2))=10:=by rw [<- e2,cI A8]
  rw [this];decide)]
 rw [show a+(t.length+2)+1=a+(t.length+3) by omega]
structure Word (src:ByteArray)(k:Nat)(m:ByteArray):Prop where
 pos:0 < src.size
 kind:k≠0
 take:aH src=⟨src.size,k,m,0,eS⟩
theorem Word.at {src m:ByteArray}{k:Nat}(h:Word src k m){v:ByteArray}{a:Nat}(H:Has v a src)(hn:a+src.size=v.size\/ax v (a+src.size)=32) :
  bQ v a=(⟨k,m,(aj v a).1,(aj v a).2⟩ :: (bQ v (a+src.size)).1,(bQ v (a+src.size)).2):=by
 have hp:=h.pos;have hle:=H.le;have hu:(v.extract a v.size).size=v.size - a:=dm (wU _);have hag:Nf src (v.extract a v.size) src.size:=fun i hi=>by rw [cI A8,H.ch i hi]
 have ht:aH (v.extract a v.size)=⟨src.size,k,m,0,eS⟩:=by
  by_cases he:a+src.size=v.size
  ·have e:v.extract a v.size=src:=mH A8 fun i hi=>hag i A8
   rw [e];exact h.take
  ·have h32:=hn.resolve_left he;rw [<- h.take];refine GQ (n:=src.size) (by rw [h.take]) (by rw [h.take]) hp hag (wU _) A8 (Or.inl ⟨?_,by rw [h.take];exact h.kind⟩);rw [cI A8];exact h32
 rw [bQ,I2 A8,ht];rw [if_neg (show ¬((0:Nat)≠0) by decide),I2 hp,if_pos h.kind]
structure Piece where
 Ad:ByteArray
 src:ByteArray
 kind:Nat
 Sy:ByteArray
structure Piece.OK (p:Piece):Prop where
 Ad:As p.Ad
 word:Word p.src p.kind p.Sy
def jJ : List Piece->ByteArray
 | []=>eS
 |p :: r=>bA [32] ++ p.Ad ++ p.src ++ jJ r
theorem Xb : ∀(l r:List Piece),jJ (l ++ r)=jJ l ++ jJ r
 | [],r=>by show jJ r=eS ++ jJ r;unfold eS;rw [S5]
 |p :: l,r=>by rw [G1,jJ,Xb l r,jJ,@K0 (bA [32] ++ p.Ad ++ p.src)]
namespace PS
variable {X : fA}
abbrev bV :=List (Int×ByteArray)
structure Up (σ:PS X)(ws:bV)(n:Nat):Prop where
 bad:σ.bad=none
 bu:σ.bu=n
 ws:∀i w,ws[i]?=some w->∃t,X.L[σ.at_+i]?=some t/\t.kind=w.1/\t.text=w.2
theorem Up.tok {σ:PS X}{k:Int}{m:ByteArray}{r:bV}{n:Nat}(h:Up σ ((k,m) :: r) n):∃t,σ.tok=some t/\t.kind=k/\t.text=m:=by
 obtain⟨t,h1,h2,h3⟩:=h.ws 0 (k,m) rfl;refine⟨t,?_,h2,h3⟩;unfold PS.tok;rw [h.bad];exact h1
theorem Up.aK {σ:PS X}{k:Int}{m:ByteArray}{r:bV}{n:Nat}(h:Up σ ((k,m) :: r) n)(hk:k≠0):Up σ.aK r n/\σ.aK.at_=σ.at_+1:=by
 obtain⟨t,h1,h2,h3⟩:=h.tok;obtain⟨a1,a2,a3⟩:=dx h1 (by rw [h2];exact hk);refine⟨⟨a2,a3.trans h.bu,fun i w hw=>?_⟩,a1⟩;rw [a1,show σ.at_+1+i=σ.at_+(i+1) by omega];exact h.ws (i+1) w (by rw [S3];exact hw)
theorem Up.yes {σ:PS X}{k:Int}{m:ByteArray}{r:bV}{n:Nat}(h:Up σ ((k,m) :: r) n):σ.du k m=true:=by
 obtain⟨t,h1,h2,h3⟩:=h.tok;unfold PS.du;rw [h1];exact F9 ⟨h2,h3⟩
theorem Up.no {σ:PS X}{k q:Int}{m w:ByteArray}{r:bV}{n:Nat}(h:Up σ ((k,m) :: r) n)(hn:k≠q\/m≠w):σ.du q w=false:=by
 obtain⟨t,h1,h2,h3⟩:=h.tok;unfold PS.du;rw [h1];refine G4 fun hh=>?_
 rcases hn with hn|hn
 ·exact hn (h2.symm.trans hh.1)
 ·exact hn (h3.symm.trans hh.2)
theorem Up.settle {σ:PS X}{w:Int×ByteArray}{r:bV}{n:Nat}(h:Up σ (w :: r) n):σ.settle=σ:=by
 obtain⟨t,h1,-⟩:=Up.tok (k:=w.1) (m:=w.2) h;exact az h1
theorem Up.len {σ:PS X}{ws:bV}{n:Nat}(h:Up σ ws n):σ.at_+ws.length<=X.L.length\/ws=[]:=by
 cases hw:ws with
 |nil=>exact Or.inr rfl
 |cons a r=>
  left;rw [hw] at h;have hl:(a :: r)[r.length]?=some ((a :: r)[r.length]'(by simp)):=uz _;obtain⟨t,h1,-⟩:=h.ws r.length _ hl;have:=(yK.1 h1).1;rw [B9];omega
theorem Up.aO {σ:PS X}{k:Int}{m:ByteArray}{r:bV}{n:Nat}(h:Up σ ((k,m) :: r) n)(hk:k≠0):Up (aO k m σ) r n:=by
 unfold PS.aO;rw [if_pos h.yes];exact(h.aK hk).1
theorem Up.take {σ:PS X}{k:Int}{m:ByteArray}{r:bV}{n:Nat}(h:Up σ ((k,m) :: r) n)(hk:k≠0):(take k σ).1=m/\Up (take k σ).2 r n:=by
 obtain⟨t,h1,h2,h3⟩:=h.tok;unfold PS.take;rw [h1];simp only;rw [if_pos h2];exact⟨h3,(h.aK hk).1⟩
def aQ : List ByteArray->bV
 | []=>[]
 | [a]=>[(1,a)]
 |a :: b :: r=>(1,a) :: (4,bo) :: aQ (b :: r)
theorem wa : ∀l:List ByteArray,l.length<=(aQ l).length
 | []=>wU _
 | [a]=>wU _
 |a :: b :: r=>by
  have:=wa (b :: r);have e:(aQ (a :: b :: r)).length=(aQ (b :: r)).length+2:=rfl;rw [B9,e];omega
theorem we : ∀(l:List ByteArray) (k:Nat) (acc:List ByteArray) (σ:PS X) (w:Int×ByteArray) (r:bV) (n:Nat),l≠[]->w.1≠4\/w.2≠bo->Up σ (aQ l ++ w :: r) n->l.length<=k->
  (iy k acc σ).1=acc ++ l/\Up (iy k acc σ).2 (w :: r) n
 | [],_,_,_,_,_,_,h,_,_,_=>absurd rfl h
 | [a],k,acc,σ,w,r,n,_,hw,h,hk=>by
  obtain⟨k,rfl⟩:∃j,k=j+1:=⟨k - 1,by simp at hk;omega⟩
  obtain⟨h1,h2⟩:=Up.take (k:=1) h B3;have hn:(PS.take 1 σ).2.du 4 bo=false:=Up.no (k:=w.1) (m:=w.2) h2 hw;rw [iy,hn,if_neg B6,h1,h2.settle];exact⟨rfl,h2⟩
 |a :: b :: l,k,acc,σ,w,r,n,_,hw,h,hk=>by
  obtain⟨k,rfl⟩:∃j,k=j+1:=⟨k - 1,by simp at hk;omega⟩
  obtain⟨h1,h2⟩:=Up.take (k:=1) h B3;have h3:=(h2.aK B3).1;obtain⟨g1,g2⟩:=we (b :: l) k (acc ++ [a]) _ w r n (by simp) hw h3 (by simp at hk |-;omega);rw [iy,if_pos h2.yes,h1];exact⟨by rw [g1,List.append_assoc];rfl,g2⟩
theorem ti {l:List ByteArray}{σ:PS X}{w:Int×ByteArray}{r:bV}{n:Nat}(hl:l≠[])(hw:w.1≠4\/w.2≠bo)(h:Up σ (aQ l ++ w :: r) n):(names σ).1=l/\Up (names σ).2 (w :: r) n:=by
 unfold PS.names;rw [h.bad]
 have hlen:l.length<=X.L.length+1:=by
  have h1:=wa l;rcases h.len with h2|h2
  ·rw [List.length_append] at h2;omega
  ·simp at h2
 obtain⟨g1,g2⟩:=we l (X.L.length+1) [] σ w r n hl hw h hlen;exact⟨by simpa using g1,g2⟩
def aG : List ByteArray->bV
 | []=>[]
 |m :: r=>(1,eC) :: (3,m) :: (4,aV) :: aG r
theorem vZ : ∀l:List ByteArray,l.length<=(aG l).length
 | []=>wU _
 |a :: r=>by
  have:=vZ r;have e:(aG (a :: r)).length=(aG r).length+3:=rfl;rw [B9,e];omega
theorem wb : ∀(l:List ByteArray) (k:Nat) (acc:List ByteArray) (σ:PS X) (w:Int×ByteArray) (r:bV) (n:Nat),w.1≠1\/w.2≠eC->Up σ (aG l ++ w :: r) n->l.length+1<=k->
  (fG k acc σ).1=acc ++ l/\Up (fG k acc σ).2 (w :: r) n
 | [],k,acc,σ,w,r,n,hw,h,hk=>by
  obtain⟨k,rfl⟩:∃j,k=j+1:=⟨k - 1,by omega⟩
  have h':Up σ (w :: r) n:=h;have hn:σ.du 1 eC=false:=Up.no (k:=w.1) (m:=w.2) h' hw;rw [fG,hn,if_neg B6,h'.settle];exact⟨by simp,h'⟩
 |m :: l,k,acc,σ,w,r,n,hw,h,hk=>by
  obtain⟨k,rfl⟩:∃j,k=j+1:=⟨k - 1,by omega⟩
  have h1:=(Up.aK (k:=1) h B3).1;obtain⟨h2,h3⟩:=h1.take B3;have h4:=h3.aO B3;obtain⟨g1,g2⟩:=wb l k (acc ++ [m]) _ w r n hw h4 (by rw [B9] at hk;omega);rw [fG,if_pos (Up.yes (k:=1) h),h2];exact⟨by rw [g1,List.append_assoc];rfl,g2⟩
theorem th {l:List ByteArray}{σ:PS X}{w:Int×ByteArray}{r:bV}{n:Nat}(hw:w.1≠1\/w.2≠eC)(h:Up σ (aG l ++ w :: r) n):(props σ).1=l/\Up (props σ).2 (w :: r) n:=by
 have hlen:l.length+1<=X.L.length+1:=by
  have h1:=vZ l;rcases h.len with h2|h2
  ·rw [List.length_append] at h2;omega
  ·simp at h2
 obtain⟨g1,g2⟩:=wb l (X.L.length+1) [] σ w r n hw h hlen;exact⟨by unfold props;simpa using g1,g2⟩
theorem FX {σ:PS X}{t:Tok}(h:σ.tok=some t){k:Int}{w:ByteArray}(hw:t.kind≠k\/t.text≠w):σ.du k w=false:=by
 unfold PS.du;rw [h];exact G4 fun k=>hw.elim (fun h=>h k.1) (fun h=>h k.2)
theorem il (u:Rd X)(a b:ByteArray)(ka kb:Int){l:List cE}{σ:PS X}{t:Tok}(h:σ.tok=some t)(ha:t.kind≠4\/t.text≠a)(hb:t.kind≠4\/t.text≠b):∀k,da u a b ka kb k l σ=(l,σ)
 |0=>rfl
 |k+1=>by rw [da,FX h ha,FX h hb,if_neg B6,if_neg B6,az h]
theorem GR {u:Rd X}{σ:PS X}{t:Tok}(h:(u σ).2.tok=some t)(hw:t.kind≠4\/(t.text≠mn/\t.text≠lp/\t.text≠mo/\t.text≠ft)):sum u σ=u σ:=by
 have hp:prod u σ=u σ:=il u _ _ _ _ h (hw.imp_right fun h=>h.1) (hw.imp_right fun h=>h.2.1) _;unfold sum;rw [hp,il (prod u) _ _ _ _ h (hw.imp_right fun h=>h.2.2.1) (hw.imp_right fun h=>h.2.2.2)]
variable (dec : ByteArray -> Int × Nat)
def Cx (ws:bV)(tm:List cE)(D:Nat):Prop:=
 ∀(X:fA) (d:Nat) (σ:PS X) (w:Int×ByteArray) (r:bV) (n:Nat),Up σ (ws ++ w :: r) n->D < d->n+D<=64->(un dec d σ).1=tm/\Up (un dec d σ).2 (w :: r) n
def EC (w:Int×ByteArray):Prop:=w.1≠4\/(w.2≠mn/\w.2≠lp/\w.2≠mo/\w.2≠ft)
theorem Cx.num (s:ByteArray):Cx dec [(2,s)] [⟨1,(dec s).1,(dec s).2⟩] 0:=by
 intro X d σ w r n h hd hn;obtain⟨d,rfl⟩:∃k,d=k+1:=⟨d - 1,by omega⟩
 obtain⟨t,h1,h2,h3⟩:=Up.tok (k:=2) h;have ha:=(Up.aK (k:=2) h B3).1
 have e:un dec (d+1) σ=([⟨1,(dec s).1,(dec s).2⟩],σ.aK):=by
  rw [un,h1];simp only;rw [if_pos h2,h3]
 rw [e];exact⟨rfl,ha⟩
theorem Up.bE {σ:PS X}{ws:bV}{n:Nat}(h:Up σ ws n)(m:Nat):Up (σ.bE m) ws m:=⟨h.bad,rfl,h.ws⟩
theorem ET {d:Nat}{σ:PS X}{r:bV}{n:Nat}(h:Up σ ((4,aE) :: r) n)(hn:n < 64):un dec (d+1) σ=((sum (un dec d) (σ.aK.bE (n+1))).1,(aO 4 aF (sum (un dec d) (σ.aK.bE (n+1))).2).bE n):=by
 obtain⟨t,h1,h2,h3⟩:=h.tok;rw [un,h1];simp only;rw [if_neg (by rw [h2];decide),if_neg (fun k=>absurd (h3.symm.trans k.2) B3),if_pos ⟨h2,h3⟩,if_neg (by rw [h.bu];omega),h.bu]
theorem Rw {d:Nat}{σ:PS X}{r:bV}{n:Nat}(h:Up σ ((4,ft) :: r) n)(hn:n < 64):un dec (d+1) σ=((un dec d (σ.aK.bE (n+1))).1 ++ [⟨6,0,0⟩],(un dec d (σ.aK.bE (n+1))).2.bE n):=by
 obtain⟨t,h1,h2,h3⟩:=h.tok;rw [un,h1];simp only;rw [if_neg (by rw [h2];decide),if_pos ⟨h2,h3⟩,if_neg (by rw [h.bu];omega),h.bu]
theorem HN : EC (4,aF):=Or.inr ⟨by decide,by decide,by decide,by decide⟩
theorem ri {u:Rd X}{σ:PS X}{w:Int×ByteArray}{r:bV}{n:Nat}(h:Up (u σ).2 (w :: r) n)(hw:EC w):sum u σ=u σ:=by
 obtain⟨t,h1,h2,h3⟩:=Up.tok (k:=w.1) (m:=w.2) h;exact GR h1 (by rw [h2,h3];exact hw)
theorem Cx.neg {ws:bV}{tm:List cE}{D:Nat}(hu:Cx dec ws tm D):Cx dec ((4,aE) :: (4,ft) :: ws ++ [(4,aF)]) (tm ++ [⟨6,0,0⟩]) (D+2):=by
 intro X d σ w r n h hd hn;obtain⟨d,rfl⟩:∃k,d=k+2:=⟨d - 2,by omega⟩
 have h':Up σ ((4,aE) :: (4,ft) :: (ws ++ (4,aF) :: w :: r)) n:=by simpa using h
 have h1:=(h'.aK B3).1.bE (n+1);have h2:=(h1.aK B3).1.bE (n+2);obtain⟨g1,g2⟩:=hu X d _ (4,aF) (w :: r) (n+2) h2 A8 A8;have e1:=Rw dec (d:=d) h1 A8;have g3:Up (un dec (d+1) (σ.aK.bE (n+1))).2 ((4,aF) :: w :: r) (n+1):=by rw [e1];exact g2.bE _
 rw [ET dec h' A8,ri g3 HN];refine⟨?_,(g3.aO B3).bE n⟩;rw [e1];show _ ++ _=_;rw [g1]
theorem Cx.bin {w1 w2:bV}{t1 t2:List cE}{D1 D2:Nat}(h1:Cx dec w1 t1 D1)(h2:Cx dec w2 t2 D2){op:ByteArray}{k:Int}
  (ho:(op=mo/\k=2)\/(op=ft/\k=3)\/(op=mn/\k=4)\/(op=lp/\k=5)):Cx dec ((4,aE) :: w1 ++ (4,op) :: w2 ++ [(4,aF)]) (t1 ++ t2 ++ [⟨k,0,0⟩]) (max D1 D2+1):=by
 intro X d σ w r n h hd hn;obtain⟨d,rfl⟩:∃k,d=k+1:=⟨d - 1,by omega⟩
 have h':Up σ ((4,aE) :: (w1 ++ (4,op) :: (w2 ++ (4,aF) :: w :: r))) n:=by simpa using h
 have ha:=(h'.aK B3).1.bE (n+1);obtain⟨g1,g2⟩:=h1 X d _ (4,op) (w2 ++ (4,aF) :: w :: r) (n+1) ha A8 A8;have gb:=(g2.aK B3).1;obtain⟨g3,g4⟩:=h2 X d _ (4,aF) (w :: r) (n+1) gb A8 A8;obtain⟨t,s1,s2,s3⟩:=g4.tok
 have stop:∀(u:Rd X) (a b:ByteArray) (ka kb:Int) (l:List cE) (k:Nat),a≠aF->b≠aF->da u a b ka kb k l (un dec d (un dec d (σ.aK.bE (n+1))).2.aK).2=(l,(un dec d (un dec d (σ.aK.bE (n+1))).2.aK).2):=
  fun u a b ka kb l k ha hb=>il u a b ka kb s1 (Or.inr (by rw [s3];exact H5 ha)) (Or.inr (by rw [s3];exact H5 hb)) k
 have key:sum (un dec d) (σ.aK.bE (n+1))=(t1 ++ t2 ++ [⟨k,0,0⟩],(un dec d (un dec d (σ.aK.bE (n+1))).2.aK).2):=by
  have hprod2:prod (un dec d) (un dec d (σ.aK.bE (n+1))).2.aK=un dec d (un dec d (σ.aK.bE (n+1))).2.aK:=stop _ _ _ _ _ _ _ B3 B3;rcases ho with⟨rfl,rfl⟩|⟨rfl,rfl⟩|⟨rfl,rfl⟩|⟨rfl,rfl⟩
  ·have hprod:prod (un dec d) (σ.aK.bE (n+1))=un dec d (σ.aK.bE (n+1)):=by
    obtain⟨t,q1,q2,q3⟩:=g2.tok;exact il _ _ _ _ _ q1 (Or.inr (by rw [q3];decide)) (Or.inr (by rw [q3];decide)) _
   unfold sum;rw [hprod,da,if_pos g2.yes,hprod2,stop _ _ _ _ _ _ _ B3 B3,g1,g3]
  ·have hprod:prod (un dec d) (σ.aK.bE (n+1))=un dec d (σ.aK.bE (n+1)):=by
    obtain⟨t,q1,q2,q3⟩:=g2.tok;exact il _ _ _ _ _ q1 (Or.inr (by rw [q3];decide)) (Or.inr (by rw [q3];decide)) _
   unfold sum;rw [hprod,da,if_neg (by rw [g2.no (Or.inr B3)];exact B6),if_pos g2.yes,hprod2,stop _ _ _ _ _ _ _ B3 B3,g1,g3]
  ·have hprod:prod (un dec d) (σ.aK.bE (n+1))=(t1 ++ t2 ++ [⟨4,0,0⟩],(un dec d (un dec d (σ.aK.bE (n+1))).2.aK).2):=by
    unfold prod;rw [da,if_pos g2.yes,stop _ _ _ _ _ _ _ B3 B3,g1,g3]
   unfold sum;rw [hprod,stop _ _ _ _ _ _ _ B3 B3]
  ·have hprod:prod (un dec d) (σ.aK.bE (n+1))=(t1 ++ t2 ++ [⟨5,0,0⟩],(un dec d (un dec d (σ.aK.bE (n+1))).2.aK).2):=by
    unfold prod;rw [da,if_neg (by rw [g2.no (Or.inr B3)];exact B6),if_pos g2.yes,stop _ _ _ _ _ _ _ B3 B3,g1,g3]
   unfold sum;rw [hprod,stop _ _ _ _ _ _ _ B3 B3]
 rw [ET dec h' A8,key];exact⟨rfl,(g4.aO B3).bE n⟩
structure Ex where
 ws:bV
 tm:List cE
 dp:Nat
structure Ex.OK (e:Ex):Prop where
 ne:1<=e.ws.length
 un:Cx dec e.ws e.tm e.dp
 dp:e.dp<=64
def iG : List Ex->bV
 | []=>[]
 | [a]=>a.ws
 |a :: b :: r=>a.ws ++ (4,bo) :: iG (b :: r)
theorem EJ : ∀l:List Ex,(∀e ∈ l,1<=e.ws.length)->l.length<=(iG l).length
 | [],_=>wU _
 | [a],h=>h a (D7 ..)
 |a :: b :: r,h=>by
  have:=EJ (b :: r) fun e he=>h e (D5 _ he)
  have h1:=h a (D7 ..);have e1:(iG (a :: b :: r)).length=a.ws.length+((iG (b :: r)).length+1):=by rw [iG,List.length_append];rfl
  rw [B9,e1];omega
theorem EP {e:Ex}(he:e.OK dec){σ:PS X}{w:Int×ByteArray}{r:bV}(h:Up σ (e.ws ++ w :: r) 0)(hw:EC w):(lB dec σ).1=e.tm/\Up (lB dec σ).2 (w :: r) 0:=by
 have hd:=he.dp;obtain⟨g1,g2⟩:=he.un X 65 σ w r 0 h A8 A8;have e0:lB dec σ=sum (un dec 65) σ:=by unfold lB;rw [h.bu]
 rw [e0,ri g2 hw];exact⟨g1,g2⟩
theorem DH : EC (4,bo):=Or.inr ⟨by decide,by decide,by decide,by decide⟩
theorem ER : ∀(l:List Ex) (k:Nat) (acc:List (List cE)) (σ:PS X) (w:Int×ByteArray) (r:bV),l≠[]->(∀e ∈ l,e.OK dec)->EC w->(w.1≠4\/w.2≠bo)->Up σ (iG l ++ w :: r) 0->l.length<=k->
  (rO dec k acc σ).1=acc ++ l.map (·.tm)/\Up (rO dec k acc σ).2 (w :: r) 0
 | [],_,_,_,_,_,h,_,_,_,_,_=>absurd rfl h
 | [a],k,acc,σ,w,r,_,ho,hn,hw,h,hk=>by
  obtain⟨k,rfl⟩:∃j,k=j+1:=⟨k - 1,by simp at hk;omega⟩
  obtain⟨h1,h2⟩:=EP dec (ho a (D7 ..)) h hn;have hb:(lB dec σ).2.du 4 bo=false:=Up.no (k:=w.1) (m:=w.2) h2 hw;rw [rO,hb,if_neg B6,h1,h2.settle];exact⟨rfl,h2⟩
 |a :: b :: l,k,acc,σ,w,r,_,ho,hn,hw,h,hk=>by
  obtain⟨k,rfl⟩:∃j,k=j+1:=⟨k - 1,by simp at hk;omega⟩
  have h':Up σ (a.ws ++ (4,bo) :: (iG (b :: l) ++ w :: r)) 0:=by rw [iG] at h;simpa using h
  obtain⟨h1,h2⟩:=EP dec (ho a (D7 ..)) h' DH;have h3:=(h2.aK B3).1;obtain⟨g1,g2⟩:=ER (b :: l) k (acc ++ [a.tm]) _ w r (by simp) (fun e he=>ho e (D5 _ he)) hn hw h3 (by simp at hk |-;omega);rw [rO,if_pos h2.yes,h1];exact⟨by rw [g1,List.append_assoc];rfl,g2⟩
theorem Jq {l:List Ex}{σ:PS X}{w:Int×ByteArray}{r:bV}(hl:l≠[])(ho:∀e ∈ l,e.OK dec)(hn:EC w)(hw:w.1≠4\/w.2≠bo)(h:Up σ (iG l ++ w :: r) 0):(row dec σ).1=l.map (·.tm)/\Up (row dec σ).2 (w :: r) 0:=by
 unfold PS.row;rw [h.bad]
 have hlen:l.length<=X.L.length+1:=by
  have h1:=EJ l fun e he=>(ho e he).ne
  rcases h.len with h2|h2
  ·rw [List.length_append] at h2;omega
  ·simp at h2
 obtain⟨g1,g2⟩:=ER dec l (X.L.length+1) [] σ w r hl ho hn hw h hlen;exact⟨by simpa using g1,g2⟩
structure EW where
 k:Int
 given:List ByteArray
 rows:List Ex
structure EW.OK (e:EW):Prop where
 kind:e.k=1/\e.given=[]\/e.k=2/\e.given=[]\/e.k=3/\e.given≠[]
 ne:e.rows≠[]
 ok:∀x ∈ e.rows,x.OK dec
def EW.hd (e:EW):bV:=if e.k=1 then [(1,mm)] else if e.k=2 then [(1,mq)] else(4,aE) :: aQ e.given ++ [(4,aF)]
def nP (e:EW):bV:=e.hd ++ iG e.rows ++ [(4,aV)]
def EW.D (e:EW):eZ:=⟨e.k,e.given,e.rows.map (·.tm)⟩
theorem HO : EC (4,aV):=Or.inr ⟨by decide,by decide,by decide,by decide⟩
theorem Rv {e:EW}(he:e.OK dec){σ:PS X}{r:bV}(h:Up σ (nP e ++ r) 0):σ.du 4 dc=false/\σ.du 1 eC=false/\σ.settle=σ/\(jL dec σ).1=e.D/\Up (jL dec σ).2 r 0:=by
 obtain⟨k,given,rows⟩:=e;have hne:=he.ne;have hok:=he.ok
 have fin:∀{τ:PS X},Up τ (iG rows ++ (4,aV) :: r) 0->(row dec τ).1=rows.map (·.tm)/\Up (aO 4 aV (row dec τ).2) r 0:=fun h=>by
  obtain⟨g1,g2⟩:=Jq dec hne hok HO (Or.inr B3) h;exact⟨g1,g2.aO B3⟩
 rcases he.kind with⟨h1,h2⟩|⟨h1,h2⟩|⟨h1,h2⟩
 ·dsimp only at h1 h2;subst h1 h2
  have h':Up σ ((1,mm) :: (iG rows ++ (4,aV) :: r)) 0:=by
   unfold nP EW.hd at h;rw [if_pos rfl] at h;simpa using h
  have e1:iP σ=(1,[],σ.aK):=by unfold iP;rw [if_pos h'.yes]
  obtain⟨g1,g2⟩:=fin (h'.aK B3).1;refine⟨h'.no (Or.inl B3),h'.no (Or.inr B3),h'.settle,?_,?_⟩
  ·unfold jL EW.D;rw [e1];dsimp only;rw [g1]
  ·unfold jL;rw [e1];exact g2
 ·dsimp only at h1 h2;subst h1 h2
  have h':Up σ ((1,mq) :: (iG rows ++ (4,aV) :: r)) 0:=by
   unfold nP EW.hd at h;rw [if_neg (show ¬((2:Int)=1) by decide),if_pos rfl] at h;simpa using h
  have e1:iP σ=(2,[],σ.aK):=by
   unfold iP;rw [if_neg (by rw [h'.no (Or.inr B3)];exact B6),if_pos h'.yes]
  obtain⟨g1,g2⟩:=fin (h'.aK B3).1;refine⟨h'.no (Or.inl B3),h'.no (Or.inr B3),h'.settle,?_,?_⟩
  ·unfold jL EW.D;rw [e1];dsimp only;rw [g1]
  ·unfold jL;rw [e1];exact g2
 ·dsimp only at h1 h2;subst h1
  have h':Up σ ((4,aE) :: (aQ given ++ (4,aF) :: (iG rows ++ (4,aV) :: r))) 0:=by
   unfold nP EW.hd at h;rw [if_neg (show ¬((3:Int)=1) by decide),if_neg (show ¬((3:Int)=2) by decide)] at h;simpa using h
  have a1:=h'.aO B3;obtain⟨a2,a3⟩:=ti h2 (Or.inr B3) a1
  have e1:iP σ=(3,given,aO 4 aF (names (aO 4 aE σ)).2):=by
   unfold iP;rw [if_neg (by rw [h'.no (Or.inl B3)];exact B6),if_neg (by rw [h'.no (Or.inl B3)];exact B6),a2]
  obtain⟨g1,g2⟩:=fin (a3.aO B3);refine⟨h'.no (Or.inr B3),h'.no (Or.inl B3),h'.settle,?_,?_⟩
  ·unfold jL EW.D;rw [e1];dsimp only;rw [g1]
  ·unfold jL;rw [e1];exact g2
theorem No (e:EW):1<=(nP e).length:=by
 unfold nP;rw [List.length_append];simp
def fi (l:List EW):bV:=l.flatMap nP
theorem Ak : ∀l:List EW,l.length<=(fi l).length
 | []=>wU _
 |e :: r=>by
  have h1:=Ak r;have h2:=No e;have e1:fi (e :: r)=nP e ++ fi r:=rfl;rw [e1,List.length_append,B9];omega
theorem ES : ∀(l:List EW) (k:Nat) (es:List eZ) (ps:List ByteArray) (pr:List ByteArray) (σ:PS X) (r:bV),(∀e ∈ l,e.OK dec)->Up σ (fi l ++ (aG pr ++ (4,dc) :: r)) 0->l.length+2<=k->
  (lD dec k es ps σ).1=es ++ l.map (·.D)/\(lD dec k es ps σ).2.1=ps ++ pr/\Up (lD dec k es ps σ).2.2 r 0
 | [],k,es,ps,pr,σ,r,_,h,hk=>by
  obtain⟨k,rfl⟩:∃j,k=j+2:=⟨k - 2,by simp at hk;omega⟩
  have h':Up σ (aG pr ++ (4,dc) :: r) 0:=h
  have stop:∀(k:Nat) (ps:List ByteArray) (τ:PS X),Up τ ((4,dc) :: r) 0->lD dec (k+1) es ps τ=(es,ps,τ.aK):=fun k ps τ ht=>by
   rw [lD,ht.bad];simp only;rw [if_pos ht.yes]
  cases pr with
  |nil=>
   have h2:Up σ ((4,dc) :: r) 0:=h';rw [stop _ _ _ h2];exact⟨by simp,by simp,(h2.aK B3).1⟩
  |cons m q=>
   obtain⟨g1,g2⟩:=th (w:=(4,dc)) (Or.inl B3) h';have h2:Up σ ((1,eC) :: (3,m) :: (4,aV) :: (aG q ++ (4,dc) :: r)) 0:=h';rw [lD,h2.bad];simp only;rw [if_neg (by rw [h2.no (Or.inl B3)];exact B6),if_pos h2.yes,stop _ _ _ g2,g1];exact⟨by simp,rfl,(g2.aK B3).1⟩
 |e :: l,k,es,ps,pr,σ,r,ho,h,hk=>by
  obtain⟨k,rfl⟩:∃j,k=j+1:=⟨k - 1,by simp at hk;omega⟩
  have h':Up σ (nP e ++ (fi l ++ (aG pr ++ (4,dc) :: r))) 0:=by
   have e1:fi (e :: l)=nP e ++ fi l:=rfl;rw [e1,List.append_assoc] at h;exact h
  obtain⟨b1,b2,b3,b4,b5⟩:=Rv dec (ho e (D7 ..)) h';obtain⟨g1,g2,g3⟩:=ES l k (es ++ [e.D]) ps pr _ r (fun x hx=>ho x (D5 _ hx)) b5 (by simp at hk;omega);rw [lD,h'.bad];simp only;rw [if_neg (by rw [b1];exact B6),if_neg (by rw [b2];exact B6),b3,b4];exact⟨by rw [g1,List.append_assoc];rfl,g2,g3⟩
structure PW where
 name:ByteArray
 cX:List ByteArray
 bg:List EW
 aN:List ByteArray
def PW.D (p:PW):eY:=⟨p.name,p.cX,p.bg.map (·.D),p.aN⟩
def sU : List ByteArray->bV
 | []=>[]
 |a :: l=>(4,lE) :: aQ (a :: l)
def rL (p:PW):bV:=(4,aE) :: (1,p.name) :: (sU p.cX ++ (4,aF) :: (4,dM) :: (fi p.bg ++ (aG p.aN ++ [(4,dc)])))
theorem Rs {p:PW}(ho:∀e ∈ p.bg,e.OK dec){σ:PS X}{r:bV}(h:Up σ (rL p ++ r) 0):(qA dec σ).1=p.D/\Up (qA dec σ).2 r 0:=by
 have h':Up σ ((4,aE) :: (1,p.name) :: (sU p.cX ++ (4,aF) :: (4,dM) :: (fi p.bg ++ (aG p.aN ++ (4,dc) :: r)))) 0:=by
  unfold rL at h;simpa using h
 have a1:=h'.aO B3;obtain⟨a2,a3⟩:=a1.take B3
 have a4:(qB (take 1 (aO 4 aE σ)).2).1=p.cX/\Up (qB (take 1 (aO 4 aE σ)).2).2 ((4,aF) :: (4,dM) :: (fi p.bg ++ (aG p.aN ++ (4,dc) :: r))) 0:=by
  unfold qB
  cases hp:p.cX with
  |nil=>
   rw [hp] at a3;have a5:Up (take 1 (aO 4 aE σ)).2 ((4,aF) :: (4,dM) :: (fi p.bg ++ (aG p.aN ++ (4,dc) :: r))) 0:=a3;rw [if_neg (by rw [a5.no (Or.inr B3)];exact B6),a5.settle];exact⟨rfl,a5⟩
  |cons x l=>
   rw [hp] at a3;have a5:Up (take 1 (aO 4 aE σ)).2 ((4,lE) :: (aQ (x :: l) ++ (4,aF) :: (4,dM) :: (fi p.bg ++ (aG p.aN ++ (4,dc) :: r)))) 0:=a3;rw [if_pos a5.yes];exact ti (by simp) (Or.inr B3) (a5.aK B3).1
 have a6:Up (Bg σ) (fi p.bg ++ (aG p.aN ++ (4,dc) :: r)) 0:=(a4.2.aO B3).aO B3
 have hlen:p.bg.length+2<=X.L.length+2:=by
  have h1:=Ak p.bg;rcases a6.len with h2|h2
  ·rw [List.length_append] at h2;omega
  ·simp at h2
 obtain⟨g1,g2,g3⟩:=ES dec p.bg (X.L.length+2) [] [] p.aN _ r ho a6 hlen;refine⟨?_,g3⟩;unfold qA KL PW.D;rw [a2,a4.1,g1,g2];simp
variable (cnt : ByteArray -> Option Nat) (ct : Nat -> ByteArray)
def rK (v:dW):bV:=(1,v.name) :: (4,dM) :: (1,eT) :: (1,fa) :: (4,yQ) :: (2,ct v.count) :: (4,vA) :: (4,dM) :: (aQ v.dL ++ (4,dc) :: (4,aV) :: (aG v.aN ++ [(4,dc)]))
theorem Rr {v:dW}(hc:cnt (ct v.count)=some v.count)(hv:v.dL≠[]){σ:PS X}{r:bV}(h:Up σ (rK ct v ++ r) 0):(nR cnt σ).1=v/\Up (nR cnt σ).2 r 0:=by
 have h':Up σ ((1,v.name) :: (4,dM) :: (1,eT) :: (1,fa) :: (4,yQ) :: (2,ct v.count) :: (4,vA) :: (4,dM) :: (aQ v.dL ++ (4,dc) :: (4,aV) :: (aG v.aN ++ (4,dc) :: r))) 0:=by
  unfold rK at h;simpa using h
 obtain⟨a1,a2⟩:=h'.take B3;have a3:Up (vC σ) ((2,ct v.count) :: (4,vA) :: (4,dM) :: (aQ v.dL ++ (4,dc) :: (4,aV) :: (aG v.aN ++ (4,dc) :: r))) 0:=(((a2.aO B3).aO B3).aO B3).aO B3
 have a4:(count cnt (vC σ)).1=v.count/\Up (count cnt (vC σ)).2 ((4,vA) :: (4,dM) :: (aQ v.dL ++ (4,dc) :: (4,aV) :: (aG v.aN ++ (4,dc) :: r))) 0:=by
  obtain⟨t,t1,t2,t3⟩:=a3.tok;unfold count;rw [t1];simp only;rw [t3,hc];simp only;rw [if_pos t2];exact⟨rfl,(a3.aK B3).1⟩
 have a5:Up (xy cnt σ) (aQ v.dL ++ (4,dc) :: (4,aV) :: (aG v.aN ++ (4,dc) :: r)) 0:=(a4.2.aO B3).aO B3;obtain⟨a6,a7⟩:=ti hv (Or.inr B3) a5;have a8:Up (Ap cnt σ) (aG v.aN ++ (4,dc) :: r) 0:=(a7.aO B3).aO B3;obtain⟨a9,b1⟩:=th (w:=(4,dc)) (Or.inl B3) a8;refine⟨?_,b1.aO B3⟩;unfold nR;rw [a1,a4.1,a6,a9]
structure FW where
 name:ByteArray
 aN:List ByteArray
 vars:List dW
 bG:List PW
def FW.D (f:FW):iS:=⟨f.name,f.aN,f.vars,f.bG.map (·.D)⟩
structure FW.OK (f:FW):Prop where
 vr:∀v ∈ f.vars,cnt (ct v.count)=some v.count/\v.dL≠[]
 pb:∀p ∈ f.bG,∀e ∈ p.bg,e.OK dec
def ib (l:List dW):bV:=l.flatMap fun v=>(1,eQ) :: rK ct v
def fV (l:List PW):bV:=l.flatMap fun p=>(1,cd) :: rL p
def CB (f:FW):bV:=(1,fe) :: (1,f.name) :: (4,dM) :: (aG f.aN ++ (4,dc) :: (ib ct f.vars ++ fV f.bG))
theorem Ai : ∀l:List dW,l.length<=(ib ct l).length
 | []=>wU _
 |v :: r=>by
  have h1:=Ai r;have e1:ib ct (v :: r)=(1,eQ) :: (rK ct v ++ ib ct r):=rfl;rw [e1,B9,B9,List.length_append];omega
theorem Aj : ∀l:List PW,l.length<=(fV l).length
 | []=>wU _
 |v :: r=>by
  have h1:=Aj r;have e1:fV (v :: r)=(1,cd) :: (rL v ++ fV r):=rfl;rw [e1,B9,B9,List.length_append];omega
end PS
end Go.Ev
