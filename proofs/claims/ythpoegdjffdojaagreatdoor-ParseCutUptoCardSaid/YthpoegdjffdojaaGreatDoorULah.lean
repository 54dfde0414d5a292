import Derived.Test.YthpoegdjffdojaaGreatDoorULag
set_option linter.all false
set_option maxHeartbeats 4000000
set_option maxRecDepth 10000
namespace Go.Ev
structure Tok where
 kind:Int
 text:ByteArray
 line:Int
 Ae:Int
structure dy where
 code:Int
 line:Int
 Ae:Int
 word:ByteArray
structure fA where
 L:List Tok
 late:Option dy
 SK:late=none->∃l t,L=l ++ [t]/\t.kind=0
 QO:∀f,late=some f->f.code≠0
structure PS (X:fA) where
 at_:Nat
 bad:Option dy
 bu:Nat
 inv:X.late=none->at_ < X.L.length
 QO:∀f,bad=some f->f.code≠0
variable {X : fA}
namespace PS
def tok (σ:PS X):Option Tok:=match σ.bad with|some _=>none|none=>X.L[σ.at_]?
def settle (σ:PS X):PS X:=match σ.bad with|some _=>σ|none=>(match X.L[σ.at_]? with|some _=>σ|none=>{ σ with bad:=X.late,QO:=X.QO })
def bZ (σ:PS X)(c:Int)(hc:c≠0:=by decide):PS X:=match σ.bad with|some _=>σ|none=>(match X.L[σ.at_]? with|some t=>{ σ with bad:=some ⟨c,t.line,t.Ae,t.text⟩,QO:=fun f h=>by cases h;exact hc }|none=>{ σ with bad:=X.late,QO:=X.QO })
def aK (σ:PS X):PS X:=if h:X.late=none->σ.at_+1 < X.L.length then⟨σ.at_+1,σ.bad,σ.bu,h,σ.QO⟩ else σ
def du (σ:PS X)(k:Int)(w:ByteArray):Bool:=match σ.tok with|some t=>decide (t.kind=k/\t.text=w)|none=>false
def bE (σ:PS X)(n:Nat):PS X:={ σ with bu:=n }
theorem aX {σ:PS X}{t:Tok}(h:σ.tok=some t):σ.bad=none/\X.L[σ.at_]?=some t/\σ.at_ < X.L.length:=by
 unfold tok at h;split at h
 ·cases h
 ·rename_i hb;exact⟨hb,h,(yK.1 h).1⟩
theorem dx {σ:PS X}{t:Tok}(h:σ.tok=some t)(hk:t.kind≠0):σ.aK.at_=σ.at_+1/\σ.aK.bad=none/\σ.aK.bu=σ.bu:=by
 obtain⟨h1,h2,h3⟩:=aX h
 have h4:X.late=none->σ.at_+1 < X.L.length:=by
  intro hl;obtain⟨l,u,e,hu⟩:=X.SK hl;rw [e] at h2 h3;rw [e];rw [List.length_append,List.length_singleton] at h3 |-;by_cases h5:σ.at_=l.length
  ·rw [h5,IX (wU _),H6] at h2;obtain rfl:u=t:=by simpa using h2
   exact absurd hu hk
  ·omega
 unfold aK;rw [I2 h4];exact⟨rfl,h1,rfl⟩
theorem cj {σ:PS X}{k:Int}{w:ByteArray}(h:σ.du k w=true):∃t,σ.tok=some t/\t.kind=k/\t.text=w:=by
 unfold du at h;split at h
 ·rename_i t ht;obtain⟨h1,h2⟩:=N8 h;exact⟨t,ht,h1,h2⟩
 ·cases h
structure gF (n:Nat)(σ τ:PS X):Prop where
 le:σ.at_+n<=τ.at_
 bu:τ.bu=σ.bu
 NL:σ.bad≠none->τ=σ
 hi:σ.at_<=X.L.length->τ.at_<=X.L.length
theorem gF.refl (σ:PS X):gF 0 σ σ:=⟨wU _,rfl,fun _=>rfl,fun h=>h⟩
theorem gF.trans {m n:Nat}{σ τ ρ:PS X}(h:gF m σ τ)(k:gF n τ ρ):gF (m+n) σ ρ:=⟨by have:=h.le;have:=k.le;omega,k.bu.trans h.bu,fun hb=>by
 have e:=h.NL hb;subst e
 exact k.NL hb,fun h9=>k.hi (h.hi h9)⟩
theorem gF.pX {m n:Nat}{σ τ:PS X}(h:gF m σ τ)(hn:n<=m):gF n σ τ:=⟨by have:=h.le;omega,h.bu,h.NL,h.hi⟩
theorem gF.bad {n:Nat}{σ τ:PS X}(h:gF n σ τ)(hb:σ.bad≠none):τ.bad≠none:=by rw [h.NL hb];exact hb
theorem bD (σ:PS X):gF 0 σ σ.settle:=by
 unfold settle;split
 ·exact gF.refl _
 ·rename_i hb;split
  ·exact gF.refl _
  ·exact⟨wU _,rfl,fun h=>absurd hb h,fun h=>h⟩
theorem dA (σ:PS X)(c:Int)(hc:c≠0:=by decide):gF 0 σ (σ.bZ c hc):=by
 unfold bZ;split
 ·exact gF.refl _
 ·rename_i hb;split<;>exact⟨wU _,rfl,fun h=>absurd hb h,fun h=>h⟩
theorem vX (σ:PS X)(c:Int)(hc:c≠0:=by decide):(σ.bZ c hc).bad≠none:=by
 unfold bZ;split
 ·rename_i hb;rw [hb];exact fun h=>by cases h
 ·split
  ·exact fun h=>by cases h
  ·rename_i hl;intro h;have h1:=σ.inv h;rw [uz h1] at hl;cases hl
theorem jc {σ:PS X}(h:σ.tok=none):σ.settle.bad≠none:=by
 unfold tok at h;unfold settle;split
 ·rename_i hb;rw [hb];exact fun h=>by cases h
 ·rename_i hb;rw [hb] at h;have hl:X.L[σ.at_]?=none:=h;rw [hl];intro h;have h1:=σ.inv h;rw [uz h1] at hl;cases hl
theorem az {σ:PS X}{t:Tok}(h:σ.tok=some t):σ.settle=σ:=by
 obtain⟨h1,h2,-⟩:=aX h;unfold settle;rw [h1,h2]
theorem zS {σ:PS X}{t:Tok}(h:σ.tok=some t):gF 0 σ σ.aK:=by
 have hb:=(aX h).1;unfold aK;split
 ·exact⟨Nat.le_succ _,rfl,fun h=>absurd hb h,fun _=>(aX h).2.2⟩
 ·exact gF.refl _
theorem Cp {σ:PS X}{t:Tok}(h:σ.tok=some t)(hk:t.kind≠0):gF 1 σ σ.aK:=by
 have hb:=(aX h).1;obtain⟨h2,-,h3⟩:=dx h hk;exact⟨R5 h2.symm,h3,fun h=>absurd hb h,fun _=>by rw [h2];exact(aX h).2.2⟩
theorem bq {σ:PS X}{k:Int}{w:ByteArray}(h:σ.du k w=true)(hk:k≠0):gF 1 σ σ.aK:=by
 obtain⟨t,ht,h1,-⟩:=cj h;exact Cp ht (by rw [h1];exact hk)
def aO (k:Int)(w:ByteArray)(σ:PS X):PS X:=if σ.du k w=true then σ.aK else σ.bZ 30
def take (k:Int)(σ:PS X):ByteArray×PS X:=
 match σ.tok with
 |some t=>if t.kind=k then(t.text,σ.aK) else(⟨#[]⟩,σ.bZ 30)
 |none=>(⟨#[]⟩,σ.settle)
def bo : ByteArray:=⟨#[44]⟩
def aV : ByteArray:=⟨#[59]⟩
def eC : ByteArray:=⟨#[112,114,111,112,101,114,116,121]⟩
def iy : Nat->List ByteArray->PS X->List ByteArray×PS X
 |0,l,σ=>(l,σ)
 |k+1,l,σ=>if(take 1 σ).2.du 4 bo=true then iy k (l ++ [(take 1 σ).1]) (take 1 σ).2.aK else(l ++ [(take 1 σ).1],(take 1 σ).2.settle)
def names (σ:PS X):List ByteArray×PS X:=match σ.bad with|some _=>([],σ)|none=>iy (X.L.length+1) [] σ
def fG : Nat->List ByteArray->PS X->List ByteArray×PS X
 |0,l,σ=>(l,σ)
 |k+1,l,σ=>if σ.du 1 eC=true then fG k (l ++ [(take 3 σ.aK).1]) (aO 4 aV (take 3 σ.aK).2) else(l,σ.settle)
def props (σ:PS X):List ByteArray×PS X:=fG (X.L.length+1) [] σ
theorem aJ (k:Int)(w:ByteArray)(σ:PS X):gF 0 σ (aO k w σ):=by
 unfold aO;split
 ·rename_i h;exact zS (cj h).choose_spec.1
 ·exact dA _ _
theorem dC (k:Int)(σ:PS X):gF 0 σ (take k σ).2:=by
 unfold take;split
 ·rename_i t h;split
  ·exact zS h
  ·exact dA _ _
 ·exact bD _
theorem uv : ∀(k:Nat) (l:List ByteArray) (σ:PS X),gF 0 σ (iy k l σ).2
 |0,_,_=>gF.refl _
 |k+1,l,σ=>by
  rw [iy];split
  ·rename_i h;exact(((dC 1 σ).trans (bq h B3)).trans (uv k _ _)).pX (C0 _)
  ·exact(dC 1 σ).trans (bD _)
theorem iW (σ:PS X):gF 0 σ (names σ).2:=by
 unfold names;split
 ·exact gF.refl _
 ·exact uv _ _ _
theorem om : ∀(k:Nat) (l:List ByteArray) (σ:PS X),gF 0 σ (fG k l σ).2
 |0,_,_=>gF.refl _
 |k+1,l,σ=>by
  rw [fG];split
  ·rename_i h;exact((((bq h B3).trans (dC 3 _)).trans (aJ 4 aV _)).trans (om k _ _)).pX (C0 _)
  ·exact bD _
theorem jZ (σ:PS X):gF 0 σ (props σ).2:=om _ _ _
structure cE where
 kind:Int
 z:Int
 d:Nat
def aE : ByteArray:=⟨#[40]⟩
def aF : ByteArray:=⟨#[41]⟩
def mo : ByteArray:=⟨#[43]⟩
def ft : ByteArray:=⟨#[45]⟩
def mn : ByteArray:=⟨#[42]⟩
def lp : ByteArray:=⟨#[47]⟩
section
variable (dec : ByteArray -> Int × Nat)
abbrev Rd (X:fA):=PS X->List cE×PS X
def da (un:Rd X)(a b:ByteArray)(ka kb:Int):Nat->List cE->PS X->List cE×PS X
 |0,l,σ=>(l,σ)
 |k+1,l,σ=>
  if σ.du 4 a=true then da un a b ka kb k (l ++ (un σ.aK).1 ++ [⟨ka,0,0⟩]) (un σ.aK).2
  else if σ.du 4 b=true then da un a b ka kb k (l ++ (un σ.aK).1 ++ [⟨kb,0,0⟩]) (un σ.aK).2
  else(l,σ.settle)
def prod (un:Rd X):Rd X:=fun σ=>da un mn lp 4 5 (X.L.length+1) (un σ).1 (un σ).2
def sum (un:Rd X):Rd X:=fun σ=>da (prod un) mo ft 2 3 (X.L.length+1) (prod un σ).1 (prod un σ).2
def un : Nat->Rd X
 |0,σ=>([],σ)
 |d+1,σ=>
  match σ.tok with
  |some t=>
   if t.kind=2 then([⟨1,(dec t.text).1,(dec t.text).2⟩],σ.aK)
   else if t.kind=4/\t.text=ft then
    (if 64<=σ.bu then([],σ.bZ 31) else((un d (σ.aK.bE (σ.bu+1))).1 ++ [⟨6,0,0⟩],(un d (σ.aK.bE (σ.bu+1))).2.bE σ.bu))
   else if t.kind=4/\t.text=aE then
    (if 64<=σ.bu then([],σ.bZ 31) else((sum (un d) (σ.aK.bE (σ.bu+1))).1,(aO 4 aF (sum (un d) (σ.aK.bE (σ.bu+1))).2).bE σ.bu))
   else([],σ.bZ 30)
  |none=>([],σ.settle)
def Good (f:Rd X):Prop:=∀σ,gF 0 σ (f σ).2/\(f σ).1.length+2 * σ.at_<=2 * (f σ).2.at_
theorem mD {f:Rd X}(hf:Good f){a b:ByteArray}{ka kb:Int}:∀(k:Nat) (l:List cE) (σ:PS X),gF 0 σ (da f a b ka kb k l σ).2/\(da f a b ka kb k l σ).1.length+2 * σ.at_<=l.length+2 * (da f a b ka kb k l σ).2.at_
 |0,l,σ=>⟨gF.refl _,wU _⟩
 |k+1,l,σ=>by
  have key:∀w c,σ.du 4 w=true->gF 0 σ (da f a b ka kb k (l ++ (f σ.aK).1 ++ [⟨c,0,0⟩]) (f σ.aK).2).2/\(da f a b ka kb k (l ++ (f σ.aK).1 ++ [⟨c,0,0⟩]) (f σ.aK).2).1.length+2 * σ.at_<=l.length+2 * (da f a b ka kb k (l ++ (f σ.aK).1 ++ [⟨c,0,0⟩]) (f σ.aK).2).2.at_:=by
   intro w c hw;have h1:=bq hw B3;obtain⟨h2,h3⟩:=hf σ.aK;obtain⟨h4,h5⟩:=mD hf (a:=a) (b:=b) (ka:=ka) (kb:=kb) k (l ++ (f σ.aK).1 ++ [⟨c,0,0⟩]) (f σ.aK).2;refine⟨((h1.trans h2).trans h4).pX (C0 _),?_⟩;rw [List.length_append,List.length_append,List.length_singleton] at h5;have:=h1.le;have:=h2.le;omega
  rw [da];split
  ·rename_i hw;exact key _ _ hw
  ·split
   ·rename_i hw;exact key _ _ hw
   ·refine⟨bD _,?_⟩;have:=(bD σ).le;simp only;omega
theorem qy {f:Rd X}(hf:Good f):Good (prod f):=by
 intro σ;obtain⟨h1,h2⟩:=hf σ;obtain⟨h3,h4⟩:=mD hf (a:=mn) (b:=lp) (ka:=4) (kb:=5) (X.L.length+1) (f σ).1 (f σ).2;exact⟨(h1.trans h3).pX (C0 _),by unfold prod;omega⟩
theorem tE {f:Rd X}(hf:Good f):Good (sum f):=by
 intro σ;obtain⟨h1,h2⟩:=qy hf σ;obtain⟨h3,h4⟩:=mD (qy hf) (a:=mo) (b:=ft) (ka:=2) (kb:=3) (X.L.length+1) (prod f σ).1 (prod f σ).2;exact⟨(h1.trans h3).pX (C0 _),by unfold sum;omega⟩
theorem mT : ∀d,Good (X:=X) (un dec d)
 |0=>fun σ=>⟨gF.refl _,R5 (C2 _)⟩
 |d+1=>fun σ=>by
  have hd:=mT d;rw [un];split
  ·rename_i t ht;split
   ·rename_i hk;obtain⟨h1,h2,h3⟩:=dx ht (by rw [hk];decide);refine⟨(Cp ht (by rw [hk];decide)).pX (C0 _),?_⟩;simp only [List.length_singleton];omega
   ·split
    ·rename_i hk;obtain⟨h1,h2,h3⟩:=dx ht (by rw [hk.1];decide);split
     ·refine⟨dA _ _,?_⟩;have:=(dA σ 31).le;simp only [M1];omega
     ·obtain⟨h4,h5⟩:=hd (σ.aK.bE (σ.bu+1));have h6:=h4.le;have h7:(σ.aK.bE (σ.bu+1)).at_=σ.aK.at_:=rfl;refine⟨⟨?_,rfl,fun hb=>absurd (aX ht).1 hb,fun _=>h4.hi (by rw [h7,h1];exact(aX ht).2.2)⟩,?_⟩
      ·show _<=(un dec d (σ.aK.bE (σ.bu+1))).2.at_;omega
      ·show((un dec d (σ.aK.bE (σ.bu+1))).1 ++ [⟨6,0,0⟩]:List cE).length+_<=2 * (un dec d (σ.aK.bE (σ.bu+1))).2.at_;rw [List.length_append,List.length_singleton];omega
    ·split
     ·rename_i hk;obtain⟨h1,h2,h3⟩:=dx ht (by rw [hk.1];decide);split
      ·refine⟨dA _ _,?_⟩;have:=(dA σ 31).le;simp only [M1];omega
      ·obtain⟨h4,h5⟩:=tE hd (σ.aK.bE (σ.bu+1));have h6:=h4.le;have h7:(σ.aK.bE (σ.bu+1)).at_=σ.aK.at_:=rfl;have h8:=(aJ 4 aF (sum (un dec d) (σ.aK.bE (σ.bu+1))).2).le;refine⟨⟨?_,rfl,fun hb=>absurd (aX ht).1 hb,fun _=>(aJ 4 aF _).hi (h4.hi (by rw [h7,h1];exact(aX ht).2.2))⟩,?_⟩
       ·show _<=(aO 4 aF (sum (un dec d) (σ.aK.bE (σ.bu+1))).2).at_;omega
       ·show(sum (un dec d) (σ.aK.bE (σ.bu+1))).1.length+_<=2 * (aO 4 aF (sum (un dec d) (σ.aK.bE (σ.bu+1))).2).at_;omega
     ·refine⟨dA _ _,?_⟩;have:=(dA σ 30).le;simp only [M1];omega
  ·refine⟨bD _,?_⟩;have:=(bD σ).le;simp only [M1];omega
def lB : Rd X:=fun σ=>sum (un dec (65 - σ.bu)) σ
def rO : Nat->List (List cE)->PS X->List (List cE)×PS X
 |0,l,σ=>(l,σ)
 |k+1,l,σ=>if(lB dec σ).2.du 4 bo=true then rO k (l ++ [(lB dec σ).1]) (lB dec σ).2.aK else(l ++ [(lB dec σ).1],(lB dec σ).2.settle)
def row (σ:PS X):List (List cE)×PS X:=match σ.bad with|some _=>([],σ)|none=>rO dec (X.L.length+1) [] σ
theorem jU : Good (X:=X) (lB dec):=fun σ=>tE (mT dec _) σ
theorem AR : ∀(k:Nat) (l:List (List cE)) (σ:PS X),gF 0 σ (rO dec k l σ).2
 |0,_,_=>gF.refl _
 |k+1,l,σ=>by
  rw [rO];split
  ·rename_i h;exact((((jU dec σ).1).trans (bq h B3)).trans (AR k _ _)).pX (C0 _)
  ·exact((jU dec σ).1).trans (bD _)
theorem Fi (σ:PS X):gF 0 σ (row dec σ).2:=by
 unfold row;split
 ·exact gF.refl _
 ·exact AR dec _ _ _
structure dW where
 name:ByteArray
 count:Nat
 dL:List ByteArray
 aN:List ByteArray
structure eZ where
 kind:Int
 given:List ByteArray
 nums:List (List cE)
structure eY where
 name:ByteArray
 cX:List ByteArray
 bg:List eZ
 aN:List ByteArray
structure iS where
 name:ByteArray
 aN:List ByteArray
 vars:List dW
 bG:List eY
variable (cnt : ByteArray -> Option Nat)
def count (σ:PS X):Nat×PS X:=
 match σ.tok with
 |some t=>(match cnt t.text with
  |some n=>if t.kind=2 then(n,σ.aK) else(0,σ.bZ 30)
  |none=>(0,σ.bZ 30))
 |none=>(0,σ.settle)
theorem Iu (σ:PS X):gF 0 σ (count cnt σ).2:=by
 unfold count;split
 ·rename_i t h;split
  ·split
   ·exact zS h
   ·exact dA _ _
  ·exact dA _ _
 ·exact bD _
def dM : ByteArray:=⟨#[123]⟩
def dc : ByteArray:=⟨#[125]⟩
def yQ : ByteArray:=⟨#[91]⟩
def vA : ByteArray:=⟨#[93]⟩
def lE : ByteArray:=⟨#[124]⟩
def eT : ByteArray:=⟨#[116,121,112,101]⟩
def fa : ByteArray:=⟨#[100,105,115,99,114,101,116,101]⟩
def eQ : ByteArray:=⟨#[118,97,114,105,97,98,108,101]⟩
def cd : ByteArray:=⟨#[112,114,111,98,97,98,105,108,105,116,121]⟩
def fe : ByteArray:=⟨#[110,101,116,119,111,114,107]⟩
def mm : ByteArray:=⟨#[116,97,98,108,101]⟩
def mq : ByteArray:=⟨#[100,101,102,97,117,108,116]⟩
def vC (σ:PS X):PS X:=aO 4 yQ (aO 1 fa (aO 1 eT (aO 4 dM (take 1 σ).2)))
def xy (σ:PS X):PS X:=aO 4 dM (aO 4 vA (count cnt (vC σ)).2)
def Ap (σ:PS X):PS X:=aO 4 aV (aO 4 dc (names (xy cnt σ)).2)
def nR (σ:PS X):dW×PS X:=(⟨(take 1 σ).1,(count cnt (vC σ)).1,(names (xy cnt σ)).1,(props (Ap cnt σ)).1⟩,aO 4 dc (props (Ap cnt σ)).2)
theorem Jm (σ:PS X):gF 0 σ (vC σ):=((((dC 1 σ).trans (aJ _ _ _)).trans (aJ _ _ _)).trans (aJ _ _ _)).trans (aJ _ _ _)
theorem Aq (σ:PS X):gF 0 σ (xy cnt σ):=(((Jm σ).trans (Iu cnt _)).trans (aJ _ _ _)).trans (aJ _ _ _)
theorem Jl (σ:PS X):gF 0 σ (Ap cnt σ):=(((Aq cnt σ).trans (iW _)).trans (aJ _ _ _)).trans (aJ _ _ _)
theorem Ao (σ:PS X):gF 0 σ (nR cnt σ).2:=((Jl cnt σ).trans (jZ _)).trans (aJ _ _ _)
def iP (σ:PS X):Int×List ByteArray×PS X:=
 if σ.du 1 mm=true then(1,[],σ.aK)
 else if σ.du 1 mq=true then(2,[],σ.aK)
 else(3,(names (aO 4 aE σ)).1,aO 4 aF (names (aO 4 aE σ)).2)
def jL (σ:PS X):eZ×PS X:=(⟨(iP σ).1,(iP σ).2.1,(row dec (iP σ).2.2).1⟩,aO 4 aV (row dec (iP σ).2.2).2)
theorem BV (σ:PS X):gF 0 σ (iP σ).2.2/\((iP σ).2.2.bad=none->σ.at_+1<=(iP σ).2.2.at_):=by
 unfold iP;split
 ·rename_i h;have:=bq h B3;exact⟨this.pX (C0 _),fun _=>this.le⟩
 ·split
  ·rename_i h;have:=bq h B3;exact⟨this.pX (C0 _),fun _=>this.le⟩
  ·have h1:=(iW (aO 4 aE σ)).trans (aJ 4 aF _);refine⟨(aJ _ _ _).trans h1,fun hb=>?_⟩;by_cases h:σ.du 4 aE=true
   ·have h2:aO 4 aE σ=σ.aK:=if_pos h;rw [h2] at h1;have:=(bq h B3).le;have:=h1.le;show _<=(aO 4 aF (names (aO 4 aE σ)).2).at_;rw [h2];omega
   ·have h2:aO 4 aE σ=σ.bZ 30:=if_neg h;refine absurd hb (h1.bad ?_);rw [h2];exact vX _ _
theorem BU (σ:PS X):gF 0 σ (jL dec σ).2/\((jL dec σ).2.bad=none->σ.at_+1<=(jL dec σ).2.at_):=by
 obtain⟨h1,h2⟩:=BV σ;have h3:=(Fi dec (iP σ).2.2).trans (aJ 4 aV _);refine⟨h1.trans h3,fun hb=>?_⟩
 have h4:(iP σ).2.2.bad=none:=by
  rcases hq:(iP σ).2.2.bad with _|f
  ·rfl
  ·exact absurd hb (h3.bad (by rw [hq];exact fun h=>by cases h))
 have:=h2 h4;have:=h3.le;show _<=(aO 4 aV (row dec (iP σ).2.2).2).at_;omega
def lD : Nat->List eZ->List ByteArray->PS X->List eZ×List ByteArray×PS X
 |0,es,ps,σ=>(es,ps,σ)
 |k+1,es,ps,σ=>
  match σ.bad with
  |some _=>(es,ps,σ)
  |none=>
   if σ.du 4 dc=true then(es,ps,σ.aK)
   else if σ.du 1 eC=true then lD k es (ps ++ (props σ).1) (props σ).2
   else lD k (es ++ [(jL dec σ.settle).1]) ps (jL dec σ.settle).2
theorem lY : ∀(k:Nat) (es:List eZ) (ps:List ByteArray) (σ:PS X),gF 0 σ (lD dec k es ps σ).2.2
 |0,_,_,_=>gF.refl _
 |k+1,es,ps,σ=>by
  rw [lD];split
  ·exact gF.refl _
  ·split
   ·rename_i h;exact(bq h B3).pX (C0 _)
   ·split
    ·exact(jZ σ).trans (lY k _ _ _)
    ·exact((bD σ).trans (BU dec _).1).trans (lY k _ _ _)
def qB (σ:PS X):List ByteArray×PS X:=if σ.du 4 lE=true then names σ.aK else([],σ.settle)
def Bg (σ:PS X):PS X:=aO 4 dM (aO 4 aF (qB (take 1 (aO 4 aE σ)).2).2)
def KL (σ:PS X):List eZ×List ByteArray×PS X:=lD dec (X.L.length+2) [] [] (Bg σ)
def qA (σ:PS X):eY×PS X:=(⟨(take 1 (aO 4 aE σ)).1,(qB (take 1 (aO 4 aE σ)).2).1,(KL dec σ).1,(KL dec σ).2.1⟩,(KL dec σ).2.2)
theorem Bh (σ:PS X):gF 0 σ (qB σ).2:=by
 unfold qB;split
 ·rename_i h;exact((bq h B3).trans (iW _)).pX (C0 _)
 ·exact bD _
theorem KM (σ:PS X):gF 0 σ (Bg σ):=((((aJ 4 aE σ).trans (dC 1 _)).trans (Bh _)).trans (aJ _ _ _)).trans (aJ _ _ _)
theorem Bf (σ:PS X):gF 0 σ (qA dec σ).2:=(KM σ).trans (lY dec _ _ _ _)
def ey : Nat->List dW->List eY->PS X->List dW×List eY×PS X
 |0,vs,ps,σ=>(vs,ps,σ)
 |k+1,vs,ps,σ=>
  if σ.du 1 eQ=true then ey k (vs ++ [(nR cnt σ.aK).1]) ps (nR cnt σ.aK).2
  else if σ.du 1 cd=true then ey k vs (ps ++ [(qA dec σ.aK).1]) (qA dec σ.aK).2
  else(vs,ps,σ.settle)
def fin (σ:PS X):PS X:=match σ.tok with|some t=>if t.kind=0 then σ else σ.bZ 30|none=>σ.settle
def Ie (σ:PS X):PS X:=aO 4 dM (take 1 (aO 1 fe σ)).2
def vN (σ:PS X):PS X:=aO 4 dc (props (Ie σ)).2
def BM (σ:PS X):List dW×List eY×PS X:=ey dec cnt (X.L.length+1) [] [] (vN σ)
def Ec (σ:PS X):iS×PS X:=(⟨(take 1 (aO 1 fe σ)).1,(props (Ie σ)).1,(BM dec cnt σ).1,(BM dec cnt σ).2.1⟩,fin (BM dec cnt σ).2.2)
def DG (σ:PS X):List (List cE)×PS X:=((row dec σ).1,fin (row dec σ).2)
end
end PS
end Go.Ev
namespace Go.Ev
open Go.Proofs
theorem AK (s:ByteArray)(i:Nat)(h:i<=s.size):fJ s i<=s.size:=by
 rw [fJ];split
 ·rename_i hlt;split
  ·omega
  ·split
   ·rename_i h2
    have h3:i+1 < s.size:=by
     rcases G8 (i+1) s.size with h9|h9
     ·exact h9
     ·have:=bU h9;rw [this] at h2;exact absurd h2.2.2 B3
    omega
   ·exact AK s (i+1) hlt
 ·split<;>omega
termination_by s.size - i
theorem jW {s:ByteArray}(h:1<=s.size):bf s<=s.size:=by
 unfold bf;split
 ·omega
 ·split
  ·omega
  ·rename_i h2
   have h3:1 < s.size:=by
    rcases G8 1 s.size with h9|h9
    ·exact h9
    ·have:=bU h9;rw [this] at h2;exact absurd (.inr ⟨by decide,by decide⟩) h2
   exact AK s 2 A8
theorem kO (s:ByteArray)(i:Nat)(out:ByteArray)(h:(dv s i out).2.2=true):i < (dv s i out).1/\(dv s i out).1<=s.size:=by
 rw [dv] at h |-;split
 ·rename_i hlt;rw [I2 hlt] at h;split
  ·simp only;omega
  ·rename_i h1;rw [if_neg h1] at h;split
   ·rename_i h2;rw [if_pos h2] at h;cases h
   ·rename_i h2;rw [if_neg h2] at h;split
    ·rename_i h3;rw [if_pos h3] at h;split
     ·rename_i h4;rw [if_pos h4] at h;cases h
     ·rename_i h4;rw [if_neg h4] at h;have:=kO s (i+2) _ h;omega
    ·rename_i h3;rw [if_neg h3] at h;have:=kO s (i+1) _ h;omega
 ·rename_i hlt;rw [O4 hlt] at h;cases h
termination_by s.size - i
theorem Bt {s:ByteArray}(h:ak (ax s 0)=true)(h1:1<=s.size):0 < aI s:=by
 have:=fj h1 h;unfold aI;split<;>omega
theorem Bs {s:ByteArray}(h:ak (ax s 0)=true)(h1:1<=s.size):0 < aS s:=by
 have:=Bt h h1;unfold aS;split
 ·unfold bJ;split<;>omega
 ·exact this
theorem kH {s:ByteArray}(h1:1<=s.size)(hc:(aH s).code=0):0 < (aH s).n/\(aH s).n<=s.size:=by
 have hsk:=jW h1;have hnF:=yD (s:=s);have hr0:=fC (p:=bp) (s:=s) (i:=0) (C0 _);unfold aH at hc |-;split
 ·rename_i c;rw [if_pos c] at hc;cases hc
 ·rename_i c;rw [if_neg c] at hc;split
  ·simp only;omega
  ·rename_i c2;rw [if_neg c2] at hc;split
   ·rename_i c3;rw [if_pos c3] at hc;have:=fj (p:=bp) h1 (by unfold bp;rw [c3];rfl);split
    ·rename_i c4;rw [if_pos c4] at hc;cases hc
    ·simp only;omega
   ·rename_i c3;rw [if_neg c3] at hc;split
    ·rename_i c4;rw [if_pos c4] at hc;have:=Bs c4 h1;split
     ·rename_i c5;rw [if_pos c5] at hc;cases hc
     ·simp only;omega
    ·rename_i c4;rw [if_neg c4] at hc;split
     ·rename_i c5;rw [if_pos c5] at hc;split
      ·rename_i c6;have:=kO s 1 ⟨#[]⟩ c6;simp only;omega
      ·rename_i c6;rw [if_neg c6] at hc;cases hc
     ·rename_i c5;rw [if_neg c5] at hc;split
      ·simp only;omega
      ·rename_i c6;rw [if_neg c6] at hc;cases hc
def bQ (s : ByteArray) (i : Nat) : List Tok × Option dy :=
  if h : i < s.size then
    if (aH (s.extract i s.size)).code ≠ 0 then ([], some ⟨(aH (s.extract i s.size)).code, (aj s i).1, (aj s i).2, (aH (s.extract i s.size)).word⟩)
    else if hn : 0 < (aH (s.extract i s.size)).n then
      (if (aH (s.extract i s.size)).kind ≠ 0 then (⟨(aH (s.extract i s.size)).kind, (aH (s.extract i s.size)).text, (aj s i).1, (aj s i).2⟩ :: (bQ s (i + (aH (s.extract i s.size)).n)).1, (bQ s (i + (aH (s.extract i s.size)).n)).2)
       else bQ s (i + (aH (s.extract i s.size)).n))
    else ([], none)
  else ([⟨0, eS, (aj s s.size).1, (aj s s.size).2⟩], none)
termination_by s.size - i
theorem tL {s:ByteArray}{i:Nat}(h:i<=s.size):(s.extract i s.size).size=s.size - i:=by
 rw [F5];omega
theorem rb (s:ByteArray)(i:Nat)(h:(bQ s i).2=none):∃l t,(bQ s i).1=l ++ [t]/\t.kind=0:=by
 rw [bQ] at h |-;split
 ·rename_i hlt;rw [I2 hlt] at h;split
  ·rename_i hc;rw [if_pos hc] at h;cases h
  ·rename_i hc;rw [if_neg hc] at h;have hp:=kH (s:=s.extract i s.size) (by rw [tL A8];omega) (T1.1 hc);split
   ·rename_i hn;rw [I2 hn] at h;split
    ·rename_i hk;rw [if_pos hk] at h;obtain⟨l,t,e,ht⟩:=rb s (i+(aH (s.extract i s.size)).n) h;exact⟨_ :: l,t,by simp only;rw [e];rfl,ht⟩
    ·rename_i hk;rw [if_neg hk] at h;exact rb s (i+(aH (s.extract i s.size)).n) h
   ·rename_i hn;exact absurd hp.1 hn
 ·exact⟨[],_,rfl,rfl⟩
termination_by s.size - i
theorem vm (s:ByteArray)(i:Nat)(f:dy)(h:(bQ s i).2=some f):f.code≠0:=by
 rw [bQ] at h;split at h
 ·split at h
  ·rename_i hc;cases h
   intro h9;have h8:((aH (s.extract i s.size)).code:Int)=0:=h9;omega
  ·split at h
   ·split at h
    ·exact vm s _ f h
    ·exact vm s _ f h
   ·cases h
 ·cases h
termination_by s.size - i
def fQ (s:ByteArray):fA:=⟨(bQ s 0).1,(bQ s 0).2,rb s 0,vm s 0⟩
def xN (t:Tok):T:=Ud t.kind t.text t.line t.Ae
def ly (t:Tok):V:=.agg [.af (.int .i8 t.kind),.af (.string t.text),.af (.int .i64 t.line),.af (.int .i64 t.Ae)]
def tv (l:List Tok):T:=.sl (l.map xN)
def VS : Option dy->Int|none=>0|some f=>f.code
def WQ : Option dy->Int|none=>0|some f=>f.line
def WR : Option dy->Int|none=>0|some f=>f.Ae
def WO : Option dy->ByteArray|none=>eS|some f=>f.word
variable {W : fA}
def Sh (W:fA)(a:Nat)(b:Option dy)(n:Nat):V:=
 .agg [.ro true (tv W.L),.af (.int .i64 a),.af (.int .i64 (VS W.late)),.af (.int .i64 (WQ W.late)),.af (.int .i64 (WR W.late)),.af (.string (WO W.late)),
  .af (.int .i64 (VS b)),.af (.int .i64 (WQ b)),.af (.int .i64 (WR b)),.af (.string (WO b)),.af (.int .i64 n)]
theorem Mz {oh oh1:OH}{v:V}(h:∃x,v=.af x\/∃f t,v=.ro f t):mO oh oh1 v v:=by
 obtain⟨x,rfl|⟨f,t,rfl⟩⟩:=h
 ·exact .af _
 ·exact .ro _ _
theorem bT {v:V}{oh:OH}(h:v.cl oh):∀u ∈ [v],u.cl oh:=by
 intro u hu;obtain rfl:=HQ.1 hu;exact h
theorem Gq {v:V}{l:List V}{oh:OH}(h:v.cl oh)(k:∀u ∈ l,u.cl oh):∀u ∈ v :: l,u.cl oh:=by
 intro u hu;rcases B5.1 hu with rfl|hu
 ·exact h
 ·exact k u hu
theorem Gw {oh oh1:OH}(l:List Value):vB oh oh1 (.agg (l.map .af)) (.agg (l.map .af)):=by
 refine⟨rfl,fun j x y hx hy=>?_⟩;rw [hx] at hy;obtain rfl:x=y:=by simpa using hy
 rw [Zf] at hx;obtain⟨a,-,rfl⟩:=C1.1 hx;exact .af a
theorem Vw {l:List Tok}{i:Nat}{t:Tok}(h:l[i]?=some t):(l.map xN)[i]?=some (xN t):=by
 rw [Zf,h];rfl
end Go.Ev
namespace Go.Ev
open Go.Proofs
variable {W : fA}
theorem HX {σ:PS W}(h:W.L[σ.at_]?=none):VS W.late≠0:=by
 cases hl:W.late with
 |none=>
  have h1:=σ.inv hl;rw [uz h1] at h;cases h
 |some f=>exact W.QO f hl
theorem xH {a b:V}{oh:OH}(h:a.cl oh)(k:b.cl oh):∀u ∈ [a,b],u.cl oh:=Gq h (bT k)
theorem Jv {a b c:V}{oh:OH}(h:a.cl oh)(k:b.cl oh)(m:c.cl oh):∀u ∈ [a,b,c],u.cl oh:=Gq h (xH k m)
theorem PT (b:ByteArray):∀(k i:Nat) (r:List UInt8),b.size - i=k->ByteArray.toList.loop b i r=r.reverse ++ b.data.toList.drop i:=by
 intro k
 induction k with
 |zero=>
  intro i r h;rw [ByteArray.toList.loop,if_neg A8,I7 (by show b.data.toList.length<=i;rw [J1];exact Nat.le_of_sub_eq_zero h),J8]
 |succ k ih=>
  intro i r h;have hlt:i < b.size:=by omega
  rw [ByteArray.toList.loop,if_pos hlt,ih (i+1) _ A8];have hl:i < b.data.toList.length:=by rw [J1];exact hlt
  rw [F7 hl]
  have:b.get! i=b.data.toList[i]:=by
   show b.data[i]! = _;rw [X0];exact getElem!_pos b.data i hlt
  rw [this];simp
theorem jD (b:ByteArray):b.toList=b.data.toList:=by
 unfold ByteArray.toList;rw [PT b _ 0 [] rfl];simp
theorem mF {a b:ByteArray}(h:a.toList=b.toList):a=b:=by
 rw [jD,jD] at h;exact P1 (W5.1 h)
theorem SG {σ:PS W}{t:Tok}(ht:σ.tok=some t)(k:Int)(w:ByteArray):(decide (t.kind=k) && (t.text.toList == w.toList))=σ.du k w:=by
 unfold PS.du;rw [ht,P8];simp only [C7,E5,W0];exact⟨fun h=>⟨h.1,mF h.2⟩,fun h=>⟨h.1,by rw [h.2]⟩⟩
theorem pA {σ:PS W}(ht:σ.tok=none)(k:Int)(w:ByteArray):σ.du k w=false:=by
 unfold PS.du;rw [ht]
theorem dO (σ:PS W)(c:Int)(hc:c≠0):σ.settle.bZ c hc=σ.bZ c hc:=by
 cases ht:σ.tok with
 |some t=>rw [PS.az ht]
 |none=>
  have h1:σ.settle.bZ c hc=σ.settle:=by
   have:=PS.jc ht;unfold PS.bZ
   cases hb:σ.settle.bad with
   |none=>exact absurd hb this
   |some f=>rfl
  rw [h1];unfold PS.settle PS.bZ;unfold PS.tok at ht
  cases hb:σ.bad with
  |some f=>rfl
  |none=>
   rw [hb] at ht;have ht2:W.L[σ.at_]?=none:=ht;simp only [ht2]
theorem kD {σ:PS W}(ht:σ.tok=none)(c:Int)(hc:c≠0):σ.bZ c hc=σ.settle:=by
 rw [<- dO];have:=PS.jc ht
 cases hb:σ.settle.bad with
 |none=>exact absurd hb this
 |some f=>unfold PS.bZ;rw [hb]
end Go.Ev
namespace Go.Ev
open Go.Proofs
variable {W : fA}
theorem fm {v:V}(h:v.flat):∀e ∈ [v],e.flat:=by
 intro e he;obtain rfl:=HQ.1 he;exact h
def vS (w:ByteArray):V:=.af (.string w)
def jO (l:List ByteArray):T:=.sl (l.map gG)
theorem xE (l:List ByteArray):∀e ∈ l.map vS,e.flat:=by
 intro e he;obtain⟨w,-,rfl⟩:=D4.1 he;trivial
theorem EO (l:List ByteArray)(oh:OH):∀e ∈ l.map vS,e.cl oh:=fun e he=>(xE l e he).cl oh
theorem BN {oh oh1:OH}{id ver len:Nat}{l:List ByteArray}{el:List V}(ho:ae oh id=some ⟨1,el,ver,true⟩)(hel:el=l.map vS)(hd:ae oh1 id=none)(hn:l.length=len):iT oh oh1 false (.own id ver 0 len) (jO l):=by
 subst hel;refine SL (F:=vS) (G:=gG) ho hd hn (fun a _=>rfl) (fun a _ j v u h1 h2=>?_)
 cases j with
 |zero=>
  obtain rfl:V.af (.string a)=v:=by simpa [vS,V.cells] using h1
  obtain rfl:T.af (.string a)=u:=by simpa [gG,T.cells] using h2
  exact iT.af _
 |succ j=>simp [vS,V.cells] at h1
theorem tq {α β:Type}{F:α->β}{l:List α}{n:Nat}{a:α}(h:n=l.length):(l.map F).take n ++ [F a]=(l ++ [a]).map F:=by
 rw [B7 (by rw [List.length_map];omega),G7];rfl
end Go.Ev
