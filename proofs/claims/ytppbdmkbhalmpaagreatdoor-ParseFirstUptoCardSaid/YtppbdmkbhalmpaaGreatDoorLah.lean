import Derived.Test.YtppbdmkbhalmpaaGreatDoorLag
set_option linter.all false
set_option maxHeartbeats 4000000
set_option maxRecDepth 10000
namespace Go.Ev
structure Tok where
 kind:Int
 text:ByteArray
 line:Int
 col:Int
structure Flt where
 code:Int
 line:Int
 col:Int
 word:ByteArray
structure Txt where
 L:List Tok
 late:Option Flt
 fine:late=none→∃l t,L=l ++ [t]∧t.kind=0
 cod:∀f,late=some f→f.code≠0
structure PS (X:Txt) where
 at_:Nat
 bad:Option Flt
 opn:Nat
 inv:X.late=none→at_ < X.L.length
 cod:∀f,bad=some f→f.code≠0
variable {X : Txt}
namespace PS
def tok (σ:PS X):Option Tok:=match σ.bad with|some _=>none|none=>X.L[σ.at_]?
def settle (σ:PS X):PS X:=match σ.bad with|some _=>σ|none=>(match X.L[σ.at_]? with|some _=>σ|none=>{ σ with bad:=X.late,cod:=X.cod })
def wrong (σ:PS X)(c:Int)(hc:c≠0:=by decide):PS X:=match σ.bad with|some _=>σ|none=>(match X.L[σ.at_]? with|some t=>{ σ with bad:=some ⟨c,t.line,t.col,t.text⟩,cod:=fun f h=>by cases h;exact hc }|none=>{ σ with bad:=X.late,cod:=X.cod })
def adv (σ:PS X):PS X:=if h:X.late=none→σ.at_+1 < X.L.length then⟨σ.at_+1,σ.bad,σ.opn,h,σ.cod⟩ else σ
def isB (σ:PS X)(k:Int)(w:ByteArray):Bool:=match σ.tok with|some t=>decide (t.kind=k∧t.text=w)|none=>false
def setO (σ:PS X)(n:Nat):PS X:={ σ with opn:=n }
theorem tok_at {σ:PS X}{t:Tok}(h:σ.tok=some t):σ.bad=none∧X.L[σ.at_]?=some t∧σ.at_ < X.L.length:=by
 unfold tok at h
 split at h
 ·cases h
 ·rename_i hb
  exact⟨hb,h,(List.getElem?_eq_some_iff.1 h).1⟩
theorem adv_at {σ:PS X}{t:Tok}(h:σ.tok=some t)(hk:t.kind≠0):σ.adv.at_=σ.at_+1∧σ.adv.bad=none∧σ.adv.opn=σ.opn:=by
 obtain⟨h1,h2,h3⟩:=tok_at h
 have h4:X.late=none→σ.at_+1 < X.L.length:=by
  intro hl
  obtain⟨l,u,e,hu⟩:=X.fine hl
  rw [e] at h2 h3
  rw [e]
  rw [List.length_append,List.length_singleton] at h3 ⊢
  by_cases h5:σ.at_=l.length
  ·rw [h5,List.getElem?_append_right (Nat.le_refl _),Nat.sub_self] at h2
   obtain rfl:u=t:=by simpa using h2
   exact absurd hu hk
  ·omega
 unfold adv
 rw [dif_pos h4]
 exact⟨rfl,h1,rfl⟩
theorem isB_tok {σ:PS X}{k:Int}{w:ByteArray}(h:σ.isB k w=true):∃t,σ.tok=some t∧t.kind=k∧t.text=w:=by
 unfold isB at h
 split at h
 ·rename_i t ht
  obtain⟨h1,h2⟩:=of_decide_eq_true h
  exact⟨t,ht,h1,h2⟩
 ·cases h
structure Fol (n:Nat)(σ τ:PS X):Prop where
 le:σ.at_+n≤τ.at_
 opn:τ.opn=σ.opn
 stk:σ.bad≠none→τ=σ
 hi:σ.at_≤X.L.length→τ.at_≤X.L.length
theorem Fol.refl (σ:PS X):Fol 0 σ σ:=⟨Nat.le_refl _,rfl,fun _=>rfl,fun h=>h⟩
theorem Fol.trans {m n:Nat}{σ τ ρ:PS X}(h:Fol m σ τ)(k:Fol n τ ρ):Fol (m+n) σ ρ:=⟨by have:=h.le;have:=k.le;omega,k.opn.trans h.opn,fun hb=>by
 have e:=h.stk hb
 subst e
 exact k.stk hb,fun h9=>k.hi (h.hi h9)⟩
theorem Fol.weak {m n:Nat}{σ τ:PS X}(h:Fol m σ τ)(hn:n≤m):Fol n σ τ:=⟨by have:=h.le;omega,h.opn,h.stk,h.hi⟩
theorem Fol.bad {n:Nat}{σ τ:PS X}(h:Fol n σ τ)(hb:σ.bad≠none):τ.bad≠none:=by rw [h.stk hb];exact hb
theorem settle_fol (σ:PS X):Fol 0 σ σ.settle:=by
 unfold settle;split
 ·exact Fol.refl _
 ·rename_i hb
  split
  ·exact Fol.refl _
  ·exact⟨Nat.le_refl _,rfl,fun h=>absurd hb h,fun h=>h⟩
theorem wrong_fol (σ:PS X)(c:Int)(hc:c≠0:=by decide):Fol 0 σ (σ.wrong c hc):=by
 unfold wrong;split
 ·exact Fol.refl _
 ·rename_i hb
  split<;>exact⟨Nat.le_refl _,rfl,fun h=>absurd hb h,fun h=>h⟩
theorem wrong_bad (σ:PS X)(c:Int)(hc:c≠0:=by decide):(σ.wrong c hc).bad≠none:=by
 unfold wrong;split
 ·rename_i hb;rw [hb];exact fun h=>by cases h
 ·split
  ·exact fun h=>by cases h
  ·rename_i hl
   intro h
   have h1:=σ.inv h
   rw [List.getElem?_eq_getElem h1] at hl
   cases hl
theorem settle_bad {σ:PS X}(h:σ.tok=none):σ.settle.bad≠none:=by
 unfold tok at h
 unfold settle
 split
 ·rename_i hb;rw [hb];exact fun h=>by cases h
 ·rename_i hb
  rw [hb] at h
  have hl:X.L[σ.at_]?=none:=h
  rw [hl]
  intro h
  have h1:=σ.inv h
  rw [List.getElem?_eq_getElem h1] at hl
  cases hl
theorem settle_some {σ:PS X}{t:Tok}(h:σ.tok=some t):σ.settle=σ:=by
 obtain⟨h1,h2,-⟩:=tok_at h
 unfold settle
 rw [h1,h2]
theorem adv_fol {σ:PS X}{t:Tok}(h:σ.tok=some t):Fol 0 σ σ.adv:=by
 have hb:=(tok_at h).1
 unfold adv;split
 ·exact⟨Nat.le_succ _,rfl,fun h=>absurd hb h,fun _=>(tok_at h).2.2⟩
 ·exact Fol.refl _
theorem adv_folk {σ:PS X}{t:Tok}(h:σ.tok=some t)(hk:t.kind≠0):Fol 1 σ σ.adv:=by
 have hb:=(tok_at h).1
 obtain⟨h2,-,h3⟩:=adv_at h hk
 exact⟨Nat.le_of_eq h2.symm,h3,fun h=>absurd hb h,fun _=>by rw [h2];exact(tok_at h).2.2⟩
theorem adv_fol1 {σ:PS X}{k:Int}{w:ByteArray}(h:σ.isB k w=true)(hk:k≠0):Fol 1 σ σ.adv:=by
 obtain⟨t,ht,h1,-⟩:=isB_tok h
 exact adv_folk ht (by rw [h1];exact hk)
def need (k:Int)(w:ByteArray)(σ:PS X):PS X:=if σ.isB k w=true then σ.adv else σ.wrong 30
def take (k:Int)(σ:PS X):ByteArray×PS X:=
 match σ.tok with
 |some t=>if t.kind=k then(t.text,σ.adv) else(⟨#[]⟩,σ.wrong 30)
 |none=>(⟨#[]⟩,σ.settle)
def kComma : ByteArray:=⟨#[44]⟩
def kSemi : ByteArray:=⟨#[59]⟩
def kProp : ByteArray:=⟨#[112,114,111,112,101,114,116,121]⟩
def namesL : Nat→List ByteArray→PS X→List ByteArray×PS X
 |0,l,σ=>(l,σ)
 |k+1,l,σ=>if(take 1 σ).2.isB 4 kComma=true then namesL k (l ++ [(take 1 σ).1]) (take 1 σ).2.adv else(l ++ [(take 1 σ).1],(take 1 σ).2.settle)
def names (σ:PS X):List ByteArray×PS X:=match σ.bad with|some _=>([],σ)|none=>namesL (X.L.length+1) [] σ
def propsL : Nat→List ByteArray→PS X→List ByteArray×PS X
 |0,l,σ=>(l,σ)
 |k+1,l,σ=>if σ.isB 1 kProp=true then propsL k (l ++ [(take 3 σ.adv).1]) (need 4 kSemi (take 3 σ.adv).2) else(l,σ.settle)
def props (σ:PS X):List ByteArray×PS X:=propsL (X.L.length+1) [] σ
theorem need_fol (k:Int)(w:ByteArray)(σ:PS X):Fol 0 σ (need k w σ):=by
 unfold need;split
 ·rename_i h;exact adv_fol (isB_tok h).choose_spec.1
 ·exact wrong_fol _ _
theorem take_fol (k:Int)(σ:PS X):Fol 0 σ (take k σ).2:=by
 unfold take;split
 ·rename_i t h
  split
  ·exact adv_fol h
  ·exact wrong_fol _ _
 ·exact settle_fol _
theorem namesL_fol : ∀(k:Nat) (l:List ByteArray) (σ:PS X),Fol 0 σ (namesL k l σ).2
 |0,_,_=>Fol.refl _
 |k+1,l,σ=>by
  rw [namesL];split
  ·rename_i h;exact(((take_fol 1 σ).trans (adv_fol1 h (by decide))).trans (namesL_fol k _ _)).weak (Nat.zero_le _)
  ·exact(take_fol 1 σ).trans (settle_fol _)
theorem names_fol (σ:PS X):Fol 0 σ (names σ).2:=by
 unfold names;split
 ·exact Fol.refl _
 ·exact namesL_fol _ _ _
theorem propsL_fol : ∀(k:Nat) (l:List ByteArray) (σ:PS X),Fol 0 σ (propsL k l σ).2
 |0,_,_=>Fol.refl _
 |k+1,l,σ=>by
  rw [propsL];split
  ·rename_i h;exact((((adv_fol1 h (by decide)).trans (take_fol 3 _)).trans (need_fol 4 kSemi _)).trans (propsL_fol k _ _)).weak (Nat.zero_le _)
  ·exact settle_fol _
theorem props_fol (σ:PS X):Fol 0 σ (props σ).2:=propsL_fol _ _ _
structure Trm where
 kind:Int
 z:Int
 d:Nat
def kOpen : ByteArray:=⟨#[40]⟩
def kShut : ByteArray:=⟨#[41]⟩
def kPlus : ByteArray:=⟨#[43]⟩
def kMin : ByteArray:=⟨#[45]⟩
def kStar : ByteArray:=⟨#[42]⟩
def kOver : ByteArray:=⟨#[47]⟩
section
variable (dec : ByteArray → Int × Nat)
abbrev Rd (X:Txt):=PS X→List Trm×PS X
def chainL (un:Rd X)(a b:ByteArray)(ka kb:Int):Nat→List Trm→PS X→List Trm×PS X
 |0,l,σ=>(l,σ)
 |k+1,l,σ=>
  if σ.isB 4 a=true then chainL un a b ka kb k (l ++ (un σ.adv).1 ++ [⟨ka,0,0⟩]) (un σ.adv).2
  else if σ.isB 4 b=true then chainL un a b ka kb k (l ++ (un σ.adv).1 ++ [⟨kb,0,0⟩]) (un σ.adv).2
  else(l,σ.settle)
def prod (un:Rd X):Rd X:=fun σ=>chainL un kStar kOver 4 5 (X.L.length+1) (un σ).1 (un σ).2
def sum (un:Rd X):Rd X:=fun σ=>chainL (prod un) kPlus kMin 2 3 (X.L.length+1) (prod un σ).1 (prod un σ).2
def un : Nat→Rd X
 |0,σ=>([],σ)
 |d+1,σ=>
  match σ.tok with
  |some t=>
   if t.kind=2 then([⟨1,(dec t.text).1,(dec t.text).2⟩],σ.adv)
   else if t.kind=4∧t.text=kMin then
    (if 64≤σ.opn then([],σ.wrong 31) else((un d (σ.adv.setO (σ.opn+1))).1 ++ [⟨6,0,0⟩],(un d (σ.adv.setO (σ.opn+1))).2.setO σ.opn))
   else if t.kind=4∧t.text=kOpen then
    (if 64≤σ.opn then([],σ.wrong 31) else((sum (un d) (σ.adv.setO (σ.opn+1))).1,(need 4 kShut (sum (un d) (σ.adv.setO (σ.opn+1))).2).setO σ.opn))
   else([],σ.wrong 30)
  |none=>([],σ.settle)
def Good (f:Rd X):Prop:=∀σ,Fol 0 σ (f σ).2∧(f σ).1.length+2 * σ.at_≤2 * (f σ).2.at_
theorem chainL_good {f:Rd X}(hf:Good f){a b:ByteArray}{ka kb:Int}:∀(k:Nat) (l:List Trm) (σ:PS X),Fol 0 σ (chainL f a b ka kb k l σ).2∧(chainL f a b ka kb k l σ).1.length+2 * σ.at_≤l.length+2 * (chainL f a b ka kb k l σ).2.at_
 |0,l,σ=>⟨Fol.refl _,Nat.le_refl _⟩
 |k+1,l,σ=>by
  have key:∀w c,σ.isB 4 w=true→Fol 0 σ (chainL f a b ka kb k (l ++ (f σ.adv).1 ++ [⟨c,0,0⟩]) (f σ.adv).2).2∧(chainL f a b ka kb k (l ++ (f σ.adv).1 ++ [⟨c,0,0⟩]) (f σ.adv).2).1.length+2 * σ.at_≤l.length+2 * (chainL f a b ka kb k (l ++ (f σ.adv).1 ++ [⟨c,0,0⟩]) (f σ.adv).2).2.at_:=by
   intro w c hw
   have h1:=adv_fol1 hw (by decide)
   obtain⟨h2,h3⟩:=hf σ.adv
   obtain⟨h4,h5⟩:=chainL_good hf (a:=a) (b:=b) (ka:=ka) (kb:=kb) k (l ++ (f σ.adv).1 ++ [⟨c,0,0⟩]) (f σ.adv).2
   refine⟨((h1.trans h2).trans h4).weak (Nat.zero_le _),?_⟩
   rw [List.length_append,List.length_append,List.length_singleton] at h5
   have:=h1.le;have:=h2.le
   omega
  rw [chainL]
  split
  ·rename_i hw;exact key _ _ hw
  ·split
   ·rename_i hw;exact key _ _ hw
   ·refine⟨settle_fol _,?_⟩
    have:=(settle_fol σ).le
    simp only;omega
theorem prod_good {f:Rd X}(hf:Good f):Good (prod f):=by
 intro σ
 obtain⟨h1,h2⟩:=hf σ
 obtain⟨h3,h4⟩:=chainL_good hf (a:=kStar) (b:=kOver) (ka:=4) (kb:=5) (X.L.length+1) (f σ).1 (f σ).2
 exact⟨(h1.trans h3).weak (Nat.zero_le _),by unfold prod;omega⟩
theorem sum_good {f:Rd X}(hf:Good f):Good (sum f):=by
 intro σ
 obtain⟨h1,h2⟩:=prod_good hf σ
 obtain⟨h3,h4⟩:=chainL_good (prod_good hf) (a:=kPlus) (b:=kMin) (ka:=2) (kb:=3) (X.L.length+1) (prod f σ).1 (prod f σ).2
 exact⟨(h1.trans h3).weak (Nat.zero_le _),by unfold sum;omega⟩
theorem un_good : ∀d,Good (X:=X) (un dec d)
 |0=>fun σ=>⟨Fol.refl _,Nat.le_of_eq (Nat.zero_add _)⟩
 |d+1=>fun σ=>by
  have hd:=un_good d
  rw [un]
  split
  ·rename_i t ht
   split
   ·rename_i hk
    obtain⟨h1,h2,h3⟩:=adv_at ht (by rw [hk];decide)
    refine⟨(adv_folk ht (by rw [hk];decide)).weak (Nat.zero_le _),?_⟩
    simp only [List.length_singleton];omega
   ·split
    ·rename_i hk
     obtain⟨h1,h2,h3⟩:=adv_at ht (by rw [hk.1];decide)
     split
     ·refine⟨wrong_fol _ _,?_⟩
      have:=(wrong_fol σ 31).le
      simp only [List.length_nil];omega
     ·obtain⟨h4,h5⟩:=hd (σ.adv.setO (σ.opn+1))
      have h6:=h4.le
      have h7:(σ.adv.setO (σ.opn+1)).at_=σ.adv.at_:=rfl
      refine⟨⟨?_,rfl,fun hb=>absurd (tok_at ht).1 hb,fun _=>h4.hi (by rw [h7,h1];exact(tok_at ht).2.2)⟩,?_⟩
      ·show _≤(un dec d (σ.adv.setO (σ.opn+1))).2.at_;omega
      ·show((un dec d (σ.adv.setO (σ.opn+1))).1 ++ [⟨6,0,0⟩]:List Trm).length+_≤2 * (un dec d (σ.adv.setO (σ.opn+1))).2.at_
       rw [List.length_append,List.length_singleton];omega
    ·split
     ·rename_i hk
      obtain⟨h1,h2,h3⟩:=adv_at ht (by rw [hk.1];decide)
      split
      ·refine⟨wrong_fol _ _,?_⟩
       have:=(wrong_fol σ 31).le
       simp only [List.length_nil];omega
      ·obtain⟨h4,h5⟩:=sum_good hd (σ.adv.setO (σ.opn+1))
       have h6:=h4.le
       have h7:(σ.adv.setO (σ.opn+1)).at_=σ.adv.at_:=rfl
       have h8:=(need_fol 4 kShut (sum (un dec d) (σ.adv.setO (σ.opn+1))).2).le
       refine⟨⟨?_,rfl,fun hb=>absurd (tok_at ht).1 hb,fun _=>(need_fol 4 kShut _).hi (h4.hi (by rw [h7,h1];exact(tok_at ht).2.2))⟩,?_⟩
       ·show _≤(need 4 kShut (sum (un dec d) (σ.adv.setO (σ.opn+1))).2).at_;omega
       ·show(sum (un dec d) (σ.adv.setO (σ.opn+1))).1.length+_≤2 * (need 4 kShut (sum (un dec d) (σ.adv.setO (σ.opn+1))).2).at_
        omega
     ·refine⟨wrong_fol _ _,?_⟩
      have:=(wrong_fol σ 30).le
      simp only [List.length_nil];omega
  ·refine⟨settle_fol _,?_⟩
   have:=(settle_fol σ).le
   simp only [List.length_nil];omega
def sum0 : Rd X:=fun σ=>sum (un dec (65 - σ.opn)) σ
def rowL : Nat→List (List Trm)→PS X→List (List Trm)×PS X
 |0,l,σ=>(l,σ)
 |k+1,l,σ=>if(sum0 dec σ).2.isB 4 kComma=true then rowL k (l ++ [(sum0 dec σ).1]) (sum0 dec σ).2.adv else(l ++ [(sum0 dec σ).1],(sum0 dec σ).2.settle)
def row (σ:PS X):List (List Trm)×PS X:=match σ.bad with|some _=>([],σ)|none=>rowL dec (X.L.length+1) [] σ
theorem sum0_good : Good (X:=X) (sum0 dec):=fun σ=>sum_good (un_good dec _) σ
theorem rowL_fol : ∀(k:Nat) (l:List (List Trm)) (σ:PS X),Fol 0 σ (rowL dec k l σ).2
 |0,_,_=>Fol.refl _
 |k+1,l,σ=>by
  rw [rowL];split
  ·rename_i h;exact((((sum0_good dec σ).1).trans (adv_fol1 h (by decide))).trans (rowL_fol k _ _)).weak (Nat.zero_le _)
  ·exact((sum0_good dec σ).1).trans (settle_fol _)
theorem row_fol (σ:PS X):Fol 0 σ (row dec σ).2:=by
 unfold row;split
 ·exact Fol.refl _
 ·exact rowL_fol dec _ _ _
structure VarD where
 name:ByteArray
 count:Nat
 vals:List ByteArray
 prps:List ByteArray
structure EntD where
 kind:Int
 given:List ByteArray
 nums:List (List Trm)
structure PrbD where
 name:ByteArray
 pars:List ByteArray
 ents:List EntD
 prps:List ByteArray
structure FilD where
 name:ByteArray
 prps:List ByteArray
 vars:List VarD
 prbs:List PrbD
variable (cnt : ByteArray → Option Nat)
def count (σ:PS X):Nat×PS X:=
 match σ.tok with
 |some t=>(match cnt t.text with
  |some n=>if t.kind=2 then(n,σ.adv) else(0,σ.wrong 30)
  |none=>(0,σ.wrong 30))
 |none=>(0,σ.settle)
theorem count_fol (σ:PS X):Fol 0 σ (count cnt σ).2:=by
 unfold count;split
 ·rename_i t h
  split
  ·split
   ·exact adv_fol h
   ·exact wrong_fol _ _
  ·exact wrong_fol _ _
 ·exact settle_fol _
def kLC : ByteArray:=⟨#[123]⟩
def kRC : ByteArray:=⟨#[125]⟩
def kLK : ByteArray:=⟨#[91]⟩
def kRK : ByteArray:=⟨#[93]⟩
def kBar : ByteArray:=⟨#[124]⟩
def kType : ByteArray:=⟨#[116,121,112,101]⟩
def kDisc : ByteArray:=⟨#[100,105,115,99,114,101,116,101]⟩
def kVar : ByteArray:=⟨#[118,97,114,105,97,98,108,101]⟩
def kProb : ByteArray:=⟨#[112,114,111,98,97,98,105,108,105,116,121]⟩
def kNet : ByteArray:=⟨#[110,101,116,119,111,114,107]⟩
def kTab : ByteArray:=⟨#[116,97,98,108,101]⟩
def kDef : ByteArray:=⟨#[100,101,102,97,117,108,116]⟩
def var1 (σ:PS X):PS X:=need 4 kLK (need 1 kDisc (need 1 kType (need 4 kLC (take 1 σ).2)))
def var2 (σ:PS X):PS X:=need 4 kLC (need 4 kRK (count cnt (var1 σ)).2)
def var3 (σ:PS X):PS X:=need 4 kSemi (need 4 kRC (names (var2 cnt σ)).2)
def varD (σ:PS X):VarD×PS X:=(⟨(take 1 σ).1,(count cnt (var1 σ)).1,(names (var2 cnt σ)).1,(props (var3 cnt σ)).1⟩,need 4 kRC (props (var3 cnt σ)).2)
theorem var1_fol (σ:PS X):Fol 0 σ (var1 σ):=((((take_fol 1 σ).trans (need_fol _ _ _)).trans (need_fol _ _ _)).trans (need_fol _ _ _)).trans (need_fol _ _ _)
theorem var2_fol (σ:PS X):Fol 0 σ (var2 cnt σ):=(((var1_fol σ).trans (count_fol cnt _)).trans (need_fol _ _ _)).trans (need_fol _ _ _)
theorem var3_fol (σ:PS X):Fol 0 σ (var3 cnt σ):=(((var2_fol cnt σ).trans (names_fol _)).trans (need_fol _ _ _)).trans (need_fol _ _ _)
theorem varD_fol (σ:PS X):Fol 0 σ (varD cnt σ).2:=((var3_fol cnt σ).trans (props_fol _)).trans (need_fol _ _ _)
def ent1 (σ:PS X):Int×List ByteArray×PS X:=
 if σ.isB 1 kTab=true then(1,[],σ.adv)
 else if σ.isB 1 kDef=true then(2,[],σ.adv)
 else(3,(names (need 4 kOpen σ)).1,need 4 kShut (names (need 4 kOpen σ)).2)
def entD (σ:PS X):EntD×PS X:=(⟨(ent1 σ).1,(ent1 σ).2.1,(row dec (ent1 σ).2.2).1⟩,need 4 kSemi (row dec (ent1 σ).2.2).2)
theorem ent1_fol (σ:PS X):Fol 0 σ (ent1 σ).2.2∧((ent1 σ).2.2.bad=none→σ.at_+1≤(ent1 σ).2.2.at_):=by
 unfold ent1
 split
 ·rename_i h
  have:=adv_fol1 h (by decide)
  exact⟨this.weak (Nat.zero_le _),fun _=>this.le⟩
 ·split
  ·rename_i h
   have:=adv_fol1 h (by decide)
   exact⟨this.weak (Nat.zero_le _),fun _=>this.le⟩
  ·have h1:=(names_fol (need 4 kOpen σ)).trans (need_fol 4 kShut _)
   refine⟨(need_fol _ _ _).trans h1,fun hb=>?_⟩
   by_cases h:σ.isB 4 kOpen=true
   ·have h2:need 4 kOpen σ=σ.adv:=if_pos h
    rw [h2] at h1
    have:=(adv_fol1 h (by decide)).le
    have:=h1.le
    show _≤(need 4 kShut (names (need 4 kOpen σ)).2).at_
    rw [h2]
    omega
   ·have h2:need 4 kOpen σ=σ.wrong 30:=if_neg h
    refine absurd hb (h1.bad ?_)
    rw [h2];exact wrong_bad _ _
theorem entD_fol (σ:PS X):Fol 0 σ (entD dec σ).2∧((entD dec σ).2.bad=none→σ.at_+1≤(entD dec σ).2.at_):=by
 obtain⟨h1,h2⟩:=ent1_fol σ
 have h3:=(row_fol dec (ent1 σ).2.2).trans (need_fol 4 kSemi _)
 refine⟨h1.trans h3,fun hb=>?_⟩
 have h4:(ent1 σ).2.2.bad=none:=by
  rcases hq:(ent1 σ).2.2.bad with _|f
  ·rfl
  ·exact absurd hb (h3.bad (by rw [hq];exact fun h=>by cases h))
 have:=h2 h4
 have:=h3.le
 show _≤(need 4 kSemi (row dec (ent1 σ).2.2).2).at_
 omega
def prbL : Nat→List EntD→List ByteArray→PS X→List EntD×List ByteArray×PS X
 |0,es,ps,σ=>(es,ps,σ)
 |k+1,es,ps,σ=>
  match σ.bad with
  |some _=>(es,ps,σ)
  |none=>
   if σ.isB 4 kRC=true then(es,ps,σ.adv)
   else if σ.isB 1 kProp=true then prbL k es (ps ++ (props σ).1) (props σ).2
   else prbL k (es ++ [(entD dec σ.settle).1]) ps (entD dec σ.settle).2
theorem prbL_fol : ∀(k:Nat) (es:List EntD) (ps:List ByteArray) (σ:PS X),Fol 0 σ (prbL dec k es ps σ).2.2
 |0,_,_,_=>Fol.refl _
 |k+1,es,ps,σ=>by
  rw [prbL];split
  ·exact Fol.refl _
  ·split
   ·rename_i h;exact(adv_fol1 h (by decide)).weak (Nat.zero_le _)
   ·split
    ·exact(props_fol σ).trans (prbL_fol k _ _ _)
    ·exact((settle_fol σ).trans (entD_fol dec _).1).trans (prbL_fol k _ _ _)
def prb1 (σ:PS X):List ByteArray×PS X:=if σ.isB 4 kBar=true then names σ.adv else([],σ.settle)
def prb2 (σ:PS X):PS X:=need 4 kLC (need 4 kShut (prb1 (take 1 (need 4 kOpen σ)).2).2)
def prbR (σ:PS X):List EntD×List ByteArray×PS X:=prbL dec (X.L.length+2) [] [] (prb2 σ)
def prbD (σ:PS X):PrbD×PS X:=(⟨(take 1 (need 4 kOpen σ)).1,(prb1 (take 1 (need 4 kOpen σ)).2).1,(prbR dec σ).1,(prbR dec σ).2.1⟩,(prbR dec σ).2.2)
theorem prb1_fol (σ:PS X):Fol 0 σ (prb1 σ).2:=by
 unfold prb1;split
 ·rename_i h;exact((adv_fol1 h (by decide)).trans (names_fol _)).weak (Nat.zero_le _)
 ·exact settle_fol _
theorem prb2_fol (σ:PS X):Fol 0 σ (prb2 σ):=((((need_fol 4 kOpen σ).trans (take_fol 1 _)).trans (prb1_fol _)).trans (need_fol _ _ _)).trans (need_fol _ _ _)
theorem prbD_fol (σ:PS X):Fol 0 σ (prbD dec σ).2:=(prb2_fol σ).trans (prbL_fol dec _ _ _ _)
def partL : Nat→List VarD→List PrbD→PS X→List VarD×List PrbD×PS X
 |0,vs,ps,σ=>(vs,ps,σ)
 |k+1,vs,ps,σ=>
  if σ.isB 1 kVar=true then partL k (vs ++ [(varD cnt σ.adv).1]) ps (varD cnt σ.adv).2
  else if σ.isB 1 kProb=true then partL k vs (ps ++ [(prbD dec σ.adv).1]) (prbD dec σ.adv).2
  else(vs,ps,σ.settle)
def fin (σ:PS X):PS X:=match σ.tok with|some t=>if t.kind=0 then σ else σ.wrong 30|none=>σ.settle
def fil1 (σ:PS X):PS X:=need 4 kLC (take 1 (need 1 kNet σ)).2
def fil2 (σ:PS X):PS X:=need 4 kRC (props (fil1 σ)).2
def filR (σ:PS X):List VarD×List PrbD×PS X:=partL dec cnt (X.L.length+1) [] [] (fil2 σ)
def filD (σ:PS X):FilD×PS X:=(⟨(take 1 (need 1 kNet σ)).1,(props (fil1 σ)).1,(filR dec cnt σ).1,(filR dec cnt σ).2.1⟩,fin (filR dec cnt σ).2.2)
def numD (σ:PS X):List (List Trm)×PS X:=((row dec σ).1,fin (row dec σ).2)
end
end PS
open Go.Proofs
theorem skipA_le (s:ByteArray)(i:Nat)(h:i≤s.size):skipA s i≤s.size:=by
 rw [skipA]
 split
 ·rename_i hlt
  split
  ·omega
  ·split
   ·rename_i h2
    have h3:i+1 < s.size:=by
     rcases Nat.lt_or_ge (i+1) s.size with h9|h9
     ·exact h9
     ·have:=chr_end h9;rw [this] at h2;exact absurd h2.2.2 (by decide)
    omega
   ·exact skipA_le s (i+1) hlt
 ·split<;>omega
termination_by s.size - i
theorem skipF_le {s:ByteArray}(h:1≤s.size):skipF s≤s.size:=by
 unfold skipF
 split
 ·omega
 ·split
  ·omega
  ·rename_i h2
   have h3:1 < s.size:=by
    rcases Nat.lt_or_ge 1 s.size with h9|h9
    ·exact h9
    ·have:=chr_end h9;rw [this] at h2;exact absurd (.inr ⟨by decide,by decide⟩) h2
   exact skipA_le s 2 (by omega)
theorem quoF_le (s:ByteArray)(i:Nat)(out:ByteArray)(h:(quoF s i out).2.2=true):i < (quoF s i out).1∧(quoF s i out).1≤s.size:=by
 rw [quoF] at h ⊢
 split
 ·rename_i hlt
  rw [dif_pos hlt] at h
  split
  ·simp only;omega
  ·rename_i h1
   rw [if_neg h1] at h
   split
   ·rename_i h2;rw [if_pos h2] at h;cases h
   ·rename_i h2
    rw [if_neg h2] at h
    split
    ·rename_i h3
     rw [if_pos h3] at h
     split
     ·rename_i h4;rw [if_pos h4] at h;cases h
     ·rename_i h4
      rw [if_neg h4] at h
      have:=quoF_le s (i+2) _ h
      omega
    ·rename_i h3
     rw [if_neg h3] at h
     have:=quoF_le s (i+1) _ h
     omega
 ·rename_i hlt
  rw [dif_neg hlt] at h;cases h
termination_by s.size - i
theorem numA_pos {s:ByteArray}(h:isDig (chr s 0)=true)(h1:1≤s.size):0 < numA s:=by
 have:=runF_yes h1 h
 unfold numA
 split<;>omega
theorem numF_pos {s:ByteArray}(h:isDig (chr s 0)=true)(h1:1≤s.size):0 < numF s:=by
 have:=numA_pos h h1
 unfold numF
 split
 ·unfold numK;split<;>omega
 ·exact this
theorem takeF_prog {s:ByteArray}(h1:1≤s.size)(hc:(takeF s).code=0):0 < (takeF s).n∧(takeF s).n≤s.size:=by
 have hsk:=skipF_le h1
 have hnF:=numF_le (s:=s)
 have hr0:=runF_le (p:=isWrd) (s:=s) (i:=0) (Nat.zero_le _)
 unfold takeF at hc ⊢
 split
 ·rename_i c;rw [if_pos c] at hc;cases hc
 ·rename_i c;rw [if_neg c] at hc
  split
  ·simp only;omega
  ·rename_i c2;rw [if_neg c2] at hc
   split
   ·rename_i c3;rw [if_pos c3] at hc
    have:=runF_yes (p:=isWrd) h1 (by unfold isWrd;rw [c3];rfl)
    split
    ·rename_i c4;rw [if_pos c4] at hc;cases hc
    ·simp only;omega
   ·rename_i c3;rw [if_neg c3] at hc
    split
    ·rename_i c4;rw [if_pos c4] at hc
     have:=numF_pos c4 h1
     split
     ·rename_i c5;rw [if_pos c5] at hc;cases hc
     ·simp only;omega
    ·rename_i c4;rw [if_neg c4] at hc
     split
     ·rename_i c5;rw [if_pos c5] at hc
      split
      ·rename_i c6
       have:=quoF_le s 1 ⟨#[]⟩ c6
       simp only;omega
      ·rename_i c6;rw [if_neg c6] at hc;cases hc
     ·rename_i c5;rw [if_neg c5] at hc
      split
      ·simp only;omega
      ·rename_i c6;rw [if_neg c6] at hc;cases hc
def allF (s : ByteArray) (i : Nat) : List Tok × Option Flt :=
  if h : i < s.size then
    if (takeF (s.extract i s.size)).code ≠ 0 then ([], some ⟨(takeF (s.extract i s.size)).code, (placeF s i).1, (placeF s i).2, (takeF (s.extract i s.size)).word⟩)
    else if hn : 0 < (takeF (s.extract i s.size)).n then
      (if (takeF (s.extract i s.size)).kind ≠ 0 then (⟨(takeF (s.extract i s.size)).kind, (takeF (s.extract i s.size)).text, (placeF s i).1, (placeF s i).2⟩ :: (allF s (i + (takeF (s.extract i s.size)).n)).1, (allF s (i + (takeF (s.extract i s.size)).n)).2)
       else allF s (i + (takeF (s.extract i s.size)).n))
    else ([], none)
  else ([⟨0, eS, (placeF s s.size).1, (placeF s s.size).2⟩], none)
termination_by s.size - i
theorem rest_len {s:ByteArray}{i:Nat}(h:i≤s.size):(s.extract i s.size).size=s.size - i:=by
 rw [ByteArray.size_extract];omega
theorem allF_fine (s:ByteArray)(i:Nat)(h:(allF s i).2=none):∃l t,(allF s i).1=l ++ [t]∧t.kind=0:=by
 rw [allF] at h ⊢
 split
 ·rename_i hlt
  rw [dif_pos hlt] at h
  split
  ·rename_i hc;rw [if_pos hc] at h;cases h
  ·rename_i hc
   rw [if_neg hc] at h
   have hp:=takeF_prog (s:=s.extract i s.size) (by rw [rest_len (by omega)];omega) (Decidable.not_not.1 hc)
   split
   ·rename_i hn
    rw [dif_pos hn] at h
    split
    ·rename_i hk
     rw [if_pos hk] at h
     obtain⟨l,t,e,ht⟩:=allF_fine s (i+(takeF (s.extract i s.size)).n) h
     exact⟨_ :: l,t,by simp only;rw [e];rfl,ht⟩
    ·rename_i hk
     rw [if_neg hk] at h
     exact allF_fine s (i+(takeF (s.extract i s.size)).n) h
   ·rename_i hn;exact absurd hp.1 hn
 ·exact⟨[],_,rfl,rfl⟩
termination_by s.size - i
theorem allF_cod (s:ByteArray)(i:Nat)(f:Flt)(h:(allF s i).2=some f):f.code≠0:=by
 rw [allF] at h
 split at h
 ·split at h
  ·rename_i hc
   cases h
   intro h9
   have h8:((takeF (s.extract i s.size)).code:Int)=0:=h9
   omega
  ·split at h
   ·split at h
    ·exact allF_cod s _ f h
    ·exact allF_cod s _ f h
   ·cases h
 ·cases h
termination_by s.size - i
def txt (s:ByteArray):Txt:=⟨(allF s 0).1,(allF s 0).2,allF_fine s 0,allF_cod s 0⟩
def tTok (t:Tok):T:=tTk t.kind t.text t.line t.col
def vTok (t:Tok):V:=.agg [.con (.int .i8 t.kind),.con (.string t.text),.con (.int .i64 t.line),.con (.int .i64 t.col)]
def tToks (l:List Tok):T:=.sl (l.map tTok)
def foC : Option Flt→Int|none=>0|some f=>f.code
def foL : Option Flt→Int|none=>0|some f=>f.line
def foK : Option Flt→Int|none=>0|some f=>f.col
def foW : Option Flt→ByteArray|none=>eS|some f=>f.word
variable {W : Txt}
def rdV (W:Txt)(a:Nat)(b:Option Flt)(n:Nat):V:=
 .agg [.ro true (tToks W.L),.con (.int .i64 a),.con (.int .i64 (foC W.late)),.con (.int .i64 (foL W.late)),.con (.int .i64 (foK W.late)),.con (.string (foW W.late)),
  .con (.int .i64 (foC b)),.con (.int .i64 (foL b)),.con (.int .i64 (foK b)),.con (.string (foW b)),.con (.int .i64 n)]
theorem bmC_self {oh oh1:OH}{v:V}(h:∃x,v=.con x∨∃f t,v=.ro f t):BmC oh oh1 v v:=by
 obtain⟨x,rfl|⟨f,t,rfl⟩⟩:=h
 ·exact .con _
 ·exact .ro _ _
theorem one_vs {v:V}{oh:OH}(h:v.cl oh):∀u ∈ [v],u.cl oh:=by
 intro u hu
 obtain rfl:=List.mem_singleton.1 hu
 exact h
theorem cons_vs {v:V}{l:List V}{oh:OH}(h:v.cl oh)(k:∀u ∈ l,u.cl oh):∀u ∈ v :: l,u.cl oh:=by
 intro u hu
 rcases List.mem_cons.1 hu with rfl|hu
 ·exact h
 ·exact k u hu
theorem bm_aggC {oh oh1:OH}(l:List Value):BmA oh oh1 (.agg (l.map .con)) (.agg (l.map .con)):=by
 refine⟨rfl,fun j x y hx hy=>?_⟩
 rw [hx] at hy
 obtain rfl:x=y:=by simpa using hy
 rw [List.getElem?_map] at hx
 obtain⟨a,-,rfl⟩:=Option.map_eq_some_iff.1 hx
 exact .con a
theorem at_tk {l:List Tok}{i:Nat}{t:Tok}(h:l[i]?=some t):(l.map tTok)[i]?=some (tTok t):=by
 rw [List.getElem?_map,h];rfl
variable {W : Txt}
theorem late_some {σ:PS W}(h:W.L[σ.at_]?=none):foC W.late≠0:=by
 cases hl:W.late with
 |none=>
  have h1:=σ.inv hl
  rw [List.getElem?_eq_getElem h1] at h
  cases h
 |some f=>exact W.cod f hl
theorem two_vs {a b:V}{oh:OH}(h:a.cl oh)(k:b.cl oh):∀u ∈ [a,b],u.cl oh:=cons_vs h (one_vs k)
theorem three_vs {a b c:V}{oh:OH}(h:a.cl oh)(k:b.cl oh)(m:c.cl oh):∀u ∈ [a,b,c],u.cl oh:=cons_vs h (two_vs k m)
theorem bq_loop (b:ByteArray):∀(k i:Nat) (r:List UInt8),b.size - i=k→ByteArray.toList.loop b i r=r.reverse ++ b.data.toList.drop i:=by
 intro k
 induction k with
 |zero=>
  intro i r h
  rw [ByteArray.toList.loop,if_neg (by omega),List.drop_eq_nil_of_le (by show b.data.toList.length≤i;rw [Array.length_toList];exact Nat.le_of_sub_eq_zero h),List.append_nil]
 |succ k ih=>
  intro i r h
  have hlt:i < b.size:=by omega
  rw [ByteArray.toList.loop,if_pos hlt,ih (i+1) _ (by omega)]
  have hl:i < b.data.toList.length:=by rw [Array.length_toList];exact hlt
  rw [List.drop_eq_getElem_cons hl]
  have:b.get! i=b.data.toList[i]:=by
   show b.data[i]! = _
   rw [Array.getElem_toList]
   exact getElem!_pos b.data i hlt
  rw [this];simp
theorem bq_data (b:ByteArray):b.toList=b.data.toList:=by
 unfold ByteArray.toList
 rw [bq_loop b _ 0 [] rfl];simp
theorem bq_inj {a b:ByteArray}(h:a.toList=b.toList):a=b:=by
 rw [bq_data,bq_data] at h
 exact ByteArray.ext (Array.toList_inj.1 h)
theorem isB_eq {σ:PS W}{t:Tok}(ht:σ.tok=some t)(k:Int)(w:ByteArray):(decide (t.kind=k) && (t.text.toList == w.toList))=σ.isB k w:=by
 unfold PS.isB
 rw [ht,Bool.eq_iff_iff]
 simp only [Bool.and_eq_true,decide_eq_true_eq,beq_iff_eq]
 exact⟨fun h=>⟨h.1,bq_inj h.2⟩,fun h=>⟨h.1,by rw [h.2]⟩⟩
theorem isB_none {σ:PS W}(ht:σ.tok=none)(k:Int)(w:ByteArray):σ.isB k w=false:=by
 unfold PS.isB;rw [ht]
theorem settle_wrong (σ:PS W)(c:Int)(hc:c≠0):σ.settle.wrong c hc=σ.wrong c hc:=by
 cases ht:σ.tok with
 |some t=>rw [PS.settle_some ht]
 |none=>
  have h1:σ.settle.wrong c hc=σ.settle:=by
   have:=PS.settle_bad ht
   unfold PS.wrong
   cases hb:σ.settle.bad with
   |none=>exact absurd hb this
   |some f=>rfl
  rw [h1]
  unfold PS.settle PS.wrong
  unfold PS.tok at ht
  cases hb:σ.bad with
  |some f=>rfl
  |none=>
   rw [hb] at ht
   have ht2:W.L[σ.at_]?=none:=ht
   simp only [ht2]
theorem wrong_none {σ:PS W}(ht:σ.tok=none)(c:Int)(hc:c≠0):σ.wrong c hc=σ.settle:=by
 rw [← settle_wrong]
 have:=PS.settle_bad ht
 cases hb:σ.settle.bad with
 |none=>exact absurd hb this
 |some f=>unfold PS.wrong;rw [hb]
variable {W : Txt}
theorem one_flat {v:V}(h:v.flat):∀e ∈ [v],e.flat:=by
 intro e he
 obtain rfl:=List.mem_singleton.1 he
 exact h
def vS (w:ByteArray):V:=.con (.string w)
def tSs (l:List ByteArray):T:=.sl (l.map tS9)
theorem vS_flat (l:List ByteArray):∀e ∈ l.map vS,e.flat:=by
 intro e he
 obtain⟨w,-,rfl⟩:=List.mem_map.1 he
 trivial
theorem vS_cl (l:List ByteArray)(oh:OH):∀e ∈ l.map vS,e.cl oh:=fun e he=>(vS_flat l e he).cl oh
theorem fd_vS {oh oh1:OH}{id ver len:Nat}{l:List ByteArray}{el:List V}(ho:oget oh id=some ⟨1,el,ver,true⟩)(hel:el=l.map vS)(hd:oget oh1 id=none)(hn:l.length=len):Fd1 oh oh1 false (.own id ver 0 len) (tSs l):=by
 subst hel
 refine fd_map (F:=vS) (G:=tS9) ho hd hn (fun a _=>rfl) (fun a _ j v u h1 h2=>?_)
 cases j with
 |zero=>
  obtain rfl:V.con (.string a)=v:=by simpa [vS,V.cells] using h1
  obtain rfl:T.con (.string a)=u:=by simpa [tS9,T.cells] using h2
  exact Fd1.con _
 |succ j=>simp [vS,V.cells] at h1
theorem take_app {α β:Type}{F:α→β}{l:List α}{n:Nat}{a:α}(h:n=l.length):(l.map F).take n ++ [F a]=(l ++ [a]).map F:=by
 rw [List.take_of_length_le (by rw [List.length_map];omega),List.map_append];rfl
end Go.Ev
