import Derived.Test.YtppbdmkbhalmpaaGreatDoorLah
set_option linter.all false
set_option maxHeartbeats 4000000
set_option maxRecDepth 10000
namespace Go.Ev
namespace PS
section
variable {X Z : Txt} {k : Nat}
def Src (σ:PS X):Prop:=∀f,σ.bad=some f→(X.L[σ.at_]?=none∧X.late=some f)∨∃t c,X.L[σ.at_]?=some t∧f=⟨c,t.line,t.col,t.text⟩∧(c=30∨(c=31∧t.kind=4))
theorem adv_bad (σ:PS X):σ.adv.bad=σ.bad:=by unfold adv;split<;>rfl
theorem Src.adv {σ:PS X}{t:Tok}(ht:σ.tok=some t):Src σ.adv:=fun f h=>by
 rw [adv_bad,(tok_at ht).1] at h;cases h
theorem Src.advB {σ:PS X}{q:Int}{w:ByteArray}(h:σ.isB q w=true):Src σ.adv:=by
 obtain⟨t,ht,-⟩:=isB_tok h
 exact Src.adv ht
theorem Src.settle {σ:PS X}(h:Src σ):Src σ.settle:=by
 unfold PS.settle
 split
 ·exact h
 ·split
  ·exact h
  ·rename_i hl
   exact fun f hf=>.inl ⟨hl,hf⟩
theorem Src.wrong {σ:PS X}(h:Src σ){c:Int}(hc:c≠0)(h2:c=30∨(c=31∧∀t,X.L[σ.at_]?=some t→t.kind=4)):Src (σ.wrong c hc):=by
 unfold PS.wrong
 split
 ·exact h
 ·split
  ·rename_i t hl
   intro f hf
   cases hf
   exact .inr ⟨t,c,hl,rfl,h2.imp_right fun h=>⟨h.1,h.2 t hl⟩⟩
  ·rename_i hl
   exact fun f hf=>.inl ⟨hl,hf⟩
theorem Src.w30 {σ:PS X}(h:Src σ)(hc:(30:Int)≠0):Src (σ.wrong 30 hc):=h.wrong hc (.inl rfl)
theorem Src.need {σ:PS X}(h:Src σ)(q:Int)(w:ByteArray):Src (need q w σ):=by
 unfold PS.need;split
 ·rename_i hb;exact Src.advB hb
 ·exact h.w30 (by decide)
theorem Src.take {σ:PS X}(h:Src σ)(q:Int):Src (take q σ).2:=by
 unfold PS.take;split
 ·rename_i t ht
  split
  ·exact Src.adv ht
  ·exact h.w30 (by decide)
 ·exact h.settle
theorem Src.namesL : ∀(n:Nat) (l:List ByteArray) {σ:PS X},Src σ→Src (namesL n l σ).2
 |0,_,_,h=>h
 |n+1,l,σ,h=>by
  rw [PS.namesL];split
  ·rename_i hb;exact Src.namesL n _ (Src.advB hb)
  ·exact(h.take 1).settle
theorem Src.names {σ:PS X}(h:Src σ):Src (names σ).2:=by
 unfold PS.names;split
 ·exact h
 ·exact Src.namesL _ _ h
theorem Src.propsL : ∀(n:Nat) (l:List ByteArray) {σ:PS X},Src σ→Src (propsL n l σ).2
 |0,_,_,h=>h
 |n+1,l,σ,h=>by
  rw [PS.propsL];split
  ·rename_i hb;exact Src.propsL n _ (((Src.advB hb).take 3).need 4 kSemi)
  ·exact h.settle
theorem Src.props {σ:PS X}(h:Src σ):Src (props σ).2:=Src.propsL _ _ h
def SrcR (f:Rd X):Prop:=∀σ,Src σ→Src (f σ).2
theorem Src.chainL {f:Rd X}(hf:SrcR f){a b:ByteArray}{ka kb:Int}:∀(n:Nat) (l:List Trm) {σ:PS X},Src σ→Src (chainL f a b ka kb n l σ).2
 |0,_,_,h=>h
 |n+1,l,σ,h=>by
  rw [PS.chainL];split
  ·rename_i hb;exact Src.chainL hf n _ (hf _ (Src.advB hb))
  ·split
   ·rename_i hb;exact Src.chainL hf n _ (hf _ (Src.advB hb))
   ·exact h.settle
theorem SrcR.prod {f:Rd X}(hf:SrcR f):SrcR (prod f):=fun σ h=>Src.chainL hf _ _ (hf σ h)
theorem SrcR.sum {f:Rd X}(hf:SrcR f):SrcR (sum f):=fun σ h=>Src.chainL hf.prod _ _ (hf.prod σ h)
theorem Src.setO {σ:PS X}(h:Src σ)(n:Nat):Src (σ.setO n):=h
variable (dec : ByteArray → Int × Nat)
theorem src_un : ∀d,SrcR (X:=X) (un dec d)
 |0=>fun _ h=>h
 |d+1=>fun σ h=>by
  have hd:=src_un d
  rw [un]
  split
  ·rename_i t ht
   have hl:=(tok_at ht).2.1
   split
   ·exact Src.adv ht
   ·split
    ·rename_i hk
     split
     ·exact h.wrong (by decide) (.inr ⟨rfl,fun u hu=>by rw [hl] at hu;cases hu;exact hk.1⟩)
     ·exact(hd _ ((Src.adv ht).setO _)).setO _
    ·split
     ·rename_i hk
      split
      ·exact h.wrong (by decide) (.inr ⟨rfl,fun u hu=>by rw [hl] at hu;cases hu;exact hk.1⟩)
      ·exact((hd.sum _ ((Src.adv ht).setO _)).need 4 kShut).setO _
     ·exact h.w30 (by decide)
  ·exact h.settle
theorem src_sum0 : SrcR (X:=X) (sum0 dec):=fun σ h=>(src_un dec _).sum σ h
theorem Src.rowL : ∀(n:Nat) (l:List (List Trm)) {σ:PS X},Src σ→Src (rowL dec n l σ).2
 |0,_,_,h=>h
 |n+1,l,σ,h=>by
  rw [PS.rowL];split
  ·rename_i hb;exact Src.rowL n _ (Src.advB hb)
  ·exact(src_sum0 dec σ h).settle
theorem Src.row {σ:PS X}(h:Src σ):Src (row dec σ).2:=by
 unfold PS.row;split
 ·exact h
 ·exact Src.rowL dec _ _ h
variable (cnt : ByteArray → Option Nat)
theorem Src.count {σ:PS X}(h:Src σ):Src (count cnt σ).2:=by
 unfold PS.count;split
 ·rename_i t ht
  split
  ·split
   ·exact Src.adv ht
   ·exact h.w30 (by decide)
  ·exact h.w30 (by decide)
 ·exact h.settle
theorem Src.var1 {σ:PS X}(h:Src σ):Src (var1 σ):=((((h.take 1).need _ _).need _ _).need _ _).need _ _
theorem Src.var2 {σ:PS X}(h:Src σ):Src (var2 cnt σ):=((h.var1.count cnt).need _ _).need _ _
theorem Src.var3 {σ:PS X}(h:Src σ):Src (var3 cnt σ):=((h.var2 cnt).names.need _ _).need _ _
theorem Src.varD {σ:PS X}(h:Src σ):Src (varD cnt σ).2:=(h.var3 cnt).props.need _ _
theorem Src.ent1 {σ:PS X}(h:Src σ):Src (ent1 σ).2.2:=by
 unfold PS.ent1
 split
 ·rename_i hb;exact Src.advB hb
 ·split
  ·rename_i hb;exact Src.advB hb
  ·exact((h.need _ _).names).need _ _
theorem Src.entD {σ:PS X}(h:Src σ):Src (entD dec σ).2:=(h.ent1.row dec).need _ _
theorem Src.prbL : ∀(n:Nat) (es:List EntD) (ps:List ByteArray) {σ:PS X},Src σ→Src (prbL dec n es ps σ).2.2
 |0,_,_,_,h=>h
 |n+1,es,ps,σ,h=>by
  rw [PS.prbL];split
  ·exact h
  ·split
   ·rename_i hb;exact Src.advB hb
   ·split
    ·exact Src.prbL n _ _ h.props
    ·exact Src.prbL n _ _ (h.settle.entD dec)
theorem Src.prb1 {σ:PS X}(h:Src σ):Src (prb1 σ).2:=by
 unfold PS.prb1;split
 ·rename_i hb;exact(Src.advB hb).names
 ·exact h.settle
theorem Src.prb2 {σ:PS X}(h:Src σ):Src (prb2 σ):=((((h.need _ _).take 1).prb1).need _ _).need _ _
theorem Src.prbD {σ:PS X}(h:Src σ):Src (prbD dec σ).2:=Src.prbL dec _ _ _ h.prb2
theorem Src.partL : ∀(n:Nat) (vs:List VarD) (ps:List PrbD) {σ:PS X},Src σ→Src (partL dec cnt n vs ps σ).2.2
 |0,_,_,_,h=>h
 |n+1,vs,ps,σ,h=>by
  rw [PS.partL];split
  ·rename_i hb;exact Src.partL n _ _ ((Src.advB hb).varD cnt)
  ·split
   ·rename_i hb;exact Src.partL n _ _ ((Src.advB hb).prbD dec)
   ·exact h.settle
theorem Src.fin {σ:PS X}(h:Src σ):Src (fin σ):=by
 unfold PS.fin;split
 ·split
  ·exact h
  ·exact h.w30 (by decide)
 ·exact h.settle
theorem Src.filD {σ:PS X}(h:Src σ):Src (filD dec cnt σ).2:=(Src.partL dec cnt _ _ _ ((((h.need _ _).take 1).need _ _).props.need _ _)).fin
theorem Src.numD {σ:PS X}(h:Src σ):Src (numD dec σ).2:=(h.row dec).fin
end
structure Sim {X Z:Txt}(σ:PS X)(τ:PS Z):Prop where
 at_:σ.at_=τ.at_
 bad:σ.bad=τ.bad
 opn:σ.opn=τ.opn
structure Agr (X Z:Txt)(k:Nat):Prop where
 eq:∀i,i≤k→Z.L[i]?=X.L[i]?
 lt:k < X.L.length
structure G2 {X Z:Txt}(k:Nat)(f:PS X→PS X)(g:PS Z→PS Z):Prop where
 mono:∀σ,σ.at_≤(f σ).at_
 sim:∀σ τ,Sim σ τ→(f σ).at_≤k→Sim (f σ) (g τ)
section
variable {X Z : Txt} {k : Nat}
theorem G2.comp {f f':PS X→PS X}{g g':PS Z→PS Z}(h:G2 k f g)(h':G2 k f' g'):G2 k (fun σ=>f' (f σ)) (fun τ=>g' (g τ)):=
 ⟨fun σ=>Nat.le_trans (h.mono σ) (h'.mono _),fun σ τ hs hk=>h'.sim _ _ (h.sim _ _ hs (Nat.le_trans (h'.mono _) hk)) hk⟩
theorem settle_id {σ:PS X}(h:σ.at_ < X.L.length):σ.settle=σ:=by
 unfold settle;split
 ·rfl
 ·rw [List.getElem?_eq_getElem h]
variable (hA : Agr X Z k)
include hA
theorem Agr.lt' : k < Z.L.length:=by
 have h:=hA.eq k (Nat.le_refl _)
 rw [List.getElem?_eq_getElem hA.lt] at h
 exact(List.getElem?_eq_some_iff.1 h).1
theorem Sim.tok {σ:PS X}{τ:PS Z}(h:Sim σ τ)(hk:σ.at_≤k):τ.tok=σ.tok:=by
 unfold PS.tok
 rw [← h.bad,← h.at_,hA.eq _ hk]
theorem Sim.isB {σ:PS X}{τ:PS Z}(h:Sim σ τ)(hk:σ.at_≤k)(q:Int)(w:ByteArray):τ.isB q w=σ.isB q w:=by
 unfold PS.isB
 rw [h.tok hA hk]
theorem Sim.settle {σ:PS X}{τ:PS Z}(h:Sim σ τ)(hk:σ.at_≤k):Sim σ.settle τ.settle:=by
 have h1:=hA.lt
 have h2:=hA.lt'
 rw [settle_id (by omega:σ.at_ < X.L.length),settle_id (by have:=h.at_;omega:τ.at_ < Z.L.length)]
 exact h
theorem Sim.wrong {σ:PS X}{τ:PS Z}(h:Sim σ τ)(hk:σ.at_≤k)(c:Int)(hc:c≠0):Sim (σ.wrong c hc) (τ.wrong c hc):=by
 have h1:=hA.lt
 obtain⟨t,e1⟩:∃t,X.L[σ.at_]?=some t:=⟨_,List.getElem?_eq_getElem (by omega:σ.at_ < X.L.length)⟩
 have e2:=hA.eq _ hk
 rw [e1,h.at_] at e2
 have hb:=h.bad
 unfold PS.wrong
 cases hq:σ.bad with
 |some f=>
  rw [hq] at hb
  rw [← hb]
  exact h
 |none=>
  rw [hq] at hb
  rw [← hb]
  simp only
  rw [e1,e2]
  exact⟨h.at_,rfl,h.opn⟩
theorem Sim.adv {σ:PS X}{τ:PS Z}(h:Sim σ τ)(hk:σ.at_≤k){t:Tok}(ht:σ.tok=some t)(h0:t.kind≠0):Sim σ.adv τ.adv:=by
 have ht':=h.tok hA hk
 rw [ht] at ht'
 obtain⟨a1,a2,a3⟩:=adv_at ht h0
 obtain⟨b1,b2,b3⟩:=adv_at ht' h0
 exact⟨by rw [a1,b1,h.at_],by rw [a2,b2],by rw [a3,b3,h.opn]⟩
theorem Sim.advB {σ:PS X}{τ:PS Z}(h:Sim σ τ)(hk:σ.at_≤k){q:Int}{w:ByteArray}(hb:σ.isB q w=true)(h0:q≠0):Sim σ.adv τ.adv:=by
 obtain⟨t,ht,h1,-⟩:=isB_tok hb
 exact h.adv hA hk ht (by rw [h1];exact h0)
theorem G2.need (q:Int)(w:ByteArray)(h0:q≠0:=by decide):G2 (X:=X) (Z:=Z) k (need q w) (need q w):=by
 refine⟨fun σ=>(need_fol q w σ).le,fun σ τ h hk=>?_⟩
 have hk0:σ.at_≤k:=Nat.le_trans (need_fol q w σ).le hk
 unfold PS.need
 rw [h.isB hA hk0]
 cases hb:σ.isB q w with
 |true=>rw [if_pos rfl,if_pos rfl];exact h.advB hA hk0 hb h0
 |false=>rw [if_neg Bool.false_ne_true,if_neg Bool.false_ne_true];exact h.wrong hA hk0 _ (by decide)
theorem G2.take (q:Int)(h0:q≠0:=by decide):G2 (X:=X) (Z:=Z) k (fun σ=>(take q σ).2) (fun τ=>(take q τ).2):=by
 refine⟨fun σ=>(take_fol q σ).le,fun σ τ h hk=>?_⟩
 have hk0:σ.at_≤k:=Nat.le_trans (take_fol q σ).le hk
 unfold PS.take
 rw [h.tok hA hk0]
 cases ht:σ.tok with
 |none=>exact h.settle hA hk0
 |some t=>
  simp only
  by_cases hq:t.kind=q
  ·rw [if_pos hq,if_pos hq];exact h.adv hA hk0 ht (by rw [hq];exact h0)
  ·rw [if_neg hq,if_neg hq];exact h.wrong hA hk0 _ (by decide)
theorem sim_namesL : ∀(n m:Nat) (l l':List ByteArray) (σ:PS X) (τ:PS Z),Sim σ τ→k+2≤n+σ.at_→k+2≤m+σ.at_→(namesL n l σ).2.at_≤k→Sim (namesL n l σ).2 (namesL m l' τ).2
 |0,_,_,_,σ,_,_,h1,_,hk=>absurd hk (by show ¬σ.at_≤k;omega)
 |n+1,0,l,_,σ,_,_,_,h2,hk=>absurd (Nat.le_trans (namesL_fol (n+1) l σ).le hk) (by omega)
 |n+1,m+1,l,l',σ,τ,h,h1,h2,hk=>by
  rw [PS.namesL] at hk ⊢
  rw [PS.namesL]
  have f1:=(take_fol 1 σ).le
  by_cases hb:(take 1 σ).2.isB 4 kComma=true
  ·rw [if_pos hb] at hk ⊢
   have f2:=(adv_fol1 hb (by decide)).le
   have f3:=(namesL_fol n (l ++ [(take 1 σ).1]) (take 1 σ).2.adv).le
   have s1:=(G2.take hA 1).sim σ τ h (by omega)
   rw [s1.isB hA (by omega),if_pos hb]
   exact sim_namesL n m _ _ _ _ (s1.advB hA (by omega) hb (by decide)) (by omega) (by omega) hk
  ·rw [if_neg hb] at hk ⊢
   have f2:=(settle_fol (take 1 σ).2).le
   have hk2:(take 1 σ).2.at_≤k:=Nat.le_trans f2 hk
   have s1:=(G2.take hA 1).sim σ τ h hk2
   rw [s1.isB hA hk2,if_neg hb]
   exact s1.settle hA hk2
theorem G2.names : G2 (X:=X) (Z:=Z) k (fun σ=>(names σ).2) (fun τ=>(names τ).2):=by
 refine⟨fun σ=>(names_fol σ).le,fun σ τ h hk=>?_⟩
 have h1:=hA.lt
 have h2:=hA.lt'
 have hb:=h.bad
 unfold PS.names at hk ⊢
 cases hq:σ.bad with
 |some f=>
  rw [hq] at hb
  rw [← hb]
  exact h
 |none=>
  rw [hq] at hb hk
  rw [← hb]
  exact sim_namesL hA _ _ _ _ σ τ h (by omega) (by omega) hk
theorem sim_propsL : ∀(n m:Nat) (l l':List ByteArray) (σ:PS X) (τ:PS Z),Sim σ τ→k+2≤n+σ.at_→k+2≤m+σ.at_→(propsL n l σ).2.at_≤k→Sim (propsL n l σ).2 (propsL m l' τ).2
 |0,_,_,_,σ,_,_,h1,_,hk=>absurd hk (by show ¬σ.at_≤k;omega)
 |n+1,0,l,_,σ,_,_,_,h2,hk=>absurd (Nat.le_trans (propsL_fol (n+1) l σ).le hk) (by omega)
 |n+1,m+1,l,l',σ,τ,h,h1,h2,hk=>by
  have hk0:σ.at_≤k:=Nat.le_trans (propsL_fol (n+1) l σ).le hk
  rw [PS.propsL] at hk ⊢
  rw [PS.propsL,h.isB hA hk0]
  by_cases hb:σ.isB 1 kProp=true
  ·rw [if_pos hb] at hk ⊢
   rw [if_pos hb]
   have f1:=(adv_fol1 hb (by decide)).le
   have f2:=(take_fol 3 σ.adv).le
   have f3:=(need_fol 4 kSemi (take 3 σ.adv).2).le
   have f4:=(propsL_fol n (l ++ [(take 3 σ.adv).1]) (PS.need 4 kSemi (take 3 σ.adv).2)).le
   have s1:=((G2.take hA 3).comp (G2.need hA 4 kSemi)).sim _ _ (h.advB hA hk0 hb (by decide)) (Nat.le_trans f4 hk)
   exact sim_propsL n m _ _ _ _ s1 (by omega) (by omega) hk
  ·rw [if_neg hb] at hk ⊢
   rw [if_neg hb]
   exact h.settle hA hk0
theorem G2.props : G2 (X:=X) (Z:=Z) k (fun σ=>(props σ).2) (fun τ=>(props τ).2):=
 ⟨fun σ=>(props_fol σ).le,fun σ τ h hk=>sim_propsL hA _ _ _ _ σ τ h (by have:=hA.lt;omega) (by have:=hA.lt';omega) hk⟩
theorem sim_chainL {f:Rd X}{g:Rd Z}(hf:Good f)(hs:G2 k (fun σ=>(f σ).2) (fun τ=>(g τ).2)){a b:ByteArray}{ka kb:Int}:∀(n m:Nat) (l l':List Trm) (σ:PS X) (τ:PS Z),Sim σ τ→k+2≤n+σ.at_→k+2≤m+σ.at_→(chainL f a b ka kb n l σ).2.at_≤k→Sim (chainL f a b ka kb n l σ).2 (chainL g a b ka kb m l' τ).2
 |0,_,_,_,σ,_,_,h1,_,hk=>absurd hk (by show ¬σ.at_≤k;omega)
 |n+1,0,l,_,σ,_,_,_,h2,hk=>absurd (Nat.le_trans (chainL_good hf (n+1) l σ).1.le hk) (by omega)
 |n+1,m+1,l,l',σ,τ,h,h1,h2,hk=>by
  have hk0:σ.at_≤k:=Nat.le_trans (chainL_good hf (n+1) l σ).1.le hk
  rw [PS.chainL] at hk ⊢
  rw [PS.chainL,h.isB hA hk0,h.isB hA hk0]
  have key:∀w c,σ.isB 4 w=true→(chainL f a b ka kb n (l ++ (f σ.adv).1 ++ [⟨c,0,0⟩]) (f σ.adv).2).2.at_≤k→Sim (chainL f a b ka kb n (l ++ (f σ.adv).1 ++ [⟨c,0,0⟩]) (f σ.adv).2).2 (chainL g a b ka kb m (l' ++ (g τ.adv).1 ++ [⟨c,0,0⟩]) (g τ.adv).2).2:=by
   intro w c hb hk
   have f1:=(adv_fol1 hb (by decide)).le
   have f2:=(hf σ.adv).1.le
   have f3:=(chainL_good hf (a:=a) (b:=b) (ka:=ka) (kb:=kb) n (l ++ (f σ.adv).1 ++ [⟨c,0,0⟩]) (f σ.adv).2).1.le
   exact sim_chainL hf hs n m _ _ _ _ (hs.sim _ _ (h.advB hA hk0 hb (by decide)) (Nat.le_trans f3 hk)) (by omega) (by omega) hk
  by_cases hb:σ.isB 4 a=true
  ·rw [if_pos hb] at hk ⊢
   rw [if_pos hb]
   exact key a ka hb hk
  ·rw [if_neg hb] at hk ⊢
   rw [if_neg hb]
   by_cases hb2:σ.isB 4 b=true
   ·rw [if_pos hb2] at hk ⊢
    rw [if_pos hb2]
    exact key b kb hb2 hk
   ·rw [if_neg hb2] at hk ⊢
    rw [if_neg hb2]
    exact h.settle hA hk0
theorem G2.chain {f:Rd X}{g:Rd Z}(hf:Good f)(hs:G2 k (fun σ=>(f σ).2) (fun τ=>(g τ).2))(a b:ByteArray)(ka kb:Int) :
  G2 k (fun σ=>(chainL f a b ka kb (X.L.length+1) (f σ).1 (f σ).2).2) (fun τ=>(chainL g a b ka kb (Z.L.length+1) (g τ).1 (g τ).2).2):=by
 refine⟨fun σ=>Nat.le_trans (hf σ).1.le (chainL_good hf _ _ _).1.le,fun σ τ h hk=>?_⟩
 have f3:=(chainL_good hf (a:=a) (b:=b) (ka:=ka) (kb:=kb) (X.L.length+1) (f σ).1 (f σ).2).1.le
 have h1:=hA.lt
 have h2:=hA.lt'
 exact sim_chainL hA hf hs _ _ _ _ _ _ (hs.sim σ τ h (Nat.le_trans f3 hk)) (by omega) (by omega) hk
theorem G2.prod {f:Rd X}{g:Rd Z}(hf:Good f)(hs:G2 k (fun σ=>(f σ).2) (fun τ=>(g τ).2)):G2 k (fun σ=>(prod f σ).2) (fun τ=>(prod g τ).2):=G2.chain hA hf hs _ _ _ _
theorem G2.sum {f:Rd X}{g:Rd Z}(hf:Good f)(hs:G2 k (fun σ=>(f σ).2) (fun τ=>(g τ).2)):G2 k (fun σ=>(sum f σ).2) (fun τ=>(sum g τ).2):=G2.chain hA (prod_good hf) (G2.prod hA hf hs) _ _ _ _
variable (dec : ByteArray → Int × Nat)
theorem G2.un : ∀d,G2 (X:=X) (Z:=Z) k (fun σ=>(un dec d σ).2) (fun τ=>(un dec d τ).2)
 |0=>⟨fun _=>Nat.le_refl _,fun _ _ h _=>h⟩
 |d+1=>by
  have hd:=G2.un d
  refine⟨fun σ=>(un_good dec (d+1) σ).1.le,fun σ τ h hk=>?_⟩
  have hk0:σ.at_≤k:=Nat.le_trans (un_good dec (d+1) σ).1.le hk
  (try simp only at hk ⊢)
  rw [PS.un] at hk ⊢
  rw [PS.un,h.tok hA hk0]
  cases ht:σ.tok with
  |none=>exact h.settle hA hk0
  |some t=>
   rw [ht] at hk
   (try simp only at hk ⊢)
   have so:∀{σ':PS X} {τ':PS Z},Sim σ' τ'→∀n m,n=m→Sim (σ'.setO n) (τ'.setO m):=fun h n m e=>⟨h.at_,h.bad,e⟩
   by_cases c1:t.kind=2
   ·rw [if_pos c1,if_pos c1]
    exact h.adv hA hk0 ht (by rw [c1];decide)
   ·rw [if_neg c1] at hk ⊢
    rw [if_neg c1]
    by_cases c2:t.kind=4∧t.text=kMin
    ·rw [if_pos c2] at hk ⊢
     rw [if_pos c2,← h.opn]
     by_cases c3:64≤σ.opn
     ·rw [if_pos c3,if_pos c3]
      exact h.wrong hA hk0 _ (by decide)
     ·rw [if_neg c3] at hk ⊢
      rw [if_neg c3]
      exact so (hd.sim _ _ (so (h.adv hA hk0 ht (by rw [c2.1];decide)) _ _ rfl) hk) _ _ rfl
    ·rw [if_neg c2] at hk ⊢
     rw [if_neg c2]
     by_cases c4:t.kind=4∧t.text=kOpen
     ·rw [if_pos c4] at hk ⊢
      rw [if_pos c4,← h.opn]
      by_cases c3:64≤σ.opn
      ·rw [if_pos c3,if_pos c3]
       exact h.wrong hA hk0 _ (by decide)
      ·rw [if_neg c3] at hk ⊢
       rw [if_neg c3]
       exact so (((G2.sum hA (un_good dec d) hd).comp (G2.need hA 4 kShut)).sim _ _ (so (h.adv hA hk0 ht (by rw [c4.1];decide)) _ _ rfl) hk) _ _ rfl
     ·rw [if_neg c4,if_neg c4]
      exact h.wrong hA hk0 _ (by decide)
theorem G2.sum0 : G2 (X:=X) (Z:=Z) k (fun σ=>(sum0 dec σ).2) (fun τ=>(sum0 dec τ).2):=
 ⟨fun σ=>(sum0_good dec σ).1.le,fun σ τ h hk=>by
  unfold PS.sum0 at hk ⊢
  rw [← h.opn]
  exact(G2.sum hA (un_good dec _) (G2.un hA dec _)).sim σ τ h hk⟩
theorem sim_rowL : ∀(n m:Nat) (l l':List (List Trm)) (σ:PS X) (τ:PS Z),Sim σ τ→k+2≤n+σ.at_→k+2≤m+σ.at_→(rowL dec n l σ).2.at_≤k→Sim (rowL dec n l σ).2 (rowL dec m l' τ).2
 |0,_,_,_,σ,_,_,h1,_,hk=>absurd hk (by show ¬σ.at_≤k;omega)
 |n+1,0,l,_,σ,_,_,_,h2,hk=>absurd (Nat.le_trans (rowL_fol dec (n+1) l σ).le hk) (by omega)
 |n+1,m+1,l,l',σ,τ,h,h1,h2,hk=>by
  rw [PS.rowL] at hk ⊢
  rw [PS.rowL]
  have f1:=(sum0_good dec σ).1.le
  by_cases hb:(PS.sum0 dec σ).2.isB 4 kComma=true
  ·rw [if_pos hb] at hk ⊢
   have f2:=(adv_fol1 hb (by decide)).le
   have f3:=(rowL_fol dec n (l ++ [(PS.sum0 dec σ).1]) (PS.sum0 dec σ).2.adv).le
   have s1:=(G2.sum0 hA dec).sim σ τ h (by omega)
   (try simp only at s1)
   rw [s1.isB hA (by omega),if_pos hb]
   exact sim_rowL n m _ _ _ _ (s1.advB hA (by omega) hb (by decide)) (by omega) (by omega) hk
  ·rw [if_neg hb] at hk ⊢
   have f2:=(settle_fol (PS.sum0 dec σ).2).le
   have hk2:(PS.sum0 dec σ).2.at_≤k:=Nat.le_trans f2 hk
   have s1:=(G2.sum0 hA dec).sim σ τ h hk2
   (try simp only at s1)
   rw [s1.isB hA hk2,if_neg hb]
   exact s1.settle hA hk2
theorem G2.row : G2 (X:=X) (Z:=Z) k (fun σ=>(row dec σ).2) (fun τ=>(row dec τ).2):=by
 refine⟨fun σ=>(row_fol dec σ).le,fun σ τ h hk=>?_⟩
 have h1:=hA.lt
 have h2:=hA.lt'
 have hb:=h.bad
 unfold PS.row at hk ⊢
 cases hq:σ.bad with
 |some f=>
  rw [hq] at hb
  rw [← hb]
  exact h
 |none=>
  rw [hq] at hb hk
  rw [← hb]
  exact sim_rowL hA dec _ _ _ _ σ τ h (by omega) (by omega) hk
variable (cnt : ByteArray → Option Nat)
theorem G2.count : G2 (X:=X) (Z:=Z) k (fun σ=>(count cnt σ).2) (fun τ=>(count cnt τ).2):=by
 refine⟨fun σ=>(count_fol cnt σ).le,fun σ τ h hk=>?_⟩
 have hk0:σ.at_≤k:=Nat.le_trans (count_fol cnt σ).le hk
 unfold PS.count
 rw [h.tok hA hk0]
 cases ht:σ.tok with
 |none=>exact h.settle hA hk0
 |some t=>
  simp only
  cases cnt t.text with
  |none=>exact h.wrong hA hk0 _ (by decide)
  |some n=>
   simp only
   by_cases hq:t.kind=2
   ·rw [if_pos hq,if_pos hq];exact h.adv hA hk0 ht (by rw [hq];decide)
   ·rw [if_neg hq,if_neg hq];exact h.wrong hA hk0 _ (by decide)
theorem G2.var1 : G2 (X:=X) (Z:=Z) k var1 var1:=((((G2.take hA 1).comp (G2.need hA 4 kLC)).comp (G2.need hA 1 kType)).comp (G2.need hA 1 kDisc)).comp (G2.need hA 4 kLK)
theorem G2.var2 : G2 (X:=X) (Z:=Z) k (var2 cnt) (var2 cnt):=(((G2.var1 hA).comp (G2.count hA cnt)).comp (G2.need hA 4 kRK)).comp (G2.need hA 4 kLC)
theorem G2.var3 : G2 (X:=X) (Z:=Z) k (var3 cnt) (var3 cnt):=(((G2.var2 hA cnt).comp (G2.names hA)).comp (G2.need hA 4 kRC)).comp (G2.need hA 4 kSemi)
theorem G2.varD : G2 (X:=X) (Z:=Z) k (fun σ=>(varD cnt σ).2) (fun τ=>(varD cnt τ).2):=((G2.var3 hA cnt).comp (G2.props hA)).comp (G2.need hA 4 kRC)
theorem G2.ent1 : G2 (X:=X) (Z:=Z) k (fun σ=>(ent1 σ).2.2) (fun τ=>(ent1 τ).2.2):=by
 refine⟨fun σ=>(ent1_fol σ).1.le,fun σ τ h hk=>?_⟩
 have hk0:σ.at_≤k:=Nat.le_trans (ent1_fol σ).1.le hk
 (try simp only at hk ⊢)
 unfold PS.ent1 at hk ⊢
 rw [h.isB hA hk0,h.isB hA hk0]
 by_cases hb:σ.isB 1 kTab=true
 ·rw [if_pos hb,if_pos hb];exact h.advB hA hk0 hb (by decide)
 ·rw [if_neg hb] at hk ⊢
  rw [if_neg hb]
  by_cases hb2:σ.isB 1 kDef=true
  ·rw [if_pos hb2,if_pos hb2];exact h.advB hA hk0 hb2 (by decide)
  ·rw [if_neg hb2] at hk ⊢
   rw [if_neg hb2]
   exact(((G2.need hA 4 kOpen).comp (G2.names hA)).comp (G2.need hA 4 kShut)).sim σ τ h hk
theorem G2.entD : G2 (X:=X) (Z:=Z) k (fun σ=>(entD dec σ).2) (fun τ=>(entD dec τ).2):=((G2.ent1 hA).comp (G2.row hA dec)).comp (G2.need hA 4 kSemi)
theorem sim_prbL : ∀(n m:Nat) (es es':List EntD) (ps ps':List ByteArray) (σ:PS X) (τ:PS Z),Sim σ τ→k+2≤n+σ.at_∨σ.bad≠none→k+2≤m+σ.at_∨σ.bad≠none→(prbL dec n es ps σ).2.2.at_≤k→Sim (prbL dec n es ps σ).2.2 (prbL dec m es' ps' τ).2.2:=by
 have stop:∀{W:Txt} (n:Nat) (es:List EntD) (ps:List ByteArray) (σ:PS W),σ.bad≠none→(prbL dec n es ps σ).2.2=σ:=by
  intro W n es ps σ hb
  cases n with
  |zero=>rfl
  |succ n=>
   rw [PS.prbL]
   cases hq:σ.bad with
   |some f=>rfl
   |none=>exact absurd hq hb
 intro n
 induction n with
 |zero=>
  intro m es es' ps ps' σ τ h h1 h2 hk
  have h3:σ.at_≤k:=hk
  have hb:σ.bad≠none:=h1.resolve_left (by omega)
  rw [stop _ _ _ _ hb,stop _ _ _ _ (by rw [← h.bad];exact hb)]
  exact h
 |succ n ih=>
  intro m es es' ps ps' σ τ h h1 h2 hk
  have hk0:σ.at_≤k:=Nat.le_trans (prbL_fol dec (n+1) es ps σ).le hk
  by_cases hb:σ.bad=none
  ·cases m with
   |zero=>exact absurd (h2.resolve_right fun h=>h hb) (by omega)
   |succ m=>
    have h1':=h1.resolve_right fun h=>h hb
    have h2':=h2.resolve_right fun h=>h hb
    rw [PS.prbL] at hk ⊢
    rw [PS.prbL,← h.bad,hb]
    rw [hb] at hk
    (try simp only at hk ⊢)
    rw [h.isB hA hk0,h.isB hA hk0]
    by_cases c1:σ.isB 4 kRC=true
    ·rw [if_pos c1,if_pos c1];exact h.advB hA hk0 c1 (by decide)
    ·rw [if_neg c1] at hk ⊢
     rw [if_neg c1]
     by_cases c2:σ.isB 1 kProp=true
     ·rw [if_pos c2] at hk ⊢
      rw [if_pos c2]
      have f1:σ.at_+1≤(PS.props σ).2.at_:=by
       have e:(PS.props σ).2=(PS.propsL X.L.length ([] ++ [(PS.take 3 σ.adv).1]) (PS.need 4 kSemi (PS.take 3 σ.adv).2)).2:=by
        unfold PS.props
        rw [PS.propsL,if_pos c2]
       have g1:=(adv_fol1 c2 (by decide)).le
       have g2:=(take_fol 3 σ.adv).le
       have g3:=(need_fol 4 kSemi (PS.take 3 σ.adv).2).le
       have g4:=(propsL_fol X.L.length ([] ++ [(PS.take 3 σ.adv).1]) (PS.need 4 kSemi (PS.take 3 σ.adv).2)).le
       rw [e];omega
      have f2:=(prbL_fol dec n es (ps ++ (PS.props σ).1) (PS.props σ).2).le
      exact ih m _ _ _ _ _ _ ((G2.props hA).sim σ τ h (Nat.le_trans f2 hk)) (.inl (by omega)) (.inl (by omega)) hk
     ·rw [if_neg c2] at hk ⊢
      rw [if_neg c2]
      have s1:=h.settle hA hk0
      have e1:σ.settle=σ:=settle_id (by have:=hA.lt;omega)
      have f2:=(prbL_fol dec n (es ++ [(PS.entD dec σ.settle).1]) ps (PS.entD dec σ.settle).2).le
      have s2:=(G2.entD hA dec).sim _ _ s1 (Nat.le_trans f2 hk)
      have f3:=(entD_fol dec σ.settle).2
      rw [e1] at f3 hk s2 f2 ⊢
      refine ih m _ _ _ _ _ _ s2 ?_ ?_ hk
      ·by_cases hb3:(PS.entD dec σ).2.bad=none
       ·have:=f3 hb3;exact .inl (by omega)
       ·exact .inr hb3
      ·by_cases hb3:(PS.entD dec σ).2.bad=none
       ·have:=f3 hb3;exact .inl (by omega)
       ·exact .inr hb3
  ·rw [stop _ _ _ _ hb,stop _ _ _ _ (by rw [← h.bad];exact hb)]
   exact h
theorem G2.prb1 : G2 (X:=X) (Z:=Z) k (fun σ=>(prb1 σ).2) (fun τ=>(prb1 τ).2):=by
 refine⟨fun σ=>(prb1_fol σ).le,fun σ τ h hk=>?_⟩
 have hk0:σ.at_≤k:=Nat.le_trans (prb1_fol σ).le hk
 (try simp only at hk ⊢)
 unfold PS.prb1 at hk ⊢
 rw [h.isB hA hk0]
 by_cases hb:σ.isB 4 kBar=true
 ·rw [if_pos hb] at hk ⊢
  rw [if_pos hb]
  exact(G2.names hA).sim _ _ (h.advB hA hk0 hb (by decide)) hk
 ·rw [if_neg hb,if_neg hb]
  exact h.settle hA hk0
theorem G2.prb2 : G2 (X:=X) (Z:=Z) k prb2 prb2:=((((G2.need hA 4 kOpen).comp (G2.take hA 1)).comp (G2.prb1 hA)).comp (G2.need hA 4 kShut)).comp (G2.need hA 4 kLC)
theorem G2.prbD : G2 (X:=X) (Z:=Z) k (fun σ=>(prbD dec σ).2) (fun τ=>(prbD dec τ).2):=by
 refine⟨fun σ=>(prbD_fol dec σ).le,fun σ τ h hk=>?_⟩
 have f1:=(prbL_fol dec (X.L.length+2) [] [] (PS.prb2 σ)).le
 have h1:=hA.lt
 have h2:=hA.lt'
 have s1:=(G2.prb2 hA).sim σ τ h (Nat.le_trans f1 hk)
 exact sim_prbL hA dec _ _ _ _ _ _ _ _ s1 (.inl (by omega)) (.inl (by omega)) hk
theorem partL_fol9 : ∀(n:Nat) (vs:List VarD) (ps:List PrbD) (σ:PS X),Fol 0 σ (partL dec cnt n vs ps σ).2.2
 |0,_,_,σ=>Fol.refl σ
 |n+1,vs,ps,σ=>by
  rw [PS.partL];split
  ·rename_i hb;exact(((adv_fol1 hb (by decide)).trans ((((var3_fol cnt σ.adv).trans (props_fol _)).trans (need_fol 4 kRC _)))).trans (partL_fol9 n _ _ _)).weak (Nat.zero_le _)
  ·split
   ·rename_i hb;exact(((adv_fol1 hb (by decide)).trans (prbD_fol dec σ.adv)).trans (partL_fol9 n _ _ _)).weak (Nat.zero_le _)
   ·exact settle_fol _
theorem sim_partL : ∀(n m:Nat) (vs vs':List VarD) (ps ps':List PrbD) (σ:PS X) (τ:PS Z),Sim σ τ→k+2≤n+σ.at_→k+2≤m+σ.at_→(partL dec cnt n vs ps σ).2.2.at_≤k→Sim (partL dec cnt n vs ps σ).2.2 (partL dec cnt m vs' ps' τ).2.2
 |0,_,_,_,_,_,σ,_,_,h1,_,hk=>absurd hk (by show ¬σ.at_≤k;omega)
 |n+1,0,vs,_,ps,_,σ,_,_,_,h2,hk=>absurd (Nat.le_trans (partL_fol9 hA dec cnt (n+1) vs ps σ).le hk) (by omega)
 |n+1,m+1,vs,vs',ps,ps',σ,τ,h,h1,h2,hk=>by
  have hk0:σ.at_≤k:=Nat.le_trans (partL_fol9 hA dec cnt (n+1) vs ps σ).le hk
  rw [PS.partL] at hk ⊢
  rw [PS.partL,h.isB hA hk0,h.isB hA hk0]
  by_cases hb:σ.isB 1 kVar=true
  ·rw [if_pos hb] at hk ⊢
   rw [if_pos hb]
   have f1:=(adv_fol1 hb (by decide)).le
   have f2:=(G2.varD hA cnt).mono σ.adv
   have f3:=(partL_fol9 hA dec cnt n (vs ++ [(PS.varD cnt σ.adv).1]) ps (PS.varD cnt σ.adv).2).le
   exact sim_partL n m _ _ _ _ _ _ ((G2.varD hA cnt).sim _ _ (h.advB hA hk0 hb (by decide)) (Nat.le_trans f3 hk)) (by omega) (by omega) hk
  ·rw [if_neg hb] at hk ⊢
   rw [if_neg hb]
   by_cases hb2:σ.isB 1 kProb=true
   ·rw [if_pos hb2] at hk ⊢
    rw [if_pos hb2]
    have f1:=(adv_fol1 hb2 (by decide)).le
    have f2:=(G2.prbD hA dec).mono σ.adv
    have f3:=(partL_fol9 hA dec cnt n vs (ps ++ [(PS.prbD dec σ.adv).1]) (PS.prbD dec σ.adv).2).le
    exact sim_partL n m _ _ _ _ _ _ ((G2.prbD hA dec).sim _ _ (h.advB hA hk0 hb2 (by decide)) (Nat.le_trans f3 hk)) (by omega) (by omega) hk
   ·rw [if_neg hb2] at hk ⊢
    rw [if_neg hb2]
    exact h.settle hA hk0
theorem G2.part : G2 (X:=X) (Z:=Z) k (fun σ=>(partL dec cnt (X.L.length+1) [] [] σ).2.2) (fun τ=>(partL dec cnt (Z.L.length+1) [] [] τ).2.2):=
 ⟨fun σ=>(partL_fol9 hA dec cnt _ _ _ σ).le,fun σ τ h hk=>sim_partL hA dec cnt _ _ _ _ _ _ σ τ h (by have:=hA.lt;omega) (by have:=hA.lt';omega) hk⟩
theorem fin_fol9 (σ:PS X):Fol 0 σ (fin σ):=by
 unfold PS.fin;split
 ·split
  ·exact Fol.refl _
  ·exact wrong_fol _ _
 ·exact settle_fol _
theorem G2.fin : G2 (X:=X) (Z:=Z) k fin fin:=by
 refine⟨fun σ=>(fin_fol9 hA σ).le,fun σ τ h hk=>?_⟩
 have hk0:σ.at_≤k:=Nat.le_trans (fin_fol9 hA σ).le hk
 unfold PS.fin
 rw [h.tok hA hk0]
 cases ht:σ.tok with
 |none=>exact h.settle hA hk0
 |some t=>
  simp only
  by_cases hq:t.kind=0
  ·rw [if_pos hq,if_pos hq];exact h
  ·rw [if_neg hq,if_neg hq];exact h.wrong hA hk0 _ (by decide)
theorem G2.filD : G2 (X:=X) (Z:=Z) k (fun σ=>(filD dec cnt σ).2) (fun τ=>(filD dec cnt τ).2):=
 ((((((G2.need hA 1 kNet).comp (G2.take hA 1)).comp (G2.need hA 4 kLC)).comp (G2.props hA)).comp (G2.need hA 4 kRC)).comp (G2.part hA dec cnt)).comp (G2.fin hA)
theorem G2.numD : G2 (X:=X) (Z:=Z) k (fun σ=>(numD dec σ).2) (fun τ=>(numD dec τ).2):=(G2.row hA dec).comp (G2.fin hA)
end
end PS
end Go.Ev
