import Derived.Test.YtppbdmkbhalmpaaGreatDoorLxs
import Derived.Test.YtppbdmkbhalmpaaGreatDoorSim
import Derived.Test.YtppbdmkbhalmpaaGreatDoorLaw
set_option linter.all false
set_option maxHeartbeats 60000000
set_option maxRecDepth 10000
namespace Go.Ev
open Go.Proofs
theorem late_at (s:ByteArray)(a:Nat)(f:Flt)(h:(allF s a).2=some f) :
  ∃p,p < s.size∧(takeF (s.extract p s.size)).code≠0∧f=⟨(takeF (s.extract p s.size)).code,(placeF s p).1,(placeF s p).2,(takeF (s.extract p s.size)).word⟩:=by
 rw [allF] at h
 split at h
 ·rename_i hlt
  split at h
  ·rename_i hc
   cases h
   exact⟨a,hlt,hc,rfl⟩
  ·split at h
   ·split at h
    ·exact late_at s _ f h
    ·exact late_at s _ f h
   ·cases h
 ·cases h
termination_by s.size - a
theorem end_at (s:ByteArray)(a:Nat)(j:Nat)(t:Tok)(h:(allF s a).1[j]?=some t)(hk:t.kind=0):t=⟨0,eS,(placeF s s.size).1,(placeF s s.size).2⟩:=by
 rw [allF] at h
 split at h
 ·rename_i hlt
  split at h
  ·simp at h
  ·split at h
   ·split at h
    ·rename_i hk0
     cases j with
     |zero=>
      simp at h
      rw [← h] at hk
      simp only at hk
      omega
     |succ j=>
      simp at h
      exact end_at s _ j t h hk
    ·exact end_at s _ j t h hk
   ·simp at h
 ·cases j with
  |zero=>simp at h;exact h.symm
  |succ j=>simp at h
termination_by s.size - a
theorem take_bad {u:ByteArray}(hu:0 < u.size)(h:(takeF u).code≠0):(takeF u).code≠30∧(takeF u).code≠31∧((chr u 0).toNat=34∨((chr u 0).toNat≠34∧(takeF u).word.size≤u.size∧u.extract 0 (takeF u).word.size=(takeF u).word)):=by
 have hT:takeF u=if skipF u < 0 then⟨0,0,eS,21,⟨#[47,42]⟩⟩
   else if 0 < skipF u then⟨(skipF u).toNat,0,eS,0,eS⟩
   else if isLet (chr u 0)=true then(if 64 < runF isWrd u 0 then⟨0,0,eS,20,u.extract 0 (runF isWrd u 0)⟩ else⟨runF isWrd u 0,1,u.extract 0 (runF isWrd u 0),0,eS⟩)
   else if isDig (chr u 0)=true then
    (if numB u=true∨isLet (chr u (numF u))=true then⟨0,0,eS,22,u.extract 0 (numF u+runF isWrd u (numF u))⟩ else⟨numF u,2,u.extract 0 (numF u),0,eS⟩)
   else if(chr u 0).toNat=34 then(if(quoF u 1 ⟨#[]⟩).2.2=true then⟨(quoF u 1 ⟨#[]⟩).1,3,(quoF u 1 ⟨#[]⟩).2.1,0,eS⟩ else⟨0,0,eS,21,⟨#[34]⟩⟩)
   else if isSgn (chr u 0)=true then⟨1,4,u.extract 0 1,0,eS⟩
   else⟨0,0,eS,20,u.extract 0 1⟩:=rfl
 have pre:∀m,m≤u.size→u.extract 0 (u.extract 0 m).size=u.extract 0 m:=fun m hm=>by rw [ext_size hm,Nat.sub_zero]
 by_cases c1:skipF u < 0
 ·rw [if_pos c1] at hT
  rw [hT]
  have hne:(chr u 0).toNat=47∧(chr u 1).toNat=42:=by
   unfold skipF at c1
   by_cases b1:isBlk (chr u 0)=true
   ·rw [if_pos b1] at c1;omega
   ·rw [if_neg b1] at c1
    by_cases b2:(chr u 0).toNat≠47∨((chr u 1).toNat≠47∧(chr u 1).toNat≠42)
    ·rw [if_pos b2] at c1;omega
    ·have h0:(chr u 0).toNat=47:=Decidable.byContradiction fun h=>b2 (Or.inl h)
     refine⟨h0,Decidable.byContradiction fun h42=>?_⟩
     have h47:(chr u 1).toNat=47:=Decidable.byContradiction fun h=>b2 (Or.inr ⟨h,h42⟩)
     rw [if_neg b2] at c1
     have:∀d i,d=u.size - i→i≤u.size→0≤skipA u i:=by
      intro d
      induction d with
      |zero=>
       intro i hd hi
       rw [skipA,dif_neg (by omega),if_pos h47];omega
      |succ d ih=>
       intro i hd hi
       rw [skipA,dif_pos (by omega)]
       split
       ·omega
       ·split
        ·omega
        ·exact ih (i+1) (by omega) (by omega)
     have hz:2≤u.size:=by
      rcases Nat.lt_or_ge 1 u.size with h9|h9
      ·exact h9
      ·have:=chr_end h9
       rw [this] at h47;exact absurd h47 (by decide)
     have:=this _ 2 rfl hz
     omega
  have hz:2≤u.size:=by
   rcases Nat.lt_or_ge 1 u.size with h9|h9
   ·exact h9
   ·have:=chr_end h9
    rw [this] at hne;exact absurd hne.2 (by decide)
  refine⟨by show(21:Nat)≠30;decide,by show(21:Nat)≠31;decide,Or.inr ⟨by omega,hz,?_⟩⟩
  refine ba_ext (ext_size hz) fun i hi=>?_
  have hi2:i < 2:=by
   have:(u.extract 0 2).size=2:=ext_size hz
   have h9:i < (u.extract 0 2).size:=hi
   omega
  show chr (u.extract 0 2) i=_
  rw [ext_chr (by omega),Nat.zero_add]
  match i,hi2 with
  |0,_=>exact UInt8.toNat_inj.1 hne.1
  |1,_=>exact UInt8.toNat_inj.1 hne.2
 ·rw [if_neg c1] at hT
  by_cases c2:0 < skipF u
  ·rw [if_pos c2] at hT;rw [hT] at h;exact absurd rfl h
  ·rw [if_neg c2] at hT
   by_cases c3:isLet (chr u 0)=true
   ·rw [if_pos c3] at hT
    have h34:(chr u 0).toNat≠34:=fun h=>by
     rw [show chr u 0=34 from UInt8.toNat_inj.1 h] at c3
     exact absurd c3 (by decide)
    by_cases c4:64 < runF isWrd u 0
    ·rw [if_pos c4] at hT
     rw [hT]
     have hr:=runF_le (p:=isWrd) (s:=u) (i:=0) (Nat.zero_le _)
     exact⟨by show(20:Nat)≠30;decide,by show(20:Nat)≠31;decide,Or.inr ⟨h34,by show(u.extract 0 _).size≤_;rw [ext_size (by omega)];omega,pre _ (by omega)⟩⟩
    ·rw [if_neg c4] at hT;rw [hT] at h;exact absurd rfl h
   ·rw [if_neg c3] at hT
    by_cases c4:isDig (chr u 0)=true
    ·rw [if_pos c4] at hT
     have h34:(chr u 0).toNat≠34:=fun h=>by
      rw [show chr u 0=34 from UInt8.toNat_inj.1 h] at c4
      exact absurd c4 (by decide)
     by_cases c5:numB u=true∨isLet (chr u (numF u))=true
     ·rw [if_pos c5] at hT
      rw [hT]
      have hr:=runF_le (p:=isWrd) (s:=u) (i:=numF u) numF_le
      exact⟨by show(22:Nat)≠30;decide,by show(22:Nat)≠31;decide,Or.inr ⟨h34,by show(u.extract 0 _).size≤_;rw [ext_size (by omega)];omega,pre _ (by omega)⟩⟩
     ·rw [if_neg c5] at hT;rw [hT] at h;exact absurd rfl h
    ·rw [if_neg c4] at hT
     by_cases c5:(chr u 0).toNat=34
     ·rw [if_pos c5] at hT
      by_cases c6:(quoF u 1 ⟨#[]⟩).2.2=true
      ·rw [if_pos c6] at hT;rw [hT] at h;exact absurd rfl h
      ·rw [if_neg c6] at hT
       rw [hT]
       exact⟨by show(21:Nat)≠30;decide,by show(21:Nat)≠31;decide,Or.inl c5⟩
     ·rw [if_neg c5] at hT
      by_cases c6:isSgn (chr u 0)=true
      ·rw [if_pos c6] at hT;rw [hT] at h;exact absurd rfl h
      ·rw [if_neg c6] at hT
       rw [hT]
       exact⟨by show(20:Nat)≠30;decide,by show(20:Nat)≠31;decide,Or.inr ⟨c5,by show(u.extract 0 _).size≤_;rw [ext_size (by omega)];omega,pre _ (by omega)⟩⟩
theorem take_txt {u:ByteArray}(hu:0 < u.size)(hc:(takeF u).code=0)(hk:(takeF u).kind≠0):(chr u 0).toNat=34∨((chr u 0).toNat≠34∧(takeF u).text=u.extract 0 (takeF u).n):=by
 have hT:takeF u=if skipF u < 0 then⟨0,0,eS,21,⟨#[47,42]⟩⟩
   else if 0 < skipF u then⟨(skipF u).toNat,0,eS,0,eS⟩
   else if isLet (chr u 0)=true then(if 64 < runF isWrd u 0 then⟨0,0,eS,20,u.extract 0 (runF isWrd u 0)⟩ else⟨runF isWrd u 0,1,u.extract 0 (runF isWrd u 0),0,eS⟩)
   else if isDig (chr u 0)=true then
    (if numB u=true∨isLet (chr u (numF u))=true then⟨0,0,eS,22,u.extract 0 (numF u+runF isWrd u (numF u))⟩ else⟨numF u,2,u.extract 0 (numF u),0,eS⟩)
   else if(chr u 0).toNat=34 then(if(quoF u 1 ⟨#[]⟩).2.2=true then⟨(quoF u 1 ⟨#[]⟩).1,3,(quoF u 1 ⟨#[]⟩).2.1,0,eS⟩ else⟨0,0,eS,21,⟨#[34]⟩⟩)
   else if isSgn (chr u 0)=true then⟨1,4,u.extract 0 1,0,eS⟩
   else⟨0,0,eS,20,u.extract 0 1⟩:=rfl
 by_cases h34:(chr u 0).toNat=34
 ·exact Or.inl h34
 refine Or.inr ⟨h34,?_⟩
 split at hT
 ·rw [hT] at hc;cases hc
 ·split at hT
  ·rw [hT] at hk;exact absurd rfl hk
  ·split at hT
   ·split at hT
    ·rw [hT] at hc;cases hc
    ·rw [hT]
   ·split at hT
    ·split at hT
     ·rw [hT] at hc;cases hc
     ·rw [hT]
    ·split at hT
     ·rw [hT]
     ·rw [hT] at hc;cases hc
open PS
def outc (row:Bool)(s:ByteArray):Option Flt:=if row=true then(numS decQ s).2 else(fileS decQ s).2
theorem out_src (row:Bool)(s:ByteArray)(f:Flt)(h:outc row s=some f):∃σ:PS (txt s),Src σ∧σ.bad=some f∧∀(y:ByteArray) (k:Nat),Agr (txt s) (txt y) k→σ.at_≤k→outc row y=some f:=by
 have hb:Src (PS.begin s):=fun f h=>by cases h
 have h0:∀y,Sim (PS.begin s) (PS.begin y):=fun y=>⟨rfl,rfl,rfl⟩
 cases row with
 |true=>
  have h1:(numD decQ (PS.begin s)).2.bad=some f:=by
   have h2:(numS decQ s).2=some f:=h
   unfold numS at h2
   split at h2
   ·rename_i f' hq
    cases h2;exact hq
   ·cases h2
  refine⟨_,Src.numD decQ hb,h1,fun y k hA hk=>?_⟩
  have s1:=(G2.numD hA decQ).sim _ _ (h0 y) hk
  have e:(numD decQ (PS.begin y)).2.bad=some f:=s1.bad.symm.trans h1
  show(numS decQ y).2=some f
  unfold numS
  rw [e]
 |false=>
  have h1:(filD decQ natP (PS.begin s)).2.bad=some f:=by
   have h2:(fileS decQ s).2=some f:=h
   unfold fileS at h2
   split at h2
   ·rename_i f' hq
    cases h2;exact hq
   ·cases h2
  refine⟨_,Src.filD decQ natP hb,h1,fun y k hA hk=>?_⟩
  have s1:=(G2.filD hA decQ natP).sim _ _ (h0 y) hk
  have e:(filD decQ natP (PS.begin y)).2.bad=some f:=s1.bad.symm.trans h1
  show(fileS decQ y).2=some f
  unfold fileS
  rw [e]
theorem chr_l {a b:ByteArray}{i:Nat}(h:i < a.size):chr (a ++ b) i=chr a i:=by
 unfold chr
 have e:bs (a ++ b)=bs a ++ bs b:=by
  show(a ++ b).data.toList=_
  rw [ByteArray.data_append,Array.toList_append];rfl
 rw [e,List.getD_eq_getElem?_getD,List.getElem?_append_left (by rw [bs_len];exact h),← List.getD_eq_getElem?_getD]
theorem chr_r {a b:ByteArray}{i:Nat}(h:i < b.size):chr (a ++ b) (a.size+i)=chr b i:=by
 unfold chr
 have e:bs (a ++ b)=bs a ++ bs b:=by
  show(a ++ b).data.toList=_
  rw [ByteArray.data_append,Array.toList_append];rfl
 rw [e,List.getD_eq_getElem?_getD,List.getElem?_append_right (by rw [bs_len];omega),bs_len,Nat.add_sub_cancel_left,← List.getD_eq_getElem?_getD]
theorem first_plain (row : Bool) (s : ByteArray) (f : Flt) (h : outc row s = some f) :
    ∃ p, p ≤ s.size ∧ f.line = (placeF s p).1 ∧ f.col = (placeF s p).2 ∧
      ((p = s.size ∧ f.word = eS ∧ f.code = 30) ∨ (p < s.size ∧ (chr s p).toNat = 34) ∨
        (p < s.size ∧ (chr s p).toNat ≠ 34 ∧ p + f.word.size ≤ s.size ∧ s.extract p (p + f.word.size) = f.word ∧
          ((f.code ≠ 30 ∧ f.code ≠ 31) ∨ ∀ o : ByteArray, outc row (s.extract 0 (p + f.word.size) ++ bA [32] ++ o) = some f))) := by
  obtain ⟨σ, hs, hb, hy⟩ := out_src row s f h
  rcases hs f hb with ⟨-, hl⟩ | ⟨t, c, ht, rfl, hc⟩
  · obtain ⟨p, h1, h2, h3⟩ := late_at s 0 f hl
    have hz : (s.extract p s.size).size = s.size - p := ext_size (Nat.le_refl _)
    have h0 : chr (s.extract p s.size) 0 = chr s p := by rw [ext_chr (by omega), Nat.add_zero]
    obtain ⟨b1, b2, b3⟩ := take_bad (u := s.extract p s.size) (by omega) h2
    rw [h0] at b3
    subst h3
    refine ⟨p, by omega, rfl, rfl, ?_⟩
    rcases b3 with b3 | ⟨b3, b4, b5⟩
    · exact Or.inr (Or.inl ⟨h1, b3⟩)
    · refine Or.inr (Or.inr ⟨h1, b3, by dsimp only; omega, ?_, Or.inl ⟨by dsimp only; omega, by dsimp only; omega⟩⟩)
      dsimp only
      rw [← ext_two (by omega)]; exact b5
  · by_cases hk : t.kind = 0
    · have e := end_at s 0 _ t ht hk
      subst e
      refine ⟨s.size, Nat.le_refl _, rfl, rfl, Or.inl ⟨rfl, rfl, ?_⟩⟩
      rcases hc with hc | ⟨-, hc⟩
      · exact hc
      · exact absurd hc (show ¬ ((0 : Int) = 4) by decide)
    · obtain ⟨p, r, -, g2, g3, g4, g5, g6, g7, g8, g9⟩ := all_same s 0 (Nat.zero_le _) σ.at_ t ht hk
      have hz : (s.extract p s.size).size = s.size - p := ext_size (Nat.le_refl _)
      have h0 : chr (s.extract p s.size) 0 = chr s p := by rw [ext_chr (by omega), Nat.add_zero]
      have hx := take_txt (u := s.extract p s.size) (by omega) (by rw [← g3]; exact g4) (by rw [← g3]; exact g5)
      rw [h0, ← g3] at hx
      subst g8
      refine ⟨p, by omega, rfl, rfl, ?_⟩
      rcases hx with hx | ⟨hx1, hx2⟩
      · exact Or.inr (Or.inl ⟨g2, hx⟩)
      · have hx3 : r.text = s.extract p (p + r.n) := by rw [hx2, ext_two g7]
        have hx4 : r.text.size = r.n := by rw [hx3, ext_size g7]; omega
        refine Or.inr (Or.inr ⟨g2, hx1, by dsimp only; omega, by dsimp only; rw [hx4]; exact hx3.symm, Or.inr fun o => ?_⟩)
        dsimp only
        rw [hx4]
        have z1 : (s.extract 0 (p + r.n)).size = p + r.n := by rw [ext_size g7]; omega
        have z2 : (s.extract 0 (p + r.n) ++ bA [32]).size = p + r.n + 1 := by rw [ByteArray.size_append, z1]; rfl
        refine hy _ σ.at_ ⟨fun i hi => ?_, (List.getElem?_eq_some_iff.1 ht).1⟩ (Nat.le_refl _)
        refine g9 _ (fun i hi => ?_) (by rw [ByteArray.size_append, z2]; omega) ?_ i hi
        · rw [chr_l (by omega), chr_l (by omega), ext_chr (by omega), Nat.zero_add]
        · rw [chr_l (by omega)]
          have := chr_r (a := s.extract 0 (p + r.n)) (b := bA [32]) (i := 0) (Nat.succ_pos _)
          rw [z1, Nat.add_zero] at this
          rw [this]; rfl
def nlc (s:ByteArray):Nat→Nat→Nat
 |_,0=>0
 |a,d+1=>(if(chr s a).toNat=10 then 1 else 0)+nlc s (a+1) d
theorem place_line (s:ByteArray):∀d a,(placeF s (a+d)).1=(placeF s a).1+nlc s a d
 |0,a=>rfl
 |d+1,a=>by
  rw [show a+(d+1)=(a+1)+d by omega,place_line s d (a+1),nlc,placeF]
  split
  ·simp only;omega
  ·simp only;omega
theorem place_col (s:ByteArray):∀d a,nlc s a d=0→(placeF s (a+d)).2=(placeF s a).2+d
 |0,a,_=>rfl
 |d+1,a,h=>by
  rw [nlc] at h
  have h1:¬(chr s a).toNat=10:=fun h9=>by rw [if_pos h9] at h;omega
  rw [if_neg h1,Nat.zero_add] at h
  rw [show a+(d+1)=(a+1)+d by omega,place_col s d (a+1) h,placeF,if_neg h1]
  simp only;omega
theorem offset_ok (s:ByteArray)(p:Nat)(hp:p≤s.size)(hs:s.size≤1073741824):Ok Tryz.prog 9 [tS9 s,.con (.int .i64 (placeF s p).1),.con (.int .i64 (placeF s p).2)] true (.con (.int .i64 p)):=by
 have e1:(placeF s p).1=1+nlc s 0 (p - 0):=by
  have:=place_line s p 0
  rw [Nat.zero_add] at this
  exact this
 have hl:=placeF_le s p
 rw [e1] at hl ⊢
 refine ok_of_ev hC0 mix Tryz.func9 rfl rfl (by kernel_rfl) (zO rfl) ?_
 repeat'(first|(with_reducible first|(refine zz ?_;try intro K hK)|refine zI ?_|refine zt ?_|refine zf ?_)|((first|refine hK _ ?_|refine hK _ _ rfl ?_);clear hK K)|(guard_hyp hK;first|(refine zY ?zz ?_;case zz=>first|exact rfl|exact gJ)|refine fresh_n ?_|refine freshO_n ?_|refine zW ?_|intro b0 hb)|((first|with_reducible refine zm ?_|guard_hyp hK);refine zY ?_ ?_;all_goals(intro hb;(try simp only [sn,sb] at hb);try exact ex0)))
 refine loop_i Nat (fun a=>⟨Tryz.f9.ntmps,[(0,.con (.string s)),(1,.con (.int .i64 ((1+nlc s a (p - a):Nat):Int))),(2,.con (.int .i64 (placeF s p).2)),(7,.con (.int .i64 a))],[]⟩) (fun a=>a≤p∧(placeF s a).2=1∧nlc s a (p - a)≤p) (fun a=>p - a) [] 0 trivial ⟨Nat.zero_le _,rfl,by omega⟩ ⟨rfl,⟨rfl,trivial,rfl,trivial,rfl,trivial,rfl,trivial,trivial⟩,trivial,trivial⟩ ?_
 rintro a ⟨h1,h2,h3⟩
 by_cases hn:nlc s a (p - a)=0
 ·have hc:=place_col s (p - a) a hn
  rw [show a+(p - a)=p by omega,h2] at hc
  rw [hn,hc]
  repeat'(first|(with_reducible first|(refine zz ?_;try intro K hK)|refine zI ?_|refine zt ?_|refine zf ?_)|((first|refine hK _ ?_|refine hK _ _ rfl ?_);clear hK K)|(guard_hyp hK;first|(refine zY ?zz ?_;case zz=>first|exact rfl|exact gJ)|refine fresh_n ?_|refine freshO_n ?_|refine zW ?_|intro b0 hb)|((first|with_reducible refine zm ?_|guard_hyp hK);refine zY ?_ ?_;all_goals(intro hb;(try simp only [sn,sb] at hb);try exact ex0)))
  exact reti rfl rfl (by omega)
 ·repeat'(first|(with_reducible first|(refine zz ?_;try intro K hK)|refine zI ?_|refine zt ?_|refine zf ?_)|((first|refine hK _ ?_|refine hK _ _ rfl ?_);clear hK K)|(guard_hyp hK;first|(refine zY ?zz ?_;case zz=>first|exact rfl|exact gJ)|refine fresh_n ?_|refine freshO_n ?_|refine zW ?_|intro b0 hb)|((first|with_reducible refine zm ?_|guard_hyp hK);refine zY ?_ ?_;all_goals(intro hb;(try simp only [sn,sb] at hb);try exact ex0)))
  refine loop_i Nat (fun b=>⟨Tryz.f9.ntmps,[(0,.con (.string s)),(1,.con (.int .i64 ((1+nlc s a (p - a):Nat):Int))),(2,.con (.int .i64 (placeF s p).2)),(7,.con (.int .i64 b))],[]⟩) (fun b=>a≤b∧b≤p∧nlc s b (p - b)=nlc s a (p - a)) (fun b=>p - b) [] a trivial ⟨Nat.le_refl _,h1,rfl⟩ ⟨rfl,⟨rfl,trivial,rfl,trivial,rfl,trivial,rfl,trivial,trivial⟩,trivial,trivial⟩ ?_
  rintro b ⟨b1,b2,b3⟩
  have hb4:b < p:=by
   rcases Nat.lt_or_ge b p with h|h
   ·exact h
   ·rw [show p - b=0 by omega,nlc] at b3;omega
  have e9:nlc s b (p - b)=(if(chr s b).toNat=10 then 1 else 0)+nlc s (b+1) (p - (b+1)):=by
   rw [show p - b=(p - (b+1))+1 by omega,nlc]
  by_cases hc:(chr s b).toNat=10
  ·rw [if_pos hc] at e9
   have hp2:(placeF s (b+1)).2=1:=by rw [placeF,if_pos hc]
   repeat'(first|(guard_hyp hK;refine at_s ?_;intro hu)|(with_reducible first|(refine zz ?_;try intro K hK)|refine zI ?_|refine zt ?_|refine zf ?_)|((first|refine hK _ ?_|refine hK _ _ rfl ?_);clear hK K)|(guard_hyp hK;first|(refine zY ?zz ?_;case zz=>first|exact rfl|exact gJ)|refine fresh_n ?_|refine freshO_n ?_|refine zW ?_|intro b0 hb)|((first|with_reducible refine zm ?_|guard_hyp hK);refine zY ?_ ?_;all_goals(intro hb;(try simp only [sn,sb] at hb);try exact ex0)))
   refine⟨b+1,⟨hb4,hp2,by omega⟩,by omega,rfl,⟨rfl,trivial,?_,trivial,rfl,trivial,rfl,trivial,trivial⟩,trivial,trivial⟩
   exact congrArg (fun q=>V.con (.int .i64 q)) (by omega)
  ·rw [if_neg hc] at e9
   repeat'(first|(guard_hyp hK;refine at_s ?_;intro hu)|(with_reducible first|(refine zz ?_;try intro K hK)|refine zI ?_|refine zt ?_|refine zf ?_)|((first|refine hK _ ?_|refine hK _ _ rfl ?_);clear hK K)|(guard_hyp hK;first|(refine zY ?zz ?_;case zz=>first|exact rfl|exact gJ)|refine fresh_n ?_|refine freshO_n ?_|refine zW ?_|intro b0 hb)|((first|with_reducible refine zm ?_|guard_hyp hK);refine zY ?_ ?_;all_goals(intro hb;(try simp only [sn,sb] at hb);try exact ex0)))
   exact⟨b+1,⟨by omega,hb4,by omega⟩,by omega,rfl,⟨rfl,trivial,rfl,trivial,rfl,trivial,rfl,trivial,trivial⟩,trivial,trivial⟩
end Go.Ev
