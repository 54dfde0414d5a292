import Derived.Test.YtppbdmkbhalmpaaGreatDoorLah
import Derived.Test.YtppbdmkbhalmpaaGreatDoorLar
set_option linter.all false
set_option maxHeartbeats 4000000
set_option maxRecDepth 10000
namespace Go.Ev
open Go.Proofs
def Agb (u v:ByteArray)(n:Nat):Prop:=∀i,i < n→chr v i=chr u i
theorem Agb.weak {u v:ByteArray}{n m:Nat}(h:Agb u v n)(hm:m≤n):Agb u v m:=fun i hi=>h i (by omega)
theorem ba_ext {s t:ByteArray}(hz:s.size=t.size)(h:∀i,i < s.size→chr s i=chr t i):s=t:=by
 apply ByteArray.ext
 apply Array.ext'
 show bs s=bs t
 have l1:=bs_len s
 have l2:=bs_len t
 apply List.ext_getElem (by omega)
 intro i h1 h2
 have:=h i (by omega)
 unfold chr at this
 rw [List.getD_eq_getElem?_getD,List.getElem?_eq_getElem h1,List.getD_eq_getElem?_getD,List.getElem?_eq_getElem h2] at this
 exact this
theorem ext_size {s:ByteArray}{a b:Nat}(h:b≤s.size):(s.extract a b).size=b - a:=by rw [ByteArray.size_extract];omega
theorem ext_same {u v:ByteArray}{n a b:Nat}(ha:Agb u v n)(hu:n≤u.size)(hv:n≤v.size)(hb:b≤n):v.extract a b=u.extract a b:=by
 refine ba_ext (by rw [ext_size (by omega),ext_size (by omega)]) fun i hi=>?_
 rw [ext_size (by omega)] at hi
 rw [ext_chr (by omega),ext_chr (by omega)]
 exact ha _ (by omega)
theorem ext_two {s:ByteArray}{p m:Nat}(h:p+m≤s.size):(s.extract p s.size).extract 0 m=s.extract p (p+m):=by
 have hz:(s.extract p s.size).size=s.size - p:=ext_size (Nat.le_refl _)
 refine ba_ext (by rw [ext_size (by omega),ext_size h];omega) fun i hi=>?_
 rw [ext_size (by omega)] at hi
 rw [ext_chr (by omega),ext_chr (by omega),ext_chr (by omega),Nat.zero_add]
theorem run_same {p:UInt8→Bool}{u v:ByteArray}{n:Nat}(ha:Agb u v n)(hu:n≤u.size)(hv:n < v.size)(hp:p (chr v n)=false):∀(d i:Nat),d=n - i→i≤n→i+runF p u i≤n→runF p v i=runF p u i
 |0,i,hd,hi,hr=>by
  obtain rfl:i=n:=by omega
  rw [runF_no hv hp];omega
 |d+1,i,hd,hi,hr=>by
  have hc:=ha i (by omega)
  cases hb:p (chr u i) with
  |true=>
   have e:=runF_yes (p:=p) (s:=u) (i:=i) (by omega) hb
   rw [runF_yes (by omega) (by rw [hc];exact hb),e,run_same ha hu hv hp d (i+1) (by omega) (by omega) (by omega)]
  |false=>
   rw [runF_no (by omega) (by rw [hc];exact hb),runF_no (by omega) hb]
theorem run_max {p:UInt8→Bool}{u:ByteArray}:∀(d i:Nat),d=u.size - i→i+runF p u i < u.size→p (chr u (i+runF p u i))=false
 |0,i,hd,h=>by omega
 |d+1,i,hd,h=>by
  cases hb:p (chr u i) with
  |true=>
   have e:=runF_yes (p:=p) (s:=u) (i:=i) (by omega) hb
   have:=run_max (p:=p) (u:=u) d (i+1) (by omega) (by omega)
   rw [e]
   rw [show i+(runF p u (i+1)+1)=i+1+runF p u (i+1) by omega]
   exact this
  |false=>
   rw [runF_no (by omega) hb]
   exact hb
theorem skipA_lo (s:ByteArray)(i n:Nat)(hi:i≤s.size)(h:skipA s i=(n:Int)):i≤n:=by
 rw [skipA] at h
 split at h
 ·split at h
  ·omega
  ·split at h
   ·omega
   ·have:=skipA_lo s (i+1) n (by omega) h
    omega
 ·split at h<;>omega
termination_by s.size - i
theorem skipA_same {u v:ByteArray}{n:Nat}(ha:Agb u v (n+1))(hu:n < u.size)(hv:n < v.size)(h1:chr v 1=chr u 1)(i:Nat)(hi:i≤u.size)(h:skipA u i=(n:Int)):skipA v i=(n:Int):=by
 have hlo:=skipA_lo u i n hi h
 rw [skipA] at h ⊢
 have hlt:i < u.size:=by omega
 rw [dif_pos hlt] at h
 rw [dif_pos (by omega),h1,ha i (by omega)]
 by_cases c1:(chr u 1).toNat=47∧(chr u i).toNat=10
 ·rw [if_pos c1] at h ⊢;exact h
 ·rw [if_neg c1] at h ⊢
  by_cases c2:(chr u 1).toNat=42∧(chr u i).toNat=42∧(chr u (i+1)).toNat=47
  ·rw [if_pos c2] at h
   rw [ha (i+1) (by omega),if_pos c2];exact h
  ·rw [if_neg c2] at h
   have hlo2:=skipA_lo u (i+1) n (by omega) h
   rw [ha (i+1) (by omega),if_neg c2]
   exact skipA_same ha hu hv h1 (i+1) (by omega) h
termination_by u.size - i
theorem skip_same {u v:ByteArray}{n:Nat}(h0:0 < n)(hs:skipF u=(n:Int))(ha:Agb u v (n+1))(hu:n < u.size)(hv:n < v.size):skipF v=(n:Int):=by
 unfold skipF at hs ⊢
 rw [ha 0 (by omega)]
 by_cases c1:isBlk (chr u 0)=true
 ·rw [if_pos c1] at hs ⊢;exact hs
 ·rw [if_neg c1] at hs ⊢
  rw [ha 1 (by omega)]
  by_cases c2:(chr u 0).toNat≠47∨((chr u 1).toNat≠47∧(chr u 1).toNat≠42)
  ·rw [if_pos c2] at hs;omega
  ·rw [if_neg c2] at hs ⊢
   have hz:2≤u.size:=by omega
   exact skipA_same ha hu hv (ha 1 (by omega)) 2 hz hs
theorem skip_zero {u v:ByteArray}{n:Nat}(h0:0 < n)(hs:skipF u=0)(ha:Agb u v n)(hu:n≤u.size)(hb:chr v n=32∨chr v n=chr u n):skipF v=0:=by
 unfold skipF at hs ⊢
 rw [ha 0 h0]
 by_cases c1:isBlk (chr u 0)=true
 ·rw [if_pos c1] at hs;omega
 ·rw [if_neg c1] at hs ⊢
  by_cases c2:(chr u 0).toNat≠47∨((chr u 1).toNat≠47∧(chr u 1).toNat≠42)
  ·refine if_pos ?_
   rcases c2 with c2|c2
   ·exact Or.inl c2
   ·refine Or.inr ?_
    by_cases hn:1 < n
    ·rw [ha 1 hn];exact c2
    ·obtain rfl:n=1:=by omega
     rcases hb with hb|hb
     ·rw [hb];decide
     ·rw [hb];exact c2
  ·rw [if_neg c2] at hs
   exfalso
   have hz:2≤u.size:=by
    rcases Nat.lt_or_ge 1 u.size with h9|h9
    ·exact h9
    ·have:=chr_end h9
     rw [this] at c2
     exact absurd (Or.inr ⟨by decide,by decide⟩) c2
   have:=skipA_lo u 2 0 hz hs
   omega
theorem quo_same {u v:ByteArray}{n:Nat}{w:ByteArray}(ha:Agb u v n)(hu:n≤u.size)(hv:n≤v.size)(i:Nat)(out:ByteArray)(h:quoF u i out=(n,w,true)):quoF v i out=(n,w,true):=by
 have hle:=quoF_le u i out (by rw [h])
 rw [h] at hle
 simp only at hle
 rw [quoF] at h ⊢
 have hlt:i < u.size:=by omega
 rw [dif_pos hlt] at h
 rw [dif_pos (by omega),ha i (by omega)]
 by_cases c1:(chr u i).toNat=34
 ·rw [if_pos c1] at h ⊢;exact h
 ·rw [if_neg c1] at h ⊢
  by_cases c2:(chr u i).toNat=10
  ·rw [if_pos c2] at h;injection h with _ h;injection h with _ h;cases h
  ·rw [if_neg c2] at h ⊢
   by_cases c3:(chr u i).toNat=92
   ·rw [if_pos c3] at h ⊢
    by_cases c4:(chr u (i+1)).toNat≠34∧(chr u (i+1)).toNat≠92
    ·rw [if_pos c4] at h;injection h with _ h;injection h with _ h;cases h
    ·rw [if_neg c4] at h
     have h2:=quoF_le u (i+2) (out ++ sub u (i+1) 1) (by rw [h])
     rw [h] at h2
     simp only at h2
     rw [ha (i+1) (by omega),if_neg c4]
     have e:sub v (i+1) 1=sub u (i+1) 1:=ext_same ha hu hv (by omega)
     rw [e]
     exact quo_same ha hu hv (i+2) _ h
   ·rw [if_neg c3] at h ⊢
    have h2:=quoF_le u (i+1) (out ++ sub u i 1) (by rw [h])
    rw [h] at h2
    simp only at h2
    have e:sub v i 1=sub u i 1:=ext_same ha hu hv (by omega)
    rw [e]
    exact quo_same ha hu hv (i+1) _ h
termination_by u.size - i
theorem num_same {u v:ByteArray}{n:Nat}(hn:numF u=n)(ha:Agb u v n)(hu:n≤u.size)(hv:n < v.size)(hd:isDig (chr v n)=false)(hl:isLet (chr v n)=false)(h46:(chr v n).toNat≠46):numF v=n∧numB v=numB u:=by
 have hE9:(chr v n).toNat≠101∧(chr v n).toNat≠69:=by
  unfold isLet at hl
  simp only [Bool.or_eq_false_iff,Bool.and_eq_false_iff,decide_eq_false_iff_not] at hl
  omega
 have hAF:numA u≤n:=by
  unfold numF at hn
  by_cases c:numE u
  ·rw [if_pos c] at hn
   have:numA u+1≤numK u:=by unfold numK;split<;>omega
   omega
  ·rw [if_neg c] at hn;omega
 have hDA:runF isDig u 0≤numA u:=by unfold numA;split<;>omega
 have eD:runF isDig v 0=runF isDig u 0:=run_same ha hu hv hd n 0 (by omega) (by omega) (by omega)
 have eA:numA v=numA u:=by
  have hA9:numA u=if(chr u (runF isDig u 0)).toNat=46∧0 < runF isDig u (runF isDig u 0+1) then runF isDig u 0+1+runF isDig u (runF isDig u 0+1) else runF isDig u 0:=rfl
  have hB9:numA v=if(chr v (runF isDig v 0)).toNat=46∧0 < runF isDig v (runF isDig v 0+1) then runF isDig v 0+1+runF isDig v (runF isDig v 0+1) else runF isDig v 0:=rfl
  rw [eD] at hB9
  by_cases c:(chr u (runF isDig u 0)).toNat=46∧0 < runF isDig u (runF isDig u 0+1)
  ·rw [if_pos c] at hA9
   have e1:runF isDig v (runF isDig u 0+1)=runF isDig u (runF isDig u 0+1):=run_same ha hu hv hd _ _ rfl (by omega) (by omega)
   rw [hB9,e1,ha _ (by omega),if_pos c,← hA9]
  ·rw [if_neg c] at hA9
   rw [hB9,if_neg,← hA9]
   rintro⟨c1,c2⟩
   by_cases hlt:runF isDig u 0 < n
   ·have hE:numE u:=Classical.byContradiction fun hE=>by
     unfold numF at hn
     rw [if_neg hE] at hn;omega
    have:=hE.1
    rw [hA9] at this
    rw [ha _ hlt] at c1
    omega
   ·rw [show runF isDig u 0=n by omega] at c1
    exact h46 c1
 by_cases c:numE u
 ·have hn2:numK u+runF isDig u (numK u)=n:=by
   unfold numF at hn
   rw [if_pos c] at hn;exact hn
  have hK:numA u+1≤numK u:=by unfold numK;split<;>omega
  have hR:=c.2
  have eK:numK v=numK u:=by
   unfold numK
   rw [eA,ha (numA u+1) (by omega)]
  have eR:runF isDig v (numK u)=runF isDig u (numK u):=run_same ha hu hv hd _ _ rfl (by omega) (by omega)
  have cv:numE v:=by
   unfold numE
   rw [eA,eK,eR,ha _ (by omega)]
   exact c
  refine⟨by unfold numF;rw [if_pos cv,eK,eR];exact hn2,?_⟩
  unfold numB
  rw [decide_eq_true c,decide_eq_true cv,eK,eR]
  have e:sub v (numK u) (runF isDig u (numK u))=sub u (numK u) (runF isDig u (numK u)):=ext_same ha hu (by omega) (by omega)
  rw [e]
 ·have hn2:numA u=n:=by
   unfold numF at hn
   rw [if_neg c] at hn;exact hn
  have cv:¬numE v:=by
   intro h
   have:=h.1
   rw [eA,hn2] at this
   omega
  refine⟨by unfold numF;rw [if_neg cv,eA];exact hn2,?_⟩
  unfold numB
  rw [decide_eq_false c,decide_eq_false cv];rfl
theorem num_end {u:ByteArray}(h:numF u < u.size):isDig (chr u (numF u))=false:=by
 have hF:numF u=if numE u then numK u+runF isDig u (numK u) else numA u:=rfl
 by_cases c:numE u
 ·rw [if_pos c] at hF
  rw [hF] at h ⊢
  exact run_max _ _ rfl h
 ·rw [if_neg c] at hF
  have hA:numA u=if(chr u (runF isDig u 0)).toNat=46∧0 < runF isDig u (runF isDig u 0+1) then runF isDig u 0+1+runF isDig u (runF isDig u 0+1) else runF isDig u 0:=rfl
  rw [hF] at h ⊢
  by_cases c2:(chr u (runF isDig u 0)).toNat=46∧0 < runF isDig u (runF isDig u 0+1)
  ·rw [if_pos c2] at hA
   rw [hA] at h ⊢
   exact run_max _ _ rfl h
  ·rw [if_neg c2] at hA
   rw [hA] at h ⊢
   have:=run_max (p:=isDig) (u:=u) _ 0 rfl (by omega)
   rwa [Nat.zero_add] at this
theorem take_same {u v:ByteArray}{n:Nat}(hc:(takeF u).code=0)(hn:(takeF u).n=n)(h0:0 < n)(ha:Agb u v n)(hu:n≤u.size)(hv:n < v.size)
  (hb:(chr v n=32∧(takeF u).kind≠0)∨(chr v n=chr u n∧n < u.size∧((takeF u).kind=2→(chr u n).toNat≠46))):takeF v=takeF u:=by
 have hT:∀s,takeF s=if skipF s < 0 then⟨0,0,eS,21,⟨#[47,42]⟩⟩
   else if 0 < skipF s then⟨(skipF s).toNat,0,eS,0,eS⟩
   else if isLet (chr s 0)=true then(if 64 < runF isWrd s 0 then⟨0,0,eS,20,s.extract 0 (runF isWrd s 0)⟩ else⟨runF isWrd s 0,1,s.extract 0 (runF isWrd s 0),0,eS⟩)
   else if isDig (chr s 0)=true then
    (if numB s=true∨isLet (chr s (numF s))=true then⟨0,0,eS,22,s.extract 0 (numF s+runF isWrd s (numF s))⟩ else⟨numF s,2,s.extract 0 (numF s),0,eS⟩)
   else if(chr s 0).toNat=34 then(if(quoF s 1 ⟨#[]⟩).2.2=true then⟨(quoF s 1 ⟨#[]⟩).1,3,(quoF s 1 ⟨#[]⟩).2.1,0,eS⟩ else⟨0,0,eS,21,⟨#[34]⟩⟩)
   else if isSgn (chr s 0)=true then⟨1,4,s.extract 0 1,0,eS⟩
   else⟨0,0,eS,20,s.extract 0 1⟩:=fun s=>rfl
 have hbv:chr v n=32∨chr v n=chr u n:=hb.imp (fun h=>h.1) (fun h=>h.1)
 have h00:=ha 0 h0
 by_cases c1:skipF u < 0
 ·rw [hT u,if_pos c1] at hc;cases hc
 by_cases c2:0 < skipF u
 ·have e:=hT u
  rw [if_neg c1,if_pos c2] at e
  have hn2:(skipF u).toNat=n:=by rw [e] at hn;exact hn
  have hs:skipF u=(n:Int):=by omega
  rcases hb with⟨-,hb⟩|⟨hb1,hb2,-⟩
  ·rw [e] at hb;exact absurd rfl hb
  ·have ha1:Agb u v (n+1):=fun i hi=>by
    by_cases hi2:i < n
    ·exact ha i hi2
    ·rw [show i=n by omega];exact hb1
   have hs2:=skip_same h0 hs ha1 hb2 hv
   rw [e,hT v,hs2,if_neg (by omega),if_pos (by omega),hs]
 ·have hs:skipF u=0:=by omega
  have hs2:=skip_zero h0 hs ha hu hbv
  have e:=hT u
  rw [if_neg c1,if_neg c2] at e
  rw [hT v,hs2,if_neg (by decide),if_neg (by decide),h00]
  by_cases c3:isLet (chr u 0)=true
  ·rw [if_pos c3] at e ⊢
   by_cases c4:64 < runF isWrd u 0
   ·rw [if_pos c4] at e;rw [e] at hc;cases hc
   ·rw [if_neg c4] at e
    have hr:runF isWrd u 0=n:=by rw [e] at hn;exact hn
    have hw:isWrd (chr v n)=false:=by
     rcases hb with⟨h,-⟩|⟨h,h2,-⟩
     ·rw [h];decide
     ·rw [h]
      have:=run_max (p:=isWrd) (u:=u) _ 0 rfl (by omega)
      rwa [Nat.zero_add,hr] at this
    have hrv:runF isWrd v 0=runF isWrd u 0:=run_same ha hu hv hw n 0 (by omega) (by omega) (by omega)
    rw [hrv,if_neg c4,e,ext_same ha hu (by omega) (by omega)]
  ·rw [if_neg c3] at e ⊢
   by_cases c4:isDig (chr u 0)=true
   ·rw [if_pos c4] at e ⊢
    by_cases c5:numB u=true∨isLet (chr u (numF u))=true
    ·rw [if_pos c5] at e;rw [e] at hc;cases hc
    ·rw [if_neg c5] at e
     have hr:numF u=n:=by rw [e] at hn;exact hn
     have hk:(takeF u).kind=2:=by rw [e]
     have hx:isDig (chr v n)=false∧isLet (chr v n)=false∧(chr v n).toNat≠46:=by
      rcases hb with⟨h,-⟩|⟨h,h2,h3⟩
      ·rw [h];exact⟨by decide,by decide,by decide⟩
      ·rw [h]
       refine⟨?_,?_,h3 hk⟩
       ·have:=num_end (u:=u) (by omega)
        rwa [hr] at this
       ·cases h9:isLet (chr u n) with
        |false=>rfl
        |true=>exact absurd (Or.inr (by rw [hr];exact h9)) c5
     obtain⟨e1,e2⟩:=num_same hr ha hu hv hx.1 hx.2.1 hx.2.2
     rw [e1,e2,if_neg (by
      rintro(h|h)
      ·exact c5 (Or.inl h)
      ·rw [hx.2.1] at h;cases h),e,hr,ext_same ha hu (by omega) (by omega)]
   ·rw [if_neg c4] at e ⊢
    by_cases c5:(chr u 0).toNat=34
    ·rw [if_pos c5] at e ⊢
     by_cases c6:(quoF u 1 ⟨#[]⟩).2.2=true
     ·rw [if_pos c6] at e
      have hq:quoF u 1 ⟨#[]⟩=(n,(quoF u 1 ⟨#[]⟩).2.1,true):=by
       have h1:(quoF u 1 ⟨#[]⟩).1=n:=by rw [e] at hn;exact hn
       rw [← h1,← c6]
      have hq2:=quo_same ha hu (by omega) 1 _ hq
      rw [hq2,if_pos rfl,e,hq]
     ·rw [if_neg c6] at e;rw [e] at hc;cases hc
    ·rw [if_neg c5] at e ⊢
     by_cases c6:isSgn (chr u 0)=true
     ·rw [if_pos c6] at e ⊢
      have hr:1=n:=by rw [e] at hn;exact hn
      rw [e,ext_same ha hu (by omega) (by omega)]
     ·rw [if_neg c6] at e;rw [e] at hc;cases hc
theorem take_dot {u:ByteArray}(h:(chr u 0).toNat=46):(takeF u).code≠0:=by
 have e:chr u 0=46:=UInt8.toNat_inj.1 h
 have hs:skipF u=0:=by
  unfold skipF
  rw [e,if_neg (by decide),if_pos (Or.inl (by decide))]
 have hT:takeF u=⟨0,0,eS,20,u.extract 0 1⟩:=by
  unfold takeF
  rw [hs,if_neg (by decide),if_neg (by decide),e,if_neg (by decide),if_neg (by decide),if_neg (by decide),if_neg (by decide)]
 rw [hT]
 exact Nat.succ_ne_zero 19
theorem place_same {u v:ByteArray}:∀n,Agb u v n→placeF v n=placeF u n
 |0,_=>rfl
 |n+1,h=>by
  rw [placeF,placeF,h n (Nat.lt_succ_self _),place_same n (h.weak (Nat.le_succ _))]
theorem all_same (s : ByteArray) (a : Nat) (has : a ≤ s.size) (j : Nat) (t : Tok) (ht : (allF s a).1[j]? = some t) (hk : t.kind ≠ 0) :
    ∃ p r, a ≤ p ∧ p < s.size ∧ r = takeF (s.extract p s.size) ∧ r.code = 0 ∧ r.kind ≠ 0 ∧ 0 < r.n ∧ p + r.n ≤ s.size ∧ t = ⟨r.kind, r.text, (placeF s p).1, (placeF s p).2⟩ ∧
      ∀ y : ByteArray, Agb s y (p + r.n) → p + r.n < y.size → chr y (p + r.n) = 32 → ∀ i, i ≤ j → (allF y a).1[i]? = (allF s a).1[i]? := by
  have hS : allF s a = if h : a < s.size then
    if (takeF (s.extract a s.size)).code ≠ 0 then ([], some ⟨(takeF (s.extract a s.size)).code, (placeF s a).1, (placeF s a).2, (takeF (s.extract a s.size)).word⟩)
    else if hn : 0 < (takeF (s.extract a s.size)).n then
      (if (takeF (s.extract a s.size)).kind ≠ 0 then (⟨(takeF (s.extract a s.size)).kind, (takeF (s.extract a s.size)).text, (placeF s a).1, (placeF s a).2⟩ :: (allF s (a + (takeF (s.extract a s.size)).n)).1, (allF s (a + (takeF (s.extract a s.size)).n)).2)
       else allF s (a + (takeF (s.extract a s.size)).n))
    else ([], none)
  else ([⟨0, eS, (placeF s s.size).1, (placeF s s.size).2⟩], none) := by rw [allF]
  by_cases hlt : a < s.size
  · rw [dif_pos hlt] at hS
    have hz : (s.extract a s.size).size = s.size - a := ext_size (Nat.le_refl _)
    by_cases hc : (takeF (s.extract a s.size)).code ≠ 0
    · rw [if_pos hc] at hS
      rw [hS] at ht
      simp at ht
    · rw [if_neg hc] at hS
      have hc0 : (takeF (s.extract a s.size)).code = 0 := Decidable.not_not.1 hc
      have hp := takeF_prog (s := s.extract a s.size) (by omega) hc0
      rw [dif_pos hp.1] at hS
      have hY : ∀ y : ByteArray, a < y.size → takeF (y.extract a y.size) = takeF (s.extract a s.size) → allF y a = if (takeF (s.extract a s.size)).kind ≠ 0 then (⟨(takeF (s.extract a s.size)).kind, (takeF (s.extract a s.size)).text, (placeF y a).1, (placeF y a).2⟩ :: (allF y (a + (takeF (s.extract a s.size)).n)).1, (allF y (a + (takeF (s.extract a s.size)).n)).2)
          else allF y (a + (takeF (s.extract a s.size)).n) := fun y hy e => by
        rw [allF, dif_pos hy, e, if_neg hc, dif_pos hp.1]
      have hag : ∀ (y : ByteArray) (m : Nat), Agb s y (a + m) → a + m ≤ s.size → a + m ≤ y.size → Agb (s.extract a s.size) (y.extract a y.size) m := fun y m h h1 h2 i hi => by
        rw [ext_chr (by omega), ext_chr (by omega)]
        exact h _ (by omega)
      generalize hr : takeF (s.extract a s.size) = r at *
      have next : ∀ (p : Nat) (q : TkR) (y : ByteArray), a + r.n ≤ p → p + q.n ≤ s.size → 0 < q.n → (∃ x l, (allF s (a + r.n)).1 = x :: l) → Agb s y (p + q.n) → p + q.n < y.size → takeF (y.extract a y.size) = r := fun p q y h1 h2 h3 hne h4 h5 => by
        rw [← hr]
        have hyz : (y.extract a y.size).size = y.size - a := ext_size (Nat.le_refl _)
        refine take_same (n := r.n) (by rw [hr]; exact hc0) (by rw [hr]) hp.1 (hag y _ (h4.weak (by omega)) (by omega) (by omega)) (by omega) (by omega) (Or.inr ⟨?_, by omega, fun hk2 => ?_⟩)
        · rw [ext_chr (by omega), ext_chr (by omega)]
          exact h4 _ (by omega)
        · intro h46
          obtain ⟨x, l, hne⟩ := hne
          have hd := take_dot (u := s.extract (a + r.n) s.size) (by
            rw [ext_chr (by omega)] at h46 ⊢
            exact h46)
          rw [allF, dif_pos (by omega), if_pos hd] at hne
          cases hne
      by_cases hk0 : r.kind ≠ 0
      · rw [if_pos hk0] at hS
        cases j with
        | zero =>
          rw [hS] at ht
          simp at ht
          refine ⟨a, r, Nat.le_refl _, hlt, hr.symm, hc0, hk0, hp.1, by omega, ht.symm, fun y h1 h2 h3 i hi => ?_⟩
          obtain rfl : i = 0 := by omega
          have hyz : (y.extract a y.size).size = y.size - a := ext_size (Nat.le_refl _)
          have e : takeF (y.extract a y.size) = r := by
            rw [← hr]
            refine take_same (n := r.n) (by rw [hr]; exact hc0) (by rw [hr]) hp.1 (hag y _ h1 (by omega) (by omega)) (by omega) (by omega) (Or.inl ⟨?_, by rw [hr]; exact hk0⟩)
            rw [ext_chr (by omega)]; exact h3
          rw [hY y (by omega) e, if_pos hk0, hS, place_same a (h1.weak (by omega))]; rfl
        | succ j =>
          rw [hS] at ht
          simp at ht
          have ht0 := ht
          obtain ⟨p, q, g1, g2, g3, g4, g5, g6, g7, g8, g9⟩ := all_same s (a + r.n) (by omega) j t ht hk
          refine ⟨p, q, by omega, g2, g3, g4, g5, g6, g7, g8, fun y h1 h2 h3 i hi => ?_⟩
          have hne : ∃ x l, (allF s (a + r.n)).1 = x :: l := by
            cases hq : (allF s (a + r.n)).1 with
            | nil => rw [hq] at ht0; simp at ht0
            | cons x l => exact ⟨x, l, rfl⟩
          have e := next p q y g1 g7 g6 hne h1 h2
          rw [hY y (by omega) e, if_pos hk0, hS, place_same a (h1.weak (by omega))]
          cases i with
          | zero => rfl
          | succ i => exact g9 y h1 h2 h3 i (by omega)
      · rw [if_neg hk0] at hS
        rw [hS] at ht
        have ht0 := ht
        obtain ⟨p, q, g1, g2, g3, g4, g5, g6, g7, g8, g9⟩ := all_same s (a + r.n) (by omega) j t ht hk
        refine ⟨p, q, by omega, g2, g3, g4, g5, g6, g7, g8, fun y h1 h2 h3 i hi => ?_⟩
        have hne : ∃ x l, (allF s (a + r.n)).1 = x :: l := by
          cases hq : (allF s (a + r.n)).1 with
          | nil => rw [hq] at ht0; simp at ht0
          | cons x l => exact ⟨x, l, rfl⟩
        have e := next p q y g1 g7 g6 hne h1 h2
        rw [hY y (by omega) e, if_neg hk0, hS]
        exact g9 y h1 h2 h3 i hi
  · rw [dif_neg hlt] at hS
    rw [hS] at ht
    cases j with
    | zero => simp at ht; rw [← ht] at hk; exact absurd rfl hk
    | succ j => simp at ht
termination_by s.size - a
end Go.Ev
