import Derived.Test.YthpoegdjffdojaaGreatDoorULai
set_option linter.all false
set_option maxHeartbeats 4000000
set_option maxRecDepth 10000
namespace Go.Ev
open Go.Proofs
def Nf (u v:ByteArray)(n:Nat):Prop:=∀i,i < n->ax v i=ax u i
theorem mH {s t:ByteArray}(hz:s.size=t.size)(h:∀i,i < s.size->ax s i=ax t i):s=t:=by
 apply P1;apply U9;show bs s=bs t;have l1:=aU s;have l2:=aU t;apply List.ext_getElem A8;intro i h1 h2;have:=h i A8;unfold ax at this;rw [C9,uz h1,C9,uz h2] at this;exact this
theorem dm {s:ByteArray}{a b:Nat}(h:b<=s.size):(s.extract a b).size=b - a:=by rw [F5];omega
theorem kt {u v:ByteArray}{n a b:Nat}(ha:Nf u v n)(hu:n<=u.size)(hv:n<=v.size)(hb:b<=n):v.extract a b=u.extract a b:=by
 refine mH (by rw [dm A8,dm A8]) fun i hi=>?_
 rw [dm A8] at hi;rw [cI A8,cI A8];exact ha _ A8
theorem lS {p:UInt8->Bool}{u v:ByteArray}{n:Nat}(ha:Nf u v n)(hu:n<=u.size)(hv:n < v.size)(hp:p (ax v n)=false):∀(d i:Nat),d=n - i->i<=n->i+ar p u i<=n->ar p v i=ar p u i
 |0,i,hd,hi,hr=>by
  obtain rfl:i=n:=by omega
  rw [na hv hp];omega
 |d+1,i,hd,hi,hr=>by
  have hc:=ha i A8
  cases hb:p (ax u i) with
  |true=>
   have e:=fj (p:=p) (s:=u) (i:=i) A8 hb;rw [fj A8 (by rw [hc];exact hb),e,lS ha hu hv hp d (i+1) A8 A8 A8]
  |false=>
   rw [na A8 (by rw [hc];exact hb),na A8 hb]
theorem oV {p:UInt8->Bool}{u:ByteArray}:∀(d i:Nat),d=u.size - i->i+ar p u i < u.size->p (ax u (i+ar p u i))=false
 |0,i,hd,h=>by omega
 |d+1,i,hd,h=>by
  cases hb:p (ax u i) with
  |true=>
   have e:=fj (p:=p) (s:=u) (i:=i) A8 hb;have:=oV (p:=p) (u:=u) d (i+1) A8 A8;rw [e];rw [show i+(ar p u (i+1)+1)=i+1+ar p u (i+1) by omega];exact this
  |false=>
   rw [na A8 hb];exact hb
theorem oQ (s:ByteArray)(i n:Nat)(hi:i<=s.size)(h:fJ s i=(n:Int)):i<=n:=by
 rw [fJ] at h;split at h
 ·split at h
  ·omega
  ·split at h
   ·omega
   ·have:=oQ s (i+1) n A8 h;omega
 ·split at h<;>omega
termination_by s.size - i
theorem tG {u v:ByteArray}{n:Nat}(ha:Nf u v (n+1))(hu:n < u.size)(hv:n < v.size)(h1:ax v 1=ax u 1)(i:Nat)(hi:i<=u.size)(h:fJ u i=(n:Int)):fJ v i=(n:Int):=by
 have hlo:=oQ u i n hi h;rw [fJ] at h |-;have hlt:i < u.size:=by omega
 rw [I2 hlt] at h;rw [I2 A8,h1,ha i A8];by_cases c1:(ax u 1).toNat=47/\(ax u i).toNat=10
 ·rw [if_pos c1] at h |-;exact h
 ·rw [if_neg c1] at h |-;by_cases c2:(ax u 1).toNat=42/\(ax u i).toNat=42/\(ax u (i+1)).toNat=47
  ·rw [if_pos c2] at h;rw [ha (i+1) A8,if_pos c2];exact h
  ·rw [if_neg c2] at h;have hlo2:=oQ u (i+1) n A8 h;rw [ha (i+1) A8,if_neg c2];exact tG ha hu hv h1 (i+1) A8 h
termination_by u.size - i
theorem Hi {u v:ByteArray}{n:Nat}(h0:0 < n)(hs:bf u=(n:Int))(ha:Nf u v (n+1))(hu:n < u.size)(hv:n < v.size):bf v=(n:Int):=by
 unfold bf at hs |-;rw [ha 0 A8];by_cases c1:gj (ax u 0)=true
 ·rw [if_pos c1] at hs |-;exact hs
 ·rw [if_neg c1] at hs |-;rw [ha 1 A8];by_cases c2:(ax u 0).toNat≠47\/((ax u 1).toNat≠47/\(ax u 1).toNat≠42)
  ·rw [if_pos c2] at hs;omega
  ·rw [if_neg c2] at hs |-;have hz:2<=u.size:=by omega
   exact tG ha hu hv (ha 1 A8) 2 hz hs
theorem Hh {u v:ByteArray}{n:Nat}(h0:0 < n)(hs:bf u=0)(ha:Nf u v n)(hu:n<=u.size)(hb:ax v n=32\/ax v n=ax u n):bf v=0:=by
 unfold bf at hs |-;rw [ha 0 h0];by_cases c1:gj (ax u 0)=true
 ·rw [if_pos c1] at hs;omega
 ·rw [if_neg c1] at hs |-;by_cases c2:(ax u 0).toNat≠47\/((ax u 1).toNat≠47/\(ax u 1).toNat≠42)
  ·refine if_pos ?_;rcases c2 with c2|c2
   ·exact Or.inl c2
   ·refine Or.inr ?_;by_cases hn:1 < n
    ·rw [ha 1 hn];exact c2
    ·obtain rfl:n=1:=by omega
     rcases hb with hb|hb
     ·rw [hb];decide
     ·rw [hb];exact c2
  ·rw [if_neg c2] at hs;exfalso
   have hz:2<=u.size:=by
    rcases G8 1 u.size with h9|h9
    ·exact h9
    ·have:=bU h9;rw [this] at c2;exact absurd (Or.inr ⟨by decide,by decide⟩) c2
   have:=oQ u 2 0 hz hs;omega
theorem tN {u v:ByteArray}{n:Nat}{w:ByteArray}(ha:Nf u v n)(hu:n<=u.size)(hv:n<=v.size)(i:Nat)(out:ByteArray)(h:dv u i out=(n,w,true)):dv v i out=(n,w,true):=by
 have hle:=kO u i out (by rw [h]);rw [h] at hle;simp only at hle;rw [dv] at h |-;have hlt:i < u.size:=by omega
 rw [I2 hlt] at h;rw [I2 A8,ha i A8];by_cases c1:(ax u i).toNat=34
 ·rw [if_pos c1] at h |-;exact h
 ·rw [if_neg c1] at h |-;by_cases c2:(ax u i).toNat=10
  ·rw [if_pos c2] at h;injection h with _ h;injection h with _ h;cases h
  ·rw [if_neg c2] at h |-;by_cases c3:(ax u i).toNat=92
   ·rw [if_pos c3] at h |-;by_cases c4:(ax u (i+1)).toNat≠34/\(ax u (i+1)).toNat≠92
    ·rw [if_pos c4] at h;injection h with _ h;injection h with _ h;cases h
    ·rw [if_neg c4] at h;have h2:=kO u (i+2) (out ++ sub u (i+1) 1) (by rw [h]);rw [h] at h2;simp only at h2;rw [ha (i+1) A8,if_neg c4];have e:sub v (i+1) 1=sub u (i+1) 1:=kt ha hu hv A8;rw [e];exact tN ha hu hv (i+2) _ h
   ·rw [if_neg c3] at h |-;have h2:=kO u (i+1) (out ++ sub u i 1) (by rw [h]);rw [h] at h2;simp only at h2;have e:sub v i 1=sub u i 1:=kt ha hu hv A8;rw [e];exact tN ha hu hv (i+1) _ h
termination_by u.size - i
theorem Li {u v:ByteArray}{n:Nat}(hn:aS u=n)(ha:Nf u v n)(hu:n<=u.size)(hv:n < v.size)(hd:ak (ax v n)=false)(hl:isLet (ax v n)=false)(h46:(ax v n).toNat≠46):aS v=n/\kh v=kh u:=by
 have hE9:(ax v n).toNat≠101/\(ax v n).toNat≠69:=by
  unfold isLet at hl;simp only [R7,S9,K6] at hl;omega
 have hAF:aI u<=n:=by
  unfold aS at hn;by_cases c:eM u
  ·rw [if_pos c] at hn;have:aI u+1<=bJ u:=by unfold bJ;split<;>omega
   omega
  ·rw [if_neg c] at hn;omega
 have hDA:ar ak u 0<=aI u:=by unfold aI;split<;>omega
 have eD:ar ak v 0=ar ak u 0:=lS ha hu hv hd n 0 A8 A8 A8
 have eA:aI v=aI u:=by
  have hA9:aI u=if(ax u (ar ak u 0)).toNat=46/\0 < ar ak u (ar ak u 0+1) then ar ak u 0+1+ar ak u (ar ak u 0+1) else ar ak u 0:=rfl
  have hB9:aI v=if(ax v (ar ak v 0)).toNat=46/\0 < ar ak v (ar ak v 0+1) then ar ak v 0+1+ar ak v (ar ak v 0+1) else ar ak v 0:=rfl
  rw [eD] at hB9;by_cases c:(ax u (ar ak u 0)).toNat=46/\0 < ar ak u (ar ak u 0+1)
  ·rw [if_pos c] at hA9;have e1:ar ak v (ar ak u 0+1)=ar ak u (ar ak u 0+1):=lS ha hu hv hd _ _ rfl A8 A8;rw [hB9,e1,ha _ A8,if_pos c,<- hA9]
  ·rw [if_neg c] at hA9;rw [hB9,if_neg,<- hA9];rintro⟨c1,c2⟩;by_cases hlt:ar ak u 0 < n
   ·have hE:eM u:=I4 fun hE=>by
     unfold aS at hn;rw [if_neg hE] at hn;omega
    have:=hE.1;rw [hA9] at this;rw [ha _ hlt] at c1;omega
   ·rw [show ar ak u 0=n by omega] at c1;exact h46 c1
 by_cases c:eM u
 ·have hn2:bJ u+ar ak u (bJ u)=n:=by
   unfold aS at hn;rw [if_pos c] at hn;exact hn
  have hK:aI u+1<=bJ u:=by unfold bJ;split<;>omega
  have hR:=c.2
  have eK:bJ v=bJ u:=by
   unfold bJ;rw [eA,ha (aI u+1) A8]
  have eR:ar ak v (bJ u)=ar ak u (bJ u):=lS ha hu hv hd _ _ rfl A8 A8
  have cv:eM v:=by
   unfold eM;rw [eA,eK,eR,ha _ A8];exact c
  refine⟨by unfold aS;rw [if_pos cv,eK,eR];exact hn2,?_⟩;unfold kh;rw [F9 c,F9 cv,eK,eR];have e:sub v (bJ u) (ar ak u (bJ u))=sub u (bJ u) (ar ak u (bJ u)):=kt ha hu A8 A8;rw [e]
 ·have hn2:aI u=n:=by
   unfold aS at hn;rw [if_neg c] at hn;exact hn
  have cv:¬eM v:=by
   intro h;have:=h.1;rw [eA,hn2] at this;omega
  refine⟨by unfold aS;rw [if_neg cv,eA];exact hn2,?_⟩;unfold kh;rw [G4 c,G4 cv];rfl
theorem OR {u:ByteArray}(h:aS u < u.size):ak (ax u (aS u))=false:=by
 have hF:aS u=if eM u then bJ u+ar ak u (bJ u) else aI u:=rfl
 by_cases c:eM u
 ·rw [if_pos c] at hF;rw [hF] at h |-;exact oV _ _ rfl h
 ·rw [if_neg c] at hF;have hA:aI u=if(ax u (ar ak u 0)).toNat=46/\0 < ar ak u (ar ak u 0+1) then ar ak u 0+1+ar ak u (ar ak u 0+1) else ar ak u 0:=rfl
  rw [hF] at h |-;by_cases c2:(ax u (ar ak u 0)).toNat=46/\0 < ar ak u (ar ak u 0+1)
  ·rw [if_pos c2] at hA;rw [hA] at h |-;exact oV _ _ rfl h
  ·rw [if_neg c2] at hA;rw [hA] at h |-;have:=oV (p:=ak) (u:=u) _ 0 rfl A8
   rwa [C2] at this
theorem GQ {u v:ByteArray}{n:Nat}(hc:(aH u).code=0)(hn:(aH u).n=n)(h0:0 < n)(ha:Nf u v n)(hu:n<=u.size)(hv:n < v.size)
  (hb:(ax v n=32/\(aH u).kind≠0)\/(ax v n=ax u n/\n < u.size/\((aH u).kind=2->(ax u n).toNat≠46))):aH v=aH u:=by
 have hT:∀s,aH s=if bf s < 0 then⟨0,0,eS,21,⟨#[47,42]⟩⟩
   else if 0 < bf s then⟨(bf s).toNat,0,eS,0,eS⟩
   else if isLet (ax s 0)=true then(if 64 < ar bp s 0 then⟨0,0,eS,20,s.extract 0 (ar bp s 0)⟩ else⟨ar bp s 0,1,s.extract 0 (ar bp s 0),0,eS⟩)
   else if ak (ax s 0)=true then
    (if kh s=true\/isLet (ax s (aS s))=true then⟨0,0,eS,22,s.extract 0 (aS s+ar bp s (aS s))⟩ else⟨aS s,2,s.extract 0 (aS s),0,eS⟩)
   else if(ax s 0).toNat=34 then(if(dv s 1 ⟨#[]⟩).2.2=true then⟨(dv s 1 ⟨#[]⟩).1,3,(dv s 1 ⟨#[]⟩).2.1,0,eS⟩ else⟨0,0,eS,21,⟨#[34]⟩⟩)
   else if Ri (ax s 0)=true then⟨1,4,s.extract 0 1,0,eS⟩
   else⟨0,0,eS,20,s.extract 0 1⟩:=fun s=>rfl
 have hbv:ax v n=32\/ax v n=ax u n:=hb.imp (fun h=>h.1) (fun h=>h.1);have h00:=ha 0 h0;by_cases c1:bf u < 0
 ·rw [hT u,if_pos c1] at hc;cases hc
 by_cases c2:0 < bf u
 ·have e:=hT u;rw [if_neg c1,if_pos c2] at e;have hn2:(bf u).toNat=n:=by rw [e] at hn;exact hn
  have hs:bf u=(n:Int):=by omega
  rcases hb with⟨-,hb⟩|⟨hb1,hb2,-⟩
  ·rw [e] at hb;exact absurd rfl hb
  ·have ha1:Nf u v (n+1):=fun i hi=>by
    by_cases hi2:i < n
    ·exact ha i hi2
    ·rw [show i=n by omega];exact hb1
   have hs2:=Hi h0 hs ha1 hb2 hv;rw [e,hT v,hs2,if_neg A8,if_pos A8,hs]
 ·have hs:bf u=0:=by omega
  have hs2:=Hh h0 hs ha hu hbv;have e:=hT u;rw [if_neg c1,if_neg c2] at e;rw [hT v,hs2,if_neg B3,if_neg B3,h00];by_cases c3:isLet (ax u 0)=true
  ·rw [if_pos c3] at e |-;by_cases c4:64 < ar bp u 0
   ·rw [if_pos c4] at e;rw [e] at hc;cases hc
   ·rw [if_neg c4] at e;have hr:ar bp u 0=n:=by rw [e] at hn;exact hn
    have hw:bp (ax v n)=false:=by
     rcases hb with⟨h,-⟩|⟨h,h2,-⟩
     ·rw [h];decide
     ·rw [h];have:=oV (p:=bp) (u:=u) _ 0 rfl A8
      rwa [C2,hr] at this
    have hrv:ar bp v 0=ar bp u 0:=lS ha hu hv hw n 0 A8 A8 A8;rw [hrv,if_neg c4,e,kt ha hu A8 A8]
  ·rw [if_neg c3] at e |-;by_cases c4:ak (ax u 0)=true
   ·rw [if_pos c4] at e |-;by_cases c5:kh u=true\/isLet (ax u (aS u))=true
    ·rw [if_pos c5] at e;rw [e] at hc;cases hc
    ·rw [if_neg c5] at e;have hr:aS u=n:=by rw [e] at hn;exact hn
     have hk:(aH u).kind=2:=by rw [e]
     have hx:ak (ax v n)=false/\isLet (ax v n)=false/\(ax v n).toNat≠46:=by
      rcases hb with⟨h,-⟩|⟨h,h2,h3⟩
      ·rw [h];exact⟨by decide,by decide,by decide⟩
      ·rw [h];refine⟨?_,?_,h3 hk⟩
       ·have:=OR (u:=u) A8
        rwa [hr] at this
       ·cases h9:isLet (ax u n) with
        |false=>rfl
        |true=>exact absurd (Or.inr (by rw [hr];exact h9)) c5
     obtain⟨e1,e2⟩:=Li hr ha hu hv hx.1 hx.2.1 hx.2.2
     rw [e1,e2,if_neg (by
      rintro(h|h)
      ·exact c5 (Or.inl h)
      ·rw [hx.2.1] at h;cases h),e,hr,kt ha hu A8 A8]
   ·rw [if_neg c4] at e |-;by_cases c5:(ax u 0).toNat=34
    ·rw [if_pos c5] at e |-;by_cases c6:(dv u 1 ⟨#[]⟩).2.2=true
     ·rw [if_pos c6] at e
      have hq:dv u 1 ⟨#[]⟩=(n,(dv u 1 ⟨#[]⟩).2.1,true):=by
       have h1:(dv u 1 ⟨#[]⟩).1=n:=by rw [e] at hn;exact hn
       rw [<- h1,<- c6]
      have hq2:=tN ha hu A8 1 _ hq;rw [hq2,if_pos rfl,e,hq]
     ·rw [if_neg c6] at e;rw [e] at hc;cases hc
    ·rw [if_neg c5] at e |-;by_cases c6:Ri (ax u 0)=true
     ·rw [if_pos c6] at e |-;have hr:1=n:=by rw [e] at hn;exact hn
      rw [e,kt ha hu A8 A8]
     ·rw [if_neg c6] at e;rw [e] at hc;cases hc
variable {W : fA}
open PS (cE)
theorem SA {oh oh1:OH}(z:Int)(d:Nat):LV oh oh1 (.agg [.af (.int .i8 1),.af (.bool (decide (z < 0))),.ro true (tn (lm z.natAbs)),.ro true (tn (lm d))]) (vT ⟨1,z,d⟩):=
 gg ⟨Lc.same _ trivial,Lc.same _ trivial,Lc.vM false _ (tn (lm z.natAbs)) (iT.ro _ _ fun h=>Bool.noConfusion h),Lc.vM false _ (tn (lm d)) (iT.ro _ _ fun h=>Bool.noConfusion h),trivial⟩
end Go.Ev
namespace Go.Ev
open Go.Proofs
variable {W : fA}
open PS (cE)
def SN (oh oh1:OH)(e:V)(t:T):Prop:=t.cells.length=e.cells.length/\∀(j:Nat) (v:V) (u:T),e.cells[j]?=some v->t.cells[j]?=some u->iT oh oh1 false v u
def VU (oh oh1:OH):List V->List T->Prop
 | [],[]=>True
 |e :: r,t :: s=>SN oh oh1 e t/\VU oh oh1 r s
 |_,_=>False
theorem BO {oh oh1:OH}:∀{el:List V} {ts:List T},VU oh oh1 el ts->el.length=ts.length/\∀(i:Nat) (e:V) (t:T),el[i]?=some e->ts[i]?=some t->SN oh oh1 e t
 | [],[],_=>⟨rfl,fun i e t h=>by simp at h⟩
 |a :: r,b :: s,h=>by
  obtain⟨h1,h2⟩:=BO h.2;refine⟨by simp [h1],fun i e t he ht=>?_⟩
  cases i with
  |zero=>simp at he ht;subst he;subst ht;exact h.1
  |succ i=>simp at he ht;exact h2 i e t he ht
 | [],_ :: _,h=>h.elim
 |_ :: _,[],h=>h.elim
theorem Ed {oh oh1:OH}{id ver len sz:Nat}{el:List V}{ts:List T}(ho:ae oh id=some ⟨sz,el,ver,true⟩)(hd:ae oh1 id=none)(hn:ts.length=len)(h:VU oh oh1 el ts):iT oh oh1 false (.own id ver 0 len) (.sl ts):=by
 obtain⟨h1,h2⟩:=BO h;refine .own id ver 0 len _ ts ho hd rfl rfl hn (fun i e t _ he ht=>(h2 i e t (by rw [<- he,C2]) ht).1) (fun i e t j v u _ he ht hv hu=>(h2 i e t (by rw [<- he,C2]) ht).2 j v u hv hu)
theorem sC {α:Type}{oh oh1:OH}{F:α->V}{G:α->T}(h:∀a,SN oh oh1 (F a) (G a)):∀l:List α,VU oh oh1 (l.map F) (l.map G)
 | []=>trivial
 |a :: r=>⟨h a,sC h r⟩
theorem PF {oh oh1:OH}{e:V}{t:T}(he:e.cells=[e])(ht:t.cells=[t])(h:iT oh oh1 false e t):SN oh oh1 e t:=by
 refine⟨by rw [he,ht];rfl,fun j v u h1 h2=>?_⟩;rw [he] at h1;rw [ht] at h2
 cases j with
 |zero=>simp at h1 h2;subst h1;subst h2;exact h
 |succ j=>simp at h1
theorem Vi {oh oh1:OH}(t:cE):SN oh oh1 (vT t) (tT t):=by
 refine⟨rfl,fun j v u h1 h2=>?_⟩
 match j with
 |0=>simp [vT,V.cells] at h1;simp [tT,T.cells] at h2;subst h1;subst h2;exact iT.af _
 |1=>simp [vT,V.cells] at h1;simp [tT,T.cells] at h2;subst h1;subst h2;exact iT.af _
 |2=>simp [vT,V.cells] at h1;simp [tT,T.cells] at h2;subst h1;subst h2;exact iT.ro _ _ fun h=>Bool.noConfusion h
 |3=>simp [vT,V.cells] at h1;simp [tT,T.cells] at h2;subst h1;subst h2;exact iT.ro _ _ fun h=>Bool.noConfusion h
 |j+4=>simp [vT,V.cells] at h1
theorem QL {oh oh1:OH}{id ver len:Nat}{l:List cE}(ho:ae oh id=some ⟨4,l.map vT,ver,true⟩)(hd:ae oh1 id=none)(hn:l.length=len):iT oh oh1 false (.own id ver 0 len) (CG l):=
 Ed ho hd (by rw [List.length_map];exact hn) (sC Vi l)
def vR (l:List cE):V:=.ro false (CG l)
def qh (L:List (List cE)):T:=.sl (L.map CG)
theorem Vj {oh oh1:OH}(l:List cE):SN oh oh1 (vR l) (CG l):=PF rfl rfl (iT.ro _ _ fun h=>Bool.noConfusion h)
end Go.Ev
namespace Go.Ev
open Go.Proofs
variable {W : fA}
open PS (cE)
theorem Bx (k:Int)(w:ByteArray)(σ:PS W):PS.aO k w σ.settle=PS.aO k w σ:=by
 unfold PS.aO;rw [dw]
 cases hB:σ.du k w with
 |true=>
  obtain⟨t,ht,-,-⟩:=PS.cj hB;rw [PS.az ht]
 |false=>rw [dO,if_neg B6,if_neg B6]
def tg (e:PS.eZ):V:=.agg [.af (.int .i8 e.kind),.ro false (jO e.given),.ro false (qh e.nums)]
theorem DS {oh oh1:OH}{t:T}(h:t=.sl []):Lc oh oh1 .emp (.ro false t):=by subst h;exact Lc.vM false _ (.sl []) iT.emp
theorem jz {oh oh1:OH}{t:List T}:Lc oh oh1 (.ro false (.sl t)) (.ro false (.sl t)):=Lc.same _ trivial
end Go.Ev
namespace Go.Ev
open Go.Proofs
variable {W : fA}
open PS (cE eZ)
theorem tV : ∀(k:Nat) (l:List ByteArray) (σ:PS W),(PS.fG k l σ).1.length+σ.at_<=l.length+(PS.fG k l σ).2.at_
 |0,_,_=>wU _
 |k+1,l,σ=>by
  rw [PS.fG];split
  ·rename_i h;have h1:=(PS.bq h B3).le;have h2:=(PS.dC 3 σ.aK).le;have h3:=(PS.aJ 4 PS.aV (PS.take 3 σ.aK).2).le;have h4:=tV k (l ++ [(PS.take 3 σ.aK).1]) (PS.aO 4 PS.aV (PS.take 3 σ.aK).2);rw [List.length_append,List.length_singleton] at h4;omega
  ·have:=(PS.bD σ).le;show l.length+σ.at_<=l.length+σ.settle.at_;omega
theorem HA (σ:PS W):(PS.props σ).1.length+σ.at_<=(PS.props σ).2.at_:=by
 have:=tV (W.L.length+1) [] σ;rw [M1,C2] at this;exact this
theorem Dr (k:Nat)(l:List ByteArray){σ:PS W}(h:σ.du 1 PS.eC=true):σ.at_+1<=(PS.fG (k+1) l σ).2.at_:=by
 rw [PS.fG,if_pos h];have h1:=(PS.bq h B3).le;have h2:=(PS.dC 3 σ.aK).le;have h3:=(PS.aJ 4 PS.aV (PS.take 3 σ.aK).2).le;have h4:=(PS.om k (l ++ [(PS.take 3 σ.aK).1]) (PS.aO 4 PS.aV (PS.take 3 σ.aK).2)).le;omega
def CI (e:eZ):T:=.agg [.af (.int .i8 e.kind),jO e.given,qh e.nums]
def NF (l:List eZ):T:=.sl (l.map CI)
theorem qf (e:eZ):(tg e).flat:=by
 intro v hv;simp at hv;rcases hv with rfl|rfl|rfl<;>trivial
theorem Jp (l:List eZ):∀e ∈ l.map tg,e.flat:=by
 intro e he;obtain⟨w,-,rfl⟩:=D4.1 he;exact qf w
theorem PG {oh oh1:OH}(e:eZ):SN oh oh1 (tg e) (CI e):=by
 refine⟨rfl,fun j v u h1 h2=>?_⟩
 match j with
 |0=>simp [tg,V.cells] at h1;simp [CI,T.cells] at h2;subst h1;subst h2;exact iT.af _
 |1=>simp [tg,V.cells] at h1;simp [CI,T.cells] at h2;subst h1;subst h2;exact iT.ro _ _ fun h=>Bool.noConfusion h
 |2=>simp [tg,V.cells] at h1;simp [CI,T.cells] at h2;subst h1;subst h2;exact iT.ro _ _ fun h=>Bool.noConfusion h
 |j+3=>simp [tg,V.cells] at h1
theorem QM {oh oh1:OH}{id ver len:Nat}{l:List eZ}(ho:ae oh id=some ⟨3,l.map tg,ver,true⟩)(hd:ae oh1 id=none)(hn:l.length=len):iT oh oh1 false (.own id ver 0 len) (NF l):=
 Ed ho hd (by rw [List.length_map];exact hn) (sC PG l)
def WB (p:PS.eY):V:=.agg [.af (.string p.name),.ro false (jO p.cX),.ro false (NF p.bg),.ro false (jO p.aN)]
abbrev Xm (W:fA):=PS W×List eZ×List ByteArray×(Nat×Nat)×(Nat×Nat)×Nat
end Go.Ev
namespace Go.Ev
open Go.Proofs
end Go.Ev
