import Derived.Test.YthpoegdjffdojaaGreatDoorULan
set_option linter.all false
set_option maxHeartbeats 4000000
set_option maxRecDepth 10000
namespace Go.Ev
open Go.Proofs
open PS (bV)
def pW (w:bV):List V:=w.map fun x=>V.af (.string (fS x))
def lH (st:fh):List V:=st.map fun x=>V.af (.int .i64 x.2)
structure IF (s:St)(st:fh)(ids vers:Nat->Nat)(v0 v1:Nat):Prop where
 e4:aA s.env 4=.own 0 v0 0 st.length
 e5:aA s.env 5=.own 1 v1 0 st.length
 o0:∃el:List V,ae s.oh 0=some ⟨1,el,v0,true⟩/\el.length=st.length/\∀(j:Nat) (x:bV×Nat),st[j]?=some x->el[j]?=some (V.own (ids j) (vers j) 0 x.1.length)
 o1:ae s.oh 1=some ⟨1,lH st,v1,true⟩
 oj:∀(j:Nat) (x:bV×Nat),st[j]?=some x->ae s.oh (ids j)=some ⟨1,pW x.1,vers j,true⟩
 inj:∀i j,i < st.length->j < st.length->ids i=ids j->i=j
 lo:∀j,j < st.length->2<=ids j
def Na (n:Nat)(ids ids1:Nat->Nat)(i:Nat):Nat:=
 if i < 2 then i else match(List.range n).find? (fun j=>decide (ids1 j=i)) with|some j=>ids j|none=>i
theorem Sn {n:Nat}{ids ids1:Nat->Nat}(inj:∀i j,i < n->j < n->ids1 i=ids1 j->i=j){j:Nat}(hj:j < n)(lo:2<=ids1 j):Na n ids ids1 (ids1 j)=ids j:=by
 unfold Na;rw [if_neg A8]
 cases h:(List.range n).find? (fun k=>decide (ids1 k=ids1 j)) with
 |none=>
  have:=List.find?_eq_none.1 h j (Y4.2 hj);simp at this
 |some k=>
  have h1:=List.find?_some h;have h2:=List.mem_of_find?_eq_some h;simp at h1;rw [inj k j (Y4.1 h2) hj h1]
def SR (e e1:Env):Prop:=∀t,t≠4->t≠5->aA e1 t=.undef\/((aA e1 t).flat/\aA e t=aA e1 t)
theorem qE {s s1:St}{st:fh}{ids ids1 vers:Nat->Nat}{v0 v1:Nat}(A:IF s st ids vers v0 v1)(B:IF s1 st ids1 (fun _=>0) 0 0)
  (dom:∀i o,ae s1.oh i=some o->i=0\/i=1\/∃j,j < st.length/\i=ids1 j) (hn:s1.n=s.n) (he:SR s.env s1.env):Lr s1 s:=by
 have mat:∀j,j < st.length->Na st.length ids ids1 (ids1 j)=ids j:=fun j hj=>Sn B.inj hj (B.lo j hj)
 have m0:Na st.length ids ids1 0=0:=if_pos B3;have m1:Na st.length ids ids1 1=1:=if_pos B3;obtain⟨el,a0,al,ael⟩:=A.o0;obtain⟨el1,b0,bl,bel⟩:=B.o0;refine⟨hn,Na st.length ids ids1,⟨fun i j o1 o2 h1 h2 e=>?_,fun i o1 h1=>?_⟩,fun t=>?_⟩
 ·rcases dom i o1 h1 with rfl|rfl|⟨a,ha,rfl⟩<;>rcases dom j o2 h2 with rfl|rfl|⟨b,hb,rfl⟩
  ·rfl
  ·rw [m0,m1] at e;exact e
  ·rw [m0,mat b hb] at e;have:=A.lo b hb;omega
  ·rw [m0,m1] at e;exact e
  ·rfl
  ·rw [m1,mat b hb] at e;have:=A.lo b hb;omega
  ·rw [m0,mat a ha] at e;have:=A.lo a ha;omega
  ·rw [m1,mat a ha] at e;have:=A.lo a ha;omega
  ·rw [mat a ha,mat b hb] at e;rw [A.inj a b ha hb e]
 ·rcases dom i o1 h1 with rfl|rfl|⟨a,ha,rfl⟩
  ·rw [b0] at h1;obtain rfl:=C6 h1;refine⟨⟨1,el,v0,true⟩,by rw [m0];exact a0,rfl,rfl,rfl,rfl,by show el1.length=el.length;omega,fun k e e1 h2 h3=>?_⟩;have hk:k < st.length:=by have h4:k < el.length:=(yK.1 h2).1;omega
   have hx:=uz hk;rw [show el[k]?=_ from ael k _ hx] at h2;rw [show el1[k]?=_ from bel k _ hx] at h3;obtain rfl:=C6 h2;obtain rfl:=C6 h3;show fg _ _ _ _ _;have hA:=A.oj k _ hx;have hB:=B.oj k _ hx;rw [<- mat k hk] at hA |-;exact .own _ _ _ _ _ hA rfl (by rw [hB];rfl)
  ·rw [B.o1] at h1;obtain rfl:=C6 h1;refine⟨⟨1,lH st,v1,true⟩,by rw [m1];exact A.o1,rfl,rfl,rfl,rfl,rfl,?_⟩
   exact nb fun v hv=>by
    obtain⟨x,-,rfl⟩:=D4.1 hv;exact trivial
  ·have hx:=uz ha;rw [B.oj a _ hx] at h1;obtain rfl:=C6 h1;refine⟨⟨1,pW st[a].1,vers a,true⟩,by rw [mat a ha];exact A.oj a _ hx,rfl,rfl,rfl,rfl,rfl,?_⟩
   exact nb fun v hv=>by
    obtain⟨x,-,rfl⟩:=D4.1 hv;exact trivial
 ·by_cases h4:t=4
  ·subst h4;refine .inr ?_;rw [A.e4,B.e4];show fg _ _ _ _ _;have:fg (Na st.length ids ids1) s.oh s1.oh (.own (Na st.length ids ids1 0) v0 0 st.length) (.own 0 0 0 st.length):=.own _ _ _ _ _ (by rw [m0];exact a0) rfl (by rw [b0];rfl)
   rwa [m0] at this
  ·by_cases h5:t=5
   ·subst h5;refine .inr ?_;rw [A.e5,B.e5];show fg _ _ _ _ _;have:fg (Na st.length ids ids1) s.oh s1.oh (.own (Na st.length ids ids1 1) v1 0 st.length) (.own 1 0 0 st.length):=.own _ _ _ _ _ (by rw [m1];exact A.o1) rfl (by rw [B.o1];rfl)
    rwa [m1] at this
   ·rcases he t h4 h5 with h|⟨h1,h2⟩
    ·exact .inl h
    ·rw [h2];exact .inr (qs h1)
section
variable {P : Program} {C : CT} {s : St} {Q : X -> St -> Prop}
theorem UQ {c:Code}(σ:Type)(enc:σ->St)(I:σ->Prop)(μ:σ->Nat)(ads:List (Nat×Nat×Nat))(z0:σ)(h0:pK s ads)(h1:I z0)(h2:Le (enc z0) (gL s ads))
  (h:∀z,I z->cK P C c (enc z) (X.seq (fun s'=>∃z',I z'/\μ z' < μ z/\Lr (enc z') s') Q)):cK P C (.loop c) s Q:=
 ⟨.le,.lr,σ,enc,I,μ,ads,z0,h0,h1,h2,h⟩
theorem RM {a b:Code}(σ:Type)(enc:σ->St)(I:σ->Prop)(h2:∀z,I z->cK P C b (enc z) Q)(h:∀R:St->Prop,(∀s' z,I z->Lr (enc z) s'->R s')->cK P C a s (X.seq R Q)):cK P C (.seq a b) s Q:=
 Or.inr (h _ fun _ z hz hl=>⟨.lr,enc z,hl,h2 z hz⟩)
end
def iL : Nat->fh->List V
 |_,[]=>[]
 |b,x :: r=>.own (100+b) 0 0 x.1.length :: iL (b+1) r
def ko : Nat->fh->OH
 |_,[]=>[]
 |b,x :: r=>(100+b,⟨1,pW x.1,0,true⟩) :: ko (b+1) r
theorem bj : ∀(st:fh) (b:Nat),(iL b st).length=st.length
 | [],_=>rfl
 |x :: r,b=>by rw [iL,B9,bj r,B9]
theorem pe : ∀(st:fh) (b j:Nat) (x:bV×Nat),st[j]?=some x->(iL b st)[j]?=some (.own (100+(b+j)) 0 0 x.1.length)
 | [],_,_,_,h=>by simp at h
 |y :: r,b,0,x,h=>by
  obtain rfl:y=x:=by simpa using h
  rfl
 |y :: r,b,j+1,x,h=>by
  have:=pe r (b+1) j x (by simpa using h);rw [show b+1+j=b+(j+1) by omega] at this;exact this
theorem kS : ∀(st:fh) (b j:Nat) (x:bV×Nat),st[j]?=some x->ae (ko b st) (100+(b+j))=some ⟨1,pW x.1,0,true⟩
 | [],_,_,_,h=>by simp at h
 |y :: r,b,0,x,h=>by
  obtain rfl:y=x:=by simpa using h
  exact an _ _ _
 |y :: r,b,j+1,x,h=>by
  have:=kS r (b+1) j x (by simpa using h);rw [show b+1+j=b+(j+1) by omega] at this;rw [ko,ah _ _ A8];exact this
theorem pC : ∀(st:fh) (b i:Nat) (o:Obj),ae (ko b st) i=some o->∃j,j < st.length/\i=100+(b+j)
 | [],_,_,_,h=>by cases h
 |y :: r,b,i,o,h=>by
  rw [ko] at h;by_cases e:100+b=i
  ·exact⟨0,D0 _,by omega⟩
  ·rw [ah _ _ (H5 e)] at h;obtain⟨j,hj,rfl⟩:=pC r (b+1) i o h;exact⟨j+1,Nat.succ_lt_succ hj,by omega⟩
theorem eU {st:fh}{b i:Nat}(h:i < 100):ae (ko b st) i=none:=by
 cases e:ae (ko b st) i with
 |none=>rfl
 |some o=>obtain⟨j,-,rfl⟩:=pC st b i o e;omega
theorem ju {c:Nat}{o:Obj}{r R:OH}(hc:c < 100)(h:∀i,100<=i->ae r i=ae R i):∀i,100<=i->ae ((c,o) :: r) i=ae R i:=fun i hi=>by
 rw [ah _ _ A8];exact h i hi
theorem nY {R:OH}:∀i,100<=i->ae R i=ae R i:=fun _ _=>rfl
def tj (N:Nat)(j:Nat):Nat:=if j < N then 100+j else j - N+2
theorem mV {N j:Nat}(h:j < N):tj N j=100+j:=if_pos h
theorem iI {N j:Nat}(h:N<=j):tj N j=j - N+2:=if_neg A8
theorem Ax (N:Nat){M:Nat}(hM:M<=N+90):∀i j,i < M->j < M->tj N i=tj N j->i=j:=by
 intro i j hi hj h;unfold tj at h;split at h<;>split at h<;>omega
theorem EY (N j:Nat):2<=tj N j:=by unfold tj;split<;>omega
theorem ou {n:Nat}{e:Env}{st:fh}(h4:aA e 4=.own 0 0 0 st.length)(h5:aA e 5=.own 1 0 0 st.length) :
  IF ⟨n,e,(0,⟨1,iL 0 st,0,true⟩) :: (1,⟨1,lH st,0,true⟩) :: ko 0 st⟩ st (fun j=>100+j) (fun _=>0) 0 0:=by
 refine⟨h4,h5,⟨_,rfl,bj st 0,fun j x h=>?_⟩,rfl,fun j x h=>?_,fun i j _ _ h=>by omega,fun j _=>by omega⟩
 ·have:=pe st 0 j x h
  rwa [C2] at this
 ·have:=kS st 0 j x h;rw [C2] at this;show ae ((0,_) :: (1,_) :: ko 0 st) (100+j)=_;rw [ah _ _ A8,ah _ _ A8];exact this
theorem sI {st:fh}{o0 o1:Obj}:∀i o,ae ((0,o0) :: (1,o1) :: ko 0 st) i=some o->i=0\/i=1\/∃j,j < st.length/\i=100+j:=by
 intro i o h;by_cases e0:i=0
 ·exact .inl e0
 ·by_cases e1:i=1
  ·exact .inr (.inl e1)
  ·rw [ah _ _ e0,ah _ _ e1] at h;obtain⟨j,hj,rfl⟩:=pC st 0 i o h;exact .inr (.inr ⟨j,hj,by omega⟩)
theorem Sm {n:Nat}{e:Env}{r:fh}{x:bV×Nat}(h4:aA e 4=.own 0 0 0 (r ++ [x]).length)(h5:aA e 5=.own 1 0 0 (r ++ [x]).length) :
  IF ⟨n,e,(0,⟨1,iL 0 r ++ [.own 2 0 0 x.1.length],0,true⟩) :: (1,⟨1,lH r ++ [.af (.int .i64 x.2)],0,true⟩) :: (2,⟨1,pW x.1,0,true⟩) :: ko 0 r⟩ (r ++ [x]) (tj r.length) (fun _=>0) 0 0:=by
 have ln:(r ++ [x]).length=r.length+1:=by simp
 have at_:∀(j:Nat) (y:bV×Nat),(r ++ [x])[j]?=some y->(j < r.length/\r[j]?=some y)\/(j=r.length/\y=x):=by
  intro j y h;rcases G8 j r.length with hj|hj
  ·rw [C5 hj] at h;exact .inl ⟨hj,h⟩
  ·rw [IX hj] at h;obtain⟨k,rfl⟩:∃k,j=r.length+k:=⟨j - r.length,by omega⟩
   rw [H4] at h
   match k,h with
   |0,h=>exact .inr ⟨rfl,by simpa using h.symm⟩
   |k+1,h=>simp at h
 refine⟨h4,h5,⟨_,rfl,by rw [List.length_append,bj,ln];rfl,fun j y h=>?_⟩,?_,fun j y h=>?_,fun i j hi hj=>Ax _ (by rw [ln];omega) i j hi hj,fun j _=>EY _ _⟩
 ·rcases at_ j y h with⟨hj,h⟩|⟨rfl,rfl⟩
  ·rw [mV hj,C5 (by rw [bj];exact hj)];have:=pe r 0 j y h
   rwa [C2] at this
  ·rw [iI (wU _),H6,IX (by rw [bj];exact wU _),bj,H6];rfl
 ·show some _=some _;rw [lH,lH,G7];rfl
 ·rcases at_ j y h with⟨hj,h⟩|⟨rfl,rfl⟩
  ·rw [mV hj];show ae ((0,_) :: (1,_) :: (2,_) :: ko 0 r) (100+j)=_;rw [ah _ _ A8,ah _ _ A8,ah _ _ A8];have:=kS r 0 j y h
   rwa [C2] at this
  ·rw [iI (wU _),H6];rfl
theorem OO {r:fh}{x:bV×Nat}{o0 o1 o2:Obj}:∀i o,ae ((0,o0) :: (1,o1) :: (2,o2) :: ko 0 r) i=some o->i=0\/i=1\/∃j,j < (r ++ [x]).length/\i=tj r.length j:=by
 intro i o h;have ln:(r ++ [x]).length=r.length+1:=by simp
 by_cases e0:i=0
 ·exact .inl e0
 ·by_cases e1:i=1
  ·exact .inr (.inl e1)
  ·by_cases e2:i=2
   ·exact .inr (.inr ⟨r.length,by omega,by rw [iI (wU _)];omega⟩)
   ·rw [ah _ _ e0,ah _ _ e1,ah _ _ e2] at h;obtain⟨j,hj,rfl⟩:=pC r 0 i o h;exact .inr (.inr ⟨j,by omega,by rw [mV hj];omega⟩)
theorem Sl {n:Nat}{e:Env}{r:fh}{x y:bV×Nat}(h4:aA e 4=.own 0 0 0 (r ++ [x,y]).length)(h5:aA e 5=.own 1 0 0 (r ++ [x,y]).length) :
  IF ⟨n,e,(0,⟨1,iL 0 r ++ [.own 2 0 0 x.1.length,.own 3 0 0 y.1.length],0,true⟩) :: (1,⟨1,lH r ++ [.af (.int .i64 x.2),.af (.int .i64 y.2)],0,true⟩) :: (2,⟨1,pW x.1,0,true⟩) :: (3,⟨1,pW y.1,0,true⟩) :: ko 0 r⟩ (r ++ [x,y]) (tj r.length) (fun _=>0) 0 0:=by
 have ln:(r ++ [x,y]).length=r.length+2:=by simp
 have at_:∀(j:Nat) (z:bV×Nat),(r ++ [x,y])[j]?=some z->(j < r.length/\r[j]?=some z)\/(j=r.length/\z=x)\/(j=r.length+1/\z=y):=by
  intro j z h;rcases G8 j r.length with hj|hj
  ·rw [C5 hj] at h;exact .inl ⟨hj,h⟩
  ·rw [IX hj] at h;obtain⟨k,rfl⟩:∃k,j=r.length+k:=⟨j - r.length,by omega⟩
   rw [H4] at h
   match k,h with
   |0,h=>exact .inr (.inl ⟨rfl,by simpa using h.symm⟩)
   |1,h=>exact .inr (.inr ⟨rfl,by simpa using h.symm⟩)
   |k+2,h=>simp at h
 refine⟨h4,h5,⟨_,rfl,by rw [List.length_append,bj,ln];rfl,fun j z h=>?_⟩,?_,fun j z h=>?_,fun i j hi hj=>Ax _ (by rw [ln];omega) i j hi hj,fun j _=>EY _ _⟩
 ·rcases at_ j z h with⟨hj,h⟩|⟨rfl,rfl⟩|⟨rfl,rfl⟩
  ·rw [mV hj,C5 (by rw [bj];exact hj)];have:=pe r 0 j z h
   rwa [C2] at this
  ·rw [iI (wU _),H6,IX (by rw [bj];exact wU _),bj,H6];rfl
  ·rw [iI A8,H4,IX (by rw [bj];omega),bj,H4];rfl
 ·show some _=some _;rw [lH,lH,G7];rfl
 ·rcases at_ j z h with⟨hj,h⟩|⟨rfl,rfl⟩|⟨rfl,rfl⟩
  ·rw [mV hj];show ae ((0,_) :: (1,_) :: (2,_) :: (3,_) :: ko 0 r) (100+j)=_;rw [ah _ _ A8,ah _ _ A8,ah _ _ A8,ah _ _ A8];have:=kS r 0 j z h
   rwa [C2] at this
  ·rw [iI (wU _),H6];rfl
  ·rw [iI A8,H4];rfl
theorem Nz {r:fh}{x y:bV×Nat}{o0 o1 o2 o3:Obj}:∀i o,ae ((0,o0) :: (1,o1) :: (2,o2) :: (3,o3) :: ko 0 r) i=some o->i=0\/i=1\/∃j,j < (r ++ [x,y]).length/\i=tj r.length j:=by
 intro i o h;have ln:(r ++ [x,y]).length=r.length+2:=by simp
 by_cases e0:i=0
 ·exact .inl e0
 ·by_cases e1:i=1
  ·exact .inr (.inl e1)
  ·by_cases e2:i=2
   ·exact .inr (.inr ⟨r.length,by omega,by rw [iI (wU _)];omega⟩)
   ·by_cases e3:i=3
    ·exact .inr (.inr ⟨r.length+1,by omega,by rw [iI A8];omega⟩)
    ·rw [ah _ _ e0,ah _ _ e1,ah _ _ e2,ah _ _ e3] at h;obtain⟨j,hj,rfl⟩:=pC r 0 i o h;exact .inr (.inr ⟨j,by omega,by rw [mV hj];omega⟩)
theorem yt {s:St}{r:fh}{z:bV×Nat}{a va v0 v1 N M:Nat}{D E W:List V}(h4:aA s.env 4=.own 0 v0 0 N)(hN:N=r.length+1)(h5:aA s.env 5=.own 1 v1 0 M)(hM:M=r.length+1)
  (o0:ae s.oh 0=some ⟨1,E,v0,true⟩) (hE:E=iL 0 r ++ [.own a va 0 z.1.length]) (o1:ae s.oh 1=some ⟨1,D,v1,true⟩) (hD:D=lH r ++ [.af (.int .i64 z.2)]) (oa:ae s.oh a=some ⟨1,W,va,true⟩) (hW:W=pW z.1)
  (h2:2<=a) (h3:a < 100) (sk:∀i,100<=i->ae s.oh i=ae (ko 0 r) i):IF s (r ++ [z]) (fun j=>if j < r.length then 100+j else a) (fun j=>if j < r.length then 0 else va) v0 v1:=by
 have ln:(r ++ [z]).length=r.length+1:=by simp
 have at_:∀(j:Nat) (y:bV×Nat),(r ++ [z])[j]?=some y->(j < r.length/\r[j]?=some y)\/(j=r.length/\y=z):=by
  intro j y h;rcases G8 j r.length with hj|hj
  ·rw [C5 hj] at h;exact .inl ⟨hj,h⟩
  ·rw [IX hj] at h;obtain⟨k,rfl⟩:∃k,j=r.length+k:=⟨j - r.length,by omega⟩
   rw [H4] at h
   match k,h with
   |0,h=>exact .inr ⟨rfl,by simpa using h.symm⟩
   |k+1,h=>simp at h
 subst hE hW;refine⟨by rw [h4,hN,ln],by rw [h5,hM,ln],⟨_,o0,by rw [List.length_append,bj,ln];rfl,fun j y h=>?_⟩,?_,fun j y h=>?_,fun i j hi hj h=>?_,fun j _=>?_⟩
 ·rcases at_ j y h with⟨hj,h⟩|⟨rfl,rfl⟩
  ·rw [if_pos hj,if_pos hj,C5 (by rw [bj];exact hj)];have:=pe r 0 j y h
   rwa [C2] at this
  ·rw [if_neg (S8 _),if_neg (S8 _),IX (by rw [bj];exact wU _),bj,H6];rfl
 ·rw [o1,hD,lH,lH,G7];rfl
 ·rcases at_ j y h with⟨hj,h⟩|⟨rfl,rfl⟩
  ·rw [if_pos hj,if_pos hj,sk _ A8];have:=kS r 0 j y h
   rwa [C2] at this
  ·rw [if_neg (S8 _),if_neg (S8 _)];exact oa
 ·split at h<;>split at h<;>omega
 ·split<;>omega
end Go.Ev
