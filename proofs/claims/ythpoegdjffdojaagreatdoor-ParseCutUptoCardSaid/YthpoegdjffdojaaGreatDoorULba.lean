import Derived.Test.YthpoegdjffdojaaGreatDoorULaz
set_option linter.all false
set_option maxHeartbeats 4000000
set_option maxRecDepth 10000
namespace Go.Ev
open Go.Proofs
theorem jA (b c:UInt8)(l:List UInt8):Lib.indexByte (b :: l) c=if b=c then 0 else if Lib.indexByte l c = -1 then -1 else Lib.indexByte l c+1:=by
 rw [Lib.indexByte];by_cases h:b=c
 ·simp [h]
 ·simp [h]
theorem xa (l:List UInt8)(c:UInt8) : -1<=Lib.indexByte l c:=Lib.indexByte_ge l c
theorem Pt (b:UInt8)(l u:List UInt8):Lib.index (b :: l) u=if u.isPrefixOf (b :: l)=true then 0 else if Lib.index l u = -1 then -1 else Lib.index l u+1:=by
 rw [Lib.index];by_cases h:u.isPrefixOf (b :: l)=true
 ·simp [h]
 ·simp [h]
theorem LD (l u:List UInt8) : -1<=Lib.index l u:=Lib.index_ge l u
theorem jB {s:ByteArray}{i:Nat}{b:UInt8}:ax s i=b↔(ax s i).toNat=b.toNat:=UInt8.toNat_inj.symm
theorem nX (s:ByteArray)(h1:(ax s 1).toNat=47)(i:Nat)(hi:i<=s.size):fJ s i=if Lib.indexByte ((bs s).drop i) 10 = -1 then(s.size:Int) else i+Lib.indexByte ((bs s).drop i) 10:=by
 rw [fJ];by_cases hlt:i < s.size
 ·rw [I2 hlt,drop_at hlt,jA];have hg:=xa ((bs s).drop (i+1)) 10;by_cases h2:(ax s i).toNat=10
  ·have h3:ax s i=10:=jB.2 h2;rw [if_pos ⟨h1,h2⟩,if_pos h3,if_neg B3];omega
  ·have h3:¬ax s i=10:=fun h=>h2 (by rw [h];rfl)
   rw [if_neg (fun h=>h2 h.2),if_neg (fun h=>absurd h.1 A8),if_neg h3,nX s h1 (i+1) hlt];by_cases h4:Lib.indexByte ((bs s).drop (i+1)) 10 = -1
   ·rw [if_pos h4,if_pos h4,if_pos rfl]
   ·rw [if_neg h4,if_neg h4,if_neg A8];omega
 ·rw [O4 hlt,if_pos h1];have:(bs s).drop i=[]:=I7 (by rw [aU];omega);rw [this];rfl
termination_by s.size - i
theorem Fq (l:List UInt8)(b:UInt8):([42,47]:List UInt8).isPrefixOf (b :: l)=true↔b=42/\l.head?=some 47:=by
 cases l with
 |nil=>simp [List.isPrefixOf]
 |cons c r=>
  simp [List.isPrefixOf];constructor
  ·rintro⟨h,k⟩;exact⟨h.symm,k.symm⟩
  ·rintro⟨h,k⟩;exact⟨h.symm,k.symm⟩
theorem Ce (s:ByteArray)(i:Nat):(ax s i).toNat=47↔((bs s).drop i).head?=some 47:=by
 rcases G8 i s.size with h|h
 ·rw [drop_at h,List.head?_cons];constructor
  ·intro h2;have h3:ax s i=47:=jB.2 h2;rw [h3]
  ·intro h2;rw [C6 h2];rfl
 ·rw [bU h,I7 (by rw [aU];omega)];constructor
  ·intro h2;exact absurd h2 B3
  ·intro h2;cases h2
theorem rp (s:ByteArray)(h1:(ax s 1).toNat=42)(i:Nat)(hi:i<=s.size):fJ s i=if Lib.index ((bs s).drop i) [42,47] = -1 then -1 else i+Lib.index ((bs s).drop i) [42,47]+2:=by
 rw [fJ];by_cases hlt:i < s.size
 ·rw [I2 hlt,drop_at hlt,Pt,if_neg (fun h=>absurd h.1 A8)];have hg:=LD ((bs s).drop (i+1)) [42,47];by_cases h2:(ax s i).toNat=42/\(ax s (i+1)).toNat=47
  ·have h3:([42,47]:List UInt8).isPrefixOf (ax s i :: (bs s).drop (i+1))=true:=(Fq _ _).2 ⟨jB.2 h2.1,(Ce s _).1 h2.2⟩;rw [if_pos ⟨h1,h2⟩,if_pos h3,if_neg B3];omega
  ·have h3:¬([42,47]:List UInt8).isPrefixOf (ax s i :: (bs s).drop (i+1))=true:=fun h=>by
    obtain⟨e1,e2⟩:=(Fq _ _).1 h;exact h2 ⟨by rw [e1];rfl,(Ce s _).2 e2⟩
   rw [if_neg (fun h=>h2 h.2),if_neg h3,rp s h1 (i+1) hlt];by_cases h4:Lib.index ((bs s).drop (i+1)) [42,47] = -1
   ·rw [if_pos h4,if_pos h4,if_pos rfl]
   ·rw [if_neg h4,if_neg h4,if_neg A8];omega
 ·rw [O4 hlt,if_neg A8];have:(bs s).drop i=[]:=I7 (by rw [aU];omega);rw [this];rfl
termination_by s.size - i
theorem Da (s:ByteArray)(h0:(ax s 0).toNat=47)(h1:(ax s 1).toNat=47):bf s=if Lib.indexByte (bs s) 10 = -1 then(s.size:Int) else Lib.indexByte (bs s) 10:=by
 have l1:1 < s.size:=by
  rcases G8 1 s.size with h|h
  ·exact h
  ·rw [bU h] at h1;exact absurd h1 B3
 have e0:gj (ax s 0)=false:=by unfold gj;simp [h0]
 unfold bf;rw [if_neg (by rw [e0];decide),if_neg (fun h=>h.elim (fun h=>h h0) (fun h=>h.1 h1)),nX s h1 2 l1]
 have hd:bs s=ax s 0 :: ax s 1 :: (bs s).drop 2:=by
  have:=drop_at (s:=s) (i:=0) A8;rw [F4] at this;rw [<- drop_at l1];exact this
 have e1:Lib.indexByte (bs s) 10=if Lib.indexByte ((bs s).drop 2) 10 = -1 then -1 else Lib.indexByte ((bs s).drop 2) 10+2:=by
  have hg:=xa ((bs s).drop 2) 10;have n0:¬ax s 0=10:=fun h=>by rw [h] at h0;exact absurd h0 B3
  have n1:¬ax s 1=10:=fun h=>by rw [h] at h1;exact absurd h1 B3
  rw [hd,jA,jA,<- hd,if_neg n0,if_neg n1];by_cases h4:Lib.indexByte ((bs s).drop 2) 10 = -1
  ·rw [if_pos h4,if_pos rfl,if_pos h4]
  ·rw [if_neg h4,if_neg A8,if_neg h4];omega
 rw [e1];have hg:=xa ((bs s).drop 2) 10;by_cases h4:Lib.indexByte ((bs s).drop 2) 10 = -1
 ·rw [if_pos h4,if_pos h4,if_pos rfl]
 ·rw [if_neg h4,if_neg h4,if_neg A8];omega
theorem rm (s:ByteArray)(h0:(ax s 0).toNat=47)(h1:(ax s 1).toNat=42):bf s=if Lib.index ((bs s).drop 2) [42,47] = -1 then -1 else Lib.index ((bs s).drop 2) [42,47]+4:=by
 have l1:1 < s.size:=by
  rcases G8 1 s.size with h|h
  ·exact h
  ·rw [bU h] at h1;exact absurd h1 B3
 have e0:gj (ax s 0)=false:=by unfold gj;simp [h0]
 unfold bf;rw [if_neg (by rw [e0];decide),if_neg (fun h=>h.elim (fun h=>h h0) (fun h=>h.2 h1)),rp s h1 2 l1];by_cases h4:Lib.index ((bs s).drop 2) [42,47] = -1
 ·rw [if_pos h4,if_pos h4]
 ·rw [if_neg h4,if_neg h4];omega
theorem My (s:ByteArray)(a b:UInt8)(ha:a≠0)(hb:b≠0):preB s ⟨#[a,b]⟩=decide (ax s 0=a/\ax s 1=b):=by
 unfold preB;rw [P8,C7,E5,E5,W0,jD,jD];have e1:(⟨#[a,b]⟩:ByteArray).size=2:=rfl;rw [e1]
 have e2:(s.extract 0 2).data.toList=(bs s).take 2:=by
  have:=jH s 0 2;rw [F4] at this;exact this
 rw [e2];show 2<=s.size/\(bs s).take 2=[a,b]↔_;rw [<- aU];unfold ax
 match hq:bs s with
 | []=>simp;intro h;exact absurd h.symm ha
 | [x]=>simp;intro _ h;exact absurd h.symm hb
 |x :: y :: r=>simp
def eG (s:ByteArray)(a:Nat):Nat×Bool:=
 if h:a < s.size then
  if bf (s.extract a s.size) < 0 then(a,false)
  else if h2:0 < bf (s.extract a s.size) then eG s (a+(bf (s.extract a s.size)).toNat)
  else(a,true)
 else(a,true)
termination_by s.size - a
decreasing_by have:=bf (s.extract a s.size);omega
theorem Ep (s:ByteArray)(a:Nat)(ha:a<=s.size):a<=(eG s a).1/\(eG s a).1<=s.size:=by
 rw [eG];split
 ·rename_i h;split
  ·exact⟨wU _,ha⟩
  ·split
   ·rename_i h2;have h3:=jW (s:=s.extract a s.size) (by rw [F5];omega);rw [F5] at h3;have:=Ep s (a+(bf (s.extract a s.size)).toNat) A8;omega
   ·exact⟨wU _,ha⟩
 ·exact⟨wU _,ha⟩
termination_by s.size - a
def Ab (s:ByteArray)(a l c:Nat):V:=.agg [.af (.string s),.af (.int .i64 a),.af (.int .i64 l),.af (.int .i64 c)]
def iz (s:ByteArray)(a l c:Nat):OH:=[(0,⟨4,[Ab s a l c],0,true⟩)]
theorem mh (s:ByteArray)(a l c:Nat):(Ab s a l c).flat:=by
 intro v hv;simp at hv;rcases hv with rfl|rfl|rfl|rfl<;>trivial
theorem jI {s:ByteArray}{a l c:Nat}{oh:OH}:∀v ∈ [Ab s a l c],v.cl oh:=by
 intro v hv;obtain rfl:=HQ.1 hv;exact(mh s a l c).cl oh
theorem FN (s:ByteArray)(a l c:Nat):∀i o,ae (iz s a l c) i=some o->o.ver=0/\o.live=true/\∀v ∈ o.el,v.cl (iz s a l c):=by
 intro i o h;obtain⟨rfl,rfl⟩:=aR h;exact⟨rfl,rfl,jI⟩
theorem FO (s:ByteArray)(a l c a' l' c':Nat){nw:List Nat}:∀i o,ae (iz s a' l' c') i=some o->(ae (iz s a l c) i).isSome=true\/i ∈ nw:=by
 intro i o h;obtain⟨rfl,rfl⟩:=aR h;exact .inl rfl
theorem uB {s:ByteArray}{a l c a' l' c':Nat}{i:Nat}{o:Obj}(h:ae (iz s a' l' c' ++ iz s a l c) i=some o):i=0/\o=⟨4,[Ab s a' l' c'],0,true⟩:=by
 by_cases h0:i=0
 ·subst h0;have e:ae (iz s a' l' c' ++ iz s a l c) 0=some ⟨4,[Ab s a' l' c'],0,true⟩:=rfl;rw [e] at h;exact⟨rfl,(C6 h).symm⟩
 ·rw [show iz s a' l' c' ++ iz s a l c=[(0,_),(0,_)] from rfl,ae,if_neg (H5 h0),ae,if_neg (H5 h0)] at h;cases h
theorem FP (s:ByteArray)(a l c a' l' c':Nat):∀i o o',ae (iz s a l c) i=some o->ae (iz s a' l' c' ++ iz s a l c) i=some o'->o'.ver=0->o'.live=true->o'.sz=o.sz/\o.el.length<=o'.el.length:=by
 intro i o o' h1 h2 h3 h4;obtain⟨rfl,rfl⟩:=uB h2;obtain⟨-,rfl⟩:=aR h1;exact⟨rfl,wU _⟩
theorem DP {t:St}{vs:List V}{s:ByteArray}{a l c a' l' c' np:Nat}{e:List V}(hs:ae t.oh 0=some ⟨4,e,0,true⟩)(hnp:0 < np)(hv:vs[0]?=some (.ref 0 0 0 0))(he:aA t.env 0=.ref 0 0 0 0) :
  ∀i o o',ae (iz s a l c) i=some o->ae (iz s a' l' c' ++ iz s a l c) i=some o'->o'.ver=0->Qp np vs t i o:=by
 intro i o o' h1 h2 h3;obtain⟨rfl,rfl⟩:=uB h2;obtain⟨-,rfl⟩:=aR h1;exact⟨D0 _,⟨_,hs,rfl,rfl,rfl⟩,0,_,hnp,hv,he,⟨rfl,rfl⟩⟩
theorem Lt {t:St}{s:ByteArray}{a l c a' l' c':Nat}(hs:ae t.oh 0=some ⟨4,[Ab s a' l' c'],0,true⟩):Bm t.oh (iz s a' l' c' ++ iz s a l c):=by
 intro i o h;obtain⟨rfl,rfl⟩:=uB h;refine⟨_,hs,rfl,rfl,rfl,rfl,fun k e e1 he he1=>?_⟩;rw [he] at he1;obtain rfl:e=e1:=by simpa using he1
 cases k with
 |zero=>
  obtain rfl:Ab s a' l' c'=e:=by simpa using he
  refine⟨rfl,fun j x y hx hy=>?_⟩;rw [hx] at hy;obtain rfl:x=y:=by simpa using hy
  have hm:=MH hx;simp at hm;rcases hm with rfl|rfl|rfl|rfl<;>exact .af _
 |succ k=>simp at he
theorem Pg {P:Program}{fn:Func}{t:St}{vs:List V}{s:ByteArray}{a l c a' l' c' np:Nat}{x:X}(hx:match x with|.exit _=>False|_=>True)(hr:fn.results.toList=[])(hs:ae t.oh 0=some ⟨4,[Ab s a' l' c'],0,true⟩)(hnp:0 < np)(hv:vs[0]?=some (.ref 0 0 0 0))(he:aA t.env 0=.ref 0 0 0 0) :
  iR P fn np (iz s a l c) vs (iz s a' l' c') (.ba []) x t:=by
 refine⟨hx,false,t,rfl,DP hs hnp hv he,Lt hs,?_⟩;rw [hr]
def iZ (s:ByteArray)(a:Nat)(l c:Nat):Nat->Nat×Nat
 |0=>(l,c)
 |k+1=>if(ax s (a+k)).toNat=10 then((iZ s a l c k).1+1,1) else((iZ s a l c k).1,(iZ s a l c k).2+1)
theorem Ah (s:ByteArray)(a l c:Nat):∀k,(iZ s a l c k).1<=l+k/\(iZ s a l c k).2<=c+k+1
 |0=>⟨wU _,by simp [iZ]⟩
 |k+1=>by
  have:=Ah s a l c k;rw [iZ];split<;>(simp only;omega)
def tB (b:UInt8):T:=.af (.int .u8 b.toNat)
theorem Xf {l:List UInt8}{i:Nat}{b:UInt8}(h:l[i]?=some b):(l.map tB)[i]?=some (tB b):=by
 rw [Zf,h];rfl
theorem OB (s:ByteArray)(a l c n:Nat)(hs:s.size<=1073741824)(ha:a+n<=s.size)(hl:l<=1073741825)(hc:c<=1073741825) :
  jP Tryz.prog 83 (iz s a l c) [] [.ref 0 0 0 0,.af (.int .i64 n)] (iz s (a+n) (iZ s a l c n).1 (iZ s a l c n).2) (.ba []):=by
 refine di bN mix 2 (zO rfl) Tryz.func83 rfl rfl B1 B1 (zO rfl) ?wf ?vs ?po ?le ?_
 case wf=>exact FN _ _ _ _
 case vs=>
  intro v hv;simp at hv;rcases hv with rfl|rfl
  ·exact rfl
  ·trivial
 case po=>exact FO _ _ _ _ _ _ _
 case le=>exact FP _ _ _ _ _ _ _
 have hsz:(s.extract a (a+n)).size=n:=by rw [F5];omega
 have h47:(s.extract a (a+n)).size<=140737488355328:=by omega
 obtain⟨B,hB⟩:∃B:List UInt8,B=(s.extract a (a+n)).data.toList:=⟨_,rfl⟩
 have hBl:B.length=n:=by rw [hB,J1];exact hsz
 have hBk:∀k,k < n->B[k]?=some (ax s (a+k)):=by
  intro k hk
  have h1:B=((bs s).drop a).take n:=by
   rw [hB];show bs (s.extract a (a+n))=_;unfold bs;rw [V4,T3,T8]
   congr 1;omega
  rw [h1,E8 hk,G0];have h2:a+k < (bs s).length:=by rw [aU];omega
  unfold ax;rw [List.getD,uz h2];rfl
 have hlen:V.af (.int .i64 (((s.extract a (a+n)).data.toList.map tB).length:Int))=.af (.int .i64 n):=by rw [List.length_map,<- hB,hBl]
 have hro:V.ro true (.sl ((s.extract a (a+n)).data.toList.map tB))=.ro true (.sl (B.map tB)):=by rw [hB]
 repeat'(first|(refine UO h47 ?_)|(with_reducible first|(refine zz ?_;try intro K hK)|refine zi ?_|refine zh ?_)|((first|apply hK _ _ rfl|apply hK);clear hK K)|(guard_hyp hK;first|refine zx ?_|apply ab|apply aa|refine zW ?_|intro b0 hb)|((first|refine zj ?_|guard_hyp hK);refine zY ?_ ?_;all_goals(intro hb;(try simp only [sn,sb] at hb);try exact ao)))
 refine aT Nat (fun k=>⟨Tryz.f83.ntmps,[(0,.ref 0 0 0 0),(1,.af (.int .i64 n)),(21,.ro true (.sl (B.map tB))),(22,.af (.int .i64 n)),(23,.af (.int .i64 k))],[(0,⟨4,[Ab s a (iZ s a l c k).1 (iZ s a l c k).2],0,true⟩)]⟩) (fun k=>k<=n) (fun k=>n - k) [] 0 trivial (C0 _) ⟨rfl,⟨rfl,rfl,rfl,trivial,hro,trivial,hlen,trivial,rfl,trivial,trivial⟩,⟨rfl,trivial⟩,⟨jI,trivial⟩⟩ ?_;intro k hk;have hw:=Ah s a l c k;by_cases hlt:k < n
 ·have hbk:=hBk k hlt
  repeat'(first|(refine Sk _ (UO (Xf hbk) ?_))|(with_reducible first|(refine zz ?_;try intro K hK)|refine zi ?_|refine zh ?_)|((first|apply hK _ _ rfl|apply hK);clear hK K)|(guard_hyp hK;first|refine zx ?_|apply ab|apply aa|refine zW ?_|intro b0 hb)|((first|refine zj ?_|guard_hyp hK);refine zY ?_ ?_;all_goals(intro hb;(try simp only [sn,sb] at hb);try exact ao)))
  ·refine⟨k+1,hlt,by omega,rfl,⟨rfl,rfl,rfl,trivial,rfl,trivial,rfl,trivial,rfl,trivial,trivial⟩,⟨?_,trivial⟩,⟨jI,trivial⟩⟩;rw [iZ,if_pos A8];rfl
  ·refine⟨k+1,hlt,by omega,rfl,⟨rfl,rfl,rfl,trivial,rfl,trivial,rfl,trivial,rfl,trivial,trivial⟩,⟨?_,trivial⟩,⟨jI,trivial⟩⟩;rw [iZ,if_neg A8];rfl
 ·obtain rfl:k=n:=by omega
  repeat'(first|(with_reducible first|(refine zz ?_;try intro K hK)|refine zi ?_|refine zh ?_)|((first|apply hK _ _ rfl|apply hK);clear hK K)|(guard_hyp hK;first|refine zx ?_|apply ab|apply aa|refine zW ?_|intro b0 hb)|((first|refine zj ?_|guard_hyp hK);refine zY ?_ ?_;all_goals(intro hb;(try simp only [sn,sb] at hb);try exact ao)))
  exact Pg trivial rfl rfl B3 rfl rfl
theorem sT (s:ByteArray)(a:Nat):∀k,iZ s a (aj s a).1 (aj s a).2 k=aj s (a+k)
 |0=>rfl
 |k+1=>by
  rw [iZ,sT s a k,<- P0,aj]
def Cv (s:ByteArray)(a:Nat):OH:=iz s a (aj s a).1 (aj s a).2
theorem lZ (s:ByteArray)(a n:Nat)(hs:s.size<=1073741824)(ha:a+n<=s.size):jP Tryz.prog 83 (Cv s a) [] [.ref 0 0 0 0,.af (.int .i64 n)] (Cv s (a+n)) (.ba []):=by
 have hp:=qD s a;have h:=OB s a (aj s a).1 (aj s a).2 n hs ha A8 A8;rw [sT] at h;exact h
theorem yL {P:Program}{fn:Func}{t:St}{vs:List V}{s:ByteArray}{a l c a' l' c' np i:Nat}{r:V}{x:X}(hx:match x with|.exit _=>False|_=>True)(hr:fn.results.toList=[.tmp i])(hi:∃v,aA t.env i=.af v/\r=.af v)(hs:ae t.oh 0=some ⟨4,[Ab s a' l' c'],0,true⟩)(hnp:0 < np)(hv:vs[0]?=some (.ref 0 0 0 0))(he:aA t.env 0=.ref 0 0 0 0) :
  iR P fn np (iz s a l c) vs (iz s a' l' c') r x t:=by
 obtain⟨v,hi,rfl⟩:=hi;refine⟨hx,false,t,rfl,DP hs hnp hv he,Lt hs,?_⟩;rw [hr];show vB _ _ (aA t.env i) (.af v);rw [hi];exact .af v
theorem PZ (b:UInt8):gj b=true↔0<=Lib.indexByte [32,9,10,13] b:=by
 by_cases h1:b=32
 ·subst h1;decide
 by_cases h2:b=9
 ·subst h2;decide
 by_cases h3:b=10
 ·subst h3;decide
 by_cases h4:b=13
 ·subst h4;decide
 have f:Lib.indexByte [] b = -1:=rfl;rw [jA,jA,jA,jA,if_neg (H5 h1),if_neg (H5 h2),if_neg (H5 h3),if_neg (H5 h4),f];have g1:b.toNat≠32:=fun h=>h1 (I3.1 h)
 have g2:b.toNat≠9:=fun h=>h2 (I3.1 h)
 have g3:b.toNat≠10:=fun h=>h3 (I3.1 h)
 have g4:b.toNat≠13:=fun h=>h4 (I3.1 h)
 unfold gj;simp [g1,g2,g3,g4]
theorem Hj {s:ByteArray}(h0:(ax s 0).toNat=47)(h1:(ax s 1).toNat=47\/(ax s 1).toNat=42)(h:0<=bf s):0 < bf s:=by
 have l1:1 < s.size:=by
  rcases G8 1 s.size with h9|h9
  ·exact h9
  ·rw [bU h9] at h1;rcases h1 with h1|h1<;>exact absurd h1 B3
 rcases h1 with h1|h1
 ·have e0:gj (ax s 0)=false:=by unfold gj;simp [h0]
  have e1:bf s=fJ s 2:=by
   unfold bf;rw [if_neg (by rw [e0];decide),if_neg (fun h=>h.elim (fun h=>h h0) (fun h=>h.1 h1))]
  have e2:=nX s h1 2 l1;have hg:=xa ((bs s).drop 2) 10;rw [e1,e2];split<;>omega
 ·have e1:=rm s h0 h1;have hg:=LD ((bs s).drop 2) [42,47];rw [e1] at h |-;split<;>rename_i h9
  ·rw [if_pos h9] at h;omega
  ·omega
theorem Iy (s:ByteArray)(a:Nat)(hs:s.size<=1073741824)(ha:a<=s.size) :
  jP Tryz.prog 78 (Cv s a) [] [.ref 0 0 0 0] (Cv s (eG s a).1) (.af (.bool (eG s a).2)):=by
 unfold Cv;refine di bN mix 1 (zO rfl) Tryz.func78 rfl rfl B1 B1 (zO rfl) ?wf ?vs ?po ?le ?_
 case wf=>exact FN _ _ _ _
 case vs=>
  intro v hv;simp at hv;rcases hv with rfl;exact rfl
 case po=>exact FO _ _ _ _ _ _ _
 case le=>exact FP _ _ _ _ _ _ _
 repeat'(first|(with_reducible first|(refine zz ?_;try intro K hK)|refine zi ?_|refine zh ?_)|((first|apply hK _ _ rfl|apply hK);clear hK K)|(guard_hyp hK;first|refine zx ?_|apply ab|apply aa|refine zW ?_|intro b0 hb)|((first|refine zj ?_|guard_hyp hK);refine zY ?_ ?_;all_goals(intro hb;(try simp only [sn,sb] at hb);try exact ao)))
 refine aT Nat (fun k=>⟨Tryz.f78.ntmps,[(0,.ref 0 0 0 0),(2,.af (.bool false))],[(0,⟨4,[Ab s k (aj s k).1 (aj s k).2],0,true⟩)]⟩) (fun k=>k<=s.size/\eG s k=eG s a) (fun k=>s.size - k) [] a trivial ⟨ha,rfl⟩ ⟨rfl,⟨rfl,rfl,rfl,trivial,trivial⟩,⟨rfl,trivial⟩,⟨jI,trivial⟩⟩ ?_;rintro k ⟨hk,hbl⟩;rw [<- hbl];have hul:(s.extract k s.size).size=s.size - k:=by rw [F5];omega
 have hemp:(s.extract k s.size).toList=(⟨#[]⟩:ByteArray).toList↔s.size<=k:=by
  constructor
  ·intro h;have:=B4 ByteArray.size (mF h);rw [hul] at this;have e:(⟨#[]⟩:ByteArray).size=0:=rfl;omega
  ·intro h
   have:(s.extract k s.size)=⟨#[]⟩:=by
    apply P1;have h2:(s.extract k s.size).data.size=0:=by rw [show(s.extract k s.size).data.size=(s.extract k s.size).size from rfl,hul];omega
    exact O7 h2
   rw [this]
 by_cases h0:k < s.size
 ·have hne:¬(s.extract k s.size).toList=(⟨#[]⟩:ByteArray).toList:=fun h=>by have:=hemp.1 h;omega
  rw [eG,I2 h0] at hbl |-;have hp1:=kA (s.extract k s.size) ⟨#[47,47]⟩ A8 B3;have hp2:=kA (s.extract k s.size) ⟨#[47,42]⟩ A8 B3;rw [My _ 47 47 B3 B3] at hp1;rw [My _ 47 42 B3 B3] at hp2
  have hlz:∀i,(ax (s.extract k s.size) i).toNat≠0->i < s.size - k:=fun i h=>by
   rcases G8 i (s.size - k) with h9|h9
   ·exact h9
   ·rw [bU A8] at h;exact absurd rfl h
  have hpu:=fun n hn=>lZ s k n hs hn
  unfold Cv at hpu
  have hbn:∀m:Nat,bf (s.extract k s.size)=m->0 < m->eG s (k+m)=eG s a:=by
   intro m h1 h2;rw [if_neg A8,I2 A8,h1] at hbl;rw [<- hbl];simp
  have hset:eG s k=eG s a:=by rw [eG,I2 h0];exact hbl
  by_cases c1:ax (s.extract k s.size) 0=47/\ax (s.extract k s.size) 1=47
  ·rw [F9 c1] at hp1;have hi:=lb (s.extract k s.size) 10;have hsk:=Da (s.extract k s.size) (jB.1 c1.1) (jB.1 c1.2);have hge:=xa (bs (s.extract k s.size)) 10;have hle:=jW (s:=s.extract k s.size) A8;have hpo:0 < bf (s.extract k s.size):=Hj (jB.1 c1.1) (.inl (jB.1 c1.2)) (by rw [hsk];split<;>omega);have e0:Lib.indexByte (s.extract k s.size).data.toList 10=Lib.indexByte (bs (s.extract k s.size)) 10:=rfl;rw [e0] at hi;by_cases c2:Lib.indexByte (bs (s.extract k s.size)) 10 = -1
   ·rw [if_pos c2] at hsk;rw [c2] at hi;have hps:=hpu (s.extract k s.size).size A8;have hb9:=hbn _ hsk A8;rw [hbl]
    repeat'(first|(with_reducible first|(refine zz ?_;try intro K hK)|refine zi ?_|refine zh ?_)|((first|apply hK _ _ rfl|apply hK);clear hK K)|(guard_hyp hK;first|refine zx ?_|apply ab|apply aa|refine zW ?_|(refine zQ (hp1) ?_)|(refine zQ (hi) ?_)|refine zg ([]) (hps) (iz s k (aj s k).1 (aj s k).2) ([]) (iz s (k+(s.extract k s.size).size) (aj s (k+(s.extract k s.size).size)).1 (aj s (k+(s.extract k s.size).size)).2) (.ba []) ?_|intro b0 hb)|((first|refine zj ?_|guard_hyp hK);refine zY ?_ ?_;all_goals(intro hb;(try simp only [sn,sb] at hb);try exact ao)))
    ·exact absurd hb hne
    ·exact⟨_,⟨by omega,hb9⟩,by omega,rfl,⟨rfl,rfl,rfl,trivial,trivial⟩,⟨rfl,trivial⟩,⟨jI,trivial⟩⟩
   ·rw [if_neg c2] at hsk;obtain⟨m,hm⟩:∃m:Nat,Lib.indexByte (bs (s.extract k s.size)) 10=m:=⟨_,(S0 A8).symm⟩
    rw [hm] at hi hsk;have hps:=hpu m A8;have hb9:=hbn _ hsk A8;rw [hbl]
    repeat'(first|(with_reducible first|(refine zz ?_;try intro K hK)|refine zi ?_|refine zh ?_)|((first|apply hK _ _ rfl|apply hK);clear hK K)|(guard_hyp hK;first|refine zx ?_|apply ab|apply aa|refine zW ?_|(refine zQ (hp1) ?_)|(refine zQ (hi) ?_)|refine zg ([]) (hps) (iz s k (aj s k).1 (aj s k).2) ([]) (iz s (k+m) (aj s (k+m)).1 (aj s (k+m)).2) (.ba []) ?_|intro b0 hb)|((first|refine zj ?_|guard_hyp hK);refine zY ?_ ?_;all_goals(intro hb;(try simp only [sn,sb] at hb);try exact ao)))
    ·exact absurd hb hne
    ·exact⟨_,⟨by omega,hb9⟩,by omega,rfl,⟨rfl,rfl,rfl,trivial,trivial⟩,⟨rfl,trivial⟩,⟨jI,trivial⟩⟩
  rw [G4 c1] at hp1;by_cases c3:ax (s.extract k s.size) 0=47/\ax (s.extract k s.size) 1=42
  ·rw [F9 c3] at hp2;have hl2:=hlz 1 (by rw [jB.1 c3.2];decide);have hsk:=rm (s.extract k s.size) (jB.1 c3.1) (jB.1 c3.2);have hge:=LD ((bs (s.extract k s.size)).drop 2) [42,47];have hle:=jW (s:=s.extract k s.size) A8;obtain⟨u,hu⟩:∃u:ByteArray,u=(s.extract k s.size).extract 2 (s.extract k s.size).size:=⟨_,rfl⟩
   have hul2:u.size=s.size - k - 2:=by rw [hu,F5];omega
   have hub:u.data.toList=(bs (s.extract k s.size)).drop 2:=by
    have:=jH (s.extract k s.size) 2 ((s.extract k s.size).size - 2);unfold sub at this;rw [show 2+((s.extract k s.size).size - 2)=(s.extract k s.size).size by omega,<- hu,B7 (by rw [List.length_drop,aU];omega)] at this;exact this
   have hi:=MU u ⟨#[42,47]⟩ A8;rw [hub,show(⟨#[42,47]⟩:ByteArray).data.toList=[42,47] from rfl] at hi;rw [hu] at hi;clear hu hul2 hub;by_cases c2:Lib.index ((bs (s.extract k s.size)).drop 2) [42,47] = -1
   ·rw [if_pos c2] at hsk;rw [c2] at hi;rw [if_pos A8]
    repeat'(first|(with_reducible first|(refine zz ?_;try intro K hK)|refine zi ?_|refine zh ?_)|((first|apply hK _ _ rfl|apply hK);clear hK K)|(guard_hyp hK;first|refine zx ?_|apply ab|apply aa|refine zW ?_|(refine zQ (hp1) ?_)|(refine zQ (hp2) ?_)|(refine zQ (hi) ?_)|intro b0 hb)|((first|refine zj ?_|guard_hyp hK);refine zY ?_ ?_;all_goals(intro hb;(try simp only [sn,sb] at hb);try exact ao)))
    ·exact absurd hb hne
    ·exact yL trivial rfl ⟨_,rfl,rfl⟩ rfl B3 rfl rfl
   ·rw [if_neg c2] at hsk;obtain⟨m,hm⟩:∃m:Nat,Lib.index ((bs (s.extract k s.size)).drop 2) [42,47]=m:=⟨_,(S0 A8).symm⟩
    rw [hm] at hi hsk;have hps:=hpu (m+4) A8;have hb9:=hbn (m+4) hsk A8;rw [hbl]
    repeat'(first|(with_reducible first|(refine zz ?_;try intro K hK)|refine zi ?_|refine zh ?_)|((first|apply hK _ _ rfl|apply hK);clear hK K)|(guard_hyp hK;first|refine zx ?_|apply ab|apply aa|refine zW ?_|(refine zQ (hp1) ?_)|(refine zQ (hp2) ?_)|(refine zQ (hi) ?_)|refine zg ([]) (hps) (iz s k (aj s k).1 (aj s k).2) ([]) (iz s (k+(m+4)) (aj s (k+(m+4))).1 (aj s (k+(m+4))).2) (.ba []) ?_|intro b0 hb)|((first|refine zj ?_|guard_hyp hK);refine zY ?_ ?_;all_goals(intro hb;(try simp only [sn,sb] at hb);try exact ao)))
    ·exact absurd hb hne
    ·exact⟨_,⟨by omega,hb9⟩,by omega,rfl,⟨rfl,rfl,rfl,trivial,trivial⟩,⟨rfl,trivial⟩,⟨jI,trivial⟩⟩
  rw [G4 c3] at hp2;have hi:=lb ⟨#[32,9,10,13]⟩ (ax (s.extract k s.size) 0);have hbk:=PZ (ax (s.extract k s.size) 0);have e0:(⟨#[32,9,10,13]⟩:ByteArray).data.toList=[32,9,10,13]:=rfl;rw [e0] at hi
  cases hB:gj (ax (s.extract k s.size) 0) with
  |true=>
   have hsk:bf (s.extract k s.size)=(1:Nat):=by unfold bf;rw [if_pos hB];rfl
   have hps:=hpu 1 A8;have hb9:=hbn 1 hsk A8;rw [hbl];have hbk:=hbk.1 hB
   repeat'(first|(refine fy ?_;intro hu)|(with_reducible first|(refine zz ?_;try intro K hK)|refine zi ?_|refine zh ?_)|((first|apply hK _ _ rfl|apply hK);clear hK K)|(guard_hyp hK;first|refine zx ?_|apply ab|apply aa|refine zW ?_|(refine zQ (hp1) ?_)|(refine zQ (hp2) ?_)|(refine zQ (hi) ?_)|refine zg ([]) (hps) (iz s k (aj s k).1 (aj s k).2) ([]) (iz s (k+1) (aj s (k+1)).1 (aj s (k+1)).2) (.ba []) ?_|intro b0 hb)|((first|refine zj ?_|guard_hyp hK);refine zY ?_ ?_;all_goals(intro hb;(try simp only [sn,sb] at hb);try exact ao)))
   ·exact absurd hb hne
   ·exact⟨_,⟨by omega,hb9⟩,by omega,rfl,⟨rfl,rfl,rfl,trivial,trivial⟩,⟨rfl,trivial⟩,⟨jI,trivial⟩⟩
  |false=>
   have hsk:bf (s.extract k s.size)=0:=by
    unfold bf;rw [if_neg (by rw [hB];decide),if_pos];by_cases d:(ax (s.extract k s.size) 0).toNat=47
    ·have d0:ax (s.extract k s.size) 0=47:=jB.2 d;exact .inr ⟨fun h=>c1 ⟨d0,jB.2 h⟩,fun h=>c3 ⟨d0,jB.2 h⟩⟩
    ·exact .inl d
   rw [if_neg A8,O4 A8];have hbk:¬0<=Lib.indexByte [32,9,10,13] (ax (s.extract k s.size) 0):=fun h=>by rw [hbk.2 h] at hB;cases hB
   repeat'(first|(refine fy ?_;intro hu)|(with_reducible first|(refine zz ?_;try intro K hK)|refine zi ?_|refine zh ?_)|((first|apply hK _ _ rfl|apply hK);clear hK K)|(guard_hyp hK;first|refine zx ?_|apply ab|apply aa|refine zW ?_|(refine zQ (hp1) ?_)|(refine zQ (hp2) ?_)|(refine zQ (hi) ?_)|intro b0 hb)|((first|refine zj ?_|guard_hyp hK);refine zY ?_ ?_;all_goals(intro hb;(try simp only [sn,sb] at hb);try exact ao)))
   ·exact absurd hb hne
   ·exact yL trivial rfl ⟨_,rfl,rfl⟩ rfl B3 rfl rfl
 ·have he:=hemp.2 A8;rw [eG,O4 h0]
  repeat'(first|(with_reducible first|(refine zz ?_;try intro K hK)|refine zi ?_|refine zh ?_)|((first|apply hK _ _ rfl|apply hK);clear hK K)|(guard_hyp hK;first|refine zx ?_|apply ab|apply aa|refine zW ?_|intro b0 hb)|((first|refine zj ?_|guard_hyp hK);refine zY ?_ ?_;all_goals(intro hb;(try simp only [sn,sb] at hb);try exact ao)))
  ·exact yL trivial rfl ⟨_,rfl,rfl⟩ rfl B3 rfl rfl
  ·exact absurd he hb
end Go.Ev
