import Derived.Test.YthpoegdjffdojaaGreatDoorULbe
import Derived.Test.YthpoegdjffdojaaGreatDoorULbi
import Derived.Test.YthpoegdjffdojaaGreatDoorUWly
import Derived.Test.YthpoegdjffdojaaGreatDoorULau
set_option linter.all false
set_option maxHeartbeats 60000000
set_option maxRecDepth 10000
namespace Go.Ev
open Go.Proofs
theorem EV {α:Type}(p:α->Bool):∀(l:List α) (m:Nat),((l.take m).takeWhile p).length=min (l.takeWhile p).length m
 | [],m=>by simp
 |a :: r,0=>by simp
 |a :: r,m+1=>by
  rw [M4,R9,R9];split
  ·rw [B9,B9,EV p r m];omega
  ·simp
theorem sv {s:ByteArray}{n i:Nat}(p:UInt8->Bool):ar p (s.extract 0 n) i=min (ar p s i) (n - i):=by
 unfold ar;rw [cZ,F4,T6,Q4,EV]
theorem jv {s:ByteArray}{n i:Nat}(h:i < n):ax (s.extract 0 n) i=ax s i:=by rw [cI A8,C2]
theorem wV {s:ByteArray}{i:Nat}(h:(ax s i).toNat≠0):i < s.size:=by
 rcases G8 i s.size with h9|h9
 ·exact h9
 ·rw [bU h9] at h;exact absurd rfl h
theorem Lj {s:ByteArray}(hd:ak (ax s 0)=true)(hb:kh s=false)(h1:1<=s.size):lu (s.extract 0 (aS s)):=by
 have hpos:=Bs hd h1;have hle:=yD (s:=s);have hA:=iM (s:=s);have hA0:=Bt hd h1;have hsz:(s.extract 0 (aS s)).size=aS s:=by rw [dQ hle];omega
 have ha:ar ak s 0<=aI s:=by unfold aI;split<;>omega
 have key:aI s<=aS s->(aI s < aS s\/aI s=aS s)->aI (s.extract 0 (aS s))=aI s:=by
  intro hAF _;have r0:ar ak (s.extract 0 (aS s)) 0=ar ak s 0:=by rw [sv];omega
  by_cases c:(ax s (ar ak s 0)).toNat=46/\0 < ar ak s (ar ak s 0+1)
  ·have eA:aI s=ar ak s 0+1+ar ak s (ar ak s 0+1):=if_pos c;have r1:ar ak (s.extract 0 (aS s)) (ar ak s 0+1)=ar ak s (ar ak s 0+1):=by rw [sv];omega
   have e:(ax (s.extract 0 (aS s)) (ar ak (s.extract 0 (aS s)) 0)).toNat=46/\0 < ar ak (s.extract 0 (aS s)) (ar ak (s.extract 0 (aS s)) 0+1):=by
    rw [r0,r1,jv A8];exact c
   rw [show aI (s.extract 0 (aS s))=_ from if_pos e,r0,r1,eA]
  ·have eA:aI s=ar ak s 0:=if_neg c
   have e:¬((ax (s.extract 0 (aS s)) (ar ak (s.extract 0 (aS s)) 0)).toNat=46/\0 < ar ak (s.extract 0 (aS s)) (ar ak (s.extract 0 (aS s)) 0+1)):=by
    rw [r0];rintro⟨e1,e2⟩;rw [sv] at e2;have hlt:=wV (s:=s.extract 0 (aS s)) (i:=ar ak s 0) A8;rw [hsz] at hlt;rw [jv hlt] at e1;exact c ⟨e1,by omega⟩
   rw [show aI (s.extract 0 (aS s))=_ from if_neg e,r0,eA]
 by_cases c:eM s
 ·have eF:aS s=bJ s+ar ak s (bJ s):=if_pos c;have hK:aI s+1<=bJ s:=by unfold bJ;split<;>omega
  have hx:=c.2;have wA:=key A8 (.inl A8)
  have wK:bJ (s.extract 0 (aS s))=bJ s:=by
   unfold bJ;rw [wA,jv A8]
  have wx:ar ak (s.extract 0 (aS s)) (bJ s)=ar ak s (bJ s):=by rw [sv];omega
  have wE:eM (s.extract 0 (aS s)):=by
   unfold eM;rw [wA,wK,wx,jv A8];exact c
  have wF:aS (s.extract 0 (aS s))=aS s:=by
   rw [show aS (s.extract 0 (aS s))=_ from if_pos wE,wK,wx,<- eF]
  have wS:sub (s.extract 0 (aS s)) (bJ s) (ar ak s (bJ s))=sub s (bJ s) (ar ak s (bJ s)):=by
   refine qX ?_;rw [jH,jH,cZ,F4,T6,Q4,J3]
   congr 1;omega
  refine⟨by rw [jv hpos];exact hd,by rw [wF,hsz],?_,by rw [hsz];exact hpos⟩;unfold kh at hb |-;rw [wK,wx,wS,F9 wE];rw [F9 c] at hb;exact hb
 ·have eF:aS s=aI s:=if_neg c;have wA:=key A8 (.inr eF.symm)
  have wE:¬eM (s.extract 0 (aS s)):=by
   rintro⟨e1,-⟩;rw [wA,bU (by rw [hsz,eF];exact wU _)] at e1;exact absurd e1 B3
  have wF:aS (s.extract 0 (aS s))=aS s:=by
   rw [show aS (s.extract 0 (aS s))=_ from if_neg wE,wA,eF]
  refine⟨by rw [jv hpos];exact hd,by rw [wF,hsz],?_,by rw [hsz];exact hpos⟩;unfold kh;rw [G4 wE,Y6]
theorem tS (s:ByteArray)(i:Nat)(out:ByteArray)(h:out.size<=i)(hi:i<=s.size+2):(dv s i out).2.1.size<=s.size+2:=by
 rw [dv];split
 ·rename_i hlt;split
  ·simp only;omega
  ·split
   ·exact C0 _
   ·split
    ·split
     ·exact C0 _
     ·rename_i h4;have hlt2:i+1 < s.size:=wV A8;exact tS s (i+2) _ (by rw [B8,so A8];omega) A8
    ·exact tS s (i+1) _ (by rw [B8,so A8];omega) A8
 ·exact C0 _
termination_by s.size+2 - i
def MN (n:Nat)(t:Tok):Prop:=t.text.size<=n+2/\(t.kind=2->lu t.text)
theorem JB {s:ByteArray}(h1:1<=s.size)(l c:Int):MN s.size ⟨(aH s).kind,(aH s).text,l,c⟩:=by
 have he:eS.size=0:=rfl;have hx:∀n,(s.extract 0 n).size<=s.size:=fun n=>by rw [F5];omega
 unfold MN aH;split
 ·exact⟨C0 _,fun h=>by(exfalso;dsimp only at h;revert h;decide)⟩
 ·split
  ·exact⟨C0 _,fun h=>by(exfalso;dsimp only at h;revert h;decide)⟩
  ·split
   ·split
    ·exact⟨C0 _,fun h=>by(exfalso;dsimp only at h;revert h;decide)⟩
    ·exact⟨G6 (hx _) A8,fun h=>by(exfalso;dsimp only at h;revert h;decide)⟩
   ·split
    ·rename_i hd;split
     ·exact⟨C0 _,fun h=>by(exfalso;dsimp only at h;revert h;decide)⟩
     ·rename_i hb;refine⟨G6 (hx _) A8,fun _=>Lj hd ?_ h1⟩
      cases hB:kh s with
      |false=>rfl
      |true=>exact absurd (.inl hB) hb
    ·split
     ·split
      ·exact⟨tS s 1 _ B3 A8,fun h=>by(exfalso;dsimp only at h;revert h;decide)⟩
      ·exact⟨C0 _,fun h=>by(exfalso;dsimp only at h;revert h;decide)⟩
     ·split
      ·exact⟨G6 (hx _) A8,fun h=>by(exfalso;dsimp only at h;revert h;decide)⟩
      ·exact⟨C0 _,fun h=>by(exfalso;dsimp only at h;revert h;decide)⟩
theorem zN (s:ByteArray)(i:Nat)(hi:i<=s.size):(bQ s i).1.length+i<=s.size+1/\∀t ∈ (bQ s i).1,MN s.size t:=by
 rw [bQ];split
 ·rename_i hlt;have hl:=tL hi;split
  ·exact⟨by simp;omega,fun t ht=>by simp at ht⟩
  ·rename_i hc;have hp:=kH (s:=s.extract i s.size) A8 (T1.1 hc);have ih:=zN s (i+(aH (s.extract i s.size)).n) A8;split
   ·split
    ·refine⟨by simp only [B9];omega,fun t ht=>?_⟩;rcases B5.1 ht with rfl|ht
     ·have:=JB (s:=s.extract i s.size) A8 (aj s i).1 (aj s i).2;exact⟨by have:=this.1;simp only at this |-;omega,this.2⟩
     ·exact ih.2 t ht
    ·exact⟨by omega,ih.2⟩
   ·exact⟨by simp;omega,fun t ht=>by simp at ht⟩
 ·refine⟨by simp only [List.length_singleton];omega,fun t ht=>?_⟩;obtain rfl:=HQ.1 ht;exact⟨C0 _,fun h=>by(exfalso;dsimp only at h;revert h;decide)⟩
termination_by s.size - i
theorem xG (s:ByteArray)(hs:s.size<=134217728):Fit (fQ s):=by
 obtain⟨h1,h2⟩:=zN s 0 (C0 _);exact⟨by show(bQ s 0).1.length<=_;omega,fun t ht=>by have:=(h2 t ht).1;omega⟩
open PS (cE eZ dW eY iS)
instance  : Inhabited cE:=⟨⟨0,0,0⟩⟩
instance  : Inhabited eZ:=⟨⟨0,[],[]⟩⟩
instance  : Inhabited dW:=⟨⟨.empty,0,[],[]⟩⟩
instance  : Inhabited eY:=⟨⟨.empty,[],[],[]⟩⟩
instance  : Inhabited ByteArray:=⟨.empty⟩
def mN {α:Type}(l:List α):Prop:=l.length<=4611686018427387904
structure xo (t:cE):Prop where
 z:mN (lm t.z.natAbs)
 d:mN (lm t.d)
theorem kq {α:Type}[Inhabited α]{l:List α}{i:Nat}(h:i < l.length):l.getD i default ∈ l:=by
 rw [List.getD,uz h];exact G9 h
theorem Dg (a:List UInt32)(ha:mN a):Ok Tryz.prog 60 [tn a,tn a] true (.af (.bool true)):=by
 unfold mN at ha;refine aw bN mix Tryz.func60 rfl rfl B1 (zO rfl) ?_
 repeat'(first|(with_reducible first|(refine zz ?_;try intro K hK)|refine zi ?_|refine zh ?_)|((first|apply hK _ _ rfl|apply hK);clear hK K)|(guard_hyp hK;first|refine zx ?_|apply ab|apply aa|(refine aY ?_;intro hu)|refine zP wA ?_|(refine aD ?_;intro hm1 hm2)|refine zP aZ ?_|refine zP rfl ?_|intro b0 hb)|((first|refine zj ?_|guard_hyp hK);refine zY ?_ ?_;all_goals(intro hb;(try simp only [sn,sb] at hb);try exact ao)))
 refine aT Nat (fun i=>⟨Tryz.f60.ntmps,[(0,.ro false (tn a)),(1,.ro false (tn a)),(5,.af (.int .i64 i))],[]⟩) (fun i=>i<=a.length) (fun i=>a.length - i) [] 0 trivial (C0 _) ⟨rfl,⟨rfl,trivial,rfl,trivial,rfl,trivial,trivial⟩,trivial,trivial⟩ ?_;intro i h0;by_cases hi:i < a.length
 ·repeat'(first|(with_reducible first|(refine zz ?_;try intro K hK)|refine zi ?_|refine zh ?_)|((first|apply hK _ _ rfl|apply hK);clear hK K)|(guard_hyp hK;first|refine zx ?_|apply ab|apply aa|(refine aY ?_;intro hu)|refine zP wA ?_|(refine aD ?_;intro hm1 hm2)|refine zP aZ ?_|refine zP rfl ?_|intro b0 hb)|((first|refine zj ?_|guard_hyp hK);refine zY ?_ ?_;all_goals(intro hb;(try simp only [sn,sb] at hb);try exact ao)))
  exact⟨i+1,hi,by omega,rfl,⟨rfl,trivial,rfl,trivial,rfl,trivial,trivial⟩,trivial,trivial⟩
 ·repeat'(first|(with_reducible first|(refine zz ?_;try intro K hK)|refine zi ?_|refine zh ?_)|((first|apply hK _ _ rfl|apply hK);clear hK K)|(guard_hyp hK;first|refine zx ?_|apply ab|apply aa|(refine aY ?_;intro hu)|refine zP wA ?_|(refine aD ?_;intro hm1 hm2)|refine zP aZ ?_|refine zP rfl ?_|intro b0 hb)|((first|refine zj ?_|guard_hyp hK);refine zY ?_ ?_;all_goals(intro hb;(try simp only [sn,sb] at hb);try exact ao)))
  exact UO trivial (ay rfl)
theorem RU (t:cE)(h:xo t):Ok Tryz.prog 43 [tA t.z t.d,tA t.z t.d] true (.af (.bool true)):=by
 refine aw bN mix Tryz.func43 rfl rfl B1 (zO rfl) ?_
 repeat'(first|(with_reducible first|(refine zz ?_;try intro K hK)|refine zi ?_|refine zh ?_)|((first|apply hK _ _ rfl|apply hK);clear hK K)|(guard_hyp hK;first|refine zx ?_|apply ab|apply aa|(refine aY ?_;intro hu)|refine zP wA ?_|(refine aD ?_;intro hm1 hm2)|refine zP aZ ?_|refine zP rfl ?_|(refine zQ (Dg _ h.z) ?_)|(refine zQ (Dg _ h.d) ?_)|intro b0 hb)|((first|refine zj ?_|guard_hyp hK);refine zY ?_ ?_;all_goals(intro hb;(try simp only [sn,sb] at hb);try exact ao)))
 all_goals exact UO trivial (ay rfl)
theorem sTerms (a:List cE)(ha:mN a)(hx:∀t ∈ a,xo t):Ok Tryz.prog 16 [CG a,CG a] true (.af (.bool true)):=by
 unfold mN at ha;refine aw bN mix Tryz.func16 rfl rfl B1 (zO rfl) ?_
 repeat'(first|(with_reducible first|(refine zz ?_;try intro K hK)|refine zi ?_|refine zh ?_)|((first|apply hK _ _ rfl|apply hK);clear hK K)|(guard_hyp hK;first|refine zx ?_|apply ab|apply aa|(refine aY ?_;intro hu)|refine zP wA ?_|(refine aD ?_;intro hm1 hm2)|refine zP aZ ?_|refine zP rfl ?_|intro b0 hb)|((first|refine zj ?_|guard_hyp hK);refine zY ?_ ?_;all_goals(intro hb;(try simp only [sn,sb] at hb);try exact ao)))
 refine aT Nat (fun i=>⟨Tryz.f16.ntmps,[(0,.ro false (CG a)),(1,.ro false (CG a)),(5,.af (.int .i64 i))],[]⟩) (fun i=>i<=a.length) (fun i=>a.length - i) [] 0 trivial (C0 _) ⟨rfl,⟨rfl,trivial,rfl,trivial,rfl,trivial,trivial⟩,trivial,trivial⟩ ?_;intro i h0;by_cases hi:i < a.length
 ·have h4:=RU (a.getD i default) (hx _ (kq hi))
  repeat'(first|(with_reducible first|(refine zz ?_;try intro K hK)|refine zi ?_|refine zh ?_)|((first|apply hK _ _ rfl|apply hK);clear hK K)|(guard_hyp hK;first|refine zx ?_|apply ab|apply aa|(refine aY ?_;intro hu)|refine zP wA ?_|(refine aD ?_;intro hm1 hm2)|refine zP aZ ?_|refine zP rfl ?_|(refine zQ (h4) ?_)|intro b0 hb)|((first|refine zj ?_|guard_hyp hK);refine zY ?_ ?_;all_goals(intro hb;(try simp only [sn,sb] at hb);try exact ao)))
  all_goals exact⟨i+1,hi,by omega,rfl,⟨rfl,trivial,rfl,trivial,rfl,trivial,trivial⟩,trivial,trivial⟩
 ·repeat'(first|(with_reducible first|(refine zz ?_;try intro K hK)|refine zi ?_|refine zh ?_)|((first|apply hK _ _ rfl|apply hK);clear hK K)|(guard_hyp hK;first|refine zx ?_|apply ab|apply aa|(refine aY ?_;intro hu)|refine zP wA ?_|(refine aD ?_;intro hm1 hm2)|refine zP aZ ?_|refine zP rfl ?_|intro b0 hb)|((first|refine zj ?_|guard_hyp hK);refine zY ?_ ?_;all_goals(intro hb;(try simp only [sn,sb] at hb);try exact ao)))
  exact UO trivial (ay rfl)
variable {W : fA}
def Yt (l:List cE):Prop:=∀t ∈ l,xo t
section
variable (hF : Fit W)
include hF
end
end Go.Ev
namespace Go.Ev
open Go.Proofs
def Tt (t:Tok):Prop:=(t.kind=1->isLet (ax t.text 0)=true)/\(t.kind=4->Ri (ax t.text 0)=true)
theorem CF {s:ByteArray}(h1:1<=s.size)(l c:Int):Tt ⟨(aH s).kind,(aH s).text,l,c⟩:=by
 have no:∀{k:Int} {p q:Prop},k≠1->k≠4->(k=1->p)/\(k=4->q):=fun a b=>⟨fun h=>absurd h a,fun h=>absurd h b⟩
 unfold Tt aH;split
 ·refine no ?_ ?_<;>(intro h;dsimp only at h;revert h;decide)
 ·split
  ·refine no ?_ ?_<;>(intro h;dsimp only at h;revert h;decide)
  ·split
   ·rename_i hl;split
    ·refine no ?_ ?_<;>(intro h;dsimp only at h;revert h;decide)
    ·refine⟨fun _=>?_,fun h=>by(exfalso;dsimp only at h;revert h;decide)⟩;have hw:=fj (p:=bp) (s:=s) (i:=0) h1 (by unfold bp;rw [hl];rfl);dsimp only;rw [jv A8];exact hl
   ·split
    ·split
     ·refine no ?_ ?_<;>(intro h;dsimp only at h;revert h;decide)
     ·refine no ?_ ?_<;>(intro h;dsimp only at h;revert h;decide)
    ·split
     ·split
      ·refine no ?_ ?_<;>(intro h;dsimp only at h;revert h;decide)
      ·refine no ?_ ?_<;>(intro h;dsimp only at h;revert h;decide)
     ·split
      ·rename_i hg;refine⟨fun h=>by(exfalso;dsimp only at h;revert h;decide),fun _=>?_⟩;dsimp only;rw [jv A8];exact hg
      ·refine no ?_ ?_<;>(intro h;dsimp only at h;revert h;decide)
theorem ra (s:ByteArray)(i:Nat)(hi:i<=s.size):∀t ∈ (bQ s i).1,Tt t:=by
 rw [bQ];split
 ·rename_i hlt;have hl:=tL hi;split
  ·exact fun t ht=>by simp at ht
  ·rename_i hc;have hp:=kH (s:=s.extract i s.size) A8 (T1.1 hc);have ih:=ra s (i+(aH (s.extract i s.size)).n) A8;split
   ·split
    ·intro t ht;rcases B5.1 ht with rfl|ht
     ·exact CF (s:=s.extract i s.size) A8 (aj s i).1 (aj s i).2
     ·exact ih t ht
    ·exact ih
   ·exact fun t ht=>by simp at ht
 ·intro t ht;obtain rfl:=HQ.1 ht;exact⟨fun h=>by(exfalso;dsimp only at h;revert h;decide),fun h=>by(exfalso;dsimp only at h;revert h;decide)⟩
termination_by s.size - i
theorem uI {s w:ByteArray}(h:Ri (ax w 0)=false):dK (fQ s) (1,w):=
 ⟨.inl rfl,fun t ht e hk=>hk.elim id fun h4=>by
  have:=(ra s 0 (C0 _) t ht).2 h4
  rw [show t.text=w from e,h] at this;cases this⟩
theorem oA {s w:ByteArray}(h:isLet (ax w 0)=false):dK (fQ s) (4,w):=
 ⟨.inr rfl,fun t ht e hk=>hk.elim (fun h1=>by
  have:=(ra s 0 (C0 _) t ht).1 h1
  rw [show t.text=w from e,h] at this;cases this) id⟩
theorem EU (s:ByteArray):TQ (fQ s):=
 ⟨uI B3,uI B3,uI B3,uI B3,uI B3,oA B3,oA B3,oA B3,oA B3,oA B3,oA B3,oA B3⟩
open PS (cE eZ dW eY iS)
theorem KX (s:ByteArray)(hs:s.size<=134217728):∀t ∈ (fQ s).L,t.kind=2->Ok Tryz.prog 87 [gG t.text] true (.ba [tA (dV t.text).1 (dV t.text).2,.af (.int .i64 0)]):=by
 obtain⟨h1,h2⟩:=zN s 0 (C0 _);exact fun t ht hk=>PM t.text ((h2 t ht).2 hk) (by have:=(h2 t ht).1;omega)
theorem KY (s:ByteArray)(hs:s.size<=134217728):vt Tryz.prog 39 65 (PS.sum (X:=fQ s) (PS.un dV 65)):=by
 have hF:=xG s hs;exact Fy hF.len (PS.mT dV 65) (Bn hF.len (PS.mT dV 65) (KW hF (EU s) (KX s hs) 65 B3))
theorem La (s:ByteArray)(hs:s.size<=134217728):Ok Tryz.prog 8 [gG s] false (.ba [tC (mw dV s).1,MX (mw dV s).2]):=
 KZ s (xG s hs) (EU s) (KY s hs) (AF s A8)
theorem QC (s:ByteArray)(hs:s.size<=134217728):Ok Tryz.prog 11 [gG s] false (.ba [qh (yC dV s).1,MX (yC dV s).2]):=
 OI s (xG s hs) (KY s hs) (AF s A8)
def Ez : List cE:=[⟨1,1,1⟩,⟨1,2,1⟩,⟨1,3,1⟩,⟨6,0,0⟩,⟨4,0,0⟩,⟨3,0,0⟩]
theorem FQ : lm 0=[]:=by rw [lm,if_pos rfl]
def Xk : Option dy->V
 |none=>.af .nilIface
 |some f=>.ro false (.jq 87 (.ptr (rF f)))
def Tp (f:iS):Obj:=⟨4,[.agg [.af (.string f.name),.ro false (jO f.aN),.ro false (.sl (f.vars.map qg)),.ro false (.sl (f.bG.map qi))]],0,true⟩
def Xj (o:Option dy):Obj:=⟨4,[.agg [.af (.int .i64 (VS o)),.af (.int .i64 (WQ o)),.af (.int .i64 (WR o)),.af (.string (WO o))]],0,true⟩
theorem Lv : mN Ez/\∀t ∈ Ez,xo t:=by
 have h1:∀n,0 < n->n < 100->mN (lm n):=fun n h0 h=>by
  unfold mN;rw [uE h0 A8];exact D3 rfl
 have h0:mN (lm 0):=by
  unfold mN;rw [FQ];decide
 refine⟨by unfold mN Ez;decide,fun t ht=>?_⟩;simp only [Ez,B5,K3,S2] at ht;rcases ht with rfl|rfl|rfl|rfl|rfl|rfl
 ·exact⟨h1 1 B3 B3,h1 1 B3 B3⟩
 ·exact⟨h1 2 B3 B3,h1 1 B3 B3⟩
 ·exact⟨h1 3 B3 B3,h1 1 B3 B3⟩
 ·exact⟨h0,h0⟩
 ·exact⟨h0,h0⟩
 ·exact⟨h0,h0⟩
def Nv (k:Int):V:=.agg [.af (.int .i8 k),.af (.bool false),.emp,.emp]
def To : Obj:=⟨4,[vT ⟨1,1,1⟩,vT ⟨1,2,1⟩,vT ⟨1,3,1⟩,Nv 6,Nv 4,Nv 3],0,true⟩
theorem sN : ∀e ∈ To.el,e.flat:=by
 intro e he;simp only [To,B5,K3,S2] at he;rcases he with rfl|rfl|rfl|rfl|rfl|rfl
 ·exact kE _
 ·exact kE _
 ·exact kE _
 all_goals
  intro v hv;simp at hv;rcases hv with rfl|rfl|rfl<;>trivial
theorem Vz : xu [.int .i64,.int .i64,.int .i64,.str] [.af (.int .i64 30),.af (.int .i64 1),.af (.int .i64 8),.af (.string eS)] [.af (.int .i64 30),.af (.int .i64 1),.af (.int .i64 8),.af (.string .empty)]=some true:=by simp [xu,Ns,eS]
theorem Vb {oh:OH}(t:cE):Rg oh false (vT t) (tT t):=by
 refine⟨rfl,fun j v u e1 e2=>?_⟩
 match j with
 |0=>simp [vT,V.cells] at e1;simp [tT,T.cells] at e2;subst e1;subst e2;exact .af _
 |1=>simp [vT,V.cells] at e1;simp [tT,T.cells] at e2;subst e1;subst e2;exact .af _
 |2=>simp [vT,V.cells] at e1;simp [tT,T.cells] at e2;subst e1;subst e2;exact .ro false _ fun h=>h
 |3=>simp [vT,V.cells] at e1;simp [tT,T.cells] at e2;subst e1;subst e2;exact .ro false _ fun h=>h
 |j+4=>simp [vT,V.cells] at e1
def Wa (t:cE):V:=if t.kind=1 then vT t else Nv t.kind
theorem SJ {oh:OH}{t:cE}(h:t.kind=1\/(t.z=0/\t.d=0)):Rg oh false (Wa t) (tT t):=by
 unfold Wa;by_cases h1:t.kind=1
 ·rw [if_pos h1];exact Vb t
 ·rw [if_neg h1];obtain⟨h2,h3⟩:=h.resolve_left h1
  have e:tT t=.agg [.af (.int .i8 t.kind),.af (.bool false),.sl [],.sl []]:=by
   unfold tT;rw [h2,h3,show Int.natAbs 0=0 from rfl,FQ];rfl
  rw [e];refine⟨rfl,fun j v u e1 e2=>?_⟩
  match j with
  |0=>simp [Nv,V.cells] at e1;simp [T.cells] at e2;subst e1;subst e2;exact .af _
  |1=>simp [Nv,V.cells] at e1;simp [T.cells] at e2;subst e1;subst e2;exact .af _
  |2=>simp [Nv,V.cells] at e1;simp [T.cells] at e2;subst e1;subst e2;exact .emp
  |3=>simp [Nv,V.cells] at e1;simp [T.cells] at e2;subst e1;subst e2;exact .emp
  |j+4=>simp [Nv,V.cells] at e1
theorem Vc {oh:OH}{v v2:V}{t t2:T}(h:gM oh false v t)(h2:gM oh false v2 t2):TB oh [v,v2] [t,t2]:=by
 refine⟨rfl,fun j v' t' e1 e2=>?_⟩
 match j with
 |0=>simp at e1 e2;subst e1;subst e2;exact h
 |1=>simp at e1 e2;subst e1;subst e2;exact h2
 |j+2=>simp at e1
theorem Qk : TB [(0,To)] [.ro false (CG Ez),.own 0 0 0 6] [CG Ez,CG Ez]:=
 Vc (kr rfl fun h=>Bool.noConfusion h) (gW (F:=Wa) (G:=tT) (l:=Ez) rfl rfl rfl rfl rfl (fun t ht=>SJ (by
  simp only [Ez,B5,K3,S2] at ht
  rcases ht with rfl|rfl|rfl|rfl|rfl|rfl<;>simp)) rfl)
theorem MK : Ok Tryz.prog 5 [] true (.af (.bool true)):=by
 have p1:=QC VC B3;rw [Yg] at p1;have p2:=La VB B3;rw [Yf] at p2;have p3:=La VA B3;rw [Ye] at p3;have n1:=yB 1 B3 B3;have n2:=yB 2 B3 B3;have n3:=yB 3 B3 B3;have fo:=LZ QY ⟨30,1,8,eS⟩;have st:=sTerms Ez Lv.1 Lv.2;refine aw bN mix Tryz.func5 rfl rfl B1 (zO rfl) ?_
 repeat'(first|(refine ld (a:=Code.region 1 _ _) Unit (fun _=>⟨Tryz.f5.ntmps,[(1,.ro false (qh [Ez])),(2,.af .nilIface)],[]⟩) (fun _=>True) ?_ ?_)|(with_reducible first|(refine zz ?_;try intro K hK)|refine zi ?_|refine zh ?_)|((first|apply hK _ _ rfl|apply hK);clear hK K)|(guard_hyp hK;first|refine zx ?_|apply ab|apply aa|refine zW ?_|intro b0 hb)|((first|refine zj ?_|guard_hyp hK);refine zY ?_ ?_;all_goals(intro hb;(try simp only [sn,sb] at hb);try exact ao)))
 rotate_left
 ·intro R hR
  repeat'(first|(with_reducible first|(refine zz ?_;try intro K hK)|refine zi ?_|refine zh ?_)|((first|apply hK _ _ rfl|apply hK);clear hK K)|(guard_hyp hK;first|refine zx ?_|apply ab|apply aa|refine zW ?_|(refine zQ (p1) ?_)|intro b0 hb)|((first|refine zj ?_|guard_hyp hK);refine zY ?_ ?_;all_goals(intro hb;(try simp only [sn,sb] at hb);try exact ao)))
  exact hR _ () trivial (bx ⟨jz,Lc.same _ trivial,trivial⟩ trivial)
 rintro - -
 repeat'(first|(refine ld (a:=Code.region 2 _ _) Unit (fun _=>⟨Tryz.f5.ntmps,[(1,.ro false (qh [Ez])),(2,.af .nilIface),(3,.own 0 0 0 6)],[(0,To)]⟩) (fun _=>True) ?_ ?_)|(with_reducible first|(refine zz ?_;try intro K hK)|refine zi ?_|refine zh ?_)|((first|apply hK _ _ rfl|apply hK);clear hK K)|(guard_hyp hK;first|refine zx ?_|apply ab|apply aa|refine zW ?_|intro b0 hb)|((first|refine zj ?_|guard_hyp hK);refine zY ?_ ?_;all_goals(intro hb;(try simp only [sn,sb] at hb);try exact ao)))
 rotate_left
 ·intro R hR
  repeat'(first|(with_reducible first|(refine zz ?_;try intro K hK)|refine zi ?_|refine zh ?_)|((first|apply hK _ _ rfl|apply hK);clear hK K)|(guard_hyp hK;first|refine zx ?_|apply ab|apply aa|refine zW ?_|(refine zQ (n1) ?_)|(refine zQ (n2) ?_)|(refine zQ (n3) ?_)|intro b0 hb)|((first|refine zj ?_|guard_hyp hK);refine zY ?_ ?_;all_goals(intro hb;(try simp only [sn,sb] at hb);try exact ao)))
  exact hR _ () trivial (bx ⟨jz,Lc.same _ trivial,Lc.same _ rfl,trivial⟩ ⟨au rfl sN,trivial⟩)
 rintro - -
 repeat'(first|(refine ld (a:=Code.region 3 _ _) Unit (fun _=>⟨Tryz.f5.ntmps,[(1,.ro false (qh [Ez])),(2,.af .nilIface),(3,.own 0 0 0 6),(4,.ref 1 0 0 0),(5,.af .nilIface)],[(0,To),(1,Tp ⟨⟨#[110]⟩,[⟨#[97]⟩],[],[]⟩)]⟩) (fun _=>True) ?_ ?_)|(with_reducible first|(refine zz ?_;try intro K hK)|refine zi ?_|refine zh ?_)|((first|apply hK _ _ rfl|apply hK);clear hK K)|(guard_hyp hK;first|refine zx ?_|apply ab|apply aa|refine zW ?_|intro b0 hb)|((first|refine zj ?_|guard_hyp hK);refine zY ?_ ?_;all_goals(intro hb;(try simp only [sn,sb] at hb);try exact ao)))
 rotate_left
 ·intro R hR
  repeat'(first|(with_reducible first|(refine zz ?_;try intro K hK)|refine zi ?_|refine zh ?_)|((first|apply hK _ _ rfl|apply hK);clear hK K)|(guard_hyp hK;first|refine zx ?_|apply ab|apply aa|refine zW ?_|(refine zQ (p2) ?_)|intro b0 hb)|((first|refine zj ?_|guard_hyp hK);refine zY ?_ ?_;all_goals(intro hb;(try simp only [sn,sb] at hb);try exact ao)))
  exact hR _ () trivial (bx ⟨jz,Lc.same _ trivial,Lc.same _ rfl,Lc.same _ rfl,Lc.same _ trivial,trivial⟩ ⟨au rfl sN,bC rfl rfl,trivial⟩)
 rintro - -
 repeat'(first|(refine ld (a:=Code.region 4 _ _) Unit (fun _=>⟨Tryz.f5.ntmps,[(1,.ro false (qh [Ez])),(2,.af .nilIface),(3,.own 0 0 0 6),(4,.ref 1 0 0 0),(5,.af .nilIface),(7,Xk (some ⟨30,1,8,eS⟩))],[(0,To),(1,Tp ⟨⟨#[110]⟩,[⟨#[97]⟩],[],[]⟩)]⟩) (fun _=>True) ?_ ?_)|(with_reducible first|(refine zz ?_;try intro K hK)|refine zi ?_|refine zh ?_)|((first|apply hK _ _ rfl|apply hK);clear hK K)|(guard_hyp hK;first|refine zx ?_|apply ab|apply aa|refine zW ?_|intro b0 hb)|((first|refine zj ?_|guard_hyp hK);refine zY ?_ ?_;all_goals(intro hb;(try simp only [sn,sb] at hb);try exact ao)))
 rotate_left
 ·intro R hR
  repeat'(first|(with_reducible first|(refine zz ?_;try intro K hK)|refine zi ?_|refine zh ?_)|((first|apply hK _ _ rfl|apply hK);clear hK K)|(guard_hyp hK;first|refine zx ?_|apply ab|apply aa|refine zW ?_|(refine zQ (p3) ?_)|intro b0 hb)|((first|refine zj ?_|guard_hyp hK);refine zY ?_ ?_;all_goals(intro hb;(try simp only [sn,sb] at hb);try exact ao)))
  exact hR _ () trivial (bx ⟨jz,Lc.same _ trivial,Lc.same _ rfl,Lc.same _ rfl,Lc.same _ trivial,Lc.same _ trivial,trivial⟩ ⟨au rfl sN,bC rfl rfl,trivial⟩)
 rintro - -
 repeat'(first|(refine ld (a:=Code.region 5 _ _) Unit (fun _=>⟨Tryz.f5.ntmps,[(1,.ro false (qh [Ez])),(2,.af .nilIface),(3,.own 0 0 0 6),(4,.ref 1 0 0 0),(5,.af .nilIface),(8,.ref 2 0 0 0),(9,.af (.bool true))],[(0,To),(1,Tp ⟨⟨#[110]⟩,[⟨#[97]⟩],[],[]⟩),(2,Xj (some ⟨30,1,8,eS⟩))]⟩) (fun _=>True) ?_ ?_)|(with_reducible first|(refine zz ?_;try intro K hK)|refine zi ?_|refine zh ?_)|((first|apply hK _ _ rfl|apply hK);clear hK K)|(guard_hyp hK;first|refine zx ?_|apply ab|apply aa|refine zW ?_|intro b0 hb)|((first|refine zj ?_|guard_hyp hK);refine zY ?_ ?_;all_goals(intro hb;(try simp only [sn,sb] at hb);try exact ao)))
 rotate_left
 ·intro R hR
  repeat'(first|(with_reducible first|(refine zz ?_;try intro K hK)|refine zi ?_|refine zh ?_)|((first|apply hK _ _ rfl|apply hK);clear hK K)|(guard_hyp hK;first|refine zx ?_|apply ab|apply aa|refine zW ?_|(refine zQ (fo) ?_)|intro b0 hb)|((first|refine zj ?_|guard_hyp hK);refine zY ?_ ?_;all_goals(intro hb;(try simp only [sn,sb] at hb);try exact ao)))
  exact hR _ () trivial (bx ⟨jz,Lc.same _ trivial,Lc.same _ rfl,Lc.same _ rfl,Lc.same _ trivial,Lc.same _ rfl,Lc.same _ trivial,trivial⟩ ⟨au rfl sN,bC rfl rfl,bC rfl rfl,trivial⟩)
 rintro - -
 repeat'(first|(refine Sk _ (Sk true (UO Yn (UO rfl (UO rfl (UO Vz ?_))))))|(with_reducible first|(refine zz ?_;try intro K hK)|refine zi ?_|refine zh ?_)|((first|apply hK _ _ rfl|apply hK);clear hK K)|(guard_hyp hK;first|refine zx ?_|apply ab|apply aa|refine zW ?_|(refine' Or.inl (Sk _ (Sk _ (Sk _ (UO (st) (Sk [(0,_)] (UO (uC ?lh) (UO ?lz (UO rfl ?_))))))));(case lh=>exact rfl);(case lz=>exact Qk))|intro b0 hb)|((first|refine zj ?_|guard_hyp hK);refine zY ?_ ?_;all_goals(intro hb;(try simp only [sn,sb] at hb);try exact ao)))
 all_goals exact lC rfl rfl rfl
open PS (cE bV dW eZ eY iS)
theorem gZ {α:Type}(g:α->Nat):∀{l:List α} {a:α},a ∈ l->g a<=(l.map g).sum
 |b :: r,a,h=>by
  rw [E7,J6];rcases B5.1 h with rfl|h
  ·omega
  ·have:=gZ g h;omega
end Go.Ev
