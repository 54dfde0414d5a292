import Derived.Test.YthpoegdjffdojaaGreatDoorULyt
import Derived.Shelf.Strings.Trim
import Derived.Shelf.Small.Utf8
import Derived.Shelf.Strings.BuilderK
import Derived.Shelf.Strings.Shaped
import Derived.Shelf.Strings.Runes
import Derived.Shelf.Strings.AsciiSet
import Derived.Shelf.Unicode.DecodeSlow
set_option linter.all false
set_option maxHeartbeats 4000000
set_option maxRecDepth 10000
namespace Go.Ev
open Go.Proofs
open PS (cE bV bo eC aV mm mq aE aF ft dM dc yQ vA lE fe eQ cd eT fa aQ aG)
variable {G : List ByteArray}
def sz (σ:WS):Nat:=σ.n+σ.out.size
def GF (G:List ByteArray):Prop:=∀g ∈ G,g.size<=25
theorem SI (hG:GF G)(n:Nat):(uN G n).size<=26:=by
 rw [FY,B8];have h1:(bA [32]).size=1:=rfl
 have h2:(DY G n).size<=25:=by
  unfold DY;split
  ·exact C0 _
  ·rename_i hne;have hlt:n % G.length < G.length:=J9 _ (G3.2 hne);rw [List.getD,uz hlt];exact hG _ (G9 hlt)
 omega
theorem fR (hG:GF G)(σ:WS)(w:ByteArray):sz (aB G σ w)<=sz σ+(27+w.size):=by
 have h:=SI hG σ.n;show(σ.n+1)+(σ.out ++ uN G σ.n ++ w).size<=_;rw [B8,B8];unfold sz;omega
def wz (ws:bV):Nat:=(ws.map fun w=>27+(fS w).size).sum
theorem xq : wz []=0:=rfl
theorem eh (w:Int×ByteArray)(r:bV):wz (w :: r)=27+(fS w).size+wz r:=by unfold wz;rw [E7,J6]
theorem Cy (a b:bV):wz (a ++ b)=wz a+wz b:=by unfold wz;rw [G7,X3]
theorem AB (hG:GF G):∀(ws:bV) (σ:WS),sz (bz G σ ws)<=sz σ+wz ws
 | [],σ=>wU _
 |w :: r,σ=>by
  have h1:=AB hG r (aB G σ (fS w));have h2:=fR hG σ (fS w);rw [nc,eh];omega
theorem Me : ∀l:List UInt8,(bH l).length<=2 * l.length
 | []=>wU _
 |b :: r=>by
  have h:=Me r;rw [bH];split
  ·simp only [B9];omega
  ·simp only [B9];omega
theorem Ov (s:ByteArray):(lX s).size<=2 * s.size+2:=by
 have h:=Me (bs s);rw [aU] at h;unfold lX;rw [rI];simp only [List.length_append,B9,M1];omega
theorem Fm : ∀(d n:Nat),n < 10 ^ d->(fE n).length<=d
 |0,n,h=>by
  obtain rfl:n=0:=by simpa using h
  rw [fE,if_pos rfl];exact wU _
 |d+1,n,h=>by
  rw [fE];split
  ·exact C0 _
  ·have:=Fm d (n / 10) (by rw [H9] at h;exact P4 (by rw [E0];exact h));rw [B9];omega
theorem FI (m:List UInt32):(dh (val m)).size<=10 * m.length+1:=by
 have hv:val m < 10 ^ (10 * m.length):=by
  have h1:=dZ m
  have h2:(4294967296:Nat) ^ m.length<=10 ^ (10 * m.length):=by
   rw [Nat.pow_mul];exact P9 B3 _
  omega
 have h3:=Fm _ _ hv;unfold dh OY;rw [rI];split
 ·simp
 ·rw [Q0];omega
def Er (s:ByteArray):Nat:=s.size+1
def iQ (l:List ByteArray):Nat:=(l.map Er).sum+1
def IA (t:dT):Nat:=7+t.nH.length+t.den.length
def Nc (l:List dT):Nat:=(l.map IA).sum+1
def Cl (l:List (List dT)):Nat:=(l.map Nc).sum+1
def Et (e:nt):Nat:=2+iQ e.given+Cl e.nums
def Es (p:pS):Nat:=2+Er p.name+iQ p.cX+(p.bg.map Et).sum+iQ p.aN
def Iz (v:rX):Nat:=2+Er v.name+v.count.length+iQ v.dL+iQ v.aN
def MC (f:rY):Nat:=3+Er f.name+iQ f.aN+(f.vars.map Iz).sum+(f.bG.map Es).sum
theorem pk : ∀l:List ByteArray,wz (aQ l)+92<=92 * iQ l
 | []=>wU _
 | [a]=>by
  show wz [(1,a)]+92<=92 * ([Er a].sum+1);rw [eh,xq];simp only [J6,List.sum_nil,Er,RL];omega
 |a :: b :: r=>by
  have h:=pk (b :: r);show wz ((1,a) :: (4,bo) :: aQ (b :: r))+92<=92 * (((a :: b :: r).map Er).sum+1);rw [eh,eh,RL,RJ];unfold iQ at h;rw [E7,J6];have h1:Er a=a.size+1:=rfl;have h2:bo.size=1:=rfl;omega
theorem oY : ∀l:List ByteArray,wz (aG l)+92<=92 * iQ l
 | []=>wU _
 |a :: r=>by
  have h:=oY r;show wz ((1,eC) :: (3,a) :: (4,aV) :: aG r)+92<=92 * (((a :: r).map Er).sum+1);rw [eh,eh,eh,RL,RJ];unfold iQ at h;rw [E7,J6];have h1:Er a=a.size+1:=rfl;have h2:aV.size=1:=rfl;have h3:eC.size=8:=rfl;have h4:(fS (3,a)).size<=2 * a.size+2:=Ov a;omega
def EX (st:fh):Nat:=(st.map fun x=>wz x.1).sum
theorem mU (a b:fh):EX (a ++ b)=EX a+EX b:=by unfold EX;rw [G7,X3]
theorem kF (x:bV×Nat):EX [x]=wz x.1:=by unfold EX;simp
theorem RO {st:fh}(h:0 < st.length):st=st.take (st.length - 1) ++ [st.getD (st.length - 1) kI]:=by
 have h1:st.take (st.length - 1+1)=st:=B7 A8;rw [I6 A8] at h1;rw [List.getD,uz A8];exact h1.symm
theorem RN {st:fh}(h:1 < st.length):st=st.take (st.length - 2) ++ [st.getD (st.length - 2) kI,st.getD (st.length - 1) kI]:=by
 have e2:st.length - 2+1=st.length - 1:=by omega
 have h1:st.take (st.length - 2+1+1)=st:=B7 A8;rw [I6 A8,I6 A8,List.append_assoc] at h1;rw [List.getD,uz A8,List.getD,uz A8];simp only [T4];have e3:st[st.length - 2+1]'(by omega)=st[st.length - 1]'(by omega):=by congr 1
 rw [e3] at h1;exact h1.symm
theorem ON {k:Int}(h1:2<=k)(h2:k<=5):(rU k).size=1:=by
 rcases Dz h1 h2 with⟨e,-⟩|⟨e,-⟩|⟨e,-⟩|⟨e,-⟩<;>rw [e]<;>rfl
theorem JE {st st':fh}{t:dT}(hs:fX st t=some st'):EX st'<=EX st+12 * IA t:=by
 have hb:7+t.nH.length<=IA t:=by unfold IA;omega
 unfold fX at hs;split at hs
 ·cases hs
 ·split at hs
  ·split at hs
   ·obtain⟨rfl,-⟩:=eX hs;rw [mU,kF,eh,xq,Wj];have:=FI t.nH;omega
   ·cases hs
  ·split at hs
   ·rename_i c2;obtain⟨rfl,-⟩:=eX hs;have h1:=B4 EX (RO c2.2);rw [mU,kF] at h1;rw [mU,kF]
    have e:wz (sV (st.getD (st.length - 1) kI).1)=28+(28+(wz (st.getD (st.length - 1) kI).1+28)):=by
     show wz ((4,aE) :: ((4,ft) :: ((st.getD (st.length - 1) kI).1 ++ [(4,aF)])))=_;rw [eh,eh,Cy,eh,xq];rfl
    rw [e];omega
   ·split at hs
    ·rename_i c3;obtain⟨rfl,-⟩:=eX hs;have h1:=B4 EX (RN c3.2.2);rw [mU,show [st.getD (st.length - 2) kI,st.getD (st.length - 1) kI]=[st.getD (st.length - 2) kI] ++ [st.getD (st.length - 1) kI] from rfl,mU,kF,kF] at h1;rw [mU,kF]
     have e:wz (sW (st.getD (st.length - 2) kI).1 (st.getD (st.length - 1) kI).1 (rU t.kind))=28+(wz (st.getD (st.length - 2) kI).1+(28+(wz (st.getD (st.length - 1) kI).1+28))):=by
      show wz ((4,aE) :: ((st.getD (st.length - 2) kI).1 ++ (4,rU t.kind) :: (st.getD (st.length - 1) kI).1 ++ [(4,aF)]))=_;rw [eh,List.append_assoc,Cy,G1,eh,Cy,eh,xq,(show(fS (4,rU t.kind)).size=1 from ON c3.1 c3.2.1)];rfl
     rw [e];omega
    ·cases hs
theorem Fg : ∀(l:List dT) {st st':fh},nB l st=some st'->EX st'<=EX st+12 * (l.map IA).sum
 | [],st,st',hs=>by obtain rfl:=C6 hs;exact N1 _ _
 |t :: r,st,st',hs=>by
  rw [nB] at hs;split at hs
  ·rename_i s1 h1;have a:=JE h1;have b:=Fg r hs;rw [E7,J6];omega
  ·cases hs
theorem NJ {l:List dT}{ws:bV}(h:jT l=some ws):wz ws<=12 * (l.map IA).sum:=by
 unfold jT at h;split at h
 ·rename_i x hr;obtain rfl:=C6 h;have:=Fg l hr;rw [kF] at this;have e:EX []=0:=rfl;omega
 ·cases h
theorem ye (hG:GF G):∀(l:List (List dT)) (i:Nat) (σ:WS),sz (cM G l i σ).2+92<=sz σ+92 * Cl l
 | [],i,σ=>by
  show sz σ+92<=sz σ+92 * (0+1);omega
 |a :: r,i,σ=>by
  have e:Cl (a :: r)=Nc a+Cl r:=by unfold Cl;rw [E7,J6,P0]
  have hr:1<=Cl r:=P7 _ _;have ha:Nc a=(a.map IA).sum+1:=rfl;rw [cM,e];split
  ·show sz σ+92<=_;omega
  ·rename_i ws hs;have h1:=ye hG r (i+1) (bz G (if 0 < i then aB G σ bo else σ) ws);have h2:=AB hG ws (if 0 < i then aB G σ bo else σ);have h3:=NJ hs
   have h4:sz (if 0 < i then aB G σ bo else σ)<=sz σ+28:=by
    split
    ·exact fR hG σ bo
    ·omega
   omega
theorem Pw (hG:GF G){e:nt}{τ τ1:WS}(h:fv G e τ=some τ1):sz τ1<=sz τ+92 * iQ e.given:=by
 have hg:1<=iQ e.given:=P7 _ _;unfold fv at h;split at h
 ·obtain rfl:=C6 h;have:=fR hG τ mm;have e:mm.size=5:=rfl;omega
 ·split at h
  ·obtain rfl:=C6 h;have:=fR hG τ mq;have e:mq.size=7:=rfl;omega
  ·split at h
   ·split at h
    ·obtain rfl:=C6 h;have h1:=fR hG τ aE;have h2:=AB hG (aQ e.given) (aB G τ aE);have h3:=fR hG (bz G (aB G τ aE) (aQ e.given)) aF;have h4:=pk e.given;have e1:aE.size=1:=rfl;have e2:aF.size=1:=rfl;omega
    ·cases h
   ·cases h
theorem Gi (hG:GF G):∀(l:List nt) (τ:WS),sz (fw G l τ).2<=sz τ+92 * (l.map Et).sum
 | [],τ=>N1 _ _
 |e :: r,τ=>by
  have hg:1<=iQ e.given:=P7 _ _;rw [fw,E7,J6];have he:Et e=2+iQ e.given+Cl e.nums:=rfl;split
  ·show sz τ<=_;omega
  ·rename_i τ1 hh;have h1:=Pw hG hh;split
   ·show sz τ1<=_;omega
   ·have h2:=ye hG e.nums 0 τ1;split
    ·have h3:=Gi hG r (aB G (cM G e.nums 0 τ1).2 aV);have h4:=fR hG (cM G e.nums 0 τ1).2 aV;have e1:aV.size=1:=rfl;omega
    ·show sz (cM G e.nums 0 τ1).2<=_;omega
theorem RD (σ:WS):sz (fY σ)=sz σ:=rfl
theorem KK (hG:GF G)(p:pS)(σ:WS):sz (eu G p σ).2<=sz σ+92 * Es p:=by
 have hp:Es p=2+(p.name.size+1)+iQ p.cX+(p.bg.map Et).sum+iQ p.aN:=rfl;have hg:1<=iQ p.cX:=P7 _ _;have hg2:1<=iQ p.aN:=P7 _ _;have a1:=fR hG σ cd;have a2:=fR hG (fY (aB G σ cd)) aE;have a3:=fR hG (aB G (fY (aB G σ cd)) aE) p.name;have eA:vH G p σ=aB G (aB G (fY (aB G σ cd)) aE) p.name:=rfl;rw [RD] at a2;rw [<- eA] at a3
 have a4:sz (ke G p σ)+64<=sz (vH G p σ)+92 * iQ p.cX:=by
  unfold ke;split
  ·omega
  ·have b1:=fR hG (vH G p σ) lE;have b2:=AB hG (aQ p.cX) (aB G (vH G p σ) lE);have b3:=pk p.cX;have e:lE.size=1:=rfl;omega
 have a5:=fR hG (ke G p σ) aF;have a6:=fR hG (aB G (ke G p σ) aF) dM;have eH:rR G p σ=aB G (aB G (ke G p σ) aF) dM:=rfl;rw [<- eH] at a6;have a7:=Gi hG p.bg (rR G p σ);have e1:cd.size=11:=rfl;have e2:aE.size=1:=rfl;have e3:aF.size=1:=rfl;have e4:dM.size=1:=rfl;unfold eu;split
 ·split
  ·have b1:=AB hG (aG p.aN) (fw G p.bg (rR G p σ)).2;have b2:=fR hG (bz G (fw G p.bg (rR G p σ)).2 (aG p.aN)) dc;have b3:=oY p.aN;have e:dc.size=1:=rfl;show sz (aB G (bz G (fw G p.bg (rR G p σ)).2 (aG p.aN)) dc)<=_;omega
  ·show sz (fw G p.bg (rR G p σ)).2<=_;omega
 ·show sz σ<=_;omega
theorem Be (hG:GF G):∀(l:List pS) (σ:WS),sz (jx G l σ).2<=sz σ+92 * (l.map Es).sum
 | [],σ=>N1 _ _
 |p :: r,σ=>by
  have h1:=KK hG p σ;rw [jx,E7,J6];split
  ·have h2:=Be hG r (eu G p σ).2;omega
  ·show sz (eu G p σ).2<=_;omega
theorem Nu (hG:GF G)(v:rX)(σ:WS):sz (An G v σ)<=sz σ+92 * Iz v:=by
 have hp:Iz v=2+(v.name.size+1)+v.count.length+iQ v.dL+iQ v.aN:=rfl;have a1:=fR hG σ eQ;have a2:=fR hG (fY (aB G σ eQ)) v.name;rw [RD] at a2;have a3:=fR hG (aB G (fY (aB G σ eQ)) v.name) dM;have a4:=fR hG (aB G (aB G (fY (aB G σ eQ)) v.name) dM) eT;have a5:=fR hG (aB G (aB G (aB G (fY (aB G σ eQ)) v.name) dM) eT) fa;have a6:=fR hG (aB G (aB G (aB G (aB G (fY (aB G σ eQ)) v.name) dM) eT) fa) yQ;have eA:xw G v σ=aB G (aB G (aB G (aB G (aB G (fY (aB G σ eQ)) v.name) dM) eT) fa) yQ:=rfl;rw [<- eA] at a6;have b1:=fR hG (xw G v σ) (dh (val v.count));have b2:=fR hG (aB G (xw G v σ) (dh (val v.count))) vA;have b3:=fR hG (aB G (aB G (xw G v σ) (dh (val v.count))) vA) dM;have eB:sX G v σ=aB G (aB G (aB G (xw G v σ) (dh (val v.count))) vA) dM:=rfl;rw [<- eB] at b3;have c1:=AB hG (aQ v.dL) (sX G v σ);have c2:=fR hG (bz G (sX G v σ) (aQ v.dL)) dc;have c3:=fR hG (aB G (bz G (sX G v σ) (aQ v.dL)) dc) aV;have c4:=AB hG (aG v.aN) (aB G (aB G (bz G (sX G v σ) (aQ v.dL)) dc) aV);have c5:=fR hG (bz G (aB G (aB G (bz G (sX G v σ) (aQ v.dL)) dc) aV) (aG v.aN)) dc;have eF:An G v σ=aB G (bz G (aB G (aB G (bz G (sX G v σ) (aQ v.dL)) dc) aV) (aG v.aN)) dc:=rfl;rw [<- eF] at c5;have n1:=pk v.dL;have n2:=oY v.aN;have n3:=FI v.count;have e1:eQ.size=8:=rfl;have e2:dM.size=1:=rfl;have e3:eT.size=4:=rfl;have e4:fa.size=8:=rfl;have e5:yQ.size=1:=rfl;have e6:vA.size=1:=rfl;have e7:dc.size=1:=rfl;have e8:aV.size=1:=rfl;omega
theorem Al (hG:GF G):∀(l:List rX) (σ:WS),sz (eI G l σ).2<=sz σ+92 * (l.map Iz).sum
 | [],σ=>N1 _ _
 |v :: r,σ=>by
  have h1:=Nu hG v σ;rw [eI,E7,J6];split
  ·have h2:=Al hG r (An G v σ);omega
  ·show sz σ<=_;omega
theorem Ps (hG:GF G)(f:rY)(σ:WS):sz (iA G f σ).2<=sz σ+92 * MC f:=by
 have hp:MC f=3+(f.name.size+1)+iQ f.aN+(f.vars.map Iz).sum+(f.bG.map Es).sum:=rfl;have a1:=fR hG σ fe;have a2:=fR hG (fY (aB G σ fe)) f.name;rw [RD] at a2;have a3:=fR hG (aB G (fY (aB G σ fe)) f.name) dM;have a4:=AB hG (aG f.aN) (aB G (aB G (fY (aB G σ fe)) f.name) dM);have a5:=fR hG (bz G (aB G (aB G (fY (aB G σ fe)) f.name) dM) (aG f.aN)) dc;have eA:qS G f σ=aB G (bz G (aB G (aB G (fY (aB G σ fe)) f.name) dM) (aG f.aN)) dc:=rfl;rw [<- eA] at a5;have n2:=oY f.aN;have e1:fe.size=7:=rfl;have e2:dM.size=1:=rfl;have e3:dc.size=1:=rfl;have v1:=Al hG f.vars (qS G f σ);unfold iA;split
 ·split
  ·have p1:=Be hG f.bG (eI G f.vars (qS G f σ)).2;omega
  ·show sz (eI G f.vars (qS G f σ)).2<=_;omega
 ·show sz σ<=_;omega
theorem Lx (hG:GF G)(f:rY):sz (iA G f lx).2<=92 * MC f:=by
 have h:=Ps hG f lx;have e:sz lx=0:=rfl;omega
end Go.Ev
namespace Go.Ev
open Go.Proofs
def HV (l:List UInt8):List UInt8:=(l.take 20).filter fun b=>decide (b.toNat≠10)
def ml (s:ByteArray):ByteArray:=bA (HV (bs s))
def gX (s:ByteArray):ByteArray:=
 if((bs s).take 20).any (fun b=>decide (b.toNat=42))=true then bA [10,47,47,32] ++ ml s ++ bA [10]
 else if s.size % 3=0 then bA [9,10,13] else bA [47,42] ++ bA ((bs s).take 20) ++ bA [42,47]
def nJ (l:List ByteArray):List ByteArray:=(l.take 10).map gX
theorem qw (s:ByteArray):As (gX s):=by
 unfold gX;split
 ·have h1:bA [10,47,47,32] ++ ml s ++ bA [10]=bA [10] ++ bA ([47,47] ++ (32 :: HV (bs s)) ++ [10]):=by
   unfold ml;rw [Gy,Gy,Gy];rfl
  rw [h1];refine(nZ [10] B3).app (Dc _ fun b hb=>?_);rcases B5.1 hb with rfl|hb
  ·decide
  ·unfold HV at hb;have:=(U6.1 hb).2;simpa using this
 ·rename_i h1;split
  ·exact nZ [9,10,13] B3
  ·rw [Gy,Gy];refine Dd _ fun b hb h42=>h1 ?_
   rw [S4];exact⟨b,hb,F9 h42⟩
theorem Eo (s:ByteArray):(gX s).size<=25:=by
 have hl:(HV (bs s)).length<=20:=G6 (V8 _ _) (by rw [List.length_take];omega);unfold gX;split
 ·unfold ml;rw [Gy,Gy,rI];simp only [List.length_append,B9,M1];omega
 ·split
  ·decide
  ·rw [Gy,Gy,rI];simp only [List.length_append,B9,M1,List.length_take];omega
theorem Ic (l:List ByteArray):∀g ∈ nJ l,g.size<=25:=by
 intro g hg;obtain⟨s,-,rfl⟩:=D4.1 hg;exact Eo s
end Go.Ev
namespace Go.Proofs
open Go.Shelf
def Tryz.rE : Go.Shelf.Ren:=⟨fun|169=>92|n=>n,fun|70=>189|9=>9|0=>0|72=>191|37=>111|127=>211|3=>3|5=>5|n=>n,fun|n=>n⟩
theorem Tryz.Pm : Go.Proofs.Lays.n169 Tryz.prog Tryz.rE:={
 mixed:=by kernel_rfl
 f169:=Tryz.func92.trans (B4 some B1)
 t0:=Tryz.underlying0
 a0:=Tryz.isAgg0
 z0:=Tryz.sizeOf0
 v0:=Tryz.zeroValue0
 t3:=Tryz.underlying3
 a3:=Tryz.isAgg3
 z3:=Tryz.sizeOf3
 v3:=Tryz.zeroValue3
 t9:=Tryz.underlying9
 a9:=Tryz.isAgg9
 z9:=Tryz.sizeOf9
 v9:=Tryz.zeroValue9
 t37:=Tryz.underlying111
 a37:=Tryz.isAgg111
 z37:=Tryz.sizeOf111
 v37:=Tryz.zeroValue111
 t70:=Tryz.underlying189
 a70:=Tryz.isAgg189
 z70:=Tryz.sizeOf189
 v70:=Tryz.zeroValue189
 t72:=Tryz.underlying191
 a72:=Tryz.isAgg191
 z72:=Tryz.sizeOf191
 v72:=Tryz.zeroValue191
 t127:=Tryz.underlying211
 a127:=Tryz.isAgg211
 z127:=Tryz.sizeOf211
 v127:=Tryz.zeroValue211 }
theorem Tryz.pM : Builder.Extra Tryz.prog Tryz.rE:={
 sizeBuilder:=by kernel_rfl
 liesBuilder:=by kernel_rfl
 t5:=Tryz.underlying5
 a5:=Tryz.isAgg5
 z5:=Tryz.sizeOf5
 v5:=Tryz.zeroValue5
 infoByte:=by kernel_rfl
 cellsByte:=by kernel_rfl
 sizeByte:=by kernel_rfl
 neB5:=by decide }
def Tryz.BD : Go.Shelf.Ren:=⟨fun|161=>91|231=>107|227=>108|233=>109|235=>110|228=>126|197=>127|151=>128|260=>141|152=>142|137=>69|119=>158|224=>124|225=>123|217=>84|266=>94|n=>n,fun|9=>9|4=>4|3=>3|5=>5|117=>207|116=>206|0=>0|124=>210|105=>233|21=>21|119=>220|46=>145|139=>274|138=>273|n=>n,fun|3=>2|4=>3|n=>n⟩
theorem Tryz.Po : Go.Proofs.Lays.n161 Tryz.prog Tryz.BD:={
 mixed:=by kernel_rfl
 f119:=Tryz.func158.trans (B4 some B1)
 f137:=Tryz.func69.trans (B4 some B1)
 f151:=Tryz.func128.trans (B4 some B1)
 f152:=Tryz.func142.trans (B4 some B1)
 f161:=Tryz.func91.trans (B4 some B1)
 f197:=Tryz.func127.trans (B4 some B1)
 f217:=Tryz.func84.trans (B4 some B1)
 f224:=Tryz.func124.trans (B4 some B1)
 f225:=Tryz.func123.trans (B4 some B1)
 f227:=Tryz.func108.trans (B4 some B1)
 f228:=Tryz.func126.trans (B4 some B1)
 f231:=Tryz.func107.trans (B4 some B1)
 f233:=Tryz.func109.trans (B4 some B1)
 f235:=Tryz.func110.trans (B4 some B1)
 f260:=Tryz.func141.trans (B4 some B1)
 f266:=Tryz.func94.trans (B4 some B1)
 t0:=Tryz.underlying0
 a0:=Tryz.isAgg0
 z0:=Tryz.sizeOf0
 v0:=Tryz.zeroValue0
 t3:=Tryz.underlying3
 a3:=Tryz.isAgg3
 z3:=Tryz.sizeOf3
 v3:=Tryz.zeroValue3
 t4:=Tryz.underlying4
 a4:=Tryz.isAgg4
 z4:=Tryz.sizeOf4
 v4:=Tryz.zeroValue4
 t5:=Tryz.underlying5
 a5:=Tryz.isAgg5
 z5:=Tryz.sizeOf5
 v5:=Tryz.zeroValue5
 t9:=Tryz.underlying9
 a9:=Tryz.isAgg9
 z9:=Tryz.sizeOf9
 v9:=Tryz.zeroValue9
 t21:=Tryz.underlying21
 a21:=Tryz.isAgg21
 z21:=Tryz.sizeOf21
 v21:=Tryz.zeroValue21
 t46:=Tryz.underlying145
 a46:=Tryz.isAgg145
 z46:=Tryz.sizeOf145
 v46:=Tryz.zeroValue145
 t105:=Tryz.underlying233
 a105:=Tryz.isAgg233
 z105:=Tryz.sizeOf233
 v105:=Tryz.zeroValue233
 t116:=Tryz.underlying206
 a116:=Tryz.isAgg206
 z116:=Tryz.sizeOf206
 t117:=Tryz.underlying207
 a117:=Tryz.isAgg207
 z117:=Tryz.sizeOf207
 v117:=Tryz.zeroValue207
 t119:=Tryz.underlying220
 a119:=Tryz.isAgg220
 z119:=Tryz.sizeOf220
 t124:=Tryz.underlying210
 a124:=Tryz.isAgg210
 z124:=Tryz.sizeOf210
 v124:=Tryz.zeroValue210
 t138:=Tryz.underlying273
 a138:=Tryz.isAgg273
 z138:=Tryz.sizeOf273
 v138:=Tryz.zeroValue273
 t139:=Tryz.underlying274
 a139:=Tryz.isAgg274
 z139:=Tryz.sizeOf274
 v139:=Tryz.zeroValue274
 g3:=by kernel_rfl
 g4:=by kernel_rfl }
open Go.RowKit in
theorem Tryz.strings_TrimLeft_one (s:ByteArray)(c:UInt8)(hc:c.toNat < 128)(w:World) :
  Calls Tryz.prog 91 #[.string s,.string ⟨#[c]⟩] w fun e w'=>e=.returned (.string ⟨(Lib.trimLeftB s.data.toList c).toArray⟩)/\w'=w:=Any.strings_TrimLeft_one Tryz.Po s c hc w
def Tryz.BG : Go.Shelf.Ren:=⟨fun|137=>69|217=>84|266=>94|n=>n,fun|9=>9|5=>5|3=>3|n=>n,fun|n=>n⟩
theorem Tryz.Pr : Go.Proofs.Lays.n137 Tryz.prog Tryz.BG:={
 mixed:=by kernel_rfl
 f137:=Tryz.func69.trans (B4 some B1)
 f217:=Tryz.func84.trans (B4 some B1)
 f266:=Tryz.func94.trans (B4 some B1)
 t3:=Tryz.underlying3
 a3:=Tryz.isAgg3
 z3:=Tryz.sizeOf3
 v3:=Tryz.zeroValue3
 t5:=Tryz.underlying5
 a5:=Tryz.isAgg5
 z5:=Tryz.sizeOf5
 v5:=Tryz.zeroValue5
 t9:=Tryz.underlying9
 a9:=Tryz.isAgg9
 z9:=Tryz.sizeOf9
 v9:=Tryz.zeroValue9 }
open Go.RowKit in
theorem Tryz.strings_IndexByte (s:ByteArray)(c:Int)(w:World) :
  Calls Tryz.prog 69 #[.string s,.int .u8 c] w fun e w'=>e=.returned (.int .i64 (Lib.indexByte s.data.toList c.toNat.toUInt8))/\w'=w:=Any.strings_IndexByte Tryz.Pr s c w
open Go.RowKit in
theorem Tryz.Builder_String_any_k (B b:Nat)(l:List UInt8)(w:World)(h:Lib.IsBuilderF 191 5 B b (Lib.byteCells l) w)(hBw:B<=w.heap.size) :
  Calls Tryz.prog 92 #[.pointer (some ⟨b,0,none⟩)] w fun e w'=>e=.returned (.string ⟨l.toArray⟩)/\(Lib.IsBuilderF 191 5 B b (Lib.byteCells l) w'/\Below B w w'/\Lib.OthersKept 5 (some b) w w'):=Any.Builder_String_any_k Tryz.Pm Tryz.pM B b l w h hBw
def Tryz.BE : Go.Shelf.Ren:=⟨fun|143=>90|219=>106|217=>84|225=>123|224=>124|267=>125|266=>94|314=>140|n=>n,fun|9=>9|3=>3|4=>4|5=>5|46=>145|146=>255|51=>70|n=>n,fun|1=>1|n=>n⟩
theorem Tryz.Pp : Go.Proofs.Lays.n143 Tryz.prog Tryz.BE:={
 mixed:=by kernel_rfl
 f143:=Tryz.func90.trans (B4 some B1)
 f217:=Tryz.func84.trans (B4 some B1)
 f219:=Tryz.func106.trans (B4 some B1)
 f224:=Tryz.func124.trans (B4 some B1)
 f225:=Tryz.func123.trans (B4 some B1)
 f266:=Tryz.func94.trans (B4 some B1)
 f267:=Tryz.func125.trans (B4 some B1)
 f314:=Tryz.func140.trans (B4 some B1)
 t3:=Tryz.underlying3
 a3:=Tryz.isAgg3
 z3:=Tryz.sizeOf3
 v3:=Tryz.zeroValue3
 t4:=Tryz.underlying4
 a4:=Tryz.isAgg4
 z4:=Tryz.sizeOf4
 v4:=Tryz.zeroValue4
 t5:=Tryz.underlying5
 a5:=Tryz.isAgg5
 z5:=Tryz.sizeOf5
 v5:=Tryz.zeroValue5
 t9:=Tryz.underlying9
 a9:=Tryz.isAgg9
 z9:=Tryz.sizeOf9
 v9:=Tryz.zeroValue9
 t46:=Tryz.underlying145
 a46:=Tryz.isAgg145
 z46:=Tryz.sizeOf145
 v46:=Tryz.zeroValue145
 t51:=Tryz.underlying70
 a51:=Tryz.isAgg70
 z51:=Tryz.sizeOf70
 v51:=Tryz.zeroValue70
 t146:=Tryz.underlying255
 a146:=Tryz.isAgg255
 z146:=Tryz.sizeOf255
 v146:=Tryz.zeroValue255
 g1:=by kernel_rfl }
open Go.RowKit Go.Lib in
theorem Tryz.strings_Index (s sub:ByteArray)(m:Int)(w:World)(hs:s.size < 4294967281)(hm:w.cell? ⟨1,0,none⟩=some (.int .i64 m)) :
  Calls Tryz.prog 90 #[.string s,.string sub] w fun e w'=>e=.returned (.int .i64 (Lib.index s.data.toList sub.data.toList))/\w'=w:=Any.strings_Index Tryz.Pp s sub m w hs hm
def Tryz.BF : Go.Shelf.Ren:=⟨fun|138=>217|195=>218|218=>219|143=>90|219=>106|217=>84|225=>123|224=>124|267=>125|266=>94|314=>140|n=>n,fun|9=>9|3=>3|4=>4|5=>5|0=>0|46=>145|146=>255|51=>70|n=>n,fun|1=>1|n=>n⟩
theorem Tryz.Pq : Go.Proofs.Lays.n138 Tryz.prog Tryz.BF:={
 mixed:=by kernel_rfl
 f138:=Tryz.func217.trans (B4 some B1)
 f143:=Tryz.func90.trans (B4 some B1)
 f195:=Tryz.func218.trans (B4 some B1)
 f217:=Tryz.func84.trans (B4 some B1)
 f218:=Tryz.func219.trans (B4 some B1)
 f219:=Tryz.func106.trans (B4 some B1)
 f224:=Tryz.func124.trans (B4 some B1)
 f225:=Tryz.func123.trans (B4 some B1)
 f266:=Tryz.func94.trans (B4 some B1)
 f267:=Tryz.func125.trans (B4 some B1)
 f314:=Tryz.func140.trans (B4 some B1)
 t0:=Tryz.underlying0
 a0:=Tryz.isAgg0
 z0:=Tryz.sizeOf0
 v0:=Tryz.zeroValue0
 t3:=Tryz.underlying3
 a3:=Tryz.isAgg3
 z3:=Tryz.sizeOf3
 v3:=Tryz.zeroValue3
 t4:=Tryz.underlying4
 a4:=Tryz.isAgg4
 z4:=Tryz.sizeOf4
 v4:=Tryz.zeroValue4
 t5:=Tryz.underlying5
 a5:=Tryz.isAgg5
 z5:=Tryz.sizeOf5
 v5:=Tryz.zeroValue5
 t9:=Tryz.underlying9
 a9:=Tryz.isAgg9
 z9:=Tryz.sizeOf9
 v9:=Tryz.zeroValue9
 t46:=Tryz.underlying145
 a46:=Tryz.isAgg145
 z46:=Tryz.sizeOf145
 v46:=Tryz.zeroValue145
 t51:=Tryz.underlying70
 a51:=Tryz.isAgg70
 z51:=Tryz.sizeOf70
 v51:=Tryz.zeroValue70
 t146:=Tryz.underlying255
 a146:=Tryz.isAgg255
 z146:=Tryz.sizeOf255
 v146:=Tryz.zeroValue255
 g1:=by kernel_rfl }
open Go.RowKit Go.Lib in
theorem Tryz.strings_Count_one (s:ByteArray)(c:UInt8)(w:World) :
  Calls Tryz.prog 217 #[.string s,.string ⟨#[c]⟩] w fun e w'=>e=.returned (.int .i64 (Lib.countByte s.data.toList c))/\w'=w:=Any.strings_Count_one Tryz.Pq s c w
end Go.Proofs
