import Derived.Test.YthpoegdjffdojaaGreatDoorULbk
set_option linter.all false
set_option maxHeartbeats 4000000
set_option maxRecDepth 10000
namespace Go.Ev
open Go.Proofs
open PS (cE bV Ex EW PW FW dW eZ eY iS bo eC aV mm mq aE aF ft dM dc yQ vA lE fe eQ cd eT fa aQ aG iG nP fi rL fV rK ib CB sU)
variable {G : List ByteArray}
def XK (w:Int×ByteArray):Prop:=PD w.1 w.2=0
def YR (ws:bV):Int:=(ws.map fun w=>PD w.1 w.2).sum
theorem Ih (a b:bV):YR (a ++ b)=YR a+YR b:=by unfold YR;rw [G7,X3]
theorem Kq (w:Int×ByteArray)(b:bV):YR (w :: b)=PD w.1 w.2+YR b:=by unfold YR;rw [E7,J6]
theorem Au : ∀{l:bV},(∀w ∈ l,XK w)->YR l=0
 | [],_=>rfl
 |w :: r,h=>by
  have h0:PD w.1 w.2=0:=h w (D7 ..);rw [Kq,Au fun x hx=>h x (D5 _ hx),h0];rfl
def Dp (l:bV):Prop:=∀k,0<=YR (l.take k)
theorem Rx {l:bV}(h:∀w ∈ l,XK w):Dp l:=fun k=>by
 rw [Au fun w hw=>h w (J5 hw)];omega
structure x8 (ws:bV):Prop where
 ex:∃w0 A M,ws=(w0 :: A) ++ (4,dM) :: (M ++ [(4,dc)])/\(∀w ∈ w0 :: A,XK w)/\Dp M/\YR M=0
theorem Rt {ws:bV}(h:x8 ws):YR ws=0:=by
 obtain⟨w0,A,M,rfl,h1,h2,h3⟩:=h.ex;rw [Ih,Au h1,Kq,Ih,h3];decide
theorem j4 {ws:bV}(h:x8 ws){k:Nat}(hk:k < ws.length):1<=YR (ws.take k)\/∀w ∈ ws.take k,XK w:=by
 obtain⟨w0,A,M,rfl,h1,h2,h3⟩:=h.ex;by_cases hs:k<=(w0 :: A).length
 ·right;rw [J4 hs];exact fun w hw=>h1 w (J5 hw)
 ·left;obtain⟨j,rfl⟩:∃j,k=(w0 :: A).length+(j+1):=⟨k - (w0 :: A).length - 1,by omega⟩
  simp only [List.length_append,B9,M1] at hk;rw [N7,Ih,Au h1,M4,Kq,J4 (by first|omega|(simp only [B9] at *;omega))];have h4:=h2 j;have h5:PD 4 dM=1:=by decide
  show 1<=0+(PD 4 dM+YR (M.take j))
  omega
theorem Tu {k:Int}{m:ByteArray}(h:k≠4):XK (k,m):=PS.Zs h m
theorem Tg : ∀l:List ByteArray,∀w ∈ aQ l,XK w
 | [],w,hw=>by cases hw
 | [a],w,hw=>by
  obtain rfl:=HQ.1 hw;exact Tu B3
 |a :: b :: r,w,hw=>by
  rcases B5.1 hw with rfl|hw
  ·exact Tu B3
  ·rcases B5.1 hw with rfl|hw
   ·show PD 4 bo=0;decide
   ·exact Tg (b :: r) w hw
theorem Qa : ∀l:List ByteArray,∀w ∈ aG l,XK w
 | [],w,hw=>by cases hw
 |a :: r,w,hw=>by
  rcases B5.1 hw with rfl|hw
  ·exact Tu B3
  ·rcases B5.1 hw with rfl|hw
   ·exact Tu B3
   ·rcases B5.1 hw with rfl|hw
    ·show PD 4 aV=0;decide
    ·exact Qa r w hw
theorem c8 {st st':fh}{t:dT}(h:∀x ∈ st,∀w ∈ x.1,XK w)(hs:fX st t=some st'):∀x ∈ st',∀w ∈ x.1,XK w:=by
 have get:∀i,∀w ∈ (st.getD i kI).1,XK w:=fun i w hw=>by
  rw [C9] at hw
  cases hq:st[i]? with
  |none=>rw [hq] at hw;cases hw
  |some x=>rw [hq] at hw;exact h x (MH hq) w hw
 have push:∀(k:Nat) (x:bV×Nat),(∀w ∈ x.1,XK w)->∀y ∈ st.take k ++ [x],∀w ∈ y.1,XK w:=fun k x hx y hy=>by
  rcases D6.1 hy with hy|hy
  ·exact h y (J5 hy)
  ·obtain rfl:=HQ.1 hy;exact hx
 unfold fX at hs;split at hs
 ·cases hs
 ·split at hs
  ·split at hs
   ·obtain⟨rfl,-⟩:=eX hs
    have:=push st.length ([(2,dh (val t.nH))],0) (fun w hw=>by
     obtain rfl:=HQ.1 hw
     exact Tu B3)
    rwa [J0] at this
   ·cases hs
  ·split at hs
   ·obtain⟨rfl,-⟩:=eX hs;refine push _ _ fun w hw=>?_
    simp only [sV,G1,B5,D6,K3,S2] at hw;rcases hw with rfl|rfl|hw|rfl
    ·show PD 4 aE=0;decide
    ·show PD 4 ft=0;decide
    ·exact get _ w hw
    ·show PD 4 aF=0;decide
   ·split at hs
    ·rename_i c3;obtain⟨rfl,-⟩:=eX hs;refine push _ _ fun w hw=>?_
     simp only [sW,G1,B5,D6,K3,S2] at hw;rcases hw with rfl|(hw|rfl|hw)|rfl
     ·show PD 4 aE=0;decide
     ·exact get _ w hw
     ·rcases Dz c3.1 c3.2.1 with⟨e,-⟩|⟨e,-⟩|⟨e,-⟩|⟨e,-⟩<;>rw [e]<;>(unfold XK;decide)
     ·exact get _ w hw
     ·show PD 4 aF=0;decide
    ·cases hs
theorem ZM : ∀(l:List dT) {st st':fh},(∀x ∈ st,∀w ∈ x.1,XK w)->nB l st=some st'->∀x ∈ st',∀w ∈ x.1,XK w
 | [],st,st',h,hs=>by obtain rfl:=C6 hs;exact h
 |t :: r,st,st',h,hs=>by
  rw [nB] at hs;split at hs
  ·rename_i s1 h1;exact ZM r (c8 h h1) hs
  ·cases hs
theorem Zk {l:List dT}{ws:bV}(h:jT l=some ws):∀w ∈ ws,XK w:=by
 unfold jT at h;split at h
 ·rename_i x hr;obtain rfl:=C6 h;exact ZM l (fun x hx=>by cases hx) hr x (HQ.2 rfl)
 ·cases h
theorem ZN : ∀{l:List (List dT)},vV l->∀w ∈ iG (l.map xe),XK w
 | [],_,w,hw=>by cases hw
 | [a],h,w,hw=>by
  obtain⟨ws,hs⟩:=h a (D7 ..);have hw':w ∈ (xe a).ws:=hw;rw [(lQ hs).2.1] at hw';exact Zk hs w hw'
 |a :: b :: r,h,w,hw=>by
  obtain⟨ws,hs⟩:=h a (D7 ..);have hw':w ∈ (xe a).ws ++ (4,bo) :: iG ((b :: r).map xe):=hw;rcases D6.1 hw' with hw'|hw'
  ·rw [(lQ hs).2.1] at hw';exact Zk hs w hw'
  ·rcases B5.1 hw' with rfl|hw'
   ·show PD 4 bo=0;decide
   ·exact ZN (fun x hx=>h x (D5 _ hx)) w hw'
theorem x9 (e:EW):∀w ∈ e.hd,XK w:=by
 intro w hw;unfold EW.hd at hw;split at hw
 ·obtain rfl:=HQ.1 hw;exact Tu B3
 ·split at hw
  ·obtain rfl:=HQ.1 hw;exact Tu B3
  ·rw [G1] at hw;rcases B5.1 hw with rfl|hw
   ·show PD 4 aE=0;decide
   ·rcases D6.1 hw with hw|hw
    ·exact Tg _ w hw
    ·obtain rfl:=HQ.1 hw;show PD 4 aF=0;decide
theorem x4 {e:nt}(h:vV e.nums):∀w ∈ nP (iB e),XK w:=by
 intro w hw;unfold nP at hw;rw [List.append_assoc] at hw;rcases D6.1 hw with hw|hw
 ·exact x9 _ w hw
 ·rcases D6.1 hw with hw|hw
  ·exact ZN h w hw
  ·obtain rfl:=HQ.1 hw;show PD 4 aV=0;decide
theorem Zm {p:pS}(h:XH p):x8 ((1,cd) :: rL (oq p)):=by
 refine⟨(1,cd),(4,aE) :: (1,p.name) :: (sU p.cX ++ [(4,aF)]),fi (p.bg.map iB) ++ aG p.aN,?_,?_,?_,?_⟩
 ·show(1,cd) :: (4,aE) :: (1,p.name) :: (sU p.cX ++ (4,aF) :: (4,dM) :: (fi (p.bg.map iB) ++ (aG p.aN ++ [(4,dc)])))=_;simp
 ·intro w hw;rcases B5.1 hw with rfl|hw
  ·exact Tu B3
  rcases B5.1 hw with rfl|hw
  ·show PD 4 aE=0;decide
  rcases B5.1 hw with rfl|hw
  ·exact Tu B3
  rcases D6.1 hw with hw|hw
  ·cases hq:p.cX with
   |nil=>rw [hq] at hw;cases hw
   |cons a r=>
    rw [hq] at hw;rcases B5.1 hw with rfl|hw
    ·show PD 4 lE=0;decide
    ·exact Tg _ w hw
  ·obtain rfl:=HQ.1 hw;show PD 4 aF=0;decide
 all_goals
  have hM:∀w ∈ fi (p.bg.map iB) ++ aG p.aN,XK w:=fun w hw=>by
   rcases D6.1 hw with hw|hw
   ·unfold fi at hw;obtain⟨x,hx,hw⟩:=W3.1 hw;obtain⟨y,hy,rfl⟩:=D4.1 hx;exact x4 (h.row y hy).1 w hw
   ·exact Qa _ w hw
 ·exact Rx hM
 ·exact Au hM
theorem YM (v:rX):x8 ((1,eQ) :: rK dh (lM v)):=by
 refine⟨(1,eQ),[(1,v.name)],([(1,eT),(1,fa),(4,yQ),(2,dh (val v.count)),(4,vA)] ++ (4,dM) :: (aQ v.dL ++ (4,dc) :: (4,aV) :: aG v.aN)),?_,?_,?_,?_⟩
 ·show(1,eQ) :: (1,v.name) :: (4,dM) :: (1,eT) :: (1,fa) :: (4,yQ) :: (2,dh (val v.count)) :: (4,vA) :: (4,dM) :: (aQ v.dL ++ (4,dc) :: (4,aV) :: (aG v.aN ++ [(4,dc)]))=_;simp
 ·intro w hw;simp only [B5,K3,S2] at hw;rcases hw with rfl|rfl<;>exact Tu B3
 all_goals
  have hA:∀w ∈ ([(1,eT),(1,fa),(4,yQ),(2,dh (val v.count)),(4,vA)]:bV),XK w:=fun w hw=>by
   simp only [B5,K3,S2] at hw;rcases hw with rfl|rfl|rfl|rfl|rfl
   ·exact Tu B3
   ·exact Tu B3
   ·show PD 4 yQ=0;decide
   ·exact Tu B3
   ·show PD 4 vA=0;decide
  have hN:=Tg v.dL
  have hP:∀w ∈ ((4,aV) :: aG v.aN:bV),XK w:=fun w hw=>by
   rcases B5.1 hw with rfl|hw
   ·show PD 4 aV=0;decide
   ·exact Qa _ w hw
  have l1:PD 4 dM=1:=by decide
  have r1:PD 4 dc = -1:=by decide
 ·intro k;by_cases k1:k<=5
  ·rw [J4 k1];exact Rx hA k
  ·obtain⟨j,rfl⟩:∃j,k=5+(j+1):=⟨k - 6,by omega⟩
   rw [show 5+(j+1)=([(1,eT),(1,fa),(4,yQ),(2,dh (val v.count)),(4,vA)]:bV).length+(j+1) from rfl,N7,Ih,Au hA,M4,Kq];show 0<=0+(PD 4 dM+_)
   by_cases k2:j<=(aQ v.dL).length
   ·rw [J4 k2];have:=Rx hN j;omega
   ·obtain⟨i,rfl⟩:∃i,j=(aQ v.dL).length+(i+1):=⟨j - (aQ v.dL).length - 1,by omega⟩
    rw [N7,Ih,Au hN,M4,Kq];have:=Rx hP i;show 0<=0+(PD 4 dM+(0+(PD 4 dc+_)))
    omega
 ·rw [Ih,Au hA,Kq,Ih,Au hN,Kq,Au hP];decide
theorem YN (f:rY):x8 ((1,fe) :: (1,f.name) :: (4,dM) :: (aG f.aN ++ [(4,dc)])):=by
 refine⟨(1,fe),[(1,f.name)],aG f.aN,rfl,?_,Rx (Qa _),Au (Qa _)⟩;intro w hw;simp only [B5,K3,S2] at hw;rcases hw with rfl|rfl<;>exact Tu B3
theorem ZQ : ∀(l:List ByteArray) (σ:WS),(og G σ l).mark=σ.mark
 | [],σ=>rfl
 |w :: l,σ=>ZQ l (aB G σ w)
theorem Uy (ws:bV)(σ:WS):(bz G σ ws).mark=σ.mark:=ZQ _ σ
def LP (G:List ByteArray)(σ:WS)(ws:bV)(m:Nat):Prop:=∃U w0 R,ws=U ++ w0 :: R/\YR U=0/\x8 (w0 :: R)/\m=(bz G σ (U ++ [w0])).out.size
theorem LP.y4 {σ τ:WS}{ws:bV}{m:Nat}(h:LP G σ ws m)(hs:mM σ τ):LP G τ ws m:=by
 obtain⟨U,w0,R,h1,h2,h3,h4⟩:=h;exact⟨U,w0,R,h1,h2,h3,by rw [h4,(hs.s _).out]⟩
theorem LP.pre {σ:WS}{a b:bV}{m:Nat}(h:LP G (bz G σ a) b m)(ha:YR a=0):LP G σ (a ++ b) m:=by
 obtain⟨U,w0,R,h1,h2,h3,h4⟩:=h;exact⟨a ++ U,w0,R,by rw [h1,List.append_assoc],by rw [Ih,ha,h2];rfl,h3,by rw [h4,List.append_assoc,bn σ a (U ++ [w0])]⟩
theorem ZP {p:pS}{σ:WS}(h:(eu G p σ).1=true):(eu G p σ).2.mark=(aB G σ cd).out.size:=by
 unfold eu at h |-;split at h
 ·rename_i hc;rw [if_pos hc];split at h
  ·rename_i he;rw [if_pos he];obtain⟨g1,-⟩:=Gg _ _ he;dsimp only;rw [g1];show(bz G (bz G _ _) _).mark=_;rw [Uy,Uy];unfold rR ke;show(if p.cX=[] then vH G p σ else bz G (aB G (vH G p σ) lE) (aQ p.cX)).mark=_;split
   ·rfl
   ·rw [Uy];rfl
  ·cases h
 ·cases h
theorem Zq : ∀(l:List pS) (σ:WS),(jx G l σ).1=true->l≠[]->LP G σ (fV (l.map oq)) (jx G l σ).2.mark
 | [],_,_,h=>absurd rfl h
 | [p],σ,h,_=>by
  rw [jx] at h |-;split at h
  ·rename_i h1;rw [if_pos h1];obtain⟨g1,g2⟩:=Sj h1;refine⟨[],(1,cd),rL (oq p),by show(1,cd) :: (rL (oq p) ++ [])=_;rw [J8];rfl,rfl,Zm g2,?_⟩;exact ZP h1
  ·cases h
 |p :: q :: r,σ,h,_=>by
  rw [jx] at h |-;split at h
  ·rename_i h1;rw [if_pos h1];obtain⟨g1,g2⟩:=Sj h1;have ih:=Zq (q :: r) _ h (by simp);have e1:fV ((p :: q :: r).map oq)=((1,cd) :: rL (oq p)) ++ fV ((q :: r).map oq):=rfl;rw [e1];exact(ih.y4 g1).pre (Rt (Zm g2))
  ·cases h
theorem ZJ (v:rX)(σ:WS):(An G v σ).mark=(aB G σ eQ).out.size:=by
 unfold An;show(bz G _ _).mark=_;rw [Uy];show(bz G _ _).mark=_;rw [Uy];rfl
theorem Zp : ∀(l:List rX) (σ:WS),(eI G l σ).1=true->l≠[]->LP G σ (ib dh (l.map lM)) (eI G l σ).2.mark
 | [],_,_,h=>absurd rfl h
 | [v],σ,h,_=>by
  rw [eI] at h |-;split at h
  ·rename_i h1;rw [if_pos h1];refine⟨[],(1,eQ),rK dh (lM v),by show(1,eQ) :: (rK dh (lM v) ++ [])=_;rw [J8];rfl,rfl,YM v,?_⟩;exact ZJ v σ
  ·cases h
 |v :: q :: r,σ,h,_=>by
  rw [eI] at h |-;split at h
  ·rename_i h1;rw [if_pos h1];obtain⟨g1,g2⟩:=Rp (G:=G) (σ:=σ) h1;have ih:=Zp (q :: r) _ h (by simp);have e1:ib dh ((v :: q :: r).map lM)=((1,eQ) :: rK dh (lM v)) ++ ib dh ((q :: r).map lM):=rfl;rw [e1];exact(ih.y4 g1).pre (Rt (YM v))
  ·cases h
theorem ZI (l:List rX):YR (ib dh (l.map lM))=0:=by
 induction l with
 |nil=>rfl
 |cons v r ih=>
  have e1:ib dh ((v :: r).map lM)=((1,eQ) :: rK dh (lM v)) ++ ib dh (r.map lM):=rfl;rw [e1,Ih,ih,Rt (YM v)];rfl
theorem YZ {f:rY}{σ:WS}(h:(iA G f σ).1=true):LP G σ (CB dh (uP f)) (iA G f σ).2.mark:=by
 unfold iA at h |-;split at h
 ·rename_i hc;rw [if_pos hc];split at h
  ·rename_i hv;rw [if_pos hv]
   have e1:CB dh (uP f)=((1,fe) :: (1,f.name) :: (4,dM) :: (aG f.aN ++ [(4,dc)])) ++ (ib dh (f.vars.map lM) ++ fV (f.bG.map oq)):=by
    show(1,fe) :: (1,f.name) :: (4,dM) :: (aG f.aN ++ (4,dc) :: (ib dh (f.vars.map lM) ++ fV (f.bG.map oq)))=_;simp
   have hA:mM (qS G f σ) (bz G σ ((1,fe) :: (1,f.name) :: (4,dM) :: (aG f.aN ++ [(4,dc)]))):=by
    have e2:((1,fe) :: (1,f.name) :: (4,dM) :: (aG f.aN ++ [(4,dc)]):bV)=[(1,fe),(1,f.name),(4,dM)] ++ (aG f.aN ++ [(4,dc)]):=rfl;rw [e2,bn,bn];unfold qS;have hm:mM (fY (aB G σ fe)) (aB G σ fe):=mM.Kt.m;exact(((hm.w f.name).w dM).s _).w dc
   have mA:(qS G f σ).mark=(aB G σ fe).out.size:=by
    unfold qS;show(bz G _ _).mark=_;rw [Uy];rfl
   obtain⟨a1,-⟩:=EM _ _ hv;by_cases hp:f.bG=[]
   ·rw [hp] at h |-;show LP G σ _ (eI G f.vars (qS G f σ)).2.mark;by_cases hw:f.vars=[]
    ·rw [hw];show LP G σ _ (qS G f σ).mark;rw [e1,hp,hw];refine⟨[],(1,fe),(1,f.name) :: (4,dM) :: (aG f.aN ++ [(4,dc)]),by simp [ib,fV],rfl,YN f,mA⟩
    ·have:=Zp f.vars _ hv hw;rw [e1,hp];have e3:ib dh (f.vars.map lM) ++ fV (([]:List pS).map oq)=ib dh (f.vars.map lM):=by simp [fV]
     rw [e3];exact(this.y4 hA).pre (Rt (YN f))
   ·have:=Zq f.bG _ h hp;rw [e1];refine LP.pre (LP.pre (this.y4 ?_) (ZI _)) (Rt (YN f));exact a1.trans (hA.s _)
  ·cases h
 ·cases h
end Go.Ev
namespace Go.Ev
open Go.Proofs
open PS (cE bV Ex EW PW FW dW eZ eY iS bo eC aV mm mq aE aF ft dM dc yQ vA lE fe eQ cd eT fa aQ aG iG nP fi rL fV rK ib CB sU)
variable {G : List ByteArray}
theorem Ru {s:ByteArray}:(mw dV s).2=(PS.Ec dV cg (PS.begin s)).2.bad:=by
 unfold mw;cases hb:(PS.Ec dV cg (PS.begin s)).2.bad<;>rfl
theorem Uz {s:ByteArray}(h:(bQ s 0).2≠none):(mw dV s).2≠none:=by
 rw [Ru];exact PS.ZU dV cg (X:=fQ s) (fun t ht=>YA s 0 h t ht) _
theorem YP : ∀(a b:bV) (n:Nat),IK G n (a ++ b)=IK G n a ++ IK G (n+a.length) b
 | [],b,n=>rfl
 |w :: r,b,n=>by
  rw [G1,IK,IK,YP r b (n+1),G1,B9,show n+1+r.length=n+(r.length+1) by omega]
theorem YO : ∀(a:bV) (n:Nat),(IK G n a).length=a.length
 | [],_=>rfl
 |w :: r,n=>by rw [IK,B9,B9,YO r]
theorem Zn (hG:∀g ∈ G,Fh g):∀(ws:bV) (n:Nat),(∀w ∈ ws,Af w)->∀p ∈ IK G n ws,p9 p
 | [],_,_,p,hp=>by cases hp
 |w :: r,n,h,p,hp=>by
  rcases B5.1 hp with rfl|hp
  ·refine⟨?_,c7 (h w (D7 ..))⟩;show Fh (DY G n);unfold DY;split
   ·exact v7
   ·rename_i hne;have hlt:n % G.length < G.length:=J9 _ (G3.2 hne);rw [List.getD,uz hlt];exact hG _ (G9 hlt)
  ·exact Zn hG r (n+1) (fun x hx=>h x (D5 _ hx)) p hp
theorem j9 {a b:List Piece}:(jJ a).size<=(jJ (a ++ b)).size:=by rw [Xb,B8];omega
theorem Xa {f:rY}(h:(iA G f lx).1=true):(iA G f lx).2.out=jJ (IK G 0 (CB dh (uP f))):=by
 obtain⟨h1,-⟩:=Ly h;rw [h1.out,yO];show eS ++ _=_;unfold eS;rw [S5];rfl
theorem ZK (ts:List Tok):(ts.map fun t=>PD t.kind t.text).sum=YR (ts.map fun t=>(t.kind,t.text)):=by
 unfold YR;rw [List.map_map];rfl
theorem ZF (hG:∀g ∈ G,As g/\Fh g){f:rY}(h:(iA G f lx).1=true){n:Nat}(h1:(iA G f lx).2.mark<=n)(h2:n < (iA G f lx).2.out.size) :
  (mw dV ((iA G f lx).2.out.extract 0 n)).2≠none:=by
 obtain⟨-,hf⟩:=Ly h;have ht:=Xa h;obtain⟨U,w0,R,e1,e2,e3,e4⟩:=YZ h;have hW:=hf.wd
 have hM:(iA G f lx).2.mark=(jJ (IK G 0 (U ++ [w0]))).size:=by
  rw [e4,yO];show(eS ++ _).size=_;unfold eS;rw [S5];rfl
 rw [hM] at h1;rw [ht] at h2 |-;rw [e1] at h2 hW |-;have hps:∀p ∈ IK G 0 (U ++ w0 :: R),p.OK/\p9 p:=fun p hp=>⟨KU (fun g hg=>(hG g hg).1) _ 0 hW p hp,Zn (fun g hg=>(hG g hg).2) _ 0 hW p hp⟩
 have hz:((jJ (IK G 0 (U ++ w0 :: R))).extract 0 n).size=n:=by rw [dm A8];omega
 have hP:YT ((jJ (IK G 0 (U ++ w0 :: R))).extract 0 n) 0 (jJ (IK G 0 (U ++ w0 :: R))) n:=⟨by omega,by rw [hz];omega,fun i hi=>by rw [cI A8,C2,C2]⟩
 rcases Zr _ _ 0 n hps hP h2 with k|⟨ts,T,k,k1,k2,k3,k4,k5⟩
 ·exact Uz k
 ·intro hb;by_cases hl:(bQ ((jJ (IK G 0 (U ++ w0 :: R))).extract 0 n) 0).2=none
  ·rw [Ru] at hb;obtain⟨j,t,e,q1,q2,q3,q4,q5,q6⟩:=PS.ZE dV cg (X:=fQ ((jJ (IK G 0 (U ++ w0 :: R))).extract 0 n)) hl _ hb;have hL:(fQ ((jJ (IK G 0 (U ++ w0 :: R))).extract 0 n)).L=ts ++ T:=k3;rw [hL] at q1 q4
   have hmap:ts.map (fun t=>(t.kind,t.text))=(U ++ w0 :: R).take k:=by
    rw [k4,List.map_take,Fv _ 0 hW]
   rw [YO] at k1
   have hlen:ts.length=k:=by
    have:=B4 List.length hmap;rw [List.length_map,List.length_take] at this;omega
   have j1:j < ts.length:=by
    refine I4 fun hge=>?_
    rw [IX A8] at q1;have:=k5 t (MH q1) q2;exact this.2 q3
   have j2:j+1=ts.length:=by
    refine I4 fun hne=>?_
    rw [C5 A8] at q4;have h3:(ts.map (fun t=>(t.kind,t.text)))[j+1]?=some (e.kind,e.text):=by rw [Zf,q4];rfl
    rw [hmap] at h3;have h4:=hW _ (J5 (MH h3));have h5:=h4.2.kind;have h6:e.kind.toNat≠0:=h5;rw [q5] at h6;exact h6 rfl
   have hsum:YR ((U ++ w0 :: R).take k)=0:=by
    rw [<- hmap,<- ZK]
    have e9:PS.ZW (fQ ((jJ (IK G 0 (U ++ w0 :: R))).extract 0 n)) (j+1)=(ts.map fun t=>PD t.kind t.text).sum:=by
     unfold PS.ZW;rw [hL,j2,O1]
    rw [<- e9,q6];rfl
   have hk:U.length+1<=k:=by
    refine I4 fun hlt=>?_
    have e5:IK G 0 (U ++ [w0])=(IK G 0 (U ++ w0 :: R)).take (U.length+1):=by
     have:U ++ w0 :: R=(U ++ [w0]) ++ R:=by simp
     rw [this,YP (U ++ [w0]) R 0,<- show(IK G 0 (U ++ [w0])).length=U.length+1 by rw [YO];simp,O1]
    have e6:(jJ ((IK G 0 (U ++ w0 :: R)).take (k+1))).size<=(jJ (IK G 0 (U ++ [w0]))).size:=by
     rw [e5]
     have:(IK G 0 (U ++ w0 :: R)).take (U.length+1)=(IK G 0 (U ++ w0 :: R)).take (k+1) ++ ((IK G 0 (U ++ w0 :: R)).take (U.length+1)).drop (k+1):=by
      have h8:=(L1 (k+1) ((IK G 0 (U ++ w0 :: R)).take (U.length+1))).symm
      rwa [J3,I5 A8] at h8
     rw [this];exact j9
    omega
   obtain⟨i,rfl⟩:∃i,k=U.length+i:=⟨k - U.length,by omega⟩
   rw [N7,Ih,e2] at hsum;rw [List.length_append] at k1;rcases j4 e3 (k:=i) A8 with h9|h9
   ·omega
   ·-- the last word is a bracket,and no word of the part's beginning is
    have h3:(ts.map (fun t=>(t.kind,t.text)))[j]?=some (t.kind,t.text):=by
     rw [C5 j1] at q1;rw [Zf,q1];rfl
    rw [hmap,N7,IX A8] at h3;have:=h9 _ (MH h3);unfold XK at this;rw [q2,q3] at this;exact absurd this B3
  ·exact Uz hl hb
theorem YY (v:ByteArray):∀(l:List Piece) (a:Nat),(∀p ∈ l,p.OK)->Has v a (jJ l)->a+(jJ l).size < v.size->ax v (a+(jJ l).size)=32->
  ∃ts,bQ v a=(ts ++ (bQ v (a+(jJ l).size)).1,(bQ v (a+(jJ l).size)).2)/\ts.map (fun t=>(t.kind,t.text))=l.map (fun p=>((p.kind:Int),p.Sy))
 | [],a,_,H,he,hc=>⟨[],rfl,rfl⟩
 |p :: r,a,h,H,he,hc=>by
  have hp:=h p (D7 ..);have z1:(bA [32] ++ p.Ad).size=1+p.Ad.size:=by rw [B8];rfl
  have z2:(bA [32] ++ p.Ad ++ p.src).size=1+p.Ad.size+p.src.size:=by rw [B8,z1]
  have hsz:(jJ (p :: r)).size=1+p.Ad.size+p.src.size+(jJ r).size:=by rw [jJ,B8,z2]
  rw [hsz] at he hc |-;have H1:Has v a ((bA [32] ++ p.Ad) ++ p.src ++ jJ r):=H;have Hr:=H1.snd;have Hg:=H1.fst.fst;have Hs:=H1.fst.snd;rw [z2] at Hr;rw [z1] at Hs;have hg:As (bA [32] ++ p.Ad):=(nZ [32] B3).app hp.Ad;have e1:=hg v a Hg;rw [z1] at e1;rw [show a+(1+p.Ad.size+p.src.size+(jJ r).size)=a+(1+p.Ad.size+p.src.size)+(jJ r).size by omega] at he hc |-;obtain⟨ts,e3,e4⟩:=YY v r (a+(1+p.Ad.size+p.src.size)) (fun q hq=>h q (D5 _ hq)) Hr he hc
  have e2:=hp.word.at Hs (by
   right;rw [show a+(1+p.Ad.size)+p.src.size=a+(1+p.Ad.size+p.src.size) by omega]
   cases r with
   |nil=>exact hc
   |cons q r'=>
    have:=Hr.ch 0 (by
     have:(jJ (q :: r')).size=1+q.Ad.size+q.src.size+(jJ r').size:=by
      rw [jJ,B8,B8,B8];rfl
     omega)
    rw [show a+(1+p.Ad.size+p.src.size)=a+(1+p.Ad.size+p.src.size)+0 by omega,this]
    have e:jJ (q :: r')=bA [32] ++ (q.Ad ++ q.src ++ jJ r'):=by
     rw [jJ,K0,K0,K0]
    rw [e,QR (by exact Q9 _)];rfl)
  rw [show a+(1+p.Ad.size)+p.src.size=a+(1+p.Ad.size+p.src.size) by omega,e3] at e2;refine⟨_ :: ts,e1.trans e2,?_⟩;rw [E7,e4];rfl
theorem YJ {v m:ByteArray}{b:Nat}(hz:b+m.size=v.size)(hc:∀i,i < m.size->ax v (b+i)=ax m i)(i:Nat)(hi:i<=m.size) :
  (bQ v (b+i)).1.map (fun t=>(t.kind,t.text))=(bQ m i).1.map (fun t=>(t.kind,t.text))/\((bQ v (b+i)).2=none↔(bQ m i).2=none):=by
 rw [bQ,bQ.eq_def m i];by_cases hlt:i < m.size
 ·have e:v.extract (b+i) v.size=m.extract i m.size:=by
   refine mH (by rw [dm (wU _),dm (wU _)];omega) fun j hj=>?_
   rw [dm (wU _)] at hj;rw [cI A8,cI A8,P0,hc _ A8]
  rw [I2 hlt,I2 A8,e];by_cases c1:(aH (m.extract i m.size)).code≠0
  ·rw [if_pos c1,if_pos c1];exact⟨rfl,⟨fun h=>(by cases h),fun h=>(by cases h)⟩⟩
  ·rw [if_neg c1,if_neg c1];by_cases c2:0 < (aH (m.extract i m.size)).n
   ·have hp:=(kH (s:=m.extract i m.size) (by rw [dm (wU _)];omega) (T1.1 c1)).2;rw [dm (wU _)] at hp;obtain⟨g1,g2⟩:=YJ hz hc (i+(aH (m.extract i m.size)).n) A8;rw [I2 c2,I2 c2];rw [<- P0] at g1 g2;by_cases c3:(aH (m.extract i m.size)).kind≠0
    ·rw [if_pos c3,if_pos c3];exact⟨by rw [E7,E7,g1],g2⟩
    ·rw [if_neg c3,if_neg c3];exact⟨g1,g2⟩
   ·rw [O4 c2,O4 c2];exact⟨rfl,Iff.rfl⟩
 ·rw [O4 hlt,O4 A8];exact⟨rfl,Iff.rfl⟩
termination_by m.size - i
theorem YF (hG:∀g ∈ G,As g/\Fh g){f:rY}(h:(iA G f lx).1=true)(more:ByteArray) :
  ∃ts T:List Tok,bQ ((iA G f lx).2.out ++ bA [32] ++ more) 0=(ts ++ T,(bQ ((iA G f lx).2.out ++ bA [32] ++ more) 0).2)/\ts.map (fun t=>(t.kind,t.text))=CB dh (uP f)/\
   T.map (fun t=>(t.kind,t.text))=(bQ more 0).1.map (fun t=>(t.kind,t.text))/\((bQ ((iA G f lx).2.out ++ bA [32] ++ more) 0).2=none↔(bQ more 0).2=none):=by
 obtain⟨-,hf⟩:=Ly h;have ht:=Xa h;have hW:=hf.wd;rw [ht]
 have hz:(jJ (IK G 0 (CB dh (uP f))) ++ bA [32] ++ more).size=(jJ (IK G 0 (CB dh (uP f)))).size+1+more.size:=by
  rw [B8,B8];rfl
 have H:Has (jJ (IK G 0 (CB dh (uP f))) ++ bA [32] ++ more) 0 (jJ (IK G 0 (CB dh (uP f))) ++ bA [32] ++ more):=Has.self _
 have c32:ax (jJ (IK G 0 (CB dh (uP f))) ++ bA [32] ++ more) (0+(jJ (IK G 0 (CB dh (uP f)))).size)=32:=by
  have:=H.fst.snd.ch 0 (by exact Q9 _);rw [H8] at this;exact this
 obtain⟨ts,k1,k2⟩:=YY _ (IK G 0 (CB dh (uP f))) 0 (KU (fun g hg=>(hG g hg).1) _ 0 hW) H.fst.fst A8 c32;rw [C2] at k1 c32;have s1:=AJ (v:=jJ (IK G 0 (CB dh (uP f))) ++ bA [32] ++ more) (a:=(jJ (IK G 0 (CB dh (uP f)))).size) A8 (by rw [c32];decide)
 obtain⟨g1,g2⟩:=YJ (v:=jJ (IK G 0 (CB dh (uP f))) ++ bA [32] ++ more) (m:=more) (b:=(jJ (IK G 0 (CB dh (uP f)))).size+1) A8 (fun i hi=>by
  have:=H.snd.ch i hi;rw [C2,B8] at this
  exact this) 0 (C0 _)
 rw [H8,<- s1] at g1 g2;rw [Fv _ 0 hW] at k2;refine⟨ts,_,by rw [k1],k2,g1,?_⟩;rw [k1];exact g2
theorem Zi (hG:∀g ∈ G,As g/\Fh g){f:rY}(h:(iA G f lx).1=true)(more:ByteArray) :
  PS.Up (PS.begin ((iA G f lx).2.out ++ bA [32] ++ more)) (CB dh (uP f) ++ (bQ more 0).1.map (fun t=>(t.kind,t.text))) 0:=by
 obtain⟨ts,T,k1,k2,k3,-⟩:=YF hG h more;refine⟨rfl,rfl,fun i w hi=>?_⟩;have hL:(fQ ((iA G f lx).2.out ++ bA [32] ++ more)).L=ts ++ T:=by show(bQ _ 0).1=_;rw [k1]
 show ∃t,(fQ _).L[0+i]?=some t/\t.kind=w.1/\t.text=w.2;rw [<- k2,<- k3,<- G7,Zf] at hi;rw [hL,C2]
 cases hq:(ts ++ T)[i]? with
 |none=>rw [hq] at hi;cases hi
 |some t=>
  rw [hq] at hi;obtain rfl:=C6 hi;exact⟨t,rfl,rfl,rfl⟩
namespace PS
variable {X : fA} (dec : ByteArray -> Int × Nat) (cnt : ByteArray -> Option Nat) (ct : Nat -> ByteArray)
theorem YD : ∀(l:List PW) (k:Nat) (vs:List dW) (ps:List eY) (σ:PS X) (w:Int×ByteArray) (r:bV),(w.1≠1\/w.2≠eQ)->(w.1≠1\/w.2≠cd)->(∀p ∈ l,∀e ∈ p.bg,e.OK dec)->Up σ (fV l ++ w :: r) 0->l.length+1<=k->
  Up (ey dec cnt k vs ps σ).2.2 (w :: r) 0
 | [],k,vs,ps,σ,w,r,n1,n2,_,h,hk=>by
  obtain⟨k,rfl⟩:∃j,k=j+1:=⟨k - 1,by simp at hk;omega⟩
  have h':Up σ (w :: r) 0:=h;rw [ey,if_neg (by rw [h'.no n1];exact B6),if_neg (by rw [h'.no n2];exact B6),h'.settle];exact h'
 |p :: l,k,vs,ps,σ,w,r,n1,n2,ho,h,hk=>by
  obtain⟨k,rfl⟩:∃j,k=j+1:=⟨k - 1,by simp at hk;omega⟩
  have h':Up σ ((1,cd) :: (rL p ++ (fV l ++ w :: r))) 0:=by
   have e1:fV (p :: l)=(1,cd) :: rL p ++ fV l:=rfl;rw [e1,List.append_assoc] at h;exact h
  obtain⟨b1,b2⟩:=Rs dec (ho p (D7 ..)) (h'.aK B3).1;rw [ey,if_neg (by rw [h'.no (Or.inr B3)];exact B6),if_pos h'.yes];exact YD l k vs _ _ w r n1 n2 (fun x hx=>ho x (D5 _ hx)) b2 (by simp at hk;omega)
theorem YC : ∀(l:List dW) (q:List PW) (k:Nat) (vs:List dW) (ps:List eY) (σ:PS X) (w:Int×ByteArray) (r:bV),(w.1≠1\/w.2≠eQ)->(w.1≠1\/w.2≠cd)->(∀v ∈ l,cnt (ct v.count)=some v.count/\v.dL≠[])->(∀p ∈ q,∀e ∈ p.bg,e.OK dec)->Up σ (ib ct l ++ (fV q ++ w :: r)) 0->l.length+q.length+1<=k->
  Up (ey dec cnt k vs ps σ).2.2 (w :: r) 0
 | [],q,k,vs,ps,σ,w,r,n1,n2,_,ho,h,hk=>YD dec cnt q k vs ps σ w r n1 n2 ho h (by simp at hk;omega)
 |v :: l,q,k,vs,ps,σ,w,r,n1,n2,hv,ho,h,hk=>by
  obtain⟨k,rfl⟩:∃j,k=j+1:=⟨k - 1,by simp at hk;omega⟩
  have h':Up σ ((1,eQ) :: (rK ct v ++ (ib ct l ++ (fV q ++ w :: r)))) 0:=by
   have e1:ib ct (v :: l)=(1,eQ) :: rK ct v ++ ib ct l:=rfl;rw [e1,List.append_assoc] at h;exact h
  obtain⟨c1,c2⟩:=hv v (D7 ..);obtain⟨b1,b2⟩:=Rr cnt ct c1 c2 (h'.aK B3).1;rw [ey,if_pos h'.yes];exact YC l q k _ ps _ w r n1 n2 (fun x hx=>hv x (D5 _ hx)) ho b2 (by simp at hk;omega)
theorem Zj {f:FW}(hf:f.OK dec cnt ct){σ:PS X}{w:Int×ByteArray}{r:bV}(n1:w.1≠1\/w.2≠eQ)(n2:w.1≠1\/w.2≠cd)(h:Up σ (CB ct f ++ w :: r) 0):Up (BM dec cnt σ).2.2 (w :: r) 0:=by
 have h':Up σ ((1,fe) :: (1,f.name) :: (4,dM) :: (aG f.aN ++ (4,dc) :: (ib ct f.vars ++ (fV f.bG ++ w :: r)))) 0:=by
  unfold CB at h;simpa using h
 have a1:=h'.aO B3;obtain⟨a2,a3⟩:=a1.take B3;have a4:Up (Ie σ) (aG f.aN ++ (4,dc) :: (ib ct f.vars ++ (fV f.bG ++ w :: r))) 0:=a3.aO B3;obtain⟨a5,a6⟩:=th (w:=(4,dc)) (Or.inl B3) a4;have a7:Up (vN σ) (ib ct f.vars ++ (fV f.bG ++ w :: r)) 0:=a6.aO B3
 have hlen:f.vars.length+f.bG.length+1<=X.L.length+1:=by
  have h1:=Ai ct f.vars;have h3:=Aj f.bG;rcases a7.len with h2|h2
  ·rw [List.length_append,List.length_append] at h2;omega
  ·simp at h2
 exact YC dec cnt ct f.vars f.bG (X.L.length+1) [] [] _ w r n1 n2 hf.vr hf.pb a7 hlen
theorem Zd {f:FW}(hf:f.OK dec cnt ct){σ:PS X}{w:Int×ByteArray}{r:bV}(n0:w.1≠0)(n1:w.1≠1\/w.2≠eQ)(n2:w.1≠1\/w.2≠cd)(h:Up σ (CB ct f ++ w :: r) 0):(Ec dec cnt σ).2.bad≠none:=by
 obtain⟨t,t1,t2,t3⟩:=(Zj dec cnt ct hf n1 n2 h).tok;show(fin (BM dec cnt σ).2.2).bad≠none;unfold fin;rw [t1];simp only;rw [if_neg (by rw [t2];exact n0)];exact vX _ _
theorem Zw {f:FW}(hf:f.OK dec cnt ct){σ:PS X}{w:Int×ByteArray}{r:bV}(n0:w.1=0)(h:Up σ (CB ct f ++ w :: r) 0):(Ec dec cnt σ).2.bad=none:=by
 have g3:=Zj dec cnt ct hf (Or.inl (by rw [n0];decide)) (Or.inl (by rw [n0];decide)) h;obtain⟨t,t1,t2,t3⟩:=g3.tok;show(fin (BM dec cnt σ).2.2).bad=none;unfold fin;rw [t1];simp only;rw [if_pos (by rw [t2];exact n0)];exact g3.bad
end PS
theorem ZC (hG:∀g ∈ G,As g/\Fh g){f:rY}(h:(iA G f lx).1=true){more:ByteArray}{t:Tok}(hm:(bQ more 0).1=[t])(hl:(bQ more 0).2=none):(mw dV ((iA G f lx).2.out ++ bA [32] ++ more)).2=none:=by
 obtain⟨-,hf⟩:=Ly h;have hu:=Zi hG h more
 have ht:t.kind=0:=by
  obtain⟨l,u,e1,e2⟩:=rb more 0 hl;rw [hm] at e1;have e3:[t].getLast?=(l ++ [u]).getLast?:=by rw [e1]
  rw [List.getLast?_concat] at e3;obtain rfl:=C6 e3;exact e2
 rw [hm,List.map_singleton] at hu;rw [Ru];exact PS.Zw dV cg dh hf.ok ht hu
theorem Zg (hG:∀g ∈ G,As g/\Fh g){f:rY}(h:(iA G f lx).1=true){more:ByteArray}(hn:∀t r,(bQ more 0).2=none->(bQ more 0).1=t :: r->t.kind≠0/\(t.kind≠1\/t.text≠eQ)/\(t.kind≠1\/t.text≠cd)) :
  (mw dV ((iA G f lx).2.out ++ bA [32] ++ more)).2≠none:=by
 obtain⟨-,hf⟩:=Ly h;by_cases hl:(bQ more 0).2=none
 ·have hu:=Zi hG h more
  cases hq:(bQ more 0).1 with
  |nil=>
   obtain⟨l,u,e1,e2⟩:=rb more 0 hl;rw [hq] at e1;exact absurd e1 (by simp)
  |cons t r=>
   obtain⟨n0,n1,n2⟩:=hn t r hl hq;rw [hq,E7] at hu;rw [Ru];exact PS.Zd dV cg dh hf.ok n0 n1 n2 hu
 ·obtain⟨ts,T,k1,k2,k3,k4⟩:=YF hG h more;exact Uz fun e=>hl (k4.1 e)
end Go.Ev
