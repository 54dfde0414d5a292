import Derived.Test.YthpoegdjffdojaaGreatDoorULao
set_option linter.all false
set_option maxHeartbeats 4000000
set_option maxRecDepth 10000
namespace Go.Ev
open Go.Proofs
open PS (cE bV Ex EW PW FW dW eZ eY iS bo eC aV mm mq aE aF dM dc yQ vA lE fe eQ cd eT fa aQ aG iG nP fi rL fV rK ib CB sU)
variable {G : List ByteArray}
structure rX where
 name:ByteArray
 count:List UInt32
 dL:List ByteArray
 aN:List ByteArray
deriving Inhabited
structure rY where
 name:ByteArray
 aN:List ByteArray
 vars:List rX
 bG:List pS
def Az (v:rX):T:=.agg [.af (.string v.name),.sl (v.count.map bw),.sl (iD v.dL),.sl (iD v.aN)]
def CH (f:rY):T:=.agg [.af (.string f.name),.sl (iD f.aN),.sl (f.vars.map Az),.sl (f.bG.map xO)]
def GJ (v:rX):Bool:=gH v.name && ux v.dL && tU v.aN && (decide (v.count=[]) ||decide (v.count.getD (v.count.length - 1) 0≠0))
def xw (G:List ByteArray)(v:rX)(σ:WS):WS:=aB G (aB G (aB G (aB G (aB G (fY (aB G σ eQ)) v.name) dM) eT) fa) yQ
def sX (G:List ByteArray)(v:rX)(σ:WS):WS:=aB G (aB G (aB G (xw G v σ) (dh (val v.count))) vA) dM
def An (G:List ByteArray)(v:rX)(σ:WS):WS:=aB G (bz G (aB G (aB G (bz G (sX G v σ) (aQ v.dL)) dc) aV) (aG v.aN)) dc
def eI (G:List ByteArray):List rX->WS->Bool×WS
 | [],σ=>(true,σ)
 |v :: r,σ=>if GJ v=true then eI G r (An G v σ) else(false,σ)
def jx (G:List ByteArray):List pS->WS->Bool×WS
 | [],σ=>(true,σ)
 |p :: r,σ=>if(eu G p σ).1=true then jx G r (eu G p σ).2 else(false,(eu G p σ).2)
def qS (G:List ByteArray)(f:rY)(σ:WS):WS:=aB G (bz G (aB G (aB G (fY (aB G σ fe)) f.name) dM) (aG f.aN)) dc
def LA (f:rY):Bool:=gH f.name && tU f.aN
def iA (G:List ByteArray)(f:rY)(σ:WS):Bool×WS:=
 if LA f=true then(if(eI G f.vars (qS G f σ)).1=true then jx G f.bG (eI G f.vars (qS G f σ)).2 else(false,(eI G f.vars (qS G f σ)).2)) else(false,σ)
structure mM (σ τ:WS):Prop where
 out:σ.out=τ.out
 n:σ.n=τ.n
theorem mM.Kt {σ:WS}:mM σ σ:=⟨rfl,rfl⟩
theorem mM.trans {a b c:WS}(h:mM a b)(k:mM b c):mM a c:=⟨h.out.trans k.out,h.n.trans k.n⟩
theorem mM.w {σ τ:WS}(h:mM σ τ)(w:ByteArray):mM (aB G σ w) (aB G τ w):=by
 refine⟨?_,?_⟩
 ·show σ.out ++ uN G σ.n ++ w=τ.out ++ uN G τ.n ++ w;rw [h.out,h.n]
 ·show σ.n+1=τ.n+1;rw [h.n]
theorem mM.l : ∀(l:List ByteArray) {σ τ:WS},mM σ τ->mM (og G σ l) (og G τ l)
 | [],_,_,h=>h
 |w :: l,_,_,h=>mM.l l (h.w w)
theorem mM.s {σ τ:WS}(h:mM σ τ)(ws:bV):mM (bz G σ ws) (bz G τ ws):=mM.l _ h
theorem mM.m {σ τ:WS}(h:mM σ τ):mM (fY σ) τ:=⟨h.out,h.n⟩
theorem RL (a:ByteArray):fS (1,a)=a:=rfl
theorem Wj (a:ByteArray):fS (2,a)=a:=rfl
theorem RJ (a:ByteArray):fS (4,a)=a:=rfl
def xe (l:List dT):Ex:=⟨(jT l).getD [],l.map (·.conv),64⟩
def iB (e:nt):EW:=⟨e.kind,e.given,e.nums.map xe⟩
def oq (p:pS):PW:=⟨p.name,p.cX,p.bg.map iB,p.aN⟩
def lM (v:rX):dW:=⟨v.name,val v.count,v.dL,v.aN⟩
def uP (f:rY):FW:=⟨f.name,f.aN,f.vars.map lM,f.bG.map oq⟩
def Af (w:Int×ByteArray):Prop:=0<=w.1/\Word (fS w) w.1.toNat w.2
theorem vn.w {w:Int×ByteArray}(h:vn w):Af w:=by
 obtain⟨k,m⟩:=w;rcases h with⟨h1,h2⟩|⟨h1,h2⟩
 ·dsimp only at h1 h2;subst h1;exact⟨by show(0:Int)<=2;decide,h2.word⟩
 ·dsimp only at h1 h2;subst h1;exact⟨by show(0:Int)<=4;decide,h2⟩
theorem dB (b:UInt8)(h:b ∈ [123,125,40,41,91,93,44,59,124,43,45,42,47]):Af (4,bA [b]):=⟨by show(0:Int)<=4;decide,Jf b h⟩
theorem js {w:ByteArray}(h:w=PS.fe\/w=PS.eC\/w=PS.eQ\/w=PS.eT\/w=PS.fa\/w=PS.cd\/w=PS.mm\/w=PS.mq):Af (1,w):=⟨by show(0:Int)<=1;decide,Ro w h⟩
theorem Ln {s:ByteArray}(h:gH s=true):ED s:=by
 unfold gH at h;rw [C7,C7,C7,E5,E5,E5] at h;exact⟨h.1.1.1,h.1.1.2,h.1.2,h.2⟩
theorem lK {s:ByteArray}(h:gH s=true):Af (1,s):=⟨by show(0:Int)<=1;decide,(Ln h).word⟩
theorem Jb {s:ByteArray}(h:IM s=false):Af (3,s):=by
 refine⟨by show(0:Int)<=3;decide,Hu s fun i hi k=>?_⟩
 have h2:IM s=true:=by
  unfold IM;rw [S4];refine⟨ax s i,?_,F9 k⟩;unfold ax;have hi':i < (bs s).length:=by rw [aU];exact hi
  rw [C9,uz hi'];exact G9 hi'
 rw [h] at h2;cases h2
theorem mQ : ∀{l:List ByteArray},(∀s ∈ l,gH s=true)->∀w ∈ aQ l,Af w
 | [],_,w,hw=>by cases hw
 | [a],h,w,hw=>by
  obtain rfl:=HQ.1 hw;exact lK (h a (D7 ..))
 |a :: b :: r,h,w,hw=>by
  rcases B5.1 hw with rfl|hw
  ·exact lK (h a (D7 ..))
  ·rcases B5.1 hw with rfl|hw
   ·exact dB 44 B3
   ·exact mQ (fun s hs=>h s (D5 _ hs)) w hw
theorem mP : ∀{l:List ByteArray},tU l=true->∀w ∈ aG l,Af w
 | [],_,w,hw=>by cases hw
 |a :: r,h,w,hw=>by
  unfold tU at h;rw [List.all_cons,C7] at h;rcases B5.1 hw with rfl|hw
  ·exact js (Or.inr (Or.inl rfl))
  ·rcases B5.1 hw with rfl|hw
   ·exact Jb (by simpa using h.1)
   ·rcases B5.1 hw with rfl|hw
    ·exact dB 59 B3
    ·exact mP h.2 w hw
theorem yG {l:List ByteArray}(h:ux l=true):(∀s ∈ l,gH s=true)/\l≠[]:=by
 unfold ux at h;rw [C7,E5] at h;exact⟨fun s hs=>F8.1 h.1 s hs,G3.1 h.2⟩
def MP (t:dT):Prop:=(t.kind=1/\t.DT)\/(t.kind≠1/\t.Pu)
theorem NP {st st':fh}{t:dT}(hs:fX st t=some st'):MP t:=by
 unfold fX at hs;split at hs
 ·cases hs
 ·rename_i c0;split at hs
  ·rename_i c1;split at hs
   ·rename_i c2;exact Or.inl ⟨c1,c2⟩
   ·cases hs
  ·rename_i c1;refine Or.inr ⟨c1,?_⟩;by_cases hz:t.Pu
   ·exact hz
   ·exact absurd ⟨c1,hz⟩ c0
theorem Kj : ∀(l:List dT) {st st':fh},nB l st=some st'->∀t ∈ l,MP t
 | [],_,_,_,t,ht=>by cases ht
 |a :: r,st,st',hs,t,ht=>by
  rw [nB] at hs;split at hs
  ·rename_i s1 h1;rcases B5.1 ht with rfl|ht
   ·exact NP h1
   ·exact Kj r hs t ht
  ·cases hs
theorem Fa {l:List dT}{ws:bV}(h:jT l=some ws):∀t ∈ l,MP t:=by
 unfold jT at h;split at h
 ·rename_i x hr;exact Kj l hr
 ·cases h
theorem norm_eq : ∀{m:List UInt32},m=[]\/m.getD (m.length - 1) 0≠0->lm (val m)=m:=by
 intro m h;exact(kW h (vc _) (bM _).symm).symm
theorem NA {t:dT}(h:MP t):AA t=tT t.conv:=by
 obtain⟨kind,neg,nH,den⟩:=t;rcases h with⟨h1,h2,h3,h4⟩|⟨h1,h2,h3,h4⟩
 ·dsimp only at h1 h2 h3 h4;subst h1 h2 h3;unfold AA tT dT.conv;dsimp only;rw [if_pos rfl];dsimp only;rw [Int.natAbs_natCast,norm_eq h4];have e1:decide (((val nH:Nat):Int) < 0)=false:=G4 A8;rw [e1,DQ];rfl
 ·dsimp only at h1 h2 h3 h4;subst h2 h3 h4;unfold AA tT dT.conv;dsimp only;rw [if_neg h1];dsimp only;have l0:lm 0=[]:=by rw [lm,if_pos rfl]
  rw [show Int.natAbs 0=0 from rfl,l0];rfl
theorem lQ {l:List dT}{ws:bV}(h:jT l=some ws):Ex.OK dV (xe l)/\(xe l).ws=ws/\(∀w ∈ ws,Af w)/\fW l=CG (l.map (·.conv)):=by
 obtain⟨D,h1,h2,h3⟩:=NI h;have e:(xe l).ws=ws:=by unfold xe;rw [h];rfl
 refine⟨⟨by rw [e];exact h1,?_,wU _⟩,e,fun w hw=>(NH h w hw).w,?_⟩
 ·intro X d σ w r n hu hd hn;have hd3:D<=64:=h3;rw [e] at hu;have hd':64 < d:=hd;have hn':n+64<=64:=hn;exact h2 X d σ w r n hu (by show D < d;omega) (by show n+D<=64;omega)
 ·unfold fW CG;rw [List.map_map];exact B4 T.sl (O2 fun t ht=>NA (Fa h t ht))
def vV (l:List (List dT)):Prop:=∀a ∈ l,∃ws,jT a=some ws
theorem AS : ∀(l:List (List dT)) (i:Nat) (σ:WS),(cM G l i σ).1=true->vV l
 | [],_,_,_=>fun a ha=>by cases ha
 |a :: r,i,σ,h=>by
  rw [cM] at h;split at h
  ·cases h
  ·rename_i ws hs;intro b hb;rcases B5.1 hb with rfl|hb
   ·exact⟨ws,hs⟩
   ·exact AS r _ _ h b hb
theorem oW : ∀(l:List (List dT)) (i:Nat) (σ:WS),vV l->l≠[]->cM G l i σ=(true,bz G (if 0 < i then aB G σ bo else σ) (iG (l.map xe)))
 | [],_,_,_,h=>absurd rfl h
 | [a],i,σ,h,_=>by
  obtain⟨ws,hs⟩:=h a (D7 ..);rw [cM,hs];simp only [cM];rw [show iG ([a].map xe)=(xe a).ws from rfl,(lQ hs).2.1]
 |a :: b :: r,i,σ,h,_=>by
  obtain⟨ws,hs⟩:=h a (D7 ..);rw [cM,hs];simp only;rw [oW (b :: r) (i+1) _ (fun x hx=>h x (D5 _ hx)) (by simp),if_pos (Q9 _)];rw [show iG ((a :: b :: r).map xe)=(xe a).ws ++ (4,bo) :: iG ((b :: r).map xe) from rfl,(lQ hs).2.1,bn,nc,RJ]
theorem yd : ∀{l:List (List dT)},vV l->∀w ∈ iG (l.map xe),Af w
 | [],_,w,hw=>by cases hw
 | [a],h,w,hw=>by
  obtain⟨ws,hs⟩:=h a (D7 ..);have hw':w ∈ (xe a).ws:=hw;rw [(lQ hs).2.1] at hw';exact(lQ hs).2.2.1 w hw'
 |a :: b :: r,h,w,hw=>by
  obtain⟨ws,hs⟩:=h a (D7 ..);have hw':w ∈ (xe a).ws ++ (4,bo) :: iG ((b :: r).map xe):=hw;rcases D6.1 hw' with hw'|hw'
  ·rw [(lQ hs).2.1] at hw';exact(lQ hs).2.2.1 w hw'
  ·rcases B5.1 hw' with rfl|hw'
   ·exact dB 44 B3
   ·exact yd (fun x hx=>h x (D5 _ hx)) w hw'
theorem AQ {l:List (List dT)}(h:vV l):T.sl (l.map fW)=qh (l.map fun a=>a.map (·.conv)):=by
 unfold qh;rw [List.map_map];refine B4 T.sl (O2 fun a ha=>?_);obtain⟨ws,hs⟩:=h a ha;exact(lQ hs).2.2.2
theorem Fj {l:List (List dT)}(h:vV l):∀x ∈ l.map xe,Ex.OK dV x:=by
 intro x hx;obtain⟨a,ha,rfl⟩:=D4.1 hx;obtain⟨ws,hs⟩:=h a ha;exact(lQ hs).1
structure Yv (e:nt):Prop where
 ok:EW.OK dV (iB e)
 wd:∀w ∈ nP (iB e),Af w
 tr:tw e=CI (iB e).D
 row:vV e.nums
theorem DW {e:nt}{τ τ1:WS}(h:fv G e τ=some τ1)(hk:¬(e.kind≠3/\0 < e.given.length)) :
  τ1=bz G τ (iB e).hd/\(∀w ∈ (iB e).hd,Af w)/\(e.kind=1/\e.given=[]\/e.kind=2/\e.given=[]\/e.kind=3/\e.given≠[]):=by
 have hg:e.kind≠3->e.given=[]:=fun h3=>by
  cases hq:e.given with
  |nil=>rfl
  |cons a r=>exact absurd ⟨h3,by rw [hq];exact Q9 _⟩ hk
 unfold fv at h;split at h
 ·rename_i k1;obtain rfl:=C6 h;have e1:(iB e).hd=[(1,mm)]:=by unfold EW.hd iB;exact if_pos k1
  rw [e1];refine⟨rfl,fun w hw=>?_,Or.inl ⟨k1,hg A8⟩⟩;obtain rfl:=HQ.1 hw;exact js (by simp)
 ·rename_i k1;split at h
  ·rename_i k2;obtain rfl:=C6 h;have e1:(iB e).hd=[(1,mq)]:=by unfold EW.hd iB;dsimp only;rw [if_neg k1,if_pos k2]
   rw [e1];refine⟨rfl,fun w hw=>?_,Or.inr (Or.inl ⟨k2,hg A8⟩)⟩;obtain rfl:=HQ.1 hw;exact js (by simp)
  ·rename_i k2;split at h
   ·rename_i k3;split at h
    ·rename_i k4;obtain rfl:=C6 h;obtain⟨n1,n2⟩:=yG k4;have e1:(iB e).hd=(4,aE) :: aQ e.given ++ [(4,aF)]:=by unfold EW.hd iB;dsimp only;rw [if_neg k1,if_neg k2]
     rw [e1];refine⟨?_,fun w hw=>?_,Or.inr (Or.inr ⟨k3,n2⟩)⟩
     ·rw [G1,nc,bn];rfl
     ·rw [G1] at hw;rcases B5.1 hw with rfl|hw
      ·exact dB 40 B3
      ·rcases D6.1 hw with hw|hw
       ·exact mQ n1 w hw
       ·obtain rfl:=HQ.1 hw;exact dB 41 B3
    ·cases h
   ·cases h
theorem Gg : ∀(l:List nt) (τ:WS),(fw G l τ).1=true->(fw G l τ).2=bz G τ (fi (l.map iB))/\∀e ∈ l,Yv e
 | [],τ,_=>⟨rfl,fun e he=>by cases he⟩
 |e :: r,τ,h=>by
  cases hh:fv G e τ with
  |none=>rw [uS hh] at h;cases h
  |some τ1=>
   by_cases k1:e.kind≠3/\0 < e.given.length
   ·rw [kK hh k1] at h;cases h
   ·cases k2:((cM G e.nums 0 τ1).1 && decide (0 < e.nums.length)) with
    |false=>rw [zd hh k1 k2] at h;cases h
    |true=>
     rw [ze hh k1 k2] at h |-;rw [C7,E5] at k2;have hne:e.nums≠[]:=G3.1 k2.2;have hrb:=AS _ _ _ k2.1;obtain⟨w1,w2,w3⟩:=DW hh k1;obtain⟨g1,g2⟩:=Gg r _ h;rw [oW _ _ _ hrb hne,if_neg (S8 0)] at g1;rw [oW _ _ _ hrb hne,if_neg (S8 0)];refine⟨?_,fun x hx=>?_⟩
     ·rw [g1,w1]
      have e1:fi ((e :: r).map iB)=((iB e).hd ++ (iG (e.nums.map xe) ++ [(4,aV)])) ++ fi (r.map iB):=by
       show nP (iB e) ++ fi (r.map iB)=_;unfold nP;rw [List.append_assoc (iB e).hd];rfl
      rw [e1,bn,bn,bn];rfl
     ·rcases B5.1 hx with rfl|hx
      ·refine⟨⟨w3,?_,Fj hrb⟩,fun w hw=>?_,?_,hrb⟩
       ·intro e9;exact hne (List.map_eq_nil_iff.1 e9)
       ·unfold nP at hw;rw [List.append_assoc] at hw;rcases D6.1 hw with hw|hw
        ·exact w2 w hw
        ·rcases D6.1 hw with hw|hw
         ·exact yd hrb w hw
         ·obtain rfl:=HQ.1 hw;exact dB 59 B3
       ·unfold tw CI;have e2:=AQ hrb;show T.agg [_,_,T.sl (x.nums.map fW)]=_;rw [e2];unfold iB EW.D;dsimp only;rw [List.map_map];rfl
      ·exact g2 x hx
structure XH (p:pS):Prop where
 ok:∀e ∈ (oq p).bg,EW.OK dV e
 wd:∀w ∈ rL (oq p),Af w
 tr:xO p=qi (oq p).D
 row:∀e ∈ p.bg,vV e.nums/\e.nums≠[]
theorem uA {α β:Type}{f g:α->β}{l:List α}(h:∀x ∈ l,f x=g x):l.map f=l.map g:=O2 h
theorem Sj {p:pS}{σ:WS}(h:(eu G p σ).1=true):mM (eu G p σ).2 (bz G σ ((1,cd) :: rL (oq p)))/\XH p:=by
 unfold eu at h |-;split at h
 ·rename_i hc;rw [if_pos hc];split at h
  ·rename_i he;rw [if_pos he];unfold Ds at hc;rw [C7,C7,M7,E5] at hc;obtain⟨⟨hc1,hc2⟩,hc3⟩:=hc;obtain⟨g1,g2⟩:=Gg _ _ he
   have hpar:ke G p σ=bz G (vH G p σ) (sU p.cX)/\∀w ∈ sU p.cX,Af w:=by
    unfold ke
    cases hq:p.cX with
    |nil=>
     rw [if_pos rfl];exact⟨rfl,fun w hw=>by cases hw⟩
    |cons a r=>
     rw [if_neg (by simp)];rw [hq] at hc2;obtain⟨n1,-⟩:=yG (hc2.resolve_left (by simp));refine⟨rfl,fun w hw=>?_⟩;rcases B5.1 hw with rfl|hw
     ·exact dB 124 B3
     ·exact mQ n1 w hw
   have hA:mM (vH G p σ) (bz G σ [(1,cd),(4,aE),(1,p.name)]):=by
    have h1:mM (fY (aB G σ cd)) (aB G σ cd):=mM.Kt.m;exact(h1.w aE).w p.name
   refine⟨?_,⟨?_,?_,?_,fun e he=>⟨(g2 e he).row,fun e9=>((g2 e he).ok.ne) (by show e.nums.map xe=[];rw [e9];rfl)⟩⟩⟩
   ·dsimp only;rw [g1];unfold rR;rw [hpar.1];have e1:((1,cd) :: rL (oq p):bV)=[(1,cd),(4,aE),(1,p.name)] ++ (sU p.cX ++ ([(4,aF),(4,dM)] ++ (fi (p.bg.map iB) ++ (aG p.aN ++ [(4,dc)])))):=rfl;rw [e1,bn,bn,bn,bn,bn];exact(((((hA.s _).w aF).w dM).s _).s _).w dc
   ·intro e he;obtain⟨x,hx,rfl⟩:=D4.1 he;exact(g2 x hx).ok
   ·intro w hw;have e1:rL (oq p)=(4,aE) :: (1,p.name) :: (sU p.cX ++ (4,aF) :: (4,dM) :: (fi (p.bg.map iB) ++ (aG p.aN ++ [(4,dc)]))):=rfl;rw [e1] at hw;rcases B5.1 hw with rfl|hw
    ·exact dB 40 B3
    rcases B5.1 hw with rfl|hw
    ·exact lK hc1
    rcases D6.1 hw with hw|hw
    ·exact hpar.2 w hw
    rcases B5.1 hw with rfl|hw
    ·exact dB 41 B3
    rcases B5.1 hw with rfl|hw
    ·exact dB 123 B3
    rcases D6.1 hw with hw|hw
    ·unfold fi at hw;obtain⟨x,hx,hw⟩:=W3.1 hw;obtain⟨y,hy,rfl⟩:=D4.1 hx;exact(g2 y hy).wd w hw
    rcases D6.1 hw with hw|hw
    ·exact mP hc3 w hw
    ·obtain rfl:=HQ.1 hw;exact dB 125 B3
   ·unfold xO qi NF;show T.agg [_,_,T.sl (p.bg.map tw),_]=_;rw [uA fun e he=>(g2 e he).tr];unfold oq PW.D;dsimp only;rw [List.map_map,List.map_map];rfl
  ·cases h
 ·cases h
theorem Fs : ∀(l:List pS) (σ:WS),(jx G l σ).1=true->mM (jx G l σ).2 (bz G σ (fV (l.map oq)))/\∀p ∈ l,XH p
 | [],σ,_=>⟨mM.Kt,fun p hp=>by cases hp⟩
 |p :: r,σ,h=>by
  rw [jx] at h |-;split at h
  ·rename_i h1;rw [if_pos h1];obtain⟨g1,g2⟩:=Sj h1;obtain⟨g3,g4⟩:=Fs r _ h;refine⟨?_,fun x hx=>?_⟩
   ·have e1:fV ((p :: r).map oq)=((1,cd) :: rL (oq p)) ++ fV (r.map oq):=rfl;rw [e1,bn];exact g3.trans (g1.s _)
   ·rcases B5.1 hx with rfl|hx
    ·exact g2
    ·exact g4 x hx
  ·cases h
structure XE (v:rX):Prop where
 ok:cg (dh (lM v).count)=some (lM v).count/\(lM v).dL≠[]
 wd:∀w ∈ rK dh (lM v),Af w
 tr:Az v=qg (lM v)
theorem Sv (n:Nat):cg (dh n)=some n:=by
 obtain⟨h1,h2⟩:=sB n;rw [h1.cg,h2]
theorem Rp {v:rX}{σ:WS}(h:GJ v=true):mM (An G v σ) (bz G σ ((1,eQ) :: rK dh (lM v)))/\XE v:=by
 unfold GJ at h;rw [C7,C7,C7,M7,E5,E5] at h;obtain⟨⟨⟨h1,h2⟩,h3⟩,h4⟩:=h;obtain⟨n1,n2⟩:=yG h2;have e1:rK dh (lM v)=(1,v.name) :: (4,dM) :: (1,eT) :: (1,fa) :: (4,yQ) :: (2,dh (val v.count)) :: (4,vA) :: (4,dM) :: (aQ v.dL ++ (4,dc) :: (4,aV) :: (aG v.aN ++ [(4,dc)])):=rfl;refine⟨?_,⟨Sv _,n2⟩,fun w hw=>?_,?_⟩
 ·have e2:((1,eQ) :: rK dh (lM v):bV)=[(1,eQ),(1,v.name),(4,dM),(1,eT),(1,fa),(4,yQ),(2,dh (val v.count)),(4,vA),(4,dM)] ++ (aQ v.dL ++ ([(4,dc),(4,aV)] ++ (aG v.aN ++ [(4,dc)]))):=rfl;rw [e2,bn,bn,bn,bn];unfold An sX xw;have hm:mM (fY (aB G σ eQ)) (aB G σ eQ):=mM.Kt.m;exact((((((((((((hm.w v.name).w dM).w eT).w fa).w yQ).w (dh (val v.count))).w vA).w dM).s _).w dc).w aV).s _).w dc
 ·rw [e1] at hw;rcases B5.1 hw with rfl|hw
  ·exact lK h1
  rcases B5.1 hw with rfl|hw
  ·exact dB 123 B3
  rcases B5.1 hw with rfl|hw
  ·exact js (by simp)
  rcases B5.1 hw with rfl|hw
  ·exact js (by simp)
  rcases B5.1 hw with rfl|hw
  ·exact dB 91 B3
  rcases B5.1 hw with rfl|hw
  ·exact⟨by show(0:Int)<=2;decide,(sB _).1.word⟩
  rcases B5.1 hw with rfl|hw
  ·exact dB 93 B3
  rcases B5.1 hw with rfl|hw
  ·exact dB 123 B3
  rcases D6.1 hw with hw|hw
  ·exact mQ n1 w hw
  rcases B5.1 hw with rfl|hw
  ·exact dB 125 B3
  rcases B5.1 hw with rfl|hw
  ·exact dB 59 B3
  rcases D6.1 hw with hw|hw
  ·exact mP h3 w hw
  ·obtain rfl:=HQ.1 hw;exact dB 125 B3
 ·unfold Az qg lM;dsimp only;rw [norm_eq h4];rfl
theorem EM : ∀(l:List rX) (σ:WS),(eI G l σ).1=true->mM (eI G l σ).2 (bz G σ (ib dh (l.map lM)))/\∀v ∈ l,XE v
 | [],σ,_=>⟨mM.Kt,fun p hp=>by cases hp⟩
 |v :: r,σ,h=>by
  rw [eI] at h |-;split at h
  ·rename_i h1;rw [if_pos h1];obtain⟨g1,g2⟩:=Rp (G:=G) (σ:=σ) h1;obtain⟨g3,g4⟩:=EM r _ h;refine⟨?_,fun x hx=>?_⟩
   ·have e1:ib dh ((v :: r).map lM)=((1,eQ) :: rK dh (lM v)) ++ ib dh (r.map lM):=rfl;rw [e1,bn];exact g3.trans (g1.s _)
   ·rcases B5.1 hx with rfl|hx
    ·exact g2
    ·exact g4 x hx
  ·cases h
structure XI (f:rY):Prop where
 ok:FW.OK dV cg dh (uP f)
 wd:∀w ∈ CB dh (uP f),Af w
 tr:CH f=tC (uP f).D
 row:∀p ∈ f.bG,∀e ∈ p.bg,vV e.nums/\e.nums≠[]
theorem Ly {f:rY}{σ:WS}(h:(iA G f σ).1=true):mM (iA G f σ).2 (bz G σ (CB dh (uP f)))/\XI f:=by
 unfold iA at h |-;split at h
 ·rename_i hc;rw [if_pos hc];split at h
  ·rename_i hv;rw [if_pos hv];unfold LA at hc;rw [C7] at hc;obtain⟨a1,a2⟩:=EM _ _ hv;obtain⟨b1,b2⟩:=Fs _ _ h;have e1:CB dh (uP f)=[(1,fe),(1,f.name),(4,dM)] ++ (aG f.aN ++ ([(4,dc)] ++ (ib dh (f.vars.map lM) ++ fV (f.bG.map oq)))):=rfl;refine⟨?_,⟨fun v hv=>?_,fun p hp e he=>?_⟩,fun w hw=>?_,?_,fun p hp e he=>(b2 p hp).row e he⟩
   ·rw [e1,bn,bn,bn,bn];refine b1.trans ((a1.trans ?_).s _);refine mM.s ?_ _;unfold qS;have hm:mM (fY (aB G σ fe)) (aB G σ fe):=mM.Kt.m;exact(((hm.w f.name).w dM).s _).w dc
   ·obtain⟨x,hx,rfl⟩:=D4.1 hv;exact(a2 x hx).ok
   ·obtain⟨x,hx,rfl⟩:=D4.1 hp;exact(b2 x hx).ok e he
   ·rw [e1] at hw;rw [G1,G1,G1,Q8] at hw;rcases B5.1 hw with rfl|hw
    ·exact js (by simp)
    rcases B5.1 hw with rfl|hw
    ·exact lK hc.1
    rcases B5.1 hw with rfl|hw
    ·exact dB 123 B3
    rcases D6.1 hw with hw|hw
    ·exact mP hc.2 w hw
    rcases D6.1 hw with hw|hw
    ·obtain rfl:=HQ.1 hw;exact dB 125 B3
    rcases D6.1 hw with hw|hw
    ·unfold ib at hw;obtain⟨x,hx,hw⟩:=W3.1 hw;obtain⟨y,hy,rfl⟩:=D4.1 hx;rcases B5.1 hw with rfl|hw
     ·exact js (by simp)
     ·exact(a2 y hy).wd w hw
    ·unfold fV at hw;obtain⟨x,hx,hw⟩:=W3.1 hw;obtain⟨y,hy,rfl⟩:=D4.1 hx;rcases B5.1 hw with rfl|hw
     ·exact js (by simp)
     ·exact(b2 y hy).wd w hw
   ·unfold CH tC;rw [uA fun v hv=>(a2 v hv).tr,uA fun p hp=>(b2 p hp).tr];unfold uP FW.D;simp only [List.map_map];rfl
  ·cases h
 ·cases h
def DY (G:List ByteArray)(n:Nat):ByteArray:=if G=[] then eS else G.getD (n % G.length) default
def IK (G:List ByteArray):Nat->bV->List Piece
 |_,[]=>[]
 |n,w :: r=>⟨DY G n,fS w,w.1.toNat,w.2⟩ :: IK G (n+1) r
theorem FY (n:Nat):uN G n=bA [32] ++ DY G n:=by
 unfold uN DY;split
 ·show Qx=Qx ++ eS;unfold eS;rw [V5]
 ·rfl
theorem yO : ∀(ws:bV) (σ:WS),(bz G σ ws).out=σ.out ++ jJ (IK G σ.n ws)
 | [],σ=>by
  show σ.out=σ.out ++ eS;unfold eS;rw [V5]
 |w :: r,σ=>by
  rw [nc,yO r,IK,jJ];show σ.out ++ uN G σ.n ++ fS w ++ jJ (IK G (σ.n+1) r)=_;rw [FY];simp only [K0]
theorem KU (hG:∀g ∈ G,As g):∀(ws:bV) (n:Nat),(∀w ∈ ws,Af w)->∀p ∈ IK G n ws,p.OK
 | [],_,_,p,hp=>by cases hp
 |w :: r,n,h,p,hp=>by
  rcases B5.1 hp with rfl|hp
  ·refine⟨?_,(h w (D7 ..)).2⟩;show As (DY G n);unfold DY;split
   ·intro v a H;rfl
   ·rename_i hne;have hlt:n % G.length < G.length:=J9 _ (G3.2 hne);rw [List.getD,uz hlt];exact hG _ (G9 hlt)
  ·exact KU hG r (n+1) (fun x hx=>h x (D5 _ hx)) p hp
theorem Fv : ∀(ws:bV) (n:Nat),(∀w ∈ ws,Af w)->(IK G n ws).map (fun p=>((p.kind:Int),p.Sy))=ws
 | [],_,_=>rfl
 |w :: r,n,h=>by
  rw [IK,E7,Fv r (n+1) fun x hx=>h x (D5 _ hx)];have:=(h w (D7 ..)).1;show(((w.1.toNat:Nat):Int),w.2) :: r=w :: r;rw [S0 this]
def lx : WS:=⟨eS,0,0⟩
end Go.Ev
