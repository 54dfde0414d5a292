import Derived.Test.YthpoegdjffdojaaGreatDoorULak
set_option linter.all false
set_option maxHeartbeats 4000000
set_option maxRecDepth 10000
namespace Go.Ev
open Go.Proofs
theorem Gd (s:ByteArray):s.extract 0 s.size=s:=by
 refine mH (by rw [dm (wU _)];omega) fun i hi=>?_
 rw [dm (wU _)] at hi;rw [cI A8,C2]
theorem wy {p:UInt8->Bool}{s:ByteArray}(h:∀i,i < s.size->p (ax s i)=true):∀(d i:Nat),d=s.size - i->i<=s.size->ar p s i=d
 |0,i,hd,hi=>lT A8
 |d+1,i,hd,hi=>by rw [fj A8 (h i A8),wy h d (i+1) A8 A8]
structure ED (s:ByteArray):Prop where
 ne:0 < s.size
 le:s.size<=64
 UU:isLet (ax s 0)=true
 XJ:ar bp s 0=s.size
theorem SC {b:UInt8}(h:isLet b=true):gj b=false/\b.toNat≠47:=by
 unfold isLet at h;unfold gj;simp only [M7,C7,E5] at h;simp only [R7,K6];omega
theorem ED.word {s:ByteArray}(h:ED s):Word s 1 s:=by
 refine⟨h.ne,by decide,?_⟩;obtain⟨h1,h2⟩:=SC h.UU
 have hs:bf s=0:=by
  unfold bf;rw [if_neg (by rw [h1];exact B6),if_pos (Or.inl h2)]
 have h3:=h.le;unfold aH;rw [hs,if_neg B3,if_neg B3,if_pos h.UU,h.XJ,if_neg A8,Gd]
structure iF (s:ByteArray):Prop where
 ne:0 < s.size
 TJ:jM s
theorem iF.run {s:ByteArray}(h:iF s):ar ak s 0=s.size:=by
 rw [wy h.TJ s.size 0 rfl (C0 _)]
theorem iF.nA {s:ByteArray}(h:iF s):aI s=s.size:=by
 unfold aI;rw [h.run,if_neg];rw [bU (wU _)];exact fun k=>absurd k.1 B3
theorem iF.nE {s:ByteArray}(h:iF s):¬eM s:=by
 unfold eM;rw [h.nA,bU (wU _)];exact fun k=>absurd k.1 B3
theorem iF.nF {s:ByteArray}(h:iF s):aS s=s.size:=by
 unfold aS;rw [if_neg h.nE,h.nA]
theorem SY {b:UInt8}(h:ak b=true):gj b=false/\b.toNat≠47/\isLet b=false:=by
 unfold ak at h;unfold gj isLet;simp only [C7,E5] at h;simp only [R7,S9,K6];omega
theorem iF.word {s:ByteArray}(h:iF s):Word s 2 s:=by
 refine⟨h.ne,by decide,?_⟩;have hd:=h.TJ 0 h.ne;obtain⟨h1,h2,h3⟩:=SY hd
 have hs:bf s=0:=by
  unfold bf;rw [if_neg (by rw [h1];exact B6),if_pos (Or.inl h2)]
 have hB:kh s=false:=by
  unfold kh;rw [G4 h.nE];rfl
 unfold aH;rw [hs,if_neg B3,if_neg B3,if_neg (by rw [h3];exact B6),if_pos hd,hB,h.nF,bU (wU _),if_neg B3,Gd]
theorem iF.cg {s:ByteArray}(h:iF s):cg s=some (eg (bs s)):=pj (by have:=h.ne;omega) h.TJ
theorem iF.dV {s:ByteArray}(h:iF s):dV s=((eg (bs s):Int),1):=by
 have e1:lJ s=0:=by
  have hp:¬vG s:=by
   unfold vG;rw [h.run,bU (wU _)];exact fun k=>absurd k.1 B3
  exact if_neg hp
 have e2:lI s=0:=by
  unfold lI;rw [if_neg h.nE]
 have e3:dH s=bs s:=by
  unfold dH fb;rw [e1,h.run,Q3,J8];exact B7 (by rw [aU];exact wU _)
 have e4:pH s=eg (bs s):=by
  unfold pH;rw [e1,e2,e3,if_pos B3];simp
 have e5:pI s=1:=by
  unfold pI;rw [e1,e2,if_pos B3]
 unfold Go.Ev.dV qz qd;rw [e4,e5,Int.natAbs_natCast,Nat.gcd_one_right];simp
def fE (n:Nat):List UInt8:=if n=0 then [] else UInt8.ofNat (48+n % 10) :: fE (n / 10)
def OY (n:Nat):List UInt8:=if n=0 then [48] else(fE n).reverse
def dh (n:Nat):ByteArray:=bA (OY n)
theorem WW {k:Nat}(h:k < 10):(UInt8.ofNat (48+k)).toNat=48+k:=by rw [UInt8.toNat_ofNat'];omega
theorem AW (n:Nat):∀b ∈ fE n,ak b=true:=by
 intro b hb;rw [fE] at hb;split at hb
 ·cases hb
 ·rcases B5.1 hb with rfl|h
  ·unfold ak;rw [WW (J9 _ B3)];have:=J9 n (show 0 < 10 by decide);simp only [C7,E5];omega
  ·exact AW (n / 10) b h
termination_by n
theorem AU (n:Nat):eg (fE n).reverse=n:=by
 rw [fE];split
 ·rename_i h;rw [h];rfl
 ·rename_i h;rw [List.reverse_cons];have ih:=AU (n / 10);unfold eg at ih |-;rw [List.foldl_append,ih];show 10 * (n / 10)+((UInt8.ofNat (48+n % 10)).toNat - 48)=n;rw [WW (J9 _ B3)];omega
termination_by n
theorem sB (n:Nat):iF (dh n)/\eg (bs (dh n))=n:=by
 unfold dh OY;by_cases h:n=0
 ·subst h;rw [if_pos rfl];refine⟨⟨by decide,fun i hi=>?_⟩,rfl⟩
  have:i=0:=by
   have h9:i < 1:=hi;omega
  subst this;rfl
 ·rw [if_neg h];refine⟨⟨?_,fun i hi=>?_⟩,AU n⟩
  ·rw [rI,Q0,fE,if_neg h];exact Q9 _
  ·rw [rI] at hi;show ak ((fE n).reverse.getD i 0)=true;rw [C9,uz hi];exact AW n _ (List.mem_reverse.1 (G9 hi))
def bH : List UInt8->List UInt8
 | []=>[]
 |b :: r=>if b=34\/b=92 then 92 :: b :: bH r else b :: bH r
def lX (s:ByteArray):ByteArray:=bA ([34] ++ bH (bs s) ++ [34])
theorem ym : ∀(l p:List UInt8) (out:ByteArray),(∀b ∈ l,b.toNat≠10)->dv (bA (p ++ bH l ++ [34])) p.length out=(p.length+(bH l).length+1,out ++ bA l,true)
 | [],p,out,_=>by
  have hz:(bA (p ++ bH [] ++ [34])).size=p.length+1:=by rw [rI];simp [bH]
  have hc:ax (bA (p ++ bH [] ++ [34])) p.length=34:=by
   show(p ++ bH [] ++ [34]).getD p.length 0=34;simp [bH]
  have e:out ++ bA []=out:=by
   have:bA []=ByteArray.empty:=rfl;rw [this,V5]
  rw [dv,I2 A8,hc,if_pos B3,e];rfl
 |b :: r,p,out,h=>by
  have hb:=h b (D7 ..);have hr:∀x ∈ r,x.toNat≠10:=fun x hx=>h x (D5 _ hx)
  have cat:∀x:ByteArray,x ++ bA [b] ++ bA r=x ++ bA (b :: r):=fun x=>by rw [K0,Gy];rfl
  by_cases hq:b=34\/b=92
  ·have e1:bH (b :: r)=92 :: b :: bH r:=by rw [bH,if_pos hq]
   rw [e1];have e2:p ++ (92 :: b :: bH r) ++ [34]=(p ++ [92,b]) ++ bH r ++ [34]:=by simp
   rw [e2];have hz:(bA ((p ++ [92,b]) ++ bH r ++ [34])).size=p.length+2+(bH r).length+1:=by rw [rI];simp;omega
   have c0:ax (bA ((p ++ [92,b]) ++ bH r ++ [34])) p.length=92:=by
    show((p ++ [92,b]) ++ bH r ++ [34]).getD p.length 0=92;simp
   have c1:ax (bA ((p ++ [92,b]) ++ bH r ++ [34])) (p.length+1)=b:=by
    show((p ++ [92,b]) ++ bH r ++ [34]).getD (p.length+1) 0=b;simp
   have hs:sub (bA ((p ++ [92,b]) ++ bH r ++ [34])) (p.length+1) 1=bA [b]:=by
    unfold sub;refine mH (by rw [dm A8,rI,List.length_singleton];omega) fun i hi=>?_
    rw [dm A8] at hi;rw [cI A8,show i=0 by omega,H8,c1];rfl
   have ih:=ym r (p ++ [92,b]) (out ++ bA [b]) hr;rw [List.length_append] at ih;rw [dv,I2 A8,c0,if_neg B3,if_neg B3,if_pos B3,c1,if_neg (by rcases hq with rfl|rfl<;>decide),hs];rw [show p.length+2=p.length + [92,b].length from rfl,ih,cat];simp only [B9]
   congr 1
   simp;omega
  ·have e1:bH (b :: r)=b :: bH r:=by rw [bH,if_neg hq]
   rw [e1];have e2:p ++ (b :: bH r) ++ [34]=(p ++ [b]) ++ bH r ++ [34]:=by simp
   rw [e2];have hz:(bA ((p ++ [b]) ++ bH r ++ [34])).size=p.length+1+(bH r).length+1:=by rw [rI];simp;omega
   have c0:ax (bA ((p ++ [b]) ++ bH r ++ [34])) p.length=b:=by
    show((p ++ [b]) ++ bH r ++ [34]).getD p.length 0=b;simp
   have hs:sub (bA ((p ++ [b]) ++ bH r ++ [34])) p.length 1=bA [b]:=by
    unfold sub;refine mH (by rw [dm A8,rI,List.length_singleton];omega) fun i hi=>?_
    rw [dm A8] at hi;rw [cI A8,show i=0 by omega,H8,c0];rfl
   have ih:=ym r (p ++ [b]) (out ++ bA [b]) hr;rw [List.length_append] at ih;have n34:b.toNat≠34:=fun k=>hq (Or.inl (I3.1 k))
   have n92:b.toNat≠92:=fun k=>hq (Or.inr (I3.1 k))
   rw [dv,I2 A8,c0,if_neg n34,if_neg hb,if_neg n92,hs];rw [show p.length+1=p.length + [b].length from rfl,ih,cat];simp only [B9]
   congr 1
   simp;omega
theorem Hu (s:ByteArray)(h:∀i,i < s.size->(ax s i).toNat≠10):Word (lX s) 3 s:=by
 have hl:∀b ∈ bs s,b.toNat≠10:=fun b hb=>by
  obtain⟨i,hi,rfl⟩:=L6.1 hb;have:=h i (by rw [aU] at hi;exact hi);unfold ax at this
  rwa [C9,uz hi] at this
 have hz:(lX s).size=1+(bH (bs s)).length+1:=by unfold lX;rw [rI];simp;omega
 have c0:ax (lX s) 0=34:=rfl;have hq:=ym (bs s) [34] ⟨#[]⟩ hl
 have hm:(⟨#[]⟩:ByteArray) ++ bA (bs s)=s:=by
  refine mH ?_ fun i hi=>?_
  ·rw [B8,rI,aU];show 0+s.size=s.size;omega
  ·have:=QQ (a:=(⟨#[]⟩:ByteArray)) (b:=bA (bs s)) (i:=i) (by
    rw [B8] at hi;have h0:(⟨#[]⟩:ByteArray).size=0:=rfl
    omega)
   have h0:(⟨#[]⟩:ByteArray).size=0:=rfl;rw [h0,C2] at this;rw [this];rfl
 have hq2:dv (lX s) 1 ⟨#[]⟩=((lX s).size,s,true):=by
  have e:dv (lX s) 1 ⟨#[]⟩=_:=hq;rw [e,hm,hz];rfl
 refine⟨by omega,by decide,?_⟩
 have hs:bf (lX s)=0:=by
  unfold bf;rw [c0,if_neg B3,if_pos (Or.inl B3)]
 unfold aH;rw [hs,if_neg B3,if_neg B3,c0,if_neg B3,if_neg B3,if_pos B3,hq2,if_pos rfl]
theorem Jf (b:UInt8)(h:b ∈ [123,125,40,41,91,93,44,59,124,43,45,42,47]):Word (bA [b]) 4 (bA [b]):=by
 simp only [B5,K3,S2] at h;rcases h with rfl|rfl|rfl|rfl|rfl|rfl|rfl|rfl|rfl|rfl|rfl|rfl|rfl;all_goals exact⟨by decide,by decide,by kernel_rfl⟩
theorem Ro (w:ByteArray)(h:w=PS.fe\/w=PS.eC\/w=PS.eQ\/w=PS.eT\/w=PS.fa\/w=PS.cd\/w=PS.mm\/w=PS.mq):Word w 1 w:=by
 rcases h with rfl|rfl|rfl|rfl|rfl|rfl|rfl|rfl;all_goals exact⟨by decide,by decide,by kernel_rfl⟩
open PS (cE bV Cx Ex aE aF ft mo mn lp)
structure dT where
 kind:Int
 neg:Bool
 nH:List UInt32
 den:List UInt32
deriving Inhabited
def dT.DT (t:dT):Prop:=t.neg=false/\t.den=[1]/\(t.nH=[]\/t.nH.getD (t.nH.length - 1) 0≠0)
instance  (t:dT):Decidable t.DT:=inferInstanceAs (Decidable (_/\_))
def dT.Pu (t:dT):Prop:=t.neg=false/\t.nH=[]/\t.den=[]
instance  (t:dT):Decidable t.Pu:=inferInstanceAs (Decidable (_/\_))
def dT.conv (t:dT):cE:=if t.kind=1 then⟨1,val t.nH,1⟩ else⟨t.kind,0,0⟩
abbrev fh :=List (bV×Nat)
def kI : bV×Nat:=([],0)
def sV (w:bV):bV:=(4,aE) :: (4,ft) :: w ++ [(4,aF)]
def sW (w1 w2:bV)(op:ByteArray):bV:=(4,aE) :: w1 ++ (4,op) :: w2 ++ [(4,aF)]
def rU (k:Int):ByteArray:=if k=2 then mo else if k=3 then ft else if k=4 then mn else lp
def uZ (st:fh):Option fh:=if 60 < (st.getD (st.length - 1) kI).2 then none else some st
def fX (st:fh)(t:dT):Option fh:=
 if t.kind≠1/\¬t.Pu then none
 else if t.kind=1 then(if t.DT then uZ (st ++ [([(2,dh (val t.nH))],0)]) else none)
 else if t.kind=6/\0 < st.length then uZ (st.take (st.length - 1) ++ [(sV (st.getD (st.length - 1) kI).1,(st.getD (st.length - 1) kI).2+2)])
 else if 2<=t.kind/\t.kind<=5/\1 < st.length then
  uZ (st.take (st.length - 2) ++ [(sW (st.getD (st.length - 2) kI).1 (st.getD (st.length - 1) kI).1 (rU t.kind),max (st.getD (st.length - 2) kI).2 (st.getD (st.length - 1) kI).2+1)])
 else none
def nB : List dT->fh->Option fh
 | [],st=>some st
 |t :: r,st=>match fX st t with | some st'=>nB r st' | none=>none
def jT (l:List dT):Option bV:=match nB l [] with|some [x]=>some x.1|_=>none
structure TA (st:fh)(tms:List (List cE)):Prop where
 len:st.length=tms.length
 ok:∀(i:Nat) (x:bV×Nat) (tm:List cE),st[i]?=some x->tms[i]?=some tm->Cx dV x.1 tm x.2/\1<=x.1.length/\x.2<=60
theorem eX {st st':fh}(h:uZ st=some st'):st'=st/\(st.getD (st.length - 1) kI).2<=60:=by
 unfold uZ at h;split at h
 ·cases h
 ·rename_i hn;exact⟨(C6 h).symm,by omega⟩
theorem TA.push {st:fh}{tms:List (List cE)}(h:TA st tms){x:bV×Nat}{tm:List cE}(hx:Cx dV x.1 tm x.2)(h1:1<=x.1.length)(h2:x.2<=60)(k:Nat)(hk:k<=st.length):TA (st.take k ++ [x]) (tms.take k ++ [tm]):=by
 have hl:=h.len;refine⟨by simp [hl],fun i y tm' e1 e2=>?_⟩;have z1:(st.take k).length=k:=by rw [List.length_take];omega
 have z2:(tms.take k).length=k:=by rw [List.length_take];omega
 by_cases hi:i < k
 ·rw [C5 A8,E8 hi] at e1 e2;exact h.ok i y tm' e1 e2
 ·rw [IX A8,z1] at e1;rw [IX A8,z2] at e2
  have hk2:i - k=0:=by
   have:=(yK.1 e1).1;simp at this;omega
  rw [hk2] at e1 e2;simp at e1 e2;subst e1 e2;exact⟨hx,h1,h2⟩
theorem Aw (st:fh)(x:bV×Nat):((st ++ [x]).getD ((st ++ [x]).length - 1) kI)=x:=by
 rw [List.length_append,List.length_singleton,O5,C9,IX (wU _),H6];rfl
theorem Dz {k:Int}(h1:2<=k)(h2:k<=5):(rU k=mo/\k=2)\/(rU k=ft/\k=3)\/(rU k=mn/\k=4)\/(rU k=lp/\k=5):=by
 have:k=2\/k=3\/k=4\/k=5:=by omega
 rcases this with rfl|rfl|rfl|rfl
 ·exact Or.inl ⟨rfl,rfl⟩
 ·exact Or.inr (Or.inl ⟨rfl,rfl⟩)
 ·exact Or.inr (Or.inr (Or.inl ⟨rfl,rfl⟩))
 ·exact Or.inr (Or.inr (Or.inr ⟨rfl,rfl⟩))
theorem NQ {st st':fh}{tms:List (List cE)}{t:dT}(h:TA st tms)(hs:fX st t=some st'):∃tms',TA st' tms'/\tms'.flatten=tms.flatten ++ [t.conv]:=by
 have hl:=h.len;unfold fX at hs;split at hs
 ·cases hs
 ·rename_i c0;split at hs
  ·rename_i c1;split at hs
   ·rename_i c2;obtain⟨rfl,hd⟩:=eX hs;obtain⟨d1,d2⟩:=sB (val t.nH);refine⟨tms ++ [[t.conv]],?_,by simp⟩;have hq:=d1.dV;rw [d2] at hq;have hu:=Cx.num dV (dh (val t.nH));rw [hq] at hu;have e:t.conv=⟨1,val t.nH,1⟩:=by unfold dT.conv;rw [if_pos c1]
    have:=h.push (x:=([(2,dh (val t.nH))],0)) (tm:=[t.conv]) (by rw [e];exact hu) (wU _) (C0 _) st.length (wU _)
    rwa [J0,hl,J0] at this
   ·cases hs
  ·rename_i c1;have ec:t.conv=⟨t.kind,0,0⟩:=by unfold dT.conv;rw [if_neg c1]
   split at hs
   ·rename_i c2;obtain⟨rfl,hd⟩:=eX hs;rw [Aw] at hd;obtain⟨x,hx⟩:∃x,st[st.length - 1]?=some x:=⟨_,uz A8⟩
    obtain⟨tm,htm⟩:∃tm,tms[st.length - 1]?=some tm:=⟨_,uz A8⟩
    have hg:st.getD (st.length - 1) kI=x:=by rw [C9,hx];rfl
    rw [hg] at hd |-;obtain⟨o1,o2,o3⟩:=h.ok _ x tm hx htm;refine⟨tms.take (st.length - 1) ++ [tm ++ [t.conv]],h.push (Cx.neg dV o1 |> fun q=>by rw [ec,c2.1];exact q) (by simp [sV]) hd _ A8,?_⟩
    have e:tms=tms.take (st.length - 1) ++ [tm]:=by
     have h1:tms.take (st.length - 1+1)=tms:=B7 A8;rw [List.take_succ,htm] at h1;exact h1.symm
    conv=>rhs;rw [e]
    simp
   ·split at hs
    ·rename_i c2 c3;obtain⟨rfl,hd⟩:=eX hs;rw [Aw] at hd;obtain⟨x,hx⟩:∃x,st[st.length - 2]?=some x:=⟨_,uz A8⟩
     obtain⟨y,hy⟩:∃y,st[st.length - 1]?=some y:=⟨_,uz A8⟩
     obtain⟨tx,htx⟩:∃tm,tms[st.length - 2]?=some tm:=⟨_,uz A8⟩
     obtain⟨ty,hty⟩:∃tm,tms[st.length - 1]?=some tm:=⟨_,uz A8⟩
     have hgx:st.getD (st.length - 2) kI=x:=by rw [C9,hx];rfl
     have hgy:st.getD (st.length - 1) kI=y:=by rw [C9,hy];rfl
     rw [hgx,hgy] at hd |-;obtain⟨o1,o2,o3⟩:=h.ok _ x tx hx htx;obtain⟨q1,q2,q3⟩:=h.ok _ y ty hy hty;refine⟨tms.take (st.length - 2) ++ [tx ++ ty ++ [t.conv]],h.push (by rw [ec];exact Cx.bin dV o1 q1 (Dz c3.1 c3.2.1)) (by simp [sW]) hd _ A8,?_⟩
     have e:tms=tms.take (st.length - 2) ++ [tx,ty]:=by
      have h1:tms.take (st.length - 2+1+1)=tms:=B7 A8;have e2:st.length - 2+1=st.length - 1:=by omega
      rw [List.take_succ,List.take_succ,htx,e2,hty,List.append_assoc] at h1;exact h1.symm
     conv=>rhs;rw [e]
     simp
    ·cases hs
theorem Kl : ∀(l:List dT) {st st':fh} {tms:List (List cE)},TA st tms->nB l st=some st'->∃tms',TA st' tms'/\tms'.flatten=tms.flatten ++ l.map (·.conv)
 | [],st,st',tms,h,hs=>by
  obtain rfl:=C6 hs;exact⟨tms,h,by simp⟩
 |t :: r,st,st',tms,h,hs=>by
  rw [nB] at hs;split at hs
  ·rename_i s1 h1;obtain⟨t1,g1,g2⟩:=NQ h h1;obtain⟨t2,g3,g4⟩:=Kl r g1 hs;exact⟨t2,g3,by rw [g4,g2,List.append_assoc];rfl⟩
  ·cases hs
theorem NI {l:List dT}{ws:bV}(h:jT l=some ws):∃D,Ex.OK dV ⟨ws,l.map (·.conv),D⟩:=by
 unfold jT at h;split at h
 ·rename_i x hr;obtain rfl:=C6 h;obtain⟨tms,g1,g2⟩:=Kl l (st:=[]) (tms:=[]) ⟨rfl,fun i x tm e=>by simp at e⟩ hr;have hl:=g1.len
  obtain⟨tm,rfl⟩:∃tm,tms=[tm]:=by
   match tms,hl with
   | [tm],_=>exact⟨tm,rfl⟩
  obtain⟨o1,o2,o3⟩:=g1.ok 0 x tm rfl rfl;have e:tm=l.map (·.conv):=by simpa using g2
  exact⟨x.2,⟨o2,e▸o1,by show x.2<=64;omega⟩⟩
 ·cases h
def vn (w:Int×ByteArray):Prop:=(w.1=2/\iF w.2)\/(w.1=4/\Word w.2 4 w.2)
theorem NN {st st':fh}{t:dT}(h:∀x ∈ st,∀w ∈ x.1,vn w)(hs:fX st t=some st'):∀x ∈ st',∀w ∈ x.1,vn w:=by
 have sg:∀b:UInt8,b ∈ [123,125,40,41,91,93,44,59,124,43,45,42,47]->vn (4,bA [b]):=fun b hb=>Or.inr ⟨rfl,Jf b hb⟩
 have get:∀i,∀w ∈ (st.getD i kI).1,vn w:=fun i w hw=>by
  rw [C9] at hw
  cases hq:st[i]? with
  |none=>rw [hq] at hw;cases hw
  |some x=>rw [hq] at hw;exact h x (MH hq) w hw
 have push:∀(k:Nat) (x:bV×Nat),(∀w ∈ x.1,vn w)->∀y ∈ st.take k ++ [x],∀w ∈ y.1,vn w:=fun k x hx y hy=>by
  rcases D6.1 hy with hy|hy
  ·exact h y (J5 hy)
  ·obtain rfl:=HQ.1 hy;exact hx
 unfold fX at hs;split at hs
 ·cases hs
 ·split at hs
  ·split at hs
   ·obtain⟨rfl,-⟩:=eX hs
    have:=push st.length ([(2,dh (val t.nH))],0) (fun w hw=>by
     obtain rfl:=HQ.1 hw
     exact Or.inl ⟨rfl,(sB _).1⟩)
    rwa [J0] at this
   ·cases hs
  ·split at hs
   ·obtain⟨rfl,-⟩:=eX hs;refine push _ _ fun w hw=>?_
    simp only [sV,G1,B5,D6,K3,S2] at hw;rcases hw with rfl|rfl|hw|rfl
    ·exact sg 40 B3
    ·exact sg 45 B3
    ·exact get _ w hw
    ·exact sg 41 B3
   ·split at hs
    ·rename_i c3;obtain⟨rfl,-⟩:=eX hs;refine push _ _ fun w hw=>?_
     simp only [sW,G1,B5,D6,K3,S2] at hw;rcases hw with rfl|(hw|rfl|hw)|rfl
     ·exact sg 40 B3
     ·exact get _ w hw
     ·rcases Dz c3.1 c3.2.1 with⟨e,-⟩|⟨e,-⟩|⟨e,-⟩|⟨e,-⟩<;>rw [e]
      ·exact sg 43 B3
      ·exact sg 45 B3
      ·exact sg 42 B3
      ·exact sg 47 B3
     ·exact get _ w hw
     ·exact sg 41 B3
    ·cases hs
theorem Ki : ∀(l:List dT) {st st':fh},(∀x ∈ st,∀w ∈ x.1,vn w)->nB l st=some st'->∀x ∈ st',∀w ∈ x.1,vn w
 | [],st,st',h,hs=>by obtain rfl:=C6 hs;exact h
 |t :: r,st,st',h,hs=>by
  rw [nB] at hs;split at hs
  ·rename_i s1 h1;exact Ki r (NN h h1) hs
  ·cases hs
theorem NH {l:List dT}{ws:bV}(h:jT l=some ws):∀w ∈ ws,vn w:=by
 unfold jT at h;split at h
 ·rename_i x hr;obtain rfl:=C6 h;exact Ki l (fun x hx=>by cases hx) hr x (HQ.2 rfl)
 ·cases h
namespace PS
variable {X : fA}
theorem jb {σ:PS X}(h:σ.bad≠none):σ.settle=σ:=(bD σ).NL h
theorem nr {σ:PS X}(h:σ.bad≠none)(k:Int)(w:ByteArray):σ.du k w=false:=by
 cases hB:σ.du k w with
 |false=>rfl
 |true=>obtain⟨t,ht,-⟩:=cj hB;exact absurd (aX ht).1 h
theorem fx {n:Nat}{σ τ:PS X}(h:gF n σ τ)(hb:τ.bad=none):σ.bad=none:=by
 cases hs:σ.bad with
 |none=>rfl
 |some f=>exact absurd hb (h.bad (by rw [hs];exact fun e=>by cases e))
def gT (σ:PS X):List ByteArray×PS X:=iy (X.L.length+1) [] σ
theorem qM (σ:PS X):(gT σ).2=(names σ).2:=by
 unfold gT names
 cases hb:σ.bad with
 |none=>rfl
 |some f=>
  have h:σ.bad≠none:=by rw [hb];exact fun e=>by cases e
  have e1:(take 1 σ).2=σ:=(dC 1 σ).NL h;rw [iy,e1,nr h,if_neg B6];exact jb h
theorem qN {σ:PS X}(h:σ.bad=none):gT σ=names σ:=by unfold gT names;rw [h]
section
variable (dec : ByteArray -> Int × Nat)
def rN (σ:PS X):List (List cE)×PS X:=rO dec (X.L.length+1) [] σ
theorem Om (σ:PS X):(rN dec σ).2=(row dec σ).2:=by
 unfold rN row
 cases hb:σ.bad with
 |none=>rfl
 |some f=>
  have h:σ.bad≠none:=by rw [hb];exact fun e=>by cases e
  have e1:(lB dec σ).2=σ:=(jU dec σ).1.NL h;rw [rO,e1,nr h,if_neg B6];exact jb h
theorem Fk {σ:PS X}(h:σ.bad=none):rN dec σ=row dec σ:=by unfold rN row;rw [h]
variable (cnt : ByteArray -> Option Nat)
def Am (σ:PS X):dW×PS X:=(⟨(take 1 σ).1,(count cnt (vC σ)).1,(gT (xy cnt σ)).1,(props (Ap cnt σ)).1⟩,(nR cnt σ).2)
theorem Nt {σ:PS X}(h:(nR cnt σ).2.bad=none):Am cnt σ=nR cnt σ:=by
 have f:gF 0 (xy cnt σ) (nR cnt σ).2:=((((iW _).trans (aJ 4 dc _)).trans (aJ 4 aV _)).trans (jZ _)).trans (aJ 4 dc _);unfold Am;rw [qN (fx f h)];rfl
def kv (σ:PS X):Int×List ByteArray×PS X:=
 if σ.du 1 mm=true then(1,[],σ.aK)
 else if σ.du 1 mq=true then(2,[],σ.aK)
 else(3,(gT (aO 4 aE σ)).1,aO 4 aF (names (aO 4 aE σ)).2)
theorem uT (σ:PS X):(kv σ).2.2=(iP σ).2.2:=by
 unfold kv iP;split
 ·rfl
 ·split<;>rfl
theorem Mh {σ:PS X}(h:(iP σ).2.2.bad=none):kv σ=iP σ:=by
 unfold kv iP at *;split at h
 ·rename_i c;rw [if_pos c,if_pos c]
 ·rename_i c;rw [if_neg c,if_neg c];split at h
  ·rename_i c2;rw [if_pos c2,if_pos c2]
  ·rename_i c2;rw [if_neg c2,if_neg c2];rw [qN (fx ((iW _).trans (aJ 4 aF _)) h)]
def Ii (σ:PS X):eZ×PS X:=(⟨(kv σ).1,(kv σ).2.1,(rN dec (kv σ).2.2).1⟩,(jL dec σ).2)
theorem PI {σ:PS X}(h:(jL dec σ).2.bad=none):Ii dec σ=jL dec σ:=by
 have f:gF 0 (iP σ).2.2 (jL dec σ).2:=(Fi dec _).trans (aJ 4 aV _);have hb:=fx f h;unfold Ii;rw [Mh hb,Fk dec hb];rfl
def lg : Nat->List eZ->List ByteArray->PS X->List eZ×List ByteArray×PS X
 |0,es,ps,σ=>(es,ps,σ)
 |k+1,es,ps,σ=>
  match σ.bad with
  |some _=>(es,ps,σ)
  |none=>
   if σ.du 4 dc=true then(es,ps,σ.aK)
   else if σ.du 1 eC=true then lg k es (ps ++ (props σ).1) (props σ).2
   else lg k (es ++ [(Ii dec σ.settle).1]) ps (jL dec σ.settle).2
theorem tX : ∀(k:Nat) (es es':List eZ) (ps ps':List ByteArray) (σ:PS X),(lg dec k es ps σ).2.2=(lD dec k es' ps' σ).2.2
 |0,_,_,_,_,_=>rfl
 |k+1,es,es',ps,ps',σ=>by
  rw [lg,lD]
  cases hb:σ.bad with
  |some f=>rfl
  |none=>
   simp only;split
   ·rfl
   ·split
    ·exact tX k _ _ _ _ _
    ·exact tX k _ _ _ _ _
theorem tY : ∀(k:Nat) (es:List eZ) (ps:List ByteArray) (σ:PS X),(lD dec k es ps σ).2.2.bad=none->lg dec k es ps σ=lD dec k es ps σ
 |0,_,_,_,_=>rfl
 |k+1,es,ps,σ,h=>by
  rw [lD] at h;rw [lg,lD]
  cases hb:σ.bad with
  |some f=>rfl
  |none=>
   rw [hb] at h;simp only at h |-;split
   ·rfl
   ·rename_i c1;rw [if_neg c1] at h;split
    ·rename_i c2;rw [if_pos c2] at h;exact tY k _ _ _ h
    ·rename_i c2;rw [if_neg c2] at h;rw [PI dec (fx (lY dec k _ _ _) h)];exact tY k _ _ _ h
def ry (σ:PS X):List ByteArray×PS X:=if σ.du 4 lE=true then gT σ.aK else([],σ.settle)
theorem KN (σ:PS X):(ry σ).2=(qB σ).2:=by
 unfold ry qB;split
 ·exact qM _
 ·rfl
theorem KO {σ:PS X}(h:(qB σ).2.bad=none):ry σ=qB σ:=by
 unfold ry;unfold qB at h |-;split
 ·rename_i c;rw [if_pos c] at h;exact qN (fx (iW _) h)
 ·rfl
def HC (σ:PS X):eY×PS X:=(⟨(take 1 (aO 4 aE σ)).1,(ry (take 1 (aO 4 aE σ)).2).1,(lg dec (X.L.length+2) [] [] (Bg σ)).1,(lg dec (X.L.length+2) [] [] (Bg σ)).2.1⟩,(qA dec σ).2)
theorem Ox {σ:PS X}(h:(qA dec σ).2.bad=none):HC dec σ=qA dec σ:=by
 have h1:(KL dec σ).2.2.bad=none:=h;have h2:=fx (lY dec (X.L.length+2) [] [] (Bg σ)) h1;have h3:=fx ((aJ 4 aF (qB (take 1 (aO 4 aE σ)).2).2).trans (aJ 4 dM _)) h2;unfold HC;rw [tY dec _ _ _ _ h1,KO h3];rfl
def ir : Nat->List dW->List eY->PS X->List dW×List eY×PS X
 |0,vs,ps,σ=>(vs,ps,σ)
 |k+1,vs,ps,σ=>
  if σ.du 1 eQ=true then ir k (vs ++ [(Am cnt σ.aK).1]) ps (nR cnt σ.aK).2
  else if σ.du 1 cd=true then ir k vs (ps ++ [(HC dec σ.aK).1]) (qA dec σ.aK).2
  else(vs,ps,σ.settle)
theorem nj : ∀(k:Nat) (vs:List dW) (ps:List eY) (σ:PS X),gF 0 σ (ey dec cnt k vs ps σ).2.2
 |0,_,_,_=>gF.refl _
 |k+1,vs,ps,σ=>by
  rw [ey];split
  ·rename_i h;exact(((bq h B3).trans (Ao cnt _)).trans (nj k _ _ _)).pX (C0 _)
  ·split
   ·rename_i h;exact(((bq h B3).trans (Bf dec _)).trans (nj k _ _ _)).pX (C0 _)
   ·exact bD _
theorem qF : ∀(k:Nat) (vs vs':List dW) (ps ps':List eY) (σ:PS X),(ir dec cnt k vs ps σ).2.2=(ey dec cnt k vs' ps' σ).2.2
 |0,_,_,_,_,_=>rfl
 |k+1,vs,vs',ps,ps',σ=>by
  rw [ir,ey];split
  ·exact qF k _ _ _ _ _
  ·split
   ·exact qF k _ _ _ _ _
   ·rfl
theorem qG : ∀(k:Nat) (vs:List dW) (ps:List eY) (σ:PS X),(ey dec cnt k vs ps σ).2.2.bad=none->ir dec cnt k vs ps σ=ey dec cnt k vs ps σ
 |0,_,_,_,_=>rfl
 |k+1,vs,ps,σ,h=>by
  rw [ey] at h;rw [ir,ey];split
  ·rename_i c;rw [if_pos c] at h;rw [Nt cnt (fx (nj dec cnt k _ _ _) h)];exact qG k _ _ _ h
  ·rename_i c;rw [if_neg c] at h;split
   ·rename_i c2;rw [if_pos c2] at h;rw [Ox dec (fx (nj dec cnt k _ _ _) h)];exact qG k _ _ _ h
   ·rfl
theorem Ga (σ:PS X):gF 0 σ (fin σ):=by
 unfold fin;split
 ·split
  ·exact gF.refl _
  ·exact dA _ _
 ·exact bD _
end
end PS
end Go.Ev
