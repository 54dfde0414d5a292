import Derived.Test.YthpoegdjffdojaaGreatDoorTLag
set_option linter.all false
set_option maxHeartbeats 4000000
set_option maxRecDepth 10000
namespace Go.Ev
namespace PS
variable {X : fA}
abbrev bV :=List (Int×ByteArray)
structure Up (σ:PS X)(ws:bV)(n:Nat):Prop where
 bad:σ.bad=none
 bu:σ.bu=n
 ws:∀i w,ws[i]?=some w→∃t,X.L[σ.at_+i]?=some t∧t.kind=w.1∧t.text=w.2
theorem Up.tok {σ:PS X}{k:Int}{m:ByteArray}{r:bV}{n:Nat}(h:Up σ ((k,m) :: r) n):∃t,σ.tok=some t∧t.kind=k∧t.text=m:=by
 obtain⟨t,h1,h2,h3⟩:=h.ws 0 (k,m) rfl;refine⟨t,?_,h2,h3⟩;unfold PS.tok;rw [h.bad];exact h1
theorem Up.aK {σ:PS X}{k:Int}{m:ByteArray}{r:bV}{n:Nat}(h:Up σ ((k,m) :: r) n)(hk:k≠0):Up σ.aK r n∧σ.aK.at_=σ.at_+1:=by
 obtain⟨t,h1,h2,h3⟩:=h.tok;obtain⟨a1,a2,a3⟩:=dx h1 (by rw [h2];exact hk);refine⟨⟨a2,a3.trans h.bu,fun i w hw=>?_⟩,a1⟩;rw [a1,show σ.at_+1+i=σ.at_+(i+1) by omega];exact h.ws (i+1) w (by rw [List.getElem?_cons_succ];exact hw)
theorem Up.yes {σ:PS X}{k:Int}{m:ByteArray}{r:bV}{n:Nat}(h:Up σ ((k,m) :: r) n):σ.du k m=true:=by
 obtain⟨t,h1,h2,h3⟩:=h.tok;unfold PS.du;rw [h1];exact decide_eq_true ⟨h2,h3⟩
theorem Up.no {σ:PS X}{k q:Int}{m w:ByteArray}{r:bV}{n:Nat}(h:Up σ ((k,m) :: r) n)(hn:k≠q∨m≠w):σ.du q w=false:=by
 obtain⟨t,h1,h2,h3⟩:=h.tok;unfold PS.du;rw [h1];refine decide_eq_false fun hh=>?_
 rcases hn with hn|hn
 ·exact hn (h2.symm.trans hh.1)
 ·exact hn (h3.symm.trans hh.2)
theorem Up.settle {σ:PS X}{w:Int×ByteArray}{r:bV}{n:Nat}(h:Up σ (w :: r) n):σ.settle=σ:=by
 obtain⟨t,h1,-⟩:=Up.tok (k:=w.1) (m:=w.2) h;exact az h1
theorem Up.len {σ:PS X}{ws:bV}{n:Nat}(h:Up σ ws n):σ.at_+ws.length≤X.L.length∨ws=[]:=by
 cases hw:ws with
 |nil=>exact Or.inr rfl
 |cons a r=>
  left;rw [hw] at h;have hl:(a :: r)[r.length]?=some ((a :: r)[r.length]'(by simp)):=List.getElem?_eq_getElem _;obtain⟨t,h1,-⟩:=h.ws r.length _ hl;have:=(List.getElem?_eq_some_iff.1 h1).1;rw [List.length_cons];omega
theorem Up.aO {σ:PS X}{k:Int}{m:ByteArray}{r:bV}{n:Nat}(h:Up σ ((k,m) :: r) n)(hk:k≠0):Up (aO k m σ) r n:=by
 unfold PS.aO;rw [if_pos h.yes];exact(h.aK hk).1
theorem Up.take {σ:PS X}{k:Int}{m:ByteArray}{r:bV}{n:Nat}(h:Up σ ((k,m) :: r) n)(hk:k≠0):(take k σ).1=m∧Up (take k σ).2 r n:=by
 obtain⟨t,h1,h2,h3⟩:=h.tok;unfold PS.take;rw [h1];simp only;rw [if_pos h2];exact⟨h3,(h.aK hk).1⟩
def aQ : List ByteArray→bV
 | []=>[]
 | [a]=>[(1,a)]
 |a :: b :: r=>(1,a) :: (4,bo) :: aQ (b :: r)
theorem wa : ∀l:List ByteArray,l.length≤(aQ l).length
 | []=>Nat.le_refl _
 | [a]=>Nat.le_refl _
 |a :: b :: r=>by
  have:=wa (b :: r);have e:(aQ (a :: b :: r)).length=(aQ (b :: r)).length+2:=rfl;rw [List.length_cons,e];omega
theorem we : ∀(l:List ByteArray) (k:Nat) (acc:List ByteArray) (σ:PS X) (w:Int×ByteArray) (r:bV) (n:Nat),l≠[]→w.1≠4∨w.2≠bo→Up σ (aQ l ++ w :: r) n→l.length≤k→
  (iy k acc σ).1=acc ++ l∧Up (iy k acc σ).2 (w :: r) n
 | [],_,_,_,_,_,_,h,_,_,_=>absurd rfl h
 | [a],k,acc,σ,w,r,n,_,hw,h,hk=>by
  obtain⟨k,rfl⟩:∃j,k=j+1:=⟨k - 1,by simp at hk;omega⟩
  obtain⟨h1,h2⟩:=Up.take (k:=1) h YA;have hn:(PS.take 1 σ).2.du 4 bo=false:=Up.no (k:=w.1) (m:=w.2) h2 hw;rw [iy,hn,if_neg Bool.false_ne_true,h1,h2.settle];exact⟨rfl,h2⟩
 |a :: b :: l,k,acc,σ,w,r,n,_,hw,h,hk=>by
  obtain⟨k,rfl⟩:∃j,k=j+1:=⟨k - 1,by simp at hk;omega⟩
  obtain⟨h1,h2⟩:=Up.take (k:=1) h YA;have h3:=(h2.aK YA).1;obtain⟨g1,g2⟩:=we (b :: l) k (acc ++ [a]) _ w r n (by simp) hw h3 (by simp at hk ⊢;omega);rw [iy,if_pos h2.yes,h1];exact⟨by rw [g1,List.append_assoc];rfl,g2⟩
theorem ti {l:List ByteArray}{σ:PS X}{w:Int×ByteArray}{r:bV}{n:Nat}(hl:l≠[])(hw:w.1≠4∨w.2≠bo)(h:Up σ (aQ l ++ w :: r) n):(names σ).1=l∧Up (names σ).2 (w :: r) n:=by
 unfold PS.names;rw [h.bad]
 have hlen:l.length≤X.L.length+1:=by
  have h1:=wa l;rcases h.len with h2|h2
  ·rw [List.length_append] at h2;omega
  ·simp at h2
 obtain⟨g1,g2⟩:=we l (X.L.length+1) [] σ w r n hl hw h hlen;exact⟨by simpa using g1,g2⟩
def aG : List ByteArray→bV
 | []=>[]
 |m :: r=>(1,eC) :: (3,m) :: (4,aV) :: aG r
theorem vZ : ∀l:List ByteArray,l.length≤(aG l).length
 | []=>Nat.le_refl _
 |a :: r=>by
  have:=vZ r;have e:(aG (a :: r)).length=(aG r).length+3:=rfl;rw [List.length_cons,e];omega
theorem wb : ∀(l:List ByteArray) (k:Nat) (acc:List ByteArray) (σ:PS X) (w:Int×ByteArray) (r:bV) (n:Nat),w.1≠1∨w.2≠eC→Up σ (aG l ++ w :: r) n→l.length+1≤k→
  (fG k acc σ).1=acc ++ l∧Up (fG k acc σ).2 (w :: r) n
 | [],k,acc,σ,w,r,n,hw,h,hk=>by
  obtain⟨k,rfl⟩:∃j,k=j+1:=⟨k - 1,by omega⟩
  have h':Up σ (w :: r) n:=h;have hn:σ.du 1 eC=false:=Up.no (k:=w.1) (m:=w.2) h' hw;rw [fG,hn,if_neg Bool.false_ne_true,h'.settle];exact⟨by simp,h'⟩
 |m :: l,k,acc,σ,w,r,n,hw,h,hk=>by
  obtain⟨k,rfl⟩:∃j,k=j+1:=⟨k - 1,by omega⟩
  have h1:=(Up.aK (k:=1) h YA).1;obtain⟨h2,h3⟩:=h1.take YA;have h4:=h3.aO YA;obtain⟨g1,g2⟩:=wb l k (acc ++ [m]) _ w r n hw h4 (by rw [List.length_cons] at hk;omega);rw [fG,if_pos (Up.yes (k:=1) h),h2];exact⟨by rw [g1,List.append_assoc];rfl,g2⟩
theorem th {l:List ByteArray}{σ:PS X}{w:Int×ByteArray}{r:bV}{n:Nat}(hw:w.1≠1∨w.2≠eC)(h:Up σ (aG l ++ w :: r) n):(props σ).1=l∧Up (props σ).2 (w :: r) n:=by
 have hlen:l.length+1≤X.L.length+1:=by
  have h1:=vZ l;rcases h.len with h2|h2
  ·rw [List.length_append] at h2;omega
  ·simp at h2
 obtain⟨g1,g2⟩:=wb l (X.L.length+1) [] σ w r n hw h hlen;exact⟨by unfold props;simpa using g1,g2⟩
theorem FX {σ:PS X}{t:Tok}(h:σ.tok=some t){k:Int}{w:ByteArray}(hw:t.kind≠k∨t.text≠w):σ.du k w=false:=by
 unfold PS.du;rw [h];exact decide_eq_false fun k=>hw.elim (fun h=>h k.1) (fun h=>h k.2)
theorem il (u:Rd X)(a b:ByteArray)(ka kb:Int){l:List cE}{σ:PS X}{t:Tok}(h:σ.tok=some t)(ha:t.kind≠4∨t.text≠a)(hb:t.kind≠4∨t.text≠b):∀k,da u a b ka kb k l σ=(l,σ)
 |0=>rfl
 |k+1=>by rw [da,FX h ha,FX h hb,if_neg Bool.false_ne_true,if_neg Bool.false_ne_true,az h]
theorem GR {u:Rd X}{σ:PS X}{t:Tok}(h:(u σ).2.tok=some t)(hw:t.kind≠4∨(t.text≠mn∧t.text≠lp∧t.text≠mo∧t.text≠ft)):sum u σ=u σ:=by
 have hp:prod u σ=u σ:=il u _ _ _ _ h (hw.imp_right fun h=>h.1) (hw.imp_right fun h=>h.2.1) _;unfold sum;rw [hp,il (prod u) _ _ _ _ h (hw.imp_right fun h=>h.2.2.1) (hw.imp_right fun h=>h.2.2.2)]
variable (dec : ByteArray → Int × Nat)
def Cx (ws:bV)(tm:List cE)(D:Nat):Prop:=
 ∀(X:fA) (d:Nat) (σ:PS X) (w:Int×ByteArray) (r:bV) (n:Nat),Up σ (ws ++ w :: r) n→D < d→n+D≤64→(un dec d σ).1=tm∧Up (un dec d σ).2 (w :: r) n
def EC (w:Int×ByteArray):Prop:=w.1≠4∨(w.2≠mn∧w.2≠lp∧w.2≠mo∧w.2≠ft)
theorem Cx.num (s:ByteArray):Cx dec [(2,s)] [⟨1,(dec s).1,(dec s).2⟩] 0:=by
 intro X d σ w r n h hd hn;obtain⟨d,rfl⟩:∃k,d=k+1:=⟨d - 1,by omega⟩
 obtain⟨t,h1,h2,h3⟩:=Up.tok (k:=2) h;have ha:=(Up.aK (k:=2) h YA).1
 have e:un dec (d+1) σ=([⟨1,(dec s).1,(dec s).2⟩],σ.aK):=by
  rw [un,h1];simp only;rw [if_pos h2,h3]
 rw [e];exact⟨rfl,ha⟩
theorem Up.bE {σ:PS X}{ws:bV}{n:Nat}(h:Up σ ws n)(m:Nat):Up (σ.bE m) ws m:=⟨h.bad,rfl,h.ws⟩
theorem ET {d:Nat}{σ:PS X}{r:bV}{n:Nat}(h:Up σ ((4,aE) :: r) n)(hn:n < 64):un dec (d+1) σ=((sum (un dec d) (σ.aK.bE (n+1))).1,(aO 4 aF (sum (un dec d) (σ.aK.bE (n+1))).2).bE n):=by
 obtain⟨t,h1,h2,h3⟩:=h.tok;rw [un,h1];simp only;rw [if_neg (by rw [h2];decide),if_neg (fun k=>absurd (h3.symm.trans k.2) YA),if_pos ⟨h2,h3⟩,if_neg (by rw [h.bu];omega),h.bu]
theorem Rw {d:Nat}{σ:PS X}{r:bV}{n:Nat}(h:Up σ ((4,ft) :: r) n)(hn:n < 64):un dec (d+1) σ=((un dec d (σ.aK.bE (n+1))).1 ++ [⟨6,0,0⟩],(un dec d (σ.aK.bE (n+1))).2.bE n):=by
 obtain⟨t,h1,h2,h3⟩:=h.tok;rw [un,h1];simp only;rw [if_neg (by rw [h2];decide),if_pos ⟨h2,h3⟩,if_neg (by rw [h.bu];omega),h.bu]
theorem HN : EC (4,aF):=Or.inr ⟨by decide,by decide,by decide,by decide⟩
theorem ri {u:Rd X}{σ:PS X}{w:Int×ByteArray}{r:bV}{n:Nat}(h:Up (u σ).2 (w :: r) n)(hw:EC w):sum u σ=u σ:=by
 obtain⟨t,h1,h2,h3⟩:=Up.tok (k:=w.1) (m:=w.2) h;exact GR h1 (by rw [h2,h3];exact hw)
theorem Cx.neg {ws:bV}{tm:List cE}{D:Nat}(hu:Cx dec ws tm D):Cx dec ((4,aE) :: (4,ft) :: ws ++ [(4,aF)]) (tm ++ [⟨6,0,0⟩]) (D+2):=by
 intro X d σ w r n h hd hn;obtain⟨d,rfl⟩:∃k,d=k+2:=⟨d - 2,by omega⟩
 have h':Up σ ((4,aE) :: (4,ft) :: (ws ++ (4,aF) :: w :: r)) n:=by simpa using h
 have h1:=(h'.aK YA).1.bE (n+1);have h2:=(h1.aK YA).1.bE (n+2);obtain⟨g1,g2⟩:=hu X d _ (4,aF) (w :: r) (n+2) h2 Yy Yy;have e1:=Rw dec (d:=d) h1 Yy;have g3:Up (un dec (d+1) (σ.aK.bE (n+1))).2 ((4,aF) :: w :: r) (n+1):=by rw [e1];exact g2.bE _
 rw [ET dec h' Yy,ri g3 HN];refine⟨?_,(g3.aO YA).bE n⟩;rw [e1];show _ ++ _=_;rw [g1]
theorem Cx.bin {w1 w2:bV}{t1 t2:List cE}{D1 D2:Nat}(h1:Cx dec w1 t1 D1)(h2:Cx dec w2 t2 D2){op:ByteArray}{k:Int}
  (ho:(op=mo∧k=2)∨(op=ft∧k=3)∨(op=mn∧k=4)∨(op=lp∧k=5)):Cx dec ((4,aE) :: w1 ++ (4,op) :: w2 ++ [(4,aF)]) (t1 ++ t2 ++ [⟨k,0,0⟩]) (max D1 D2+1):=by
 intro X d σ w r n h hd hn;obtain⟨d,rfl⟩:∃k,d=k+1:=⟨d - 1,by omega⟩
 have h':Up σ ((4,aE) :: (w1 ++ (4,op) :: (w2 ++ (4,aF) :: w :: r))) n:=by simpa using h
 have ha:=(h'.aK YA).1.bE (n+1);obtain⟨g1,g2⟩:=h1 X d _ (4,op) (w2 ++ (4,aF) :: w :: r) (n+1) ha Yy Yy;have gb:=(g2.aK YA).1;obtain⟨g3,g4⟩:=h2 X d _ (4,aF) (w :: r) (n+1) gb Yy Yy;obtain⟨t,s1,s2,s3⟩:=g4.tok
 have stop:∀(u:Rd X) (a b:ByteArray) (ka kb:Int) (l:List cE) (k:Nat),a≠aF→b≠aF→da u a b ka kb k l (un dec d (un dec d (σ.aK.bE (n+1))).2.aK).2=(l,(un dec d (un dec d (σ.aK.bE (n+1))).2.aK).2):=
  fun u a b ka kb l k ha hb=>il u a b ka kb s1 (Or.inr (by rw [s3];exact Ne.symm ha)) (Or.inr (by rw [s3];exact Ne.symm hb)) k
 have key:sum (un dec d) (σ.aK.bE (n+1))=(t1 ++ t2 ++ [⟨k,0,0⟩],(un dec d (un dec d (σ.aK.bE (n+1))).2.aK).2):=by
  have hprod2:prod (un dec d) (un dec d (σ.aK.bE (n+1))).2.aK=un dec d (un dec d (σ.aK.bE (n+1))).2.aK:=stop _ _ _ _ _ _ _ YA YA;rcases ho with⟨rfl,rfl⟩|⟨rfl,rfl⟩|⟨rfl,rfl⟩|⟨rfl,rfl⟩
  ·have hprod:prod (un dec d) (σ.aK.bE (n+1))=un dec d (σ.aK.bE (n+1)):=by
    obtain⟨t,q1,q2,q3⟩:=g2.tok;exact il _ _ _ _ _ q1 (Or.inr (by rw [q3];decide)) (Or.inr (by rw [q3];decide)) _
   unfold sum;rw [hprod,da,if_pos g2.yes,hprod2,stop _ _ _ _ _ _ _ YA YA,g1,g3]
  ·have hprod:prod (un dec d) (σ.aK.bE (n+1))=un dec d (σ.aK.bE (n+1)):=by
    obtain⟨t,q1,q2,q3⟩:=g2.tok;exact il _ _ _ _ _ q1 (Or.inr (by rw [q3];decide)) (Or.inr (by rw [q3];decide)) _
   unfold sum;rw [hprod,da,if_neg (by rw [g2.no (Or.inr YA)];exact Bool.false_ne_true),if_pos g2.yes,hprod2,stop _ _ _ _ _ _ _ YA YA,g1,g3]
  ·have hprod:prod (un dec d) (σ.aK.bE (n+1))=(t1 ++ t2 ++ [⟨4,0,0⟩],(un dec d (un dec d (σ.aK.bE (n+1))).2.aK).2):=by
    unfold prod;rw [da,if_pos g2.yes,stop _ _ _ _ _ _ _ YA YA,g1,g3]
   unfold sum;rw [hprod,stop _ _ _ _ _ _ _ YA YA]
  ·have hprod:prod (un dec d) (σ.aK.bE (n+1))=(t1 ++ t2 ++ [⟨5,0,0⟩],(un dec d (un dec d (σ.aK.bE (n+1))).2.aK).2):=by
    unfold prod;rw [da,if_neg (by rw [g2.no (Or.inr YA)];exact Bool.false_ne_true),if_pos g2.yes,stop _ _ _ _ _ _ _ YA YA,g1,g3]
   unfold sum;rw [hprod,stop _ _ _ _ _ _ _ YA YA]
 rw [ET dec h' Yy,key];exact⟨rfl,(g4.aO YA).bE n⟩
structure Ex where
 ws:bV
 tm:List cE
 dp:Nat
structure Ex.OK (e:Ex):Prop where
 ne:1≤e.ws.length
 un:Cx dec e.ws e.tm e.dp
 dp:e.dp≤64
def iG : List Ex→bV
 | []=>[]
 | [a]=>a.ws
 |a :: b :: r=>a.ws ++ (4,bo) :: iG (b :: r)
theorem EJ : ∀l:List Ex,(∀e ∈ l,1≤e.ws.length)→l.length≤(iG l).length
 | [],_=>Nat.le_refl _
 | [a],h=>h a (List.mem_cons_self ..)
 |a :: b :: r,h=>by
  have:=EJ (b :: r) fun e he=>h e (List.mem_cons_of_mem _ he)
  have h1:=h a (List.mem_cons_self ..);have e1:(iG (a :: b :: r)).length=a.ws.length+((iG (b :: r)).length+1):=by rw [iG,List.length_append];rfl
  rw [List.length_cons,e1];omega
theorem EP {e:Ex}(he:e.OK dec){σ:PS X}{w:Int×ByteArray}{r:bV}(h:Up σ (e.ws ++ w :: r) 0)(hw:EC w):(lB dec σ).1=e.tm∧Up (lB dec σ).2 (w :: r) 0:=by
 have hd:=he.dp;obtain⟨g1,g2⟩:=he.un X 65 σ w r 0 h Yy Yy;have e0:lB dec σ=sum (un dec 65) σ:=by unfold lB;rw [h.bu]
 rw [e0,ri g2 hw];exact⟨g1,g2⟩
theorem DH : EC (4,bo):=Or.inr ⟨by decide,by decide,by decide,by decide⟩
theorem ER : ∀(l:List Ex) (k:Nat) (acc:List (List cE)) (σ:PS X) (w:Int×ByteArray) (r:bV),l≠[]→(∀e ∈ l,e.OK dec)→EC w→(w.1≠4∨w.2≠bo)→Up σ (iG l ++ w :: r) 0→l.length≤k→
  (rO dec k acc σ).1=acc ++ l.map (·.tm)∧Up (rO dec k acc σ).2 (w :: r) 0
 | [],_,_,_,_,_,h,_,_,_,_,_=>absurd rfl h
 | [a],k,acc,σ,w,r,_,ho,hn,hw,h,hk=>by
  obtain⟨k,rfl⟩:∃j,k=j+1:=⟨k - 1,by simp at hk;omega⟩
  obtain⟨h1,h2⟩:=EP dec (ho a (List.mem_cons_self ..)) h hn;have hb:(lB dec σ).2.du 4 bo=false:=Up.no (k:=w.1) (m:=w.2) h2 hw;rw [rO,hb,if_neg Bool.false_ne_true,h1,h2.settle];exact⟨rfl,h2⟩
 |a :: b :: l,k,acc,σ,w,r,_,ho,hn,hw,h,hk=>by
  obtain⟨k,rfl⟩:∃j,k=j+1:=⟨k - 1,by simp at hk;omega⟩
  have h':Up σ (a.ws ++ (4,bo) :: (iG (b :: l) ++ w :: r)) 0:=by rw [iG] at h;simpa using h
  obtain⟨h1,h2⟩:=EP dec (ho a (List.mem_cons_self ..)) h' DH;have h3:=(h2.aK YA).1;obtain⟨g1,g2⟩:=ER (b :: l) k (acc ++ [a.tm]) _ w r (by simp) (fun e he=>ho e (List.mem_cons_of_mem _ he)) hn hw h3 (by simp at hk ⊢;omega);rw [rO,if_pos h2.yes,h1];exact⟨by rw [g1,List.append_assoc];rfl,g2⟩
theorem Jq {l:List Ex}{σ:PS X}{w:Int×ByteArray}{r:bV}(hl:l≠[])(ho:∀e ∈ l,e.OK dec)(hn:EC w)(hw:w.1≠4∨w.2≠bo)(h:Up σ (iG l ++ w :: r) 0):(row dec σ).1=l.map (·.tm)∧Up (row dec σ).2 (w :: r) 0:=by
 unfold PS.row;rw [h.bad]
 have hlen:l.length≤X.L.length+1:=by
  have h1:=EJ l fun e he=>(ho e he).ne
  rcases h.len with h2|h2
  ·rw [List.length_append] at h2;omega
  ·simp at h2
 obtain⟨g1,g2⟩:=ER dec l (X.L.length+1) [] σ w r hl ho hn hw h hlen;exact⟨by simpa using g1,g2⟩
structure EW where
 k:Int
 given:List ByteArray
 rows:List Ex
structure EW.OK (e:EW):Prop where
 kind:e.k=1∧e.given=[]∨e.k=2∧e.given=[]∨e.k=3∧e.given≠[]
 ne:e.rows≠[]
 ok:∀x ∈ e.rows,x.OK dec
def EW.hd (e:EW):bV:=if e.k=1 then [(1,mm)] else if e.k=2 then [(1,mq)] else(4,aE) :: aQ e.given ++ [(4,aF)]
def nP (e:EW):bV:=e.hd ++ iG e.rows ++ [(4,aV)]
def EW.D (e:EW):eZ:=⟨e.k,e.given,e.rows.map (·.tm)⟩
theorem HO : EC (4,aV):=Or.inr ⟨by decide,by decide,by decide,by decide⟩
theorem Rv {e:EW}(he:e.OK dec){σ:PS X}{r:bV}(h:Up σ (nP e ++ r) 0):σ.du 4 dc=false∧σ.du 1 eC=false∧σ.settle=σ∧(jL dec σ).1=e.D∧Up (jL dec σ).2 r 0:=by
 obtain⟨k,given,rows⟩:=e;have hne:=he.ne;have hok:=he.ok
 have fin:∀{τ:PS X},Up τ (iG rows ++ (4,aV) :: r) 0→(row dec τ).1=rows.map (·.tm)∧Up (aO 4 aV (row dec τ).2) r 0:=fun h=>by
  obtain⟨g1,g2⟩:=Jq dec hne hok HO (Or.inr YA) h;exact⟨g1,g2.aO YA⟩
 rcases he.kind with⟨h1,h2⟩|⟨h1,h2⟩|⟨h1,h2⟩
 ·dsimp only at h1 h2;subst h1 h2
  have h':Up σ ((1,mm) :: (iG rows ++ (4,aV) :: r)) 0:=by
   unfold nP EW.hd at h;rw [if_pos rfl] at h;simpa using h
  have e1:iP σ=(1,[],σ.aK):=by unfold iP;rw [if_pos h'.yes]
  obtain⟨g1,g2⟩:=fin (h'.aK YA).1;refine⟨h'.no (Or.inl YA),h'.no (Or.inr YA),h'.settle,?_,?_⟩
  ·unfold jL EW.D;rw [e1];dsimp only;rw [g1]
  ·unfold jL;rw [e1];exact g2
 ·dsimp only at h1 h2;subst h1 h2
  have h':Up σ ((1,mq) :: (iG rows ++ (4,aV) :: r)) 0:=by
   unfold nP EW.hd at h;rw [if_neg (show ¬((2:Int)=1) by decide),if_pos rfl] at h;simpa using h
  have e1:iP σ=(2,[],σ.aK):=by
   unfold iP;rw [if_neg (by rw [h'.no (Or.inr YA)];exact Bool.false_ne_true),if_pos h'.yes]
  obtain⟨g1,g2⟩:=fin (h'.aK YA).1;refine⟨h'.no (Or.inl YA),h'.no (Or.inr YA),h'.settle,?_,?_⟩
  ·unfold jL EW.D;rw [e1];dsimp only;rw [g1]
  ·unfold jL;rw [e1];exact g2
 ·dsimp only at h1 h2;subst h1
  have h':Up σ ((4,aE) :: (aQ given ++ (4,aF) :: (iG rows ++ (4,aV) :: r))) 0:=by
   unfold nP EW.hd at h;rw [if_neg (show ¬((3:Int)=1) by decide),if_neg (show ¬((3:Int)=2) by decide)] at h;simpa using h
  have a1:=h'.aO YA;obtain⟨a2,a3⟩:=ti h2 (Or.inr YA) a1
  have e1:iP σ=(3,given,aO 4 aF (names (aO 4 aE σ)).2):=by
   unfold iP;rw [if_neg (by rw [h'.no (Or.inl YA)];exact Bool.false_ne_true),if_neg (by rw [h'.no (Or.inl YA)];exact Bool.false_ne_true),a2]
  obtain⟨g1,g2⟩:=fin (a3.aO YA);refine⟨h'.no (Or.inr YA),h'.no (Or.inl YA),h'.settle,?_,?_⟩
  ·unfold jL EW.D;rw [e1];dsimp only;rw [g1]
  ·unfold jL;rw [e1];exact g2
theorem No (e:EW):1≤(nP e).length:=by
 unfold nP;rw [List.length_append];simp
def fi (l:List EW):bV:=l.flatMap nP
theorem Ak : ∀l:List EW,l.length≤(fi l).length
 | []=>Nat.le_refl _
 |e :: r=>by
  have h1:=Ak r;have h2:=No e;have e1:fi (e :: r)=nP e ++ fi r:=rfl;rw [e1,List.length_append,List.length_cons];omega
theorem ES : ∀(l:List EW) (k:Nat) (es:List eZ) (ps:List ByteArray) (pr:List ByteArray) (σ:PS X) (r:bV),(∀e ∈ l,e.OK dec)→Up σ (fi l ++ (aG pr ++ (4,dc) :: r)) 0→l.length+2≤k→
  (lD dec k es ps σ).1=es ++ l.map (·.D)∧(lD dec k es ps σ).2.1=ps ++ pr∧Up (lD dec k es ps σ).2.2 r 0
 | [],k,es,ps,pr,σ,r,_,h,hk=>by
  obtain⟨k,rfl⟩:∃j,k=j+2:=⟨k - 2,by simp at hk;omega⟩
  have h':Up σ (aG pr ++ (4,dc) :: r) 0:=h
  have stop:∀(k:Nat) (ps:List ByteArray) (τ:PS X),Up τ ((4,dc) :: r) 0→lD dec (k+1) es ps τ=(es,ps,τ.aK):=fun k ps τ ht=>by
   rw [lD,ht.bad];simp only;rw [if_pos ht.yes]
  cases pr with
  |nil=>
   have h2:Up σ ((4,dc) :: r) 0:=h';rw [stop _ _ _ h2];exact⟨by simp,by simp,(h2.aK YA).1⟩
  |cons m q=>
   obtain⟨g1,g2⟩:=th (w:=(4,dc)) (Or.inl YA) h';have h2:Up σ ((1,eC) :: (3,m) :: (4,aV) :: (aG q ++ (4,dc) :: r)) 0:=h';rw [lD,h2.bad];simp only;rw [if_neg (by rw [h2.no (Or.inl YA)];exact Bool.false_ne_true),if_pos h2.yes,stop _ _ _ g2,g1];exact⟨by simp,rfl,(g2.aK YA).1⟩
 |e :: l,k,es,ps,pr,σ,r,ho,h,hk=>by
  obtain⟨k,rfl⟩:∃j,k=j+1:=⟨k - 1,by simp at hk;omega⟩
  have h':Up σ (nP e ++ (fi l ++ (aG pr ++ (4,dc) :: r))) 0:=by
   have e1:fi (e :: l)=nP e ++ fi l:=rfl;rw [e1,List.append_assoc] at h;exact h
  obtain⟨b1,b2,b3,b4,b5⟩:=Rv dec (ho e (List.mem_cons_self ..)) h';obtain⟨g1,g2,g3⟩:=ES l k (es ++ [e.D]) ps pr _ r (fun x hx=>ho x (List.mem_cons_of_mem _ hx)) b5 (by simp at hk;omega);rw [lD,h'.bad];simp only;rw [if_neg (by rw [b1];exact Bool.false_ne_true),if_neg (by rw [b2];exact Bool.false_ne_true),b3,b4];exact⟨by rw [g1,List.append_assoc];rfl,g2,g3⟩
structure PW where
 name:ByteArray
 cX:List ByteArray
 bg:List EW
 aN:List ByteArray
def PW.D (p:PW):eY:=⟨p.name,p.cX,p.bg.map (·.D),p.aN⟩
def sU : List ByteArray→bV
 | []=>[]
 |a :: l=>(4,lE) :: aQ (a :: l)
def rL (p:PW):bV:=(4,aE) :: (1,p.name) :: (sU p.cX ++ (4,aF) :: (4,dM) :: (fi p.bg ++ (aG p.aN ++ [(4,dc)])))
theorem Rs {p:PW}(ho:∀e ∈ p.bg,e.OK dec){σ:PS X}{r:bV}(h:Up σ (rL p ++ r) 0):(qA dec σ).1=p.D∧Up (qA dec σ).2 r 0:=by
 have h':Up σ ((4,aE) :: (1,p.name) :: (sU p.cX ++ (4,aF) :: (4,dM) :: (fi p.bg ++ (aG p.aN ++ (4,dc) :: r)))) 0:=by
  unfold rL at h;simpa using h
 have a1:=h'.aO YA;obtain⟨a2,a3⟩:=a1.take YA
 have a4:(qB (take 1 (aO 4 aE σ)).2).1=p.cX∧Up (qB (take 1 (aO 4 aE σ)).2).2 ((4,aF) :: (4,dM) :: (fi p.bg ++ (aG p.aN ++ (4,dc) :: r))) 0:=by
  unfold qB
  cases hp:p.cX with
  |nil=>
   rw [hp] at a3;have a5:Up (take 1 (aO 4 aE σ)).2 ((4,aF) :: (4,dM) :: (fi p.bg ++ (aG p.aN ++ (4,dc) :: r))) 0:=a3;rw [if_neg (by rw [a5.no (Or.inr YA)];exact Bool.false_ne_true),a5.settle];exact⟨rfl,a5⟩
  |cons x l=>
   rw [hp] at a3;have a5:Up (take 1 (aO 4 aE σ)).2 ((4,lE) :: (aQ (x :: l) ++ (4,aF) :: (4,dM) :: (fi p.bg ++ (aG p.aN ++ (4,dc) :: r)))) 0:=a3;rw [if_pos a5.yes];exact ti (by simp) (Or.inr YA) (a5.aK YA).1
 have a6:Up (Bg σ) (fi p.bg ++ (aG p.aN ++ (4,dc) :: r)) 0:=(a4.2.aO YA).aO YA
 have hlen:p.bg.length+2≤X.L.length+2:=by
  have h1:=Ak p.bg;rcases a6.len with h2|h2
  ·rw [List.length_append] at h2;omega
  ·simp at h2
 obtain⟨g1,g2,g3⟩:=ES dec p.bg (X.L.length+2) [] [] p.aN _ r ho a6 hlen;refine⟨?_,g3⟩;unfold qA KL PW.D;rw [a2,a4.1,g1,g2];simp
variable (cnt : ByteArray → Option Nat) (ct : Nat → ByteArray)
def rK (v:dW):bV:=(1,v.name) :: (4,dM) :: (1,eT) :: (1,fa) :: (4,yQ) :: (2,ct v.count) :: (4,vA) :: (4,dM) :: (aQ v.dL ++ (4,dc) :: (4,aV) :: (aG v.aN ++ [(4,dc)]))
theorem Rr {v:dW}(hc:cnt (ct v.count)=some v.count)(hv:v.dL≠[]){σ:PS X}{r:bV}(h:Up σ (rK ct v ++ r) 0):(nR cnt σ).1=v∧Up (nR cnt σ).2 r 0:=by
 have h':Up σ ((1,v.name) :: (4,dM) :: (1,eT) :: (1,fa) :: (4,yQ) :: (2,ct v.count) :: (4,vA) :: (4,dM) :: (aQ v.dL ++ (4,dc) :: (4,aV) :: (aG v.aN ++ (4,dc) :: r))) 0:=by
  unfold rK at h;simpa using h
 obtain⟨a1,a2⟩:=h'.take YA;have a3:Up (vC σ) ((2,ct v.count) :: (4,vA) :: (4,dM) :: (aQ v.dL ++ (4,dc) :: (4,aV) :: (aG v.aN ++ (4,dc) :: r))) 0:=(((a2.aO YA).aO YA).aO YA).aO YA
 have a4:(count cnt (vC σ)).1=v.count∧Up (count cnt (vC σ)).2 ((4,vA) :: (4,dM) :: (aQ v.dL ++ (4,dc) :: (4,aV) :: (aG v.aN ++ (4,dc) :: r))) 0:=by
  obtain⟨t,t1,t2,t3⟩:=a3.tok;unfold count;rw [t1];simp only;rw [t3,hc];simp only;rw [if_pos t2];exact⟨rfl,(a3.aK YA).1⟩
 have a5:Up (xy cnt σ) (aQ v.dL ++ (4,dc) :: (4,aV) :: (aG v.aN ++ (4,dc) :: r)) 0:=(a4.2.aO YA).aO YA;obtain⟨a6,a7⟩:=ti hv (Or.inr YA) a5;have a8:Up (Ap cnt σ) (aG v.aN ++ (4,dc) :: r) 0:=(a7.aO YA).aO YA;obtain⟨a9,b1⟩:=th (w:=(4,dc)) (Or.inl YA) a8;refine⟨?_,b1.aO YA⟩;unfold nR;rw [a1,a4.1,a6,a9]
structure FW where
 name:ByteArray
 aN:List ByteArray
 vars:List dW
 bG:List PW
def FW.D (f:FW):iS:=⟨f.name,f.aN,f.vars,f.bG.map (·.D)⟩
structure FW.OK (f:FW):Prop where
 vr:∀v ∈ f.vars,cnt (ct v.count)=some v.count∧v.dL≠[]
 pb:∀p ∈ f.bG,∀e ∈ p.bg,e.OK dec
def ib (l:List dW):bV:=l.flatMap fun v=>(1,eQ) :: rK ct v
def fV (l:List PW):bV:=l.flatMap fun p=>(1,cd) :: rL p
def CB (f:FW):bV:=(1,fe) :: (1,f.name) :: (4,dM) :: (aG f.aN ++ (4,dc) :: (ib ct f.vars ++ fV f.bG))
theorem At : ∀(l:List PW) (k:Nat) (vs:List dW) (ps:List eY) (σ:PS X) (r:bV),(∀p ∈ l,∀e ∈ p.bg,e.OK dec)→Up σ (fV l ++ [(0,eS)]) 0→l.length+1≤k→
  (ey dec cnt k vs ps σ).1=vs∧(ey dec cnt k vs ps σ).2.1=ps ++ l.map (·.D)∧Up (ey dec cnt k vs ps σ).2.2 [(0,eS)] 0
 | [],k,vs,ps,σ,r,_,h,hk=>by
  obtain⟨k,rfl⟩:∃j,k=j+1:=⟨k - 1,by simp at hk;omega⟩
  have h':Up σ [(0,eS)] 0:=h;rw [ey,if_neg (by rw [h'.no (Or.inl YA)];exact Bool.false_ne_true),if_neg (by rw [h'.no (Or.inl YA)];exact Bool.false_ne_true),h'.settle];exact⟨rfl,by simp,h'⟩
 |p :: l,k,vs,ps,σ,r,ho,h,hk=>by
  obtain⟨k,rfl⟩:∃j,k=j+1:=⟨k - 1,by simp at hk;omega⟩
  have h':Up σ ((1,cd) :: (rL p ++ (fV l ++ [(0,eS)]))) 0:=by
   have e1:fV (p :: l)=(1,cd) :: rL p ++ fV l:=rfl;rw [e1,List.append_assoc] at h;exact h
  obtain⟨b1,b2⟩:=Rs dec (ho p (List.mem_cons_self ..)) (h'.aK YA).1;obtain⟨g1,g2,g3⟩:=At l k vs (ps ++ [p.D]) _ r (fun x hx=>ho x (List.mem_cons_of_mem _ hx)) b2 (by simp at hk;omega);rw [ey,if_neg (by rw [h'.no (Or.inr YA)];exact Bool.false_ne_true),if_pos h'.yes,b1];exact⟨g1,by rw [g2,List.append_assoc];rfl,g3⟩
theorem As : ∀(l:List dW) (q:List PW) (k:Nat) (vs:List dW) (ps:List eY) (σ:PS X),(∀v ∈ l,cnt (ct v.count)=some v.count∧v.dL≠[])→(∀p ∈ q,∀e ∈ p.bg,e.OK dec)→Up σ (ib ct l ++ (fV q ++ [(0,eS)])) 0→l.length+q.length+1≤k→
  (ey dec cnt k vs ps σ).1=vs ++ l∧(ey dec cnt k vs ps σ).2.1=ps ++ q.map (·.D)∧Up (ey dec cnt k vs ps σ).2.2 [(0,eS)] 0
 | [],q,k,vs,ps,σ,_,ho,h,hk=>by
  obtain⟨g1,g2,g3⟩:=At dec cnt q k vs ps σ [] ho h (by simp at hk;omega);exact⟨by rw [g1];simp,g2,g3⟩
 |v :: l,q,k,vs,ps,σ,hv,ho,h,hk=>by
  obtain⟨k,rfl⟩:∃j,k=j+1:=⟨k - 1,by simp at hk;omega⟩
  have h':Up σ ((1,eQ) :: (rK ct v ++ (ib ct l ++ (fV q ++ [(0,eS)])))) 0:=by
   have e1:ib ct (v :: l)=(1,eQ) :: rK ct v ++ ib ct l:=rfl;rw [e1,List.append_assoc] at h;exact h
  obtain⟨c1,c2⟩:=hv v (List.mem_cons_self ..);obtain⟨b1,b2⟩:=Rr cnt ct c1 c2 (h'.aK YA).1;obtain⟨g1,g2,g3⟩:=As l q k (vs ++ [v]) ps _ (fun x hx=>hv x (List.mem_cons_of_mem _ hx)) ho b2 (by simp at hk;omega);rw [ey,if_pos h'.yes,b1];exact⟨by rw [g1,List.append_assoc];rfl,g2,g3⟩
theorem Ai : ∀l:List dW,l.length≤(ib ct l).length
 | []=>Nat.le_refl _
 |v :: r=>by
  have h1:=Ai r;have e1:ib ct (v :: r)=(1,eQ) :: (rK ct v ++ ib ct r):=rfl;rw [e1,List.length_cons,List.length_cons,List.length_append];omega
theorem Aj : ∀l:List PW,l.length≤(fV l).length
 | []=>Nat.le_refl _
 |v :: r=>by
  have h1:=Aj r;have e1:fV (v :: r)=(1,cd) :: (rL v ++ fV r):=rfl;rw [e1,List.length_cons,List.length_cons,List.length_append];omega
theorem Ru {f:FW}(hf:f.OK dec cnt ct){σ:PS X}(h:Up σ (CB ct f ++ [(0,eS)]) 0):(Ec dec cnt σ).1=f.D∧(Ec dec cnt σ).2.bad=none:=by
 have h':Up σ ((1,fe) :: (1,f.name) :: (4,dM) :: (aG f.aN ++ (4,dc) :: (ib ct f.vars ++ (fV f.bG ++ [(0,eS)])))) 0:=by
  unfold CB at h;simpa using h
 have a1:=h'.aO YA;obtain⟨a2,a3⟩:=a1.take YA;have a4:Up (Ie σ) (aG f.aN ++ (4,dc) :: (ib ct f.vars ++ (fV f.bG ++ [(0,eS)]))) 0:=a3.aO YA;obtain⟨a5,a6⟩:=th (w:=(4,dc)) (Or.inl YA) a4;have a7:Up (vN σ) (ib ct f.vars ++ (fV f.bG ++ [(0,eS)])) 0:=a6.aO YA
 have hlen:f.vars.length+f.bG.length+1≤X.L.length+1:=by
  have h1:=Ai ct f.vars;have h3:=Aj f.bG;rcases a7.len with h2|h2
  ·rw [List.length_append,List.length_append] at h2;omega
  ·simp at h2
 obtain⟨g1,g2,g3⟩:=As dec cnt ct f.vars f.bG (X.L.length+1) [] [] _ hf.vr hf.pb a7 hlen
 have e1:fin (BM dec cnt σ).2.2=(BM dec cnt σ).2.2:=by
  obtain⟨t,t1,t2,t3⟩:=g3.tok;have t1':(BM dec cnt σ).2.2.tok=some t:=t1;unfold fin;rw [t1'];exact if_pos t2
 refine⟨?_,?_⟩
 ·unfold Ec BM FW.D;rw [a2,a5,g1,g2];simp
 ·show(fin (BM dec cnt σ).2.2).bad=none;rw [e1];exact g3.bad
theorem Rt {l:List Ex}(hl:l≠[])(ho:∀e ∈ l,e.OK dec){σ:PS X}(h:Up σ (iG l ++ [(0,eS)]) 0):(DG dec σ).1=l.map (·.tm)∧(DG dec σ).2.bad=none:=by
 obtain⟨g1,g2⟩:=Jq dec hl ho (Or.inl YA) (Or.inl YA) h
 have e1:fin (row dec σ).2=(row dec σ).2:=by
  obtain⟨t,t1,t2,t3⟩:=g2.tok;unfold fin;rw [t1];exact if_pos t2
 refine⟨g1,?_⟩;show(fin (row dec σ).2).bad=none;rw [e1];exact g2.bad
end PS
end Go.Ev
