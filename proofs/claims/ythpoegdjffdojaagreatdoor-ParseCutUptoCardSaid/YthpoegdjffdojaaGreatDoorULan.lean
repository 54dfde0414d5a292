import Derived.Test.YthpoegdjffdojaaGreatDoorULam
set_option linter.all false
set_option maxHeartbeats 4000000
set_option maxRecDepth 10000
namespace Go.Ev
open Go.Proofs
structure WS where
 out:ByteArray
 n:Nat
 mark:Nat
def Qx : ByteArray:=⟨#[32]⟩
def uN (G:List ByteArray)(n:Nat):ByteArray:=if G=[] then Qx else Qx ++ G.getD (n % G.length) default
def aB (G:List ByteArray)(σ:WS)(w:ByteArray):WS:=⟨σ.out ++ uN G σ.n ++ w,σ.n+1,σ.mark⟩
def og (G:List ByteArray)(σ:WS)(l:List ByteArray):WS:=l.foldl (aB G) σ
theorem wI (G:List ByteArray)(σ:WS)(w:ByteArray)(l:List ByteArray):og G σ (w :: l)=og G (aB G σ w) l:=rfl
theorem KF (G:List ByteArray)(l m:List ByteArray)(σ:WS):og G σ (l ++ m)=og G (og G σ l) m:=List.foldl_append
theorem KE (G:List ByteArray):∀(l:List ByteArray) (σ:WS),(og G σ l).n=σ.n+l.length
 | [],_=>rfl
 |w :: l,σ=>by rw [wI,KE G l];simp only [aB,B9];omega
def iD (l:List ByteArray):List T:=l.map gG
def TR (G:List ByteArray)(σ:WS):V:=.agg [.af (.string σ.out),.ro true (.sl (iD G)),.af (.int .i64 σ.n),.af (.int .i64 σ.mark)]
def jG (G:List ByteArray)(σ:WS):Obj:=⟨4,[TR G σ],0,true⟩
def kC (G:List ByteArray)(σ:WS):OH:=[(0,jG G σ)]
variable {G : List ByteArray}
theorem EI (σ:WS):∀v ∈ [V.af (.string σ.out),.ro true (.sl (iD G)),.af (.int .i64 σ.n),.af (.int .i64 σ.mark)],v.kx:=dR (cr (dR (dR gq)))
theorem sR (σ:WS):(TR G σ).flat:=fun v hv=>(EI σ v hv).fl
theorem Nh (σ:WS):∀e ∈ (jG G σ).el,e.flat:=fm (sR σ)
theorem bS {σ:WS}(oh:OH):∀v ∈ (jG G σ).el,v.cl oh:=fun v hv=>(Nh σ v hv).cl oh
theorem sQ {σ τ:WS}{i:Nat}{o:Obj}(h:ae (kC G τ ++ kC G σ) i=some o):i=0/\o=jG G τ:=by
 by_cases h0:i=0
 ·subst h0;have e:ae (kC G τ ++ kC G σ) 0=some (jG G τ):=rfl;rw [e] at h;exact⟨rfl,(C6 h).symm⟩
 ·rw [show kC G τ ++ kC G σ=[(0,_),(0,_)] from rfl,ae,if_neg (H5 h0),ae,if_neg (H5 h0)] at h;cases h
theorem IY {s:St}{vs:List V}{σ τ:WS}{np:Nat}(hs:ae s.oh 0=some (jG G τ))(hnp:0 < np)(he:aA s.env 0=.ref 0 0 0 0) :
  ∀i o o',ae (kC G σ) i=some o->ae (kC G τ ++ kC G σ) i=some o'->o'.ver=0->Qp np (.ref 0 0 0 0 :: vs) s i o:=by
 intro i o o' h1 h2 h3;obtain⟨rfl,rfl⟩:=sQ h2;obtain⟨-,rfl⟩:=aR h1;exact⟨D0 _,⟨_,hs,rfl,rfl,rfl⟩,0,_,hnp,rfl,he,⟨rfl,rfl⟩⟩
theorem Qw {s:St}{σ τ:WS}(hs:ae s.oh 0=some (jG G τ)):Bm s.oh (kC G τ ++ kC G σ):=by
 intro i o h;obtain⟨rfl,rfl⟩:=sQ h;refine⟨_,hs,rfl,rfl,rfl,rfl,fun k e e1 he he1=>?_⟩;rw [he] at he1;obtain rfl:e=e1:=by simpa using he1
 cases k with
 |zero=>
  obtain rfl:TR G τ=e:=by simpa [jG] using he
  exact sK (EI τ)
 |succ k=>simp [jG] at he
theorem fK {P:Program}{C:CT}(hC:∀q ts r,C q ts r->iE P q ts r)(hmix:P.follows .mixedOrders=true){q:FuncId}{fn:Func}{c:Code}{σ τ:WS}{vs:List V}{r:V}(np:Nat)(hnp:np<=(V.ref 0 0 0 0 :: vs).length)
  (hfn:P.funcs[q]?=some fn) (hname:(fn.name == "runtime.NumGoroutine")=false) (hbody:fn.body=some c) (hok:okB fn.ntmps c=true) (hpar:fT np c=true) (hlen:(V.ref 0 0 0 0 :: vs).length<=fn.ntmps)
  (hvs:∀v ∈ vs,v.flat)
  (h:cK P C c ⟨fn.ntmps,dq 0 (.ref 0 0 0 0 :: vs),[(0,jG G σ)]⟩ (iR P fn np (kC G σ) (.ref 0 0 0 0 :: vs) (kC G τ) r)):jP P q (kC G σ) [] (.ref 0 0 0 0 :: vs) (kC G τ) r:=
 di hC hmix np hnp hfn hname hbody hok hpar hlen
  (fun i o h=>by
   obtain⟨rfl,rfl⟩:=aR h
   exact⟨rfl,rfl,bS _⟩)
  (fun v hv=>by
   rcases B5.1 hv with rfl|hv
   ·exact rfl
   ·exact(hvs v hv).cl _)
  (fun i o h=>by
   obtain⟨rfl,rfl⟩:=aR h
   exact .inl rfl)
  (fun i o o' h1 h2 h3 h4=>by
   obtain⟨rfl,rfl⟩:=sQ h2;obtain⟨-,rfl⟩:=aR h1
   exact⟨rfl,wU _⟩) h
theorem Qv (m vo:Nat->Nat)(hv:vo 0=0)(σ:WS):pN m vo (kC G σ)=[(m 0,jG G σ)]:=by
 show [(m 0,Obj.mk 4 [(TR G σ).oI m vo] (vo 0+0) true)]=_;rw [oX _ _ (sR σ),hv];rfl
theorem Ni {C:CT}{q:FuncId}{args vs:List V}{oh:OH}{σ τ:WS}{r:V}{k:Acc->Prop}(id:Nat)(hc:C q [] (.gen (kC G σ) [] vs (kC G τ) r))
  (ha:args.map V.wk=vs.map (V.oI (fun _=>id) (fun _=>0))) (hp:ae oh id=some (jG G σ)) (hr:∀m vo,r.rn m vo=r)
  (hk:k ⟨[(id,jG G σ)],[],[(id,jG G τ)],r⟩):oH C q args oh k:=by
 refine⟨_,_,vs,_,r,fun _=>id,fun _=>0,hc,ha,fun p hp'=>?_,fun i hi=>by simp at hi,fun i hi j hj _=>?_,?_⟩
 ·obtain rfl:=HQ.1 hp';show ae oh id=some (Obj.mk 4 [(TR G σ).oI _ _] _ true);rw [oX _ _ (sR σ)];exact hp
 ·have e1:i=0:=by simpa [kC] using hi
  have e2:j=0:=by simpa [kC] using hj
  rw [e1,e2]
 ·rw [Qv _ _ rfl,Qv _ _ rfl,hr];exact hk
theorem iC {C:CT}{q:FuncId}{args vs:List V}{oh:OH}{σ τ:WS}{r:V}{k:Acc->Prop}{A B D:Prop}(id:Nat)(hc:C q [] (.gen (kC G σ) [] vs (kC G τ) r))(hk:k ⟨[(id,jG G σ)],[],[(id,jG G τ)],r⟩)
  (ha:args.map V.wk=vs.map (V.oI (fun _=>id) (fun _=>0)):=by rfl) (hp:ae oh id=some (jG G σ):=by rfl) (hr:∀m vo,r.rn m vo=r:=by exact fun _ _=>rfl):A\/B\/oH C q args oh k\/D:=Or.inr (Or.inr (Or.inl (Ni id hc ha hp hr hk)))
theorem sa {P:Program}{fn:Func}{s:St}{vs:List V}{σ τ:WS}{np:Nat}{x:X}(hx:match x with|.exit _=>False|_=>True)(hr:fn.results.toList=[])(hs:ae s.oh 0=some (jG G τ))(hnp:0 < np)(he:aA s.env 0=.ref 0 0 0 0) :
  iR P fn np (kC G σ) (.ref 0 0 0 0 :: vs) (kC G τ) (.ba []) x s:=by
 refine⟨hx,false,s,rfl,IY hs hnp he,Qw hs,?_⟩;rw [hr]
theorem db {P:Program}{fn:Func}{s:St}{vs:List V}{σ τ:WS}{np t:Nat}{x y:Bool}(hr:fn.results.toList=[.tmp t])(ht:aA s.env t=.af (.bool x))(hb:x=y)(hs:ae s.oh 0=some (jG G τ))(hnp:0 < np)(he:aA s.env 0=.ref 0 0 0 0) :
  iR P fn np (kC G σ) (.ref 0 0 0 0 :: vs) (kC G τ) (.af (.bool y)) .ret s:=by
 refine⟨trivial,false,s,rfl,IY hs hnp he,Qw hs,?_⟩;rw [hr];show vB _ _ (aA s.env t) (.af (.bool y));rw [ht,hb];exact mO.af _
theorem Vx {l:List ByteArray}{i:Nat}{s:ByteArray}(h:l[i]?=some s):(iD l)[i]?=some (gG s):=by
 unfold iD;rw [Zf,h];rfl
theorem bK {a b:Prop}(h:a)(k:b):a/\b:=⟨h,k⟩
theorem BK (g:ByteArray)(G:List ByteArray)(n:Nat):uN (g :: G) n=Qx ++ (g :: G).getD (n % (g :: G).length) default:=if_neg (fun h=>by cases h)
theorem tF {l:List ByteArray}{i:Nat}(h:i < l.length):(iD l)[i]?=some (gG (l.getD i default)):=by
 rw [List.getD,uz h];exact Vx (uz h)
theorem Nl (σ:WS)(w:ByteArray)(hn:σ.n < 4611686018427387904)(hz:(aB G σ w).out.size<=4611686018427387904) :
  jP Tryz.prog 20 (kC G σ) [] [.ref 0 0 0 0,.af (.string w)] (kC G (aB G σ w)) (.ba []):=by
 have hz':σ.out.size+(uN G σ.n).size+w.size<=4611686018427387904:=by
  have e:(aB G σ w).out=σ.out ++ uN G σ.n ++ w:=rfl;rw [e,B8,B8] at hz;exact hz
 obtain⟨o,n,m⟩:=σ;dsimp only at hn hz';refine fK bN mix 1 (zO rfl) Tryz.func20 rfl rfl B1 B1 (zO rfl) ?vs ?_
 case vs=>exact IP pQ
 cases G with
 |nil=>
  have h1:ByteArray.size o+ByteArray.size (⟨#[32]⟩:ByteArray)<=9223372036854775807:=G6 (G6 (N1 _ _) hz') B3;have h2:ByteArray.size (o ++ (⟨#[32]⟩:ByteArray))+ByteArray.size w<=9223372036854775807:=by rw [B8];exact G6 hz' B3
  repeat'(first|(guard_hyp hK;first|refine bK h1 ?_|refine bK h2 ?_)|(with_reducible first|(refine zz ?_;try intro K hK)|refine zi ?_|refine zh ?_)|((first|apply hK _ _ rfl|apply hK);clear hK K)|(guard_hyp hK;first|refine zx ?_|apply ab|apply aa|refine zW ?_|intro b0 hb)|((first|refine zj ?_|guard_hyp hK);refine zY ?_ ?_;all_goals(intro hb;(try simp only [sn,sb] at hb);try exact ao)))
  exact sa trivial rfl rfl B3 rfl
 |cons g G'=>
  have hl:0 < (g :: G').length:=D0 _;have hm:n % (g :: G').length < (g :: G').length:=J9 _ hl;have hat:=tF hm;rw [BK,B8] at hz';obtain⟨x,hx⟩:∃x,x=(g :: G').getD (n % (g :: G').length) default:=⟨_,rfl⟩
  rw [<- hx] at hat hz';have e1:aB (g :: G') ⟨o,n,m⟩ w=⟨o ++ (Qx ++ x) ++ w,n+1,m⟩:=by rw [aB];simp only [BK,<- hx]
  rw [e1];clear e1 hx hz;generalize hK1:g :: G'=K1 at *;have h0:ByteArray.size (⟨#[32]⟩:ByteArray)+ByteArray.size x<=9223372036854775807:=G6 (G6 (G6 (P7 _ _) (N1 _ _)) hz') B3;have h1:ByteArray.size o+ByteArray.size (Qx ++ x)<=9223372036854775807:=by rw [B8];exact G6 (G6 (N1 _ _) hz') B3
  have h2:ByteArray.size (o ++ (Qx ++ x))+ByteArray.size w<=9223372036854775807:=by rw [B8,B8];exact G6 hz' B3
  have hl2:(iD K1).length=K1.length:=List.length_map _;have hmd:((n % K1.length:Nat):Int)=((n:Nat):Int).tmod (((iD K1).length:Nat):Int):=by rw [hl2];rfl
  repeat'(first|(guard_hyp hK;first|refine bK h0 ?_|refine bK h1 ?_|refine bK h2 ?_|refine Sk _ (UO hmd ?_)|refine Sk _ (UO hat ?_))|(with_reducible first|(refine zz ?_;try intro K hK)|refine zi ?_|refine zh ?_)|((first|apply hK _ _ rfl|apply hK);clear hK K)|(guard_hyp hK;first|refine zx ?_|apply ab|apply aa|refine zW ?_|intro b0 hb)|((first|refine zj ?_|guard_hyp hK);refine zY ?_ ?_;all_goals(intro hb;(try simp only [sn,sb] at hb);try exact ao)))
  exact sa trivial rfl rfl B3 rfl
end Go.Ev
namespace Go.Ev
open Go.Proofs
open PS (bV aQ aG bo eC aV)
variable {G : List ByteArray}
def fS (w:Int×ByteArray):ByteArray:=if w.1=3 then lX w.2 else w.2
def bz (G:List ByteArray)(σ:WS)(ws:bV):WS:=og G σ (ws.map fS)
theorem bn (σ:WS)(a b:bV):bz G σ (a ++ b)=bz G (bz G σ a) b:=by
 unfold bz;rw [G7,KF]
theorem nc (σ:WS)(w:Int×ByteArray)(b:bV):bz G σ (w :: b)=bz G (aB G σ (fS w)) b:=rfl
def Fits (σ:WS):Prop:=σ.n+σ.out.size<=4611686018427387903
theorem Fits.w {σ:WS}{w:ByteArray}(h:Fits (aB G σ w)):Fits σ:=by
 unfold Fits aB at *;simp only [B8] at h;omega
theorem Fits.l : ∀{l:List ByteArray} {σ:WS},Fits (og G σ l)->Fits σ
 | [],_,h=>h
 |w :: l,σ,h=>(Fits.l (l:=l) (by rw [<- wI];exact h):Fits (aB G σ w)).w
theorem Fits.s {l:bV}{σ:WS}(h:Fits (bz G σ l)):Fits σ:=Fits.l h
theorem aL (σ:WS)(w:ByteArray)(h:Fits (aB G σ w)) :
  jP Tryz.prog 20 (kC G σ) [] [.ref 0 0 0 0,.af (.string w)] (kC G (aB G σ w)) (.ba []):=
 Nl σ w (by unfold Fits aB at h;simp only at h;omega) (by unfold Fits at h;omega)
theorem nW {l:List ByteArray}{k:Nat}(h:k < l.length):l.take (k+1)=l.take k ++ [l.getD k default]:=by
 rw [List.getD,uz h,I6 h];rfl
theorem rh : ∀(l:List ByteArray) (a:ByteArray),l≠[]->aQ (l ++ [a])=aQ l ++ [(4,bo),(1,a)]
 | [],_,h=>absurd rfl h
 | [b],a,_=>rfl
 |b :: c :: r,a,_=>by
  show(1,b) :: (4,bo) :: aQ (c :: r ++ [a])=_;rw [rh (c :: r) a (by simp)];rfl
theorem uu {l:List ByteArray}{k:Nat}(h:k < l.length)(h0:0 < k)(σ:WS):bz G σ (aQ (l.take (k+1)))=aB G (aB G (bz G σ (aQ (l.take k))) bo) (l.getD k default):=by
 have hn:l.take k≠[]:=by
  intro e;have:=B4 List.length e;rw [List.length_take,I5 (O0 h)] at this;exact absurd this (by simp;omega)
 rw [nW h,rh _ _ hn,bn];rfl
theorem rC {l:List ByteArray}(h:0 < l.length)(σ:WS):bz G σ (aQ (l.take (0+1)))=aB G σ (l.getD 0 default):=by
 rw [nW h];rfl
theorem nN : ∀(l m:List ByteArray),aG (l ++ m)=aG l ++ aG m
 | [],_=>rfl
 |a :: l,m=>by
  show(1,eC) :: (3,a) :: (4,aV) :: aG (l ++ m)=_;rw [nN l m];rfl
theorem Dq {l:List ByteArray}{k:Nat}(h:k < l.length)(σ:WS):bz G σ (aG (l.take (k+1)))=aB G (aB G (aB G (bz G σ (aG (l.take k))) eC) (lX (l.getD k default))) aV:=by
 rw [nW h,nN,bn];rfl
theorem xc {l:List ByteArray}{σ:WS}(hf:Fits (bz G σ (aQ l))):∀(d k:Nat),d=l.length - k->k<=l.length->Fits (bz G σ (aQ (l.take k)))
 |0,k,hd,hk=>by rw [B7 A8];exact hf
 |d+1,k,hd,hk=>by
  have ih:=xc hf d (k+1) A8 A8;by_cases h0:0 < k
  ·rw [uu A8 h0] at ih;exact ih.w.w
  ·obtain rfl:k=0:=by omega
   rw [rC A8] at ih;exact ih.w
theorem Eb {l:List ByteArray}{σ:WS}(hf:Fits (bz G σ (aG l)))(k:Nat):Fits (bz G σ (aG (l.take k))):=by
 rw [<- L1 k l,nN,bn] at hf;exact hf.s
def gH (s:ByteArray):Bool:=decide (0 < s.size) && decide (s.size<=64) && isLet (ax s 0) && decide (ar bp s 0=s.size)
def IM (s:ByteArray):Bool:=(bs s).any (fun b=>decide (b.toNat=10))
def rQ (s:ByteArray):ByteArray:=if IM s=true then eS else lX s
def tU (l:List ByteArray):Bool:=l.all fun s=>!IM s
def ux (l:List ByteArray):Bool:=l.all gH && decide (0 < l.length)
theorem LX {f:Bool}{t:T}{l:List V}(h:∀v ∈ l,v.flat):∀v ∈ V.ro f t :: l,v.flat:=by
 intro v hv;rcases B5.1 hv with rfl|hv
 ·exact trivial
 ·exact h v hv
theorem ME (a b:Nat):((a:Int) == (b:Int))=decide (a=b):=by
 rw [P8,W0,E5];omega
theorem sO (s : ByteArray) (hs : s.size <= 1073741824) : Ok Tryz.prog 18 [gG s] true (.af (.bool (gH s))) := by
  have hl := nq (ax s 0);have hr := oc s 0 47 bp qT hs B3;by_cases h0 : s.size = 0
  · have e : s = (⟨#[]⟩ : ByteArray) := mH h0 fun i hi => absurd (h0 ▸ hi) (P6 _)
    subst e;refine aw bN mix Tryz.func18 rfl rfl B1 (zO rfl) ?_
    repeat' (first|(with_reducible first|(refine zz ?_;try intro K hK)|refine zi ?_|refine zh ?_)|((first|apply hK _ _ rfl|apply hK);clear hK K)|(guard_hyp hK;first|refine zx ?_|apply ab|apply aa|refine zW ?_|intro b0 hb)|((first|refine zj ?_|guard_hyp hK);refine zY ?_ ?_;all_goals(intro hb;(try simp only [sn,sb] at hb);try exact ao)))
    exact lC rfl rfl rfl
  · have hne : ¬ s.toList = (⟨#[]⟩ : ByteArray).toList := fun e => h0 (by rw [mF e]; rfl)
    have hp : 0 < s.size := I9 h0;refine aw bN mix Tryz.func18 rfl rfl B1 (zO rfl) ?_
    repeat' (first|(first | (exfalso; exact hne hb) | (refine fy (s := s) (i := 0) ?_ A8;intro hu))|(with_reducible first|(refine zz ?_;try intro K hK)|refine zi ?_|refine zh ?_)|((first|apply hK _ _ rfl|apply hK);clear hK K)|(guard_hyp hK;first|refine zx ?_|apply ab|apply aa|refine zW ?_|(refine zQ (hl) ?_)|(refine zQ (hr) ?_)|intro b0 hb)|((first|refine zj ?_|guard_hyp hK);refine zY ?_ ?_;all_goals(intro hb;(try simp only [sn,sb] at hb);try exact ao)))
    all_goals first
      | exact absurd ‹_› hne
      | (refine lC rfl rfl ?_
         unfold gH;have h64 : s.size <= 64 \/ ¬ s.size <= 64 := Decidable.em _;rw [F9 hp, L5]
         first
           | (rw [F9 (show s.size <= 64 by omega), L5]
              first
                | (rw [‹isLet (ax s 0) = true›, L5, ME])
                | (rw [show isLet (ax s 0) = false by simp_all]; rfl))
           | (rw [G4 (show ¬ s.size <= 64 by omega)]; rfl))
theorem sS (σ:WS)(l:List ByteArray)(hl:l.length < 4611686018427387904)(hf:Fits (bz G σ (aQ l))) :
  jP Tryz.prog 24 (kC G σ) [] [.ref 0 0 0 0,.ro false (.sl (iD l))] (kC G (bz G σ (aQ l))) (.ba []):=by
 have hl2:(iD l).length=l.length:=List.length_map _;refine fK bN mix 1 (zO rfl) Tryz.func24 rfl rfl B1 B1 (zO rfl) ?vs ?_
 case vs=>exact LX pQ
 repeat'(first|(with_reducible first|(refine zz ?_;try intro K hK)|refine zi ?_|refine zh ?_)|((first|apply hK _ _ rfl|apply hK);clear hK K)|(guard_hyp hK;first|refine zx ?_|apply ab|apply aa|refine zW ?_|intro b0 hb)|((first|refine zj ?_|guard_hyp hK);refine zY ?_ ?_;all_goals(intro hb;(try simp only [sn,sb] at hb);try exact ao)))
 refine aT Nat (fun k=>⟨Tryz.f24.ntmps,[(0,.ref 0 0 0 0),(1,.ro false (.sl (iD l))),(4,.af (.int .i64 k))],[(0,jG G (bz G σ (aQ (l.take k))))]⟩) (fun k=>k<=l.length) (fun k=>l.length - k) [] 0 trivial (C0 _) ⟨rfl,⟨rfl,rfl,rfl,trivial,rfl,trivial,trivial⟩,⟨rfl,trivial⟩,⟨bS _,trivial⟩⟩ ?_;intro k hk;by_cases hlt:k < l.length
 ·have hat:=tF hlt;have hfn:=xc hf (l.length - (k+1)) (k+1) rfl hlt;by_cases h0:0 < k
  ·have hnx:=uu (G:=G) hlt h0 σ;rw [hnx] at hfn;have p1:=aL _ _ hfn.w;have p2:=aL _ _ hfn;generalize bz G σ (aQ (l.take k))=τ at *
   repeat'(first|(guard_hyp hK;refine Sk _ (UO hat ?_))|(with_reducible first|(refine zz ?_;try intro K hK)|refine zi ?_|refine zh ?_)|((first|apply hK _ _ rfl|apply hK);clear hK K)|(guard_hyp hK;first|refine zx ?_|apply ab|apply aa|refine zW ?_|refine iC 0 (p1) ?_|refine iC 0 (p2) ?_|intro b0 hb)|((first|refine zj ?_|guard_hyp hK);refine zY ?_ ?_;all_goals(intro hb;(try simp only [sn,sb] at hb);try exact ao)))
   refine⟨k+1,hlt,by omega,rfl,⟨rfl,rfl,rfl,trivial,rfl,trivial,trivial⟩,⟨?_,trivial⟩,⟨bS _,trivial⟩⟩;rw [hnx];rfl
  ·obtain rfl:k=0:=by omega
   have hnx:=rC (G:=G) hlt σ;rw [hnx] at hfn;have p2:=aL _ _ hfn
   repeat'(first|(guard_hyp hK;refine Sk _ (UO hat ?_))|(with_reducible first|(refine zz ?_;try intro K hK)|refine zi ?_|refine zh ?_)|((first|apply hK _ _ rfl|apply hK);clear hK K)|(guard_hyp hK;first|refine zx ?_|apply ab|apply aa|refine zW ?_|refine iC 0 (p2) ?_|intro b0 hb)|((first|refine zj ?_|guard_hyp hK);refine zY ?_ ?_;all_goals(intro hb;(try simp only [sn,sb] at hb);try exact ao)))
   refine⟨0+1,hlt,by omega,rfl,⟨rfl,rfl,rfl,trivial,rfl,trivial,trivial⟩,⟨?_,trivial⟩,⟨bS _,trivial⟩⟩;rw [hnx];rfl
 ·obtain rfl:k=l.length:=by omega
  rw [J0]
  repeat'(first|(with_reducible first|(refine zz ?_;try intro K hK)|refine zi ?_|refine zh ?_)|((first|apply hK _ _ rfl|apply hK);clear hK K)|(guard_hyp hK;first|refine zx ?_|apply ab|apply aa|refine zW ?_|intro b0 hb)|((first|refine zj ?_|guard_hyp hK);refine zY ?_ ?_;all_goals(intro hb;(try simp only [sn,sb] at hb);try exact ao)))
  exact sa trivial rfl rfl B3 rfl
theorem pV (σ:WS)(l:List ByteArray)(hQ:∀s,s.size<=1048576->Ok Tryz.prog 48 [gG s] true (.af (.string (rQ s))))(hz:∀s ∈ l,s.size<=1048576)(hq:tU l=true)(hl:l.length < 4611686018427387904)(hf:Fits (bz G σ (aG l))) :
  jP Tryz.prog 21 (kC G σ) [] [.ref 0 0 0 0,.ro false (.sl (iD l))] (kC G (bz G σ (aG l))) (.ba []):=by
 have hl2:(iD l).length=l.length:=List.length_map _;refine fK bN mix 1 (zO rfl) Tryz.func21 rfl rfl B1 B1 (zO rfl) ?vs ?_
 case vs=>exact LX pQ
 repeat'(first|(with_reducible first|(refine zz ?_;try intro K hK)|refine zi ?_|refine zh ?_)|((first|apply hK _ _ rfl|apply hK);clear hK K)|(guard_hyp hK;first|refine zx ?_|apply ab|apply aa|refine zW ?_|intro b0 hb)|((first|refine zj ?_|guard_hyp hK);refine zY ?_ ?_;all_goals(intro hb;(try simp only [sn,sb] at hb);try exact ao)))
 refine aT Nat (fun k=>⟨Tryz.f21.ntmps,[(0,.ref 0 0 0 0),(1,.ro false (.sl (iD l))),(4,.af (.int .i64 k))],[(0,jG G (bz G σ (aG (l.take k))))]⟩) (fun k=>k<=l.length) (fun k=>l.length - k) [] 0 trivial (C0 _) ⟨rfl,⟨rfl,rfl,rfl,trivial,rfl,trivial,trivial⟩,⟨rfl,trivial⟩,⟨bS _,trivial⟩⟩ ?_;intro k hk;by_cases hlt:k < l.length
 ·have hat:=tF hlt;have hme:l.getD k default ∈ l:=by rw [List.getD,uz hlt];exact G9 hlt
  have hqo:=hQ _ (hz _ hme)
  have hnn:IM (l.getD k default)=false:=by
   have:=F8.1 hq _ hme;simpa using this
  have hqe:rQ (l.getD k default)=lX (l.getD k default):=by unfold rQ;rw [hnn];rfl
  rw [hqe] at hqo;have hfn:=Eb hf (k+1);have hnx:=Dq (G:=G) hlt σ;rw [hnx] at hfn;have p1:=aL _ _ hfn.w.w;have p2:=aL _ _ hfn.w;have p3:=aL _ _ hfn;generalize bz G σ (aG (l.take k))=τ at *
  repeat'(first|(guard_hyp hK;refine Sk _ (UO hat ?_))|(with_reducible first|(refine zz ?_;try intro K hK)|refine zi ?_|refine zh ?_)|((first|apply hK _ _ rfl|apply hK);clear hK K)|(guard_hyp hK;first|refine zx ?_|apply ab|apply aa|refine zW ?_|(refine zQ (hqo) ?_)|refine iC 0 (p1) ?_|refine iC 0 (p2) ?_|refine iC 0 (p3) ?_|intro b0 hb)|((first|refine zj ?_|guard_hyp hK);refine zY ?_ ?_;all_goals(intro hb;(try simp only [sn,sb] at hb);try exact ao)))
  refine⟨k+1,hlt,by omega,rfl,⟨rfl,rfl,rfl,trivial,rfl,trivial,trivial⟩,⟨?_,trivial⟩,⟨bS _,trivial⟩⟩;rw [hnx];rfl
 ·obtain rfl:k=l.length:=by omega
  rw [J0]
  repeat'(first|(with_reducible first|(refine zz ?_;try intro K hK)|refine zi ?_|refine zh ?_)|((first|apply hK _ _ rfl|apply hK);clear hK K)|(guard_hyp hK;first|refine zx ?_|apply ab|apply aa|refine zW ?_|intro b0 hb)|((first|refine zj ?_|guard_hyp hK);refine zY ?_ ?_;all_goals(intro hb;(try simp only [sn,sb] at hb);try exact ao)))
  exact sa trivial rfl rfl B3 rfl
theorem uw (l:List ByteArray)(hz:∀s ∈ l,s.size<=1073741824)(hl:l.length < 4611686018427387904):Ok Tryz.prog 22 [.sl (iD l)] true (.af (.bool (ux l))):=by
 have hl2:(iD l).length=l.length:=List.length_map _;refine aw bN mix Tryz.func22 rfl rfl B1 (zO rfl) ?_
 repeat'(first|(with_reducible first|(refine zz ?_;try intro K hK)|refine zi ?_|refine zh ?_)|((first|apply hK _ _ rfl|apply hK);clear hK K)|(guard_hyp hK;first|refine zx ?_|apply ab|apply aa|refine zW ?_|intro b0 hb)|((first|refine zj ?_|guard_hyp hK);refine zY ?_ ?_;all_goals(intro hb;(try simp only [sn,sb] at hb);try exact ao)))
 refine aT Nat (fun k=>⟨Tryz.f22.ntmps,[(0,.ro false (.sl (iD l))),(3,.af (.int .i64 k))],[]⟩) (fun k=>k<=l.length/\∀i,i < k->gH (l.getD i default)=true) (fun k=>l.length - k) [] 0 trivial ⟨C0 _,fun i hi=>absurd hi (P6 _)⟩ ⟨rfl,⟨rfl,trivial,rfl,trivial,trivial⟩,trivial,trivial⟩ ?_;rintro k ⟨hk,ha⟩;by_cases hlt:k < l.length
 ·have hat:=tF hlt;have hme:l.getD k default ∈ l:=by rw [List.getD,uz hlt];exact G9 hlt
  have hno:=sO _ (hz _ hme)
  cases hnb:gH (l.getD k default) with
  |true=>
   rw [hnb] at hno
   repeat'(first|(guard_hyp hK;refine Sk _ (UO hat ?_))|(with_reducible first|(refine zz ?_;try intro K hK)|refine zi ?_|refine zh ?_)|((first|apply hK _ _ rfl|apply hK);clear hK K)|(guard_hyp hK;first|refine zx ?_|apply ab|apply aa|refine zW ?_|(refine zQ (hno) ?_)|intro b0 hb)|((first|refine zj ?_|guard_hyp hK);refine zY ?_ ?_;all_goals(intro hb;(try simp only [sn,sb] at hb);try exact ao)))
   refine⟨k+1,⟨hlt,fun i hi=>?_⟩,by omega,rfl,⟨rfl,trivial,rfl,trivial,trivial⟩,trivial,trivial⟩;by_cases e:i=k
   ·rw [e];exact hnb
   ·exact ha i A8
  |false=>
   rw [hnb] at hno
   repeat'(first|(guard_hyp hK;refine Sk _ (UO hat ?_))|(with_reducible first|(refine zz ?_;try intro K hK)|refine zi ?_|refine zh ?_)|((first|apply hK _ _ rfl|apply hK);clear hK K)|(guard_hyp hK;first|refine zx ?_|apply ab|apply aa|refine zW ?_|(refine zQ (hno) ?_)|intro b0 hb)|((first|refine zj ?_|guard_hyp hK);refine zY ?_ ?_;all_goals(intro hb;(try simp only [sn,sb] at hb);try exact ao)))
   refine lC rfl rfl ?_;unfold ux
   have:l.all gH=false:=by
    rw [List.all_eq_false];exact⟨_,hme,by rw [hnb];exact B6⟩
   rw [this];rfl
 ·obtain rfl:k=l.length:=by omega
  repeat'(first|(with_reducible first|(refine zz ?_;try intro K hK)|refine zi ?_|refine zh ?_)|((first|apply hK _ _ rfl|apply hK);clear hK K)|(guard_hyp hK;first|refine zx ?_|apply ab|apply aa|refine zW ?_|intro b0 hb)|((first|refine zj ?_|guard_hyp hK);refine zY ?_ ?_;all_goals(intro hb;(try simp only [sn,sb] at hb);try exact ao)))
  refine lC rfl rfl ?_;unfold ux
  have:l.all gH=true:=F8.2 fun s hs=>by
   obtain⟨i,hi,rfl⟩:=L6.1 hs;have:=ha i hi
   rwa [List.getD,uz hi] at this
  rw [this,L5,hl2];exact V9.2 A8
theorem PK (s:ByteArray):((rQ s).toList == (⟨#[]⟩:ByteArray).toList)=IM s:=by
 unfold rQ
 cases h:IM s with
 |true=>rw [if_pos rfl];exact W0.2 rfl
 |false=>
  rw [if_neg B6];rw [beq_eq_false_iff_ne];intro e;have e2:=B4 ByteArray.size (mF e);have e3:(lX s).size=(bH (bs s)).length+2:=by unfold lX;rw [rI];simp
  rw [e3] at e2;cases e2
theorem qu (l:List ByteArray)(hQ:∀s,s.size<=1048576->Ok Tryz.prog 48 [gG s] true (.af (.string (rQ s))))(hz:∀s ∈ l,s.size<=1048576)(hl:l.length < 4611686018427387904):Ok Tryz.prog 19 [.sl (iD l)] true (.af (.bool (tU l))):=by
 have hl2:(iD l).length=l.length:=List.length_map _;refine aw bN mix Tryz.func19 rfl rfl B1 (zO rfl) ?_
 repeat'(first|(with_reducible first|(refine zz ?_;try intro K hK)|refine zi ?_|refine zh ?_)|((first|apply hK _ _ rfl|apply hK);clear hK K)|(guard_hyp hK;first|refine zx ?_|apply ab|apply aa|refine zW ?_|intro b0 hb)|((first|refine zj ?_|guard_hyp hK);refine zY ?_ ?_;all_goals(intro hb;(try simp only [sn,sb] at hb);try exact ao)))
 refine aT Nat (fun k=>⟨Tryz.f19.ntmps,[(0,.ro false (.sl (iD l))),(3,.af (.int .i64 k))],[]⟩) (fun k=>k<=l.length/\∀i,i < k->IM (l.getD i default)=false) (fun k=>l.length - k) [] 0 trivial ⟨C0 _,fun i hi=>absurd hi (P6 _)⟩ ⟨rfl,⟨rfl,trivial,rfl,trivial,trivial⟩,trivial,trivial⟩ ?_;rintro k ⟨hk,ha⟩;by_cases hlt:k < l.length
 ·have hat:=tF hlt;have hme:l.getD k default ∈ l:=by rw [List.getD,uz hlt];exact G9 hlt
  have hqo:=hQ _ (hz _ hme);have hes:=PK (l.getD k default)
  repeat'(first|(guard_hyp hK;refine Sk _ (UO hat ?_))|(with_reducible first|(refine zz ?_;try intro K hK)|refine zi ?_|refine zh ?_)|((first|apply hK _ _ rfl|apply hK);clear hK K)|(guard_hyp hK;first|refine zx ?_|apply ab|apply aa|refine zW ?_|(refine zQ (hqo) ?_)|intro b0 hb)|((first|refine zj ?_|guard_hyp hK);refine zY ?_ ?_;all_goals(intro hb;(try simp only [sn,sb] at hb);try exact ao)))
  ·refine lC rfl rfl ?_;have h9:IM (l.getD k default)=true:=by rw [<- hes,W0];exact hb
   unfold tU;refine(List.all_eq_false.2 ⟨_,hme,?_⟩).symm;rw [h9];exact B6
  ·refine⟨k+1,⟨hlt,fun i hi=>?_⟩,by omega,rfl,⟨rfl,trivial,rfl,trivial,trivial⟩,trivial,trivial⟩;by_cases e:i=k
   ·rw [e,<- hes,beq_eq_false_iff_ne];exact hb
   ·exact ha i A8
 ·obtain rfl:k=l.length:=by omega
  repeat'(first|(with_reducible first|(refine zz ?_;try intro K hK)|refine zi ?_|refine zh ?_)|((first|apply hK _ _ rfl|apply hK);clear hK K)|(guard_hyp hK;first|refine zx ?_|apply ab|apply aa|refine zW ?_|intro b0 hb)|((first|refine zj ?_|guard_hyp hK);refine zY ?_ ?_;all_goals(intro hb;(try simp only [sn,sb] at hb);try exact ao)))
  refine lC rfl rfl ?_;unfold tU;refine(F8.2 fun s hs=>?_).symm;obtain⟨i,hi,rfl⟩:=L6.1 hs;have:=ha i hi;rw [List.getD,uz hi,T4] at this;rw [this];rfl
end Go.Ev
