import Derived.Test.YthpoegdjffdojaaGreatDoorULas
import Derived.Test.YthpoegdjffdojaaGreatDoorULax
set_option linter.all false
set_option maxHeartbeats 4000000
set_option maxRecDepth 10000
namespace Go.Ev
open Go.Proofs
theorem Tj {y x:List UInt32}{k:Nat}(hy:y.length=k)(hk:k < x.length):((y ++ x.drop k).map cu)[0+k]?=some (cu (x.getD k default)):=by
 rw [C2,Zf,IX A8,hy,H6,G0,H8,uz hk];simp [List.getD,hk]
theorem JY {y x:List UInt32}{k:Nat}{c:UInt32}(hy:y.length=k)(hk:k < x.length):((y ++ x.drop k).map cu).set (0+k) (cu c)=((y ++ [c]) ++ x.drop (k+1)).map cu:=by
 have hdr:x.drop k=x[k] :: x.drop (k+1):=F7 hk;have e:(x.drop k).map cu=cu x[k] :: (x.drop (k+1)).map cu:=by rw [hdr];rfl
 rw [C2,G7,e,N3 (h:=by rw [List.length_map];omega),List.length_map,hy,H6,U8,G7,G7,List.append_assoc];rfl
theorem Ur {a:Int}{n:Nat}{Q:Int->Prop}(h:a=n)(k:Q ((n / 4294967296:Nat):Int)):∃r,r=a.fdiv (2 ^ (min (32:Int).toNat IntKind.u64.bits))/\Q r:=by
 subst h;exact Ut k
def Xr (N:Nat)(s:ByteArray)(z:Nat×List UInt32×Nat):St:=⟨N,[(0,.af (.string s)),(4,.own 0 z.2.2 0 z.2.1.length),(13,.af (.int .i64 s.size)),(14,.af (.int .i64 z.1))],[(0,⟨1,z.2.1.map cu,z.2.2,true⟩)]⟩
def Ul (N:Nat)(s:ByteArray)(i v:Nat)(x:List UInt32)(z:Nat×Nat×List UInt32):St:=⟨N,[(0,.af (.string s)),(4,.own 0 v 0 x.length),(13,.af (.int .i64 s.size)),(14,.af (.int .i64 i)),(7,.af (.int .u64 z.2.1)),(29,.own 0 v 0 x.length),(30,.af (.int .i64 x.length)),(31,.af (.int .i64 z.1))],[(0,⟨1,(z.2.2 ++ x.drop z.1).map cu,v,true⟩)]⟩
theorem nn (s:ByteArray)(hs:s.size<=1073741824):Ok Tryz.prog 73 [gG s] true (tP (cg s)):=by
 refine aw bN mix Tryz.func73 rfl rfl B1 (zO rfl) ?_;by_cases h0:s.size=0
 ·have hn:cg s=none:=if_neg fun h=>h.1 h0
  rw [hn];have he:s=.empty:=P1 (by have:s.data.size=0:=h0;exact O7 this);subst he
  repeat'(first|(with_reducible first|(refine zz ?_;try intro K hK)|refine zi ?_|refine zh ?_)|((first|apply hK _ _ rfl|apply hK);clear hK K)|(guard_hyp hK;first|refine zx ?_|apply ab|apply aa|(refine aY ?_;intro hu)|refine zP wA ?_|(refine aD ?_;intro hm1 hm2)|refine zP aZ ?_|refine zP rfl ?_|intro b0 hb)|((first|refine zj ?_|guard_hyp hK);refine zY ?_ ?_;all_goals(intro hb;(try simp only [sn,sb] at hb);try exact ao)))
  all_goals exact⟨trivial,_,_,rfl,jK rfl,ay rfl⟩
 ·repeat'(first|(with_reducible first|(refine zz ?_;try intro K hK)|refine zi ?_|refine zh ?_)|((first|apply hK _ _ rfl|apply hK);clear hK K)|(guard_hyp hK;first|refine zx ?_|apply ab|apply aa|(refine aY ?_;intro hu)|refine zP wA ?_|(refine aD ?_;intro hm1 hm2)|refine zP aZ ?_|refine zP rfl ?_|intro b0 hb)|((first|refine zj ?_|guard_hyp hK);refine zY ?_ ?_;all_goals(intro hb;(try simp only [sn,sb] at hb);try exact ao)))
  ·exact absurd (B4 ByteArray.size (mF hb)) h0
  refine aT (Nat×List UInt32×Nat) (Xr Tryz.f73.ntmps s) (fun z=>z.1<=s.size/\val z.2.1=eg ((bs s).take z.1)/\z.2.1.length<=z.1/\∀j,j < z.1->ak (ax s j)=true) (fun z=>s.size - z.1) [(4,0,1)] (0,[],0) ⟨rfl,rfl,trivial⟩ ⟨C0 _,rfl,wU _,fun j hj=>absurd hj (P6 _)⟩ ⟨rfl,⟨rfl,trivial,rfl,rfl,rfl,trivial,rfl,trivial,trivial⟩,⟨rfl,trivial⟩,⟨uU _ _,trivial⟩⟩ ?_;rintro⟨i,x,v⟩ ⟨h1,h2,h3,h4⟩;dsimp only at h1 h2 h3 h4;unfold Xr;dsimp only;by_cases hlt:i < s.size
  ·cases hd:ak (ax s i) with
   |false=>
    rw [OX hlt hd];unfold ak at hd;simp only [S9,K6] at hd
    repeat'(first|(refine fy ?_;intro hu)|(with_reducible first|(refine zz ?_;try intro K hK)|refine zi ?_|refine zh ?_)|((first|apply hK _ _ rfl|apply hK);clear hK K)|(guard_hyp hK;first|refine zx ?_|apply ab|apply aa|(refine aY ?_;intro hu)|refine zP wA ?_|(refine aD ?_;intro hm1 hm2)|refine zP aZ ?_|refine zP rfl ?_|intro b0 hb)|((first|refine zj ?_|guard_hyp hK);refine zY ?_ ?_;all_goals(intro hb;(try simp only [sn,sb] at hb);try exact ao)))
    all_goals first|exact⟨trivial,_,_,rfl,jK rfl,ay rfl⟩|(exfalso;omega)
   |true=>
    have hd2:=hd;unfold ak at hd;simp only [C7,E5] at hd;have hv:=Ir hlt
    repeat'(first|(refine fy ?_;intro hu)|(with_reducible first|(refine zz ?_;try intro K hK)|refine zi ?_|refine zh ?_)|((first|apply hK _ _ rfl|apply hK);clear hK K)|(guard_hyp hK;first|refine zx ?_|apply ab|apply aa|(refine aY ?_;intro hu)|refine zP wA ?_|(refine aD ?_;intro hm1 hm2)|refine zP aZ ?_|refine zP rfl ?_|intro b0 hb)|((first|refine zj ?_|guard_hyp hK);refine zY ?_ ?_;all_goals(intro hb;(try simp only [sn,sb] at hb);try exact ao)))
    refine aT (Nat×Nat×List UInt32) (Ul Tryz.f73.ntmps s i v x) (fun z=>z.1<=x.length/\z.2.1 < 4294967296/\z.2.2.length=z.1/\z.2.2 ++ m10 (x.drop z.1) z.2.1=m10 x ((ax s i).toNat - 48)) (fun z=>x.length - z.1) [] (0,(ax s i).toNat - 48,[]) trivial ⟨C0 _,by dsimp only;omega,rfl,rfl⟩ ⟨rfl,⟨rfl,trivial,rfl,rfl,rfl,trivial,rfl,trivial,?_,trivial,rfl,rfl,rfl,trivial,rfl,trivial,trivial⟩,⟨rfl,trivial⟩,⟨uU _ _,trivial⟩⟩ ?_
    ·show V.af (.int .u64 (((ax s i).toNat:Int) - 48))=V.af (.int .u64 (((ax s i).toNat - 48:Nat):Int));rw [show(((ax s i).toNat - 48:Nat):Int)=((ax s i).toNat:Int) - 48 by omega]
    rintro⟨k,c,y⟩ ⟨g1,g2,g3,g4⟩;dsimp only at g1 g2 g3 g4;unfold Ul;dsimp only;by_cases hk:k < x.length
    ·have hdr:x.drop k=x.getD k default :: x.drop (k+1):=by
      rw [F7 hk];simp [List.getD,hk]
     have hxk:=E6 (x.getD k default);have hat:=Tj g3 hk;rw [hdr,m10] at g4;have hS:((c:Int)+10 * ((x.getD k default).toNat:Int))=((c+10 * (x.getD k default).toNat:Nat):Int):=by omega
     have hw:V.af (.int .u32 (IntKind.u32.wrap ((c:Int)+10 * ((x.getD k default).toNat:Int))))=cu (UInt32.ofNat ((c+10 * (x.getD k default).toNat) % 4294967296)):=by
      unfold cu;rw [E9,E2 (J9 _ B3),hS,wrap32 (L8 _),E9];rfl
     repeat'(first|(first|refine Sk _ (UO hat ?_)|refine Ur hS ?_)|(with_reducible first|(refine zz ?_;try intro K hK)|refine zi ?_|refine zh ?_)|((first|apply hK _ _ rfl|apply hK);clear hK K)|(guard_hyp hK;first|refine zx ?_|apply ab|apply aa|(refine aY ?_;intro hu)|refine zP wA ?_|(refine aD ?_;intro hm1 hm2)|refine zP aZ ?_|refine zP rfl ?_|intro b0 hb)|((first|refine zj ?_|guard_hyp hK);refine zY ?_ ?_;all_goals(intro hb;(try simp only [sn,sb] at hb);try exact ao)))
     refine⟨(k+1,(c+10 * (x.getD k default).toNat) / 4294967296,y ++ [UInt32.ofNat ((c+10 * (x.getD k default).toNat) % 4294967296)]),⟨hk,by dsimp only;omega,by dsimp only;rw [List.length_append,List.length_singleton,g3],by dsimp only;rw [List.append_assoc];exact g4⟩,by dsimp only;omega,rfl,⟨rfl,trivial,rfl,rfl,rfl,trivial,rfl,trivial,rfl,trivial,rfl,rfl,rfl,trivial,rfl,trivial,trivial⟩,⟨?_,trivial⟩,⟨uU _ _,trivial⟩⟩;show some (⟨1,((y ++ x.drop k).map cu).set (0+k) (V.af (.int .u32 (IntKind.u32.wrap ((c:Int)+10 * ((x.getD k default).toNat:Int))))),v,true⟩:Obj)=_;rw [hw,JY g3 hk]
    ·obtain rfl:k=x.length:=by omega
     rw [O6] at g4 |-;rw [J8];have hL:=FL x ((ax s i).toNat - 48);have hV:=EN x ((ax s i).toNat - 48) A8
     have hw:V.af (.int .u32 (c:Int))=cu (UInt32.ofNat c):=by
      unfold cu;rw [E9,E2 g2]
     have hD:∀j,j < i+1->ak (ax s j)=true:=fun j hj=>by
      by_cases e:j=i
      ·rw [e];exact hd2
      ·exact h4 j A8
     repeat'(first|(with_reducible first|(refine zz ?_;try intro K hK)|refine zi ?_|refine zh ?_)|((first|apply hK _ _ rfl|apply hK);clear hK K)|(guard_hyp hK;first|refine zx ?_|apply ab|apply aa|(refine aY ?_;intro hu)|refine zP wA ?_|(refine aD ?_;intro hm1 hm2)|refine zP aZ ?_|refine zP rfl ?_|intro b0 hb)|((first|refine zj ?_|guard_hyp hK);refine zY ?_ ?_;all_goals(intro hb;(try simp only [sn,sb] at hb);try exact ao)))
     ·have hm:y ++ [UInt32.ofNat c]=m10 x ((ax s i).toNat - 48):=by
       rw [<- g4];unfold m10;rw [if_neg A8]
      refine⟨(i+1,m10 x ((ax s i).toNat - 48),v+1),⟨hlt,by dsimp only;rw [hV,hv,h2];omega,by dsimp only;omega,hD⟩,by dsimp only;omega,rfl,⟨rfl,trivial,?_,rfl,rfl,trivial,rfl,trivial,trivial⟩,⟨?_,trivial⟩,⟨uU _ _,trivial⟩⟩
      ·show V.own 0 (v+1) 0 (x.length+1)=_;dsimp only;rw [<- hm,List.length_append,g3];rfl
      ·show some (⟨1,(y.map cu).take x.length ++ [V.af (.int .u32 (c:Int))],v+1,true⟩:Obj)=_;rw [hw,tq (F:=cu) g3.symm,hm]
     ·have hm:y=m10 x ((ax s i).toNat - 48):=by
       rw [<- g4];unfold m10;rw [if_pos A8,J8]
      refine⟨(i+1,m10 x ((ax s i).toNat - 48),v),⟨hlt,by dsimp only;rw [hV,hv,h2];omega,by dsimp only;omega,hD⟩,by dsimp only;omega,rfl,⟨rfl,trivial,?_,rfl,rfl,trivial,rfl,trivial,trivial⟩,⟨?_,trivial⟩,⟨uU _ _,trivial⟩⟩
      ·dsimp only;rw [<- hm,g3];rfl
      ·dsimp only;rw [<- hm];rfl
  ·obtain rfl:i=s.size:=by omega
   rw [B7 (R5 (aU s))] at h2;rw [pj h0 h4,<- h2]
   repeat'(first|(with_reducible first|(refine zz ?_;try intro K hK)|refine zi ?_|refine zh ?_)|((first|apply hK _ _ rfl|apply hK);clear hK K)|(guard_hyp hK;first|refine zx ?_|apply ab|apply aa|(refine aY ?_;intro hu)|refine zP wA ?_|(refine aD ?_;intro hm1 hm2)|refine zP aZ ?_|refine zP rfl ?_|(refine' Or.inl (Sk _ (Sk _ (Sk _ (UO (iu x A8) (Sk [(0,_)] (UO (uC ?lh) (UO ?lz (UO rfl ?_))))))));(case lh=>exact rfl);(case lz=>exact DZ (yW (l:=x) (ver:=v) (B4 some rfl:some _=some _) rfl)))|intro b0 hb)|((first|refine zj ?_|guard_hyp hK);refine zY ?_ ?_;all_goals(intro hb;(try simp only [sn,sb] at hb);try exact ao)))
   rw [bL];exact⟨trivial,_,_,rfl,kr rfl (fun h=>h),ay rfl⟩
variable {W : fA}
theorem Cb {σ:PS W}{t:Tok}(ht:σ.tok=some t)(h:t.kind≠2\/cg t.text=none):PS.count cg σ=(0,σ.bZ 30):=by
 unfold PS.count;rw [ht]
 cases hn:cg t.text with
 |none=>simp only [hn]
 |some n=>
  simp only [hn];refine if_neg fun hk=>?_
  rw [hn] at h;exact h.elim (fun h=>h hk) (fun h=>by cases h)
theorem HD (σ:PS W)(hF:Fit W):jP Tryz.prog 56 (pO σ) [] [.ref 0 0 0 0] (pO (PS.count cg σ).2) (.ro false (tn (lm (PS.count cg σ).1))):=by
 have hlk:=kP σ;have hfl:=iV σ.settle 30 B3;rw [dO] at hfl;have hL:=hF.len
 cases ht:σ.tok with
 |none=>
  rw [kD ht] at hfl;rw [ht] at hlk;rw [show PS.count cg σ=(0,σ.settle) from by unfold PS.count;rw [ht]];have hp:=nn eS (C0 _);rw [show cg eS=none from rfl] at hp;unfold pO at hlk hfl |-;refine bd bN mix 1 (zO rfl) Tryz.func56 rfl rfl B1 B1 (zO rfl) ?vs ?_
  case vs=>exact pQ
  repeat'(first|(with_reducible first|(refine zz ?_;try intro K hK)|refine zi ?_|refine zh ?_)|((first|apply hK _ _ rfl|apply hK);clear hK K)|(guard_hyp hK;first|refine zx ?_|apply ab|apply aa|refine zW ?_|(refine zQ (hp) ?_)|refine zp 0 (hlk) ?_|refine zp 0 (hfl) ?_|intro b0 hb)|((first|refine zj ?_|guard_hyp hK);refine zY ?_ ?_;all_goals(intro hb;(try simp only [sn,sb] at hb);try exact ao)))
  all_goals exact iK (r:=tn (lm 0)) rfl B3 rfl (Gc VP iT.emp) B3 rfl
 |some t=>
  have hlt:=(PS.aX ht).2.2;have hp:=nn t.text (hF.tok ht);rw [ht,PS.az ht] at hlk;rw [PS.az ht] at hfl
  cases hn:cg t.text with
  |none=>
   rw [Cb ht (.inr hn)];rw [hn] at hp;unfold pO at hlk hfl |-;refine bd bN mix 1 (zO rfl) Tryz.func56 rfl rfl B1 B1 (zO rfl) ?vs ?_
   case vs=>exact pQ
   repeat'(first|(with_reducible first|(refine zz ?_;try intro K hK)|refine zi ?_|refine zh ?_)|((first|apply hK _ _ rfl|apply hK);clear hK K)|(guard_hyp hK;first|refine zx ?_|apply ab|apply aa|refine zW ?_|(refine zQ (hp) ?_)|refine zp 0 (hlk) ?_|refine zp 0 (hfl) ?_|intro b0 hb)|((first|refine zj ?_|guard_hyp hK);refine zY ?_ ?_;all_goals(intro hb;(try simp only [sn,sb] at hb);try exact ao)))
   all_goals exact iK (r:=tn (lm 0)) rfl B3 rfl (Gc VP iT.emp) B3 rfl
  |some n=>
   rw [hn] at hp;by_cases hk:t.kind=2
   ·rw [show PS.count cg σ=(n,σ.aK) from by unfold PS.count;rw [ht];simp only [hn];exact if_pos hk,eL ht (by rw [hk];decide)];rw [bF ht] at hlk |-;refine bd bN mix 1 (zO rfl) Tryz.func56 rfl rfl B1 B1 (zO rfl) ?vs ?_
    case vs=>exact pQ
    repeat'(first|(with_reducible first|(refine zz ?_;try intro K hK)|refine zi ?_|refine zh ?_)|((first|apply hK _ _ rfl|apply hK);clear hK K)|(guard_hyp hK;first|refine zx ?_|apply ab|apply aa|refine zW ?_|(refine zQ (hp) ?_)|refine zp 0 (hlk) ?_|intro b0 hb)|((first|refine zj ?_|guard_hyp hK);refine zY ?_ ?_;all_goals(intro hb;(try simp only [sn,sb] at hb);try exact ao)))
    all_goals exact iK (r:=tn (lm n)) rfl B3 rfl (iT.ro _ _ fun h=>Bool.noConfusion h) B3 rfl
   ·rw [Cb ht (.inl hk)];unfold pO at hlk hfl |-;refine bd bN mix 1 (zO rfl) Tryz.func56 rfl rfl B1 B1 (zO rfl) ?vs ?_
    case vs=>exact pQ
    repeat'(first|(with_reducible first|(refine zz ?_;try intro K hK)|refine zi ?_|refine zh ?_)|((first|apply hK _ _ rfl|apply hK);clear hK K)|(guard_hyp hK;first|refine zx ?_|apply ab|apply aa|refine zW ?_|(refine zQ (hp) ?_)|refine zp 0 (hlk) ?_|refine zp 0 (hfl) ?_|intro b0 hb)|((first|refine zj ?_|guard_hyp hK);refine zY ?_ ?_;all_goals(intro hb;(try simp only [sn,sb] at hb);try exact ao)))
    all_goals exact iK (r:=tn (lm 0)) rfl B3 rfl (Gc VP iT.emp) B3 rfl
theorem Fu {P:Program}{fn:Func}{s:St}{vs:List V}{a a':Nat}{b b':Option dy}{n n' np t ty id ver sz:Nat}{l:List V}{fs:List (Nat×Nat)}{z:List Value}(hr:fn.results.toList=[.cell t ty])(ht:tk P ty=.st fs z)(hz:z.length=l.length)(h0:0 < l.length)
  (ha:aA s.env t=.ref id ver 0 0) (ho:ae s.oh id=some ⟨sz,[.agg l],ver,true⟩) (hd:∀v ∈ l,v.kx) (hs:ae s.oh 0=some (dE W a' b' n')) (hnp:0 < np) (he:aA s.env 0=.ref 0 0 0 0) :
  iR P fn np (dz W a b n) (.ref 0 0 0 0 :: vs) (dz W a' b' n') (.agg l) .ret s:=by
 refine⟨trivial,false,s,rfl,ot hs hnp he,ua hs,?_⟩;rw [hr];exact AY ht hz h0 ha ho (sK hd)
structure TQ (W:fA):Prop where
 var:dK W (1,PS.eQ)
 WD:dK W (1,PS.cd)
 Yi:dK W (1,PS.fe)
 type:dK W (1,PS.eT)
 WV:dK W (1,PS.fa)
 lc:dK W (4,PS.dM)
 rc:dK W (4,PS.dc)
 lk:dK W (4,PS.yQ)
 rk:dK W (4,PS.vA)
 Ka:dK W (4,PS.aV)
 open_:dK W (4,PS.aE)
 shut:dK W (4,PS.aF)
theorem kn : ∀p ∈ ([]:List (Int×ByteArray)),dK W p:=fun p h=>by cases h
theorem kc {p:Int×ByteArray}{l:List (Int×ByteArray)}(h:dK W p)(hl:∀p ∈ l,dK W p):∀q ∈ p :: l,dK W q:=by
 intro q hq;rcases B5.1 hq with rfl|hq
 ·exact h
 ·exact hl q hq
def Hf (N sz:Nat)(z:List V)(σ:PS W)(l:List V):St:=⟨N,[(0,.ref 0 0 0 0),(2,.ref 1 0 0 0),(3,.ref 2 0 0 0)],[(0,dE W σ.at_ σ.bad σ.bu),(1,⟨sz,[.agg z],0,true⟩),(2,⟨sz,[.agg l],0,true⟩)]⟩
def V.QK : V->Bool
 |.af _ | .ro .. | .emp=>true
 |_=>false
theorem re {l:List V}(h:l.all V.QK=true)(oh:OH):∀v ∈ [V.agg l],v.cl oh:=by
 intro v hv;obtain rfl:=HQ.1 hv;refine V.flat.cl (v:=.agg l) oh fun v hv=>?_
 have:=F8.1 h v hv;cases v<;>first|trivial|exact absurd this B6
theorem OD (σ0:PS W)(hF:Fit W)(hk:TQ W)(ha:σ0.at_<=W.L.length)(hB:σ0.du 1 PS.eQ=true):jP Tryz.prog 31 (pO σ0) [] [.ref 0 0 0 0] (pO (PS.nR cg σ0.aK).2) (sZ (PS.Am cg σ0.aK).1):=by
 have hL:=hF.len;have k0:=cY [(1,PS.eQ)] σ0 hL B3 B3 (kc hk.var kn);have e0:PS.eO [(1,PS.eQ)] σ0=σ0.aK:=if_pos hB;rw [e0] at k0;have ha1:=(PS.bq hB B3).hi ha;generalize σ0.aK=σ at *;have ha2:=(PS.Aq cg σ).hi ha1;have k1:=mc σ hL;generalize h1:PS.take 1 σ=r1 at k1;have k2:=cY [(4,PS.dM),(1,PS.eT),(1,PS.fa),(4,PS.yQ)] r1.2 hL B3 B3 (kc hk.lc (kc hk.type (kc hk.WV (kc hk.lk kn))));have e5:PS.vC σ=PS.eO [(4,PS.dM),(1,PS.eT),(1,PS.fa),(4,PS.yQ)] r1.2:=by unfold PS.vC;rw [h1];rfl
 rw [<- e5] at k2;generalize h5:PS.vC σ=s5 at k2;have k6:=HD s5 hF;generalize h6:PS.count cg s5=r6 at k6;have k7:=cY [(4,PS.vA),(4,PS.dM)] r6.2 hL B3 B3 (kc hk.rk (kc hk.lc kn));have e8:PS.xy cg σ=PS.eO [(4,PS.vA),(4,PS.dM)] r6.2:=by unfold PS.xy;rw [h5,h6];rfl
 rw [<- e8] at k7;generalize h8:PS.xy cg σ=s8 at *;have k9:=qI s8 hL ha2;generalize h9:PS.gT s8=r9 at k9;have k10:=cY [(4,PS.dc),(4,PS.aV)] r9.2 hL B3 B3 (kc hk.rc (kc hk.Ka kn));have e11:PS.Ap cg σ=PS.eO [(4,PS.dc),(4,PS.aV)] r9.2:=by unfold PS.Ap;rw [h8,<- PS.qM,h9];rfl
 rw [<- e11] at k10;generalize h11:PS.Ap cg σ=s11 at k10;have k12:=qH s11 hL hk.Ka;generalize h12:PS.props s11=r12 at k12;have k13:=cY [(4,PS.dc)] r12.2 hL B3 B3 (kc hk.rc kn);generalize h13:PS.eO [(4,PS.dc)] r12.2=s13 at k13
 have e13:PS.Am cg σ=(⟨r1.1,r6.1,r9.1,r12.1⟩,s13):=by
  unfold PS.Am PS.nR;rw [h5,h8,h11,h1,h6,h9,h12,<- h13];rfl
 have e14:(PS.nR cg σ).2=s13:=by
  show(PS.Am cg σ).2=s13;rw [e13]
 rw [e13,e14];clear e13 e14 h13 h12 h11 h9 h8 h6 h5 h1 e11 e8 e5 e0 ha2;unfold pO at *;refine bd bN mix 1 (zO rfl) Tryz.func31 rfl rfl B1 B1 (zO rfl) ?vs ?_
 case vs=>exact pQ
 repeat'(first|(refine dU (a:=Code.region 4 _ _) Unit (fun _=>Hf Tryz.f31.ntmps 4 [V.af (.string eS),V.emp,V.emp,V.emp] s5 [V.af (.string r1.1),V.emp,V.emp,V.emp]) (fun _=>True) ?_ ?_)|(with_reducible first|(refine zz ?_;try intro K hK)|refine zi ?_|refine zh ?_)|((first|apply hK _ _ rfl|apply hK);clear hK K)|(guard_hyp hK;first|refine zx ?_|apply ab|apply aa|refine zW ?_|(refine' Or.inr (Or.inr (Or.inl (bY ([(1,PS.eQ)]) _ _ (k0) ?hga ?hgb ?hgc ?hgd ?_)));(case hga=>rfl);(case hgb=>rfl);(case hgc=>rfl);(case hgd=>exact K5 (zO rfl)))|refine zp 0 (k1) ?_|intro b0 hb)|((first|refine zj ?_|guard_hyp hK);refine zY ?_ ?_;all_goals(intro hb;(try simp only [sn,sb] at hb);try exact ao)))
 rotate_left
 ·intro R hR
  repeat'(first|(with_reducible first|(refine zz ?_;try intro K hK)|refine zi ?_|refine zh ?_)|((first|apply hK _ _ rfl|apply hK);clear hK K)|(guard_hyp hK;first|refine zx ?_|apply ab|apply aa|refine zW ?_|(refine' Or.inr (Or.inr (Or.inl (bY ([(4,PS.dM),(1,PS.eT),(1,PS.fa),(4,PS.yQ)]) _ _ (k2) ?hga ?hgb ?hgc ?hgd ?_)));(case hga=>rfl);(case hgb=>rfl);(case hgc=>rfl);(case hgd=>exact K5 (zO rfl)))|intro b0 hb)|((first|refine zj ?_|guard_hyp hK);refine zY ?_ ?_;all_goals(intro hb;(try simp only [sn,sb] at hb);try exact ao)))
  exact hR _ () trivial ⟨rfl,⟨rfl,rfl,rfl,rfl,rfl,rfl,trivial⟩,⟨rfl,rfl,rfl,trivial⟩,⟨fZ _,re rfl _,re rfl _,trivial⟩⟩
 rintro - -;unfold Hf
 repeat'(first|(refine dU (a:=Code.region 6 _ _) Unit (fun _=>Hf Tryz.f31.ntmps 4 [V.af (.string eS),V.emp,V.emp,V.emp] s8 [V.af (.string r1.1),V.ro false (tn (lm r6.1)),V.emp,V.emp]) (fun _=>True) ?_ ?_)|(with_reducible first|(refine zz ?_;try intro K hK)|refine zi ?_|refine zh ?_)|((first|apply hK _ _ rfl|apply hK);clear hK K)|(guard_hyp hK;first|refine zx ?_|apply ab|apply aa|refine zW ?_|refine zp 0 (k6) ?_|intro b0 hb)|((first|refine zj ?_|guard_hyp hK);refine zY ?_ ?_;all_goals(intro hb;(try simp only [sn,sb] at hb);try exact ao)))
 rotate_left
 ·intro R hR
  repeat'(first|(with_reducible first|(refine zz ?_;try intro K hK)|refine zi ?_|refine zh ?_)|((first|apply hK _ _ rfl|apply hK);clear hK K)|(guard_hyp hK;first|refine zx ?_|apply ab|apply aa|refine zW ?_|(refine' Or.inr (Or.inr (Or.inl (bY ([(4,PS.vA),(4,PS.dM)]) _ _ (k7) ?hga ?hgb ?hgc ?hgd ?_)));(case hga=>rfl);(case hgb=>rfl);(case hgc=>rfl);(case hgd=>exact K5 (zO rfl)))|intro b0 hb)|((first|refine zj ?_|guard_hyp hK);refine zY ?_ ?_;all_goals(intro hb;(try simp only [sn,sb] at hb);try exact ao)))
  exact hR _ () trivial ⟨rfl,⟨rfl,rfl,rfl,rfl,rfl,rfl,trivial⟩,⟨rfl,rfl,rfl,trivial⟩,⟨fZ _,re rfl _,re rfl _,trivial⟩⟩
 rintro - -;unfold Hf
 repeat'(first|(refine dU (a:=Code.region 8 _ _) Unit (fun _=>Hf Tryz.f31.ntmps 4 [V.af (.string eS),V.emp,V.emp,V.emp] s11 [V.af (.string r1.1),V.ro false (tn (lm r6.1)),V.ro false (jO r9.1),V.emp]) (fun _=>True) ?_ ?_)|(with_reducible first|(refine zz ?_;try intro K hK)|refine zi ?_|refine zh ?_)|((first|apply hK _ _ rfl|apply hK);clear hK K)|(guard_hyp hK;first|refine zx ?_|apply ab|apply aa|refine zW ?_|refine zp 0 (k9) ?_|intro b0 hb)|((first|refine zj ?_|guard_hyp hK);refine zY ?_ ?_;all_goals(intro hb;(try simp only [sn,sb] at hb);try exact ao)))
 rotate_left
 ·intro R hR
  repeat'(first|(with_reducible first|(refine zz ?_;try intro K hK)|refine zi ?_|refine zh ?_)|((first|apply hK _ _ rfl|apply hK);clear hK K)|(guard_hyp hK;first|refine zx ?_|apply ab|apply aa|refine zW ?_|(refine' Or.inr (Or.inr (Or.inl (bY ([(4,PS.dc),(4,PS.aV)]) _ _ (k10) ?hga ?hgb ?hgc ?hgd ?_)));(case hga=>rfl);(case hgb=>rfl);(case hgc=>rfl);(case hgd=>exact K5 (zO rfl)))|intro b0 hb)|((first|refine zj ?_|guard_hyp hK);refine zY ?_ ?_;all_goals(intro hb;(try simp only [sn,sb] at hb);try exact ao)))
  exact hR _ () trivial ⟨rfl,⟨rfl,rfl,rfl,rfl,rfl,rfl,trivial⟩,⟨rfl,rfl,rfl,trivial⟩,⟨fZ _,re rfl _,re rfl _,trivial⟩⟩
 rintro - -;unfold Hf
 repeat'(first|(with_reducible first|(refine zz ?_;try intro K hK)|refine zi ?_|refine zh ?_)|((first|apply hK _ _ rfl|apply hK);clear hK K)|(guard_hyp hK;first|refine zx ?_|apply ab|apply aa|refine zW ?_|refine zp 0 (k12) ?_|(refine' Or.inr (Or.inr (Or.inl (bY ([(4,PS.dc)]) _ _ (k13) ?hga ?hgb ?hgc ?hgd ?_)));(case hga=>rfl);(case hgb=>rfl);(case hgc=>rfl);(case hgd=>exact K5 (zO rfl)))|intro b0 hb)|((first|refine zj ?_|guard_hyp hK);refine zY ?_ ?_;all_goals(intro hb;(try simp only [sn,sb] at hb);try exact ao)))
 exact Fu (l:=[.af (.string r1.1),.ro false (tn (lm r6.1)),.ro false (jO r9.1),.ro false (jO r12.1)]) rfl Wd rfl (D0 _) rfl rfl (dR (cr (cr (cr gq)))) rfl B3 rfl
end Go.Ev
namespace Go.Ev
open Go.Proofs
variable {W : fA}
open PS (cE)
def PS.VM (dec:ByteArray->Int×Nat)(k:Nat)(l:List (List cE))(τ:PS W):List (List cE)×PS W:=if τ.du 4 PS.bo=true then PS.rO dec k l τ.aK else(l,τ.settle)
theorem Fl (dec:ByteArray->Int×Nat)(k:Nat)(l:List (List cE))(σ:PS W):PS.rO dec (k+1) l σ=PS.VM dec k (l ++ [(PS.lB dec σ).1]) (PS.lB dec σ).2:=rfl
def XZ (dec:ByteArray->Int×Nat)(R:List (List cE)×PS W)(z:PS W×List (List cE)×Nat):Prop:=z.1.bu=0/\z.2.1.length<=z.1.at_+1/\z.1.at_<=W.L.length/\∃k,PS.VM dec k z.2.1 z.1=R/\W.L.length<=k+z.1.at_
def Uf (N f:Nat)(z:PS W×List (List cE)×Nat):St:=⟨N,[(0,.ref 0 0 0 0),(1,.wr (.Tf f) 0 0 0 0),(5,.own 4 z.2.2 0 z.2.1.length)],[(0,dE W z.1.at_ z.1.bad z.1.bu),(4,⟨1,z.2.1.map vR,z.2.2,true⟩)]⟩
theorem Fz {dec:ByteArray->Int×Nat}(hF:Fit W)(hS:vt Tryz.prog 39 65 (PS.sum (X:=W) (PS.un dec 65)))(σ:PS W)(ho:σ.bu=0)(ha0:σ.at_<=W.L.length) :
  jP Tryz.prog 38 (pO σ) [] [.ref 0 0 0 0,.wr (.Tf 39) 0 0 0 0] (pO (PS.rN dec σ).2) (.ro false (qh (PS.rN dec σ).1)):=by
 have hL:=hF.len;have hs0:∀τ:PS W,τ.bu=0->PS.lB dec τ=PS.sum (PS.un dec 65) τ:=fun τ h=>by unfold PS.lB;rw [h]
 have c0:=hS σ A8 ha0;rw [<- hs0 σ ho] at c0;have f0:=PS.jU dec σ;have f1:=f0.1.hi ha0;have f2:=f0.1.bu;unfold PS.rN;rw [Fl];generalize PS.lB dec σ=r at *;unfold pO Bi at *;refine uf bN mix 2 (zO rfl) Tryz.func38 rfl rfl B1 B1 (zO rfl) ?_
 repeat'(first|(with_reducible first|(refine zz ?_;try intro K hK)|refine zi ?_|refine zh ?_)|((first|apply hK _ _ rfl|apply hK);clear hK K)|(guard_hyp hK;first|refine zx ?_|apply ab|apply aa|refine zW ?_|(refine fk 0 3 (c0) ?hga ?hgb ?hgc ?hgd ?_;(case hga=>rfl);(case hgb=>rfl);(case hgc=>rfl);(case hgd=>decide))|intro b0 hb)|((first|refine zj ?_|guard_hyp hK);refine zY ?_ ?_;all_goals(intro hb;(try simp only [sn,sb] at hb);try exact ao)))
 generalize hR:PS.VM dec W.L.length ([] ++ [r.1]) r.2=R;refine uD (PS W×List (List cE)×Nat) (Uf Tryz.f38.ntmps 39) (XZ dec R) (fun z=>W.L.length - z.1.at_) (r.2,[r.1],0) ⟨f2.trans ho,N0 (C0 _),f1,_,hR,N1 _ _⟩ (bx ⟨Lc.same _ rfl,Lc.same _ rfl,Lc.same _ rfl,trivial⟩ ⟨au rfl (aW _ _ _),ck rfl (Lc.vM false _ (CG r.1) (QL rfl rfl rfl)),trivial⟩) ?_;rintro⟨τ,l,v⟩ ⟨h0,h1,h2,k,h3,h4⟩;dsimp only at h0 h1 h2 h3 h4;unfold Uf;dsimp only;unfold PS.VM at h3;have hfd:∀oh oh1:OH,ae oh 4=some ⟨1,l.map vR,v,true⟩->ae oh1 4=none->iT oh oh1 false (.own 4 v 0 l.length) (qh l):=fun oh oh1 g1 g2=>Ed g1 g2 (by rw [List.length_map]) (sC Vj l)
 cases hb:τ.bad with
 |some f=>
  have hbb:τ.bad≠none:=by rw [hb];exact fun h=>by cases h
  rw [PS.nr hbb,if_neg B6,PS.jb hbb] at h3;rw [<- h3];dsimp only;rw [hb]
  repeat'(first|(with_reducible first|(refine zz ?_;try intro K hK)|refine zi ?_|refine zh ?_)|((first|apply hK _ _ rfl|apply hK);clear hK K)|(guard_hyp hK;first|refine zx ?_|apply ab|apply aa|refine zW ?_|intro b0 hb)|((first|refine zj ?_|guard_hyp hK);refine zY ?_ ?_;all_goals(intro hb;(try simp only [sn,sb] at hb);try exact ao)))
  exact iK (r:=qh l) rfl B3 rfl (hfd _ _ rfl rfl) B3 rfl
 |none=>
  have cs:=ij τ PS.bo hL;unfold PS.TE at cs
  cases hB:τ.du 4 PS.bo with
  |false=>
   rw [hB,if_neg B6] at h3 cs;rw [<- h3];unfold pO at cs;rw [hb] at cs
   repeat'(first|(with_reducible first|(refine zz ?_;try intro K hK)|refine zi ?_|refine zh ?_)|((first|apply hK _ _ rfl|apply hK);clear hK K)|(guard_hyp hK;first|refine zx ?_|apply ab|apply aa|refine zW ?_|refine zp 0 (cs) ?_|intro b0 hb)|((first|refine zj ?_|guard_hyp hK);refine zY ?_ ?_;all_goals(intro hb;(try simp only [sn,sb] at hb);try exact ao)))
   exact iK (r:=qh l) rfl B3 rfl (hfd _ _ rfl rfl) B3 rfl
  |true=>
   obtain⟨t,ht,hk2,-⟩:=PS.cj hB;have hlt:=(PS.aX ht).2.2;have hav:=PS.dx ht (by rw [hk2];decide);have haf:=PS.bq hB B3;rw [hB,if_pos rfl] at h3 cs;obtain⟨k,rfl⟩:∃j,k=j+1:=⟨k - 1,by omega⟩
   rw [Fl] at h3;have q0:τ.aK.bu=0:=hav.2.2.trans h0;have cn:=hS τ.aK A8 A8;rw [<- hs0 _ q0] at cn;have g1:=(PS.jU dec τ.aK).1;have g2:=g1.le;have g3:=g1.hi A8;have g4:=g1.bu;generalize PS.lB dec τ.aK=u at *;rw [eL ht (by rw [hk2];decide)] at cs cn;unfold pO at cs;unfold Bi at cn;rw [hb] at cs
   repeat'(first|(with_reducible first|(refine zz ?_;try intro K hK)|refine zi ?_|refine zh ?_)|((first|apply hK _ _ rfl|apply hK);clear hK K)|(guard_hyp hK;first|refine zx ?_|apply ab|apply aa|refine zW ?_|refine zp 0 (cs) ?_|(refine fk 0 3 (cn) ?hga ?hgb ?hgc ?hgd ?_;(case hga=>rfl);(case hgb=>rfl);(case hgc=>rfl);(case hgd=>decide))|intro b0 hb)|((first|refine zj ?_|guard_hyp hK);refine zY ?_ ?_;all_goals(intro hb;(try simp only [sn,sb] at hb);try exact ao)))
   refine⟨(u.2,l ++ [u.1],v+1),⟨g4.trans q0,by dsimp only;rw [List.length_append,List.length_singleton];omega,g3,k,h3,by dsimp only;omega⟩,by dsimp only;omega,bx ⟨Lc.same _ rfl,Lc.same _ rfl,?_,trivial⟩ ⟨au rfl (aW _ _ _),kj (F:=vR) (l:=l) (a:=u.1) rfl rfl rfl (fun x _=>trivial) (Lc.vM false _ (CG u.1) (QL rfl rfl rfl)),trivial⟩⟩;show LV _ _ _ (V.own 4 (v+1) 0 (l ++ [u.1]).length);rw [List.length_append];exact Lc.same _ rfl
end Go.Ev
