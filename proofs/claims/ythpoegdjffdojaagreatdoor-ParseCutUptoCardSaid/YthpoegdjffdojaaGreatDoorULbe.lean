import Derived.Test.YthpoegdjffdojaaGreatDoorULbd
set_option linter.all false
set_option maxHeartbeats 60000000
set_option maxRecDepth 100000
namespace Go.Ev
open Go.Proofs
open PS (cE eZ dW eY iS)
theorem Dj {P:Program}{fn:Func}{f:Bool}{s:St}{b tb c i1 v1 z1:Nat}{l2:List V}{t1 t2:T}{fs2:List (Nat×Nat)}{y2:List Value}
  (hr:fn.results.toList=[.cell b tb,.tmp c])
  (ht2:tk P tb=.st fs2 y2) (hz2:y2.length=l2.length) (h02:0 < l2.length) (ha2:aA s.env b=.ref i1 v1 0 0) (ho2:ae s.oh i1=some ⟨z1,[.agg l2],v1,true⟩) (hf:gM s.oh f (.agg l2) t1) (hc:gM s.oh f (aA s.env c) t2) :
  kz P fn f (.ba [t1,t2]) .ret s:=by
 refine⟨trivial,?_⟩;rw [hr];have h:ef P s (.cell b tb) (fun v=>ef P s (.tmp c) fun u=>∃r1 r2,T.ba [t1,t2]=.ba [r1,r2]/\gM s.oh f v r1/\gM s.oh f u r2):=AY ht2 hz2 h02 ha2 ho2 ⟨_,_,rfl,hf,hc⟩;exact h
def NT {W:fA}(N:Nat)(σ:PS W)(l:List V):St:=⟨N,[(2,.ref 0 0 0 0),(3,.af .nilIface),(4,.ref 1 0 0 0),(5,.ref 2 0 0 0)],[(0,⟨4,[.agg [.af (.string .empty),.emp,.emp,.emp]],0,true⟩),(1,dE W σ.at_ σ.bad σ.bu),(2,⟨4,[.agg l],0,true⟩)]⟩
def Uj (W : fA) (N : Nat) (nm : ByteArray) (pr : List ByteArray) (z : Xo W) : St :=
  ⟨N, [(2, .ref 0 0 0 0), (4, .ref 1 0 0 0), (5, .ref 2 0 0 0)],
    [(0, ⟨4, [.agg [.af (.string .empty), .emp, .emp, .emp]], 0, true⟩), (1, dE W z.1.at_ z.1.bad z.1.bu),
     (2, ⟨4, [.agg [.af (.string nm), .ro false (jO pr), .own 4 z.2.2.2.1.1 0 z.2.2.2.1.2, .own 5 z.2.2.2.2.1.1 0 z.2.2.2.2.1.2]], 0, true⟩),
     (4, ⟨4, z.2.1.map sZ, z.2.2.2.1.1, true⟩), (5, ⟨4, z.2.2.1.map WB, z.2.2.2.2.1.1, true⟩)]⟩
def Yb {W:fA}(R:List dW×List eY×PS W)(dec:ByteArray->Int×Nat)(z:Xo W):Prop:=
 z.1.bu=0/\z.1.at_<=W.L.length/\z.2.2.2.1.2=z.2.1.length/\z.2.2.2.2.1.2=z.2.2.1.length/\z.2.2.1.length+z.2.2.2.2.2<=W.L.length+1/\z.2.1.length+z.2.2.2.2.2<=W.L.length+1/\
  PS.ir dec cg z.2.2.2.2.2 z.2.1 z.2.2.1 z.1=R/\1<=z.2.2.2.2.2/\W.L.length < z.2.2.2.2.2+z.1.at_
theorem QB {W:fA}(d a:Nat)(b:Option dy)(n:Nat):(dE W a b n).sh d=dE W a b n:=by
 have h1:∀v:V,v.kx->v.MY d=v:=fun v h=>by obtain⟨x,rfl|⟨f,t,rfl⟩⟩:=h<;>rfl
 show Obj.mk 5 [V.agg (List.map (V.MY d) _)] 0 true=Obj.mk 5 [V.agg _] 0 true;rw [O2 fun v hv=>h1 v (yr (W:=W) a b n v hv),List.map_id''];exact fun _=>rfl
theorem KZ {dec:ByteArray->Int×Nat}(s:ByteArray)(hF:Fit (fQ s))(hkn:TQ (fQ s))(hS:vt Tryz.prog 39 65 (PS.sum (X:=fQ s) (PS.un dec 65)))
  (c0:IG Tryz.prog 26 [gG s] (pO (PS.begin s)) (.ref 0 0 0 0)) :
  Ok Tryz.prog 8 [gG s] false (.ba [tC (mw dec s).1,MX (mw dec s).2]):=by
 have hL:=hF.len
 have hS9:mw dec s=(match(PS.fin (PS.ir dec cg ((fQ s).L.length+1) [] [] (PS.vN (PS.begin s))).2.2).bad with
  |some f=>(⟨eS,[],[],[]⟩,some f)
  |none=>(⟨(PS.take 1 (PS.aO 1 PS.fe (PS.begin s))).1,(PS.props (PS.Ie (PS.begin s))).1,(PS.ir dec cg ((fQ s).L.length+1) [] [] (PS.vN (PS.begin s))).1,(PS.ir dec cg ((fQ s).L.length+1) [] [] (PS.vN (PS.begin s))).2.1⟩,none)):=by
  have e:mw dec s=(match(PS.fin (PS.ey dec cg ((fQ s).L.length+1) [] [] (PS.vN (PS.begin s))).2.2).bad with
   |some f=>(⟨eS,[],[],[]⟩,some f)
   |none=>(⟨(PS.take 1 (PS.aO 1 PS.fe (PS.begin s))).1,(PS.props (PS.Ie (PS.begin s))).1,(PS.ey dec cg ((fQ s).L.length+1) [] [] (PS.vN (PS.begin s))).1,(PS.ey dec cg ((fQ s).L.length+1) [] [] (PS.vN (PS.begin s))).2.1⟩,none)):=rfl
  rw [e,PS.qF dec cg _ [] [] [] []]
  cases hb:(PS.fin (PS.ey dec cg ((fQ s).L.length+1) [] [] (PS.vN (PS.begin s))).2.2).bad with
  |some f=>rfl
  |none=>rw [PS.qG dec cg _ _ _ _ (PS.fx (PS.Ga _) hb)]
 rw [hS9];clear hS9;have ho:(PS.begin s).bu=0:=rfl;have ha:(PS.begin s).at_<=(fQ s).L.length:=C0 _;unfold PS.vN PS.Ie;generalize PS.begin s=σ at *;generalize fQ s=W at *;have f1:=PS.aJ 1 PS.fe σ;have c1:=cY [(1,PS.fe)] σ hL B3 B3 (kc hkn.Yi kn);have e1:PS.eO [(1,PS.fe)] σ=PS.aO 1 PS.fe σ:=rfl;rw [e1] at c1;generalize PS.aO 1 PS.fe σ=s1 at *;have f2:=PS.dC 1 s1;have c2:=mc s1 hL;generalize PS.take 1 s1=r2 at *;have f3:=PS.aJ 4 PS.dM r2.2;have c3:=cY [(4,PS.dM)] r2.2 hL B3 B3 (kc hkn.lc kn);have e3:PS.eO [(4,PS.dM)] r2.2=PS.aO 4 PS.dM r2.2:=rfl;rw [e3] at c3;generalize PS.aO 4 PS.dM r2.2=s3 at *;have f4:=PS.jZ s3;have c4:=qH s3 hL hkn.Ka;generalize PS.props s3=r4 at *;have f5:=PS.aJ 4 PS.dc r4.2;have c5:=cY [(4,PS.dc)] r4.2 hL B3 B3 (kc hkn.rc kn);have e5:PS.eO [(4,PS.dc)] r4.2=PS.aO 4 PS.dc r4.2:=rfl;rw [e5] at c5;generalize PS.aO 4 PS.dc r4.2=s5 at *;have fo:=(((f1.trans f2).trans f3).trans f4).trans f5;clear e1 e3 e5;unfold pO at c0 c1 c2 c3 c4 c5;refine aw bN mix Tryz.func8 rfl rfl B1 (zO rfl) ?_
 repeat'(first|(refine ld (a:=Code.region 1 _ _) Unit (fun _=>⟨Tryz.f8.ntmps,[(2,.ref 0 0 0 0),(3,.af .nilIface),(4,.ref 1 0 0 0)],[(0,⟨4,[.agg [.af (.string .empty),.emp,.emp,.emp]],0,true⟩),(1,dE W σ.at_ σ.bad σ.bu)]⟩) (fun _=>True) ?_ ?_)|(with_reducible first|(refine zz ?_;try intro K hK)|refine zi ?_|refine zh ?_)|((first|apply hK _ _ rfl|apply hK);clear hK K)|(guard_hyp hK;first|refine zx ?_|apply ab|apply aa|refine zW ?_|intro b0 hb)|((first|refine zj ?_|guard_hyp hK);refine zY ?_ ?_;all_goals(intro hb;(try simp only [sn,sb] at hb);try exact ao)))
 rotate_left
 ·intro R hR
  repeat'(first|(with_reducible first|(refine zz ?_;try intro K hK)|refine zi ?_|refine zh ?_)|((first|apply hK _ _ rfl|apply hK);clear hK K)|(guard_hyp hK;first|refine zx ?_|apply ab|apply aa|refine zW ?_|(refine Or.inr (Sk _ (Sk _ (UO (c0) ?_))))|intro b0 hb)|((first|refine zj ?_|guard_hyp hK);refine zY ?_ ?_;all_goals(intro hb;(try simp only [sn,sb] at hb);try exact ao)))
  exact hR _ () trivial (bx ⟨Lc.same _ rfl,Lc.same _ trivial,Lc.same _ rfl,trivial⟩ ⟨bC rfl rfl,au ((show ae _ 1=some ((dE W σ.at_ σ.bad σ.bu).sh 1) from rfl).trans (B4 some (QB _ _ _ _))) (aW _ _ _),trivial⟩)
 rintro - -
 repeat'(first|(refine ld (a:=Code.region 5 _ _) Unit (fun _=>NT Tryz.f8.ntmps s3 [.af (.string r2.1),.emp,.emp,.emp]) (fun _=>True) ?_ ?_)|(with_reducible first|(refine zz ?_;try intro K hK)|refine zi ?_|refine zh ?_)|((first|apply hK _ _ rfl|apply hK);clear hK K)|(guard_hyp hK;first|refine zx ?_|apply ab|apply aa|refine zW ?_|(refine' Or.inr (Or.inr (Or.inl (bY ([(1,PS.fe)]) _ _ (c1) ?hga ?hgb ?hgc ?hgd ?_)));(case hga=>rfl);(case hgb=>rfl);(case hgc=>rfl);(case hgd=>exact K5 (zO rfl)))|refine zp 1 (c2) ?_|intro b0 hb)|((first|refine zj ?_|guard_hyp hK);refine zY ?_ ?_;all_goals(intro hb;(try simp only [sn,sb] at hb);try exact ao)))
 rotate_left
 ·intro R hR
  repeat'(first|(with_reducible first|(refine zz ?_;try intro K hK)|refine zi ?_|refine zh ?_)|((first|apply hK _ _ rfl|apply hK);clear hK K)|(guard_hyp hK;first|refine zx ?_|apply ab|apply aa|refine zW ?_|(refine' Or.inr (Or.inr (Or.inl (bY ([(4,PS.dM)]) _ _ (c3) ?hga ?hgb ?hgc ?hgd ?_)));(case hga=>rfl);(case hgb=>rfl);(case hgc=>rfl);(case hgd=>exact K5 (zO rfl)))|intro b0 hb)|((first|refine zj ?_|guard_hyp hK);refine zY ?_ ?_;all_goals(intro hb;(try simp only [sn,sb] at hb);try exact ao)))
  exact hR _ () trivial (bx ⟨Lc.same _ rfl,Lc.same _ trivial,Lc.same _ rfl,Lc.same _ rfl,trivial⟩ ⟨bC rfl rfl,au rfl (aW _ _ _),bC rfl rfl,trivial⟩)
 rintro - -;unfold NT
 repeat'(first|(refine ld (a:=Code.region 7 _ _) Unit (fun _=>NT Tryz.f8.ntmps s5 [.af (.string r2.1),.ro false (jO r4.1),.emp,.emp]) (fun _=>True) ?_ ?_)|(with_reducible first|(refine zz ?_;try intro K hK)|refine zi ?_|refine zh ?_)|((first|apply hK _ _ rfl|apply hK);clear hK K)|(guard_hyp hK;first|refine zx ?_|apply ab|apply aa|refine zW ?_|refine zp 1 (c4) ?_|intro b0 hb)|((first|refine zj ?_|guard_hyp hK);refine zY ?_ ?_;all_goals(intro hb;(try simp only [sn,sb] at hb);try exact ao)))
 rotate_left
 ·intro R hR
  repeat'(first|(with_reducible first|(refine zz ?_;try intro K hK)|refine zi ?_|refine zh ?_)|((first|apply hK _ _ rfl|apply hK);clear hK K)|(guard_hyp hK;first|refine zx ?_|apply ab|apply aa|refine zW ?_|(refine' Or.inr (Or.inr (Or.inl (bY ([(4,PS.dc)]) _ _ (c5) ?hga ?hgb ?hgc ?hgd ?_)));(case hga=>rfl);(case hgb=>rfl);(case hgc=>rfl);(case hgd=>exact K5 (zO rfl)))|intro b0 hb)|((first|refine zj ?_|guard_hyp hK);refine zY ?_ ?_;all_goals(intro hb;(try simp only [sn,sb] at hb);try exact ao)))
  exact hR _ () trivial (bx ⟨Lc.same _ rfl,Lc.same _ trivial,Lc.same _ rfl,Lc.same _ rfl,trivial⟩ ⟨bC rfl rfl,au rfl (aW _ _ _),bC rfl rfl,trivial⟩)
 rintro - -;unfold NT
 repeat'(first|(with_reducible first|(refine zz ?_;try intro K hK)|refine zi ?_|refine zh ?_)|((first|apply hK _ _ rfl|apply hK);clear hK K)|(guard_hyp hK;first|refine zx ?_|apply ab|apply aa|refine zW ?_|intro b0 hb)|((first|refine zj ?_|guard_hyp hK);refine zY ?_ ?_;all_goals(intro hb;(try simp only [sn,sb] at hb);try exact ao)))
 generalize hR:PS.ir dec cg (W.L.length+1) [] [] s5=R;refine uD (Xo W) (Uj W Tryz.f8.ntmps r2.1 r4.1) (Yb R dec) (fun z=>z.2.2.2.2.2) (s5,[],[],(0,0),(0,0),W.L.length+1) ⟨fo.bu.trans ho,fo.hi ha,rfl,rfl,R5 (C2 _),R5 (C2 _),hR,N0 (C0 _),by dsimp only;omega⟩ (bx ⟨Lc.same _ rfl,Lc.same _ rfl,Lc.same _ rfl,trivial⟩ ⟨bC rfl rfl,au rfl (aW _ _ _),ck rfl (gg ⟨Lc.same _ trivial,jz,Lc.gL 4 _ rfl rfl,Lc.gL 5 _ rfl rfl,trivial⟩),ki rfl,ki rfl,trivial⟩) ?_;rintro⟨τ,vs,ps,⟨vv,nv⟩,⟨vp,np⟩,k⟩ ⟨q1,q2,q3,q4,q5,q6,q7,q8,q9⟩;dsimp only at q1 q2 q3 q4 q5 q6 q7 q8 q9;obtain⟨k,rfl⟩:∃j,k=j+1:=⟨k - 1,by omega⟩
 rw [PS.ir] at q7;unfold Uj;dsimp only
 cases hb:τ.bad with
 |some f=>
  have hbb:τ.bad≠none:=by rw [hb];exact fun h=>by cases h
  rw [PS.nr hbb,if_neg B6,PS.nr hbb,if_neg B6,PS.jb hbb] at q7;rw [<- q7];dsimp only;have d3:=ub τ;rw [(PS.Ga τ).NL hbb] at d3 |-;unfold pO at d3;rw [hb] at d3 |-
  repeat'(first|(with_reducible first|(refine zz ?_;try intro K hK)|refine zi ?_|refine zh ?_)|((first|apply hK _ _ rfl|apply hK);clear hK K)|(guard_hyp hK;first|refine zx ?_|apply ab|apply aa|refine zW ?_|refine zp 1 (d3) ?_|intro b0 hb)|((first|refine zj ?_|guard_hyp hK);refine zY ?_ ?_;all_goals(intro hb;(try simp only [sn,sb] at hb);try exact ao)))
  exact Dj (l2:=[.af (.string .empty),.emp,.emp,.emp]) (t1:=tC ⟨eS,[],[],[]⟩) (t2:=MX (some f)) rfl RC rfl (D0 _) rfl rfl (yX (.af _) .emp .emp .emp) (jF.ro _ _ fun h=>Bool.noConfusion h)
 |none=>
  have d1:=gQ τ 1 PS.eQ;have d2:=gQ τ.settle 1 PS.cd;rw [dw,sJ] at d2
  cases hA:τ.du 1 PS.eQ with
  |true=>
   obtain⟨t,ht,hk,-⟩:=PS.cj hA;have hlt:=(PS.aX ht).2.2;have hav:=PS.dx ht (by rw [hk];decide);have haf:=PS.bq hA B3;rw [hA,if_pos rfl] at q7;rw [hA,PS.az ht,bF ht] at d1;have d3:=OD τ hF hkn q2 hA;have l3:=PS.Ao cg τ.aK;have l4:=l3.hi (haf.hi q2);have l5:=l3.le;rw [bF ht] at d3;unfold pO at d3;generalize (PS.nR cg τ.aK).2=r9 at *;generalize (PS.Am cg τ.aK).1=e9 at *
   repeat'(first|(refine UO (QV (D3 rfl) (by first|omega|(simp only [ln];omega))) ?_)|(with_reducible first|(refine zz ?_;try intro K hK)|refine zi ?_|refine zh ?_)|((first|apply hK _ _ rfl|apply hK);clear hK K)|(guard_hyp hK;first|refine zx ?_|apply ab|apply aa|refine zW ?_|refine zp 1 (d1) ?_|refine zp 1 (d3) ?_|intro b0 hb)|((first|refine zj ?_|guard_hyp hK);refine zY ?_ ?_;all_goals(intro hb;(try simp only [sn,sb] at hb);try exact ao)))
   exact⟨(r9,vs ++ [e9],ps,(vv+1,nv+1),(vp,np),k),⟨l3.bu.trans (hav.2.2.trans q1),l4,by dsimp only;rw [List.length_append,List.length_singleton];omega,q4,by dsimp only;omega,by dsimp only;rw [List.length_append,List.length_singleton];omega,q7,by dsimp only;omega,by dsimp only;omega⟩,T7 _,bx ⟨Lc.same _ rfl,Lc.same _ rfl,Lc.same _ rfl,trivial⟩ ⟨bC rfl rfl,au rfl (aW _ _ _),ck rfl (gg ⟨Lc.same _ trivial,jz,Lc.same _ rfl,Lc.same _ rfl,trivial⟩),kj (F:=sZ) (l:=vs) (a:=e9) rfl q3 rfl (fun x _=>pY x) (pY _).lv,au rfl (Jo _),trivial⟩⟩
  |false=>
   rw [hA,if_neg B6] at q7;rw [hA] at d1
   cases hB:τ.du 1 PS.cd with
   |true=>
    obtain⟨t,ht,hk,-⟩:=PS.cj hB;have hlt:=(PS.aX ht).2.2;have hav:=PS.dx ht (by rw [hk];decide);have haf:=PS.bq hB B3;rw [hB,if_pos rfl] at q7;rw [PS.az ht,bF ht] at d1;rw [hB,PS.az ht,bF ht] at d2;have d3:=OG hF hkn hS τ hB q1 q2;have l3:=PS.Bf dec τ.aK;have l4:=l3.hi (haf.hi q2);have l5:=l3.le;rw [bF ht] at d3;unfold pO at d3;generalize (PS.qA dec τ.aK).2=r9 at *;generalize (PS.HC dec τ.aK).1=e9 at *
    repeat'(first|(refine UO (QV (D3 rfl) (by first|omega|(simp only [ln];omega))) ?_)|(with_reducible first|(refine zz ?_;try intro K hK)|refine zi ?_|refine zh ?_)|((first|apply hK _ _ rfl|apply hK);clear hK K)|(guard_hyp hK;first|refine zx ?_|apply ab|apply aa|refine zW ?_|refine zp 1 (d1) ?_|refine zp 1 (d2) ?_|refine zp 1 (d3) ?_|intro b0 hb)|((first|refine zj ?_|guard_hyp hK);refine zY ?_ ?_;all_goals(intro hb;(try simp only [sn,sb] at hb);try exact ao)))
    exact⟨(r9,vs,ps ++ [e9],(vv,nv),(vp+1,np+1),k),⟨l3.bu.trans (hav.2.2.trans q1),l4,q3,by dsimp only;rw [List.length_append,List.length_singleton];omega,by dsimp only;rw [List.length_append,List.length_singleton];omega,by dsimp only;omega,q7,by dsimp only;omega,by dsimp only;omega⟩,T7 _,bx ⟨Lc.same _ rfl,Lc.same _ rfl,Lc.same _ rfl,trivial⟩ ⟨bC rfl rfl,au rfl (aW _ _ _),ck rfl (gg ⟨Lc.same _ trivial,jz,Lc.same _ rfl,Lc.same _ rfl,trivial⟩),au rfl (Jn _),kj (F:=WB) (l:=ps) (a:=e9) rfl q4 rfl (fun x _=>qe x) (qe _).lv,trivial⟩⟩
   |false=>
    rw [hB,if_neg B6] at q7;rw [hB] at d2;rw [<- q7];dsimp only;have d3:=ub τ.settle;unfold pO at d1 d2 d3;rw [hb] at d1;generalize PS.fin τ.settle=s9 at *
    cases hb9:s9.bad with
    |some f=>
     rw [hb9] at d3
     repeat'(first|(with_reducible first|(refine zz ?_;try intro K hK)|refine zi ?_|refine zh ?_)|((first|apply hK _ _ rfl|apply hK);clear hK K)|(guard_hyp hK;first|refine zx ?_|apply ab|apply aa|refine zW ?_|refine zp 1 (d1) ?_|refine zp 1 (d2) ?_|refine zp 1 (d3) ?_|intro b0 hb)|((first|refine zj ?_|guard_hyp hK);refine zY ?_ ?_;all_goals(intro hb;(try simp only [sn,sb] at hb);try exact ao)))
     exact Dj (l2:=[.af (.string .empty),.emp,.emp,.emp]) (t1:=tC ⟨eS,[],[],[]⟩) (t2:=MX (some f)) rfl RC rfl (D0 _) rfl rfl (yX (.af _) .emp .emp .emp) (jF.ro _ _ fun h=>Bool.noConfusion h)
    |none=>
     rw [hb9] at d3
     repeat'(first|(with_reducible first|(refine zz ?_;try intro K hK)|refine zi ?_|refine zh ?_)|((first|apply hK _ _ rfl|apply hK);clear hK K)|(guard_hyp hK;first|refine zx ?_|apply ab|apply aa|refine zW ?_|refine zp 1 (d1) ?_|refine zp 1 (d2) ?_|refine zp 1 (d3) ?_|intro b0 hb)|((first|refine zj ?_|guard_hyp hK);refine zY ?_ ?_;all_goals(intro hb;(try simp only [sn,sb] at hb);try exact ao)))
     exact Dj (l2:=[.af (.string r2.1),.ro false (jO r4.1),.own 4 vv 0 nv,.own 5 vp 0 np]) (t1:=tC ⟨r2.1,r4.1,vs,ps⟩) (t2:=MX none) rfl RC rfl (D0 _) rfl rfl (yX (.af _) (.ro _ _ fun h=>Bool.noConfusion h) (FZ rfl q3.symm Pz) (FZ rfl q4.symm PA)) (jF.af _)
end Go.Ev
namespace Go.Proofs
open Go.RowKit Go.Ev
theorem Ej (a:Option Addr)(n cap:Nat)(hc:n<=cap)(hm:cap<=maxLen)(w:World) :
  Calls Tryz.prog 40 #[.slice a n cap] w fun e w'=>e=.returned (.slice a n n)/\w'=w:=by
 have hu:Tryz.prog.underlying 43=some (.slice 71):=by kernel_rfl
 go_enter Tryz.func40,Tryz.ntmps40
 go_wp2
 go_ret
 exact⟨rfl,rfl⟩
end Go.Proofs
namespace Go.Ev
open Go.Proofs
open PS (cE)
theorem KC {S:dS}{l:List T}{a:Option Addr}{n cap:Nat}(h:gD S (.sl l) (.slice a n cap))(hn:n=l.length):gD S (.sl l) (.slice a n n):=by
 subst hn;obtain⟨a',cap',esz,b,off,c,e,hc,hm,ha,hz,hs,h1,hr⟩:=kN h
 injection e with e1 e2 e3
 subst e1;exact .sl _ a l.length esz b off c (wU _) (G6 hc hm) ha hz hs h1 hr
theorem PO (l:List (List cE)):Ok Tryz.prog 40 [qh l] false (qh l):=by
 refine⟨⟨_,Tryz.func40,rfl,rfl⟩,fun S w args hS hgl hargs=>?_⟩;obtain⟨hz,hr⟩:=hargs;obtain⟨x,rfl⟩:∃x,args=#[x]:=Array.size_eq_one_iff.1 hz;have hx:gD S (qh l) x:=hr 0 _ x rfl rfl;have hx':=hx;obtain⟨a,cap,esz,b,off,c,rfl,hc,hm,-⟩:=kN hx;refine(Ej a _ cap hc hm w).mono fun e w' he=>?_
 obtain⟨rfl,rfl⟩:=he;exact⟨_,fun _ _=>none,rfl,RowKit.Below.refl _ _,(fun _ _ _ hc=>by cases hc),gD.mono (fun b o c h=>by simp [dS.pick,dS.un,h]) (KC hx' rfl)⟩
open PS (cE eZ dW eY iS)
theorem Ku {P:Program}{fn:Func}{f:Bool}{s:St}{a c:Nat}{t1 t2:T}(hr:fn.results.toList=[.tmp a,.tmp c])(h1:gM s.oh f (aA s.env a) t1)(h2:gM s.oh f (aA s.env c) t2) :
  kz P fn f (.ba [t1,t2]) .ret s:=by
 refine⟨trivial,?_⟩;rw [hr];exact⟨_,_,rfl,h1,h2⟩
theorem OI {dec:ByteArray->Int×Nat}(s:ByteArray)(hF:Fit (fQ s))(hS:vt Tryz.prog 39 65 (PS.sum (X:=fQ s) (PS.un dec 65)))
  (c0:IG Tryz.prog 26 [gG s] (pO (PS.begin s)) (.ref 0 0 0 0)) :
  Ok Tryz.prog 11 [gG s] false (.ba [qh (yC dec s).1,MX (yC dec s).2]):=by
 have ho:(PS.begin s).bu=0:=rfl;have ha:(PS.begin s).at_<=(fQ s).L.length:=C0 _;have hb0:(PS.begin s).bad=none:=rfl;have c1:=Fz hF hS (PS.begin s) ho ha;have hr:PS.rN dec (PS.begin s)=PS.row dec (PS.begin s):=PS.Fk dec hb0;rw [hr] at c1;have d3:=ub (PS.row dec (PS.begin s)).2;unfold yC PS.DG;generalize PS.row dec (PS.begin s)=r at *;generalize PS.begin s=σ at *;generalize fQ s=W at *;unfold pO at *;refine aw bN mix Tryz.func11 rfl rfl B1 (zO rfl) ?_
 repeat'(first|(refine ld (a:=Code.region 1 _ _) Unit (fun _=>⟨Tryz.f11.ntmps,[(4,.ref 0 0 0 0)],[(0,dE W σ.at_ σ.bad σ.bu)]⟩) (fun _=>True) ?_ ?_)|(with_reducible first|(refine zz ?_;try intro K hK)|refine zi ?_|refine zh ?_)|((first|apply hK _ _ rfl|apply hK);clear hK K)|(guard_hyp hK;first|refine zx ?_|apply ab|apply aa|refine zW ?_|intro b0 hb)|((first|refine zj ?_|guard_hyp hK);refine zY ?_ ?_;all_goals(intro hb;(try simp only [sn,sb] at hb);try exact ao)))
 rotate_left
 ·intro R hR
  repeat'(first|(with_reducible first|(refine zz ?_;try intro K hK)|refine zi ?_|refine zh ?_)|((first|apply hK _ _ rfl|apply hK);clear hK K)|(guard_hyp hK;first|refine zx ?_|apply ab|apply aa|refine zW ?_|(refine Or.inr (Sk _ (Sk _ (UO (c0) ?_))))|intro b0 hb)|((first|refine zj ?_|guard_hyp hK);refine zY ?_ ?_;all_goals(intro hb;(try simp only [sn,sb] at hb);try exact ao)))
  exact hR _ () trivial (bx ⟨Lc.same _ rfl,trivial⟩ ⟨au ((show ae _ 0=some ((dE W σ.at_ σ.bad σ.bu).sh 0) from rfl).trans (B4 some (QB _ _ _ _))) (aW _ _ _),trivial⟩)
 rintro - -
 repeat'(first|(refine ld (a:=Code.region 2 _ _) Unit (fun _=>⟨Tryz.f11.ntmps,[(4,.ref 0 0 0 0),(5,.ro false (qh r.1))],[(0,dE W r.2.at_ r.2.bad r.2.bu)]⟩) (fun _=>True) ?_ ?_)|(with_reducible first|(refine zz ?_;try intro K hK)|refine zi ?_|refine zh ?_)|((first|apply hK _ _ rfl|apply hK);clear hK K)|(guard_hyp hK;first|refine zx ?_|apply ab|apply aa|refine zW ?_|intro b0 hb)|((first|refine zj ?_|guard_hyp hK);refine zY ?_ ?_;all_goals(intro hb;(try simp only [sn,sb] at hb);try exact ao)))
 rotate_left
 ·intro R hR
  repeat'(first|(with_reducible first|(refine zz ?_;try intro K hK)|refine zi ?_|refine zh ?_)|((first|apply hK _ _ rfl|apply hK);clear hK K)|(guard_hyp hK;first|refine zx ?_|apply ab|apply aa|refine zW ?_|refine zp 0 (c1) ?_|intro b0 hb)|((first|refine zj ?_|guard_hyp hK);refine zY ?_ ?_;all_goals(intro hb;(try simp only [sn,sb] at hb);try exact ao)))
  exact hR _ () trivial (bx ⟨Lc.same _ rfl,jz,trivial⟩ ⟨au rfl (aW _ _ _),trivial⟩)
 rintro - -;have k1:=PO r.1
 cases hb:r.2.fin.bad with
 |some f=>
  rw [hb] at d3
  repeat'(first|(with_reducible first|(refine zz ?_;try intro K hK)|refine zi ?_|refine zh ?_)|((first|apply hK _ _ rfl|apply hK);clear hK K)|(guard_hyp hK;first|refine zx ?_|apply ab|apply aa|refine zW ?_|refine zp 0 (d3) ?_|intro b0 hb)|((first|refine zj ?_|guard_hyp hK);refine zY ?_ ?_;all_goals(intro hb;(try simp only [sn,sb] at hb);try exact ao)))
  exact Ku (t1:=qh []) (t2:=MX (some f)) rfl (jK rfl) (jF.ro _ _ fun h=>Bool.noConfusion h)
 |none=>
  rw [hb] at d3
  repeat'(first|(with_reducible first|(refine zz ?_;try intro K hK)|refine zi ?_|refine zh ?_)|((first|apply hK _ _ rfl|apply hK);clear hK K)|(guard_hyp hK;first|refine zx ?_|apply ab|apply aa|refine zW ?_|refine zp 0 (d3) ?_|(refine zQ (k1) ?_)|intro b0 hb)|((first|refine zj ?_|guard_hyp hK);refine zY ?_ ?_;all_goals(intro hb;(try simp only [sn,sb] at hb);try exact ao)))
  exact Ku (t1:=qh r.1) (t2:=MX none) rfl (jF.ro _ _ fun h=>Bool.noConfusion h) (jF.af _)
open PS (cE iS)
def Dn : Nat->ByteArray->Nat->ByteArray->Nat×ByteArray×Bool
 |0,_,_,_=>(0,⟨#[]⟩,false)
 |n+1,s,i,out=>
  if i < s.size then
   if(ax s i).toNat=34 then(i+1,out,true)
   else if(ax s i).toNat=10 then(0,⟨#[]⟩,false)
   else if(ax s i).toNat=92 then
    if(ax s (i+1)).toNat≠34/\(ax s (i+1)).toNat≠92 then(0,⟨#[]⟩,false)
    else Dn n s (i+2) (out ++ sub s (i+1) 1)
   else Dn n s (i+1) (out ++ sub s i 1)
  else(0,⟨#[]⟩,false)
theorem yn : ∀(n:Nat) (s:ByteArray) (i:Nat) (out:ByteArray),s.size - i < n->Dn n s i out=dv s i out
 |0,_,_,_,h=>absurd h (P6 _)
 |n+1,s,i,out,h=>by
  rw [Dn,dv];by_cases hi:i < s.size
  ·rw [if_pos hi,I2 hi,yn n s (i+2) _ A8,yn n s (i+1) _ A8]
  ·rw [if_neg hi,O4 hi]
def JA (s:ByteArray):TM:=
 if bf s < 0 then⟨0,0,eS,21,⟨#[47,42]⟩⟩
 else if 0 < bf s then⟨(bf s).toNat,0,eS,0,eS⟩
 else if isLet (ax s 0)=true then(if 64 < ar bp s 0 then⟨0,0,eS,20,s.extract 0 (ar bp s 0)⟩ else⟨ar bp s 0,1,s.extract 0 (ar bp s 0),0,eS⟩)
 else if ak (ax s 0)=true then
  (if kh s=true\/isLet (ax s (aS s))=true then⟨0,0,eS,22,s.extract 0 (aS s+ar bp s (aS s))⟩ else⟨aS s,2,s.extract 0 (aS s),0,eS⟩)
 else if(ax s 0).toNat=34 then(if(Dn (s.size+1) s 1 ⟨#[]⟩).2.2=true then⟨(Dn (s.size+1) s 1 ⟨#[]⟩).1,3,(Dn (s.size+1) s 1 ⟨#[]⟩).2.1,0,eS⟩ else⟨0,0,eS,21,⟨#[34]⟩⟩)
 else if Ri (ax s 0)=true then⟨1,4,s.extract 0 1,0,eS⟩
 else⟨0,0,eS,20,s.extract 0 1⟩
theorem Jz (s:ByteArray):JA s=aH s:=by
 unfold JA aH;rw [yn _ _ _ _ A8]
def Co : Nat -> ByteArray -> Nat -> List Tok × Option dy
  | 0, _, _ => ([], none)
  | n + 1, s, i =>
    if i < s.size then
      (fun (r : TM) =>
      if r.code ≠ 0 then ([], some ⟨r.code, (aj s i).1, (aj s i).2, r.word⟩)
      else if 0 < r.n then
        (if r.kind ≠ 0 then (⟨r.kind, r.text, (aj s i).1, (aj s i).2⟩ :: (Co n s (i + r.n)).1, (Co n s (i + r.n)).2)
         else Co n s (i + r.n))
      else ([], none)) (JA (s.extract i s.size))
    else ([⟨0, eS, (aj s s.size).1, (aj s s.size).2⟩], none)
theorem sM : ∀(n:Nat) (s:ByteArray) (i:Nat),s.size - i < n->Co n s i=bQ s i
 |0,_,_,h=>absurd h (P6 _)
 |n+1,s,i,h=>by
  rw [Co,bQ,Jz];by_cases hi:i < s.size
  ·rw [if_pos hi,I2 hi];generalize aH (s.extract i s.size)=r;dsimp only;split
   ·rfl
   ·by_cases hn:0 < r.n
    ·rw [if_pos hn,I2 hn,sM n s (i+r.n) A8]
    ·rw [if_neg hn,O4 hn]
  ·rw [if_neg hi,O4 hi]
theorem CE {s:ByteArray}{X:fA}(h:bQ s 0=(X.L,X.late)):fQ s=X:=by
 obtain⟨L,o,h1,h2⟩:=X;unfold fQ
 congr 1
 ·rw [h]
 ·rw [h]
def PS.VW (X:fA):PS X:=⟨0,none,0,fun h=>by
 obtain⟨l,t,e,-⟩:=X.SK h
 rw [e,List.length_append];exact Q9 _,fun _ h=>by cases h⟩
def WH (dec:ByteArray->Int×Nat)(X:fA):List (List cE)×Option dy:=
 match(PS.DG dec (PS.VW X)).2.bad with
 |some f=>([],some f)
 |none=>((PS.DG dec (PS.VW X)).1,none)
def Vf (dec:ByteArray->Int×Nat)(X:fA):iS×Option dy:=
 match(PS.Ec dec cg (PS.VW X)).2.bad with
 |some f=>(⟨eS,[],[],[]⟩,some f)
 |none=>((PS.Ec dec cg (PS.VW X)).1,none)
theorem Sr (dec:ByteArray->Int×Nat){s:ByteArray}{X:fA}(h:fQ s=X):yC dec s=WH dec X:=by subst h;rfl
theorem Gb (dec:ByteArray->Int×Nat){s:ByteArray}{X:fA}(h:fQ s=X):mw dec s=Vf dec X:=by subst h;rfl
def VC : ByteArray:=⟨#[49,32,45,32,50,32,42,32,45,51]⟩
def VB : ByteArray:=⟨#[110,101,116,119,111,114,107,32,110,32,123,32,112,114,111,112,101,114,116,121,32,34,97,34,59,32,125]⟩
def VA : ByteArray:=⟨#[110,101,116,119,111,114,107]⟩
def Ts : List Tok:=[⟨2,⟨#[49]⟩,1,1⟩,⟨4,⟨#[45]⟩,1,3⟩,⟨2,⟨#[50]⟩,1,5⟩,⟨4,⟨#[42]⟩,1,7⟩,⟨4,⟨#[45]⟩,1,9⟩,⟨2,⟨#[51]⟩,1,10⟩,⟨0,eS,1,11⟩]
def Tr : List Tok:=[⟨1,PS.fe,1,1⟩,⟨1,⟨#[110]⟩,1,9⟩,⟨4,PS.dM,1,11⟩,⟨1,PS.eC,1,13⟩,⟨3,⟨#[97]⟩,1,22⟩,⟨4,PS.aV,1,25⟩,⟨4,PS.dc,1,27⟩,⟨0,eS,1,28⟩]
def Tq : List Tok:=[⟨1,PS.fe,1,1⟩,⟨0,eS,1,8⟩]
def Xi (L:List Tok)(l:List Tok)(t:Tok)(h:L=l ++ [t])(hk:t.kind=0):fA:=⟨L,none,fun _=>⟨l,t,h,hk⟩,fun _ h=>by cases h⟩
def xA : fA:=Xi Ts (Ts.take 6) ⟨0,eS,1,11⟩ rfl rfl
def xB : fA:=Xi Tr (Tr.take 7) ⟨0,eS,1,28⟩ rfl rfl
def xC : fA:=Xi Tq (Tq.take 1) ⟨0,eS,1,8⟩ rfl rfl
theorem gA : Co 11 VC 0=(Ts,none):=by kernel_rfl
theorem gB : Co 28 VB 0=(Tr,none):=by kernel_rfl
theorem gC : Co 8 VA 0=(Tq,none):=by kernel_rfl
theorem Ys : fQ VC=xA:=CE ((sM 11 VC 0 B3).symm.trans gA)
theorem Yr : fQ VB=xB:=CE ((sM 28 VB 0 B3).symm.trans gB)
theorem Yq : fQ VA=xC:=CE ((sM 8 VA 0 B3).symm.trans gC)
theorem Yg : yC dV VC=([[⟨1,1,1⟩,⟨1,2,1⟩,⟨1,3,1⟩,⟨6,0,0⟩,⟨4,0,0⟩,⟨3,0,0⟩]],none):=by
 rw [Sr dV Ys];kernel_rfl
theorem Yf : mw dV VB=(⟨⟨#[110]⟩,[⟨#[97]⟩],[],[]⟩,none):=by
 rw [Gb dV Yr];kernel_rfl
theorem Ye : mw dV VA=(⟨eS,[],[],[]⟩,some ⟨30,1,8,eS⟩):=by
 rw [Gb dV Yq];kernel_rfl
theorem uE {n:Nat}(h0:0 < n)(h:n < 4294967296):lm n=[UInt32.ofNat n]:=by
 rw [lm,if_neg A8,N6 h,lm,if_pos rfl]
theorem LO {oh:OH}{f:Bool}{v1 v2 v3 v4:V}{t1 t2 t3 t4:T}(h1:jF oh f v1 t1)(h2:jF oh f v2 t2)(h3:jF oh f v3 t3)(h4:jF oh f v4 t4):gM oh f (.agg [v1,v2,v3,v4]) (.agg [t1,t2,t3,t4]):=by
 refine⟨rfl,fun j v t e1 e2=>?_⟩
 match j with
 |0=>simp at e1 e2;subst e1;subst e2;exact h1
 |1=>simp at e1 e2;subst e1;subst e2;exact h2
 |2=>simp at e1 e2;subst e1;subst e2;exact h3
 |3=>simp at e1 e2;subst e1;subst e2;exact h4
 |j+4=>simp at e1
theorem yB (n:Nat)(h0:0 < n)(h:n < 4294967296):Ok Tryz.prog 15 [.af (.int .u32 n)] false (tT ⟨1,n,1⟩):=by
 refine aw bN mix Tryz.func15 rfl rfl B1 (zO rfl) ?_
 repeat'(first|(with_reducible first|(refine zz ?_;try intro K hK)|refine zi ?_|refine zh ?_)|((first|apply hK _ _ rfl|apply hK);clear hK K)|(guard_hyp hK;first|refine zx ?_|apply ab|apply aa|refine zW ?_|intro b0 hb)|((first|refine zj ?_|guard_hyp hK);refine zY ?_ ?_;all_goals(intro hb;(try simp only [sn,sb] at hb);try exact ao)))
 ·have e1:tn (lm n)=.sl ([UInt32.ofNat n].map bw):=by rw [uE h0 h];rfl
  have e2:tn (lm 1)=.sl ([(1:UInt32)].map bw):=by rw [uE B3 B3];rfl
  have e3:(UInt32.ofNat n).toNat=n:=by rw [E9];omega
  have e4:tT ⟨1,n,1⟩=.agg [.af (.int .i8 1),.af (.bool false),.sl ([UInt32.ofNat n].map bw),.sl ([(1:UInt32)].map bw)]:=by
   rw [<- e1,<- e2];unfold tT;rw [G4 (by simp only;omega)];rfl
  rw [e4];refine lU (l:=[.af (.int .i8 1),.af (.bool false),.own 2 0 0 1,.own 3 0 0 1]) rfl We rfl (D0 _) rfl rfl (LO (.af _) (.af _) ?_ ?_)
  ·exact gW (F:=fun u=>.af (.int .u32 u.toNat)) (G:=bw) (l:=[UInt32.ofNat n]) (o:=⟨1,[.af (.int .u32 n)],0,true⟩) rfl rfl rfl rfl (by rw [List.map_singleton,e3];rfl) (fun a _=>gp _) rfl
  ·exact gW (F:=fun u=>.af (.int .u32 u.toNat)) (G:=bw) (l:=[(1:UInt32)]) (o:=⟨1,[.af (.int .u32 1)],0,true⟩) rfl rfl rfl rfl rfl (fun a _=>gp _) rfl
end Go.Ev
