import Derived.Test.YthpoegdjffdojaaGreatDoorULaw
set_option linter.all false
set_option maxHeartbeats 4000000
set_option maxRecDepth 10000
namespace Go.Ev
open Go.Proofs
variable {W : fA}
theorem iK {P:Program}{fn:Func}{s:St}{vs:List V}{a a':Nat}{b b':Option dy}{n n' np t:Nat}{r:T}(hr:fn.results.toList=[.tmp t])(h0:0≠t)(hs:ae s.oh 0=some (dE W a' b' n'))
  (hf:iT s.oh (dz W a' b' n') false (aA s.env t) r) (hnp:0 < np) (he:aA s.env 0=.ref 0 0 0 0) :
  iR P fn np (dz W a b n) (.ref 0 0 0 0 :: vs) (dz W a' b' n') (V.nC false r) .ret s:=by
 have e1:aA [(0,V.ref 0 0 0 0),(t,V.nC false r)] t=V.nC false r:=by
  simp [aA,h0]
 refine⟨trivial,true,⟨s.n,[(0,.ref 0 0 0 0),(t,V.nC false r)],dz W a' b' n'⟩,?_,ot rfl hnp rfl,ua rfl,?_⟩
 ·show Lf _ ⟨s.n,s.env,s.oh⟩;refine bx ⟨?_,Pe hf,trivial⟩ ⟨au hs (aW _ _ _),trivial⟩;rw [he];exact Lc.same _ rfl
 ·rw [hr];show vB _ _ (aA _ t) _;rw [e1];exact PX r
def Uh (N:Nat)(z:PS W×List ByteArray×Nat):St:=⟨N,[(0,.ref 0 0 0 0),(3,.own 1 z.2.2 0 z.2.2)],[(0,dE W z.1.at_ z.1.bad z.1.bu),(1,⟨1,z.2.1.map vS,z.2.2,true⟩)]⟩
theorem qH (σ:PS W)(hL:W.L.length<=1073741824)(hk:dK W (4,PS.aV)):jP Tryz.prog 29 (pO σ) [] [.ref 0 0 0 0] (pO (PS.props σ).2) (.ro false (jO (PS.props σ).1)):=by
 unfold pO;refine bd bN mix 1 (zO rfl) Tryz.func29 rfl rfl B1 B1 (zO rfl) ?vs ?_
 case vs=>exact pQ
 repeat'(first|(with_reducible first|(refine zz ?_;try intro K hK)|refine zi ?_|refine zh ?_)|((first|apply hK _ _ rfl|apply hK);clear hK K)|(guard_hyp hK;first|refine zx ?_|apply ab|apply aa|refine zW ?_|intro b0 hb)|((first|refine zj ?_|guard_hyp hK);refine zY ?_ ?_;all_goals(intro hb;(try simp only [sn,sb] at hb);try exact ao)))
 refine aT (PS W×List ByteArray×Nat) (Uh Tryz.f29.ntmps) (fun z=>z.2.2=z.2.1.length/\∃k,PS.fG k z.2.1 z.1=PS.props σ/\1<=k/\W.L.length < k+z.1.at_/\z.2.1.length+k=W.L.length+1) (fun z=>W.L.length - z.1.at_) [(3,1,1)] (σ,[],0) ⟨rfl,rfl,trivial⟩ ⟨rfl,_,rfl,N0 (C0 _),by dsimp only;omega,C2 _⟩ ⟨rfl,⟨rfl,rfl,rfl,rfl,trivial⟩,⟨rfl,rfl,trivial⟩,⟨fZ _,EO _ _,trivial⟩⟩ ?_;rintro⟨τ,l,n⟩ ⟨h0,k,h1,h2,h3,h4⟩;dsimp only at h0 h1 h2 h3 h4;obtain⟨k,rfl⟩:∃j,k=j+1:=⟨k - 1,by omega⟩
 have hcm:=gQ τ 1 PS.eC;rw [PS.fG] at h1
 cases hB:τ.du 1 PS.eC with
 |false=>
  rw [hB,if_neg B6] at h1;rw [hB] at hcm;rw [<- h1];unfold pO at hcm
  repeat'(first|(with_reducible first|(refine zz ?_;try intro K hK)|refine zi ?_|refine zh ?_)|((first|apply hK _ _ rfl|apply hK);clear hK K)|(guard_hyp hK;first|refine zx ?_|apply ab|apply aa|refine zW ?_|refine zp 0 (hcm) ?_|intro b0 hb)|((first|refine zj ?_|guard_hyp hK);refine zY ?_ ?_;all_goals(intro hb;(try simp only [sn,sb] at hb);try exact ao)))
  exact iK (r:=jO l) rfl B3 rfl (BN rfl rfl rfl h0.symm) B3 rfl
 |true=>
  obtain⟨t,ht,hk2,-⟩:=PS.cj hB;have hlt:=(PS.aX ht).2.2;have ha:=PS.dx ht (by rw [hk2];decide);rw [hB,if_pos rfl] at h1;rw [hB,PS.az ht,bF ht] at hcm;have htx:=YV τ.aK 3 B3 hL;rw [eL ht (by rw [hk2];decide)] at htx;have hsg:=cY [(4,PS.aV)] (PS.take 3 τ.aK).2 hL B3 B3 (fun p hp=>by obtain rfl:=HQ.1 hp;exact hk);unfold pO at htx hsg;unfold Uh;simp only [(PS.aX ht).1]
  repeat'(first|(with_reducible first|(refine zz ?_;try intro K hK)|refine zi ?_|refine zh ?_)|((first|apply hK _ _ rfl|apply hK);clear hK K)|(guard_hyp hK;first|refine zx ?_|apply ab|apply aa|refine zW ?_|refine zp 0 (hcm) ?_|refine zp 0 (htx) ?_|(refine' Or.inr (Or.inr (Or.inl (bY ([(4,PS.aV)]) _ _ (hsg) ?hga ?hgb ?hgc ?hgd ?_)));(case hga=>rfl);(case hgb=>rfl);(case hgc=>rfl);(case hgd=>exact K5 (zO rfl)))|intro b0 hb)|((first|refine zj ?_|guard_hyp hK);refine zY ?_ ?_;all_goals(intro hb;(try simp only [sn,sb] at hb);try exact ao)))
  have f1:=(PS.dC 3 τ.aK).le;have f2:=(PS.aJ 4 PS.aV (PS.take 3 τ.aK).2).le;refine⟨(PS.aO 4 PS.aV (PS.take 3 τ.aK).2,l ++ [(PS.take 3 τ.aK).1],n+1),⟨by dsimp only;rw [List.length_append,List.length_singleton];omega,k,h1,by omega,by dsimp only;omega,by dsimp only;rw [List.length_append,List.length_singleton];omega⟩,by dsimp only;omega,rfl,⟨rfl,rfl,rfl,rfl,trivial⟩,⟨rfl,?_,trivial⟩,⟨fZ _,EO _ _,trivial⟩⟩;exact B4 (fun e=>some (⟨1,e,n+1,true⟩:Obj)) (tq (F:=vS) h0)
theorem uf {P:Program}{C:CT}(hC:∀q ts r,C q ts r->iE P q ts r)(hmix:P.follows .mixedOrders=true){q:FuncId}{fn:Func}{c:Code}{a a':Nat}{b b':Option dy}{n n':Nat}{w:Wr}{r:V}(np:Nat)(hnp:np<=2)
  (hfn:P.funcs[q]?=some fn) (hname:(fn.name == "runtime.NumGoroutine")=false) (hbody:fn.body=some c) (hok:okB fn.ntmps c=true) (hpar:fT np c=true) (hlen:2<=fn.ntmps)
  (h:cK P C c ⟨fn.ntmps,dq 0 [.ref 0 0 0 0,.wr w 0 0 0 0],[(0,dE W a b n)]⟩ (iR P fn np (dz W a b n) [.ref 0 0 0 0,.wr w 0 0 0 0] (dz W a' b' n') r)):jP P q (dz W a b n) [] [.ref 0 0 0 0,.wr w 0 0 0 0] (dz W a' b' n') r:=
 di hC hmix np hnp hfn hname hbody hok hpar hlen
  (fun i o h=>by
   obtain⟨rfl,rfl⟩:=aR h
   exact⟨rfl,rfl,fZ _⟩)
  (xH rfl rfl)
  (fun i o h=>by
   obtain⟨rfl,rfl⟩:=aR h
   exact .inl rfl)
  (fun i o o' h1 h2 h3 h4=>by
   obtain⟨rfl,rfl⟩:=pa h2;obtain⟨-,rfl⟩:=aR h1
   exact⟨rfl,wU _⟩) h
def Ui (N f:Nat)(z:PS W×List ByteArray×Nat):St:=⟨N,[(0,.ref 0 0 0 0),(1,.wr (.Tf f) 0 0 0 0),(5,.own 1 z.2.2 0 z.2.1.length)],[(0,dE W z.1.at_ z.1.bad z.1.bu),(1,⟨1,z.2.1.map vS,z.2.2,true⟩)]⟩
def PS.VN (k:Nat)(l:List ByteArray)(τ:PS W):List ByteArray×PS W:=if τ.du 4 PS.bo=true then PS.iy k l τ.aK else(l,τ.settle)
theorem wR (k:Nat)(l:List ByteArray)(σ:PS W):PS.iy (k+1) l σ=PS.VN k (l ++ [(PS.take 1 σ).1]) (PS.take 1 σ).2:=rfl
def Yh (R:List ByteArray×PS W)(z:PS W×List ByteArray×Nat):Prop:=z.2.1.length<=z.1.at_+1/\z.1.at_<=W.L.length/\∃k,PS.VN k z.2.1 z.1=R/\W.L.length<=k+z.1.at_
theorem qI (σ:PS W)(hL:W.L.length<=1073741824)(ha0:σ.at_<=W.L.length):jP Tryz.prog 57 (pO σ) [] [.ref 0 0 0 0,.wr (.Tf 28) 0 0 0 0] (pO (PS.gT σ).2) (.ro false (jO (PS.gT σ).1)):=by
 have c0:=mc σ hL;have f0:=PS.dC 1 σ;unfold PS.gT;rw [wR];unfold pO at c0 |-;refine uf bN mix 2 (zO rfl) Tryz.func57 rfl rfl B1 B1 (zO rfl) ?_
 repeat'(first|(with_reducible first|(refine zz ?_;try intro K hK)|refine zi ?_|refine zh ?_)|((first|apply hK _ _ rfl|apply hK);clear hK K)|(guard_hyp hK;first|refine zx ?_|apply ab|apply aa|refine zW ?_|(refine yq 0 (c0) ?hga ?hgb ?hgc ?_;(case hga=>rfl);(case hgb=>rfl);(case hgc=>exact fun _ _=>rfl))|intro b0 hb)|((first|refine zj ?_|guard_hyp hK);refine zY ?_ ?_;all_goals(intro hb;(try simp only [sn,sb] at hb);try exact ao)))
 generalize hR:PS.VN W.L.length ([] ++ [(PS.take 1 σ).1]) (PS.take 1 σ).2=R;refine aT (PS W×List ByteArray×Nat) (Ui Tryz.f57.ntmps 28) (Yh R) (fun z=>W.L.length - z.1.at_) [] ((PS.take 1 σ).2,[(PS.take 1 σ).1],0) trivial ⟨N0 (C0 _),f0.hi ha0,_,hR,N1 _ _⟩ ⟨rfl,⟨rfl,rfl,rfl,rfl,rfl,rfl,trivial⟩,⟨rfl,rfl,trivial⟩,⟨fZ _,EO _ _,trivial⟩⟩ ?_;rintro⟨τ,l,v⟩ ⟨h1,h2,k,h3,h4⟩;dsimp only at h1 h2 h3 h4;unfold Ui;dsimp only;unfold PS.VN at h3
 cases hb:τ.bad with
 |some f=>
  have hbb:τ.bad≠none:=by rw [hb];exact fun h=>by cases h
  rw [PS.nr hbb,if_neg B6,PS.jb hbb] at h3;rw [<- h3];dsimp only;rw [hb]
  repeat'(first|(with_reducible first|(refine zz ?_;try intro K hK)|refine zi ?_|refine zh ?_)|((first|apply hK _ _ rfl|apply hK);clear hK K)|(guard_hyp hK;first|refine zx ?_|apply ab|apply aa|refine zW ?_|intro b0 hb)|((first|refine zj ?_|guard_hyp hK);refine zY ?_ ?_;all_goals(intro hb;(try simp only [sn,sb] at hb);try exact ao)))
  exact iK (r:=jO l) rfl B3 rfl (BN rfl rfl rfl rfl) B3 rfl
 |none=>
  have cs:=ij τ PS.bo hL;unfold PS.TE at cs
  cases hB:τ.du 4 PS.bo with
  |false=>
   rw [hB,if_neg B6] at h3 cs;rw [<- h3];unfold pO at cs;rw [hb] at cs
   repeat'(first|(with_reducible first|(refine zz ?_;try intro K hK)|refine zi ?_|refine zh ?_)|((first|apply hK _ _ rfl|apply hK);clear hK K)|(guard_hyp hK;first|refine zx ?_|apply ab|apply aa|refine zW ?_|refine zp 0 (cs) ?_|intro b0 hb)|((first|refine zj ?_|guard_hyp hK);refine zY ?_ ?_;all_goals(intro hb;(try simp only [sn,sb] at hb);try exact ao)))
   exact iK (r:=jO l) rfl B3 rfl (BN rfl rfl rfl rfl) B3 rfl
  |true=>
   obtain⟨t,ht,hk2,-⟩:=PS.cj hB;have hlt:=(PS.aX ht).2.2;have hav:=PS.dx ht (by rw [hk2];decide);have haf:=PS.bq hB B3;rw [hB,if_pos rfl] at h3 cs;obtain⟨k,rfl⟩:∃j,k=j+1:=⟨k - 1,by omega⟩
   rw [wR] at h3;have cn:=mc τ.aK hL;have f1:=PS.dC 1 τ.aK;have f2:=f1.le;rw [eL ht (by rw [hk2];decide)] at cs cn;unfold pO at cs cn;rw [hb] at cs
   repeat'(first|(with_reducible first|(refine zz ?_;try intro K hK)|refine zi ?_|refine zh ?_)|((first|apply hK _ _ rfl|apply hK);clear hK K)|(guard_hyp hK;first|refine zx ?_|apply ab|apply aa|refine zW ?_|refine zp 0 (cs) ?_|(refine yq 0 (cn) ?hga ?hgb ?hgc ?_;(case hga=>rfl);(case hgb=>rfl);(case hgc=>exact fun _ _=>rfl))|intro b0 hb)|((first|refine zj ?_|guard_hyp hK);refine zY ?_ ?_;all_goals(intro hb;(try simp only [sn,sb] at hb);try exact ao)))
   refine⟨((PS.take 1 τ.aK).2,l ++ [(PS.take 1 τ.aK).1],v+1),⟨by dsimp only;rw [List.length_append,List.length_singleton];omega,f1.hi A8,k,h3,by dsimp only;omega⟩,by dsimp only;omega,rfl,⟨rfl,rfl,rfl,rfl,?_,rfl,trivial⟩,⟨rfl,?_,trivial⟩,⟨fZ _,EO _ _,trivial⟩⟩
   ·dsimp only;rw [List.length_append];rfl
   ·exact B4 (fun e=>some (⟨1,e,v+1,true⟩:Obj)) (tq (F:=vS) rfl)
end Go.Ev
namespace Go.Ev
open Go.Proofs
variable {W : fA}
open PS (cE)
def sx (W:fA)(a:Nat)(b:Option dy)(n:Nat)(l:List cE)(v:Nat):OH:=[(0,dE W a b n),(3,⟨4,l.map vT,v,true⟩)]
def Bi (σ:PS W)(l:List cE):OH:=sx W σ.at_ σ.bad σ.bu l 0
theorem qx {a a':Nat}{b b':Option dy}{n n' v:Nat}{l:List cE}{i:Nat}{o:Obj}(h:ae (sx W a' b' n' l v ++ dz W a b n) i=some o):(i=0/\o=dE W a' b' n')\/(i=3/\o=⟨4,l.map vT,v,true⟩):=by
 by_cases h0:i=0
 ·subst h0;exact .inl ⟨rfl,(C6 h).symm⟩
 ·by_cases h3:i=3
  ·subst h3;exact .inr ⟨rfl,(C6 h).symm⟩
  ·rw [show sx W a' b' n' l v ++ dz W a b n=[(0,_),(3,_),(0,_)] from rfl,ae,if_neg (H5 h0),ae,if_neg (H5 h3),ae,if_neg (H5 h0)] at h;cases h
theorem fH {P:Program}{C:CT}(hC:∀q ts r,C q ts r->iE P q ts r)(hmix:P.follows .mixedOrders=true){q:FuncId}{fn:Func}{c:Code}{a a':Nat}{b b':Option dy}{n n':Nat}{l:List cE}{r:V}(np:Nat)(hnp:np<=1)
  (hfn:P.funcs[q]?=some fn) (hname:(fn.name == "runtime.NumGoroutine")=false) (hbody:fn.body=some c) (hok:okB fn.ntmps c=true) (hpar:fT np c=true) (hlen:1<=fn.ntmps)
  (h:cK P C c ⟨fn.ntmps,dq 0 [.ref 0 0 0 0],[(0,dE W a b n)]⟩ (iR P fn np (dz W a b n) [.ref 0 0 0 0] (sx W a' b' n' l 0) r)):jP P q (dz W a b n) [3] [.ref 0 0 0 0] (sx W a' b' n' l 0) r:=
 di hC hmix np hnp hfn hname hbody hok hpar hlen
  (fun i o h=>by
   obtain⟨rfl,rfl⟩:=aR h
   exact⟨rfl,rfl,fZ _⟩)
  (bT rfl)
  (fun i o h=>by
   by_cases h0:i=0
   ·subst h0;exact .inl rfl
   ·by_cases h3:i=3
    ·subst h3;exact .inr (HQ.2 rfl)
    ·rw [sx,ae,if_neg (H5 h0),ae,if_neg (H5 h3)] at h
     cases h)
  (fun i o o' h1 h2 h3 h4=>by
   obtain⟨rfl,rfl⟩:=aR h1;rcases qx h2 with⟨-,rfl⟩|⟨e,-⟩
   ·exact⟨rfl,wU _⟩
   ·cases e) h
theorem Si {s:St}{a a':Nat}{b b':Option dy}{n n' v:Nat}{l:List cE}(hs:ae s.oh 0=some (dE W a' b' n'))(h3:ae s.oh 3=some ⟨4,l.map vT,v,true⟩):Bm s.oh (sx W a' b' n' l 0 ++ dz W a b n):=by
 intro i o h;rcases qx h with⟨rfl,rfl⟩|⟨rfl,rfl⟩
 ·refine⟨_,hs,rfl,rfl,rfl,rfl,fun k e e1 he he1=>?_⟩;rw [he] at he1;obtain rfl:e=e1:=by simpa using he1
  exact jk (aW _ _ _ e (MH he))
 ·refine⟨_,h3,rfl,rfl,rfl,rfl,fun k e e1 he he1=>?_⟩;rw [he] at he1;obtain rfl:e=e1:=by simpa using he1
  exact jk (jR l e (MH he))
theorem ni {P:Program}{fn:Func}{s:St}{vs:List V}{a a':Nat}{b b':Option dy}{n n' np t v:Nat}{l:List cE}(len:Nat)(hlen:len=l.length)(hr:fn.results.toList=[.tmp t])(h0:0≠t)(hs:rW s.oh (sx W a' b' n' l v) 0 (dE W a' b' n'))
  (hv9:LV s.oh (sx W a' b' n' l v) (aA s.env t) (.own 3 v 0 len)) (hl:rW s.oh (sx W a' b' n' l v) 3 ⟨4,l.map vT,v,true⟩) (hnp:0 < np) (he:aA s.env 0=.ref 0 0 0 0) :
  iR P fn np (dz W a b n) (.ref 0 0 0 0 :: vs) (sx W a' b' n' l 0) (.own 3 0 0 l.length) .ret s:=by
 subst hlen
 have e1:aA [(0,V.ref 0 0 0 0),(t,V.own 3 v 0 l.length)] t=V.own 3 v 0 l.length:=by
  simp [aA,h0]
 refine⟨trivial,true,⟨s.n,[(0,.ref 0 0 0 0),(t,.own 3 v 0 l.length)],sx W a' b' n' l v⟩,?_,fun i o o' g1 g2 g3=>?_,Si rfl rfl,?_⟩
 ·show Lf _ ⟨s.n,s.env,s.oh⟩;refine bx ⟨?_,hv9,trivial⟩ ⟨hs,hl,trivial⟩;rw [he];exact Lc.same _ rfl
 ·obtain⟨rfl,rfl⟩:=aR g1;exact⟨D0 _,⟨_,rfl,rfl,rfl,rfl⟩,0,_,hnp,rfl,rfl,⟨rfl,rfl⟩⟩
 ·rw [hr]
  have h9:mO (sx W a' b' n' l v) (sx W a' b' n' l 0 ++ dz W a b n) (aA [(0,V.ref 0 0 0 0),(t,V.own 3 v 0 l.length)] t) (.own 3 0 0 l.length):=by
   rw [e1];exact mO.own 3 v 0 0 _ _ _ rfl rfl rfl rfl
  exact h9
theorem sw {P:Program}{fn:Func}{s:St}{vs:List V}{a a':Nat}{b b':Option dy}{n n' np t:Nat}(hr:fn.results.toList=[.tmp t])(h0:0≠t)(hs:rW s.oh (sx W a' b' n' [] 0) 0 (dE W a' b' n'))
  (he9:aA s.env t=.emp) (h3:ae s.oh 3=none) (hnp:0 < np) (he:aA s.env 0=.ref 0 0 0 0) :
  iR P fn np (dz W a b n) (.ref 0 0 0 0 :: vs) (sx W a' b' n' [] 0) (.own 3 0 0 ([]:List cE).length) .ret s:=
 ni 0 rfl hr h0 hs (by rw [he9];exact Lc.gL 3 _ h3 rfl) (ki h3) hnp he
theorem fk {C:CT}{q:FuncId}{args:List V}{oh:OH}{a a':Nat}{b b':Option dy}{n n':Nat}{l:List cE}{k:Acc->Prop}(id c:Nat)(hc:C q [] (.gen (dz W a b n) [3] [.ref 0 0 0 0] (sx W a' b' n' l 0) (.own 3 0 0 l.length)))
  (ha:args=[.ref id 0 0 0]) (hp:ae oh id=some (dE W a b n)) (hn:ae oh c=none) (hne:id≠c)
  (hk:k ⟨[(id,dE W a b n)],[c],[(id,dE W a' b' n'),(c,⟨4,l.map vT,0,true⟩)],.own c 0 0 l.length⟩):oH C q args oh k:=by
 have ep:∀a b n,(dE W a b n).rn (qR [(0,id,0),(3,c,0)]) (Ac [(0,id,0),(3,c,0)]) 0=dE W a b n:=by
  intro a b n;show Obj.mk 5 [(KS W a b n).oI _ _] 0 true=_;rw [oX _ _ (je a b n)];rfl
 refine⟨_,_,_,_,_,qR [(0,id,0),(3,c,0)],Ac [(0,id,0),(3,c,0)],hc,by rw [ha];rfl,fun p hp'=>?_,fun i hi=>?_,fun i hi j hj hij=>?_,?_⟩
 ·obtain rfl:=HQ.1 hp';show ae oh id=some ((dE W a b n).rn _ _ 0);rw [ep];exact hp
 ·obtain rfl:=HQ.1 hi;exact hn
 ·have hi:i=0\/i=3:=by simpa [dz] using hi
  have hj:j=0\/j=3:=by simpa [dz] using hj
  rcases hi with rfl|rfl<;>rcases hj with rfl|rfl
  ·rfl
  ·exact absurd hij hne
  ·exact absurd hij.symm hne
  ·rfl
 ·have e1:pN (qR [(0,id,0),(3,c,0)]) (Ac [(0,id,0),(3,c,0)]) (dz W a b n)=[(id,dE W a b n)]:=by
   show [(id,(dE W a b n).rn _ _ 0)]=_;rw [ep]
  have e2:pN (qR [(0,id,0),(3,c,0)]) (Ac [(0,id,0),(3,c,0)]) (sx W a' b' n' l 0)=[(id,dE W a' b' n'),(c,⟨4,l.map vT,0,true⟩)]:=by
   show [(id,(dE W a' b' n').rn _ _ 0),(c,Obj.mk 4 ((l.map vT).map _) 0 true)]=_;rw [ep,Di (F:=vT) (fun t=>oX _ _ (kE t))]
  rw [e1,e2];exact hk
def NU (W:fA)(N:Nat)(z:PS W×List cE×Nat×Nat):St:=⟨N,[(0,.ref 0 0 0 0),(3,.own 3 z.2.2.1 0 z.2.2.2)],sx W z.1.at_ z.1.bad z.1.bu z.2.1 z.2.2.1⟩
theorem mZ {σ:PS W}{w:ByteArray}(h:σ.du 4 w=true):σ.TE w=σ.aK:=if_pos h
theorem qm {σ:PS W}{w:ByteArray}(h:σ.du 4 w=false):σ.TE w=σ.settle:=if_neg (by rw [h];exact B6)
theorem xk {R:List cE×PS W}{f:PS.Rd W}{a b:ByteArray}{ka kb:Int}{k:Nat}{l:List cE}{τ:PS W}(h:PS.da f a b ka kb (k+1) l τ=R) :
  (τ.du 4 a=true->PS.da f a b ka kb k (l ++ (f τ.aK).1 ++ [⟨ka,0,0⟩]) (f τ.aK).2=R)/\
  (τ.du 4 a=false->τ.du 4 b=true->PS.da f a b ka kb k (l ++ (f τ.aK).1 ++ [⟨kb,0,0⟩]) (f τ.aK).2=R)/\
  (τ.du 4 a=false->τ.du 4 b=false->(l,τ.settle)=R):=by
 rw [PS.da] at h;refine⟨fun h1=>?_,fun h1 h2=>?_,fun h1 h2=>?_⟩
 ·rw [if_pos h1] at h;exact h
 ·rw [if_neg (by rw [h1];exact B6),if_pos h2] at h;exact h
 ·rw [if_neg (by rw [h1];exact B6),if_neg (by rw [h2];exact B6)] at h;exact h
def XD (W:fA)(R:List cE×PS W)(f:PS.Rd W)(a b:ByteArray)(ka kb:Int)(d:Nat)(z:PS W×List cE×Nat×Nat):Prop:=
 z.2.2.2=z.2.1.length/\z.1.bu+d=65/\z.1.at_<=W.L.length/\z.2.1.length<=2 * z.1.at_/\∃k,PS.da f a b ka kb k z.2.1 z.1=R/\1<=k/\W.L.length < k+z.1.at_
def vt (P:Program)(q:FuncId)(d:Nat)(f:PS.Rd W):Prop:=∀σ:PS W,σ.bu+d=65->σ.at_<=W.L.length->jP P q (pO σ) [3] [.ref 0 0 0 0] (Bi (f σ).2 (f σ).1) (.own 3 0 0 (f σ).1.length)
theorem Bn {f:PS.Rd W}{d:Nat}(hL:W.L.length<=1073741824)(hgood:PS.Good f)(hc:vt Tryz.prog 74 d f):vt Tryz.prog 61 d (PS.prod (X:=W) f):=by
 intro σ ho ha;have h0:=hc σ ho ha;unfold Bi at h0;unfold pO at h0 |-;generalize hR:PS.prod f σ=R;refine fH bN mix 1 (zO rfl) Tryz.func61 rfl rfl B1 B1 (zO rfl) ?_;obtain⟨g1,g2⟩:=hgood σ
 repeat'(first|(with_reducible first|(refine zz ?_;try intro K hK)|refine zi ?_|refine zh ?_)|((first|apply hK _ _ rfl|apply hK);clear hK K)|(guard_hyp hK;first|refine zx ?_|apply ab|apply aa|refine zW ?_|(refine Or.inr (Or.inr (Or.inl (fk 0 3 (h0) ?hga ?hgb ?hgc ?hgd ?_)));(case hga=>rfl);(case hgb=>rfl);(case hgc=>rfl);(case hgd=>decide))|intro b0 hb)|((first|refine zj ?_|guard_hyp hK);refine zY ?_ ?_;all_goals(intro hb;(try simp only [sn,sb] at hb);try exact ao)))
 refine uD (PS W×List cE×Nat×Nat) (NU W Tryz.f61.ntmps) (XD W R f PS.mn PS.lp 4 5 d) (fun z=>W.L.length - z.1.at_) ((f σ).2,(f σ).1,0,(f σ).1.length) ⟨rfl,by rw [g1.bu];exact ho,g1.hi ha,by dsimp only;omega,_,hR,N0 (C0 _),by dsimp only;omega⟩ (bx ⟨Lc.same _ rfl,Lc.same _ rfl,trivial⟩ ⟨au rfl (aW _ _ _),au rfl (jR _),trivial⟩) ?_;rintro⟨τ,l,v,n⟩ ⟨q0,q1,q2,q3,k,q4,q5,q6⟩;dsimp only at q0 q1 q2 q3 q4 q5 q6;subst q0;obtain⟨k,rfl⟩:∃j,k=j+1:=⟨k - 1,by omega⟩
 obtain⟨y1,y2,y3⟩:=xk q4;have ca:=ij τ PS.mn hL;unfold NU;dsimp only
 cases hA:τ.du 4 PS.mn with
 |true=>
  obtain⟨t,ht,hk,-⟩:=PS.cj hA;have hlt:=(PS.aX ht).2.2;have hav:=PS.dx ht (by rw [hk];decide);have haf:=PS.bq hA B3;have hc1:=hc τ.aK (by rw [hav.2.2];exact q1) (haf.hi q2);obtain⟨g3,g4⟩:=hgood τ.aK;have g5:=g3.le;have g6:=g3.hi (haf.hi q2);unfold Bi at hc1;rw [eL ht (by rw [hk];decide)] at hc1;rw [mZ hA,hA,eL ht (by rw [hk];decide),bF ht] at ca;rw [(PS.aX ht).1]
  repeat'(first|(refine UO (sL fun _=>rfl) ?_)|(with_reducible first|(refine zz ?_;try intro K hK)|refine zi ?_|refine zh ?_)|((first|apply hK _ _ rfl|apply hK);clear hK K)|(guard_hyp hK;first|refine zx ?_|apply ab|apply aa|refine zW ?_|refine zp 0 (ca) ?_|(refine Or.inr (Or.inr (Or.inl (fk 0 7 (hc1) ?hga ?hgb ?hgc ?hgd ?_)));(case hga=>rfl);(case hgb=>rfl);(case hgc=>rfl);(case hgd=>decide))|intro b0 hb)|((first|refine zj ?_|guard_hyp hK);refine zY ?_ ?_;all_goals(intro hb;(try simp only [sn,sb] at hb);try exact ao)))
  refine⟨((f τ.aK).2,l ++ (f τ.aK).1 ++ [⟨4,0,0⟩],v+1+1,l.length+((((f τ.aK).1.map vT).drop 0).take (f τ.aK).1.length).length+1),⟨?_,by dsimp only;rw [g3.bu,hav.2.2];exact q1,g6,?_,k,y1 hA,by omega,by dsimp only;omega⟩,by dsimp only;omega,bx ⟨Lc.same _ rfl,Lc.same _ rfl,trivial⟩ ⟨au rfl (aW _ _ _),pt (l:=l) (l2:=(f τ.aK).1) (k:=4) rfl rfl rfl (by simp only [List.length_take,List.length_drop,List.length_map];omega) rfl (pq 4),trivial⟩⟩
  ·simp only [List.length_take,List.length_drop,List.length_map,List.length_append,List.length_singleton];omega
  ·simp only [List.length_append,List.length_singleton];omega
 |false=>
  rw [hA,qm hA] at ca;have cb:=ij τ.settle PS.lp hL;rw [dw] at cb
  cases hB:τ.du 4 PS.lp with
  |true=>
   obtain⟨t,ht,hk,-⟩:=PS.cj hB;have hlt:=(PS.aX ht).2.2;have hav:=PS.dx ht (by rw [hk];decide);have haf:=PS.bq hB B3;have hc1:=hc τ.aK (by rw [hav.2.2];exact q1) (haf.hi q2);obtain⟨g3,g4⟩:=hgood τ.aK;have g5:=g3.le;have g6:=g3.hi (haf.hi q2);unfold Bi at hc1;rw [eL ht (by rw [hk];decide)] at hc1;rw [PS.az ht,bF ht] at ca;rw [PS.az ht,mZ hB,hB,eL ht (by rw [hk];decide),bF ht] at cb;rw [(PS.aX ht).1]
   repeat'(first|(refine UO (sL fun _=>rfl) ?_)|(with_reducible first|(refine zz ?_;try intro K hK)|refine zi ?_|refine zh ?_)|((first|apply hK _ _ rfl|apply hK);clear hK K)|(guard_hyp hK;first|refine zx ?_|apply ab|apply aa|refine zW ?_|refine zp 0 (ca) ?_|refine zp 0 (cb) ?_|(refine Or.inr (Or.inr (Or.inl (fk 0 7 (hc1) ?hga ?hgb ?hgc ?hgd ?_)));(case hga=>rfl);(case hgb=>rfl);(case hgc=>rfl);(case hgd=>decide))|intro b0 hb)|((first|refine zj ?_|guard_hyp hK);refine zY ?_ ?_;all_goals(intro hb;(try simp only [sn,sb] at hb);try exact ao)))
   refine⟨((f τ.aK).2,l ++ (f τ.aK).1 ++ [⟨5,0,0⟩],v+1+1,l.length+((((f τ.aK).1.map vT).drop 0).take (f τ.aK).1.length).length+1),⟨?_,by dsimp only;rw [g3.bu,hav.2.2];exact q1,g6,?_,k,y2 hA hB,by omega,by dsimp only;omega⟩,by dsimp only;omega,bx ⟨Lc.same _ rfl,Lc.same _ rfl,trivial⟩ ⟨au rfl (aW _ _ _),pt (l:=l) (l2:=(f τ.aK).1) (k:=5) rfl rfl rfl (by simp only [List.length_take,List.length_drop,List.length_map];omega) rfl (pq 5),trivial⟩⟩
   ·simp only [List.length_take,List.length_drop,List.length_map,List.length_append,List.length_singleton];omega
   ·simp only [List.length_append,List.length_singleton];omega
  |false=>
   have e9:τ.settle.du 4 PS.lp=false:=by rw [dw];exact hB
   rw [hB,qm e9,sJ] at cb;unfold pO at ca cb
   repeat'(first|(with_reducible first|(refine zz ?_;try intro K hK)|refine zi ?_|refine zh ?_)|((first|apply hK _ _ rfl|apply hK);clear hK K)|(guard_hyp hK;first|refine zx ?_|apply ab|apply aa|refine zW ?_|refine zp 0 (ca) ?_|refine zp 0 (cb) ?_|intro b0 hb)|((first|refine zj ?_|guard_hyp hK);refine zY ?_ ?_;all_goals(intro hb;(try simp only [sn,sb] at hb);try exact ao)))
   rw [<- y3 hA hB];exact ni (l:=l) (v:=v) _ rfl rfl B3 (au rfl (aW _ _ _)) (Lc.same _ rfl) (au rfl (jR _)) B3 rfl
theorem Fy {f:PS.Rd W}{d:Nat}(hL:W.L.length<=1073741824)(hgood0:PS.Good f)(hc:vt Tryz.prog 61 d (PS.prod (X:=W) f)):vt Tryz.prog 39 d (PS.sum (X:=W) f):=by
 intro σ ho ha;have hgood:=PS.qy hgood0;have h0:=hc σ ho ha;unfold Bi at h0;unfold pO at h0 |-;generalize hR:PS.sum f σ=R;unfold PS.sum at hR;generalize PS.prod f=f at *;refine fH bN mix 1 (zO rfl) Tryz.func39 rfl rfl B1 B1 (zO rfl) ?_;obtain⟨g1,g2⟩:=hgood σ
 repeat'(first|(with_reducible first|(refine zz ?_;try intro K hK)|refine zi ?_|refine zh ?_)|((first|apply hK _ _ rfl|apply hK);clear hK K)|(guard_hyp hK;first|refine zx ?_|apply ab|apply aa|refine zW ?_|(refine Or.inr (Or.inr (Or.inl (fk 0 3 (h0) ?hga ?hgb ?hgc ?hgd ?_)));(case hga=>rfl);(case hgb=>rfl);(case hgc=>rfl);(case hgd=>decide))|intro b0 hb)|((first|refine zj ?_|guard_hyp hK);refine zY ?_ ?_;all_goals(intro hb;(try simp only [sn,sb] at hb);try exact ao)))
 refine uD (PS W×List cE×Nat×Nat) (NU W Tryz.f39.ntmps) (XD W R f PS.mo PS.ft 2 3 d) (fun z=>W.L.length - z.1.at_) ((f σ).2,(f σ).1,0,(f σ).1.length) ⟨rfl,by rw [g1.bu];exact ho,g1.hi ha,by dsimp only;omega,_,hR,N0 (C0 _),by dsimp only;omega⟩ (bx ⟨Lc.same _ rfl,Lc.same _ rfl,trivial⟩ ⟨au rfl (aW _ _ _),au rfl (jR _),trivial⟩) ?_;rintro⟨τ,l,v,n⟩ ⟨q0,q1,q2,q3,k,q4,q5,q6⟩;dsimp only at q0 q1 q2 q3 q4 q5 q6;subst q0;obtain⟨k,rfl⟩:∃j,k=j+1:=⟨k - 1,by omega⟩
 obtain⟨y1,y2,y3⟩:=xk q4;have ca:=ij τ PS.mo hL;unfold NU;dsimp only
 cases hA:τ.du 4 PS.mo with
 |true=>
  obtain⟨t,ht,hk,-⟩:=PS.cj hA;have hlt:=(PS.aX ht).2.2;have hav:=PS.dx ht (by rw [hk];decide);have haf:=PS.bq hA B3;have hc1:=hc τ.aK (by rw [hav.2.2];exact q1) (haf.hi q2);obtain⟨g3,g4⟩:=hgood τ.aK;have g5:=g3.le;have g6:=g3.hi (haf.hi q2);unfold Bi at hc1;rw [eL ht (by rw [hk];decide)] at hc1;rw [mZ hA,hA,eL ht (by rw [hk];decide),bF ht] at ca;rw [(PS.aX ht).1]
  repeat'(first|(refine UO (sL fun _=>rfl) ?_)|(with_reducible first|(refine zz ?_;try intro K hK)|refine zi ?_|refine zh ?_)|((first|apply hK _ _ rfl|apply hK);clear hK K)|(guard_hyp hK;first|refine zx ?_|apply ab|apply aa|refine zW ?_|refine zp 0 (ca) ?_|(refine Or.inr (Or.inr (Or.inl (fk 0 7 (hc1) ?hga ?hgb ?hgc ?hgd ?_)));(case hga=>rfl);(case hgb=>rfl);(case hgc=>rfl);(case hgd=>decide))|intro b0 hb)|((first|refine zj ?_|guard_hyp hK);refine zY ?_ ?_;all_goals(intro hb;(try simp only [sn,sb] at hb);try exact ao)))
  refine⟨((f τ.aK).2,l ++ (f τ.aK).1 ++ [⟨2,0,0⟩],v+1+1,l.length+((((f τ.aK).1.map vT).drop 0).take (f τ.aK).1.length).length+1),⟨?_,by dsimp only;rw [g3.bu,hav.2.2];exact q1,g6,?_,k,y1 hA,by omega,by dsimp only;omega⟩,by dsimp only;omega,bx ⟨Lc.same _ rfl,Lc.same _ rfl,trivial⟩ ⟨au rfl (aW _ _ _),pt (l:=l) (l2:=(f τ.aK).1) (k:=2) rfl rfl rfl (by simp only [List.length_take,List.length_drop,List.length_map];omega) rfl (pq 2),trivial⟩⟩
  ·simp only [List.length_take,List.length_drop,List.length_map,List.length_append,List.length_singleton];omega
  ·simp only [List.length_append,List.length_singleton];omega
 |false=>
  rw [hA,qm hA] at ca;have cb:=ij τ.settle PS.ft hL;rw [dw] at cb
  cases hB:τ.du 4 PS.ft with
  |true=>
   obtain⟨t,ht,hk,-⟩:=PS.cj hB;have hlt:=(PS.aX ht).2.2;have hav:=PS.dx ht (by rw [hk];decide);have haf:=PS.bq hB B3;have hc1:=hc τ.aK (by rw [hav.2.2];exact q1) (haf.hi q2);obtain⟨g3,g4⟩:=hgood τ.aK;have g5:=g3.le;have g6:=g3.hi (haf.hi q2);unfold Bi at hc1;rw [eL ht (by rw [hk];decide)] at hc1;rw [PS.az ht,bF ht] at ca;rw [PS.az ht,mZ hB,hB,eL ht (by rw [hk];decide),bF ht] at cb;rw [(PS.aX ht).1]
   repeat'(first|(refine UO (sL fun _=>rfl) ?_)|(with_reducible first|(refine zz ?_;try intro K hK)|refine zi ?_|refine zh ?_)|((first|apply hK _ _ rfl|apply hK);clear hK K)|(guard_hyp hK;first|refine zx ?_|apply ab|apply aa|refine zW ?_|refine zp 0 (ca) ?_|refine zp 0 (cb) ?_|(refine Or.inr (Or.inr (Or.inl (fk 0 7 (hc1) ?hga ?hgb ?hgc ?hgd ?_)));(case hga=>rfl);(case hgb=>rfl);(case hgc=>rfl);(case hgd=>decide))|intro b0 hb)|((first|refine zj ?_|guard_hyp hK);refine zY ?_ ?_;all_goals(intro hb;(try simp only [sn,sb] at hb);try exact ao)))
   refine⟨((f τ.aK).2,l ++ (f τ.aK).1 ++ [⟨3,0,0⟩],v+1+1,l.length+((((f τ.aK).1.map vT).drop 0).take (f τ.aK).1.length).length+1),⟨?_,by dsimp only;rw [g3.bu,hav.2.2];exact q1,g6,?_,k,y2 hA hB,by omega,by dsimp only;omega⟩,by dsimp only;omega,bx ⟨Lc.same _ rfl,Lc.same _ rfl,trivial⟩ ⟨au rfl (aW _ _ _),pt (l:=l) (l2:=(f τ.aK).1) (k:=3) rfl rfl rfl (by simp only [List.length_take,List.length_drop,List.length_map];omega) rfl (pq 3),trivial⟩⟩
   ·simp only [List.length_take,List.length_drop,List.length_map,List.length_append,List.length_singleton];omega
   ·simp only [List.length_append,List.length_singleton];omega
  |false=>
   have e9:τ.settle.du 4 PS.ft=false:=by rw [dw];exact hB
   rw [hB,qm e9,sJ] at cb;unfold pO at ca cb
   repeat'(first|(with_reducible first|(refine zz ?_;try intro K hK)|refine zi ?_|refine zh ?_)|((first|apply hK _ _ rfl|apply hK);clear hK K)|(guard_hyp hK;first|refine zx ?_|apply ab|apply aa|refine zW ?_|refine zp 0 (ca) ?_|refine zp 0 (cb) ?_|intro b0 hb)|((first|refine zj ?_|guard_hyp hK);refine zY ?_ ?_;all_goals(intro hb;(try simp only [sn,sb] at hb);try exact ao)))
   rw [<- y3 hA hB];exact ni (l:=l) (v:=v) _ rfl rfl B3 (au rfl (aW _ _ _)) (Lc.same _ rfl) (au rfl (jR _)) B3 rfl
end Go.Ev
