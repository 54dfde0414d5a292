import Derived.Test.YthpoegdjffdojaaGreatDoorULyt
set_option linter.all false
set_option maxHeartbeats 60000000
set_option maxRecDepth 10000
namespace Go.Ev
open Go.Proofs
open PS (bV bo aV aE aF dM dc yQ vA fe eQ cd eT fa aQ aG)
variable {G : List ByteArray}
def Rq (v:rX):V:=.agg [.af (.string v.name),.ro false (.sl (v.count.map bw)),.ro false (.sl (iD v.dL)),.ro false (.sl (iD v.aN))]
def Nw (f:rY):V:=.agg [.af (.string f.name),.ro false (.sl (iD f.aN)),.ro false (.sl (f.vars.map Az)),.ro false (.sl (f.bG.map xO))]
theorem GN (e:rX):(Rq e).flat:=fun v hv=>(dR (cr (cr (cr gq))) v hv).fl
theorem qa (e:rY):(Nw e).flat:=fun v hv=>(dR (cr (cr (cr gq))) v hv).fl
theorem mS (p:rX)(oh:OH):∀v ∈ [Rq p],v.cl oh:=fun v hv=>(fm (GN p) v hv).cl oh
theorem dk (p:rY)(oh:OH):∀v ∈ [Nw p],v.cl oh:=fun v hv=>(fm (qa p) v hv).cl oh
theorem RG {l:List rX}{i:Nat}(h:i < l.length):(l.map Az)[i]?=some (Az (l.getD i default)):=by
 rw [Zf,List.getD,uz h];rfl
theorem JO {l:List pS}{i:Nat}(h:i < l.length):(l.map xO)[i]?=some (xO (l.getD i default)):=by
 rw [Zf,List.getD,uz h];rfl
structure VD (v:rX):Prop where
 nm:v.name.size<=1048576
 cl:v.count.length<=1048576
 vl:v.dL.length<=1073741824
 vz:∀s ∈ v.dL,s.size<=1048576
 rl:v.aN.length<=1073741824
 rz:∀s ∈ v.aN,s.size<=1048576
structure Qr (f:rY):Prop where
 nm:f.name.size<=1048576
 rl:f.aN.length<=1073741824
 rz:∀s ∈ f.aN,s.size<=1048576
 vl:f.vars.length<=1073741824
 vr:∀v ∈ f.vars,VD v
 pl:f.bG.length<=1073741824
 pr:∀p ∈ f.bG,Ty p
theorem GI {v:rX}{σ:WS}(h:Fits (An G v σ)):Fits (sX G v σ)/\Fits (xw G v σ)/\Fits σ:=by
 have h1:Fits (sX G v σ):=h.w.s.w.w.s;have h2:Fits (xw G v σ):=h1.w.w.w;exact⟨h1,h2,h2.w.w.w.w.w.m.w⟩
theorem nQ : ∀(l:List rX) (τ:WS),Fits (eI G l τ).2->Fits τ
 | [],_,h=>h
 |v :: r,τ,h=>by
  rw [eI] at h;split at h
  ·exact(GI (nQ r _ h)).2.2
  ·exact h
theorem ru {p:pS}{σ:WS}(h:Fits (eu G p σ).2):Fits σ:=by
 by_cases hc:Ds p=true
 ·have h1:=ku _ _ (tW h hc);have h2:Fits (ke G p σ):=h1.w.w
  have h3:Fits (vH G p σ):=by
   unfold ke at h2;split at h2
   ·exact h2
   ·exact h2.s.w
  exact h3.w.w.m.w
 ·unfold eu at h;rw [if_neg hc] at h;exact h
theorem oo : ∀(l:List pS) (τ:WS),Fits (jx G l τ).2->Fits τ
 | [],_,h=>h
 |v :: r,τ,h=>by
  rw [jx] at h;split at h
  ·exact ru (oo r _ h)
  ·exact ru h
def FM (f:rY):Obj:=⟨4,[Nw f],0,true⟩
def TG (v:rX):Obj:=⟨4,[Rq v],0,true⟩
theorem Nn (σ:WS)(f:rY)(hT:∀m:List UInt32,m.length<=1048576->Ok Tryz.prog 23 [.sl (m.map bw)] true (.af (.string (dh (val m)))))
  (hQ:∀s,s.size<=1048576->Ok Tryz.prog 48 [gG s] true (.af (.string (rQ s)))) (hp:Qr f) (hf:Fits (iA G f σ).2) :
  jP Tryz.prog 7 (kC G σ) [] [.ref 0 0 0 0,Nw f] (kC G (iA G f σ).2) (.af (.bool (iA G f σ).1)):=by
 have hvl:(f.vars.map Az).length=f.vars.length:=List.length_map _;have hpl:(f.bG.map xO).length=f.bG.length:=List.length_map _;have hvl0:=hp.vl;have hpl0:=hp.pl;have hrl0:=hp.rl;have cN:=sO f.name (G6 hp.nm B3);have cQ:=qu f.aN hQ hp.rz A8;by_cases hc:LA f=true
 ·have hc':=hc;unfold LA at hc';rw [C7] at hc';obtain⟨hc1,hc3⟩:=hc';have hF:iA G f σ=(if(eI G f.vars (qS G f σ)).1=true then jx G f.bG (eI G f.vars (qS G f σ)).2 else(false,(eI G f.vars (qS G f σ)).2)):=if_pos hc;rw [hF] at hf |-;clear hF hc
  have hfv:Fits (eI G f.vars (qS G f σ)).2:=by
   split at hf
   ·exact oo _ _ hf
   ·exact hf
  have f5:=nQ _ _ hfv;obtain⟨σ1,e1⟩:∃σ1,σ1=aB G σ fe:=⟨_,rfl⟩
  obtain⟨σ2,e2⟩:∃σ2,σ2=aB G (fY σ1) f.name:=⟨_,rfl⟩
  obtain⟨σ3,e3⟩:∃σ3,σ3=aB G σ2 dM:=⟨_,rfl⟩
  obtain⟨σ4,e4⟩:∃σ4,σ4=bz G σ3 (aG f.aN):=⟨_,rfl⟩
  obtain⟨σ5,e5⟩:∃σ5,σ5=aB G σ4 dc:=⟨_,rfl⟩
  have eA:qS G f σ=σ5:=by rw [e5,e4,e3,e2,e1];rfl
  rw [eA] at hf hfv f5 |-;have f4:Fits σ4:=by rw [e5] at f5;exact f5.w
  have f3:Fits σ3:=by rw [e4] at f4;exact f4.s
  have f2:Fits σ2:=by rw [e3] at f3;exact f3.w
  have f1:Fits σ1:=by rw [e2] at f2;exact f2.w.m
  have p1:=aL σ fe (by rw [<- e1];exact f1);have p2:=aL (fY σ1) f.name (by rw [<- e2];exact f2);have p3:=aL σ2 dM (by rw [<- e3];exact f3);have p4:=pV σ3 f.aN hQ hp.rz hc3 A8 (by rw [<- e4];exact f4);have p5:=aL σ4 dc (by rw [<- e5];exact f5);rw [<- e1] at p1;rw [<- e2] at p2;rw [<- e3] at p3;rw [<- e4] at p4;rw [<- e5] at p5;rw [hc1] at cN;rw [hc3] at cQ;clear e1 e2 e3 e4 e5 eA f1 f2 f3 f4;refine fK bN mix 1 (zO rfl) Tryz.func7 rfl rfl B1 B1 (zO rfl) ?vs ?_
  case vs=>
   intro v hv;rcases B5.1 hv with rfl|hv
   ·exact qa f
   ·cases hv
  repeat'(first|(refine dU (a:=(Code.region 1 _ _).seq (Code.cond _ _ _)) Unit (fun _=>⟨Tryz.f7.ntmps,[(0,.ref 0 0 0 0),(3,.ref 1 0 0 0)],[(0,jG G σ),(1,FM f)]⟩) (fun _=>True) ?_ ?_)|(with_reducible first|(refine zz ?_;try intro K hK)|refine zI ?_|refine zt ?_|refine zf ?_)|((first|refine hK _ ?_|refine hK _ _ rfl ?_);clear hK K)|(guard_hyp hK;first|(refine zY ?zz ?_;case zz=>first|exact rfl|exact gJ)|refine ab ?_|refine aa ?_|refine zW ?_|intro b0 hb)|((first|with_reducible refine zm ?_|guard_hyp hK);refine zY ?_ ?_;all_goals(intro hb;(try simp only [sn,sb] at hb);try exact ao)))
  ·rintro - -;clear cN cQ
   repeat'(first|(refine dU (a:=Code.region 6 _ _) Unit (fun _=>⟨Tryz.f7.ntmps,[(0,.ref 0 0 0 0),(3,.ref 1 0 0 0)],[(0,jG G σ3),(1,FM f)]⟩) (fun _=>True) ?_ ?_)|(with_reducible first|(refine zz ?_;try intro K hK)|refine zI ?_|refine zt ?_|refine zf ?_)|((first|refine hK _ ?_|refine hK _ _ rfl ?_);clear hK K)|(guard_hyp hK;first|(refine zY ?zz ?_;case zz=>first|exact rfl|exact gJ)|refine ab ?_|refine aa ?_|refine zW ?_|refine iC 0 (p1) ?_|refine iC 0 (p2) ?_|refine iC 0 (p3) ?_|intro b0 hb)|((first|with_reducible refine zm ?_|guard_hyp hK);refine zY ?_ ?_;all_goals(intro hb;(try simp only [sn,sb] at hb);try exact ao)))
   ·rintro - -;clear p1 p2 p3
    repeat'(first|(refine dU (a:=(Code.region 9 _ _).seq (Code.block 0 _)) WS (fun τ=>⟨Tryz.f7.ntmps,[(0,.ref 0 0 0 0),(3,.ref 1 0 0 0)],[(0,jG G τ),(1,FM f)]⟩) (fun τ=>eI G f.vars σ5=(true,τ)) ?_ ?_)|(with_reducible first|(refine zz ?_;try intro K hK)|refine zI ?_|refine zt ?_|refine zf ?_)|((first|refine hK _ ?_|refine hK _ _ rfl ?_);clear hK K)|(guard_hyp hK;first|(refine zY ?zz ?_;case zz=>first|exact rfl|exact gJ)|refine ab ?_|refine aa ?_|refine zW ?_|refine iC 0 (p4) ?_|refine iC 0 (p5) ?_|intro b0 hb)|((first|with_reducible refine zm ?_|guard_hyp hK);refine zY ?_ ?_;all_goals(intro hb;(try simp only [sn,sb] at hb);try exact ao)))
    ·intro τ0 h0;rw [h0,if_pos rfl] at hf |-;clear p4 p5 hfv f5 h0
     repeat'(first|(with_reducible first|(refine zz ?_;try intro K hK)|refine zI ?_|refine zt ?_|refine zf ?_)|((first|refine hK _ ?_|refine hK _ _ rfl ?_);clear hK K)|(guard_hyp hK;first|(refine zY ?zz ?_;case zz=>first|exact rfl|exact gJ)|refine ab ?_|refine aa ?_|refine zW ?_|intro b0 hb)|((first|with_reducible refine zm ?_|guard_hyp hK);refine zY ?_ ?_;all_goals(intro hb;(try simp only [sn,sb] at hb);try exact ao)))
     refine aT (Nat×WS) (fun z=>⟨Tryz.f7.ntmps,[(0,.ref 0 0 0 0),(3,.ref 1 0 0 0),(8,.af (.int .i64 z.1))],[(0,jG G z.2),(1,FM f)]⟩) (fun z=>z.1<=f.bG.length/\jx G f.bG τ0=jx G (f.bG.drop z.1) z.2) (fun z=>f.bG.length - z.1) [] (0,τ0) trivial ⟨C0 _,rfl⟩ ⟨rfl,⟨rfl,rfl,rfl,rfl,rfl,trivial,trivial⟩,⟨rfl,rfl,trivial⟩,⟨bS _,dk f _,trivial⟩⟩ ?_;rintro⟨i,τ⟩ ⟨hi,hz⟩;dsimp only at hi hz |-;by_cases hlt:i < f.bG.length
     ·have hat:=JO hlt;have hme:f.bG.getD i default ∈ f.bG:=by rw [List.getD,uz hlt];exact G9 hlt
      have hpo:=hp.pr _ hme
      have hd:f.bG.drop i=f.bG.getD i default :: f.bG.drop (i+1):=by
       rw [F7 hlt,List.getD,uz hlt];rfl
      rw [hd] at hz;clear hme hd;generalize f.bG.getD i default=p at hat hpo hz;have hz':=hz;rw [jx] at hz'
      cases hw:(eu G p τ).1 with
      |false=>
       rw [hw,if_neg B6] at hz';rw [hz'] at hf |-;have cP:=Ag τ p hT hQ hpo hf;rw [hw] at cP;generalize (eu G p τ).2=τ2 at *
       repeat'(first|(guard_hyp hK;refine Sk _ (UO hat ?_))|(with_reducible first|(refine zz ?_;try intro K hK)|refine zI ?_|refine zt ?_|refine zf ?_)|((first|refine hK _ ?_|refine hK _ _ rfl ?_);clear hK K)|(guard_hyp hK;first|(refine zY ?zz ?_;case zz=>first|exact rfl|exact gJ)|refine ab ?_|refine aa ?_|refine zW ?_|refine iC 0 (cP) ?_|intro b0 hb)|((first|with_reducible refine zm ?_|guard_hyp hK);refine zY ?_ ?_;all_goals(intro hb;(try simp only [sn,sb] at hb);try exact ao)))
       exact db rfl rfl rfl rfl B3 rfl
      |true=>
       rw [hw,if_pos rfl] at hz';have cP:=Ag τ p hT hQ hpo (oo (f.bG.drop (i+1)) _ (by rw [<- hz'];exact hf));rw [hw] at cP;generalize (eu G p τ).2=τ2 at *
       repeat'(first|(guard_hyp hK;refine Sk _ (UO hat ?_))|(with_reducible first|(refine zz ?_;try intro K hK)|refine zI ?_|refine zt ?_|refine zf ?_)|((first|refine hK _ ?_|refine hK _ _ rfl ?_);clear hK K)|(guard_hyp hK;first|(refine zY ?zz ?_;case zz=>first|exact rfl|exact gJ)|refine ab ?_|refine aa ?_|refine zW ?_|refine iC 0 (cP) ?_|intro b0 hb)|((first|with_reducible refine zm ?_|guard_hyp hK);refine zY ?_ ?_;all_goals(intro hb;(try simp only [sn,sb] at hb);try exact ao)))
       exact⟨(i+1,τ2),⟨hlt,hz'⟩,by show f.bG.length - (i+1) < f.bG.length - i;omega,rfl,⟨rfl,rfl,rfl,rfl,rfl,trivial,trivial⟩,⟨rfl,rfl,trivial⟩,⟨bS _,dk f _,trivial⟩⟩
     ·obtain rfl:i=f.bG.length:=by omega
      rw [O6] at hz;have hz:jx G f.bG τ0=(true,τ):=hz;rw [hz] at hf |-
      repeat'(first|(with_reducible first|(refine zz ?_;try intro K hK)|refine zI ?_|refine zt ?_|refine zf ?_)|((first|refine hK _ ?_|refine hK _ _ rfl ?_);clear hK K)|(guard_hyp hK;first|(refine zY ?zz ?_;case zz=>first|exact rfl|exact gJ)|refine ab ?_|refine aa ?_|refine zW ?_|intro b0 hb)|((first|with_reducible refine zm ?_|guard_hyp hK);refine zY ?_ ?_;all_goals(intro hb;(try simp only [sn,sb] at hb);try exact ao)))
      exact db rfl rfl rfl rfl B3 rfl
    ·intro R hR;have hle:∀(τ:WS) (s':St),eI G f.vars σ5=(true,τ)->Le ⟨Tryz.f7.ntmps,[(0,.ref 0 0 0 0),(3,.ref 1 0 0 0)],[(0,jG G τ),(1,FM f)]⟩ s'->R s':=fun τ s' h1 h2=>hR s' τ h1 h2
     clear hR p4 p5
     repeat'(first|(with_reducible first|(refine zz ?_;try intro K hK)|refine zI ?_|refine zt ?_|refine zf ?_)|((first|refine hK _ ?_|refine hK _ _ rfl ?_);clear hK K)|(guard_hyp hK;first|(refine zY ?zz ?_;case zz=>first|exact rfl|exact gJ)|refine ab ?_|refine aa ?_|refine zW ?_|intro b0 hb)|((first|with_reducible refine zm ?_|guard_hyp hK);refine zY ?_ ?_;all_goals(intro hb;(try simp only [sn,sb] at hb);try exact ao)))
     refine aT (Nat×WS) (fun z=>⟨Tryz.f7.ntmps,[(0,.ref 0 0 0 0),(3,.ref 1 0 0 0),(5,.af (.int .i64 z.1))],[(0,jG G z.2),(1,FM f)]⟩) (fun z=>z.1<=f.vars.length/\eI G f.vars σ5=eI G (f.vars.drop z.1) z.2) (fun z=>f.vars.length - z.1) [] (0,σ5) trivial ⟨C0 _,rfl⟩ ⟨rfl,⟨rfl,rfl,rfl,rfl,rfl,trivial,trivial⟩,⟨rfl,rfl,trivial⟩,⟨bS _,dk f _,trivial⟩⟩ ?_;rintro⟨i,τ⟩ ⟨hi,hz⟩;dsimp only at hi hz |-;by_cases hlt:i < f.vars.length
     ·have hat:=RG hlt;have hme:f.vars.getD i default ∈ f.vars:=by rw [List.getD,uz hlt];exact G9 hlt
      have hvo:=hp.vr _ hme
      have hd:f.vars.drop i=f.vars.getD i default :: f.vars.drop (i+1):=by
       rw [F7 hlt,List.getD,uz hlt];rfl
      rw [hd] at hz;clear hme hd;generalize f.vars.getD i default=v at hat hvo hz;have hz':=hz;rw [eI] at hz';have hcl0:=hvo.cl;have hvl1:=hvo.vl;have hrl1:=hvo.rl;have cN:=sO v.name (G6 hvo.nm B3);have cV:=uw v.dL (fun s hs=>G6 (hvo.vz s hs) B3) A8;have cQ:=qu v.aN hQ hvo.rz A8;have hcm:(v.count.map bw).length=v.count.length:=List.length_map _
      have hlast:v.count≠[]->∃x,(v.count.map bw)[v.count.length - 1]?=some (bw x)/\v.count.getD (v.count.length - 1) 0=x:=fun hne=>by
       have h0:=G3.2 hne;have h1:v.count.length - 1 < v.count.length:=by omega
       refine⟨v.count[v.count.length - 1],?_,?_⟩
       ·rw [Zf,uz h1];rfl
       ·rw [List.getD,uz h1];rfl
      by_cases hc:GJ v=true
      ·rw [if_pos hc] at hz';unfold GJ at hc;rw [C7,C7,C7,M7,E5,E5] at hc;obtain⟨⟨⟨k1,k2⟩,k3⟩,k4⟩:=hc;rw [k1] at cN;rw [k2] at cV;rw [k3] at cQ;rw [hz'] at hfv;have hfF:=nQ _ _ hfv;obtain⟨τ1,e1⟩:∃x,x=aB G τ eQ:=⟨_,rfl⟩
       obtain⟨τ2,e2⟩:∃x,x=aB G (fY τ1) v.name:=⟨_,rfl⟩
       obtain⟨τ3,e3⟩:∃x,x=aB G τ2 dM:=⟨_,rfl⟩
       obtain⟨τ4,e4⟩:∃x,x=aB G τ3 eT:=⟨_,rfl⟩
       obtain⟨τ5,e5⟩:∃x,x=aB G τ4 fa:=⟨_,rfl⟩
       obtain⟨τ6,e6⟩:∃x,x=aB G τ5 yQ:=⟨_,rfl⟩
       obtain⟨τ7,e7⟩:∃x,x=aB G τ6 (dh (val v.count)):=⟨_,rfl⟩
       obtain⟨τ8,e8⟩:∃x,x=aB G τ7 vA:=⟨_,rfl⟩
       obtain⟨τ9,e9⟩:∃x,x=aB G τ8 dM:=⟨_,rfl⟩
       obtain⟨τ10,e10⟩:∃x,x=bz G τ9 (aQ v.dL):=⟨_,rfl⟩
       obtain⟨τ11,e11⟩:∃x,x=aB G τ10 dc:=⟨_,rfl⟩
       obtain⟨τ12,e12⟩:∃x,x=aB G τ11 aV:=⟨_,rfl⟩
       obtain⟨τ13,e13⟩:∃x,x=bz G τ12 (aG v.aN):=⟨_,rfl⟩
       obtain⟨τ14,e14⟩:∃x,x=aB G τ13 dc:=⟨_,rfl⟩
       have eF:An G v τ=τ14:=by rw [e14,e13,e12,e11,e10,e9,e8,e7,e6,e5,e4,e3,e2,e1];rfl
       rw [eF] at hfF hfv hz';have g14:=hfF;have g13:Fits τ13:=by rw [e14] at g14;exact g14.w
       have g12:Fits τ12:=by rw [e13] at g13;exact g13.s
       have g11:Fits τ11:=by rw [e12] at g12;exact g12.w
       have g10:Fits τ10:=by rw [e11] at g11;exact g11.w
       have g9:Fits τ9:=by rw [e10] at g10;exact g10.s
       have g8:Fits τ8:=by rw [e9] at g9;exact g9.w
       have g7:Fits τ7:=by rw [e8] at g8;exact g8.w
       have g6:Fits τ6:=by rw [e7] at g7;exact g7.w
       have g5:Fits τ5:=by rw [e6] at g6;exact g6.w
       have g4:Fits τ4:=by rw [e5] at g5;exact g5.w
       have g3:Fits τ3:=by rw [e4] at g4;exact g4.w
       have g2:Fits τ2:=by rw [e3] at g3;exact g3.w
       have g1:Fits τ1:=by rw [e2] at g2;exact g2.w.m
       have q1:=aL τ eQ (by rw [<- e1];exact g1);have q2:=aL (fY τ1) v.name (by rw [<- e2];exact g2);have q3:=aL τ2 dM (by rw [<- e3];exact g3);have q4:=aL τ3 eT (by rw [<- e4];exact g4);have q5:=aL τ4 fa (by rw [<- e5];exact g5);have q6:=aL τ5 yQ (by rw [<- e6];exact g6);have q7:=aL τ6 (dh (val v.count)) (by rw [<- e7];exact g7);have q8:=aL τ7 vA (by rw [<- e8];exact g8);have q9:=aL τ8 dM (by rw [<- e9];exact g9);have q10:=sS τ9 v.dL A8 (by rw [<- e10];exact g10);have q11:=aL τ10 dc (by rw [<- e11];exact g11);have q12:=aL τ11 aV (by rw [<- e12];exact g12);have q13:=pV τ12 v.aN hQ hvo.rz k3 A8 (by rw [<- e13];exact g13);have q14:=aL τ13 dc (by rw [<- e14];exact g14);rw [<- e1] at q1;rw [<- e2] at q2;rw [<- e3] at q3;rw [<- e4] at q4;rw [<- e5] at q5;rw [<- e6] at q6;rw [<- e7] at q7;rw [<- e8] at q8;rw [<- e9] at q9;rw [<- e10] at q10;rw [<- e11] at q11;rw [<- e12] at q12;rw [<- e13] at q13;rw [<- e14] at q14;have cT:=hT v.count hcl0;clear e1 g1 e2 g2 e3 g3 e4 g4 e5 g5 e6 g6 e7 g7 e8 g8 e9 g9 e10 g10 e11 g11 e12 g12 e13 g13 e14 g14 eF hz hT hQ
       repeat'(first|(first|refine dU (a:=(Code.region 14 _ _).seq (Code.cond _ _ _)) Unit (fun _=>⟨Tryz.f7.ntmps,[(0,.ref 0 0 0 0),(3,.ref 1 0 0 0),(5,.af (.int .i64 i)),(6,.ref 2 0 0 0)],[(0,jG G τ),(1,FM f),(2,TG v)]⟩) (fun _=>True) ?_ ?_|(guard_hyp hK;refine Sk _ (UO hat ?_)))|(with_reducible first|(refine zz ?_;try intro K hK)|refine zI ?_|refine zt ?_|refine zf ?_)|((first|refine hK _ ?_|refine hK _ _ rfl ?_);clear hK K)|(guard_hyp hK;first|(refine zY ?zz ?_;case zz=>first|exact rfl|exact gJ)|refine ab ?_|refine aa ?_|refine zW ?_|intro b0 hb)|((first|with_reducible refine zm ?_|guard_hyp hK);refine zY ?_ ?_;all_goals(intro hb;(try simp only [sn,sb] at hb);try exact ao)))
       ·rintro - -;clear cN cV cQ
        repeat'(first|(refine dU (a:=Code.region 19 _ _) Unit (fun _=>⟨Tryz.f7.ntmps,[(0,.ref 0 0 0 0),(3,.ref 1 0 0 0),(5,.af (.int .i64 i)),(6,.ref 2 0 0 0)],[(0,jG G τ3),(1,FM f),(2,TG v)]⟩) (fun _=>True) ?_ ?_)|(with_reducible first|(refine zz ?_;try intro K hK)|refine zI ?_|refine zt ?_|refine zf ?_)|((first|refine hK _ ?_|refine hK _ _ rfl ?_);clear hK K)|(guard_hyp hK;first|(refine zY ?zz ?_;case zz=>first|exact rfl|exact gJ)|refine ab ?_|refine aa ?_|refine zW ?_|refine iC 0 (q1) ?_|refine iC 0 (q2) ?_|intro b0 hb)|((first|with_reducible refine zm ?_|guard_hyp hK);refine zY ?_ ?_;all_goals(intro hb;(try simp only [sn,sb] at hb);try exact ao)))
        ·rintro - -;clear q1 q2 q3
         repeat'(first|(refine dU (a:=Code.region 22 _ _) Unit (fun _=>⟨Tryz.f7.ntmps,[(0,.ref 0 0 0 0),(3,.ref 1 0 0 0),(5,.af (.int .i64 i)),(6,.ref 2 0 0 0)],[(0,jG G τ6),(1,FM f),(2,TG v)]⟩) (fun _=>True) ?_ ?_)|(with_reducible first|(refine zz ?_;try intro K hK)|refine zI ?_|refine zt ?_|refine zf ?_)|((first|refine hK _ ?_|refine hK _ _ rfl ?_);clear hK K)|(guard_hyp hK;first|(refine zY ?zz ?_;case zz=>first|exact rfl|exact gJ)|refine ab ?_|refine aa ?_|refine zW ?_|refine iC 0 (q4) ?_|refine iC 0 (q5) ?_|intro b0 hb)|((first|with_reducible refine zm ?_|guard_hyp hK);refine zY ?_ ?_;all_goals(intro hb;(try simp only [sn,sb] at hb);try exact ao)))
         ·rintro - -;clear q4 q5 q6
          repeat'(first|(refine dU (a:=Code.region 25 _ _) Unit (fun _=>⟨Tryz.f7.ntmps,[(0,.ref 0 0 0 0),(3,.ref 1 0 0 0),(5,.af (.int .i64 i)),(6,.ref 2 0 0 0)],[(0,jG G τ9),(1,FM f),(2,TG v)]⟩) (fun _=>True) ?_ ?_)|(with_reducible first|(refine zz ?_;try intro K hK)|refine zI ?_|refine zt ?_|refine zf ?_)|((first|refine hK _ ?_|refine hK _ _ rfl ?_);clear hK K)|(guard_hyp hK;first|(refine zY ?zz ?_;case zz=>first|exact rfl|exact gJ)|refine ab ?_|refine aa ?_|refine zW ?_|(refine zQ (cT) ?_)|refine iC 0 (q7) ?_|refine iC 0 (q8) ?_|intro b0 hb)|((first|with_reducible refine zm ?_|guard_hyp hK);refine zY ?_ ?_;all_goals(intro hb;(try simp only [sn,sb] at hb);try exact ao)))
          ·rintro - -;clear q7 q8 q9 cT
           repeat'(first|(refine dU (a:=Code.region 28 _ _) Unit (fun _=>⟨Tryz.f7.ntmps,[(0,.ref 0 0 0 0),(3,.ref 1 0 0 0),(5,.af (.int .i64 i)),(6,.ref 2 0 0 0)],[(0,jG G τ12),(1,FM f),(2,TG v)]⟩) (fun _=>True) ?_ ?_)|(with_reducible first|(refine zz ?_;try intro K hK)|refine zI ?_|refine zt ?_|refine zf ?_)|((first|refine hK _ ?_|refine hK _ _ rfl ?_);clear hK K)|(guard_hyp hK;first|(refine zY ?zz ?_;case zz=>first|exact rfl|exact gJ)|refine ab ?_|refine aa ?_|refine zW ?_|refine iC 0 (q10) ?_|refine iC 0 (q11) ?_|intro b0 hb)|((first|with_reducible refine zm ?_|guard_hyp hK);refine zY ?_ ?_;all_goals(intro hb;(try simp only [sn,sb] at hb);try exact ao)))
           ·rintro - -;clear q10 q11 q12
            repeat'(first|(with_reducible first|(refine zz ?_;try intro K hK)|refine zI ?_|refine zt ?_|refine zf ?_)|((first|refine hK _ ?_|refine hK _ _ rfl ?_);clear hK K)|(guard_hyp hK;first|(refine zY ?zz ?_;case zz=>first|exact rfl|exact gJ)|refine ab ?_|refine aa ?_|refine zW ?_|refine iC 0 (q13) ?_|refine iC 0 (q14) ?_|intro b0 hb)|((first|with_reducible refine zm ?_|guard_hyp hK);refine zY ?_ ?_;all_goals(intro hb;(try simp only [sn,sb] at hb);try exact ao)))
            exact⟨(i+1,τ14),⟨hlt,hz'⟩,by show f.vars.length - (i+1) < f.vars.length - i;omega,rfl,⟨rfl,rfl,rfl,rfl,rfl,trivial,trivial⟩,⟨rfl,rfl,trivial⟩,⟨bS _,dk f _,trivial⟩⟩
           ·intro R hR
            repeat'(first|(with_reducible first|(refine zz ?_;try intro K hK)|refine zI ?_|refine zt ?_|refine zf ?_)|((first|refine hK _ ?_|refine hK _ _ rfl ?_);clear hK K)|(guard_hyp hK;first|(refine zY ?zz ?_;case zz=>first|exact rfl|exact gJ)|refine ab ?_|refine aa ?_|refine zW ?_|refine iC 0 (q12) ?_|intro b0 hb)|((first|with_reducible refine zm ?_|guard_hyp hK);refine zY ?_ ?_;all_goals(intro hb;(try simp only [sn,sb] at hb);try exact ao)))
            exact hR _ () trivial ⟨rfl,⟨rfl,rfl,rfl,rfl,rfl,trivial,rfl,rfl,trivial⟩,⟨rfl,rfl,rfl,trivial⟩,⟨bS _,dk f _,mS v _,trivial⟩⟩
          ·intro R hR
           repeat'(first|(with_reducible first|(refine zz ?_;try intro K hK)|refine zI ?_|refine zt ?_|refine zf ?_)|((first|refine hK _ ?_|refine hK _ _ rfl ?_);clear hK K)|(guard_hyp hK;first|(refine zY ?zz ?_;case zz=>first|exact rfl|exact gJ)|refine ab ?_|refine aa ?_|refine zW ?_|refine iC 0 (q9) ?_|intro b0 hb)|((first|with_reducible refine zm ?_|guard_hyp hK);refine zY ?_ ?_;all_goals(intro hb;(try simp only [sn,sb] at hb);try exact ao)))
           exact hR _ () trivial ⟨rfl,⟨rfl,rfl,rfl,rfl,rfl,trivial,rfl,rfl,trivial⟩,⟨rfl,rfl,rfl,trivial⟩,⟨bS _,dk f _,mS v _,trivial⟩⟩
         ·intro R hR
          repeat'(first|(with_reducible first|(refine zz ?_;try intro K hK)|refine zI ?_|refine zt ?_|refine zf ?_)|((first|refine hK _ ?_|refine hK _ _ rfl ?_);clear hK K)|(guard_hyp hK;first|(refine zY ?zz ?_;case zz=>first|exact rfl|exact gJ)|refine ab ?_|refine aa ?_|refine zW ?_|refine iC 0 (q6) ?_|intro b0 hb)|((first|with_reducible refine zm ?_|guard_hyp hK);refine zY ?_ ?_;all_goals(intro hb;(try simp only [sn,sb] at hb);try exact ao)))
          exact hR _ () trivial ⟨rfl,⟨rfl,rfl,rfl,rfl,rfl,trivial,rfl,rfl,trivial⟩,⟨rfl,rfl,rfl,trivial⟩,⟨bS _,dk f _,mS v _,trivial⟩⟩
        ·intro R hR
         repeat'(first|(with_reducible first|(refine zz ?_;try intro K hK)|refine zI ?_|refine zt ?_|refine zf ?_)|((first|refine hK _ ?_|refine hK _ _ rfl ?_);clear hK K)|(guard_hyp hK;first|(refine zY ?zz ?_;case zz=>first|exact rfl|exact gJ)|refine ab ?_|refine aa ?_|refine zW ?_|refine iC 0 (q3) ?_|intro b0 hb)|((first|with_reducible refine zm ?_|guard_hyp hK);refine zY ?_ ?_;all_goals(intro hb;(try simp only [sn,sb] at hb);try exact ao)))
         exact hR _ () trivial ⟨rfl,⟨rfl,rfl,rfl,rfl,rfl,trivial,rfl,rfl,trivial⟩,⟨rfl,rfl,rfl,trivial⟩,⟨bS _,dk f _,mS v _,trivial⟩⟩
       ·intro R hR;have hR9:∀s':St,Le ⟨Tryz.f7.ntmps,[(0,.ref 0 0 0 0),(3,.ref 1 0 0 0),(5,.af (.int .i64 i)),(6,.ref 2 0 0 0)],[(0,jG G τ),(1,FM f),(2,TG v)]⟩ s'->R s':=fun s' h=>hR s' () trivial h
        clear hR q1 q2 q3 q4 q5 q6 q7 q8 q9 q10 q11 q12 q13 q14;by_cases h0:v.count=[]
        ·have h00:v.count.length=0:=by rw [h0];rfl
         repeat'(first|(with_reducible first|(refine zz ?_;try intro K hK)|refine zI ?_|refine zt ?_|refine zf ?_)|((first|refine hK _ ?_|refine hK _ _ rfl ?_);clear hK K)|(guard_hyp hK;first|(refine zY ?zz ?_;case zz=>first|exact rfl|exact gJ)|refine ab ?_|refine aa ?_|refine zW ?_|(refine zQ (cN) ?_)|(refine zQ (cV) ?_)|(refine zQ (cQ) ?_)|intro b0 hb)|((first|with_reducible refine zm ?_|guard_hyp hK);refine zY ?_ ?_;all_goals(intro hb;(try simp only [sn,sb] at hb);try exact ao)))
         all_goals first|exact hR9 _ ⟨rfl,⟨rfl,rfl,rfl,rfl,rfl,trivial,rfl,rfl,trivial⟩,⟨rfl,rfl,rfl,trivial⟩,⟨bS _,dk f _,mS v _,trivial⟩⟩|(exfalso;omega)
        ·have h00:=G3.2 h0;obtain⟨x,hx1,hx2⟩:=hlast h0;have hx3:x.toNat≠0:=fun e=>(k4.resolve_left h0) (by rw [hx2];exact M9.1 e)
         have hsub:((v.count.length - 1:Nat):Int)=IntKind.i64.wrap ((((v.count.map bw).length:Nat):Int) - 1):=oK (by rw [hcm];omega) (by rw [hcm];omega) (by rw [hcm];omega)
         repeat'(first|(guard_hyp hK;first|refine Sk _ (UO hsub ?_)|refine Sk _ (UO hx1 ?_))|(with_reducible first|(refine zz ?_;try intro K hK)|refine zI ?_|refine zt ?_|refine zf ?_)|((first|refine hK _ ?_|refine hK _ _ rfl ?_);clear hK K)|(guard_hyp hK;first|(refine zY ?zz ?_;case zz=>first|exact rfl|exact gJ)|refine ab ?_|refine aa ?_|refine zW ?_|(refine zQ (cN) ?_)|(refine zQ (cV) ?_)|(refine zQ (cQ) ?_)|intro b0 hb)|((first|with_reducible refine zm ?_|guard_hyp hK);refine zY ?_ ?_;all_goals(intro hb;(try simp only [sn,sb] at hb);try exact ao)))
         all_goals first|exact hR9 _ ⟨rfl,⟨rfl,rfl,rfl,rfl,rfl,trivial,rfl,rfl,trivial⟩,⟨rfl,rfl,rfl,trivial⟩,⟨bS _,dk f _,mS v _,trivial⟩⟩|(exfalso;omega)
      ·rw [if_neg hc] at hz';rw [hz',if_neg (by exact B6)];rw [W4] at hc;unfold GJ at hc;clear hz hz' hle
       cases h1:gH v.name with
       |false=>
        rw [h1] at cN
        repeat'(first|(guard_hyp hK;refine Sk _ (UO hat ?_))|(with_reducible first|(refine zz ?_;try intro K hK)|refine zI ?_|refine zt ?_|refine zf ?_)|((first|refine hK _ ?_|refine hK _ _ rfl ?_);clear hK K)|(guard_hyp hK;first|(refine zY ?zz ?_;case zz=>first|exact rfl|exact gJ)|refine ab ?_|refine aa ?_|refine zW ?_|(refine zQ (cN) ?_)|intro b0 hb)|((first|with_reducible refine zm ?_|guard_hyp hK);refine zY ?_ ?_;all_goals(intro hb;(try simp only [sn,sb] at hb);try exact ao)))
        exact db rfl rfl rfl rfl B3 rfl
       |true=>
        cases h2:ux v.dL with
        |false=>
         rw [h1] at cN;rw [h2] at cV
         repeat'(first|(guard_hyp hK;refine Sk _ (UO hat ?_))|(with_reducible first|(refine zz ?_;try intro K hK)|refine zI ?_|refine zt ?_|refine zf ?_)|((first|refine hK _ ?_|refine hK _ _ rfl ?_);clear hK K)|(guard_hyp hK;first|(refine zY ?zz ?_;case zz=>first|exact rfl|exact gJ)|refine ab ?_|refine aa ?_|refine zW ?_|(refine zQ (cN) ?_)|(refine zQ (cV) ?_)|intro b0 hb)|((first|with_reducible refine zm ?_|guard_hyp hK);refine zY ?_ ?_;all_goals(intro hb;(try simp only [sn,sb] at hb);try exact ao)))
         exact db rfl rfl rfl rfl B3 rfl
        |true=>
         cases h3:tU v.aN with
         |false=>
          rw [h1] at cN;rw [h2] at cV;rw [h3] at cQ
          repeat'(first|(guard_hyp hK;refine Sk _ (UO hat ?_))|(with_reducible first|(refine zz ?_;try intro K hK)|refine zI ?_|refine zt ?_|refine zf ?_)|((first|refine hK _ ?_|refine hK _ _ rfl ?_);clear hK K)|(guard_hyp hK;first|(refine zY ?zz ?_;case zz=>first|exact rfl|exact gJ)|refine ab ?_|refine aa ?_|refine zW ?_|(refine zQ (cN) ?_)|(refine zQ (cV) ?_)|(refine zQ (cQ) ?_)|intro b0 hb)|((first|with_reducible refine zm ?_|guard_hyp hK);refine zY ?_ ?_;all_goals(intro hb;(try simp only [sn,sb] at hb);try exact ao)))
          exact db rfl rfl rfl rfl B3 rfl
         |true=>
          rw [h1] at cN;rw [h2] at cV;rw [h3] at cQ;rw [h1,h2,h3,L5,L5,L5,R7,K6,K6] at hc;have h00:=G3.2 hc.1;obtain⟨x,hx1,hx2⟩:=hlast hc.1;have hx3:x.toNat=0:=by have h9:=hc.2;rw [hx2] at h9;rw [Decidable.of_not_not h9];rfl
          have hsub:((v.count.length - 1:Nat):Int)=IntKind.i64.wrap ((((v.count.map bw).length:Nat):Int) - 1):=oK (by rw [hcm];omega) (by rw [hcm];omega) (by rw [hcm];omega)
          repeat'(first|(guard_hyp hK;first|refine Sk _ (UO hat ?_)|refine Sk _ (UO hsub ?_)|refine Sk _ (UO hx1 ?_))|(with_reducible first|(refine zz ?_;try intro K hK)|refine zI ?_|refine zt ?_|refine zf ?_)|((first|refine hK _ ?_|refine hK _ _ rfl ?_);clear hK K)|(guard_hyp hK;first|(refine zY ?zz ?_;case zz=>first|exact rfl|exact gJ)|refine ab ?_|refine aa ?_|refine zW ?_|(refine zQ (cN) ?_)|(refine zQ (cV) ?_)|(refine zQ (cQ) ?_)|intro b0 hb)|((first|with_reducible refine zm ?_|guard_hyp hK);refine zY ?_ ?_;all_goals(intro hb;(try simp only [sn,sb] at hb);try exact ao)))
          all_goals first|exact db rfl rfl rfl rfl B3 rfl|(exfalso;omega)
     ·obtain rfl:i=f.vars.length:=by omega
      rw [O6] at hz;have hz:eI G f.vars σ5=(true,τ):=hz
      repeat'(first|(with_reducible first|(refine zz ?_;try intro K hK)|refine zI ?_|refine zt ?_|refine zf ?_)|((first|refine hK _ ?_|refine hK _ _ rfl ?_);clear hK K)|(guard_hyp hK;first|(refine zY ?zz ?_;case zz=>first|exact rfl|exact gJ)|refine ab ?_|refine aa ?_|refine zW ?_|intro b0 hb)|((first|with_reducible refine zm ?_|guard_hyp hK);refine zY ?_ ?_;all_goals(intro hb;(try simp only [sn,sb] at hb);try exact ao)))
      exact hle τ _ hz ⟨rfl,⟨rfl,rfl,rfl,rfl,trivial⟩,⟨rfl,rfl,trivial⟩,⟨bS _,dk f _,trivial⟩⟩
   ·intro R hR
    repeat'(first|(with_reducible first|(refine zz ?_;try intro K hK)|refine zI ?_|refine zt ?_|refine zf ?_)|((first|refine hK _ ?_|refine hK _ _ rfl ?_);clear hK K)|(guard_hyp hK;first|(refine zY ?zz ?_;case zz=>first|exact rfl|exact gJ)|refine ab ?_|refine aa ?_|refine zW ?_|refine iC 0 (p3) ?_|intro b0 hb)|((first|with_reducible refine zm ?_|guard_hyp hK);refine zY ?_ ?_;all_goals(intro hb;(try simp only [sn,sb] at hb);try exact ao)))
    exact hR _ () trivial ⟨rfl,⟨rfl,rfl,rfl,rfl,trivial⟩,⟨rfl,rfl,trivial⟩,⟨bS _,dk f _,trivial⟩⟩
  ·intro R hR;clear p1 p2 p3 p4 p5
   repeat'(first|(with_reducible first|(refine zz ?_;try intro K hK)|refine zI ?_|refine zt ?_|refine zf ?_)|((first|refine hK _ ?_|refine hK _ _ rfl ?_);clear hK K)|(guard_hyp hK;first|(refine zY ?zz ?_;case zz=>first|exact rfl|exact gJ)|refine ab ?_|refine aa ?_|refine zW ?_|(refine zQ (cN) ?_)|(refine zQ (cQ) ?_)|intro b0 hb)|((first|with_reducible refine zm ?_|guard_hyp hK);refine zY ?_ ?_;all_goals(intro hb;(try simp only [sn,sb] at hb);try exact ao)))
   exact hR _ () trivial ⟨rfl,⟨rfl,rfl,rfl,rfl,trivial⟩,⟨rfl,rfl,trivial⟩,⟨bS _,dk f _,trivial⟩⟩
 ·have hF:iA G f σ=(false,σ):=if_neg hc;rw [hF];rw [W4] at hc;unfold LA at hc;refine fK bN mix 1 (zO rfl) Tryz.func7 rfl rfl B1 B1 (zO rfl) ?vs ?_
  case vs=>
   intro v hv;rcases B5.1 hv with rfl|hv
   ·exact qa f
   ·cases hv
  cases h1:gH f.name with
  |false=>
   rw [h1] at cN
   repeat'(first|(with_reducible first|(refine zz ?_;try intro K hK)|refine zI ?_|refine zt ?_|refine zf ?_)|((first|refine hK _ ?_|refine hK _ _ rfl ?_);clear hK K)|(guard_hyp hK;first|(refine zY ?zz ?_;case zz=>first|exact rfl|exact gJ)|refine ab ?_|refine aa ?_|refine zW ?_|(refine zQ (cN) ?_)|intro b0 hb)|((first|with_reducible refine zm ?_|guard_hyp hK);refine zY ?_ ?_;all_goals(intro hb;(try simp only [sn,sb] at hb);try exact ao)))
   exact db rfl rfl rfl rfl B3 rfl
  |true=>
   rw [h1] at cN hc;rw [L5] at hc;rw [hc] at cQ
   repeat'(first|(with_reducible first|(refine zz ?_;try intro K hK)|refine zI ?_|refine zt ?_|refine zf ?_)|((first|refine hK _ ?_|refine hK _ _ rfl ?_);clear hK K)|(guard_hyp hK;first|(refine zY ?zz ?_;case zz=>first|exact rfl|exact gJ)|refine ab ?_|refine aa ?_|refine zW ?_|(refine zQ (cN) ?_)|(refine zQ (cQ) ?_)|intro b0 hb)|((first|with_reducible refine zm ?_|guard_hyp hK);refine zY ?_ ?_;all_goals(intro hb;(try simp only [sn,sb] at hb);try exact ao)))
   exact db rfl rfl rfl rfl B3 rfl
end Go.Ev
