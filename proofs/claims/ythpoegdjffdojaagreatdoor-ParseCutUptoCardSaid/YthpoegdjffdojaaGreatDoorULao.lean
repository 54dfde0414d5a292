import Derived.Test.YthpoegdjffdojaaGreatDoorUSpm
set_option linter.all false
set_option maxHeartbeats 60000000
set_option maxRecDepth 10000
namespace Go.Ev
open Go.Proofs
open PS (bV bo)
variable {G : List ByteArray}
def cM (G:List ByteArray):List (List dT)->Nat->WS->Bool×WS
 | [],_,σ=>(true,σ)
 |a :: r,i,σ=>match jT a with
  |none=>(false,σ)
  |some ws=>cM G r (i+1) (bz G (if 0 < i then aB G σ bo else σ) ws)
theorem jX : ∀(l:List (List dT)) (i:Nat) (σ:WS),Fits (cM G l i σ).2->Fits σ
 | [],_,_,h=>h
 |a :: r,i,σ,h=>by
  rw [cM] at h;split at h
  ·exact h
  ·have:=(jX r _ _ h).s;split at this
   ·exact this.w
   ·exact this
theorem wH {ws:bV}{j:Nat}(h:j < ws.length)(σ:WS):bz G σ (ws.take (j+1))=aB G (bz G σ (ws.take j)) ((ws.map fS).getD j default):=by
 rw [I6 h,bn];have:(ws.map fS).getD j default=fS ws[j]:=by rw [List.getD,Zf,uz h];rfl
 rw [this];rfl
theorem RH {l:List (List dT)}{i:Nat}(h:i < l.length):(l.map fW)[i]?=some (fW (l.getD i default)):=by
 rw [Zf,List.getD,uz h];rfl
theorem GU {l:List dT}(h:jT l=none):lA l=.ba [.sl [],.af (.bool false)]:=by unfold lA;rw [h]
theorem GS {l:List dT}{ws:bV}(h:jT l=some ws):lA l=.ba [.sl (iD (ws.map fS)),.af (.bool true)]:=by unfold lA;rw [h]
structure zV (l:List (List dT)):Prop where
 len:l.length<=1073741824
 Xz:∀a ∈ l,a.length<=1073741824
 nH:∀a ∈ l,∀t ∈ a,t.nH.length<=1048576
theorem EH (σ:WS)(l:List (List dT))(hT:∀m:List UInt32,m.length<=1048576->Ok Tryz.prog 23 [.sl (m.map bw)] true (.af (.string (dh (val m)))))(hl:zV l)(hf:Fits (cM G l 0 σ).2) :
  jP Tryz.prog 10 (kC G σ) [] [.ref 0 0 0 0,.ro false (.sl (l.map fW))] (kC G (cM G l 0 σ).2) (.af (.bool ((cM G l 0 σ).1 && decide (0 < l.length)))):=by
 have hl2:(l.map fW).length=l.length:=List.length_map _;have hl3:=hl.len;refine fK bN mix 1 (zO rfl) Tryz.func10 rfl rfl B1 B1 (zO rfl) ?vs ?_
 case vs=>exact LX pQ
 repeat'(first|(with_reducible first|(refine zz ?_;try intro K hK)|refine zI ?_|refine zt ?_|refine zf ?_)|((first|refine hK _ ?_|refine hK _ _ rfl ?_);clear hK K)|(guard_hyp hK;first|(refine zY ?zz ?_;case zz=>first|exact rfl|exact gJ)|refine ab ?_|refine aa ?_|refine zW ?_|intro b0 hb)|((first|with_reducible refine zm ?_|guard_hyp hK);refine zY ?_ ?_;all_goals(intro hb;(try simp only [sn,sb] at hb);try exact ao)))
 refine aT (Nat×WS) (fun z=>⟨Tryz.f10.ntmps,[(0,.ref 0 0 0 0),(1,.ro false (.sl (l.map fW))),(5,.af (.int .i64 z.1))],[(0,jG G z.2)]⟩) (fun z=>z.1<=l.length/\cM G l 0 σ=cM G (l.drop z.1) z.1 z.2) (fun z=>l.length - z.1) [] (0,σ) trivial ⟨C0 _,rfl⟩ ⟨rfl,⟨rfl,rfl,rfl,trivial,rfl,trivial,trivial⟩,⟨rfl,trivial⟩,⟨bS _,trivial⟩⟩ ?_;rintro⟨k,τ⟩ ⟨hk,hz⟩;dsimp only at hk hz |-;by_cases hlt:k < l.length
 ·have hat:=RH hlt;have hme:l.getD k default ∈ l:=by rw [List.getD,uz hlt];exact G9 hlt
  have hsu:=RE (l.getD k default) hT (hl.Xz _ hme) (hl.nH _ hme)
  have hd:cM G (l.drop k) k τ=cM G (l.getD k default :: l.drop (k+1)) k τ:=by
   rw [F7 hlt,List.getD,uz hlt];rfl
  rw [cM] at hd
  cases hs:jT (l.getD k default) with
  |none=>
   rw [GU hs] at hsu;rw [hs] at hd;simp only at hd;rw [hz,hd] at hf |-
   repeat'(first|(guard_hyp hK;refine Sk _ (UO hat ?_))|(with_reducible first|(refine zz ?_;try intro K hK)|refine zI ?_|refine zt ?_|refine zf ?_)|((first|refine hK _ ?_|refine hK _ _ rfl ?_);clear hK K)|(guard_hyp hK;first|(refine zY ?zz ?_;case zz=>first|exact rfl|exact gJ)|refine ab ?_|refine aa ?_|refine zW ?_|(refine zQ (hsu) ?_)|intro b0 hb)|((first|with_reducible refine zm ?_|guard_hyp hK);refine zY ?_ ?_;all_goals(intro hb;(try simp only [sn,sb] at hb);try exact ao)))
   exact db rfl rfl rfl rfl B3 rfl
  |some ws=>
   rw [GS hs] at hsu;rw [hs] at hd;simp only at hd;have hwl:(iD (ws.map fS)).length=ws.length:=by rw [iD,List.length_map,List.length_map]
   have hf2:=hf;rw [hz,hd] at hf2;have hf3:=jX _ _ _ hf2;obtain⟨τ1,hτ1⟩:∃τ1,τ1=(if 0 < k then aB G τ bo else τ):=⟨_,rfl⟩
   rw [<- hτ1] at hd hf3;have hf4:Fits τ1:=hf3.s
   have hws:ws.length < 4611686018427387904:=by
    have h1:=KE G (ws.map fS) τ1;rw [List.length_map] at h1;have h2:Fits (og G τ1 (ws.map fS)):=hf3;unfold Fits at h2;omega
   repeat'(first|(first|refine dU (a:=(Code.region 7 _ _).seq (Code.cond _ _ _)) Unit (fun _=>⟨Tryz.f10.ntmps,[(0,.ref 0 0 0 0),(1,.ro false (.sl (l.map fW))),(5,.af (.int .i64 k)),(6,.ro true (.sl (iD (ws.map fS))))],[(0,jG G τ1)]⟩) (fun _=>True) ?_ ?_|(guard_hyp hK;refine Sk _ (UO hat ?_)))|(with_reducible first|(refine zz ?_;try intro K hK)|refine zI ?_|refine zt ?_|refine zf ?_)|((first|refine hK _ ?_|refine hK _ _ rfl ?_);clear hK K)|(guard_hyp hK;first|(refine zY ?zz ?_;case zz=>first|exact rfl|exact gJ)|refine ab ?_|refine aa ?_|refine zW ?_|(refine zQ (hsu) ?_)|intro b0 hb)|((first|with_reducible refine zm ?_|guard_hyp hK);refine zY ?_ ?_;all_goals(intro hb;(try simp only [sn,sb] at hb);try exact ao)))
   ·rintro - -
    repeat'(first|(with_reducible first|(refine zz ?_;try intro K hK)|refine zI ?_|refine zt ?_|refine zf ?_)|((first|refine hK _ ?_|refine hK _ _ rfl ?_);clear hK K)|(guard_hyp hK;first|(refine zY ?zz ?_;case zz=>first|exact rfl|exact gJ)|refine ab ?_|refine aa ?_|refine zW ?_|intro b0 hb)|((first|with_reducible refine zm ?_|guard_hyp hK);refine zY ?_ ?_;all_goals(intro hb;(try simp only [sn,sb] at hb);try exact ao)))
    refine aT Nat (fun j=>⟨Tryz.f10.ntmps,[(0,.ref 0 0 0 0),(1,.ro false (.sl (l.map fW))),(5,.af (.int .i64 k)),(6,.ro true (.sl (iD (ws.map fS)))),(8,.af (.int .i64 j))],[(0,jG G (bz G τ1 (ws.take j)))]⟩) (fun j=>j<=ws.length) (fun j=>ws.length - j) [] 0 trivial (C0 _) ⟨rfl,⟨rfl,rfl,rfl,trivial,rfl,trivial,rfl,trivial,rfl,trivial,trivial⟩,⟨rfl,trivial⟩,⟨bS _,trivial⟩⟩ ?_;intro j hj;by_cases hlj:j < ws.length
    ·have hatj:(iD (ws.map fS))[j]?=some (gG ((ws.map fS).getD j default)):=tF (by rw [List.length_map];exact hlj)
     have hfj:Fits (bz G τ1 (ws.take (j+1))):=by
      rw [<- L1 (j+1) ws,bn] at hf3;exact hf3.s
     rw [wH hlj] at hfj;have p1:=aL _ _ hfj
     repeat'(first|(guard_hyp hK;refine Sk _ (UO hatj ?_))|(with_reducible first|(refine zz ?_;try intro K hK)|refine zI ?_|refine zt ?_|refine zf ?_)|((first|refine hK _ ?_|refine hK _ _ rfl ?_);clear hK K)|(guard_hyp hK;first|(refine zY ?zz ?_;case zz=>first|exact rfl|exact gJ)|refine ab ?_|refine aa ?_|refine zW ?_|refine iC 0 (p1) ?_|intro b0 hb)|((first|with_reducible refine zm ?_|guard_hyp hK);refine zY ?_ ?_;all_goals(intro hb;(try simp only [sn,sb] at hb);try exact ao)))
     refine⟨j+1,hlj,by omega,rfl,⟨rfl,rfl,rfl,trivial,rfl,trivial,rfl,trivial,rfl,trivial,trivial⟩,⟨?_,trivial⟩,⟨bS _,trivial⟩⟩;rw [wH hlj];rfl
    ·obtain rfl:j=ws.length:=by omega
     rw [J0]
     repeat'(first|(with_reducible first|(refine zz ?_;try intro K hK)|refine zI ?_|refine zt ?_|refine zf ?_)|((first|refine hK _ ?_|refine hK _ _ rfl ?_);clear hK K)|(guard_hyp hK;first|(refine zY ?zz ?_;case zz=>first|exact rfl|exact gJ)|refine ab ?_|refine aa ?_|refine zW ?_|intro b0 hb)|((first|with_reducible refine zm ?_|guard_hyp hK);refine zY ?_ ?_;all_goals(intro hb;(try simp only [sn,sb] at hb);try exact ao)))
     exact⟨(k+1,bz G τ1 ws),⟨hlt,by rw [hz,hd]⟩,by show l.length - (k+1) < l.length - k;omega,rfl,⟨rfl,rfl,rfl,trivial,rfl,trivial,trivial⟩,⟨rfl,trivial⟩,⟨bS _,trivial⟩⟩
   ·intro R hR;by_cases h0:0 < k
    ·rw [if_pos h0] at hτ1;subst hτ1;have p1:=aL _ _ hf4
     repeat'(first|(with_reducible first|(refine zz ?_;try intro K hK)|refine zI ?_|refine zt ?_|refine zf ?_)|((first|refine hK _ ?_|refine hK _ _ rfl ?_);clear hK K)|(guard_hyp hK;first|(refine zY ?zz ?_;case zz=>first|exact rfl|exact gJ)|refine ab ?_|refine aa ?_|refine zW ?_|refine iC 0 (p1) ?_|intro b0 hb)|((first|with_reducible refine zm ?_|guard_hyp hK);refine zY ?_ ?_;all_goals(intro hb;(try simp only [sn,sb] at hb);try exact ao)))
     exact hR _ () trivial ⟨rfl,⟨rfl,rfl,rfl,trivial,rfl,trivial,rfl,trivial,trivial⟩,⟨rfl,trivial⟩,⟨bS _,trivial⟩⟩
    ·rw [if_neg h0] at hτ1;subst hτ1
     repeat'(first|(with_reducible first|(refine zz ?_;try intro K hK)|refine zI ?_|refine zt ?_|refine zf ?_)|((first|refine hK _ ?_|refine hK _ _ rfl ?_);clear hK K)|(guard_hyp hK;first|(refine zY ?zz ?_;case zz=>first|exact rfl|exact gJ)|refine ab ?_|refine aa ?_|refine zW ?_|intro b0 hb)|((first|with_reducible refine zm ?_|guard_hyp hK);refine zY ?_ ?_;all_goals(intro hb;(try simp only [sn,sb] at hb);try exact ao)))
     exact hR _ () trivial ⟨rfl,⟨rfl,rfl,rfl,trivial,rfl,trivial,rfl,trivial,trivial⟩,⟨rfl,trivial⟩,⟨bS _,trivial⟩⟩
 ·obtain rfl:k=l.length:=by omega
  rw [O6] at hz;have hz:cM G l 0 σ=(true,τ):=hz;rw [hz] at hf |-
  repeat'(first|(with_reducible first|(refine zz ?_;try intro K hK)|refine zI ?_|refine zt ?_|refine zf ?_)|((first|refine hK _ ?_|refine hK _ _ rfl ?_);clear hK K)|(guard_hyp hK;first|(refine zY ?zz ?_;case zz=>first|exact rfl|exact gJ)|refine ab ?_|refine aa ?_|refine zW ?_|intro b0 hb)|((first|with_reducible refine zm ?_|guard_hyp hK);refine zY ?_ ?_;all_goals(intro hb;(try simp only [sn,sb] at hb);try exact ao)))
  exact db rfl rfl (by rw [L5,hl2];exact V9.2 A8) rfl B3 rfl
end Go.Ev
namespace Go.Ev
open Go.Proofs
open PS (bV bo mm mq aE aF aV cd lE dM dc aQ aG)
variable {G : List ByteArray}
structure nt where
 kind:Int
 given:List ByteArray
 nums:List (List dT)
deriving Inhabited
structure pS where
 name:ByteArray
 cX:List ByteArray
 bg:List nt
 aN:List ByteArray
deriving Inhabited
def tw (e:nt):T:=.agg [.af (.int .i8 e.kind),.sl (iD e.given),.sl (e.nums.map fW)]
def xO (p:pS):T:=.agg [.af (.string p.name),.sl (iD p.cX),.sl (p.bg.map tw),.sl (iD p.aN)]
def Ny (e:nt):V:=.agg [.af (.int .i8 e.kind),.ro false (.sl (iD e.given)),.ro false (.sl (e.nums.map fW))]
def Ar (p:pS):V:=.agg [.af (.string p.name),.ro false (.sl (iD p.cX)),.ro false (.sl (p.bg.map tw)),.ro false (.sl (iD p.aN))]
theorem GO (e:nt):(Ny e).flat:=fun v hv=>(dR (cr (cr gq)) v hv).fl
theorem pZ (p:pS):(Ar p).flat:=fun v hv=>(dR (cr (cr (cr gq))) v hv).fl
theorem Nx (e:nt)(oh:OH):∀v ∈ [Ny e],v.cl oh:=fun v hv=>(fm (GO e) v hv).cl oh
theorem iH (p:pS)(oh:OH):∀v ∈ [Ar p],v.cl oh:=fun v hv=>(fm (pZ p) v hv).cl oh
def fY (σ:WS):WS:=⟨σ.out,σ.n,σ.out.size⟩
theorem Fits.m {σ:WS}(h:Fits (fY σ)):Fits σ:=h
def fv (G:List ByteArray)(e:nt)(τ:WS):Option WS:=
 if e.kind=1 then some (aB G τ mm) else if e.kind=2 then some (aB G τ mq)
 else if e.kind=3 then(if ux e.given=true then some (aB G (bz G (aB G τ aE) (aQ e.given)) aF) else none) else none
def fw (G:List ByteArray):List nt->WS->Bool×WS
 | [],τ=>(true,τ)
 |e :: r,τ=>match fv G e τ with
  |none=>(false,τ)
  |some τ1=>if e.kind≠3/\0 < e.given.length then(false,τ1)
   else if((cM G e.nums 0 τ1).1 && decide (0 < e.nums.length))=true then fw G r (aB G (cM G e.nums 0 τ1).2 aV)
   else(false,(cM G e.nums 0 τ1).2)
theorem Ib {e:nt}{τ τ1:WS}(h:fv G e τ=some τ1)(hf:Fits τ1):Fits τ:=by
 unfold fv at h;split at h
 ·obtain rfl:=C6 h;exact hf.w
 ·split at h
  ·obtain rfl:=C6 h;exact hf.w
  ·split at h
   ·split at h
    ·obtain rfl:=C6 h;exact hf.w.s.w
    ·cases h
   ·cases h
theorem ku : ∀(l:List nt) (τ:WS),Fits (fw G l τ).2->Fits τ
 | [],_,h=>h
 |e :: r,τ,h=>by
  rw [fw] at h;split at h
  ·exact h
  ·rename_i τ1 hh;refine Ib hh ?_;split at h
   ·exact h
   ·split at h
    ·exact jX _ _ _ (ku r _ h).w
    ·exact jX _ _ _ h
theorem uS {e:nt}{r:List nt}{τ:WS}(h:fv G e τ=none):fw G (e :: r) τ=(false,τ):=by rw [fw,h]
theorem kK {e:nt}{r:List nt}{τ τ1:WS}(h:fv G e τ=some τ1)(k:e.kind≠3/\0 < e.given.length):fw G (e :: r) τ=(false,τ1):=by
 rw [fw,h];exact if_pos k
theorem zd {e:nt}{r:List nt}{τ τ1:WS}(h:fv G e τ=some τ1)(k:¬(e.kind≠3/\0 < e.given.length))(w:((cM G e.nums 0 τ1).1 && decide (0 < e.nums.length))=false):fw G (e :: r) τ=(false,(cM G e.nums 0 τ1).2):=by
 rw [fw,h];simp only;rw [if_neg k,w,if_neg B6]
theorem ze {e:nt}{r:List nt}{τ τ1:WS}(h:fv G e τ=some τ1)(k:¬(e.kind≠3/\0 < e.given.length))(w:((cM G e.nums 0 τ1).1 && decide (0 < e.nums.length))=true):fw G (e :: r) τ=fw G r (aB G (cM G e.nums 0 τ1).2 aV):=by
 rw [fw,h];simp only;rw [if_neg k,w,if_pos rfl]
theorem BT {e:nt}{r:List nt}{τ τ1:WS}(h:fv G e τ=some τ1)(k:¬(e.kind≠3/\0 < e.given.length))(hf:Fits (fw G (e :: r) τ).2):Fits (cM G e.nums 0 τ1).2:=by
 cases w:((cM G e.nums 0 τ1).1 && decide (0 < e.nums.length)) with
 |false=>rw [zd h k w] at hf;exact hf
 |true=>rw [ze h k w] at hf;exact(ku _ _ hf).w
theorem pF {e:nt}{r:List nt}{τ τ1:WS}(h:fv G e τ=some τ1)(hf:Fits (fw G (e :: r) τ).2):Fits τ1:=by
 by_cases k:e.kind≠3/\0 < e.given.length
 ·rw [kK h k] at hf;exact hf
 ·exact jX _ _ _ (BT h k hf)
def vH (G:List ByteArray)(p:pS)(σ:WS):WS:=aB G (aB G (fY (aB G σ cd)) aE) p.name
def ke (G:List ByteArray)(p:pS)(σ:WS):WS:=if p.cX=[] then vH G p σ else bz G (aB G (vH G p σ) lE) (aQ p.cX)
def rR (G:List ByteArray)(p:pS)(σ:WS):WS:=aB G (aB G (ke G p σ) aF) dM
def Ds (p:pS):Bool:=gH p.name && (decide (p.cX=[]) ||ux p.cX) && tU p.aN
def eu (G:List ByteArray)(p:pS)(σ:WS):Bool×WS:=
 if Ds p=true then
  (if(fw G p.bg (rR G p σ)).1=true then(true,aB G (bz G (fw G p.bg (rR G p σ)).2 (aG p.aN)) dc) else(false,(fw G p.bg (rR G p σ)).2))
 else(false,σ)
theorem tW {p:pS}{σ:WS}(h:Fits (eu G p σ).2):Ds p=true->Fits (fw G p.bg (rR G p σ)).2:=by
 intro hc;unfold eu at h;rw [if_pos hc] at h;split at h
 ·exact h.w.s
 ·exact h
theorem JP {l:List nt}{i:Nat}(h:i < l.length):(l.map tw)[i]?=some (tw (l.getD i default)):=by
 rw [Zf,List.getD,uz h];rfl
structure Ty (p:pS):Prop where
 nm:p.name.size<=1048576
 pl:p.cX.length<=1073741824
 pz:∀s ∈ p.cX,s.size<=1048576
 el:p.bg.length<=1073741824
 gl:∀e ∈ p.bg,e.given.length<=1073741824
 gz:∀e ∈ p.bg,∀s ∈ e.given,s.size<=1048576
 nu:∀e ∈ p.bg,zV e.nums
 rl:p.aN.length<=1073741824
 rz:∀s ∈ p.aN,s.size<=1048576
theorem Ag (σ:WS)(p:pS)(hT:∀m:List UInt32,m.length<=1048576->Ok Tryz.prog 23 [.sl (m.map bw)] true (.af (.string (dh (val m)))))
  (hQ:∀s,s.size<=1048576->Ok Tryz.prog 48 [gG s] true (.af (.string (rQ s)))) (hp:Ty p) (hf:Fits (eu G p σ).2) :
  jP Tryz.prog 25 (kC G σ) [] [.ref 0 0 0 0,Ar p] (kC G (eu G p σ).2) (.af (.bool (eu G p σ).1)):=by
 have hpl:(iD p.cX).length=p.cX.length:=List.length_map _;have hel:(p.bg.map tw).length=p.bg.length:=List.length_map _;have hpl0:=hp.pl;have hel0:=hp.el;have hrl0:=hp.rl;have cN:=sO p.name (G6 hp.nm B3);have cP:=uw p.cX (fun s hs=>G6 (hp.pz s hs) B3) A8;have cQ:=qu p.aN hQ hp.rz A8;by_cases hc:Ds p=true
 ·have hc':=hc;unfold Ds at hc';rw [C7,C7,M7,E5] at hc';obtain⟨⟨hc1,hc2⟩,hc3⟩:=hc';have hfe:=tW hf hc;have hfh:=ku _ _ hfe;obtain⟨σ1,e1⟩:∃σ1,σ1=aB G σ cd:=⟨_,rfl⟩
  obtain⟨σ3,e3⟩:∃σ3,σ3=aB G (fY σ1) aE:=⟨_,rfl⟩
  obtain⟨σ4,e4⟩:∃σ4,σ4=aB G σ3 p.name:=⟨_,rfl⟩
  have eA:vH G p σ=σ4:=by rw [e4,e3,e1];rfl
  obtain⟨σ6,e6⟩:∃σ6,σ6=aB G (ke G p σ) aF:=⟨_,rfl⟩
  obtain⟨σ7,e7⟩:∃σ7,σ7=aB G σ6 dM:=⟨_,rfl⟩
  have eH:rR G p σ=σ7:=by rw [e7,e6];rfl
  rw [eH] at hfh hfe;have f7:=hfh;have f6:Fits σ6:=by rw [e7] at f7;exact f7.w
  have fB:Fits (ke G p σ):=by rw [e6] at f6;exact f6.w
  have f4:Fits σ4:=by
   rw [<- eA];unfold ke at fB;split at fB
   ·exact fB
   ·exact fB.s.w
  have f3:Fits σ3:=by rw [e4] at f4;exact f4.w
  have f1:Fits σ1:=by rw [e3] at f3;exact f3.w.m
  have p1:=aL σ cd (by rw [<- e1];exact f1);have p3:=aL (fY σ1) aE (by rw [<- e3];exact f3);have p4:=aL σ3 p.name (by rw [<- e4];exact f4);have p6:=aL (ke G p σ) aF (by rw [<- e6];exact f6);have p7:=aL σ6 dM (by rw [<- e7];exact f7);rw [<- e1] at p1;rw [<- e3] at p3;rw [<- e4] at p4;rw [<- e6] at p6;rw [<- e7] at p7;rw [hc1] at cN;rw [hc3] at cQ
  have hF:eu G p σ=(if(fw G p.bg σ7).1=true then(true,aB G (bz G (fw G p.bg σ7).2 (aG p.aN)) dc) else(false,(fw G p.bg σ7).2)):=by
   unfold eu;rw [if_pos hc,eH]
  rw [hF] at hf |-;clear hF hc eH;refine fK bN mix 1 (zO rfl) Tryz.func25 rfl rfl B1 B1 (zO rfl) ?vs ?_
  case vs=>
   intro v hv;rcases B5.1 hv with rfl|hv
   ·exact pZ p
   ·cases hv
  repeat'(first|(refine dU (a:=(Code.region 1 _ _).seq (Code.cond _ _ _)) Unit (fun _=>⟨Tryz.f25.ntmps,[(0,.ref 0 0 0 0),(3,.ref 1 0 0 0)],[(0,jG G σ),(1,⟨4,[Ar p],0,true⟩)]⟩) (fun _=>True) ?_ ?_)|(with_reducible first|(refine zz ?_;try intro K hK)|refine zI ?_|refine zt ?_|refine zf ?_)|((first|refine hK _ ?_|refine hK _ _ rfl ?_);clear hK K)|(guard_hyp hK;first|(refine zY ?zz ?_;case zz=>first|exact rfl|exact gJ)|refine ab ?_|refine aa ?_|refine zW ?_|intro b0 hb)|((first|with_reducible refine zm ?_|guard_hyp hK);refine zY ?_ ?_;all_goals(intro hb;(try simp only [sn,sb] at hb);try exact ao)))
  ·rintro - -;clear cN cP cQ
   repeat'(first|(refine dU (a:=(Code.region 7 _ _).seq (Code.cond _ _ _)) Unit (fun _=>⟨Tryz.f25.ntmps,[(0,.ref 0 0 0 0),(3,.ref 1 0 0 0)],[(0,jG G (ke G p σ)),(1,⟨4,[Ar p],0,true⟩)]⟩) (fun _=>True) ?_ ?_)|(with_reducible first|(refine zz ?_;try intro K hK)|refine zI ?_|refine zt ?_|refine zf ?_)|((first|refine hK _ ?_|refine hK _ _ rfl ?_);clear hK K)|(guard_hyp hK;first|(refine zY ?zz ?_;case zz=>first|exact rfl|exact gJ)|refine ab ?_|refine aa ?_|refine zW ?_|refine iC 0 (p1) ?_|refine iC 0 (p3) ?_|refine iC 0 (p4) ?_|intro b0 hb)|((first|with_reducible refine zm ?_|guard_hyp hK);refine zY ?_ ?_;all_goals(intro hb;(try simp only [sn,sb] at hb);try exact ao)))
   ·rintro - -;generalize ke G p σ=σ5 at *
    repeat'(first|(with_reducible first|(refine zz ?_;try intro K hK)|refine zI ?_|refine zt ?_|refine zf ?_)|((first|refine hK _ ?_|refine hK _ _ rfl ?_);clear hK K)|(guard_hyp hK;first|(refine zY ?zz ?_;case zz=>first|exact rfl|exact gJ)|refine ab ?_|refine aa ?_|refine zW ?_|refine iC 0 (p6) ?_|refine iC 0 (p7) ?_|intro b0 hb)|((first|with_reducible refine zm ?_|guard_hyp hK);refine zY ?_ ?_;all_goals(intro hb;(try simp only [sn,sb] at hb);try exact ao)))
    clear p1 p3 p4 p6 p7;refine aT (Nat×WS) (fun z=>⟨Tryz.f25.ntmps,[(0,.ref 0 0 0 0),(3,.ref 1 0 0 0),(5,.af (.int .i64 z.1))],[(0,jG G z.2),(1,⟨4,[Ar p],0,true⟩)]⟩) (fun z=>z.1<=p.bg.length/\fw G p.bg σ7=fw G (p.bg.drop z.1) z.2) (fun z=>p.bg.length - z.1) [] (0,σ7) trivial ⟨C0 _,rfl⟩ ⟨rfl,⟨rfl,rfl,rfl,rfl,rfl,trivial,trivial⟩,⟨rfl,rfl,trivial⟩,⟨bS _,iH p _,trivial⟩⟩ ?_;rintro⟨i,τ⟩ ⟨hi,hz⟩;dsimp only at hi hz |-;by_cases hlt:i < p.bg.length
    ·have hat:=JP hlt;have hme:p.bg.getD i default ∈ p.bg:=by rw [List.getD,uz hlt];exact G9 hlt
     have hgl:=hp.gl _ hme;have hgz:=hp.gz _ hme;have hnu:=hp.nu _ hme
     have hd:p.bg.drop i=p.bg.getD i default :: p.bg.drop (i+1):=by
      rw [F7 hlt,List.getD,uz hlt];rfl
     rw [hd] at hz;clear hme hd;generalize p.bg.getD i default=e at hat hgl hgz hnu hz;have hge:(iD e.given).length=e.given.length:=List.length_map _;have cG:=uw e.given (fun s hs=>G6 (hgz s hs) B3) A8;rw [hz] at hfe
     repeat'(first|(first|refine dU (a:=(Code.region 16 _ _).seq (Code.block 2 _)) WS (fun τ1=>⟨Tryz.f25.ntmps,[(0,.ref 0 0 0 0),(3,.ref 1 0 0 0),(5,.af (.int .i64 i)),(6,.ref 2 0 0 0)],[(0,jG G τ1),(1,⟨4,[Ar p],0,true⟩),(2,⟨3,[Ny e],0,true⟩)]⟩) (fun τ1=>fv G e τ=some τ1) ?_ ?_|(guard_hyp hK;refine Sk _ (UO hat ?_)))|(with_reducible first|(refine zz ?_;try intro K hK)|refine zI ?_|refine zt ?_|refine zf ?_)|((first|refine hK _ ?_|refine hK _ _ rfl ?_);clear hK K)|(guard_hyp hK;first|(refine zY ?zz ?_;case zz=>first|exact rfl|exact gJ)|refine ab ?_|refine aa ?_|refine zW ?_|intro b0 hb)|((first|with_reducible refine zm ?_|guard_hyp hK);refine zY ?_ ?_;all_goals(intro hb;(try simp only [sn,sb] at hb);try exact ao)))
     ·intro τ1 hh;have hf1:=pF hh hfe;by_cases hgk:e.kind≠3/\0 < e.given.length
      ·rw [hz,kK hh hgk,if_neg (by exact B6)];obtain⟨hk3,hg0⟩:=hgk
       repeat'(first|(with_reducible first|(refine zz ?_;try intro K hK)|refine zI ?_|refine zt ?_|refine zf ?_)|((first|refine hK _ ?_|refine hK _ _ rfl ?_);clear hK K)|(guard_hyp hK;first|(refine zY ?zz ?_;case zz=>first|exact rfl|exact gJ)|refine ab ?_|refine aa ?_|refine zW ?_|intro b0 hb)|((first|with_reducible refine zm ?_|guard_hyp hK);refine zY ?_ ?_;all_goals(intro hb;(try simp only [sn,sb] at hb);try exact ao)))
       all_goals first|exact db rfl rfl rfl rfl B3 rfl|(exfalso;omega)
      ·have hf2:=BT hh hgk hfe;have cR:=EH τ1 e.nums hT hnu hf2
       cases hw:((cM G e.nums 0 τ1).1 && decide (0 < e.nums.length)) with
       |false=>
        rw [hw] at cR;rw [hz,zd hh hgk hw,if_neg (by exact B6)];generalize (cM G e.nums 0 τ1).2=τ2 at *
        repeat'(first|(with_reducible first|(refine zz ?_;try intro K hK)|refine zI ?_|refine zt ?_|refine zf ?_)|((first|refine hK _ ?_|refine hK _ _ rfl ?_);clear hK K)|(guard_hyp hK;first|(refine zY ?zz ?_;case zz=>first|exact rfl|exact gJ)|refine ab ?_|refine aa ?_|refine zW ?_|refine iC 0 (cR) ?_|intro b0 hb)|((first|with_reducible refine zm ?_|guard_hyp hK);refine zY ?_ ?_;all_goals(intro hb;(try simp only [sn,sb] at hb);try exact ao)))
        all_goals first|exact db rfl rfl rfl rfl B3 rfl|(exfalso;omega)
       |true=>
        rw [hw] at cR;rw [ze hh hgk hw] at hz;rw [ze hh hgk hw] at hfe;have p1:=aL _ aV (ku _ _ hfe);generalize (cM G e.nums 0 τ1).2=τ2 at *
        repeat'(first|(with_reducible first|(refine zz ?_;try intro K hK)|refine zI ?_|refine zt ?_|refine zf ?_)|((first|refine hK _ ?_|refine hK _ _ rfl ?_);clear hK K)|(guard_hyp hK;first|(refine zY ?zz ?_;case zz=>first|exact rfl|exact gJ)|refine ab ?_|refine aa ?_|refine zW ?_|refine iC 0 (cR) ?_|refine iC 0 (p1) ?_|intro b0 hb)|((first|with_reducible refine zm ?_|guard_hyp hK);refine zY ?_ ?_;all_goals(intro hb;(try simp only [sn,sb] at hb);try exact ao)))
        all_goals first
         |exact⟨(i+1,aB G τ2 aV),⟨hlt,hz⟩,by show p.bg.length - (i+1) < p.bg.length - i;omega,rfl,⟨rfl,rfl,rfl,rfl,rfl,trivial,trivial⟩,⟨rfl,rfl,trivial⟩,⟨bS _,iH p _,trivial⟩⟩
         |(exfalso;omega)
     ·intro R hR;have hle:∀(τ1:WS) (s':St),fv G e τ=some τ1->Le ⟨Tryz.f25.ntmps,[(0,.ref 0 0 0 0),(3,.ref 1 0 0 0),(5,.af (.int .i64 i)),(6,.ref 2 0 0 0)],[(0,jG G τ1),(1,⟨4,[Ar p],0,true⟩),(2,⟨3,[Ny e],0,true⟩)]⟩ s'->R s':=fun τ1 s' h1 h2=>hR s' τ1 h1 h2
      clear hR;have hcl:=Nx e;obtain⟨kd,gv,nm⟩:=e;dsimp only at hge cG hgl hgz;by_cases k1:kd=1
      ·subst k1;have hh:fv G ⟨1,gv,nm⟩ τ=some (aB G τ mm):=if_pos rfl;have pT:=aL τ mm (pF hh hfe)
       repeat'(first|(with_reducible first|(refine zz ?_;try intro K hK)|refine zI ?_|refine zt ?_|refine zf ?_)|((first|refine hK _ ?_|refine hK _ _ rfl ?_);clear hK K)|(guard_hyp hK;first|(refine zY ?zz ?_;case zz=>first|exact rfl|exact gJ)|refine ab ?_|refine aa ?_|refine zW ?_|refine iC 0 (pT) ?_|intro b0 hb)|((first|with_reducible refine zm ?_|guard_hyp hK);refine zY ?_ ?_;all_goals(intro hb;(try simp only [sn,sb] at hb);try exact ao)))
       exact hle _ _ hh ⟨rfl,⟨rfl,rfl,rfl,rfl,rfl,trivial,rfl,rfl,trivial⟩,⟨rfl,rfl,rfl,trivial⟩,⟨bS _,iH p _,hcl _,trivial⟩⟩
      ·by_cases k2:kd=2
       ·subst k2;have hh:fv G ⟨2,gv,nm⟩ τ=some (aB G τ mq):=(if_neg (show ¬((2:Int)=1) by decide)).trans (if_pos rfl);have pT:=aL τ mq (pF hh hfe)
        repeat'(first|(with_reducible first|(refine zz ?_;try intro K hK)|refine zI ?_|refine zt ?_|refine zf ?_)|((first|refine hK _ ?_|refine hK _ _ rfl ?_);clear hK K)|(guard_hyp hK;first|(refine zY ?zz ?_;case zz=>first|exact rfl|exact gJ)|refine ab ?_|refine aa ?_|refine zW ?_|refine iC 0 (pT) ?_|intro b0 hb)|((first|with_reducible refine zm ?_|guard_hyp hK);refine zY ?_ ?_;all_goals(intro hb;(try simp only [sn,sb] at hb);try exact ao)))
        exact hle _ _ hh ⟨rfl,⟨rfl,rfl,rfl,rfl,rfl,trivial,rfl,rfl,trivial⟩,⟨rfl,rfl,rfl,trivial⟩,⟨bS _,iH p _,hcl _,trivial⟩⟩
       ·by_cases k3:kd=3
        ·subst k3
         cases hn:ux gv with
         |false=>
          rw [hn] at cG;have hh:fv G ⟨3,gv,nm⟩ τ=none:=((if_neg (show ¬((3:Int)=1) by decide)).trans (if_neg (show ¬((3:Int)=2) by decide))).trans ((if_pos rfl).trans (if_neg (by show ¬(ux gv=true);rw [hn];exact B6)));rw [hz,uS hh,if_neg (by exact B6)]
          repeat'(first|(with_reducible first|(refine zz ?_;try intro K hK)|refine zI ?_|refine zt ?_|refine zf ?_)|((first|refine hK _ ?_|refine hK _ _ rfl ?_);clear hK K)|(guard_hyp hK;first|(refine zY ?zz ?_;case zz=>first|exact rfl|exact gJ)|refine ab ?_|refine aa ?_|refine zW ?_|(refine zQ (cG) ?_)|intro b0 hb)|((first|with_reducible refine zm ?_|guard_hyp hK);refine zY ?_ ?_;all_goals(intro hb;(try simp only [sn,sb] at hb);try exact ao)))
          exact db rfl rfl rfl rfl B3 rfl
         |true=>
          rw [hn] at cG;have hh:fv G ⟨3,gv,nm⟩ τ=some (aB G (bz G (aB G τ aE) (aQ gv)) aF):=((if_neg (show ¬((3:Int)=1) by decide)).trans (if_neg (show ¬((3:Int)=2) by decide))).trans ((if_pos rfl).trans (if_pos hn));have f3:=pF hh hfe;have p1:=aL τ aE f3.w.s;have p2:=sS (aB G τ aE) gv A8 f3.w;have p3:=aL _ aF f3
          repeat'(first|(with_reducible first|(refine zz ?_;try intro K hK)|refine zI ?_|refine zt ?_|refine zf ?_)|((first|refine hK _ ?_|refine hK _ _ rfl ?_);clear hK K)|(guard_hyp hK;first|(refine zY ?zz ?_;case zz=>first|exact rfl|exact gJ)|refine ab ?_|refine aa ?_|refine zW ?_|(refine zQ (cG) ?_)|refine iC 0 (p1) ?_|refine iC 0 (p2) ?_|refine iC 0 (p3) ?_|intro b0 hb)|((first|with_reducible refine zm ?_|guard_hyp hK);refine zY ?_ ?_;all_goals(intro hb;(try simp only [sn,sb] at hb);try exact ao)))
          exact hle _ _ hh ⟨rfl,⟨rfl,rfl,rfl,rfl,rfl,trivial,rfl,rfl,trivial⟩,⟨rfl,rfl,rfl,trivial⟩,⟨bS _,iH p _,hcl _,trivial⟩⟩
        ·have hh:fv G ⟨kd,gv,nm⟩ τ=none:=((if_neg k1).trans (if_neg k2)).trans (if_neg k3);rw [hz,uS hh,if_neg (by exact B6)]
         repeat'(first|(with_reducible first|(refine zz ?_;try intro K hK)|refine zI ?_|refine zt ?_|refine zf ?_)|((first|refine hK _ ?_|refine hK _ _ rfl ?_);clear hK K)|(guard_hyp hK;first|(refine zY ?zz ?_;case zz=>first|exact rfl|exact gJ)|refine ab ?_|refine aa ?_|refine zW ?_|intro b0 hb)|((first|with_reducible refine zm ?_|guard_hyp hK);refine zY ?_ ?_;all_goals(intro hb;(try simp only [sn,sb] at hb);try exact ao)))
         all_goals first|exact db rfl rfl rfl rfl B3 rfl|(exfalso;omega)
    ·obtain rfl:i=p.bg.length:=by omega
     rw [O6] at hz;have hz:fw G p.bg σ7=(true,τ):=hz;rw [hz,if_pos rfl] at hf |-;have pP:=pV τ p.aN hQ hp.rz hc3 A8 hf.w;have pR:=aL _ dc hf
     repeat'(first|(with_reducible first|(refine zz ?_;try intro K hK)|refine zI ?_|refine zt ?_|refine zf ?_)|((first|refine hK _ ?_|refine hK _ _ rfl ?_);clear hK K)|(guard_hyp hK;first|(refine zY ?zz ?_;case zz=>first|exact rfl|exact gJ)|refine ab ?_|refine aa ?_|refine zW ?_|refine iC 0 (pP) ?_|refine iC 0 (pR) ?_|intro b0 hb)|((first|with_reducible refine zm ?_|guard_hyp hK);refine zY ?_ ?_;all_goals(intro hb;(try simp only [sn,sb] at hb);try exact ao)))
     exact db rfl rfl rfl rfl B3 rfl
   ·intro R hR;by_cases h0:p.cX=[]
    ·have eB:ke G p σ=σ4:=by unfold ke;rw [if_pos h0,eA]
     have hpz:p.cX.length=0:=by rw [h0];rfl
     rw [eB] at hR
     repeat'(first|(with_reducible first|(refine zz ?_;try intro K hK)|refine zI ?_|refine zt ?_|refine zf ?_)|((first|refine hK _ ?_|refine hK _ _ rfl ?_);clear hK K)|(guard_hyp hK;first|(refine zY ?zz ?_;case zz=>first|exact rfl|exact gJ)|refine ab ?_|refine aa ?_|refine zW ?_|intro b0 hb)|((first|with_reducible refine zm ?_|guard_hyp hK);refine zY ?_ ?_;all_goals(intro hb;(try simp only [sn,sb] at hb);try exact ao)))
     exact hR _ () trivial ⟨rfl,⟨rfl,rfl,rfl,rfl,trivial⟩,⟨rfl,rfl,trivial⟩,⟨bS _,iH p _,trivial⟩⟩
    ·have hpz:0 < p.cX.length:=G3.2 h0;have eB:ke G p σ=bz G (aB G σ4 lE) (aQ p.cX):=by unfold ke;rw [if_neg h0,eA]
     rw [eB] at hR fB;have pB:=aL σ4 lE fB.s;have pL:=sS (aB G σ4 lE) p.cX A8 fB
     repeat'(first|(with_reducible first|(refine zz ?_;try intro K hK)|refine zI ?_|refine zt ?_|refine zf ?_)|((first|refine hK _ ?_|refine hK _ _ rfl ?_);clear hK K)|(guard_hyp hK;first|(refine zY ?zz ?_;case zz=>first|exact rfl|exact gJ)|refine ab ?_|refine aa ?_|refine zW ?_|refine iC 0 (pB) ?_|refine iC 0 (pL) ?_|intro b0 hb)|((first|with_reducible refine zm ?_|guard_hyp hK);refine zY ?_ ?_;all_goals(intro hb;(try simp only [sn,sb] at hb);try exact ao)))
     exact hR _ () trivial ⟨rfl,⟨rfl,rfl,rfl,rfl,trivial⟩,⟨rfl,rfl,trivial⟩,⟨bS _,iH p _,trivial⟩⟩
  ·intro R hR;clear p1 p3 p4 p6 p7;rcases hc2 with h0|h0
   ·have hpz:p.cX.length=0:=by rw [h0];rfl
    repeat'(first|(with_reducible first|(refine zz ?_;try intro K hK)|refine zI ?_|refine zt ?_|refine zf ?_)|((first|refine hK _ ?_|refine hK _ _ rfl ?_);clear hK K)|(guard_hyp hK;first|(refine zY ?zz ?_;case zz=>first|exact rfl|exact gJ)|refine ab ?_|refine aa ?_|refine zW ?_|(refine zQ (cN) ?_)|(refine zQ (cP) ?_)|(refine zQ (cQ) ?_)|intro b0 hb)|((first|with_reducible refine zm ?_|guard_hyp hK);refine zY ?_ ?_;all_goals(intro hb;(try simp only [sn,sb] at hb);try exact ao)))
    exact hR _ () trivial ⟨rfl,⟨rfl,rfl,rfl,rfl,trivial⟩,⟨rfl,rfl,trivial⟩,⟨bS _,iH p _,trivial⟩⟩
   ·rw [h0] at cP
    repeat'(first|(with_reducible first|(refine zz ?_;try intro K hK)|refine zI ?_|refine zt ?_|refine zf ?_)|((first|refine hK _ ?_|refine hK _ _ rfl ?_);clear hK K)|(guard_hyp hK;first|(refine zY ?zz ?_;case zz=>first|exact rfl|exact gJ)|refine ab ?_|refine aa ?_|refine zW ?_|(refine zQ (cN) ?_)|(refine zQ (cP) ?_)|(refine zQ (cQ) ?_)|intro b0 hb)|((first|with_reducible refine zm ?_|guard_hyp hK);refine zY ?_ ?_;all_goals(intro hb;(try simp only [sn,sb] at hb);try exact ao)))
    all_goals exact hR _ () trivial ⟨rfl,⟨rfl,rfl,rfl,rfl,trivial⟩,⟨rfl,rfl,trivial⟩,⟨bS _,iH p _,trivial⟩⟩
 ·have hF:eu G p σ=(false,σ):=by unfold eu;rw [if_neg hc]
  rw [hF];rw [W4] at hc;unfold Ds at hc;refine fK bN mix 1 (zO rfl) Tryz.func25 rfl rfl B1 B1 (zO rfl) ?vs ?_
  case vs=>
   intro v hv;rcases B5.1 hv with rfl|hv
   ·exact pZ p
   ·cases hv
  cases h1:gH p.name with
  |false=>
   rw [h1] at cN
   repeat'(first|(with_reducible first|(refine zz ?_;try intro K hK)|refine zI ?_|refine zt ?_|refine zf ?_)|((first|refine hK _ ?_|refine hK _ _ rfl ?_);clear hK K)|(guard_hyp hK;first|(refine zY ?zz ?_;case zz=>first|exact rfl|exact gJ)|refine ab ?_|refine aa ?_|refine zW ?_|(refine zQ (cN) ?_)|intro b0 hb)|((first|with_reducible refine zm ?_|guard_hyp hK);refine zY ?_ ?_;all_goals(intro hb;(try simp only [sn,sb] at hb);try exact ao)))
   exact db rfl rfl rfl rfl B3 rfl
  |true=>
   rw [h1] at cN hc
   cases h3:tU p.aN with
   |false=>
    rw [h3] at cQ
    repeat'(first|(with_reducible first|(refine zz ?_;try intro K hK)|refine zI ?_|refine zt ?_|refine zf ?_)|((first|refine hK _ ?_|refine hK _ _ rfl ?_);clear hK K)|(guard_hyp hK;first|(refine zY ?zz ?_;case zz=>first|exact rfl|exact gJ)|refine ab ?_|refine aa ?_|refine zW ?_|(refine zQ (cN) ?_)|(refine zQ (cP) ?_)|(refine zQ (cQ) ?_)|intro b0 hb)|((first|with_reducible refine zm ?_|guard_hyp hK);refine zY ?_ ?_;all_goals(intro hb;(try simp only [sn,sb] at hb);try exact ao)))
    all_goals exact db rfl rfl rfl rfl B3 rfl
   |true=>
    rw [h3,L5,Bool.and_true,R7,K6] at hc;have hpz:0 < p.cX.length:=G3.2 hc.1;rw [hc.2] at cP
    repeat'(first|(with_reducible first|(refine zz ?_;try intro K hK)|refine zI ?_|refine zt ?_|refine zf ?_)|((first|refine hK _ ?_|refine hK _ _ rfl ?_);clear hK K)|(guard_hyp hK;first|(refine zY ?zz ?_;case zz=>first|exact rfl|exact gJ)|refine ab ?_|refine aa ?_|refine zW ?_|(refine zQ (cN) ?_)|(refine zQ (cP) ?_)|(refine zQ (cQ) ?_)|intro b0 hb)|((first|with_reducible refine zm ?_|guard_hyp hK);refine zY ?_ ?_;all_goals(intro hb;(try simp only [sn,sb] at hb);try exact ao)))
    exact db rfl rfl rfl rfl B3 rfl
end Go.Ev
