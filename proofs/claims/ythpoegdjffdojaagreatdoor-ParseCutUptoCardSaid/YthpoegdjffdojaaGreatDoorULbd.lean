import Derived.Test.YthpoegdjffdojaaGreatDoorULbc
set_option linter.all false
set_option maxHeartbeats 4000000
set_option maxRecDepth 10000
namespace Go.Ev
open Go.Proofs
variable {W : fA}
open PS (cE)
def NS (N a n:Nat)(W:fA)(m:Bool):St:=⟨N,[(0,.ref 0 0 0 0),(1,.ref 1 0 0 0),(7,.af (.bool m))],[(0,dE W a none n),(1,Th)]⟩
theorem QH {a:Nat}{b:Option dy}{n:Nat}{oh:OH}(h0:ae oh 0=some (dE W a b n))(h1:ae oh 1=some Th):∀i o,ae (pB W a b n) i=some o->ae oh i=some o:=by
 intro i o h;rcases ow h with⟨rfl,rfl⟩|⟨rfl,rfl⟩
 ·exact h0
 ·exact h1
theorem QI (a:Nat)(b:Option dy)(n:Nat):∀i o,ae (pB W a b n) i=some o->o.rn (fun i=>i) (fun _=>0) i=o:=by
 intro i o h;rcases ow h with⟨rfl,rfl⟩|⟨rfl,rfl⟩
 ·show Obj.mk 5 [(KS W a b n).oI _ _] _ true=_;rw [oX _ _ (je a b n)];rfl
 ·rfl
theorem KQ (a:Nat)(b:Option dy)(n:Nat):pN (fun i=>i) (fun _=>0) (dz W a b n)=dz W a b n:=KP _ _ rfl a b n
theorem QD {a:Nat}{b:Option dy}{n:Nat}:∀i o,ae (dz W a b n) i=some o->o.ver=0/\o.live=true/\∀v ∈ o.el,v.cl (dz W a b n):=by
 intro i o h;obtain⟨rfl,rfl⟩:=aR h;exact⟨rfl,rfl,fZ _⟩
theorem QE {a:Nat}{b:Option dy}{n:Nat}:∀v ∈ [V.ref 0 0 0 0],v.cl (dz W a b n):=bT rfl
theorem QF {a a':Nat}{b b':Option dy}{n n':Nat}{l:List cE}:∀i o,ae (sx W a' b' n' l 0) i=some o->(ae (dz W a b n) i).isSome=true\/i ∈ [3]:=by
 intro i o h;by_cases h0:i=0
 ·subst h0;exact .inl rfl
 ·by_cases h3:i=3
  ·subst h3;exact .inr (HQ.2 rfl)
  ·rw [sx,ae,if_neg (H5 h0),ae,if_neg (H5 h3)] at h;cases h
theorem QG {a a':Nat}{b b':Option dy}{n n':Nat}{l:List cE}:∀i o o',ae (dz W a b n) i=some o->ae (sx W a' b' n' l 0 ++ dz W a b n) i=some o'->o'.ver=0->o'.live=true->o'.sz=o.sz/\o.el.length<=o'.el.length:=by
 intro i o o' h1 h2 h3 h4;obtain⟨rfl,rfl⟩:=aR h1;rcases qx h2 with⟨-,rfl⟩|⟨e,-⟩
 ·exact⟨rfl,wU _⟩
 ·cases e
theorem KW {dec:ByteArray->Int×Nat}(hF:Fit W)(hK:TQ W)(hdec:∀t ∈ W.L,t.kind=2->Ok Tryz.prog 87 [gG t.text] true (.ba [tA (dec t.text).1 (dec t.text).2,.af (.int .i64 0)])) :
  ∀d,1<=d->vt (W:=W) Tryz.prog 74 d (PS.un dec d)
 |0,h=>absurd h B3
 |d+1,_=>by
  intro σ ho ha;have IH:=KW hF hK hdec d;by_cases h9:∀t,σ.tok=some t->(t.kind=4/\t.text=PS.ft)\/(t.kind=4/\t.text=PS.aE)->64<=σ.bu
  ·exact OE hF hdec d σ ho ha h9
  obtain⟨t,ht,hmo,ho64⟩:∃t,σ.tok=some t/\((t.kind=4/\t.text=PS.ft)\/(t.kind=4/\t.text=PS.aE))/\¬64<=σ.bu:=by
   simp only [Classical.not_forall] at h9;obtain⟨t,h1,h2,h3⟩:=h9;exact⟨t,h1,h2,h3⟩
  clear h9;have hL:=hF.len;have hk4:t.kind=4:=hmo.elim And.left And.left;have hlk:=kP σ;have ca:=gQ σ 4 PS.ft;have cb:=gQ σ 4 PS.aE;have hlt:=(PS.aX ht).2.2;have hB:∀k w,σ.du k w=decide (t.kind=k/\t.text=w):=fun k w=>by unfold PS.du;rw [ht]
  rw [ht,PS.az ht] at hlk;rw [PS.az ht] at ca cb;rw [hB] at ca cb
  have hun:PS.un dec (d+1) σ=(if t.kind=2 then([⟨1,(dec t.text).1,(dec t.text).2⟩],σ.aK)
    else if t.kind=4/\t.text=PS.ft then
     (if 64<=σ.bu then([],σ.bZ 31) else((PS.un dec d (σ.aK.bE (σ.bu+1))).1 ++ [⟨6,0,0⟩],(PS.un dec d (σ.aK.bE (σ.bu+1))).2.bE σ.bu))
    else if t.kind=4/\t.text=PS.aE then
     (if 64<=σ.bu then([],σ.bZ 31) else((PS.sum (PS.un dec d) (σ.aK.bE (σ.bu+1))).1,(PS.aO 4 PS.aF (PS.sum (PS.un dec d) (σ.aK.bE (σ.bu+1))).2).bE σ.bu))
    else([],σ.bZ 30)):=by rw [PS.un,ht]
  have hav:=PS.dx ht (by rw [hk4];decide);have hd1:1<=d:=by omega
  have r1:(σ.aK.bE (σ.bu+1)).bu+d=65:=by show σ.bu+1+d=65;omega
  have r2:(σ.aK.bE (σ.bu+1)).at_<=W.L.length:=by show σ.aK.at_<=_;rw [hav.1];exact hlt
  have r3:pO (σ.aK.bE (σ.bu+1))=dz W (σ.at_+1) none (σ.bu+1):=by
   show dz W σ.aK.at_ σ.aK.bad (σ.bu+1)=_;rw [hav.1,hav.2.1]
  rw [hun,if_neg (by rw [hk4];decide)];by_cases hmn:t.kind=4/\t.text=PS.ft
  ·rw [if_pos hmn,if_neg ho64]
   have hno:¬(t.kind=4/\t.text=PS.aE):=fun h2=>by
    have:=B4 ByteArray.data (hmn.2.symm.trans h2.2);exact absurd this B3
   rw [F9 hmn] at ca;rw [G4 hno] at cb;have hrec:=IH hd1 _ r1 r2;rw [r3] at hrec;obtain⟨hfo,hfl2⟩:=PS.mT dec d (σ.aK.bE (σ.bu+1));have hhi:=hfo.hi r2;have ho2:(PS.un dec d (σ.aK.bE (σ.bu+1))).2.bu=σ.bu+1:=hfo.bu;unfold Bi at hrec |-;rw [ho2] at hrec;generalize PS.un dec d (σ.aK.bE (σ.bu+1))=r at *;show jP _ _ _ _ _ (sx W r.2.at_ r.2.bad σ.bu (r.1 ++ [⟨6,0,0⟩]) 0) _;rw [bF ht] at hlk ca cb |-;refine ug (s0:=NS Tryz.f74.ntmps σ.at_ (σ.bu+1) W true) bN mix 6 (zO rfl) Tryz.func74 rfl rfl rfl rfl rfl rfl rfl rfl rfl B1 B1 B1 B1 (zO rfl) (zO rfl) (zO rfl) (FB (W:=W) r.2.at_ r.2.bad σ.bu A8) (QI _ _ _) (KQ _ _ _) rfl rfl QD QE QF QG ?_ ?_
   ·dsimp only [nz,JR]
    repeat'(first|(with_reducible first|(refine zz ?_;try intro K hK)|refine zi ?_|refine zh ?_)|((first|apply hK _ _ rfl|apply hK);clear hK K)|(guard_hyp hK;first|refine zx ?_|apply ab|apply aa|refine zW ?_|refine zp 0 (hlk) ?_|refine zp 0 (ca) ?_|refine zp 0 (cb) ?_|intro b0 hb)|((first|refine zj ?_|guard_hyp hK);refine zY ?_ ?_;all_goals(intro hb;(try simp only [sn,sb] at hb);try exact ao)))
    all_goals exact⟨.le,rfl,⟨rfl,rfl,rfl,rfl,rfl,trivial,trivial⟩,⟨rfl,rfl,trivial⟩,⟨fZ _,bT rfl,trivial⟩⟩
   ·unfold NS
    repeat'(first|(with_reducible first|(refine zz ?_;try intro K hK)|refine zi ?_|refine zh ?_)|((first|apply hK _ _ rfl|apply hK);clear hK K)|(guard_hyp hK;first|refine zx ?_|apply ab|apply aa|refine zW ?_|(refine Or.inr (Or.inr (Or.inl (fk 0 3 (hrec) ?hga ?hgb ?hgc ?hgd ?_)));(case hga=>rfl);(case hgb=>rfl);(case hgc=>rfl);(case hgd=>decide))|intro b0 hb)|((first|refine zj ?_|guard_hyp hK);refine zY ?_ ?_;all_goals(intro hb;(try simp only [sn,sb] at hb);try exact ao)))
    refine⟨QH rfl rfl,?_⟩;exact ni (t:=2) (np:=1) (a':=r.2.at_) (b':=r.2.bad) (n':=σ.bu) (l:=r.1 ++ [(⟨6,0,0⟩:cE)]) (v:=1) (r.1.length+1) (by rw [List.length_append];rfl) rfl B3 (au rfl (aW _ _ _)) (Lc.same _ rfl) (kj (F:=vT) (l:=r.1) (a:=⟨6,0,0⟩) rfl rfl rfl (fun x _=>kE x) (pq 6)) B3 rfl
  ·have hop:t.kind=4/\t.text=PS.aE:=hmo.resolve_left hmn;rw [if_neg hmn,if_pos hop,if_neg ho64];rw [G4 hmn] at ca;rw [F9 hop] at cb;have hgd:=PS.mT (X:=W) dec d;have hrec:=Fy hL hgd (Bn hL hgd (IH hd1)) _ r1 r2;rw [r3] at hrec;obtain⟨hfo,hfl2⟩:=PS.tE hgd (σ.aK.bE (σ.bu+1));have ho2:(PS.sum (PS.un dec d) (σ.aK.bE (σ.bu+1))).2.bu=σ.bu+1:=hfo.bu;unfold Bi at hrec |-;rw [ho2] at hrec;generalize PS.sum (PS.un dec d) (σ.aK.bE (σ.bu+1))=r at *;have hnd:=cY [(4,PS.aF)] r.2 hL B3 B3 (kc hK.shut kn);have ho3:(PS.aO 4 PS.aF r.2).bu=σ.bu+1:=(PS.aJ 4 PS.aF r.2).bu.trans ho2;have e9:PS.eO [(4,PS.aF)] r.2=PS.aO 4 PS.aF r.2:=rfl;rw [e9] at hnd;unfold pO at hnd;rw [ho2,ho3] at hnd;generalize PS.aO 4 PS.aF r.2=s9 at *;show jP _ _ _ _ _ (sx W s9.at_ s9.bad σ.bu r.1 0) _;rw [bF ht] at hlk ca cb |-;refine ug (s0:=NS Tryz.f74.ntmps σ.at_ (σ.bu+1) W false) bN mix 6 (zO rfl) Tryz.func74 rfl rfl rfl rfl rfl rfl rfl rfl rfl B1 B1 B1 B1 (zO rfl) (zO rfl) (zO rfl) (FB (W:=W) s9.at_ s9.bad σ.bu A8) (QI _ _ _) (KQ _ _ _) rfl rfl QD QE QF QG ?_ ?_
   ·dsimp only [nz,JR]
    repeat'(first|(with_reducible first|(refine zz ?_;try intro K hK)|refine zi ?_|refine zh ?_)|((first|apply hK _ _ rfl|apply hK);clear hK K)|(guard_hyp hK;first|refine zx ?_|apply ab|apply aa|refine zW ?_|refine zp 0 (hlk) ?_|refine zp 0 (ca) ?_|refine zp 0 (cb) ?_|intro b0 hb)|((first|refine zj ?_|guard_hyp hK);refine zY ?_ ?_;all_goals(intro hb;(try simp only [sn,sb] at hb);try exact ao)))
    all_goals exact⟨.le,rfl,⟨rfl,rfl,rfl,rfl,rfl,trivial,trivial⟩,⟨rfl,rfl,trivial⟩,⟨fZ _,bT rfl,trivial⟩⟩
   ·unfold NS
    repeat'(first|(with_reducible first|(refine zz ?_;try intro K hK)|refine zi ?_|refine zh ?_)|((first|apply hK _ _ rfl|apply hK);clear hK K)|(guard_hyp hK;first|refine zx ?_|apply ab|apply aa|refine zW ?_|(refine Or.inr (Or.inr (Or.inl (fk 0 3 (hrec) ?hga ?hgb ?hgc ?hgd ?_)));(case hga=>rfl);(case hgb=>rfl);(case hgc=>rfl);(case hgd=>decide))|(refine' Or.inr (Or.inr (Or.inl (bY ([(4,PS.aF)]) _ _ (hnd) ?hga ?hgb ?hgc ?hgd ?_)));(case hga=>rfl);(case hgb=>rfl);(case hgc=>rfl);(case hgd=>exact K5 (zO rfl)))|intro b0 hb)|((first|refine zj ?_|guard_hyp hK);refine zY ?_ ?_;all_goals(intro hb;(try simp only [sn,sb] at hb);try exact ao)))
    refine⟨QH rfl rfl,?_⟩;exact ni (t:=2) (np:=1) (a':=s9.at_) (b':=s9.bad) (n':=σ.bu) (l:=r.1) (v:=0) _ rfl rfl B3 (au rfl (aW _ _ _)) (Lc.same _ rfl) (au rfl (jR _)) B3 rfl
end Go.Ev
namespace Go.Ev
open Go.Proofs
variable {W : fA}
open PS (cE)
def Um (N:Nat)(σ:PS W)(k:Int)(g:List ByteArray):St:=⟨N,[(0,.ref 0 0 0 0),(2,.ref 1 0 0 0),(3,.ref 2 0 0 0)],[(0,dE W σ.at_ σ.bad σ.bu),(1,⟨3,[.agg [.af (.int .i8 0),.emp,.emp]],0,true⟩),(2,⟨3,[.agg [.af (.int .i8 k),.ro false (jO g),.emp]],0,true⟩)]⟩
theorem bC {oh oh1:OH}{l:List V}(h:l.all V.QK=true){i sz ver:Nat}(ho:ae oh i=some ⟨sz,[.agg l],ver,true⟩):rW oh oh1 i ⟨sz,[.agg l],ver,true⟩:=by
 refine au ho (fm fun v hv=>?_);have:=F8.1 h v hv;cases v<;>first|trivial|exact absurd this B6
theorem OJ {dec:ByteArray->Int×Nat}(hF:Fit W)(hkn:TQ W)(hS:vt Tryz.prog 39 65 (PS.sum (X:=W) (PS.un dec 65)))
  (σ:PS W) (ho:σ.bu=0) (ha:σ.at_<=W.L.length):jP Tryz.prog 59 (pO σ) [] [.ref 0 0 0 0] (pO (PS.jL dec σ).2) (tg (PS.Ii dec σ).1):=by
 have hL:=hF.len;have ca:=gQ σ 1 PS.mm;have cb:=gQ σ.settle 1 PS.mq;rw [dw,sJ] at cb;obtain⟨hf1,-⟩:=PS.BV σ;have hrow:=Fz hF hS (PS.kv σ).2.2 (by rw [PS.uT];exact hf1.bu.trans ho) (by rw [PS.uT];exact hf1.hi ha);have hsg:=cY [(4,PS.aV)] (PS.rN dec (PS.kv σ).2.2).2 hL B3 B3 (kc hkn.Ka kn);have e9:(PS.jL dec σ).2=PS.eO [(4,PS.aV)] (PS.rN dec (PS.kv σ).2.2).2:=by rw [PS.Om,PS.uT];rfl
 unfold PS.Ii;rw [e9];generalize PS.rN dec (PS.kv σ).2.2=r at *;generalize PS.eO [(4,PS.aV)] r.2=s9 at *;clear e9;generalize hE:PS.kv σ=E at *;unfold PS.kv at hE;dsimp only;unfold pO at hrow hsg ca cb |-;refine bd bN mix 1 (zO rfl) Tryz.func59 rfl rfl B1 B1 (zO rfl) ?vs ?_
 case vs=>exact pQ
 repeat'(first|(refine ld (a:=Code.block 0 _) Unit (fun _=>Um Tryz.f59.ntmps E.2.2 E.1 E.2.1) (fun _=>True) ?_ ?_)|(with_reducible first|(refine zz ?_;try intro K hK)|refine zi ?_|refine zh ?_)|((first|apply hK _ _ rfl|apply hK);clear hK K)|(guard_hyp hK;first|refine zx ?_|apply ab|apply aa|refine zW ?_|intro b0 hb)|((first|refine zj ?_|guard_hyp hK);refine zY ?_ ?_;all_goals(intro hb;(try simp only [sn,sb] at hb);try exact ao)))
 ·rintro - -;unfold Um
  repeat'(first|(with_reducible first|(refine zz ?_;try intro K hK)|refine zi ?_|refine zh ?_)|((first|apply hK _ _ rfl|apply hK);clear hK K)|(guard_hyp hK;first|refine zx ?_|apply ab|apply aa|refine zW ?_|refine zp 0 (hrow) ?_|(refine' Or.inr (Or.inr (Or.inl (bY ([(4,PS.aV)]) _ _ (hsg) ?hga ?hgb ?hgc ?hgd ?_)));(case hga=>rfl);(case hgb=>rfl);(case hgc=>rfl);(case hgd=>exact K5 (zO rfl)))|intro b0 hb)|((first|refine zj ?_|guard_hyp hK);refine zY ?_ ?_;all_goals(intro hb;(try simp only [sn,sb] at hb);try exact ao)))
  exact Fu (l:=[.af (.int .i8 E.1),.ro false (jO E.2.1),.ro false (qh r.1)]) rfl Wg rfl (D0 _) rfl rfl (dR (cr (cr gq))) rfl B3 rfl
 ·intro R hR;clear hrow hsg
  cases hA:σ.du 1 PS.mm with
  |true=>
   obtain⟨t,ht,hk,-⟩:=PS.cj hA;have hlt:=(PS.aX ht).2.2;have hav:=PS.dx ht (by rw [hk];decide);rw [if_pos hA] at hE;subst hE;rw [hA,PS.az ht,(PS.aX ht).1] at ca;rw [(PS.aX ht).1]
   repeat'(first|(with_reducible first|(refine zz ?_;try intro K hK)|refine zi ?_|refine zh ?_)|((first|apply hK _ _ rfl|apply hK);clear hK K)|(guard_hyp hK;first|refine zx ?_|apply ab|apply aa|refine zW ?_|refine zp 0 (ca) ?_|intro b0 hb)|((first|refine zj ?_|guard_hyp hK);refine zY ?_ ?_;all_goals(intro hb;(try simp only [sn,sb] at hb);try exact ao)))
   refine hR _ () trivial (bx ⟨Lc.same _ rfl,Lc.same _ rfl,Lc.same _ rfl,trivial⟩ ⟨?_,bC rfl rfl,ck rfl (gg ⟨Lc.same _ trivial,DS rfl,Lc.same _ trivial,trivial⟩),trivial⟩);dsimp only;rw [hav.1,hav.2.1,hav.2.2];exact au rfl (aW _ _ _)
  |false=>
   rw [if_neg (by rw [hA];exact B6)] at hE;rw [hA] at ca
   cases hB:σ.du 1 PS.mq with
   |true=>
    obtain⟨t,ht,hk,-⟩:=PS.cj hB;have hlt:=(PS.aX ht).2.2;have hav:=PS.dx ht (by rw [hk];decide);rw [if_pos hB] at hE;subst hE;rw [PS.az ht,(PS.aX ht).1] at ca;rw [hB,PS.az ht,(PS.aX ht).1] at cb;rw [(PS.aX ht).1]
    repeat'(first|(with_reducible first|(refine zz ?_;try intro K hK)|refine zi ?_|refine zh ?_)|((first|apply hK _ _ rfl|apply hK);clear hK K)|(guard_hyp hK;first|refine zx ?_|apply ab|apply aa|refine zW ?_|refine zp 0 (ca) ?_|refine zp 0 (cb) ?_|intro b0 hb)|((first|refine zj ?_|guard_hyp hK);refine zY ?_ ?_;all_goals(intro hb;(try simp only [sn,sb] at hb);try exact ao)))
    refine hR _ () trivial (bx ⟨Lc.same _ rfl,Lc.same _ rfl,Lc.same _ rfl,trivial⟩ ⟨?_,bC rfl rfl,ck rfl (gg ⟨Lc.same _ trivial,DS rfl,Lc.same _ trivial,trivial⟩),trivial⟩);dsimp only;rw [hav.1,hav.2.1,hav.2.2];exact au rfl (aW _ _ _)
   |false=>
    rw [if_neg (by rw [hB];exact B6),<- PS.qM] at hE;subst hE;rw [hB] at cb;have c1:=cY [(4,PS.aE)] σ.settle hL B3 B3 (kc hkn.open_ kn);have e1:PS.eO [(4,PS.aE)] σ.settle=PS.aO 4 PS.aE σ:=Bx 4 PS.aE σ;rw [e1] at c1;have ha1:=(PS.aJ 4 PS.aE σ).hi ha;generalize PS.aO 4 PS.aE σ=s1 at *;have c2:=qI s1 hL ha1;generalize PS.gT s1=r2 at *;have c3:=cY [(4,PS.aF)] r2.2 hL B3 B3 (kc hkn.shut kn);have e3:PS.eO [(4,PS.aF)] r2.2=PS.aO 4 PS.aF r2.2:=rfl;rw [e3] at c3;generalize PS.aO 4 PS.aF r2.2=s3 at *;unfold pO at c1 c2 c3
    repeat'(first|(with_reducible first|(refine zz ?_;try intro K hK)|refine zi ?_|refine zh ?_)|((first|apply hK _ _ rfl|apply hK);clear hK K)|(guard_hyp hK;first|refine zx ?_|apply ab|apply aa|refine zW ?_|refine zp 0 (ca) ?_|refine zp 0 (cb) ?_|(refine' Or.inr (Or.inr (Or.inl (bY ([(4,PS.aE)]) _ _ (c1) ?hga ?hgb ?hgc ?hgd ?_)));(case hga=>rfl);(case hgb=>rfl);(case hgc=>rfl);(case hgd=>exact K5 (zO rfl)))|refine zp 0 (c2) ?_|(refine' Or.inr (Or.inr (Or.inl (bY ([(4,PS.aF)]) _ _ (c3) ?hga ?hgb ?hgc ?hgd ?_)));(case hga=>rfl);(case hgb=>rfl);(case hgc=>rfl);(case hgd=>exact K5 (zO rfl)))|intro b0 hb)|((first|refine zj ?_|guard_hyp hK);refine zY ?_ ?_;all_goals(intro hb;(try simp only [sn,sb] at hb);try exact ao)))
    exact hR _ () trivial (bx ⟨Lc.same _ rfl,Lc.same _ rfl,Lc.same _ rfl,trivial⟩ ⟨au rfl (aW _ _ _),bC rfl rfl,bC rfl rfl,trivial⟩)
end Go.Ev
namespace Go.Ev
open Go.Proofs
variable {W : fA}
open PS (cE eZ)
theorem Ft {P:Program}{fn:Func}{s:St}{vs:List V}{a a':Nat}{b b':Option dy}{n n' np t ty id ver sz:Nat}{l l':List V}{fs:List (Nat×Nat)}{z:List Value}(hr:fn.results.toList=[.cell t ty])(h0t:0≠t)(ht:tk P ty=.st fs z)(hz:z.length=l'.length)(h0:0 < l'.length)
  (ha:aA s.env t=.ref id ver 0 0) (hid:0≠id) (ho:ae s.oh id=some ⟨sz,[.agg l],ver,true⟩) (hl:VQ s.oh [(0,dE W a' b' n'),(id,⟨sz,[.agg l'],ver,true⟩)] l l') (hd:∀v ∈ l',v.kx) (hs:ae s.oh 0=some (dE W a' b' n')) (hnp:0 < np) (he:aA s.env 0=.ref 0 0 0 0) :
  iR P fn np (dz W a b n) (.ref 0 0 0 0 :: vs) (dz W a' b' n') (.agg l') .ret s:=by
 have e1:aA [(0,V.ref 0 0 0 0),(t,V.ref id ver 0 0)] t=V.ref id ver 0 0:=by simp [aA,h0t]
 have e2:ae [(0,dE W a' b' n'),(id,⟨sz,[.agg l'],ver,true⟩)] id=some ⟨sz,[.agg l'],ver,true⟩:=by simp [ae,hid]
 refine⟨trivial,true,⟨s.n,[(0,.ref 0 0 0 0),(t,.ref id ver 0 0)],[(0,dE W a' b' n'),(id,⟨sz,[.agg l'],ver,true⟩)]⟩,?_,ot rfl hnp rfl,ua rfl,?_⟩
 ·show Lf _ ⟨s.n,s.env,s.oh⟩;refine bx ⟨?_,?_,trivial⟩ ⟨au hs (aW _ _ _),ck ho (gg hl),trivial⟩
  ·rw [he];exact Lc.same _ rfl
  ·rw [ha];exact Lc.same _ (by show(ae _ id).isSome=true;rw [e2];rfl)
 ·rw [hr];exact AY ht hz h0 e1 e2 (sK hd)
def Ug (W : fA) (N : Nat) (nm : ByteArray) (pr : List ByteArray) (z : Xm W) : St :=
  ⟨N, [(0, .ref 0 0 0 0), (2, .ref 1 0 0 0), (3, .ref 2 0 0 0)],
    [(0, dE W z.1.at_ z.1.bad z.1.bu), (1, ⟨4, [.agg [.af (.string .empty), .emp, .emp, .emp]], 0, true⟩),
     (2, ⟨4, [.agg [.af (.string nm), .ro false (jO pr), .own 4 z.2.2.2.1.1 0 z.2.2.2.1.2, .own 5 z.2.2.2.2.1.1 0 z.2.2.2.2.1.2]], 0, true⟩),
     (4, ⟨3, z.2.1.map tg, z.2.2.2.1.1, true⟩), (5, ⟨1, z.2.2.1.map vS, z.2.2.2.2.1.1, true⟩)]⟩
def Ya (R:List eZ×List ByteArray×PS W)(dec:ByteArray->Int×Nat)(z:Xm W):Prop:=
 z.1.bu=0/\z.1.at_<=W.L.length/\z.2.2.2.1.2=z.2.1.length/\z.2.2.2.2.1.2=z.2.2.1.length/\z.2.2.1.length<=z.1.at_/\z.2.1.length+z.2.2.2.2.2<=W.L.length+2/\
  PS.lg dec z.2.2.2.2.2 z.2.1 z.2.2.1 z.1=R/\1<=z.2.2.2.2.2/\(z.1.bad=none->W.L.length+1 < z.2.2.2.2.2+z.1.at_)
theorem OG {dec:ByteArray->Int×Nat}(hF:Fit W)(hkn:TQ W)(hS:vt Tryz.prog 39 65 (PS.sum (X:=W) (PS.un dec 65)))
  (σ0:PS W) (XA:σ0.du 1 PS.cd=true) (ho0:σ0.bu=0) (ha0:σ0.at_<=W.L.length):jP Tryz.prog 32 (pO σ0) [] [.ref 0 0 0 0] (pO (PS.qA dec σ0.aK).2) (WB (PS.HC dec σ0.aK).1):=by
 have hL:=hF.len;have f0:=PS.bq XA B3;have ho:σ0.aK.bu=0:=f0.bu.trans ho0;have ha:=f0.hi ha0;have c1:=cY [(1,PS.cd),(4,PS.aE)] σ0 hL B3 B3 (kc hkn.WD (kc hkn.open_ kn))
 have e1:PS.eO [(1,PS.cd),(4,PS.aE)] σ0=PS.aO 4 PS.aE σ0.aK:=by
  show PS.aO 4 PS.aE (PS.aO 1 PS.cd σ0)=_;rw [show PS.aO 1 PS.cd σ0=σ0.aK from if_pos XA]
 rw [e1] at c1;have e2:(PS.qA dec σ0.aK).2=(PS.lg dec (W.L.length+2) [] [] (PS.Bg σ0.aK)).2.2:=(PS.tX dec _ _ _ _ _ _).symm;rw [e2];unfold PS.HC;rw [e2];unfold PS.Bg;have f1:=PS.aJ 4 PS.aE σ0.aK;generalize PS.aO 4 PS.aE σ0.aK=s1 at *;have f2:=PS.dC 1 s1;have c2:=mc s1 hL;generalize PS.take 1 s1=r2 at *;have f3:=PS.Bh r2.2;rw [<- PS.KN] at f3 |-;have c3:=ij r2.2 PS.lE hL;have hbr:r2.2.du 4 PS.lE=true->PS.ry r2.2=PS.gT r2.2.aK:=fun h=>if_pos h
 have hbn:r2.2.du 4 PS.lE=false->PS.ry r2.2=([],r2.2.settle):=fun h=>if_neg (by rw [h];exact B6)
 generalize PS.ry r2.2=r3 at *;have f4:=(PS.aJ 4 PS.aF r3.2).trans (PS.aJ 4 PS.dM _);have c4:=cY [(4,PS.aF),(4,PS.dM)] r3.2 hL B3 B3 (kc hkn.shut (kc hkn.lc kn));have e4:PS.eO [(4,PS.aF),(4,PS.dM)] r3.2=PS.aO 4 PS.dM (PS.aO 4 PS.aF r3.2):=rfl;rw [e4] at c4;generalize PS.aO 4 PS.dM (PS.aO 4 PS.aF r3.2)=s5 at *;have fo:=((f1.trans f2).trans f3).trans f4;clear e1 e2 e4;unfold pO at c1 c2 c3 c4 |-;refine bd bN mix 1 (zO rfl) Tryz.func32 rfl rfl B1 B1 (zO rfl) ?vs ?_
 case vs=>exact pQ
 repeat'(first|(refine ld (a:=Code.seq (Code.region 4 _ _) (Code.cond _ _ _)) Unit (fun _=>⟨Tryz.f32.ntmps,[(0,.ref 0 0 0 0),(2,.ref 1 0 0 0),(3,.ref 2 0 0 0)],[(0,dE W r3.2.at_ r3.2.bad r3.2.bu),(1,⟨4,[.agg [.af (.string .empty),.emp,.emp,.emp]],0,true⟩),(2,⟨4,[.agg [.af (.string r2.1),.ro false (jO r3.1),.emp,.emp]],0,true⟩)]⟩) (fun _=>True) ?_ ?_)|(with_reducible first|(refine zz ?_;try intro K hK)|refine zi ?_|refine zh ?_)|((first|apply hK _ _ rfl|apply hK);clear hK K)|(guard_hyp hK;first|refine zx ?_|apply ab|apply aa|refine zW ?_|(refine' Or.inr (Or.inr (Or.inl (bY ([(1,PS.cd),(4,PS.aE)]) _ _ (c1) ?hga ?hgb ?hgc ?hgd ?_)));(case hga=>rfl);(case hgb=>rfl);(case hgc=>rfl);(case hgd=>exact K5 (zO rfl)))|refine zp 0 (c2) ?_|refine zp 0 (c3) ?_|intro b0 hb)|((first|refine zj ?_|guard_hyp hK);refine zY ?_ ?_;all_goals(intro hb;(try simp only [sn,sb] at hb);try exact ao)))
 ·rintro - -
  repeat'(first|(with_reducible first|(refine zz ?_;try intro K hK)|refine zi ?_|refine zh ?_)|((first|apply hK _ _ rfl|apply hK);clear hK K)|(guard_hyp hK;first|refine zx ?_|apply ab|apply aa|refine zW ?_|(refine' Or.inr (Or.inr (Or.inl (bY ([(4,PS.aF),(4,PS.dM)]) _ _ (c4) ?hga ?hgb ?hgc ?hgd ?_)));(case hga=>rfl);(case hgb=>rfl);(case hgc=>rfl);(case hgd=>exact K5 (zO rfl)))|intro b0 hb)|((first|refine zj ?_|guard_hyp hK);refine zY ?_ ?_;all_goals(intro hb;(try simp only [sn,sb] at hb);try exact ao)))
  refine uD (Xm W) (Ug W Tryz.f32.ntmps r2.1 r3.1) (Ya (PS.lg dec (W.L.length+2) [] [] s5) dec) (fun z=>z.2.2.2.2.2) (s5,[],[],(0,0),(0,0),W.L.length+2) ⟨fo.bu.trans ho,fo.hi ha,rfl,rfl,C0 _,by simp,rfl,N0 (C0 _),fun _=>by dsimp only;omega⟩ (bx ⟨Lc.same _ rfl,Lc.same _ rfl,Lc.same _ rfl,trivial⟩ ⟨au rfl (aW _ _ _),bC rfl rfl,ck rfl (gg ⟨Lc.same _ trivial,jz,Lc.gL 4 _ rfl rfl,Lc.gL 5 _ rfl rfl,trivial⟩),ki rfl,ki rfl,trivial⟩) ?_;rintro⟨τ,es,ps,⟨ve,ne⟩,⟨vp,np⟩,k⟩ ⟨q1,q2,q3,q4,q5,q6,q7,q8,q9⟩;dsimp only at q1 q2 q3 q4 q5 q6 q7 q8 q9;obtain⟨k,rfl⟩:∃j,k=j+1:=⟨k - 1,by omega⟩
  rw [PS.lg] at q7;unfold Ug;dsimp only
  cases hb:τ.bad with
  |some f=>
   rw [hb] at q7;dsimp only at q7;rw [<- q7];dsimp only;rw [hb]
   repeat'(first|(with_reducible first|(refine zz ?_;try intro K hK)|refine zi ?_|refine zh ?_)|((first|apply hK _ _ rfl|apply hK);clear hK K)|(guard_hyp hK;first|refine zx ?_|apply ab|apply aa|refine zW ?_|intro b0 hb)|((first|refine zj ?_|guard_hyp hK);refine zY ?_ ?_;all_goals(intro hb;(try simp only [sn,sb] at hb);try exact ao)))
   exact Ft (id:=1) (l':=[.af (.string r2.1),.ro false (jO r3.1),.ro false (NF es),.ro false (jO ps)]) rfl B3 TZ rfl (D0 _) rfl B3 rfl ⟨Lc.same _ trivial,jz,Lc.vM false _ (NF es) (QM rfl rfl q3.symm),Lc.vM false _ (jO ps) (BN rfl rfl rfl q4.symm),trivial⟩ (dR (cr (cr (cr gq)))) rfl B3 rfl
  |none=>
   have hq:=q9 hb;rw [hb] at q7;dsimp only at q7;have d1:=ij τ PS.dc hL
   cases hA:τ.du 4 PS.dc with
   |true=>
    obtain⟨t,ht,hk,-⟩:=PS.cj hA;have hlt:=(PS.aX ht).2.2;have hav:=PS.dx ht (by rw [hk];decide);rw [hA,if_pos rfl] at q7;rw [<- q7];dsimp only;rw [hav.1,hav.2.1,hav.2.2];rw [mZ hA,hA,eL ht (by rw [hk];decide),bF ht] at d1
    repeat'(first|(with_reducible first|(refine zz ?_;try intro K hK)|refine zi ?_|refine zh ?_)|((first|apply hK _ _ rfl|apply hK);clear hK K)|(guard_hyp hK;first|refine zx ?_|apply ab|apply aa|refine zW ?_|refine zp 0 (d1) ?_|intro b0 hb)|((first|refine zj ?_|guard_hyp hK);refine zY ?_ ?_;all_goals(intro hb;(try simp only [sn,sb] at hb);try exact ao)))
    exact Ft (id:=1) (l':=[.af (.string r2.1),.ro false (jO r3.1),.ro false (NF es),.ro false (jO ps)]) rfl B3 TZ rfl (D0 _) rfl B3 rfl ⟨Lc.same _ trivial,jz,Lc.vM false _ (NF es) (QM rfl rfl q3.symm),Lc.vM false _ (jO ps) (BN rfl rfl rfl q4.symm),trivial⟩ (dR (cr (cr (cr gq)))) rfl B3 rfl
   |false=>
    have d2:=gQ τ.settle 1 PS.eC;rw [dw,sJ] at d2;rw [hA,if_neg B6] at q7;rw [qm hA,hA] at d1
    cases hB:τ.du 1 PS.eC with
    |true=>
     obtain⟨t,ht,hk,-⟩:=PS.cj hB;have hlt:=(PS.aX ht).2.2;rw [hB,if_pos rfl] at q7;rw [PS.az ht,bF ht] at d1;rw [hB,PS.az ht,bF ht] at d2;have d3:=qH τ hL hkn.Ka;have l1:=HA τ;have l2:τ.at_+1<=(PS.props τ).2.at_:=Dr W.L.length [] hB;have l3:=PS.jZ τ;have l4:=l3.hi q2;rw [bF ht] at d3;unfold pO at d3;generalize PS.props τ=r9 at *
     have h5:(ps.map vS).take np ++ ((r9.1.map gG).map (V.IL false))=(ps ++ r9.1).map vS:=by
      rw [B7 (by rw [List.length_map];omega),List.map_map,G7];rfl
     repeat'(first|(with_reducible first|(refine zz ?_;try intro K hK)|refine zi ?_|refine zh ?_)|((first|apply hK _ _ rfl|apply hK);clear hK K)|(guard_hyp hK;first|refine zx ?_|apply ab|apply aa|refine zW ?_|refine zp 0 (d1) ?_|refine zp 0 (d2) ?_|refine zp 0 (d3) ?_|intro b0 hb)|((first|refine zj ?_|guard_hyp hK);refine zY ?_ ?_;all_goals(intro hb;(try simp only [sn,sb] at hb);try exact ao)))
     exact⟨(r9.2,es,ps ++ r9.1,(ve,ne),(vp+1,np+((r9.1.map gG).map (V.IL false)).length),k),⟨l3.bu.trans q1,l4,q3,by simp only [List.length_append,List.length_map];omega,by dsimp only;rw [List.length_append];omega,by dsimp only;omega,q7,by dsimp only;have:=hq;omega,fun _=>by dsimp only;have:=hq;omega⟩,T7 _,bx ⟨Lc.same _ rfl,Lc.same _ rfl,Lc.same _ rfl,trivial⟩ ⟨au rfl (aW _ _ _),bC rfl rfl,ck rfl (gg ⟨Lc.same _ trivial,jz,Lc.same _ rfl,Lc.same _ rfl,trivial⟩),au rfl (Jp _),au (B4 (fun e=>some (⟨1,e,vp+1,true⟩:Obj)) h5) (xE _),trivial⟩⟩
    |false=>
     rw [hB,if_neg B6] at q7;rw [hB] at d2;have l0:=PS.bD τ;have d3:=OJ hF hkn hS τ.settle (l0.bu.trans q1) (l0.hi q2);obtain⟨l3,l5⟩:=PS.BU dec τ.settle;have l4:=l3.hi (l0.hi q2);have l6:=l0.le;unfold pO at d1 d2 d3;rw [hb] at d1;generalize (PS.jL dec τ.settle).2=r9 at *;generalize (PS.Ii dec τ.settle).1=e9 at *
     repeat'(first|(with_reducible first|(refine zz ?_;try intro K hK)|refine zi ?_|refine zh ?_)|((first|apply hK _ _ rfl|apply hK);clear hK K)|(guard_hyp hK;first|refine zx ?_|apply ab|apply aa|refine zW ?_|refine zp 0 (d1) ?_|refine zp 0 (d2) ?_|refine zp 0 (d3) ?_|intro b0 hb)|((first|refine zj ?_|guard_hyp hK);refine zY ?_ ?_;all_goals(intro hb;(try simp only [sn,sb] at hb);try exact ao)))
     exact⟨(r9,es ++ [e9],ps,(ve+1,ne+1),(vp,np),k),⟨l3.bu.trans (l0.bu.trans q1),l4,by dsimp only;rw [List.length_append,List.length_singleton];omega,q4,by dsimp only;have:=l3.le;omega,by dsimp only;rw [List.length_append,List.length_singleton];omega,q7,by dsimp only;have:=hq;omega,fun h=>by dsimp only;have:=hq;have:=l5 h;omega⟩,T7 _,bx ⟨Lc.same _ rfl,Lc.same _ rfl,Lc.same _ rfl,trivial⟩ ⟨au rfl (aW _ _ _),bC rfl rfl,ck rfl (gg ⟨Lc.same _ trivial,jz,Lc.same _ rfl,Lc.same _ rfl,trivial⟩),kj (F:=tg) (l:=es) (a:=e9) rfl q3 rfl (fun x _=>qf x) (qf _).lv,au rfl (xE _),trivial⟩⟩
 ·intro R hR
  cases hB:r2.2.du 4 PS.lE with
  |true=>
   obtain⟨t,ht,hk,-⟩:=PS.cj hB;have hlt:=(PS.aX ht).2.2;have hnm:=qI r2.2.aK hL ((PS.bq hB B3).hi (f2.hi (f1.hi ha)));rw [eL ht (by rw [hk];decide),<- hbr hB] at hnm;rw [<- FA,<- FA,mZ hB,hB,eL ht (by rw [hk];decide)] at c3;unfold pO at hnm c3
   repeat'(first|(with_reducible first|(refine zz ?_;try intro K hK)|refine zi ?_|refine zh ?_)|((first|apply hK _ _ rfl|apply hK);clear hK K)|(guard_hyp hK;first|refine zx ?_|apply ab|apply aa|refine zW ?_|refine zp 0 (c3) ?_|refine zp 0 (hnm) ?_|intro b0 hb)|((first|refine zj ?_|guard_hyp hK);refine zY ?_ ?_;all_goals(intro hb;(try simp only [sn,sb] at hb);try exact ao)))
   exact hR _ () trivial (bx ⟨Lc.same _ rfl,Lc.same _ rfl,Lc.same _ rfl,trivial⟩ ⟨au rfl (aW _ _ _),bC rfl rfl,bC rfl rfl,trivial⟩)
  |false=>
   have e3:=hbn hB;subst e3;rw [<- FA,<- FA,qm hB,hB] at c3;unfold pO at c3
   repeat'(first|(with_reducible first|(refine zz ?_;try intro K hK)|refine zi ?_|refine zh ?_)|((first|apply hK _ _ rfl|apply hK);clear hK K)|(guard_hyp hK;first|refine zx ?_|apply ab|apply aa|refine zW ?_|refine zp 0 (c3) ?_|intro b0 hb)|((first|refine zj ?_|guard_hyp hK);refine zY ?_ ?_;all_goals(intro hb;(try simp only [sn,sb] at hb);try exact ao)))
   exact hR _ () trivial (bx ⟨Lc.same _ rfl,Lc.same _ rfl,Lc.same _ rfl,trivial⟩ ⟨au rfl (aW _ _ _),bC rfl rfl,ck rfl (gg ⟨Lc.same _ trivial,DS rfl,Lc.same _ trivial,Lc.same _ trivial,trivial⟩),trivial⟩)
end Go.Ev
namespace Go.Ev
open Go.Proofs
def MX : Option dy->T
 |none=>.af .nilIface
 |some f=>.jq 87 (.ptr (rF f))
def Ew (v:V):OH:=[(0,⟨1,[v],0,true⟩)]
def VL (P:Program)(q:FuncId)(te tp:TypeId):Prop:=∀f:dy,jP P q (Ew (.af (.pointer none))) [] [.ro false (.jq te (.ptr (rF f))),.wr (.jq tp) 0 0 0 0] (Ew (.ro false (.ptr (rF f)))) (.af (.bool true))
theorem Gz {C:CT}{q:FuncId}{te tp:TypeId}{args:List V}{oh:OH}{f:dy}{k:Acc->Prop}(fr:Bool)(id:Nat)(hc:C q [] (.gen (Ew (.af (.pointer none))) [] [.ro false (.jq te (.ptr (rF f))),.wr (.jq tp) 0 0 0 0] (Ew (.ro false (.ptr (rF f)))) (.af (.bool true))))
  (ha:args=[.ro fr (.jq te (.ptr (rF f))),.wr (.jq tp) id 0 0 0]) (hp:ae oh id=some ⟨1,[.af (.pointer none)],0,true⟩)
  (hk:k ⟨[(id,⟨1,[.af (.pointer none)],0,true⟩)],[],[(id,⟨1,[.ro false (.ptr (rF f))],0,true⟩)],.af (.bool true)⟩):oH C q args oh k:=by
 refine⟨_,_,_,_,_,fun _=>id,fun _=>0,hc,by rw [ha];cases fr<;>rfl,fun p hp'=>?_,fun i hi=>by simp at hi,fun i hi j hj _=>?_,hk⟩
 ·obtain rfl:=HQ.1 hp';exact hp
 ·have e1:i=0:=by simpa [Ew] using hi
  have e2:j=0:=by simpa [Ew] using hj
  rw [e1,e2]
theorem LZ (hA:VL Tryz.prog 41 87 103)(f:dy):Ok Tryz.prog 13 [MX (some f)] false (.ba [XO f.code f.line f.Ae f.word,.af (.bool true)]):=by
 have h:=hA f;refine aw bN mix Tryz.func13 rfl rfl B1 (zO rfl) ?_
 repeat'(first|(with_reducible first|(refine zz ?_;try intro K hK)|refine zi ?_|refine zh ?_)|((first|apply hK _ _ rfl|apply hK);clear hK K)|(guard_hyp hK;first|refine zx ?_|apply ab|apply aa|refine zW ?_|(refine Or.inr (Or.inr (Or.inl (Gz false 1 (h) ?hga ?hgb ?_)));(case hga=>rfl);(case hgb=>rfl))|intro b0 hb)|((first|refine zj ?_|guard_hyp hK);refine zY ?_ ?_;all_goals(intro hb;(try simp only [sn,sb] at hb);try exact ao)))
 exact Se (l2:=[.af (.int .i64 f.code),.af (.int .i64 f.line),.af (.int .i64 f.Ae),.af (.string f.word)]) rfl Wf rfl (D0 _) rfl rfl (PB [.int .i64 f.code,.int .i64 f.line,.int .i64 f.Ae,.string f.word]) rfl
theorem Yn : VJ Tryz.prog 52 [.int .i64,.int .i64,.int .i64,.str]:=by
 refine⟨by kernel_rfl,by kernel_rfl,_,Tryz.underlying52,rfl,fun i f h=>?_⟩
 match i with
 |0=>obtain rfl:=C6 h;exact⟨rfl,by decide,_,rfl,by kernel_rfl,.inr (.inr ⟨_,rfl⟩)⟩
 |1=>obtain rfl:=C6 h;exact⟨rfl,by decide,_,rfl,by kernel_rfl,.inr (.inr ⟨_,rfl⟩)⟩
 |2=>obtain rfl:=C6 h;exact⟨rfl,by decide,_,rfl,by kernel_rfl,.inr (.inr ⟨_,rfl⟩)⟩
 |3=>obtain rfl:=C6 h;exact⟨rfl,by decide,_,rfl,by kernel_rfl,.inr (.inl rfl)⟩
 |i+4=>simp at h
end Go.Ev
