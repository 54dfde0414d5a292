import Derived.Test.YthpoegdjffdojaaGreatDoorULal
set_option linter.all false
set_option maxHeartbeats 4000000
set_option maxRecDepth 10000
namespace Go.Ev
open Go.Proofs
variable {W : fA}
def rF (f:dy):List T:=[.af (.int .i64 f.code),.af (.int .i64 f.line),.af (.int .i64 f.Ae),.af (.string f.word)]
def oM : Option dy->V
 |none=>.af (.pointer none)
 |some f=>.ro false (.ptr (rF f))
def KS (W:fA)(a:Nat)(b:Option dy)(n:Nat):V:=.agg [.ro true (tv W.L),oM W.late,.af (.int .i64 a),oM b,.af (.int .i64 n)]
def dE (W:fA)(a:Nat)(b:Option dy)(n:Nat):Obj:=⟨5,[KS W a b n],0,true⟩
def dz (W:fA)(a:Nat)(b:Option dy)(n:Nat):OH:=[(0,dE W a b n)]
def pO (σ:PS W):OH:=dz W σ.at_ σ.bad σ.bu
theorem oL (b:Option dy):(oM b).kx:=by
 cases b with
 |none=>exact⟨_,.inl rfl⟩
 |some f=>exact⟨default,.inr ⟨_,_,rfl⟩⟩
theorem BZ {v:V}{l:List V}(h0:v.kx)(h:∀v ∈ l,v.kx):∀u ∈ v :: l,u.kx:=by
 intro u hu;rcases B5.1 hu with rfl|hu
 ·exact h0
 ·exact h u hu
theorem yr (a:Nat)(b:Option dy)(n:Nat):∀v ∈ [V.ro true (tv W.L),oM W.late,.af (.int .i64 a),oM b,.af (.int .i64 n)],v.kx:=
 cr (BZ (oL _) (dR (BZ (oL _) (dR gq))))
theorem V.kx.fl {v:V}(h:v.kx):v.xb:=by
 obtain⟨x,rfl|⟨f,t,rfl⟩⟩:=h<;>trivial
theorem je (a:Nat)(b:Option dy)(n:Nat):(KS W a b n).flat:=fun v hv=>(yr a b n v hv).fl
theorem aW (a:Nat)(b:Option dy)(n:Nat):∀e ∈ (dE W a b n).el,e.flat:=fm (je a b n)
theorem fZ {a:Nat}{b:Option dy}{n:Nat}(oh:OH):∀v ∈ (dE W a b n).el,v.cl oh:=fun v hv=>(aW a b n v hv).cl oh
theorem pa {a a':Nat}{b b':Option dy}{n n':Nat}{i:Nat}{o:Obj}(h:ae (dz W a' b' n' ++ dz W a b n) i=some o):i=0/\o=dE W a' b' n':=by
 by_cases h0:i=0
 ·subst h0;have e:ae (dz W a' b' n' ++ dz W a b n) 0=some (dE W a' b' n'):=rfl;rw [e] at h;exact⟨rfl,(C6 h).symm⟩
 ·rw [show dz W a' b' n' ++ dz W a b n=[(0,_),(0,_)] from rfl,ae,if_neg (H5 h0),ae,if_neg (H5 h0)] at h;cases h
theorem ot {s:St}{vs:List V}{a a':Nat}{b b':Option dy}{n n' np:Nat}(hs:ae s.oh 0=some (dE W a' b' n'))(hnp:0 < np)(he:aA s.env 0=.ref 0 0 0 0) :
  ∀i o o',ae (dz W a b n) i=some o->ae (dz W a' b' n' ++ dz W a b n) i=some o'->o'.ver=0->Qp np (.ref 0 0 0 0 :: vs) s i o:=by
 intro i o o' h1 h2 h3;obtain⟨rfl,rfl⟩:=pa h2;obtain⟨-,rfl⟩:=aR h1;exact⟨D0 _,⟨_,hs,rfl,rfl,rfl⟩,0,_,hnp,rfl,he,⟨rfl,rfl⟩⟩
theorem ua {s:St}{a a':Nat}{b b':Option dy}{n n':Nat}(hs:ae s.oh 0=some (dE W a' b' n')):Bm s.oh (dz W a' b' n' ++ dz W a b n):=by
 intro i o h;obtain⟨rfl,rfl⟩:=pa h;refine⟨_,hs,rfl,rfl,rfl,rfl,fun k e e1 he he1=>?_⟩;rw [he] at he1;obtain rfl:e=e1:=by simpa using he1
 cases k with
 |zero=>
  obtain rfl:KS W a' b' n'=e:=by simpa [dE] using he
  exact sK (yr a' b' n')
 |succ k=>simp [dE] at he
theorem bd {P:Program}{C:CT}(hC:∀q ts r,C q ts r->iE P q ts r)(hmix:P.follows .mixedOrders=true){q:FuncId}{fn:Func}{c:Code}{a a':Nat}{b b':Option dy}{n n':Nat}{vs:List V}{r:V}(np:Nat)(hnp:np<=(V.ref 0 0 0 0 :: vs).length)
  (hfn:P.funcs[q]?=some fn) (hname:(fn.name == "runtime.NumGoroutine")=false) (hbody:fn.body=some c) (hok:okB fn.ntmps c=true) (hpar:fT np c=true) (hlen:(V.ref 0 0 0 0 :: vs).length<=fn.ntmps)
  (hvs:∀v ∈ vs,v.flat)
  (h:cK P C c ⟨fn.ntmps,dq 0 (.ref 0 0 0 0 :: vs),[(0,dE W a b n)]⟩ (iR P fn np (dz W a b n) (.ref 0 0 0 0 :: vs) (dz W a' b' n') r)):jP P q (dz W a b n) [] (.ref 0 0 0 0 :: vs) (dz W a' b' n') r:=
 di hC hmix np hnp hfn hname hbody hok hpar hlen
  (fun i o h=>by
   obtain⟨rfl,rfl⟩:=aR h
   exact⟨rfl,rfl,fZ _⟩)
  (fun v hv=>by
   rcases B5.1 hv with rfl|hv
   ·exact rfl
   ·exact(hvs v hv).cl _)
  (fun i o h=>by
   obtain⟨rfl,rfl⟩:=aR h
   exact .inl rfl)
  (fun i o o' h1 h2 h3 h4=>by
   obtain⟨rfl,rfl⟩:=pa h2;obtain⟨-,rfl⟩:=aR h1
   exact⟨rfl,wU _⟩) h
theorem oX (m vo:Nat->Nat){v:V}(h:v.flat):v.oI m vo=v:=by
 cases v with
 |agg l=>
  show V.agg (l.map _)=_
  congr 1
  rw [O2 (g:=id),List.map_id];intro u hu;have:=h u hu;cases u<;>first|rfl|exact this.elim
 |af _=>rfl
 |ro _ _=>rfl
 |emp=>rfl
 |undef=>exact h.elim
 |own _ _ _ _=>exact h.elim
 |ref _ _ _ _=>exact h.elim
 |wr _ _ _ _ _=>exact h.elim
 |ba _=>exact h.elim
theorem KP (m vo:Nat->Nat)(hv:vo 0=0)(a:Nat)(b:Option dy)(n:Nat):pN m vo (dz W a b n)=[(m 0,dE W a b n)]:=by
 show [(m 0,Obj.mk 5 [(KS W a b n).oI m vo] (vo 0+0) true)]=_;rw [oX _ _ (je a b n),hv];rfl
theorem yq {C:CT}{q:FuncId}{args vs:List V}{oh:OH}{a a':Nat}{b b':Option dy}{n n':Nat}{r:V}{k:Acc->Prop}(id:Nat)(hc:C q [] (.gen (dz W a b n) [] vs (dz W a' b' n') r))
  (ha:args.map V.wk=vs.map (V.oI (fun _=>id) (fun _=>0))) (hp:ae oh id=some (dE W a b n)) (hr:∀m vo,r.rn m vo=r)
  (hk:k ⟨[(id,dE W a b n)],[],[(id,dE W a' b' n')],r⟩):oH C q args oh k:=by
 refine⟨_,_,vs,_,r,fun _=>id,fun _=>0,hc,ha,fun p hp'=>?_,fun i hi=>by simp at hi,fun i hi j hj _=>?_,?_⟩
 ·obtain rfl:=HQ.1 hp';show ae oh id=some (Obj.mk 5 [(KS W a b n).oI _ _] _ true);rw [oX _ _ (je a b n)];exact hp
 ·have e1:i=0:=by simpa [dz] using hi
  have e2:j=0:=by simpa [dz] using hj
  rw [e1,e2]
 ·rw [KP _ _ rfl,KP _ _ rfl,hr];exact hk
theorem zp {C:CT}{q:FuncId}{args vs:List V}{oh:OH}{a a':Nat}{b b':Option dy}{n n':Nat}{r:V}{k:Acc->Prop}{A B D:Prop}(id:Nat)(hc:C q [] (.gen (dz W a b n) [] vs (dz W a' b' n') r))(hk:k ⟨[(id,dE W a b n)],[],[(id,dE W a' b' n')],r⟩)
  (ha:args.map V.wk=vs.map (V.oI (fun _=>id) (fun _=>0)):=by rfl) (hp:ae oh id=some (dE W a b n):=by rfl) (hr:∀m vo,r.rn m vo=r:=by exact fun _ _=>rfl):A\/B\/oH C q args oh k\/D:=Or.inr (Or.inr (Or.inl (yq id hc ha hp hr hk)))
theorem Oy {P:Program}{fn:Func}{s:St}{vs:List V}{a a':Nat}{b b':Option dy}{n n' np:Nat}{x:X}(hx:match x with|.exit _=>False|_=>True)(hr:fn.results.toList=[])(hs:ae s.oh 0=some (dE W a' b' n'))(hnp:0 < np)(he:aA s.env 0=.ref 0 0 0 0) :
  iR P fn np (dz W a b n) (.ref 0 0 0 0 :: vs) (dz W a' b' n') (.ba []) x s:=by
 refine⟨hx,false,s,rfl,ot hs hnp he,ua hs,?_⟩;rw [hr]
theorem jy {P:Program}{fn:Func}{s:St}{vs:List V}{a a':Nat}{b b':Option dy}{n n' np t:Nat}{v:V}(hr:fn.results.toList=[.tmp t])(ht:aA s.env t=v)(hb:v.kx)(hs:ae s.oh 0=some (dE W a' b' n'))(hnp:0 < np)(he:aA s.env 0=.ref 0 0 0 0) :
  iR P fn np (dz W a b n) (.ref 0 0 0 0 :: vs) (dz W a' b' n') v .ret s:=by
 refine⟨trivial,false,s,rfl,ot hs hnp he,ua hs,?_⟩;rw [hr];show vB _ _ (aA s.env t) v;rw [ht];obtain⟨x,rfl|⟨f,t,rfl⟩⟩:=hb
 ·exact mO.af _
 ·exact mO.ro _ _
theorem oZ {P:Program}{fn:Func}{s:St}{vs:List V}{a a':Nat}{b b':Option dy}{n n' np t:Nat}{x y:Bool}(hr:fn.results.toList=[.tmp t])(ht:aA s.env t=.af (.bool x))(hb:x=y)(hs:ae s.oh 0=some (dE W a' b' n'))(hnp:0 < np)(he:aA s.env 0=.ref 0 0 0 0) :
  iR P fn np (dz W a b n) (.ref 0 0 0 0 :: vs) (dz W a' b' n') (.af (.bool y)) .ret s:=jy hr (hb▸ht) ⟨_,.inl rfl⟩ hs hnp he
theorem Pe {oh oh1:OH}{f:Bool}{v:V}{r:T}(h:iT oh oh1 f v r):LV oh oh1 v (V.nC f r):=by
 cases r<;>exact Lc.vM f _ _ h
theorem PX {oh oh1:OH}{f:Bool}(r:T):vB oh oh1 (V.nC f r) (V.nC f r):=by
 cases r<;>first|exact mO.af _|exact mO.ro _ _
theorem Sz {oh oh1:OH}{a:Nat}{b:Option dy}{n:Nat}{e:V}(h:Lc oh oh1 e (oM b)) :
  LV oh oh1 (.agg [.ro true (tv W.L),oM W.late,.af (.int .i64 a),e,.af (.int .i64 n)]) (KS W a b n):=by
 refine⟨rfl,fun j x y hx hy=>?_⟩
 match j with
 |0=>simp at hx hy;subst hx;subst hy;exact Lc.same _ trivial
 |1=>simp at hx hy;subst hx;subst hy;exact Lc.same _ ((oL _).fl.Gs _)
 |2=>simp at hx hy;subst hx;subst hy;exact Lc.same _ trivial
 |3=>simp at hx hy;subst hx;subst hy;exact h
 |4=>simp at hx hy;subst hx;subst hy;exact Lc.same _ trivial
 |j+5=>simp at hx
theorem SM {oh oh1:OH}{id:Nat}{f:dy}(ho:ae oh id=some ⟨4,[.agg [.af (.int .i64 f.code),.af (.int .i64 f.line),.af (.int .i64 f.Ae),.af (.string f.word)]],0,true⟩)(hd:ae oh1 id=none):Lc oh oh1 (.ref id 0 0 0) (oM (some f)):=by
 refine Lc.vM false (.ref id 0 0 0) (.ptr (rF f)) (iT.ref id 0 0 0 _ _ _ ho hd rfl rfl rfl rfl fun j v u h1 h2=>?_)
 match j with
 |0=>simp [V.cells] at h1;simp [rF] at h2;subst h1;subst h2;exact .af _
 |1=>simp [V.cells] at h1;simp [rF] at h2;subst h1;subst h2;exact .af _
 |2=>simp [V.cells] at h1;simp [rF] at h2;subst h1;subst h2;exact .af _
 |3=>simp [V.cells] at h1;simp [rF] at h2;subst h1;subst h2;exact .af _
 |j+4=>simp [V.cells] at h1
theorem KR {P:Program}{fn:Func}{s:St}{vs:List V}{a a':Nat}{b:Option dy}{n n' np id:Nat}{f:dy}{x:X}(hx:match x with|.exit _=>False|_=>True)(hr:fn.results.toList=[])
  (hs:ae s.oh 0=some ⟨5,[.agg [.ro true (tv W.L),oM W.late,.af (.int .i64 a'),.ref id 0 0 0,.af (.int .i64 n')]],0,true⟩) (h0:id≠0)
  (ho:ae s.oh id=some ⟨4,[.agg [.af (.int .i64 f.code),.af (.int .i64 f.line),.af (.int .i64 f.Ae),.af (.string f.word)]],0,true⟩) (hnp:0 < np) (he:aA s.env 0=.ref 0 0 0 0) :
  iR P fn np (dz W a b n) (.ref 0 0 0 0 :: vs) (dz W a' (some f) n') (.ba []) x s:=by
 refine⟨hx,true,⟨s.n,[(0,.ref 0 0 0 0)],dz W a' (some f) n'⟩,?_,ot rfl hnp rfl,ua rfl,?_⟩
 ·show Lf _ ⟨s.n,s.env,s.oh⟩;refine bx ⟨?_,trivial⟩ ⟨?_,trivial⟩
  ·rw [he];exact Lc.same _ rfl
  ·exact ck hs (Sz (SM ho (by show ae [(0,_)] id=none;rw [ae,if_neg (H5 h0)];rfl)))
 ·rw [hr]
def UF : Option Tok->V
 |some t=>.ba [ly t,.af (.bool true)]
 |none=>.ba [.agg [.af (.int .i8 0),.af (.string eS),.af (.int .i64 0),.af (.int .i64 0)],.af (.bool false)]
theorem yp {P:Program}{fn:Func}{s:St}{vs:List V}{a a':Nat}{b b':Option dy}{n n' np t t2 ty id ver sz:Nat}{l:List Value}{x:Value}{fs:List (Nat×Nat)}{z:List Value}(hr:fn.results.toList=[.cell t ty,.tmp t2])(ht:tk P ty=.st fs z)(hz:z.length=(l.map V.af).length)(h0:0 < (l.map V.af).length)
  (ha:aA s.env t=.ref id ver 0 0) (ho:ae s.oh id=some ⟨sz,[.agg (l.map .af)],ver,true⟩) (h2:aA s.env t2=.af x) (hs:ae s.oh 0=some (dE W a' b' n')) (hnp:0 < np) (he:aA s.env 0=.ref 0 0 0 0) :
  iR P fn np (dz W a b n) (.ref 0 0 0 0 :: vs) (dz W a' b' n') (.ba [.agg (l.map .af),.af x]) .ret s:=by
 refine⟨trivial,false,s,rfl,ot hs hnp he,ua hs,?_⟩;rw [hr]
 have h:ef P s (.cell t ty) (fun v=>ef P s (.tmp t2) fun u=>∃r1 r2,V.ba [.agg (l.map .af),.af x]=.ba [r1,r2]/\vB s.oh (dz W a' b' n' ++ dz W a b n) v r1/\vB s.oh (dz W a' b' n' ++ dz W a b n) u r2):=by
  refine AY ht hz h0 ha ho ?_;refine⟨_,_,rfl,Gw l,?_⟩;show vB _ _ (aA s.env t2) _;rw [h2];exact mO.af _
 exact h
theorem Hm {σ:PS W}(hb:σ.bad=none)(h:W.L[σ.at_]?=none):pO σ.settle=dz W σ.at_ W.late σ.bu:=by
 unfold pO PS.settle;rw [hb,h]
theorem pQ : ∀v ∈ ([]:List V),v.flat:=fun v h=>by simp at h
theorem IP {x:Value}{l:List V}(h:∀v ∈ l,v.flat):∀v ∈ V.af x :: l,v.flat:=by
 intro v hv;rcases B5.1 hv with rfl|hv
 ·exact trivial
 ·exact h v hv
theorem kP (σ:PS W):jP Tryz.prog 55 (pO σ) [] [.ref 0 0 0 0] (pO σ.settle) (UF σ.tok):=by
 cases hb:σ.bad with
 |some f=>
  have e1:σ.settle=σ:=by unfold PS.settle;rw [hb]
  have e2:σ.tok=none:=by unfold PS.tok;rw [hb]
  rw [e1,e2];unfold pO;rw [hb];refine bd bN mix 1 (zO rfl) Tryz.func55 rfl rfl B1 B1 (zO rfl) ?vs ?_
  case vs=>exact pQ
  repeat'(first|(with_reducible first|(refine zz ?_;try intro K hK)|refine zi ?_|refine zh ?_)|((first|apply hK _ _ rfl|apply hK);clear hK K)|(guard_hyp hK;first|refine zx ?_|apply ab|apply aa|refine zW ?_|intro b0 hb)|((first|refine zj ?_|guard_hyp hK);refine zY ?_ ?_;all_goals(intro hb;(try simp only [sn,sb] at hb);try exact ao)))
  exact yp (l:=[.int .i8 0,.string eS,.int .i64 0,.int .i64 0]) rfl nV rfl (D0 _) rfl rfl rfl rfl B3 rfl
 |none=>
  cases hl:W.L[σ.at_]? with
  |some t=>
   have hlt:σ.at_ < W.L.length:=(yK.1 hl).1;have e2:σ.tok=some t:=by unfold PS.tok;rw [hb];exact hl
   have e1:σ.settle=σ:=PS.az e2;rw [e1,e2];unfold pO;rw [hb];refine bd bN mix 1 (zO rfl) Tryz.func55 rfl rfl B1 B1 (zO rfl) ?vs ?_
   case vs=>exact pQ
   repeat'(first|(refine Sk _ (UO (Vw hl) ?_))|(with_reducible first|(refine zz ?_;try intro K hK)|refine zi ?_|refine zh ?_)|((first|apply hK _ _ rfl|apply hK);clear hK K)|(guard_hyp hK;first|refine zx ?_|apply ab|apply aa|refine zW ?_|intro b0 hb)|((first|refine zj ?_|guard_hyp hK);refine zY ?_ ?_;all_goals(intro hb;(try simp only [sn,sb] at hb);try exact ao)))
   exact yp (l:=[.int .i8 t.kind,.string t.text,.int .i64 t.line,.int .i64 t.Ae]) rfl nV rfl (D0 _) rfl rfl rfl rfl B3 rfl
  |none=>
   have hlt:W.L.length<=σ.at_:=List.getElem?_eq_none_iff.1 hl;have e2:σ.tok=none:=by unfold PS.tok;rw [hb];exact hl
   have hls:=HX hl;rw [Hm hb hl,e2];unfold pO;rw [hb];clear e2 hl hb;obtain⟨a,b,n,h1,h2⟩:=σ;obtain⟨L,late,h3,h4⟩:=W;dsimp only at hlt hls |-
   cases late with
   |none=>exact absurd rfl hls
   |some f=>
    refine bd bN mix 1 (zO rfl) Tryz.func55 rfl rfl B1 B1 (zO rfl) ?vs ?_
    case vs=>exact pQ
    repeat'(first|(with_reducible first|(refine zz ?_;try intro K hK)|refine zi ?_|refine zh ?_)|((first|apply hK _ _ rfl|apply hK);clear hK K)|(guard_hyp hK;first|refine zx ?_|apply ab|apply aa|refine zW ?_|intro b0 hb)|((first|refine zj ?_|guard_hyp hK);refine zY ?_ ?_;all_goals(intro hb;(try simp only [sn,sb] at hb);try exact ao)))
    exact yp (l:=[.int .i8 0,.string eS,.int .i64 0,.int .i64 0]) rfl nV rfl (D0 _) rfl rfl rfl rfl B3 rfl
theorem yu {σ:PS W}(ht:σ.tok=none):pO σ.settle=dz W σ.at_ σ.settle.bad σ.bu:=by
 unfold pO PS.settle;split
 ·rfl
 ·split<;>rfl
theorem bF {σ:PS W}{t:Tok}(ht:σ.tok=some t):pO σ=dz W σ.at_ none σ.bu:=by
 unfold pO;rw [(PS.aX ht).1]
theorem eL {σ:PS W}{t:Tok}(ht:σ.tok=some t)(hk:t.kind≠0):pO σ.aK=dz W (σ.at_+1) none σ.bu:=by
 obtain⟨h1,h2,h3⟩:=PS.dx ht hk;unfold pO;rw [h1,h2,h3]
theorem Bo {σ:PS W}{t:Tok}(ht:σ.tok=some t)(c:Int)(hc:c≠0):pO (σ.bZ c hc)=dz W σ.at_ (some ⟨c,t.line,t.Ae,t.text⟩) σ.bu:=by
 obtain⟨h1,h2,-⟩:=PS.aX ht;unfold pO PS.bZ;rw [h1,h2]
theorem iV (σ:PS W)(c:Int)(hc:c≠0):jP Tryz.prog 53 (pO σ) [] [.ref 0 0 0 0,.af (.int .i64 c)] (pO (σ.bZ c hc)) (.ba []):=by
 have hlk:=kP σ
 cases ht:σ.tok with
 |none=>
  rw [ht] at hlk;rw [kD ht,yu ht];rw [yu ht] at hlk;unfold pO at hlk |-;refine bd bN mix 1 (zO rfl) Tryz.func53 rfl rfl B1 B1 (zO rfl) ?vs ?_
  case vs=>exact IP pQ
  repeat'(first|(with_reducible first|(refine zz ?_;try intro K hK)|refine zi ?_|refine zh ?_)|((first|apply hK _ _ rfl|apply hK);clear hK K)|(guard_hyp hK;first|refine zx ?_|apply ab|apply aa|refine zW ?_|refine zp 0 (hlk) ?_|intro b0 hb)|((first|refine zj ?_|guard_hyp hK);refine zY ?_ ?_;all_goals(intro hb;(try simp only [sn,sb] at hb);try exact ao)))
  all_goals exact Oy trivial rfl rfl B3 rfl
 |some t=>
  rw [ht,PS.az ht] at hlk;rw [Bo ht];rw [bF ht] at hlk |-;refine bd bN mix 1 (zO rfl) Tryz.func53 rfl rfl B1 B1 (zO rfl) ?vs ?_
  case vs=>exact IP pQ
  repeat'(first|(with_reducible first|(refine zz ?_;try intro K hK)|refine zi ?_|refine zh ?_)|((first|apply hK _ _ rfl|apply hK);clear hK K)|(guard_hyp hK;first|refine zx ?_|apply ab|apply aa|refine zW ?_|refine zp 0 (hlk) ?_|intro b0 hb)|((first|refine zj ?_|guard_hyp hK);refine zY ?_ ?_;all_goals(intro hb;(try simp only [sn,sb] at hb);try exact ao)))
  all_goals exact KR trivial rfl rfl (R0 (D3 rfl)) rfl B3 rfl
end Go.Ev
namespace Go.Ev
open Go.Proofs
theorem nq (b:UInt8):Ok Tryz.prog 45 [tb b] true (.af (.bool (isLet b))):=by
 refine aw bN mix Tryz.func45 rfl rfl B1 (zO rfl) ?_
 repeat'(first|(with_reducible first|(refine zz ?_;try intro K hK)|refine zi ?_|refine zh ?_)|((first|apply hK _ _ rfl|apply hK);clear hK K)|(guard_hyp hK;first|refine zx ?_|apply ab|apply aa|refine zW ?_|intro b0 hb)|((first|refine zj ?_|guard_hyp hK);refine zY ?_ ?_;all_goals(intro hb;(try simp only [sn,sb] at hb);try exact ao)))
 all_goals(refine lC rfl rfl ?_;rw [P8];unfold isLet;simp;omega)
theorem iX (b:UInt8):Ok Tryz.prog 68 [tb b] true (.af (.bool (ak b))):=by
 refine aw bN mix Tryz.func68 rfl rfl B1 (zO rfl) ?_
 repeat'(first|(with_reducible first|(refine zz ?_;try intro K hK)|refine zi ?_|refine zh ?_)|((first|apply hK _ _ rfl|apply hK);clear hK K)|(guard_hyp hK;first|refine zx ?_|apply ab|apply aa|refine zW ?_|intro b0 hb)|((first|refine zj ?_|guard_hyp hK);refine zY ?_ ?_;all_goals(intro hb;(try simp only [sn,sb] at hb);try exact ao)))
 all_goals(refine lC rfl rfl ?_;rw [P8];unfold ak;simp;omega)
theorem qT (b:UInt8):Ok Tryz.prog 47 [tb b] true (.af (.bool (bp b))):=by
 have h1:=nq b;have h2:=iX b;refine aw bN mix Tryz.func47 rfl rfl B1 (zO rfl) ?_
 repeat'(first|(with_reducible first|(refine zz ?_;try intro K hK)|refine zi ?_|refine zh ?_)|((first|apply hK _ _ rfl|apply hK);clear hK K)|(guard_hyp hK;first|refine zx ?_|apply ab|apply aa|refine zW ?_|(refine zQ (h1) ?_)|(refine zQ (h2) ?_)|intro b0 hb)|((first|refine zj ?_|guard_hyp hK);refine zY ?_ ?_;all_goals(intro hb;(try simp only [sn,sb] at hb);try exact ao)))
 all_goals(refine lC rfl rfl ?_;unfold bp;simp_all)
def XN (q:Nat):T:=.af (.func (.func q) #[] #[])
theorem oc (s:ByteArray)(i:Nat)(q:Nat)(p:UInt8->Bool)(hq:∀b,Ok Tryz.prog q [tb b] true (.af (.bool (p b))))(hs:s.size<=1073741824)(hi:i<=4294967296):Ok Tryz.prog 46 [gG s,.af (.int .i64 i),XN q] true (.af (.int .i64 (ar p s i))):=by
 refine aw bN mix Tryz.func46 rfl rfl B1 (zO rfl) ?_
 repeat'(first|(with_reducible first|(refine zz ?_;try intro K hK)|refine zi ?_|refine zh ?_)|((first|apply hK _ _ rfl|apply hK);clear hK K)|(guard_hyp hK;first|refine zx ?_|apply ab|apply aa|refine zW ?_|intro b0 hb)|((first|refine zj ?_|guard_hyp hK);refine zY ?_ ?_;all_goals(intro hb;(try simp only [sn,sb] at hb);try exact ao)))
 refine aT Nat (fun n=>⟨Tryz.f46.ntmps,[(0,.af (.string s)),(1,.af (.int .i64 i)),(2,.af (.func (.func q) #[] #[])),(7,.af (.int .i64 n))],[]⟩) (fun n=>(n=0\/i+n<=s.size)/\n+ar p s (i+n)=ar p s i) (fun n=>s.size - (i+n)) [] 0 trivial ⟨.inl rfl,by simp⟩ ⟨rfl,⟨rfl,trivial,rfl,trivial,rfl,trivial,rfl,trivial,trivial⟩,trivial,trivial⟩ ?_;rintro n ⟨h0,h1⟩;by_cases hlt:i+n < s.size
 ·have hd:=hq (ax s (i+n))
  repeat'(first|(refine fy ?_;intro hu)|(with_reducible first|(refine zz ?_;try intro K hK)|refine zi ?_|refine zh ?_)|((first|apply hK _ _ rfl|apply hK);clear hK K)|(guard_hyp hK;first|refine zx ?_|apply ab|apply aa|refine zW ?_|(refine zQ (hd) ?_)|intro b0 hb)|((first|refine zj ?_|guard_hyp hK);refine zY ?_ ?_;all_goals(intro hb;(try simp only [sn,sb] at hb);try exact ao)))
  ·refine⟨n+1,⟨.inr A8,?_⟩,by omega,rfl,⟨rfl,trivial,rfl,trivial,rfl,trivial,rfl,trivial,trivial⟩,trivial,trivial⟩;rw [fj hlt hb] at h1;rw [<- h1,<- P0 i n 1];omega
  ·refine UA rfl rfl ?_;rw [na hlt hb,H8] at h1;rw [h1]
 ·repeat'(first|(with_reducible first|(refine zz ?_;try intro K hK)|refine zi ?_|refine zh ?_)|((first|apply hK _ _ rfl|apply hK);clear hK K)|(guard_hyp hK;first|refine zx ?_|apply ab|apply aa|refine zW ?_|intro b0 hb)|((first|refine zj ?_|guard_hyp hK);refine zY ?_ ?_;all_goals(intro hb;(try simp only [sn,sb] at hb);try exact ao)))
  refine UA rfl rfl ?_;rw [lT A8,H8] at h1;rw [h1]
def preB (s w:ByteArray):Bool:=decide (w.size<=s.size) && ((s.extract 0 w.size).toList == w.toList)
theorem AI (s w:ByteArray)(hs:s.size<=1073741826)(hw:w.size<=1073741826):Ok Tryz.prog 105 [gG s,gG w] true (.af (.bool (preB s w))):=by
 unfold preB;refine aw bN mix Tryz.func105 rfl rfl B1 (zO rfl) ?_
 repeat'(first|(with_reducible first|(refine zz ?_;try intro K hK)|refine zi ?_|refine zh ?_)|((first|apply hK _ _ rfl|apply hK);clear hK K)|(guard_hyp hK;first|refine zx ?_|apply ab|apply aa|refine zW ?_|intro b0 hb)|((first|refine zj ?_|guard_hyp hK);refine zY ?_ ?_;all_goals(intro hb;(try simp only [sn,sb] at hb);try exact ao)))
 ·exact lC rfl rfl (by rw [F9 A8,L5];rfl)
 ·exact lC rfl rfl (by rw [G4 A8,Y6])
theorem kA (s w:ByteArray)(hs:s.size<=1073741826)(hw:w.size<=1073741826):Ok Tryz.prog 89 [gG s,gG w] true (.af (.bool (preB s w))):=by
 refine aw bN mix Tryz.func89 rfl rfl B1 (zO rfl) ?_
 repeat'(first|(with_reducible first|(refine zz ?_;try intro K hK)|refine zi ?_|refine zh ?_)|((first|apply hK _ _ rfl|apply hK);clear hK K)|(guard_hyp hK;first|refine zx ?_|apply ab|apply aa|refine zW ?_|(refine zQ (AI s w hs hw) ?_)|intro b0 hb)|((first|refine zj ?_|guard_hyp hK);refine zY ?_ ?_;all_goals(intro hb;(try simp only [sn,sb] at hb);try exact ao)))
 exact lC rfl rfl rfl
theorem JW (s w:ByteArray)(hs:s.size<=1073741826)(hw:w.size<=1073741826)(h:preB s w=false):Ok Tryz.prog 118 [gG s,gG w] true (.ba [gG s,.af (.bool false)]):=by
 have h1:=AI s w hs hw;rw [h] at h1;refine aw bN mix Tryz.func118 rfl rfl B1 (zO rfl) ?_
 repeat'(first|(with_reducible first|(refine zz ?_;try intro K hK)|refine zi ?_|refine zh ?_)|((first|apply hK _ _ rfl|apply hK);clear hK K)|(guard_hyp hK;first|refine zx ?_|apply ab|apply aa|refine zW ?_|(refine zQ (h1) ?_)|intro b0 hb)|((first|refine zj ?_|guard_hyp hK);refine zY ?_ ?_;all_goals(intro hb;(try simp only [sn,sb] at hb);try exact ao)))
 exact⟨trivial,_,_,rfl,ay rfl,ay rfl⟩
theorem TD (s w:ByteArray)(hs:s.size<=1073741826)(hw:w.size<=1073741826)(h:preB s w=false):Ok Tryz.prog 98 [gG s,gG w] true (.ba [gG s,.af (.bool false)]):=by
 refine aw bN mix Tryz.func98 rfl rfl B1 (zO rfl) ?_
 repeat'(first|(with_reducible first|(refine zz ?_;try intro K hK)|refine zi ?_|refine zh ?_)|((first|apply hK _ _ rfl|apply hK);clear hK K)|(guard_hyp hK;first|refine zx ?_|apply ab|apply aa|refine zW ?_|(refine zQ (JW s w hs hw h) ?_)|intro b0 hb)|((first|refine zj ?_|guard_hyp hK);refine zY ?_ ?_;all_goals(intro hb;(try simp only [sn,sb] at hb);try exact ao)))
 exact⟨trivial,_,_,rfl,ay rfl,ay rfl⟩
def lG (s:ByteArray):ByteArray:=if eM s then sub s (bJ s) (ar ak s (bJ s)) else⟨#[]⟩
theorem HL (s:ByteArray)(hs:s.size<=1073741824):Ok Tryz.prog 80 [gG s] true (.ba [.af (.int .i64 (aS s)),.af (.string (lG s))]):=by
 have h0:=fC (p:=ak) (s:=s) (i:=0) (C0 _);have hA:=iM (s:=s);have r0:=oc s 0 68 ak iX hs A8;refine aw bN mix Tryz.func80 rfl rfl B1 (zO rfl) ?_
 repeat'(first|(first|(refine fy (s:=s) (i:=ar ak s 0) ?_ A8;intro hu)|refine dU (a:=Code.seq (Code.region 2 _ _) (Code.cond _ _ _)) Unit (fun _=>⟨Tryz.f80.ntmps,[(0,.af (.string s)),(4,.af (.int .i64 (aI s)))],[]⟩) (fun _=>True) ?_ ?_)|(with_reducible first|(refine zz ?_;try intro K hK)|refine zi ?_|refine zh ?_)|((first|apply hK _ _ rfl|apply hK);clear hK K)|(guard_hyp hK;first|refine zx ?_|apply ab|apply aa|refine zW ?_|(refine zQ (r0) ?_)|intro b0 hb)|((first|refine zj ?_|guard_hyp hK);refine zY ?_ ?_;all_goals(intro hb;(try simp only [sn,sb] at hb);try exact ao)))
 ·rintro - -
  have hlt:∀i,(ax s i).toNat≠0->i < s.size:=fun i h=>by
   rcases G8 i s.size with h9|h9
   ·exact h9
   ·rw [bU h9] at h;exact absurd rfl h
  by_cases hc:(ax s (aI s)).toNat=101\/(ax s (aI s)).toNat=69
  ·have ha:=hlt (aI s) A8;by_cases hk:(ax s (aI s+1)).toNat=43\/(ax s (aI s+1)).toNat=45
   ·have hK:bJ s=aI s+2:=if_pos hk;have ha2:=hlt (aI s+1) A8;have hl:=fC (p:=ak) (s:=s) (i:=aI s+2) A8;have hdg:=oc s (aI s+2) 68 ak iX hs A8;by_cases hm:0 < ar ak s (aI s+2)
    ·have hq:eM s:=⟨hc,by rw [hK];exact hm⟩
     have hF:aS s=aI s+2+ar ak s (aI s+2):=by unfold aS;rw [if_pos hq,hK]
     have hX:lG s=sub s (aI s+2) (ar ak s (aI s+2)):=by unfold lG;rw [if_pos hq,hK]
     rw [hF,hX];clear hF hX hq hK r0;generalize aI s=A9 at *
     repeat'(first|(first|(refine fy (s:=s) (i:=A9) ?_ A8;intro hu)|(refine fy (s:=s) (i:=A9+1) ?_ A8;intro hu))|(with_reducible first|(refine zz ?_;try intro K hK)|refine zi ?_|refine zh ?_)|((first|apply hK _ _ rfl|apply hK);clear hK K)|(guard_hyp hK;first|refine zx ?_|apply ab|apply aa|refine zW ?_|(refine zQ (hdg) ?_)|intro b0 hb)|((first|refine zj ?_|guard_hyp hK);refine zY ?_ ?_;all_goals(intro hb;(try simp only [sn,sb] at hb);try exact ao)))
     all_goals first|refine Sk _ (Sk _ (UO rfl (UO (ay rfl) (ay rfl))))|exact⟨trivial,_,_,rfl,ay rfl,ay rfl⟩|(exfalso;omega)
    ·have hq:¬eM s:=fun h=>hm (by rw [<- hK];exact h.2)
     have hF:aS s=aI s:=by unfold aS;rw [if_neg hq]
     have hX:lG s=⟨#[]⟩:=by unfold lG;rw [if_neg hq]
     rw [hF,hX];clear hF hX hq hK r0;generalize aI s=A9 at *
     repeat'(first|(first|(refine fy (s:=s) (i:=A9) ?_ A8;intro hu)|(refine fy (s:=s) (i:=A9+1) ?_ A8;intro hu))|(with_reducible first|(refine zz ?_;try intro K hK)|refine zi ?_|refine zh ?_)|((first|apply hK _ _ rfl|apply hK);clear hK K)|(guard_hyp hK;first|refine zx ?_|apply ab|apply aa|refine zW ?_|(refine zQ (hdg) ?_)|intro b0 hb)|((first|refine zj ?_|guard_hyp hK);refine zY ?_ ?_;all_goals(intro hb;(try simp only [sn,sb] at hb);try exact ao)))
     all_goals first|refine Sk _ (Sk _ (UO rfl (UO (ay rfl) (ay rfl))))|exact⟨trivial,_,_,rfl,ay rfl,ay rfl⟩|(exfalso;omega)
   ·have hK:bJ s=aI s+1:=if_neg hk;have hl:=fC (p:=ak) (s:=s) (i:=aI s+1) A8;have hdg:=oc s (aI s+1) 68 ak iX hs A8;by_cases hm:0 < ar ak s (aI s+1)
    ·have hq:eM s:=⟨hc,by rw [hK];exact hm⟩
     have hF:aS s=aI s+1+ar ak s (aI s+1):=by unfold aS;rw [if_pos hq,hK]
     have hX:lG s=sub s (aI s+1) (ar ak s (aI s+1)):=by unfold lG;rw [if_pos hq,hK]
     rw [hF,hX];clear hF hX hq hK r0;generalize aI s=A9 at *
     repeat'(first|(first|(refine fy (s:=s) (i:=A9) ?_ A8;intro hu)|(refine fy (s:=s) (i:=A9+1) ?_ A8;intro hu))|(with_reducible first|(refine zz ?_;try intro K hK)|refine zi ?_|refine zh ?_)|((first|apply hK _ _ rfl|apply hK);clear hK K)|(guard_hyp hK;first|refine zx ?_|apply ab|apply aa|refine zW ?_|(refine zQ (hdg) ?_)|intro b0 hb)|((first|refine zj ?_|guard_hyp hK);refine zY ?_ ?_;all_goals(intro hb;(try simp only [sn,sb] at hb);try exact ao)))
     all_goals first|refine Sk _ (Sk _ (UO rfl (UO (ay rfl) (ay rfl))))|exact⟨trivial,_,_,rfl,ay rfl,ay rfl⟩|(exfalso;omega)
    ·have hq:¬eM s:=fun h=>hm (by rw [<- hK];exact h.2)
     have hF:aS s=aI s:=by unfold aS;rw [if_neg hq]
     have hX:lG s=⟨#[]⟩:=by unfold lG;rw [if_neg hq]
     rw [hF,hX];clear hF hX hq hK r0;generalize aI s=A9 at *
     repeat'(first|(first|(refine fy (s:=s) (i:=A9) ?_ A8;intro hu)|(refine fy (s:=s) (i:=A9+1) ?_ A8;intro hu))|(with_reducible first|(refine zz ?_;try intro K hK)|refine zi ?_|refine zh ?_)|((first|apply hK _ _ rfl|apply hK);clear hK K)|(guard_hyp hK;first|refine zx ?_|apply ab|apply aa|refine zW ?_|(refine zQ (hdg) ?_)|intro b0 hb)|((first|refine zj ?_|guard_hyp hK);refine zY ?_ ?_;all_goals(intro hb;(try simp only [sn,sb] at hb);try exact ao)))
     all_goals first|refine Sk _ (Sk _ (UO rfl (UO (ay rfl) (ay rfl))))|exact⟨trivial,_,_,rfl,ay rfl,ay rfl⟩|(exfalso;omega)
  ·have hq:¬eM s:=fun h=>hc h.1
   have hF:aS s=aI s:=by unfold aS;rw [if_neg hq]
   have hX:lG s=⟨#[]⟩:=by unfold lG;rw [if_neg hq]
   rw [hF,hX];clear hF hX hq r0;generalize aI s=A9 at *
   repeat'(first|(refine fy (s:=s) (i:=A9) ?_ A8;intro hu)|(with_reducible first|(refine zz ?_;try intro K hK)|refine zi ?_|refine zh ?_)|((first|apply hK _ _ rfl|apply hK);clear hK K)|(guard_hyp hK;first|refine zx ?_|apply ab|apply aa|refine zW ?_|intro b0 hb)|((first|refine zj ?_|guard_hyp hK);refine zY ?_ ?_;all_goals(intro hb;(try simp only [sn,sb] at hb);try exact ao)))
   all_goals first|refine Sk _ (Sk _ (UO rfl (UO (ay rfl) (ay rfl))))|exact⟨trivial,_,_,rfl,ay rfl,ay rfl⟩|(exfalso;omega)
 ·intro R hR;have e1:∀h:(ax s (ar ak s 0)).toNat=46/\0 < ar ak s (ar ak s 0+1),aI s=ar ak s 0+1+ar ak s (ar ak s 0+1):=fun h=>if_pos h
  have e2:∀h:¬((ax s (ar ak s 0)).toNat=46/\0 < ar ak s (ar ak s 0+1)),aI s=ar ak s 0:=fun h=>if_neg h
  have r1:=oc s (ar ak s 0+1) 68 ak iX hs A8
  have hlt:∀i,(ax s i).toNat≠0->i < s.size:=fun i h=>by
   rcases G8 i s.size with h9|h9
   ·exact h9
   ·rw [bU h9] at h;exact absurd rfl h
  have hlt0:=hlt (ar ak s 0);have e3:¬ar ak s 0 < s.size->¬((ax s (ar ak s 0)).toNat=46/\0 < ar ak s (ar ak s 0+1)):=fun h h2=>h (hlt0 (by rw [h2.1];decide))
  repeat'(first|(refine fy (s:=s) (i:=ar ak s 0) ?_ A8;intro hu)|(with_reducible first|(refine zz ?_;try intro K hK)|refine zi ?_|refine zh ?_)|((first|apply hK _ _ rfl|apply hK);clear hK K)|(guard_hyp hK;first|refine zx ?_|apply ab|apply aa|refine zW ?_|(refine zQ (r1) ?_)|intro b0 hb)|((first|refine zj ?_|guard_hyp hK);refine zY ?_ ?_;all_goals(intro hb;(try simp only [sn,sb] at hb);try exact ao)))
  all_goals first
   |(rw [e1 ⟨by omega,by omega⟩] at hR;exact hR _ () trivial ⟨rfl,⟨rfl,trivial,B4 (fun x=>V.af (.int .i64 x)) A8,trivial,trivial⟩,trivial,trivial⟩)
   |(rw [e2 A8] at hR;exact hR _ () trivial ⟨rfl,⟨rfl,trivial,B4 (fun x=>V.af (.int .i64 x)) A8,trivial,trivial⟩,trivial,trivial⟩)
   |(rw [e2 (e3 A8)] at hR;exact hR _ () trivial ⟨rfl,⟨rfl,trivial,B4 (fun x=>V.af (.int .i64 x)) A8,trivial,trivial⟩,trivial,trivial⟩)
end Go.Ev
