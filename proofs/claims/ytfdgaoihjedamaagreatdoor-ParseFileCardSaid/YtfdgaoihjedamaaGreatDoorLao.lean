import Derived.Test.YtfdgaoihjedamaaGreatDoorLan
set_option linter.all false
set_option maxHeartbeats 4000000
set_option maxRecDepth 10000
namespace Go.Ev
open Go.Proofs
variable {W : Txt}
def fTl (f:Flt):List T:=[.con (.int .i64 f.code),.con (.int .i64 f.line),.con (.int .i64 f.col),.con (.string f.word)]
def vFp : Option Flt→V
 |none=>.con (.pointer none)
 |some f=>.ro false (.ptr (fTl f))
def prV (W:Txt)(a:Nat)(b:Option Flt)(n:Nat):V:=.agg [.ro true (tToks W.L),vFp W.late,.con (.int .i64 a),vFp b,.con (.int .i64 n)]
def prO (W:Txt)(a:Nat)(b:Option Flt)(n:Nat):Obj:=⟨5,[prV W a b n],0,true⟩
def prQ (W:Txt)(a:Nat)(b:Option Flt)(n:Nat):OH:=[(0,prO W a b n)]
def pO (σ:PS W):OH:=prQ W σ.at_ σ.bad σ.opn
theorem vFp_dat (b:Option Flt):(vFp b).dat1:=by
 cases b with
 |none=>exact⟨_,.inl rfl⟩
 |some f=>exact⟨default,.inr ⟨_,_,rfl⟩⟩
theorem dat_cons {v:V}{l:List V}(h0:v.dat1)(h:∀v ∈ l,v.dat1):∀u ∈ v :: l,u.dat1:=by
 intro u hu
 rcases List.mem_cons.1 hu with rfl|hu
 ·exact h0
 ·exact h u hu
theorem prV_dat (a:Nat)(b:Option Flt)(n:Nat):∀v ∈ [V.ro true (tToks W.L),vFp W.late,.con (.int .i64 a),vFp b,.con (.int .i64 n)],v.dat1:=
 dat_ro (dat_cons (vFp_dat _) (dat_con (dat_cons (vFp_dat _) (dat_con dat_nil))))
theorem V.dat1.fl {v:V}(h:v.dat1):v.flat1:=by
 obtain⟨x,rfl|⟨f,t,rfl⟩⟩:=h<;>trivial
theorem prV_flat (a:Nat)(b:Option Flt)(n:Nat):(prV W a b n).flat:=fun v hv=>(prV_dat a b n v hv).fl
theorem pr_flat (a:Nat)(b:Option Flt)(n:Nat):∀e ∈ (prO W a b n).el,e.flat:=one_flat (prV_flat a b n)
theorem pr_cl {a:Nat}{b:Option Flt}{n:Nat}(oh:OH):∀v ∈ (prO W a b n).el,v.cl oh:=fun v hv=>(pr_flat a b n v hv).cl oh
theorem pr_after {a a':Nat}{b b':Option Flt}{n n':Nat}{i:Nat}{o:Obj}(h:oget (prQ W a' b' n' ++ prQ W a b n) i=some o):i=0∧o=prO W a' b' n':=by
 by_cases h0:i=0
 ·subst h0
  have e:oget (prQ W a' b' n' ++ prQ W a b n) 0=some (prO W a' b' n'):=rfl
  rw [e] at h
  exact⟨rfl,(Option.some.inj h).symm⟩
 ·rw [show prQ W a' b' n' ++ prQ W a b n=[(0,_),(0,_)] from rfl,oget,if_neg (Ne.symm h0),oget,if_neg (Ne.symm h0)] at h
  cases h
theorem pr_pin {s:St}{vs:List V}{a a':Nat}{b b':Option Flt}{n n' np:Nat}(hs:oget s.oh 0=some (prO W a' b' n'))(hnp:0 < np)(he:eget s.env 0=.ref 0 0 0 0) :
  ∀i o o',oget (prQ W a b n) i=some o→oget (prQ W a' b' n' ++ prQ W a b n) i=some o'→o'.ver=0→PinG np (.ref 0 0 0 0 :: vs) s i o:=by
 intro i o o' h1 h2 h3
 obtain⟨rfl,rfl⟩:=pr_after h2
 obtain⟨-,rfl⟩:=oget_one h1
 exact⟨Nat.zero_lt_succ _,⟨_,hs,rfl,rfl,rfl⟩,0,_,hnp,rfl,he,⟨rfl,rfl⟩⟩
theorem pr_bm {s:St}{a a':Nat}{b b':Option Flt}{n n':Nat}(hs:oget s.oh 0=some (prO W a' b' n')):Bm s.oh (prQ W a' b' n' ++ prQ W a b n):=by
 intro i o h
 obtain⟨rfl,rfl⟩:=pr_after h
 refine⟨_,hs,rfl,rfl,rfl,rfl,fun k e e1 he he1=>?_⟩
 rw [he] at he1
 obtain rfl:e=e1:=by simpa using he1
 cases k with
 |zero=>
  obtain rfl:prV W a' b' n'=e:=by simpa [prO] using he
  exact bm_aggD (prV_dat a' b' n')
 |succ k=>simp [prO] at he
theorem okp_of_ev {P:Program}{C:CT}(hC:∀q ts r,C q ts r→OkR P q ts r)(hmix:P.follows .mixedOrders=true){q:FuncId}{fn:Func}{c:Code}{a a':Nat}{b b':Option Flt}{n n':Nat}{vs:List V}{r:V}(np:Nat)(hnp:np≤(V.ref 0 0 0 0 :: vs).length)
  (hfn:P.funcs[q]?=some fn) (hname:(fn.name == "runtime.NumGoroutine")=false) (hbody:fn.body=some c) (hok:okB fn.ntmps c=true) (hpar:parB np c=true) (hlen:(V.ref 0 0 0 0 :: vs).length≤fn.ntmps)
  (hvs:∀v ∈ vs,v.flat)
  (h:evC P C c ⟨fn.ntmps,argEnvV 0 (.ref 0 0 0 0 :: vs),[(0,prO W a b n)]⟩ (RetG P fn np (prQ W a b n) (.ref 0 0 0 0 :: vs) (prQ W a' b' n') r)):OkG P q (prQ W a b n) [] (.ref 0 0 0 0 :: vs) (prQ W a' b' n') r:=
 okg_of_ev hC hmix np hnp hfn hname hbody hok hpar hlen
  (fun i o h=>by
   obtain⟨rfl,rfl⟩:=oget_one h
   exact⟨rfl,rfl,pr_cl _⟩)
  (fun v hv=>by
   rcases List.mem_cons.1 hv with rfl|hv
   ·exact rfl
   ·exact(hvs v hv).cl _)
  (fun i o h=>by
   obtain⟨rfl,rfl⟩:=oget_one h
   exact .inl rfl)
  (fun i o o' h1 h2 h3 h4=>by
   obtain⟨rfl,rfl⟩:=pr_after h2
   obtain⟨-,rfl⟩:=oget_one h1
   exact⟨rfl,Nat.le_refl _⟩) h
theorem rn_id (m vo:Nat→Nat){v:V}(h:v.flat):v.rnA m vo=v:=by
 cases v with
 |agg l=>
  show V.agg (l.map _)=_
  congr 1
  rw [List.map_congr_left (g:=id),List.map_id]
  intro u hu
  have:=h u hu
  cases u<;>first|rfl|exact this.elim
 |con _=>rfl
 |ro _ _=>rfl
 |emp=>rfl
 |undef=>exact h.elim
 |own _ _ _ _=>exact h.elim
 |ref _ _ _ _=>exact h.elim
 |wr _ _ _ _ _=>exact h.elim
 |tup _=>exact h.elim
theorem pr_rn (m vo:Nat→Nat)(hv:vo 0=0)(a:Nat)(b:Option Flt)(n:Nat):rnO m vo (prQ W a b n)=[(m 0,prO W a b n)]:=by
 show [(m 0,Obj.mk 5 [(prV W a b n).rnA m vo] (vo 0+0) true)]=_
 rw [rn_id _ _ (prV_flat a b n),hv];rfl
theorem pr_call {C:CT}{q:FuncId}{args vs:List V}{oh:OH}{a a':Nat}{b b':Option Flt}{n n':Nat}{r:V}{k:Acc→Prop}(id:Nat)(hc:C q [] (.gen (prQ W a b n) [] vs (prQ W a' b' n') r))
  (ha:args.map V.wk=vs.map (V.rnA (fun _=>id) (fun _=>0))) (hp:oget oh id=some (prO W a b n)) (hr:∀m vo,r.rn m vo=r)
  (hk:k ⟨[(id,prO W a b n)],[],[(id,prO W a' b' n')],r⟩):GenK C q args oh k:=by
 refine⟨_,_,vs,_,r,fun _=>id,fun _=>0,hc,ha,fun p hp'=>?_,fun i hi=>by simp at hi,fun i hi j hj _=>?_,?_⟩
 ·obtain rfl:=List.mem_singleton.1 hp'
  show oget oh id=some (Obj.mk 5 [(prV W a b n).rnA _ _] _ true)
  rw [rn_id _ _ (prV_flat a b n)];exact hp
 ·have e1:i=0:=by simpa [prQ] using hi
  have e2:j=0:=by simpa [prQ] using hj
  rw [e1,e2]
 ·rw [pr_rn _ _ rfl,pr_rn _ _ rfl,hr]
  exact hk
theorem zp {C:CT}{q:FuncId}{args vs:List V}{oh:OH}{a a':Nat}{b b':Option Flt}{n n':Nat}{r:V}{k:Acc→Prop}{A B D:Prop}(id:Nat)(hc:C q [] (.gen (prQ W a b n) [] vs (prQ W a' b' n') r))(hk:k ⟨[(id,prO W a b n)],[],[(id,prO W a' b' n')],r⟩)
  (ha:args.map V.wk=vs.map (V.rnA (fun _=>id) (fun _=>0)):=by rfl) (hp:oget oh id=some (prO W a b n):=by rfl) (hr:∀m vo,r.rn m vo=r:=by exact fun _ _=>rfl):A∨B∨GenK C q args oh k∨D:=Or.inr (Or.inr (Or.inl (pr_call id hc ha hp hr hk)))
theorem pr_ret0 {P:Program}{fn:Func}{s:St}{vs:List V}{a a':Nat}{b b':Option Flt}{n n' np:Nat}{x:X}(hx:match x with|.exit _=>False|_=>True)(hr:fn.results.toList=[])(hs:oget s.oh 0=some (prO W a' b' n'))(hnp:0 < np)(he:eget s.env 0=.ref 0 0 0 0) :
  RetG P fn np (prQ W a b n) (.ref 0 0 0 0 :: vs) (prQ W a' b' n') (.tup []) x s:=by
 refine⟨hx,false,s,rfl,pr_pin hs hnp he,pr_bm hs,?_⟩
 rw [hr]
theorem pr_ret1 {P:Program}{fn:Func}{s:St}{vs:List V}{a a':Nat}{b b':Option Flt}{n n' np t:Nat}{v:V}(hr:fn.results.toList=[.tmp t])(ht:eget s.env t=v)(hb:v.dat1)(hs:oget s.oh 0=some (prO W a' b' n'))(hnp:0 < np)(he:eget s.env 0=.ref 0 0 0 0) :
  RetG P fn np (prQ W a b n) (.ref 0 0 0 0 :: vs) (prQ W a' b' n') v .ret s:=by
 refine⟨trivial,false,s,rfl,pr_pin hs hnp he,pr_bm hs,?_⟩
 rw [hr]
 show BmA _ _ (eget s.env t) v
 rw [ht]
 obtain⟨x,rfl|⟨f,t,rfl⟩⟩:=hb
 ·exact BmC.con _
 ·exact BmC.ro _ _
theorem pr_retb {P:Program}{fn:Func}{s:St}{vs:List V}{a a':Nat}{b b':Option Flt}{n n' np t:Nat}{x y:Bool}(hr:fn.results.toList=[.tmp t])(ht:eget s.env t=.con (.bool x))(hb:x=y)(hs:oget s.oh 0=some (prO W a' b' n'))(hnp:0 < np)(he:eget s.env 0=.ref 0 0 0 0) :
  RetG P fn np (prQ W a b n) (.ref 0 0 0 0 :: vs) (prQ W a' b' n') (.con (.bool y)) .ret s:=pr_ret1 hr (hb▸ht) ⟨_,.inl rfl⟩ hs hnp he
theorem lv_ofT1 {oh oh1:OH}{f:Bool}{v:V}{r:T}(h:Fd1 oh oh1 f v r):LV oh oh1 v (V.ofT1 f r):=by
 cases r<;>exact Lc.frz f _ _ h
theorem bm_ofT1 {oh oh1:OH}{f:Bool}(r:T):BmA oh oh1 (V.ofT1 f r) (V.ofT1 f r):=by
 cases r<;>first|exact BmC.con _|exact BmC.ro _ _
theorem lv_prV {oh oh1:OH}{a:Nat}{b:Option Flt}{n:Nat}{e:V}(h:Lc oh oh1 e (vFp b)) :
  LV oh oh1 (.agg [.ro true (tToks W.L),vFp W.late,.con (.int .i64 a),e,.con (.int .i64 n)]) (prV W a b n):=by
 refine⟨rfl,fun j x y hx hy=>?_⟩
 match j with
 |0=>simp at hx hy;subst hx;subst hy;exact Lc.same _ trivial
 |1=>simp at hx hy;subst hx;subst hy;exact Lc.same _ ((vFp_dat _).fl.cl1 _)
 |2=>simp at hx hy;subst hx;subst hy;exact Lc.same _ trivial
 |3=>simp at hx hy;subst hx;subst hy;exact h
 |4=>simp at hx hy;subst hx;subst hy;exact Lc.same _ trivial
 |j+5=>simp at hx
theorem fd_flt {oh oh1:OH}{id:Nat}{f:Flt}(ho:oget oh id=some ⟨4,[.agg [.con (.int .i64 f.code),.con (.int .i64 f.line),.con (.int .i64 f.col),.con (.string f.word)]],0,true⟩)(hd:oget oh1 id=none):Lc oh oh1 (.ref id 0 0 0) (vFp (some f)):=by
 refine Lc.frz false (.ref id 0 0 0) (.ptr (fTl f)) (Fd1.ref id 0 0 0 _ _ _ ho hd rfl rfl rfl rfl fun j v u h1 h2=>?_)
 match j with
 |0=>simp [V.cells] at h1;simp [fTl] at h2;subst h1;subst h2;exact .con _
 |1=>simp [V.cells] at h1;simp [fTl] at h2;subst h1;subst h2;exact .con _
 |2=>simp [V.cells] at h1;simp [fTl] at h2;subst h1;subst h2;exact .con _
 |3=>simp [V.cells] at h1;simp [fTl] at h2;subst h1;subst h2;exact .con _
 |j+4=>simp [V.cells] at h1
theorem pr_retf0 {P:Program}{fn:Func}{s:St}{vs:List V}{a a':Nat}{b:Option Flt}{n n' np id:Nat}{f:Flt}{x:X}(hx:match x with|.exit _=>False|_=>True)(hr:fn.results.toList=[])
  (hs:oget s.oh 0=some ⟨5,[.agg [.ro true (tToks W.L),vFp W.late,.con (.int .i64 a'),.ref id 0 0 0,.con (.int .i64 n')]],0,true⟩) (h0:id≠0)
  (ho:oget s.oh id=some ⟨4,[.agg [.con (.int .i64 f.code),.con (.int .i64 f.line),.con (.int .i64 f.col),.con (.string f.word)]],0,true⟩) (hnp:0 < np) (he:eget s.env 0=.ref 0 0 0 0) :
  RetG P fn np (prQ W a b n) (.ref 0 0 0 0 :: vs) (prQ W a' (some f) n') (.tup []) x s:=by
 refine⟨hx,true,⟨s.n,[(0,.ref 0 0 0 0)],prQ W a' (some f) n'⟩,?_,pr_pin rfl hnp rfl,pr_bm rfl,?_⟩
 ·show Lf _ ⟨s.n,s.env,s.oh⟩
  refine lf_of0 ⟨?_,trivial⟩ ⟨?_,trivial⟩
  ·rw [he];exact Lc.same _ rfl
  ·exact lfOb_one hs (lv_prV (fd_flt ho (by show oget [(0,_)] id=none;rw [oget,if_neg (Ne.symm h0)];rfl)))
 ·rw [hr]
def ptokV : Option Tok→V
 |some t=>.tup [vTok t,.con (.bool true)]
 |none=>.tup [.agg [.con (.int .i8 0),.con (.string eS),.con (.int .i64 0),.con (.int .i64 0)],.con (.bool false)]
theorem pr_retn {P:Program}{fn:Func}{s:St}{vs:List V}{a a':Nat}{b b':Option Flt}{n n' np t t2 ty id ver sz:Nat}{l:List Value}{x:Value}{fs:List (Nat×Nat)}{z:List Value}(hr:fn.results.toList=[.cell t ty,.tmp t2])(ht:tk P ty=.st fs z)(hz:z.length=(l.map V.con).length)(h0:0 < (l.map V.con).length)
  (ha:eget s.env t=.ref id ver 0 0) (ho:oget s.oh id=some ⟨sz,[.agg (l.map .con)],ver,true⟩) (h2:eget s.env t2=.con x) (hs:oget s.oh 0=some (prO W a' b' n')) (hnp:0 < np) (he:eget s.env 0=.ref 0 0 0 0) :
  RetG P fn np (prQ W a b n) (.ref 0 0 0 0 :: vs) (prQ W a' b' n') (.tup [.agg (l.map .con),.con x]) .ret s:=by
 refine⟨trivial,false,s,rfl,pr_pin hs hnp he,pr_bm hs,?_⟩
 rw [hr]
 have h:resV P s (.cell t ty) (fun v=>resV P s (.tmp t2) fun u=>∃r1 r2,V.tup [.agg (l.map .con),.con x]=.tup [r1,r2]∧BmA s.oh (prQ W a' b' n' ++ prQ W a b n) v r1∧BmA s.oh (prQ W a' b' n' ++ prQ W a b n) u r2):=by
  refine resc ht hz h0 ha ho ?_
  refine⟨_,_,rfl,bm_aggC l,?_⟩
  show BmA _ _ (eget s.env t2) _
  rw [h2];exact BmC.con _
 exact h
theorem settle_pO {σ:PS W}(hb:σ.bad=none)(h:W.L[σ.at_]?=none):pO σ.settle=prQ W σ.at_ W.late σ.opn:=by
 unfold pO PS.settle
 rw [hb,h]
theorem fl0 : ∀v ∈ ([]:List V),v.flat:=fun v h=>by simp at h
theorem flc {x:Value}{l:List V}(h:∀v ∈ l,v.flat):∀v ∈ V.con x :: l,v.flat:=by
 intro v hv
 rcases List.mem_cons.1 hv with rfl|hv
 ·exact trivial
 ·exact h v hv
theorem pNow_ok (σ:PS W):OkG Tryz.prog 49 (pO σ) [] [.ref 0 0 0 0] (pO σ.settle) (ptokV σ.tok):=by
 cases hb:σ.bad with
 |some f=>
  have e1:σ.settle=σ:=by unfold PS.settle;rw [hb]
  have e2:σ.tok=none:=by unfold PS.tok;rw [hb]
  rw [e1,e2]
  unfold pO
  rw [hb]
  refine okp_of_ev hC0 mix 1 (zO rfl) Tryz.func49 rfl rfl (by kernel_rfl) (by kernel_rfl) (zO rfl) ?vs ?_
  case vs=>exact fl0
  repeat'(first|(with_reducible first|(refine zz ?_;try intro K hK)|refine zI ?_|refine zt ?_|refine zf ?_)|((first|refine hK _ ?_|refine hK _ _ rfl ?_);clear hK K)|(guard_hyp hK;first|(refine zY ?zz ?_;case zz=>first|exact rfl|exact gJ)|refine fresh_n ?_|refine freshO_n ?_|refine zW ?_|intro b0 hb)|((first|with_reducible refine zm ?_|guard_hyp hK);refine zY ?_ ?_;all_goals(intro hb;(try simp only [sn,sb] at hb);try exact ex0)))
  exact pr_retn (l:=[.int .i8 0,.string eS,.int .i64 0,.int .i64 0]) rfl tk99 rfl (Nat.zero_lt_succ _) rfl rfl rfl rfl (by decide) rfl
 |none=>
  cases hl:W.L[σ.at_]? with
  |some t=>
   have hlt:σ.at_ < W.L.length:=(List.getElem?_eq_some_iff.1 hl).1
   have e2:σ.tok=some t:=by unfold PS.tok;rw [hb];exact hl
   have e1:σ.settle=σ:=PS.settle_some e2
   rw [e1,e2]
   unfold pO
   rw [hb]
   refine okp_of_ev hC0 mix 1 (zO rfl) Tryz.func49 rfl rfl (by kernel_rfl) (by kernel_rfl) (zO rfl) ?vs ?_
   case vs=>exact fl0
   repeat'(first|(refine Exists.intro _ (And.intro (at_tk hl) ?_))|(with_reducible first|(refine zz ?_;try intro K hK)|refine zI ?_|refine zt ?_|refine zf ?_)|((first|refine hK _ ?_|refine hK _ _ rfl ?_);clear hK K)|(guard_hyp hK;first|(refine zY ?zz ?_;case zz=>first|exact rfl|exact gJ)|refine fresh_n ?_|refine freshO_n ?_|refine zW ?_|intro b0 hb)|((first|with_reducible refine zm ?_|guard_hyp hK);refine zY ?_ ?_;all_goals(intro hb;(try simp only [sn,sb] at hb);try exact ex0)))
   exact pr_retn (l:=[.int .i8 t.kind,.string t.text,.int .i64 t.line,.int .i64 t.col]) rfl tk99 rfl (Nat.zero_lt_succ _) rfl rfl rfl rfl (by decide) rfl
  |none=>
   have hlt:W.L.length≤σ.at_:=List.getElem?_eq_none_iff.1 hl
   have e2:σ.tok=none:=by unfold PS.tok;rw [hb];exact hl
   have hls:=late_some hl
   rw [settle_pO hb hl,e2]
   unfold pO
   rw [hb]
   clear e2 hl hb
   obtain⟨a,b,n,h1,h2⟩:=σ
   obtain⟨L,late,h3,h4⟩:=W
   dsimp only at hlt hls ⊢
   cases late with
   |none=>exact absurd rfl hls
   |some f=>
    refine okp_of_ev hC0 mix 1 (zO rfl) Tryz.func49 rfl rfl (by kernel_rfl) (by kernel_rfl) (zO rfl) ?vs ?_
    case vs=>exact fl0
    repeat'(first|(with_reducible first|(refine zz ?_;try intro K hK)|refine zI ?_|refine zt ?_|refine zf ?_)|((first|refine hK _ ?_|refine hK _ _ rfl ?_);clear hK K)|(guard_hyp hK;first|(refine zY ?zz ?_;case zz=>first|exact rfl|exact gJ)|refine fresh_n ?_|refine freshO_n ?_|refine zW ?_|intro b0 hb)|((first|with_reducible refine zm ?_|guard_hyp hK);refine zY ?_ ?_;all_goals(intro hb;(try simp only [sn,sb] at hb);try exact ex0)))
    exact pr_retn (l:=[.int .i8 0,.string eS,.int .i64 0,.int .i64 0]) rfl tk99 rfl (Nat.zero_lt_succ _) rfl rfl rfl rfl (by decide) rfl
theorem pO_none {σ:PS W}(ht:σ.tok=none):pO σ.settle=prQ W σ.at_ σ.settle.bad σ.opn:=by
 unfold pO PS.settle
 split
 ·rfl
 ·split<;>rfl
theorem pO_some {σ:PS W}{t:Tok}(ht:σ.tok=some t):pO σ=prQ W σ.at_ none σ.opn:=by
 unfold pO;rw [(PS.tok_at ht).1]
theorem pO_adv {σ:PS W}{t:Tok}(ht:σ.tok=some t)(hk:t.kind≠0):pO σ.adv=prQ W (σ.at_+1) none σ.opn:=by
 obtain⟨h1,h2,h3⟩:=PS.adv_at ht hk
 unfold pO;rw [h1,h2,h3]
theorem pO_wrong {σ:PS W}{t:Tok}(ht:σ.tok=some t)(c:Int)(hc:c≠0):pO (σ.wrong c hc)=prQ W σ.at_ (some ⟨c,t.line,t.col,t.text⟩) σ.opn:=by
 obtain⟨h1,h2,-⟩:=PS.tok_at ht
 unfold pO PS.wrong
 rw [h1,h2]
theorem pWrong_ok (σ:PS W)(c:Int)(hc:c≠0):OkG Tryz.prog 50 (pO σ) [] [.ref 0 0 0 0,.con (.int .i64 c)] (pO (σ.wrong c hc)) (.tup []):=by
 have hlk:=pNow_ok σ
 cases ht:σ.tok with
 |none=>
  rw [ht] at hlk
  rw [wrong_none ht,pO_none ht]
  rw [pO_none ht] at hlk
  unfold pO at hlk ⊢
  refine okp_of_ev hC0 mix 1 (zO rfl) Tryz.func50 rfl rfl (by kernel_rfl) (by kernel_rfl) (zO rfl) ?vs ?_
  case vs=>exact flc fl0
  repeat'(first|(with_reducible first|(refine zz ?_;try intro K hK)|refine zI ?_|refine zt ?_|refine zf ?_)|((first|refine hK _ ?_|refine hK _ _ rfl ?_);clear hK K)|(guard_hyp hK;first|(refine zY ?zz ?_;case zz=>first|exact rfl|exact gJ)|refine fresh_n ?_|refine freshO_n ?_|refine zW ?_|refine zp 0 (hlk) ?_|intro b0 hb)|((first|with_reducible refine zm ?_|guard_hyp hK);refine zY ?_ ?_;all_goals(intro hb;(try simp only [sn,sb] at hb);try exact ex0)))
  all_goals exact pr_ret0 trivial rfl rfl (by decide) rfl
 |some t=>
  rw [ht,PS.settle_some ht] at hlk
  rw [pO_wrong ht]
  rw [pO_some ht] at hlk ⊢
  refine okp_of_ev hC0 mix 1 (zO rfl) Tryz.func50 rfl rfl (by kernel_rfl) (by kernel_rfl) (zO rfl) ?vs ?_
  case vs=>exact flc fl0
  repeat'(first|(with_reducible first|(refine zz ?_;try intro K hK)|refine zI ?_|refine zt ?_|refine zf ?_)|((first|refine hK _ ?_|refine hK _ _ rfl ?_);clear hK K)|(guard_hyp hK;first|(refine zY ?zz ?_;case zz=>first|exact rfl|exact gJ)|refine fresh_n ?_|refine freshO_n ?_|refine zW ?_|refine zp 0 (hlk) ?_|intro b0 hb)|((first|with_reducible refine zm ?_|guard_hyp hK);refine zY ?_ ?_;all_goals(intro hb;(try simp only [sn,sb] at hb);try exact ex0)))
  all_goals exact pr_retf0 trivial rfl rfl (Nat.ne_of_gt (Nat.le_of_ble_eq_true rfl)) rfl (by decide) rfl
variable {W : Txt}
theorem pO_eq (σ:PS W):pO σ=prQ W σ.at_ σ.bad σ.opn:=rfl
theorem pIs_ok (σ:PS W)(k:Int)(w:ByteArray):OkG Tryz.prog 35 (pO σ) [] [.ref 0 0 0 0,.con (.int .i8 k),.con (.string w)] (pO σ.settle) (.con (.bool (σ.isB k w))):=by
 have hlk:=pNow_ok σ
 cases ht:σ.tok with
 |none=>
  rw [isB_none ht]
  rw [ht] at hlk
  rw [pO_none ht] at hlk ⊢
  unfold pO at hlk ⊢
  refine okp_of_ev hC0 mix 1 (zO rfl) Tryz.func35 rfl rfl (by kernel_rfl) (by kernel_rfl) (zO rfl) ?vs ?_
  case vs=>exact flc (flc fl0)
  repeat'(first|(with_reducible first|(refine zz ?_;try intro K hK)|refine zI ?_|refine zt ?_|refine zf ?_)|((first|refine hK _ ?_|refine hK _ _ rfl ?_);clear hK K)|(guard_hyp hK;first|(refine zY ?zz ?_;case zz=>first|exact rfl|exact gJ)|refine fresh_n ?_|refine freshO_n ?_|refine zW ?_|refine zp 0 (hlk) ?_|intro b0 hb)|((first|with_reducible refine zm ?_|guard_hyp hK);refine zY ?_ ?_;all_goals(intro hb;(try simp only [sn,sb] at hb);try exact ex0)))
  all_goals exact pr_retb rfl rfl rfl rfl (by decide) rfl
 |some t=>
  rw [ht,PS.settle_some ht] at hlk
  rw [PS.settle_some ht,← isB_eq ht]
  rw [pO_some ht] at hlk ⊢
  refine okp_of_ev hC0 mix 1 (zO rfl) Tryz.func35 rfl rfl (by kernel_rfl) (by kernel_rfl) (zO rfl) ?vs ?_
  case vs=>exact flc (flc fl0)
  repeat'(first|(with_reducible first|(refine zz ?_;try intro K hK)|refine zI ?_|refine zt ?_|refine zf ?_)|((first|refine hK _ ?_|refine hK _ _ rfl ?_);clear hK K)|(guard_hyp hK;first|(refine zY ?zz ?_;case zz=>first|exact rfl|exact gJ)|refine fresh_n ?_|refine freshO_n ?_|refine zW ?_|refine zp 0 (hlk) ?_|intro b0 hb)|((first|with_reducible refine zm ?_|guard_hyp hK);refine zY ?_ ?_;all_goals(intro hb;(try simp only [sn,sb] at hb);try exact ex0)))
  ·exact pr_retb rfl rfl (by rw [decide_eq_true hb,Bool.true_and]) rfl (by decide) rfl
  ·exact pr_retb rfl rfl (by rw [decide_eq_false hb,Bool.false_and]) rfl (by decide) rfl
def PS.sgn (w:ByteArray)(σ:PS W):PS W:=if σ.isB 4 w=true then σ.adv else σ.settle
theorem pSign_ok (σ:PS W)(w:ByteArray)(hL:W.L.length≤1073741824):OkG Tryz.prog 47 (pO σ) [] [.ref 0 0 0 0,.con (.string w)] (pO (σ.sgn w)) (.con (.bool (σ.isB 4 w))):=by
 have hcm:=pIs_ok σ 4 w
 unfold PS.sgn
 cases hB:σ.isB 4 w with
 |true=>
  obtain⟨t,ht,hk,-⟩:=PS.isB_tok hB
  have hlt:=(PS.tok_at ht).2.2
  rw [if_pos rfl,pO_adv ht (by rw [hk];decide)]
  rw [hB,PS.settle_some ht] at hcm
  rw [pO_some ht] at hcm ⊢
  refine okp_of_ev hC0 mix 1 (zO rfl) Tryz.func47 rfl rfl (by kernel_rfl) (by kernel_rfl) (zO rfl) ?vs ?_
  case vs=>exact flc fl0
  repeat'(first|(with_reducible first|(refine zz ?_;try intro K hK)|refine zI ?_|refine zt ?_|refine zf ?_)|((first|refine hK _ ?_|refine hK _ _ rfl ?_);clear hK K)|(guard_hyp hK;first|(refine zY ?zz ?_;case zz=>first|exact rfl|exact gJ)|refine fresh_n ?_|refine freshO_n ?_|refine zW ?_|refine zp 0 (hcm) ?_|intro b0 hb)|((first|with_reducible refine zm ?_|guard_hyp hK);refine zY ?_ ?_;all_goals(intro hb;(try simp only [sn,sb] at hb);try exact ex0)))
  all_goals exact pr_retb rfl rfl rfl rfl (by decide) rfl
 |false=>
  rw [if_neg Bool.false_ne_true]
  rw [hB] at hcm
  unfold pO at hcm ⊢
  refine okp_of_ev hC0 mix 1 (zO rfl) Tryz.func47 rfl rfl (by kernel_rfl) (by kernel_rfl) (zO rfl) ?vs ?_
  case vs=>exact flc fl0
  repeat'(first|(with_reducible first|(refine zz ?_;try intro K hK)|refine zI ?_|refine zt ?_|refine zf ?_)|((first|refine hK _ ?_|refine hK _ _ rfl ?_);clear hK K)|(guard_hyp hK;first|(refine zY ?zz ?_;case zz=>first|exact rfl|exact gJ)|refine fresh_n ?_|refine freshO_n ?_|refine zW ?_|refine zp 0 (hcm) ?_|intro b0 hb)|((first|with_reducible refine zm ?_|guard_hyp hK);refine zY ?_ ?_;all_goals(intro hb;(try simp only [sn,sb] at hb);try exact ex0)))
  all_goals exact pr_retb rfl rfl rfl rfl (by decide) rfl
theorem pTake_ok (σ:PS W)(k:Int)(hk:0 < k)(hL:W.L.length≤1073741824):OkG Tryz.prog 55 (pO σ) [] [.ref 0 0 0 0,.con (.int .i8 k)] (pO (PS.take k σ).2) (.con (.string (PS.take k σ).1)):=by
 have hlk:=pNow_ok σ
 have hfl:=pWrong_ok σ.settle 30 (by decide)
 rw [settle_wrong] at hfl
 cases ht:σ.tok with
 |none=>
  rw [wrong_none ht] at hfl
  rw [ht] at hlk
  rw [show PS.take k σ=(eS,σ.settle) from by unfold PS.take;rw [ht];rfl]
  unfold pO at hlk hfl ⊢
  refine okp_of_ev hC0 mix 1 (zO rfl) Tryz.func55 rfl rfl (by kernel_rfl) (by kernel_rfl) (zO rfl) ?vs ?_
  case vs=>exact flc fl0
  repeat'(first|(with_reducible first|(refine zz ?_;try intro K hK)|refine zI ?_|refine zt ?_|refine zf ?_)|((first|refine hK _ ?_|refine hK _ _ rfl ?_);clear hK K)|(guard_hyp hK;first|(refine zY ?zz ?_;case zz=>first|exact rfl|exact gJ)|refine fresh_n ?_|refine freshO_n ?_|refine zW ?_|refine zp 0 (hlk) ?_|refine zp 0 (hfl) ?_|intro b0 hb)|((first|with_reducible refine zm ?_|guard_hyp hK);refine zY ?_ ?_;all_goals(intro hb;(try simp only [sn,sb] at hb);try exact ex0)))
  all_goals exact pr_ret1 rfl rfl ⟨_,.inl rfl⟩ rfl (by decide) rfl
 |some t=>
  have hlt:=(PS.tok_at ht).2.2
  rw [ht,PS.settle_some ht] at hlk
  rw [PS.settle_some ht] at hfl
  by_cases hkk:t.kind=k
  ·rw [show PS.take k σ=(t.text,σ.adv) from by unfold PS.take;rw [ht];exact if_pos hkk,pO_adv ht (by rw [hkk];omega)]
   rw [pO_some ht] at hlk ⊢
   refine okp_of_ev hC0 mix 1 (zO rfl) Tryz.func55 rfl rfl (by kernel_rfl) (by kernel_rfl) (zO rfl) ?vs ?_
   case vs=>exact flc fl0
   repeat'(first|(with_reducible first|(refine zz ?_;try intro K hK)|refine zI ?_|refine zt ?_|refine zf ?_)|((first|refine hK _ ?_|refine hK _ _ rfl ?_);clear hK K)|(guard_hyp hK;first|(refine zY ?zz ?_;case zz=>first|exact rfl|exact gJ)|refine fresh_n ?_|refine freshO_n ?_|refine zW ?_|refine zp 0 (hlk) ?_|intro b0 hb)|((first|with_reducible refine zm ?_|guard_hyp hK);refine zY ?_ ?_;all_goals(intro hb;(try simp only [sn,sb] at hb);try exact ex0)))
   all_goals exact pr_ret1 rfl rfl ⟨_,.inl rfl⟩ rfl (by decide) rfl
  ·rw [show PS.take k σ=(eS,σ.wrong 30) from by unfold PS.take;rw [ht];exact if_neg hkk]
   unfold pO at hlk hfl ⊢
   refine okp_of_ev hC0 mix 1 (zO rfl) Tryz.func55 rfl rfl (by kernel_rfl) (by kernel_rfl) (zO rfl) ?vs ?_
   case vs=>exact flc fl0
   repeat'(first|(with_reducible first|(refine zz ?_;try intro K hK)|refine zI ?_|refine zt ?_|refine zf ?_)|((first|refine hK _ ?_|refine hK _ _ rfl ?_);clear hK K)|(guard_hyp hK;first|(refine zY ?zz ?_;case zz=>first|exact rfl|exact gJ)|refine fresh_n ?_|refine freshO_n ?_|refine zW ?_|refine zp 0 (hlk) ?_|refine zp 0 (hfl) ?_|intro b0 hb)|((first|with_reducible refine zm ?_|guard_hyp hK);refine zY ?_ ?_;all_goals(intro hb;(try simp only [sn,sb] at hb);try exact ex0)))
   all_goals exact pr_ret1 rfl rfl ⟨_,.inl rfl⟩ rfl (by decide) rfl
theorem pName_ok (σ:PS W)(hL:W.L.length≤1073741824):OkG Tryz.prog 33 (pO σ) [] [.ref 0 0 0 0] (pO (PS.take 1 σ).2) (.con (.string (PS.take 1 σ).1)):=by
 have h:=pTake_ok σ 1 (by decide) hL
 unfold pO at h ⊢
 refine okp_of_ev hC0 mix 1 (zO rfl) Tryz.func33 rfl rfl (by kernel_rfl) (by kernel_rfl) (zO rfl) ?vs ?_
 case vs=>exact fl0
 repeat'(first|(with_reducible first|(refine zz ?_;try intro K hK)|refine zI ?_|refine zt ?_|refine zf ?_)|((first|refine hK _ ?_|refine hK _ _ rfl ?_);clear hK K)|(guard_hyp hK;first|(refine zY ?zz ?_;case zz=>first|exact rfl|exact gJ)|refine fresh_n ?_|refine freshO_n ?_|refine zW ?_|refine zp 0 (h) ?_|intro b0 hb)|((first|with_reducible refine zm ?_|guard_hyp hK);refine zY ?_ ?_;all_goals(intro hb;(try simp only [sn,sb] at hb);try exact ex0)))
 all_goals exact pr_ret1 rfl rfl ⟨_,.inl rfl⟩ rfl (by decide) rfl
def vFe : Option Flt→V
 |none=>.con .nilIface
 |some f=>.ro false (.ifc 88 (.ptr (fTl f)))
theorem vFe_dat (b:Option Flt):(vFe b).dat1:=by
 cases b with
 |none=>exact⟨_,.inl rfl⟩
 |some f=>exact⟨default,.inr ⟨_,_,rfl⟩⟩
theorem pDone_ok (σ:PS W):OkG Tryz.prog 21 (pO σ) [] [.ref 0 0 0 0] (pO σ.fin) (vFe σ.fin.bad):=by
 have hlk:=pNow_ok σ
 have hfl:=pWrong_ok σ.settle 30 (by decide)
 rw [settle_wrong] at hfl
 cases ht:σ.tok with
 |none=>
  have hb:=PS.settle_bad ht
  rw [ht] at hlk
  rw [show PS.fin σ=σ.settle from by unfold PS.fin;rw [ht]]
  unfold pO at hlk hfl ⊢
  generalize σ.settle=τ at *
  cases hbb:τ.bad with
  |none=>exact absurd hbb hb
  |some f=>
   rw [hbb] at hlk
   refine okp_of_ev hC0 mix 1 (zO rfl) Tryz.func21 rfl rfl (by kernel_rfl) (by kernel_rfl) (zO rfl) ?vs ?_
   case vs=>exact fl0
   repeat'(first|(with_reducible first|(refine zz ?_;try intro K hK)|refine zI ?_|refine zt ?_|refine zf ?_)|((first|refine hK _ ?_|refine hK _ _ rfl ?_);clear hK K)|(guard_hyp hK;first|(refine zY ?zz ?_;case zz=>first|exact rfl|exact gJ)|refine fresh_n ?_|refine freshO_n ?_|refine zW ?_|refine zp 0 (hlk) ?_|intro b0 hb)|((first|with_reducible refine zm ?_|guard_hyp hK);refine zY ?_ ?_;all_goals(intro hb;(try simp only [sn,sb] at hb);try exact ex0)))
   all_goals exact pr_ret1 rfl rfl (vFe_dat (some f)) rfl (by decide) rfl
 |some t=>
  rw [ht,PS.settle_some ht] at hlk
  rw [PS.settle_some ht] at hfl
  by_cases hkk:t.kind=0
  ·rw [show PS.fin σ=σ from by unfold PS.fin;rw [ht];exact if_pos hkk]
   rw [(PS.tok_at ht).1]
   rw [pO_some ht] at hlk ⊢
   refine okp_of_ev hC0 mix 1 (zO rfl) Tryz.func21 rfl rfl (by kernel_rfl) (by kernel_rfl) (zO rfl) ?vs ?_
   case vs=>exact fl0
   repeat'(first|(with_reducible first|(refine zz ?_;try intro K hK)|refine zI ?_|refine zt ?_|refine zf ?_)|((first|refine hK _ ?_|refine hK _ _ rfl ?_);clear hK K)|(guard_hyp hK;first|(refine zY ?zz ?_;case zz=>first|exact rfl|exact gJ)|refine fresh_n ?_|refine freshO_n ?_|refine zW ?_|refine zp 0 (hlk) ?_|intro b0 hb)|((first|with_reducible refine zm ?_|guard_hyp hK);refine zY ?_ ?_;all_goals(intro hb;(try simp only [sn,sb] at hb);try exact ex0)))
   all_goals exact pr_ret1 rfl rfl (vFe_dat none) rfl (by decide) rfl
  ·rw [show PS.fin σ=σ.wrong 30 from by unfold PS.fin;rw [ht];exact if_neg hkk]
   rw [show(σ.wrong 30).bad=some ⟨30,t.line,t.col,t.text⟩ from by unfold PS.wrong;rw [(PS.tok_at ht).1,(PS.tok_at ht).2.1]]
   rw [pO_wrong ht] at hfl ⊢
   unfold pO at hlk hfl ⊢
   refine okp_of_ev hC0 mix 1 (zO rfl) Tryz.func21 rfl rfl (by kernel_rfl) (by kernel_rfl) (zO rfl) ?vs ?_
   case vs=>exact fl0
   repeat'(first|(with_reducible first|(refine zz ?_;try intro K hK)|refine zI ?_|refine zt ?_|refine zf ?_)|((first|refine hK _ ?_|refine hK _ _ rfl ?_);clear hK K)|(guard_hyp hK;first|(refine zY ?zz ?_;case zz=>first|exact rfl|exact gJ)|refine fresh_n ?_|refine freshO_n ?_|refine zW ?_|refine zp 0 (hlk) ?_|refine zp 0 (hfl) ?_|intro b0 hb)|((first|with_reducible refine zm ?_|guard_hyp hK);refine zY ?_ ?_;all_goals(intro hb;(try simp only [sn,sb] at hb);try exact ex0)))
   all_goals exact pr_ret1 rfl rfl (vFe_dat (some ⟨30,t.line,t.col,t.text⟩)) rfl (by decide) rfl
end Go.Ev
