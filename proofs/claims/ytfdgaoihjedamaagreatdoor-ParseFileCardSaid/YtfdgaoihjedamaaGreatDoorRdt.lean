import Derived.Test.YtfdgaoihjedamaaGreatDoorLan
set_option linter.all false
set_option maxHeartbeats 4000000
set_option maxRecDepth 10000
namespace Go.Ev
open Go.Proofs
variable {W : Txt}
open PS (Trm)
def tNum (z:Int)(d:Nat):T:=.agg [.con (.bool (decide (z < 0))),tn (lm z.natAbs),tn (lm d)]
def vT (t:Trm):V:=.agg [.con (.int .i8 t.kind),.con (.bool (decide (t.z < 0))),.ro false (tn (lm t.z.natAbs)),.ro false (tn (lm t.d))]
def tT (t:Trm):T:=.agg [.con (.int .i8 t.kind),.con (.bool (decide (t.z < 0))),tn (lm t.z.natAbs),tn (lm t.d)]
def tTs (l:List Trm):T:=.sl (l.map tT)
theorem vT_flat (t:Trm):(vT t).flat:=by
 intro v hv
 simp at hv
 rcases hv with rfl|rfl|rfl|rfl<;>trivial
theorem vTs_flat (l:List Trm):∀e ∈ l.map vT,e.flat:=by
 intro e he
 obtain⟨w,-,rfl⟩:=List.mem_map.1 he
 exact vT_flat w
def rdP (W:Txt)(a:Nat)(b:Option Flt)(n:Nat)(l:List Trm)(v:Nat):OH:=[(0,⟨11,[rdV W a b n],0,true⟩),(3,⟨4,l.map vT,v,true⟩)]
def rdT (σ:PS W)(l:List Trm):OH:=rdP W σ.at_ σ.bad σ.opn l 0
theorem rdp_after {a a':Nat}{b b':Option Flt}{n n' v:Nat}{l:List Trm}{i:Nat}{o:Obj}(h:oget (rdP W a' b' n' l v ++ rdQ W a b n) i=some o):(i=0∧o=⟨11,[rdV W a' b' n'],0,true⟩)∨(i=3∧o=⟨4,l.map vT,v,true⟩):=by
 by_cases h0:i=0
 ·subst h0
  have e:oget (rdP W a' b' n' l v ++ rdQ W a b n) 0=some ⟨11,[rdV W a' b' n'],0,true⟩:=rfl
  rw [e] at h
  exact .inl ⟨rfl,(Option.some.inj h).symm⟩
 ·by_cases h3:i=3
  ·subst h3
   have e:oget (rdP W a' b' n' l v ++ rdQ W a b n) 3=some ⟨4,l.map vT,v,true⟩:=rfl
   rw [e] at h
   exact .inr ⟨rfl,(Option.some.inj h).symm⟩
  ·rw [show rdP W a' b' n' l v ++ rdQ W a b n=[(0,_),(3,_),(0,_)] from rfl,oget,if_neg (Ne.symm h0),oget,if_neg (Ne.symm h3),oget,if_neg (Ne.symm h0)] at h
   cases h
theorem rdp_po (a a':Nat)(b b':Option Flt)(n n' v:Nat)(l:List Trm):∀i o,oget (rdP W a' b' n' l v) i=some o→(oget (rdQ W a b n) i).isSome=true∨i ∈ [3]:=by
 intro i o h
 by_cases h0:i=0
 ·subst h0;exact .inl rfl
 ·by_cases h3:i=3
  ·subst h3;exact .inr (List.mem_singleton.2 rfl)
  ·rw [rdP,oget,if_neg (Ne.symm h0),oget,if_neg (Ne.symm h3)] at h
   cases h
theorem rdp_le (a a':Nat)(b b':Option Flt)(n n' v:Nat)(l:List Trm):∀i o o',oget (rdQ W a b n) i=some o→oget (rdP W a' b' n' l v ++ rdQ W a b n) i=some o'→o'.ver=0→o'.live=true→o'.sz=o.sz∧o.el.length≤o'.el.length:=by
 intro i o o' h1 h2 h3 h4
 obtain⟨rfl,rfl⟩:=oget_one h1
 rcases rdp_after h2 with⟨-,rfl⟩|⟨e,-⟩
 ·exact⟨rfl,Nat.le_refl _⟩
 ·cases e
theorem rdp_pin {s:St}{vs:List V}{a a':Nat}{b b':Option Flt}{n n' np v:Nat}{l:List Trm}{e:List V}(hs:oget s.oh 0=some ⟨11,e,0,true⟩)(hnp:0 < np)(hv:vs[0]?=some (.ref 0 0 0 0))(he:eget s.env 0=.ref 0 0 0 0) :
  ∀i o o',oget (rdQ W a b n) i=some o→oget (rdP W a' b' n' l v ++ rdQ W a b n) i=some o'→o'.ver=0→PinG np vs s i o:=by
 intro i o o' h1 h2 h3
 obtain⟨rfl,rfl⟩:=oget_one h1
 exact⟨Nat.zero_lt_succ _,⟨_,hs,rfl,rfl,rfl⟩,0,_,hnp,hv,he,⟨rfl,rfl⟩⟩
theorem bmA_flat {oh oh1:OH}{v:V}(h:v.flat):BmA oh oh1 v v:=by
 cases v with
 |agg l=>
  refine⟨rfl,fun j x y hx hy=>?_⟩
  rw [hx] at hy
  obtain rfl:x=y:=by simpa using hy
  have:=h x (List.mem_of_getElem? hx)
  cases x with
  |con x=>exact .con _
  |ro f t=>exact .ro _ _
  |emp=>exact .emp
  |_=>exact this.elim
 |con x=>exact BmC.con _
 |ro f t=>exact BmC.ro _ _
 |emp=>exact BmC.emp
 |_=>exact h.elim
theorem rdp_bm {s:St}{a a':Nat}{b b':Option Flt}{n n' v:Nat}{l:List Trm}(hs:oget s.oh 0=some ⟨11,[rdV W a' b' n'],0,true⟩)(h3:oget s.oh 3=some ⟨4,l.map vT,v,true⟩):Bm s.oh (rdP W a' b' n' l 0 ++ rdQ W a b n):=by
 intro i o h
 rcases rdp_after h with⟨rfl,rfl⟩|⟨rfl,rfl⟩
 ·refine⟨_,hs,rfl,rfl,rfl,rfl,fun k e e1 he he1=>?_⟩
  rw [he] at he1
  obtain rfl:e=e1:=by simpa using he1
  exact bmA_flat (one_flat (rdV_flat _ _ _) e (List.mem_of_getElem? he))
 ·refine⟨_,h3,rfl,rfl,rfl,rfl,fun k e e1 he he1=>?_⟩
  rw [he] at he1
  obtain rfl:e=e1:=by simpa using he1
  exact bmA_flat (vTs_flat l e (List.mem_of_getElem? he))
theorem rd_retT {P:Program}{fn:Func}{s:St}{vs:List V}{a a':Nat}{b b':Option Flt}{n n' np t v:Nat}{l:List Trm}(hr:fn.results.toList=[.tmp t])(h0:0≠t)(hs:oget s.oh 0=some ⟨11,[rdV W a' b' n'],0,true⟩)
  (hv9:LV s.oh (rdP W a' b' n' l v) (eget s.env t) (.own 3 v 0 l.length)) (hl:lfOb s.oh (rdP W a' b' n' l v) 3 ⟨4,l.map vT,v,true⟩) (hnp:0 < np) (hv:vs[0]?=some (.ref 0 0 0 0)) (he:eget s.env 0=.ref 0 0 0 0) :
  RetG P fn np (rdQ W a b n) vs (rdP W a' b' n' l 0) (.own 3 0 0 l.length) .ret s:=by
 have e1:eget [(0,V.ref 0 0 0 0),(t,V.own 3 v 0 l.length)] t=V.own 3 v 0 l.length:=by
  simp [eget,h0]
 refine⟨trivial,true,⟨s.n,[(0,.ref 0 0 0 0),(t,.own 3 v 0 l.length)],rdP W a' b' n' l v⟩,?_,rdp_pin rfl hnp hv rfl,rdp_bm rfl rfl,?_⟩
 ·show Lf _ ⟨s.n,s.env,s.oh⟩
  refine lf_of0 ⟨?_,hv9,trivial⟩ ⟨lfOb_same hs (one_flat (rdV_flat _ _ _)),hl,trivial⟩
  rw [he];exact Lc.same _ rfl
 ·rw [hr]
  have h9:BmC (rdP W a' b' n' l v) (rdP W a' b' n' l 0 ++ rdQ W a b n) (eget [(0,V.ref 0 0 0 0),(t,V.own 3 v 0 l.length)] t) (.own 3 0 0 l.length):=by
   rw [e1]
   exact BmC.own 3 v 0 0 _ _ _ rfl rfl rfl rfl
  exact h9
theorem rdP_rn (a:Nat)(b:Option Flt)(n:Nat)(l:List Trm)(c:Nat):rnO (lkM [(3,c,0)]) (lkV [(3,c,0)]) (rdP W a b n l 0)=[(0,⟨11,[rdV W a b n],0,true⟩),(c,⟨4,l.map vT,0,true⟩)]:=by
 show [(0,_),(c,_)]=_
 have e:(l.map vT).map (V.rnA (lkM [(3,c,0)]) (lkV [(3,c,0)]))=l.map vT:=rn_map (fun _=>rfl) l
 show [(0,(⟨11,[rdV W a b n],0,true⟩:Obj)),(c,(⟨4,(l.map vT).map (V.rnA (lkM [(3,c,0)]) (lkV [(3,c,0)])),0,true⟩:Obj))]=_
 rw [e]
theorem rdP_rn0 (a:Nat)(b:Option Flt)(n:Nat)(l:List Trm):rnO (lkM []) (lkV []) (rdP W a b n l 0)=rdP W a b n l 0:=by
 have e:(l.map vT).map (V.rnA (lkM []) (lkV []))=l.map vT:=rn_map (fun _=>rfl) l
 show [(0,(⟨11,[rdV W a b n],0,true⟩:Obj)),(3,(⟨4,(l.map vT).map (V.rnA (lkM []) (lkV [])),0,true⟩:Obj))]=_
 rw [e];rfl
theorem rnX {L:List (Nat×Nat×Nat)}{o o':OH}(h:rnO (lkM L) (lkV L) o=o':=by first|rfl|exact rdP_rn0 _ _ _ _|exact rdP_rn _ _ _ _ _):rnO (lkM L) (lkV L) o=o':=h
theorem allv_td {α:Type}{F:α→V}{l:List α}{a b n:Nat}(h:∀x,(F x).cells.length=n):∀y ∈ ((l.map F).drop a).take b,y.cells.length=n:=by
 intro y hy
 obtain⟨x,-,rfl⟩:=List.mem_map.1 (List.mem_of_mem_drop (List.mem_of_mem_take hy))
 exact h x
theorem isB_settle (σ:PS W)(k:Int)(w:ByteArray):σ.settle.isB k w=σ.isB k w:=by
 cases ht:σ.tok with
 |some t=>rw [PS.settle_some ht]
 |none=>
  rw [isB_none ht]
  refine isB_none ?_ k w
  have:=PS.settle_bad ht
  unfold PS.tok
  cases hb:σ.settle.bad with
  |none=>exact absurd hb this
  |some f=>rfl
theorem settle_settle (σ:PS W):σ.settle.settle=σ.settle:=by
 cases ht:σ.tok with
 |some t=>rw [PS.settle_some ht,PS.settle_some ht]
 |none=>
  have:=PS.settle_bad ht
  cases hb:σ.settle.bad with
  |none=>exact absurd hb this
  |some f=>rw [PS.settle.eq_def σ.settle,hb]
theorem isB_other {σ:PS W}{k:Int}{w w':ByteArray}(h:σ.isB k w=true)(hw:w≠w'):σ.isB k w'=false:=by
 obtain⟨t,ht,h1,h2⟩:=PS.isB_tok h
 unfold PS.isB
 rw [ht]
 exact decide_eq_false fun h3=>hw (h2.symm.trans h3.2)
def stCh (W:Txt)(N:Nat)(z:PS W×List Trm×Nat×Nat):St:=⟨N,[(0,.ref 0 0 0 0),(3,.own 3 z.2.2.1 0 z.2.2.2)],rdP W z.1.at_ z.1.bad z.1.opn z.2.1 z.2.2.1⟩
theorem lv_sign {oh oh1:OH}(k:Int):LV oh oh1 (.agg [.con (.int .i8 k),.con (.bool false),.emp,.emp]) (vT ⟨k,0,0⟩):=by
 have h:∀oh oh1:OH,Lc oh oh1 .emp (.ro false (tn (lm 0))):=fun oh oh1=>Lc.frz false _ (tn (lm 0)) (fd_of lmz Fd1.emp)
 exact lv_agg ⟨Lc.same _ trivial,Lc.same _ trivial,h _ _,h _ _,trivial⟩
theorem lfOb_two {oh oh1:OH}{v n m w:Nat}{l l2 l':List Trm}{k:Int}{e:V}(h:oget oh 3=some ⟨4,((l.map vT).take n ++ ((l2.map vT).drop 0).take m).take w ++ [e],v,true⟩)(hn:n=l.length)(hm:m=l2.length)(hw:w=n+m)(hl':l'=l ++ l2 ++ [⟨k,0,0⟩])(hl:LV oh oh1 e (vT ⟨k,0,0⟩)) :
  lfOb oh oh1 3 ⟨4,l'.map vT,v,true⟩:=by
 have e1:(l.map vT).take n ++ ((l2.map vT).drop 0).take m=(l ++ l2).map vT:=by
  rw [List.drop_zero,List.take_of_length_le (by rw [List.length_map];omega),List.take_of_length_le (by rw [List.length_map];omega),List.map_append]
 rw [e1] at h
 exact lfOb_app (F:=vT) (l:=l ++ l2) (a:=⟨k,0,0⟩) h (by rw [List.length_append];omega) hl' (fun x _=>vT_flat x) hl
theorem rProd_ok {dec:ByteArray→Int×Nat}{d:Nat}(hL:W.L.length≤1073741824)
  (hc:∀σ:PS W,σ.opn+d=65→σ.at_≤W.L.length→OkG Tryz.prog 80 (rdO σ) [3] [.ref 0 0 0 0] (rdT (PS.un dec d σ).2 (PS.un dec d σ).1) (.own 3 0 0 (PS.un dec d σ).1.length))
  (σ:PS W) (ho:σ.opn+d=65) (ha:σ.at_≤W.L.length):OkG Tryz.prog 62 (rdO σ) [3] [.ref 0 0 0 0] (rdT (PS.prod (PS.un dec d) σ).2 (PS.prod (PS.un dec d) σ).1) (.own 3 0 0 (PS.prod (PS.un dec d) σ).1.length):=by
 have hgood:=(PS.un_good dec d:PS.Good (X:=W) (PS.un dec d))
 have h0:=hc σ ho ha
 unfold rdT at h0
 refine okg_of_ev hC0 mix 1 (zO rfl) Tryz.func62 rfl rfl (by kernel_rfl) (by kernel_rfl) (zO rfl) ?wf ?vs ?po ?le ?_
 case wf=>exact rd_wf _ _ _
 case vs=>exact one_vs rfl
 case po=>exact rdp_po _ _ _ _ _ _ _ _
 case le=>exact rdp_le _ _ _ _ _ _ _ _
 obtain⟨g1,g2⟩:=hgood σ
 repeat'(first|(with_reducible first|(refine zz ?_;try intro K hK)|refine zI ?_|refine zt ?_|refine zf ?_)|((first|refine hK _ ?_|refine hK _ _ rfl ?_);clear hK K)|(guard_hyp hK;first|(refine zY ?zz ?_;case zz=>first|exact rfl|exact gJ)|refine fresh_n ?_|refine freshO_n ?_|refine zW ?_|(refine Or.inr (Or.inr (Or.inl (gen_call ([]) (h0) (pre':=rdO σ) (nw':=[3]) (post':=rdP W (PS.un dec d σ).2.at_ (PS.un dec d σ).2.bad (PS.un dec d σ).2.opn (PS.un dec d σ).1 0) (r':=.own 3 0 0 (PS.un dec d σ).1.length) ?hg1 rfl ?hg3 rfl rfl ?hgp ?hgn ?hgi ?_)));(case hg1=>exact rnX);(case hg3=>exact rnX);(case hgp=>(repeat'(first|exact allp_nil|exact alln_nil|refine allp_cons ?_ ?_|refine alln_cons ?_ ?_|rfl)));(case hgn=>(repeat'(first|exact allp_nil|exact alln_nil|refine allp_cons ?_ ?_|refine alln_cons ?_ ?_|rfl)));(case hgi=>(first|exact inj1|exact inj2 (by decide)|exact inj2 (Nat.ne_of_lt (Nat.le_of_ble_eq_true rfl))|exact inj2 (Nat.ne_of_gt (Nat.le_of_ble_eq_true rfl)))))|intro b0 hb)|((first|with_reducible refine zm ?_|guard_hyp hK);refine zY ?_ ?_;all_goals(intro hb;(try simp only [sn,sb] at hb);try exact ex0)))
 refine loop_f (PS W×List Trm×Nat×Nat) (stCh W Tryz.f62.ntmps) (fun z=>z.2.2.2=z.2.1.length∧z.1.opn+d=65∧z.1.at_≤W.L.length∧z.2.1.length≤2 * z.1.at_∧∃k,PS.chainL (PS.un dec d) PS.kStar PS.kOver 4 5 k z.2.1 z.1=PS.prod (PS.un dec d) σ∧1≤k∧W.L.length < k+z.1.at_) (fun z=>W.L.length - z.1.at_) ((PS.un dec d σ).2,(PS.un dec d σ).1,0,(PS.un dec d σ).1.length) ⟨rfl,by rw [g1.opn];exact ho,g1.hi ha,by dsimp only;omega,W.L.length+1,rfl,Nat.succ_le_succ (Nat.zero_le _),by dsimp only;omega⟩ (lf_of0 ⟨Lc.same _ rfl,Lc.same _ rfl,trivial⟩ ⟨lfOb_same rfl (one_flat (rdV_flat _ _ _)),lfOb_same rfl (vTs_flat _),trivial⟩) ?_
 rintro⟨τ,l,v,n⟩ ⟨q0,q1,q2,q3,k,q4,q5,q6⟩
 dsimp only at q0 q1 q2 q3 q4 q5 q6
 subst q0
 obtain⟨k,rfl⟩:∃j,k=j+1:=⟨k - 1,by omega⟩
 have ca:=rComes_ok τ 4 (by decide) PS.kStar
 have cb:=rComes_ok τ.settle 4 (by decide) PS.kOver
 rw [isB_settle,settle_settle] at cb
 rw [PS.chainL] at q4
 unfold stCh
 dsimp only
 cases hA:τ.isB 4 PS.kStar with
 |true=>
  obtain⟨t,ht,hk,-⟩:=PS.isB_tok hA
  have hlt:=(PS.tok_at ht).2.2
  have hav:=PS.adv_at ht (by rw [hk];decide)
  have haf:=PS.adv_fol1 hA (by decide)
  have hc1:=hc τ.adv (by rw [hav.2.2];exact q1) (haf.hi q2)
  obtain⟨g3,g4⟩:=hgood τ.adv
  have g5:=g3.le
  have g6:=g3.hi (haf.hi q2)
  rw [rdO_adv ht (by rw [hk];decide)] at hc1
  unfold rdT at hc1
  rw [hA,PS.settle_some ht,rdO_some ht] at ca
  rw [isB_other hA (by decide),PS.settle_some ht,rdO_some ht] at cb
  rw [if_pos hA] at q4
  rw [(PS.tok_at ht).1]
  repeat'(first|(refine And.intro (allv_td fun _=>rfl) ?_)|(with_reducible first|(refine zz ?_;try intro K hK)|refine zI ?_|refine zt ?_|refine zf ?_)|((first|refine hK _ ?_|refine hK _ _ rfl ?_);clear hK K)|(guard_hyp hK;first|(refine zY ?zz ?_;case zz=>first|exact rfl|exact gJ)|refine fresh_n ?_|refine freshO_n ?_|refine zW ?_|refine zg ([]) (ca) (rdQ W τ.at_ none τ.opn) ([]) (rdQ W τ.at_ none τ.opn) (.con (.bool true)) ?_|refine zg ([]) (cb) (rdQ W τ.at_ none τ.opn) ([]) (rdQ W τ.at_ none τ.opn) (.con (.bool false)) ?_|(refine Or.inr (Or.inr (Or.inl (gen_call ([(3,7,0)]) (hc1) (pre':=rdQ W (τ.at_+1) none τ.opn) (nw':=[7]) (post':=[(0,⟨11,[rdV W (PS.un dec d τ.adv).2.at_ (PS.un dec d τ.adv).2.bad (PS.un dec d τ.adv).2.opn],0,true⟩),(7,⟨4,(PS.un dec d τ.adv).1.map vT,0,true⟩)]) (r':=.own 7 0 0 (PS.un dec d τ.adv).1.length) ?hg1 rfl ?hg3 rfl rfl ?hgp ?hgn ?hgi ?_)));(case hg1=>exact rnX);(case hg3=>exact rnX);(case hgp=>(repeat'(first|exact allp_nil|exact alln_nil|refine allp_cons ?_ ?_|refine alln_cons ?_ ?_|rfl)));(case hgn=>(repeat'(first|exact allp_nil|exact alln_nil|refine allp_cons ?_ ?_|refine alln_cons ?_ ?_|rfl)));(case hgi=>(first|exact inj1|exact inj2 (by decide)|exact inj2 (Nat.ne_of_lt (Nat.le_of_ble_eq_true rfl))|exact inj2 (Nat.ne_of_gt (Nat.le_of_ble_eq_true rfl)))))|intro b0 hb)|((first|with_reducible refine zm ?_|guard_hyp hK);refine zY ?_ ?_;all_goals(intro hb;(try simp only [sn,sb] at hb);try exact ex0)))
  refine⟨((PS.un dec d τ.adv).2,l ++ (PS.un dec d τ.adv).1 ++ [⟨4,0,0⟩],v+1+1,l.length+((((PS.un dec d τ.adv).1.map vT).drop 0).take (PS.un dec d τ.adv).1.length).length+1),⟨?_,by dsimp only;rw [g3.opn,hav.2.2];exact q1,g6,?_,k,q4,by omega,by dsimp only;omega⟩,by dsimp only;omega,lf_of0 ⟨Lc.same _ rfl,Lc.same _ rfl,trivial⟩ ⟨lfOb_same rfl (one_flat (rdV_flat _ _ _)),lfOb_two (l:=l) (l2:=(PS.un dec d τ.adv).1) (k:=4) rfl rfl rfl (by simp only [List.length_take,List.length_drop,List.length_map];omega) rfl (lv_sign 4),trivial⟩⟩
  ·simp only [List.length_take,List.length_drop,List.length_map,List.length_append,List.length_singleton];omega
  ·simp only [List.length_append,List.length_singleton];omega
 |false=>
  rw [if_neg (by rw [hA];exact Bool.false_ne_true)] at q4
  rw [hA] at ca
  cases hB:τ.isB 4 PS.kOver with
  |true=>
   obtain⟨t,ht,hk,-⟩:=PS.isB_tok hB
   have hlt:=(PS.tok_at ht).2.2
   have hav:=PS.adv_at ht (by rw [hk];decide)
   have haf:=PS.adv_fol1 hB (by decide)
   have hc1:=hc τ.adv (by rw [hav.2.2];exact q1) (haf.hi q2)
   obtain⟨g3,g4⟩:=hgood τ.adv
   have g5:=g3.le
   have g6:=g3.hi (haf.hi q2)
   rw [rdO_adv ht (by rw [hk];decide)] at hc1
   unfold rdT at hc1
   rw [PS.settle_some ht,rdO_some ht] at ca
   rw [hB,PS.settle_some ht,rdO_some ht] at cb
   rw [if_pos hB] at q4
   rw [(PS.tok_at ht).1]
   repeat'(first|(refine And.intro (allv_td fun _=>rfl) ?_)|(with_reducible first|(refine zz ?_;try intro K hK)|refine zI ?_|refine zt ?_|refine zf ?_)|((first|refine hK _ ?_|refine hK _ _ rfl ?_);clear hK K)|(guard_hyp hK;first|(refine zY ?zz ?_;case zz=>first|exact rfl|exact gJ)|refine fresh_n ?_|refine freshO_n ?_|refine zW ?_|refine zg ([]) (ca) (rdQ W τ.at_ none τ.opn) ([]) (rdQ W τ.at_ none τ.opn) (.con (.bool false)) ?_|refine zg ([]) (cb) (rdQ W τ.at_ none τ.opn) ([]) (rdQ W τ.at_ none τ.opn) (.con (.bool true)) ?_|(refine Or.inr (Or.inr (Or.inl (gen_call ([(3,7,0)]) (hc1) (pre':=rdQ W (τ.at_+1) none τ.opn) (nw':=[7]) (post':=[(0,⟨11,[rdV W (PS.un dec d τ.adv).2.at_ (PS.un dec d τ.adv).2.bad (PS.un dec d τ.adv).2.opn],0,true⟩),(7,⟨4,(PS.un dec d τ.adv).1.map vT,0,true⟩)]) (r':=.own 7 0 0 (PS.un dec d τ.adv).1.length) ?hg1 rfl ?hg3 rfl rfl ?hgp ?hgn ?hgi ?_)));(case hg1=>exact rnX);(case hg3=>exact rnX);(case hgp=>(repeat'(first|exact allp_nil|exact alln_nil|refine allp_cons ?_ ?_|refine alln_cons ?_ ?_|rfl)));(case hgn=>(repeat'(first|exact allp_nil|exact alln_nil|refine allp_cons ?_ ?_|refine alln_cons ?_ ?_|rfl)));(case hgi=>(first|exact inj1|exact inj2 (by decide)|exact inj2 (Nat.ne_of_lt (Nat.le_of_ble_eq_true rfl))|exact inj2 (Nat.ne_of_gt (Nat.le_of_ble_eq_true rfl)))))|intro b0 hb)|((first|with_reducible refine zm ?_|guard_hyp hK);refine zY ?_ ?_;all_goals(intro hb;(try simp only [sn,sb] at hb);try exact ex0)))
   refine⟨((PS.un dec d τ.adv).2,l ++ (PS.un dec d τ.adv).1 ++ [⟨5,0,0⟩],v+1+1,l.length+((((PS.un dec d τ.adv).1.map vT).drop 0).take (PS.un dec d τ.adv).1.length).length+1),⟨?_,by dsimp only;rw [g3.opn,hav.2.2];exact q1,g6,?_,k,q4,by omega,by dsimp only;omega⟩,by dsimp only;omega,lf_of0 ⟨Lc.same _ rfl,Lc.same _ rfl,trivial⟩ ⟨lfOb_same rfl (one_flat (rdV_flat _ _ _)),lfOb_two (l:=l) (l2:=(PS.un dec d τ.adv).1) (k:=5) rfl rfl rfl (by simp only [List.length_take,List.length_drop,List.length_map];omega) rfl (lv_sign 5),trivial⟩⟩
   ·simp only [List.length_take,List.length_drop,List.length_map,List.length_append,List.length_singleton];omega
   ·simp only [List.length_append,List.length_singleton];omega
  |false=>
   rw [if_neg (by rw [hB];exact Bool.false_ne_true)] at q4
   rw [hB] at cb
   unfold rdO at ca cb
   repeat'(first|(with_reducible first|(refine zz ?_;try intro K hK)|refine zI ?_|refine zt ?_|refine zf ?_)|((first|refine hK _ ?_|refine hK _ _ rfl ?_);clear hK K)|(guard_hyp hK;first|(refine zY ?zz ?_;case zz=>first|exact rfl|exact gJ)|refine fresh_n ?_|refine freshO_n ?_|refine zW ?_|refine zg ([]) (ca) (rdQ W τ.at_ τ.bad τ.opn) ([]) (rdQ W τ.settle.at_ τ.settle.bad τ.settle.opn) (.con (.bool false)) ?_|refine zg ([]) (cb) (rdQ W τ.settle.at_ τ.settle.bad τ.settle.opn) ([]) (rdQ W τ.settle.at_ τ.settle.bad τ.settle.opn) (.con (.bool false)) ?_|intro b0 hb)|((first|with_reducible refine zm ?_|guard_hyp hK);refine zY ?_ ?_;all_goals(intro hb;(try simp only [sn,sb] at hb);try exact ex0)))
   rw [← q4]
   exact rd_retT (l:=l) (v:=v) rfl (by decide) rfl (Lc.same _ rfl) (lfOb_same rfl (vTs_flat _)) (by decide) rfl rfl
theorem rSum_ok {dec:ByteArray→Int×Nat}{d:Nat}(hL:W.L.length≤1073741824)
  (hc:∀σ:PS W,σ.opn+d=65→σ.at_≤W.L.length→OkG Tryz.prog 62 (rdO σ) [3] [.ref 0 0 0 0] (rdT (PS.prod (PS.un dec d) σ).2 (PS.prod (PS.un dec d) σ).1) (.own 3 0 0 (PS.prod (PS.un dec d) σ).1.length))
  (σ:PS W) (ho:σ.opn+d=65) (ha:σ.at_≤W.L.length):OkG Tryz.prog 42 (rdO σ) [3] [.ref 0 0 0 0] (rdT (PS.sum (PS.un dec d) σ).2 (PS.sum (PS.un dec d) σ).1) (.own 3 0 0 (PS.sum (PS.un dec d) σ).1.length):=by
 have hgood:=(PS.prod_good (PS.un_good dec d):PS.Good (X:=W) (PS.prod (PS.un dec d)))
 have h0:=hc σ ho ha
 unfold rdT at h0
 refine okg_of_ev hC0 mix 1 (zO rfl) Tryz.func42 rfl rfl (by kernel_rfl) (by kernel_rfl) (zO rfl) ?wf ?vs ?po ?le ?_
 case wf=>exact rd_wf _ _ _
 case vs=>exact one_vs rfl
 case po=>exact rdp_po _ _ _ _ _ _ _ _
 case le=>exact rdp_le _ _ _ _ _ _ _ _
 obtain⟨g1,g2⟩:=hgood σ
 repeat'(first|(with_reducible first|(refine zz ?_;try intro K hK)|refine zI ?_|refine zt ?_|refine zf ?_)|((first|refine hK _ ?_|refine hK _ _ rfl ?_);clear hK K)|(guard_hyp hK;first|(refine zY ?zz ?_;case zz=>first|exact rfl|exact gJ)|refine fresh_n ?_|refine freshO_n ?_|refine zW ?_|(refine Or.inr (Or.inr (Or.inl (gen_call ([]) (h0) (pre':=rdO σ) (nw':=[3]) (post':=rdP W (PS.prod (PS.un dec d) σ).2.at_ (PS.prod (PS.un dec d) σ).2.bad (PS.prod (PS.un dec d) σ).2.opn (PS.prod (PS.un dec d) σ).1 0) (r':=.own 3 0 0 (PS.prod (PS.un dec d) σ).1.length) ?hg1 rfl ?hg3 rfl rfl ?hgp ?hgn ?hgi ?_)));(case hg1=>exact rnX);(case hg3=>exact rnX);(case hgp=>(repeat'(first|exact allp_nil|exact alln_nil|refine allp_cons ?_ ?_|refine alln_cons ?_ ?_|rfl)));(case hgn=>(repeat'(first|exact allp_nil|exact alln_nil|refine allp_cons ?_ ?_|refine alln_cons ?_ ?_|rfl)));(case hgi=>(first|exact inj1|exact inj2 (by decide)|exact inj2 (Nat.ne_of_lt (Nat.le_of_ble_eq_true rfl))|exact inj2 (Nat.ne_of_gt (Nat.le_of_ble_eq_true rfl)))))|intro b0 hb)|((first|with_reducible refine zm ?_|guard_hyp hK);refine zY ?_ ?_;all_goals(intro hb;(try simp only [sn,sb] at hb);try exact ex0)))
 refine loop_f (PS W×List Trm×Nat×Nat) (stCh W Tryz.f42.ntmps) (fun z=>z.2.2.2=z.2.1.length∧z.1.opn+d=65∧z.1.at_≤W.L.length∧z.2.1.length≤2 * z.1.at_∧∃k,PS.chainL (PS.prod (PS.un dec d)) PS.kPlus PS.kMin 2 3 k z.2.1 z.1=PS.sum (PS.un dec d) σ∧1≤k∧W.L.length < k+z.1.at_) (fun z=>W.L.length - z.1.at_) ((PS.prod (PS.un dec d) σ).2,(PS.prod (PS.un dec d) σ).1,0,(PS.prod (PS.un dec d) σ).1.length) ⟨rfl,by rw [g1.opn];exact ho,g1.hi ha,by dsimp only;omega,W.L.length+1,rfl,Nat.succ_le_succ (Nat.zero_le _),by dsimp only;omega⟩ (lf_of0 ⟨Lc.same _ rfl,Lc.same _ rfl,trivial⟩ ⟨lfOb_same rfl (one_flat (rdV_flat _ _ _)),lfOb_same rfl (vTs_flat _),trivial⟩) ?_
 rintro⟨τ,l,v,n⟩ ⟨q0,q1,q2,q3,k,q4,q5,q6⟩
 dsimp only at q0 q1 q2 q3 q4 q5 q6
 subst q0
 obtain⟨k,rfl⟩:∃j,k=j+1:=⟨k - 1,by omega⟩
 have ca:=rComes_ok τ 4 (by decide) PS.kPlus
 have cb:=rComes_ok τ.settle 4 (by decide) PS.kMin
 rw [isB_settle,settle_settle] at cb
 rw [PS.chainL] at q4
 unfold stCh
 dsimp only
 cases hA:τ.isB 4 PS.kPlus with
 |true=>
  obtain⟨t,ht,hk,-⟩:=PS.isB_tok hA
  have hlt:=(PS.tok_at ht).2.2
  have hav:=PS.adv_at ht (by rw [hk];decide)
  have haf:=PS.adv_fol1 hA (by decide)
  have hc1:=hc τ.adv (by rw [hav.2.2];exact q1) (haf.hi q2)
  obtain⟨g3,g4⟩:=hgood τ.adv
  have g5:=g3.le
  have g6:=g3.hi (haf.hi q2)
  rw [rdO_adv ht (by rw [hk];decide)] at hc1
  unfold rdT at hc1
  rw [hA,PS.settle_some ht,rdO_some ht] at ca
  rw [isB_other hA (by decide),PS.settle_some ht,rdO_some ht] at cb
  rw [if_pos hA] at q4
  rw [(PS.tok_at ht).1]
  repeat'(first|(refine And.intro (allv_td fun _=>rfl) ?_)|(with_reducible first|(refine zz ?_;try intro K hK)|refine zI ?_|refine zt ?_|refine zf ?_)|((first|refine hK _ ?_|refine hK _ _ rfl ?_);clear hK K)|(guard_hyp hK;first|(refine zY ?zz ?_;case zz=>first|exact rfl|exact gJ)|refine fresh_n ?_|refine freshO_n ?_|refine zW ?_|refine zg ([]) (ca) (rdQ W τ.at_ none τ.opn) ([]) (rdQ W τ.at_ none τ.opn) (.con (.bool true)) ?_|refine zg ([]) (cb) (rdQ W τ.at_ none τ.opn) ([]) (rdQ W τ.at_ none τ.opn) (.con (.bool false)) ?_|(refine Or.inr (Or.inr (Or.inl (gen_call ([(3,7,0)]) (hc1) (pre':=rdQ W (τ.at_+1) none τ.opn) (nw':=[7]) (post':=[(0,⟨11,[rdV W (PS.prod (PS.un dec d) τ.adv).2.at_ (PS.prod (PS.un dec d) τ.adv).2.bad (PS.prod (PS.un dec d) τ.adv).2.opn],0,true⟩),(7,⟨4,(PS.prod (PS.un dec d) τ.adv).1.map vT,0,true⟩)]) (r':=.own 7 0 0 (PS.prod (PS.un dec d) τ.adv).1.length) ?hg1 rfl ?hg3 rfl rfl ?hgp ?hgn ?hgi ?_)));(case hg1=>exact rnX);(case hg3=>exact rnX);(case hgp=>(repeat'(first|exact allp_nil|exact alln_nil|refine allp_cons ?_ ?_|refine alln_cons ?_ ?_|rfl)));(case hgn=>(repeat'(first|exact allp_nil|exact alln_nil|refine allp_cons ?_ ?_|refine alln_cons ?_ ?_|rfl)));(case hgi=>(first|exact inj1|exact inj2 (by decide)|exact inj2 (Nat.ne_of_lt (Nat.le_of_ble_eq_true rfl))|exact inj2 (Nat.ne_of_gt (Nat.le_of_ble_eq_true rfl)))))|intro b0 hb)|((first|with_reducible refine zm ?_|guard_hyp hK);refine zY ?_ ?_;all_goals(intro hb;(try simp only [sn,sb] at hb);try exact ex0)))
  refine⟨((PS.prod (PS.un dec d) τ.adv).2,l ++ (PS.prod (PS.un dec d) τ.adv).1 ++ [⟨2,0,0⟩],v+1+1,l.length+((((PS.prod (PS.un dec d) τ.adv).1.map vT).drop 0).take (PS.prod (PS.un dec d) τ.adv).1.length).length+1),⟨?_,by dsimp only;rw [g3.opn,hav.2.2];exact q1,g6,?_,k,q4,by omega,by dsimp only;omega⟩,by dsimp only;omega,lf_of0 ⟨Lc.same _ rfl,Lc.same _ rfl,trivial⟩ ⟨lfOb_same rfl (one_flat (rdV_flat _ _ _)),lfOb_two (l:=l) (l2:=(PS.prod (PS.un dec d) τ.adv).1) (k:=2) rfl rfl rfl (by simp only [List.length_take,List.length_drop,List.length_map];omega) rfl (lv_sign 2),trivial⟩⟩
  ·simp only [List.length_take,List.length_drop,List.length_map,List.length_append,List.length_singleton];omega
  ·simp only [List.length_append,List.length_singleton];omega
 |false=>
  rw [if_neg (by rw [hA];exact Bool.false_ne_true)] at q4
  rw [hA] at ca
  cases hB:τ.isB 4 PS.kMin with
  |true=>
   obtain⟨t,ht,hk,-⟩:=PS.isB_tok hB
   have hlt:=(PS.tok_at ht).2.2
   have hav:=PS.adv_at ht (by rw [hk];decide)
   have haf:=PS.adv_fol1 hB (by decide)
   have hc1:=hc τ.adv (by rw [hav.2.2];exact q1) (haf.hi q2)
   obtain⟨g3,g4⟩:=hgood τ.adv
   have g5:=g3.le
   have g6:=g3.hi (haf.hi q2)
   rw [rdO_adv ht (by rw [hk];decide)] at hc1
   unfold rdT at hc1
   rw [PS.settle_some ht,rdO_some ht] at ca
   rw [hB,PS.settle_some ht,rdO_some ht] at cb
   rw [if_pos hB] at q4
   rw [(PS.tok_at ht).1]
   repeat'(first|(refine And.intro (allv_td fun _=>rfl) ?_)|(with_reducible first|(refine zz ?_;try intro K hK)|refine zI ?_|refine zt ?_|refine zf ?_)|((first|refine hK _ ?_|refine hK _ _ rfl ?_);clear hK K)|(guard_hyp hK;first|(refine zY ?zz ?_;case zz=>first|exact rfl|exact gJ)|refine fresh_n ?_|refine freshO_n ?_|refine zW ?_|refine zg ([]) (ca) (rdQ W τ.at_ none τ.opn) ([]) (rdQ W τ.at_ none τ.opn) (.con (.bool false)) ?_|refine zg ([]) (cb) (rdQ W τ.at_ none τ.opn) ([]) (rdQ W τ.at_ none τ.opn) (.con (.bool true)) ?_|(refine Or.inr (Or.inr (Or.inl (gen_call ([(3,7,0)]) (hc1) (pre':=rdQ W (τ.at_+1) none τ.opn) (nw':=[7]) (post':=[(0,⟨11,[rdV W (PS.prod (PS.un dec d) τ.adv).2.at_ (PS.prod (PS.un dec d) τ.adv).2.bad (PS.prod (PS.un dec d) τ.adv).2.opn],0,true⟩),(7,⟨4,(PS.prod (PS.un dec d) τ.adv).1.map vT,0,true⟩)]) (r':=.own 7 0 0 (PS.prod (PS.un dec d) τ.adv).1.length) ?hg1 rfl ?hg3 rfl rfl ?hgp ?hgn ?hgi ?_)));(case hg1=>exact rnX);(case hg3=>exact rnX);(case hgp=>(repeat'(first|exact allp_nil|exact alln_nil|refine allp_cons ?_ ?_|refine alln_cons ?_ ?_|rfl)));(case hgn=>(repeat'(first|exact allp_nil|exact alln_nil|refine allp_cons ?_ ?_|refine alln_cons ?_ ?_|rfl)));(case hgi=>(first|exact inj1|exact inj2 (by decide)|exact inj2 (Nat.ne_of_lt (Nat.le_of_ble_eq_true rfl))|exact inj2 (Nat.ne_of_gt (Nat.le_of_ble_eq_true rfl)))))|intro b0 hb)|((first|with_reducible refine zm ?_|guard_hyp hK);refine zY ?_ ?_;all_goals(intro hb;(try simp only [sn,sb] at hb);try exact ex0)))
   refine⟨((PS.prod (PS.un dec d) τ.adv).2,l ++ (PS.prod (PS.un dec d) τ.adv).1 ++ [⟨3,0,0⟩],v+1+1,l.length+((((PS.prod (PS.un dec d) τ.adv).1.map vT).drop 0).take (PS.prod (PS.un dec d) τ.adv).1.length).length+1),⟨?_,by dsimp only;rw [g3.opn,hav.2.2];exact q1,g6,?_,k,q4,by omega,by dsimp only;omega⟩,by dsimp only;omega,lf_of0 ⟨Lc.same _ rfl,Lc.same _ rfl,trivial⟩ ⟨lfOb_same rfl (one_flat (rdV_flat _ _ _)),lfOb_two (l:=l) (l2:=(PS.prod (PS.un dec d) τ.adv).1) (k:=3) rfl rfl rfl (by simp only [List.length_take,List.length_drop,List.length_map];omega) rfl (lv_sign 3),trivial⟩⟩
   ·simp only [List.length_take,List.length_drop,List.length_map,List.length_append,List.length_singleton];omega
   ·simp only [List.length_append,List.length_singleton];omega
  |false=>
   rw [if_neg (by rw [hB];exact Bool.false_ne_true)] at q4
   rw [hB] at cb
   unfold rdO at ca cb
   repeat'(first|(with_reducible first|(refine zz ?_;try intro K hK)|refine zI ?_|refine zt ?_|refine zf ?_)|((first|refine hK _ ?_|refine hK _ _ rfl ?_);clear hK K)|(guard_hyp hK;first|(refine zY ?zz ?_;case zz=>first|exact rfl|exact gJ)|refine fresh_n ?_|refine freshO_n ?_|refine zW ?_|refine zg ([]) (ca) (rdQ W τ.at_ τ.bad τ.opn) ([]) (rdQ W τ.settle.at_ τ.settle.bad τ.settle.opn) (.con (.bool false)) ?_|refine zg ([]) (cb) (rdQ W τ.settle.at_ τ.settle.bad τ.settle.opn) ([]) (rdQ W τ.settle.at_ τ.settle.bad τ.settle.opn) (.con (.bool false)) ?_|intro b0 hb)|((first|with_reducible refine zm ?_|guard_hyp hK);refine zY ?_ ?_;all_goals(intro hb;(try simp only [sn,sb] at hb);try exact ex0)))
   rw [← q4]
   exact rd_retT (l:=l) (v:=v) rfl (by decide) rfl (Lc.same _ rfl) (lfOb_same rfl (vTs_flat _)) (by decide) rfl rfl
end Go.Ev
