import Derived.Test.YtfdgaoihjedamaaGreatDoorLai
import Derived.Test.YtfdgaoihjedamaaGreatDoorLag
set_option linter.all false
set_option maxHeartbeats 4000000
set_option maxRecDepth 10000
namespace Go.Ev
open Go.Proofs
variable {W : Txt}
theorem rdV_flat (a:Nat)(b:Option Flt)(n:Nat):(rdV W a b n).flat:=by
 intro v hv
 simp at hv
 rcases hv with rfl|rfl|rfl|rfl|rfl|rfl|rfl|rfl|rfl|rfl|rfl<;>trivial
theorem one_flat {v:V}(h:v.flat):∀e ∈ [v],e.flat:=by
 intro e he
 obtain rfl:=List.mem_singleton.1 he
 exact h
theorem rd_retF {P:Program}{fn:Func}{s:St}{vs:List V}{a a':Nat}{b b':Option Flt}{n n' np t:Nat}{r:T}(hr:fn.results.toList=[.tmp t])(h0:0≠t)(hs:oget s.oh 0=some ⟨11,[rdV W a' b' n'],0,true⟩)
  (hf:Fd1 s.oh (rdQ W a' b' n') false (eget s.env t) r) (hnp:0 < np) (hv:vs[0]?=some (.ref 0 0 0 0)) (he:eget s.env 0=.ref 0 0 0 0) :
  RetG P fn np (rdQ W a b n) vs (rdQ W a' b' n') (V.ofT1 false r) .ret s:=by
 have e1:eget [(0,V.ref 0 0 0 0),(t,V.ofT1 false r)] t=V.ofT1 false r:=by
  simp [eget,h0]
 refine⟨trivial,true,⟨s.n,[(0,.ref 0 0 0 0),(t,V.ofT1 false r)],rdQ W a' b' n'⟩,?_,rd_pin rfl hnp hv rfl,rd_bm rfl,?_⟩
 ·show Lf _ ⟨s.n,s.env,s.oh⟩
  refine lf_of0 ⟨?_,?_,trivial⟩ ⟨lfOb_same hs (one_flat (rdV_flat _ _ _)),trivial⟩
  ·rw [he];exact Lc.same _ rfl
  ·cases r with
   |con x=>exact Lc.frz false _ _ hf
   |sl x=>exact Lc.frz false _ _ hf
   |ptr x=>exact Lc.frz false _ _ hf
   |agg x=>exact Lc.frz false _ _ hf
   |tup x=>exact Lc.frz false _ _ hf
   |ifc x y=>exact Lc.frz false _ _ hf
 ·rw [hr]
  show BmA _ _ (eget _ t) _
  rw [e1]
  cases r with
  |con x=>exact BmC.con _
  |sl x=>exact BmC.ro _ _
  |ptr x=>exact BmC.ro _ _
  |agg x=>exact BmC.ro _ _
  |tup x=>exact BmC.ro _ _
  |ifc x y=>exact BmC.ro _ _
def vS (w:ByteArray):V:=.con (.string w)
def tSs (l:List ByteArray):T:=.sl (l.map tS9)
theorem vS_flat (l:List ByteArray):∀e ∈ l.map vS,e.flat:=by
 intro e he
 obtain⟨w,-,rfl⟩:=List.mem_map.1 he
 trivial
theorem vS_cl (l:List ByteArray)(oh:OH):∀e ∈ l.map vS,e.cl oh:=fun e he=>(vS_flat l e he).cl oh
theorem fd_vS {oh oh1:OH}{id ver len:Nat}{l:List ByteArray}{el:List V}(ho:oget oh id=some ⟨1,el,ver,true⟩)(hel:el=l.map vS)(hd:oget oh1 id=none)(hn:l.length=len):Fd1 oh oh1 false (.own id ver 0 len) (tSs l):=by
 subst hel
 refine fd_map (F:=vS) (G:=tS9) ho hd hn (fun a _=>rfl) (fun a _ j v u h1 h2=>?_)
 cases j with
 |zero=>
  obtain rfl:V.con (.string a)=v:=by simpa [vS,V.cells] using h1
  obtain rfl:T.con (.string a)=u:=by simpa [tS9,T.cells] using h2
  exact Fd1.con _
 |succ j=>simp [vS,V.cells] at h1
def stNm (N:Nat)(z:PS W×List ByteArray×Nat):St:=⟨N,[(0,.ref 0 0 0 0),(3,.own 1 z.2.2 0 z.2.2)],[(0,⟨11,[rdV W z.1.at_ z.1.bad z.1.opn],0,true⟩),(1,⟨1,z.2.1.map vS,z.2.2,true⟩)]⟩
theorem take_app {α β:Type}{F:α→β}{l:List α}{n:Nat}{a:α}(h:n=l.length):(l.map F).take n ++ [F a]=(l ++ [a]).map F:=by
 rw [List.take_of_length_le (by rw [List.length_map];omega),List.map_append];rfl
theorem rProps_ok (σ:PS W)(hL:W.L.length≤1073741824):OkG Tryz.prog 28 (rdO σ) [] [.ref 0 0 0 0] (rdO (PS.props σ).2) (.ro false (tSs (PS.props σ).1)):=by
 unfold rdO
 refine okg_of_ev hC0 mix 1 (zO rfl) Tryz.func28 rfl rfl (by kernel_rfl) (by kernel_rfl) (zO rfl) ?wf ?vs ?po ?le ?_
 case wf=>exact rd_wf _ _ _
 case vs=>exact one_vs rfl
 case po=>exact rd_po _ _ _ _ _ _
 case le=>exact rd_le _ _ _ _ _ _
 repeat'(first|(with_reducible first|(refine zz ?_;try intro K hK)|refine zI ?_|refine zt ?_|refine zf ?_)|((first|refine hK _ ?_|refine hK _ _ rfl ?_);clear hK K)|(guard_hyp hK;first|(refine zY ?zz ?_;case zz=>first|exact rfl|exact gJ)|refine fresh_n ?_|refine freshO_n ?_|refine zW ?_|intro b0 hb)|((first|with_reducible refine zm ?_|guard_hyp hK);refine zY ?_ ?_;all_goals(intro hb;(try simp only [sn,sb] at hb);try exact ex0)))
 refine loop_i (PS W×List ByteArray×Nat) (stNm Tryz.f28.ntmps) (fun z=>z.2.2=z.2.1.length∧∃k,PS.propsL k z.2.1 z.1=PS.props σ∧1≤k∧W.L.length < k+z.1.at_∧z.2.1.length+k=W.L.length+1) (fun z=>W.L.length - z.1.at_) [(3,1,1)] (σ,[],0) ⟨rfl,rfl,trivial⟩ ⟨rfl,_,rfl,Nat.succ_le_succ (Nat.zero_le _),by dsimp only;omega,Nat.zero_add _⟩ ⟨rfl,⟨rfl,rfl,rfl,rfl,trivial⟩,⟨rfl,rfl,trivial⟩,⟨one_vs (rdV_cl _ _ _ _),vS_cl _ _,trivial⟩⟩ ?_
 rintro⟨τ,l,n⟩ ⟨h0,k,h1,h2,h3,h4⟩
 dsimp only at h0 h1 h2 h3 h4
 obtain⟨k,rfl⟩:∃j,k=j+1:=⟨k - 1,by omega⟩
 have hcm:=rComes_ok τ 1 (by decide) PS.kProp
 rw [PS.propsL] at h1
 cases hB:τ.isB 1 PS.kProp with
 |false=>
  rw [hB,if_neg Bool.false_ne_true] at h1
  rw [hB] at hcm
  rw [← h1]
  unfold rdO at hcm
  repeat'(first|(with_reducible first|(refine zz ?_;try intro K hK)|refine zI ?_|refine zt ?_|refine zf ?_)|((first|refine hK _ ?_|refine hK _ _ rfl ?_);clear hK K)|(guard_hyp hK;first|(refine zY ?zz ?_;case zz=>first|exact rfl|exact gJ)|refine fresh_n ?_|refine freshO_n ?_|refine zW ?_|refine zg ([]) (hcm) (rdQ W τ.at_ τ.bad τ.opn) ([]) (rdQ W τ.settle.at_ τ.settle.bad τ.settle.opn) (.con (.bool false)) ?_|intro b0 hb)|((first|with_reducible refine zm ?_|guard_hyp hK);refine zY ?_ ?_;all_goals(intro hb;(try simp only [sn,sb] at hb);try exact ex0)))
  exact rd_retF (r:=tSs l) rfl (by decide) rfl (fd_vS rfl rfl rfl h0.symm) (by decide) rfl rfl
 |true=>
  obtain⟨t,ht,hk,-⟩:=PS.isB_tok hB
  have hlt:=(PS.tok_at ht).2.2
  have ha:=PS.adv_at ht (by rw [hk];decide)
  rw [hB,if_pos rfl] at h1
  rw [hB,PS.settle_some ht,rdO_some ht] at hcm
  have htx:=rText_ok τ.adv 3 (by decide) hL
  rw [rdO_adv ht (by rw [hk];decide)] at htx
  have hsg:=rSign_ok (PS.take 3 τ.adv).2 PS.kSemi hL
  unfold rdO at htx hsg
  unfold stNm
  simp only [(PS.tok_at ht).1]
  repeat'(first|(with_reducible first|(refine zz ?_;try intro K hK)|refine zI ?_|refine zt ?_|refine zf ?_)|((first|refine hK _ ?_|refine hK _ _ rfl ?_);clear hK K)|(guard_hyp hK;first|(refine zY ?zz ?_;case zz=>first|exact rfl|exact gJ)|refine fresh_n ?_|refine freshO_n ?_|refine zW ?_|refine zg ([]) (hcm) (rdQ W τ.at_ none τ.opn) ([]) (rdQ W τ.at_ none τ.opn) (.con (.bool true)) ?_|refine zg ([]) (htx) (rdQ W (τ.at_+1) none τ.opn) ([]) (rdQ W (PS.take 3 τ.adv).2.at_ (PS.take 3 τ.adv).2.bad (PS.take 3 τ.adv).2.opn) (.con (.string (PS.take 3 τ.adv).1)) ?_|refine zg ([]) (hsg) (rdQ W (PS.take 3 τ.adv).2.at_ (PS.take 3 τ.adv).2.bad (PS.take 3 τ.adv).2.opn) ([]) (rdQ W (PS.need 4 PS.kSemi (PS.take 3 τ.adv).2).at_ (PS.need 4 PS.kSemi (PS.take 3 τ.adv).2).bad (PS.need 4 PS.kSemi (PS.take 3 τ.adv).2).opn) (.tup []) ?_|intro b0 hb)|((first|with_reducible refine zm ?_|guard_hyp hK);refine zY ?_ ?_;all_goals(intro hb;(try simp only [sn,sb] at hb);try exact ex0)))
  have f1:=(PS.take_fol 3 τ.adv).le
  have f2:=(PS.need_fol 4 PS.kSemi (PS.take 3 τ.adv).2).le
  refine⟨(PS.need 4 PS.kSemi (PS.take 3 τ.adv).2,l ++ [(PS.take 3 τ.adv).1],n+1),⟨by dsimp only;rw [List.length_append,List.length_singleton];omega,k,h1,by omega,by dsimp only;omega,by dsimp only;rw [List.length_append,List.length_singleton];omega⟩,by dsimp only;omega,rfl,⟨rfl,rfl,rfl,rfl,trivial⟩,⟨rfl,?_,trivial⟩,⟨one_vs (rdV_cl _ _ _ _),vS_cl _ _,trivial⟩⟩
  exact congrArg (fun e=>some (⟨1,e,n+1,true⟩:Obj)) (take_app (F:=vS) h0)
theorem rNames_ok (σ:PS W)(hL:W.L.length≤1073741824):OkG Tryz.prog 53 (rdO σ) [] [.ref 0 0 0 0] (rdO (PS.names σ).2) (.ro false (tSs (PS.names σ).1)):=by
 cases hb:σ.bad with
 |some f=>
  have hcf:¬foC (some f)=0:=σ.cod f hb
  rw [show PS.names σ=([],σ) from by unfold PS.names;rw [hb]]
  unfold rdO
  rw [hb]
  refine okg_of_ev hC0 mix 1 (zO rfl) Tryz.func53 rfl rfl (by kernel_rfl) (by kernel_rfl) (zO rfl) ?wf ?vs ?po ?le ?_
  case wf=>exact rd_wf _ _ _
  case vs=>exact one_vs rfl
  case po=>exact rd_po _ _ _ _ _ _
  case le=>exact rd_le _ _ _ _ _ _
  repeat'(first|(with_reducible first|(refine zz ?_;try intro K hK)|refine zI ?_|refine zt ?_|refine zf ?_)|((first|refine hK _ ?_|refine hK _ _ rfl ?_);clear hK K)|(guard_hyp hK;first|(refine zY ?zz ?_;case zz=>first|exact rfl|exact gJ)|refine fresh_n ?_|refine freshO_n ?_|refine zW ?_|intro b0 hb)|((first|with_reducible refine zm ?_|guard_hyp hK);refine zY ?_ ?_;all_goals(intro hb;(try simp only [sn,sb] at hb);try exact ex0)))
  refine loop_i Unit (fun _=>⟨Tryz.f53.ntmps,[(0,.ref 0 0 0 0),(3,.emp)],rdQ W σ.at_ (some f) σ.opn⟩) (fun _=>True) (fun _=>0) [] () trivial trivial ⟨rfl,⟨rfl,rfl,rfl,trivial,trivial⟩,⟨rfl,trivial⟩,⟨one_vs (rdV_cl _ _ _ _),trivial⟩⟩ ?_
  rintro - -
  repeat'(first|(with_reducible first|(refine zz ?_;try intro K hK)|refine zI ?_|refine zt ?_|refine zf ?_)|((first|refine hK _ ?_|refine hK _ _ rfl ?_);clear hK K)|(guard_hyp hK;first|(refine zY ?zz ?_;case zz=>first|exact rfl|exact gJ)|refine fresh_n ?_|refine freshO_n ?_|refine zW ?_|intro b0 hb)|((first|with_reducible refine zm ?_|guard_hyp hK);refine zY ?_ ?_;all_goals(intro hb;(try simp only [sn,sb] at hb);try exact ex0)))
  exact rd_retF (r:=tSs []) rfl (by decide) rfl Fd1.emp (by decide) rfl rfl
 |none=>
  have hz:foC none=0:=rfl
  rw [show PS.names σ=PS.namesL (W.L.length+1) [] σ from by unfold PS.names;rw [hb]]
  unfold rdO
  rw [hb]
  refine okg_of_ev hC0 mix 1 (zO rfl) Tryz.func53 rfl rfl (by kernel_rfl) (by kernel_rfl) (zO rfl) ?wf ?vs ?po ?le ?_
  case wf=>exact rd_wf _ _ _
  case vs=>exact one_vs rfl
  case po=>exact rd_po _ _ _ _ _ _
  case le=>exact rd_le _ _ _ _ _ _
  repeat'(first|(with_reducible first|(refine zz ?_;try intro K hK)|refine zI ?_|refine zt ?_|refine zf ?_)|((first|refine hK _ ?_|refine hK _ _ rfl ?_);clear hK K)|(guard_hyp hK;first|(refine zY ?zz ?_;case zz=>first|exact rfl|exact gJ)|refine fresh_n ?_|refine freshO_n ?_|refine zW ?_|intro b0 hb)|((first|with_reducible refine zm ?_|guard_hyp hK);refine zY ?_ ?_;all_goals(intro hb;(try simp only [sn,sb] at hb);try exact ex0)))
  refine loop_i (PS W×List ByteArray×Nat) (fun z=>⟨Tryz.f53.ntmps,[(0,.ref 0 0 0 0),(3,.own 1 z.2.2 0 z.2.2)],[(0,⟨11,[rdV W z.1.at_ none z.1.opn],0,true⟩),(1,⟨1,z.2.1.map vS,z.2.2,true⟩)]⟩) (fun z=>z.1.bad=none∧z.2.2=z.2.1.length∧∃k,PS.namesL k z.2.1 z.1=PS.namesL (W.L.length+1) [] σ∧1≤k∧W.L.length < k+z.1.at_∧z.2.1.length+k=W.L.length+1) (fun z=>W.L.length - z.1.at_) [(3,1,1)] (σ,[],0) ⟨rfl,rfl,trivial⟩ ⟨hb,rfl,_,rfl,Nat.succ_le_succ (Nat.zero_le _),by dsimp only;omega,Nat.zero_add _⟩ ⟨rfl,⟨rfl,rfl,rfl,rfl,trivial⟩,⟨rfl,rfl,trivial⟩,⟨one_vs (rdV_cl _ _ _ _),vS_cl _ _,trivial⟩⟩ ?_
  rintro⟨τ,l,n⟩ ⟨hb2,h0,k,h1,h2,h3,h4⟩
  dsimp only at hb2 h0 h1 h2 h3 h4
  obtain⟨k,rfl⟩:∃j,k=j+1:=⟨k - 1,by omega⟩
  have htx:=rText_ok τ 1 (by decide) hL
  have hcm:=rComes_ok (PS.take 1 τ).2 4 (by decide) PS.kComma
  have f1:=(PS.take_fol 1 τ).le
  rw [PS.namesL] at h1
  unfold rdO at htx
  rw [hb2] at htx
  cases hB:(PS.take 1 τ).2.isB 4 PS.kComma with
  |false=>
   rw [hB,if_neg Bool.false_ne_true] at h1
   rw [hB] at hcm
   rw [← h1]
   unfold rdO at hcm
   repeat'(first|(with_reducible first|(refine zz ?_;try intro K hK)|refine zI ?_|refine zt ?_|refine zf ?_)|((first|refine hK _ ?_|refine hK _ _ rfl ?_);clear hK K)|(guard_hyp hK;first|(refine zY ?zz ?_;case zz=>first|exact rfl|exact gJ)|refine fresh_n ?_|refine freshO_n ?_|refine zW ?_|refine zg ([]) (htx) (rdQ W τ.at_ none τ.opn) ([]) (rdQ W (PS.take 1 τ).2.at_ (PS.take 1 τ).2.bad (PS.take 1 τ).2.opn) (.con (.string (PS.take 1 τ).1)) ?_|refine zg ([]) (hcm) (rdQ W (PS.take 1 τ).2.at_ (PS.take 1 τ).2.bad (PS.take 1 τ).2.opn) ([]) (rdQ W (PS.take 1 τ).2.settle.at_ (PS.take 1 τ).2.settle.bad (PS.take 1 τ).2.settle.opn) (.con (.bool false)) ?_|intro b0 hb)|((first|with_reducible refine zm ?_|guard_hyp hK);refine zY ?_ ?_;all_goals(intro hb;(try simp only [sn,sb] at hb);try exact ex0)))
   exact rd_retF (r:=tSs (l ++ [(PS.take 1 τ).1])) rfl (by decide) rfl (fd_vS rfl (take_app (F:=vS) h0) rfl (by rw [List.length_append,h0];rfl)) (by decide) rfl rfl
  |true=>
   obtain⟨t,ht,hk,-⟩:=PS.isB_tok hB
   have hlt:=(PS.tok_at ht).2.2
   have ha:=PS.adv_at ht (by rw [hk];decide)
   rw [hB,if_pos rfl] at h1
   rw [hB,PS.settle_some ht,rdO_some ht] at hcm
   have hb3:=(PS.tok_at ht).1
   rw [hb3] at htx
   repeat'(first|(with_reducible first|(refine zz ?_;try intro K hK)|refine zI ?_|refine zt ?_|refine zf ?_)|((first|refine hK _ ?_|refine hK _ _ rfl ?_);clear hK K)|(guard_hyp hK;first|(refine zY ?zz ?_;case zz=>first|exact rfl|exact gJ)|refine fresh_n ?_|refine freshO_n ?_|refine zW ?_|refine zg ([]) (htx) (rdQ W τ.at_ none τ.opn) ([]) (rdQ W (PS.take 1 τ).2.at_ none (PS.take 1 τ).2.opn) (.con (.string (PS.take 1 τ).1)) ?_|refine zg ([]) (hcm) (rdQ W (PS.take 1 τ).2.at_ none (PS.take 1 τ).2.opn) ([]) (rdQ W (PS.take 1 τ).2.at_ none (PS.take 1 τ).2.opn) (.con (.bool true)) ?_|intro b0 hb)|((first|with_reducible refine zm ?_|guard_hyp hK);refine zY ?_ ?_;all_goals(intro hb;(try simp only [sn,sb] at hb);try exact ex0)))
   refine⟨((PS.take 1 τ).2.adv,l ++ [(PS.take 1 τ).1],n+1),⟨ha.2.1,by dsimp only;rw [List.length_append,List.length_singleton];omega,k,h1,by omega,by dsimp only;omega,by dsimp only;rw [List.length_append,List.length_singleton];omega⟩,by dsimp only;omega,rfl,⟨rfl,rfl,rfl,rfl,trivial⟩,⟨?_,?_,trivial⟩,⟨one_vs (rdV_cl _ _ _ _),vS_cl _ _,trivial⟩⟩
   ·dsimp only
    rw [ha.1,ha.2.2];rfl
   ·exact congrArg (fun e=>some (⟨1,e,n+1,true⟩:Obj)) (take_app (F:=vS) h0)
theorem clObjs_cu (oh:OH)(p:List UInt32):clObjs oh [(0,⟨1,p.map cu,0,true⟩)]:=by
 refine⟨fun v hv=>?_,trivial⟩
 obtain⟨u,_,rfl⟩:=List.mem_map.1 hv
 trivial
theorem Mul_ok (a b:List UInt32)(ha:a.length≤1099511627776)(hb:b.length≤1099511627776):Ok Tryz.prog 113 [tn a,tn b] true (tn (lm (val a * val b))):=by
 refine ok_of_ev hC0 mix Tryz.func113 rfl rfl (by kernel_rfl) (zO rfl) ?_
 have hna:=norm_le a
 have hnb:=norm_le b
 repeat'(first|(with_reducible first|(refine zz ?_;try intro K hK)|refine zI ?_|refine zt ?_|refine zf ?_)|((first|refine hK _ ?_|refine hK _ _ rfl ?_);clear hK K)|(guard_hyp hK;first|(refine zY ?zz ?_;case zz=>first|exact rfl|exact gI)|refine fresh_n ?_|refine freshO_n ?_|(refine at_Q ?_;intro hu)|refine zP wA ?_|(refine mul_Q ?_;intro hm1 hm2)|refine zP at_M ?_|refine zP rfl ?_|(refine zQ (trim_ok a (by omega)) ?_)|(refine zQ (trim_ok b (by omega)) ?_)|intro b0 hb)|((first|with_reducible refine zm ?_|guard_hyp hK);refine zY ?_ ?_;all_goals(intro hb;(try simp only [sb] at hb);try exact ex0)))
 rw [← val_norm a,← val_norm b]
 have hx:(norm a).length≤1099511627776:=by omega
 have hy:(norm b).length≤1099511627776:=by omega
 clear hna hnb
 generalize norm a=x at *
 generalize norm b=y at *
 refine loop_i (Int×List UInt32) (fun(i,p)=>⟨Tryz.f113.ntmps,[(1,.ro false (tn y)),(5,.own 0 0 0 (x.length+y.length)),(21,.ro false (tn x)),(22,.con (.int .i64 ((x.map tu32).length:Nat))),(23,.con (.int .i64 i))],[(0,⟨1,p.map cu,0,true⟩)]⟩)
  (fun(i,p)=>0≤i∧i≤x.length∧p.length=x.length+y.length∧val p=val (x.take i.toNat) * val y) (fun(i,p)=>(x.length - i).toNat) [] (0,List.replicate (x.length+y.length) 0) trivial ⟨by omega,by omega,by simp,?_⟩ ⟨rfl,⟨rfl,trivial,?_,rfl,rfl,trivial,rfl,trivial,rfl,trivial,trivial⟩,⟨?_,trivial⟩,clObjs_cu _ _⟩ ?_
 ·rw [val_replicate];simp [val]
 ·show V.own _ _ _ _=_
  simp only [List.length_map]
  congr 1
 ·show some _=some _
  congr 1
  congr 1
  simp only [List.length_map]
  rw [List.map_replicate,show((x.length:Int)+(y.length:Int)).toNat=x.length+y.length by omega]
  rfl
 rintro⟨i,p⟩ ⟨h0,h1,hpl,hpv⟩
 repeat'(first|(with_reducible first|(refine zz ?_;try intro K hK)|refine zI ?_|refine zt ?_|refine zf ?_)|((first|refine hK _ ?_|refine hK _ _ rfl ?_);clear hK K)|(guard_hyp hK;first|(refine zY ?zz ?_;case zz=>first|exact rfl|exact gI)|refine fresh_n ?_|refine freshO_n ?_|(refine at_Q ?_;intro hu)|refine zP wA ?_|(refine mul_Q ?_;intro hm1 hm2)|refine zP at_M ?_|refine zP rfl ?_|intro b0 hb)|((first|with_reducible refine zm ?_|guard_hyp hK);refine zY ?_ ?_;all_goals(intro hb;(try simp only [sb] at hb);try exact ex0)))
 ·refine loop_i (Nat×List UInt32×Nat) (fun(k,q,c)=>⟨Tryz.f113.ntmps,[(1,.ro false (tn y)),(5,.own 0 0 0 (x.length+y.length)),(6,.con (.int .i64 i)),(7,.con (.int .u32 (x.getD i.toNat default).toNat)),(8,.con (.int .u64 c)),(21,.ro false (tn x)),(22,.con (.int .i64 ((x.map tu32).length:Nat))),(23,.con (.int .i64 i)),(28,.ro false (tn y)),(29,.con (.int .i64 ((y.map tu32).length:Nat))),(30,.con (.int .i64 k))],[(0,⟨1,q.map cu,0,true⟩)]⟩)
   (fun(k,q,c)=>k≤y.length∧q.length=x.length+y.length∧c < 4294967296∧val q+c * 4294967296 ^ (i.toNat+k)=val p+(x.getD i.toNat default).toNat * val (y.take k) * 4294967296 ^ i.toNat∧q.drop (i.toNat+k)=p.drop (i.toNat+k)) (fun(k,q,c)=>y.length - k) [] (0,p,0) trivial ⟨by omega,hpl,by decide,by simp [val],rfl⟩ ⟨rfl,⟨rfl,trivial,rfl,rfl,rfl,trivial,rfl,trivial,rfl,trivial,rfl,trivial,rfl,trivial,rfl,trivial,rfl,trivial,rfl,trivial,rfl,trivial,trivial⟩,⟨rfl,trivial⟩,clObjs_cu _ _⟩ ?_
  rintro⟨k,q,c⟩ ⟨g0,g1,g2,g3,g4⟩
  repeat'(first|(with_reducible first|(refine zz ?_;try intro K hK)|refine zI ?_|refine zt ?_|refine zf ?_)|((first|refine hK _ ?_|refine hK _ _ rfl ?_);clear hK K)|(guard_hyp hK;first|(refine zY ?zz ?_;case zz=>first|exact rfl|exact gI)|refine fresh_n ?_|refine freshO_n ?_|(refine at_Q ?_;intro hu)|refine zP wA ?_|(refine mul_Q ?_;intro hm1 hm2)|refine zP at_M ?_|refine zP rfl ?_|intro b0 hb)|((first|with_reducible refine zm ?_|guard_hyp hK);refine zY ?_ ?_;all_goals(intro hb;(try simp only [sb] at hb);try exact ex0)))
  ·have ej:(0+(i+(k:Int)).toNat)=i.toNat+k:=by omega
   have ek:((k:Int)).toNat=k:=rfl
   rw [ej] at hu
   rw [ek] at hm1 hm2
   obtain⟨xi,hxi⟩:∃n,(x.getD i.toNat default).toNat=n:=⟨_,rfl⟩
   obtain⟨yk,hyk⟩:∃n,(y.getD k default).toNat=n:=⟨_,rfl⟩
   obtain⟨qj,hqj⟩:∃n,(q.getD (i.toNat+k) default).toNat=n:=⟨_,rfl⟩
   have hstep:=mul_step (p:=p) (p':=q) (y:=y) (xi:=xi) (c:=c) (i:=i.toNat) (k:=k) (t:=c+(xi * yk+qj)) (by omega) (by omega) (by rw [← hxi];exact g3) (by rw [hyk,hqj])
   have hT:c+(xi * yk+qj) < 18446744073709551616:=by
    rw [hxi,hyk] at hm2
    have hm2':((xi * yk:Nat):Int)≤18446744065119617025:=by rw [Int.natCast_mul];exact hm2
    omega
   refine⟨(k+1,q.set (i.toNat+k) (UInt32.ofNat (c+(xi * yk+qj))),(c+(xi * yk+qj)) / 4294967296),⟨by omega,by rw [List.length_set];exact g1,by omega,?ga,?gb⟩,by show y.length - (k+1) < y.length - k;omega,rfl,⟨rfl,trivial,rfl,rfl,rfl,trivial,rfl,trivial,?gc,trivial,rfl,trivial,rfl,trivial,rfl,trivial,rfl,trivial,rfl,trivial,rfl,trivial,trivial⟩,⟨?gd,trivial⟩,clObjs_cu _ _⟩
   case ga=>rw [show i.toNat+(k+1)=i.toNat+k+1 by omega,hxi];exact hstep
   case gb=>rw [show i.toNat+(k+1)=i.toNat+k+1 by omega];exact drop_set_succ g4
   case gc=>
    refine congrArg (fun n=>V.con (.int .u64 n)) (?_:Int.fdiv ((c:Int)+(((x.getD i.toNat default).toNat:Int) * ((y.getD ((k:Int)).toNat default).toNat:Int)+((q.getD (0+(i+(k:Int)).toNat) default).toNat:Int))) (2 ^ (min (32:Int).toNat IntKind.u64.bits))=_)
    rw [ej,ek,hxi,hyk,hqj]
    have e2:((2:Int) ^ (min (32:Int).toNat IntKind.u64.bits))=((4294967296:Nat):Int):=rfl
    rw [e2,show((c:Int)+((xi:Int) * (yk:Int)+(qj:Int)))=((c+(xi * yk+qj):Nat):Int) by simp]
    exact(Int.ofNat_fdiv _ _).symm
   case gd=>
    refine congrArg (fun l=>some (Obj.mk 1 l 0 true)) (?_:(q.map cu).set (0+(i+(k:Int)).toNat) (V.con (.int .u32 (IntKind.u32.wrap ((c:Int)+(((x.getD i.toNat default).toNat:Int) * ((y.getD ((k:Int)).toNat default).toNat:Int)+((q.getD (0+(i+(k:Int)).toNat) default).toNat:Int))))))=_)
    rw [ej,ek,hxi,hyk,hqj,List.map_set,show((c:Int)+((xi:Int) * (yk:Int)+(qj:Int)))=((c+(xi * yk+qj):Nat):Int) by simp,wrap32 (by omega)]
    rfl
  ·have hkk:k=y.length:=by omega
   subst hkk
   have ej:(0+(i+((y.map tu32).length:Int)).toNat)=i.toNat+y.length:=by rw [List.length_map];omega
   rw [List.take_length] at g3
   have hc32:(UInt32.ofNat c).toNat=c:=by simp;omega
   refine⟨(i+1,q.set (i.toNat+y.length) (UInt32.ofNat c)),⟨by omega,by omega,by rw [List.length_set];exact g1,?ga⟩,by show((x.length:Int) - (i+1)).toNat < ((x.length:Int) - i).toNat;omega,rfl,⟨rfl,trivial,rfl,rfl,rfl,trivial,rfl,trivial,rfl,trivial,trivial⟩,⟨?gd,trivial⟩,clObjs_cu _ _⟩
   case ga=>
    rw [show(i+1).toNat=i.toNat+1 by omega]
    exact mul_end (by omega) (by omega) hpv (by rw [hc32];exact g3) g4
   case gd=>
    refine congrArg (fun l=>some (Obj.mk 1 l 0 true)) (?_:(q.map cu).set (0+(i+((y.map tu32).length:Int)).toNat) (V.con (.int .u32 (c:Int)))=_)
    rw [ej,List.map_set]
    refine congrArg (fun v=>(q.map cu).set _ v) ?_
    show _=V.con (.int .u32 (((UInt32.ofNat c).toNat:Nat):Int))
    rw [hc32]
 ·have hii:i.toNat=x.length:=by omega
  rw [hii,List.take_length] at hpv
  refine Or.inl (Exists.intro _ (Exists.intro _ (Exists.intro _ (And.intro (own_ok p (by omega)) (Exists.intro [(0,?o)] (And.intro (lpre1 ?ho) (And.intro ?z (And.intro rfl ?_))))))))
  case ho=>exact rfl
  case z=>
   refine fzl1 (fz_own (l:=p) (F:=fun x=>V.con (.int .u32 x.toNat)) (G:=tu32) rfl rfl rfl hpl ?_ (fun a _=>fze_con _) rfl)
   show List.take _ (List.drop 0 (p.map cu))=_
   rw [List.drop_zero,List.take_of_length_le (by rw [List.length_map];omega)]
   rfl
  repeat'(first|(with_reducible first|(refine zz ?_;try intro K hK)|refine zI ?_|refine zt ?_|refine zf ?_)|((first|refine hK _ ?_|refine hK _ _ rfl ?_);clear hK K)|(guard_hyp hK;first|(refine zY ?zz ?_;case zz=>first|exact rfl|exact gI)|refine fresh_n ?_|refine freshO_n ?_|(refine at_Q ?_;intro hu)|refine zP wA ?_|(refine mul_Q ?_;intro hm1 hm2)|refine zP at_M ?_|refine zP rfl ?_|intro b0 hb)|((first|with_reducible refine zm ?_|guard_hyp hK);refine zY ?_ ?_;all_goals(intro hb;(try simp only [sb] at hb);try exact ex0)))
  exact And.intro trivial (fz_ro (by rw [norm_lm,hpv]) fun h=>h)
end Go.Ev
