import Derived.Test.YtfdgaoihjedamaaGreatDoorLbd
import Derived.Test.YtfdgaoihjedamaaGreatDoorLbe
set_option linter.all false
set_option maxHeartbeats 40000000
set_option maxRecDepth 10000
namespace Go.Ev
open Go.Proofs
open PS (Trm EntD VarD PrbD FilD)
theorem tFo_eq (o:Option Flt):tFo o=tFl (foC o) (foL o) (foK o) (foW o):=by cases o<;>rfl
def PS.begin (s:ByteArray):PS (txt s):=⟨0,none,0,fun h=>by
 obtain⟨l,t,e,-⟩:=(txt s).fine h
 rw [e,List.length_append];exact Nat.succ_pos _,fun _ h=>by cases h⟩
theorem rStart_ok (s:ByteArray)(hs:s.size≤1073741824):OkO Tryz.prog 15 [tS9 s] (rdO (PS.begin s)) (.ref 0 0 0 0):=by
 have hA:=rAll_ok s hs
 rw [tFo_eq] at hA
 refine oko_of_ev hC0 mix Tryz.func15 rfl rfl (by kernel_rfl) (zO rfl) ?_
 repeat'(first|(with_reducible first|(refine zz ?_;try intro K hK)|refine zI ?_|refine zt ?_|refine zf ?_)|((first|refine hK _ ?_|refine hK _ _ rfl ?_);clear hK K)|(guard_hyp hK;first|(refine zY ?zz ?_;case zz=>first|exact rfl|exact gJ)|refine fresh_n ?_|refine freshO_n ?_|refine zW ?_|(refine zQ (hA) ?_)|intro b0 hb)|((first|with_reducible refine zm ?_|guard_hyp hK);refine zY ?_ ?_;all_goals(intro hb;(try simp only [sn,sb] at hb);try exact ex0)))
 refine⟨trivial,false,_,fun _=>1,rfl,ren_of inj1 ⟨⟨_,rfl,rfl,rfl,rfl,rfl,rfl,renE_one (show RenA _ _ _ (rdV (txt s) 0 none 0) (rdV (txt s) 0 none 0) from renA_flat (rdV_flat _ _ _))⟩,trivial⟩,?_⟩
 exact renA_ref rfl rfl rfl rfl
def fileS (dec:ByteArray→Int×Nat)(s:ByteArray):FilD×Option Flt:=
 match(PS.filD dec natP (PS.begin s)).2.bad with
 |some f=>(⟨eS,[],[],[]⟩,some f)
 |none=>((PS.filD dec natP (PS.begin s)).1,none)
def tVar (v:VarD):T:=.agg [.con (.string v.name),tn (lm v.count),tSs v.vals,tSs v.prps]
def tPrb (p:PrbD):T:=.agg [.con (.string p.name),tSs p.pars,tEs p.ents,tSs p.prps]
def tFil (f:FilD):T:=.agg [.con (.string f.name),tSs f.prps,.sl (f.vars.map tVar),.sl (f.prbs.map tPrb)]
theorem vVar_flat (v:VarD):(vVar v).flat:=by
 intro u hv
 simp at hv
 rcases hv with rfl|rfl|rfl|rfl<;>trivial
theorem vPrb_flat (v:PrbD):(vPrb v).flat:=by
 intro u hv
 simp at hv
 rcases hv with rfl|rfl|rfl|rfl<;>trivial
theorem vVs_flat (l:List VarD):∀e ∈ l.map vVar,e.flat:=by
 intro e he
 obtain⟨w,-,rfl⟩:=List.mem_map.1 he
 exact vVar_flat w
theorem vPs_flat (l:List PrbD):∀e ∈ l.map vPrb,e.flat:=by
 intro e he
 obtain⟨w,-,rfl⟩:=List.mem_map.1 he
 exact vPrb_flat w
theorem fze_Var {oh:OH}(v:VarD):FzE oh false (vVar v) (tVar v):=by
 refine⟨rfl,fun j x u h1 h2=>?_⟩
 match j with
 |0=>simp [vVar,V.cells] at h1;simp [tVar,T.cells] at h2;subst h1;subst h2;exact .con _
 |1=>simp [vVar,V.cells] at h1;simp [tVar,T.cells] at h2;subst h1;subst h2;exact .ro _ _ fun h=>Bool.noConfusion h
 |2=>simp [vVar,V.cells] at h1;simp [tVar,T.cells] at h2;subst h1;subst h2;exact .ro _ _ fun h=>Bool.noConfusion h
 |3=>simp [vVar,V.cells] at h1;simp [tVar,T.cells] at h2;subst h1;subst h2;exact .ro _ _ fun h=>Bool.noConfusion h
 |j+4=>simp [vVar,V.cells] at h1
theorem fze_Prb {oh:OH}(v:PrbD):FzE oh false (vPrb v) (tPrb v):=by
 refine⟨rfl,fun j x u h1 h2=>?_⟩
 match j with
 |0=>simp [vPrb,V.cells] at h1;simp [tPrb,T.cells] at h2;subst h1;subst h2;exact .con _
 |1=>simp [vPrb,V.cells] at h1;simp [tPrb,T.cells] at h2;subst h1;subst h2;exact .ro _ _ fun h=>Bool.noConfusion h
 |2=>simp [vPrb,V.cells] at h1;simp [tPrb,T.cells] at h2;subst h1;subst h2;exact .ro _ _ fun h=>Bool.noConfusion h
 |3=>simp [vPrb,V.cells] at h1;simp [tPrb,T.cells] at h2;subst h1;subst h2;exact .ro _ _ fun h=>Bool.noConfusion h
 |j+4=>simp [vPrb,V.cells] at h1
theorem fz_agg4 {oh:OH}{f:Bool}{v1 v2 v3 v4:V}{t1 t2 t3 t4:T}(h1:Fz1 oh f v1 t1)(h2:Fz1 oh f v2 t2)(h3:Fz1 oh f v3 t3)(h4:Fz1 oh f v4 t4):FzA oh f (.agg [v1,v2,v3,v4]) (.agg [t1,t2,t3,t4]):=by
 refine⟨rfl,fun j v t hv ht=>?_⟩
 match j with
 |0=>simp at hv ht;subst hv;subst ht;exact h1
 |1=>simp at hv ht;subst hv;subst ht;exact h2
 |2=>simp at hv ht;subst hv;subst ht;exact h3
 |3=>simp at hv ht;subst hv;subst ht;exact h4
 |j+4=>simp at hv
theorem fz_list {α:Type}{oh:OH}{F:α→V}{G:α→T}{l:List α}{id ver len sz:Nat}(ho:oget oh id=some ⟨sz,l.map F,ver,true⟩)(hn:l.length=len)(hFG:∀a,FzE oh false (F a) (G a)):Fz1 oh false (.own id ver 0 len) (.sl (l.map G)):=by
 have:FzA oh false (.own id ver 0 len) (.sl (l.map G)):=fz_own (F:=F) (G:=G) (l:=l) ho rfl rfl hn (by show((l.map F).drop 0).take len=_;rw [List.drop_zero,List.take_of_length_le (by rw [List.length_map];omega)]) (fun a _=>hFG a) rfl
 exact this
theorem ret_cc {P:Program}{fn:Func}{f:Bool}{s:St}{b tb c tc i1 i2 v1 v2 z1 z2:Nat}{l2:List V}{ts:List T}{l3:List Value}{fs2 fs3:List (Nat×Nat)}{y2 y3:List Value}
  (hr:fn.results.toList=[.cell b tb,.cell c tc])
  (ht2:tk P tb=.st fs2 y2) (hz2:y2.length=l2.length) (h02:0 < l2.length) (ha2:eget s.env b=.ref i1 v1 0 0) (ho2:oget s.oh i1=some ⟨z1,[.agg l2],v1,true⟩) (hf:FzA s.oh f (.agg l2) (.agg ts))
  (ht3:tk P tc=.st fs3 y3) (hz3:y3.length=(l3.map V.con).length) (h03:0 < (l3.map V.con).length) (ha3:eget s.env c=.ref i2 v2 0 0) (ho3:oget s.oh i2=some ⟨z2,[.agg (l3.map .con)],v2,true⟩) :
  RetOK P fn f (.tup [.agg ts,.agg (l3.map .con)]) .ret s:=by
 refine⟨trivial,?_⟩
 rw [hr]
 have h:resV P s (.cell b tb) (fun v=>resV P s (.cell c tc) (fun u=>∃t1 t2,T.tup [.agg ts,.agg (l3.map .con)]=.tup [t1,t2]∧FzA s.oh f v t1∧FzA s.oh f u t2)):=
  resc ht2 hz2 h02 ha2 ho2 (resc ht3 hz3 h03 ha3 ho3 ⟨_,_,rfl,hf,fz_aggC l3⟩)
 exact h
theorem by128 {n b m:Nat}(hb:b≤128)(h:n * 128≤m):n * b≤m:=Nat.le_trans (Nat.mul_le_mul_left _ hb) h
def rd2 (W:Txt)(a:Nat)(b:Option Flt)(n:Nat):OH:=[(2,⟨11,[rdV W a b n],0,true⟩)]
abbrev FiZ (W:Txt):=PS W×List VarD×List PrbD×(Nat×Nat)×(Nat×Nat)×Nat
def stFi (W : Txt) (N : Nat) (nm : ByteArray) (pr : List ByteArray) (z : FiZ W) : St :=
  ⟨N, [(2, .ref 0 0 0 0), (3, .ref 1 0 0 0), (4, .ref 2 0 0 0), (5, .ref 3 0 0 0)],
    [(0, ⟨4, [.agg [.con (.string .empty), .emp, .emp, .emp]], 0, true⟩), (1, bxFl), (2, ⟨11, [rdV W z.1.at_ z.1.bad z.1.opn], 0, true⟩),
     (3, ⟨4, [.agg [.con (.string nm), .ro false (tSs pr), .own 4 z.2.2.2.1.1 0 z.2.2.2.1.2, .own 5 z.2.2.2.2.1.1 0 z.2.2.2.2.1.2]], 0, true⟩),
     (4, ⟨4, z.2.1.map vVar, z.2.2.2.1.1, true⟩), (5, ⟨4, z.2.2.1.map vPrb, z.2.2.2.2.1.1, true⟩)]⟩
def fiI {W:Txt}(R:List VarD×List PrbD×PS W)(dec:ByteArray→Int×Nat)(z:FiZ W):Prop:=
 z.1.opn=0∧z.1.at_≤W.L.length∧z.2.2.2.1.2=z.2.1.length∧z.2.2.2.2.1.2=z.2.2.1.length∧z.2.2.1.length+z.2.2.2.2.2≤W.L.length+1∧z.2.1.length+z.2.2.2.2.2≤W.L.length+1∧
  PS.partL dec natP z.2.2.2.2.2 z.2.1 z.2.2.1 z.1=R∧1≤z.2.2.2.2.2∧W.L.length < z.2.2.2.2.2+z.1.at_
theorem rFile_ok {dec:ByteArray→Int×Nat}(s:ByteArray)(hs:s.size≤1073741824)(hF:Fit (txt s))(hdec:∀t ∈ (txt s).L,t.kind=2→Ok Tryz.prog 102 [tS9 t.text] true (.tup [tNum (dec t.text).1 (dec t.text).2,.con (.int .i64 0)])) :
  Ok Tryz.prog 10 [tS9 s] false (.tup [tFil (fileS dec s).1,tFo (fileS dec s).2]):=by
 have hL:=hF.len
 have c0:=rStart_ok s hs
 have hS:fileS dec s=(match(PS.fin (PS.partL dec natP ((txt s).L.length+1) [] [] (PS.fil2 (PS.begin s))).2.2).bad with
  |some f=>(⟨eS,[],[],[]⟩,some f)
  |none=>(⟨(PS.take 1 (PS.need 1 PS.kNet (PS.begin s))).1,(PS.props (PS.fil1 (PS.begin s))).1,(PS.partL dec natP ((txt s).L.length+1) [] [] (PS.fil2 (PS.begin s))).1,(PS.partL dec natP ((txt s).L.length+1) [] [] (PS.fil2 (PS.begin s))).2.1⟩,none)):=rfl
 rw [hS]
 clear hS
 have ho:(PS.begin s).opn=0:=rfl
 have ha:(PS.begin s).at_≤(txt s).L.length:=Nat.zero_le _
 unfold PS.fil2 PS.fil1
 generalize PS.begin s=σ at *
 generalize txt s=W at *
 have f1:=PS.need_fol 1 PS.kNet σ
 have c1:=rWord_ok σ PS.kNet hL
 generalize PS.need 1 PS.kNet σ=s1 at *
 have f2:=PS.take_fol 1 s1
 have c2:=rText_ok s1 1 (by decide) hL
 generalize PS.take 1 s1=r2 at *
 have f3:=PS.need_fol 4 PS.kLC r2.2
 have c3:=rSign_ok r2.2 PS.kLC hL
 generalize PS.need 4 PS.kLC r2.2=s3 at *
 have f4:=PS.props_fol s3
 have c4:=rProps_ok s3 hL
 generalize PS.props s3=r4 at *
 have f5:=PS.need_fol 4 PS.kRC r4.2
 have c5:=rSign_ok r4.2 PS.kRC hL
 generalize PS.need 4 PS.kRC r4.2=s5 at *
 have fo:=(((f1.trans f2).trans f3).trans f4).trans f5
 unfold rdO at c0 c1 c2 c3 c4 c5
 refine ok_of_ev hC0 mix Tryz.func10 rfl rfl (by kernel_rfl) (zO rfl) ?_
 repeat'(first|(with_reducible first|(refine zz ?_;try intro K hK)|refine zI ?_|refine zt ?_|refine zf ?_)|((first|refine hK _ ?_|refine hK _ _ rfl ?_);clear hK K)|(guard_hyp hK;first|(refine zY ?zz ?_;case zz=>first|exact rfl|exact gJ)|refine fresh_n ?_|refine freshO_n ?_|refine zW ?_|(refine Or.inr (Exists.intro _ (Exists.intro _ (And.intro (c0) ?_))))|refine zg ([(0,2,0)]) (c1) (rd2 W σ.at_ σ.bad σ.opn) ([]) (rd2 W s1.at_ s1.bad s1.opn) (.tup []) ?_|refine zg ([(0,2,0)]) (c2) (rd2 W s1.at_ s1.bad s1.opn) ([]) (rd2 W r2.2.at_ r2.2.bad r2.2.opn) (.con (.string r2.1)) ?_|refine zg ([(0,2,0)]) (c3) (rd2 W r2.2.at_ r2.2.bad r2.2.opn) ([]) (rd2 W s3.at_ s3.bad s3.opn) (.tup []) ?_|refine zg ([(0,2,0)]) (c4) (rd2 W s3.at_ s3.bad s3.opn) ([]) (rd2 W r4.2.at_ r4.2.bad r4.2.opn) (.ro false (tSs r4.1)) ?_|refine zg ([(0,2,0)]) (c5) (rd2 W r4.2.at_ r4.2.bad r4.2.opn) ([]) (rd2 W s5.at_ s5.bad s5.opn) (.tup []) ?_|intro b0 hb)|((first|with_reducible refine zm ?_|guard_hyp hK);refine zY ?_ ?_;all_goals(intro hb;(try simp only [sn,sb] at hb);try exact ex0)))
 generalize hR:PS.partL dec natP (W.L.length+1) [] [] s5=R
 refine loop_f (FiZ W) (stFi W Tryz.f10.ntmps r2.1 r4.1) (fiI R dec) (fun z=>z.2.2.2.2.2) (s5,[],[],(0,0),(0,0),W.L.length+1) ⟨fo.opn.trans ho,fo.hi ha,rfl,rfl,Nat.le_of_eq (Nat.zero_add _),Nat.le_of_eq (Nat.zero_add _),hR,Nat.succ_le_succ (Nat.zero_le _),by dsimp only;omega⟩ (lf_of0 ⟨Lc.same _ rfl,Lc.same _ rfl,Lc.same _ rfl,Lc.same _ rfl,trivial⟩ ⟨lfOb_one rfl (lv_agg ⟨Lc.same _ trivial,Lc.same _ trivial,Lc.same _ trivial,Lc.same _ trivial,trivial⟩),lfOb_one rfl (lv_agg ⟨Lc.same _ trivial,Lc.same _ trivial,Lc.same _ trivial,Lc.same _ trivial,trivial⟩),lfOb_same rfl (one_flat (rdV_flat _ _ _)),lfOb_one rfl (lv_agg ⟨Lc.same _ trivial,lc_ro,Lc.adopt 4 _ rfl rfl,Lc.adopt 5 _ rfl rfl,trivial⟩),lfOb_new rfl,lfOb_new rfl,trivial⟩) ?_
 rintro⟨τ,vs,ps,⟨vv,nv⟩,⟨vp,np⟩,k⟩ ⟨q1,q2,q3,q4,q5,q6,q7,q8,q9⟩
 dsimp only at q1 q2 q3 q4 q5 q6 q7 q8 q9
 obtain⟨k,rfl⟩:∃j,k=j+1:=⟨k - 1,by omega⟩
 rw [PS.partL] at q7
 have d1:=rComes_ok τ 1 (by decide) PS.kVar
 have d2:=rComes_ok τ.settle 1 (by decide) PS.kProb
 rw [isB_settle,settle_settle] at d2
 unfold stFi
 dsimp only
 cases hA:τ.isB 1 PS.kVar with
 |true=>
  obtain⟨t,ht,hk,-⟩:=PS.isB_tok hA
  have hlt:=(PS.tok_at ht).2.2
  have hav:=PS.adv_at ht (by rw [hk];decide)
  have haf:=PS.adv_fol1 hA (by decide)
  rw [hA,if_pos rfl] at q7
  rw [hA,PS.settle_some ht,rdO_some ht] at d1
  rw [isB_other hA (by decide),PS.settle_some ht,rdO_some ht] at d2
  have d3:=rVar_ok τ.adv hF
  have l3:=PS.varD_fol natP τ.adv
  have l4:=l3.hi (haf.hi q2)
  have l5:=l3.le
  rw [rdO_adv ht (by rw [hk];decide)] at d3
  unfold rdO at d3
  rw [(PS.tok_at ht).1]
  generalize PS.varD natP τ.adv=r9 at *
  repeat'(first|(refine And.intro (by128 (Nat.le_of_ble_eq_true rfl) (by first|omega|(simp only [ln];omega))) ?_)|(with_reducible first|(refine zz ?_;try intro K hK)|refine zI ?_|refine zt ?_|refine zf ?_)|((first|refine hK _ ?_|refine hK _ _ rfl ?_);clear hK K)|(guard_hyp hK;first|(refine zY ?zz ?_;case zz=>first|exact rfl|exact gJ)|refine fresh_n ?_|refine freshO_n ?_|refine zW ?_|refine zg ([(0,2,0)]) (d1) (rd2 W τ.at_ none τ.opn) ([]) (rd2 W τ.at_ none τ.opn) (.con (.bool true)) ?_|refine zg ([(0,2,0)]) (d2) (rd2 W τ.at_ none τ.opn) ([]) (rd2 W τ.at_ none τ.opn) (.con (.bool false)) ?_|refine zg ([(0,2,0)]) (d3) (rd2 W (τ.at_+1) none τ.opn) ([]) (rd2 W r9.2.at_ r9.2.bad r9.2.opn) (vVar r9.1) ?_|intro b0 hb)|((first|with_reducible refine zm ?_|guard_hyp hK);refine zY ?_ ?_;all_goals(intro hb;(try simp only [sn,sb] at hb);try exact ex0)))
  exact⟨(r9.2,vs ++ [r9.1],ps,(vv+1,nv+1),(vp,np),k),⟨l3.opn.trans (hav.2.2.trans q1),l4,by dsimp only;rw [List.length_append,List.length_singleton];omega,q4,by dsimp only;omega,by dsimp only;rw [List.length_append,List.length_singleton];omega,q7,by dsimp only;omega,by dsimp only;omega⟩,Nat.lt_succ_self _,lf_of0 ⟨Lc.same _ rfl,Lc.same _ rfl,Lc.same _ rfl,Lc.same _ rfl,trivial⟩ ⟨lfOb_one rfl (lv_agg ⟨Lc.same _ trivial,Lc.same _ trivial,Lc.same _ trivial,Lc.same _ trivial,trivial⟩),lfOb_one rfl (lv_agg ⟨Lc.same _ trivial,Lc.same _ trivial,Lc.same _ trivial,Lc.same _ trivial,trivial⟩),lfOb_same rfl (one_flat (rdV_flat _ _ _)),lfOb_one rfl (lv_agg ⟨Lc.same _ trivial,lc_ro,Lc.same _ rfl,Lc.same _ rfl,trivial⟩),lfOb_app (F:=vVar) (l:=vs) (a:=r9.1) rfl q3 rfl (fun x _=>vVar_flat x) (vVar_flat _).lv,lfOb_same rfl (vPs_flat _),trivial⟩⟩
 |false=>
  rw [hA,if_neg Bool.false_ne_true] at q7
  rw [hA] at d1
  cases hB:τ.isB 1 PS.kProb with
  |true=>
   obtain⟨t,ht,hk,-⟩:=PS.isB_tok hB
   have hlt:=(PS.tok_at ht).2.2
   have hav:=PS.adv_at ht (by rw [hk];decide)
   have haf:=PS.adv_fol1 hB (by decide)
   rw [hB,if_pos rfl] at q7
   rw [PS.settle_some ht,rdO_some ht] at d1
   rw [hB,PS.settle_some ht,rdO_some ht] at d2
   have d3:=rPrb_ok hF hdec τ.adv (hav.2.2.trans q1) (haf.hi q2)
   have l3:=PS.prbD_fol dec τ.adv
   have l4:=l3.hi (haf.hi q2)
   have l5:=l3.le
   rw [rdO_adv ht (by rw [hk];decide)] at d3
   unfold rdO at d3
   rw [(PS.tok_at ht).1]
   generalize PS.prbD dec τ.adv=r9 at *
   repeat'(first|(refine And.intro (by128 (Nat.le_of_ble_eq_true rfl) (by first|omega|(simp only [ln];omega))) ?_)|(with_reducible first|(refine zz ?_;try intro K hK)|refine zI ?_|refine zt ?_|refine zf ?_)|((first|refine hK _ ?_|refine hK _ _ rfl ?_);clear hK K)|(guard_hyp hK;first|(refine zY ?zz ?_;case zz=>first|exact rfl|exact gJ)|refine fresh_n ?_|refine freshO_n ?_|refine zW ?_|refine zg ([(0,2,0)]) (d1) (rd2 W τ.at_ none τ.opn) ([]) (rd2 W τ.at_ none τ.opn) (.con (.bool false)) ?_|refine zg ([(0,2,0)]) (d2) (rd2 W τ.at_ none τ.opn) ([]) (rd2 W τ.at_ none τ.opn) (.con (.bool true)) ?_|refine zg ([(0,2,0)]) (d3) (rd2 W (τ.at_+1) none τ.opn) ([]) (rd2 W r9.2.at_ r9.2.bad r9.2.opn) (vPrb r9.1) ?_|intro b0 hb)|((first|with_reducible refine zm ?_|guard_hyp hK);refine zY ?_ ?_;all_goals(intro hb;(try simp only [sn,sb] at hb);try exact ex0)))
   exact⟨(r9.2,vs,ps ++ [r9.1],(vv,nv),(vp+1,np+1),k),⟨l3.opn.trans (hav.2.2.trans q1),l4,q3,by dsimp only;rw [List.length_append,List.length_singleton];omega,by dsimp only;rw [List.length_append,List.length_singleton];omega,by dsimp only;omega,q7,by dsimp only;omega,by dsimp only;omega⟩,Nat.lt_succ_self _,lf_of0 ⟨Lc.same _ rfl,Lc.same _ rfl,Lc.same _ rfl,Lc.same _ rfl,trivial⟩ ⟨lfOb_one rfl (lv_agg ⟨Lc.same _ trivial,Lc.same _ trivial,Lc.same _ trivial,Lc.same _ trivial,trivial⟩),lfOb_one rfl (lv_agg ⟨Lc.same _ trivial,Lc.same _ trivial,Lc.same _ trivial,Lc.same _ trivial,trivial⟩),lfOb_same rfl (one_flat (rdV_flat _ _ _)),lfOb_one rfl (lv_agg ⟨Lc.same _ trivial,lc_ro,Lc.same _ rfl,Lc.same _ rfl,trivial⟩),lfOb_same rfl (vVs_flat _),lfOb_app (F:=vPrb) (l:=ps) (a:=r9.1) rfl q4 rfl (fun x _=>vPrb_flat x) (vPrb_flat _).lv,trivial⟩⟩
  |false=>
   rw [hB,if_neg Bool.false_ne_true] at q7
   rw [hB] at d2
   rw [← q7]
   dsimp only
   have d3:=rEnd_ok τ.settle
   unfold rdO at d1 d2 d3
   generalize PS.fin τ.settle=s9 at *
   cases hb9:s9.bad with
   |some f=>
    have hcf:¬foC (some f)=0:=s9.cod f hb9
    rw [hb9] at d3
    repeat'(first|(with_reducible first|(refine zz ?_;try intro K hK)|refine zI ?_|refine zt ?_|refine zf ?_)|((first|refine hK _ ?_|refine hK _ _ rfl ?_);clear hK K)|(guard_hyp hK;first|(refine zY ?zz ?_;case zz=>first|exact rfl|exact gJ)|refine fresh_n ?_|refine freshO_n ?_|refine zW ?_|refine zg ([(0,2,0)]) (d1) (rd2 W τ.at_ τ.bad τ.opn) ([]) (rd2 W τ.settle.at_ τ.settle.bad τ.settle.opn) (.con (.bool false)) ?_|refine zg ([(0,2,0)]) (d2) (rd2 W τ.settle.at_ τ.settle.bad τ.settle.opn) ([]) (rd2 W τ.settle.at_ τ.settle.bad τ.settle.opn) (.con (.bool false)) ?_|refine zg ([(0,2,0)]) (d3) (rd2 W τ.settle.at_ τ.settle.bad τ.settle.opn) ([]) (rd2 W s9.at_ (some f) s9.opn) (.tup []) ?_|intro b0 hb)|((first|with_reducible refine zm ?_|guard_hyp hK);refine zY ?_ ?_;all_goals(intro hb;(try simp only [sn,sb] at hb);try exact ex0)))
    exact ret_cc (l2:=[.con (.string .empty),.emp,.emp,.emp]) (ts:=[.con (.string eS),tSs [],.sl ([].map tVar),.sl ([].map tPrb)]) (l3:=[.int .i64 f.code,.int .i64 f.line,.int .i64 f.col,.string f.word]) rfl tk50 rfl (Nat.zero_lt_succ _) rfl rfl (fz_agg4 (.con _) .emp .emp .emp) tk25 rfl (Nat.zero_lt_succ _) rfl rfl
   |none=>
    have hz:foC none=0:=rfl
    rw [hb9] at d3
    repeat'(first|(with_reducible first|(refine zz ?_;try intro K hK)|refine zI ?_|refine zt ?_|refine zf ?_)|((first|refine hK _ ?_|refine hK _ _ rfl ?_);clear hK K)|(guard_hyp hK;first|(refine zY ?zz ?_;case zz=>first|exact rfl|exact gJ)|refine fresh_n ?_|refine freshO_n ?_|refine zW ?_|refine zg ([(0,2,0)]) (d1) (rd2 W τ.at_ τ.bad τ.opn) ([]) (rd2 W τ.settle.at_ τ.settle.bad τ.settle.opn) (.con (.bool false)) ?_|refine zg ([(0,2,0)]) (d2) (rd2 W τ.settle.at_ τ.settle.bad τ.settle.opn) ([]) (rd2 W τ.settle.at_ τ.settle.bad τ.settle.opn) (.con (.bool false)) ?_|refine zg ([(0,2,0)]) (d3) (rd2 W τ.settle.at_ τ.settle.bad τ.settle.opn) ([]) (rd2 W s9.at_ none s9.opn) (.tup []) ?_|intro b0 hb)|((first|with_reducible refine zm ?_|guard_hyp hK);refine zY ?_ ?_;all_goals(intro hb;(try simp only [sn,sb] at hb);try exact ex0)))
    exact ret_cc (l2:=[.con (.string r2.1),.ro false (tSs r4.1),.own 4 vv 0 nv,.own 5 vp 0 np]) (ts:=[.con (.string r2.1),tSs r4.1,.sl (vs.map tVar),.sl (ps.map tPrb)]) (l3:=[.int .i64 0,.int .i64 0,.int .i64 0,.string eS]) rfl tk50 rfl (Nat.zero_lt_succ _) rfl rfl (fz_agg4 (.con _) (.ro _ _ fun h=>Bool.noConfusion h) (fz_list rfl q3.symm fze_Var) (fz_list rfl q4.symm fze_Prb)) tk25 rfl (Nat.zero_lt_succ _) rfl rfl
end Go.Ev
