import Derived.Test.YtppbdmkbhalmpaaGreatDoorLaz
import Derived.Test.YtppbdmkbhalmpaaGreatDoorRdf
set_option linter.all false
set_option maxHeartbeats 4000000
set_option maxRecDepth 10000
namespace Go.Ev
open Go.Proofs
theorem start_1 (s:ByteArray){Q:X→St→Prop}(h:∀st:St,Lf ⟨Tryz.f12.ntmps,[(0,.con (.string s)),(2,.ref 0 0 0 0),(3,.ref 2 0 0 0)],[(0,cel np),(1,p0 0 0 np),(2,cel (.ref 1 0 0 0)),(5,⟨4,[],0,true⟩)]⟩ st→Q .normal st) :
  evC Tryz.prog (OkR Tryz.prog) (seqs (spl 2 (Option.getD Tryz.f12.body .skip)).1 .skip) ⟨Tryz.f12.ntmps,argEnv 0 [tS9 s],[]⟩ Q:=by
 dsimp only [seqs,spl,Option.getD,Tryz.f12]
 repeat'(first|(with_reducible first|(refine zz ?_;try intro K hK)|refine zI ?_|refine zt ?_|refine zf ?_)|((first|refine hK _ ?_|refine hK _ _ rfl ?_);clear hK K)|(guard_hyp hK;first|(refine zY ?zz ?_;case zz=>first|exact rfl|exact gJ)|refine fresh_n ?_|refine freshO_n ?_|refine zW ?_|intro b0 hb)|((first|with_reducible refine zm ?_|guard_hyp hK);refine zY ?_ ?_;all_goals(intro hb;(try simp only [sn,sb] at hb);try exact ex0)))
 refine h _ (lf_of0 ⟨Lc.same _ trivial,Lc.same _ rfl,Lc.same _ rfl,trivial⟩ ⟨lfOb_same rfl (one_flat trivial),lfOb_one rfl (lv_agg ⟨Lc.adopt 5 _ rfl rfl,Lc.same _ trivial,Lc.same _ trivial,Lc.same _ trivial,Lc.same _ trivial,trivial⟩),lfOb_one rfl ?_,lfOb_new rfl,trivial⟩)
 exact Lc.same _ rfl
theorem respc {P:Program}{s:St}{a t id ver sz:Nat}{v:V}{K:V→Prop}(ht:tk P t=.ptr)(ha:eget s.env a=.ref id ver 0 0)(ho:oget s.oh id=some ⟨sz,[v],ver,true⟩)(hv:v.cells=[v])(hk:K v):resV P s (.cell a t) K:=by
 show sload (tk P t) s.oh (eget s.env a) _
 rw [ha,ht]
 show use s.oh id ver _
 unfold use
 rw [ho]
 refine⟨rfl,rfl,v,rfl,by decide,by rw [hv];exact Nat.le_refl _,?_⟩
 rw [hv]
 exact hk
theorem fd_toks {oh oh1:OH}{f:Bool}{id ver len:Nat}{l:List Tok}(ho:oget oh id=some ⟨4,l.map vTok,ver,true⟩)(hd:oget oh1 id=none)(hn:l.length=len):Fd1 oh oh1 f (.own id ver 0 len) (tToks l):=by
 have key:∀(i:Nat) (e:V) (t:T),(l.map vTok)[0+i]?=some e→(l.map tTok)[i]?=some t→∃a,e=vTok a∧t=tTok a:=by
  intro i e t h1 h2
  rw [Nat.zero_add,List.getElem?_map] at h1
  rw [List.getElem?_map] at h2
  cases h9:l[i]? with
  |none=>rw [h9] at h1;cases h1
  |some a=>rw [h9] at h1 h2;cases h1;cases h2;exact⟨a,rfl,rfl⟩
 refine .own id ver 0 len _ _ ho hd rfl rfl (by rw [List.length_map];exact hn) (fun i e t _ he ht=>?_) (fun i e t j v u _ he ht e1 e2=>?_)
 ·obtain⟨a,rfl,rfl⟩:=key i e t he ht
  rfl
 ·obtain⟨a,rfl,rfl⟩:=key i e t he ht
  match j with
  |0=>simp [vTok,V.cells] at e1;simp [tTok,tTk,T.cells] at e2;subst e1;subst e2;exact Fd1.con _
  |1=>simp [vTok,V.cells] at e1;simp [tTok,tTk,T.cells] at e2;subst e1;subst e2;exact Fd1.con _
  |2=>simp [vTok,V.cells] at e1;simp [tTok,tTk,T.cells] at e2;subst e1;subst e2;exact Fd1.con _
  |3=>simp [vTok,V.cells] at e1;simp [tTok,tTk,T.cells] at e2;subst e1;subst e2;exact Fd1.con _
  |j+4=>simp [vTok,V.cells] at e1
theorem start_ret {fn:Func}(s:ByteArray)(v:Nat){st:St}(hr:fn.results.toList=[.cell 2 57])(h2:eget st.env 2=.ref 0 0 0 0)(h0:oget st.oh 0=some ⟨1,[.ref 1 0 0 0],0,true⟩)
  (h1:oget st.oh 1=some (p0 v (txt s).L.length (vFp (txt s).late))) (h5:oget st.oh 5=some ⟨4,(txt s).L.map vTok,v,true⟩):RetO Tryz.prog fn (pO (PS.begin s)) (.ref 0 0 0 0) .ret st:=by
 refine⟨trivial,true,⟨st.n,[(2,.ref 0 0 0 0)],[(0,⟨1,[.ref 1 0 0 0],0,true⟩),(1,prO (txt s) 0 none 0)]⟩,fun _=>1,?_,ren_of inj1 ⟨⟨_,rfl,rfl,rfl,rfl,rfl,rfl,renE_one (show RenA _ _ _ (prV (txt s) 0 none 0) (prV (txt s) 0 none 0) from renA_flat (prV_flat _ _ _))⟩,trivial⟩,?_⟩
 ·show Lf _ ⟨st.n,st.env,st.oh⟩
  refine lf_of0 ⟨?_,trivial⟩ ⟨?_,?_,trivial⟩
  ·rw [h2];exact Lc.same _ rfl
  ·exact lfOb_one h0 (Lc.same _ rfl)
  ·refine lfOb_one h1 (lv_agg ⟨?_,?_,Lc.same _ trivial,Lc.same _ trivial,Lc.same _ trivial,trivial⟩)
   ·exact Lc.frz true _ (tToks (txt s).L) (fd_toks h5 rfl rfl)
   ·exact Lc.same _ ((vFp_dat _).fl.cl1 _)
 ·rw [hr]
  refine respc (v:=.ref 1 0 0 0) tk57 rfl rfl rfl ?_
  exact renA_ref rfl rfl rfl rfl
theorem hS0 {s:ByteArray}{L:List Tok}{v:Nat}{lt r0:V}{x:OH}(f:Nat):leEnv (ohS s L v lt r0 x) (evS f) (evS f):=⟨rfl,rfl,rfl,rfl,rfl,rfl,trivial⟩
theorem hY0 {s:ByteArray}{L:List Tok}{v a l:Nat}{lt r0:V}{x:OH}{t:Tok}{E:V}(hE:∀oh,E.cl oh):leEnv (ohS s L v lt r0 (ohX s a t x)) (evY l t E) (evY l t E):=⟨rfl,trivial,rfl,tk_cl t _,rfl,hE _,rfl,trivial,rfl,rfl,rfl,rfl,rfl,hE _,trivial⟩
theorem rs1 {α:Type}{p:α→Prop}{x:α}(h:p x):∀y ∈ [x],p y:=fun y hy=>by rw [List.mem_singleton.1 hy];exact h
theorem rs2 {α:Type}{p:α→Prop}{x z:α}(h:p x)(k:p z):∀y ∈ [x,z],p y:=fun y hy=>by
 rcases List.mem_cons.1 hy with rfl|hy
 ·exact h
 ·rw [List.mem_singleton.1 hy];exact k
def rstS (f n:Nat)(tm:Array Value):Rst:=⟨⟨fun _=>none,[]⟩,n,evS f,⟨tm,[]⟩⟩
def recS (fn:FuncId)(tm:Array Value)(c b:Code)(D:Nat):Go.Loop:={ state:=.ready,pending:=none,fn:=fn,tmps:=tm,params:=#[11,12],assign:=c,body:=b,defers:=D }
theorem round_ok (s:ByteArray)(L:List Tok)(v a l D:Nat)(t:Tok)(hL:L.length≤1073741824){fn:FuncId}{tm:Array Value}{g0 g:Gh}{w0 w:World}{ai:Act}
  (hr:Rel ⟨fun _=>none,[]⟩ g ⟨Tryz.f39.ntmps,evY l t (.con .nilIface),ohS s L v np np (ohX s a t [])⟩ ai w)
  (hp:Pk [rstS 39 Tryz.f12.ntmps tm] l D (recS fn tm (subC [true,true,false,true,false,false] (Option.getD Tryz.f12.body .skip)) (subC [true,true,false,true,false,true] (Option.getD Tryz.f12.body .skip)) D) g0 w0 g (ohS s L v np np (ohX s a t [])) w) {R:Ending→World→Prop}
  (hk:∀g w,Rel ⟨fun _=>none,[]⟩ g ⟨Tryz.f39.ntmps,evY l t (.con .nilIface),ohS s (L ++ [t]) (v+1) np np (ohX s a t [])⟩ ai w→
   Pk [rstS 39 Tryz.f12.ntmps tm] l D (recS fn tm (subC [true,true,false,true,false,false] (Option.getD Tryz.f12.body .skip)) (subC [true,true,false,true,false,true] (Option.getD Tryz.f12.body .skip)) D) g0 w0 g (ohS s (L ++ [t]) (v+1) np np (ohX s a t [])) w→R (.returned (.bool true)) w) :
  RoundIn (FR none) 0 Tryz.prog l fn ((tm.setIfInBounds 11 (ai.eval (.tmp 13))).setIfInBounds 12 (ai.eval (.tmp 14))) (subC [true,true,false,true,false,false] (Option.getD Tryz.f12.body .skip)) (subC [true,true,false,true,false,true] (Option.getD Tryz.f12.body .skip)) w R:=by
 have hrS:Rel ⟨fun _=>none,[]⟩ g ⟨Tryz.f12.ntmps,evS 39,ohS s L v np np (ohX s a t [])⟩ ⟨tm,[]⟩ w:=hp.rel _ (List.mem_singleton.2 rfl)
 have hra:Rel ⟨fun _=>none,[]⟩ g ⟨Tryz.f12.ntmps,(12,.con .nilIface) :: (11,vTok t) :: evS 39,ohS s L v np np (ohX s a t [])⟩ ⟨(tm.setIfInBounds 11 (ai.eval (.tmp 13))).setIfInBounds 12 (ai.eval (.tmp 14)),[]⟩ w:=(hrS.put1 (d:=11) (Nat.le_of_ble_eq_true rfl) (hr.env 13)).put1 (d:=12) (Nat.le_of_ble_eq_true rfl) (hr.env 14)
 have hE:∀oh,(V.con .nilIface).cl oh:=fun _=>trivial
 have hP2:Pk [⟨⟨fun _=>none,[]⟩,Tryz.f39.ntmps,evY l t (.con .nilIface),ai⟩,rstS 39 Tryz.f12.ntmps tm] l D _ g0 w0 g (ohS s L v np np (ohX s a t [])) w:=⟨rs2 hr hrS,hp.hl,hp.hd,hp.fr,hp.h0⟩
 refine roundIn_of_wpIn (F:=FR none) trivial ?_
 show(Code.seq (subC [true,true,false,true,false,false,false] (Option.getD Tryz.f12.body .skip)) (subC [true,true,false,true,false,false,true] (Option.getD Tryz.f12.body .skip))).wpIn (FR (some l)) 0 Tryz.prog _ _ w
 refine wpIn_seq (reg_pk (fun _ _ _ h=>h) mix (by kernel_rfl) (fun Q hQ=>so3 s L v a t _ hE hQ) (cl_S trivial trivial (cl_X ⟨one_vs (tk_cl t _),trivial⟩)) (rs2 (hY0 hE) (hS0 _)) hra hP2 fun g1 a1 w1 hr1 hp1=>?_)
 show(subC [true,true,false,true,false,false,true] (Option.getD Tryz.f12.body .skip)).wpIn (FR (some l)) 0 Tryz.prog _ a1 w1
 refine reg_pk (fun _ _ _ h=>h) mix (by kernel_rfl) (fun Q hQ=>so4 s L v a t _ (.inl rfl) hQ) (cl_S trivial trivial (cl_X ⟨one_vs (tk_cl t _),trivial⟩)) (rs2 (hY0 hE) (hS0 _)) hr1 hp1 fun g2 a2 w2 hr2 hp2=>?_
 refine⟨_,run_beginRound hp2.hl rfl,?_⟩
 have hr3:=hr2.putL hp2.hl (x:=.loop { recS fn tm (subC [true,true,false,true,false,false] (Option.getD Tryz.f12.body .skip)) (subC [true,true,false,true,false,true] (Option.getD Tryz.f12.body .skip)) D with state:=.busy })
 have hp3:=hp2.put (r':={ recS fn tm (subC [true,true,false,true,false,false] (Option.getD Tryz.f12.body .skip)) (subC [true,true,false,true,false,true] (Option.getD Tryz.f12.body .skip)) D with state:=.busy })
 show(Code.block 1 (.seq (.seq (subC [true,true,false,true,false,true,false,false,false] (Option.getD Tryz.f12.body .skip)) (.cond (.tmp 14) (subC [true,true,false,true,false,true,false,false,true,false] (Option.getD Tryz.f12.body .skip)) .skip)) (subC [true,true,false,true,false,true,false,true] (Option.getD Tryz.f12.body .skip)))).wpIn (FR (some l)) 0 Tryz.prog _ a2 _
 refine wpIn_block (wpIn_seq (wpIn_seq (reg_pk (fun _ _ _ h=>h) mix (by kernel_rfl) (fun Q hQ=>so5 s L v a t hQ) (cl_S trivial trivial (cl_X ⟨one_vs (tk_cl t _),trivial⟩)) (rs2 (hY0 hE) (hS0 _)) hr3 hp3 fun g4 a4 w4 hr4 hp4=>?_)))
 have hv:=opd_rd hr4 (.tmp 14)
 show(Code.cond (.tmp 14) _ .skip).wpIn (FR (some l)) 0 Tryz.prog _ a4 w4
 refine wpIn_cond_split hv.1 (fun h=>by cases h) (fun _=>wpIn_skip ?_)
 show(subC [true,true,false,true,false,true,false,true] (Option.getD Tryz.f12.body .skip)).wpIn (FR (some l)) 0 Tryz.prog _ a4 w4
 refine reg_pk (e':=[]) (fun _ _ _ h=>h) mix (by kernel_rfl) (fun Q hQ=>so10 s L v a t hL (fun st h1=>hQ st h1 trivial)) (cl_S trivial trivial (cl_X trivial)) (rs2 (hY0 hE) (hS0 _)) hr4 hp4 fun g5 a5 w5 hr5 hp5=>?_
 have hp6:=hp5.put (r':=recS fn tm (subC [true,true,false,true,false,false] (Option.getD Tryz.f12.body .skip)) (subC [true,true,false,true,false,true] (Option.getD Tryz.f12.body .skip)) D)
 exact⟨_,_,run_endRound none hp5.hl,hk _ _ (hp6.rel _ (List.mem_cons_self ..)) ⟨rs1 (hp6.rel _ (List.mem_cons_of_mem _ (List.mem_singleton.2 rfl))),hp6.hl,hp6.hd,hp6.fr,hp6.h0⟩⟩
theorem round_bad (s:ByteArray)(L:List Tok)(v a l D:Nat)(t:Tok)(f:Flt){fn:FuncId}{tm:Array Value}{g0 g:Gh}{w0 w:World}{ai:Act}
  (hr:Rel ⟨fun _=>none,[]⟩ g ⟨Tryz.f39.ntmps,evY l t (feV f),ohS s L v np np (ohX s a t [])⟩ ai w)
  (hp:Pk [rstS 39 Tryz.f12.ntmps tm] l D (recS fn tm (subC [true,true,false,true,false,false] (Option.getD Tryz.f12.body .skip)) (subC [true,true,false,true,false,true] (Option.getD Tryz.f12.body .skip)) D) g0 w0 g (ohS s L v np np (ohX s a t [])) w) {R:Ending→World→Prop}
  (hk:∀g w,Rel ⟨fun _=>none,[]⟩ g ⟨Tryz.f39.ntmps,evY l t (feV f),ohS s L v (vFp (some f)) (.ref 1 0 0 0) (ohX s a t [])⟩ ai w→
   Pk [rstS 39 Tryz.f12.ntmps tm] l D { recS fn tm (subC [true,true,false,true,false,false] (Option.getD Tryz.f12.body .skip)) (subC [true,true,false,true,false,true] (Option.getD Tryz.f12.body .skip)) D with state:=.done,pending:=some .ret } g0 w0 g (ohS s L v (vFp (some f)) (.ref 1 0 0 0) (ohX s a t [])) w→R (.returned (.bool false)) w) :
  RoundIn (FR none) 0 Tryz.prog l fn ((tm.setIfInBounds 11 (ai.eval (.tmp 13))).setIfInBounds 12 (ai.eval (.tmp 14))) (subC [true,true,false,true,false,false] (Option.getD Tryz.f12.body .skip)) (subC [true,true,false,true,false,true] (Option.getD Tryz.f12.body .skip)) w R:=by
 have hrS:Rel ⟨fun _=>none,[]⟩ g ⟨Tryz.f12.ntmps,evS 39,ohS s L v np np (ohX s a t [])⟩ ⟨tm,[]⟩ w:=hp.rel _ (List.mem_singleton.2 rfl)
 have hra:Rel ⟨fun _=>none,[]⟩ g ⟨Tryz.f12.ntmps,(12,feV f) :: (11,vTok t) :: evS 39,ohS s L v np np (ohX s a t [])⟩ ⟨(tm.setIfInBounds 11 (ai.eval (.tmp 13))).setIfInBounds 12 (ai.eval (.tmp 14)),[]⟩ w:=(hrS.put1 (d:=11) (Nat.le_of_ble_eq_true rfl) (hr.env 13)).put1 (d:=12) (Nat.le_of_ble_eq_true rfl) (hr.env 14)
 have hE:∀oh,(feV f).cl oh:=fun _=>trivial
 have hP2:Pk [⟨⟨fun _=>none,[]⟩,Tryz.f39.ntmps,evY l t (feV f),ai⟩,rstS 39 Tryz.f12.ntmps tm] l D _ g0 w0 g (ohS s L v np np (ohX s a t [])) w:=⟨rs2 hr hrS,hp.hl,hp.hd,hp.fr,hp.h0⟩
 refine roundIn_of_wpIn (F:=FR none) trivial ?_
 show(Code.seq (subC [true,true,false,true,false,false,false] (Option.getD Tryz.f12.body .skip)) (subC [true,true,false,true,false,false,true] (Option.getD Tryz.f12.body .skip))).wpIn (FR (some l)) 0 Tryz.prog _ _ w
 refine wpIn_seq (reg_pk (fun _ _ _ h=>h) mix (by kernel_rfl) (fun Q hQ=>so3 s L v a t _ hE hQ) (cl_S trivial trivial (cl_X ⟨one_vs (tk_cl t _),trivial⟩)) (rs2 (hY0 hE) (hS0 _)) hra hP2 fun g1 a1 w1 hr1 hp1=>?_)
 show(subC [true,true,false,true,false,false,true] (Option.getD Tryz.f12.body .skip)).wpIn (FR (some l)) 0 Tryz.prog _ a1 w1
 refine reg_pk (fun _ _ _ h=>h) mix (by kernel_rfl) (fun Q hQ=>so4 s L v a t _ (.inr ⟨f,rfl⟩) hQ) (cl_S trivial trivial (cl_X ⟨one_vs (tk_cl t _),trivial⟩)) (rs2 (hY0 hE) (hS0 _)) hr1 hp1 fun g2 a2 w2 hr2 hp2=>?_
 refine⟨_,run_beginRound hp2.hl rfl,?_⟩
 have hr3:=hr2.putL hp2.hl (x:=.loop { recS fn tm (subC [true,true,false,true,false,false] (Option.getD Tryz.f12.body .skip)) (subC [true,true,false,true,false,true] (Option.getD Tryz.f12.body .skip)) D with state:=.busy })
 have hp3:=hp2.put (r':={ recS fn tm (subC [true,true,false,true,false,false] (Option.getD Tryz.f12.body .skip)) (subC [true,true,false,true,false,true] (Option.getD Tryz.f12.body .skip)) D with state:=.busy })
 show(Code.block 1 (.seq (.seq (subC [true,true,false,true,false,true,false,false,false] (Option.getD Tryz.f12.body .skip)) (.cond (.tmp 14) (subC [true,true,false,true,false,true,false,false,true,false] (Option.getD Tryz.f12.body .skip)) .skip)) (subC [true,true,false,true,false,true,false,true] (Option.getD Tryz.f12.body .skip)))).wpIn (FR (some l)) 0 Tryz.prog _ a2 _
 refine wpIn_block (wpIn_seq (wpIn_seq (reg_pk (fun _ _ _ h=>h) mix (by kernel_rfl) (fun Q hQ=>so5b s L v a t f hQ) (cl_S trivial trivial (cl_X ⟨one_vs (tk_cl t _),trivial⟩)) (rs2 (hY0 hE) (hS0 _)) hr3 hp3 fun g4 a4 w4 hr4 hp4=>?_)))
 have hv:=opd_rd hr4 (.tmp 14)
 show(Code.cond (.tmp 14) _ .skip).wpIn (FR (some l)) 0 Tryz.prog _ a4 w4
 refine wpIn_cond_split hv.1 (fun _=>?_) (fun h=>by cases h)
 show(Code.seq (subC [true,true,false,true,false,true,false,false,true,false,false] (Option.getD Tryz.f12.body .skip)) (.seq (.seq (subC [true,true,false,true,false,true,false,false,true,false,true,false,false] (Option.getD Tryz.f12.body .skip)) (.cond (.tmp 17) (subC [true,true,false,true,false,true,false,false,true,false,true,false,true,false] (Option.getD Tryz.f12.body .skip)) .skip)) (.seq (subC [true,true,false,true,false,true,false,false,true,false,true,true,false] (Option.getD Tryz.f12.body .skip)) .ret))).wpIn (FR (some l)) 0 Tryz.prog _ a4 w4
 refine wpIn_seq (reg_pk (fun _ _ _ h=>h) mix (by kernel_rfl) (fun Q hQ=>so6 s L v a t f hQ) (cl_S trivial trivial (cl_X ⟨one_vs (tk_cl t _),one_vs trivial,trivial⟩)) (rs2 (hY0 hE) (hS0 _)) hr4 hp4 fun g5 a5 w5 hr5 hp5=>?_)
 refine wpIn_seq (wpIn_seq (reg_pk (fun _ _ _ h=>h) mix (by kernel_rfl) (fun Q hQ=>so7 s L v a t f hQ) (cl_S trivial trivial (cl_X ⟨one_vs (tk_cl t _),one_vs trivial,trivial⟩)) (rs2 (hY0 hE) (hS0 _)) hr5 hp5 fun g6 a6 w6 hr6 hp6=>?_))
 have hv6:=opd_rd hr6 (.tmp 17)
 show(Code.cond (.tmp 17) (subC [true,true,false,true,false,true,false,false,true,false,true,false,true,false] (Option.getD Tryz.f12.body .skip)) .skip).wpIn (FR (some l)) 0 Tryz.prog _ a6 w6
 refine wpIn_cond_split hv6.1 (fun _=>?_) (fun h=>by cases h)
 refine reg_pk (fun _ _ _ h=>h) mix (by kernel_rfl) (fun Q hQ=>so8 s L v a t f hQ) (cl_S trivial trivial (cl_X trivial)) (rs2 (hY0 hE) (hS0 _)) hr6 hp6 fun g7 a7 w7 hr7 hp7=>?_
 show(Code.seq (subC [true,true,false,true,false,true,false,false,true,false,true,true,false] (Option.getD Tryz.f12.body .skip)) .ret).wpIn (FR (some l)) 0 Tryz.prog _ a7 w7
 refine wpIn_seq (reg_pk (fun _ _ _ h=>h) mix (by kernel_rfl) (fun Q hQ=>so9 s L v a t f hQ) (cl_S trivial rfl (cl_X trivial)) (rs2 (hY0 hE) (hS0 _)) hr7 hp7 fun g8 a8 w8 hr8 hp8=>?_)
 have hp9:=hp8.put (r':={ recS fn tm (subC [true,true,false,true,false,false] (Option.getD Tryz.f12.body .skip)) (subC [true,true,false,true,false,true] (Option.getD Tryz.f12.body .skip)) D with state:=.done,pending:=some .ret })
 exact wpIn_ret ⟨_,_,run_endRound (some .ret) hp8.hl,hk _ _ (hp9.rel _ (List.mem_cons_self ..)) ⟨rs1 (hp9.rel _ (List.mem_cons_of_mem _ (List.mem_singleton.2 rfl))),hp9.hl,hp9.hd,hp9.fr,hp9.h0⟩⟩
theorem Pk.less {E:List Rst}{l D:Nat}{r:Go.Loop}{g0 g:Gh}{w0 w:World}{oh T:OH}(h:Pk E l D r g0 w0 g oh w){γ:Gm}{n:Nat}{e:Env}{a:Act}(hr:Rel γ g ⟨n,e,oh⟩ a w)(h1:leOH oh T)(hT:clObjs T T)(hE:∀p ∈ E,leEnv T p.e p.e):Pk E l D r g0 w0 g T w:=by
 have hf:=(hr.less (s1:=⟨n,[],T⟩) (s:=⟨n,e,oh⟩) ⟨rfl,trivial,h1,hT⟩).2
 exact⟨fun p hp=>((h.rel p hp).less (s1:=⟨p.n,p.e,T⟩) (s:=⟨p.n,p.e,oh⟩) ⟨rfl,hE p hp,h1,hT⟩).1,h.hl,h.hd,h.fr.trans hf,h.h0⟩
theorem res_none {P:Program}{fn:Func}{w:World}(h:fn.results=#[])(tm:Array Value):∃v,(results fn tm).run P w=.ok v w:=by
 rw [results_eq,h]
 exact⟨.tuple #[],by simp⟩
theorem words_ok (s:ByteArray)(hs:s.size≤1073741824)(l D:Nat){fn:FuncId}{tm:Array Value}{g0 g:Gh}{w0 w:World}{ai:Act}
  (hr:Rel ⟨fun _=>none,[]⟩ g ⟨Tryz.f39.ntmps,argEnvV 0 [yl l,.ref 6 0 0 0],ohS s [] 0 np np []⟩ ai w)
  (hp:Pk [rstS 39 Tryz.f12.ntmps tm] l D (recS fn tm (subC [true,true,false,true,false,false] (Option.getD Tryz.f12.body .skip)) (subC [true,true,false,true,false,true] (Option.getD Tryz.f12.body .skip)) D) g0 w0 g (ohS s [] 0 np np []) w) {R:Ending→World→Prop}
  (hk:∀g w v r' lt r0 u,Pk [rstS 39 Tryz.f12.ntmps tm] l D r' g0 w0 g (ohS s (txt s).L v lt r0 []) w→lt=vFp (txt s).late→r'.state≠.busy→(r'.pending=none∧lt=np∧r0=np∨r'.pending=some .ret∧r0=.ref 1 0 0 0)→R (.returned u) w) :
  (Option.getD Tryz.f39.body .skip).wpIn (FR none) 0 Tryz.prog (bodyPost Tryz.prog Tryz.f39 R) ai w:=by
 have hE:∀oh,(V.con .nilIface).cl oh:=fun _=>trivial
 show(Code.seq (subC [false] (Option.getD Tryz.f39.body .skip)) (.block 0 (.loop (.block 1 (.seq (subC [true,true,true,true,false] (Option.getD Tryz.f39.body .skip)) (.seq (.region 2 (opsOf (subC [true,true,true,true,true,false] (Option.getD Tryz.f39.body .skip))) false) (.cond (.tmp 25) .ret .skip))))))).wpIn (FR none) 0 Tryz.prog _ ai w
 refine wpIn_seq (reg_pk (fun _ _ _ h=>h) mix (by kernel_rfl) (fun Q hQ=>se0 l s hQ) (cl_S trivial trivial ⟨one_vs (V.flat.cl _ (lrV_flat _ _ _ _)),trivial⟩) (rs1 (hS0 _)) hr hp fun g1 a1 w1 hr1 hp1=>?_)
 refine wpIn_block (loop_k (fun k a w=>∃n L v g,k=s.size - n∧n≤s.size∧L.length≤n∧allF s 0=(L ++ (allF s n).1,(allF s n).2)∧Rel ⟨fun _=>none,[]⟩ g ⟨Tryz.f39.ntmps,evE l,ohS s L v np np [(7,rdOb s n)]⟩ a w∧
  Pk [rstS 39 Tryz.f12.ntmps tm] l D (recS fn tm (subC [true,true,false,true,false,false] (Option.getD Tryz.f12.body .skip)) (subC [true,true,false,true,false,true] (Option.getD Tryz.f12.body .skip)) D) g0 w0 g (ohS s L v np np [(7,rdOb s n)]) w) (k:=s.size) ⟨0,[],0,g1,rfl,Nat.zero_le _,Nat.le_refl _,rfl,hr1,hp1⟩ ?_)
 rintro k a2 w2 ⟨n,L,v,g2,rfl,hn,hLn,hall,hr2,hp2⟩
 obtain⟨st1,st2,st3⟩:=allF_step s n hn
 have er:List.range (opsOf (subC [true,true,true,true,true,false] (Option.getD Tryz.f39.body .skip))).size=List.range' 0 3 ++ (3 :: (List.range' 4 10 ++ [])):=rfl
 refine wpIn_block ?_
 by_cases hc:(nxF s n).code=0
 ·generalize ht:(⟨(nxF s n).kind,(nxF s n).text,(placeF s (blF s n).1).1,(placeF s (blF s n).1).2⟩:Tok)=t
  have h1:=fun(Q:X→St→Prop) hQ=>se1 l s L v n hs hn hc (Q:=Q) hQ
  rw [ht] at h1
  refine wpIn_seq (reg_pk (fun _ _ _ h=>h) mix (by kernel_rfl) h1 (cl_S trivial trivial (cl_X trivial)) (rs1 (hS0 _)) hr2 hp2 fun g3 a3 w3 hr3 hp3=>?_)
  refine wpIn_seq (wpIn_region ?_)
  rw [er]
  refine ops_pk (fun _ _ _ h=>h) 0 3 (by kernel_rfl) rfl (fun K hK=>se2 l s L v (nxE s n) t _ (.inl rfl) K hK) (cl_S trivial trivial (cl_X trivial)) (rs1 (hS0 _)) hr3 hp3 fun g4 a4 w4 hr4 hp4=>?_
  refine yld_op (nf:=0) rfl rfl rfl rfl hp4.hl (hr4.env 12).1 rfl (round_ok s L v (nxE s n) l D t (by omega) hr4 hp4 fun g5 w5 hr5 hp5=>⟨_,rfl,?_⟩)
  refine ops_pk (fun _ _ _ h=>h) 4 10 (by kernel_rfl) rfl (fun K hK=>se4 l s (L ++ [t]) (v+1) (nxE s n) t K hK) (cl_S trivial trivial ⟨one_vs (V.flat.cl _ (lrV_flat _ _ _ _)),trivial⟩) (rs1 (hS0 _)) (hr5.put1 (d:=15) (v:=.con (.bool true)) (Nat.le_of_ble_eq_true rfl) ⟨rfl,rfl⟩) hp5 fun g6 a6 w6 hr6 hp6=>?_
  have hv:=opd_rd hr6 (.tmp 25)
  show(Code.cond (.tmp 25) .ret .skip).wpIn (FR none) 0 Tryz.prog _ a6 w6
  refine wpIn_cond_split hv.1 (fun h0=>wpIn_ret ?_) (fun h0=>wpIn_skip ?_)
  ·have h0:(nxF s n).kind=0:=by have:=of_decide_eq_true h0;rw [← ht] at this;dsimp only at this;omega
   obtain⟨e1,e2⟩:=st2 hc h0
   have hT:(txt s).L=L ++ [t]∧(txt s).late=none:=by
    show(allF s 0).1=_∧(allF s 0).2=_
    rw [hall,e2,← ht,e1,h0]
    exact⟨rfl,rfl⟩
   obtain⟨v9,hv9⟩:=res_none (P:=Tryz.prog) (fn:=Tryz.f39) (w:=w6) rfl a6.tmps
   refine⟨hr6.df,v9,hv9,?_⟩
   have hp7:=hp6.less hr6 (T:=ohS s (L ++ [t]) (v+1) np np []) ⟨rfl,rfl,rfl,rfl,rfl,trivial⟩ (cl_S trivial trivial trivial) (rs1 (hS0 _))
   rw [← hT.1] at hp7
   exact hk _ _ _ _ _ _ _ hp7 (by rw [hT.2];rfl) (fun h=>by cases h) (.inl ⟨rfl,rfl,rfl⟩)
  ·have h0:(nxF s n).kind≠0:=by have:=of_decide_eq_false h0;rw [← ht] at this;dsimp only at this;omega
   obtain⟨e1,e2,e3⟩:=st3 hc h0
   have hr7:Rel ⟨fun _=>none,[]⟩ g6 ⟨Tryz.f39.ntmps,evE l,ohS s (L ++ [t]) (v+1) np np [(7,rdOb s (nxE s n))]⟩ a6 w6:=by
    refine(hr6.less ?_).1
    exact⟨rfl,⟨rfl,trivial,rfl,rfl,trivial⟩,⟨rfl,rfl,rfl,rfl,rfl,rfl,trivial⟩,cl_S trivial trivial ⟨one_vs (V.flat.cl _ (lrV_flat _ _ _ _)),trivial⟩⟩
   refine⟨s.size - nxE s n,by omega,nxE s n,L ++ [t],v+1,g6,rfl,e2,by rw [List.length_append,List.length_singleton];omega,?_,hr7,hp6⟩
   rw [hall,e3,ht,List.append_assoc];rfl
 ·generalize hf:(⟨(nxF s n).code,(placeF s (blF s n).1).1,(placeF s (blF s n).1).2,(nxF s n).word⟩:Flt)=f
  have h1:=fun(Q:X→St→Prop) hQ=>se1b l s L v n hs hn hc (Q:=Q) hQ
  rw [hf] at h1
  refine wpIn_seq (reg_pk (fun _ _ _ h=>h) mix (by kernel_rfl) h1 (cl_S trivial trivial (cl_X trivial)) (rs1 (hS0 _)) hr2 hp2 fun g3 a3 w3 hr3 hp3=>?_)
  refine wpIn_seq (wpIn_region ?_)
  rw [er]
  refine ops_pk (fun _ _ _ h=>h) 0 3 (by kernel_rfl) rfl (fun K hK=>se2 l s L v (nxE s n) _ _ (.inr ⟨f,rfl⟩) K hK) (cl_S trivial trivial (cl_X trivial)) (rs1 (hS0 _)) hr3 hp3 fun g4 a4 w4 hr4 hp4=>?_
  refine yld_op (nf:=0) rfl rfl rfl rfl hp4.hl (hr4.env 12).1 rfl (round_bad s L v (nxE s n) l D _ f hr4 hp4 fun g5 w5 hr5 hp5=>⟨_,rfl,?_⟩)
  refine ops_pk (fun _ _ _ h=>h) 4 10 (by kernel_rfl) rfl (fun K hK=>se4b l s L v (nxE s n) _ f (vFp (some f)) (.ref 1 0 0 0) K hK) (cl_S trivial rfl trivial) (rs1 (hS0 _)) (hr5.put1 (d:=15) (v:=.con (.bool false)) (Nat.le_of_ble_eq_true rfl) ⟨rfl,rfl⟩) hp5 fun g6 a6 w6 hr6 hp6=>?_
  have hv:=opd_rd hr6 (.tmp 25)
  show(Code.cond (.tmp 25) .ret .skip).wpIn (FR none) 0 Tryz.prog _ a6 w6
  refine wpIn_cond_split hv.1 (fun _=>wpIn_ret ?_) (fun h0=>by cases h0)
  have hT:(txt s).L=L∧(txt s).late=some f:=by
   show(allF s 0).1=_∧(allF s 0).2=_
   rw [hall,st1 hc,← hf,List.append_nil]
   exact⟨rfl,rfl⟩
  obtain⟨v9,hv9⟩:=res_none (P:=Tryz.prog) (fn:=Tryz.f39) (w:=w6) rfl a6.tmps
  refine⟨hr6.df,v9,hv9,?_⟩
  rw [← hT.1] at hp6
  exact hk _ _ _ _ _ _ _ hp6 (by rw [hT.2]) (fun h=>by cases h) (.inr ⟨rfl,rfl⟩)
def yv (l:Nat):Value:=.func (.yield l) #[] #[]
theorem start_ok (s:ByteArray)(hs:s.size≤1073741824):OkO Tryz.prog 12 [tS9 s] (pO (PS.begin s)) (.ref 0 0 0 0):=by
 refine⟨⟨_,Tryz.func12,rfl,rfl⟩,fun S w args hS hgl hargs=>?_⟩
 obtain⟨hsz,hrd⟩:=hargs
 refine(callsIn_wide (n:=0)).1 (callsIn_of_wp_marks (c:=seqs (spl 2 (Option.getD Tryz.f12.body .skip)).1 (spl 2 (Option.getD Tryz.f12.body .skip)).2) Tryz.func12 rfl trivial ?_ rfl)
 have hr0:=entryO (fn:=Tryz.f12) (ts:=[tS9 s]) (Nat.le_of_ble_eq_true rfl) hS hgl hsz hrd
 refine wpIn_wide.2 (wp_cut (np:=0) (fun _ _ _ h=>h) mix (fun _ _=>rfl) (Q:=fun x st=>x=.normal∧Lf ⟨Tryz.f12.ntmps,[(0,.con (.string s)),(2,.ref 0 0 0 0),(3,.ref 2 0 0 0)],[(0,cel np),(1,p0 0 0 np),(2,cel (.ref 1 0 0 0)),(5,⟨4,[],0,true⟩)]⟩ st) (fun x st h=>h.1) (fun g s1 a w1 hQ hr hf hn=>?_) _ _ (by kernel_rfl) (parB_zero _) (start_1 s fun st h=>⟨rfl,h⟩) rfl _ _ w hr0 (Fr.refl _ _ _))
 obtain⟨hr2,hf2⟩:=hr.lf hQ.2
 refine(wpIn_wide (n:=0)).1 ?_
 show(Code.seq (.seq (subC [true,true,false,false] (Option.getD Tryz.f12.body .skip)) (.block 0 (.rangeFunc (.tmp 10) #[11,12] (subC [true,true,false,true,false,false] (Option.getD Tryz.f12.body .skip)) (subC [true,true,false,true,false,true] (Option.getD Tryz.f12.body .skip))))) (.seq (subC [true,true,true,false] (Option.getD Tryz.f12.body .skip)) .ret)).wpIn (FR none) 0 Tryz.prog _ a w1
 refine wpIn_seq (wpIn_seq (wpIn_mono (reg_in (np:=0) (fun _ _ _ h=>h) mix (fun _ _=>rfl) _ _ _ _ (fun _ st=>leOH st.oh (ohS s [] 0 np np [])∧leEnv (ohS s [] 0 np np []) st.env (evS 39)) (by kernel_rfl) (parB_zero _) (so2 s fun st h1 h2=>⟨h1,h2⟩) rfl _ a w1 hr2) fun x a3 w3 ⟨s3,g3,hx,⟨h1,h2⟩,hr3,hf3,hm3,hn3⟩=>?_))
 subst hx
 obtain⟨hr4,hf4⟩:=hr3.less (s1:=⟨Tryz.f12.ntmps,evS 39,ohS s [] 0 np np []⟩) ⟨hn3.symm,h2,h1,cl_S trivial trivial trivial⟩
 have hF:=(hf.trans hf2).trans (hf3.trans hf4)
 show(Code.block 0 (.rangeFunc (.tmp 10) #[11,12] (subC [true,true,false,true,false,false] (Option.getD Tryz.f12.body .skip)) (subC [true,true,false,true,false,true] (Option.getD Tryz.f12.body .skip)))).wpIn (FR none) 0 Tryz.prog _ a3 w3
 refine wpIn_block (wpIn_rangeFunc fun fn _=>?_)
 obtain⟨y,hy,hfun⟩:=hr4.env 10
 let w4:World:=((w3.alloc (.deferred (some []))).alloc (.loop (recS fn a3.tmps (subC [true,true,false,true,false,false] (Option.getD Tryz.f12.body .skip)) (subC [true,true,false,true,false,true] (Option.getD Tryz.f12.body .skip)) w3.heap.size)))
 have hext:w3.Extends w4:=((World.Extends.refl w3).alloc _).alloc _
 refine⟨w3.heap.size+1,[⟨.collected w3.heap.size,#[]⟩],w4,⟨.fn (.func 39) #[y],#[yv (w3.heap.size+1)]⟩,w4,39,#[yv (w3.heap.size+1),y],w4,run_enterLoop_outer _ _ _ _ _,?hres,fun _ _=>trivial,?hinv,(fun h=>by cases h),callsIn_of_wp (c:=Option.getD Tryz.f39.body .skip) Tryz.func39 rfl trivial ?hbody rfl⟩
 case hres=>
  have e1:a3.tmps[10]?.getD Go.undef=.func (.func 39) #[] #[y]:=by rw [← Array.getD_eq_getD_getElem?];exact hfun
  simp [resolve,rangeCall,e1,Deferred.ofValue,yv,Act.eval]
 case hinv=>simp [invoke,callFunc,Tryz.func39];rfl
 case hbody=>
  have hr5:Rel ⟨fun _=>none,[]⟩ g3 ⟨Tryz.f12.ntmps,evS 39,ohS s [] 0 np np []⟩ ⟨a3.tmps,[]⟩ _:=⟨hr4.hr.ext hext,rfl,hr4.sz,hr4.env,fun t v h=>by cases h⟩
  have hin:=(entryG (fn:=Tryz.f39) (vs:=[yl (w3.heap.size+1),.ref 6 0 0 0]) (args:=#[yv (w3.heap.size+1),y]) 0 (Nat.zero_le _) (Nat.le_of_ble_eq_true rfl) hr5.hr rfl (fun j u x hu hx=>by
   match j with
   |0=>cases hu;cases hx;exact⟨rfl,rfl⟩
   |1=>cases hu;cases hx;exact hy
   |j+2=>simp at hu)).par0
  have hsz0:w.heap.size≤w3.heap.size:=hF.size
  refine words_ok (fn:=fn) s hs (w3.heap.size+1) w3.heap.size hin ⟨rs1 hr5,?_,?_,hF.trans (Fr.ext hext),by omega⟩ fun g6 w6 v r' lt r0 u hp6 hlt hbusy hend=>?_
  ·have:=World.alloc_heap_new (w3.alloc (.deferred (some []))) (.loop (recS fn a3.tmps (subC [true,true,false,true,false,false] (Option.getD Tryz.f12.body .skip)) (subC [true,true,false,true,false,true] (Option.getD Tryz.f12.body .skip)) w3.heap.size))
   rw [World.size_alloc] at this
   exact this
  ·have hx2:(w3.alloc (.deferred (some []))).Extends _:=(World.Extends.refl _).alloc (.loop (recS fn a3.tmps (subC [true,true,false,true,false,false] (Option.getD Tryz.f12.body .skip)) (subC [true,true,false,true,false,true] (Option.getD Tryz.f12.body .skip)) w3.heap.size))
   rw [hx2.block w3.heap.size (by rw [World.size_alloc];omega)]
   exact World.alloc_heap_new w3 _
  have hr6:Rel ⟨fun _=>none,[]⟩ g6 ⟨Tryz.f12.ntmps,evS 39,ohS s (txt s).L v lt r0 []⟩ ⟨a3.tmps,[]⟩ w6:=hp6.rel _ (List.mem_singleton.2 rfl)
  have fin:∀g a w',Rel ⟨fun _=>none,[⟨.collected w3.heap.size,#[]⟩]⟩ g ⟨Tryz.f12.ntmps,[(2,.ref 0 0 0 0)],ohS s (txt s).L v (vFp (txt s).late) (.ref 1 0 0 0) []⟩ a w'→w'.heap[w3.heap.size]?=some (.deferred (some []))→Fr ⟨S,fun _ _=>none,fun _=>none,fun _=>0⟩ [] w g (ohS s (txt s).L v (vFp (txt s).late) (.ref 1 0 0 0) []) w'→LeavesInM Fence.wide 0 Tryz.prog Tryz.f12 a.tmps (fun e w'=>∃x gn,e=Ending.returned x∧RowKit.Below w.heap.size w w'∧HR gn (pO (PS.begin s)) w'∧RdV gn (pO (PS.begin s)) (.ref 0 0 0 0) x∧(∀b o c,gn.G b o=some c→S b o=some c∨w.heap.size≤b)∧(∀b o c,gn.F b o=some c→w.heap.size≤b)∧(∀b,Owned gn (pO (PS.begin s)) b→w.heap.size≤b)∧∀i o,oget (pO (PS.begin s)) i=some o→o.live=true) a.defers .returning w':=by
   intro g a w' hr hd hf
   rw [hr.df]
   refine⟨by simp,.inl ⟨_,_,rfl,run_takeDeferred hd,?_⟩⟩
   have hr9:Rel ⟨fun _=>none,[⟨.collected w3.heap.size,#[]⟩]⟩ g ⟨Tryz.f12.ntmps,[(2,.ref 0 0 0 0)],ohS s (txt s).L v (vFp (txt s).late) (.ref 1 0 0 0) []⟩ a (w'.putObj w3.heap.size (.deferred none)):=⟨hr.hr.putO hd (odd_def _),hr.df,hr.sz,hr.env,hr.par⟩
   obtain⟨-,x,hx,hR⟩:=oko_fin (start_ret (fn:=Tryz.f12) s v rfl rfl rfl rfl rfl) hr9 (hf.putO hd (odd_def _) hsz0)
   exact⟨x,hx,hR⟩
  obtain⟨st9,pd9,fn9,tm9,ps9,as9,bd9,df9⟩:=r'
  dsimp only at hend
  refine⟨_,_,run_endLoop hp6.hl hbusy,?_⟩
  have hp7:=hp6.put (r':=⟨.exhausted,pd9,fn9,tm9,ps9,as9,bd9,df9⟩)
  have hr7:=hr6.putL hp6.hl (x:=.loop ⟨.exhausted,pd9,fn9,tm9,ps9,as9,bd9,df9⟩)
  have hr8:Rel ⟨fun _=>none,[⟨.collected w3.heap.size,#[]⟩]⟩ g6 ⟨Tryz.f12.ntmps,evS 39,ohS s (txt s).L v lt r0 []⟩ ⟨a3.tmps,[⟨.collected w3.heap.size,#[]⟩] ++ a3.defers⟩ _:=⟨hr7.hr,by show _ ++ a3.defers=_;rw [hr4.df];rfl,hr7.sz,hr7.env,hr7.par⟩
  rcases hend with⟨e1,e2,e3⟩|⟨e1,e3⟩
  ·subst e1 e2 e3
   show(Code.seq (subC [true,true,true,false] (Option.getD Tryz.f12.body .skip)) .ret).wpIn (FR none) 0 Tryz.prog _ _ _
   refine wpIn_seq (reg_pk (E:=[]) (fun _ _ _ h=>h) mix (by kernel_rfl) (fun Q hQ=>so11 s (txt s).L v hQ) (cl_S trivial rfl trivial) (fun p hp=>by cases hp) hr8 ⟨(fun p hp=>by cases hp),hp7.hl,hp7.hd,hp7.fr,hp7.h0⟩ fun g9 a9 w9 hr9 hp9=>?_)
   rw [hlt] at hr9 hp9
   exact wpIn_ret (fin _ _ _ hr9 hp9.hd hp9.fr)
  ·subst e1 hlt e3
   refine wpIn_ret (fin _ _ _ (hr8.less (s1:=⟨Tryz.f12.ntmps,[(2,.ref 0 0 0 0)],ohS s (txt s).L v (vFp (txt s).late) (.ref 1 0 0 0) []⟩) (s:=⟨Tryz.f12.ntmps,evS 39,ohS s (txt s).L v (vFp (txt s).late) (.ref 1 0 0 0) []⟩) ⟨rfl,⟨rfl,rfl,trivial⟩,⟨rfl,rfl,rfl,rfl,rfl,trivial⟩,cl_S ((vFp_dat _).fl.cl1 _) rfl trivial⟩).1 hp7.hd hp7.fr)
end Go.Ev
