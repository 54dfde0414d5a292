import Derived.Test.YthpoegdjffdojaaGreatDoorULbm
import Derived.Test.YthpoegdjffdojaaGreatDoorULbj
import Derived.Test.YthpoegdjffdojaaGreatDoorULbl
set_option linter.all false
set_option maxHeartbeats 60000000
set_option maxRecDepth 10000
namespace Go.Ev
open Go.Proofs
def VT (s:ByteArray):T:=match(fQ s).late with
 |none=>.ba [tv (fQ s).L,.af .nilIface]
 |some f=>.ba [.sl [],MX (some f)]
theorem u9 {P:Program}{γ:Gm}{fn:Func}{r:T}{S:dS}{s':St}{g':Gh}{a':Act}{w w':World}(hS:∀b o c,S b o=some c->w.cell? ⟨b,o,none⟩=some c)
  (hret:kz P fn true r .ret s') (hrel:Rel γ g' s' a' w') (hfr:Fr (⟨S,fun _ _=>none,fun _=>none,fun _=>0⟩:Gh) [] w g' s'.oh w') :
  ∃v,(results fn a'.tmps).run P w'=.ok v w'/\∃v0 N,(Ending.returned v:Ending)=.returned v0/\RowKit.Below w.heap.size w w'/\(∀b o c,N b o=some c->w.heap.size<=b/\w'.cell? ⟨b,o,none⟩=some c)/\gD (dS.pick true S N) r v0:=by
 have hnone:∀b,¬cw (⟨S,fun _ _=>none,fun _=>none,fun _=>0⟩:Gh) [] b:=by rintro b ⟨i,o,ho,_⟩;simp [ae] at ho
 let N:dS:=fun b o=>if w.heap.size<=b then w'.cell? ⟨b,o,none⟩ else none
 have hN:∀b o c,N b o=some c->w.heap.size<=b/\w'.cell? ⟨b,o,none⟩=some c:=by
  intro b o c hc;by_cases hb:w.heap.size<=b
  ·exact⟨hb,by simpa [N,hb] using hc⟩
  ·simp [N,hb] at hc
 have hF:∀b o c,g'.F b o=some c->N b o=some c:=by
  intro b o c hc;have hcell:=hrel.hr.hG b o c (hrel.hr.hF b o c hc);rcases hfr.nF b o c hc with h'|h'|h'
  ·simp at h'
  ·exact absurd h' (hnone b)
  ·simpa [N,h'] using hcell
 have hown:∀b,cw g' s'.oh b->∀o c,w'.cell? ⟨b,o,none⟩=some c->N b o=some c:=by
  intro b hb o c hc;rcases hfr.own b hb with h'|h'
  ·exact absurd h' (hnone b)
  ·simpa [N,h'] using hc
 have hfin:nL g' s'.oh w' true (dS.pick true S N):=⟨hF,by simp,hown⟩
 obtain⟨v,hv,hrv⟩:=od hret hrel hfin;exact⟨v,hv,v,N,rfl,⟨hfr.os,hfr.tape,hfr.output,hfr.size,fun b hb=>hfr.km b hb (hnone b) (sP.none hJ)⟩,hN,hrv⟩
theorem l8 {oh:OH}{f:Bool}(t:Tok):Rg oh f (ly t) (xN t):=by
 refine⟨rfl,fun j v u h1 h2=>?_⟩;have:=(PB (oh:=oh) (f:=f) [.int .i8 t.kind,.string t.text,.int .i64 t.line,.int .i64 t.Ae]).2 j v u h1 h2;exact this
theorem Zl {P:Program}{s:St}{a t id ver sz:Nat}{v:V}{K:V->Prop}(hd:(tk P t).size=1)(hg:(tk P t).isAgg=false)(ha:aA s.env a=.ref id ver 0 0)(ho:ae s.oh id=some ⟨sz,[v],ver,true⟩)(hv:v.cells=[v])(hk:K v):ef P s (.cell a t) K:=by
 show rj (tk P t) s.oh (aA s.env a) _;rw [ha];show use s.oh id ver _;unfold use;rw [ho];refine⟨rfl,rfl,v,rfl,by rw [hd];decide,by rw [hv,hd];exact wU _,?_⟩;rw [hv,hd,hg];exact hk
theorem ZA {fn:Func}(s:ByteArray)(v:Nat){n:Nat}(hr:fn.results.toList=[.cell 2 55,.cell 3 34])(hl:(fQ s).late=none) :
  kz Tryz.prog fn true (VT s) .ret ⟨n,[(2,.ref 0 0 0 0),(3,.ref 1 0 0 0)],za s (fQ s).L v (.own 5 v 0 (fQ s).L.length) nI []⟩:=by
 refine⟨trivial,?_⟩;rw [hr];refine Zl B1 B1 rfl rfl rfl (Zl B1 B1 rfl rfl rfl ?_);refine⟨tv (fQ s).L,.af .nilIface,?_,gW (F:=ly) (G:=xN) (l:=(fQ s).L) rfl rfl rfl rfl ?_ (fun t _=>l8 t) rfl,ay rfl⟩
 ·unfold VT;rw [hl]
 ·show(((fQ s).L.map ly).drop 0).take _=_;rw [F4,B7 (by rw [List.length_map];exact wU _)]
theorem Zz {fn:Func}(s:ByteArray)(v:Nat){n:Nat}{f:dy}{L:List Tok}(hr:fn.results.toList=[.cell 2 55,.cell 3 34])(hl:(fQ s).late=some f) :
  kz Tryz.prog fn true (VT s) .ret ⟨n,[(2,.ref 0 0 0 0),(3,.ref 1 0 0 0)],za s L v .emp (xd f) []⟩:=by
 refine⟨trivial,?_⟩;rw [hr];refine Zl B1 B1 rfl rfl rfl (Zl B1 B1 rfl rfl rfl ?_);refine⟨.sl [],MX (some f),?_,jK rfl,kr rfl fun h=>h⟩;unfold VT;rw [hl]
theorem j3 (s:ByteArray)(hs:s.size<=1073741824):Ok Tryz.prog 14 [gG s] true (VT s):=by
 refine⟨⟨_,Tryz.func14,rfl,rfl⟩,fun S w args hS hgl hargs=>?_⟩;obtain⟨hsz,hrd⟩:=hargs;refine(callsIn_wide (n:=0)).1 (callsIn_of_wp_marks (c:=nz (JR 2 (Option.getD Tryz.f14.body .skip)).1 (JR 2 (Option.getD Tryz.f14.body .skip)).2) Tryz.func14 rfl trivial ?_ rfl);have hr0:=Mg (fn:=Tryz.f14) (ts:=[gG s]) (D3 rfl) hS hgl hsz hrd;refine wpIn_wide.2 (wp_cut (np:=0) (fun _ _ _ h=>h) mix (fun _ _=>rfl) (Q:=fun x st=>x=.normal/\Lf ⟨Tryz.f14.ntmps,[(0,.af (.string s)),(2,.ref 0 0 0 0),(3,.ref 1 0 0 0),(4,.ref 2 0 0 0)],[(0,vb .emp),(1,vb nI),(2,vb (.own 5 0 0 0)),(5,⟨4,[],0,true⟩)]⟩ st) (fun x st h=>h.1) (fun g s1 a w1 hQ hr hf hn=>?_) _ _ B1 (dF _) (u7 s fun st h=>⟨rfl,h⟩) rfl _ _ w hr0 (Fr.refl _ _ _));obtain⟨hr2,hf2⟩:=hr.lf hQ.2;refine(wpIn_wide (n:=0)).1 ?_;show(Code.seq (.seq (aM [true,true,false,false] (Option.getD Tryz.f14.body .skip)) (.block 0 (.rangeFunc (.tmp 8) #[9,10] (aM [true,true,false,true,false,false] (Option.getD Tryz.f14.body .skip)) (aM [true,true,false,true,false,true] (Option.getD Tryz.f14.body .skip))))) (.seq (aM [true,true,true,false] (Option.getD Tryz.f14.body .skip)) .ret)).wpIn (FR none) 0 Tryz.prog _ a w1;refine wpIn_seq (wpIn_seq (wpIn_mono (Dl (np:=0) (fun _ _ _ h=>h) mix (fun _ _=>rfl) _ _ _ _ (fun _ st=>gi st.oh (za s [] 0 .emp nI [])/\de (za s [] 0 .emp nI []) st.env (Zb 66)) B1 (dF _) (A4 s fun st h1 h2=>⟨h1,h2⟩) rfl _ a w1 hr2) fun x a3 w3 ⟨s3,g3,hx,⟨h1,h2⟩,hr3,hf3,hm3,hn3⟩=>?_));subst hx;obtain⟨hr4,hf4⟩:=hr3.less (s1:=⟨Tryz.f14.ntmps,Zb 66,za s [] 0 .emp nI []⟩) ⟨hn3.symm,h2,h1,Lz trivial trivial trivial⟩;have hF:=(hf.trans hf2).trans (hf3.trans hf4);show(Code.block 0 (.rangeFunc (.tmp 8) #[9,10] (aM [true,true,false,true,false,false] (Option.getD Tryz.f14.body .skip)) (aM [true,true,false,true,false,true] (Option.getD Tryz.f14.body .skip)))).wpIn (FR none) 0 Tryz.prog _ a3 w3;refine wpIn_block (wpIn_rangeFunc fun fn _=>?_);obtain⟨y,hy,hfun⟩:=hr4.env 8;let w4:World:=((w3.alloc (.deferred (some []))).alloc (.loop (recC fn a3.tmps (aM [true,true,false,true,false,false] (Option.getD Tryz.f14.body .skip)) (aM [true,true,false,true,false,true] (Option.getD Tryz.f14.body .skip)) w3.heap.size)))
 have hext:w3.Extends w4:=((World.Extends.refl w3).alloc _).alloc _;refine⟨w3.heap.size+1,[⟨.collected w3.heap.size,#[]⟩],w4,⟨.fn (.func 66) #[y],#[yv (w3.heap.size+1)]⟩,w4,66,#[yv (w3.heap.size+1),y],w4,run_enterLoop_outer _ _ _ _ _,?hres,fun _ _=>trivial,?hinv,(fun h=>by cases h),callsIn_of_wp (c:=Option.getD Tryz.f66.body .skip) Tryz.func66 rfl trivial ?hbody rfl⟩
 case hres=>
  have e1:a3.tmps[8]?.getD Go.undef=.func (.func 66) #[] #[y]:=by rw [<- Pb];exact hfun
  simp [resolve,rangeCall,e1,Deferred.ofValue,yv,Act.eval]
 case hinv=>simp [invoke,callFunc,Tryz.func66];rfl
 case hbody=>
  have hr5:Rel ⟨fun _=>none,[]⟩ g3 ⟨Tryz.f14.ntmps,Zb 66,za s [] 0 .emp nI []⟩ ⟨a3.tmps,[]⟩ _:=⟨hr4.hr.ext hext,rfl,hr4.sz,hr4.env,fun t v h=>by cases h⟩
  have hin:=(zc (fn:=Tryz.f66) (vs:=[yl (w3.heap.size+1),.ref 6 0 0 0]) (args:=#[yv (w3.heap.size+1),y]) 0 (C0 _) (D3 rfl) hr5.hr rfl (fun j u x hu hx=>by
   match j with
   |0=>cases hu;cases hx;exact⟨rfl,rfl⟩
   |1=>cases hu;cases hx;exact hy
   |j+2=>simp at hu)).WE
  have hsz0:w.heap.size<=w3.heap.size:=hF.size;refine Zx (fn:=fn) s hs (w3.heap.size+1) w3.heap.size hin ⟨Ko hr5,?_,?_,hF.trans (Fr.ext hext),by omega⟩ fun g6 w6 v r' r0 r1 u hp6 hbusy hend=>?_
  ·have:=World.alloc_heap_new (w3.alloc (.deferred (some []))) (.loop (recC fn a3.tmps (aM [true,true,false,true,false,false] (Option.getD Tryz.f14.body .skip)) (aM [true,true,false,true,false,true] (Option.getD Tryz.f14.body .skip)) w3.heap.size));rw [World.size_alloc] at this;exact this
  ·have hx2:(w3.alloc (.deferred (some []))).Extends _:=(World.Extends.refl _).alloc (.loop (recC fn a3.tmps (aM [true,true,false,true,false,false] (Option.getD Tryz.f14.body .skip)) (aM [true,true,false,true,false,true] (Option.getD Tryz.f14.body .skip)) w3.heap.size));rw [hx2.block w3.heap.size (by rw [World.size_alloc];omega)];exact World.alloc_heap_new w3 _
  have hr6:Rel ⟨fun _=>none,[]⟩ g6 ⟨Tryz.f14.ntmps,Zb 66,za s (fQ s).L v r0 r1 []⟩ ⟨a3.tmps,[]⟩ w6:=hp6.rel _ (HQ.2 rfl)
  have fin:∀r0 r1 g a w',kz Tryz.prog Tryz.f14 true (VT s) .ret ⟨Tryz.f14.ntmps,[(2,.ref 0 0 0 0),(3,.ref 1 0 0 0)],za s (fQ s).L v r0 r1 []⟩->Rel ⟨fun _=>none,[⟨.collected w3.heap.size,#[]⟩]⟩ g ⟨Tryz.f14.ntmps,[(2,.ref 0 0 0 0),(3,.ref 1 0 0 0)],za s (fQ s).L v r0 r1 []⟩ a w'->w'.heap[w3.heap.size]?=some (.deferred (some []))->Fr ⟨S,fun _ _=>none,fun _=>none,fun _=>0⟩ [] w g (za s (fQ s).L v r0 r1 []) w'->LeavesInM Fence.wide 0 Tryz.prog Tryz.f14 a.tmps (fun e w'=>∃v N,e=Ending.returned v/\RowKit.Below w.heap.size w w'/\(∀b o c,N b o=some c->w.heap.size<=b/\w'.cell? ⟨b,o,none⟩=some c)/\gD (dS.pick true S N) (VT s) v) a.defers .returning w':=by
   intro r0 r1 g a w' hret hr hd hf;rw [hr.df];refine⟨by simp,.inl ⟨_,_,rfl,run_takeDeferred hd,?_⟩⟩;have hr9:Rel ⟨fun _=>none,[⟨.collected w3.heap.size,#[]⟩]⟩ g ⟨Tryz.f14.ntmps,[(2,.ref 0 0 0 0),(3,.ref 1 0 0 0)],za s (fQ s).L v r0 r1 []⟩ a (w'.putObj w3.heap.size (.deferred none)):=⟨hr.hr.YU hd (yA _),hr.df,hr.sz,hr.env,hr.par⟩
   obtain⟨x,hx,hR⟩:=u9 hS hret hr9 (hf.YU hd (yA _) hsz0);exact⟨x,hx,hR⟩
  obtain⟨st9,pd9,fn9,tm9,ps9,as9,bd9,df9⟩:=r';dsimp only at hend;refine⟨_,_,run_endLoop hp6.hl hbusy,?_⟩;have hp7:=hp6.put (r':=⟨.exhausted,pd9,fn9,tm9,ps9,as9,bd9,df9⟩);have hr7:=hr6.og hp6.hl (x:=.loop ⟨.exhausted,pd9,fn9,tm9,ps9,as9,bd9,df9⟩);have hr8:Rel ⟨fun _=>none,[⟨.collected w3.heap.size,#[]⟩]⟩ g6 ⟨Tryz.f14.ntmps,Zb 66,za s (fQ s).L v r0 r1 []⟩ ⟨a3.tmps,[⟨.collected w3.heap.size,#[]⟩] ++ a3.defers⟩ _:=⟨hr7.hr,by show _ ++ a3.defers=_;rw [hr4.df];rfl,hr7.sz,hr7.env,hr7.par⟩
  rcases hend with⟨e1,e2,e3,e4⟩|⟨e1,f,e2,e3,e4⟩
  ·subst e1 e3 e4;show(Code.seq (aM [true,true,true,false] (Option.getD Tryz.f14.body .skip)) .ret).wpIn (FR none) 0 Tryz.prog _ _ _;refine wpIn_seq (fF (E:=[]) (fun _ _ _ h=>h) mix B1 (fun Q hQ=>y8 s (fQ s).L v hQ) (Lz rfl trivial trivial) (fun p hp=>by cases hp) hr8 ⟨(fun p hp=>by cases hp),hp7.hl,hp7.hd,hp7.fr,hp7.h0⟩ fun g9 a9 w9 hr9 hp9=>?_);exact wpIn_ret (fin _ _ _ _ _ (ZA (fn:=Tryz.f14) s v rfl e2) hr9 hp9.hd hp9.fr)
  ·subst e1 e3 e4;refine wpIn_ret (fin _ _ _ _ _ (Zz (fn:=Tryz.f14) s v rfl e2) (hr8.less (s1:=⟨Tryz.f14.ntmps,[(2,.ref 0 0 0 0),(3,.ref 1 0 0 0)],za s (fQ s).L v .emp (xd f) []⟩) (s:=⟨Tryz.f14.ntmps,Zb 66,za s (fQ s).L v .emp (xd f) []⟩) ⟨rfl,⟨rfl,rfl,rfl,rfl,trivial⟩,⟨rfl,rfl,rfl,rfl,rfl,trivial⟩,Lz trivial trivial trivial⟩).1 hp7.hd hp7.fr)
theorem j6 {C:CT}{q:FuncId}{tp:TypeId}{args:List V}{oh:OH}{k:Acc->Prop}(id:Nat)(hc:C q [] (.gen (Ew (.af (.pointer none))) [] [.af .nilIface,.wr (.jq tp) 0 0 0 0] [] (.af (.bool false))))
  (ha:args=[.af .nilIface,.wr (.jq tp) id 0 0 0]) (hp:ae oh id=some ⟨1,[.af (.pointer none)],0,true⟩)
  (hk:k ⟨[(id,⟨1,[.af (.pointer none)],0,true⟩)],[],[],.af (.bool false)⟩):oH C q args oh k:=by
 refine⟨_,_,_,_,_,fun _=>id,fun _=>0,hc,by rw [ha];rfl,fun p hp'=>?_,fun i hi=>by simp at hi,fun i hi j hj _=>?_,hk⟩
 ·obtain rfl:=HQ.1 hp';exact hp
 ·have e1:i=0:=by simpa [Ew] using hi
  have e2:j=0:=by simpa [Ew] using hj
  rw [e1,e2]
theorem x7 (x:Value)(w:World):Calls Tryz.prog 41 #[.nilIface,x] w fun ev w'=>ev=.returned (.bool false)/\w'=w:=by
 go_enter Tryz.func41,Tryz.ntmps41
 go_wp2
 go_ret
 exact⟨rfl,rfl⟩
theorem p8 : jP Tryz.prog 41 (Ew (.af (.pointer none))) [] [.af .nilIface,.wr (.jq 103) 0 0 0 0] [] (.af (.bool false)):=by
 have hpre:∀i o,ae (Ew (.af (.pointer none))) i=some o->i=0/\o=⟨1,[.af (.pointer none)],0,true⟩:=fun i o h=>aR h
 refine⟨⟨_,Tryz.func41,rfl,rfl⟩,fun i o h=>?_,xH trivial rfl,fun i o h=>(by cases h),fun i o o' h h' _ _=>?_,fun g w args hr hsz hrd=>?_⟩
 ·obtain⟨rfl,rfl⟩:=hpre i o h;exact⟨rfl,rfl,bT trivial⟩
 ·have h2:ae (Ew (.af (.pointer none))) i=some o':=h';rw [h] at h2;obtain rfl:=C6 h2;exact⟨rfl,wU _⟩
 obtain⟨x0,x1,rfl⟩:∃x0 x1,args=#[x0,x1]:=by
  obtain⟨l⟩:=args
  match l,hsz with
  | [a,b],_=>exact⟨a,b,rfl⟩
 obtain⟨rfl,-⟩:=hrd 0 _ x0 rfl rfl;refine(x7 x1 w).mono fun ev w' he=>?_
 obtain⟨rfl,rfl⟩:=he;exact⟨.bool false,g,rfl,hr,⟨rfl,rfl⟩,Fr.ext (World.Extends.refl _),fun i o h=>(by obtain⟨-,rfl⟩:=hpre i o h;rfl),fun i o o' _ _ _ _=>⟨rfl,rfl⟩⟩
theorem Zh : Ok Tryz.prog 13 [.af .nilIface] false (.ba [XO 0 0 0 eS,.af (.bool false)]):=by
 have h:=p8;refine aw bN mix Tryz.func13 rfl rfl B1 (zO rfl) ?_
 repeat'(first|(refine Or.inr (Or.inr (Or.inl (j6 1 (h) rfl rfl ?_))))|(with_reducible first|(refine zz ?_;try intro K hK)|refine zi ?_|refine zh ?_)|((first|apply hK _ _ rfl|apply hK);clear hK K)|(guard_hyp hK;first|refine zx ?_|apply ab|apply aa|refine zW ?_|intro b0 hb)|((first|refine zj ?_|guard_hyp hK);refine zY ?_ ?_;all_goals(intro hb;(try simp only [sn,sb] at hb);try exact ao)))
 exact Se (l2:=[.af (.int .i64 0),.af (.int .i64 0),.af (.int .i64 0),.af (.string eS)]) rfl Wf rfl (D0 _) rfl rfl (PB [.int .i64 0,.int .i64 0,.int .i64 0,.string eS]) rfl
open PS (cE bV dW eZ eY iS eQ cd CB)
theorem ZR (l:List ByteArray):∀g ∈ nJ l,As g/\Fh g:=by
 intro g hg;obtain⟨s,-,rfl⟩:=D4.1 hg;exact⟨qw s,ZD s⟩
theorem j8 {G:List ByteArray}(hG:∀g ∈ G,As g/\Fh g){f:rY}(h:(iA G f lx).1=true):(iA G f lx).2.mark < (iA G f lx).2.out.size:=by
 obtain⟨-,hf⟩:=Ly h;have ht:=Xa h;obtain⟨U,w0,R,e1,e2,e3,e4⟩:=YZ h
 have hM:(iA G f lx).2.mark=(jJ (IK G 0 (U ++ [w0]))).size:=by
  rw [e4,yO];show(eS ++ _).size=_;unfold eS;rw [S5];rfl
 have hR:R≠[]:=by
  obtain⟨w1,A,M,q,-,-,-⟩:=e3.ex;intro e;rw [e] at q;have:=B4 List.length q;simp at this
 rw [hM,ht,e1,show U ++ w0 :: R=(U ++ [w0]) ++ R by simp,YP (U ++ [w0]) R 0,Xb,B8]
 cases R with
 |nil=>exact absurd rfl hR
 |cons a r=>
  have:(jJ (IK G (0+(U ++ [w0]).length) (a :: r))).size=1+(DY G (0+(U ++ [w0]).length)).size+(fS a).size+(jJ (IK G (0+(U ++ [w0]).length+1) r)).size:=by
   rw [IK,jJ,B8,B8,B8];rfl
  omega
theorem Zc (v:ByteArray)(a:Nat):∀t u r,(bQ v a).1=t :: u :: r->t.kind≠0:=by
 intro t u r h;rw [bQ] at h;split at h
 ·rename_i hlt;split at h
  ·cases h
  ·rename_i hc;split at h
   ·rename_i hp;split at h
    ·rename_i hk;have:=(List.cons.inj h).1;rw [<- this];show((aH (v.extract a v.size)).kind:Int)≠0;omega
    ·exact Zc v _ t u r h
   ·cases h
 ·cases h
termination_by v.size - a
def y5 (s:ByteArray):dy:=((mw dV s).2).getD ⟨30,0,0,eS⟩
theorem y0 {s:ByteArray}(h:(mw dV s).2≠none):(mw dV s).2=some (y5 s):=by
 unfold y5
 cases hq:(mw dV s).2 with
 |none=>exact absurd hq h
 |some f=>rfl
theorem u6 {a b:Int}(hb:0 < b) : -b < a.tmod b/\a.tmod b < b:=by
 have h1:=Int.tmod_lt_of_pos a hb;have h2:=Int.lt_tmod_of_pos a hb;exact⟨h2,h1⟩
theorem v8 (o:Option dy):∃c l k w,Ok Tryz.prog 13 [MX o] false (.ba [XO c l k w,.af (.bool o.isSome)]):=by
 cases o with
 |none=>exact⟨_,_,_,_,Zh⟩
 |some f=>exact⟨_,_,_,_,LZ QY f⟩
theorem x5 (f:rY)(bt:List ByteArray)(i:Int)(more:ByteArray)(hp:Qr f)(hbt:bt.length<=1073741824)(hbz:∀s ∈ bt,s.size<=1073741824)(hB:MC f<=1048576)(hm:more.size<=1048576)(hi1 : -9223372036854775808<=i)(hi2:i<=9223372036854775807) :
  Ok Tryz.prog 4 [CH f,.sl (iD bt),.af (.int .i64 i),gG more] true (.af (.bool true)):=by
 have hT:=Qn;have hQ:=KD;have cA:=MK;have cG:=Py bt hbt hbz;have hGC:=ZR bt;have hGL:GF (nJ bt):=Ic bt;generalize nJ bt=G at *;have hsz:=Lx hGL f
 have hfit:Fits (iA G f lx).2:=by
  unfold Fits;have:sz (iA G f lx).2=(iA G f lx).2.n+(iA G f lx).2.out.size:=rfl;omega
 have hosz:(iA G f lx).2.out.size<=97000000:=by
  have:sz (iA G f lx).2=(iA G f lx).2.n+(iA G f lx).2.out.size:=rfl;omega
 have cL:=Nn lx f hT hQ hp hfit
 cases hb0:(iA G f lx).1 with
 |false=>
  rw [hb0] at cL;refine aw bN mix Tryz.func4 rfl rfl B1 (zO rfl) ?_
  repeat'(first|(with_reducible first|(refine zz ?_;try intro K hK)|refine zi ?_|refine zh ?_)|((first|apply hK _ _ rfl|apply hK);clear hK K)|(guard_hyp hK;first|refine zx ?_|apply ab|apply aa|refine zW ?_|(refine zQ (cA) ?_)|(refine zQ (cG) ?_)|refine iC 1 (cL) ?_|intro b0 hb)|((first|refine zj ?_|guard_hyp hK);refine zY ?_ ?_;all_goals(intro hb;(try simp only [sn,sb] at hb);try exact ao)))
  exact lC rfl rfl rfl
 |true=>
  rw [hb0] at cL;have hmk:=j8 hGC hb0;have hcut:∀j:Int,((iA G f lx).2.mark:Int)<=j->j < ((iA G f lx).2.out.size:Int)->(mw dV ((iA G f lx).2.out.extract 0 j.toNat)).2≠none:=fun j h1 h2=>ZF hGC hb0 A8 A8
  have hmore:(∀t,(bQ more 0).1=[t]->(bQ more 0).2=none->(mw dV ((iA G f lx).2.out ++ bA [32] ++ more)).2=none)/\
    ((∀t r,(bQ more 0).2=none->(bQ more 0).1=t :: r->t.kind≠0/\(t.kind≠1\/t.text≠eQ)/\(t.kind≠1\/t.text≠cd))->(mw dV ((iA G f lx).2.out ++ bA [32] ++ more)).2≠none):=
   ⟨fun t h1 h2=>ZC hGC hb0 h1 h2,fun h=>Zg hGC hb0 h⟩
  generalize (iA G f lx).2=σ at *;clear hfit hsz hb0 hGC hGL hT hQ;have hz2:(σ.out ++ bA [32] ++ more).size=σ.out.size+1+more.size:=by rw [B8,B8];rfl
  have cH:=La (σ.out ++ bA [32] ++ more) A8;have cS:=j3 more A8
  have k1:σ.out.size+(⟨#[32]⟩:ByteArray).size<=9223372036854775807:=by
   have:(⟨#[32]⟩:ByteArray).size=1:=rfl;omega
  have k2:(σ.out ++ (⟨#[32]⟩:ByteArray)).size+more.size<=9223372036854775807:=by
   have:(⟨#[32]⟩:ByteArray).size=1:=rfl;rw [B8];omega
  have hb:=u6 (a:=i) (b:=(σ.out.size:Int) - (σ.mark:Int)) A8
  have cC:∀j:Int,(σ.mark:Int)<=j->j < (σ.out.size:Int)->Ok Tryz.prog 8 [gG (σ.out.extract 0 j.toNat)] false (.ba [tC (mw dV (σ.out.extract 0 j.toNat)).1,MX (some (y5 (σ.out.extract 0 j.toNat)))]):=fun j h1 h2=>by
   rw [<- y0 (hcut j h1 h2)];exact La _ (by rw [F5];omega)
  have cO:=LZ QY;obtain⟨c9,l9,k9,w9,cP⟩:=v8 (mw dV (σ.out ++ bA [32] ++ more)).2;have hs2:VT more=(match(bQ more 0).2 with|none=>.ba [tv (bQ more 0).1,.af .nilIface]|some f=>.ba [.sl [],MX (some f)]):=rfl;rw [hs2] at cS;have hf9:=rb more 0;have hh9:=Zc more 0;generalize (bQ more 0)=A at *;generalize (mw dV (σ.out ++ bA [32] ++ more))=R at *;obtain⟨D2,o2⟩:=R;obtain⟨L,lt⟩:=A;dsimp only at cS cH cP hmore hf9 hh9;obtain⟨hm1,hm2⟩:=hmore;clear hs2 hcut;have hne:∀t u r,L=t :: u :: r->lt=none->t.kind≠0:=fun t u r h _=>hh9 t u r h
  have tk0:∀{t:Tok} {r:List Tok},L=t :: r->lt=none->o2=none->(∀x,L≠[x])->t.kind=1/\(t.text=eQ\/t.text=cd):=fun {t r} e1 e2 e3 e4=>by
   have hk0:t.kind≠0:=by
    cases r with
    |nil=>exact absurd e1 (e4 t)
    |cons u r=>exact hh9 t u r e1
   refine I4 fun hn=>?_
   refine hm2 (fun t' r' _ e=>?_) e3;rw [e1] at e;obtain⟨rfl,-⟩:=List.cons.inj e;refine⟨hk0,?_,?_⟩
   ·by_cases c:t.kind=1/\t.text=eQ
    ·exact absurd ⟨c.1,Or.inl c.2⟩ hn
    ·by_cases c1:t.kind=1
     ·exact Or.inr fun h=>c ⟨c1,h⟩
     ·exact Or.inl c1
   ·by_cases c:t.kind=1/\t.text=cd
    ·exact absurd ⟨c.1,Or.inr c.2⟩ hn
    ·by_cases c1:t.kind=1
     ·exact Or.inr fun h=>c ⟨c1,h⟩
     ·exact Or.inl c1
  refine aw bN mix Tryz.func4 rfl rfl B1 (zO rfl) ?_
  repeat'(first|(refine ld (a:=Code.region 6 _ _) Unit (fun _=>⟨Tryz.f4.ntmps,[(3,.af (.string more)),(9,.af (.bool true)),(10,.ref 1 0 0 0),(12,.af (.int .i64 (i.tmod ((σ.out.size:Int) - (σ.mark:Int)))))],[(1,jG G σ)]⟩) (fun _=>True) ?_ ?_)|(with_reducible first|(refine zz ?_;try intro K hK)|refine zi ?_|refine zh ?_)|((first|apply hK _ _ rfl|apply hK);clear hK K)|(guard_hyp hK;first|refine zx ?_|apply ab|apply aa|refine zW ?_|(refine zQ (cA) ?_)|(refine zQ (cG) ?_)|refine iC 1 (cL) ?_|intro b0 hb)|((first|refine zj ?_|guard_hyp hK);refine zY ?_ ?_;all_goals(intro hb;(try simp only [sn,sb] at hb);try exact ao)))
  rotate_left
  ·intro R hR;clear cA cG cL cC cH cS cP cO
   repeat'(first|(with_reducible first|(refine zz ?_;try intro K hK)|refine zi ?_|refine zh ?_)|((first|apply hK _ _ rfl|apply hK);clear hK K)|(guard_hyp hK;first|refine zx ?_|apply ab|apply aa|refine zW ?_|intro b0 hb)|((first|refine zj ?_|guard_hyp hK);refine zY ?_ ?_;all_goals(intro hb;(try simp only [sn,sb] at hb);try exact ao)))
   exact hR _ () trivial (bx ⟨Lc.same _ trivial,Lc.same _ trivial,Lc.same _ rfl,Lc.same _ trivial,trivial⟩ ⟨bC rfl rfl,trivial⟩)
  rintro - -;clear cA cG cL;generalize i.tmod ((σ.out.size:Int) - (σ.mark:Int))=z at hb |-;obtain⟨hb1,hb2⟩:=hb
  repeat'(first|(refine ld (a:=(Code.region 7 _ _).seq (Code.cond _ _ _)) Int (fun y=>⟨Tryz.f4.ntmps,[(3,.af (.string more)),(9,.af (.bool true)),(10,.ref 1 0 0 0),(12,.af (.int .i64 y))],[(1,jG G σ)]⟩) (fun y=>0<=y/\y < (σ.out.size:Int) - (σ.mark:Int)) ?_ ?_)|(with_reducible first|(refine zz ?_;try intro K hK)|refine zi ?_|refine zh ?_)|((first|apply hK _ _ rfl|apply hK);clear hK K)|(guard_hyp hK;first|refine zx ?_|apply ab|apply aa|refine zW ?_|intro b0 hb)|((first|refine zj ?_|guard_hyp hK);refine zY ?_ ?_;all_goals(intro hb;(try simp only [sn,sb] at hb);try exact ao)))
  rotate_left
  ·intro R hR;clear cC cH cS cP cO
   repeat'(first|(with_reducible first|(refine zz ?_;try intro K hK)|refine zi ?_|refine zh ?_)|((first|apply hK _ _ rfl|apply hK);clear hK K)|(guard_hyp hK;first|refine zx ?_|apply ab|apply aa|refine zW ?_|intro b0 hb)|((first|refine zj ?_|guard_hyp hK);refine zY ?_ ?_;all_goals(intro hb;(try simp only [sn,sb] at hb);try exact ao)))
   ·exact hR _ _ A8 (bx ⟨Lc.same _ trivial,Lc.same _ trivial,Lc.same _ rfl,Lc.same _ trivial,trivial⟩ ⟨bC rfl rfl,trivial⟩)
   ·exact hR _ _ A8 (bx ⟨Lc.same _ trivial,Lc.same _ trivial,Lc.same _ rfl,Lc.same _ trivial,trivial⟩ ⟨bC rfl rfl,trivial⟩)
  intro y hy
  repeat'(first|(refine ld (a:=Code.region 9 _ _) Unit (fun _=>⟨Tryz.f4.ntmps,[(3,.af (.string more)),(9,.af (.bool true)),(10,.ref 1 0 0 0),(12,.af (.int .i64 (y+(σ.mark:Int))))],[(1,jG G σ)]⟩) (fun _=>True) ?_ ?_)|(with_reducible first|(refine zz ?_;try intro K hK)|refine zi ?_|refine zh ?_)|((first|apply hK _ _ rfl|apply hK);clear hK K)|(guard_hyp hK;first|refine zx ?_|apply ab|apply aa|refine zW ?_|intro b0 hb)|((first|refine zj ?_|guard_hyp hK);refine zY ?_ ?_;all_goals(intro hb;(try simp only [sn,sb] at hb);try exact ao)))
  rotate_left
  ·intro R hR;clear cC cH cS cP cO
   repeat'(first|(with_reducible first|(refine zz ?_;try intro K hK)|refine zi ?_|refine zh ?_)|((first|apply hK _ _ rfl|apply hK);clear hK K)|(guard_hyp hK;first|refine zx ?_|apply ab|apply aa|refine zW ?_|intro b0 hb)|((first|refine zj ?_|guard_hyp hK);refine zY ?_ ?_;all_goals(intro hb;(try simp only [sn,sb] at hb);try exact ao)))
   exact hR _ () trivial (bx ⟨Lc.same _ trivial,Lc.same _ trivial,Lc.same _ rfl,Lc.same _ trivial,trivial⟩ ⟨bC rfl rfl,trivial⟩)
  rintro - -;have hj1:(σ.mark:Int)<=y+(σ.mark:Int):=by omega
  have hj2:y+(σ.mark:Int) < (σ.out.size:Int):=by omega
  have cJ:=cC _ hj1 hj2;generalize y+(σ.mark:Int)=j at hj1 hj2 cJ |-;generalize y5 (σ.out.extract 0 j.toNat)=ff at cJ;generalize (mw dV (σ.out.extract 0 j.toNat)).1=D1 at cJ;clear cC
  repeat'(first|(refine ld (a:=Code.region 10 _ _) Unit (fun _=>⟨Tryz.f4.ntmps,[(3,.af (.string more)),(9,.af (.bool true)),(10,.ref 1 0 0 0),(14,Xk (some ff))],[(1,jG G σ)]⟩) (fun _=>True) ?_ ?_)|(with_reducible first|(refine zz ?_;try intro K hK)|refine zi ?_|refine zh ?_)|((first|apply hK _ _ rfl|apply hK);clear hK K)|(guard_hyp hK;first|refine zx ?_|apply ab|apply aa|refine zW ?_|intro b0 hb)|((first|refine zj ?_|guard_hyp hK);refine zY ?_ ?_;all_goals(intro hb;(try simp only [sn,sb] at hb);try exact ao)))
  rotate_left
  ·intro R hR;clear cH cS cP cO
   repeat'(first|(with_reducible first|(refine zz ?_;try intro K hK)|refine zi ?_|refine zh ?_)|((first|apply hK _ _ rfl|apply hK);clear hK K)|(guard_hyp hK;first|refine zx ?_|apply ab|apply aa|refine zW ?_|(refine zQ (cJ) ?_)|intro b0 hb)|((first|refine zj ?_|guard_hyp hK);refine zY ?_ ?_;all_goals(intro hb;(try simp only [sn,sb] at hb);try exact ao)))
   exact hR _ () trivial (bx ⟨Lc.same _ trivial,Lc.same _ trivial,Lc.same _ rfl,Lc.same _ trivial,trivial⟩ ⟨bC rfl rfl,trivial⟩)
  rintro - -;clear cJ
  repeat'(first|(refine ld (a:=Code.region 11 _ _) Unit (fun _=>⟨Tryz.f4.ntmps,[(3,.af (.string more)),(9,.af (.bool true)),(10,.ref 1 0 0 0),(16,.af (.bool true))],[(1,jG G σ)]⟩) (fun _=>True) ?_ ?_)|(with_reducible first|(refine zz ?_;try intro K hK)|refine zi ?_|refine zh ?_)|((first|apply hK _ _ rfl|apply hK);clear hK K)|(guard_hyp hK;first|refine zx ?_|apply ab|apply aa|refine zW ?_|intro b0 hb)|((first|refine zj ?_|guard_hyp hK);refine zY ?_ ?_;all_goals(intro hb;(try simp only [sn,sb] at hb);try exact ao)))
  rotate_left
  ·intro R hR;have cF:=cO ff;clear cH cS cP cO
   repeat'(first|(with_reducible first|(refine zz ?_;try intro K hK)|refine zi ?_|refine zh ?_)|((first|apply hK _ _ rfl|apply hK);clear hK K)|(guard_hyp hK;first|refine zx ?_|apply ab|apply aa|refine zW ?_|(refine zQ (cF) ?_)|intro b0 hb)|((first|refine zj ?_|guard_hyp hK);refine zY ?_ ?_;all_goals(intro hb;(try simp only [sn,sb] at hb);try exact ao)))
   exact hR _ () trivial (bx ⟨Lc.same _ trivial,Lc.same _ trivial,Lc.same _ rfl,Lc.same _ trivial,trivial⟩ ⟨bC rfl rfl,trivial⟩)
  rintro - -
  repeat'(first|(refine ld (a:=Code.region 12 _ _) Unit (fun _=>⟨Tryz.f4.ntmps,[(3,.af (.string more)),(9,.af (.bool true)),(16,.af (.bool true)),(18,Xk o2)],[]⟩) (fun _=>True) ?_ ?_)|(with_reducible first|(refine zz ?_;try intro K hK)|refine zi ?_|refine zh ?_)|((first|apply hK _ _ rfl|apply hK);clear hK K)|(guard_hyp hK;first|refine zx ?_|apply ab|apply aa|refine zW ?_|intro b0 hb)|((first|refine zj ?_|guard_hyp hK);refine zY ?_ ?_;all_goals(intro hb;(try simp only [sn,sb] at hb);try exact ao)))
  rotate_left
  ·intro R hR;clear cS cP cO hm1 hm2 tk0;cases o2
   all_goals
    repeat'(first|(guard_hyp hK;first|refine bK k1 ?_|refine bK k2 ?_)|(with_reducible first|(refine zz ?_;try intro K hK)|refine zi ?_|refine zh ?_)|((first|apply hK _ _ rfl|apply hK);clear hK K)|(guard_hyp hK;first|refine zx ?_|apply ab|apply aa|refine zW ?_|(refine zQ (cH) ?_)|intro b0 hb)|((first|refine zj ?_|guard_hyp hK);refine zY ?_ ?_;all_goals(intro hb;(try simp only [sn,sb] at hb);try exact ao)))
    exact hR _ () trivial (bx ⟨Lc.same _ trivial,Lc.same _ trivial,Lc.same _ trivial,Lc.same _ trivial,trivial⟩ trivial)
  rintro - -;clear cH cO
  cases lt with
  |some fl=>
   have ho2:=hm2 fun t r h=>by cases h
   obtain⟨f2,rfl⟩:∃f2,o2=some f2:=by
    cases o2 with
    |none=>exact absurd rfl ho2
    |some f2=>exact⟨f2,rfl⟩
   repeat'(first|(refine ld (a:=Code.region 13 _ _) Unit (fun _=>⟨Tryz.f4.ntmps,[(9,.af (.bool true)),(16,.af (.bool true)),(18,Xk (some f2)),(19,.ro true (.sl [])),(20,xd fl)],[]⟩) (fun _=>True) ?_ ?_)|(with_reducible first|(refine zz ?_;try intro K hK)|refine zi ?_|refine zh ?_)|((first|apply hK _ _ rfl|apply hK);clear hK K)|(guard_hyp hK;first|refine zx ?_|apply ab|apply aa|refine zW ?_|intro b0 hb)|((first|refine zj ?_|guard_hyp hK);refine zY ?_ ?_;all_goals(intro hb;(try simp only [sn,sb] at hb);try exact ao)))
   rotate_left
   ·intro R hR;clear cP hm1 hm2 tk0
    repeat'(first|(with_reducible first|(refine zz ?_;try intro K hK)|refine zi ?_|refine zh ?_)|((first|apply hK _ _ rfl|apply hK);clear hK K)|(guard_hyp hK;first|refine zx ?_|apply ab|apply aa|refine zW ?_|(refine zQ (cS) ?_)|intro b0 hb)|((first|refine zj ?_|guard_hyp hK);refine zY ?_ ?_;all_goals(intro hb;(try simp only [sn,sb] at hb);try exact ao)))
    exact hR _ () trivial (bx ⟨Lc.same _ trivial,Lc.same _ trivial,Lc.same _ trivial,Lc.same _ trivial,Lc.same _ trivial,trivial⟩ trivial)
   rintro - -;clear hm1 hm2 tk0 hf9 hh9 ho2 cS
   repeat'(first|(with_reducible first|(refine zz ?_;try intro K hK)|refine zi ?_|refine zh ?_)|((first|apply hK _ _ rfl|apply hK);clear hK K)|(guard_hyp hK;first|refine zx ?_|apply ab|apply aa|refine zW ?_|(refine zQ (cP) ?_)|intro b0 hb)|((first|refine zj ?_|guard_hyp hK);refine zY ?_ ?_;all_goals(intro hb;(try simp only [sn,sb] at hb);try exact ao)))
   all_goals exact lC rfl rfl rfl
  |none=>
   repeat'(first|(refine ld (a:=Code.region 13 _ _) Unit (fun _=>⟨Tryz.f4.ntmps,[(9,.af (.bool true)),(16,.af (.bool true)),(18,Xk o2),(19,.ro true (tv L)),(20,.af .nilIface)],[]⟩) (fun _=>True) ?_ ?_)|(with_reducible first|(refine zz ?_;try intro K hK)|refine zi ?_|refine zh ?_)|((first|apply hK _ _ rfl|apply hK);clear hK K)|(guard_hyp hK;first|refine zx ?_|apply ab|apply aa|refine zW ?_|intro b0 hb)|((first|refine zj ?_|guard_hyp hK);refine zY ?_ ?_;all_goals(intro hb;(try simp only [sn,sb] at hb);try exact ao)))
   rotate_left
   ·intro R hR;clear cP hm1 hm2 tk0;cases o2
    all_goals
     repeat'(first|(with_reducible first|(refine zz ?_;try intro K hK)|refine zi ?_|refine zh ?_)|((first|apply hK _ _ rfl|apply hK);clear hK K)|(guard_hyp hK;first|refine zx ?_|apply ab|apply aa|refine zW ?_|(refine zQ (cS) ?_)|intro b0 hb)|((first|refine zj ?_|guard_hyp hK);refine zY ?_ ?_;all_goals(intro hb;(try simp only [sn,sb] at hb);try exact ao)))
     exact hR _ () trivial (bx ⟨Lc.same _ trivial,Lc.same _ trivial,Lc.same _ trivial,Lc.same _ trivial,Lc.same _ trivial,trivial⟩ trivial)
   rintro - -;obtain⟨l0,t0,hl0,-⟩:=hf9 rfl;have hL0:L≠[]:=by rw [hl0];simp
   match L,hL0 with
   | [t],_=>
    obtain rfl:=hm1 t rfl rfl
    repeat'(first|(with_reducible first|(refine zz ?_;try intro K hK)|refine zi ?_|refine zh ?_)|((first|apply hK _ _ rfl|apply hK);clear hK K)|(guard_hyp hK;first|refine zx ?_|apply ab|apply aa|refine zW ?_|intro b0 hb)|((first|refine zj ?_|guard_hyp hK);refine zY ?_ ?_;all_goals(intro hb;(try simp only [sn,sb] at hb);try exact ao)))
    all_goals exact lC rfl rfl rfl
   |t :: u :: r,_=>
    repeat'(first|(refine ld (a:=Code.region 16 _ _) Unit (fun _=>⟨Tryz.f4.ntmps,[(9,.af (.bool true)),(16,.af (.bool true)),(18,Xk o2),(19,.ro true (tv (t :: u :: r))),(20,.af .nilIface),(21,.ref 0 0 0 0)],[(0,⟨4,[.agg [.af (.int .i8 0),.af (.string eS),.af (.int .i64 0),.af (.int .i64 0)]],0,true⟩)]⟩) (fun _=>True) ?_ ?_)|(with_reducible first|(refine zz ?_;try intro K hK)|refine zi ?_|refine zh ?_)|((first|apply hK _ _ rfl|apply hK);clear hK K)|(guard_hyp hK;first|refine zx ?_|apply ab|apply aa|refine zW ?_|intro b0 hb)|((first|refine zj ?_|guard_hyp hK);refine zY ?_ ?_;all_goals(intro hb;(try simp only [sn,sb] at hb);try exact ao)))
    rotate_left
    ·intro R hR;clear cP hm1 hm2 tk0 cS;cases o2
     all_goals
      repeat'(first|(with_reducible first|(refine zz ?_;try intro K hK)|refine zi ?_|refine zh ?_)|((first|apply hK _ _ rfl|apply hK);clear hK K)|(guard_hyp hK;first|refine zx ?_|apply ab|apply aa|refine zW ?_|intro b0 hb)|((first|refine zj ?_|guard_hyp hK);refine zY ?_ ?_;all_goals(intro hb;(try simp only [sn,sb] at hb);try exact ao)))
      exact hR _ () trivial (bx ⟨Lc.same _ trivial,Lc.same _ trivial,Lc.same _ trivial,Lc.same _ trivial,Lc.same _ trivial,Lc.same _ rfl,trivial⟩ ⟨bC rfl rfl,trivial⟩)
    rintro - -
    repeat'(first|(refine ld (a:=(Code.region 17 _ _).seq (Code.cond _ _ _)) Unit (fun _=>⟨Tryz.f4.ntmps,[(9,.af (.bool true)),(16,.af (.bool true)),(18,Xk o2),(20,.af .nilIface),(21,.ref 0 0 0 0)],[(0,⟨4,[.agg [.af (.int .i8 t.kind),.af (.string t.text),.af (.int .i64 t.line),.af (.int .i64 t.Ae)]],0,true⟩)]⟩) (fun _=>True) ?_ ?_)|(with_reducible first|(refine zz ?_;try intro K hK)|refine zi ?_|refine zh ?_)|((first|apply hK _ _ rfl|apply hK);clear hK K)|(guard_hyp hK;first|refine zx ?_|apply ab|apply aa|refine zW ?_|intro b0 hb)|((first|refine zj ?_|guard_hyp hK);refine zY ?_ ?_;all_goals(intro hb;(try simp only [sn,sb] at hb);try exact ao)))
    rotate_left
    ·intro R hR;clear cP hm1 hm2 tk0 cS;cases o2
     all_goals
      repeat'(first|(with_reducible first|(refine zz ?_;try intro K hK)|refine zi ?_|refine zh ?_)|((first|apply hK _ _ rfl|apply hK);clear hK K)|(guard_hyp hK;first|refine zx ?_|apply ab|apply aa|refine zW ?_|intro b0 hb)|((first|refine zj ?_|guard_hyp hK);refine zY ?_ ?_;all_goals(intro hb;(try simp only [sn,sb] at hb);try exact ao)))
      all_goals first|exact hR _ () trivial (bx ⟨Lc.same _ trivial,Lc.same _ trivial,Lc.same _ trivial,Lc.same _ trivial,Lc.same _ rfl,trivial⟩ ⟨bC rfl rfl,trivial⟩)|(exfalso;rw [B9] at hb;omega)
    rintro - -
    repeat'(first|(refine ld (a:=Code.region 19 _ _) Unit (fun _=>⟨Tryz.f4.ntmps,[(9,.af (.bool true)),(16,.af (.bool true)),(20,.af .nilIface),(21,.ref 0 0 0 0),(23,.af (.bool o2.isSome))],[(0,⟨4,[.agg [.af (.int .i8 t.kind),.af (.string t.text),.af (.int .i64 t.line),.af (.int .i64 t.Ae)]],0,true⟩)]⟩) (fun _=>True) ?_ ?_)|(with_reducible first|(refine zz ?_;try intro K hK)|refine zi ?_|refine zh ?_)|((first|apply hK _ _ rfl|apply hK);clear hK K)|(guard_hyp hK;first|refine zx ?_|apply ab|apply aa|refine zW ?_|intro b0 hb)|((first|refine zj ?_|guard_hyp hK);refine zY ?_ ?_;all_goals(intro hb;(try simp only [sn,sb] at hb);try exact ao)))
    rotate_left
    ·intro R hR;clear hm1 hm2 tk0 cS;cases o2
     all_goals
      repeat'(first|(with_reducible first|(refine zz ?_;try intro K hK)|refine zi ?_|refine zh ?_)|((first|apply hK _ _ rfl|apply hK);clear hK K)|(guard_hyp hK;first|refine zx ?_|apply ab|apply aa|refine zW ?_|(refine zQ (cP) ?_)|intro b0 hb)|((first|refine zj ?_|guard_hyp hK);refine zY ?_ ?_;all_goals(intro hb;(try simp only [sn,sb] at hb);try exact ao)))
      all_goals exact hR _ () trivial (bx ⟨Lc.same _ trivial,Lc.same _ trivial,Lc.same _ trivial,Lc.same _ rfl,Lc.same _ trivial,trivial⟩ ⟨bC rfl rfl,trivial⟩)
    rintro - -;clear cP hm1 hm2 cS
    cases o2 with
    |some f2=>
     repeat'(first|(with_reducible first|(refine zz ?_;try intro K hK)|refine zi ?_|refine zh ?_)|((first|apply hK _ _ rfl|apply hK);clear hK K)|(guard_hyp hK;first|refine zx ?_|apply ab|apply aa|refine zW ?_|intro b0 hb)|((first|refine zj ?_|guard_hyp hK);refine zY ?_ ?_;all_goals(intro hb;(try simp only [sn,sb] at hb);try exact ao)))
     all_goals exact lC rfl rfl rfl
    |none=>
     obtain⟨hk1,hk2⟩:=tk0 rfl rfl rfl (fun x h=>by cases h);obtain⟨tk,tt,tl,tc⟩:=t;dsimp only at hk1 hk2;subst hk1;rcases hk2 with rfl|rfl
     ·repeat'(first|(with_reducible first|(refine zz ?_;try intro K hK)|refine zi ?_|refine zh ?_)|((first|apply hK _ _ rfl|apply hK);clear hK K)|(guard_hyp hK;first|refine zx ?_|apply ab|apply aa|refine zW ?_|intro b0 hb)|((first|refine zj ?_|guard_hyp hK);refine zY ?_ ?_;all_goals(intro hb;(try simp only [sn,sb] at hb);try exact ao)))
      all_goals exact lC rfl rfl rfl
     ·repeat'(first|(with_reducible first|(refine zz ?_;try intro K hK)|refine zi ?_|refine zh ?_)|((first|apply hK _ _ rfl|apply hK);clear hK K)|(guard_hyp hK;first|refine zx ?_|apply ab|apply aa|refine zW ?_|intro b0 hb)|((first|refine zj ?_|guard_hyp hK);refine zY ?_ ?_;all_goals(intro hb;(try simp only [sn,sb] at hb);try exact ao)))
      all_goals first|exact lC rfl rfl rfl|exact lC rfl rfl (beq_self_eq_true _)
end Go.Ev
