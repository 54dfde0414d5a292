import Derived.Test.YtfdgaoihjedamaaGreatDoorLbg
import Derived.Test.YtfdgaoihjedamaaGreatDoorLbh
import Derived.Test.YtfdgaoihjedamaaGreatDoorLat
set_option linter.all false
set_option maxHeartbeats 4000000
set_option maxRecDepth 10000
namespace Go.Ev
open Go.Proofs
def subC : List Bool→Code→Code
 |false :: r,.seq a _=>subC r a
 |true :: r,.seq _ b=>subC r b
 |false :: r,.cond _ a _=>subC r a
 |true :: r,.cond _ _ b=>subC r b
 |_ :: r,.block _ c=>subC r c
 |_ :: r,.loop c=>subC r c
 |false :: r,.rangeFunc _ _ a _=>subC r a
 |true :: r,.rangeFunc _ _ _ b=>subC r b
 |_,c=>c
def opsOf : Code→Array Oper
 |.region _ o _=>o
 |_=>#[]
def p0 (v n:Nat)(b:V):Obj:=⟨5,[.agg [.own 5 v 0 n,b,.con (.int .i64 0),.con (.pointer none),.con (.int .i64 0)]],0,true⟩
def cel (v:V):Obj:=⟨1,[v],0,true⟩
def tkO (t:Tok):Obj:=⟨4,[vTok t],0,true⟩
def rdOb (s:ByteArray)(a:Nat):Obj:=⟨4,[lrV s a (placeF s a).1 (placeF s a).2],0,true⟩
def np : V:=.con (.pointer none)
def ohS (s:ByteArray)(L:List Tok)(v:Nat)(lt r0:V)(x:OH):OH:=
 (0,cel r0) :: (1,p0 v L.length lt) :: (2,cel (.ref 1 0 0 0)) :: (5,⟨4,L.map vTok,v,true⟩) :: (6,txO s) :: x
def ohX (s:ByteArray)(a:Nat)(t:Tok)(x:OH):OH:=(7,rdOb s a) :: (8,tkO t) :: x
def yl (l:Nat):V:=.con (.func (.yield l) #[] #[])
def evS (f:Nat):Env:=[(2,.ref 0 0 0 0),(3,.ref 2 0 0 0),(10,.wr (.fre f) 6 0 0 0)]
def evE (l:Nat):Env:=[(0,yl l),(3,.ref 7 0 0 0)]
def evW (l:Nat)(E:V):Env:=[(0,yl l),(3,.ref 7 0 0 0),(4,.ref 8 0 0 0),(5,E)]
def evY (l:Nat)(t:Tok)(E:V):Env:=(12,yl l) :: (13,vTok t) :: (14,E) :: evW l E
def evO (E:V):Env:=[(2,.ref 0 0 0 0),(3,.ref 2 0 0 0),(4,.ref 9 0 0 0),(5,E)]
theorem tk_cl (t:Tok)(oh:OH):(vTok t).cl oh:=V.flat.cl _ (tkV_flat t.kind t.text t.line t.col)
theorem cl_S {s:ByteArray}{L:List Tok}{v:Nat}{lt r0:V}{x:OH}(h1:lt.cl1 (ohS s L v lt r0 x))(h2:r0.cl (ohS s L v lt r0 x))(hx:clObjs (ohS s L v lt r0 x) x):clObjs (ohS s L v lt r0 x) (ohS s L v lt r0 x):=by
 refine⟨one_vs h2,one_vs fun u hu=>?_,one_vs rfl,fun u hu=>?_,one_vs trivial,hx⟩
 ·simp at hu
  rcases hu with rfl|rfl|rfl|rfl|rfl<;>first|exact h1|trivial|rfl
 ·obtain⟨t,-,rfl⟩:=List.mem_map.1 hu
  exact tk_cl t _
theorem cl_X {s:ByteArray}{a:Nat}{t:Tok}{oh x:OH}(h:clObjs oh x):clObjs oh (ohX s a t x):=⟨one_vs (V.flat.cl _ (lrV_flat _ _ _ _)),one_vs (tk_cl t _),h⟩
theorem so2 (s:ByteArray){Q:X→St→Prop}(h:∀st,leOH st.oh (ohS s [] 0 np np [])→leEnv (ohS s [] 0 np np []) st.env (evS 63)→Q .normal st) :
  evC Tryz.prog (OkR Tryz.prog) (subC [true,true,false,false] (Option.getD Tryz.f18.body .skip)) ⟨Tryz.f18.ntmps,[(0,.con (.string s)),(2,.ref 0 0 0 0),(3,.ref 2 0 0 0)],[(0,cel np),(1,p0 0 0 np),(2,cel (.ref 1 0 0 0)),(5,⟨4,[],0,true⟩)]⟩ Q:=by
 dsimp only [subC,Option.getD,Tryz.f18]
 unfold cel p0 np
 repeat'(first|(with_reducible first|(refine zz ?_;try intro K hK)|refine zI ?_|refine zt ?_|refine zf ?_)|((first|refine hK _ ?_|refine hK _ _ rfl ?_);clear hK K)|(guard_hyp hK;first|(refine zY ?zz ?_;case zz=>first|exact rfl|exact gJ)|refine fresh_n ?_|refine freshO_n ?_|refine zW ?_|(refine Or.inr (Exists.intro _ (Exists.intro _ (And.intro (Each_ok s) ?_))))|intro b0 hb)|((first|with_reducible refine zm ?_|guard_hyp hK);refine zY ?_ ?_;all_goals(intro hb;(try simp only [sn,sb] at hb);try exact ex0)))
 exact h _ ⟨rfl,rfl,rfl,rfl,rfl,trivial⟩ ⟨rfl,rfl,rfl,rfl,rfl,rfl,trivial⟩
theorem se0 (l:Nat)(s:ByteArray){Q:X→St→Prop}(h:∀st,leOH st.oh (ohS s [] 0 np np [(7,rdOb s 0)])→leEnv (ohS s [] 0 np np [(7,rdOb s 0)]) st.env (evE l)→Q .normal st) :
  evC Tryz.prog (OkR Tryz.prog) (subC [false] (Option.getD Tryz.f63.body .skip)) ⟨Tryz.f63.ntmps,argEnvV 0 [yl l,.ref 6 0 0 0],ohS s [] 0 np np []⟩ Q:=by
 dsimp only [subC,Option.getD,Tryz.f63]
 unfold yl ohS p0 cel txO np
 repeat'(first|(with_reducible first|(refine zz ?_;try intro K hK)|refine zI ?_|refine zt ?_|refine zf ?_)|((first|refine hK _ ?_|refine hK _ _ rfl ?_);clear hK K)|(guard_hyp hK;first|(refine zY ?zz ?_;case zz=>first|exact rfl|exact gJ)|refine fresh_n ?_|refine freshO_n ?_|refine zW ?_|intro b0 hb)|((first|with_reducible refine zm ?_|guard_hyp hK);refine zY ?_ ?_;all_goals(intro hb;(try simp only [sn,sb] at hb);try exact ex0)))
 exact h _ ⟨rfl,rfl,rfl,rfl,rfl,rfl,trivial⟩ ⟨rfl,trivial,rfl,rfl,trivial⟩
theorem se1 (l:Nat)(s:ByteArray)(L:List Tok)(v a:Nat)(hs:s.size≤1073741824)(ha:a≤s.size)(hc:(nxF s a).code=0){Q:X→St→Prop}
  (h:∀st,leOH st.oh (ohS s L v np np (ohX s (nxE s a) ⟨(nxF s a).kind,(nxF s a).text,(placeF s (blF s a).1).1,(placeF s (blF s a).1).2⟩ []))→leEnv (ohS s L v np np (ohX s (nxE s a) ⟨(nxF s a).kind,(nxF s a).text,(placeF s (blF s a).1).1,(placeF s (blF s a).1).2⟩ [])) st.env (evW l (.con .nilIface))→Q .normal st) :
  evC Tryz.prog (OkR Tryz.prog) (subC [true,true,true,true,false] (Option.getD Tryz.f63.body .skip)) ⟨Tryz.f63.ntmps,evE l,ohS s L v np np [(7,rdOb s a)]⟩ Q:=by
 have hn:=next_ok s a hs ha
 unfold lrP at hn
 rw [show nxV (nxF s a) (placeF s (blF s a).1).1 (placeF s (blF s a).1).2=.tup [tkV (nxF s a).kind (nxF s a).text (placeF s (blF s a).1).1 (placeF s (blF s a).1).2,.con .nilIface] from if_pos hc] at hn
 dsimp only [subC,Option.getD,Tryz.f63]
 unfold evE ohS yl p0 cel txO np rdOb
 repeat'(first|(with_reducible first|(refine zz ?_;try intro K hK)|refine zI ?_|refine zt ?_|refine zf ?_)|((first|refine hK _ ?_|refine hK _ _ rfl ?_);clear hK K)|(guard_hyp hK;first|(refine zY ?zz ?_;case zz=>first|exact rfl|exact gJ)|refine fresh_n ?_|refine freshO_n ?_|refine zW ?_|refine zg ([(0,7,0)]) (hn) ([(7,⟨4,[lrV s a (placeF s a).1 (placeF s a).2],0,true⟩)]) ([]) ([(7,⟨4,[lrV s (nxE s a) (placeF s (nxE s a)).1 (placeF s (nxE s a)).2],0,true⟩)]) (.tup [tkV (nxF s a).kind (nxF s a).text (placeF s (blF s a).1).1 (placeF s (blF s a).1).2,.con .nilIface]) ?_|intro b0 hb)|((first|with_reducible refine zm ?_|guard_hyp hK);refine zY ?_ ?_;all_goals(intro hb;(try simp only [sn,sb] at hb);try exact ex0)))
 exact h _ ⟨rfl,rfl,rfl,rfl,rfl,rfl,rfl,trivial⟩ ⟨rfl,trivial,rfl,rfl,rfl,rfl,rfl,trivial,trivial⟩
theorem se1b (l:Nat)(s:ByteArray)(L:List Tok)(v a:Nat)(hs:s.size≤1073741824)(ha:a≤s.size)(hc:¬(nxF s a).code=0){Q:X→St→Prop}
  (h:∀st,leOH st.oh (ohS s L v np np (ohX s (nxE s a) ⟨0,eS,0,0⟩ []))→leEnv (ohS s L v np np (ohX s (nxE s a) ⟨0,eS,0,0⟩ [])) st.env (evW l (feV ⟨(nxF s a).code,(placeF s (blF s a).1).1,(placeF s (blF s a).1).2,(nxF s a).word⟩))→Q .normal st) :
  evC Tryz.prog (OkR Tryz.prog) (subC [true,true,true,true,false] (Option.getD Tryz.f63.body .skip)) ⟨Tryz.f63.ntmps,evE l,ohS s L v np np [(7,rdOb s a)]⟩ Q:=by
 have hn:=next_ok s a hs ha
 unfold lrP at hn
 rw [show nxV (nxF s a) (placeF s (blF s a).1).1 (placeF s (blF s a).1).2=failV ⟨(nxF s a).code,(placeF s (blF s a).1).1,(placeF s (blF s a).1).2,(nxF s a).word⟩ from if_neg hc] at hn
 dsimp only [subC,Option.getD,Tryz.f63]
 unfold evE ohS yl p0 cel txO np rdOb
 repeat'(first|(with_reducible first|(refine zz ?_;try intro K hK)|refine zI ?_|refine zt ?_|refine zf ?_)|((first|refine hK _ ?_|refine hK _ _ rfl ?_);clear hK K)|(guard_hyp hK;first|(refine zY ?zz ?_;case zz=>first|exact rfl|exact gJ)|refine fresh_n ?_|refine freshO_n ?_|refine zW ?_|refine zg ([(0,7,0)]) (hn) ([(7,⟨4,[lrV s a (placeF s a).1 (placeF s a).2],0,true⟩)]) ([]) ([(7,⟨4,[lrV s (nxE s a) (placeF s (nxE s a)).1 (placeF s (nxE s a)).2],0,true⟩)]) (failV ⟨(nxF s a).code,(placeF s (blF s a).1).1,(placeF s (blF s a).1).2,(nxF s a).word⟩) ?_|intro b0 hb)|((first|with_reducible refine zm ?_|guard_hyp hK);refine zY ?_ ?_;all_goals(intro hb;(try simp only [sn,sb] at hb);try exact ex0)))
 exact h _ ⟨rfl,rfl,rfl,rfl,rfl,rfl,rfl,trivial⟩ ⟨rfl,trivial,rfl,rfl,rfl,rfl,rfl,trivial,trivial⟩
theorem se2 (l:Nat)(s:ByteArray)(L:List Tok)(v a:Nat)(t:Tok)(E:V)(hE:E=.con .nilIface∨∃f,E=feV f)(K:St→Prop)
  (hK:∀st,(leOH st.oh (ohS s L v np np (ohX s a t []))∧leEnv (ohS s L v np np (ohX s a t [])) st.env (evY l t E))→K st) :
  evR Tryz.prog (OkR Tryz.prog) (opsOf (subC [true,true,true,true,true,false] (Option.getD Tryz.f63.body .skip))) 0 (((opsOf (subC [true,true,true,true,true,false] (Option.getD Tryz.f63.body .skip))).toList.drop 0).take 3) Tryz.f63.ntmps (evW l E) (ohS s L v np np (ohX s a t [])) K:=by
 dsimp only [subC,opsOf,Option.getD,Tryz.f63]
 rcases hE with rfl|⟨f,rfl⟩
 ·repeat'(first|(with_reducible first|(refine zz ?_;try intro K hK)|refine zI ?_|refine zt ?_|refine zf ?_)|((first|refine hK _ ?_|refine hK _ _ rfl ?_);clear hK K)|(guard_hyp hK;first|(refine zY ?zz ?_;case zz=>first|exact rfl|exact gJ)|refine fresh_n ?_|refine freshO_n ?_|refine zW ?_|intro b0 hb)|((first|with_reducible refine zm ?_|guard_hyp hK);refine zY ?_ ?_;all_goals(intro hb;(try simp only [sn,sb] at hb);try exact ex0)))
  exact⟨⟨rfl,rfl,rfl,rfl,rfl,rfl,rfl,trivial⟩,rfl,trivial,rfl,tk_cl t _,rfl,trivial,rfl,trivial,rfl,rfl,rfl,rfl,rfl,trivial,trivial⟩
 ·repeat'(first|(with_reducible first|(refine zz ?_;try intro K hK)|refine zI ?_|refine zt ?_|refine zf ?_)|((first|refine hK _ ?_|refine hK _ _ rfl ?_);clear hK K)|(guard_hyp hK;first|(refine zY ?zz ?_;case zz=>first|exact rfl|exact gJ)|refine fresh_n ?_|refine freshO_n ?_|refine zW ?_|intro b0 hb)|((first|with_reducible refine zm ?_|guard_hyp hK);refine zY ?_ ?_;all_goals(intro hb;(try simp only [sn,sb] at hb);try exact ex0)))
  exact⟨⟨rfl,rfl,rfl,rfl,rfl,rfl,rfl,trivial⟩,rfl,trivial,rfl,tk_cl t _,rfl,trivial,rfl,trivial,rfl,rfl,rfl,rfl,rfl,trivial,trivial⟩
theorem se4 (l:Nat)(s:ByteArray)(L:List Tok)(v a:Nat)(t:Tok)(K:St→Prop)
  (hK:∀st,(leOH st.oh (ohS s L v np np [(7,rdOb s a)])∧leEnv (ohS s L v np np [(7,rdOb s a)]) st.env [(0,yl l),(3,.ref 7 0 0 0),(25,.con (.bool (decide (t.kind=0))))])→K st) :
  evR Tryz.prog (OkR Tryz.prog) (opsOf (subC [true,true,true,true,true,false] (Option.getD Tryz.f63.body .skip))) 4 (((opsOf (subC [true,true,true,true,true,false] (Option.getD Tryz.f63.body .skip))).toList.drop 4).take 10) Tryz.f63.ntmps ((15,.con (.bool true)) :: evY l t (.con .nilIface)) (ohS s L v np np (ohX s a t [])) K:=by
 dsimp only [subC,opsOf,Option.getD,Tryz.f63]
 repeat'(first|(with_reducible first|(refine zz ?_;try intro K hK)|refine zI ?_|refine zt ?_|refine zf ?_)|((first|refine hK _ ?_|refine hK _ _ rfl ?_);clear hK K)|(guard_hyp hK;first|(refine zY ?zz ?_;case zz=>first|exact rfl|exact gJ)|refine fresh_n ?_|refine freshO_n ?_|refine zW ?_|intro b0 hb)|((first|with_reducible refine zm ?_|guard_hyp hK);refine zY ?_ ?_;all_goals(intro hb;(try simp only [sn,sb] at hb);try exact ex0)))
 exact⟨⟨rfl,rfl,rfl,rfl,rfl,rfl,trivial⟩,rfl,trivial,rfl,rfl,rfl,trivial,trivial⟩
theorem se4b (l:Nat)(s:ByteArray)(L:List Tok)(v a:Nat)(t:Tok)(f:Flt)(lt r0:V)(K:St→Prop)
  (hK:∀st,(leOH st.oh (ohS s L v lt r0 [])∧leEnv (ohS s L v lt r0 []) st.env [(25,.con (.bool true))])→K st) :
  evR Tryz.prog (OkR Tryz.prog) (opsOf (subC [true,true,true,true,true,false] (Option.getD Tryz.f63.body .skip))) 4 (((opsOf (subC [true,true,true,true,true,false] (Option.getD Tryz.f63.body .skip))).toList.drop 4).take 10) Tryz.f63.ntmps ((15,.con (.bool false)) :: evY l t (feV f)) (ohS s L v lt r0 (ohX s a t [])) K:=by
 dsimp only [subC,opsOf,Option.getD,Tryz.f63]
 repeat'(first|(with_reducible first|(refine zz ?_;try intro K hK)|refine zI ?_|refine zt ?_|refine zf ?_)|((first|refine hK _ ?_|refine hK _ _ rfl ?_);clear hK K)|(guard_hyp hK;first|(refine zY ?zz ?_;case zz=>first|exact rfl|exact gJ)|refine fresh_n ?_|refine freshO_n ?_|refine zW ?_|intro b0 hb)|((first|with_reducible refine zm ?_|guard_hyp hK);refine zY ?_ ?_;all_goals(intro hb;(try simp only [sn,sb] at hb);try exact ex0)))
 exact⟨⟨rfl,rfl,rfl,rfl,rfl,trivial⟩,rfl,trivial,trivial⟩
theorem so3 (s:ByteArray)(L:List Tok)(v a:Nat)(t:Tok)(E:V)(hE:∀oh,E.cl oh){Q:X→St→Prop}
  (h:∀st,leOH st.oh (ohS s L v np np (ohX s a t [(9,tkO t)]))→leEnv (ohS s L v np np (ohX s a t [(9,tkO t)])) st.env [(2,.ref 0 0 0 0),(3,.ref 2 0 0 0),(4,.ref 9 0 0 0),(12,E)]→Q .normal st) :
  evC Tryz.prog (OkR Tryz.prog) (subC [true,true,false,true,false,false,false] (Option.getD Tryz.f18.body .skip)) ⟨Tryz.f18.ntmps,(12,E) :: (11,vTok t) :: evS 63,ohS s L v np np (ohX s a t [])⟩ Q:=by
 dsimp only [subC,Option.getD,Tryz.f18]
 repeat'(first|(with_reducible first|(refine zz ?_;try intro K hK)|refine zI ?_|refine zt ?_|refine zf ?_)|((first|refine hK _ ?_|refine hK _ _ rfl ?_);clear hK K)|(guard_hyp hK;first|(refine zY ?zz ?_;case zz=>first|exact rfl|exact gJ)|refine fresh_n ?_|refine freshO_n ?_|refine zW ?_|intro b0 hb)|((first|with_reducible refine zm ?_|guard_hyp hK);refine zY ?_ ?_;all_goals(intro hb;(try simp only [sn,sb] at hb);try exact ex0)))
 exact h _ ⟨rfl,rfl,rfl,rfl,rfl,rfl,rfl,rfl,trivial⟩ ⟨rfl,rfl,rfl,rfl,rfl,rfl,rfl,hE _,trivial⟩
theorem so4 (s:ByteArray)(L:List Tok)(v a:Nat)(t:Tok)(E:V)(hE:E=.con .nilIface∨∃f,E=feV f){Q:X→St→Prop}
  (h:∀st,leOH st.oh (ohS s L v np np (ohX s a t [(9,tkO t)]))→leEnv (ohS s L v np np (ohX s a t [(9,tkO t)])) st.env (evO E)→Q .normal st) :
  evC Tryz.prog (OkR Tryz.prog) (subC [true,true,false,true,false,false,true] (Option.getD Tryz.f18.body .skip)) ⟨Tryz.f18.ntmps,[(2,.ref 0 0 0 0),(3,.ref 2 0 0 0),(4,.ref 9 0 0 0),(12,E)],ohS s L v np np (ohX s a t [(9,tkO t)])⟩ Q:=by
 dsimp only [subC,Option.getD,Tryz.f18]
 rcases hE with rfl|⟨f,rfl⟩
 ·repeat'(first|(with_reducible first|(refine zz ?_;try intro K hK)|refine zI ?_|refine zt ?_|refine zf ?_)|((first|refine hK _ ?_|refine hK _ _ rfl ?_);clear hK K)|(guard_hyp hK;first|(refine zY ?zz ?_;case zz=>first|exact rfl|exact gJ)|refine fresh_n ?_|refine freshO_n ?_|refine zW ?_|intro b0 hb)|((first|with_reducible refine zm ?_|guard_hyp hK);refine zY ?_ ?_;all_goals(intro hb;(try simp only [sn,sb] at hb);try exact ex0)))
  exact h _ ⟨rfl,rfl,rfl,rfl,rfl,rfl,rfl,rfl,trivial⟩ ⟨rfl,rfl,rfl,rfl,rfl,rfl,rfl,trivial,trivial⟩
 ·repeat'(first|(with_reducible first|(refine zz ?_;try intro K hK)|refine zI ?_|refine zt ?_|refine zf ?_)|((first|refine hK _ ?_|refine hK _ _ rfl ?_);clear hK K)|(guard_hyp hK;first|(refine zY ?zz ?_;case zz=>first|exact rfl|exact gJ)|refine fresh_n ?_|refine freshO_n ?_|refine zW ?_|intro b0 hb)|((first|with_reducible refine zm ?_|guard_hyp hK);refine zY ?_ ?_;all_goals(intro hb;(try simp only [sn,sb] at hb);try exact ex0)))
  exact h _ ⟨rfl,rfl,rfl,rfl,rfl,rfl,rfl,rfl,trivial⟩ ⟨rfl,rfl,rfl,rfl,rfl,rfl,rfl,trivial,trivial⟩
theorem so5 (s:ByteArray)(L:List Tok)(v a:Nat)(t:Tok){Q:X→St→Prop}
  (h:∀st,leOH st.oh (ohS s L v np np (ohX s a t [(9,tkO t)]))→leEnv (ohS s L v np np (ohX s a t [(9,tkO t)])) st.env ((14,.con (.bool false)) :: evO (.con .nilIface))→Q .normal st) :
  evC Tryz.prog (OkR Tryz.prog) (subC [true,true,false,true,false,true,false,false,false] (Option.getD Tryz.f18.body .skip)) ⟨Tryz.f18.ntmps,evO (.con .nilIface),ohS s L v np np (ohX s a t [(9,tkO t)])⟩ Q:=by
 dsimp only [subC,Option.getD,Tryz.f18]
 repeat'(first|(with_reducible first|(refine zz ?_;try intro K hK)|refine zI ?_|refine zt ?_|refine zf ?_)|((first|refine hK _ ?_|refine hK _ _ rfl ?_);clear hK K)|(guard_hyp hK;first|(refine zY ?zz ?_;case zz=>first|exact rfl|exact gJ)|refine fresh_n ?_|refine freshO_n ?_|refine zW ?_|intro b0 hb)|((first|with_reducible refine zm ?_|guard_hyp hK);refine zY ?_ ?_;all_goals(intro hb;(try simp only [sn,sb] at hb);try exact ex0)))
 exact h _ ⟨rfl,rfl,rfl,rfl,rfl,rfl,rfl,rfl,trivial⟩ ⟨rfl,trivial,rfl,rfl,rfl,rfl,rfl,rfl,rfl,trivial,trivial⟩
theorem so5b (s:ByteArray)(L:List Tok)(v a:Nat)(t:Tok)(f:Flt){Q:X→St→Prop}
  (h:∀st,leOH st.oh (ohS s L v np np (ohX s a t [(9,tkO t)]))→leEnv (ohS s L v np np (ohX s a t [(9,tkO t)])) st.env ((14,.con (.bool true)) :: evO (feV f))→Q .normal st) :
  evC Tryz.prog (OkR Tryz.prog) (subC [true,true,false,true,false,true,false,false,false] (Option.getD Tryz.f18.body .skip)) ⟨Tryz.f18.ntmps,evO (feV f),ohS s L v np np (ohX s a t [(9,tkO t)])⟩ Q:=by
 dsimp only [subC,Option.getD,Tryz.f18]
 repeat'(first|(with_reducible first|(refine zz ?_;try intro K hK)|refine zI ?_|refine zt ?_|refine zf ?_)|((first|refine hK _ ?_|refine hK _ _ rfl ?_);clear hK K)|(guard_hyp hK;first|(refine zY ?zz ?_;case zz=>first|exact rfl|exact gJ)|refine fresh_n ?_|refine freshO_n ?_|refine zW ?_|intro b0 hb)|((first|with_reducible refine zm ?_|guard_hyp hK);refine zY ?_ ?_;all_goals(intro hb;(try simp only [sn,sb] at hb);try exact ex0)))
 exact h _ ⟨rfl,rfl,rfl,rfl,rfl,rfl,rfl,rfl,trivial⟩ ⟨rfl,trivial,rfl,rfl,rfl,rfl,rfl,rfl,rfl,trivial,trivial⟩
theorem so10 (s:ByteArray)(L:List Tok)(v a:Nat)(t:Tok)(hL:L.length≤1073741824){Q:X→St→Prop}
  (h:∀st,leOH st.oh (ohS s (L ++ [t]) (v+1) np np (ohX s a t []))→Q .normal st) :
  evC Tryz.prog (OkR Tryz.prog) (subC [true,true,false,true,false,true,false,true] (Option.getD Tryz.f18.body .skip)) ⟨Tryz.f18.ntmps,(14,.con (.bool false)) :: evO (.con .nilIface),ohS s L v np np (ohX s a t [(9,tkO t)])⟩ Q:=by
 dsimp only [subC,Option.getD,Tryz.f18]
 unfold ohS ohX evO p0 cel tkO np
 repeat'(first|(with_reducible first|(refine zz ?_;try intro K hK)|refine zI ?_|refine zt ?_|refine zf ?_)|((first|refine hK _ ?_|refine hK _ _ rfl ?_);clear hK K)|(guard_hyp hK;first|(refine zY ?zz ?_;case zz=>first|exact rfl|exact gJ)|refine fresh_n ?_|refine freshO_n ?_|refine zW ?_|intro b0 hb)|((first|with_reducible refine zm ?_|guard_hyp hK);refine zY ?_ ?_;all_goals(intro hb;(try simp only [sn,sb] at hb);try exact ex0)))
 refine h _ ⟨rfl,?_,rfl,?_,rfl,rfl,rfl,trivial⟩
 ·rw [List.length_append]
  exact rfl
 ·show some (⟨4,_,v+1,true⟩:Obj)=some ⟨4,_,v+1,true⟩
  refine congrArg some (congrArg (fun l=>(⟨4,l,v+1,true⟩:Obj)) ?_)
  rw [List.map_append]
  show List.take L.length (L.map vTok) ++ _=_
  rw [List.take_of_length_le (by rw [List.length_map];omega)];rfl
theorem so6 (s:ByteArray)(L:List Tok)(v a:Nat)(t:Tok)(f:Flt){Q:X→St→Prop}
  (h:∀st,leOH st.oh (ohS s L v np np (ohX s a t [(9,tkO t),(10,cel np)]))→leEnv (ohS s L v np np (ohX s a t [(9,tkO t),(10,cel np)])) st.env ((6,.ref 10 0 0 0) :: evO (feV f))→Q .normal st) :
  evC Tryz.prog (OkR Tryz.prog) (subC [true,true,false,true,false,true,false,false,true,false,false] (Option.getD Tryz.f18.body .skip)) ⟨Tryz.f18.ntmps,(14,.con (.bool true)) :: evO (feV f),ohS s L v np np (ohX s a t [(9,tkO t)])⟩ Q:=by
 dsimp only [subC,Option.getD,Tryz.f18]
 repeat'(first|(with_reducible first|(refine zz ?_;try intro K hK)|refine zI ?_|refine zt ?_|refine zf ?_)|((first|refine hK _ ?_|refine hK _ _ rfl ?_);clear hK K)|(guard_hyp hK;first|(refine zY ?zz ?_;case zz=>first|exact rfl|exact gJ)|refine fresh_n ?_|refine freshO_n ?_|refine zW ?_|intro b0 hb)|((first|with_reducible refine zm ?_|guard_hyp hK);refine zY ?_ ?_;all_goals(intro hb;(try simp only [sn,sb] at hb);try exact ex0)))
 exact h _ ⟨rfl,rfl,rfl,rfl,rfl,rfl,rfl,rfl,rfl,trivial⟩ ⟨rfl,rfl,rfl,rfl,rfl,rfl,rfl,rfl,rfl,trivial,trivial⟩
theorem so7 (s:ByteArray)(L:List Tok)(v a:Nat)(t:Tok)(f:Flt){Q:X→St→Prop}
  (h:∀st,leOH st.oh (ohS s L v np np (ohX s a t [(9,tkO t),(10,cel (vFp (some f)))]))→leEnv (ohS s L v np np (ohX s a t [(9,tkO t),(10,cel (vFp (some f)))])) st.env ((17,.con (.bool true)) :: (6,.ref 10 0 0 0) :: evO (feV f))→Q .normal st) :
  evC Tryz.prog (OkR Tryz.prog) (subC [true,true,false,true,false,true,false,false,true,false,true,false,false,false] (Option.getD Tryz.f18.body .skip)) ⟨Tryz.f18.ntmps,(6,.ref 10 0 0 0) :: evO (feV f),ohS s L v np np (ohX s a t [(9,tkO t),(10,cel np)])⟩ Q:=by
 have hA:=as_ok f
 dsimp only [subC,Option.getD,Tryz.f18]
 unfold ohS ohX evO p0 cel tkO np feV
 repeat'(first|(with_reducible first|(refine zz ?_;try intro K hK)|refine zI ?_|refine zt ?_|refine zf ?_)|((first|refine hK _ ?_|refine hK _ _ rfl ?_);clear hK K)|(guard_hyp hK;first|(refine zY ?zz ?_;case zz=>first|exact rfl|exact gJ)|refine fresh_n ?_|refine freshO_n ?_|refine zW ?_|(refine Or.inr (Or.inr (Or.inl (as_call true 10 (hA) ?hga ?hgb ?_)));(case hga=>rfl);(case hgb=>rfl))|intro b0 hb)|((first|with_reducible refine zm ?_|guard_hyp hK);refine zY ?_ ?_;all_goals(intro hb;(try simp only [sn,sb] at hb);try exact ex0)))
 exact h _ ⟨rfl,rfl,rfl,rfl,rfl,rfl,rfl,rfl,rfl,trivial⟩ ⟨rfl,trivial,rfl,rfl,rfl,rfl,rfl,rfl,rfl,rfl,rfl,trivial,trivial⟩
theorem so8 (s:ByteArray)(L:List Tok)(v a:Nat)(t:Tok)(f:Flt){Q:X→St→Prop}
  (h:∀st,leOH st.oh (ohS s L v (vFp (some f)) np (ohX s a t []))→leEnv (ohS s L v (vFp (some f)) np (ohX s a t [])) st.env [(2,.ref 0 0 0 0),(3,.ref 2 0 0 0)]→Q .normal st) :
  evC Tryz.prog (OkR Tryz.prog) (subC [true,true,false,true,false,true,false,false,true,false,true,false,true,false] (Option.getD Tryz.f18.body .skip)) ⟨Tryz.f18.ntmps,(17,.con (.bool true)) :: (6,.ref 10 0 0 0) :: evO (feV f),ohS s L v np np (ohX s a t [(9,tkO t),(10,cel (vFp (some f)))])⟩ Q:=by
 dsimp only [subC,Option.getD,Tryz.f18]
 unfold ohS ohX evO p0 cel tkO np vFp
 repeat'(first|(with_reducible first|(refine zz ?_;try intro K hK)|refine zI ?_|refine zt ?_|refine zf ?_)|((first|refine hK _ ?_|refine hK _ _ rfl ?_);clear hK K)|(guard_hyp hK;first|(refine zY ?zz ?_;case zz=>first|exact rfl|exact gJ)|refine fresh_n ?_|refine freshO_n ?_|refine zW ?_|intro b0 hb)|((first|with_reducible refine zm ?_|guard_hyp hK);refine zY ?_ ?_;all_goals(intro hb;(try simp only [sn,sb] at hb);try exact ex0)))
 exact h _ ⟨rfl,rfl,rfl,rfl,rfl,rfl,rfl,trivial⟩ ⟨rfl,rfl,rfl,rfl,trivial⟩
theorem so9 (s:ByteArray)(L:List Tok)(v a:Nat)(t:Tok)(f:Flt){Q:X→St→Prop}
  (h:∀st,leOH st.oh (ohS s L v (vFp (some f)) (.ref 1 0 0 0) (ohX s a t []))→leEnv (ohS s L v (vFp (some f)) (.ref 1 0 0 0) (ohX s a t [])) st.env [(2,.ref 0 0 0 0)]→Q .normal st) :
  evC Tryz.prog (OkR Tryz.prog) (subC [true,true,false,true,false,true,false,false,true,false,true,true,false] (Option.getD Tryz.f18.body .skip)) ⟨Tryz.f18.ntmps,[(2,.ref 0 0 0 0),(3,.ref 2 0 0 0)],ohS s L v (vFp (some f)) np (ohX s a t [])⟩ Q:=by
 dsimp only [subC,Option.getD,Tryz.f18]
 unfold ohS ohX p0 cel tkO np vFp
 repeat'(first|(with_reducible first|(refine zz ?_;try intro K hK)|refine zI ?_|refine zt ?_|refine zf ?_)|((first|refine hK _ ?_|refine hK _ _ rfl ?_);clear hK K)|(guard_hyp hK;first|(refine zY ?zz ?_;case zz=>first|exact rfl|exact gJ)|refine fresh_n ?_|refine freshO_n ?_|refine zW ?_|intro b0 hb)|((first|with_reducible refine zm ?_|guard_hyp hK);refine zY ?_ ?_;all_goals(intro hb;(try simp only [sn,sb] at hb);try exact ex0)))
 exact h _ ⟨rfl,rfl,rfl,rfl,rfl,rfl,rfl,trivial⟩ ⟨rfl,rfl,trivial⟩
theorem so11 (s:ByteArray)(L:List Tok)(v:Nat){Q:X→St→Prop}
  (h:∀st,leOH st.oh (ohS s L v np (.ref 1 0 0 0) [])→leEnv (ohS s L v np (.ref 1 0 0 0) []) st.env [(2,.ref 0 0 0 0)]→Q .normal st) :
  evC Tryz.prog (OkR Tryz.prog) (subC [true,true,true,false] (Option.getD Tryz.f18.body .skip)) ⟨Tryz.f18.ntmps,evS 63,ohS s L v np np []⟩ Q:=by
 dsimp only [subC,Option.getD,Tryz.f18]
 unfold ohS evS p0 cel np
 repeat'(first|(with_reducible first|(refine zz ?_;try intro K hK)|refine zI ?_|refine zt ?_|refine zf ?_)|((first|refine hK _ ?_|refine hK _ _ rfl ?_);clear hK K)|(guard_hyp hK;first|(refine zY ?zz ?_;case zz=>first|exact rfl|exact gJ)|refine fresh_n ?_|refine freshO_n ?_|refine zW ?_|intro b0 hb)|((first|with_reducible refine zm ?_|guard_hyp hK);refine zY ?_ ?_;all_goals(intro hb;(try simp only [sn,sb] at hb);try exact ex0)))
 exact h _ ⟨rfl,rfl,rfl,rfl,rfl,trivial⟩ ⟨rfl,rfl,trivial⟩
end Go.Ev
