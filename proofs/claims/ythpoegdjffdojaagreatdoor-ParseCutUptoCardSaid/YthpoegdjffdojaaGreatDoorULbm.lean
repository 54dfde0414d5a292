import Derived.Test.YthpoegdjffdojaaGreatDoorULbi
set_option linter.all false
set_option maxHeartbeats 4000000
set_option maxRecDepth 10000
namespace Go.Ev
open Go.Proofs
def nI : V:=.af .nilIface
def za (s:ByteArray)(L:List Tok)(v:Nat)(r0 r1:V)(x:OH):OH:=
 (0,vb r0) :: (1,vb r1) :: (2,vb (.own 5 v 0 L.length)) :: (5,⟨4,L.map ly,v,true⟩) :: (6,TW s) :: x
def Zb (f:Nat):Env:=[(2,.ref 0 0 0 0),(3,.ref 1 0 0 0),(4,.ref 2 0 0 0),(8,.wr (.TH f) 6 0 0 0)]
def YQ (E:V):Env:=[(2,.ref 0 0 0 0),(3,.ref 1 0 0 0),(4,.ref 2 0 0 0),(5,.ref 9 0 0 0),(6,E)]
theorem Lz {s:ByteArray}{L:List Tok}{v:Nat}{r0 r1:V}{x:OH}(h1:r0.cl (za s L v r0 r1 x))(h2:r1.cl (za s L v r0 r1 x))(hx:eV (za s L v r0 r1 x) x):eV (za s L v r0 r1 x) (za s L v r0 r1 x):=by
 refine⟨bT h1,bT h2,bT rfl,fun u hu=>?_,bT trivial,hx⟩;obtain⟨t,-,rfl⟩:=D4.1 hu;exact jS t _
theorem A4 (s:ByteArray){Q:X->St->Prop}(h:∀st,gi st.oh (za s [] 0 .emp nI [])->de (za s [] 0 .emp nI []) st.env (Zb 66)->Q .normal st) :
  cK Tryz.prog (iE Tryz.prog) (aM [true,true,false,false] (Option.getD Tryz.f14.body .skip)) ⟨Tryz.f14.ntmps,[(0,.af (.string s)),(2,.ref 0 0 0 0),(3,.ref 1 0 0 0),(4,.ref 2 0 0 0)],[(0,vb .emp),(1,vb nI),(2,vb (.own 5 0 0 0)),(5,⟨4,[],0,true⟩)]⟩ Q:=by
 dsimp only [aM,Option.getD,Tryz.f14];unfold vb nI
 repeat'(first|(with_reducible first|(refine zz ?_;try intro K hK)|refine zi ?_|refine zh ?_)|((first|apply hK _ _ rfl|apply hK);clear hK K)|(guard_hyp hK;first|refine zx ?_|apply ab|apply aa|refine zW ?_|(refine Or.inr (Sk _ (Sk _ (UO (Qs s) ?_))))|intro b0 hb)|((first|refine zj ?_|guard_hyp hK);refine zY ?_ ?_;all_goals(intro hb;(try simp only [sn,sb] at hb);try exact ao)))
 exact h _ ⟨rfl,rfl,rfl,rfl,rfl,trivial⟩ ⟨rfl,rfl,rfl,rfl,rfl,rfl,rfl,rfl,trivial⟩
theorem A7 (l:Nat)(s:ByteArray){Q:X->St->Prop}(h:∀st,gi st.oh (za s [] 0 .emp nI [(7,rP s 0)])->de (za s [] 0 .emp nI [(7,rP s 0)]) st.env (SQ l)->Q .normal st) :
  cK Tryz.prog (iE Tryz.prog) (aM [false] (Option.getD Tryz.f66.body .skip)) ⟨Tryz.f66.ntmps,dq 0 [yl l,.ref 6 0 0 0],za s [] 0 .emp nI []⟩ Q:=by
 dsimp only [aM,Option.getD,Tryz.f66];unfold yl za vb TW nI
 repeat'(first|(with_reducible first|(refine zz ?_;try intro K hK)|refine zi ?_|refine zh ?_)|((first|apply hK _ _ rfl|apply hK);clear hK K)|(guard_hyp hK;first|refine zx ?_|apply ab|apply aa|refine zW ?_|intro b0 hb)|((first|refine zj ?_|guard_hyp hK);refine zY ?_ ?_;all_goals(intro hb;(try simp only [sn,sb] at hb);try exact ao)))
 exact h _ ⟨rfl,rfl,rfl,rfl,rfl,rfl,trivial⟩ ⟨rfl,trivial,rfl,rfl,trivial⟩
theorem A6 (l:Nat)(s:ByteArray)(L:List Tok)(v a:Nat)(hs:s.size<=1073741824)(ha:a<=s.size)(hc:(jf s a).code=0){Q:X->St->Prop}
  (h:∀st,gi st.oh (za s L v .emp nI (gR s (rA s a) ⟨(jf s a).kind,(jf s a).text,(aj s (eG s a).1).1,(aj s (eG s a).1).2⟩ []))->de (za s L v .emp nI (gR s (rA s a) ⟨(jf s a).kind,(jf s a).text,(aj s (eG s a).1).1,(aj s (eG s a).1).2⟩ [])) st.env (VV l (.af .nilIface))->Q .normal st) :
  cK Tryz.prog (iE Tryz.prog) (aM [true,true,true,true,false] (Option.getD Tryz.f66.body .skip)) ⟨Tryz.f66.ntmps,SQ l,za s L v .emp nI [(7,rP s a)]⟩ Q:=by
 have hn:=FH s a hs ha;unfold Cv at hn;rw [show FG (jf s a) (aj s (eG s a).1).1 (aj s (eG s a).1).2=.ba [IJ (jf s a).kind (jf s a).text (aj s (eG s a).1).1 (aj s (eG s a).1).2,.af .nilIface] from if_pos hc] at hn;dsimp only [aM,Option.getD,Tryz.f66];unfold SQ za yl vb TW nI rP
 repeat'(first|(with_reducible first|(refine zz ?_;try intro K hK)|refine zi ?_|refine zh ?_)|((first|apply hK _ _ rfl|apply hK);clear hK K)|(guard_hyp hK;first|refine zx ?_|apply ab|apply aa|refine zW ?_|refine zg ([(0,7,0)]) (hn) ([(7,⟨4,[Ab s a (aj s a).1 (aj s a).2],0,true⟩)]) ([]) ([(7,⟨4,[Ab s (rA s a) (aj s (rA s a)).1 (aj s (rA s a)).2],0,true⟩)]) (.ba [IJ (jf s a).kind (jf s a).text (aj s (eG s a).1).1 (aj s (eG s a).1).2,.af .nilIface]) ?_|intro b0 hb)|((first|refine zj ?_|guard_hyp hK);refine zY ?_ ?_;all_goals(intro hb;(try simp only [sn,sb] at hb);try exact ao)))
 exact h _ ⟨rfl,rfl,rfl,rfl,rfl,rfl,rfl,trivial⟩ ⟨rfl,trivial,rfl,rfl,rfl,rfl,rfl,trivial,trivial⟩
theorem z7 (l:Nat)(s:ByteArray)(L:List Tok)(v a:Nat)(hs:s.size<=1073741824)(ha:a<=s.size)(hc:¬(jf s a).code=0){Q:X->St->Prop}
  (h:∀st,gi st.oh (za s L v .emp nI (gR s (rA s a) ⟨0,eS,0,0⟩ []))->de (za s L v .emp nI (gR s (rA s a) ⟨0,eS,0,0⟩ [])) st.env (VV l (xd ⟨(jf s a).code,(aj s (eG s a).1).1,(aj s (eG s a).1).2,(jf s a).word⟩))->Q .normal st) :
  cK Tryz.prog (iE Tryz.prog) (aM [true,true,true,true,false] (Option.getD Tryz.f66.body .skip)) ⟨Tryz.f66.ntmps,SQ l,za s L v .emp nI [(7,rP s a)]⟩ Q:=by
 have hn:=FH s a hs ha;unfold Cv at hn;rw [show FG (jf s a) (aj s (eG s a).1).1 (aj s (eG s a).1).2=my ⟨(jf s a).code,(aj s (eG s a).1).1,(aj s (eG s a).1).2,(jf s a).word⟩ from if_neg hc] at hn;dsimp only [aM,Option.getD,Tryz.f66];unfold SQ za yl vb TW nI rP
 repeat'(first|(with_reducible first|(refine zz ?_;try intro K hK)|refine zi ?_|refine zh ?_)|((first|apply hK _ _ rfl|apply hK);clear hK K)|(guard_hyp hK;first|refine zx ?_|apply ab|apply aa|refine zW ?_|refine zg ([(0,7,0)]) (hn) ([(7,⟨4,[Ab s a (aj s a).1 (aj s a).2],0,true⟩)]) ([]) ([(7,⟨4,[Ab s (rA s a) (aj s (rA s a)).1 (aj s (rA s a)).2],0,true⟩)]) (my ⟨(jf s a).code,(aj s (eG s a).1).1,(aj s (eG s a).1).2,(jf s a).word⟩) ?_|intro b0 hb)|((first|refine zj ?_|guard_hyp hK);refine zY ?_ ?_;all_goals(intro hb;(try simp only [sn,sb] at hb);try exact ao)))
 exact h _ ⟨rfl,rfl,rfl,rfl,rfl,rfl,rfl,trivial⟩ ⟨rfl,trivial,rfl,rfl,rfl,rfl,rfl,trivial,trivial⟩
theorem A1 (l:Nat)(s:ByteArray)(L:List Tok)(v a:Nat)(t:Tok)(E:V)(hE:E=.af .nilIface\/∃f,E=xd f)(K:St->Prop)
  (hK:∀st,(gi st.oh (za s L v .emp nI (gR s a t []))/\de (za s L v .emp nI (gR s a t [])) st.env (Mc l t E))->K st) :
  Cw Tryz.prog (iE Tryz.prog) (opsOf (aM [true,true,true,true,true,false] (Option.getD Tryz.f66.body .skip))) 0 (((opsOf (aM [true,true,true,true,true,false] (Option.getD Tryz.f66.body .skip))).toList.drop 0).take 3) Tryz.f66.ntmps (VV l E) (za s L v .emp nI (gR s a t [])) K:=by
 dsimp only [aM,opsOf,Option.getD,Tryz.f66];rcases hE with rfl|⟨f,rfl⟩
 ·repeat'(first|(with_reducible first|(refine zz ?_;try intro K hK)|refine zi ?_|refine zh ?_)|((first|apply hK _ _ rfl|apply hK);clear hK K)|(guard_hyp hK;first|refine zx ?_|apply ab|apply aa|refine zW ?_|intro b0 hb)|((first|refine zj ?_|guard_hyp hK);refine zY ?_ ?_;all_goals(intro hb;(try simp only [sn,sb] at hb);try exact ao)))
  exact⟨⟨rfl,rfl,rfl,rfl,rfl,rfl,rfl,trivial⟩,rfl,trivial,rfl,jS t _,rfl,trivial,rfl,trivial,rfl,rfl,rfl,rfl,rfl,trivial,trivial⟩
 ·repeat'(first|(with_reducible first|(refine zz ?_;try intro K hK)|refine zi ?_|refine zh ?_)|((first|apply hK _ _ rfl|apply hK);clear hK K)|(guard_hyp hK;first|refine zx ?_|apply ab|apply aa|refine zW ?_|intro b0 hb)|((first|refine zj ?_|guard_hyp hK);refine zY ?_ ?_;all_goals(intro hb;(try simp only [sn,sb] at hb);try exact ao)))
  exact⟨⟨rfl,rfl,rfl,rfl,rfl,rfl,rfl,trivial⟩,rfl,trivial,rfl,jS t _,rfl,trivial,rfl,trivial,rfl,rfl,rfl,rfl,rfl,trivial,trivial⟩
theorem A5 (l:Nat)(s:ByteArray)(L:List Tok)(v a:Nat)(t:Tok)(K:St->Prop)
  (hK:∀st,(gi st.oh (za s L v .emp nI [(7,rP s a)])/\de (za s L v .emp nI [(7,rP s a)]) st.env [(0,yl l),(3,.ref 7 0 0 0),(25,.af (.bool (decide (t.kind=0))))])->K st) :
  Cw Tryz.prog (iE Tryz.prog) (opsOf (aM [true,true,true,true,true,false] (Option.getD Tryz.f66.body .skip))) 4 (((opsOf (aM [true,true,true,true,true,false] (Option.getD Tryz.f66.body .skip))).toList.drop 4).take 10) Tryz.f66.ntmps ((15,.af (.bool true)) :: Mc l t (.af .nilIface)) (za s L v .emp nI (gR s a t [])) K:=by
 dsimp only [aM,opsOf,Option.getD,Tryz.f66]
 repeat'(first|(with_reducible first|(refine zz ?_;try intro K hK)|refine zi ?_|refine zh ?_)|((first|apply hK _ _ rfl|apply hK);clear hK K)|(guard_hyp hK;first|refine zx ?_|apply ab|apply aa|refine zW ?_|intro b0 hb)|((first|refine zj ?_|guard_hyp hK);refine zY ?_ ?_;all_goals(intro hb;(try simp only [sn,sb] at hb);try exact ao)))
 exact⟨⟨rfl,rfl,rfl,rfl,rfl,rfl,trivial⟩,rfl,trivial,rfl,rfl,rfl,trivial,trivial⟩
theorem z6 (l:Nat)(s:ByteArray)(L:List Tok)(v a:Nat)(t:Tok)(f:dy)(r0 r1:V)(K:St->Prop)
  (hK:∀st,(gi st.oh (za s L v r0 r1 [])/\de (za s L v r0 r1 []) st.env [(25,.af (.bool true))])->K st) :
  Cw Tryz.prog (iE Tryz.prog) (opsOf (aM [true,true,true,true,true,false] (Option.getD Tryz.f66.body .skip))) 4 (((opsOf (aM [true,true,true,true,true,false] (Option.getD Tryz.f66.body .skip))).toList.drop 4).take 10) Tryz.f66.ntmps ((15,.af (.bool false)) :: Mc l t (xd f)) (za s L v r0 r1 (gR s a t [])) K:=by
 dsimp only [aM,opsOf,Option.getD,Tryz.f66]
 repeat'(first|(with_reducible first|(refine zz ?_;try intro K hK)|refine zi ?_|refine zh ?_)|((first|apply hK _ _ rfl|apply hK);clear hK K)|(guard_hyp hK;first|refine zx ?_|apply ab|apply aa|refine zW ?_|intro b0 hb)|((first|refine zj ?_|guard_hyp hK);refine zY ?_ ?_;all_goals(intro hb;(try simp only [sn,sb] at hb);try exact ao)))
 exact⟨⟨rfl,rfl,rfl,rfl,rfl,trivial⟩,rfl,trivial,trivial⟩
theorem A0 (s:ByteArray)(L:List Tok)(v a:Nat)(t:Tok)(E:V)(hE:∀oh,E.cl oh){Q:X->St->Prop}
  (h:∀st,gi st.oh (za s L v .emp nI (gR s a t [(9,sf t)]))->de (za s L v .emp nI (gR s a t [(9,sf t)])) st.env [(2,.ref 0 0 0 0),(3,.ref 1 0 0 0),(4,.ref 2 0 0 0),(5,.ref 9 0 0 0),(10,E)]->Q .normal st) :
  cK Tryz.prog (iE Tryz.prog) (aM [true,true,false,true,false,false,false] (Option.getD Tryz.f14.body .skip)) ⟨Tryz.f14.ntmps,(10,E) :: (9,ly t) :: Zb 66,za s L v .emp nI (gR s a t [])⟩ Q:=by
 dsimp only [aM,Option.getD,Tryz.f14]
 repeat'(first|(with_reducible first|(refine zz ?_;try intro K hK)|refine zi ?_|refine zh ?_)|((first|apply hK _ _ rfl|apply hK);clear hK K)|(guard_hyp hK;first|refine zx ?_|apply ab|apply aa|refine zW ?_|intro b0 hb)|((first|refine zj ?_|guard_hyp hK);refine zY ?_ ?_;all_goals(intro hb;(try simp only [sn,sb] at hb);try exact ao)))
 exact h _ ⟨rfl,rfl,rfl,rfl,rfl,rfl,rfl,rfl,trivial⟩ ⟨rfl,rfl,rfl,rfl,rfl,rfl,rfl,rfl,rfl,hE _,trivial⟩
theorem z8 (s:ByteArray)(L:List Tok)(v a:Nat)(t:Tok)(E:V)(hE:E=.af .nilIface\/∃f,E=xd f){Q:X->St->Prop}
  (h:∀st,gi st.oh (za s L v .emp nI (gR s a t [(9,sf t)]))->de (za s L v .emp nI (gR s a t [(9,sf t)])) st.env (YQ E)->Q .normal st) :
  cK Tryz.prog (iE Tryz.prog) (aM [true,true,false,true,false,false,true] (Option.getD Tryz.f14.body .skip)) ⟨Tryz.f14.ntmps,[(2,.ref 0 0 0 0),(3,.ref 1 0 0 0),(4,.ref 2 0 0 0),(5,.ref 9 0 0 0),(10,E)],za s L v .emp nI (gR s a t [(9,sf t)])⟩ Q:=by
 dsimp only [aM,Option.getD,Tryz.f14];rcases hE with rfl|⟨f,rfl⟩
 ·repeat'(first|(with_reducible first|(refine zz ?_;try intro K hK)|refine zi ?_|refine zh ?_)|((first|apply hK _ _ rfl|apply hK);clear hK K)|(guard_hyp hK;first|refine zx ?_|apply ab|apply aa|refine zW ?_|intro b0 hb)|((first|refine zj ?_|guard_hyp hK);refine zY ?_ ?_;all_goals(intro hb;(try simp only [sn,sb] at hb);try exact ao)))
  exact h _ ⟨rfl,rfl,rfl,rfl,rfl,rfl,rfl,rfl,trivial⟩ ⟨rfl,rfl,rfl,rfl,rfl,rfl,rfl,rfl,rfl,trivial,trivial⟩
 ·repeat'(first|(with_reducible first|(refine zz ?_;try intro K hK)|refine zi ?_|refine zh ?_)|((first|apply hK _ _ rfl|apply hK);clear hK K)|(guard_hyp hK;first|refine zx ?_|apply ab|apply aa|refine zW ?_|intro b0 hb)|((first|refine zj ?_|guard_hyp hK);refine zY ?_ ?_;all_goals(intro hb;(try simp only [sn,sb] at hb);try exact ao)))
  exact h _ ⟨rfl,rfl,rfl,rfl,rfl,rfl,rfl,rfl,trivial⟩ ⟨rfl,rfl,rfl,rfl,rfl,rfl,rfl,rfl,rfl,trivial,trivial⟩
theorem A3 (s:ByteArray)(L:List Tok)(v a:Nat)(t:Tok){Q:X->St->Prop}
  (h:∀st,gi st.oh (za s L v .emp nI (gR s a t [(9,sf t)]))->de (za s L v .emp nI (gR s a t [(9,sf t)])) st.env ((12,.af (.bool false)) :: YQ (.af .nilIface))->Q .normal st) :
  cK Tryz.prog (iE Tryz.prog) (aM [true,true,false,true,false,true,false,false,false] (Option.getD Tryz.f14.body .skip)) ⟨Tryz.f14.ntmps,YQ (.af .nilIface),za s L v .emp nI (gR s a t [(9,sf t)])⟩ Q:=by
 dsimp only [aM,Option.getD,Tryz.f14]
 repeat'(first|(with_reducible first|(refine zz ?_;try intro K hK)|refine zi ?_|refine zh ?_)|((first|apply hK _ _ rfl|apply hK);clear hK K)|(guard_hyp hK;first|refine zx ?_|apply ab|apply aa|refine zW ?_|intro b0 hb)|((first|refine zj ?_|guard_hyp hK);refine zY ?_ ?_;all_goals(intro hb;(try simp only [sn,sb] at hb);try exact ao)))
 exact h _ ⟨rfl,rfl,rfl,rfl,rfl,rfl,rfl,rfl,trivial⟩ ⟨rfl,trivial,rfl,rfl,rfl,rfl,rfl,rfl,rfl,rfl,rfl,trivial,trivial⟩
theorem y7 (s:ByteArray)(L:List Tok)(v a:Nat)(t:Tok)(f:dy){Q:X->St->Prop}
  (h:∀st,gi st.oh (za s L v .emp nI (gR s a t [(9,sf t)]))->de (za s L v .emp nI (gR s a t [(9,sf t)])) st.env ((12,.af (.bool true)) :: YQ (xd f))->Q .normal st) :
  cK Tryz.prog (iE Tryz.prog) (aM [true,true,false,true,false,true,false,false,false] (Option.getD Tryz.f14.body .skip)) ⟨Tryz.f14.ntmps,YQ (xd f),za s L v .emp nI (gR s a t [(9,sf t)])⟩ Q:=by
 dsimp only [aM,Option.getD,Tryz.f14]
 repeat'(first|(with_reducible first|(refine zz ?_;try intro K hK)|refine zi ?_|refine zh ?_)|((first|apply hK _ _ rfl|apply hK);clear hK K)|(guard_hyp hK;first|refine zx ?_|apply ab|apply aa|refine zW ?_|intro b0 hb)|((first|refine zj ?_|guard_hyp hK);refine zY ?_ ?_;all_goals(intro hb;(try simp only [sn,sb] at hb);try exact ao)))
 exact h _ ⟨rfl,rfl,rfl,rfl,rfl,rfl,rfl,rfl,trivial⟩ ⟨rfl,trivial,rfl,rfl,rfl,rfl,rfl,rfl,rfl,rfl,rfl,trivial,trivial⟩
theorem y9 (s:ByteArray)(L:List Tok)(v a:Nat)(t:Tok)(hL:L.length<=1073741824){Q:X->St->Prop}
  (h:∀st,gi st.oh (za s (L ++ [t]) (v+1) .emp nI (gR s a t []))->Q .normal st) :
  cK Tryz.prog (iE Tryz.prog) (aM [true,true,false,true,false,true,false,true] (Option.getD Tryz.f14.body .skip)) ⟨Tryz.f14.ntmps,(12,.af (.bool false)) :: YQ (.af .nilIface),za s L v .emp nI (gR s a t [(9,sf t)])⟩ Q:=by
 dsimp only [aM,Option.getD,Tryz.f14];unfold za gR YQ vb sf nI
 repeat'(first|(with_reducible first|(refine zz ?_;try intro K hK)|refine zi ?_|refine zh ?_)|((first|apply hK _ _ rfl|apply hK);clear hK K)|(guard_hyp hK;first|refine zx ?_|apply ab|apply aa|refine zW ?_|intro b0 hb)|((first|refine zj ?_|guard_hyp hK);refine zY ?_ ?_;all_goals(intro hb;(try simp only [sn,sb] at hb);try exact ao)))
 refine h _ ⟨rfl,rfl,?_,?_,rfl,rfl,rfl,trivial⟩
 ·rw [List.length_append];exact rfl
 ·show some (⟨4,_,v+1,true⟩:Obj)=some ⟨4,_,v+1,true⟩;refine B4 some (B4 (fun l=>(⟨4,l,v+1,true⟩:Obj)) ?_);rw [G7];show List.take L.length (L.map ly) ++ _=_;rw [B7 (by rw [List.length_map];omega)];rfl
theorem A2 (s:ByteArray)(L:List Tok)(v a:Nat)(t:Tok)(f:dy){Q:X->St->Prop}
  (h:∀st,gi st.oh (za s L v .emp (xd f) (gR s a t []))->Q .normal st) :
  cK Tryz.prog (iE Tryz.prog) (aM [true,true,false,true,false,true,false,false,true,false,false] (Option.getD Tryz.f14.body .skip)) ⟨Tryz.f14.ntmps,(12,.af (.bool true)) :: YQ (xd f),za s L v .emp nI (gR s a t [(9,sf t)])⟩ Q:=by
 dsimp only [aM,Option.getD,Tryz.f14];unfold za gR YQ vb sf nI
 repeat'(first|(with_reducible first|(refine zz ?_;try intro K hK)|refine zi ?_|refine zh ?_)|((first|apply hK _ _ rfl|apply hK);clear hK K)|(guard_hyp hK;first|refine zx ?_|apply ab|apply aa|refine zW ?_|intro b0 hb)|((first|refine zj ?_|guard_hyp hK);refine zY ?_ ?_;all_goals(intro hb;(try simp only [sn,sb] at hb);try exact ao)))
 exact h _ ⟨rfl,rfl,rfl,rfl,rfl,rfl,rfl,trivial⟩
theorem y8 (s:ByteArray)(L:List Tok)(v:Nat){Q:X->St->Prop}
  (h:∀st,gi st.oh (za s L v (.own 5 v 0 L.length) nI [])->de (za s L v (.own 5 v 0 L.length) nI []) st.env [(2,.ref 0 0 0 0),(3,.ref 1 0 0 0)]->Q .normal st) :
  cK Tryz.prog (iE Tryz.prog) (aM [true,true,true,false] (Option.getD Tryz.f14.body .skip)) ⟨Tryz.f14.ntmps,Zb 66,za s L v .emp nI []⟩ Q:=by
 dsimp only [aM,Option.getD,Tryz.f14];unfold za Zb vb nI
 repeat'(first|(with_reducible first|(refine zz ?_;try intro K hK)|refine zi ?_|refine zh ?_)|((first|apply hK _ _ rfl|apply hK);clear hK K)|(guard_hyp hK;first|refine zx ?_|apply ab|apply aa|refine zW ?_|intro b0 hb)|((first|refine zj ?_|guard_hyp hK);refine zY ?_ ?_;all_goals(intro hb;(try simp only [sn,sb] at hb);try exact ao)))
 exact h _ ⟨rfl,rfl,rfl,rfl,rfl,trivial⟩ ⟨rfl,rfl,rfl,rfl,trivial⟩
theorem u7 (s:ByteArray){Q:X->St->Prop}(h:∀st:St,Lf ⟨Tryz.f14.ntmps,[(0,.af (.string s)),(2,.ref 0 0 0 0),(3,.ref 1 0 0 0),(4,.ref 2 0 0 0)],[(0,vb .emp),(1,vb nI),(2,vb (.own 5 0 0 0)),(5,⟨4,[],0,true⟩)]⟩ st->Q .normal st) :
  cK Tryz.prog (iE Tryz.prog) (nz (JR 2 (Option.getD Tryz.f14.body .skip)).1 .skip) ⟨Tryz.f14.ntmps,la 0 [gG s],[]⟩ Q:=by
 dsimp only [nz,JR,Option.getD,Tryz.f14]
 repeat'(first|(with_reducible first|(refine zz ?_;try intro K hK)|refine zi ?_|refine zh ?_)|((first|apply hK _ _ rfl|apply hK);clear hK K)|(guard_hyp hK;first|refine zx ?_|apply ab|apply aa|refine zW ?_|intro b0 hb)|((first|refine zj ?_|guard_hyp hK);refine zY ?_ ?_;all_goals(intro hb;(try simp only [sn,sb] at hb);try exact ao)))
 refine h _ (bx ⟨Lc.same _ trivial,Lc.same _ rfl,Lc.same _ rfl,Lc.same _ rfl,trivial⟩ ⟨ck rfl (Lc.same _ trivial),ck rfl (Lc.same _ trivial),ck rfl (Lc.gL 5 _ rfl rfl),ki rfl,trivial⟩)
theorem XA {s:ByteArray}{L:List Tok}{v:Nat}{r0 r1:V}{x:OH}(f:Nat):de (za s L v r0 r1 x) (Zb f) (Zb f):=⟨rfl,rfl,rfl,rfl,rfl,rfl,rfl,rfl,trivial⟩
theorem u4 {s:ByteArray}{L:List Tok}{v a l:Nat}{r0 r1:V}{x:OH}{t:Tok}{E:V}(hE:∀oh,E.cl oh):de (za s L v r0 r1 (gR s a t x)) (Mc l t E) (Mc l t E):=⟨rfl,trivial,rfl,jS t _,rfl,hE _,rfl,trivial,rfl,rfl,rfl,rfl,rfl,hE _,trivial⟩
def YK (f n:Nat)(tm:Array Value):Tv:=⟨⟨fun _=>none,[]⟩,n,Zb f,⟨tm,[]⟩⟩
def recC (fn:FuncId)(tm:Array Value)(c b:Code)(D:Nat):Go.Loop:={ state:=.ready,pending:=none,fn:=fn,tmps:=tm,params:=#[9,10],assign:=c,body:=b,defers:=D }
theorem Zy (s:ByteArray)(L:List Tok)(v a l D:Nat)(t:Tok)(hL:L.length<=1073741824){fn:FuncId}{tm:Array Value}{g0 g:Gh}{w0 w:World}{ai:Act}
  (hr:Rel ⟨fun _=>none,[]⟩ g ⟨Tryz.f66.ntmps,Mc l t (.af .nilIface),za s L v .emp nI (gR s a t [])⟩ ai w)
  (hp:Pk [YK 66 Tryz.f14.ntmps tm] l D (recC fn tm (aM [true,true,false,true,false,false] (Option.getD Tryz.f14.body .skip)) (aM [true,true,false,true,false,true] (Option.getD Tryz.f14.body .skip)) D) g0 w0 g (za s L v .emp nI (gR s a t [])) w) {R:Ending->World->Prop}
  (hk:∀g w,Rel ⟨fun _=>none,[]⟩ g ⟨Tryz.f66.ntmps,Mc l t (.af .nilIface),za s (L ++ [t]) (v+1) .emp nI (gR s a t [])⟩ ai w->
   Pk [YK 66 Tryz.f14.ntmps tm] l D (recC fn tm (aM [true,true,false,true,false,false] (Option.getD Tryz.f14.body .skip)) (aM [true,true,false,true,false,true] (Option.getD Tryz.f14.body .skip)) D) g0 w0 g (za s (L ++ [t]) (v+1) .emp nI (gR s a t [])) w->R (.returned (.bool true)) w) :
  RoundIn (FR none) 0 Tryz.prog l fn ((tm.setIfInBounds 9 (ai.eval (.tmp 13))).setIfInBounds 10 (ai.eval (.tmp 14))) (aM [true,true,false,true,false,false] (Option.getD Tryz.f14.body .skip)) (aM [true,true,false,true,false,true] (Option.getD Tryz.f14.body .skip)) w R:=by
 have hrS:Rel ⟨fun _=>none,[]⟩ g ⟨Tryz.f14.ntmps,Zb 66,za s L v .emp nI (gR s a t [])⟩ ⟨tm,[]⟩ w:=hp.rel _ (HQ.2 rfl);have hra:Rel ⟨fun _=>none,[]⟩ g ⟨Tryz.f14.ntmps,(10,.af .nilIface) :: (9,ly t) :: Zb 66,za s L v .emp nI (gR s a t [])⟩ ⟨(tm.setIfInBounds 9 (ai.eval (.tmp 13))).setIfInBounds 10 (ai.eval (.tmp 14)),[]⟩ w:=(hrS.Hz (d:=9) (D3 rfl) (hr.env 13)).Hz (d:=10) (D3 rfl) (hr.env 14);have hE:∀oh,(V.af .nilIface).cl oh:=fun _=>trivial
 have hP2:Pk [⟨⟨fun _=>none,[]⟩,Tryz.f66.ntmps,Mc l t (.af .nilIface),ai⟩,YK 66 Tryz.f14.ntmps tm] l D _ g0 w0 g (za s L v .emp nI (gR s a t [])) w:=⟨Hn hr hrS,hp.hl,hp.hd,hp.fr,hp.h0⟩
 refine roundIn_of_wpIn (F:=FR none) trivial ?_;show(Code.seq (aM [true,true,false,true,false,false,false] (Option.getD Tryz.f14.body .skip)) (aM [true,true,false,true,false,false,true] (Option.getD Tryz.f14.body .skip))).wpIn (FR (some l)) 0 Tryz.prog _ _ w;refine wpIn_seq (fF (fun _ _ _ h=>h) mix B1 (fun Q hQ=>A0 s L v a t _ hE hQ) (Lz trivial trivial (oD ⟨bT (jS t _),trivial⟩)) (Hn (u4 hE) (XA _)) hra hP2 fun g1 a1 w1 hr1 hp1=>?_);show(aM [true,true,false,true,false,false,true] (Option.getD Tryz.f14.body .skip)).wpIn (FR (some l)) 0 Tryz.prog _ a1 w1;refine fF (fun _ _ _ h=>h) mix B1 (fun Q hQ=>z8 s L v a t _ (.inl rfl) hQ) (Lz trivial trivial (oD ⟨bT (jS t _),trivial⟩)) (Hn (u4 hE) (XA _)) hr1 hp1 fun g2 a2 w2 hr2 hp2=>?_
 refine⟨_,run_beginRound hp2.hl rfl,?_⟩;have hr3:=hr2.og hp2.hl (x:=.loop { recC fn tm (aM [true,true,false,true,false,false] (Option.getD Tryz.f14.body .skip)) (aM [true,true,false,true,false,true] (Option.getD Tryz.f14.body .skip)) D with state:=.busy });have hp3:=hp2.put (r':={ recC fn tm (aM [true,true,false,true,false,false] (Option.getD Tryz.f14.body .skip)) (aM [true,true,false,true,false,true] (Option.getD Tryz.f14.body .skip)) D with state:=.busy });show(Code.block 1 (.seq (.seq (aM [true,true,false,true,false,true,false,false,false] (Option.getD Tryz.f14.body .skip)) (.cond (.tmp 12) (aM [true,true,false,true,false,true,false,false,true,false] (Option.getD Tryz.f14.body .skip)) .skip)) (aM [true,true,false,true,false,true,false,true] (Option.getD Tryz.f14.body .skip)))).wpIn (FR (some l)) 0 Tryz.prog _ a2 _;refine wpIn_block (wpIn_seq (wpIn_seq (fF (fun _ _ _ h=>h) mix B1 (fun Q hQ=>A3 s L v a t hQ) (Lz trivial trivial (oD ⟨bT (jS t _),trivial⟩)) (Hn (u4 hE) (XA _)) hr3 hp3 fun g4 a4 w4 hr4 hp4=>?_)));have hv:=me hr4 (.tmp 12);show(Code.cond (.tmp 12) _ .skip).wpIn (FR (some l)) 0 Tryz.prog _ a4 w4;refine wpIn_cond_split hv.1 (fun h=>by cases h) (fun _=>wpIn_skip ?_);show(aM [true,true,false,true,false,true,false,true] (Option.getD Tryz.f14.body .skip)).wpIn (FR (some l)) 0 Tryz.prog _ a4 w4;refine fF (e':=[]) (fun _ _ _ h=>h) mix B1 (fun Q hQ=>y9 s L v a t hL (fun st h1=>hQ st h1 trivial)) (Lz trivial trivial (oD trivial)) (Hn (u4 hE) (XA _)) hr4 hp4 fun g5 a5 w5 hr5 hp5=>?_
 have hp6:=hp5.put (r':=recC fn tm (aM [true,true,false,true,false,false] (Option.getD Tryz.f14.body .skip)) (aM [true,true,false,true,false,true] (Option.getD Tryz.f14.body .skip)) D);exact⟨_,_,run_endRound none hp5.hl,hk _ _ (hp6.rel _ (D7 ..)) ⟨Ko (hp6.rel _ (D5 _ (HQ.2 rfl))),hp6.hl,hp6.hd,hp6.fr,hp6.h0⟩⟩
theorem Ze (s:ByteArray)(L:List Tok)(v a l D:Nat)(t:Tok)(f:dy){fn:FuncId}{tm:Array Value}{g0 g:Gh}{w0 w:World}{ai:Act}
  (hr:Rel ⟨fun _=>none,[]⟩ g ⟨Tryz.f66.ntmps,Mc l t (xd f),za s L v .emp nI (gR s a t [])⟩ ai w)
  (hp:Pk [YK 66 Tryz.f14.ntmps tm] l D (recC fn tm (aM [true,true,false,true,false,false] (Option.getD Tryz.f14.body .skip)) (aM [true,true,false,true,false,true] (Option.getD Tryz.f14.body .skip)) D) g0 w0 g (za s L v .emp nI (gR s a t [])) w) {R:Ending->World->Prop}
  (hk:∀g w,Rel ⟨fun _=>none,[]⟩ g ⟨Tryz.f66.ntmps,Mc l t (xd f),za s L v .emp (xd f) (gR s a t [])⟩ ai w->
   Pk [YK 66 Tryz.f14.ntmps tm] l D { recC fn tm (aM [true,true,false,true,false,false] (Option.getD Tryz.f14.body .skip)) (aM [true,true,false,true,false,true] (Option.getD Tryz.f14.body .skip)) D with state:=.done,pending:=some .ret } g0 w0 g (za s L v .emp (xd f) (gR s a t [])) w->R (.returned (.bool false)) w) :
  RoundIn (FR none) 0 Tryz.prog l fn ((tm.setIfInBounds 9 (ai.eval (.tmp 13))).setIfInBounds 10 (ai.eval (.tmp 14))) (aM [true,true,false,true,false,false] (Option.getD Tryz.f14.body .skip)) (aM [true,true,false,true,false,true] (Option.getD Tryz.f14.body .skip)) w R:=by
 have hrS:Rel ⟨fun _=>none,[]⟩ g ⟨Tryz.f14.ntmps,Zb 66,za s L v .emp nI (gR s a t [])⟩ ⟨tm,[]⟩ w:=hp.rel _ (HQ.2 rfl);have hra:Rel ⟨fun _=>none,[]⟩ g ⟨Tryz.f14.ntmps,(10,xd f) :: (9,ly t) :: Zb 66,za s L v .emp nI (gR s a t [])⟩ ⟨(tm.setIfInBounds 9 (ai.eval (.tmp 13))).setIfInBounds 10 (ai.eval (.tmp 14)),[]⟩ w:=(hrS.Hz (d:=9) (D3 rfl) (hr.env 13)).Hz (d:=10) (D3 rfl) (hr.env 14);have hE:∀oh,(xd f).cl oh:=fun _=>trivial
 have hP2:Pk [⟨⟨fun _=>none,[]⟩,Tryz.f66.ntmps,Mc l t (xd f),ai⟩,YK 66 Tryz.f14.ntmps tm] l D _ g0 w0 g (za s L v .emp nI (gR s a t [])) w:=⟨Hn hr hrS,hp.hl,hp.hd,hp.fr,hp.h0⟩
 refine roundIn_of_wpIn (F:=FR none) trivial ?_;show(Code.seq (aM [true,true,false,true,false,false,false] (Option.getD Tryz.f14.body .skip)) (aM [true,true,false,true,false,false,true] (Option.getD Tryz.f14.body .skip))).wpIn (FR (some l)) 0 Tryz.prog _ _ w;refine wpIn_seq (fF (fun _ _ _ h=>h) mix B1 (fun Q hQ=>A0 s L v a t _ hE hQ) (Lz trivial trivial (oD ⟨bT (jS t _),trivial⟩)) (Hn (u4 hE) (XA _)) hra hP2 fun g1 a1 w1 hr1 hp1=>?_);show(aM [true,true,false,true,false,false,true] (Option.getD Tryz.f14.body .skip)).wpIn (FR (some l)) 0 Tryz.prog _ a1 w1;refine fF (fun _ _ _ h=>h) mix B1 (fun Q hQ=>z8 s L v a t _ (.inr ⟨f,rfl⟩) hQ) (Lz trivial trivial (oD ⟨bT (jS t _),trivial⟩)) (Hn (u4 hE) (XA _)) hr1 hp1 fun g2 a2 w2 hr2 hp2=>?_
 refine⟨_,run_beginRound hp2.hl rfl,?_⟩;have hr3:=hr2.og hp2.hl (x:=.loop { recC fn tm (aM [true,true,false,true,false,false] (Option.getD Tryz.f14.body .skip)) (aM [true,true,false,true,false,true] (Option.getD Tryz.f14.body .skip)) D with state:=.busy });have hp3:=hp2.put (r':={ recC fn tm (aM [true,true,false,true,false,false] (Option.getD Tryz.f14.body .skip)) (aM [true,true,false,true,false,true] (Option.getD Tryz.f14.body .skip)) D with state:=.busy });show(Code.block 1 (.seq (.seq (aM [true,true,false,true,false,true,false,false,false] (Option.getD Tryz.f14.body .skip)) (.cond (.tmp 12) (aM [true,true,false,true,false,true,false,false,true,false] (Option.getD Tryz.f14.body .skip)) .skip)) (aM [true,true,false,true,false,true,false,true] (Option.getD Tryz.f14.body .skip)))).wpIn (FR (some l)) 0 Tryz.prog _ a2 _;refine wpIn_block (wpIn_seq (wpIn_seq (fF (fun _ _ _ h=>h) mix B1 (fun Q hQ=>y7 s L v a t f hQ) (Lz trivial trivial (oD ⟨bT (jS t _),trivial⟩)) (Hn (u4 hE) (XA _)) hr3 hp3 fun g4 a4 w4 hr4 hp4=>?_)));have hv:=me hr4 (.tmp 12);show(Code.cond (.tmp 12) _ .skip).wpIn (FR (some l)) 0 Tryz.prog _ a4 w4;refine wpIn_cond_split hv.1 (fun _=>?_) (fun h=>by cases h);show(Code.seq (aM [true,true,false,true,false,true,false,false,true,false,false] (Option.getD Tryz.f14.body .skip)) .ret).wpIn (FR (some l)) 0 Tryz.prog _ a4 w4;refine wpIn_seq (fF (e':=[]) (fun _ _ _ h=>h) mix B1 (fun Q hQ=>A2 s L v a t f (fun st h1=>hQ st h1 trivial)) (Lz trivial trivial (oD trivial)) (Hn (u4 hE) (XA _)) hr4 hp4 fun g8 a8 w8 hr8 hp8=>?_);have hp9:=hp8.put (r':={ recC fn tm (aM [true,true,false,true,false,false] (Option.getD Tryz.f14.body .skip)) (aM [true,true,false,true,false,true] (Option.getD Tryz.f14.body .skip)) D with state:=.done,pending:=some .ret });exact wpIn_ret ⟨_,_,run_endRound (some .ret) hp8.hl,hk _ _ (hp9.rel _ (D7 ..)) ⟨Ko (hp9.rel _ (D5 _ (HQ.2 rfl))),hp9.hl,hp9.hd,hp9.fr,hp9.h0⟩⟩
theorem Zx (s:ByteArray)(hs:s.size<=1073741824)(l D:Nat){fn:FuncId}{tm:Array Value}{g0 g:Gh}{w0 w:World}{ai:Act}
  (hr:Rel ⟨fun _=>none,[]⟩ g ⟨Tryz.f66.ntmps,dq 0 [yl l,.ref 6 0 0 0],za s [] 0 .emp nI []⟩ ai w)
  (hp:Pk [YK 66 Tryz.f14.ntmps tm] l D (recC fn tm (aM [true,true,false,true,false,false] (Option.getD Tryz.f14.body .skip)) (aM [true,true,false,true,false,true] (Option.getD Tryz.f14.body .skip)) D) g0 w0 g (za s [] 0 .emp nI []) w) {R:Ending->World->Prop}
  (hk:∀g w v r' r0 r1 u,Pk [YK 66 Tryz.f14.ntmps tm] l D r' g0 w0 g (za s (fQ s).L v r0 r1 []) w->r'.state≠.busy->(r'.pending=none/\(fQ s).late=none/\r0=.emp/\r1=nI\/r'.pending=some .ret/\∃f,(fQ s).late=some f/\r0=.emp/\r1=xd f)->R (.returned u) w) :
  (Option.getD Tryz.f66.body .skip).wpIn (FR none) 0 Tryz.prog (bodyPost Tryz.prog Tryz.f66 R) ai w:=by
 have hE:∀oh,(V.af .nilIface).cl oh:=fun _=>trivial
 show(Code.seq (aM [false] (Option.getD Tryz.f66.body .skip)) (.block 0 (.loop (.block 1 (.seq (aM [true,true,true,true,false] (Option.getD Tryz.f66.body .skip)) (.seq (.region 2 (opsOf (aM [true,true,true,true,true,false] (Option.getD Tryz.f66.body .skip))) false) (.cond (.tmp 25) .ret .skip))))))).wpIn (FR none) 0 Tryz.prog _ ai w;refine wpIn_seq (fF (fun _ _ _ h=>h) mix B1 (fun Q hQ=>A7 l s hQ) (Lz trivial trivial ⟨bT (V.flat.cl _ (mh _ _ _ _)),trivial⟩) (Ko (XA _)) hr hp fun g1 a1 w1 hr1 hp1=>?_)
 refine wpIn_block (SB (fun k a w=>∃n L v g,k=s.size - n/\n<=s.size/\L.length<=n/\bQ s 0=(L ++ (bQ s n).1,(bQ s n).2)/\Rel ⟨fun _=>none,[]⟩ g ⟨Tryz.f66.ntmps,SQ l,za s L v .emp nI [(7,rP s n)]⟩ a w/\
  Pk [YK 66 Tryz.f14.ntmps tm] l D (recC fn tm (aM [true,true,false,true,false,false] (Option.getD Tryz.f14.body .skip)) (aM [true,true,false,true,false,true] (Option.getD Tryz.f14.body .skip)) D) g0 w0 g (za s L v .emp nI [(7,rP s n)]) w) (k:=s.size) ⟨0,[],0,g1,rfl,C0 _,wU _,rfl,hr1,hp1⟩ ?_)
 rintro k a2 w2 ⟨n,L,v,g2,rfl,hn,hLn,hall,hr2,hp2⟩;obtain⟨st1,st2,st3⟩:=IB s n hn;have er:List.range (opsOf (aM [true,true,true,true,true,false] (Option.getD Tryz.f66.body .skip))).size=List.range' 0 3 ++ (3 :: (List.range' 4 10 ++ [])):=rfl;refine wpIn_block ?_;by_cases hc:(jf s n).code=0
 ·generalize ht:(⟨(jf s n).kind,(jf s n).text,(aj s (eG s n).1).1,(aj s (eG s n).1).2⟩:Tok)=t;have h1:=fun(Q:X->St->Prop) hQ=>A6 l s L v n hs hn hc (Q:=Q) hQ
  rw [ht] at h1;refine wpIn_seq (fF (fun _ _ _ h=>h) mix B1 h1 (Lz trivial trivial (oD trivial)) (Ko (XA _)) hr2 hp2 fun g3 a3 w3 hr3 hp3=>?_);refine wpIn_seq (wpIn_region ?_);rw [er];refine yy (fun _ _ _ h=>h) 0 3 B1 rfl (fun K hK=>A1 l s L v (rA s n) t _ (.inl rfl) K hK) (Lz trivial trivial (oD trivial)) (Ko (XA _)) hr3 hp3 fun g4 a4 w4 hr4 hp4=>?_
  refine IW (nf:=0) rfl rfl rfl rfl hp4.hl (hr4.env 12).1 rfl (Zy s L v (rA s n) l D t A8 hr4 hp4 fun g5 w5 hr5 hp5=>⟨_,rfl,?_⟩);refine yy (fun _ _ _ h=>h) 4 10 B1 rfl (fun K hK=>A5 l s (L ++ [t]) (v+1) (rA s n) t K hK) (Lz trivial trivial ⟨bT (V.flat.cl _ (mh _ _ _ _)),trivial⟩) (Ko (XA _)) (hr5.Hz (d:=15) (v:=.af (.bool true)) (D3 rfl) ⟨rfl,rfl⟩) hp5 fun g6 a6 w6 hr6 hp6=>?_
  have hv:=me hr6 (.tmp 25);show(Code.cond (.tmp 25) .ret .skip).wpIn (FR none) 0 Tryz.prog _ a6 w6;refine wpIn_cond_split hv.1 (fun h0=>wpIn_ret ?_) (fun h0=>wpIn_skip ?_)
  ·have h0:(jf s n).kind=0:=by have:=N8 h0;rw [<- ht] at this;dsimp only at this;omega
   obtain⟨e1,e2⟩:=st2 hc h0
   have hT:(fQ s).L=L ++ [t]/\(fQ s).late=none:=by
    show(bQ s 0).1=_/\(bQ s 0).2=_;rw [hall,e2,<- ht,e1,h0];exact⟨rfl,rfl⟩
   obtain⟨v9,hv9⟩:=AZ (P:=Tryz.prog) (fn:=Tryz.f66) (w:=w6) rfl a6.tmps;refine⟨hr6.df,v9,hv9,?_⟩;have hp7:=hp6.less hr6 (T:=za s (L ++ [t]) (v+1) .emp nI []) ⟨rfl,rfl,rfl,rfl,rfl,trivial⟩ (Lz trivial trivial trivial) (Ko (XA _));rw [<- hT.1] at hp7;exact hk _ _ _ _ _ _ _ hp7 (fun h=>by cases h) (.inl ⟨rfl,hT.2,rfl,rfl⟩)
  ·have h0:(jf s n).kind≠0:=by have:=U7 h0;rw [<- ht] at this;dsimp only at this;omega
   obtain⟨e1,e2,e3⟩:=st3 hc h0
   have hr7:Rel ⟨fun _=>none,[]⟩ g6 ⟨Tryz.f66.ntmps,SQ l,za s (L ++ [t]) (v+1) .emp nI [(7,rP s (rA s n))]⟩ a6 w6:=by
    refine(hr6.less ?_).1;exact⟨rfl,⟨rfl,trivial,rfl,rfl,trivial⟩,⟨rfl,rfl,rfl,rfl,rfl,rfl,trivial⟩,Lz trivial trivial ⟨bT (V.flat.cl _ (mh _ _ _ _)),trivial⟩⟩
   refine⟨s.size - rA s n,by omega,rA s n,L ++ [t],v+1,g6,rfl,e2,by rw [List.length_append,List.length_singleton];omega,?_,hr7,hp6⟩;rw [hall,e3,ht,List.append_assoc];rfl
 ·generalize hf:(⟨(jf s n).code,(aj s (eG s n).1).1,(aj s (eG s n).1).2,(jf s n).word⟩:dy)=f;have h1:=fun(Q:X->St->Prop) hQ=>z7 l s L v n hs hn hc (Q:=Q) hQ
  rw [hf] at h1;refine wpIn_seq (fF (fun _ _ _ h=>h) mix B1 h1 (Lz trivial trivial (oD trivial)) (Ko (XA _)) hr2 hp2 fun g3 a3 w3 hr3 hp3=>?_);refine wpIn_seq (wpIn_region ?_);rw [er];refine yy (fun _ _ _ h=>h) 0 3 B1 rfl (fun K hK=>A1 l s L v (rA s n) _ _ (.inr ⟨f,rfl⟩) K hK) (Lz trivial trivial (oD trivial)) (Ko (XA _)) hr3 hp3 fun g4 a4 w4 hr4 hp4=>?_
  refine IW (nf:=0) rfl rfl rfl rfl hp4.hl (hr4.env 12).1 rfl (Ze s L v (rA s n) l D _ f hr4 hp4 fun g5 w5 hr5 hp5=>⟨_,rfl,?_⟩);refine yy (fun _ _ _ h=>h) 4 10 B1 rfl (fun K hK=>z6 l s L v (rA s n) _ f .emp (xd f) K hK) (Lz trivial trivial trivial) (Ko (XA _)) (hr5.Hz (d:=15) (v:=.af (.bool false)) (D3 rfl) ⟨rfl,rfl⟩) hp5 fun g6 a6 w6 hr6 hp6=>?_
  have hv:=me hr6 (.tmp 25);show(Code.cond (.tmp 25) .ret .skip).wpIn (FR none) 0 Tryz.prog _ a6 w6;refine wpIn_cond_split hv.1 (fun _=>wpIn_ret ?_) (fun h0=>by cases h0)
  have hT:(fQ s).L=L/\(fQ s).late=some f:=by
   show(bQ s 0).1=_/\(bQ s 0).2=_;rw [hall,st1 hc,<- hf,J8];exact⟨rfl,rfl⟩
  obtain⟨v9,hv9⟩:=AZ (P:=Tryz.prog) (fn:=Tryz.f66) (w:=w6) rfl a6.tmps;refine⟨hr6.df,v9,hv9,?_⟩;rw [<- hT.1] at hp6;exact hk _ _ _ _ _ _ _ hp6 (fun h=>by cases h) (.inr ⟨rfl,f,hT.2,rfl,rfl⟩)
end Go.Ev
