import Derived.Test.YtppbdmkbhalmpaaGreatDoorLan
import Derived.Test.YtppbdmkbhalmpaaGreatDoorLat
import Derived.Test.YtppbdmkbhalmpaaGreatDoorLag
import Derived.Test.YtppbdmkbhalmpaaGreatDoorLak
set_option linter.all false
set_option maxHeartbeats 4000000
set_option maxRecDepth 10000
namespace Go.Ev
open Go.Proofs
variable {W : Txt}
open PS (Trm)
def numV (z:Int)(d:Nat):V:=.agg [.con (.int .i8 1),.con (.bool (decide (z < 0))),.ro true (tn (lm z.natAbs)),.ro true (tn (lm d))]
theorem numV_flat (z:Int)(d:Nat):(numV z d).flat:=fun v hv=>(dat_con (dat_con (dat_ro (dat_ro dat_nil))) v hv).fl
def stU5 (N a o:Nat)(z:Int)(d:Nat):St:=⟨N,[(0,.ref 0 0 0 0),(2,.own 3 0 0 1)],[(0,prO W a none o),(3,⟨4,[numV z d],0,true⟩)]⟩
theorem pUn0_ok {dec:ByteArray→Int×Nat}(hF:Fit W)(hdec:∀t ∈ W.L,t.kind=2→Ok Tryz.prog 58 [tS9 t.text] true (.tup [tNum (dec t.text).1 (dec t.text).2,.con (.int .i64 0)]))
  (d:Nat) (σ:PS W) (ho:σ.opn+(d+1)=65) (ha:σ.at_≤W.L.length) (h9:∀t,σ.tok=some t→(t.kind=4∧t.text=PS.kMin)∨(t.kind=4∧t.text=PS.kOpen)→64≤σ.opn) :
  OkG Tryz.prog 42 (pO σ) [3] [.ref 0 0 0 0] (prT (PS.un dec (d+1) σ).2 (PS.un dec (d+1) σ).1) (.own 3 0 0 (PS.un dec (d+1) σ).1.length):=by
 have hL:=hF.len
 have hlk:=pNow_ok σ
 have hfl:=pWrong_ok σ.settle 30 (by decide)
 have hfd:=pWrong_ok σ.settle 31 (by decide)
 have ca:=pIs_ok σ.settle 4 PS.kMin
 have cb:=pIs_ok σ.settle.settle 4 PS.kOpen
 rw [settle_wrong] at hfl hfd
 rw [settle_settle] at ca cb
 rw [settle_settle] at cb
 rw [isB_settle] at ca cb
 cases ht:σ.tok with
 |none=>
  rw [wrong_none ht] at hfl
  rw [ht] at hlk
  rw [isB_none ht] at ca cb
  rw [show PS.un dec (d+1) σ=([],σ.settle) from by rw [PS.un,ht]]
  unfold prT
  unfold pO at hlk hfl ca cb ⊢
  refine okpT_of_ev hC0 mix 1 (zO rfl) Tryz.func42 rfl rfl (by kernel_rfl) (by kernel_rfl) (zO rfl) ?_
  repeat'(first|(with_reducible first|(refine zz ?_;try intro K hK)|refine zI ?_|refine zt ?_|refine zf ?_)|((first|refine hK _ ?_|refine hK _ _ rfl ?_);clear hK K)|(guard_hyp hK;first|(refine zY ?zz ?_;case zz=>first|exact rfl|exact gJ)|refine fresh_n ?_|refine freshO_n ?_|refine zW ?_|refine zp 0 (hlk) ?_|refine zp 0 (ca) ?_|refine zp 0 (cb) ?_|refine zp 0 (hfl) ?_|intro b0 hb)|((first|with_reducible refine zm ?_|guard_hyp hK);refine zY ?_ ?_;all_goals(intro hb;(try simp only [sn,sb] at hb);try exact ex0)))
  all_goals exact pr_nilT rfl (by decide) (lfOb_same rfl (pr_flat _ _ _)) rfl rfl (by decide) rfl
 |some t=>
  have hlt:=(PS.tok_at ht).2.2
  have hm:=List.mem_of_getElem? (PS.tok_at ht).2.1
  have hB:∀k w,σ.isB k w=decide (t.kind=k∧t.text=w):=fun k w=>by unfold PS.isB;rw [ht]
  rw [ht,PS.settle_some ht] at hlk
  rw [PS.settle_some ht] at hfl hfd ca cb
  rw [hB] at ca cb
  have hun:PS.un dec (d+1) σ=(if t.kind=2 then([⟨1,(dec t.text).1,(dec t.text).2⟩],σ.adv)
    else if t.kind=4∧t.text=PS.kMin then
     (if 64≤σ.opn then([],σ.wrong 31) else((PS.un dec d (σ.adv.setO (σ.opn+1))).1 ++ [⟨6,0,0⟩],(PS.un dec d (σ.adv.setO (σ.opn+1))).2.setO σ.opn))
    else if t.kind=4∧t.text=PS.kOpen then
     (if 64≤σ.opn then([],σ.wrong 31) else((PS.sum (PS.un dec d) (σ.adv.setO (σ.opn+1))).1,(PS.need 4 PS.kShut (PS.sum (PS.un dec d) (σ.adv.setO (σ.opn+1))).2).setO σ.opn))
    else([],σ.wrong 30)):=by rw [PS.un,ht]
  rw [hun]
  by_cases hk2:t.kind=2
  ·have hd:=hdec t hm hk2
   rw [if_pos hk2]
   unfold prT
   simp only
   obtain⟨e1,e2,e3⟩:=PS.adv_at ht (by rw [hk2];decide)
   rw [e1,e2,e3]
   rw [pO_some ht] at hlk ⊢
   refine okpT_of_ev hC0 mix 1 (zO rfl) Tryz.func42 rfl rfl (by kernel_rfl) (by kernel_rfl) (zO rfl) ?_
   generalize (dec t.text).1=z9 at *
   generalize (dec t.text).2=d9 at *
   repeat'(first|(refine seq_r (a:=Code.region 5 _ _) Unit (fun _=>stU5 Tryz.f42.ntmps (W:=W) (σ.at_+1) σ.opn z9 d9) (fun _=>True) ?_ ?_)|(with_reducible first|(refine zz ?_;try intro K hK)|refine zI ?_|refine zt ?_|refine zf ?_)|((first|refine hK _ ?_|refine hK _ _ rfl ?_);clear hK K)|(guard_hyp hK;first|(refine zY ?zz ?_;case zz=>first|exact rfl|exact gJ)|refine fresh_n ?_|refine freshO_n ?_|refine zW ?_|(refine zQ (hd) ?_)|refine zp 0 (hlk) ?_|intro b0 hb)|((first|with_reducible refine zm ?_|guard_hyp hK);refine zY ?_ ?_;all_goals(intro hb;(try simp only [sn,sb] at hb);try exact ex0)))
   ·rintro - -
    repeat'(first|(with_reducible first|(refine zz ?_;try intro K hK)|refine zI ?_|refine zt ?_|refine zf ?_)|((first|refine hK _ ?_|refine hK _ _ rfl ?_);clear hK K)|(guard_hyp hK;first|(refine zY ?zz ?_;case zz=>first|exact rfl|exact gJ)|refine fresh_n ?_|refine freshO_n ?_|refine zW ?_|intro b0 hb)|((first|with_reducible refine zm ?_|guard_hyp hK);refine zY ?_ ?_;all_goals(intro hb;(try simp only [sn,sb] at hb);try exact ex0)))
    exact pr_retT (v:=0) (l:=[⟨1,z9,d9⟩]) 1 rfl rfl (by decide) (lfOb_same rfl (pr_flat _ _ _)) (Lc.same _ rfl) (lfOb_one rfl (lv_num _ _)) (by decide) rfl
   ·intro R hR
    repeat'(first|(with_reducible first|(refine zz ?_;try intro K hK)|refine zI ?_|refine zt ?_|refine zf ?_)|((first|refine hK _ ?_|refine hK _ _ rfl ?_);clear hK K)|(guard_hyp hK;first|(refine zY ?zz ?_;case zz=>first|exact rfl|exact gJ)|refine fresh_n ?_|refine freshO_n ?_|refine zW ?_|intro b0 hb)|((first|with_reducible refine zm ?_|guard_hyp hK);refine zY ?_ ?_;all_goals(intro hb;(try simp only [sn,sb] at hb);try exact ex0)))
    refine hR _ () trivial (lr_of (lkM [(0,0,0),(3,4,0)]) ?_ ?_ ?_)
    ·show ∀i ∈ [0,3],∀j ∈ [0,3],lkM [(0,0,0),(3,4,0)] i=lkM [(0,0,0),(3,4,0)] j→i=j
     decide
    ·exact⟨⟨_,rfl,rfl,rfl,rfl,rfl,rfl,renE_flat (pr_flat _ _ _)⟩,⟨_,rfl,rfl,rfl,rfl,rfl,rfl,renE_flat (one_flat (numV_flat z9 d9))⟩,trivial⟩
    ·exact⟨renA_ref rfl rfl rfl rfl,renA_own rfl rfl rfl rfl,trivial⟩
  rw [if_neg hk2]
  have hnk:t.kind=4∧t.text=PS.kMin→¬(t.kind=4∧t.text=PS.kOpen):=fun h1 h2=>by
   have:=h1.2.symm.trans h2.2
   have:=congrArg ByteArray.data this
   exact absurd this (by decide)
  have hgo:∀c:Bool,((t.kind=4∧t.text=PS.kMin)∨(t.kind=4∧t.text=PS.kOpen))→OkG Tryz.prog 42 (pO σ) [3] [.ref 0 0 0 0] (prT (σ.wrong 31) []) (.own 3 0 0 ([]:List Trm).length):=by
   intro _ hh
   have h64:=h9 t ht hh
   unfold prT
   unfold pO at hlk hfd ca cb ⊢
   rcases hh with hh|hh
   ·rw [decide_eq_true hh] at ca
    rw [decide_eq_false (hnk hh)] at cb
    refine okpT_of_ev hC0 mix 1 (zO rfl) Tryz.func42 rfl rfl (by kernel_rfl) (by kernel_rfl) (zO rfl) ?_
    repeat'(first|(with_reducible first|(refine zz ?_;try intro K hK)|refine zI ?_|refine zt ?_|refine zf ?_)|((first|refine hK _ ?_|refine hK _ _ rfl ?_);clear hK K)|(guard_hyp hK;first|(refine zY ?zz ?_;case zz=>first|exact rfl|exact gJ)|refine fresh_n ?_|refine freshO_n ?_|refine zW ?_|refine zp 0 (hlk) ?_|refine zp 0 (ca) ?_|refine zp 0 (cb) ?_|refine zp 0 (hfd) ?_|intro b0 hb)|((first|with_reducible refine zm ?_|guard_hyp hK);refine zY ?_ ?_;all_goals(intro hb;(try simp only [sn,sb] at hb);try exact ex0)))
    all_goals exact pr_nilT rfl (by decide) (lfOb_same rfl (pr_flat _ _ _)) rfl rfl (by decide) rfl
   ·rw [decide_eq_false fun h=>hnk h hh] at ca
    rw [decide_eq_true hh] at cb
    refine okpT_of_ev hC0 mix 1 (zO rfl) Tryz.func42 rfl rfl (by kernel_rfl) (by kernel_rfl) (zO rfl) ?_
    repeat'(first|(with_reducible first|(refine zz ?_;try intro K hK)|refine zI ?_|refine zt ?_|refine zf ?_)|((first|refine hK _ ?_|refine hK _ _ rfl ?_);clear hK K)|(guard_hyp hK;first|(refine zY ?zz ?_;case zz=>first|exact rfl|exact gJ)|refine fresh_n ?_|refine freshO_n ?_|refine zW ?_|refine zp 0 (hlk) ?_|refine zp 0 (ca) ?_|refine zp 0 (cb) ?_|refine zp 0 (hfd) ?_|intro b0 hb)|((first|with_reducible refine zm ?_|guard_hyp hK);refine zY ?_ ?_;all_goals(intro hb;(try simp only [sn,sb] at hb);try exact ex0)))
    all_goals exact pr_nilT rfl (by decide) (lfOb_same rfl (pr_flat _ _ _)) rfl rfl (by decide) rfl
  by_cases hmn:t.kind=4∧t.text=PS.kMin
  ·rw [if_pos hmn,if_pos (h9 t ht (.inl hmn))]
   exact hgo true (.inl hmn)
  rw [if_neg hmn]
  by_cases hop:t.kind=4∧t.text=PS.kOpen
  ·rw [if_pos hop,if_pos (h9 t ht (.inr hop))]
   exact hgo true (.inr hop)
  rw [if_neg hop]
  rw [decide_eq_false hmn] at ca
  rw [decide_eq_false hop] at cb
  unfold prT
  unfold pO at hlk hfl ca cb ⊢
  refine okpT_of_ev hC0 mix 1 (zO rfl) Tryz.func42 rfl rfl (by kernel_rfl) (by kernel_rfl) (zO rfl) ?_
  repeat'(first|(with_reducible first|(refine zz ?_;try intro K hK)|refine zI ?_|refine zt ?_|refine zf ?_)|((first|refine hK _ ?_|refine hK _ _ rfl ?_);clear hK K)|(guard_hyp hK;first|(refine zY ?zz ?_;case zz=>first|exact rfl|exact gJ)|refine fresh_n ?_|refine freshO_n ?_|refine zW ?_|refine zp 0 (hlk) ?_|refine zp 0 (ca) ?_|refine zp 0 (cb) ?_|refine zp 0 (hfl) ?_|intro b0 hb)|((first|with_reducible refine zm ?_|guard_hyp hK);refine zY ?_ ?_;all_goals(intro hb;(try simp only [sn,sb] at hb);try exact ex0)))
  all_goals exact pr_nilT rfl (by decide) (lfOb_same rfl (pr_flat _ _ _)) rfl rfl (by decide) rfl
variable {W : Txt}
def bxP : Obj:=⟨1,[.ref 0 0 0 0],0,true⟩
def pB (W:Txt)(a:Nat)(b:Option Flt)(n:Nat):OH:=[(0,prO W a b n),(1,bxP)]
theorem pB_get {a:Nat}{b:Option Flt}{n:Nat}{i:Nat}{o:Obj}(h:oget (pB W a b n) i=some o):(i=0∧o=prO W a b n)∨(i=1∧o=bxP):=by
 by_cases h0:i=0
 ·subst h0;exact .inl ⟨rfl,(Option.some.inj h).symm⟩
 ·by_cases h1:i=1
  ·subst h1;exact .inr ⟨rfl,(Option.some.inj h).symm⟩
  ·rw [pB,oget,if_neg (Ne.symm h0),oget,if_neg (Ne.symm h1)] at h
   cases h
theorem pB_after {a a':Nat}{b b':Option Flt}{n n':Nat}{i:Nat}{o:Obj}(h:oget (prQ W a' b' n' ++ pB W a b n) i=some o):(i=0∧o=prO W a' b' n')∨(i=1∧o=bxP):=by
 by_cases h0:i=0
 ·subst h0;exact .inl ⟨rfl,(Option.some.inj h).symm⟩
 ·have:oget (pB W a b n) i=some o:=by
   rw [← h]
   show _=oget ((0,_) :: pB W a b n) i
   rw [oget,if_neg (Ne.symm h0)]
  rcases pB_get this with⟨e,-⟩|h9
  ·exact absurd e h0
  ·exact .inr h9
theorem pB_bm {oh:OH}{a a':Nat}{b b':Option Flt}{n n':Nat}(hs:oget oh 0=some (prO W a' b' n'))(h1:oget oh 1=some bxP):Bm oh (prQ W a' b' n' ++ pB W a b n):=by
 intro i o h
 rcases pB_after h with⟨rfl,rfl⟩|⟨rfl,rfl⟩
 ·refine⟨_,hs,rfl,rfl,rfl,rfl,fun k e e1 g1 g2=>?_⟩
  rw [g1] at g2
  obtain rfl:e=e1:=by simpa using g2
  exact bmA_flat (pr_flat _ _ _ e (List.mem_of_getElem? g1))
 ·refine⟨_,h1,rfl,rfl,rfl,rfl,fun k e e1 g1 g2=>?_⟩
  rw [g1] at g2
  obtain rfl:e=e1:=by simpa using g2
  obtain rfl:e=.ref 0 0 0 0:=by simpa [bxP] using List.mem_of_getElem? g1
  exact BmC.ref 0 0 0 0 0 _ _ hs rfl rfl rfl
theorem pClo_ok (a:Nat)(b:Option Flt)(n:Nat)(hn:n≤64):OkD Tryz.prog 59 (pB W a b (n+1)) [.ref 1 0 0 0] (prQ W a b n):=by
 have hw:((n:Nat):Int)=IntKind.i64.wrap (((n+1:Nat):Int) - 1):=by
  rw [show((n+1:Nat):Int) - 1=n by omega]
  exact wrapAny (by simp only [kmin];omega) (by simp only [kmax];omega)
 refine okd_of_reg (fun _ _ _ h=>h) Tryz.func59 rfl rfl (by kernel_rfl) (by kernel_rfl) (Nat.le_of_ble_eq_true rfl) rfl (fun i o h=>?_) (fun v hv=>?_) (fun i o h=>?_) (fun i o o' h h' _ _=>?_) (fun i o h=>?_) ?_
 ·rcases pB_get h with⟨rfl,rfl⟩|⟨rfl,rfl⟩
  ·exact⟨rfl,rfl,pr_cl _⟩
  ·exact⟨rfl,rfl,one_vs rfl⟩
 ·obtain rfl:=List.mem_singleton.1 hv
  exact rfl
 ·obtain⟨rfl,rfl⟩:=oget_one h
  exact .inl rfl
 ·rcases pB_get h with⟨rfl,rfl⟩|⟨rfl,rfl⟩
  ·rcases pB_after h' with⟨-,rfl⟩|⟨e,-⟩
   ·exact⟨rfl,Nat.le_refl _⟩
   ·cases e
  ·rcases pB_after h' with⟨e,-⟩|⟨-,rfl⟩
   ·cases e
   ·exact⟨rfl,Nat.le_refl _⟩
 ·rcases pB_get h with⟨rfl,rfl⟩|⟨rfl,rfl⟩
  ·exact⟨Nat.zero_lt_succ _,fun e=>by cases e⟩
  ·exact⟨Nat.zero_lt_succ _,fun e=>by cases e⟩
 unfold pB
 repeat'(first|(guard_hyp hK;refine Exists.intro _ (And.intro hw ?_))|(with_reducible first|(refine zz ?_;try intro K hK)|refine zI ?_|refine zt ?_|refine zf ?_)|((first|refine hK _ ?_|refine hK _ _ rfl ?_);clear hK K)|(guard_hyp hK;first|(refine zY ?zz ?_;case zz=>first|exact rfl|exact gJ)|refine fresh_n ?_|refine freshO_n ?_|refine zW ?_|intro b0 hb)|((first|with_reducible refine zm ?_|guard_hyp hK);refine zY ?_ ?_;all_goals(intro hb;(try simp only [sn,sb] at hb);try exact ex0)))
 refine⟨pB_bm rfl rfl,fun i o h=>?_⟩
 rcases pB_get h with⟨rfl,rfl⟩|⟨rfl,rfl⟩
 ·exact⟨_,rfl,rfl,rfl,rfl⟩
 ·exact⟨_,rfl,rfl,rfl,rfl⟩
variable {W : Txt}
def stUd (N a n:Nat)(W:Txt)(m:Bool):St:=⟨N,[(0,.ref 0 0 0 0),(1,.ref 1 0 0 0),(7,.con (.bool m))],[(0,prO W a none n),(1,bxP)]⟩
theorem pB_oh {a:Nat}{b:Option Flt}{n:Nat}{oh:OH}(h0:oget oh 0=some (prO W a b n))(h1:oget oh 1=some bxP):∀i o,oget (pB W a b n) i=some o→oget oh i=some o:=by
 intro i o h
 rcases pB_get h with⟨rfl,rfl⟩|⟨rfl,rfl⟩
 ·exact h0
 ·exact h1
theorem pB_id (a:Nat)(b:Option Flt)(n:Nat):∀i o,oget (pB W a b n) i=some o→o.rn (fun i=>i) (fun _=>0) i=o:=by
 intro i o h
 rcases pB_get h with⟨rfl,rfl⟩|⟨rfl,rfl⟩
 ·show Obj.mk 5 [(prV W a b n).rnA _ _] _ true=_
  rw [rn_id _ _ (prV_flat a b n)];rfl
 ·rfl
theorem pr_rid (a:Nat)(b:Option Flt)(n:Nat):rnO (fun i=>i) (fun _=>0) (prQ W a b n)=prQ W a b n:=pr_rn _ _ rfl a b n
theorem pD_wf {a:Nat}{b:Option Flt}{n:Nat}:∀i o,oget (prQ W a b n) i=some o→o.ver=0∧o.live=true∧∀v ∈ o.el,v.cl (prQ W a b n):=by
 intro i o h
 obtain⟨rfl,rfl⟩:=oget_one h
 exact⟨rfl,rfl,pr_cl _⟩
theorem pD_vs {a:Nat}{b:Option Flt}{n:Nat}:∀v ∈ [V.ref 0 0 0 0],v.cl (prQ W a b n):=one_vs rfl
theorem pD_po {a a':Nat}{b b':Option Flt}{n n':Nat}{l:List Trm}:∀i o,oget (prP W a' b' n' l 0) i=some o→(oget (prQ W a b n) i).isSome=true∨i ∈ [3]:=by
 intro i o h
 by_cases h0:i=0
 ·subst h0;exact .inl rfl
 ·by_cases h3:i=3
  ·subst h3;exact .inr (List.mem_singleton.2 rfl)
  ·rw [prP,oget,if_neg (Ne.symm h0),oget,if_neg (Ne.symm h3)] at h
   cases h
theorem pD_le {a a':Nat}{b b':Option Flt}{n n':Nat}{l:List Trm}:∀i o o',oget (prQ W a b n) i=some o→oget (prP W a' b' n' l 0 ++ prQ W a b n) i=some o'→o'.ver=0→o'.live=true→o'.sz=o.sz∧o.el.length≤o'.el.length:=by
 intro i o o' h1 h2 h3 h4
 obtain⟨rfl,rfl⟩:=oget_one h1
 rcases prp_after h2 with⟨-,rfl⟩|⟨e,-⟩
 ·exact⟨rfl,Nat.le_refl _⟩
 ·cases e
theorem pUn_ok {dec:ByteArray→Int×Nat}(hF:Fit W)(hK:Kin W)(hdec:∀t ∈ W.L,t.kind=2→Ok Tryz.prog 58 [tS9 t.text] true (.tup [tNum (dec t.text).1 (dec t.text).2,.con (.int .i64 0)])) :
  ∀d,1≤d→UnOK (W:=W) Tryz.prog 42 d (PS.un dec d)
 |0,h=>absurd h (by decide)
 |d+1,_=>by
  intro σ ho ha
  have IH:=pUn_ok hF hK hdec d
  by_cases h9:∀t,σ.tok=some t→(t.kind=4∧t.text=PS.kMin)∨(t.kind=4∧t.text=PS.kOpen)→64≤σ.opn
  ·exact pUn0_ok hF hdec d σ ho ha h9
  obtain⟨t,ht,hmo,ho64⟩:∃t,σ.tok=some t∧((t.kind=4∧t.text=PS.kMin)∨(t.kind=4∧t.text=PS.kOpen))∧¬64≤σ.opn:=by
   simp only [Classical.not_forall] at h9
   obtain⟨t,h1,h2,h3⟩:=h9
   exact⟨t,h1,h2,h3⟩
  clear h9
  have hL:=hF.len
  have hk4:t.kind=4:=hmo.elim And.left And.left
  have hlk:=pNow_ok σ
  have ca:=pIs_ok σ 4 PS.kMin
  have cb:=pIs_ok σ 4 PS.kOpen
  have hlt:=(PS.tok_at ht).2.2
  have hB:∀k w,σ.isB k w=decide (t.kind=k∧t.text=w):=fun k w=>by unfold PS.isB;rw [ht]
  rw [ht,PS.settle_some ht] at hlk
  rw [PS.settle_some ht] at ca cb
  rw [hB] at ca cb
  have hun:PS.un dec (d+1) σ=(if t.kind=2 then([⟨1,(dec t.text).1,(dec t.text).2⟩],σ.adv)
    else if t.kind=4∧t.text=PS.kMin then
     (if 64≤σ.opn then([],σ.wrong 31) else((PS.un dec d (σ.adv.setO (σ.opn+1))).1 ++ [⟨6,0,0⟩],(PS.un dec d (σ.adv.setO (σ.opn+1))).2.setO σ.opn))
    else if t.kind=4∧t.text=PS.kOpen then
     (if 64≤σ.opn then([],σ.wrong 31) else((PS.sum (PS.un dec d) (σ.adv.setO (σ.opn+1))).1,(PS.need 4 PS.kShut (PS.sum (PS.un dec d) (σ.adv.setO (σ.opn+1))).2).setO σ.opn))
    else([],σ.wrong 30)):=by rw [PS.un,ht]
  have hav:=PS.adv_at ht (by rw [hk4];decide)
  have hd1:1≤d:=by omega
  have r1:(σ.adv.setO (σ.opn+1)).opn+d=65:=by show σ.opn+1+d=65;omega
  have r2:(σ.adv.setO (σ.opn+1)).at_≤W.L.length:=by show σ.adv.at_≤_;rw [hav.1];exact hlt
  have r3:pO (σ.adv.setO (σ.opn+1))=prQ W (σ.at_+1) none (σ.opn+1):=by
   show prQ W σ.adv.at_ σ.adv.bad (σ.opn+1)=_
   rw [hav.1,hav.2.1]
  rw [hun,if_neg (by rw [hk4];decide)]
  by_cases hmn:t.kind=4∧t.text=PS.kMin
  ·rw [if_pos hmn,if_neg ho64]
   have hno:¬(t.kind=4∧t.text=PS.kOpen):=fun h2=>by
    have:=congrArg ByteArray.data (hmn.2.symm.trans h2.2)
    exact absurd this (by decide)
   rw [decide_eq_true hmn] at ca
   rw [decide_eq_false hno] at cb
   have hrec:=IH hd1 _ r1 r2
   rw [r3] at hrec
   obtain⟨hfo,hfl2⟩:=PS.un_good dec d (σ.adv.setO (σ.opn+1))
   have hhi:=hfo.hi r2
   have ho2:(PS.un dec d (σ.adv.setO (σ.opn+1))).2.opn=σ.opn+1:=hfo.opn
   unfold prT at hrec ⊢
   rw [ho2] at hrec
   generalize PS.un dec d (σ.adv.setO (σ.opn+1))=r at *
   show OkG _ _ _ _ _ (prP W r.2.at_ r.2.bad σ.opn (r.1 ++ [⟨6,0,0⟩]) 0) _
   rw [pO_some ht] at hlk ca cb ⊢
   refine okgD_of_ev (s0:=stUd Tryz.f42.ntmps σ.at_ (σ.opn+1) W true) hC0 mix 6 (zO rfl) Tryz.func42 rfl rfl rfl rfl rfl rfl rfl rfl rfl (by kernel_rfl) (by kernel_rfl) (by kernel_rfl) (by kernel_rfl) (zO rfl) (zO rfl) (zO rfl) (pClo_ok (W:=W) r.2.at_ r.2.bad σ.opn (by omega)) (pB_id _ _ _) (pr_rid _ _ _) rfl rfl pD_wf pD_vs pD_po pD_le ?_ ?_
   ·dsimp only [seqs,spl]
    repeat'(first|(with_reducible first|(refine zz ?_;try intro K hK)|refine zI ?_|refine zt ?_|refine zf ?_)|((first|refine hK _ ?_|refine hK _ _ rfl ?_);clear hK K)|(guard_hyp hK;first|(refine zY ?zz ?_;case zz=>first|exact rfl|exact gJ)|refine fresh_n ?_|refine freshO_n ?_|refine zW ?_|refine zp 0 (hlk) ?_|refine zp 0 (ca) ?_|refine zp 0 (cb) ?_|intro b0 hb)|((first|with_reducible refine zm ?_|guard_hyp hK);refine zY ?_ ?_;all_goals(intro hb;(try simp only [sn,sb] at hb);try exact ex0)))
    all_goals exact⟨.le,rfl,⟨rfl,rfl,rfl,rfl,rfl,trivial,trivial⟩,⟨rfl,rfl,trivial⟩,⟨pr_cl _,one_vs rfl,trivial⟩⟩
   ·unfold stUd
    repeat'(first|(with_reducible first|(refine zz ?_;try intro K hK)|refine zI ?_|refine zt ?_|refine zf ?_)|((first|refine hK _ ?_|refine hK _ _ rfl ?_);clear hK K)|(guard_hyp hK;first|(refine zY ?zz ?_;case zz=>first|exact rfl|exact gJ)|refine fresh_n ?_|refine freshO_n ?_|refine zW ?_|(refine Or.inr (Or.inr (Or.inl (pr_callT 0 3 (hrec) ?hga ?hgb ?hgc ?hgd ?_)));(case hga=>rfl);(case hgb=>rfl);(case hgc=>rfl);(case hgd=>decide))|intro b0 hb)|((first|with_reducible refine zm ?_|guard_hyp hK);refine zY ?_ ?_;all_goals(intro hb;(try simp only [sn,sb] at hb);try exact ex0)))
    refine⟨pB_oh rfl rfl,?_⟩
    exact pr_retT (t:=2) (np:=1) (a':=r.2.at_) (b':=r.2.bad) (n':=σ.opn) (l:=r.1 ++ [(⟨6,0,0⟩:Trm)]) (v:=1) (r.1.length+1) (by rw [List.length_append];rfl) rfl (by decide) (lfOb_same rfl (pr_flat _ _ _)) (Lc.same _ rfl) (lfOb_app (F:=vT) (l:=r.1) (a:=⟨6,0,0⟩) rfl rfl rfl (fun x _=>vT_flat x) (lv_sign 6)) (by decide) rfl
  ·have hop:t.kind=4∧t.text=PS.kOpen:=hmo.resolve_left hmn
   rw [if_neg hmn,if_pos hop,if_neg ho64]
   rw [decide_eq_false hmn] at ca
   rw [decide_eq_true hop] at cb
   have hgd:=PS.un_good (X:=W) dec d
   have hrec:=pSum_ok hL hgd (pProd_ok hL hgd (IH hd1)) _ r1 r2
   rw [r3] at hrec
   obtain⟨hfo,hfl2⟩:=PS.sum_good hgd (σ.adv.setO (σ.opn+1))
   have ho2:(PS.sum (PS.un dec d) (σ.adv.setO (σ.opn+1))).2.opn=σ.opn+1:=hfo.opn
   unfold prT at hrec ⊢
   rw [ho2] at hrec
   generalize PS.sum (PS.un dec d) (σ.adv.setO (σ.opn+1))=r at *
   have hnd:=pNeed_ok [(4,PS.kShut)] r.2 hL (by decide) (by decide) (kc hK.shut kn)
   have ho3:(PS.need 4 PS.kShut r.2).opn=σ.opn+1:=(PS.need_fol 4 PS.kShut r.2).opn.trans ho2
   have e9:PS.needL [(4,PS.kShut)] r.2=PS.need 4 PS.kShut r.2:=rfl
   rw [e9] at hnd
   unfold pO at hnd
   rw [ho2,ho3] at hnd
   generalize PS.need 4 PS.kShut r.2=s9 at *
   show OkG _ _ _ _ _ (prP W s9.at_ s9.bad σ.opn r.1 0) _
   rw [pO_some ht] at hlk ca cb ⊢
   refine okgD_of_ev (s0:=stUd Tryz.f42.ntmps σ.at_ (σ.opn+1) W false) hC0 mix 6 (zO rfl) Tryz.func42 rfl rfl rfl rfl rfl rfl rfl rfl rfl (by kernel_rfl) (by kernel_rfl) (by kernel_rfl) (by kernel_rfl) (zO rfl) (zO rfl) (zO rfl) (pClo_ok (W:=W) s9.at_ s9.bad σ.opn (by omega)) (pB_id _ _ _) (pr_rid _ _ _) rfl rfl pD_wf pD_vs pD_po pD_le ?_ ?_
   ·dsimp only [seqs,spl]
    repeat'(first|(with_reducible first|(refine zz ?_;try intro K hK)|refine zI ?_|refine zt ?_|refine zf ?_)|((first|refine hK _ ?_|refine hK _ _ rfl ?_);clear hK K)|(guard_hyp hK;first|(refine zY ?zz ?_;case zz=>first|exact rfl|exact gJ)|refine fresh_n ?_|refine freshO_n ?_|refine zW ?_|refine zp 0 (hlk) ?_|refine zp 0 (ca) ?_|refine zp 0 (cb) ?_|intro b0 hb)|((first|with_reducible refine zm ?_|guard_hyp hK);refine zY ?_ ?_;all_goals(intro hb;(try simp only [sn,sb] at hb);try exact ex0)))
    all_goals exact⟨.le,rfl,⟨rfl,rfl,rfl,rfl,rfl,trivial,trivial⟩,⟨rfl,rfl,trivial⟩,⟨pr_cl _,one_vs rfl,trivial⟩⟩
   ·unfold stUd
    repeat'(first|(with_reducible first|(refine zz ?_;try intro K hK)|refine zI ?_|refine zt ?_|refine zf ?_)|((first|refine hK _ ?_|refine hK _ _ rfl ?_);clear hK K)|(guard_hyp hK;first|(refine zY ?zz ?_;case zz=>first|exact rfl|exact gJ)|refine fresh_n ?_|refine freshO_n ?_|refine zW ?_|(refine Or.inr (Or.inr (Or.inl (pr_callT 0 3 (hrec) ?hga ?hgb ?hgc ?hgd ?_)));(case hga=>rfl);(case hgb=>rfl);(case hgc=>rfl);(case hgd=>decide))|(refine' Or.inr (Or.inr (Or.inl (need_call ([(4,PS.kShut)]) _ _ (hnd) ?hga ?hgb ?hgc ?hgd ?_)));(case hga=>rfl);(case hgb=>rfl);(case hgc=>rfl);(case hgd=>exact Nat.ne_of_lt (zO rfl)))|intro b0 hb)|((first|with_reducible refine zm ?_|guard_hyp hK);refine zY ?_ ?_;all_goals(intro hb;(try simp only [sn,sb] at hb);try exact ex0)))
    refine⟨pB_oh rfl rfl,?_⟩
    exact pr_retT (t:=2) (np:=1) (a':=s9.at_) (b':=s9.bad) (n':=σ.opn) (l:=r.1) (v:=0) _ rfl rfl (by decide) (lfOb_same rfl (pr_flat _ _ _)) (Lc.same _ rfl) (lfOb_same rfl (vTs_flat _)) (by decide) rfl
variable {W : Txt}
theorem need_settle (k:Int)(w:ByteArray)(σ:PS W):PS.need k w σ.settle=PS.need k w σ:=by
 unfold PS.need
 rw [isB_settle]
 cases hB:σ.isB k w with
 |true=>
  obtain⟨t,ht,-,-⟩:=PS.isB_tok hB
  rw [PS.settle_some ht]
 |false=>rw [settle_wrong,if_neg Bool.false_ne_true,if_neg Bool.false_ne_true]
def vEnt (e:PS.EntD):V:=.agg [.con (.int .i8 e.kind),.ro false (tSs e.given),.ro false (tRw e.nums)]
theorem lc_emp {oh oh1:OH}{t:T}(h:t=.sl []):Lc oh oh1 .emp (.ro false t):=by subst h;exact Lc.frz false _ (.sl []) Fd1.emp
theorem lc_ro {oh oh1:OH}{t:List T}:Lc oh oh1 (.ro false (.sl t)) (.ro false (.sl t)):=Lc.same _ trivial
variable {W : Txt}
def stEn (N:Nat)(σ:PS W)(k:Int)(g:List ByteArray):St:=⟨N,[(0,.ref 0 0 0 0),(2,.ref 1 0 0 0),(3,.ref 2 0 0 0)],[(0,prO W σ.at_ σ.bad σ.opn),(1,⟨3,[.agg [.con (.int .i8 0),.emp,.emp]],0,true⟩),(2,⟨3,[.agg [.con (.int .i8 k),.ro false (tSs g),.emp]],0,true⟩)]⟩
theorem agg_same {oh oh1:OH}{l:List V}(h:l.all V.flatB=true){i sz ver:Nat}(ho:oget oh i=some ⟨sz,[.agg l],ver,true⟩):lfOb oh oh1 i ⟨sz,[.agg l],ver,true⟩:=by
 refine lfOb_same ho (one_flat fun v hv=>?_)
 have:=List.all_eq_true.1 h v hv
 cases v<;>first|trivial|exact absurd this Bool.false_ne_true
theorem pEnt_ok {dec:ByteArray→Int×Nat}(hF:Fit W)(hkn:Kin W)(hS:UnOK Tryz.prog 21 65 (PS.sum (X:=W) (PS.un dec 65)))
  (σ:PS W) (ho:σ.opn=0) (ha:σ.at_≤W.L.length):OkG Tryz.prog 32 (pO σ) [] [.ref 0 0 0 0] (pO (PS.entD dec σ).2) (vEnt (PS.entQ dec σ).1):=by
 have hL:=hF.len
 have ca:=pIs_ok σ 1 PS.kTab
 have cb:=pIs_ok σ.settle 1 PS.kDef
 rw [isB_settle,settle_settle] at cb
 obtain⟨hf1,-⟩:=PS.ent1_fol σ
 have hrow:=pRow_ok hF hS (PS.ent1Q σ).2.2 (by rw [PS.ent1Q_st];exact hf1.opn.trans ho) (by rw [PS.ent1Q_st];exact hf1.hi ha)
 have hsg:=pNeed_ok [(4,PS.kSemi)] (PS.rowQ dec (PS.ent1Q σ).2.2).2 hL (by decide) (by decide) (kc hkn.semi kn)
 have e9:(PS.entD dec σ).2=PS.needL [(4,PS.kSemi)] (PS.rowQ dec (PS.ent1Q σ).2.2).2:=by rw [PS.rowQ_st,PS.ent1Q_st];rfl
 unfold PS.entQ
 rw [e9]
 generalize PS.rowQ dec (PS.ent1Q σ).2.2=r at *
 generalize PS.needL [(4,PS.kSemi)] r.2=s9 at *
 clear e9
 generalize hE:PS.ent1Q σ=E at *
 unfold PS.ent1Q at hE
 dsimp only
 unfold pO at hrow hsg ca cb ⊢
 refine okp_of_ev hC0 mix 1 (zO rfl) Tryz.func32 rfl rfl (by kernel_rfl) (by kernel_rfl) (zO rfl) ?vs ?_
 case vs=>exact fl0
 repeat'(first|(refine seq_k (a:=Code.block 0 _) Unit (fun _=>stEn Tryz.f32.ntmps E.2.2 E.1 E.2.1) (fun _=>True) ?_ ?_)|(with_reducible first|(refine zz ?_;try intro K hK)|refine zI ?_|refine zt ?_|refine zf ?_)|((first|refine hK _ ?_|refine hK _ _ rfl ?_);clear hK K)|(guard_hyp hK;first|(refine zY ?zz ?_;case zz=>first|exact rfl|exact gJ)|refine fresh_n ?_|refine freshO_n ?_|refine zW ?_|intro b0 hb)|((first|with_reducible refine zm ?_|guard_hyp hK);refine zY ?_ ?_;all_goals(intro hb;(try simp only [sn,sb] at hb);try exact ex0)))
 ·rintro - -
  unfold stEn
  repeat'(first|(with_reducible first|(refine zz ?_;try intro K hK)|refine zI ?_|refine zt ?_|refine zf ?_)|((first|refine hK _ ?_|refine hK _ _ rfl ?_);clear hK K)|(guard_hyp hK;first|(refine zY ?zz ?_;case zz=>first|exact rfl|exact gJ)|refine fresh_n ?_|refine freshO_n ?_|refine zW ?_|refine zp 0 (hrow) ?_|(refine' Or.inr (Or.inr (Or.inl (need_call ([(4,PS.kSemi)]) _ _ (hsg) ?hga ?hgb ?hgc ?hgd ?_)));(case hga=>rfl);(case hgb=>rfl);(case hgc=>rfl);(case hgd=>exact Nat.ne_of_lt (zO rfl)))|intro b0 hb)|((first|with_reducible refine zm ?_|guard_hyp hK);refine zY ?_ ?_;all_goals(intro hb;(try simp only [sn,sb] at hb);try exact ex0)))
  exact pr_retv (l:=[.con (.int .i8 E.1),.ro false (tSs E.2.1),.ro false (tRw r.1)]) rfl tk94 rfl (Nat.zero_lt_succ _) rfl rfl (dat_con (dat_ro (dat_ro dat_nil))) rfl (by decide) rfl
 ·intro R hR
  clear hrow hsg
  cases hA:σ.isB 1 PS.kTab with
  |true=>
   obtain⟨t,ht,hk,-⟩:=PS.isB_tok hA
   have hlt:=(PS.tok_at ht).2.2
   have hav:=PS.adv_at ht (by rw [hk];decide)
   rw [if_pos hA] at hE
   subst hE
   rw [hA,PS.settle_some ht,(PS.tok_at ht).1] at ca
   rw [(PS.tok_at ht).1]
   repeat'(first|(with_reducible first|(refine zz ?_;try intro K hK)|refine zI ?_|refine zt ?_|refine zf ?_)|((first|refine hK _ ?_|refine hK _ _ rfl ?_);clear hK K)|(guard_hyp hK;first|(refine zY ?zz ?_;case zz=>first|exact rfl|exact gJ)|refine fresh_n ?_|refine freshO_n ?_|refine zW ?_|refine zp 0 (ca) ?_|intro b0 hb)|((first|with_reducible refine zm ?_|guard_hyp hK);refine zY ?_ ?_;all_goals(intro hb;(try simp only [sn,sb] at hb);try exact ex0)))
   refine hR _ () trivial (lf_of0 ⟨Lc.same _ rfl,Lc.same _ rfl,Lc.same _ rfl,trivial⟩ ⟨?_,agg_same rfl rfl,lfOb_one rfl (lv_agg ⟨Lc.same _ trivial,lc_emp rfl,Lc.same _ trivial,trivial⟩),trivial⟩)
   dsimp only
   rw [hav.1,hav.2.1,hav.2.2]
   exact lfOb_same rfl (pr_flat _ _ _)
  |false=>
   rw [if_neg (by rw [hA];exact Bool.false_ne_true)] at hE
   rw [hA] at ca
   cases hB:σ.isB 1 PS.kDef with
   |true=>
    obtain⟨t,ht,hk,-⟩:=PS.isB_tok hB
    have hlt:=(PS.tok_at ht).2.2
    have hav:=PS.adv_at ht (by rw [hk];decide)
    rw [if_pos hB] at hE
    subst hE
    rw [PS.settle_some ht,(PS.tok_at ht).1] at ca
    rw [hB,PS.settle_some ht,(PS.tok_at ht).1] at cb
    rw [(PS.tok_at ht).1]
    repeat'(first|(with_reducible first|(refine zz ?_;try intro K hK)|refine zI ?_|refine zt ?_|refine zf ?_)|((first|refine hK _ ?_|refine hK _ _ rfl ?_);clear hK K)|(guard_hyp hK;first|(refine zY ?zz ?_;case zz=>first|exact rfl|exact gJ)|refine fresh_n ?_|refine freshO_n ?_|refine zW ?_|refine zp 0 (ca) ?_|refine zp 0 (cb) ?_|intro b0 hb)|((first|with_reducible refine zm ?_|guard_hyp hK);refine zY ?_ ?_;all_goals(intro hb;(try simp only [sn,sb] at hb);try exact ex0)))
    refine hR _ () trivial (lf_of0 ⟨Lc.same _ rfl,Lc.same _ rfl,Lc.same _ rfl,trivial⟩ ⟨?_,agg_same rfl rfl,lfOb_one rfl (lv_agg ⟨Lc.same _ trivial,lc_emp rfl,Lc.same _ trivial,trivial⟩),trivial⟩)
    dsimp only
    rw [hav.1,hav.2.1,hav.2.2]
    exact lfOb_same rfl (pr_flat _ _ _)
   |false=>
    rw [if_neg (by rw [hB];exact Bool.false_ne_true),← PS.namesQ_st] at hE
    subst hE
    rw [hB] at cb
    have c1:=pNeed_ok [(4,PS.kOpen)] σ.settle hL (by decide) (by decide) (kc hkn.open_ kn)
    have e1:PS.needL [(4,PS.kOpen)] σ.settle=PS.need 4 PS.kOpen σ:=need_settle 4 PS.kOpen σ
    rw [e1] at c1
    have ha1:=(PS.need_fol 4 PS.kOpen σ).hi ha
    generalize PS.need 4 PS.kOpen σ=s1 at *
    have c2:=pNames_ok s1 hL ha1
    generalize PS.namesQ s1=r2 at *
    have c3:=pNeed_ok [(4,PS.kShut)] r2.2 hL (by decide) (by decide) (kc hkn.shut kn)
    have e3:PS.needL [(4,PS.kShut)] r2.2=PS.need 4 PS.kShut r2.2:=rfl
    rw [e3] at c3
    generalize PS.need 4 PS.kShut r2.2=s3 at *
    unfold pO at c1 c2 c3
    repeat'(first|(with_reducible first|(refine zz ?_;try intro K hK)|refine zI ?_|refine zt ?_|refine zf ?_)|((first|refine hK _ ?_|refine hK _ _ rfl ?_);clear hK K)|(guard_hyp hK;first|(refine zY ?zz ?_;case zz=>first|exact rfl|exact gJ)|refine fresh_n ?_|refine freshO_n ?_|refine zW ?_|refine zp 0 (ca) ?_|refine zp 0 (cb) ?_|(refine' Or.inr (Or.inr (Or.inl (need_call ([(4,PS.kOpen)]) _ _ (c1) ?hga ?hgb ?hgc ?hgd ?_)));(case hga=>rfl);(case hgb=>rfl);(case hgc=>rfl);(case hgd=>exact Nat.ne_of_lt (zO rfl)))|refine zp 0 (c2) ?_|(refine' Or.inr (Or.inr (Or.inl (need_call ([(4,PS.kShut)]) _ _ (c3) ?hga ?hgb ?hgc ?hgd ?_)));(case hga=>rfl);(case hgb=>rfl);(case hgc=>rfl);(case hgd=>exact Nat.ne_of_lt (zO rfl)))|intro b0 hb)|((first|with_reducible refine zm ?_|guard_hyp hK);refine zY ?_ ?_;all_goals(intro hb;(try simp only [sn,sb] at hb);try exact ex0)))
    exact hR _ () trivial (lf_of0 ⟨Lc.same _ rfl,Lc.same _ rfl,Lc.same _ rfl,trivial⟩ ⟨lfOb_same rfl (pr_flat _ _ _),agg_same rfl rfl,agg_same rfl rfl,trivial⟩)
variable {W : Txt}
open PS (Trm EntD)
theorem propsL_len : ∀(k:Nat) (l:List ByteArray) (σ:PS W),(PS.propsL k l σ).1.length+σ.at_≤l.length+(PS.propsL k l σ).2.at_
 |0,_,_=>Nat.le_refl _
 |k+1,l,σ=>by
  rw [PS.propsL];split
  ·rename_i h
   have h1:=(PS.adv_fol1 h (by decide)).le
   have h2:=(PS.take_fol 3 σ.adv).le
   have h3:=(PS.need_fol 4 PS.kSemi (PS.take 3 σ.adv).2).le
   have h4:=propsL_len k (l ++ [(PS.take 3 σ.adv).1]) (PS.need 4 PS.kSemi (PS.take 3 σ.adv).2)
   rw [List.length_append,List.length_singleton] at h4
   omega
  ·have:=(PS.settle_fol σ).le
   show l.length+σ.at_≤l.length+σ.settle.at_;omega
theorem props_len (σ:PS W):(PS.props σ).1.length+σ.at_≤(PS.props σ).2.at_:=by
 have:=propsL_len (W.L.length+1) [] σ
 rw [List.length_nil,Nat.zero_add] at this
 exact this
theorem propsL_one (k:Nat)(l:List ByteArray){σ:PS W}(h:σ.isB 1 PS.kProp=true):σ.at_+1≤(PS.propsL (k+1) l σ).2.at_:=by
 rw [PS.propsL,if_pos h]
 have h1:=(PS.adv_fol1 h (by decide)).le
 have h2:=(PS.take_fol 3 σ.adv).le
 have h3:=(PS.need_fol 4 PS.kSemi (PS.take 3 σ.adv).2).le
 have h4:=(PS.propsL_fol k (l ++ [(PS.take 3 σ.adv).1]) (PS.need 4 PS.kSemi (PS.take 3 σ.adv).2)).le
 omega
def tEnt (e:EntD):T:=.agg [.con (.int .i8 e.kind),tSs e.given,tRw e.nums]
def tEs (l:List EntD):T:=.sl (l.map tEnt)
theorem vEnt_flat (e:EntD):(vEnt e).flat:=by
 intro v hv
 simp at hv
 rcases hv with rfl|rfl|rfl<;>trivial
theorem vEs_flat (l:List EntD):∀e ∈ l.map vEnt,e.flat:=by
 intro e he
 obtain⟨w,-,rfl⟩:=List.mem_map.1 he
 exact vEnt_flat w
theorem fdE_Ent {oh oh1:OH}(e:EntD):fdE oh oh1 (vEnt e) (tEnt e):=by
 refine⟨rfl,fun j v u h1 h2=>?_⟩
 match j with
 |0=>simp [vEnt,V.cells] at h1;simp [tEnt,T.cells] at h2;subst h1;subst h2;exact Fd1.con _
 |1=>simp [vEnt,V.cells] at h1;simp [tEnt,T.cells] at h2;subst h1;subst h2;exact Fd1.ro _ _ fun h=>Bool.noConfusion h
 |2=>simp [vEnt,V.cells] at h1;simp [tEnt,T.cells] at h2;subst h1;subst h2;exact Fd1.ro _ _ fun h=>Bool.noConfusion h
 |j+3=>simp [vEnt,V.cells] at h1
theorem fd_Es {oh oh1:OH}{id ver len:Nat}{l:List EntD}(ho:oget oh id=some ⟨3,l.map vEnt,ver,true⟩)(hd:oget oh1 id=none)(hn:l.length=len):Fd1 oh oh1 false (.own id ver 0 len) (tEs l):=
 fd_ofL ho hd (by rw [List.length_map];exact hn) (fdL_map fdE_Ent l)
def vPrb (p:PS.PrbD):V:=.agg [.con (.string p.name),.ro false (tSs p.pars),.ro false (tEs p.ents),.ro false (tSs p.prps)]
abbrev PrZ (W:Txt):=PS W×List EntD×List ByteArray×(Nat×Nat)×(Nat×Nat)×Nat
end Go.Ev
