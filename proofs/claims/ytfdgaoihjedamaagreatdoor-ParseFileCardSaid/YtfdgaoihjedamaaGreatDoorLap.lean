import Derived.Test.YtfdgaoihjedamaaGreatDoorRdt
set_option linter.all false
set_option maxHeartbeats 4000000
set_option maxRecDepth 10000
namespace Go.Ev
open Go.Proofs
variable {W : Txt}
open PS (Trm)
theorem rd_nilT {P:Program}{fn:Func}{s:St}{vs:List V}{a a':Nat}{b b':Option Flt}{n n' np t:Nat}(hr:fn.results.toList=[.tmp t])(h0:0≠t)(hs:oget s.oh 0=some ⟨11,[rdV W a' b' n'],0,true⟩)
  (he9:eget s.env t=.emp) (h3:oget s.oh 3=none) (hnp:0 < np) (hv:vs[0]?=some (.ref 0 0 0 0)) (he:eget s.env 0=.ref 0 0 0 0) :
  RetG P fn np (rdQ W a b n) vs (rdP W a' b' n' [] 0) (.own 3 0 0 ([]:List Trm).length) .ret s:=
 rd_retT hr h0 hs (by rw [he9];exact Lc.adopt 3 _ h3 rfl) (lfOb_new h3) hnp hv he
theorem rd_retTl {P:Program}{fn:Func}{s:St}{vs:List V}{a a':Nat}{b b':Option Flt}{n n' np t v:Nat}{l:List Trm}(len:Nat)(hlen:len=l.length)(hr:fn.results.toList=[.tmp t])(h0:0≠t)(hs:oget s.oh 0=some ⟨11,[rdV W a' b' n'],0,true⟩)
  (hv9:LV s.oh (rdP W a' b' n' l v) (eget s.env t) (.own 3 v 0 len)) (hl:lfOb s.oh (rdP W a' b' n' l v) 3 ⟨4,l.map vT,v,true⟩) (hnp:0 < np) (hv:vs[0]?=some (.ref 0 0 0 0)) (he:eget s.env 0=.ref 0 0 0 0) :
  RetG P fn np (rdQ W a b n) vs (rdP W a' b' n' l 0) (.own 3 0 0 l.length) .ret s:=by
 subst hlen
 exact rd_retT hr h0 hs hv9 hl hnp hv he
theorem lv_num {oh oh1:OH}(z:Int)(d:Nat):LV oh oh1 (.agg [.con (.int .i8 1),.con (.bool (decide (z < 0))),.ro true (tn (lm z.natAbs)),.ro true (tn (lm d))]) (vT ⟨1,z,d⟩):=
 lv_agg ⟨Lc.same _ trivial,Lc.same _ trivial,Lc.frz false _ (tn (lm z.natAbs)) (Fd1.ro _ _ fun h=>Bool.noConfusion h),Lc.frz false _ (tn (lm d)) (Fd1.ro _ _ fun h=>Bool.noConfusion h),trivial⟩
theorem rUn_ok {dec:ByteArray→Int×Nat}(hF:Fit W)(hdec:∀t ∈ W.L,t.kind=2→Ok Tryz.prog 102 [tS9 t.text] true (.tup [tNum (dec t.text).1 (dec t.text).2,.con (.int .i64 0)])) :
  ∀d,1≤d→∀σ:PS W,σ.opn+d=65→σ.at_≤W.L.length→OkG Tryz.prog 80 (rdO σ) [3] [.ref 0 0 0 0] (rdT (PS.un dec d σ).2 (PS.un dec d σ).1) (.own 3 0 0 (PS.un dec d σ).1.length)
 |0,h,_,_,_=>absurd h (by decide)
 |d+1,_,σ,ho,ha=>by
  have IH:=rUn_ok hF hdec d
  have hL:=hF.len
  have hlk:=rLook_ok σ
  have hfl:=rFail_ok σ.settle 30 (by decide)
  have hfd:=rFail_ok σ.settle 31 (by decide)
  rw [settle_wrong] at hfl hfd
  cases ht:σ.tok with
  |none=>
   rw [wrong_none ht] at hfl
   rw [ht] at hlk
   rw [show PS.un dec (d+1) σ=([],σ.settle) from by rw [PS.un,ht]]
   unfold rdO at hlk hfl ⊢
   refine okg_of_ev hC0 mix 1 (zO rfl) Tryz.func80 rfl rfl (by kernel_rfl) (by kernel_rfl) (zO rfl) ?wf ?vs ?po ?le ?_
   case wf=>exact rd_wf _ _ _
   case vs=>exact one_vs rfl
   case po=>exact rdp_po _ _ _ _ _ _ _ _
   case le=>exact rdp_le _ _ _ _ _ _ _ _
   repeat'(first|(with_reducible first|(refine zz ?_;try intro K hK)|refine zI ?_|refine zt ?_|refine zf ?_)|((first|refine hK _ ?_|refine hK _ _ rfl ?_);clear hK K)|(guard_hyp hK;first|(refine zY ?zz ?_;case zz=>first|exact rfl|exact gJ)|refine fresh_n ?_|refine freshO_n ?_|refine zW ?_|refine zg ([]) (hlk) (rdQ W σ.at_ σ.bad σ.opn) ([]) (rdQ W σ.settle.at_ σ.settle.bad σ.settle.opn) (tokN) ?_|refine zg ([]) (hfl) (rdQ W σ.settle.at_ σ.settle.bad σ.settle.opn) ([]) (rdQ W σ.settle.at_ σ.settle.bad σ.settle.opn) (.tup []) ?_|intro b0 hb)|((first|with_reducible refine zm ?_|guard_hyp hK);refine zY ?_ ?_;all_goals(intro hb;(try simp only [sn,sb] at hb);try exact ex0)))
   all_goals exact rd_nilT rfl (by decide) rfl rfl rfl (by decide) rfl rfl
  |some t=>
   have hlt:=(PS.tok_at ht).2.2
   have hm:=List.mem_of_getElem? (PS.tok_at ht).2.1
   rw [ht,PS.settle_some ht] at hlk
   rw [PS.settle_some ht] at hfl hfd
   have hun:PS.un dec (d+1) σ=(if t.kind=2 then([⟨1,(dec t.text).1,(dec t.text).2⟩],σ.adv)
    else if t.kind=4∧t.text=PS.kMin then
     (if 64≤σ.opn then([],σ.wrong 31) else((PS.un dec d (σ.adv.setO (σ.opn+1))).1 ++ [⟨6,0,0⟩],(PS.un dec d (σ.adv.setO (σ.opn+1))).2.setO σ.opn))
    else if t.kind=4∧t.text=PS.kOpen then
     (if 64≤σ.opn then([],σ.wrong 31) else((PS.sum (PS.un dec d) (σ.adv.setO (σ.opn+1))).1,(PS.need 4 PS.kShut (PS.sum (PS.un dec d) (σ.adv.setO (σ.opn+1))).2).setO σ.opn))
    else([],σ.wrong 30)):=by rw [PS.un,ht]
   rw [hun]
   by_cases hk2:t.kind=2
   ·have hd:=hdec t hm hk2
    rw [if_pos hk2]
    unfold rdT
    simp only
    rw [show rdP W σ.adv.at_ σ.adv.bad σ.adv.opn [⟨1,(dec t.text).1,(dec t.text).2⟩] 0=rdP W (σ.at_+1) none σ.opn [⟨1,(dec t.text).1,(dec t.text).2⟩] 0 from by obtain⟨e1,e2,e3⟩:=PS.adv_at ht (by rw [hk2];decide);rw [e1,e2,e3]]
    rw [rdO_some ht] at hlk ⊢
    refine okg_of_ev hC0 mix 1 (zO rfl) Tryz.func80 rfl rfl (by kernel_rfl) (by kernel_rfl) (zO rfl) ?wf ?vs ?po ?le ?_
    case wf=>exact rd_wf _ _ _
    case vs=>exact one_vs rfl
    case po=>exact rdp_po _ _ _ _ _ _ _ _
    case le=>exact rdp_le _ _ _ _ _ _ _ _
    repeat'(first|(with_reducible first|(refine zz ?_;try intro K hK)|refine zI ?_|refine zt ?_|refine zf ?_)|((first|refine hK _ ?_|refine hK _ _ rfl ?_);clear hK K)|(guard_hyp hK;first|(refine zY ?zz ?_;case zz=>first|exact rfl|exact gJ)|refine fresh_n ?_|refine freshO_n ?_|refine zW ?_|(refine zQ (hd) ?_)|refine zg ([]) (hlk) (rdQ W σ.at_ none σ.opn) ([]) (rdQ W σ.at_ none σ.opn) (vTok t) ?_|intro b0 hb)|((first|with_reducible refine zm ?_|guard_hyp hK);refine zY ?_ ?_;all_goals(intro hb;(try simp only [sn,sb] at hb);try exact ex0)))
    exact rd_retT (v:=0) (l:=[⟨1,(dec t.text).1,(dec t.text).2⟩]) rfl (by decide) rfl (Lc.same _ rfl) (lfOb_one rfl (lv_num _ _)) (by decide) rfl rfl
   rw [if_neg hk2]
   have hn40:¬(⟨#[40]⟩:ByteArray).toList=(⟨#[45]⟩:ByteArray).toList:=by rw [bq_data,bq_data];decide
   have hrc:t.kind=4→¬64≤σ.opn→1≤d∧(σ.adv.setO (σ.opn+1)).opn+d=65∧(σ.adv.setO (σ.opn+1)).at_≤W.L.length∧rdO (σ.adv.setO (σ.opn+1))=rdQ W (σ.at_+1) none (σ.opn+1):=by
    intro hk ho64
    have hav:=PS.adv_at ht (by rw [hk];decide)
    refine⟨by omega,by show σ.opn+1+d=65;omega,by show σ.adv.at_≤_;rw [hav.1];exact hlt,?_⟩
    unfold rdO
    show rdQ W σ.adv.at_ σ.adv.bad (σ.opn+1)=_
    rw [hav.1,hav.2.1]
   have hw9:¬64≤σ.opn→((σ.opn:Nat):Int)=IntKind.i64.wrap (((σ.opn+1:Nat):Int) - 1):=by
    intro h9
    rw [show((σ.opn+1:Nat):Int) - 1=σ.opn by omega]
    exact wrapAny (by simp only [kmin];omega) (by simp only [kmax];omega)
   by_cases hmn:t.kind=4∧t.text=PS.kMin
   ·rw [if_pos hmn]
    obtain⟨hk,hw⟩:=hmn
    have hw2:t.text.toList=(⟨#[45]⟩:ByteArray).toList:=by rw [hw];rfl
    by_cases ho64:64≤σ.opn
    ·rw [if_pos ho64]
     unfold rdO at hlk hfd ⊢
     refine okg_of_ev hC0 mix 1 (zO rfl) Tryz.func80 rfl rfl (by kernel_rfl) (by kernel_rfl) (zO rfl) ?wf ?vs ?po ?le ?_
     case wf=>exact rd_wf _ _ _
     case vs=>exact one_vs rfl
     case po=>exact rdp_po _ _ _ _ _ _ _ _
     case le=>exact rdp_le _ _ _ _ _ _ _ _
     repeat'(first|(exact absurd hw2 hb)|(with_reducible first|(refine zz ?_;try intro K hK)|refine zI ?_|refine zt ?_|refine zf ?_)|((first|refine hK _ ?_|refine hK _ _ rfl ?_);clear hK K)|(guard_hyp hK;first|(refine zY ?zz ?_;case zz=>first|exact rfl|exact gJ)|refine fresh_n ?_|refine freshO_n ?_|refine zW ?_|refine zg ([]) (hlk) (rdQ W σ.at_ σ.bad σ.opn) ([]) (rdQ W σ.at_ σ.bad σ.opn) (vTok t) ?_|refine zg ([]) (hfd) (rdQ W σ.at_ σ.bad σ.opn) ([]) (rdQ W (σ.wrong 31).at_ (σ.wrong 31).bad (σ.wrong 31).opn) (.tup []) ?_|intro b0 hb)|((first|with_reducible refine zm ?_|guard_hyp hK);refine zY ?_ ?_;all_goals(intro hb;(try simp only [sn,sb] at hb);try exact ex0)))
     all_goals exact rd_nilT rfl (by decide) rfl rfl rfl (by decide) rfl rfl
    ·rw [if_neg ho64]
     obtain⟨hd1,r1,r2,r3⟩:=hrc hk ho64
     have hrec:=IH hd1 _ r1 r2
     rw [r3] at hrec
     obtain⟨hfo,hfl2⟩:=PS.un_good dec d (σ.adv.setO (σ.opn+1))
     have hhi:=hfo.hi r2
     have ho2:(PS.un dec d (σ.adv.setO (σ.opn+1))).2.opn=σ.opn+1:=hfo.opn
     have hw:=hw9 ho64
     unfold rdT at hrec ⊢
     rw [ho2] at hrec
     generalize PS.un dec d (σ.adv.setO (σ.opn+1))=r at *
     rw [rdO_some ht] at hlk ⊢
     refine okg_of_ev hC0 mix 1 (zO rfl) Tryz.func80 rfl rfl (by kernel_rfl) (by kernel_rfl) (zO rfl) ?wf ?vs ?po ?le ?_
     case wf=>exact rd_wf _ _ _
     case vs=>exact one_vs rfl
     case po=>exact rdp_po _ _ _ _ _ _ _ _
     case le=>exact rdp_le _ _ _ _ _ _ _ _
     repeat'(first|(first|exact absurd hw2 hb|refine Exists.intro _ (And.intro hw ?_))|(with_reducible first|(refine zz ?_;try intro K hK)|refine zI ?_|refine zt ?_|refine zf ?_)|((first|refine hK _ ?_|refine hK _ _ rfl ?_);clear hK K)|(guard_hyp hK;first|(refine zY ?zz ?_;case zz=>first|exact rfl|exact gJ)|refine fresh_n ?_|refine freshO_n ?_|refine zW ?_|refine zg ([]) (hlk) (rdQ W σ.at_ none σ.opn) ([]) (rdQ W σ.at_ none σ.opn) (vTok t) ?_|(refine Or.inr (Or.inr (Or.inl (gen_call ([]) (hrec) (pre':=rdQ W (σ.at_+1) none (σ.opn+1)) (nw':=[3]) (post':=rdP W r.2.at_ r.2.bad (σ.opn+1) r.1 0) (r':=.own 3 0 0 r.1.length) ?hg1 rfl ?hg3 rfl rfl ?hgp ?hgn ?hgi ?_)));(case hg1=>exact rnX);(case hg3=>exact rnX);(case hgp=>(repeat'(first|exact allp_nil|exact alln_nil|refine allp_cons ?_ ?_|refine alln_cons ?_ ?_|rfl)));(case hgn=>(repeat'(first|exact allp_nil|exact alln_nil|refine allp_cons ?_ ?_|refine alln_cons ?_ ?_|rfl)));(case hgi=>(first|exact inj1|exact inj2 (by decide)|exact inj2 (Nat.ne_of_lt (Nat.le_of_ble_eq_true rfl))|exact inj2 (Nat.ne_of_gt (Nat.le_of_ble_eq_true rfl)))))|intro b0 hb)|((first|with_reducible refine zm ?_|guard_hyp hK);refine zY ?_ ?_;all_goals(intro hb;(try simp only [sn,sb] at hb);try exact ex0)))
     exact rd_retTl (v:=1) (t:=2) (np:=1) (l:=r.1 ++ [(⟨6,0,0⟩:Trm)]) (r.1.length+1) (by rw [List.length_append];rfl) rfl (by decide) rfl (Lc.same _ rfl) (lfOb_app (F:=vT) (l:=r.1) (a:=⟨6,0,0⟩) rfl rfl rfl (fun x _=>vT_flat x) (lv_sign 6)) (by decide) rfl rfl
   rw [if_neg hmn]
   by_cases hop:t.kind=4∧t.text=PS.kOpen
   ·rw [if_pos hop]
    obtain⟨hk,hw⟩:=hop
    have hw2:t.text.toList=(⟨#[40]⟩:ByteArray).toList:=by rw [hw];rfl
    have hw3:¬t.text.toList=(⟨#[45]⟩:ByteArray).toList:=by rw [hw2];exact hn40
    by_cases ho64:64≤σ.opn
    ·rw [if_pos ho64]
     unfold rdO at hlk hfd ⊢
     refine okg_of_ev hC0 mix 1 (zO rfl) Tryz.func80 rfl rfl (by kernel_rfl) (by kernel_rfl) (zO rfl) ?wf ?vs ?po ?le ?_
     case wf=>exact rd_wf _ _ _
     case vs=>exact one_vs rfl
     case po=>exact rdp_po _ _ _ _ _ _ _ _
     case le=>exact rdp_le _ _ _ _ _ _ _ _
     repeat'(first|(first|exact absurd hw2 hb|exact absurd hb hw3)|(with_reducible first|(refine zz ?_;try intro K hK)|refine zI ?_|refine zt ?_|refine zf ?_)|((first|refine hK _ ?_|refine hK _ _ rfl ?_);clear hK K)|(guard_hyp hK;first|(refine zY ?zz ?_;case zz=>first|exact rfl|exact gJ)|refine fresh_n ?_|refine freshO_n ?_|refine zW ?_|refine zg ([]) (hlk) (rdQ W σ.at_ σ.bad σ.opn) ([]) (rdQ W σ.at_ σ.bad σ.opn) (vTok t) ?_|refine zg ([]) (hfd) (rdQ W σ.at_ σ.bad σ.opn) ([]) (rdQ W (σ.wrong 31).at_ (σ.wrong 31).bad (σ.wrong 31).opn) (.tup []) ?_|intro b0 hb)|((first|with_reducible refine zm ?_|guard_hyp hK);refine zY ?_ ?_;all_goals(intro hb;(try simp only [sn,sb] at hb);try exact ex0)))
     all_goals exact rd_nilT rfl (by decide) rfl rfl rfl (by decide) rfl rfl
    ·rw [if_neg ho64]
     obtain⟨hd1,r1,r2,r3⟩:=hrc hk ho64
     have hrec:=rSum_ok hL (rProd_ok hL (IH hd1)) _ r1 r2
     rw [r3] at hrec
     obtain⟨hfo,hfl2⟩:=PS.sum_good (PS.un_good dec d) (σ.adv.setO (σ.opn+1))
     have hhi:=hfo.hi r2
     have ho2:(PS.sum (PS.un dec d) (σ.adv.setO (σ.opn+1))).2.opn=σ.opn+1:=hfo.opn
     have hw:=hw9 ho64
     unfold rdT at hrec ⊢
     rw [ho2] at hrec
     generalize PS.sum (PS.un dec d) (σ.adv.setO (σ.opn+1))=r at *
     have hsg:=rSign_ok r.2 PS.kShut hL
     have ho3:=(PS.need_fol 4 PS.kShut r.2).opn
     unfold rdO at hsg
     rw [ho3,ho2] at hsg
     rw [rdO_some ht] at hlk ⊢
     refine okg_of_ev hC0 mix 1 (zO rfl) Tryz.func80 rfl rfl (by kernel_rfl) (by kernel_rfl) (zO rfl) ?wf ?vs ?po ?le ?_
     case wf=>exact rd_wf _ _ _
     case vs=>exact one_vs rfl
     case po=>exact rdp_po _ _ _ _ _ _ _ _
     case le=>exact rdp_le _ _ _ _ _ _ _ _
     repeat'(first|(first|exact absurd hw2 hb|exact absurd hb hw3|refine Exists.intro _ (And.intro hw ?_))|(with_reducible first|(refine zz ?_;try intro K hK)|refine zI ?_|refine zt ?_|refine zf ?_)|((first|refine hK _ ?_|refine hK _ _ rfl ?_);clear hK K)|(guard_hyp hK;first|(refine zY ?zz ?_;case zz=>first|exact rfl|exact gJ)|refine fresh_n ?_|refine freshO_n ?_|refine zW ?_|refine zg ([]) (hlk) (rdQ W σ.at_ none σ.opn) ([]) (rdQ W σ.at_ none σ.opn) (vTok t) ?_|(refine Or.inr (Or.inr (Or.inl (gen_call ([]) (hrec) (pre':=rdQ W (σ.at_+1) none (σ.opn+1)) (nw':=[3]) (post':=rdP W r.2.at_ r.2.bad (σ.opn+1) r.1 0) (r':=.own 3 0 0 r.1.length) ?hg1 rfl ?hg3 rfl rfl ?hgp ?hgn ?hgi ?_)));(case hg1=>exact rnX);(case hg3=>exact rnX);(case hgp=>(repeat'(first|exact allp_nil|exact alln_nil|refine allp_cons ?_ ?_|refine alln_cons ?_ ?_|rfl)));(case hgn=>(repeat'(first|exact allp_nil|exact alln_nil|refine allp_cons ?_ ?_|refine alln_cons ?_ ?_|rfl)));(case hgi=>(first|exact inj1|exact inj2 (by decide)|exact inj2 (Nat.ne_of_lt (Nat.le_of_ble_eq_true rfl))|exact inj2 (Nat.ne_of_gt (Nat.le_of_ble_eq_true rfl)))))|refine zg ([]) (hsg) (rdQ W r.2.at_ r.2.bad (σ.opn+1)) ([]) (rdQ W (PS.need 4 PS.kShut r.2).at_ (PS.need 4 PS.kShut r.2).bad (σ.opn+1)) (.tup []) ?_|intro b0 hb)|((first|with_reducible refine zm ?_|guard_hyp hK);refine zY ?_ ?_;all_goals(intro hb;(try simp only [sn,sb] at hb);try exact ex0)))
     exact rd_retT (v:=0) (l:=r.1) rfl (by decide) rfl (Lc.same _ rfl) (lfOb_same rfl (vTs_flat _)) (by decide) rfl rfl
   rw [if_neg hop]
   have hne:t.kind=4→¬t.text.toList=(⟨#[45]⟩:ByteArray).toList:=fun h h2=>hmn ⟨h,bq_inj h2⟩
   have hne2:t.kind=4→¬t.text.toList=(⟨#[40]⟩:ByteArray).toList:=fun h h2=>hop ⟨h,bq_inj h2⟩
   unfold rdO at hlk hfl ⊢
   refine okg_of_ev hC0 mix 1 (zO rfl) Tryz.func80 rfl rfl (by kernel_rfl) (by kernel_rfl) (zO rfl) ?wf ?vs ?po ?le ?_
   case wf=>exact rd_wf _ _ _
   case vs=>exact one_vs rfl
   case po=>exact rdp_po _ _ _ _ _ _ _ _
   case le=>exact rdp_le _ _ _ _ _ _ _ _
   repeat'(first|(first|exact absurd hb (hne (by omega))|exact absurd hb (hne2 (by omega)))|(with_reducible first|(refine zz ?_;try intro K hK)|refine zI ?_|refine zt ?_|refine zf ?_)|((first|refine hK _ ?_|refine hK _ _ rfl ?_);clear hK K)|(guard_hyp hK;first|(refine zY ?zz ?_;case zz=>first|exact rfl|exact gJ)|refine fresh_n ?_|refine freshO_n ?_|refine zW ?_|refine zg ([]) (hlk) (rdQ W σ.at_ σ.bad σ.opn) ([]) (rdQ W σ.at_ σ.bad σ.opn) (vTok t) ?_|refine zg ([]) (hfl) (rdQ W σ.at_ σ.bad σ.opn) ([]) (rdQ W (σ.wrong 30).at_ (σ.wrong 30).bad (σ.wrong 30).opn) (.tup []) ?_|intro b0 hb)|((first|with_reducible refine zm ?_|guard_hyp hK);refine zY ?_ ?_;all_goals(intro hb;(try simp only [sn,sb] at hb);try exact ex0)))
   all_goals exact rd_nilT rfl (by decide) rfl rfl rfl (by decide) rfl rfl
variable {W : Txt}
def fdE (oh oh1:OH)(e:V)(t:T):Prop:=t.cells.length=e.cells.length∧∀(j:Nat) (v:V) (u:T),e.cells[j]?=some v→t.cells[j]?=some u→Fd1 oh oh1 false v u
def fdL (oh oh1:OH):List V→List T→Prop
 | [],[]=>True
 |e :: r,t :: s=>fdE oh oh1 e t∧fdL oh oh1 r s
 |_,_=>False
theorem fdL_spec {oh oh1:OH}:∀{el:List V} {ts:List T},fdL oh oh1 el ts→el.length=ts.length∧∀(i:Nat) (e:V) (t:T),el[i]?=some e→ts[i]?=some t→fdE oh oh1 e t
 | [],[],_=>⟨rfl,fun i e t h=>by simp at h⟩
 |a :: r,b :: s,h=>by
  obtain⟨h1,h2⟩:=fdL_spec h.2
  refine⟨by simp [h1],fun i e t he ht=>?_⟩
  cases i with
  |zero=>simp at he ht;subst he;subst ht;exact h.1
  |succ i=>simp at he ht;exact h2 i e t he ht
 | [],_ :: _,h=>h.elim
 |_ :: _,[],h=>h.elim
theorem fd_ofL {oh oh1:OH}{id ver len sz:Nat}{el:List V}{ts:List T}(ho:oget oh id=some ⟨sz,el,ver,true⟩)(hd:oget oh1 id=none)(hn:ts.length=len)(h:fdL oh oh1 el ts):Fd1 oh oh1 false (.own id ver 0 len) (.sl ts):=by
 obtain⟨h1,h2⟩:=fdL_spec h
 refine .own id ver 0 len _ ts ho hd rfl rfl hn (fun i e t _ he ht=>(h2 i e t (by rw [← he,Nat.zero_add]) ht).1) (fun i e t j v u _ he ht hv hu=>(h2 i e t (by rw [← he,Nat.zero_add]) ht).2 j v u hv hu)
theorem fdL_map {α:Type}{oh oh1:OH}{F:α→V}{G:α→T}(h:∀a,fdE oh oh1 (F a) (G a)):∀l:List α,fdL oh oh1 (l.map F) (l.map G)
 | []=>trivial
 |a :: r=>⟨h a,fdL_map h r⟩
theorem fdL_app {oh oh1:OH}{e:V}{t:T}(h:fdE oh oh1 e t):∀{el:List V} {ts:List T},fdL oh oh1 el ts→fdL oh oh1 (el ++ [e]) (ts ++ [t])
 | [],[],_=>⟨h,trivial⟩
 |_ :: _,_ :: _,k=>⟨k.1,fdL_app h k.2⟩
 | [],_ :: _,k=>k.elim
 |_ :: _,[],k=>k.elim
theorem fdE_one {oh oh1:OH}{e:V}{t:T}(he:e.cells=[e])(ht:t.cells=[t])(h:Fd1 oh oh1 false e t):fdE oh oh1 e t:=by
 refine⟨by rw [he,ht];rfl,fun j v u h1 h2=>?_⟩
 rw [he] at h1
 rw [ht] at h2
 cases j with
 |zero=>simp at h1 h2;subst h1;subst h2;exact h
 |succ j=>simp at h1
theorem fdE_T {oh oh1:OH}(t:Trm):fdE oh oh1 (vT t) (tT t):=by
 refine⟨rfl,fun j v u h1 h2=>?_⟩
 match j with
 |0=>simp [vT,V.cells] at h1;simp [tT,T.cells] at h2;subst h1;subst h2;exact Fd1.con _
 |1=>simp [vT,V.cells] at h1;simp [tT,T.cells] at h2;subst h1;subst h2;exact Fd1.con _
 |2=>simp [vT,V.cells] at h1;simp [tT,T.cells] at h2;subst h1;subst h2;exact Fd1.ro _ _ fun h=>Bool.noConfusion h
 |3=>simp [vT,V.cells] at h1;simp [tT,T.cells] at h2;subst h1;subst h2;exact Fd1.ro _ _ fun h=>Bool.noConfusion h
 |j+4=>simp [vT,V.cells] at h1
theorem fd_Ts {oh oh1:OH}{id ver len:Nat}{l:List Trm}(ho:oget oh id=some ⟨4,l.map vT,ver,true⟩)(hd:oget oh1 id=none)(hn:l.length=len):Fd1 oh oh1 false (.own id ver 0 len) (tTs l):=
 fd_ofL ho hd (by rw [List.length_map];exact hn) (fdL_map fdE_T l)
theorem fdL_take {α:Type}{oh oh1:OH}{F:α→V}{G:α→T}{l:List α}{n:Nat}(hn:n=l.length)(h:∀a,fdE oh oh1 (F a) (G a)):fdL oh oh1 ((l.map F).take n) (l.map G):=by
 rw [List.take_of_length_le (by rw [List.length_map];omega)];exact fdL_map h l
theorem lv_eq {oh oh1:OH}{v v1:V}(h:v1=v)(hf:v.flat):LV oh oh1 v v1:=by subst h;exact hf.lv
def vR (l:List Trm):V:=.ro false (tTs l)
def tRw (L:List (List Trm)):T:=.sl (L.map tTs)
theorem vR_flat (L:List (List Trm)):∀e ∈ L.map vR,e.flat:=by
 intro e he
 obtain⟨w,-,rfl⟩:=List.mem_map.1 he
 trivial
theorem vR_cl (L:List (List Trm))(oh:OH):∀e ∈ L.map vR,e.cl oh:=fun e he=>(vR_flat L e he).cl oh
theorem fdE_R {oh oh1:OH}(l:List Trm):fdE oh oh1 (vR l) (tTs l):=fdE_one rfl rfl (Fd1.ro _ _ fun h=>Bool.noConfusion h)
def stRw (W:Txt)(N:Nat)(z:PS W×List (List Trm)×Nat):St:=⟨N,[(0,.ref 0 0 0 0),(3,.own 1 z.2.2 0 z.2.2)],[(0,⟨11,[rdV W z.1.at_ none z.1.opn],0,true⟩),(1,⟨1,z.2.1.map vR,z.2.2,true⟩)]⟩
theorem rRow_ok {dec:ByteArray→Int×Nat}(hF:Fit W)(hdec:∀t ∈ W.L,t.kind=2→Ok Tryz.prog 102 [tS9 t.text] true (.tup [tNum (dec t.text).1 (dec t.text).2,.con (.int .i64 0)]))
  (σ:PS W) (ho:σ.opn=0) (ha:σ.at_≤W.L.length):OkG Tryz.prog 16 (rdO σ) [] [.ref 0 0 0 0] (rdO (PS.row dec σ).2) (.ro false (tRw (PS.row dec σ).1)):=by
 have hL:=hF.len
 cases hb:σ.bad with
 |some f=>
  have hcf:¬foC (some f)=0:=σ.cod f hb
  rw [show PS.row dec σ=([],σ) from by unfold PS.row;rw [hb]]
  unfold rdO
  rw [hb]
  refine okg_of_ev hC0 mix 1 (zO rfl) Tryz.func16 rfl rfl (by kernel_rfl) (by kernel_rfl) (zO rfl) ?wf ?vs ?po ?le ?_
  case wf=>exact rd_wf _ _ _
  case vs=>exact one_vs rfl
  case po=>exact rd_po _ _ _ _ _ _
  case le=>exact rd_le _ _ _ _ _ _
  repeat'(first|(with_reducible first|(refine zz ?_;try intro K hK)|refine zI ?_|refine zt ?_|refine zf ?_)|((first|refine hK _ ?_|refine hK _ _ rfl ?_);clear hK K)|(guard_hyp hK;first|(refine zY ?zz ?_;case zz=>first|exact rfl|exact gJ)|refine fresh_n ?_|refine freshO_n ?_|refine zW ?_|intro b0 hb)|((first|with_reducible refine zm ?_|guard_hyp hK);refine zY ?_ ?_;all_goals(intro hb;(try simp only [sn,sb] at hb);try exact ex0)))
  refine loop_i Unit (fun _=>⟨Tryz.f16.ntmps,[(0,.ref 0 0 0 0),(3,.emp)],rdQ W σ.at_ (some f) σ.opn⟩) (fun _=>True) (fun _=>0) [] () trivial trivial ⟨rfl,⟨rfl,rfl,rfl,trivial,trivial⟩,⟨rfl,trivial⟩,⟨one_vs (rdV_cl _ _ _ _),trivial⟩⟩ ?_
  rintro - -
  repeat'(first|(with_reducible first|(refine zz ?_;try intro K hK)|refine zI ?_|refine zt ?_|refine zf ?_)|((first|refine hK _ ?_|refine hK _ _ rfl ?_);clear hK K)|(guard_hyp hK;first|(refine zY ?zz ?_;case zz=>first|exact rfl|exact gJ)|refine fresh_n ?_|refine freshO_n ?_|refine zW ?_|intro b0 hb)|((first|with_reducible refine zm ?_|guard_hyp hK);refine zY ?_ ?_;all_goals(intro hb;(try simp only [sn,sb] at hb);try exact ex0)))
  exact rd_retF (r:=tRw []) rfl (by decide) rfl Fd1.emp (by decide) rfl rfl
 |none=>
  have hz:foC none=0:=rfl
  rw [show PS.row dec σ=PS.rowL dec (W.L.length+1) [] σ from by unfold PS.row;rw [hb]]
  unfold rdO
  rw [hb]
  refine okg_of_ev hC0 mix 1 (zO rfl) Tryz.func16 rfl rfl (by kernel_rfl) (by kernel_rfl) (zO rfl) ?wf ?vs ?po ?le ?_
  case wf=>exact rd_wf _ _ _
  case vs=>exact one_vs rfl
  case po=>exact rd_po _ _ _ _ _ _
  case le=>exact rd_le _ _ _ _ _ _
  repeat'(first|(with_reducible first|(refine zz ?_;try intro K hK)|refine zI ?_|refine zt ?_|refine zf ?_)|((first|refine hK _ ?_|refine hK _ _ rfl ?_);clear hK K)|(guard_hyp hK;first|(refine zY ?zz ?_;case zz=>first|exact rfl|exact gJ)|refine fresh_n ?_|refine freshO_n ?_|refine zW ?_|intro b0 hb)|((first|with_reducible refine zm ?_|guard_hyp hK);refine zY ?_ ?_;all_goals(intro hb;(try simp only [sn,sb] at hb);try exact ex0)))
  refine loop_g (PS W×List (List Trm)×Nat) (stRw W Tryz.f16.ntmps) (fun z=>z.1.bad=none∧z.1.opn=0∧z.1.at_≤W.L.length∧z.2.2=z.2.1.length∧∃k,PS.rowL dec k z.2.1 z.1=PS.rowL dec (W.L.length+1) [] σ∧1≤k∧W.L.length < k+z.1.at_∧z.2.1.length+k=W.L.length+1) (fun z=>W.L.length - z.1.at_) [(3,1,1)] (σ,[],0) ⟨rfl,rfl,trivial⟩ ⟨hb,ho,ha,rfl,_,rfl,Nat.succ_le_succ (Nat.zero_le _),by dsimp only;omega,Nat.zero_add _⟩ ⟨rfl,⟨rfl,rfl,rfl,rfl,trivial⟩,⟨rfl,rfl,trivial⟩,⟨one_vs (rdV_cl _ _ _ _),vR_cl _ _,trivial⟩⟩ ?_
  rintro⟨τ,l,n⟩ ⟨hb2,q1,q2,h0,k,h1,h2,h3,h4⟩
  dsimp only at hb2 q1 q2 h0 h1 h2 h3 h4
  obtain⟨k,rfl⟩:∃j,k=j+1:=⟨k - 1,by omega⟩
  have hsm:=rSum_ok hL (rProd_ok hL (rUn_ok hF hdec (65 - τ.opn) (by omega))) τ (by omega) q2
  have hsg:=PS.sum0_good dec τ
  have f1:=hsg.1.le
  have f2:=hsg.1.hi q2
  have f3:=hsg.2
  have f4:=hsg.1.opn
  rw [PS.rowL] at h1
  unfold PS.sum0 at h1 f1 f2 f3 f4
  unfold rdO rdT at hsm
  rw [hb2] at hsm
  generalize PS.sum (PS.un dec (65 - τ.opn)) τ=r at *
  have hcm:=rComes_ok r.2 4 (by decide) PS.kComma
  unfold stRw
  dsimp only
  cases hB:r.2.isB 4 PS.kComma with
  |false=>
   rw [hB,if_neg Bool.false_ne_true] at h1
   rw [hB] at hcm
   rw [← h1]
   unfold rdO at hcm
   repeat'(first|(with_reducible first|(refine zz ?_;try intro K hK)|refine zI ?_|refine zt ?_|refine zf ?_)|((first|refine hK _ ?_|refine hK _ _ rfl ?_);clear hK K)|(guard_hyp hK;first|(refine zY ?zz ?_;case zz=>first|exact rfl|exact gJ)|refine fresh_n ?_|refine freshO_n ?_|refine zW ?_|(refine Or.inr (Or.inr (Or.inl (gen_call ([]) (hsm) (pre':=rdQ W τ.at_ none τ.opn) (nw':=[3]) (post':=rdP W r.2.at_ r.2.bad r.2.opn r.1 0) (r':=.own 3 0 0 r.1.length) ?hg1 rfl ?hg3 rfl rfl ?hgp ?hgn ?hgi ?_)));(case hg1=>exact rnX);(case hg3=>exact rnX);(case hgp=>(repeat'(first|exact allp_nil|exact alln_nil|refine allp_cons ?_ ?_|refine alln_cons ?_ ?_|rfl)));(case hgn=>(repeat'(first|exact allp_nil|exact alln_nil|refine allp_cons ?_ ?_|refine alln_cons ?_ ?_|rfl)));(case hgi=>(first|exact inj1|exact inj2 (by decide)|exact inj2 (Nat.ne_of_lt (Nat.le_of_ble_eq_true rfl))|exact inj2 (Nat.ne_of_gt (Nat.le_of_ble_eq_true rfl)))))|refine zg ([]) (hcm) (rdQ W r.2.at_ r.2.bad r.2.opn) ([]) (rdQ W r.2.settle.at_ r.2.settle.bad r.2.settle.opn) (.con (.bool false)) ?_|intro b0 hb)|((first|with_reducible refine zm ?_|guard_hyp hK);refine zY ?_ ?_;all_goals(intro hb;(try simp only [sn,sb] at hb);try exact ex0)))
   have e9:T.sl (l.map tTs ++ [tTs r.1])=tRw (l ++ [r.1]):=by unfold tRw;rw [List.map_append];rfl
   exact rd_retF (r:=tRw (l ++ [r.1])) rfl (by decide) rfl (fd_of e9 (fd_ofL rfl rfl (by rw [List.length_append,List.length_map,h0];rfl) (fdL_app (fdE_one rfl rfl (fd_Ts rfl rfl rfl)) (fdL_take h0 fdE_R)))) (by decide) rfl rfl
  |true=>
   obtain⟨t,ht,hk,-⟩:=PS.isB_tok hB
   have hlt:=(PS.tok_at ht).2.2
   have hav:=PS.adv_at ht (by rw [hk];decide)
   rw [hB,if_pos rfl] at h1
   rw [hB,PS.settle_some ht,rdO_some ht] at hcm
   have hb3:=(PS.tok_at ht).1
   rw [hb3] at hsm
   repeat'(first|(with_reducible first|(refine zz ?_;try intro K hK)|refine zI ?_|refine zt ?_|refine zf ?_)|((first|refine hK _ ?_|refine hK _ _ rfl ?_);clear hK K)|(guard_hyp hK;first|(refine zY ?zz ?_;case zz=>first|exact rfl|exact gJ)|refine fresh_n ?_|refine freshO_n ?_|refine zW ?_|(refine Or.inr (Or.inr (Or.inl (gen_call ([]) (hsm) (pre':=rdQ W τ.at_ none τ.opn) (nw':=[3]) (post':=rdP W r.2.at_ none r.2.opn r.1 0) (r':=.own 3 0 0 r.1.length) ?hg1 rfl ?hg3 rfl rfl ?hgp ?hgn ?hgi ?_)));(case hg1=>exact rnX);(case hg3=>exact rnX);(case hgp=>(repeat'(first|exact allp_nil|exact alln_nil|refine allp_cons ?_ ?_|refine alln_cons ?_ ?_|rfl)));(case hgn=>(repeat'(first|exact allp_nil|exact alln_nil|refine allp_cons ?_ ?_|refine alln_cons ?_ ?_|rfl)));(case hgi=>(first|exact inj1|exact inj2 (by decide)|exact inj2 (Nat.ne_of_lt (Nat.le_of_ble_eq_true rfl))|exact inj2 (Nat.ne_of_gt (Nat.le_of_ble_eq_true rfl)))))|refine zg ([]) (hcm) (rdQ W r.2.at_ none r.2.opn) ([]) (rdQ W r.2.at_ none r.2.opn) (.con (.bool true)) ?_|intro b0 hb)|((first|with_reducible refine zm ?_|guard_hyp hK);refine zY ?_ ?_;all_goals(intro hb;(try simp only [sn,sb] at hb);try exact ex0)))
   have e0:rdV W r.2.adv.at_ none r.2.adv.opn=rdV W (r.2.at_+1) none r.2.opn:=by rw [hav.1,hav.2.2]
   exact⟨(r.2.adv,l ++ [r.1],n+1),⟨hav.2.1,by dsimp only;rw [hav.2.2,f4];exact q1,by dsimp only;rw [hav.1];exact hlt,by dsimp only;rw [List.length_append,List.length_singleton];omega,k,h1,by omega,by dsimp only;omega,by dsimp only;rw [List.length_append,List.length_singleton];omega⟩,by dsimp only;omega,lf_of0 ⟨Lc.same _ rfl,Lc.same _ rfl,trivial⟩ ⟨lfOb_one rfl (lv_eq e0 (rdV_flat _ _ _)),lfOb_app (F:=vR) (l:=l) (a:=r.1) rfl h0 rfl (fun x _=>trivial) (Lc.frz false _ (tTs r.1) (fd_Ts rfl rfl rfl)),trivial⟩⟩
end Go.Ev
