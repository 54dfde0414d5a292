import Derived.Test.YtppbdmkbhalmpaaGreatDoorLaj
import Derived.Test.YtppbdmkbhalmpaaGreatDoorLai
set_option linter.all false
set_option maxHeartbeats 4000000
set_option maxRecDepth 10000
namespace Go.Ev
open Go.Proofs
variable {W : Txt}
theorem pO_eq (σ:PS W):pO σ=prQ W σ.at_ σ.bad σ.opn:=rfl
theorem pIs_ok (σ:PS W)(k:Int)(w:ByteArray):OkG Tryz.prog 16 (pO σ) [] [.ref 0 0 0 0,.con (.int .i8 k),.con (.string w)] (pO σ.settle) (.con (.bool (σ.isB k w))):=by
 have hlk:=pNow_ok σ
 cases ht:σ.tok with
 |none=>
  rw [isB_none ht]
  rw [ht] at hlk
  rw [pO_none ht] at hlk ⊢
  unfold pO at hlk ⊢
  refine okp_of_ev hC0 mix 1 (zO rfl) Tryz.func16 rfl rfl (by kernel_rfl) (by kernel_rfl) (zO rfl) ?vs ?_
  case vs=>exact flc (flc fl0)
  repeat'(first|(with_reducible first|(refine zz ?_;try intro K hK)|refine zI ?_|refine zt ?_|refine zf ?_)|((first|refine hK _ ?_|refine hK _ _ rfl ?_);clear hK K)|(guard_hyp hK;first|(refine zY ?zz ?_;case zz=>first|exact rfl|exact gJ)|refine fresh_n ?_|refine freshO_n ?_|refine zW ?_|refine zp 0 (hlk) ?_|intro b0 hb)|((first|with_reducible refine zm ?_|guard_hyp hK);refine zY ?_ ?_;all_goals(intro hb;(try simp only [sn,sb] at hb);try exact ex0)))
  all_goals exact pr_retb rfl rfl rfl rfl (by decide) rfl
 |some t=>
  rw [ht,PS.settle_some ht] at hlk
  rw [PS.settle_some ht,← isB_eq ht]
  rw [pO_some ht] at hlk ⊢
  refine okp_of_ev hC0 mix 1 (zO rfl) Tryz.func16 rfl rfl (by kernel_rfl) (by kernel_rfl) (zO rfl) ?vs ?_
  case vs=>exact flc (flc fl0)
  repeat'(first|(with_reducible first|(refine zz ?_;try intro K hK)|refine zI ?_|refine zt ?_|refine zf ?_)|((first|refine hK _ ?_|refine hK _ _ rfl ?_);clear hK K)|(guard_hyp hK;first|(refine zY ?zz ?_;case zz=>first|exact rfl|exact gJ)|refine fresh_n ?_|refine freshO_n ?_|refine zW ?_|refine zp 0 (hlk) ?_|intro b0 hb)|((first|with_reducible refine zm ?_|guard_hyp hK);refine zY ?_ ?_;all_goals(intro hb;(try simp only [sn,sb] at hb);try exact ex0)))
  ·exact pr_retb rfl rfl (by rw [decide_eq_true hb,Bool.true_and]) rfl (by decide) rfl
  ·exact pr_retb rfl rfl (by rw [decide_eq_false hb,Bool.false_and]) rfl (by decide) rfl
def PS.sgn (w:ByteArray)(σ:PS W):PS W:=if σ.isB 4 w=true then σ.adv else σ.settle
theorem pSign_ok (σ:PS W)(w:ByteArray)(hL:W.L.length≤1073741824):OkG Tryz.prog 31 (pO σ) [] [.ref 0 0 0 0,.con (.string w)] (pO (σ.sgn w)) (.con (.bool (σ.isB 4 w))):=by
 have hcm:=pIs_ok σ 4 w
 unfold PS.sgn
 cases hB:σ.isB 4 w with
 |true=>
  obtain⟨t,ht,hk,-⟩:=PS.isB_tok hB
  have hlt:=(PS.tok_at ht).2.2
  rw [if_pos rfl,pO_adv ht (by rw [hk];decide)]
  rw [hB,PS.settle_some ht] at hcm
  rw [pO_some ht] at hcm ⊢
  refine okp_of_ev hC0 mix 1 (zO rfl) Tryz.func31 rfl rfl (by kernel_rfl) (by kernel_rfl) (zO rfl) ?vs ?_
  case vs=>exact flc fl0
  repeat'(first|(with_reducible first|(refine zz ?_;try intro K hK)|refine zI ?_|refine zt ?_|refine zf ?_)|((first|refine hK _ ?_|refine hK _ _ rfl ?_);clear hK K)|(guard_hyp hK;first|(refine zY ?zz ?_;case zz=>first|exact rfl|exact gJ)|refine fresh_n ?_|refine freshO_n ?_|refine zW ?_|refine zp 0 (hcm) ?_|intro b0 hb)|((first|with_reducible refine zm ?_|guard_hyp hK);refine zY ?_ ?_;all_goals(intro hb;(try simp only [sn,sb] at hb);try exact ex0)))
  all_goals exact pr_retb rfl rfl rfl rfl (by decide) rfl
 |false=>
  rw [if_neg Bool.false_ne_true]
  rw [hB] at hcm
  unfold pO at hcm ⊢
  refine okp_of_ev hC0 mix 1 (zO rfl) Tryz.func31 rfl rfl (by kernel_rfl) (by kernel_rfl) (zO rfl) ?vs ?_
  case vs=>exact flc fl0
  repeat'(first|(with_reducible first|(refine zz ?_;try intro K hK)|refine zI ?_|refine zt ?_|refine zf ?_)|((first|refine hK _ ?_|refine hK _ _ rfl ?_);clear hK K)|(guard_hyp hK;first|(refine zY ?zz ?_;case zz=>first|exact rfl|exact gJ)|refine fresh_n ?_|refine freshO_n ?_|refine zW ?_|refine zp 0 (hcm) ?_|intro b0 hb)|((first|with_reducible refine zm ?_|guard_hyp hK);refine zY ?_ ?_;all_goals(intro hb;(try simp only [sn,sb] at hb);try exact ex0)))
  all_goals exact pr_retb rfl rfl rfl rfl (by decide) rfl
theorem pTake_ok (σ:PS W)(k:Int)(hk:0 < k)(hL:W.L.length≤1073741824):OkG Tryz.prog 27 (pO σ) [] [.ref 0 0 0 0,.con (.int .i8 k)] (pO (PS.take k σ).2) (.con (.string (PS.take k σ).1)):=by
 have hlk:=pNow_ok σ
 have hfl:=pWrong_ok σ.settle 30 (by decide)
 rw [settle_wrong] at hfl
 cases ht:σ.tok with
 |none=>
  rw [wrong_none ht] at hfl
  rw [ht] at hlk
  rw [show PS.take k σ=(eS,σ.settle) from by unfold PS.take;rw [ht];rfl]
  unfold pO at hlk hfl ⊢
  refine okp_of_ev hC0 mix 1 (zO rfl) Tryz.func27 rfl rfl (by kernel_rfl) (by kernel_rfl) (zO rfl) ?vs ?_
  case vs=>exact flc fl0
  repeat'(first|(with_reducible first|(refine zz ?_;try intro K hK)|refine zI ?_|refine zt ?_|refine zf ?_)|((first|refine hK _ ?_|refine hK _ _ rfl ?_);clear hK K)|(guard_hyp hK;first|(refine zY ?zz ?_;case zz=>first|exact rfl|exact gJ)|refine fresh_n ?_|refine freshO_n ?_|refine zW ?_|refine zp 0 (hlk) ?_|refine zp 0 (hfl) ?_|intro b0 hb)|((first|with_reducible refine zm ?_|guard_hyp hK);refine zY ?_ ?_;all_goals(intro hb;(try simp only [sn,sb] at hb);try exact ex0)))
  all_goals exact pr_ret1 rfl rfl ⟨_,.inl rfl⟩ rfl (by decide) rfl
 |some t=>
  have hlt:=(PS.tok_at ht).2.2
  rw [ht,PS.settle_some ht] at hlk
  rw [PS.settle_some ht] at hfl
  by_cases hkk:t.kind=k
  ·rw [show PS.take k σ=(t.text,σ.adv) from by unfold PS.take;rw [ht];exact if_pos hkk,pO_adv ht (by rw [hkk];omega)]
   rw [pO_some ht] at hlk ⊢
   refine okp_of_ev hC0 mix 1 (zO rfl) Tryz.func27 rfl rfl (by kernel_rfl) (by kernel_rfl) (zO rfl) ?vs ?_
   case vs=>exact flc fl0
   repeat'(first|(with_reducible first|(refine zz ?_;try intro K hK)|refine zI ?_|refine zt ?_|refine zf ?_)|((first|refine hK _ ?_|refine hK _ _ rfl ?_);clear hK K)|(guard_hyp hK;first|(refine zY ?zz ?_;case zz=>first|exact rfl|exact gJ)|refine fresh_n ?_|refine freshO_n ?_|refine zW ?_|refine zp 0 (hlk) ?_|intro b0 hb)|((first|with_reducible refine zm ?_|guard_hyp hK);refine zY ?_ ?_;all_goals(intro hb;(try simp only [sn,sb] at hb);try exact ex0)))
   all_goals exact pr_ret1 rfl rfl ⟨_,.inl rfl⟩ rfl (by decide) rfl
  ·rw [show PS.take k σ=(eS,σ.wrong 30) from by unfold PS.take;rw [ht];exact if_neg hkk]
   unfold pO at hlk hfl ⊢
   refine okp_of_ev hC0 mix 1 (zO rfl) Tryz.func27 rfl rfl (by kernel_rfl) (by kernel_rfl) (zO rfl) ?vs ?_
   case vs=>exact flc fl0
   repeat'(first|(with_reducible first|(refine zz ?_;try intro K hK)|refine zI ?_|refine zt ?_|refine zf ?_)|((first|refine hK _ ?_|refine hK _ _ rfl ?_);clear hK K)|(guard_hyp hK;first|(refine zY ?zz ?_;case zz=>first|exact rfl|exact gJ)|refine fresh_n ?_|refine freshO_n ?_|refine zW ?_|refine zp 0 (hlk) ?_|refine zp 0 (hfl) ?_|intro b0 hb)|((first|with_reducible refine zm ?_|guard_hyp hK);refine zY ?_ ?_;all_goals(intro hb;(try simp only [sn,sb] at hb);try exact ex0)))
   all_goals exact pr_ret1 rfl rfl ⟨_,.inl rfl⟩ rfl (by decide) rfl
theorem pName_ok (σ:PS W)(hL:W.L.length≤1073741824):OkG Tryz.prog 14 (pO σ) [] [.ref 0 0 0 0] (pO (PS.take 1 σ).2) (.con (.string (PS.take 1 σ).1)):=by
 have h:=pTake_ok σ 1 (by decide) hL
 unfold pO at h ⊢
 refine okp_of_ev hC0 mix 1 (zO rfl) Tryz.func14 rfl rfl (by kernel_rfl) (by kernel_rfl) (zO rfl) ?vs ?_
 case vs=>exact fl0
 repeat'(first|(with_reducible first|(refine zz ?_;try intro K hK)|refine zI ?_|refine zt ?_|refine zf ?_)|((first|refine hK _ ?_|refine hK _ _ rfl ?_);clear hK K)|(guard_hyp hK;first|(refine zY ?zz ?_;case zz=>first|exact rfl|exact gJ)|refine fresh_n ?_|refine freshO_n ?_|refine zW ?_|refine zp 0 (h) ?_|intro b0 hb)|((first|with_reducible refine zm ?_|guard_hyp hK);refine zY ?_ ?_;all_goals(intro hb;(try simp only [sn,sb] at hb);try exact ex0)))
 all_goals exact pr_ret1 rfl rfl ⟨_,.inl rfl⟩ rfl (by decide) rfl
def vFe : Option Flt→V
 |none=>.con .nilIface
 |some f=>.ro false (.ifc 63 (.ptr (fTl f)))
theorem vFe_dat (b:Option Flt):(vFe b).dat1:=by
 cases b with
 |none=>exact⟨_,.inl rfl⟩
 |some f=>exact⟨default,.inr ⟨_,_,rfl⟩⟩
theorem pDone_ok (σ:PS W):OkG Tryz.prog 19 (pO σ) [] [.ref 0 0 0 0] (pO σ.fin) (vFe σ.fin.bad):=by
 have hlk:=pNow_ok σ
 have hfl:=pWrong_ok σ.settle 30 (by decide)
 rw [settle_wrong] at hfl
 cases ht:σ.tok with
 |none=>
  have hb:=PS.settle_bad ht
  rw [ht] at hlk
  rw [show PS.fin σ=σ.settle from by unfold PS.fin;rw [ht]]
  unfold pO at hlk hfl ⊢
  generalize σ.settle=τ at *
  cases hbb:τ.bad with
  |none=>exact absurd hbb hb
  |some f=>
   rw [hbb] at hlk
   refine okp_of_ev hC0 mix 1 (zO rfl) Tryz.func19 rfl rfl (by kernel_rfl) (by kernel_rfl) (zO rfl) ?vs ?_
   case vs=>exact fl0
   repeat'(first|(with_reducible first|(refine zz ?_;try intro K hK)|refine zI ?_|refine zt ?_|refine zf ?_)|((first|refine hK _ ?_|refine hK _ _ rfl ?_);clear hK K)|(guard_hyp hK;first|(refine zY ?zz ?_;case zz=>first|exact rfl|exact gJ)|refine fresh_n ?_|refine freshO_n ?_|refine zW ?_|refine zp 0 (hlk) ?_|intro b0 hb)|((first|with_reducible refine zm ?_|guard_hyp hK);refine zY ?_ ?_;all_goals(intro hb;(try simp only [sn,sb] at hb);try exact ex0)))
   all_goals exact pr_ret1 rfl rfl (vFe_dat (some f)) rfl (by decide) rfl
 |some t=>
  rw [ht,PS.settle_some ht] at hlk
  rw [PS.settle_some ht] at hfl
  by_cases hkk:t.kind=0
  ·rw [show PS.fin σ=σ from by unfold PS.fin;rw [ht];exact if_pos hkk]
   rw [(PS.tok_at ht).1]
   rw [pO_some ht] at hlk ⊢
   refine okp_of_ev hC0 mix 1 (zO rfl) Tryz.func19 rfl rfl (by kernel_rfl) (by kernel_rfl) (zO rfl) ?vs ?_
   case vs=>exact fl0
   repeat'(first|(with_reducible first|(refine zz ?_;try intro K hK)|refine zI ?_|refine zt ?_|refine zf ?_)|((first|refine hK _ ?_|refine hK _ _ rfl ?_);clear hK K)|(guard_hyp hK;first|(refine zY ?zz ?_;case zz=>first|exact rfl|exact gJ)|refine fresh_n ?_|refine freshO_n ?_|refine zW ?_|refine zp 0 (hlk) ?_|intro b0 hb)|((first|with_reducible refine zm ?_|guard_hyp hK);refine zY ?_ ?_;all_goals(intro hb;(try simp only [sn,sb] at hb);try exact ex0)))
   all_goals exact pr_ret1 rfl rfl (vFe_dat none) rfl (by decide) rfl
  ·rw [show PS.fin σ=σ.wrong 30 from by unfold PS.fin;rw [ht];exact if_neg hkk]
   rw [show(σ.wrong 30).bad=some ⟨30,t.line,t.col,t.text⟩ from by unfold PS.wrong;rw [(PS.tok_at ht).1,(PS.tok_at ht).2.1]]
   rw [pO_wrong ht] at hfl ⊢
   unfold pO at hlk hfl ⊢
   refine okp_of_ev hC0 mix 1 (zO rfl) Tryz.func19 rfl rfl (by kernel_rfl) (by kernel_rfl) (zO rfl) ?vs ?_
   case vs=>exact fl0
   repeat'(first|(with_reducible first|(refine zz ?_;try intro K hK)|refine zI ?_|refine zt ?_|refine zf ?_)|((first|refine hK _ ?_|refine hK _ _ rfl ?_);clear hK K)|(guard_hyp hK;first|(refine zY ?zz ?_;case zz=>first|exact rfl|exact gJ)|refine fresh_n ?_|refine freshO_n ?_|refine zW ?_|refine zp 0 (hlk) ?_|refine zp 0 (hfl) ?_|intro b0 hb)|((first|with_reducible refine zm ?_|guard_hyp hK);refine zY ?_ ?_;all_goals(intro hb;(try simp only [sn,sb] at hb);try exact ex0)))
   all_goals exact pr_ret1 rfl rfl (vFe_dat (some ⟨30,t.line,t.col,t.text⟩)) rfl (by decide) rfl
variable {W : Txt}
open PS (Trm)
def tNum (z:Int)(d:Nat):T:=.agg [.con (.bool (decide (z < 0))),tn (lm z.natAbs),tn (lm d)]
def vT (t:Trm):V:=.agg [.con (.int .i8 t.kind),.con (.bool (decide (t.z < 0))),.ro false (tn (lm t.z.natAbs)),.ro false (tn (lm t.d))]
def tT (t:Trm):T:=.agg [.con (.int .i8 t.kind),.con (.bool (decide (t.z < 0))),tn (lm t.z.natAbs),tn (lm t.d)]
def tTs (l:List Trm):T:=.sl (l.map tT)
theorem vT_flat (t:Trm):(vT t).flat:=by
 intro v hv
 simp at hv
 rcases hv with rfl|rfl|rfl|rfl<;>trivial
theorem vTs_flat (l:List Trm):∀e ∈ l.map vT,e.flat:=by
 intro e he
 obtain⟨w,-,rfl⟩:=List.mem_map.1 he
 exact vT_flat w
theorem bmA_flat {oh oh1:OH}{v:V}(h:v.flat):BmA oh oh1 v v:=by
 cases v with
 |agg l=>
  refine⟨rfl,fun j x y hx hy=>?_⟩
  rw [hx] at hy
  obtain rfl:x=y:=by simpa using hy
  have:=h x (List.mem_of_getElem? hx)
  cases x with
  |con x=>exact .con _
  |ro f t=>exact .ro _ _
  |emp=>exact .emp
  |_=>exact this.elim
 |con x=>exact BmC.con _
 |ro f t=>exact BmC.ro _ _
 |emp=>exact BmC.emp
 |_=>exact h.elim
theorem allv_td {α:Type}{F:α→V}{l:List α}{a b n:Nat}(h:∀x,(F x).cells.length=n):∀y ∈ ((l.map F).drop a).take b,y.cells.length=n:=by
 intro y hy
 obtain⟨x,-,rfl⟩:=List.mem_map.1 (List.mem_of_mem_drop (List.mem_of_mem_take hy))
 exact h x
theorem isB_settle (σ:PS W)(k:Int)(w:ByteArray):σ.settle.isB k w=σ.isB k w:=by
 cases ht:σ.tok with
 |some t=>rw [PS.settle_some ht]
 |none=>
  rw [isB_none ht]
  refine isB_none ?_ k w
  have:=PS.settle_bad ht
  unfold PS.tok
  cases hb:σ.settle.bad with
  |none=>exact absurd hb this
  |some f=>rfl
theorem settle_settle (σ:PS W):σ.settle.settle=σ.settle:=by
 cases ht:σ.tok with
 |some t=>rw [PS.settle_some ht,PS.settle_some ht]
 |none=>
  have:=PS.settle_bad ht
  cases hb:σ.settle.bad with
  |none=>exact absurd hb this
  |some f=>rw [PS.settle.eq_def σ.settle,hb]
theorem lv_sign {oh oh1:OH}(k:Int):LV oh oh1 (.agg [.con (.int .i8 k),.con (.bool false),.emp,.emp]) (vT ⟨k,0,0⟩):=by
 have h:∀oh oh1:OH,Lc oh oh1 .emp (.ro false (tn (lm 0))):=fun oh oh1=>Lc.frz false _ (tn (lm 0)) (fd_of lmz Fd1.emp)
 exact lv_agg ⟨Lc.same _ trivial,Lc.same _ trivial,h _ _,h _ _,trivial⟩
theorem lfOb_two {oh oh1:OH}{v n m w:Nat}{l l2 l':List Trm}{k:Int}{e:V}(h:oget oh 3=some ⟨4,((l.map vT).take n ++ ((l2.map vT).drop 0).take m).take w ++ [e],v,true⟩)(hn:n=l.length)(hm:m=l2.length)(hw:w=n+m)(hl':l'=l ++ l2 ++ [⟨k,0,0⟩])(hl:LV oh oh1 e (vT ⟨k,0,0⟩)) :
  lfOb oh oh1 3 ⟨4,l'.map vT,v,true⟩:=by
 have e1:(l.map vT).take n ++ ((l2.map vT).drop 0).take m=(l ++ l2).map vT:=by
  rw [List.drop_zero,List.take_of_length_le (by rw [List.length_map];omega),List.take_of_length_le (by rw [List.length_map];omega),List.map_append]
 rw [e1] at h
 exact lfOb_app (F:=vT) (l:=l ++ l2) (a:=⟨k,0,0⟩) h (by rw [List.length_append];omega) hl' (fun x _=>vT_flat x) hl
variable {W : Txt}
theorem lv_num {oh oh1:OH}(z:Int)(d:Nat):LV oh oh1 (.agg [.con (.int .i8 1),.con (.bool (decide (z < 0))),.ro true (tn (lm z.natAbs)),.ro true (tn (lm d))]) (vT ⟨1,z,d⟩):=
 lv_agg ⟨Lc.same _ trivial,Lc.same _ trivial,Lc.frz false _ (tn (lm z.natAbs)) (Fd1.ro _ _ fun h=>Bool.noConfusion h),Lc.frz false _ (tn (lm d)) (Fd1.ro _ _ fun h=>Bool.noConfusion h),trivial⟩
variable {W : Txt}
def fdE (oh oh1:OH)(e:V)(t:T):Prop:=t.cells.length=e.cells.length∧∀(j:Nat) (v:V) (u:T),e.cells[j]?=some v→t.cells[j]?=some u→Fd1 oh oh1 false v u
def fdL (oh oh1:OH):List V→List T→Prop
 | [],[]=>True
 |e :: r,t :: s=>fdE oh oh1 e t∧fdL oh oh1 r s
 |_,_=>False
theorem fdL_spec {oh oh1:OH}:∀{el:List V} {ts:List T},fdL oh oh1 el ts→el.length=ts.length∧∀(i:Nat) (e:V) (t:T),el[i]?=some e→ts[i]?=some t→fdE oh oh1 e t
 | [],[],_=>⟨rfl,fun i e t h=>by simp at h⟩
 |a :: r,b :: s,h=>by
  obtain⟨h1,h2⟩:=fdL_spec h.2
  refine⟨by simp [h1],fun i e t he ht=>?_⟩
  cases i with
  |zero=>simp at he ht;subst he;subst ht;exact h.1
  |succ i=>simp at he ht;exact h2 i e t he ht
 | [],_ :: _,h=>h.elim
 |_ :: _,[],h=>h.elim
theorem fd_ofL {oh oh1:OH}{id ver len sz:Nat}{el:List V}{ts:List T}(ho:oget oh id=some ⟨sz,el,ver,true⟩)(hd:oget oh1 id=none)(hn:ts.length=len)(h:fdL oh oh1 el ts):Fd1 oh oh1 false (.own id ver 0 len) (.sl ts):=by
 obtain⟨h1,h2⟩:=fdL_spec h
 refine .own id ver 0 len _ ts ho hd rfl rfl hn (fun i e t _ he ht=>(h2 i e t (by rw [← he,Nat.zero_add]) ht).1) (fun i e t j v u _ he ht hv hu=>(h2 i e t (by rw [← he,Nat.zero_add]) ht).2 j v u hv hu)
theorem fdL_map {α:Type}{oh oh1:OH}{F:α→V}{G:α→T}(h:∀a,fdE oh oh1 (F a) (G a)):∀l:List α,fdL oh oh1 (l.map F) (l.map G)
 | []=>trivial
 |a :: r=>⟨h a,fdL_map h r⟩
theorem fdE_one {oh oh1:OH}{e:V}{t:T}(he:e.cells=[e])(ht:t.cells=[t])(h:Fd1 oh oh1 false e t):fdE oh oh1 e t:=by
 refine⟨by rw [he,ht];rfl,fun j v u h1 h2=>?_⟩
 rw [he] at h1
 rw [ht] at h2
 cases j with
 |zero=>simp at h1 h2;subst h1;subst h2;exact h
 |succ j=>simp at h1
theorem fdE_T {oh oh1:OH}(t:Trm):fdE oh oh1 (vT t) (tT t):=by
 refine⟨rfl,fun j v u h1 h2=>?_⟩
 match j with
 |0=>simp [vT,V.cells] at h1;simp [tT,T.cells] at h2;subst h1;subst h2;exact Fd1.con _
 |1=>simp [vT,V.cells] at h1;simp [tT,T.cells] at h2;subst h1;subst h2;exact Fd1.con _
 |2=>simp [vT,V.cells] at h1;simp [tT,T.cells] at h2;subst h1;subst h2;exact Fd1.ro _ _ fun h=>Bool.noConfusion h
 |3=>simp [vT,V.cells] at h1;simp [tT,T.cells] at h2;subst h1;subst h2;exact Fd1.ro _ _ fun h=>Bool.noConfusion h
 |j+4=>simp [vT,V.cells] at h1
theorem fd_Ts {oh oh1:OH}{id ver len:Nat}{l:List Trm}(ho:oget oh id=some ⟨4,l.map vT,ver,true⟩)(hd:oget oh1 id=none)(hn:l.length=len):Fd1 oh oh1 false (.own id ver 0 len) (tTs l):=
 fd_ofL ho hd (by rw [List.length_map];exact hn) (fdL_map fdE_T l)
def vR (l:List Trm):V:=.ro false (tTs l)
def tRw (L:List (List Trm)):T:=.sl (L.map tTs)
theorem fdE_R {oh oh1:OH}(l:List Trm):fdE oh oh1 (vR l) (tTs l):=fdE_one rfl rfl (Fd1.ro _ _ fun h=>Bool.noConfusion h)
variable {W : Txt}
def PS.needL (ws:List (Int×ByteArray))(σ:PS W):PS W:=ws.foldl (fun τ p=>PS.need p.1 p.2 τ) σ
theorem needL_bad {σ:PS W}(h:σ.bad≠none):∀ws:List (Int×ByteArray),σ.needL ws=σ
 | []=>rfl
 |p :: r=>by
  show(PS.need p.1 p.2 σ).needL r=σ
  rw [(PS.need_fol p.1 p.2 σ).stk h]
  exact needL_bad h r
def KindOK (W:Txt)(p:Int×ByteArray):Prop:=(p.1=1∨p.1=4)∧∀t ∈ W.L,t.text=p.2→t.kind=1∨t.kind=4→t.kind=p.1
def wOb (ws:List (Int×ByteArray)):Obj:=⟨1,ws.map fun p=>vS p.2,0,true⟩
def nO (W:Txt)(a:Nat)(b:Option Flt)(n:Nat)(ws:List (Int×ByteArray)):OH:=[(0,prO W a b n),(1,wOb ws)]
theorem wOb_flat (ws:List (Int×ByteArray)):∀e ∈ (wOb ws).el,e.flat:=by
 intro e he
 obtain⟨p,-,rfl⟩:=List.mem_map.1 he
 trivial
theorem nO_get {a:Nat}{b:Option Flt}{n:Nat}{ws:List (Int×ByteArray)}{i:Nat}{o:Obj}(h:oget (nO W a b n ws) i=some o):(i=0∧o=prO W a b n)∨(i=1∧o=wOb ws):=by
 by_cases h0:i=0
 ·subst h0;exact .inl ⟨rfl,(Option.some.inj h).symm⟩
 ·by_cases h1:i=1
  ·subst h1;exact .inr ⟨rfl,(Option.some.inj h).symm⟩
  ·rw [nO,oget,if_neg (Ne.symm h0),oget,if_neg (Ne.symm h1)] at h
   cases h
theorem nO_after {a a':Nat}{b b':Option Flt}{n n':Nat}{ws:List (Int×ByteArray)}{i:Nat}{o:Obj}(h:oget (prQ W a' b' n' ++ nO W a b n ws) i=some o):(i=0∧o=prO W a' b' n')∨(i=1∧o=wOb ws):=by
 by_cases h0:i=0
 ·subst h0;exact .inl ⟨rfl,(Option.some.inj h).symm⟩
 ·have:oget (nO W a b n ws) i=some o:=by
   rw [← h]
   show _=oget ((0,_) :: nO W a b n ws) i
   rw [oget,if_neg (Ne.symm h0)]
  rcases nO_get this with⟨e,-⟩|h9
  ·exact absurd e h0
  ·exact .inr h9
theorem nO_ret {P:Program}{fn:Func}{s:St}{a a':Nat}{b b':Option Flt}{n n' np:Nat}{ws:List (Int×ByteArray)}{x:X}(hx:match x with|.exit _=>False|_=>True)(hr:fn.results.toList=[])(hs:oget s.oh 0=some (prO W a' b' n'))(h1:oget s.oh 1=some (wOb ws))(hnp:1 < np)(he:eget s.env 0=.ref 0 0 0 0)(he1:eget s.env 1=.own 1 0 0 ws.length)(hw:0 < ws.length) :
  RetG P fn np (nO W a b n ws) [.ref 0 0 0 0,.own 1 0 0 ws.length] (prQ W a' b' n') (.tup []) x s:=by
 refine⟨hx,false,s,rfl,fun i o o' g1 g2 g3=>?_,fun i o h=>?_,?_⟩
 ·rcases nO_get g1 with⟨rfl,rfl⟩|⟨rfl,rfl⟩
  ·exact⟨Nat.zero_lt_succ _,⟨_,hs,rfl,rfl,rfl⟩,0,_,by omega,rfl,he,⟨rfl,rfl⟩⟩
  ·exact⟨Nat.zero_lt_succ _,⟨_,h1,rfl,rfl,rfl⟩,1,_,hnp,rfl,he1,⟨rfl,rfl,hw⟩⟩
 ·rcases nO_after h with⟨rfl,rfl⟩|⟨rfl,rfl⟩
  ·refine⟨_,hs,rfl,rfl,rfl,rfl,fun k e e1 g1 g2=>?_⟩
   rw [g1] at g2
   obtain rfl:e=e1:=by simpa using g2
   exact bmA_flat (pr_flat _ _ _ e (List.mem_of_getElem? g1))
  ·refine⟨_,h1,rfl,rfl,rfl,rfl,fun k e e1 g1 g2=>?_⟩
   rw [g1] at g2
   obtain rfl:e=e1:=by simpa using g2
   exact bmA_flat (wOb_flat _ e (List.mem_of_getElem? g1))
 ·rw [hr]
theorem needL_drop {ws:List (Int×ByteArray)}{i:Nat}{p:Int×ByteArray}(h:ws[i]?=some p)(σ:PS W):PS.needL (ws.drop i) σ=PS.needL (ws.drop (i+1)) (PS.need p.1 p.2 σ):=by
 obtain⟨hl,e⟩:=List.getElem?_eq_some_iff.1 h
 rw [List.drop_eq_getElem_cons hl,e];rfl
def stNd (N:Nat)(ws:List (Int×ByteArray))(z:Nat×PS W):St:=⟨N,[(0,.ref 0 0 0 0),(1,.own 1 0 0 ws.length),(6,.own 1 0 0 ws.length),(7,.con (.int .i64 ws.length)),(8,.con (.int .i64 z.1))],[(0,prO W z.2.at_ z.2.bad z.2.opn),(1,wOb ws)]⟩
theorem at_w {ws:List (Int×ByteArray)}{i:Nat}{p:Int×ByteArray}(h:ws[i]?=some p):(ws.map fun p=>vS p.2)[0+i]?=some (.con (.string p.2)):=by
 rw [Nat.zero_add,List.getElem?_map,h];rfl
theorem pNeed_ok (ws:List (Int×ByteArray))(σ:PS W)(hL:W.L.length≤1073741824)(hw:0 < ws.length)(hn:ws.length≤1024)(hk:∀p ∈ ws,KindOK W p):OkG Tryz.prog 13 (nO W σ.at_ σ.bad σ.opn ws) [] [.ref 0 0 0 0,.own 1 0 0 ws.length] (pO (σ.needL ws)) (.tup []):=by
 unfold pO
 refine okg_of_ev hC0 mix 2 (zO rfl) Tryz.func13 rfl rfl (by kernel_rfl) (by kernel_rfl) (zO rfl) ?wf ?vs ?po ?le ?_
 case wf=>
  intro i o h
  rcases nO_get h with⟨rfl,rfl⟩|⟨rfl,rfl⟩
  ·exact⟨rfl,rfl,pr_cl _⟩
  ·exact⟨rfl,rfl,fun v hv=>(wOb_flat ws v hv).cl _⟩
 case vs=>exact two_vs rfl rfl
 case po=>
  intro i o h
  obtain⟨rfl,rfl⟩:=oget_one h
  exact .inl rfl
 case le=>
  intro i o o' h1 h2 h3 h4
  rcases nO_get h1 with⟨rfl,rfl⟩|⟨rfl,rfl⟩
  ·rcases nO_after h2 with⟨-,rfl⟩|⟨e,-⟩
   ·exact⟨rfl,Nat.le_refl _⟩
   ·cases e
  ·rcases nO_after h2 with⟨e,-⟩|⟨-,rfl⟩
   ·cases e
   ·exact⟨rfl,Nat.le_refl _⟩
 repeat'(first|(with_reducible first|(refine zz ?_;try intro K hK)|refine zI ?_|refine zt ?_|refine zf ?_)|((first|refine hK _ ?_|refine hK _ _ rfl ?_);clear hK K)|(guard_hyp hK;first|(refine zY ?zz ?_;case zz=>first|exact rfl|exact gJ)|refine fresh_n ?_|refine freshO_n ?_|refine zW ?_|intro b0 hb)|((first|with_reducible refine zm ?_|guard_hyp hK);refine zY ?_ ?_;all_goals(intro hb;(try simp only [sn,sb] at hb);try exact ex0)))
 refine loop_i (Nat×PS W) (stNd Tryz.f13.ntmps ws) (fun z=>z.1≤ws.length∧PS.needL (ws.drop z.1) z.2=σ.needL ws) (fun z=>ws.length - z.1) [] (0,σ) trivial ⟨Nat.zero_le _,rfl⟩ ⟨rfl,⟨rfl,rfl,rfl,rfl,rfl,rfl,rfl,trivial,rfl,trivial,trivial⟩,⟨rfl,rfl,trivial⟩,⟨pr_cl _,fun v hv=>(wOb_flat ws v hv).cl _,trivial⟩⟩ ?_
 rintro⟨i,τ⟩ ⟨h0,h1⟩
 dsimp only at h0 h1
 unfold stNd
 dsimp only
 by_cases hlt:i < ws.length
 ·obtain⟨p,hp⟩:∃p,ws[i]?=some p:=⟨_,List.getElem?_eq_getElem hlt⟩
  have hpm:=List.mem_of_getElem? hp
  obtain⟨hk0,hk1⟩:=hk p hpm
  rw [needL_drop hp] at h1
  have hat:=at_w hp
  have ca:=pIs_ok τ 4 p.2
  have cb:=pIs_ok τ.settle 1 p.2
  rw [isB_settle,settle_settle] at cb
  by_cases hB:τ.isB p.1 p.2=true
  ·obtain⟨t,ht,hkk,htx⟩:=PS.isB_tok hB
   have hlt2:=(PS.tok_at ht).2.2
   rw [show PS.need p.1 p.2 τ=τ.adv from if_pos hB] at h1
   have hav:=PS.adv_at ht (by rw [hkk];omega)
   have fin:Le (stNd (W:=W) Tryz.f13.ntmps ws (i+1,τ.adv)) (stNd Tryz.f13.ntmps ws (i+1,τ.adv)):=⟨rfl,⟨rfl,rfl,rfl,rfl,rfl,rfl,rfl,trivial,rfl,trivial,trivial⟩,⟨rfl,rfl,trivial⟩,⟨pr_cl _,fun v hv=>(wOb_flat ws v hv).cl _,trivial⟩⟩
   rw [PS.settle_some ht,pO_some ht] at ca cb
   rw [(PS.tok_at ht).1]
   rcases hk0 with hk0|hk0
   ·have e4:τ.isB 4 p.2=false:=by
     unfold PS.isB
     rw [ht]
     exact decide_eq_false fun h=>by have:=h.1;omega
    rw [e4] at ca
    rw [hk0] at hB
    rw [hB] at cb
    repeat'(first|(refine Exists.intro _ (And.intro hat ?_))|(with_reducible first|(refine zz ?_;try intro K hK)|refine zI ?_|refine zt ?_|refine zf ?_)|((first|refine hK _ ?_|refine hK _ _ rfl ?_);clear hK K)|(guard_hyp hK;first|(refine zY ?zz ?_;case zz=>first|exact rfl|exact gJ)|refine fresh_n ?_|refine freshO_n ?_|refine zW ?_|refine zp 0 (ca) ?_|refine zp 0 (cb) ?_|intro b0 hb)|((first|with_reducible refine zm ?_|guard_hyp hK);refine zY ?_ ?_;all_goals(intro hb;(try simp only [sn,sb] at hb);try exact ex0)))
    refine⟨(i+1,τ.adv),⟨hlt,h1⟩,by dsimp only;omega,rfl,⟨rfl,rfl,rfl,rfl,rfl,rfl,rfl,trivial,rfl,trivial,trivial⟩,⟨?_,rfl,trivial⟩,⟨pr_cl _,fun v hv=>(wOb_flat ws v hv).cl _,trivial⟩⟩
    dsimp only
    rw [hav.1,hav.2.1,hav.2.2];rfl
   ·rw [hk0] at hB
    rw [hB] at ca
    repeat'(first|(refine Exists.intro _ (And.intro hat ?_))|(with_reducible first|(refine zz ?_;try intro K hK)|refine zI ?_|refine zt ?_|refine zf ?_)|((first|refine hK _ ?_|refine hK _ _ rfl ?_);clear hK K)|(guard_hyp hK;first|(refine zY ?zz ?_;case zz=>first|exact rfl|exact gJ)|refine fresh_n ?_|refine freshO_n ?_|refine zW ?_|refine zp 0 (ca) ?_|intro b0 hb)|((first|with_reducible refine zm ?_|guard_hyp hK);refine zY ?_ ?_;all_goals(intro hb;(try simp only [sn,sb] at hb);try exact ex0)))
    refine⟨(i+1,τ.adv),⟨hlt,h1⟩,by dsimp only;omega,rfl,⟨rfl,rfl,rfl,rfl,rfl,rfl,rfl,trivial,rfl,trivial,trivial⟩,⟨?_,rfl,trivial⟩,⟨pr_cl _,fun v hv=>(wOb_flat ws v hv).cl _,trivial⟩⟩
    dsimp only
    rw [hav.1,hav.2.1,hav.2.2];rfl
  ·have e:∀k,k=1∨k=4→τ.isB k p.2=false:=by
    intro k hk2
    cases hB2:τ.isB k p.2 with
    |false=>rfl
    |true=>
     obtain⟨t,ht,hkk,htx⟩:=PS.isB_tok hB2
     have:=hk1 t (List.mem_of_getElem? (PS.tok_at ht).2.1) htx (by omega)
     refine absurd ?_ hB
     rw [← this,hkk];exact hB2
   have hfl:=pWrong_ok τ.settle 30 (by decide)
   rw [settle_wrong] at hfl
   rw [e 4 (.inr rfl)] at ca
   rw [e 1 (.inl rfl)] at cb
   rw [show PS.need p.1 p.2 τ=τ.wrong 30 from if_neg hB,needL_bad (PS.wrong_bad τ 30)] at h1
   rw [← h1]
   unfold pO at ca cb hfl
   repeat'(first|(refine Exists.intro _ (And.intro hat ?_))|(with_reducible first|(refine zz ?_;try intro K hK)|refine zI ?_|refine zt ?_|refine zf ?_)|((first|refine hK _ ?_|refine hK _ _ rfl ?_);clear hK K)|(guard_hyp hK;first|(refine zY ?zz ?_;case zz=>first|exact rfl|exact gJ)|refine fresh_n ?_|refine freshO_n ?_|refine zW ?_|refine zp 0 (ca) ?_|refine zp 0 (cb) ?_|refine zp 0 (hfl) ?_|intro b0 hb)|((first|with_reducible refine zm ?_|guard_hyp hK);refine zY ?_ ?_;all_goals(intro hb;(try simp only [sn,sb] at hb);try exact ex0)))
   all_goals exact nO_ret trivial rfl rfl rfl (by decide) rfl rfl hw
 ·obtain rfl:i=ws.length:=by omega
  rw [List.drop_eq_nil_of_le (Nat.le_refl _)] at h1
  have h1:τ=σ.needL ws:=h1
  subst h1
  repeat'(first|(with_reducible first|(refine zz ?_;try intro K hK)|refine zI ?_|refine zt ?_|refine zf ?_)|((first|refine hK _ ?_|refine hK _ _ rfl ?_);clear hK K)|(guard_hyp hK;first|(refine zY ?zz ?_;case zz=>first|exact rfl|exact gJ)|refine fresh_n ?_|refine freshO_n ?_|refine zW ?_|intro b0 hb)|((first|with_reducible refine zm ?_|guard_hyp hK);refine zY ?_ ?_;all_goals(intro hb;(try simp only [sn,sb] at hb);try exact ex0)))
  all_goals exact nO_ret trivial rfl rfl rfl (by decide) rfl rfl hw
theorem need_call {C:CT}{q:FuncId}{args:List V}{oh:OH}{a a':Nat}{b b':Option Flt}{n n':Nat}{k:Acc→Prop}(ws:List (Int×ByteArray))(id id1:Nat)(hc:C q [] (.gen (nO W a b n ws) [] [.ref 0 0 0 0,.own 1 0 0 ws.length] (prQ W a' b' n') (.tup [])))
  (ha:args=[.ref id 0 0 0,.own id1 0 0 ws.length]) (hp:oget oh id=some (prO W a b n)) (hp1:oget oh id1=some (wOb ws)) (hne:id≠id1)
  (hk:k ⟨[(id,prO W a b n),(id1,wOb ws)],[],[(id,prO W a' b' n')],.tup []⟩):GenK C q args oh k:=by
 have ew:(wOb ws).rn (lkM [(0,id,0),(1,id1,0)]) (lkV [(0,id,0),(1,id1,0)]) 1=wOb ws:=by
  show Obj.mk 1 ((ws.map fun p=>vS p.2).map _) 0 true=wOb ws
  rw [rn_map (F:=fun p:Int×ByteArray=>vS p.2) (fun _=>rfl)];rfl
 have ep:∀a b n,(prO W a b n).rn (lkM [(0,id,0),(1,id1,0)]) (lkV [(0,id,0),(1,id1,0)]) 0=prO W a b n:=by
  intro a b n
  show Obj.mk 5 [(prV W a b n).rnA _ _] 0 true=_
  rw [rn_id _ _ (prV_flat a b n)];rfl
 refine⟨_,_,_,_,_,lkM [(0,id,0),(1,id1,0)],lkV [(0,id,0),(1,id1,0)],hc,by rw [ha];rfl,fun p hp'=>?_,fun i hi=>by simp at hi,fun i hi j hj hij=>?_,?_⟩
 ·rcases List.mem_cons.1 hp' with rfl|hp'
  ·show oget oh id=some ((prO W a b n).rn _ _ 0)
   rw [ep];exact hp
  ·obtain rfl:=List.mem_singleton.1 hp'
   show oget oh id1=some ((wOb ws).rn _ _ 1)
   rw [ew];exact hp1
 ·have hi:i=0∨i=1:=by simpa [nO] using hi
  have hj:j=0∨j=1:=by simpa [nO] using hj
  rcases hi with rfl|rfl<;>rcases hj with rfl|rfl
  ·rfl
  ·exact absurd hij hne
  ·exact absurd hij.symm hne
  ·rfl
 ·have e1:rnO (lkM [(0,id,0),(1,id1,0)]) (lkV [(0,id,0),(1,id1,0)]) (nO W a b n ws)=[(id,prO W a b n),(id1,wOb ws)]:=by
   show [(id,(prO W a b n).rn _ _ 0),(id1,(wOb ws).rn _ _ 1)]=_
   rw [ep,ew]
  have e2:rnO (lkM [(0,id,0),(1,id1,0)]) (lkV [(0,id,0),(1,id1,0)]) (prQ W a' b' n')=[(id,prO W a' b' n')]:=by
   show [(id,(prO W a' b' n').rn _ _ 0)]=_
   rw [ep]
  rw [e1,e2]
  exact hk
end Go.Ev
