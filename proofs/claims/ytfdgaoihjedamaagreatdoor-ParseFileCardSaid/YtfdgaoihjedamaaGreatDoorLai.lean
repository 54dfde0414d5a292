import Derived.Test.YtfdgaoihjedamaaGreatDoorLah
set_option linter.all false
set_option maxHeartbeats 4000000
set_option maxRecDepth 10000
namespace Go.Ev
open Go.Proofs
def foC : Option Flt→Int|none=>0|some f=>f.code
def foL : Option Flt→Int|none=>0|some f=>f.line
def foK : Option Flt→Int|none=>0|some f=>f.col
def foW : Option Flt→ByteArray|none=>eS|some f=>f.word
variable {W : Txt}
def rdV (W:Txt)(a:Nat)(b:Option Flt)(n:Nat):V:=
 .agg [.ro true (tToks W.L),.con (.int .i64 a),.con (.int .i64 (foC W.late)),.con (.int .i64 (foL W.late)),.con (.int .i64 (foK W.late)),.con (.string (foW W.late)),
  .con (.int .i64 (foC b)),.con (.int .i64 (foL b)),.con (.int .i64 (foK b)),.con (.string (foW b)),.con (.int .i64 n)]
def rdQ (W:Txt)(a:Nat)(b:Option Flt)(n:Nat):OH:=[(0,⟨11,[rdV W a b n],0,true⟩)]
def rdO (σ:PS W):OH:=rdQ W σ.at_ σ.bad σ.opn
theorem rdV_cl (a:Nat)(b:Option Flt)(n:Nat)(oh:OH):(rdV W a b n).cl oh:=by
 intro v hv
 simp at hv
 rcases hv with rfl|rfl|rfl|rfl|rfl|rfl|rfl|rfl|rfl|rfl|rfl<;>trivial
theorem rd_wf (a:Nat)(b:Option Flt)(n:Nat):∀i o,oget (rdQ W a b n) i=some o→o.ver=0∧o.live=true∧∀v ∈ o.el,v.cl (rdQ W a b n):=by
 intro i o h
 obtain⟨rfl,rfl⟩:=oget_one h
 refine⟨rfl,rfl,fun v hv=>?_⟩
 obtain rfl:=List.mem_singleton.1 hv
 exact rdV_cl a b n _
theorem rd_po (a a':Nat)(b b':Option Flt)(n n':Nat){nw:List Nat}:∀i o,oget (rdQ W a' b' n') i=some o→(oget (rdQ W a b n) i).isSome=true∨i ∈ nw:=by
 intro i o h
 obtain⟨rfl,rfl⟩:=oget_one h
 exact .inl rfl
theorem rd_after {a a':Nat}{b b':Option Flt}{n n':Nat}{i:Nat}{o:Obj}(h:oget (rdQ W a' b' n' ++ rdQ W a b n) i=some o):i=0∧o=⟨11,[rdV W a' b' n'],0,true⟩:=by
 by_cases h0:i=0
 ·subst h0
  have e:oget (rdQ W a' b' n' ++ rdQ W a b n) 0=some ⟨11,[rdV W a' b' n'],0,true⟩:=rfl
  rw [e] at h
  exact⟨rfl,(Option.some.inj h).symm⟩
 ·rw [show rdQ W a' b' n' ++ rdQ W a b n=[(0,_),(0,_)] from rfl,oget,if_neg (Ne.symm h0),oget,if_neg (Ne.symm h0)] at h
  cases h
theorem rd_le (a a':Nat)(b b':Option Flt)(n n':Nat):∀i o o',oget (rdQ W a b n) i=some o→oget (rdQ W a' b' n' ++ rdQ W a b n) i=some o'→o'.ver=0→o'.live=true→o'.sz=o.sz∧o.el.length≤o'.el.length:=by
 intro i o o' h1 h2 h3 h4
 obtain⟨rfl,rfl⟩:=rd_after h2
 obtain⟨-,rfl⟩:=oget_one h1
 exact⟨rfl,Nat.le_refl _⟩
theorem rd_pin {s:St}{vs:List V}{a a':Nat}{b b':Option Flt}{n n' np:Nat}{e:List V}(hs:oget s.oh 0=some ⟨11,e,0,true⟩)(hnp:0 < np)(hv:vs[0]?=some (.ref 0 0 0 0))(he:eget s.env 0=.ref 0 0 0 0) :
  ∀i o o',oget (rdQ W a b n) i=some o→oget (rdQ W a' b' n' ++ rdQ W a b n) i=some o'→o'.ver=0→PinG np vs s i o:=by
 intro i o o' h1 h2 h3
 obtain⟨rfl,rfl⟩:=rd_after h2
 obtain⟨-,rfl⟩:=oget_one h1
 exact⟨Nat.zero_lt_succ _,⟨_,hs,rfl,rfl,rfl⟩,0,_,hnp,hv,he,⟨rfl,rfl⟩⟩
theorem bmC_self {oh oh1:OH}{v:V}(h:∃x,v=.con x∨∃f t,v=.ro f t):BmC oh oh1 v v:=by
 obtain⟨x,rfl|⟨f,t,rfl⟩⟩:=h
 ·exact .con _
 ·exact .ro _ _
theorem rd_bm {s:St}{a a':Nat}{b b':Option Flt}{n n':Nat}(hs:oget s.oh 0=some ⟨11,[rdV W a' b' n'],0,true⟩):Bm s.oh (rdQ W a' b' n' ++ rdQ W a b n):=by
 intro i o h
 obtain⟨rfl,rfl⟩:=rd_after h
 refine⟨_,hs,rfl,rfl,rfl,rfl,fun k e e1 he he1=>?_⟩
 rw [he] at he1
 obtain rfl:e=e1:=by simpa using he1
 cases k with
 |zero=>
  obtain rfl:rdV W a' b' n'=e:=by simpa using he
  refine⟨rfl,fun j x y hx hy=>?_⟩
  rw [hx] at hy
  obtain rfl:x=y:=by simpa using hy
  refine bmC_self ?_
  have hm:=List.mem_of_getElem? hx
  simp at hm
  rcases hm with rfl|rfl|rfl|rfl|rfl|rfl|rfl|rfl|rfl|rfl|rfl
  ·exact⟨default,.inr ⟨_,_,rfl⟩⟩
  all_goals exact⟨_,.inl rfl⟩
 |succ k=>simp at he
theorem one_vs {v:V}{oh:OH}(h:v.cl oh):∀u ∈ [v],u.cl oh:=by
 intro u hu
 obtain rfl:=List.mem_singleton.1 hu
 exact h
theorem cons_vs {v:V}{l:List V}{oh:OH}(h:v.cl oh)(k:∀u ∈ l,u.cl oh):∀u ∈ v :: l,u.cl oh:=by
 intro u hu
 rcases List.mem_cons.1 hu with rfl|hu
 ·exact h
 ·exact k u hu
theorem rd_ret0 {P:Program}{fn:Func}{s:St}{vs:List V}{a a':Nat}{b b':Option Flt}{n n' np:Nat}{x:X}(hx:match x with|.exit _=>False|_=>True)(hr:fn.results.toList=[])(hs:oget s.oh 0=some ⟨11,[rdV W a' b' n'],0,true⟩)(hnp:0 < np)(hv:vs[0]?=some (.ref 0 0 0 0))(he:eget s.env 0=.ref 0 0 0 0) :
  RetG P fn np (rdQ W a b n) vs (rdQ W a' b' n') (.tup []) x s:=by
 refine⟨hx,false,s,rfl,rd_pin hs hnp hv he,rd_bm hs,?_⟩
 rw [hr]
theorem rd_ret1 {P:Program}{fn:Func}{s:St}{vs:List V}{a a':Nat}{b b':Option Flt}{n n' np t:Nat}{v r:V}(hr:fn.results.toList=[.tmp t])(ht:eget s.env t=v)(hb:BmA s.oh (rdQ W a' b' n' ++ rdQ W a b n) v r)(hs:oget s.oh 0=some ⟨11,[rdV W a' b' n'],0,true⟩)(hnp:0 < np)(hv:vs[0]?=some (.ref 0 0 0 0))(he:eget s.env 0=.ref 0 0 0 0) :
  RetG P fn np (rdQ W a b n) vs (rdQ W a' b' n') r .ret s:=by
 refine⟨trivial,false,s,rfl,rd_pin hs hnp hv he,rd_bm hs,?_⟩
 rw [hr]
 show BmA _ _ (eget s.env t) r
 rw [ht];exact hb
theorem bm_aggC {oh oh1:OH}(l:List Value):BmA oh oh1 (.agg (l.map .con)) (.agg (l.map .con)):=by
 refine⟨rfl,fun j x y hx hy=>?_⟩
 rw [hx] at hy
 obtain rfl:x=y:=by simpa using hy
 rw [List.getElem?_map] at hx
 obtain⟨a,-,rfl⟩:=Option.map_eq_some_iff.1 hx
 exact .con a
theorem rd_retc {P:Program}{fn:Func}{s:St}{vs:List V}{a a':Nat}{b b':Option Flt}{n n' np t ty id ver sz:Nat}{l:List Value}{fs:List (Nat×Nat)}{z:List Value}(hr:fn.results.toList=[.cell t ty])(ht:tk P ty=.st fs z)(hz:z.length=(l.map V.con).length)(h0:0 < (l.map V.con).length)
  (ha:eget s.env t=.ref id ver 0 0) (ho:oget s.oh id=some ⟨sz,[.agg (l.map .con)],ver,true⟩) (hs:oget s.oh 0=some ⟨11,[rdV W a' b' n'],0,true⟩) (hnp:0 < np) (hv:vs[0]?=some (.ref 0 0 0 0)) (he:eget s.env 0=.ref 0 0 0 0) :
  RetG P fn np (rdQ W a b n) vs (rdQ W a' b' n') (.agg (l.map .con)) .ret s:=by
 refine⟨trivial,false,s,rfl,rd_pin hs hnp hv he,rd_bm hs,?_⟩
 rw [hr]
 exact resc ht hz h0 ha ho (bm_aggC l)
def tokN : V:=.agg [.con (.int .i8 (-1)),.con (.string eS),.con (.int .i64 0),.con (.int .i64 0)]
def tokV : Option Tok→V
 |some t=>vTok t
 |none=>tokN
theorem at_tk {l:List Tok}{i:Nat}{t:Tok}(h:l[i]?=some t):(l.map tTok)[i]?=some (tTok t):=by
 rw [List.getElem?_map,h];rfl
theorem settle_none {σ:PS W}(hb:σ.bad=none)(h:W.L[σ.at_]?=none):rdO σ.settle=rdQ W σ.at_ W.late σ.opn:=by
 unfold rdO PS.settle
 rw [hb,h]
theorem rLook_ok (σ:PS W):OkG Tryz.prog 43 (rdO σ) [] [.ref 0 0 0 0] (rdO σ.settle) (tokV σ.tok):=by
 cases hb:σ.bad with
 |some f=>
  have hc:¬foC (some f)=0:=σ.cod f hb
  have e1:σ.settle=σ:=by unfold PS.settle;rw [hb]
  have e2:σ.tok=none:=by unfold PS.tok;rw [hb]
  rw [e1,e2]
  unfold rdO
  rw [hb]
  refine okg_of_ev hC0 mix 1 (zO rfl) Tryz.func43 rfl rfl (by kernel_rfl) (by kernel_rfl) (zO rfl) ?wf ?vs ?po ?le ?_
  case wf=>exact rd_wf _ _ _
  case vs=>exact one_vs rfl
  case po=>exact rd_po _ _ _ _ _ _
  case le=>exact rd_le _ _ _ _ _ _
  repeat'(first|(with_reducible first|(refine zz ?_;try intro K hK)|refine zI ?_|refine zt ?_|refine zf ?_)|((first|refine hK _ ?_|refine hK _ _ rfl ?_);clear hK K)|(guard_hyp hK;first|(refine zY ?zz ?_;case zz=>first|exact rfl|exact gJ)|refine fresh_n ?_|refine freshO_n ?_|refine zW ?_|intro b0 hb)|((first|with_reducible refine zm ?_|guard_hyp hK);refine zY ?_ ?_;all_goals(intro hb;(try simp only [sn,sb] at hb);try exact ex0)))
  exact rd_retc (l:=[.int .i8 (-1),.string eS,.int .i64 0,.int .i64 0]) rfl tk99 rfl (Nat.zero_lt_succ _) rfl rfl rfl (by decide) rfl rfl
 |none=>
  have hz:foC none=0:=rfl
  cases hl:W.L[σ.at_]? with
  |some t=>
   have hlt:σ.at_ < W.L.length:=(List.getElem?_eq_some_iff.1 hl).1
   have e2:σ.tok=some t:=by unfold PS.tok;rw [hb];exact hl
   have e1:σ.settle=σ:=PS.settle_some e2
   rw [e1,e2]
   unfold rdO
   rw [hb]
   refine okg_of_ev hC0 mix 1 (zO rfl) Tryz.func43 rfl rfl (by kernel_rfl) (by kernel_rfl) (zO rfl) ?wf ?vs ?po ?le ?_
   case wf=>exact rd_wf _ _ _
   case vs=>exact one_vs rfl
   case po=>exact rd_po _ _ _ _ _ _
   case le=>exact rd_le _ _ _ _ _ _
   repeat'(first|(refine Exists.intro _ (And.intro (at_tk hl) ?_))|(with_reducible first|(refine zz ?_;try intro K hK)|refine zI ?_|refine zt ?_|refine zf ?_)|((first|refine hK _ ?_|refine hK _ _ rfl ?_);clear hK K)|(guard_hyp hK;first|(refine zY ?zz ?_;case zz=>first|exact rfl|exact gJ)|refine fresh_n ?_|refine freshO_n ?_|refine zW ?_|intro b0 hb)|((first|with_reducible refine zm ?_|guard_hyp hK);refine zY ?_ ?_;all_goals(intro hb;(try simp only [sn,sb] at hb);try exact ex0)))
   exact rd_retc (l:=[.int .i8 t.kind,.string t.text,.int .i64 t.line,.int .i64 t.col]) rfl tk99 rfl (Nat.zero_lt_succ _) rfl rfl rfl (by decide) rfl rfl
  |none=>
   have hlt:W.L.length≤σ.at_:=List.getElem?_eq_none_iff.1 hl
   have e2:σ.tok=none:=by unfold PS.tok;rw [hb];exact hl
   rw [settle_none hb hl,e2]
   unfold rdO
   rw [hb]
   refine okg_of_ev hC0 mix 1 (zO rfl) Tryz.func43 rfl rfl (by kernel_rfl) (by kernel_rfl) (zO rfl) ?wf ?vs ?po ?le ?_
   case wf=>exact rd_wf _ _ _
   case vs=>exact one_vs rfl
   case po=>exact rd_po _ _ _ _ _ _
   case le=>exact rd_le _ _ _ _ _ _
   repeat'(first|(with_reducible first|(refine zz ?_;try intro K hK)|refine zI ?_|refine zt ?_|refine zf ?_)|((first|refine hK _ ?_|refine hK _ _ rfl ?_);clear hK K)|(guard_hyp hK;first|(refine zY ?zz ?_;case zz=>first|exact rfl|exact gJ)|refine fresh_n ?_|refine freshO_n ?_|refine zW ?_|intro b0 hb)|((first|with_reducible refine zm ?_|guard_hyp hK);refine zY ?_ ?_;all_goals(intro hb;(try simp only [sn,sb] at hb);try exact ex0)))
   exact rd_retc (l:=[.int .i8 (-1),.string eS,.int .i64 0,.int .i64 0]) rfl tk99 rfl (Nat.zero_lt_succ _) rfl rfl rfl (by decide) rfl rfl
variable {W : Txt}
theorem late_some {σ:PS W}(h:W.L[σ.at_]?=none):foC W.late≠0:=by
 cases hl:W.late with
 |none=>
  have h1:=σ.inv hl
  rw [List.getElem?_eq_getElem h1] at h
  cases h
 |some f=>exact W.cod f hl
theorem two_vs {a b:V}{oh:OH}(h:a.cl oh)(k:b.cl oh):∀u ∈ [a,b],u.cl oh:=cons_vs h (one_vs k)
theorem three_vs {a b c:V}{oh:OH}(h:a.cl oh)(k:b.cl oh)(m:c.cl oh):∀u ∈ [a,b,c],u.cl oh:=cons_vs h (two_vs k m)
theorem rFail_ok (σ:PS W)(c:Int)(hc:c≠0):OkG Tryz.prog 44 (rdO σ) [] [.ref 0 0 0 0,.con (.int .i64 c)] (rdO (σ.wrong c hc)) (.tup []):=by
 have hlk:=rLook_ok σ
 cases hb:σ.bad with
 |some f=>
  have hcf:¬foC (some f)=0:=σ.cod f hb
  have e1:σ.settle=σ:=by unfold PS.settle;rw [hb]
  have e2:σ.tok=none:=by unfold PS.tok;rw [hb]
  have e3:σ.wrong c hc=σ:=by unfold PS.wrong;rw [hb]
  rw [e1,e2] at hlk
  rw [e3]
  unfold rdO at hlk ⊢
  rw [hb] at hlk ⊢
  refine okg_of_ev hC0 mix 1 (zO rfl) Tryz.func44 rfl rfl (by kernel_rfl) (by kernel_rfl) (zO rfl) ?wf ?vs ?po ?le ?_
  case wf=>exact rd_wf _ _ _
  case vs=>exact two_vs rfl trivial
  case po=>exact rd_po _ _ _ _ _ _
  case le=>exact rd_le _ _ _ _ _ _
  repeat'(first|(with_reducible first|(refine zz ?_;try intro K hK)|refine zI ?_|refine zt ?_|refine zf ?_)|((first|refine hK _ ?_|refine hK _ _ rfl ?_);clear hK K)|(guard_hyp hK;first|(refine zY ?zz ?_;case zz=>first|exact rfl|exact gJ)|refine fresh_n ?_|refine freshO_n ?_|refine zW ?_|refine zg ([]) (hlk) (rdQ W σ.at_ (some f) σ.opn) ([]) (rdQ W σ.at_ (some f) σ.opn) (tokN) ?_|intro b0 hb)|((first|with_reducible refine zm ?_|guard_hyp hK);refine zY ?_ ?_;all_goals(intro hb;(try simp only [sn,sb] at hb);try exact ex0)))
  all_goals exact rd_ret0 trivial rfl rfl (by decide) rfl rfl
 |none=>
  have hz:foC none=0:=rfl
  cases hl:W.L[σ.at_]? with
  |some t=>
   have hlt:σ.at_ < W.L.length:=(List.getElem?_eq_some_iff.1 hl).1
   have e2:σ.tok=some t:=by unfold PS.tok;rw [hb];exact hl
   have e1:σ.settle=σ:=PS.settle_some e2
   have e3:rdO (σ.wrong c hc)=rdQ W σ.at_ (some ⟨c,t.line,t.col,t.text⟩) σ.opn:=by unfold rdO PS.wrong;rw [hb,hl]
   rw [e1,e2] at hlk
   rw [e3]
   unfold rdO at hlk ⊢
   rw [hb] at hlk ⊢
   refine okg_of_ev hC0 mix 1 (zO rfl) Tryz.func44 rfl rfl (by kernel_rfl) (by kernel_rfl) (zO rfl) ?wf ?vs ?po ?le ?_
   case wf=>exact rd_wf _ _ _
   case vs=>exact two_vs rfl trivial
   case po=>exact rd_po _ _ _ _ _ _
   case le=>exact rd_le _ _ _ _ _ _
   repeat'(first|(with_reducible first|(refine zz ?_;try intro K hK)|refine zI ?_|refine zt ?_|refine zf ?_)|((first|refine hK _ ?_|refine hK _ _ rfl ?_);clear hK K)|(guard_hyp hK;first|(refine zY ?zz ?_;case zz=>first|exact rfl|exact gJ)|refine fresh_n ?_|refine freshO_n ?_|refine zW ?_|refine zg ([]) (hlk) (rdQ W σ.at_ none σ.opn) ([]) (rdQ W σ.at_ none σ.opn) (vTok t) ?_|intro b0 hb)|((first|with_reducible refine zm ?_|guard_hyp hK);refine zY ?_ ?_;all_goals(intro hb;(try simp only [sn,sb] at hb);try exact ex0)))
   all_goals exact rd_ret0 trivial rfl rfl (by decide) rfl rfl
  |none=>
   have hlt:W.L.length≤σ.at_:=List.getElem?_eq_none_iff.1 hl
   have e2:σ.tok=none:=by unfold PS.tok;rw [hb];exact hl
   have hls:=late_some hl
   have e3:rdO (σ.wrong c hc)=rdQ W σ.at_ W.late σ.opn:=by unfold rdO PS.wrong;rw [hb,hl]
   rw [settle_none hb hl,e2] at hlk
   rw [e3]
   unfold rdO at hlk ⊢
   rw [hb] at hlk ⊢
   refine okg_of_ev hC0 mix 1 (zO rfl) Tryz.func44 rfl rfl (by kernel_rfl) (by kernel_rfl) (zO rfl) ?wf ?vs ?po ?le ?_
   case wf=>exact rd_wf _ _ _
   case vs=>exact two_vs rfl trivial
   case po=>exact rd_po _ _ _ _ _ _
   case le=>exact rd_le _ _ _ _ _ _
   repeat'(first|(with_reducible first|(refine zz ?_;try intro K hK)|refine zI ?_|refine zt ?_|refine zf ?_)|((first|refine hK _ ?_|refine hK _ _ rfl ?_);clear hK K)|(guard_hyp hK;first|(refine zY ?zz ?_;case zz=>first|exact rfl|exact gJ)|refine fresh_n ?_|refine freshO_n ?_|refine zW ?_|refine zg ([]) (hlk) (rdQ W σ.at_ none σ.opn) ([]) (rdQ W σ.at_ W.late σ.opn) (tokN) ?_|intro b0 hb)|((first|with_reducible refine zm ?_|guard_hyp hK);refine zY ?_ ?_;all_goals(intro hb;(try simp only [sn,sb] at hb);try exact ex0)))
   all_goals exact rd_ret0 trivial rfl rfl (by decide) rfl rfl
theorem bq_loop (b:ByteArray):∀(k i:Nat) (r:List UInt8),b.size - i=k→ByteArray.toList.loop b i r=r.reverse ++ b.data.toList.drop i:=by
 intro k
 induction k with
 |zero=>
  intro i r h
  rw [ByteArray.toList.loop,if_neg (by omega),List.drop_eq_nil_of_le (by show b.data.toList.length≤i;rw [Array.length_toList];exact Nat.le_of_sub_eq_zero h),List.append_nil]
 |succ k ih=>
  intro i r h
  have hlt:i < b.size:=by omega
  rw [ByteArray.toList.loop,if_pos hlt,ih (i+1) _ (by omega)]
  have hl:i < b.data.toList.length:=by rw [Array.length_toList];exact hlt
  rw [List.drop_eq_getElem_cons hl]
  have:b.get! i=b.data.toList[i]:=by
   show b.data[i]! = _
   rw [Array.getElem_toList]
   exact getElem!_pos b.data i hlt
  rw [this];simp
theorem bq_data (b:ByteArray):b.toList=b.data.toList:=by
 unfold ByteArray.toList
 rw [bq_loop b _ 0 [] rfl];simp
theorem bq_inj {a b:ByteArray}(h:a.toList=b.toList):a=b:=by
 rw [bq_data,bq_data] at h
 exact ByteArray.ext (Array.toList_inj.1 h)
theorem isB_eq {σ:PS W}{t:Tok}(ht:σ.tok=some t)(k:Int)(w:ByteArray):(decide (t.kind=k) && (t.text.toList == w.toList))=σ.isB k w:=by
 unfold PS.isB
 rw [ht,Bool.eq_iff_iff]
 simp only [Bool.and_eq_true,decide_eq_true_eq,beq_iff_eq]
 exact⟨fun h=>⟨h.1,bq_inj h.2⟩,fun h=>⟨h.1,by rw [h.2]⟩⟩
theorem isB_none {σ:PS W}(ht:σ.tok=none)(k:Int)(w:ByteArray):σ.isB k w=false:=by
 unfold PS.isB;rw [ht]
theorem rdO_none {σ:PS W}(ht:σ.tok=none):rdO σ.settle=rdQ W σ.at_ σ.settle.bad σ.opn∧foC σ.settle.bad≠0:=by
 constructor
 ·unfold rdO
  unfold PS.settle
  split
  ·rfl
  ·split<;>rfl
 ·cases h:σ.settle.bad with
  |none=>exact absurd h (PS.settle_bad ht)
  |some f=>exact σ.settle.cod f h
theorem rdO_some {σ:PS W}{t:Tok}(ht:σ.tok=some t):rdO σ=rdQ W σ.at_ none σ.opn:=by
 unfold rdO;rw [(PS.tok_at ht).1]
theorem rdO_adv {σ:PS W}{t:Tok}(ht:σ.tok=some t)(hk:t.kind≠0):rdO σ.adv=rdQ W (σ.at_+1) none σ.opn:=by
 obtain⟨h1,h2,h3⟩:=PS.adv_at ht hk
 unfold rdO;rw [h1,h2,h3]
theorem rd_retb {P:Program}{fn:Func}{s:St}{vs:List V}{a a':Nat}{b b':Option Flt}{n n' np t:Nat}{x y:Bool}(hr:fn.results.toList=[.tmp t])(ht:eget s.env t=.con (.bool x))(hb:x=y)(hs:oget s.oh 0=some ⟨11,[rdV W a' b' n'],0,true⟩)(hnp:0 < np)(hv:vs[0]?=some (.ref 0 0 0 0))(he:eget s.env 0=.ref 0 0 0 0) :
  RetG P fn np (rdQ W a b n) vs (rdQ W a' b' n') (.con (.bool y)) .ret s:=rd_ret1 hr ht (by rw [hb];exact .con _) hs hnp hv he
theorem rComes_ok (σ:PS W)(k:Int)(hk:0≤k)(w:ByteArray):OkG Tryz.prog 29 (rdO σ) [] [.ref 0 0 0 0,.con (.int .i8 k),.con (.string w)] (rdO σ.settle) (.con (.bool (σ.isB k w))):=by
 have hlk:=rLook_ok σ
 cases ht:σ.tok with
 |none=>
  rw [isB_none ht]
  rw [ht] at hlk
  rw [(rdO_none ht).1] at hlk ⊢
  unfold rdO at hlk ⊢
  refine okg_of_ev hC0 mix 1 (zO rfl) Tryz.func29 rfl rfl (by kernel_rfl) (by kernel_rfl) (zO rfl) ?wf ?vs ?po ?le ?_
  case wf=>exact rd_wf _ _ _
  case vs=>exact three_vs rfl trivial trivial
  case po=>exact rd_po _ _ _ _ _ _
  case le=>exact rd_le _ _ _ _ _ _
  repeat'(first|(with_reducible first|(refine zz ?_;try intro K hK)|refine zI ?_|refine zt ?_|refine zf ?_)|((first|refine hK _ ?_|refine hK _ _ rfl ?_);clear hK K)|(guard_hyp hK;first|(refine zY ?zz ?_;case zz=>first|exact rfl|exact gJ)|refine fresh_n ?_|refine freshO_n ?_|refine zW ?_|refine zg ([]) (hlk) (rdQ W σ.at_ σ.bad σ.opn) ([]) (rdQ W σ.at_ σ.settle.bad σ.opn) (tokN) ?_|intro b0 hb)|((first|with_reducible refine zm ?_|guard_hyp hK);refine zY ?_ ?_;all_goals(intro hb;(try simp only [sn,sb] at hb);try exact ex0)))
  all_goals exact rd_retb rfl rfl rfl rfl (by decide) rfl rfl
 |some t=>
  rw [ht,PS.settle_some ht] at hlk
  rw [PS.settle_some ht,← isB_eq ht]
  rw [rdO_some ht] at hlk ⊢
  refine okg_of_ev hC0 mix 1 (zO rfl) Tryz.func29 rfl rfl (by kernel_rfl) (by kernel_rfl) (zO rfl) ?wf ?vs ?po ?le ?_
  case wf=>exact rd_wf _ _ _
  case vs=>exact three_vs rfl trivial trivial
  case po=>exact rd_po _ _ _ _ _ _
  case le=>exact rd_le _ _ _ _ _ _
  repeat'(first|(with_reducible first|(refine zz ?_;try intro K hK)|refine zI ?_|refine zt ?_|refine zf ?_)|((first|refine hK _ ?_|refine hK _ _ rfl ?_);clear hK K)|(guard_hyp hK;first|(refine zY ?zz ?_;case zz=>first|exact rfl|exact gJ)|refine fresh_n ?_|refine freshO_n ?_|refine zW ?_|refine zg ([]) (hlk) (rdQ W σ.at_ none σ.opn) ([]) (rdQ W σ.at_ none σ.opn) (vTok t) ?_|intro b0 hb)|((first|with_reducible refine zm ?_|guard_hyp hK);refine zY ?_ ?_;all_goals(intro hb;(try simp only [sn,sb] at hb);try exact ex0)))
  ·exact rd_retb rfl rfl (by rw [decide_eq_true hb,Bool.true_and]) rfl (by decide) rfl rfl
  ·exact rd_retb rfl rfl (by rw [decide_eq_false hb,Bool.false_and]) rfl (by decide) rfl rfl
theorem settle_wrong (σ:PS W)(c:Int)(hc:c≠0):σ.settle.wrong c hc=σ.wrong c hc:=by
 cases ht:σ.tok with
 |some t=>rw [PS.settle_some ht]
 |none=>
  have h1:σ.settle.wrong c hc=σ.settle:=by
   have:=PS.settle_bad ht
   unfold PS.wrong
   cases hb:σ.settle.bad with
   |none=>exact absurd hb this
   |some f=>rfl
  rw [h1]
  unfold PS.settle PS.wrong
  unfold PS.tok at ht
  cases hb:σ.bad with
  |some f=>rfl
  |none=>
   rw [hb] at ht
   have ht2:W.L[σ.at_]?=none:=ht
   simp only [ht2]
theorem wrong_none {σ:PS W}(ht:σ.tok=none)(c:Int)(hc:c≠0):σ.wrong c hc=σ.settle:=by
 rw [← settle_wrong]
 have:=PS.settle_bad ht
 cases hb:σ.settle.bad with
 |none=>exact absurd hb this
 |some f=>unfold PS.wrong;rw [hb]
theorem rWord_ok (σ:PS W)(w:ByteArray)(hL:W.L.length≤1073741824):OkG Tryz.prog 25 (rdO σ) [] [.ref 0 0 0 0,.con (.string w)] (rdO (PS.need 1 w σ)) (.tup []):=by
 have hcm:=rComes_ok σ 1 (by decide) w
 have hfl:=rFail_ok σ.settle 30 (by decide)
 cases hB:σ.isB 1 w with
 |true=>
  obtain⟨t,ht,hk,-⟩:=PS.isB_tok hB
  have hlt:=(PS.tok_at ht).2.2
  rw [show PS.need 1 w σ=σ.adv from if_pos hB,rdO_adv ht (by rw [hk];decide)]
  rw [hB,PS.settle_some ht] at hcm
  rw [rdO_some ht] at hcm ⊢
  refine okg_of_ev hC0 mix 1 (zO rfl) Tryz.func25 rfl rfl (by kernel_rfl) (by kernel_rfl) (zO rfl) ?wf ?vs ?po ?le ?_
  case wf=>exact rd_wf _ _ _
  case vs=>exact two_vs rfl trivial
  case po=>exact rd_po _ _ _ _ _ _
  case le=>exact rd_le _ _ _ _ _ _
  repeat'(first|(with_reducible first|(refine zz ?_;try intro K hK)|refine zI ?_|refine zt ?_|refine zf ?_)|((first|refine hK _ ?_|refine hK _ _ rfl ?_);clear hK K)|(guard_hyp hK;first|(refine zY ?zz ?_;case zz=>first|exact rfl|exact gJ)|refine fresh_n ?_|refine freshO_n ?_|refine zW ?_|refine zg ([]) (hcm) (rdQ W σ.at_ none σ.opn) ([]) (rdQ W σ.at_ none σ.opn) (.con (.bool true)) ?_|intro b0 hb)|((first|with_reducible refine zm ?_|guard_hyp hK);refine zY ?_ ?_;all_goals(intro hb;(try simp only [sn,sb] at hb);try exact ex0)))
  all_goals exact rd_ret0 trivial rfl rfl (by decide) rfl rfl
 |false=>
  rw [show PS.need 1 w σ=σ.wrong 30 from if_neg (by rw [hB];exact Bool.false_ne_true)]
  rw [settle_wrong] at hfl
  rw [hB] at hcm
  unfold rdO at hcm hfl ⊢
  refine okg_of_ev hC0 mix 1 (zO rfl) Tryz.func25 rfl rfl (by kernel_rfl) (by kernel_rfl) (zO rfl) ?wf ?vs ?po ?le ?_
  case wf=>exact rd_wf _ _ _
  case vs=>exact two_vs rfl trivial
  case po=>exact rd_po _ _ _ _ _ _
  case le=>exact rd_le _ _ _ _ _ _
  repeat'(first|(with_reducible first|(refine zz ?_;try intro K hK)|refine zI ?_|refine zt ?_|refine zf ?_)|((first|refine hK _ ?_|refine hK _ _ rfl ?_);clear hK K)|(guard_hyp hK;first|(refine zY ?zz ?_;case zz=>first|exact rfl|exact gJ)|refine fresh_n ?_|refine freshO_n ?_|refine zW ?_|refine zg ([]) (hcm) (rdQ W σ.at_ σ.bad σ.opn) ([]) (rdQ W σ.settle.at_ σ.settle.bad σ.settle.opn) (.con (.bool false)) ?_|refine zg ([]) (hfl) (rdQ W σ.settle.at_ σ.settle.bad σ.settle.opn) ([]) (rdQ W (σ.wrong 30).at_ (σ.wrong 30).bad (σ.wrong 30).opn) (.tup []) ?_|intro b0 hb)|((first|with_reducible refine zm ?_|guard_hyp hK);refine zY ?_ ?_;all_goals(intro hb;(try simp only [sn,sb] at hb);try exact ex0)))
  all_goals exact rd_ret0 trivial rfl rfl (by decide) rfl rfl
theorem rSign_ok (σ:PS W)(w:ByteArray)(hL:W.L.length≤1073741824):OkG Tryz.prog 27 (rdO σ) [] [.ref 0 0 0 0,.con (.string w)] (rdO (PS.need 4 w σ)) (.tup []):=by
 have hcm:=rComes_ok σ 4 (by decide) w
 have hfl:=rFail_ok σ.settle 30 (by decide)
 cases hB:σ.isB 4 w with
 |true=>
  obtain⟨t,ht,hk,-⟩:=PS.isB_tok hB
  have hlt:=(PS.tok_at ht).2.2
  rw [show PS.need 4 w σ=σ.adv from if_pos hB,rdO_adv ht (by rw [hk];decide)]
  rw [hB,PS.settle_some ht] at hcm
  rw [rdO_some ht] at hcm ⊢
  refine okg_of_ev hC0 mix 1 (zO rfl) Tryz.func27 rfl rfl (by kernel_rfl) (by kernel_rfl) (zO rfl) ?wf ?vs ?po ?le ?_
  case wf=>exact rd_wf _ _ _
  case vs=>exact two_vs rfl trivial
  case po=>exact rd_po _ _ _ _ _ _
  case le=>exact rd_le _ _ _ _ _ _
  repeat'(first|(with_reducible first|(refine zz ?_;try intro K hK)|refine zI ?_|refine zt ?_|refine zf ?_)|((first|refine hK _ ?_|refine hK _ _ rfl ?_);clear hK K)|(guard_hyp hK;first|(refine zY ?zz ?_;case zz=>first|exact rfl|exact gJ)|refine fresh_n ?_|refine freshO_n ?_|refine zW ?_|refine zg ([]) (hcm) (rdQ W σ.at_ none σ.opn) ([]) (rdQ W σ.at_ none σ.opn) (.con (.bool true)) ?_|intro b0 hb)|((first|with_reducible refine zm ?_|guard_hyp hK);refine zY ?_ ?_;all_goals(intro hb;(try simp only [sn,sb] at hb);try exact ex0)))
  all_goals exact rd_ret0 trivial rfl rfl (by decide) rfl rfl
 |false=>
  rw [show PS.need 4 w σ=σ.wrong 30 from if_neg (by rw [hB];exact Bool.false_ne_true)]
  rw [settle_wrong] at hfl
  rw [hB] at hcm
  unfold rdO at hcm hfl ⊢
  refine okg_of_ev hC0 mix 1 (zO rfl) Tryz.func27 rfl rfl (by kernel_rfl) (by kernel_rfl) (zO rfl) ?wf ?vs ?po ?le ?_
  case wf=>exact rd_wf _ _ _
  case vs=>exact two_vs rfl trivial
  case po=>exact rd_po _ _ _ _ _ _
  case le=>exact rd_le _ _ _ _ _ _
  repeat'(first|(with_reducible first|(refine zz ?_;try intro K hK)|refine zI ?_|refine zt ?_|refine zf ?_)|((first|refine hK _ ?_|refine hK _ _ rfl ?_);clear hK K)|(guard_hyp hK;first|(refine zY ?zz ?_;case zz=>first|exact rfl|exact gJ)|refine fresh_n ?_|refine freshO_n ?_|refine zW ?_|refine zg ([]) (hcm) (rdQ W σ.at_ σ.bad σ.opn) ([]) (rdQ W σ.settle.at_ σ.settle.bad σ.settle.opn) (.con (.bool false)) ?_|refine zg ([]) (hfl) (rdQ W σ.settle.at_ σ.settle.bad σ.settle.opn) ([]) (rdQ W (σ.wrong 30).at_ (σ.wrong 30).bad (σ.wrong 30).opn) (.tup []) ?_|intro b0 hb)|((first|with_reducible refine zm ?_|guard_hyp hK);refine zY ?_ ?_;all_goals(intro hb;(try simp only [sn,sb] at hb);try exact ex0)))
  all_goals exact rd_ret0 trivial rfl rfl (by decide) rfl rfl
theorem rText_ok (σ:PS W)(k:Int)(hk:0 < k)(hL:W.L.length≤1073741824):OkG Tryz.prog 26 (rdO σ) [] [.ref 0 0 0 0,.con (.int .i8 k)] (rdO (PS.take k σ).2) (.con (.string (PS.take k σ).1)):=by
 have hlk:=rLook_ok σ
 have hfl:=rFail_ok σ.settle 30 (by decide)
 rw [settle_wrong] at hfl
 cases ht:σ.tok with
 |none=>
  rw [wrong_none ht] at hfl
  rw [ht] at hlk
  rw [show PS.take k σ=(eS,σ.settle) from by unfold PS.take;rw [ht];rfl]
  unfold rdO at hlk hfl ⊢
  refine okg_of_ev hC0 mix 1 (zO rfl) Tryz.func26 rfl rfl (by kernel_rfl) (by kernel_rfl) (zO rfl) ?wf ?vs ?po ?le ?_
  case wf=>exact rd_wf _ _ _
  case vs=>exact two_vs rfl trivial
  case po=>exact rd_po _ _ _ _ _ _
  case le=>exact rd_le _ _ _ _ _ _
  repeat'(first|(with_reducible first|(refine zz ?_;try intro K hK)|refine zI ?_|refine zt ?_|refine zf ?_)|((first|refine hK _ ?_|refine hK _ _ rfl ?_);clear hK K)|(guard_hyp hK;first|(refine zY ?zz ?_;case zz=>first|exact rfl|exact gJ)|refine fresh_n ?_|refine freshO_n ?_|refine zW ?_|refine zg ([]) (hlk) (rdQ W σ.at_ σ.bad σ.opn) ([]) (rdQ W σ.settle.at_ σ.settle.bad σ.settle.opn) (tokN) ?_|refine zg ([]) (hfl) (rdQ W σ.settle.at_ σ.settle.bad σ.settle.opn) ([]) (rdQ W σ.settle.at_ σ.settle.bad σ.settle.opn) (.tup []) ?_|intro b0 hb)|((first|with_reducible refine zm ?_|guard_hyp hK);refine zY ?_ ?_;all_goals(intro hb;(try simp only [sn,sb] at hb);try exact ex0)))
  all_goals exact rd_ret1 rfl rfl (BmC.con _) rfl (by decide) rfl rfl
 |some t=>
  have hlt:=(PS.tok_at ht).2.2
  rw [ht,PS.settle_some ht] at hlk
  rw [PS.settle_some ht] at hfl
  by_cases hkk:t.kind=k
  ·rw [show PS.take k σ=(t.text,σ.adv) from by unfold PS.take;rw [ht];exact if_pos hkk,rdO_adv ht (by rw [hkk];omega)]
   rw [rdO_some ht] at hlk ⊢
   refine okg_of_ev hC0 mix 1 (zO rfl) Tryz.func26 rfl rfl (by kernel_rfl) (by kernel_rfl) (zO rfl) ?wf ?vs ?po ?le ?_
   case wf=>exact rd_wf _ _ _
   case vs=>exact two_vs rfl trivial
   case po=>exact rd_po _ _ _ _ _ _
   case le=>exact rd_le _ _ _ _ _ _
   repeat'(first|(with_reducible first|(refine zz ?_;try intro K hK)|refine zI ?_|refine zt ?_|refine zf ?_)|((first|refine hK _ ?_|refine hK _ _ rfl ?_);clear hK K)|(guard_hyp hK;first|(refine zY ?zz ?_;case zz=>first|exact rfl|exact gJ)|refine fresh_n ?_|refine freshO_n ?_|refine zW ?_|refine zg ([]) (hlk) (rdQ W σ.at_ none σ.opn) ([]) (rdQ W σ.at_ none σ.opn) (vTok t) ?_|intro b0 hb)|((first|with_reducible refine zm ?_|guard_hyp hK);refine zY ?_ ?_;all_goals(intro hb;(try simp only [sn,sb] at hb);try exact ex0)))
   all_goals exact rd_ret1 rfl rfl (BmC.con _) rfl (by decide) rfl rfl
  ·rw [show PS.take k σ=(eS,σ.wrong 30) from by unfold PS.take;rw [ht];exact if_neg hkk]
   unfold rdO at hlk hfl ⊢
   refine okg_of_ev hC0 mix 1 (zO rfl) Tryz.func26 rfl rfl (by kernel_rfl) (by kernel_rfl) (zO rfl) ?wf ?vs ?po ?le ?_
   case wf=>exact rd_wf _ _ _
   case vs=>exact two_vs rfl trivial
   case po=>exact rd_po _ _ _ _ _ _
   case le=>exact rd_le _ _ _ _ _ _
   repeat'(first|(with_reducible first|(refine zz ?_;try intro K hK)|refine zI ?_|refine zt ?_|refine zf ?_)|((first|refine hK _ ?_|refine hK _ _ rfl ?_);clear hK K)|(guard_hyp hK;first|(refine zY ?zz ?_;case zz=>first|exact rfl|exact gJ)|refine fresh_n ?_|refine freshO_n ?_|refine zW ?_|refine zg ([]) (hlk) (rdQ W σ.at_ σ.bad σ.opn) ([]) (rdQ W σ.at_ σ.bad σ.opn) (vTok t) ?_|refine zg ([]) (hfl) (rdQ W σ.at_ σ.bad σ.opn) ([]) (rdQ W (σ.wrong 30).at_ (σ.wrong 30).bad (σ.wrong 30).opn) (.tup []) ?_|intro b0 hb)|((first|with_reducible refine zm ?_|guard_hyp hK);refine zY ?_ ?_;all_goals(intro hb;(try simp only [sn,sb] at hb);try exact ex0)))
   all_goals exact rd_ret1 rfl rfl (BmC.con _) rfl (by decide) rfl rfl
theorem rEnd_ok (σ:PS W):OkG Tryz.prog 17 (rdO σ) [] [.ref 0 0 0 0] (rdO (PS.fin σ)) (.tup []):=by
 have hlk:=rLook_ok σ
 have hfl:=rFail_ok σ.settle 30 (by decide)
 rw [settle_wrong] at hfl
 cases ht:σ.tok with
 |none=>
  rw [wrong_none ht] at hfl
  rw [ht] at hlk
  rw [show PS.fin σ=σ.settle from by unfold PS.fin;rw [ht]]
  unfold rdO at hlk hfl ⊢
  refine okg_of_ev hC0 mix 1 (zO rfl) Tryz.func17 rfl rfl (by kernel_rfl) (by kernel_rfl) (zO rfl) ?wf ?vs ?po ?le ?_
  case wf=>exact rd_wf _ _ _
  case vs=>exact one_vs rfl
  case po=>exact rd_po _ _ _ _ _ _
  case le=>exact rd_le _ _ _ _ _ _
  repeat'(first|(with_reducible first|(refine zz ?_;try intro K hK)|refine zI ?_|refine zt ?_|refine zf ?_)|((first|refine hK _ ?_|refine hK _ _ rfl ?_);clear hK K)|(guard_hyp hK;first|(refine zY ?zz ?_;case zz=>first|exact rfl|exact gJ)|refine fresh_n ?_|refine freshO_n ?_|refine zW ?_|refine zg ([]) (hlk) (rdQ W σ.at_ σ.bad σ.opn) ([]) (rdQ W σ.settle.at_ σ.settle.bad σ.settle.opn) (tokN) ?_|refine zg ([]) (hfl) (rdQ W σ.settle.at_ σ.settle.bad σ.settle.opn) ([]) (rdQ W σ.settle.at_ σ.settle.bad σ.settle.opn) (.tup []) ?_|intro b0 hb)|((first|with_reducible refine zm ?_|guard_hyp hK);refine zY ?_ ?_;all_goals(intro hb;(try simp only [sn,sb] at hb);try exact ex0)))
  all_goals exact rd_ret0 trivial rfl rfl (by decide) rfl rfl
 |some t=>
  have hlt:=(PS.tok_at ht).2.2
  rw [ht,PS.settle_some ht] at hlk
  rw [PS.settle_some ht] at hfl
  by_cases hkk:t.kind=0
  ·rw [show PS.fin σ=σ from by unfold PS.fin;rw [ht];exact if_pos hkk]
   unfold rdO at hlk ⊢
   refine okg_of_ev hC0 mix 1 (zO rfl) Tryz.func17 rfl rfl (by kernel_rfl) (by kernel_rfl) (zO rfl) ?wf ?vs ?po ?le ?_
   case wf=>exact rd_wf _ _ _
   case vs=>exact one_vs rfl
   case po=>exact rd_po _ _ _ _ _ _
   case le=>exact rd_le _ _ _ _ _ _
   repeat'(first|(with_reducible first|(refine zz ?_;try intro K hK)|refine zI ?_|refine zt ?_|refine zf ?_)|((first|refine hK _ ?_|refine hK _ _ rfl ?_);clear hK K)|(guard_hyp hK;first|(refine zY ?zz ?_;case zz=>first|exact rfl|exact gJ)|refine fresh_n ?_|refine freshO_n ?_|refine zW ?_|refine zg ([]) (hlk) (rdQ W σ.at_ σ.bad σ.opn) ([]) (rdQ W σ.at_ σ.bad σ.opn) (vTok t) ?_|intro b0 hb)|((first|with_reducible refine zm ?_|guard_hyp hK);refine zY ?_ ?_;all_goals(intro hb;(try simp only [sn,sb] at hb);try exact ex0)))
   all_goals exact rd_ret0 trivial rfl rfl (by decide) rfl rfl
  ·rw [show PS.fin σ=σ.wrong 30 from by unfold PS.fin;rw [ht];exact if_neg hkk]
   unfold rdO at hlk hfl ⊢
   refine okg_of_ev hC0 mix 1 (zO rfl) Tryz.func17 rfl rfl (by kernel_rfl) (by kernel_rfl) (zO rfl) ?wf ?vs ?po ?le ?_
   case wf=>exact rd_wf _ _ _
   case vs=>exact one_vs rfl
   case po=>exact rd_po _ _ _ _ _ _
   case le=>exact rd_le _ _ _ _ _ _
   repeat'(first|(with_reducible first|(refine zz ?_;try intro K hK)|refine zI ?_|refine zt ?_|refine zf ?_)|((first|refine hK _ ?_|refine hK _ _ rfl ?_);clear hK K)|(guard_hyp hK;first|(refine zY ?zz ?_;case zz=>first|exact rfl|exact gJ)|refine fresh_n ?_|refine freshO_n ?_|refine zW ?_|refine zg ([]) (hlk) (rdQ W σ.at_ σ.bad σ.opn) ([]) (rdQ W σ.at_ σ.bad σ.opn) (vTok t) ?_|refine zg ([]) (hfl) (rdQ W σ.at_ σ.bad σ.opn) ([]) (rdQ W (σ.wrong 30).at_ (σ.wrong 30).bad (σ.wrong 30).opn) (.tup []) ?_|intro b0 hb)|((first|with_reducible refine zm ?_|guard_hyp hK);refine zY ?_ ?_;all_goals(intro hb;(try simp only [sn,sb] at hb);try exact ex0)))
   all_goals exact rd_ret0 trivial rfl rfl (by decide) rfl rfl
end Go.Ev
