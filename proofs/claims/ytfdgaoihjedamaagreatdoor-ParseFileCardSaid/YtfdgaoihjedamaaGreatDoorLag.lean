import Derived.Test.YtfdgaoihjedamaaGreatDoorLaf
set_option linter.all false
set_option maxHeartbeats 4000000
set_option maxRecDepth 10000
namespace Go.Ev
open Go.Proofs
theorem mix : Tryz.prog.follows .mixedOrders=true:=by kernel_rfl
theorem wrapI {a:Int}(h0 : -9223372036854775808≤a)(h1:a≤9223372036854775807):a=IntKind.i64.wrap a:=by rw [IntKind.wrap_i64];omega
theorem wrapU64 {a:Int}(h0:0≤a)(h1:a < 18446744073709551616):a=IntKind.u64.wrap a:=by
 simp [IntKind.wrap,IntKind.bits,IntKind.signed];omega
def kmin : IntKind→Int
 |.i8=>-128 | .i16=>-32768 | .i32=>-2147483648 | .i64=>-9223372036854775808 | _=>0
def kmax : IntKind→Int
 |.i8=>127 | .i16=>32767 | .i32=>2147483647 | .i64=>9223372036854775807 | .u8=>255 | .u16=>65535 | .u32=>4294967295 | .u64=>18446744073709551615
theorem wrapAny {k:IntKind}{a:Int}(h0:kmin k≤a)(h1:a≤kmax k):a=k.wrap a:=by
 cases k<;>simp only [kmin,kmax] at h0 h1<;>simp [IntKind.wrap,IntKind.bits,IntKind.signed]<;>omega
theorem wA {k:IntKind}{a:Int}(h0:kmin k≤a:=by first|(simp only [kmin,kmax];omega)|(simp only [kmin,kmax,ln];omega))(h1:a≤kmax k:=by first|(simp only [kmin,kmax];omega)|(simp only [kmin,kmax,ln];omega)):a=k.wrap a:=wrapAny h0 h1
theorem zW {α:Type}{p q:α→Prop}{w:α}(k:q w)(h:p w:=by first|exact wA|exact rfl):∃r,p r∧q r:=⟨w,h,k⟩
def tu32 (x:UInt32):T:=.con (.int .u32 x.toNat)
def cu (x:UInt32):V:=.con (.int .u32 x.toNat)
def tn (l:List UInt32):T:=.sl (l.map tu32)
theorem trim_ok (l:List UInt32)(hl:l.length≤140737488355328):Ok Tryz.prog 116 [.sl (l.map tu32)] false (.sl ((norm l).map tu32)):=by
 refine ok_of_ev hC0 mix Tryz.func116 rfl rfl (by kernel_rfl) (zO rfl) ?_
 repeat'(first|(with_reducible first|(refine zz ?_;try intro K hK)|refine zI ?_|refine zt ?_|refine zf ?_)|((first|refine hK _ ?_|refine hK _ _ rfl ?_);clear hK K)|(guard_hyp hK;first|(refine zY ?zz ?_;case zz=>first|exact rfl|exact gI)|refine fresh_n ?_|refine freshO_n ?_|(refine at_Q ?_;intro hu)|refine zP wA ?_|(refine mul_Q ?_;intro hm1 hm2)|refine zP at_M ?_|refine zP rfl ?_|intro b0 hb)|((first|with_reducible refine zm ?_|guard_hyp hK);refine zY ?_ ?_;all_goals(intro hb;(try simp only [sb] at hb);try exact ex0)))
 refine loop_i (List UInt32) (fun l'=>⟨21,[(0,.ro false (.sl (l'.map tu32)))],[]⟩) (fun l'=>norm l'=norm l∧l'.length≤l.length) (fun l'=>l'.length) [] l trivial ⟨rfl,Nat.le_refl _⟩ ⟨rfl,⟨rfl,trivial,trivial⟩,trivial,trivial⟩ ?_
 rintro l' ⟨hl',hle⟩
 repeat'(first|(with_reducible first|(refine zz ?_;try intro K hK)|refine zI ?_|refine zt ?_|refine zf ?_)|((first|refine hK _ ?_|refine hK _ _ rfl ?_);clear hK K)|(guard_hyp hK;first|(refine zY ?zz ?_;case zz=>first|exact rfl|exact gI)|refine fresh_n ?_|refine freshO_n ?_|(refine at_Q ?_;intro hu)|refine zP wA ?_|(refine mul_Q ?_;intro hm1 hm2)|refine zP at_M ?_|refine zP rfl ?_|intro b0 hb)|((first|with_reducible refine zm ?_|guard_hyp hK);refine zY ?_ ?_;all_goals(intro hb;(try simp only [sb] at hb);try exact ex0)))
 ·rename_i h0
  have e:(↑l'.length - 1:Int).toNat=l'.length - 1:=by omega
  rw [e] at hb
  have hb:=norm_drop (UInt32.toNat_inj.mp (Int.ofNat.inj hb))
  refine⟨l'.take (l'.length - 1),⟨hb.trans hl',by simp;omega⟩,by simp;omega,rfl,⟨?_,trivial,trivial⟩,trivial,trivial⟩
  refine congrArg (fun x=>V.ro false (.sl x)) ?_
  simp [List.map_take]
  try congr 1
  try omega
 ·rename_i h0
  refine And.intro trivial (fz_ro (congrArg T.sl (congrArg _ ?_)) fun h=>h)
  have e:(↑l'.length - 1:Int).toNat=l'.length - 1:=by omega
  rw [e] at hb
  rw [← hl',norm_last fun h=>hb (congrArg (fun x:UInt32=>Int.ofNat x.toNat) h)]
 ·refine And.intro trivial (fz_ro (congrArg T.sl (congrArg _ ?_)) fun h=>h)
  have:l'=[]:=List.eq_nil_of_length_eq_zero (by omega)
  subst this;rw [← hl'];rfl
theorem clone_ok (l:List UInt32)(hl:l.length≤2199023255552):Ok Tryz.prog 117 [tn l] true (tn l):=by
 refine ok_of_ev hC0 mix Tryz.func117 rfl rfl (by kernel_rfl) (zO rfl) ?_
 repeat'(first|(with_reducible first|(refine zz ?_;try intro K hK)|refine zI ?_|refine zt ?_|refine zf ?_)|((first|refine hK _ ?_|refine hK _ _ rfl ?_);clear hK K)|(guard_hyp hK;first|(refine zY ?zz ?_;case zz=>first|exact rfl|exact gI)|refine fresh_n ?_|refine freshO_n ?_|(refine at_Q ?_;intro hu)|refine zP wA ?_|(refine mul_Q ?_;intro hm1 hm2)|refine zP at_M ?_|refine zP rfl ?_|intro b0 hb)|((first|with_reducible refine zm ?_|guard_hyp hK);refine zY ?_ ?_;all_goals(intro hb;(try simp only [sb] at hb);try exact ex0)))
 ·rename_i h
  refine And.intro trivial (fz_emp ?_)
  simpa [tn] using (h hb).symm
 ·refine And.intro trivial (fz_own (l:=l) (F:=fun x=>V.con (.int .u32 x.toNat)) (G:=tu32) rfl rfl rfl ?_ ?_ (fun a _=>fze_con _) rfl)
  ·simp
  ·show List.take _ (List.drop 0 (List.take 0 [] ++ _))=_
   simp [Function.comp_def,tu32,V.ofA,V.ofT1,List.take_of_length_le]
theorem own_ok (l:List UInt32)(hl:l.length≤2199023255552):Ok Tryz.prog 98 [tn l] true (tn (norm l)):=by
 refine ok_of_ev hC0 mix Tryz.func98 rfl rfl (by kernel_rfl) (zO rfl) ?_
 have hn:=norm_le l
 repeat'(first|(with_reducible first|(refine zz ?_;try intro K hK)|refine zI ?_|refine zt ?_|refine zf ?_)|((first|refine hK _ ?_|refine hK _ _ rfl ?_);clear hK K)|(guard_hyp hK;first|(refine zY ?zz ?_;case zz=>first|exact rfl|exact gI)|refine fresh_n ?_|refine freshO_n ?_|(refine at_Q ?_;intro hu)|refine zP wA ?_|(refine mul_Q ?_;intro hm1 hm2)|refine zP at_M ?_|refine zP rfl ?_|(refine zQ (trim_ok l (by omega)) ?_)|(refine zQ (clone_ok (norm l) (by omega)) ?_)|intro b0 hb)|((first|with_reducible refine zm ?_|guard_hyp hK);refine zY ?_ ?_;all_goals(intro hb;(try simp only [sb] at hb);try exact ex0)))
 ·refine And.intro trivial (fz_emp ?_)
  have:norm l=[]:=List.eq_nil_of_length_eq_zero (by omega)
  rw [this];rfl
 ·refine And.intro trivial (fz_ro rfl fun h=>h)
theorem Norm_ok (l:List UInt32)(hl:l.length≤2199023255552):Ok Tryz.prog 169 [tn l] true (tn (norm l)):=by
 refine ok_of_ev hC0 mix Tryz.func169 rfl rfl (by kernel_rfl) (zO rfl) ?_
 repeat'(first|(with_reducible first|(refine zz ?_;try intro K hK)|refine zI ?_|refine zt ?_|refine zf ?_)|((first|refine hK _ ?_|refine hK _ _ rfl ?_);clear hK K)|(guard_hyp hK;first|(refine zY ?zz ?_;case zz=>first|exact rfl|exact gI)|refine fresh_n ?_|refine freshO_n ?_|(refine at_Q ?_;intro hu)|refine zP wA ?_|(refine mul_Q ?_;intro hm1 hm2)|refine zP at_M ?_|refine zP rfl ?_|(refine zQ (own_ok l hl) ?_)|intro b0 hb)|((first|with_reducible refine zm ?_|guard_hyp hK);refine zY ?_ ?_;all_goals(intro hb;(try simp only [sb] at hb);try exact ex0)))
 ·refine And.intro trivial (fz_ro rfl fun h=>h)
theorem Of_ok (u:UInt64):Ok Tryz.prog 112 [.con (.int .u64 u.toNat)] true (tn (norm [u.toUInt32,(u >>> 32).toUInt32])):=by
 refine ok_of_ev hC0 mix Tryz.func112 rfl rfl (by kernel_rfl) (zO rfl) ?_
 repeat'(first|(with_reducible first|(refine zz ?_;try intro K hK)|refine zI ?_|refine zt ?_|refine zf ?_)|((first|refine hK _ ?_|refine hK _ _ rfl ?_);clear hK K)|(guard_hyp hK;first|(refine zY ?zz ?_;case zz=>first|exact rfl|exact gI)|refine fresh_n ?_|refine freshO_n ?_|(refine at_Q ?_;intro hu)|refine zP wA ?_|(refine mul_Q ?_;intro hm1 hm2)|refine zP at_M ?_|refine zP rfl ?_|intro b0 hb)|((first|with_reducible refine zm ?_|guard_hyp hK);refine zY ?_ ?_;all_goals(intro hb;(try simp only [sb] at hb);try exact ex0)))
 refine Or.inl (Exists.intro _ (Exists.intro _ (Exists.intro _ (And.intro (own_ok [u.toUInt32,(u >>> 32).toUInt32] (by simp)) (Exists.intro [(0,?o)] (And.intro (lpre1 ?ho) (And.intro ?z (And.intro rfl ?_))))))))
 case ho=>exact rfl
 case z=>
  refine fzl1 (fz_own (l:=[u.toUInt32,(u >>> 32).toUInt32]) (F:=fun x=>V.con (.int .u32 x.toNat)) (G:=tu32) rfl rfl rfl rfl ?_ (fun a _=>fze_con _) rfl)
  have e1:IntKind.u32.wrap u.toNat=u.toUInt32.toNat:=by simp [IntKind.wrap,IntKind.bits,IntKind.signed]
  have e2:IntKind.u32.wrap ((u.toNat:Int).fdiv (2 ^ 32))=((u >>> 32).toUInt32).toNat:=by
   simp [IntKind.wrap,IntKind.bits,IntKind.signed,Int.fdiv_eq_ediv,Nat.shiftRight_eq_div_pow]
  show [V.con (.int .u32 (IntKind.u32.wrap u.toNat)),V.con (.int .u32 (IntKind.u32.wrap ((u.toNat:Int).fdiv (2 ^ 32))))]=_
  rw [e1,e2];rfl
 repeat'(first|(with_reducible first|(refine zz ?_;try intro K hK)|refine zI ?_|refine zt ?_|refine zf ?_)|((first|refine hK _ ?_|refine hK _ _ rfl ?_);clear hK K)|(guard_hyp hK;first|(refine zY ?zz ?_;case zz=>first|exact rfl|exact gI)|refine fresh_n ?_|refine freshO_n ?_|(refine at_Q ?_;intro hu)|refine zP wA ?_|(refine mul_Q ?_;intro hm1 hm2)|refine zP at_M ?_|refine zP rfl ?_|intro b0 hb)|((first|with_reducible refine zm ?_|guard_hyp hK);refine zY ?_ ?_;all_goals(intro hb;(try simp only [sb] at hb);try exact ex0)))
 ·exact And.intro trivial (fz_ro rfl fun h=>h)
theorem Cmp_ok (a b:List UInt32)(ha:a.length≤2199023255552)(hb:b.length≤2199023255552):Ok Tryz.prog 161 [tn a,tn b] false (.con (.int .i64 (cmpN (val a) (val b)))):=by
 refine ok_of_ev hC0 mix Tryz.func161 rfl rfl (by kernel_rfl) (zO rfl) ?_
 have hna:=norm_le a
 have hnb:=norm_le b
 repeat'(first|(with_reducible first|(refine zz ?_;try intro K hK)|refine zI ?_|refine zt ?_|refine zf ?_)|((first|refine hK _ ?_|refine hK _ _ rfl ?_);clear hK K)|(guard_hyp hK;first|(refine zY ?zz ?_;case zz=>first|exact rfl|exact gI)|refine fresh_n ?_|refine freshO_n ?_|(refine at_Q ?_;intro hu)|refine zP wA ?_|(refine mul_Q ?_;intro hm1 hm2)|refine zP at_M ?_|refine zP rfl ?_|(refine zQ (trim_ok a (by omega)) ?_)|(refine zQ (trim_ok b (by omega)) ?_)|intro b0 hb)|((first|with_reducible refine zm ?_|guard_hyp hK);refine zY ?_ ?_;all_goals(intro hb;(try simp only [sb] at hb);try exact ex0)))
 ·exact And.intro trivial (fz_con (by rw [← val_norm a,← val_norm b,cmpN_lt (can_len_lt (can_norm b) (by omega))]))
 ·exact And.intro trivial (fz_con (by rw [← val_norm a,← val_norm b,cmpN_gt (can_len_lt (can_norm a) (by omega))]))
 rw [← val_norm a,← val_norm b]
 have hl:(norm a).length=(norm b).length:=by omega
 have hx:(norm a).length≤2199023255552:=by omega
 clear hna hnb hb
 generalize norm a=x at *
 generalize norm b=y at *
 refine loop_i Int (fun i=>⟨Tryz.f161.ntmps,[(0,.ro false (tn x)),(1,.ro false (tn y)),(5,.con (.int .i64 i))],[]⟩) (fun i=>-1≤i∧i < x.length∧x.drop (i+1).toNat=y.drop (i+1).toNat) (fun i=>(i+1).toNat) [] (x.length - 1:Int) trivial ⟨by omega,by omega,?_⟩ ⟨rfl,⟨rfl,trivial,rfl,trivial,?_,trivial,trivial⟩,trivial,trivial⟩ ?_
 ·have e:(↑x.length - 1+1:Int).toNat=x.length:=by omega
  rw [e,List.drop_eq_nil_of_le (Nat.le_refl _),List.drop_eq_nil_of_le (by omega)]
 ·show V.con (.int .i64 (((x.map tu32).length:Int) - 1))=_;rw [List.length_map]
 rintro i ⟨h0,h1,h2⟩
 repeat'(first|(with_reducible first|(refine zz ?_;try intro K hK)|refine zI ?_|refine zt ?_|refine zf ?_)|((first|refine hK _ ?_|refine hK _ _ rfl ?_);clear hK K)|(guard_hyp hK;first|(refine zY ?zz ?_;case zz=>first|exact rfl|exact gI)|refine fresh_n ?_|refine freshO_n ?_|(refine at_Q ?_;intro hu)|refine zP wA ?_|(refine mul_Q ?_;intro hm1 hm2)|refine zP at_M ?_|refine zP rfl ?_|intro b0 hb)|((first|with_reducible refine zm ?_|guard_hyp hK);refine zY ?_ ?_;all_goals(intro hb;(try simp only [sb] at hb);try exact ex0)))
 ·have e:i.toNat+1=(i+1).toNat:=by omega
  exact And.intro trivial (fz_con (by rw [cmpN_lt (val_top i.toNat x y hl (by omega) (by rw [e];exact h2) (by omega))]))
 ·have e:i.toNat+1=(i+1).toNat:=by omega
  exact And.intro trivial (fz_con (by rw [cmpN_gt (val_top i.toNat y x hl.symm (by omega) (by rw [e];exact h2.symm) (by omega))]))
 ·have e:i.toNat+1=(i+1).toNat:=by omega
  refine⟨i - 1,⟨by omega,by omega,?_⟩,by omega,rfl,⟨rfl,trivial,rfl,trivial,rfl,trivial,trivial⟩,trivial,trivial⟩
  rw [show i - 1+1=i by omega]
  exact drop_eq_step hl (by omega) (by rw [e];exact h2) (by omega)
 ·rw [show(i+1).toNat=0 by omega] at h2
  have h2:x=y:=h2
  subst h2
  exact And.intro trivial (fz_con (by rw [cmpN_eq]))
def renE (m:Nat→Nat)(oh oh1:OH)(el el1:List V):Prop:=∀(k:Nat) (e e1:V),el[k]?=some e→el1[k]?=some e1→RenA m oh oh1 e e1
def renObjs (m:Nat→Nat)(oh oh1:OH):OH→Prop
 | []=>True
 |(i,o1) :: r=>(∃o,oget oh (m i)=some o∧o.live=true∧o1.live=true∧o1.ver=0∧o1.sz=o.sz∧o1.el.length=o.el.length∧renE m oh oh1 o.el o1.el)∧renObjs m oh oh1 r
theorem ren_of {oh oh1:OH}{m:Nat→Nat}(hi:∀i ∈ oh1.map (·.1),∀j ∈ oh1.map (·.1),m i=m j→i=j)(h:renObjs m oh oh1 oh1):Ren oh oh1 m:=by
 have key:∀(l:OH),renObjs m oh oh1 l→∀i o1,oget l i=some o1→∃o,oget oh (m i)=some o∧o.live=true∧o1.live=true∧o1.ver=0∧o1.sz=o.sz∧o1.el.length=o.el.length∧renE m oh oh1 o.el o1.el:=by
  intro l
  induction l with
  |nil=>intro _ i o1 h;cases h
  |cons p r ih=>
   obtain⟨j,x⟩:=p
   intro hl i o1 ho
   by_cases e:j=i
   ·subst e
    rw [oget_cons_same] at ho
    obtain rfl:x=o1:=by simpa using ho
    exact hl.1
   ·rw [oget_cons_other _ _ (Ne.symm e)] at ho
    exact ih hl.2 i o1 ho
 exact⟨fun i j o1 o2 h1 h2 e=>hi i (oget_memF h1) j (oget_memF h2) e,fun i o1 ho=>key oh1 h i o1 ho⟩
def lrEnv (m:Nat→Nat)(oh oh1:OH)(e:Env):Env→Prop
 | []=>True
 |(t,v) :: r=>RenA m oh oh1 (eget e t) v∧lrEnv m oh oh1 e r
theorem lrEnv_ok {m:Nat→Nat}{oh oh1:OH}{e:Env}:∀{e1:Env},lrEnv m oh oh1 e e1→∀t,eget e1 t=.undef∨RenA m oh oh1 (eget e t) (eget e1 t)
 | [],_,t=>.inl rfl
 |(k,v) :: r,h,t=>by
  by_cases e:k=t
  ·subst e;rw [show eget ((k,v) :: r) k=v by simp [eget]];exact .inr h.1
  ·rw [show eget ((k,v) :: r) t=eget r t by simp [eget,e]];exact lrEnv_ok h.2 t
theorem lr_of {n:Nat}{e e1:Env}{oh oh1:OH}(m:Nat→Nat)(hi:∀i ∈ oh1.map (·.1),∀j ∈ oh1.map (·.1),m i=m j→i=j)(ho:renObjs m oh oh1 oh1)(he:lrEnv m oh oh1 e e1):Lr ⟨n,e1,oh1⟩ ⟨n,e,oh⟩:=
 ⟨rfl,m,ren_of hi ho,lrEnv_ok he⟩
theorem renE_one {m:Nat→Nat}{oh oh1:OH}{a b:V}(h:RenA m oh oh1 a b):renE m oh oh1 [a] [b]:=by
 intro k e e1 h1 h2
 cases k with
 |zero=>simp at h1 h2;subst h1;subst h2;exact h
 |succ k=>simp at h1
theorem renC_flat {m:Nat→Nat}{oh oh1:OH}{v:V}(h:v.flat1):RenC m oh oh1 v v:=by
 cases v with
 |con v=>exact .con v
 |ro f t=>exact .ro f t
 |emp=>exact .emp
 |_=>exact h.elim
theorem renA_flat {m:Nat→Nat}{oh oh1:OH}{v:V}(h:v.flat):RenA m oh oh1 v v:=by
 have k:=@renC_flat m oh oh1 v
 cases v with
 |agg l=>
  refine⟨rfl,fun j a b h1 h2=>?_⟩
  rw [h1] at h2
  obtain rfl:a=b:=by simpa using h2
  exact renC_flat (h a (List.mem_of_getElem? h1))
 |_=>exact k h
theorem renE_flat {m:Nat→Nat}{oh oh1:OH}{l:List V}(h:∀v ∈ l,v.flat):renE m oh oh1 l l:=by
 intro k e e1 h1 h2
 rw [h1] at h2
 obtain rfl:e=e1:=by simpa using h2
 exact renA_flat (h e (List.mem_of_getElem? h1))
theorem renA_own {m:Nat→Nat}{oh oh1:OH}{i j ver off len:Nat}{o:Obj}(e:m i=j)(ho:oget oh j=some o)(hv:o.ver=ver)(h1:(oget oh1 i).isSome=true):RenC m oh oh1 (.own j ver off len) (.own i 0 off len):=by
 subst e;exact .own _ _ _ _ _ ho hv h1
theorem renA_ref {m:Nat→Nat}{oh oh1:OH}{i j ver k foff:Nat}{o:Obj}(e:m i=j)(ho:oget oh j=some o)(hv:o.ver=ver)(h1:(oget oh1 i).isSome=true):RenC m oh oh1 (.ref j ver k foff) (.ref i 0 k foff):=by
 subst e;exact .ref _ _ _ _ _ ho hv h1
end Go.Ev
