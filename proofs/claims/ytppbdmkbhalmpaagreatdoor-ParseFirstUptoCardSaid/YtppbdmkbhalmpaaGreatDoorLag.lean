import Derived.Test.YtppbdmkbhalmpaaGreatDoorLaf
set_option linter.all false
set_option maxHeartbeats 4000000
set_option maxRecDepth 10000
namespace Go.Ev
open Go.Proofs
theorem mix : Tryz.prog.follows .mixedOrders=true:=by kernel_rfl
theorem wrapI {a:Int}(h0 : -9223372036854775808≤a)(h1:a≤9223372036854775807):a=IntKind.i64.wrap a:=by rw [IntKind.wrap_i64];omega
theorem wrapU64 {a:Int}(h0:0≤a)(h1:a < 18446744073709551616):a=IntKind.u64.wrap a:=by
 simp [IntKind.wrap,IntKind.bits,IntKind.signed];omega
def kmin : IntKind→Int
 |.i8=>-128 | .i16=>-32768 | .i32=>-2147483648 | .i64=>-9223372036854775808 | _=>0
def kmax : IntKind→Int
 |.i8=>127 | .i16=>32767 | .i32=>2147483647 | .i64=>9223372036854775807 | .u8=>255 | .u16=>65535 | .u32=>4294967295 | .u64=>18446744073709551615
theorem wrapAny {k:IntKind}{a:Int}(h0:kmin k≤a)(h1:a≤kmax k):a=k.wrap a:=by
 cases k<;>simp only [kmin,kmax] at h0 h1<;>simp [IntKind.wrap,IntKind.bits,IntKind.signed]<;>omega
theorem wA {k:IntKind}{a:Int}(h0:kmin k≤a:=by first|(simp only [kmin,kmax];omega)|(simp only [kmin,kmax,ln];omega))(h1:a≤kmax k:=by first|(simp only [kmin,kmax];omega)|(simp only [kmin,kmax,ln];omega)):a=k.wrap a:=wrapAny h0 h1
theorem zW {α:Type}{p q:α→Prop}{w:α}(k:q w)(h:p w:=by first|exact wA|exact rfl):∃r,p r∧q r:=⟨w,h,k⟩
def tu32 (x:UInt32):T:=.con (.int .u32 x.toNat)
def cu (x:UInt32):V:=.con (.int .u32 x.toNat)
def tn (l:List UInt32):T:=.sl (l.map tu32)
theorem trim_ok (l:List UInt32)(hl:l.length≤140737488355328):Ok Tryz.prog 66 [.sl (l.map tu32)] false (.sl ((norm l).map tu32)):=by
 refine ok_of_ev hC0 mix Tryz.func66 rfl rfl (by kernel_rfl) (zO rfl) ?_
 repeat'(first|(with_reducible first|(refine zz ?_;try intro K hK)|refine zI ?_|refine zt ?_|refine zf ?_)|((first|refine hK _ ?_|refine hK _ _ rfl ?_);clear hK K)|(guard_hyp hK;first|(refine zY ?zz ?_;case zz=>first|exact rfl|exact gI)|refine fresh_n ?_|refine freshO_n ?_|(refine at_Q ?_;intro hu)|refine zP wA ?_|(refine mul_Q ?_;intro hm1 hm2)|refine zP at_M ?_|refine zP rfl ?_|intro b0 hb)|((first|with_reducible refine zm ?_|guard_hyp hK);refine zY ?_ ?_;all_goals(intro hb;(try simp only [sb] at hb);try exact ex0)))
 refine loop_i (List UInt32) (fun l'=>⟨21,[(0,.ro false (.sl (l'.map tu32)))],[]⟩) (fun l'=>norm l'=norm l∧l'.length≤l.length) (fun l'=>l'.length) [] l trivial ⟨rfl,Nat.le_refl _⟩ ⟨rfl,⟨rfl,trivial,trivial⟩,trivial,trivial⟩ ?_
 rintro l' ⟨hl',hle⟩
 repeat'(first|(with_reducible first|(refine zz ?_;try intro K hK)|refine zI ?_|refine zt ?_|refine zf ?_)|((first|refine hK _ ?_|refine hK _ _ rfl ?_);clear hK K)|(guard_hyp hK;first|(refine zY ?zz ?_;case zz=>first|exact rfl|exact gI)|refine fresh_n ?_|refine freshO_n ?_|(refine at_Q ?_;intro hu)|refine zP wA ?_|(refine mul_Q ?_;intro hm1 hm2)|refine zP at_M ?_|refine zP rfl ?_|intro b0 hb)|((first|with_reducible refine zm ?_|guard_hyp hK);refine zY ?_ ?_;all_goals(intro hb;(try simp only [sb] at hb);try exact ex0)))
 ·rename_i h0
  have e:(↑l'.length - 1:Int).toNat=l'.length - 1:=by omega
  rw [e] at hb
  have hb:=norm_drop (UInt32.toNat_inj.mp (Int.ofNat.inj hb))
  refine⟨l'.take (l'.length - 1),⟨hb.trans hl',by simp;omega⟩,by simp;omega,rfl,⟨?_,trivial,trivial⟩,trivial,trivial⟩
  refine congrArg (fun x=>V.ro false (.sl x)) ?_
  simp [List.map_take]
  try congr 1
  try omega
 ·rename_i h0
  refine And.intro trivial (fz_ro (congrArg T.sl (congrArg _ ?_)) fun h=>h)
  have e:(↑l'.length - 1:Int).toNat=l'.length - 1:=by omega
  rw [e] at hb
  rw [← hl',norm_last fun h=>hb (congrArg (fun x:UInt32=>Int.ofNat x.toNat) h)]
 ·refine And.intro trivial (fz_ro (congrArg T.sl (congrArg _ ?_)) fun h=>h)
  have:l'=[]:=List.eq_nil_of_length_eq_zero (by omega)
  subst this;rw [← hl'];rfl
theorem clone_ok (l:List UInt32)(hl:l.length≤2199023255552):Ok Tryz.prog 67 [tn l] true (tn l):=by
 refine ok_of_ev hC0 mix Tryz.func67 rfl rfl (by kernel_rfl) (zO rfl) ?_
 repeat'(first|(with_reducible first|(refine zz ?_;try intro K hK)|refine zI ?_|refine zt ?_|refine zf ?_)|((first|refine hK _ ?_|refine hK _ _ rfl ?_);clear hK K)|(guard_hyp hK;first|(refine zY ?zz ?_;case zz=>first|exact rfl|exact gI)|refine fresh_n ?_|refine freshO_n ?_|(refine at_Q ?_;intro hu)|refine zP wA ?_|(refine mul_Q ?_;intro hm1 hm2)|refine zP at_M ?_|refine zP rfl ?_|intro b0 hb)|((first|with_reducible refine zm ?_|guard_hyp hK);refine zY ?_ ?_;all_goals(intro hb;(try simp only [sb] at hb);try exact ex0)))
 ·rename_i h
  refine And.intro trivial (fz_emp ?_)
  simpa [tn] using (h hb).symm
 ·refine And.intro trivial (fz_own (l:=l) (F:=fun x=>V.con (.int .u32 x.toNat)) (G:=tu32) rfl rfl rfl ?_ ?_ (fun a _=>fze_con _) rfl)
  ·simp
  ·show List.take _ (List.drop 0 (List.take 0 [] ++ _))=_
   simp [Function.comp_def,tu32,V.ofA,V.ofT1,List.take_of_length_le]
theorem own_ok (l:List UInt32)(hl:l.length≤2199023255552):Ok Tryz.prog 57 [tn l] true (tn (norm l)):=by
 refine ok_of_ev hC0 mix Tryz.func57 rfl rfl (by kernel_rfl) (zO rfl) ?_
 have hn:=norm_le l
 repeat'(first|(with_reducible first|(refine zz ?_;try intro K hK)|refine zI ?_|refine zt ?_|refine zf ?_)|((first|refine hK _ ?_|refine hK _ _ rfl ?_);clear hK K)|(guard_hyp hK;first|(refine zY ?zz ?_;case zz=>first|exact rfl|exact gI)|refine fresh_n ?_|refine freshO_n ?_|(refine at_Q ?_;intro hu)|refine zP wA ?_|(refine mul_Q ?_;intro hm1 hm2)|refine zP at_M ?_|refine zP rfl ?_|(refine zQ (trim_ok l (by omega)) ?_)|(refine zQ (clone_ok (norm l) (by omega)) ?_)|intro b0 hb)|((first|with_reducible refine zm ?_|guard_hyp hK);refine zY ?_ ?_;all_goals(intro hb;(try simp only [sb] at hb);try exact ex0)))
 ·refine And.intro trivial (fz_emp ?_)
  have:norm l=[]:=List.eq_nil_of_length_eq_zero (by omega)
  rw [this];rfl
 ·refine And.intro trivial (fz_ro rfl fun h=>h)
theorem Norm_ok (l:List UInt32)(hl:l.length≤2199023255552):Ok Tryz.prog 110 [tn l] true (tn (norm l)):=by
 refine ok_of_ev hC0 mix Tryz.func110 rfl rfl (by kernel_rfl) (zO rfl) ?_
 repeat'(first|(with_reducible first|(refine zz ?_;try intro K hK)|refine zI ?_|refine zt ?_|refine zf ?_)|((first|refine hK _ ?_|refine hK _ _ rfl ?_);clear hK K)|(guard_hyp hK;first|(refine zY ?zz ?_;case zz=>first|exact rfl|exact gI)|refine fresh_n ?_|refine freshO_n ?_|(refine at_Q ?_;intro hu)|refine zP wA ?_|(refine mul_Q ?_;intro hm1 hm2)|refine zP at_M ?_|refine zP rfl ?_|(refine zQ (own_ok l hl) ?_)|intro b0 hb)|((first|with_reducible refine zm ?_|guard_hyp hK);refine zY ?_ ?_;all_goals(intro hb;(try simp only [sb] at hb);try exact ex0)))
 ·refine And.intro trivial (fz_ro rfl fun h=>h)
theorem Of_ok (u:UInt64):Ok Tryz.prog 71 [.con (.int .u64 u.toNat)] true (tn (norm [u.toUInt32,(u >>> 32).toUInt32])):=by
 refine ok_of_ev hC0 mix Tryz.func71 rfl rfl (by kernel_rfl) (zO rfl) ?_
 repeat'(first|(with_reducible first|(refine zz ?_;try intro K hK)|refine zI ?_|refine zt ?_|refine zf ?_)|((first|refine hK _ ?_|refine hK _ _ rfl ?_);clear hK K)|(guard_hyp hK;first|(refine zY ?zz ?_;case zz=>first|exact rfl|exact gI)|refine fresh_n ?_|refine freshO_n ?_|(refine at_Q ?_;intro hu)|refine zP wA ?_|(refine mul_Q ?_;intro hm1 hm2)|refine zP at_M ?_|refine zP rfl ?_|intro b0 hb)|((first|with_reducible refine zm ?_|guard_hyp hK);refine zY ?_ ?_;all_goals(intro hb;(try simp only [sb] at hb);try exact ex0)))
 refine Or.inl (Exists.intro _ (Exists.intro _ (Exists.intro _ (And.intro (own_ok [u.toUInt32,(u >>> 32).toUInt32] (by simp)) (Exists.intro [(0,?o)] (And.intro (lpre1 ?ho) (And.intro ?z (And.intro rfl ?_))))))))
 case ho=>exact rfl
 case z=>
  refine fzl1 (fz_own (l:=[u.toUInt32,(u >>> 32).toUInt32]) (F:=fun x=>V.con (.int .u32 x.toNat)) (G:=tu32) rfl rfl rfl rfl ?_ (fun a _=>fze_con _) rfl)
  have e1:IntKind.u32.wrap u.toNat=u.toUInt32.toNat:=by simp [IntKind.wrap,IntKind.bits,IntKind.signed]
  have e2:IntKind.u32.wrap ((u.toNat:Int).fdiv (2 ^ 32))=((u >>> 32).toUInt32).toNat:=by
   simp [IntKind.wrap,IntKind.bits,IntKind.signed,Int.fdiv_eq_ediv,Nat.shiftRight_eq_div_pow]
  show [V.con (.int .u32 (IntKind.u32.wrap u.toNat)),V.con (.int .u32 (IntKind.u32.wrap ((u.toNat:Int).fdiv (2 ^ 32))))]=_
  rw [e1,e2];rfl
 repeat'(first|(with_reducible first|(refine zz ?_;try intro K hK)|refine zI ?_|refine zt ?_|refine zf ?_)|((first|refine hK _ ?_|refine hK _ _ rfl ?_);clear hK K)|(guard_hyp hK;first|(refine zY ?zz ?_;case zz=>first|exact rfl|exact gI)|refine fresh_n ?_|refine freshO_n ?_|(refine at_Q ?_;intro hu)|refine zP wA ?_|(refine mul_Q ?_;intro hm1 hm2)|refine zP at_M ?_|refine zP rfl ?_|intro b0 hb)|((first|with_reducible refine zm ?_|guard_hyp hK);refine zY ?_ ?_;all_goals(intro hb;(try simp only [sb] at hb);try exact ex0)))
 ·exact And.intro trivial (fz_ro rfl fun h=>h)
theorem Cmp_ok (a b:List UInt32)(ha:a.length≤2199023255552)(hb:b.length≤2199023255552):Ok Tryz.prog 103 [tn a,tn b] false (.con (.int .i64 (cmpN (val a) (val b)))):=by
 refine ok_of_ev hC0 mix Tryz.func103 rfl rfl (by kernel_rfl) (zO rfl) ?_
 have hna:=norm_le a
 have hnb:=norm_le b
 repeat'(first|(with_reducible first|(refine zz ?_;try intro K hK)|refine zI ?_|refine zt ?_|refine zf ?_)|((first|refine hK _ ?_|refine hK _ _ rfl ?_);clear hK K)|(guard_hyp hK;first|(refine zY ?zz ?_;case zz=>first|exact rfl|exact gI)|refine fresh_n ?_|refine freshO_n ?_|(refine at_Q ?_;intro hu)|refine zP wA ?_|(refine mul_Q ?_;intro hm1 hm2)|refine zP at_M ?_|refine zP rfl ?_|(refine zQ (trim_ok a (by omega)) ?_)|(refine zQ (trim_ok b (by omega)) ?_)|intro b0 hb)|((first|with_reducible refine zm ?_|guard_hyp hK);refine zY ?_ ?_;all_goals(intro hb;(try simp only [sb] at hb);try exact ex0)))
 ·exact And.intro trivial (fz_con (by rw [← val_norm a,← val_norm b,cmpN_lt (can_len_lt (can_norm b) (by omega))]))
 ·exact And.intro trivial (fz_con (by rw [← val_norm a,← val_norm b,cmpN_gt (can_len_lt (can_norm a) (by omega))]))
 rw [← val_norm a,← val_norm b]
 have hl:(norm a).length=(norm b).length:=by omega
 have hx:(norm a).length≤2199023255552:=by omega
 clear hna hnb hb
 generalize norm a=x at *
 generalize norm b=y at *
 refine loop_i Int (fun i=>⟨Tryz.f103.ntmps,[(0,.ro false (tn x)),(1,.ro false (tn y)),(5,.con (.int .i64 i))],[]⟩) (fun i=>-1≤i∧i < x.length∧x.drop (i+1).toNat=y.drop (i+1).toNat) (fun i=>(i+1).toNat) [] (x.length - 1:Int) trivial ⟨by omega,by omega,?_⟩ ⟨rfl,⟨rfl,trivial,rfl,trivial,?_,trivial,trivial⟩,trivial,trivial⟩ ?_
 ·have e:(↑x.length - 1+1:Int).toNat=x.length:=by omega
  rw [e,List.drop_eq_nil_of_le (Nat.le_refl _),List.drop_eq_nil_of_le (by omega)]
 ·show V.con (.int .i64 (((x.map tu32).length:Int) - 1))=_;rw [List.length_map]
 rintro i ⟨h0,h1,h2⟩
 repeat'(first|(with_reducible first|(refine zz ?_;try intro K hK)|refine zI ?_|refine zt ?_|refine zf ?_)|((first|refine hK _ ?_|refine hK _ _ rfl ?_);clear hK K)|(guard_hyp hK;first|(refine zY ?zz ?_;case zz=>first|exact rfl|exact gI)|refine fresh_n ?_|refine freshO_n ?_|(refine at_Q ?_;intro hu)|refine zP wA ?_|(refine mul_Q ?_;intro hm1 hm2)|refine zP at_M ?_|refine zP rfl ?_|intro b0 hb)|((first|with_reducible refine zm ?_|guard_hyp hK);refine zY ?_ ?_;all_goals(intro hb;(try simp only [sb] at hb);try exact ex0)))
 ·have e:i.toNat+1=(i+1).toNat:=by omega
  exact And.intro trivial (fz_con (by rw [cmpN_lt (val_top i.toNat x y hl (by omega) (by rw [e];exact h2) (by omega))]))
 ·have e:i.toNat+1=(i+1).toNat:=by omega
  exact And.intro trivial (fz_con (by rw [cmpN_gt (val_top i.toNat y x hl.symm (by omega) (by rw [e];exact h2.symm) (by omega))]))
 ·have e:i.toNat+1=(i+1).toNat:=by omega
  refine⟨i - 1,⟨by omega,by omega,?_⟩,by omega,rfl,⟨rfl,trivial,rfl,trivial,rfl,trivial,trivial⟩,trivial,trivial⟩
  rw [show i - 1+1=i by omega]
  exact drop_eq_step hl (by omega) (by rw [e];exact h2) (by omega)
 ·rw [show(i+1).toNat=0 by omega] at h2
  have h2:x=y:=h2
  subst h2
  exact And.intro trivial (fz_con (by rw [cmpN_eq]))
def renE (m:Nat→Nat)(oh oh1:OH)(el el1:List V):Prop:=∀(k:Nat) (e e1:V),el[k]?=some e→el1[k]?=some e1→RenA m oh oh1 e e1
def renObjs (m:Nat→Nat)(oh oh1:OH):OH→Prop
 | []=>True
 |(i,o1) :: r=>(∃o,oget oh (m i)=some o∧o.live=true∧o1.live=true∧o1.ver=0∧o1.sz=o.sz∧o1.el.length=o.el.length∧renE m oh oh1 o.el o1.el)∧renObjs m oh oh1 r
theorem ren_of {oh oh1:OH}{m:Nat→Nat}(hi:∀i ∈ oh1.map (·.1),∀j ∈ oh1.map (·.1),m i=m j→i=j)(h:renObjs m oh oh1 oh1):Ren oh oh1 m:=by
 have key:∀(l:OH),renObjs m oh oh1 l→∀i o1,oget l i=some o1→∃o,oget oh (m i)=some o∧o.live=true∧o1.live=true∧o1.ver=0∧o1.sz=o.sz∧o1.el.length=o.el.length∧renE m oh oh1 o.el o1.el:=by
  intro l
  induction l with
  |nil=>intro _ i o1 h;cases h
  |cons p r ih=>
   obtain⟨j,x⟩:=p
   intro hl i o1 ho
   by_cases e:j=i
   ·subst e
    rw [oget_cons_same] at ho
    obtain rfl:x=o1:=by simpa using ho
    exact hl.1
   ·rw [oget_cons_other _ _ (Ne.symm e)] at ho
    exact ih hl.2 i o1 ho
 exact⟨fun i j o1 o2 h1 h2 e=>hi i (oget_memF h1) j (oget_memF h2) e,fun i o1 ho=>key oh1 h i o1 ho⟩
def lrEnv (m:Nat→Nat)(oh oh1:OH)(e:Env):Env→Prop
 | []=>True
 |(t,v) :: r=>RenA m oh oh1 (eget e t) v∧lrEnv m oh oh1 e r
theorem lrEnv_ok {m:Nat→Nat}{oh oh1:OH}{e:Env}:∀{e1:Env},lrEnv m oh oh1 e e1→∀t,eget e1 t=.undef∨RenA m oh oh1 (eget e t) (eget e1 t)
 | [],_,t=>.inl rfl
 |(k,v) :: r,h,t=>by
  by_cases e:k=t
  ·subst e;rw [show eget ((k,v) :: r) k=v by simp [eget]];exact .inr h.1
  ·rw [show eget ((k,v) :: r) t=eget r t by simp [eget,e]];exact lrEnv_ok h.2 t
theorem lr_of {n:Nat}{e e1:Env}{oh oh1:OH}(m:Nat→Nat)(hi:∀i ∈ oh1.map (·.1),∀j ∈ oh1.map (·.1),m i=m j→i=j)(ho:renObjs m oh oh1 oh1)(he:lrEnv m oh oh1 e e1):Lr ⟨n,e1,oh1⟩ ⟨n,e,oh⟩:=
 ⟨rfl,m,ren_of hi ho,lrEnv_ok he⟩
theorem renE_one {m:Nat→Nat}{oh oh1:OH}{a b:V}(h:RenA m oh oh1 a b):renE m oh oh1 [a] [b]:=by
 intro k e e1 h1 h2
 cases k with
 |zero=>simp at h1 h2;subst h1;subst h2;exact h
 |succ k=>simp at h1
theorem renC_flat {m:Nat→Nat}{oh oh1:OH}{v:V}(h:v.flat1):RenC m oh oh1 v v:=by
 cases v with
 |con v=>exact .con v
 |ro f t=>exact .ro f t
 |emp=>exact .emp
 |_=>exact h.elim
theorem renA_flat {m:Nat→Nat}{oh oh1:OH}{v:V}(h:v.flat):RenA m oh oh1 v v:=by
 have k:=@renC_flat m oh oh1 v
 cases v with
 |agg l=>
  refine⟨rfl,fun j a b h1 h2=>?_⟩
  rw [h1] at h2
  obtain rfl:a=b:=by simpa using h2
  exact renC_flat (h a (List.mem_of_getElem? h1))
 |_=>exact k h
theorem renE_flat {m:Nat→Nat}{oh oh1:OH}{l:List V}(h:∀v ∈ l,v.flat):renE m oh oh1 l l:=by
 intro k e e1 h1 h2
 rw [h1] at h2
 obtain rfl:e=e1:=by simpa using h2
 exact renA_flat (h e (List.mem_of_getElem? h1))
theorem renA_own {m:Nat→Nat}{oh oh1:OH}{i j ver off len:Nat}{o:Obj}(e:m i=j)(ho:oget oh j=some o)(hv:o.ver=ver)(h1:(oget oh1 i).isSome=true):RenC m oh oh1 (.own j ver off len) (.own i 0 off len):=by
 subst e;exact .own _ _ _ _ _ ho hv h1
theorem renA_ref {m:Nat→Nat}{oh oh1:OH}{i j ver k foff:Nat}{o:Obj}(e:m i=j)(ho:oget oh j=some o)(hv:o.ver=ver)(h1:(oget oh1 i).isSome=true):RenC m oh oh1 (.ref j ver k foff) (.ref i 0 k foff):=by
 subst e;exact .ref _ _ _ _ _ ho hv h1
def bs (s:ByteArray):List UInt8:=s.data.toList
def chr (s:ByteArray)(i:Nat):UInt8:=(bs s).getD i 0
theorem bs_len (s:ByteArray):(bs s).length=s.size:=Array.length_toList
theorem ba_get2 (a:Array UInt8)(i:Nat):(ByteArray.mk a)[i]?=a[i]?:=by
 by_cases h:i < a.size
 ·rw [Array.getElem?_eq_getElem h];exact dif_pos h
 ·rw [Array.getElem?_eq_none (by omega)];exact dif_neg h
theorem at_s {s:ByteArray}{i:Nat}{Q:UInt8→Prop}(k:(chr s i).toNat < 256→Q (chr s i))(h:i < s.size:=by first|omega|(simp only [ln];omega)):∃b:UInt8,s[i]?=some b∧Q b:=by
 refine⟨chr s i,?_,k (UInt8.toNat_lt _)⟩
 have h2:i < s.data.size:=h
 have e:s[i]?=s.data[i]?:=ba_get2 s.data i
 rw [e]
 unfold chr bs
 rw [List.getD,Array.getElem?_toList,Array.getElem?_eq_getElem h2]
 rfl
theorem retb {P:Program}{fn:Func}{f:Bool}{s:St}{t:Nat}{a b:Bool}(hr:fn.results.toList=[.tmp t])(he:eget s.env t=.con (.bool a))(h:a=b):RetOK P fn f (.con (.bool b)) .ret s:=by
 refine⟨trivial,?_⟩
 rw [hr]
 show FzA s.oh f (eget s.env t) _
 rw [he,h];exact Fz1.con _
theorem reti {P:Program}{fn:Func}{f:Bool}{s:St}{t:Nat}{k:IntKind}{a b:Int}(hr:fn.results.toList=[.tmp t])(he:eget s.env t=.con (.int k a))(h:a=b):RetOK P fn f (.con (.int k b)) .ret s:=by
 refine⟨trivial,?_⟩
 rw [hr]
 show FzA s.oh f (eget s.env t) _
 rw [he,h];exact Fz1.con _
def isLet (b:UInt8):Bool:=(decide (65≤b.toNat) && decide (b.toNat≤90)) ||(decide (97≤b.toNat) && decide (b.toNat≤122)) ||decide (b.toNat=95)
def isDig (b:UInt8):Bool:=decide (48≤b.toNat) && decide (b.toNat≤57)
def isBlk (b:UInt8):Bool:=decide (b.toNat=32) ||decide (b.toNat=9) ||decide (b.toNat=10) ||decide (b.toNat=13)
def sgS : ByteArray:=⟨#[123,125,40,41,91,93,44,59,124,61,43,45,42,47]⟩
def isSgn (b:UInt8):Bool:=decide (b ∈ bs sgS)
def runF (p:UInt8→Bool)(s:ByteArray)(i:Nat):Nat:=(((bs s).drop i).takeWhile p).length
def tb (b:UInt8):T:=.con (.int .u8 b.toNat)
theorem drop_at {s:ByteArray}{i:Nat}(h:i < s.size):(bs s).drop i=chr s i :: (bs s).drop (i+1):=by
 have h2:i < (bs s).length:=by rw [bs_len];exact h
 rw [List.drop_eq_getElem_cons h2]
 unfold chr
 rw [List.getD,List.getElem?_eq_getElem h2];rfl
theorem runF_end {p:UInt8→Bool}{s:ByteArray}{i:Nat}(h:s.size≤i):runF p s i=0:=by
 unfold runF
 rw [List.drop_eq_nil_of_le (by rw [bs_len];exact h)];rfl
theorem runF_yes {p:UInt8→Bool}{s:ByteArray}{i:Nat}(h:i < s.size)(hp:p (chr s i)=true):runF p s i=runF p s (i+1)+1:=by
 unfold runF
 rw [drop_at h,List.takeWhile_cons,if_pos hp];rfl
theorem runF_no {p:UInt8→Bool}{s:ByteArray}{i:Nat}(h:i < s.size)(hp:p (chr s i)=false):runF p s i=0:=by
 unfold runF
 rw [drop_at h,List.takeWhile_cons,if_neg (by rw [hp];exact Bool.false_ne_true)];rfl
theorem runF_le {p:UInt8→Bool}{s:ByteArray}{i:Nat}(h:i≤s.size):i+runF p s i≤s.size:=by
 have h1:(((bs s).drop i).takeWhile p).length≤((bs s).drop i).length:=(List.takeWhile_sublist p).length_le
 rw [List.length_drop,bs_len] at h1
 unfold runF
 omega
def tS9 (s:ByteArray):T:=.con (.string s)
def isWrd (b:UInt8):Bool:=isLet b ||isDig b
theorem chr_end {s:ByteArray}{i:Nat}(h:s.size≤i):chr s i=0:=by
 unfold chr
 rw [List.getD,List.getElem?_eq_none (by rw [bs_len];exact h)];rfl
def decV (l:List UInt8):Nat:=l.foldl (fun v b=>10 * v+(b.toNat - 48)) 0
def allDig (s:ByteArray):Prop:=∀i,i < s.size→isDig (chr s i)=true
theorem decV_take {s:ByteArray}{i:Nat}(h:i < s.size):decV ((bs s).take (i+1))=10 * decV ((bs s).take i)+((chr s i).toNat - 48):=by
 have h2:i < (bs s).length:=by rw [bs_len];exact h
 unfold decV
 rw [List.take_succ_eq_append_getElem h2,List.foldl_append]
 unfold chr
 rw [List.getD,List.getElem?_eq_getElem h2];rfl
def sub (s:ByteArray)(i n:Nat):ByteArray:=s.extract i (i+n)
def numA (s:ByteArray):Nat:=if(chr s (runF isDig s 0)).toNat=46∧0 < runF isDig s (runF isDig s 0+1) then runF isDig s 0+1+runF isDig s (runF isDig s 0+1) else runF isDig s 0
def numK (s:ByteArray):Nat:=if(chr s (numA s+1)).toNat=43∨(chr s (numA s+1)).toNat=45 then numA s+2 else numA s+1
def numE (s:ByteArray):Prop:=((chr s (numA s)).toNat=101∨(chr s (numA s)).toNat=69)∧0 < runF isDig s (numK s)
instance  (s:ByteArray):Decidable (numE s):=inferInstanceAs (Decidable (_∧_))
def numF (s:ByteArray):Nat:=if numE s then numK s+runF isDig s (numK s) else numA s
def numB (s:ByteArray):Bool:=decide (numE s) && decide (1000 < decV (bs (sub s (numK s) (runF isDig s (numK s)))))
theorem sub_bs (s:ByteArray)(i n:Nat):bs (sub s i n)=((bs s).drop i).take n:=by
 unfold sub bs
 rw [ByteArray.data_extract,Array.toList_extract,List.extract_eq_take_drop]
 rw [show i+n - i=n by omega]
theorem sub_len {s:ByteArray}{i n:Nat}(h:i+n≤s.size):(sub s i n).size=n:=by
 rw [← bs_len,sub_bs,List.length_take,List.length_drop,bs_len];omega
theorem sub_chr {s:ByteArray}{i n j:Nat}(h:j < n):chr (sub s i n) j=chr s (i+j):=by
 unfold chr
 rw [sub_bs,List.getD,List.getD,List.getElem?_take_of_lt h,List.getElem?_drop]
theorem runF_all {p:UInt8→Bool}{s:ByteArray}{i j:Nat}(h:j < runF p s i):p (chr s (i+j))=true:=by
 unfold runF at h
 have h2:(((bs s).drop i).takeWhile p)[j]?=some ((((bs s).drop i).takeWhile p)[j]):=List.getElem?_eq_getElem h
 have h3:=List.mem_of_getElem? h2
 have h4:p _=true:=(List.all_takeWhile (l:=(bs s).drop i) (p:=p) |> List.all_eq_true.1) _ h3
 have h5:((bs s).drop i)[j]?=some ((((bs s).drop i).takeWhile p)[j]):=by
  have:=List.takeWhile_prefix p (l:=(bs s).drop i)
  obtain⟨t,ht⟩:=this
  conv=>lhs;rw [← ht]
  rw [List.getElem?_append_left h,h2]
 rw [List.getElem?_drop] at h5
 unfold chr
 rw [List.getD,h5];exact h4
theorem runF_dig {s:ByteArray}{i:Nat}(h:i≤s.size):allDig (sub s i (runF isDig s i)):=by
 intro j hj
 rw [sub_len (runF_le h)] at hj
 rw [sub_chr hj]
 exact runF_all hj
theorem numA_le {s:ByteArray}:numA s≤s.size:=by
 have h0:=runF_le (p:=isDig) (s:=s) (i:=0) (Nat.zero_le _)
 unfold numA
 split
 ·rename_i h
  have h3:runF isDig s 0 < s.size:=by
   rcases Nat.lt_or_ge (runF isDig s 0) s.size with h9|h9
   ·exact h9
   ·rw [chr_end h9] at h;exact absurd h.1 (by decide)
  exact runF_le (by omega)
 ·omega
def quoF (s:ByteArray)(i:Nat)(out:ByteArray):Nat×ByteArray×Bool:=
 if h:i < s.size then
  if(chr s i).toNat=34 then(i+1,out,true)
  else if(chr s i).toNat=10 then(0,⟨#[]⟩,false)
  else if(chr s i).toNat=92 then
   if(chr s (i+1)).toNat≠34∧(chr s (i+1)).toNat≠92 then(0,⟨#[]⟩,false)
   else quoF s (i+2) (out ++ sub s (i+1) 1)
  else quoF s (i+1) (out ++ sub s i 1)
 else(0,⟨#[]⟩,false)
termination_by s.size - i
theorem cat_s {out s:ByteArray}{a b:Nat}{Q:Prop}(ho:out.size≤1073741826)(hs:s.size≤1073741824)(h:Q):out.size+(s.extract a b).size≤9223372036854775807∧Q:=by
 refine⟨?_,h⟩
 rw [ByteArray.size_extract];omega
def skipA (s:ByteArray)(i:Nat):Int:=
 if h:i < s.size then
  if(chr s 1).toNat=47∧(chr s i).toNat=10 then i
  else if(chr s 1).toNat=42∧(chr s i).toNat=42∧(chr s (i+1)).toNat=47 then i+2
  else skipA s (i+1)
 else if(chr s 1).toNat=47 then s.size else -1
termination_by s.size - i
def skipF (s:ByteArray):Int:=if isBlk (chr s 0)=true then 1 else if(chr s 0).toNat≠47∨((chr s 1).toNat≠47∧(chr s 1).toNat≠42) then 0 else skipA s 2
structure TkR where
 n:Nat
 kind:Nat
 text:ByteArray
 code:Nat
 word:ByteArray
def eS : ByteArray:=.empty
def takeF (s:ByteArray):TkR:=
 if skipF s < 0 then⟨0,0,eS,21,⟨#[47,42]⟩⟩
 else if 0 < skipF s then⟨(skipF s).toNat,0,eS,0,eS⟩
 else if isLet (chr s 0)=true then(if 64 < runF isWrd s 0 then⟨0,0,eS,20,s.extract 0 (runF isWrd s 0)⟩ else⟨runF isWrd s 0,1,s.extract 0 (runF isWrd s 0),0,eS⟩)
 else if isDig (chr s 0)=true then
  (if numB s=true∨isLet (chr s (numF s))=true then⟨0,0,eS,22,s.extract 0 (numF s+runF isWrd s (numF s))⟩ else⟨numF s,2,s.extract 0 (numF s),0,eS⟩)
 else if(chr s 0).toNat=34 then(if(quoF s 1 ⟨#[]⟩).2.2=true then⟨(quoF s 1 ⟨#[]⟩).1,3,(quoF s 1 ⟨#[]⟩).2.1,0,eS⟩ else⟨0,0,eS,21,⟨#[34]⟩⟩)
 else if isSgn (chr s 0)=true then⟨1,4,s.extract 0 1,0,eS⟩
 else⟨0,0,eS,20,s.extract 0 1⟩
def tTk (k:Int)(w:ByteArray)(l c:Int):T:=.agg [.con (.int .i8 k),.con (.string w),.con (.int .i64 l),.con (.int .i64 c)]
def tFl (c l k:Int)(w:ByteArray):T:=.agg [.con (.int .i64 c),.con (.int .i64 l),.con (.int .i64 k),.con (.string w)]
theorem numF_le {s:ByteArray}:numF s≤s.size:=by
 have hA:=numA_le (s:=s)
 unfold numF
 split
 ·rename_i h
  have hk:numK s < s.size:=by
   rcases Nat.lt_or_ge (numK s) s.size with h9|h9
   ·exact h9
   ·have:=h.2;rw [runF_end h9] at this;omega
  exact runF_le (by omega)
 ·exact hA
theorem resc {P:Program}{s:St}{a t id ver sz:Nat}{l:List V}{fs:List (Nat×Nat)}{z:List Value}{K:V→Prop}(ht:tk P t=.st fs z)(hz:z.length=l.length)(h0:0 < l.length)
  (ha:eget s.env a=.ref id ver 0 0) (ho:oget s.oh id=some ⟨sz,[.agg l],ver,true⟩) (hk:K (.agg l)):resV P s (.cell a t) K:=by
 show sload (tk P t) s.oh (eget s.env a) _
 rw [ha,ht]
 show use s.oh id ver _
 unfold use
 rw [ho]
 refine⟨rfl,rfl,.agg l,rfl,by simp only [TK.size];omega,by simp only [TK.size,V.cells];omega,?_⟩
 show K (V.ofCells true ((l.drop 0).take z.length))
 rw [List.drop_zero,hz,List.take_length]
 exact hk
theorem fz_aggC {oh:OH}{f:Bool}(l:List Value):FzA oh f (.agg (l.map .con)) (.agg (l.map .con)):=by
 refine⟨by rw [List.length_map,List.length_map],fun j v t h1 h2=>?_⟩
 rw [List.getElem?_map] at h1 h2
 obtain⟨a,ha,rfl⟩:=Option.map_eq_some_iff.1 h1
 rw [ha] at h2
 obtain rfl:T.con a=t:=by simpa using h2
 exact Fz1.con a
def placeF (s:ByteArray):Nat→Nat×Nat
 |0=>(1,1)
 |i+1=>if(chr s i).toNat=10 then((placeF s i).1+1,1) else((placeF s i).1,(placeF s i).2+1)
theorem placeF_le (s:ByteArray):∀i,(placeF s i).1≤i+1∧(placeF s i).2≤i+1
 |0=>⟨Nat.le_refl _,Nat.le_refl _⟩
 |i+1=>by
  have:=placeF_le s i
  rw [placeF]
  split<;>(simp only;omega)
end Go.Ev
