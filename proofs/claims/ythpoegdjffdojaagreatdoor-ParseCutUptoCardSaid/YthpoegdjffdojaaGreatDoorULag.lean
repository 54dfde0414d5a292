import Derived.Test.YthpoegdjffdojaaGreatDoorULaf
set_option linter.all false
set_option maxHeartbeats 4000000
set_option maxRecDepth 10000
namespace Go.Ev
open Go.Proofs
theorem mix : Tryz.prog.follows .mixedOrders=true:=by kernel_rfl
theorem Qu {a:Int}(h0 : -9223372036854775808<=a)(h1:a<=9223372036854775807):a=IntKind.i64.wrap a:=by rw [IntKind.wrap_i64];omega
theorem fU {a:Int}(h0:0<=a)(h1:a < 18446744073709551616):a=IntKind.u64.wrap a:=by
 simp [IntKind.wrap,IntKind.bits,IntKind.signed];omega
def px : IntKind->Int
 |.i8=>-128 | .i16=>-32768 | .i32=>-2147483648 | .i64=>-9223372036854775808 | _=>0
def py : IntKind->Int
 |.i8=>127 | .i16=>32767 | .i32=>2147483647 | .i64=>9223372036854775807 | .u8=>255 | .u16=>65535 | .u32=>4294967295 | .u64=>18446744073709551615
theorem jr {k:IntKind}{a:Int}(h0:px k<=a)(h1:a<=py k):a=k.wrap a:=by
 cases k<;>simp only [px,py] at h0 h1<;>simp [IntKind.wrap,IntKind.bits,IntKind.signed]<;>omega
theorem wA {k:IntKind}{a:Int}(h0:px k<=a:=by first|(simp only [px,py];omega)|(simp only [px,py,ln];omega))(h1:a<=py k:=by first|(simp only [px,py];omega)|(simp only [px,py,ln];omega)):a=k.wrap a:=jr h0 h1
theorem zW {α:Type}{p q:α->Prop}{w:α}(k:q w)(h:p w:=by first|exact wA|exact rfl):∃r,p r/\q r:=⟨w,h,k⟩
def bw (x:UInt32):T:=.af (.int .u32 x.toNat)
def cu (x:UInt32):V:=.af (.int .u32 x.toNat)
def tn (l:List UInt32):T:=.sl (l.map bw)
theorem eo (l:List UInt32)(hl:l.length<=140737488355328):Ok Tryz.prog 51 [.sl (l.map bw)] false (.sl ((norm l).map bw)):=by
 refine aw bN mix Tryz.func51 rfl rfl B1 (zO rfl) ?_
 repeat'(first|(with_reducible first|(refine zz ?_;try intro K hK)|refine zi ?_|refine zh ?_)|((first|apply hK _ _ rfl|apply hK);clear hK K)|(guard_hyp hK;first|refine zy ?_|apply ab|apply aa|(refine aY ?_;intro hu)|refine zP wA ?_|(refine aD ?_;intro hm1 hm2)|refine zP aZ ?_|refine zP rfl ?_|intro b0 hb)|((first|refine zj ?_|guard_hyp hK);refine zY ?_ ?_;all_goals(intro hb;(try simp only [sb] at hb);try exact ao)))
 refine aT (List UInt32) (fun l'=>⟨21,[(0,.ro false (.sl (l'.map bw)))],[]⟩) (fun l'=>norm l'=norm l/\l'.length<=l.length) (fun l'=>l'.length) [] l trivial ⟨rfl,wU _⟩ ⟨rfl,⟨rfl,trivial,trivial⟩,trivial,trivial⟩ ?_;rintro l' ⟨hl',hle⟩
 repeat'(first|(with_reducible first|(refine zz ?_;try intro K hK)|refine zi ?_|refine zh ?_)|((first|apply hK _ _ rfl|apply hK);clear hK K)|(guard_hyp hK;first|refine zy ?_|apply ab|apply aa|(refine aY ?_;intro hu)|refine zP wA ?_|(refine aD ?_;intro hm1 hm2)|refine zP aZ ?_|refine zP rfl ?_|intro b0 hb)|((first|refine zj ?_|guard_hyp hK);refine zY ?_ ?_;all_goals(intro hb;(try simp only [sb] at hb);try exact ao)))
 ·rename_i h0;have e:(↑l'.length - 1:Int).toNat=l'.length - 1:=by omega
  rw [e] at hb;have hb:=qL (UInt32.toNat_inj.mp (W6 hb));refine⟨l'.take (l'.length - 1),⟨hb.trans hl',by simp;omega⟩,by simp;omega,rfl,⟨?_,trivial,trivial⟩,trivial,trivial⟩;refine B4 (fun x=>V.ro false (.sl x)) ?_;simp [List.map_take];try congr 1
  try omega
 ·rename_i h0;refine UO trivial (kr (B4 T.sl (B4 _ ?_)) fun h=>h);have e:(↑l'.length - 1:Int).toNat=l'.length - 1:=by omega
  rw [e] at hb;rw [<- hl',qK fun h=>hb (B4 (fun x:UInt32=>Int.ofNat x.toNat) h)]
 ·refine UO trivial (kr (B4 T.sl (B4 _ ?_)) fun h=>h);have:l'=[]:=C8 A8;subst this;rw [<- hl'];rfl
theorem Mr (l:List UInt32)(hl:l.length<=2199023255552):Ok Tryz.prog 72 [tn l] true (tn l):=by
 refine aw bN mix Tryz.func72 rfl rfl B1 (zO rfl) ?_
 repeat'(first|(with_reducible first|(refine zz ?_;try intro K hK)|refine zi ?_|refine zh ?_)|((first|apply hK _ _ rfl|apply hK);clear hK K)|(guard_hyp hK;first|refine zy ?_|apply ab|apply aa|(refine aY ?_;intro hu)|refine zP wA ?_|(refine aD ?_;intro hm1 hm2)|refine zP aZ ?_|refine zP rfl ?_|intro b0 hb)|((first|refine zj ?_|guard_hyp hK);refine zY ?_ ?_;all_goals(intro hb;(try simp only [sb] at hb);try exact ao)))
 ·rename_i h;refine UO trivial (jK ?_);simpa [tn] using (h hb).symm
 ·refine UO trivial (gW (l:=l) (F:=fun x=>V.af (.int .u32 x.toNat)) (G:=bw) rfl rfl rfl ?_ ?_ (fun a _=>gp _) rfl)
  ·simp
  ·show List.take _ (List.drop 0 (List.take 0 [] ++ _))=_;simp [Function.comp_def,bw,V.IL,V.nC,B7]
theorem iu (l:List UInt32)(hl:l.length<=2199023255552):Ok Tryz.prog 49 [tn l] true (tn (norm l)):=by
 refine aw bN mix Tryz.func49 rfl rfl B1 (zO rfl) ?_;have hn:=norm_le l
 repeat'(first|(with_reducible first|(refine zz ?_;try intro K hK)|refine zi ?_|refine zh ?_)|((first|apply hK _ _ rfl|apply hK);clear hK K)|(guard_hyp hK;first|refine zy ?_|apply ab|apply aa|(refine aY ?_;intro hu)|refine zP wA ?_|(refine aD ?_;intro hm1 hm2)|refine zP aZ ?_|refine zP rfl ?_|(refine zQ (eo l A8) ?_)|(refine zQ (Mr (norm l) A8) ?_)|intro b0 hb)|((first|refine zj ?_|guard_hyp hK);refine zY ?_ ?_;all_goals(intro hb;(try simp only [sb] at hb);try exact ao)))
 ·refine UO trivial (jK ?_);have:norm l=[]:=C8 A8;rw [this];rfl
 ·refine UO trivial (kr rfl fun h=>h)
theorem GC (l:List UInt32)(hl:l.length<=2199023255552):Ok Tryz.prog 166 [tn l] true (tn (norm l)):=by
 refine aw bN mix Tryz.func166 rfl rfl B1 (zO rfl) ?_
 repeat'(first|(with_reducible first|(refine zz ?_;try intro K hK)|refine zi ?_|refine zh ?_)|((first|apply hK _ _ rfl|apply hK);clear hK K)|(guard_hyp hK;first|refine zy ?_|apply ab|apply aa|(refine aY ?_;intro hu)|refine zP wA ?_|(refine aD ?_;intro hm1 hm2)|refine zP aZ ?_|refine zP rfl ?_|(refine zQ (iu l hl) ?_)|intro b0 hb)|((first|refine zj ?_|guard_hyp hK);refine zY ?_ ?_;all_goals(intro hb;(try simp only [sb] at hb);try exact ao)))
 ·refine UO trivial (kr rfl fun h=>h)
theorem VF (u:UInt64):Ok Tryz.prog 101 [.af (.int .u64 u.toNat)] true (tn (norm [u.toUInt32,(u >>> 32).toUInt32])):=by
 refine aw bN mix Tryz.func101 rfl rfl B1 (zO rfl) ?_
 repeat'(first|(with_reducible first|(refine zz ?_;try intro K hK)|refine zi ?_|refine zh ?_)|((first|apply hK _ _ rfl|apply hK);clear hK K)|(guard_hyp hK;first|refine zy ?_|apply ab|apply aa|(refine aY ?_;intro hu)|refine zP wA ?_|(refine aD ?_;intro hm1 hm2)|refine zP aZ ?_|refine zP rfl ?_|intro b0 hb)|((first|refine zj ?_|guard_hyp hK);refine zY ?_ ?_;all_goals(intro hb;(try simp only [sb] at hb);try exact ao)))
 refine Or.inl (Sk _ (Sk _ (Sk _ (UO (iu [u.toUInt32,(u >>> 32).toUInt32] (by simp)) (Sk [(0,?o)] (UO (uC ?ho) (UO ?z (UO rfl ?_))))))))
 case ho=>exact rfl
 case z=>
  refine DZ (gW (l:=[u.toUInt32,(u >>> 32).toUInt32]) (F:=fun x=>V.af (.int .u32 x.toNat)) (G:=bw) rfl rfl rfl rfl ?_ (fun a _=>gp _) rfl);have e1:IntKind.u32.wrap u.toNat=u.toUInt32.toNat:=by simp [IntKind.wrap,IntKind.bits,IntKind.signed]
  have e2:IntKind.u32.wrap ((u.toNat:Int).fdiv (2 ^ 32))=((u >>> 32).toUInt32).toNat:=by
   simp [IntKind.wrap,IntKind.bits,IntKind.signed,Int.fdiv_eq_ediv,Nat.shiftRight_eq_div_pow]
  show [V.af (.int .u32 (IntKind.u32.wrap u.toNat)),V.af (.int .u32 (IntKind.u32.wrap ((u.toNat:Int).fdiv (2 ^ 32))))]=_;rw [e1,e2];rfl
 repeat'(first|(with_reducible first|(refine zz ?_;try intro K hK)|refine zi ?_|refine zh ?_)|((first|apply hK _ _ rfl|apply hK);clear hK K)|(guard_hyp hK;first|refine zy ?_|apply ab|apply aa|(refine aY ?_;intro hu)|refine zP wA ?_|(refine aD ?_;intro hm1 hm2)|refine zP aZ ?_|refine zP rfl ?_|intro b0 hb)|((first|refine zj ?_|guard_hyp hK);refine zY ?_ ?_;all_goals(intro hb;(try simp only [sb] at hb);try exact ao)))
 ·exact UO trivial (kr rfl fun h=>h)
theorem MW (a b:List UInt32)(ha:a.length<=2199023255552)(hb:b.length<=2199023255552):Ok Tryz.prog 153 [tn a,tn b] false (.af (.int .i64 (qW (val a) (val b)))):=by
 refine aw bN mix Tryz.func153 rfl rfl B1 (zO rfl) ?_;have hna:=norm_le a;have hnb:=norm_le b
 repeat'(first|(with_reducible first|(refine zz ?_;try intro K hK)|refine zi ?_|refine zh ?_)|((first|apply hK _ _ rfl|apply hK);clear hK K)|(guard_hyp hK;first|refine zy ?_|apply ab|apply aa|(refine aY ?_;intro hu)|refine zP wA ?_|(refine aD ?_;intro hm1 hm2)|refine zP aZ ?_|refine zP rfl ?_|(refine zQ (eo a A8) ?_)|(refine zQ (eo b A8) ?_)|intro b0 hb)|((first|refine zj ?_|guard_hyp hK);refine zY ?_ ?_;all_goals(intro hb;(try simp only [sb] at hb);try exact ao)))
 ·exact UO trivial (ay (by rw [<- bX a,<- bX b,zo (kX (jj b) A8)]))
 ·exact UO trivial (ay (by rw [<- bX a,<- bX b,Gr (kX (jj a) A8)]))
 rw [<- bX a,<- bX b];have hl:(norm a).length=(norm b).length:=by omega
 have hx:(norm a).length<=2199023255552:=by omega
 clear hna hnb hb;generalize norm a=x at *;generalize norm b=y at *;refine aT Int (fun i=>⟨Tryz.f153.ntmps,[(0,.ro false (tn x)),(1,.ro false (tn y)),(5,.af (.int .i64 i))],[]⟩) (fun i=>-1<=i/\i < x.length/\x.drop (i+1).toNat=y.drop (i+1).toNat) (fun i=>(i+1).toNat) [] (x.length - 1:Int) trivial ⟨by omega,by omega,?_⟩ ⟨rfl,⟨rfl,trivial,rfl,trivial,?_,trivial,trivial⟩,trivial,trivial⟩ ?_
 ·have e:(↑x.length - 1+1:Int).toNat=x.length:=by omega
  rw [e,I7 (wU _),I7 A8]
 ·show V.af (.int .i64 (((x.map bw).length:Int) - 1))=_;rw [List.length_map]
 rintro i ⟨h0,h1,h2⟩
 repeat'(first|(with_reducible first|(refine zz ?_;try intro K hK)|refine zi ?_|refine zh ?_)|((first|apply hK _ _ rfl|apply hK);clear hK K)|(guard_hyp hK;first|refine zy ?_|apply ab|apply aa|(refine aY ?_;intro hu)|refine zP wA ?_|(refine aD ?_;intro hm1 hm2)|refine zP aZ ?_|refine zP rfl ?_|intro b0 hb)|((first|refine zj ?_|guard_hyp hK);refine zY ?_ ?_;all_goals(intro hb;(try simp only [sb] at hb);try exact ao)))
 ·have e:i.toNat+1=(i+1).toNat:=by omega
  exact UO trivial (ay (by rw [zo (xz i.toNat x y hl A8 (by rw [e];exact h2) A8)]))
 ·have e:i.toNat+1=(i+1).toNat:=by omega
  exact UO trivial (ay (by rw [Gr (xz i.toNat y x hl.symm A8 (by rw [e];exact h2.symm) A8)]))
 ·have e:i.toNat+1=(i+1).toNat:=by omega
  refine⟨i - 1,⟨by omega,by omega,?_⟩,by omega,rfl,⟨rfl,trivial,rfl,trivial,rfl,trivial,trivial⟩,trivial,trivial⟩;rw [show i - 1+1=i by omega];exact zl hl A8 (by rw [e];exact h2) A8
 ·rw [show(i+1).toNat=0 by omega] at h2;have h2:x=y:=h2;subst h2;exact UO trivial (ay (by rw [PN]))
def On (m:Nat->Nat)(oh oh1:OH)(el el1:List V):Prop:=∀(k:Nat) (e e1:V),el[k]?=some e->el1[k]?=some e1->jN m oh oh1 e e1
def sr (m:Nat->Nat)(oh oh1:OH):OH->Prop
 | []=>True
 |(i,o1) :: r=>(∃o,ae oh (m i)=some o/\o.live=true/\o1.live=true/\o1.ver=0/\o1.sz=o.sz/\o1.el.length=o.el.length/\On m oh oh1 o.el o1.el)/\sr m oh oh1 r
theorem Dk {oh oh1:OH}{m:Nat->Nat}(hi:∀i ∈ oh1.map (·.1),∀j ∈ oh1.map (·.1),m i=m j->i=j)(h:sr m oh oh1 oh1):Ren oh oh1 m:=by
 have key:∀(l:OH),sr m oh oh1 l->∀i o1,ae l i=some o1->∃o,ae oh (m i)=some o/\o.live=true/\o1.live=true/\o1.ver=0/\o1.sz=o.sz/\o1.el.length=o.el.length/\On m oh oh1 o.el o1.el:=by
  intro l
  induction l with
  |nil=>intro _ i o1 h;cases h
  |cons p r ih=>
   obtain⟨j,x⟩:=p;intro hl i o1 ho;by_cases e:j=i
   ·subst e;rw [an] at ho;obtain rfl:x=o1:=by simpa using ho
    exact hl.1
   ·rw [ah _ _ (H5 e)] at ho;exact ih hl.2 i o1 ho
 exact⟨fun i j o1 o2 h1 h2 e=>hi i (kg h1) j (kg h2) e,fun i o1 ho=>key oh1 h i o1 ho⟩
def Lu (m:Nat->Nat)(oh oh1:OH)(e:Env):Env->Prop
 | []=>True
 |(t,v) :: r=>jN m oh oh1 (aA e t) v/\Lu m oh oh1 e r
theorem Bz {m:Nat->Nat}{oh oh1:OH}{e:Env}:∀{e1:Env},Lu m oh oh1 e e1->∀t,aA e1 t=.undef\/jN m oh oh1 (aA e t) (aA e1 t)
 | [],_,t=>.inl rfl
 |(k,v) :: r,h,t=>by
  by_cases e:k=t
  ·subst e;rw [show aA ((k,v) :: r) k=v by simp [aA]];exact .inr h.1
  ·rw [show aA ((k,v) :: r) t=aA r t by simp [aA,e]];exact Bz h.2 t
theorem UP {n:Nat}{e e1:Env}{oh oh1:OH}(m:Nat->Nat)(hi:∀i ∈ oh1.map (·.1),∀j ∈ oh1.map (·.1),m i=m j->i=j)(ho:sr m oh oh1 oh1)(he:Lu m oh oh1 e e1):Lr ⟨n,e1,oh1⟩ ⟨n,e,oh⟩:=
 ⟨rfl,m,Dk hi ho,Bz he⟩
theorem Ba {m:Nat->Nat}{oh oh1:OH}{a b:V}(h:jN m oh oh1 a b):On m oh oh1 [a] [b]:=by
 intro k e e1 h1 h2
 cases k with
 |zero=>simp at h1 h2;subst h1;subst h2;exact h
 |succ k=>simp at h1
theorem wD {m:Nat->Nat}{oh oh1:OH}{v:V}(h:v.xb):fg m oh oh1 v v:=by
 cases v with
 |af v=>exact .af v
 |ro f t=>exact .ro f t
 |emp=>exact .emp
 |_=>exact h.elim
theorem qs {m:Nat->Nat}{oh oh1:OH}{v:V}(h:v.flat):jN m oh oh1 v v:=by
 have k:=@wD m oh oh1 v
 cases v with
 |agg l=>
  refine⟨rfl,fun j a b h1 h2=>?_⟩;rw [h1] at h2;obtain rfl:a=b:=by simpa using h2
  exact wD (h a (MH h1))
 |_=>exact k h
theorem nb {m:Nat->Nat}{oh oh1:OH}{l:List V}(h:∀v ∈ l,v.flat):On m oh oh1 l l:=by
 intro k e e1 h1 h2;rw [h1] at h2;obtain rfl:e=e1:=by simpa using h2
 exact qs (h e (MH h1))
theorem Kx {m:Nat->Nat}{oh oh1:OH}{i j ver off len:Nat}{o:Obj}(e:m i=j)(ho:ae oh j=some o)(hv:o.ver=ver)(h1:(ae oh1 i).isSome=true):fg m oh oh1 (.own j ver off len) (.own i 0 off len):=by
 subst e;exact .own _ _ _ _ _ ho hv h1
theorem Bb {m:Nat->Nat}{oh oh1:OH}{i j ver k foff:Nat}{o:Obj}(e:m i=j)(ho:ae oh j=some o)(hv:o.ver=ver)(h1:(ae oh1 i).isSome=true):fg m oh oh1 (.ref j ver k foff) (.ref i 0 k foff):=by
 subst e;exact .ref _ _ _ _ _ ho hv h1
def bs (s:ByteArray):List UInt8:=s.data.toList
def ax (s:ByteArray)(i:Nat):UInt8:=(bs s).getD i 0
theorem aU (s:ByteArray):(bs s).length=s.size:=J1
theorem Qe (a:Array UInt8)(i:Nat):(ByteArray.mk a)[i]?=a[i]?:=by
 by_cases h:i < a.size
 ·rw [E3 h];exact I2 h
 ·rw [S6 A8];exact O4 h
theorem fy {s:ByteArray}{i:Nat}{Q:UInt8->Prop}(k:(ax s i).toNat < 256->Q (ax s i))(h:i < s.size:=by first|omega|(simp only [ln];omega)):∃b:UInt8,s[i]?=some b/\Q b:=by
 refine⟨ax s i,?_,k (T2 _)⟩;have h2:i < s.data.size:=h;have e:s[i]?=s.data[i]?:=Qe s.data i;rw [e];unfold ax bs;rw [List.getD,J7,E3 h2];rfl
theorem lC {P:Program}{fn:Func}{f:Bool}{s:St}{t:Nat}{a b:Bool}(hr:fn.results.toList=[.tmp t])(he:aA s.env t=.af (.bool a))(h:a=b):kz P fn f (.af (.bool b)) .ret s:=by
 refine⟨trivial,?_⟩;rw [hr];show gM s.oh f (aA s.env t) _;rw [he,h];exact jF.af _
theorem UA {P:Program}{fn:Func}{f:Bool}{s:St}{t:Nat}{k:IntKind}{a b:Int}(hr:fn.results.toList=[.tmp t])(he:aA s.env t=.af (.int k a))(h:a=b):kz P fn f (.af (.int k b)) .ret s:=by
 refine⟨trivial,?_⟩;rw [hr];show gM s.oh f (aA s.env t) _;rw [he,h];exact jF.af _
def isLet (b:UInt8):Bool:=(decide (65<=b.toNat) && decide (b.toNat<=90)) ||(decide (97<=b.toNat) && decide (b.toNat<=122)) ||decide (b.toNat=95)
def ak (b:UInt8):Bool:=decide (48<=b.toNat) && decide (b.toNat<=57)
def gj (b:UInt8):Bool:=decide (b.toNat=32) ||decide (b.toNat=9) ||decide (b.toNat=10) ||decide (b.toNat=13)
def Wy : ByteArray:=⟨#[123,125,40,41,91,93,44,59,124,61,43,45,42,47]⟩
def Ri (b:UInt8):Bool:=decide (b ∈ bs Wy)
def ar (p:UInt8->Bool)(s:ByteArray)(i:Nat):Nat:=(((bs s).drop i).takeWhile p).length
def tb (b:UInt8):T:=.af (.int .u8 b.toNat)
theorem drop_at {s:ByteArray}{i:Nat}(h:i < s.size):(bs s).drop i=ax s i :: (bs s).drop (i+1):=by
 have h2:i < (bs s).length:=by rw [aU];exact h
 rw [F7 h2];unfold ax;rw [List.getD,uz h2];rfl
theorem lT {p:UInt8->Bool}{s:ByteArray}{i:Nat}(h:s.size<=i):ar p s i=0:=by
 unfold ar;rw [I7 (by rw [aU];exact h)];rfl
theorem fj {p:UInt8->Bool}{s:ByteArray}{i:Nat}(h:i < s.size)(hp:p (ax s i)=true):ar p s i=ar p s (i+1)+1:=by
 unfold ar;rw [drop_at h,R9,if_pos hp];rfl
theorem na {p:UInt8->Bool}{s:ByteArray}{i:Nat}(h:i < s.size)(hp:p (ax s i)=false):ar p s i=0:=by
 unfold ar;rw [drop_at h,R9,if_neg (by rw [hp];exact B6)];rfl
theorem fC {p:UInt8->Bool}{s:ByteArray}{i:Nat}(h:i<=s.size):i+ar p s i<=s.size:=by
 have h1:(((bs s).drop i).takeWhile p).length<=((bs s).drop i).length:=(List.takeWhile_sublist p).length_le;rw [List.length_drop,aU] at h1;unfold ar;omega
def gG (s:ByteArray):T:=.af (.string s)
def bp (b:UInt8):Bool:=isLet b ||ak b
theorem bU {s:ByteArray}{i:Nat}(h:s.size<=i):ax s i=0:=by
 unfold ax;rw [List.getD,Q6 (by rw [aU];exact h)];rfl
def eg (l:List UInt8):Nat:=l.foldl (fun v b=>10 * v+(b.toNat - 48)) 0
def jM (s:ByteArray):Prop:=∀i,i < s.size->ak (ax s i)=true
theorem Ir {s:ByteArray}{i:Nat}(h:i < s.size):eg ((bs s).take (i+1))=10 * eg ((bs s).take i)+((ax s i).toNat - 48):=by
 have h2:i < (bs s).length:=by rw [aU];exact h
 unfold eg;rw [I6 h2,List.foldl_append];unfold ax;rw [List.getD,uz h2];rfl
def sub (s:ByteArray)(i n:Nat):ByteArray:=s.extract i (i+n)
def aI (s:ByteArray):Nat:=if(ax s (ar ak s 0)).toNat=46/\0 < ar ak s (ar ak s 0+1) then ar ak s 0+1+ar ak s (ar ak s 0+1) else ar ak s 0
def bJ (s:ByteArray):Nat:=if(ax s (aI s+1)).toNat=43\/(ax s (aI s+1)).toNat=45 then aI s+2 else aI s+1
def eM (s:ByteArray):Prop:=((ax s (aI s)).toNat=101\/(ax s (aI s)).toNat=69)/\0 < ar ak s (bJ s)
instance  (s:ByteArray):Decidable (eM s):=inferInstanceAs (Decidable (_/\_))
def aS (s:ByteArray):Nat:=if eM s then bJ s+ar ak s (bJ s) else aI s
def kh (s:ByteArray):Bool:=decide (eM s) && decide (1000 < eg (bs (sub s (bJ s) (ar ak s (bJ s)))))
theorem jH (s:ByteArray)(i n:Nat):bs (sub s i n)=((bs s).drop i).take n:=by
 unfold sub bs;rw [V4,T3,T8];rw [show i+n - i=n by omega]
theorem so {s:ByteArray}{i n:Nat}(h:i+n<=s.size):(sub s i n).size=n:=by
 rw [<- aU,jH,List.length_take,List.length_drop,aU];omega
theorem Fb {s:ByteArray}{i n j:Nat}(h:j < n):ax (sub s i n) j=ax s (i+j):=by
 unfold ax;rw [jH,List.getD,List.getD,E8 h,G0]
theorem tJ {p:UInt8->Bool}{s:ByteArray}{i j:Nat}(h:j < ar p s i):p (ax s (i+j))=true:=by
 unfold ar at h;have h2:(((bs s).drop i).takeWhile p)[j]?=some ((((bs s).drop i).takeWhile p)[j]):=uz h;have h3:=MH h2;have h4:p _=true:=(List.all_takeWhile (l:=(bs s).drop i) (p:=p) |> F8.1) _ h3
 have h5:((bs s).drop i)[j]?=some ((((bs s).drop i).takeWhile p)[j]):=by
  have:=List.takeWhile_prefix p (l:=(bs s).drop i);obtain⟨t,ht⟩:=this
  conv=>lhs;rw [<- ht]
  rw [C5 h,h2]
 rw [G0] at h5;unfold ax;rw [List.getD,h5];exact h4
theorem Km {s:ByteArray}{i:Nat}(h:i<=s.size):jM (sub s i (ar ak s i)):=by
 intro j hj;rw [so (fC h)] at hj;rw [Fb hj];exact tJ hj
theorem iM {s:ByteArray}:aI s<=s.size:=by
 have h0:=fC (p:=ak) (s:=s) (i:=0) (C0 _);unfold aI;split
 ·rename_i h
  have h3:ar ak s 0 < s.size:=by
   rcases G8 (ar ak s 0) s.size with h9|h9
   ·exact h9
   ·rw [bU h9] at h;exact absurd h.1 B3
  exact fC A8
 ·omega
def dv (s:ByteArray)(i:Nat)(out:ByteArray):Nat×ByteArray×Bool:=
 if h:i < s.size then
  if(ax s i).toNat=34 then(i+1,out,true)
  else if(ax s i).toNat=10 then(0,⟨#[]⟩,false)
  else if(ax s i).toNat=92 then
   if(ax s (i+1)).toNat≠34/\(ax s (i+1)).toNat≠92 then(0,⟨#[]⟩,false)
   else dv s (i+2) (out ++ sub s (i+1) 1)
  else dv s (i+1) (out ++ sub s i 1)
 else(0,⟨#[]⟩,false)
termination_by s.size - i
theorem Mt {out s:ByteArray}{a b:Nat}{Q:Prop}(ho:out.size<=1073741826)(hs:s.size<=1073741824)(h:Q):out.size+(s.extract a b).size<=9223372036854775807/\Q:=by
 refine⟨?_,h⟩;rw [F5];omega
def fJ (s:ByteArray)(i:Nat):Int:=
 if h:i < s.size then
  if(ax s 1).toNat=47/\(ax s i).toNat=10 then i
  else if(ax s 1).toNat=42/\(ax s i).toNat=42/\(ax s (i+1)).toNat=47 then i+2
  else fJ s (i+1)
 else if(ax s 1).toNat=47 then s.size else -1
termination_by s.size - i
def bf (s:ByteArray):Int:=if gj (ax s 0)=true then 1 else if(ax s 0).toNat≠47\/((ax s 1).toNat≠47/\(ax s 1).toNat≠42) then 0 else fJ s 2
structure TM where
 n:Nat
 kind:Nat
 text:ByteArray
 code:Nat
 word:ByteArray
def eS : ByteArray:=.empty
def aH (s:ByteArray):TM:=
 if bf s < 0 then⟨0,0,eS,21,⟨#[47,42]⟩⟩
 else if 0 < bf s then⟨(bf s).toNat,0,eS,0,eS⟩
 else if isLet (ax s 0)=true then(if 64 < ar bp s 0 then⟨0,0,eS,20,s.extract 0 (ar bp s 0)⟩ else⟨ar bp s 0,1,s.extract 0 (ar bp s 0),0,eS⟩)
 else if ak (ax s 0)=true then
  (if kh s=true\/isLet (ax s (aS s))=true then⟨0,0,eS,22,s.extract 0 (aS s+ar bp s (aS s))⟩ else⟨aS s,2,s.extract 0 (aS s),0,eS⟩)
 else if(ax s 0).toNat=34 then(if(dv s 1 ⟨#[]⟩).2.2=true then⟨(dv s 1 ⟨#[]⟩).1,3,(dv s 1 ⟨#[]⟩).2.1,0,eS⟩ else⟨0,0,eS,21,⟨#[34]⟩⟩)
 else if Ri (ax s 0)=true then⟨1,4,s.extract 0 1,0,eS⟩
 else⟨0,0,eS,20,s.extract 0 1⟩
def Ud (k:Int)(w:ByteArray)(l c:Int):T:=.agg [.af (.int .i8 k),.af (.string w),.af (.int .i64 l),.af (.int .i64 c)]
def XO (c l k:Int)(w:ByteArray):T:=.agg [.af (.int .i64 c),.af (.int .i64 l),.af (.int .i64 k),.af (.string w)]
theorem yD {s:ByteArray}:aS s<=s.size:=by
 have hA:=iM (s:=s);unfold aS;split
 ·rename_i h
  have hk:bJ s < s.size:=by
   rcases G8 (bJ s) s.size with h9|h9
   ·exact h9
   ·have:=h.2;rw [lT h9] at this;omega
  exact fC A8
 ·exact hA
theorem AY {P:Program}{s:St}{a t id ver sz:Nat}{l:List V}{fs:List (Nat×Nat)}{z:List Value}{K:V->Prop}(ht:tk P t=.st fs z)(hz:z.length=l.length)(h0:0 < l.length)
  (ha:aA s.env a=.ref id ver 0 0) (ho:ae s.oh id=some ⟨sz,[.agg l],ver,true⟩) (hk:K (.agg l)):ef P s (.cell a t) K:=by
 show rj (tk P t) s.oh (aA s.env a) _;rw [ha,ht];show use s.oh id ver _;unfold use;rw [ho];refine⟨rfl,rfl,.agg l,rfl,by simp only [TK.size];omega,by simp only [TK.size,V.cells];omega,?_⟩;show K (V.cz true ((l.drop 0).take z.length));rw [F4,hz,J0];exact hk
theorem PB {oh:OH}{f:Bool}(l:List Value):gM oh f (.agg (l.map .af)) (.agg (l.map .af)):=by
 refine⟨by rw [List.length_map,List.length_map],fun j v t h1 h2=>?_⟩;rw [Zf] at h1 h2;obtain⟨a,ha,rfl⟩:=C1.1 h1;rw [ha] at h2;obtain rfl:T.af a=t:=by simpa using h2
 exact jF.af a
def aj (s:ByteArray):Nat->Nat×Nat
 |0=>(1,1)
 |i+1=>if(ax s i).toNat=10 then((aj s i).1+1,1) else((aj s i).1,(aj s i).2+1)
theorem qD (s:ByteArray):∀i,(aj s i).1<=i+1/\(aj s i).2<=i+1
 |0=>⟨wU _,wU _⟩
 |i+1=>by
  have:=qD s i;rw [aj];split<;>(simp only;omega)
end Go.Ev
