import Derived.Test.YthpoegdjffdojaaGreatDoorTLbd
import Derived.Test.YthpoegdjffdojaaGreatDoorTLbh
set_option linter.all false
set_option maxHeartbeats 60000000
set_option maxRecDepth 10000
namespace Go.Ev
open Go.Proofs
theorem EV {α:Type}(p:α→Bool):∀(l:List α) (m:Nat),((l.take m).takeWhile p).length=min (l.takeWhile p).length m
 | [],m=>by simp
 |a :: r,0=>by simp
 |a :: r,m+1=>by
  rw [List.take_succ_cons,List.takeWhile_cons,List.takeWhile_cons];split
  ·rw [List.length_cons,List.length_cons,EV p r m];omega
  ·simp
theorem sv {s:ByteArray}{n i:Nat}(p:UInt8→Bool):ar p (s.extract 0 n) i=min (ar p s i) (n - i):=by
 unfold ar;rw [cZ,List.drop_zero,Nat.sub_zero,List.drop_take,EV]
theorem jv {s:ByteArray}{n i:Nat}(h:i < n):ax (s.extract 0 n) i=ax s i:=by rw [cI Yy,Nat.zero_add]
theorem wV {s:ByteArray}{i:Nat}(h:(ax s i).toNat≠0):i < s.size:=by
 rcases Nat.lt_or_ge i s.size with h9|h9
 ·exact h9
 ·rw [bU h9] at h;exact absurd rfl h
theorem Lj {s:ByteArray}(hd:ak (ax s 0)=true)(hb:kh s=false)(h1:1≤s.size):lu (s.extract 0 (aS s)):=by
 have hpos:=Bs hd h1;have hle:=yD (s:=s);have hA:=iM (s:=s);have hA0:=Bt hd h1;have hsz:(s.extract 0 (aS s)).size=aS s:=by rw [dQ hle];omega
 have ha:ar ak s 0≤aI s:=by unfold aI;split<;>omega
 have key:aI s≤aS s→(aI s < aS s∨aI s=aS s)→aI (s.extract 0 (aS s))=aI s:=by
  intro hAF _;have r0:ar ak (s.extract 0 (aS s)) 0=ar ak s 0:=by rw [sv];omega
  by_cases c:(ax s (ar ak s 0)).toNat=46∧0 < ar ak s (ar ak s 0+1)
  ·have eA:aI s=ar ak s 0+1+ar ak s (ar ak s 0+1):=if_pos c;have r1:ar ak (s.extract 0 (aS s)) (ar ak s 0+1)=ar ak s (ar ak s 0+1):=by rw [sv];omega
   have e:(ax (s.extract 0 (aS s)) (ar ak (s.extract 0 (aS s)) 0)).toNat=46∧0 < ar ak (s.extract 0 (aS s)) (ar ak (s.extract 0 (aS s)) 0+1):=by
    rw [r0,r1,jv Yy];exact c
   rw [show aI (s.extract 0 (aS s))=_ from if_pos e,r0,r1,eA]
  ·have eA:aI s=ar ak s 0:=if_neg c
   have e:¬((ax (s.extract 0 (aS s)) (ar ak (s.extract 0 (aS s)) 0)).toNat=46∧0 < ar ak (s.extract 0 (aS s)) (ar ak (s.extract 0 (aS s)) 0+1)):=by
    rw [r0];rintro⟨e1,e2⟩;rw [sv] at e2;have hlt:=wV (s:=s.extract 0 (aS s)) (i:=ar ak s 0) Yy;rw [hsz] at hlt;rw [jv hlt] at e1;exact c ⟨e1,by omega⟩
   rw [show aI (s.extract 0 (aS s))=_ from if_neg e,r0,eA]
 by_cases c:eM s
 ·have eF:aS s=bJ s+ar ak s (bJ s):=if_pos c;have hK:aI s+1≤bJ s:=by unfold bJ;split<;>omega
  have hx:=c.2;have wA:=key Yy (.inl Yy)
  have wK:bJ (s.extract 0 (aS s))=bJ s:=by
   unfold bJ;rw [wA,jv Yy]
  have wx:ar ak (s.extract 0 (aS s)) (bJ s)=ar ak s (bJ s):=by rw [sv];omega
  have wE:eM (s.extract 0 (aS s)):=by
   unfold eM;rw [wA,wK,wx,jv Yy];exact c
  have wF:aS (s.extract 0 (aS s))=aS s:=by
   rw [show aS (s.extract 0 (aS s))=_ from if_pos wE,wK,wx,← eF]
  have wS:sub (s.extract 0 (aS s)) (bJ s) (ar ak s (bJ s))=sub s (bJ s) (ar ak s (bJ s)):=by
   refine qX ?_;rw [jH,jH,cZ,List.drop_zero,Nat.sub_zero,List.drop_take,List.take_take]
   congr 1;omega
  refine⟨by rw [jv hpos];exact hd,by rw [wF,hsz],?_,by rw [hsz];exact hpos⟩;unfold kh at hb ⊢;rw [wK,wx,wS,decide_eq_true wE];rw [decide_eq_true c] at hb;exact hb
 ·have eF:aS s=aI s:=if_neg c;have wA:=key Yy (.inr eF.symm)
  have wE:¬eM (s.extract 0 (aS s)):=by
   rintro⟨e1,-⟩;rw [wA,bU (by rw [hsz,eF];exact Nat.le_refl _)] at e1;exact absurd e1 YA
  have wF:aS (s.extract 0 (aS s))=aS s:=by
   rw [show aS (s.extract 0 (aS s))=_ from if_neg wE,wA,eF]
  refine⟨by rw [jv hpos];exact hd,by rw [wF,hsz],?_,by rw [hsz];exact hpos⟩;unfold kh;rw [decide_eq_false wE,Bool.false_and]
theorem tS (s:ByteArray)(i:Nat)(out:ByteArray)(h:out.size≤i)(hi:i≤s.size+2):(dv s i out).2.1.size≤s.size+2:=by
 rw [dv];split
 ·rename_i hlt;split
  ·simp only;omega
  ·split
   ·exact Nat.zero_le _
   ·split
    ·split
     ·exact Nat.zero_le _
     ·rename_i h4;have hlt2:i+1 < s.size:=wV Yy;exact tS s (i+2) _ (by rw [ByteArray.size_append,so Yy];omega) Yy
    ·exact tS s (i+1) _ (by rw [ByteArray.size_append,so Yy];omega) Yy
 ·exact Nat.zero_le _
termination_by s.size+2 - i
def MN (n:Nat)(t:Tok):Prop:=t.text.size≤n+2∧(t.kind=2→lu t.text)
theorem JB {s:ByteArray}(h1:1≤s.size)(l c:Int):MN s.size ⟨(aH s).kind,(aH s).text,l,c⟩:=by
 have he:eS.size=0:=rfl;have hx:∀n,(s.extract 0 n).size≤s.size:=fun n=>by rw [ByteArray.size_extract];omega
 unfold MN aH;split
 ·exact⟨Nat.zero_le _,fun h=>by(exfalso;dsimp only at h;revert h;decide)⟩
 ·split
  ·exact⟨Nat.zero_le _,fun h=>by(exfalso;dsimp only at h;revert h;decide)⟩
  ·split
   ·split
    ·exact⟨Nat.zero_le _,fun h=>by(exfalso;dsimp only at h;revert h;decide)⟩
    ·exact⟨Nat.le_trans (hx _) Yy,fun h=>by(exfalso;dsimp only at h;revert h;decide)⟩
   ·split
    ·rename_i hd;split
     ·exact⟨Nat.zero_le _,fun h=>by(exfalso;dsimp only at h;revert h;decide)⟩
     ·rename_i hb;refine⟨Nat.le_trans (hx _) Yy,fun _=>Lj hd ?_ h1⟩
      cases hB:kh s with
      |false=>rfl
      |true=>exact absurd (.inl hB) hb
    ·split
     ·split
      ·exact⟨tS s 1 _ YA Yy,fun h=>by(exfalso;dsimp only at h;revert h;decide)⟩
      ·exact⟨Nat.zero_le _,fun h=>by(exfalso;dsimp only at h;revert h;decide)⟩
     ·split
      ·exact⟨Nat.le_trans (hx _) Yy,fun h=>by(exfalso;dsimp only at h;revert h;decide)⟩
      ·exact⟨Nat.zero_le _,fun h=>by(exfalso;dsimp only at h;revert h;decide)⟩
theorem zN (s:ByteArray)(i:Nat)(hi:i≤s.size):(bQ s i).1.length+i≤s.size+1∧∀t ∈ (bQ s i).1,MN s.size t:=by
 rw [bQ];split
 ·rename_i hlt;have hl:=tL hi;split
  ·exact⟨by simp;omega,fun t ht=>by simp at ht⟩
  ·rename_i hc;have hp:=kH (s:=s.extract i s.size) Yy (Decidable.not_not.1 hc);have ih:=zN s (i+(aH (s.extract i s.size)).n) Yy;split
   ·split
    ·refine⟨by simp only [List.length_cons];omega,fun t ht=>?_⟩;rcases List.mem_cons.1 ht with rfl|ht
     ·have:=JB (s:=s.extract i s.size) Yy (aj s i).1 (aj s i).2;exact⟨by have:=this.1;simp only at this ⊢;omega,this.2⟩
     ·exact ih.2 t ht
    ·exact⟨by omega,ih.2⟩
   ·exact⟨by simp;omega,fun t ht=>by simp at ht⟩
 ·refine⟨by simp only [List.length_singleton];omega,fun t ht=>?_⟩;obtain rfl:=List.mem_singleton.1 ht;exact⟨Nat.zero_le _,fun h=>by(exfalso;dsimp only at h;revert h;decide)⟩
termination_by s.size - i
theorem xG (s:ByteArray)(hs:s.size≤134217728):Fit (fQ s):=by
 obtain⟨h1,h2⟩:=zN s 0 (Nat.zero_le _);exact⟨by show(bQ s 0).1.length≤_;omega,fun t ht=>by have:=(h2 t ht).1;omega⟩
open PS (cE eZ dW eY iS)
instance  : Inhabited cE:=⟨⟨0,0,0⟩⟩
instance  : Inhabited eZ:=⟨⟨0,[],[]⟩⟩
instance  : Inhabited dW:=⟨⟨.empty,0,[],[]⟩⟩
instance  : Inhabited eY:=⟨⟨.empty,[],[],[]⟩⟩
instance  : Inhabited ByteArray:=⟨.empty⟩
def mN {α:Type}(l:List α):Prop:=l.length≤4611686018427387904
structure xo (t:cE):Prop where
 z:mN (lm t.z.natAbs)
 d:mN (lm t.d)
structure Tu (L:List (List cE)):Prop where
 len:mN L
 el:∀l ∈ L,mN l∧∀t ∈ l,xo t
structure VK (e:eZ):Prop where
 given:mN e.given
 nums:Tu e.nums
structure Rb (v:dW):Prop where
 count:mN (lm v.count)
 dL:mN v.dL
 aN:mN v.aN
structure Re (p:eY):Prop where
 cX:mN p.cX
 aN:mN p.aN
 bg:mN p.bg
 el:∀e ∈ p.bg,VK e
structure Ri (f:iS):Prop where
 aN:mN f.aN
 vars:mN f.vars
 bG:mN f.bG
 XK:∀v ∈ f.vars,Rb v
 Yc:∀p ∈ f.bG,Re p
theorem kq {α:Type}[Inhabited α]{l:List α}{i:Nat}(h:i < l.length):l.getD i default ∈ l:=by
 rw [List.getD,List.getElem?_eq_getElem h];exact List.getElem_mem h
theorem Dg (a:List UInt32)(ha:mN a):Ok Tryz.prog 60 [tn a,tn a] true (.af (.bool true)):=by
 unfold mN at ha;refine aw bN mix Tryz.func60 rfl rfl Yz (zO rfl) ?_
 repeat'(first|(with_reducible first|(refine zz ?_;try intro K hK)|refine zi ?_|refine zh ?_)|((first|apply hK _ _ rfl|apply hK);clear hK K)|(guard_hyp hK;first|refine zx ?_|apply ab|apply aa|(refine aY ?_;intro hu)|refine zP wA ?_|(refine aD ?_;intro hm1 hm2)|refine zP aZ ?_|refine zP rfl ?_|intro b0 hb)|((first|refine zj ?_|guard_hyp hK);refine zY ?_ ?_;all_goals(intro hb;(try simp only [sn,sb] at hb);try exact ao)))
 refine aT Nat (fun i=>⟨Tryz.f60.ntmps,[(0,.ro false (tn a)),(1,.ro false (tn a)),(5,.af (.int .i64 i))],[]⟩) (fun i=>i≤a.length) (fun i=>a.length - i) [] 0 trivial (Nat.zero_le _) ⟨rfl,⟨rfl,trivial,rfl,trivial,rfl,trivial,trivial⟩,trivial,trivial⟩ ?_;intro i h0;by_cases hi:i < a.length
 ·repeat'(first|(with_reducible first|(refine zz ?_;try intro K hK)|refine zi ?_|refine zh ?_)|((first|apply hK _ _ rfl|apply hK);clear hK K)|(guard_hyp hK;first|refine zx ?_|apply ab|apply aa|(refine aY ?_;intro hu)|refine zP wA ?_|(refine aD ?_;intro hm1 hm2)|refine zP aZ ?_|refine zP rfl ?_|intro b0 hb)|((first|refine zj ?_|guard_hyp hK);refine zY ?_ ?_;all_goals(intro hb;(try simp only [sn,sb] at hb);try exact ao)))
  exact⟨i+1,hi,by omega,rfl,⟨rfl,trivial,rfl,trivial,rfl,trivial,trivial⟩,trivial,trivial⟩
 ·repeat'(first|(with_reducible first|(refine zz ?_;try intro K hK)|refine zi ?_|refine zh ?_)|((first|apply hK _ _ rfl|apply hK);clear hK K)|(guard_hyp hK;first|refine zx ?_|apply ab|apply aa|(refine aY ?_;intro hu)|refine zP wA ?_|(refine aD ?_;intro hm1 hm2)|refine zP aZ ?_|refine zP rfl ?_|intro b0 hb)|((first|refine zj ?_|guard_hyp hK);refine zY ?_ ?_;all_goals(intro hb;(try simp only [sn,sb] at hb);try exact ao)))
  exact And.intro trivial (ay rfl)
theorem RU (t:cE)(h:xo t):Ok Tryz.prog 43 [tA t.z t.d,tA t.z t.d] true (.af (.bool true)):=by
 refine aw bN mix Tryz.func43 rfl rfl Yz (zO rfl) ?_
 repeat'(first|(with_reducible first|(refine zz ?_;try intro K hK)|refine zi ?_|refine zh ?_)|((first|apply hK _ _ rfl|apply hK);clear hK K)|(guard_hyp hK;first|refine zx ?_|apply ab|apply aa|(refine aY ?_;intro hu)|refine zP wA ?_|(refine aD ?_;intro hm1 hm2)|refine zP aZ ?_|refine zP rfl ?_|(refine zQ (Dg _ h.z) ?_)|(refine zQ (Dg _ h.d) ?_)|intro b0 hb)|((first|refine zj ?_|guard_hyp hK);refine zY ?_ ?_;all_goals(intro hb;(try simp only [sn,sb] at hb);try exact ao)))
 all_goals exact And.intro trivial (ay rfl)
theorem qp (a:List ByteArray)(ha:mN a):Ok Tryz.prog 34 [jO a,jO a] true (.af (.bool true)):=by
 unfold mN at ha;refine aw bN mix Tryz.func34 rfl rfl Yz (zO rfl) ?_
 repeat'(first|(with_reducible first|(refine zz ?_;try intro K hK)|refine zi ?_|refine zh ?_)|((first|apply hK _ _ rfl|apply hK);clear hK K)|(guard_hyp hK;first|refine zx ?_|apply ab|apply aa|(refine aY ?_;intro hu)|refine zP wA ?_|(refine aD ?_;intro hm1 hm2)|refine zP aZ ?_|refine zP rfl ?_|intro b0 hb)|((first|refine zj ?_|guard_hyp hK);refine zY ?_ ?_;all_goals(intro hb;(try simp only [sn,sb] at hb);try exact ao)))
 refine aT Nat (fun i=>⟨Tryz.f34.ntmps,[(0,.ro false (jO a)),(1,.ro false (jO a)),(5,.af (.int .i64 i))],[]⟩) (fun i=>i≤a.length) (fun i=>a.length - i) [] 0 trivial (Nat.zero_le _) ⟨rfl,⟨rfl,trivial,rfl,trivial,rfl,trivial,trivial⟩,trivial,trivial⟩ ?_;intro i h0;by_cases hi:i < a.length
 ·repeat'(first|(with_reducible first|(refine zz ?_;try intro K hK)|refine zi ?_|refine zh ?_)|((first|apply hK _ _ rfl|apply hK);clear hK K)|(guard_hyp hK;first|refine zx ?_|apply ab|apply aa|(refine aY ?_;intro hu)|refine zP wA ?_|(refine aD ?_;intro hm1 hm2)|refine zP aZ ?_|refine zP rfl ?_|intro b0 hb)|((first|refine zj ?_|guard_hyp hK);refine zY ?_ ?_;all_goals(intro hb;(try simp only [sn,sb] at hb);try exact ao)))
  all_goals exact⟨i+1,hi,by omega,rfl,⟨rfl,trivial,rfl,trivial,rfl,trivial,trivial⟩,trivial,trivial⟩
 ·repeat'(first|(with_reducible first|(refine zz ?_;try intro K hK)|refine zi ?_|refine zh ?_)|((first|apply hK _ _ rfl|apply hK);clear hK K)|(guard_hyp hK;first|refine zx ?_|apply ab|apply aa|(refine aY ?_;intro hu)|refine zP wA ?_|(refine aD ?_;intro hm1 hm2)|refine zP aZ ?_|refine zP rfl ?_|intro b0 hb)|((first|refine zj ?_|guard_hyp hK);refine zY ?_ ?_;all_goals(intro hb;(try simp only [sn,sb] at hb);try exact ao)))
  exact And.intro trivial (ay rfl)
theorem sTerms (a:List cE)(ha:mN a)(hx:∀t ∈ a,xo t):Ok Tryz.prog 16 [CG a,CG a] true (.af (.bool true)):=by
 unfold mN at ha;refine aw bN mix Tryz.func16 rfl rfl Yz (zO rfl) ?_
 repeat'(first|(with_reducible first|(refine zz ?_;try intro K hK)|refine zi ?_|refine zh ?_)|((first|apply hK _ _ rfl|apply hK);clear hK K)|(guard_hyp hK;first|refine zx ?_|apply ab|apply aa|(refine aY ?_;intro hu)|refine zP wA ?_|(refine aD ?_;intro hm1 hm2)|refine zP aZ ?_|refine zP rfl ?_|intro b0 hb)|((first|refine zj ?_|guard_hyp hK);refine zY ?_ ?_;all_goals(intro hb;(try simp only [sn,sb] at hb);try exact ao)))
 refine aT Nat (fun i=>⟨Tryz.f16.ntmps,[(0,.ro false (CG a)),(1,.ro false (CG a)),(5,.af (.int .i64 i))],[]⟩) (fun i=>i≤a.length) (fun i=>a.length - i) [] 0 trivial (Nat.zero_le _) ⟨rfl,⟨rfl,trivial,rfl,trivial,rfl,trivial,trivial⟩,trivial,trivial⟩ ?_;intro i h0;by_cases hi:i < a.length
 ·have h4:=RU (a.getD i default) (hx _ (kq hi))
  repeat'(first|(with_reducible first|(refine zz ?_;try intro K hK)|refine zi ?_|refine zh ?_)|((first|apply hK _ _ rfl|apply hK);clear hK K)|(guard_hyp hK;first|refine zx ?_|apply ab|apply aa|(refine aY ?_;intro hu)|refine zP wA ?_|(refine aD ?_;intro hm1 hm2)|refine zP aZ ?_|refine zP rfl ?_|(refine zQ (h4) ?_)|intro b0 hb)|((first|refine zj ?_|guard_hyp hK);refine zY ?_ ?_;all_goals(intro hb;(try simp only [sn,sb] at hb);try exact ao)))
  all_goals exact⟨i+1,hi,by omega,rfl,⟨rfl,trivial,rfl,trivial,rfl,trivial,trivial⟩,trivial,trivial⟩
 ·repeat'(first|(with_reducible first|(refine zz ?_;try intro K hK)|refine zi ?_|refine zh ?_)|((first|apply hK _ _ rfl|apply hK);clear hK K)|(guard_hyp hK;first|refine zx ?_|apply ab|apply aa|(refine aY ?_;intro hu)|refine zP wA ?_|(refine aD ?_;intro hm1 hm2)|refine zP aZ ?_|refine zP rfl ?_|intro b0 hb)|((first|refine zj ?_|guard_hyp hK);refine zY ?_ ?_;all_goals(intro hb;(try simp only [sn,sb] at hb);try exact ao)))
  exact And.intro trivial (ay rfl)
theorem Uy (a:List (List cE))(h:Tu a):Ok Tryz.prog 12 [qh a,qh a] true (.af (.bool true)):=by
 have ha:=h.len;unfold mN at ha;refine aw bN mix Tryz.func12 rfl rfl Yz (zO rfl) ?_
 repeat'(first|(with_reducible first|(refine zz ?_;try intro K hK)|refine zi ?_|refine zh ?_)|((first|apply hK _ _ rfl|apply hK);clear hK K)|(guard_hyp hK;first|refine zx ?_|apply ab|apply aa|(refine aY ?_;intro hu)|refine zP wA ?_|(refine aD ?_;intro hm1 hm2)|refine zP aZ ?_|refine zP rfl ?_|intro b0 hb)|((first|refine zj ?_|guard_hyp hK);refine zY ?_ ?_;all_goals(intro hb;(try simp only [sn,sb] at hb);try exact ao)))
 refine aT Nat (fun i=>⟨Tryz.f12.ntmps,[(0,.ro false (qh a)),(1,.ro false (qh a)),(5,.af (.int .i64 i))],[]⟩) (fun i=>i≤a.length) (fun i=>a.length - i) [] 0 trivial (Nat.zero_le _) ⟨rfl,⟨rfl,trivial,rfl,trivial,rfl,trivial,trivial⟩,trivial,trivial⟩ ?_;intro i h0;by_cases hi:i < a.length
 ·obtain⟨e1,e2⟩:=h.el _ (kq hi);have h4:=sTerms (a.getD i default) e1 e2
  repeat'(first|(with_reducible first|(refine zz ?_;try intro K hK)|refine zi ?_|refine zh ?_)|((first|apply hK _ _ rfl|apply hK);clear hK K)|(guard_hyp hK;first|refine zx ?_|apply ab|apply aa|(refine aY ?_;intro hu)|refine zP wA ?_|(refine aD ?_;intro hm1 hm2)|refine zP aZ ?_|refine zP rfl ?_|(refine zQ (h4) ?_)|intro b0 hb)|((first|refine zj ?_|guard_hyp hK);refine zY ?_ ?_;all_goals(intro hb;(try simp only [sn,sb] at hb);try exact ao)))
  all_goals exact⟨i+1,hi,by omega,rfl,⟨rfl,trivial,rfl,trivial,rfl,trivial,trivial⟩,trivial,trivial⟩
 ·repeat'(first|(with_reducible first|(refine zz ?_;try intro K hK)|refine zi ?_|refine zh ?_)|((first|apply hK _ _ rfl|apply hK);clear hK K)|(guard_hyp hK;first|refine zx ?_|apply ab|apply aa|(refine aY ?_;intro hu)|refine zP wA ?_|(refine aD ?_;intro hm1 hm2)|refine zP aZ ?_|refine zP rfl ?_|intro b0 hb)|((first|refine zj ?_|guard_hyp hK);refine zY ?_ ?_;all_goals(intro hb;(try simp only [sn,sb] at hb);try exact ao)))
  exact And.intro trivial (ay rfl)
theorem WB (v:dW)(h:Rb v):Ok Tryz.prog 35 [qg v,qg v] true (.af (.bool true)):=by
 refine aw bN mix Tryz.func35 rfl rfl Yz (zO rfl) ?_
 repeat'(first|(with_reducible first|(refine zz ?_;try intro K hK)|refine zi ?_|refine zh ?_)|((first|apply hK _ _ rfl|apply hK);clear hK K)|(guard_hyp hK;first|refine zx ?_|apply ab|apply aa|(refine aY ?_;intro hu)|refine zP wA ?_|(refine aD ?_;intro hm1 hm2)|refine zP aZ ?_|refine zP rfl ?_|(refine zQ (Dg _ h.count) ?_)|(refine zQ (qp _ h.dL) ?_)|(refine zQ (qp _ h.aN) ?_)|intro b0 hb)|((first|refine zj ?_|guard_hyp hK);refine zY ?_ ?_;all_goals(intro hb;(try simp only [sn,sb] at hb);try exact ao)))
 all_goals exact And.intro trivial (ay rfl)
def Tg (p:eY):Obj:=⟨4,[.agg [.af (.string p.name),.ro false (jO p.cX),.ro false (NF p.bg),.ro false (jO p.aN)]],0,true⟩
theorem sJ (p:eY)(oh:OH):∀v ∈ (Tg p).el,v.cl oh:=by
 intro v hv;obtain rfl:=List.mem_singleton.1 hv;intro v hv;simp at hv;rcases hv with rfl|rfl|rfl|rfl<;>trivial
theorem WC (p:eY)(h:Re p):Ok Tryz.prog 36 [qi p,qi p] true (.af (.bool true)):=by
 have ha:=h.bg;unfold mN at ha;refine aw bN mix Tryz.func36 rfl rfl Yz (zO rfl) ?_
 repeat'(first|(with_reducible first|(refine zz ?_;try intro K hK)|refine zi ?_|refine zh ?_)|((first|apply hK _ _ rfl|apply hK);clear hK K)|(guard_hyp hK;first|refine zx ?_|apply ab|apply aa|(refine aY ?_;intro hu)|refine zP wA ?_|(refine aD ?_;intro hm1 hm2)|refine zP aZ ?_|refine zP rfl ?_|(refine zQ (qp _ h.cX) ?_)|(refine zQ (qp _ h.aN) ?_)|intro b0 hb)|((first|refine zj ?_|guard_hyp hK);refine zY ?_ ?_;all_goals(intro hb;(try simp only [sn,sb] at hb);try exact ao)))
 all_goals refine aT Nat (fun i=>⟨Tryz.f36.ntmps,[(2,.ref 0 0 0 0),(3,.ref 1 0 0 0),(6,.af (.int .i64 i))],[(0,Tg p),(1,Tg p)]⟩) (fun i=>i≤p.bg.length) (fun i=>p.bg.length - i) [] 0 trivial (Nat.zero_le _) ⟨rfl,⟨rfl,rfl,rfl,rfl,rfl,trivial,trivial⟩,⟨rfl,rfl,trivial⟩,⟨sJ p _,sJ p _,trivial⟩⟩ ?_
 intro i h0;by_cases hi:i < p.bg.length
 ·have he:=h.el _ (kq hi);have h4:=qp _ he.given;have h5:=Uy _ he.nums
  repeat'(first|(with_reducible first|(refine zz ?_;try intro K hK)|refine zi ?_|refine zh ?_)|((first|apply hK _ _ rfl|apply hK);clear hK K)|(guard_hyp hK;first|refine zx ?_|apply ab|apply aa|(refine aY ?_;intro hu)|refine zP wA ?_|(refine aD ?_;intro hm1 hm2)|refine zP aZ ?_|refine zP rfl ?_|(refine zQ (h4) ?_)|(refine zQ (h5) ?_)|intro b0 hb)|((first|refine zj ?_|guard_hyp hK);refine zY ?_ ?_;all_goals(intro hb;(try simp only [sn,sb] at hb);try exact ao)))
  all_goals exact⟨i+1,hi,by omega,rfl,⟨rfl,rfl,rfl,rfl,rfl,trivial,trivial⟩,⟨rfl,rfl,trivial⟩,⟨sJ p _,sJ p _,trivial⟩⟩
 ·repeat'(first|(with_reducible first|(refine zz ?_;try intro K hK)|refine zi ?_|refine zh ?_)|((first|apply hK _ _ rfl|apply hK);clear hK K)|(guard_hyp hK;first|refine zx ?_|apply ab|apply aa|(refine aY ?_;intro hu)|refine zP wA ?_|(refine aD ?_;intro hm1 hm2)|refine zP aZ ?_|refine zP rfl ?_|intro b0 hb)|((first|refine zj ?_|guard_hyp hK);refine zY ?_ ?_;all_goals(intro hb;(try simp only [sn,sb] at hb);try exact ao)))
  all_goals exact And.intro trivial (ay rfl)
def Mv (f:iS):Obj:=⟨4,[.agg [.af (.string f.name),.ro false (jO f.aN),.ro false (.sl (f.vars.map qg)),.ro false (.sl (f.bG.map qi))]],0,true⟩
theorem jC (p:iS)(oh:OH):∀v ∈ (Mv p).el,v.cl oh:=by
 intro v hv;obtain rfl:=List.mem_singleton.1 hv;intro v hv;simp at hv;rcases hv with rfl|rfl|rfl|rfl<;>trivial
theorem Uz (f:iS)(h:Ri f):Ok Tryz.prog 9 [tC f,tC f] true (.af (.bool true)):=by
 have ha:=h.vars;have hb9:=h.bG;unfold mN at ha hb9;refine aw bN mix Tryz.func9 rfl rfl Yz (zO rfl) ?_
 repeat'(first|(with_reducible first|(refine zz ?_;try intro K hK)|refine zi ?_|refine zh ?_)|((first|apply hK _ _ rfl|apply hK);clear hK K)|(guard_hyp hK;first|refine zx ?_|apply ab|apply aa|(refine aY ?_;intro hu)|refine zP wA ?_|(refine aD ?_;intro hm1 hm2)|refine zP aZ ?_|refine zP rfl ?_|(refine zQ (qp _ h.aN) ?_)|intro b0 hb)|((first|refine zj ?_|guard_hyp hK);refine zY ?_ ?_;all_goals(intro hb;(try simp only [sn,sb] at hb);try exact ao)))
 all_goals refine aT Nat (fun i=>⟨Tryz.f9.ntmps,[(2,.ref 0 0 0 0),(3,.ref 1 0 0 0),(6,.af (.int .i64 i))],[(0,Mv f),(1,Mv f)]⟩) (fun i=>i≤f.vars.length) (fun i=>f.vars.length - i) [] 0 trivial (Nat.zero_le _) ⟨rfl,⟨rfl,rfl,rfl,rfl,rfl,trivial,trivial⟩,⟨rfl,rfl,trivial⟩,⟨jC f _,jC f _,trivial⟩⟩ ?_
 intro i h0;by_cases hi:i < f.vars.length
 ·have h4:=WB _ (h.XK _ (kq hi))
  repeat'(first|(with_reducible first|(refine zz ?_;try intro K hK)|refine zi ?_|refine zh ?_)|((first|apply hK _ _ rfl|apply hK);clear hK K)|(guard_hyp hK;first|refine zx ?_|apply ab|apply aa|(refine aY ?_;intro hu)|refine zP wA ?_|(refine aD ?_;intro hm1 hm2)|refine zP aZ ?_|refine zP rfl ?_|(refine zQ (h4) ?_)|intro b0 hb)|((first|refine zj ?_|guard_hyp hK);refine zY ?_ ?_;all_goals(intro hb;(try simp only [sn,sb] at hb);try exact ao)))
  all_goals exact⟨i+1,hi,by omega,rfl,⟨rfl,rfl,rfl,rfl,rfl,trivial,trivial⟩,⟨rfl,rfl,trivial⟩,⟨jC f _,jC f _,trivial⟩⟩
 ·repeat'(first|(with_reducible first|(refine zz ?_;try intro K hK)|refine zi ?_|refine zh ?_)|((first|apply hK _ _ rfl|apply hK);clear hK K)|(guard_hyp hK;first|refine zx ?_|apply ab|apply aa|(refine aY ?_;intro hu)|refine zP wA ?_|(refine aD ?_;intro hm1 hm2)|refine zP aZ ?_|refine zP rfl ?_|intro b0 hb)|((first|refine zj ?_|guard_hyp hK);refine zY ?_ ?_;all_goals(intro hb;(try simp only [sn,sb] at hb);try exact ao)))
  all_goals refine aT Nat (fun i=>⟨Tryz.f9.ntmps,[(2,.ref 0 0 0 0),(3,.ref 1 0 0 0),(8,.af (.int .i64 i))],[(0,Mv f),(1,Mv f)]⟩) (fun i=>i≤f.bG.length) (fun i=>f.bG.length - i) [] 0 trivial (Nat.zero_le _) ⟨rfl,⟨rfl,rfl,rfl,rfl,rfl,trivial,trivial⟩,⟨rfl,rfl,trivial⟩,⟨jC f _,jC f _,trivial⟩⟩ ?_
  intro k k0;by_cases hk:k < f.bG.length
  ·have h5:=WC _ (h.Yc _ (kq hk))
   repeat'(first|(with_reducible first|(refine zz ?_;try intro K hK)|refine zi ?_|refine zh ?_)|((first|apply hK _ _ rfl|apply hK);clear hK K)|(guard_hyp hK;first|refine zx ?_|apply ab|apply aa|(refine aY ?_;intro hu)|refine zP wA ?_|(refine aD ?_;intro hm1 hm2)|refine zP aZ ?_|refine zP rfl ?_|(refine zQ (h5) ?_)|intro b0 hb)|((first|refine zj ?_|guard_hyp hK);refine zY ?_ ?_;all_goals(intro hb;(try simp only [sn,sb] at hb);try exact ao)))
   all_goals exact⟨k+1,hk,by omega,rfl,⟨rfl,rfl,rfl,rfl,rfl,trivial,trivial⟩,⟨rfl,rfl,trivial⟩,⟨jC f _,jC f _,trivial⟩⟩
  ·repeat'(first|(with_reducible first|(refine zz ?_;try intro K hK)|refine zi ?_|refine zh ?_)|((first|apply hK _ _ rfl|apply hK);clear hK K)|(guard_hyp hK;first|refine zx ?_|apply ab|apply aa|(refine aY ?_;intro hu)|refine zP wA ?_|(refine aD ?_;intro hm1 hm2)|refine zP aZ ?_|refine zP rfl ?_|intro b0 hb)|((first|refine zj ?_|guard_hyp hK);refine zY ?_ ?_;all_goals(intro hb;(try simp only [sn,sb] at hb);try exact ao)))
   all_goals exact And.intro trivial (ay rfl)
variable {W : fA}
def Yt (l:List cE):Prop:=∀t ∈ l,xo t
section
variable (hF : Fit W)
include hF
end
end Go.Ev
namespace Go.Ev
open Go.Proofs
def Tt (t:Tok):Prop:=(t.kind=1→isLet (ax t.text 0)=true)∧(t.kind=4→nI (ax t.text 0)=true)
theorem CF {s:ByteArray}(h1:1≤s.size)(l c:Int):Tt ⟨(aH s).kind,(aH s).text,l,c⟩:=by
 have no:∀{k:Int} {p q:Prop},k≠1→k≠4→(k=1→p)∧(k=4→q):=fun a b=>⟨fun h=>absurd h a,fun h=>absurd h b⟩
 unfold Tt aH;split
 ·refine no ?_ ?_<;>(intro h;dsimp only at h;revert h;decide)
 ·split
  ·refine no ?_ ?_<;>(intro h;dsimp only at h;revert h;decide)
  ·split
   ·rename_i hl;split
    ·refine no ?_ ?_<;>(intro h;dsimp only at h;revert h;decide)
    ·refine⟨fun _=>?_,fun h=>by(exfalso;dsimp only at h;revert h;decide)⟩;have hw:=fj (p:=bp) (s:=s) (i:=0) h1 (by unfold bp;rw [hl];rfl);dsimp only;rw [jv Yy];exact hl
   ·split
    ·split
     ·refine no ?_ ?_<;>(intro h;dsimp only at h;revert h;decide)
     ·refine no ?_ ?_<;>(intro h;dsimp only at h;revert h;decide)
    ·split
     ·split
      ·refine no ?_ ?_<;>(intro h;dsimp only at h;revert h;decide)
      ·refine no ?_ ?_<;>(intro h;dsimp only at h;revert h;decide)
     ·split
      ·rename_i hg;refine⟨fun h=>by(exfalso;dsimp only at h;revert h;decide),fun _=>?_⟩;dsimp only;rw [jv Yy];exact hg
      ·refine no ?_ ?_<;>(intro h;dsimp only at h;revert h;decide)
theorem ra (s:ByteArray)(i:Nat)(hi:i≤s.size):∀t ∈ (bQ s i).1,Tt t:=by
 rw [bQ];split
 ·rename_i hlt;have hl:=tL hi;split
  ·exact fun t ht=>by simp at ht
  ·rename_i hc;have hp:=kH (s:=s.extract i s.size) Yy (Decidable.not_not.1 hc);have ih:=ra s (i+(aH (s.extract i s.size)).n) Yy;split
   ·split
    ·intro t ht;rcases List.mem_cons.1 ht with rfl|ht
     ·exact CF (s:=s.extract i s.size) Yy (aj s i).1 (aj s i).2
     ·exact ih t ht
    ·exact ih
   ·exact fun t ht=>by simp at ht
 ·intro t ht;obtain rfl:=List.mem_singleton.1 ht;exact⟨fun h=>by(exfalso;dsimp only at h;revert h;decide),fun h=>by(exfalso;dsimp only at h;revert h;decide)⟩
termination_by s.size - i
theorem uI {s w:ByteArray}(h:nI (ax w 0)=false):dK (fQ s) (1,w):=
 ⟨.inl rfl,fun t ht e hk=>hk.elim id fun h4=>by
  have:=(ra s 0 (Nat.zero_le _) t ht).2 h4
  rw [show t.text=w from e,h] at this;cases this⟩
theorem oA {s w:ByteArray}(h:isLet (ax w 0)=false):dK (fQ s) (4,w):=
 ⟨.inr rfl,fun t ht e hk=>hk.elim (fun h1=>by
  have:=(ra s 0 (Nat.zero_le _) t ht).1 h1
  rw [show t.text=w from e,h] at this;cases this) id⟩
theorem EU (s:ByteArray):TQ (fQ s):=
 ⟨uI YA,uI YA,uI YA,uI YA,uI YA,oA YA,oA YA,oA YA,oA YA,oA YA,oA YA,oA YA⟩
open PS (cE eZ dW eY iS)
theorem KX (s:ByteArray)(hs:s.size≤134217728):∀t ∈ (fQ s).L,t.kind=2→Ok Tryz.prog 87 [gG t.text] true (.ba [tA (dV t.text).1 (dV t.text).2,.af (.int .i64 0)]):=by
 obtain⟨h1,h2⟩:=zN s 0 (Nat.zero_le _);exact fun t ht hk=>PM t.text ((h2 t ht).2 hk) (by have:=(h2 t ht).1;omega)
theorem KY (s:ByteArray)(hs:s.size≤134217728):vt Tryz.prog 39 65 (PS.sum (X:=fQ s) (PS.un dV 65)):=by
 have hF:=xG s hs;exact Fy hF.len (PS.mT dV 65) (Bn hF.len (PS.mT dV 65) (KW hF (EU s) (KX s hs) 65 YA))
theorem La (s:ByteArray)(hs:s.size≤134217728):Ok Tryz.prog 8 [gG s] false (.ba [tC (mw dV s).1,MX (mw dV s).2]):=
 KZ s (xG s hs) (EU s) (KY s hs) (AF s Yy)
def VT (f:iS):Obj:=⟨4,[.agg [.af (.string f.name),.ro false (jO f.aN),.ro false (.sl (f.vars.map qg)),.ro false (.sl (f.bG.map qi))]],0,true⟩
theorem Vg (f:iS):∀v ∈ (VT f).el,v.flat:=fun v hv=>by
 obtain rfl:=List.mem_singleton.1 hv;intro u hu;simp at hu;rcases hu with rfl|rfl|rfl|rfl<;>trivial
end Go.Ev
