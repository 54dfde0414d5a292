import Derived.Test.YthpoegdjffdojaaGreatDoorULbb
set_option linter.all false
set_option maxHeartbeats 4000000
set_option maxRecDepth 10000
namespace Go.Ev
open Go.Proofs
theorem El (s:ByteArray)(a:UInt8)(ha:a≠0):preB s ⟨#[a]⟩=decide (ax s 0=a):=by
 unfold preB;rw [P8,C7,E5,E5,W0,jD,jD];have e1:(⟨#[a]⟩:ByteArray).size=1:=rfl;rw [e1]
 have e2:(s.extract 0 1).data.toList=(bs s).take 1:=by
  have:=jH s 0 1;rw [F4] at this;exact this
 rw [e2];show 1<=s.size/\(bs s).take 1=[a]↔_;rw [<- aU];unfold ax
 match hq:bs s with
 | []=>simp;intro h;exact absurd h.symm ha
 |x :: r=>simp
theorem Oj {s:ByteArray}(h:jM s):ar ak s 0=s.size:=by
 have key:∀l:List UInt8,(∀b ∈ l,ak b=true)->l.takeWhile ak=l:=by
  intro l hl
  induction l with
  |nil=>rfl
  |cons x r ih=>rw [R9,if_pos (hl x (D7 ..)),ih (fun b hb=>hl b (D5 _ hb))]
 have h1:(bs s).takeWhile ak=bs s:=by
  refine key _ fun b hb=>?_
  obtain⟨i,hi,rfl⟩:=L6.1 hb;have:=h i (by rw [<- aU];exact hi);unfold ax at this;rw [List.getD,uz hi] at this;exact this
 unfold ar;rw [F4,h1,aU]
theorem OV {s:ByteArray}(h:jM s)(h1:1<=s.size):cg s=some (eg (bs s)):=pj A8 h
theorem SP (w T:ByteArray)(h:lu w)(hw:w.size<=140000000)(hT:T=w.extract (aI w) w.size):Ok Tryz.prog 100 [gG T] true (.ba [.af (.int .i64 (lI w)),.af (.bool true)]):=by
 have hA:=iM (s:=w);have hTl:T.size=w.size - aI w:=by rw [hT,dQ (wU _)]
 by_cases c:eM w
 ·obtain⟨q1,q2,q3,q4⟩:=HP h c;obtain⟨U0,U1,f1,f2,f3,f4,f5,f6,f7,f8,f9⟩:=ND h c;have hT0:ax T 0=ax w (aI w):=by rw [hT,cI A8];rfl
  have hU:T.extract 1 T.size=U0:=by
   refine qX ?_;rw [f1,hT,cZ,cZ,cZ,dQ (wU _),Q4,L4,J3]
   congr 1
   omega
  have hc0:=c.1;rw [<- hT0] at hc0
  have hne:¬T.toList=(⟨#[]⟩:ByteArray).toList:=fun e=>by
   have:=B4 ByteArray.size (mF e);have e9:(⟨#[]⟩:ByteArray).size=0:=rfl;omega
  have hpos:0 < T.size:=by omega
  have hTs:T.size<=140000000:=by omega
  clear hT hTl hT0 hA f1;refine aw bN mix Tryz.func100 rfl rfl B1 (zO rfl) ?_
  repeat'(first|(first|(refine fy (s:=T) (i:=0) ?_ hpos;intro hu)|refine dU (a:=Code.seq (Code.region 3 _ _) (Code.cond _ _ _)) Unit (fun _=>⟨Tryz.f100.ntmps,[(0,.af (.string T))],[]⟩) (fun _=>True) ?_ ?_)|(with_reducible first|(refine zz ?_;try intro K hK)|refine zi ?_|refine zh ?_)|((first|apply hK _ _ rfl|apply hK);clear hK K)|(guard_hyp hK;first|refine zx ?_|apply ab|apply aa|refine zW ?_|intro b0 hb)|((first|refine zj ?_|guard_hyp hK);refine zY ?_ ?_;all_goals(intro hb;(try simp only [sn,sb] at hb);try exact ao)))
  all_goals try exact absurd hb hne
  rotate_left
  ·intro R hR
   repeat'(first|(refine fy (s:=T) (i:=0) ?_ hpos;intro hu)|(with_reducible first|(refine zz ?_;try intro K hK)|refine zi ?_|refine zh ?_)|((first|apply hK _ _ rfl|apply hK);clear hK K)|(guard_hyp hK;first|refine zx ?_|apply ab|apply aa|refine zW ?_|intro b0 hb)|((first|refine zj ?_|guard_hyp hK);refine zY ?_ ?_;all_goals(intro hb;(try simp only [sn,sb] at hb);try exact ao)))
   all_goals first|(exfalso;omega)|exact hR _ () trivial ⟨rfl,⟨rfl,trivial,trivial⟩,trivial,trivial⟩
  rintro - -
  repeat'(first|(refine dU (a:=Code.region 5 _ _) ByteArray (fun U=>⟨Tryz.f100.ntmps,[(0,.af (.string U))],[]⟩) (fun U=>U=T.extract 1 T.size) ?_ ?_)|(with_reducible first|(refine zz ?_;try intro K hK)|refine zi ?_|refine zh ?_)|((first|apply hK _ _ rfl|apply hK);clear hK K)|(guard_hyp hK;first|refine zx ?_|apply ab|apply aa|refine zW ?_|intro b0 hb)|((first|refine zj ?_|guard_hyp hK);refine zY ?_ ?_;all_goals(intro hb;(try simp only [sn,sb] at hb);try exact ao)))
  ·intro U hUe;obtain rfl:U=U0:=hUe.trans hU
   have hUl:U.size<=140000000:=by
    have:=B4 ByteArray.size hU;rw [F5] at this;omega
   clear hUe hU;have hm:=kA U ⟨#[45]⟩ A8 B3;have hp:=kA U ⟨#[43]⟩ A8 B3;rw [El _ _ B3] at hm hp;have hn:=nn U1 A8;rw [OV f5 f7,f6] at hn;have hr:=zk U1 A8;rw [Oj f5] at hr;have hu:=Qm (mC w) A8
   have hl1:¬U1.toList=(⟨#[]⟩:ByteArray).toList:=fun e=>by
    have:=B4 ByteArray.size (mF e);have e9:(⟨#[]⟩:ByteArray).size=0:=rfl;omega
   by_cases c1:(ax U 0).toNat=45
   ·rw [F9 (I3.1 c1:ax U 0=45)] at hm;rw [if_pos c1] at f9;rw [f3 (.inl c1)] at hn hr hl1 f7 f8;rw [f9]
    repeat'(first|(with_reducible first|(refine zz ?_;try intro K hK)|refine zi ?_|refine zh ?_)|((first|apply hK _ _ rfl|apply hK);clear hK K)|(guard_hyp hK;first|refine zx ?_|apply ab|apply aa|refine zW ?_|(refine zQ (hm) ?_)|(refine zQ (hn) ?_)|(refine zQ (hr) ?_)|(refine zQ (hu) ?_)|intro b0 hb)|((first|refine zj ?_|guard_hyp hK);refine zY ?_ ?_;all_goals(intro hb;(try simp only [sn,sb] at hb);try exact ao)))
    all_goals first|exact absurd hb hl1|exact⟨trivial,_,_,rfl,ay rfl,ay rfl⟩|exact⟨trivial,_,_,rfl,ay (B4 (Value.int .i64) A8),ay rfl⟩
   ·have hnm:¬ax U 0=45:=fun e=>c1 (by rw [e];rfl)
    rw [G4 hnm] at hm;rw [if_neg c1] at f9;rw [f9];by_cases c2:(ax U 0).toNat=43
    ·rw [F9 (I3.1 c2:ax U 0=43)] at hp;rw [f3 (.inr c2)] at hn hr hl1 f7 f8
     repeat'(first|(with_reducible first|(refine zz ?_;try intro K hK)|refine zi ?_|refine zh ?_)|((first|apply hK _ _ rfl|apply hK);clear hK K)|(guard_hyp hK;first|refine zx ?_|apply ab|apply aa|refine zW ?_|(refine zQ (hm) ?_)|(refine zQ (hp) ?_)|(refine zQ (hn) ?_)|(refine zQ (hr) ?_)|(refine zQ (hu) ?_)|intro b0 hb)|((first|refine zj ?_|guard_hyp hK);refine zY ?_ ?_;all_goals(intro hb;(try simp only [sn,sb] at hb);try exact ao)))
     all_goals first|exact absurd hb hl1|exact⟨trivial,_,_,rfl,ay rfl,ay rfl⟩|exact⟨trivial,_,_,rfl,ay (B4 (Value.int .i64) A8),ay rfl⟩
    ·have hnp:¬ax U 0=43:=fun e=>c2 (by rw [e];rfl)
     rw [G4 hnp] at hp;rw [f4 (fun e=>e.elim c1 c2)] at hn hr hl1 f7 f8
     repeat'(first|(with_reducible first|(refine zz ?_;try intro K hK)|refine zi ?_|refine zh ?_)|((first|apply hK _ _ rfl|apply hK);clear hK K)|(guard_hyp hK;first|refine zx ?_|apply ab|apply aa|refine zW ?_|(refine zQ (hm) ?_)|(refine zQ (hp) ?_)|(refine zQ (hn) ?_)|(refine zQ (hr) ?_)|(refine zQ (hu) ?_)|intro b0 hb)|((first|refine zj ?_|guard_hyp hK);refine zY ?_ ?_;all_goals(intro hb;(try simp only [sn,sb] at hb);try exact ao)))
     all_goals first|exact absurd hb hl1|exact⟨trivial,_,_,rfl,ay rfl,ay rfl⟩|exact⟨trivial,_,_,rfl,ay (B4 (Value.int .i64) A8),ay rfl⟩
  ·intro R hR
   repeat'(first|(with_reducible first|(refine zz ?_;try intro K hK)|refine zi ?_|refine zh ?_)|((first|apply hK _ _ rfl|apply hK);clear hK K)|(guard_hyp hK;first|refine zx ?_|apply ab|apply aa|refine zW ?_|intro b0 hb)|((first|refine zj ?_|guard_hyp hK);refine zY ?_ ?_;all_goals(intro hb;(try simp only [sn,sb] at hb);try exact ao)))
   exact hR _ _ rfl ⟨rfl,⟨rfl,trivial,trivial⟩,trivial,trivial⟩
 ·have h1:=UL h c
  have he:T=⟨#[]⟩:=by
   apply P1;have h2:T.data.size=0:=by rw [show T.data.size=T.size from rfl,hTl];omega
   exact O7 h2
  rw [show lI w=0 from if_neg c,he];clear hT hTl;refine aw bN mix Tryz.func100 rfl rfl B1 (zO rfl) ?_
  repeat'(first|(with_reducible first|(refine zz ?_;try intro K hK)|refine zi ?_|refine zh ?_)|((first|apply hK _ _ rfl|apply hK);clear hK K)|(guard_hyp hK;first|refine zx ?_|apply ab|apply aa|refine zW ?_|intro b0 hb)|((first|refine zj ?_|guard_hyp hK);refine zY ?_ ?_;all_goals(intro hb;(try simp only [sn,sb] at hb);try exact ao)))
  all_goals first|exact⟨trivial,_,_,rfl,ay rfl,ay rfl⟩|exact absurd rfl hb
theorem Wx {z:Int}:oR z=0↔z=0:=by rcases AL z with h|h|h<;>omega
theorem WK {k:Bool}{d:List UInt32}(h:val d≠0):iv k d≠0:=by unfold iv;split<;>omega
theorem Sf {f:Bool}{fn:Func}{P:Program}{s:St}{a t b id ver sz:Nat}{l:List V}{fs:List (Nat×Nat)}{z:List Value}{r:T}{n:Int}(hr:fn.results.toList=[.cell a t,.tmp b])(ht:tk P t=.st fs z)(hz:z.length=l.length)(h0:0 < l.length)
  (ha:aA s.env a=.ref id ver 0 0) (ho:ae s.oh id=some ⟨sz,[.agg l],ver,true⟩) (hb:aA s.env b=.af (.int .i64 n)) (hf:gM s.oh f (.agg l) r):kz P fn f (.ba [r,.af (.int .i64 n)]) .ret s:=by
 refine⟨trivial,?_⟩;rw [hr]
 have h:ef P s (.cell a t) (fun v=>ef P s (.tmp b) fun u=>∃t1 t2,T.ba [r,.af (.int .i64 n)]=.ba [t1,t2]/\gM s.oh f v t1/\gM s.oh f u t2):=by
  refine AY ht hz h0 ha ho ⟨_,_,rfl,hf,?_⟩;show gM s.oh f (aA s.env b) _;rw [hb];exact ay rfl
 exact h
theorem GD (n k:Bool)(a d:List UInt32)(hd:val d≠0)(ha:a.length<=2147483648)(hl:d.length<=2147483648):Ok Tryz.prog 104 [tI n a,tI k d] true (.ba [tQ (iv (n != k) a) (val d),.af (.int .i64 0)]):=by
 have hs:oR (iv k d)≠0:=fun h=>WK hd (Wx.1 h)
 refine aw bN mix Tryz.func104 rfl rfl B1 (zO rfl) ?_
 repeat'(first|(with_reducible first|(refine zz ?_;try intro K hK)|refine zi ?_|refine zh ?_)|((first|apply hK _ _ rfl|apply hK);clear hK K)|(guard_hyp hK;first|refine zx ?_|apply ab|apply aa|refine zW ?_|(refine zQ (Qo k d A8) ?_)|(refine zQ (HS (n != k) a d hd ha hl) ?_)|intro b0 hb)|((first|refine zj ?_|guard_hyp hK);refine zY ?_ ?_;all_goals(intro hb;(try simp only [sn,sb] at hb);try exact ao)))
 exact Sf (l:=[V.af (.bool (decide (qz (iv (n != k) a) (val d) < 0))),.ro true (tn (lm (qz (iv (n != k) a) (val d)).natAbs)),.ro true (tn (lm (qd (iv (n != k) a) (val d))))]) rfl NB rfl (D0 _) rfl rfl rfl Fp
section
variable {w : ByteArray} (h : lu w)
include h
theorem KI : (ax w (fb w)).toNat=46↔vG w:=by
 constructor
 ·intro e;by_cases c:vG w
  ·exact c
  ·exfalso;have hA:=ur h;rw [if_neg c] at hA
   have hE:¬eM w:=fun c2=>by
    have:=c2.1;rw [hA] at this;simp only [H8] at this;omega
   have hN:=UL h hE;rw [bU A8] at e;exact absurd e B3
 ·exact fun c=>(Ll h c).1
theorem Qb (c:vG w):ar ak (w.extract (fb w+1) w.size) 0=lJ w:=by
 have e:lJ w=ar ak w (fb w+1):=if_pos c;rw [e];unfold ar;rw [cZ,F4]
 congr 2
 rw [B7];rw [List.length_drop,aU];exact wU _
theorem Sw : (dH w).length<=w.size:=by
 have q3:=wO h
 have e:(dH w).length<=(bs w).length:=by
  unfold dH;rw [List.length_append,List.length_take,List.length_take,List.length_drop];by_cases c:vG w
  ·have:=(Ll h c).2;have q2:=ur h;rw [if_pos c] at q2;have hA:=iM (s:=w);rw [aU];omega
  ·have:lJ w=0:=if_neg c;rw [this];omega
 rw [aU] at e;exact e
end
def Uo (N:Nat)(w:ByteArray)(z:ByteArray×ByteArray):St:=⟨N,[(0,.af (.string z.2)),(2,.ref 0 0 0 0),(4,.af (.bool false)),(5,.af (.int .i64 (fb w))),(6,.af (.string z.1))],[(0,WY)]⟩
def Un (N:Nat)(w:ByteArray)(z:ByteArray×ByteArray):St:=⟨N,[(0,.af (.string z.2)),(2,.ref 0 0 0 0),(4,.af (.bool false)),(5,.af (.int .i64 (fb w))),(6,.af (.string z.1)),(7,.af (.int .i64 (lJ w)))],[(0,WY)]⟩
theorem SU {w D:ByteArray}(h:lu w)(hD:bs D=dH w):cg D=some (eg (dH w))/\D.size=(dH w).length:=by
 have e:D=(w.extract 0 (aI w)).extract 0 (fb w) ++ oF w:=qX (hD.trans (zM h).symm);exact⟨by rw [e];exact OW h,by rw [<- hD,aU]⟩
theorem Vm {w:ByteArray}(h:lu w)(c:vG w):bs (w.extract 0 (fb w) ++ (w.extract (fb w) w.size).extract 1 (lJ w+1))=dH w:=by
 have q2:=ur h;have hA:=iM (s:=w);rw [if_pos c] at q2
 have e:bs (w.extract 0 (fb w) ++ (w.extract (fb w) w.size).extract 1 (lJ w+1))=bs (w.extract 0 (fb w)) ++ bs ((w.extract (fb w) w.size).extract 1 (lJ w+1)):=by
  unfold bs;rw [Q7,S1]
 rw [e,cZ,cZ,cZ,F4,Q4,L4,J3];unfold dH
 congr 2
 omega
theorem SV {w:ByteArray}(c:¬vG w):bs (w.extract 0 (fb w))=dH w:=by
 rw [cZ,F4];unfold dH;rw [show lJ w=0 from if_neg c,Q3,J8,T6]
theorem WU {w:ByteArray}(h:lu w)(c:vG w):(w.extract (fb w) w.size).extract (lJ w+1) (w.extract (fb w) w.size).size=w.extract (aI w) w.size:=by
 have q2:=ur h;have hA:=iM (s:=w);rw [if_pos c] at q2;refine qX ?_;rw [cZ,dQ (wU _),cZ,cZ,Q4,L4,J3];rw [show fb w+(lJ w+1)=aI w by omega]
 congr 1
 omega
theorem Vn {w:ByteArray}(h:lu w):ax (w.extract (fb w) w.size) 0=ax w (fb w):=by
 have:=wO h;by_cases c:fb w < w.size
 ·rw [cI A8];rfl
 ·rw [bU (by rw [dQ (wU _)];omega),bU A8]
theorem SW {w:ByteArray}:(w.extract (fb w) w.size).extract 1 (w.extract (fb w) w.size).size=w.extract (fb w+1) w.size:=by
 refine qX ?_;rw [cZ,dQ (wU _),cZ,cZ,Q4,L4,J3]
 congr 1
 omega
theorem PM (w:ByteArray)(h:lu w)(hw:w.size<=140000000):Ok Tryz.prog 87 [gG w] true (.ba [tA (dV w).1 (dV w).2,.af (.int .i64 0)]):=by
 have q1:=Lm h;have q2:=ur h;have q3:=wO h;have hA:=iM (s:=w)
 have hmn:preB w ⟨#[45]⟩=false:=by
  rw [El _ _ B3];have hd:=h.TJ;unfold ak at hd;simp only [C7,E5] at hd;exact G4 fun e=>by rw [e] at hd;exact absurd hd.1 B3
 have c1:=TD w ⟨#[45]⟩ A8 B3 hmn;have c2:=zk w A8;rw [show ar ak w 0=fb w from rfl] at c2;refine aw bN mix Tryz.func87 rfl rfl B1 (zO rfl) ?_
 repeat'(first|(refine dU (a:=Code.region 3 _ _) Unit (fun _=>Uo Tryz.f87.ntmps w (w.extract 0 (fb w),w.extract (fb w) w.size)) (fun _=>True) ?_ ?_)|(with_reducible first|(refine zz ?_;try intro K hK)|refine zi ?_|refine zh ?_)|((first|apply hK _ _ rfl|apply hK);clear hK K)|(guard_hyp hK;first|refine zx ?_|apply ab|apply aa|refine zW ?_|(refine zQ (c1) ?_)|(refine zQ (c2) ?_)|intro b0 hb)|((first|refine zj ?_|guard_hyp hK);refine zY ?_ ?_;all_goals(intro hb;(try simp only [sn,sb] at hb);try exact ao)))
 ·rintro - -;have hX:=SP w (w.extract (aI w) w.size) h hw rfl;have c3:=kA (w.extract (fb w) w.size) ⟨#[46]⟩ (by rw [dQ (wU _)];omega) B3;rw [El _ _ B3,Vn h] at c3;have c4:=zk ((w.extract (fb w) w.size).extract 1 (w.extract (fb w) w.size).size) (by rw [SW,dQ (wU _)];omega);rw [SW] at c4;unfold Uo;dsimp only
  repeat'(first|(refine dU (a:=Code.seq (Code.region 5 _ _) (Code.cond _ _ _)) ByteArray (fun D=>Un Tryz.f87.ntmps w (D,w.extract (aI w) w.size)) (fun D=>bs D=dH w) ?_ ?_)|(with_reducible first|(refine zz ?_;try intro K hK)|refine zi ?_|refine zh ?_)|((first|apply hK _ _ rfl|apply hK);clear hK K)|(guard_hyp hK;first|refine zx ?_|apply ab|apply aa|refine zW ?_|intro b0 hb)|((first|refine zj ?_|guard_hyp hK);refine zY ?_ ?_;all_goals(intro hb;(try simp only [sn,sb] at hb);try exact ao)))
  ·intro D hD;obtain⟨hP,hDl⟩:=SU h hD;have hml:=Sw h;have hP2:=nn D A8;rw [hP] at hP2;have hO:=zX 1 1 B3;have hmv:=Mo (dH w);have hM:eg (dH w) < 256 ^ (dH w).length:=by have:=ll (dH w) 0;rw [C2,Q1] at this;exact this
   have hXb : -1000<=lI w/\lI w<=1000:=by
    unfold lI;by_cases c:eM w
    ·have:=(HP h c).2.2.2;rw [if_pos c];split<;>omega
    ·rw [if_neg c];omega
   have hb0:lJ w<=140000000:=by
    by_cases c:vG w
    ·rw [if_pos c] at q2;omega
    ·unfold lJ;rw [if_neg c];omega
   have e1:(dV w).1=qz (pH w) (pI w):=rfl;have e2:(dV w).2=qd (pH w) (pI w):=rfl;rw [e1,e2];have e3:0<=lI w - lJ w->pH w=eg (dH w) * 10 ^ (lI w - lJ w).toNat/\pI w=1:=fun c=>⟨if_pos c,if_pos c⟩
   have e4:¬0<=lI w - lJ w->pH w=eg (dH w)/\pI w=10 ^ (-(lI w - lJ w)).toNat:=fun c=>⟨if_neg c,if_neg c⟩
   have hnz:¬((fb w:Int)=0):=by omega
   unfold Un;dsimp only;clear c1 c2 c3 c4 hP e1 e2 hD;generalize eg (dH w)=M at *;generalize pH w=Pn at *;generalize pI w=Pd at *;generalize lI w=X9 at *;generalize lJ w=b9 at *;generalize fb w=a9 at *;generalize w.extract (aI w) w.size=TT at *
   have hq:∀(z:Nat) (d:Nat),tQ (iv (false != false) (lm z)) (val (lm d))=tA (qz z d) (qd z d):=fun z d=>by
    unfold iv;rw [bM,bM];rfl
   by_cases hs:0<=X9 - b9
   ·obtain⟨e5,e6⟩:=e3 hs
    have hsub:(((X9 - b9).toNat:Nat):Int)=IntKind.i64.wrap (X9 - (b9:Int)):=by
     rw [S0 hs];exact jr (by simp only [px];omega) (by simp only [py];omega)
    have hn:(X9 - b9).toNat<=1000:=by omega
    rw [e5,e6];generalize (X9 - b9).toNat=n0 at *;have p1:=pd n0;have t1:=Jx n0 A8;have t2:=vw (lm M) (lm (10 ^ n0)) A8 A8;rw [bM,bM] at t2
    have hml2:(lm (M * 10 ^ n0)).length<=280000000:=by
     have h8:M * 10 ^ n0 < 4294967296 ^ ((dH w).length+n0):=by
      rw [P3];refine L0 (T0 hM (M3 B3)) (V1 (P9 B3 _) (P9 B3 _))
     exact G6 (uF h8) A8
    have t3:=GD false false (lm (M * 10 ^ n0)) (lm 1) (by rw [bM];decide) A8 (by rw [DQ];decide);rw [hq] at t3
    repeat'(first|(guard_hyp hK;refine Sk _ (UO hsub ?_))|(with_reducible first|(refine zz ?_;try intro K hK)|refine zi ?_|refine zh ?_)|((first|apply hK _ _ rfl|apply hK);clear hK K)|(guard_hyp hK;first|refine zx ?_|apply ab|apply aa|refine zW ?_|(refine zQ (hX) ?_)|(refine zQ (hP2) ?_)|(refine zQ (hO) ?_)|(refine zQ (t1) ?_)|(refine zQ (t2) ?_)|(refine zQ (t3) ?_)|intro b0 hb)|((first|refine zj ?_|guard_hyp hK);refine zY ?_ ?_;all_goals(intro hb;(try simp only [sn,sb] at hb);try exact ao)))
    exact Sf (l:=[V.af (.bool (decide (qz ((M * 10 ^ n0:Nat):Int) 1 < 0))),.ro true (tn (lm (qz ((M * 10 ^ n0:Nat):Int) 1).natAbs)),.ro true (tn (lm (qd ((M * 10 ^ n0:Nat):Int) 1)))]) rfl NB rfl (D0 _) rfl rfl rfl (LN _ _)
   ·obtain⟨e5,e6⟩:=e4 hs
    have hneg:(((-(X9 - b9)).toNat:Nat):Int)=IntKind.i64.wrap (0 - (X9 - (b9:Int))):=by
     rw [S0 A8];rw [show(0 - (X9 - (b9:Int))) = -(X9 - b9) by omega];exact jr (by simp only [px];omega) (by simp only [py];omega)
    have hn:(-(X9 - b9)).toNat<=280000000:=by omega
    rw [e5,e6];generalize (-(X9 - b9)).toNat=n0 at *;have p1:=pd n0;have t1:=Jx n0 A8;have t3:=GD false false (lm M) (lm (10 ^ n0)) (by rw [bM];exact R0 (M3 B3)) A8 A8;rw [hq] at t3
    repeat'(first|(guard_hyp hK;refine Sk _ (UO hneg ?_))|(with_reducible first|(refine zz ?_;try intro K hK)|refine zi ?_|refine zh ?_)|((first|apply hK _ _ rfl|apply hK);clear hK K)|(guard_hyp hK;first|refine zx ?_|apply ab|apply aa|refine zW ?_|(refine zQ (hX) ?_)|(refine zQ (hP2) ?_)|(refine zQ (hO) ?_)|(refine zQ (t1) ?_)|(refine zQ (t3) ?_)|intro b0 hb)|((first|refine zj ?_|guard_hyp hK);refine zY ?_ ?_;all_goals(intro hb;(try simp only [sn,sb] at hb);try exact ao)))
    exact Sf (l:=[V.af (.bool (decide (qz (M:Int) (10 ^ n0) < 0))),.ro true (tn (lm (qz (M:Int) (10 ^ n0)).natAbs)),.ro true (tn (lm (qd (M:Int) (10 ^ n0))))]) rfl NB rfl (D0 _) rfl rfl rfl (LN _ _)
  ·intro R2 hR2;by_cases c:vG w
   ·rw [F9 (I3.1 ((KI h).2 c):ax w (fb w)=46)] at c3;rw [Qb h c] at c4;have hp:=(Ll h c).2;have hbs:=Vm h c;have hTT:=WU h c;rw [if_pos c] at q2;have hlen:(w.extract (fb w) w.size).size=w.size - fb w:=dQ (wU _);have hl2:(w.extract 0 (fb w)).size<=140000000:=by rw [dQ q3];omega
    rw [<- SW] at c4
    repeat'(first|(refine Mt A8 A8 ?_)|(with_reducible first|(refine zz ?_;try intro K hK)|refine zi ?_|refine zh ?_)|((first|apply hK _ _ rfl|apply hK);clear hK K)|(guard_hyp hK;first|refine zx ?_|apply ab|apply aa|refine zW ?_|(refine zQ (c3) ?_)|(refine zQ (c4) ?_)|intro b0 hb)|((first|refine zj ?_|guard_hyp hK);refine zY ?_ ?_;all_goals(intro hb;(try simp only [sn,sb] at hb);try exact ao)))
    exact hR2 _ _ hbs ⟨rfl,⟨wT hTT,trivial,rfl,rfl,rfl,trivial,rfl,trivial,rfl,trivial,rfl,trivial,trivial⟩,⟨rfl,trivial⟩,⟨Ek _,trivial⟩⟩
   ·rw [G4 (fun e=>c ((KI h).1 (by rw [e];rfl)):¬ax w (fb w)=46)] at c3;have hbs:=SV c;have hTT:w.extract (fb w) w.size=w.extract (aI w) w.size:=by rw [q2,if_neg c,H8]
    have hB:lJ w=0:=if_neg c
    repeat'(first|(with_reducible first|(refine zz ?_;try intro K hK)|refine zi ?_|refine zh ?_)|((first|apply hK _ _ rfl|apply hK);clear hK K)|(guard_hyp hK;first|refine zx ?_|apply ab|apply aa|refine zW ?_|(refine zQ (c3) ?_)|intro b0 hb)|((first|refine zj ?_|guard_hyp hK);refine zY ?_ ?_;all_goals(intro hb;(try simp only [sn,sb] at hb);try exact ao)))
    exact hR2 _ _ hbs ⟨rfl,⟨wT hTT,trivial,rfl,rfl,rfl,trivial,rfl,trivial,rfl,trivial,(by rw [hB];rfl),trivial,trivial⟩,⟨rfl,trivial⟩,⟨Ek _,trivial⟩⟩
 ·intro R hR
  repeat'(first|(with_reducible first|(refine zz ?_;try intro K hK)|refine zi ?_|refine zh ?_)|((first|apply hK _ _ rfl|apply hK);clear hK K)|(guard_hyp hK;first|refine zx ?_|apply ab|apply aa|refine zW ?_|intro b0 hb)|((first|refine zj ?_|guard_hyp hK);refine zY ?_ ?_;all_goals(intro hb;(try simp only [sn,sb] at hb);try exact ao)))
  exact hR _ () trivial ⟨rfl,⟨rfl,trivial,rfl,rfl,rfl,trivial,rfl,trivial,rfl,trivial,trivial⟩,⟨rfl,trivial⟩,⟨Ek _,trivial⟩⟩
end Go.Ev
namespace Go.Ev
open Go.Proofs
variable {W : fA}
open PS (cE)
def UK (z:Int)(d:Nat):V:=.agg [.af (.int .i8 1),.af (.bool (decide (z < 0))),.ro true (tn (lm z.natAbs)),.ro true (tn (lm d))]
theorem HM (z:Int)(d:Nat):(UK z d).flat:=fun v hv=>(dR (dR (cr (cr gq))) v hv).fl
def Wi (N a o:Nat)(z:Int)(d:Nat):St:=⟨N,[(0,.ref 0 0 0 0),(2,.own 3 0 0 1)],[(0,dE W a none o),(3,⟨4,[UK z d],0,true⟩)]⟩
theorem OE {dec:ByteArray->Int×Nat}(hF:Fit W)(hdec:∀t ∈ W.L,t.kind=2->Ok Tryz.prog 87 [gG t.text] true (.ba [tA (dec t.text).1 (dec t.text).2,.af (.int .i64 0)]))
  (d:Nat) (σ:PS W) (ho:σ.bu+(d+1)=65) (ha:σ.at_<=W.L.length) (h9:∀t,σ.tok=some t->(t.kind=4/\t.text=PS.ft)\/(t.kind=4/\t.text=PS.aE)->64<=σ.bu) :
  jP Tryz.prog 74 (pO σ) [3] [.ref 0 0 0 0] (Bi (PS.un dec (d+1) σ).2 (PS.un dec (d+1) σ).1) (.own 3 0 0 (PS.un dec (d+1) σ).1.length):=by
 have hL:=hF.len;have hlk:=kP σ;have hfl:=iV σ.settle 30 B3;have hfd:=iV σ.settle 31 B3;have ca:=gQ σ.settle 4 PS.ft;have cb:=gQ σ.settle.settle 4 PS.aE;rw [dO] at hfl hfd;rw [sJ] at ca cb;rw [sJ] at cb;rw [dw] at ca cb
 cases ht:σ.tok with
 |none=>
  rw [kD ht] at hfl;rw [ht] at hlk;rw [pA ht] at ca cb;rw [show PS.un dec (d+1) σ=([],σ.settle) from by rw [PS.un,ht]];unfold Bi;unfold pO at hlk hfl ca cb |-;refine fH bN mix 1 (zO rfl) Tryz.func74 rfl rfl B1 B1 (zO rfl) ?_
  repeat'(first|(with_reducible first|(refine zz ?_;try intro K hK)|refine zi ?_|refine zh ?_)|((first|apply hK _ _ rfl|apply hK);clear hK K)|(guard_hyp hK;first|refine zx ?_|apply ab|apply aa|refine zW ?_|refine zp 0 (hlk) ?_|refine zp 0 (ca) ?_|refine zp 0 (cb) ?_|refine zp 0 (hfl) ?_|intro b0 hb)|((first|refine zj ?_|guard_hyp hK);refine zY ?_ ?_;all_goals(intro hb;(try simp only [sn,sb] at hb);try exact ao)))
  all_goals exact sw rfl B3 (au rfl (aW _ _ _)) rfl rfl B3 rfl
 |some t=>
  have hlt:=(PS.aX ht).2.2;have hm:=MH (PS.aX ht).2.1;have hB:∀k w,σ.du k w=decide (t.kind=k/\t.text=w):=fun k w=>by unfold PS.du;rw [ht]
  rw [ht,PS.az ht] at hlk;rw [PS.az ht] at hfl hfd ca cb;rw [hB] at ca cb
  have hun:PS.un dec (d+1) σ=(if t.kind=2 then([⟨1,(dec t.text).1,(dec t.text).2⟩],σ.aK)
    else if t.kind=4/\t.text=PS.ft then
     (if 64<=σ.bu then([],σ.bZ 31) else((PS.un dec d (σ.aK.bE (σ.bu+1))).1 ++ [⟨6,0,0⟩],(PS.un dec d (σ.aK.bE (σ.bu+1))).2.bE σ.bu))
    else if t.kind=4/\t.text=PS.aE then
     (if 64<=σ.bu then([],σ.bZ 31) else((PS.sum (PS.un dec d) (σ.aK.bE (σ.bu+1))).1,(PS.aO 4 PS.aF (PS.sum (PS.un dec d) (σ.aK.bE (σ.bu+1))).2).bE σ.bu))
    else([],σ.bZ 30)):=by rw [PS.un,ht]
  rw [hun];by_cases hk2:t.kind=2
  ·have hd:=hdec t hm hk2;rw [if_pos hk2];unfold Bi;simp only;obtain⟨e1,e2,e3⟩:=PS.dx ht (by rw [hk2];decide);rw [e1,e2,e3];rw [bF ht] at hlk |-;refine fH bN mix 1 (zO rfl) Tryz.func74 rfl rfl B1 B1 (zO rfl) ?_;generalize (dec t.text).1=z9 at *;generalize (dec t.text).2=d9 at *
   repeat'(first|(refine Uw (a:=Code.region 5 _ _) Unit (fun _=>Wi Tryz.f74.ntmps (W:=W) (σ.at_+1) σ.bu z9 d9) (fun _=>True) ?_ ?_)|(with_reducible first|(refine zz ?_;try intro K hK)|refine zi ?_|refine zh ?_)|((first|apply hK _ _ rfl|apply hK);clear hK K)|(guard_hyp hK;first|refine zx ?_|apply ab|apply aa|refine zW ?_|(refine zQ (hd) ?_)|refine zp 0 (hlk) ?_|intro b0 hb)|((first|refine zj ?_|guard_hyp hK);refine zY ?_ ?_;all_goals(intro hb;(try simp only [sn,sb] at hb);try exact ao)))
   ·rintro - -
    repeat'(first|(with_reducible first|(refine zz ?_;try intro K hK)|refine zi ?_|refine zh ?_)|((first|apply hK _ _ rfl|apply hK);clear hK K)|(guard_hyp hK;first|refine zx ?_|apply ab|apply aa|refine zW ?_|intro b0 hb)|((first|refine zj ?_|guard_hyp hK);refine zY ?_ ?_;all_goals(intro hb;(try simp only [sn,sb] at hb);try exact ao)))
    exact ni (v:=0) (l:=[⟨1,z9,d9⟩]) 1 rfl rfl B3 (au rfl (aW _ _ _)) (Lc.same _ rfl) (ck rfl (SA _ _)) B3 rfl
   ·intro R hR
    repeat'(first|(with_reducible first|(refine zz ?_;try intro K hK)|refine zi ?_|refine zh ?_)|((first|apply hK _ _ rfl|apply hK);clear hK K)|(guard_hyp hK;first|refine zx ?_|apply ab|apply aa|refine zW ?_|intro b0 hb)|((first|refine zj ?_|guard_hyp hK);refine zY ?_ ?_;all_goals(intro hb;(try simp only [sn,sb] at hb);try exact ao)))
    refine hR _ () trivial (UP (qR [(0,0,0),(3,4,0)]) ?_ ?_ ?_)
    ·show ∀i ∈ [0,3],∀j ∈ [0,3],qR [(0,0,0),(3,4,0)] i=qR [(0,0,0),(3,4,0)] j->i=j;decide
    ·exact⟨⟨_,rfl,rfl,rfl,rfl,rfl,rfl,nb (aW _ _ _)⟩,⟨_,rfl,rfl,rfl,rfl,rfl,rfl,nb (fm (HM z9 d9))⟩,trivial⟩
    ·exact⟨Bb rfl rfl rfl rfl,Kx rfl rfl rfl rfl,trivial⟩
  rw [if_neg hk2]
  have hnk:t.kind=4/\t.text=PS.ft->¬(t.kind=4/\t.text=PS.aE):=fun h1 h2=>by
   have:=h1.2.symm.trans h2.2;have:=B4 ByteArray.data this;exact absurd this B3
  have hgo:∀c:Bool,((t.kind=4/\t.text=PS.ft)\/(t.kind=4/\t.text=PS.aE))->jP Tryz.prog 74 (pO σ) [3] [.ref 0 0 0 0] (Bi (σ.bZ 31) []) (.own 3 0 0 ([]:List cE).length):=by
   intro _ hh;have h64:=h9 t ht hh;unfold Bi;unfold pO at hlk hfd ca cb |-;rcases hh with hh|hh
   ·rw [F9 hh] at ca;rw [G4 (hnk hh)] at cb;refine fH bN mix 1 (zO rfl) Tryz.func74 rfl rfl B1 B1 (zO rfl) ?_
    repeat'(first|(with_reducible first|(refine zz ?_;try intro K hK)|refine zi ?_|refine zh ?_)|((first|apply hK _ _ rfl|apply hK);clear hK K)|(guard_hyp hK;first|refine zx ?_|apply ab|apply aa|refine zW ?_|refine zp 0 (hlk) ?_|refine zp 0 (ca) ?_|refine zp 0 (cb) ?_|refine zp 0 (hfd) ?_|intro b0 hb)|((first|refine zj ?_|guard_hyp hK);refine zY ?_ ?_;all_goals(intro hb;(try simp only [sn,sb] at hb);try exact ao)))
    all_goals exact sw rfl B3 (au rfl (aW _ _ _)) rfl rfl B3 rfl
   ·rw [G4 fun h=>hnk h hh] at ca;rw [F9 hh] at cb;refine fH bN mix 1 (zO rfl) Tryz.func74 rfl rfl B1 B1 (zO rfl) ?_
    repeat'(first|(with_reducible first|(refine zz ?_;try intro K hK)|refine zi ?_|refine zh ?_)|((first|apply hK _ _ rfl|apply hK);clear hK K)|(guard_hyp hK;first|refine zx ?_|apply ab|apply aa|refine zW ?_|refine zp 0 (hlk) ?_|refine zp 0 (ca) ?_|refine zp 0 (cb) ?_|refine zp 0 (hfd) ?_|intro b0 hb)|((first|refine zj ?_|guard_hyp hK);refine zY ?_ ?_;all_goals(intro hb;(try simp only [sn,sb] at hb);try exact ao)))
    all_goals exact sw rfl B3 (au rfl (aW _ _ _)) rfl rfl B3 rfl
  by_cases hmn:t.kind=4/\t.text=PS.ft
  ·rw [if_pos hmn,if_pos (h9 t ht (.inl hmn))];exact hgo true (.inl hmn)
  rw [if_neg hmn];by_cases hop:t.kind=4/\t.text=PS.aE
  ·rw [if_pos hop,if_pos (h9 t ht (.inr hop))];exact hgo true (.inr hop)
  rw [if_neg hop];rw [G4 hmn] at ca;rw [G4 hop] at cb;unfold Bi;unfold pO at hlk hfl ca cb |-;refine fH bN mix 1 (zO rfl) Tryz.func74 rfl rfl B1 B1 (zO rfl) ?_
  repeat'(first|(with_reducible first|(refine zz ?_;try intro K hK)|refine zi ?_|refine zh ?_)|((first|apply hK _ _ rfl|apply hK);clear hK K)|(guard_hyp hK;first|refine zx ?_|apply ab|apply aa|refine zW ?_|refine zp 0 (hlk) ?_|refine zp 0 (ca) ?_|refine zp 0 (cb) ?_|refine zp 0 (hfl) ?_|intro b0 hb)|((first|refine zj ?_|guard_hyp hK);refine zY ?_ ?_;all_goals(intro hb;(try simp only [sn,sb] at hb);try exact ao)))
  all_goals exact sw rfl B3 (au rfl (aW _ _ _)) rfl rfl B3 rfl
end Go.Ev
namespace Go.Ev
open Go.Proofs
variable {W : fA}
def Th : Obj:=⟨1,[.ref 0 0 0 0],0,true⟩
def pB (W:fA)(a:Nat)(b:Option dy)(n:Nat):OH:=[(0,dE W a b n),(1,Th)]
theorem ow {a:Nat}{b:Option dy}{n:Nat}{i:Nat}{o:Obj}(h:ae (pB W a b n) i=some o):(i=0/\o=dE W a b n)\/(i=1/\o=Th):=by
 by_cases h0:i=0
 ·subst h0;exact .inl ⟨rfl,(C6 h).symm⟩
 ·by_cases h1:i=1
  ·subst h1;exact .inr ⟨rfl,(C6 h).symm⟩
  ·rw [pB,ae,if_neg (H5 h0),ae,if_neg (H5 h1)] at h;cases h
theorem uc {a a':Nat}{b b':Option dy}{n n':Nat}{i:Nat}{o:Obj}(h:ae (dz W a' b' n' ++ pB W a b n) i=some o):(i=0/\o=dE W a' b' n')\/(i=1/\o=Th):=by
 by_cases h0:i=0
 ·subst h0;exact .inl ⟨rfl,(C6 h).symm⟩
 ·have:ae (pB W a b n) i=some o:=by
   rw [<- h];show _=ae ((0,_) :: pB W a b n) i;rw [ae,if_neg (H5 h0)]
  rcases ow this with⟨e,-⟩|h9
  ·exact absurd e h0
  ·exact .inr h9
theorem UG {oh:OH}{a a':Nat}{b b':Option dy}{n n':Nat}(hs:ae oh 0=some (dE W a' b' n'))(h1:ae oh 1=some Th):Bm oh (dz W a' b' n' ++ pB W a b n):=by
 intro i o h;rcases uc h with⟨rfl,rfl⟩|⟨rfl,rfl⟩
 ·refine⟨_,hs,rfl,rfl,rfl,rfl,fun k e e1 g1 g2=>?_⟩;rw [g1] at g2;obtain rfl:e=e1:=by simpa using g2
  exact jk (aW _ _ _ e (MH g1))
 ·refine⟨_,h1,rfl,rfl,rfl,rfl,fun k e e1 g1 g2=>?_⟩;rw [g1] at g2;obtain rfl:e=e1:=by simpa using g2
  obtain rfl:e=.ref 0 0 0 0:=by simpa [Th] using MH g1
  exact mO.ref 0 0 0 0 0 _ _ hs rfl rfl rfl
theorem FB (a:Nat)(b:Option dy)(n:Nat)(hn:n<=64):Xn Tryz.prog 88 (pB W a b (n+1)) [.ref 1 0 0 0] (dz W a b n):=by
 have hw:((n:Nat):Int)=IntKind.i64.wrap (((n+1:Nat):Int) - 1):=by
  rw [show((n+1:Nat):Int) - 1=n by omega];exact jr (by simp only [px];omega) (by simp only [py];omega)
 refine DD (fun _ _ _ h=>h) Tryz.func88 rfl rfl B1 B1 (D3 rfl) rfl (fun i o h=>?_) (fun v hv=>?_) (fun i o h=>?_) (fun i o o' h h' _ _=>?_) (fun i o h=>?_) ?_
 ·rcases ow h with⟨rfl,rfl⟩|⟨rfl,rfl⟩
  ·exact⟨rfl,rfl,fZ _⟩
  ·exact⟨rfl,rfl,bT rfl⟩
 ·obtain rfl:=HQ.1 hv;exact rfl
 ·obtain⟨rfl,rfl⟩:=aR h;exact .inl rfl
 ·rcases ow h with⟨rfl,rfl⟩|⟨rfl,rfl⟩
  ·rcases uc h' with⟨-,rfl⟩|⟨e,-⟩
   ·exact⟨rfl,wU _⟩
   ·cases e
  ·rcases uc h' with⟨e,-⟩|⟨-,rfl⟩
   ·cases e
   ·exact⟨rfl,wU _⟩
 ·rcases ow h with⟨rfl,rfl⟩|⟨rfl,rfl⟩
  ·exact⟨D0 _,fun e=>by cases e⟩
  ·exact⟨D0 _,fun e=>by cases e⟩
 unfold pB
 repeat'(first|(guard_hyp hK;refine Sk _ (UO hw ?_))|(with_reducible first|(refine zz ?_;try intro K hK)|refine zi ?_|refine zh ?_)|((first|apply hK _ _ rfl|apply hK);clear hK K)|(guard_hyp hK;first|refine zx ?_|apply ab|apply aa|refine zW ?_|intro b0 hb)|((first|refine zj ?_|guard_hyp hK);refine zY ?_ ?_;all_goals(intro hb;(try simp only [sn,sb] at hb);try exact ao)))
 refine⟨UG rfl rfl,fun i o h=>?_⟩;rcases ow h with⟨rfl,rfl⟩|⟨rfl,rfl⟩
 ·exact⟨_,rfl,rfl,rfl,rfl⟩
 ·exact⟨_,rfl,rfl,rfl,rfl⟩
end Go.Ev
