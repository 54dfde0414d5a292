import Derived.Test.YthpoegdjffdojaaGreatDoorTLbi
import Derived.Test.YthpoegdjffdojaaGreatDoorTWly
import Derived.Test.YthpoegdjffdojaaGreatDoorTLat
import Derived.Deep.Slices
set_option linter.all false
set_option maxHeartbeats 60000000
set_option maxRecDepth 10000
namespace Go.Ev
open Go.Proofs
open PS (cE eZ dW eY iS)
theorem QC (s:ByteArray)(hs:s.size≤134217728):Ok Tryz.prog 11 [gG s] false (.ba [qh (yC dV s).1,MX (yC dV s).2]):=
 OI s (xG s hs) (KY s hs) (AF s Yy)
def Ez : List cE:=[⟨1,1,1⟩,⟨1,2,1⟩,⟨1,3,1⟩,⟨6,0,0⟩,⟨4,0,0⟩,⟨3,0,0⟩]
theorem FQ : lm 0=[]:=by rw [lm,if_pos rfl]
def Xk : Option dy→V
 |none=>.af .nilIface
 |some f=>.ro false (.jq 87 (.ptr (rF f)))
def Tp (f:iS):Obj:=⟨4,[.agg [.af (.string f.name),.ro false (jO f.aN),.ro false (.sl (f.vars.map qg)),.ro false (.sl (f.bG.map qi))]],0,true⟩
def Xj (o:Option dy):Obj:=⟨4,[.agg [.af (.int .i64 (VS o)),.af (.int .i64 (WQ o)),.af (.int .i64 (WR o)),.af (.string (WO o))]],0,true⟩
theorem Lv : mN Ez∧∀t ∈ Ez,xo t:=by
 have h1:∀n,0 < n→n < 100→mN (lm n):=fun n h0 h=>by
  unfold mN;rw [uE h0 Yy];exact Nat.le_of_ble_eq_true rfl
 have h0:mN (lm 0):=by
  unfold mN;rw [FQ];decide
 refine⟨by unfold mN Ez;decide,fun t ht=>?_⟩;simp only [Ez,List.mem_cons,List.not_mem_nil,or_false] at ht;rcases ht with rfl|rfl|rfl|rfl|rfl|rfl
 ·exact⟨h1 1 YA YA,h1 1 YA YA⟩
 ·exact⟨h1 2 YA YA,h1 1 YA YA⟩
 ·exact⟨h1 3 YA YA,h1 1 YA YA⟩
 ·exact⟨h0,h0⟩
 ·exact⟨h0,h0⟩
 ·exact⟨h0,h0⟩
def Nv (k:Int):V:=.agg [.af (.int .i8 k),.af (.bool false),.emp,.emp]
def To : Obj:=⟨4,[vT ⟨1,1,1⟩,vT ⟨1,2,1⟩,vT ⟨1,3,1⟩,Nv 6,Nv 4,Nv 3],0,true⟩
theorem sN : ∀e ∈ To.el,e.flat:=by
 intro e he;simp only [To,List.mem_cons,List.not_mem_nil,or_false] at he;rcases he with rfl|rfl|rfl|rfl|rfl|rfl
 ·exact kE _
 ·exact kE _
 ·exact kE _
 all_goals
  intro v hv;simp at hv;rcases hv with rfl|rfl|rfl<;>trivial
theorem Vz : xu [.int .i64,.int .i64,.int .i64,.str] [.af (.int .i64 30),.af (.int .i64 1),.af (.int .i64 8),.af (.string eS)] [.af (.int .i64 30),.af (.int .i64 1),.af (.int .i64 8),.af (.string .empty)]=some true:=by simp [xu,Ns,eS]
theorem Vb {oh:OH}(t:cE):Rg oh false (vT t) (tT t):=by
 refine⟨rfl,fun j v u e1 e2=>?_⟩
 match j with
 |0=>simp [vT,V.cells] at e1;simp [tT,T.cells] at e2;subst e1;subst e2;exact .af _
 |1=>simp [vT,V.cells] at e1;simp [tT,T.cells] at e2;subst e1;subst e2;exact .af _
 |2=>simp [vT,V.cells] at e1;simp [tT,T.cells] at e2;subst e1;subst e2;exact .ro false _ fun h=>h
 |3=>simp [vT,V.cells] at e1;simp [tT,T.cells] at e2;subst e1;subst e2;exact .ro false _ fun h=>h
 |j+4=>simp [vT,V.cells] at e1
def Wa (t:cE):V:=if t.kind=1 then vT t else Nv t.kind
theorem SJ {oh:OH}{t:cE}(h:t.kind=1∨(t.z=0∧t.d=0)):Rg oh false (Wa t) (tT t):=by
 unfold Wa;by_cases h1:t.kind=1
 ·rw [if_pos h1];exact Vb t
 ·rw [if_neg h1];obtain⟨h2,h3⟩:=h.resolve_left h1
  have e:tT t=.agg [.af (.int .i8 t.kind),.af (.bool false),.sl [],.sl []]:=by
   unfold tT;rw [h2,h3,show Int.natAbs 0=0 from rfl,FQ];rfl
  rw [e];refine⟨rfl,fun j v u e1 e2=>?_⟩
  match j with
  |0=>simp [Nv,V.cells] at e1;simp [T.cells] at e2;subst e1;subst e2;exact .af _
  |1=>simp [Nv,V.cells] at e1;simp [T.cells] at e2;subst e1;subst e2;exact .af _
  |2=>simp [Nv,V.cells] at e1;simp [T.cells] at e2;subst e1;subst e2;exact .emp
  |3=>simp [Nv,V.cells] at e1;simp [T.cells] at e2;subst e1;subst e2;exact .emp
  |j+4=>simp [Nv,V.cells] at e1
theorem Vc {oh:OH}{v v2:V}{t t2:T}(h:gM oh false v t)(h2:gM oh false v2 t2):TB oh [v,v2] [t,t2]:=by
 refine⟨rfl,fun j v' t' e1 e2=>?_⟩
 match j with
 |0=>simp at e1 e2;subst e1;subst e2;exact h
 |1=>simp at e1 e2;subst e1;subst e2;exact h2
 |j+2=>simp at e1
theorem Qk : TB [(0,To)] [.ro false (CG Ez),.own 0 0 0 6] [CG Ez,CG Ez]:=
 Vc (kr rfl fun h=>Bool.noConfusion h) (gW (F:=Wa) (G:=tT) (l:=Ez) rfl rfl rfl rfl rfl (fun t ht=>SJ (by
  simp only [Ez,List.mem_cons,List.not_mem_nil,or_false] at ht
  rcases ht with rfl|rfl|rfl|rfl|rfl|rfl<;>simp)) rfl)
theorem MK : Ok Tryz.prog 5 [] true (.af (.bool true)):=by
 have p1:=QC VC YA;rw [Yg] at p1;have p2:=La VB YA;rw [Yf] at p2;have p3:=La VA YA;rw [Ye] at p3;have n1:=yB 1 YA YA;have n2:=yB 2 YA YA;have n3:=yB 3 YA YA;have fo:=LZ QY ⟨30,1,8,eS⟩;have st:=sTerms Ez Lv.1 Lv.2;refine aw bN mix Tryz.func5 rfl rfl Yz (zO rfl) ?_
 repeat'(first|(refine ld (a:=Code.region 1 _ _) Unit (fun _=>⟨Tryz.f5.ntmps,[(1,.ro false (qh [Ez])),(2,.af .nilIface)],[]⟩) (fun _=>True) ?_ ?_)|(with_reducible first|(refine zz ?_;try intro K hK)|refine zi ?_|refine zh ?_)|((first|apply hK _ _ rfl|apply hK);clear hK K)|(guard_hyp hK;first|refine zx ?_|apply ab|apply aa|refine zW ?_|intro b0 hb)|((first|refine zj ?_|guard_hyp hK);refine zY ?_ ?_;all_goals(intro hb;(try simp only [sn,sb] at hb);try exact ao)))
 rotate_left
 ·intro R hR
  repeat'(first|(with_reducible first|(refine zz ?_;try intro K hK)|refine zi ?_|refine zh ?_)|((first|apply hK _ _ rfl|apply hK);clear hK K)|(guard_hyp hK;first|refine zx ?_|apply ab|apply aa|refine zW ?_|(refine zQ (p1) ?_)|intro b0 hb)|((first|refine zj ?_|guard_hyp hK);refine zY ?_ ?_;all_goals(intro hb;(try simp only [sn,sb] at hb);try exact ao)))
  exact hR _ () trivial (bx ⟨jz,Lc.same _ trivial,trivial⟩ trivial)
 rintro - -
 repeat'(first|(refine ld (a:=Code.region 2 _ _) Unit (fun _=>⟨Tryz.f5.ntmps,[(1,.ro false (qh [Ez])),(2,.af .nilIface),(3,.own 0 0 0 6)],[(0,To)]⟩) (fun _=>True) ?_ ?_)|(with_reducible first|(refine zz ?_;try intro K hK)|refine zi ?_|refine zh ?_)|((first|apply hK _ _ rfl|apply hK);clear hK K)|(guard_hyp hK;first|refine zx ?_|apply ab|apply aa|refine zW ?_|intro b0 hb)|((first|refine zj ?_|guard_hyp hK);refine zY ?_ ?_;all_goals(intro hb;(try simp only [sn,sb] at hb);try exact ao)))
 rotate_left
 ·intro R hR
  repeat'(first|(with_reducible first|(refine zz ?_;try intro K hK)|refine zi ?_|refine zh ?_)|((first|apply hK _ _ rfl|apply hK);clear hK K)|(guard_hyp hK;first|refine zx ?_|apply ab|apply aa|refine zW ?_|(refine zQ (n1) ?_)|(refine zQ (n2) ?_)|(refine zQ (n3) ?_)|intro b0 hb)|((first|refine zj ?_|guard_hyp hK);refine zY ?_ ?_;all_goals(intro hb;(try simp only [sn,sb] at hb);try exact ao)))
  exact hR _ () trivial (bx ⟨jz,Lc.same _ trivial,Lc.same _ rfl,trivial⟩ ⟨au rfl sN,trivial⟩)
 rintro - -
 repeat'(first|(refine ld (a:=Code.region 3 _ _) Unit (fun _=>⟨Tryz.f5.ntmps,[(1,.ro false (qh [Ez])),(2,.af .nilIface),(3,.own 0 0 0 6),(4,.ref 1 0 0 0),(5,.af .nilIface)],[(0,To),(1,Tp ⟨⟨#[110]⟩,[⟨#[97]⟩],[],[]⟩)]⟩) (fun _=>True) ?_ ?_)|(with_reducible first|(refine zz ?_;try intro K hK)|refine zi ?_|refine zh ?_)|((first|apply hK _ _ rfl|apply hK);clear hK K)|(guard_hyp hK;first|refine zx ?_|apply ab|apply aa|refine zW ?_|intro b0 hb)|((first|refine zj ?_|guard_hyp hK);refine zY ?_ ?_;all_goals(intro hb;(try simp only [sn,sb] at hb);try exact ao)))
 rotate_left
 ·intro R hR
  repeat'(first|(with_reducible first|(refine zz ?_;try intro K hK)|refine zi ?_|refine zh ?_)|((first|apply hK _ _ rfl|apply hK);clear hK K)|(guard_hyp hK;first|refine zx ?_|apply ab|apply aa|refine zW ?_|(refine zQ (p2) ?_)|intro b0 hb)|((first|refine zj ?_|guard_hyp hK);refine zY ?_ ?_;all_goals(intro hb;(try simp only [sn,sb] at hb);try exact ao)))
  exact hR _ () trivial (bx ⟨jz,Lc.same _ trivial,Lc.same _ rfl,Lc.same _ rfl,Lc.same _ trivial,trivial⟩ ⟨au rfl sN,bC rfl rfl,trivial⟩)
 rintro - -
 repeat'(first|(refine ld (a:=Code.region 4 _ _) Unit (fun _=>⟨Tryz.f5.ntmps,[(1,.ro false (qh [Ez])),(2,.af .nilIface),(3,.own 0 0 0 6),(4,.ref 1 0 0 0),(5,.af .nilIface),(7,Xk (some ⟨30,1,8,eS⟩))],[(0,To),(1,Tp ⟨⟨#[110]⟩,[⟨#[97]⟩],[],[]⟩)]⟩) (fun _=>True) ?_ ?_)|(with_reducible first|(refine zz ?_;try intro K hK)|refine zi ?_|refine zh ?_)|((first|apply hK _ _ rfl|apply hK);clear hK K)|(guard_hyp hK;first|refine zx ?_|apply ab|apply aa|refine zW ?_|intro b0 hb)|((first|refine zj ?_|guard_hyp hK);refine zY ?_ ?_;all_goals(intro hb;(try simp only [sn,sb] at hb);try exact ao)))
 rotate_left
 ·intro R hR
  repeat'(first|(with_reducible first|(refine zz ?_;try intro K hK)|refine zi ?_|refine zh ?_)|((first|apply hK _ _ rfl|apply hK);clear hK K)|(guard_hyp hK;first|refine zx ?_|apply ab|apply aa|refine zW ?_|(refine zQ (p3) ?_)|intro b0 hb)|((first|refine zj ?_|guard_hyp hK);refine zY ?_ ?_;all_goals(intro hb;(try simp only [sn,sb] at hb);try exact ao)))
  exact hR _ () trivial (bx ⟨jz,Lc.same _ trivial,Lc.same _ rfl,Lc.same _ rfl,Lc.same _ trivial,Lc.same _ trivial,trivial⟩ ⟨au rfl sN,bC rfl rfl,trivial⟩)
 rintro - -
 repeat'(first|(refine ld (a:=Code.region 5 _ _) Unit (fun _=>⟨Tryz.f5.ntmps,[(1,.ro false (qh [Ez])),(2,.af .nilIface),(3,.own 0 0 0 6),(4,.ref 1 0 0 0),(5,.af .nilIface),(8,.ref 2 0 0 0),(9,.af (.bool true))],[(0,To),(1,Tp ⟨⟨#[110]⟩,[⟨#[97]⟩],[],[]⟩),(2,Xj (some ⟨30,1,8,eS⟩))]⟩) (fun _=>True) ?_ ?_)|(with_reducible first|(refine zz ?_;try intro K hK)|refine zi ?_|refine zh ?_)|((first|apply hK _ _ rfl|apply hK);clear hK K)|(guard_hyp hK;first|refine zx ?_|apply ab|apply aa|refine zW ?_|intro b0 hb)|((first|refine zj ?_|guard_hyp hK);refine zY ?_ ?_;all_goals(intro hb;(try simp only [sn,sb] at hb);try exact ao)))
 rotate_left
 ·intro R hR
  repeat'(first|(with_reducible first|(refine zz ?_;try intro K hK)|refine zi ?_|refine zh ?_)|((first|apply hK _ _ rfl|apply hK);clear hK K)|(guard_hyp hK;first|refine zx ?_|apply ab|apply aa|refine zW ?_|(refine zQ (fo) ?_)|intro b0 hb)|((first|refine zj ?_|guard_hyp hK);refine zY ?_ ?_;all_goals(intro hb;(try simp only [sn,sb] at hb);try exact ao)))
  exact hR _ () trivial (bx ⟨jz,Lc.same _ trivial,Lc.same _ rfl,Lc.same _ rfl,Lc.same _ trivial,Lc.same _ rfl,Lc.same _ trivial,trivial⟩ ⟨au rfl sN,bC rfl rfl,bC rfl rfl,trivial⟩)
 rintro - -
 repeat'(first|(refine Exists.intro _ (Exists.intro true (And.intro Yn (And.intro rfl (And.intro rfl (And.intro Vz ?_))))))|(with_reducible first|(refine zz ?_;try intro K hK)|refine zi ?_|refine zh ?_)|((first|apply hK _ _ rfl|apply hK);clear hK K)|(guard_hyp hK;first|refine zx ?_|apply ab|apply aa|refine zW ?_|(refine' Or.inl (Exists.intro _ (Exists.intro _ (Exists.intro _ (And.intro (st) (Exists.intro [(0,_)] (And.intro (uC ?lh) (And.intro ?lz (And.intro rfl ?_))))))));(case lh=>exact rfl);(case lz=>exact Qk))|intro b0 hb)|((first|refine zj ?_|guard_hyp hK);refine zY ?_ ?_;all_goals(intro hb;(try simp only [sn,sb] at hb);try exact ao)))
 all_goals exact lC rfl rfl rfl
open PS (cE bV dW eZ eY iS)
theorem gU {α:Type}{l:List α}(h:l.length≤1073741824):mN l:=Nat.le_trans h YA
theorem Rx {t:dT}(ht:MP t)(hm:t.nH.length≤1048576):xo t.conv:=by
 obtain⟨kind,neg,nH,den⟩:=t;have l1:mN (lm 1):=by rw [DQ];unfold mN;decide
 have l0:mN (lm 0):=by rw [lm,if_pos rfl];unfold mN;decide
 rcases ht with⟨h1,-⟩|⟨h1,-⟩
 ·dsimp only at h1 hm;subst h1;refine⟨?_,l1⟩;show mN (lm (Int.natAbs ((val nH:Nat):Int)));rw [Int.natAbs_natCast];exact gU (Nat.le_trans (kQ nH) Yy)
 ·dsimp only at h1;have e:(dT.mk kind neg nH den).conv=⟨kind,0,0⟩:=if_neg h1;rw [e];exact⟨l0,l0⟩
theorem Fh {l:List (List dT)}(h:vV l)(hl:zV l):Tu (l.map fun a=>a.map (·.conv)):=by
 refine⟨gU (by rw [List.length_map];exact hl.len),fun x hx=>?_⟩;obtain⟨a,ha,rfl⟩:=List.mem_map.1 hx;refine⟨gU (by rw [List.length_map];exact hl.Xz a ha),fun t ht=>?_⟩;obtain⟨u,hu,rfl⟩:=List.mem_map.1 ht;obtain⟨ws,hs⟩:=h a ha;exact Rx (Fa hs u hu) (hl.nH a ha u hu)
theorem Ih (e:nt):(PS.EW.D (iB e)).nums=e.nums.map fun a=>a.map (·.conv):=by
 show(e.nums.map xe).map (·.tm)=_;rw [List.map_map];rfl
theorem PD {f:rY}(h:XI f)(hp:Qr f):Ri (uP f).D:=by
 refine⟨gU hp.rl,gU (by show(f.vars.map lM).length≤_;rw [List.length_map];exact hp.vl),gU (by show((f.bG.map oq).map (·.D)).length≤_;rw [List.length_map,List.length_map];exact hp.pl),fun v hv=>?_,fun p hpm=>?_⟩
 ·obtain⟨x,hx,rfl⟩:=List.mem_map.1 (show v ∈ f.vars.map lM from hv);have hx':=hp.vr x hx;exact⟨gU (Nat.le_trans (kQ x.count) (Nat.le_trans hx'.cl YA)),gU hx'.vl,gU hx'.rl⟩
 ·obtain⟨y,hy,rfl⟩:=List.mem_map.1 (show p ∈ (f.bG.map oq).map (·.D) from hpm);obtain⟨x,hx,rfl⟩:=List.mem_map.1 hy;have hx':=hp.pr x hx;refine⟨gU hx'.pl,gU hx'.rl,gU (by show((x.bg.map iB).map (·.D)).length≤_;rw [List.length_map,List.length_map];exact hx'.el),fun e he=>?_⟩;obtain⟨z,hz,rfl⟩:=List.mem_map.1 (show e ∈ (x.bg.map iB).map (·.D) from he);obtain⟨u,hu,rfl⟩:=List.mem_map.1 hz;refine⟨gU (hx'.gl u hu),?_⟩;rw [Ih];exact Fh (h.row x hx u hu).1 (hx'.nu u hu)
theorem gZ {α:Type}(g:α→Nat):∀{l:List α} {a:α},a ∈ l→g a≤(l.map g).sum
 |b :: r,a,h=>by
  rw [List.map_cons,List.sum_cons];rcases List.mem_cons.1 h with rfl|h
  ·omega
  ·have:=gZ g h;omega
theorem Qa {f:rY}{p:pS}{e:nt}(hp:p ∈ f.bG)(he:e ∈ p.bg):Cl e.nums≤MC f:=by
 have h1:=gZ Es hp;have h2:=gZ Et he;have h3:Et e=2+iQ e.given+Cl e.nums:=rfl;have h4:Es p=2+Er p.name+iQ p.cX+(p.bg.map Et).sum+iQ p.aN:=rfl;have h5:MC f=3+Er f.name+iQ f.aN+(f.vars.map Iz).sum+(f.bG.map Es).sum:=rfl;omega
theorem za (f:iS)(oh:OH):∀v ∈ (VT f).el,v.cl oh:=fun v hv=>(Vg f v hv).cl oh
def Xb (n:Nat)(G:List ByteArray)(f:rY)(D:iS)(σ:WS)(i:Nat):St:=⟨n,[(2,.ref 0 0 0 0),(6,.ref 1 0 0 0),(10,.af (.int .i64 i))],[(0,FM f),(1,jG G σ),(2,VT D)]⟩
def Xa (n:Nat)(G:List ByteArray)(f:rY)(D:iS)(σ:WS)(i k:Nat):St:=⟨n,[(2,.ref 0 0 0 0),(6,.ref 1 0 0 0),(10,.af (.int .i64 i)),(11,.af (.int .i64 k))],[(0,FM f),(1,jG G σ),(2,VT D)]⟩
theorem Qd (f:rY)(bt:List ByteArray)(hp:Qr f)(hbt:bt.length≤1073741824)(hbz:∀s ∈ bt,s.size≤1073741824)(hB:MC f≤1048576) :
  Ok Tryz.prog 3 [CH f,.sl (iD bt)] true (.af (.bool true)):=by
 have hT:=Qn;have hQ:=KD;have cA:=MK;have cG:=Py bt hbt hbz;have hGS:=BJ bt;have hGL:GF (nJ bt):=Ic bt;generalize nJ bt=G at *;have hsz:=Lx hGL f
 have hfit:Fits (iA G f lx).2:=by
  unfold Fits;have:sz (iA G f lx).2=(iA G f lx).2.n+(iA G f lx).2.out.size:=rfl;omega
 have hosz:(iA G f lx).2.out.size≤134217728:=by
  have:sz (iA G f lx).2=(iA G f lx).2.n+(iA G f lx).2.out.size:=rfl;omega
 have cL:=Nn lx f hT hQ hp hfit;have cF:=La (iA G f lx).2.out hosz
 cases hb0:(iA G f lx).1 with
 |false=>
  rw [hb0] at cL;clear cF;refine aw bN mix Tryz.func3 rfl rfl Yz (zO rfl) ?_
  repeat'(first|(with_reducible first|(refine zz ?_;try intro K hK)|refine zi ?_|refine zh ?_)|((first|apply hK _ _ rfl|apply hK);clear hK K)|(guard_hyp hK;first|refine zx ?_|apply ab|apply aa|refine zW ?_|(refine zQ (cA) ?_)|(refine zQ (cG) ?_)|refine iC 1 (cL) ?_|intro b0 hb)|((first|refine zj ?_|guard_hyp hK);refine zY ?_ ?_;all_goals(intro hb;(try simp only [sn,sb] at hb);try exact ao)))
  exact lC rfl rfl rfl
 |true=>
  rw [hb0] at cL;obtain⟨hbk,htr⟩:=Lz hGS hb0;have hFB:=(Ly (G:=G) (σ:=lx) hb0).2;have hfo:=PD hFB hp;have hrow:=hFB.row;rw [hbk] at cF;have cS:=Uz _ hfo;generalize hDD:(uP f).D=D at *;have cS':Ok Tryz.prog 9 [tC D,CH f] true (.af (.bool true)):=by rw [htr];exact cS
  generalize (iA G f lx).2=σ at *;clear hfit hosz hsz hbk hFB hfo cS hb0;refine aw bN mix Tryz.func3 rfl rfl Yz (zO rfl) ?_
  repeat'(first|(with_reducible first|(refine zz ?_;try intro K hK)|refine zi ?_|refine zh ?_)|((first|apply hK _ _ rfl|apply hK);clear hK K)|(guard_hyp hK;first|refine zx ?_|apply ab|apply aa|refine zW ?_|(refine zQ (cA) ?_)|(refine zQ (cG) ?_)|refine iC 1 (cL) ?_|(refine zQ (cF) ?_)|(refine zQ (cS') ?_)|intro b0 hb)|((first|refine zj ?_|guard_hyp hK);refine zY ?_ ?_;all_goals(intro hb;(try simp only [sn,sb] at hb);try exact ao)))
  clear cA cG cL cF cS' htr hDD;have hpl:(f.bG.map xO).length=f.bG.length:=List.length_map _;refine aT Nat (fun i=>Xb Tryz.f3.ntmps G f D σ i) (fun i=>i≤f.bG.length) (fun i=>f.bG.length - i) [] 0 trivial (Nat.zero_le _) ⟨rfl,⟨rfl,rfl,rfl,rfl,rfl,trivial,trivial⟩,⟨rfl,rfl,rfl,trivial⟩,⟨dk f _,bS _,za _ _,trivial⟩⟩ ?_;intro i hi;by_cases hlt:i < f.bG.length
  ·have hat:=JO hlt;have hme:f.bG.getD i default ∈ f.bG:=by rw [List.getD,List.getElem?_eq_getElem hlt];exact List.getElem_mem hlt
   generalize f.bG.getD i default=p at hat hme;have hpo:=hp.pr p hme;have hel:(p.bg.map tw).length=p.bg.length:=List.length_map _;have hel0:=hpo.el;have hpl0:=hp.pl
   repeat'(first|(with_reducible first|(refine zz ?_;try intro K hK)|refine zi ?_|refine zh ?_)|((first|apply hK _ _ rfl|apply hK);clear hK K)|(guard_hyp hK;first|refine zx ?_|apply ab|apply aa|refine zW ?_|intro b0 hb)|((first|refine zj ?_|guard_hyp hK);refine zY ?_ ?_;all_goals(intro hb;(try simp only [sn,sb] at hb);try exact ao)))
   refine aT Nat (fun k=>Xa Tryz.f3.ntmps G f D σ i k) (fun k=>k≤p.bg.length) (fun k=>p.bg.length - k) [] 0 trivial (Nat.zero_le _) ⟨rfl,⟨rfl,rfl,rfl,rfl,rfl,trivial,rfl,trivial,trivial⟩,⟨rfl,rfl,rfl,trivial⟩,⟨dk f _,bS _,za _ _,trivial⟩⟩ ?_;intro k hk;by_cases hlk:k < p.bg.length
   ·have hatE:=JP hlk;have heme:p.bg.getD k default ∈ p.bg:=by rw [List.getD,List.getElem?_eq_getElem hlk];exact List.getElem_mem hlk
    generalize p.bg.getD k default=e at hatE heme;obtain⟨hrb,hne⟩:=hrow p hme e heme;have hbn:=Qa hme heme;have hrs:=Kq hGL e.nums;have hszr:sz (cM G e.nums 0 lx).2=(cM G e.nums 0 lx).2.n+(cM G e.nums 0 lx).2.out.size:=rfl;have hnu:=hpo.nu e heme
    have hfr:Fits (cM G e.nums 0 lx).2:=by
     show(cM G e.nums 0 lx).2.n+(cM G e.nums 0 lx).2.out.size≤4611686018427387903;omega
    have cR:=EH lx e.nums hT hnu hfr
    have hr1:((cM G e.nums 0 lx).1 && decide (0 < e.nums.length))=true:=by
     rw [oW e.nums 0 lx hrb hne,decide_eq_true (List.length_pos_iff.2 hne)];rfl
    rw [hr1] at cR;have cN:=QC (cM G e.nums 0 lx).2.out Yy;rw [Kr hGS hrb hne] at cN
    have cSR:Ok Tryz.prog 12 [qh (e.nums.map fun a=>a.map (·.conv)),.sl (e.nums.map fW)] true (.af (.bool true)):=by
     rw [AQ hrb];exact Uy _ (Fh hrb hnu)
    clear hfr hrs hszr hr1 hbn hrb hne hnu heme;generalize (cM G e.nums 0 lx).2=σ2 at *
    repeat'(first|(guard_hyp hK;first|refine Exists.intro _ (And.intro hat ?_)|refine Exists.intro _ (And.intro hatE ?_))|(with_reducible first|(refine zz ?_;try intro K hK)|refine zi ?_|refine zh ?_)|((first|apply hK _ _ rfl|apply hK);clear hK K)|(guard_hyp hK;first|refine zx ?_|apply ab|apply aa|refine zW ?_|refine iC 3 (cR) ?_|(refine zQ (cN) ?_)|(refine zQ (cSR) ?_)|intro b0 hb)|((first|refine zj ?_|guard_hyp hK);refine zY ?_ ?_;all_goals(intro hb;(try simp only [sn,sb] at hb);try exact ao)))
    exact⟨k+1,hlk,by omega,rfl,⟨rfl,rfl,rfl,rfl,rfl,trivial,rfl,trivial,trivial⟩,⟨rfl,rfl,rfl,trivial⟩,⟨dk f _,bS _,za _ _,trivial⟩⟩
   ·repeat'(first|(guard_hyp hK;refine Exists.intro _ (And.intro hat ?_))|(with_reducible first|(refine zz ?_;try intro K hK)|refine zi ?_|refine zh ?_)|((first|apply hK _ _ rfl|apply hK);clear hK K)|(guard_hyp hK;first|refine zx ?_|apply ab|apply aa|refine zW ?_|intro b0 hb)|((first|refine zj ?_|guard_hyp hK);refine zY ?_ ?_;all_goals(intro hb;(try simp only [sn,sb] at hb);try exact ao)))
    exact⟨i+1,hlt,by omega,rfl,⟨rfl,rfl,rfl,rfl,rfl,trivial,trivial⟩,⟨rfl,rfl,rfl,trivial⟩,⟨dk f _,bS _,za _ _,trivial⟩⟩
  ·repeat'(first|(with_reducible first|(refine zz ?_;try intro K hK)|refine zi ?_|refine zh ?_)|((first|apply hK _ _ rfl|apply hK);clear hK K)|(guard_hyp hK;first|refine zx ?_|apply ab|apply aa|refine zW ?_|intro b0 hb)|((first|refine zj ?_|guard_hyp hK);refine zY ?_ ?_;all_goals(intro hb;(try simp only [sn,sb] at hb);try exact ao)))
   exact lC rfl rfl rfl
open Go.Deep
def yJ (W:World):dS:=fun b o=>W.cell? ⟨b,o,none⟩
def TO (S:dS)(t:T)(cs:List Value):Prop:=
 t.cells.length=cs.length∧∀(j:Nat) (u:T) (c:Value),t.cells[j]?=some u→cs[j]?=some c→gD S u c∧c.oneCell'=true
structure Qt {H:Type}(B:DataW H→Nat):Prop where
 one:∀d,1≤B d
 str:∀l:List UInt8,l.length+1≤B (.lit (.string l))
 sl:∀e s,(e.map B).sum+1≤B (.slice e s)
 ag:∀ps,(ps.map B).sum+1≤B (.agg ps)
section
variable {H : Type} (enc : TypeId × Value → H) (P : Program) (B : DataW H → Nat)
def oJ {α:Type}(t:TypeId)(F:α→T)(w:α→Nat):Prop:=
 ∀(W:World) (sp:Nat→Bool) (hd:Bool) (fuel:Nat) (cs:List Value) (d:DataW H) (ps:List MemPlace),DataW.trod enc P W 0 sp hd fuel t cs=some (d,ps)→
  ∃a:α,w a≤B d∧TO (yJ W) (F a) cs
variable {enc P B}
theorem ss {S:dS}{v:Value}(h:v.oneCell'=true):TO S (.af v) [v]:=by
 refine⟨rfl,fun j u c h1 h2=>?_⟩
 cases j with
 |zero=>simp [T.cells] at h1 h2;subst h1;subst h2;exact⟨.af _ h,h⟩
 |succ j=>simp at h2
theorem Ky {t:TypeId}(hB:Qt B)(ht:P.underlying t=some .bool):oJ enc P B t (fun b:Bool=>T.af (.bool b)) (fun _=>1):=by
 intro W sp hd fuel cs d ps h;obtain⟨b,rfl,_⟩:=DataW.trod_bool ht h;exact⟨b,hB.one _,ss rfl⟩
theorem Fo {t:TypeId}{k:IntKind}(hB:Qt B)(ht:P.underlying t=some (.int k)):oJ enc P B t (fun n:Int=>T.af (.int k n)) (fun _=>1):=by
 intro W sp hd fuel cs d ps h;obtain⟨n,rfl,_,hw⟩:=DataW.trod_int ht h;exact⟨n,hB.one _,ss rfl⟩
theorem Oq {t:TypeId}(hB:Qt B)(ht:P.underlying t=some (.int .u32)):oJ enc P B t (fun n:UInt32=>T.af (.int .u32 n.toNat)) (fun _=>1):=by
 intro W sp hd fuel cs d ps h;obtain⟨n,rfl,_,hw⟩:=DataW.trod_int ht h;have hx:0≤n∧n≤4294967295:=by simpa [Lit.wf,IntKind.min,IntKind.max,IntKind.signed,IntKind.bits] using hw
 have e:((UInt32.ofNat n.toNat).toNat:Int)=n:=by rw [UInt32.toNat_ofNat'];omega
 refine⟨UInt32.ofNat n.toNat,hB.one _,?_⟩;show TO _ (.af (.int .u32 ((UInt32.ofNat n.toNat).toNat:Nat))) _;rw [e];exact ss rfl
theorem kM {t:TypeId}(hB:Qt B)(ht:P.underlying t=some .string):oJ enc P B t (fun s:ByteArray=>T.af (.string s)) (fun s=>s.size+1):=by
 intro W sp hd fuel cs d ps h;obtain⟨s,rfl,hx,hs⟩:=DataW.trod_string ht h;simp only [Prod.mk.injEq] at hx;have hd':=hx.1;subst hd';refine⟨s,?_,ss rfl⟩;have:=hB.str s.data.toList
 rwa [Array.length_toList] at this
theorem tD {u v:Nat→Nat}:∀(l:List Nat),(∀i ∈ l,u i≤v i)→(l.map u).sum≤(l.map v).sum
 | [],_=>Nat.le_refl _
 |a :: r,h=>by
  have h1:=h a (List.mem_cons_self ..);have h2:=tD r fun i hi=>h i (List.mem_cons_of_mem _ hi)
  rw [List.map_cons,List.map_cons,List.sum_cons,List.sum_cons];omega
theorem gP {α:Type}[Inhabited α]{t e:TypeId}{sz:Nat}{F:α→T}{w:α→Nat}(hB:Qt B)(ht:P.underlying t=some (.slice e))(hsz:P.cellsOf e=sz)(h0:0 < sz)(hF:∀a,(F a).cells.length=sz)
  (he:oJ enc P B e F w):oJ enc P B t (fun l:List α=>T.sl (l.map F)) (fun l=>(l.map w).sum+1):=by
 intro W sp hd fuel cs d ps h;rcases open_slice ht h with⟨rfl,hx⟩|⟨a,len,cap,m,n,D,Pl,rfl,_,hl,hm,hmm,hx,hel⟩
 ·simp only [Prod.mk.injEq] at hx;have hd':=hx.1;subst hd';refine⟨[],hB.one _,rfl,fun j u c h1 h2=>?_⟩
  cases j with
  |zero=>
   simp [T.cells] at h1 h2;subst h1;subst h2;refine⟨?_,rfl⟩;exact gD.sl [] none 0 0 0 0 (fun _ _=>undef) (Nat.zero_le _) (Nat.zero_le _) (fun h=>absurd rfl h) (fun i t h=>by simp at h) (fun i t j h=>by simp at h) (fun i t j h=>by simp at h) (fun i t j u h=>by simp at h)
  |succ j=>simp at h2
 ·have hlm:len≤m:=by rw [hmm];split<;>omega
  simp only [Prod.mk.injEq] at hx;have hd':=hx.1;subst hd'
  have hall:∀i,i < len→∃p:α×List Value,W.cells? 0 (a.add (i * sz)) sz=some p.2∧w p.1≤B (D i)∧TO (yJ W) (F p.1) p.2:=by
   intro i hi;obtain⟨cs',h1,h2⟩:=hel i Yy;rw [hsz] at h1;obtain⟨x,hx1,hx2⟩:=he W sp hd n cs' (D i) (Pl i) h2;exact⟨(x,cs'),h1,hx1,hx2⟩
  obtain⟨f,hf⟩:=choose_lt hall;refine⟨(List.range len).map fun i=>(f i).1,?_,rfl,fun j u c h1 h2=>?_⟩
  ·have h3:=hB.sl ((List.range len).map D) ((List.range (m - len)).map fun j=>D (len+j));refine Nat.le_trans (Nat.succ_le_succ ?_) h3;rw [List.map_map,List.map_map];exact tD (List.range len) fun i hi=>(hf i (List.mem_range.1 hi)).2.1
  ·cases j with
   |succ j=>simp at h2
   |zero=>
    simp [T.cells] at h1 h2;subst h1;subst h2;refine⟨?_,rfl⟩
    have hget:∀(i:Nat) (t:T),((List.range len).map (F ∘ fun i=>(f i).1))[i]?=some t→i < len∧t=F (f i).1:=by
     intro i t hi;rw [List.getElem?_map] at hi;obtain⟨k,hk,rfl⟩:=Option.map_eq_some_iff.1 hi;have hil:i < len:=by have:=(List.getElem?_eq_some_iff.1 hk).1;simpa using this
     rw [List.getElem?_range hil] at hk;obtain rfl:i=k:=by simpa using hk
     exact⟨hil,rfl⟩
    have hcell:∀i j,i < len→j < sz→W.cell? ((a.add (i * sz)).add j)=(f i).2[j]?∧(f i).2.length=sz:=by
     intro i j hi hj;obtain⟨_,h2,h3⟩:=World.cells?_some (hf i hi).1;exact⟨h3 j hj,h2⟩
    have hspot:0 < len→a.spot=none:=by
     intro hl0;obtain⟨h3,h4⟩:=hcell 0 0 hl0 h0;rw [List.getElem?_eq_getElem Yy] at h3;have:=World.cell?_spot h3;simpa [Addr.add] using this
    have haddr:∀i j,0 < len→(a.add (i * sz)).add j=⟨a.block,a.off+i * sz+j,none⟩:=by
     intro i j hl0;have hs:=hspot hl0;obtain⟨b,o,spot⟩:=a;simp only at hs;subst hs;unfold Addr.add;by_cases h1:i * sz=0<;>by_cases h2:j=0<;>simp [h1,h2]
    have hlen':len=((List.range len).map (F ∘ fun i=>(f i).1)).length:=by simp
    have key:=gD.sl (S:=yJ W) ((List.range len).map (F ∘ fun i=>(f i).1)) (some a) cap sz a.block a.off (fun i j=>(f i).2.getD j undef) (by simpa using hl) hm
     (fun hne=>by
      have hl0:0 < len:=by
       cases len with
       |zero=>simp at hne
       |succ n=>omega
      have hs:=hspot hl0;obtain⟨b,o,spot⟩:=a;simp only at hs
      subst hs;rfl)
     (fun i t hi=>by rw [(hget i t hi).2];exact hF _)
     (fun i t j hi hj=>by
      obtain⟨hil,rfl⟩:=hget i t hi;rw [hF] at hj;obtain⟨h3,h4⟩:=hcell i j hil hj;rw [haddr i j Yy,List.getElem?_eq_getElem Yy] at h3;show W.cell? ⟨a.block,a.off+i * sz+j,none⟩=some ((f i).2.getD j undef)
      rw [h3];simp [List.getD,List.getElem?_eq_getElem (show j < (f i).2.length by omega)])
     (fun i t j hi hj=>by
      obtain⟨hil,rfl⟩:=hget i t hi;obtain⟨h5,h6⟩:=(hf i hil).2.2;have hj2:j < (f i).2.length:=by omega
      have:=(h6 j _ _ (List.getElem?_eq_getElem hj) (List.getElem?_eq_getElem hj2)).2
      simpa [List.getD,List.getElem?_eq_getElem hj2] using this)
     (fun i t j u hi hu=>by
      obtain⟨hil,rfl⟩:=hget i t hi;obtain⟨h5,h6⟩:=(hf i hil).2.2;have hj:=(List.getElem?_eq_some_iff.1 hu).1;have hj2:j < (f i).2.length:=by omega
      have:=(h6 j _ _ hu (List.getElem?_eq_getElem hj2)).1
      simpa [List.getD,List.getElem?_eq_getElem hj2] using this)
    rw [← hlen'] at key;exact key
def Nd (S:dS)(l:List T)(cs:List Value):Prop:=l.length=cs.length∧∀(j:Nat) (u:T) (c:Value),l[j]?=some u→cs[j]?=some c→gD S u c∧c.oneCell'=true
theorem Ot {S:dS}{l l2:List T}{cs cs2:List Value}(h:Nd S l cs)(h2:Nd S l2 cs2):Nd S (l ++ l2) (cs ++ cs2):=by
 refine⟨by simp [h.1,h2.1],fun j u c h3 h4=>?_⟩;by_cases hj:j < l.length
 ·rw [List.getElem?_append_left hj] at h3;rw [List.getElem?_append_left (by rw [← h.1];exact hj)] at h4;exact h.2 j u c h3 h4
 ·rw [List.getElem?_append_right Yy] at h3;rw [List.getElem?_append_right (by rw [← h.1];omega),← h.1] at h4;exact h2.2 _ u c h3 h4
theorem jY {S:dS}{t:T}{l:List T}{cs:List Value}{off s:Nat}(h:TO S t ((cs.drop off).take s))(h2:Nd S l (cs.drop (off+s))):Nd S (t.cells ++ l) (cs.drop off):=by
 have:=Ot (l:=t.cells) h h2
 rwa [← List.drop_drop,List.take_append_drop] at this
theorem tM {S:dS}{t:T}{cs:List Value}{off s:Nat}(h:TO S t ((cs.drop off).take s))(hl:cs.length=off+s):Nd S t.cells (cs.drop off):=by
 rw [List.take_of_length_le (by rw [List.length_drop];omega)] at h;exact h
theorem iJ {α β:Type}{t:TypeId}{F:α→T}{g:α→Nat}{F':β→T}{g':β→Nat}(f:α→β)(hF:∀a,F a=F' (f a))(hg:∀a,g' (f a)≤g a)(h:oJ enc P B t F g):oJ enc P B t F' g':=by
 intro W sp hd fuel cs d ps h1;obtain⟨a,h3,h4⟩:=h W sp hd fuel cs d ps h1;exact⟨f a,Nat.le_trans (hg a) h3,hF a▸h4⟩
theorem Sg {S:dS}{l:List T}{cs:Array Value}(h:Nd S l cs.toList):gD S (.agg l) (.agg cs):=
 .agg l cs (by simpa using h.1.symm) (fun j c hj=>by
  have hj':=(Array.getElem?_eq_some_iff.1 hj).1;have h9:=h.1;simp at h9;have h3:l[j]?=some (l[j]'(by omega)):=List.getElem?_eq_getElem Yy
  exact(h.2 j _ c h3 (by simpa using hj)).2) (fun j u c hu hc=>(h.2 j u c hu (by simpa using hc)).1)
theorem lW {α0 α1:Type}{t:TypeId}{f0 f1:Field}{s0 s1:Nat}{F0:α0→T}{F1:α1→T}{w0:α0→Nat}{w1:α1→Nat}(hB:Qt B)(ht:P.underlying t=some (.struct #[f0,f1]))(o0:f0.offset=0)(c0:P.cellsOf f0.type=s0)(o1:f1.offset=0+s0)(c1:P.cellsOf f1.type=s1)(ct:P.cellsOf t=s0+s1)(h0:oJ enc P B f0.type F0 w0)(h1:oJ enc P B f1.type F1 w1) :
  oJ enc P B t (fun p:α0×α1=>T.agg ((F0 (p.1)).cells ++ ((F1 (p.2)).cells))) (fun p=>w0 (p.1)+w1 (p.2)+1):=by
 intro W sp hd fuel cs d ps h;obtain⟨xs,n,_,hx,hl,hxl,hf⟩:=DataW.trod_struct ht h;simp only [Prod.mk.injEq] at hx;have hd':=hx.1;subst hd';have hxl2:xs.length=2:=hxl
 obtain⟨x0,x1,rfl⟩:∃x0 x1,xs=[x0,x1]:=by
  match xs,hxl2 with
  | [x0,x1],_=>exact⟨x0,x1,rfl⟩
 have e0:DataW.trod enc P W 0 sp hd n f0.type ((cs.drop f0.offset).take (P.cellsOf f0.type))=some x0:=hf 0 f0 rfl;obtain⟨a0,q0,r0⟩:=h0 W sp hd n _ x0.1 x0.2 e0;rw [o0,c0] at r0;have e1:DataW.trod enc P W 0 sp hd n f1.type ((cs.drop f1.offset).take (P.cellsOf f1.type))=some x1:=hf 1 f1 rfl;obtain⟨a1,q1,r1⟩:=h1 W sp hd n _ x1.1 x1.2 e1;rw [o1,c1] at r1;refine⟨(a0,a1),?_,?_⟩
 ·have h9:=hB.ag [x0.1,x1.1];simp only [List.map_cons,List.map_nil,List.sum_cons,List.sum_nil] at h9;show w0 a0+w1 a1+1≤B (.agg [x0.1,x1.1]);omega
 ·rw [ct] at hl;have key:Nd (yJ W) _ (cs.drop 0):=jY r0 (tM r1 Yy);exact key
theorem Bc {α0 α1 α2:Type}{t:TypeId}{f0 f1 f2:Field}{s0 s1 s2:Nat}{F0:α0→T}{F1:α1→T}{F2:α2→T}{w0:α0→Nat}{w1:α1→Nat}{w2:α2→Nat}(hB:Qt B)(ht:P.underlying t=some (.struct #[f0,f1,f2]))(o0:f0.offset=0)(c0:P.cellsOf f0.type=s0)(o1:f1.offset=0+s0)(c1:P.cellsOf f1.type=s1)(o2:f2.offset=0+s0+s1)(c2:P.cellsOf f2.type=s2)(ct:P.cellsOf t=s0+s1+s2)(h0:oJ enc P B f0.type F0 w0)(h1:oJ enc P B f1.type F1 w1)(h2:oJ enc P B f2.type F2 w2) :
  oJ enc P B t (fun p:α0×α1×α2=>T.agg ((F0 (p.1)).cells ++ ((F1 (p.2.1)).cells ++ ((F2 (p.2.2)).cells)))) (fun p=>w0 (p.1)+w1 (p.2.1)+w2 (p.2.2)+1):=by
 intro W sp hd fuel cs d ps h;obtain⟨xs,n,_,hx,hl,hxl,hf⟩:=DataW.trod_struct ht h;simp only [Prod.mk.injEq] at hx;have hd':=hx.1;subst hd';have hxl2:xs.length=3:=hxl
 obtain⟨x0,x1,x2,rfl⟩:∃x0 x1 x2,xs=[x0,x1,x2]:=by
  match xs,hxl2 with
  | [x0,x1,x2],_=>exact⟨x0,x1,x2,rfl⟩
 have e0:DataW.trod enc P W 0 sp hd n f0.type ((cs.drop f0.offset).take (P.cellsOf f0.type))=some x0:=hf 0 f0 rfl;obtain⟨a0,q0,r0⟩:=h0 W sp hd n _ x0.1 x0.2 e0;rw [o0,c0] at r0;have e1:DataW.trod enc P W 0 sp hd n f1.type ((cs.drop f1.offset).take (P.cellsOf f1.type))=some x1:=hf 1 f1 rfl;obtain⟨a1,q1,r1⟩:=h1 W sp hd n _ x1.1 x1.2 e1;rw [o1,c1] at r1;have e2:DataW.trod enc P W 0 sp hd n f2.type ((cs.drop f2.offset).take (P.cellsOf f2.type))=some x2:=hf 2 f2 rfl;obtain⟨a2,q2,r2⟩:=h2 W sp hd n _ x2.1 x2.2 e2;rw [o2,c2] at r2;refine⟨(a0,a1,a2),?_,?_⟩
 ·have h9:=hB.ag [x0.1,x1.1,x2.1];simp only [List.map_cons,List.map_nil,List.sum_cons,List.sum_nil] at h9;show w0 a0+w1 a1+w2 a2+1≤B (.agg [x0.1,x1.1,x2.1]);omega
 ·rw [ct] at hl;have key:Nd (yJ W) _ (cs.drop 0):=jY r0 (jY r1 (tM r2 Yy));exact key
theorem lV {α0 α1 α2 α3:Type}{t:TypeId}{f0 f1 f2 f3:Field}{s0 s1 s2 s3:Nat}{F0:α0→T}{F1:α1→T}{F2:α2→T}{F3:α3→T}{w0:α0→Nat}{w1:α1→Nat}{w2:α2→Nat}{w3:α3→Nat}(hB:Qt B)(ht:P.underlying t=some (.struct #[f0,f1,f2,f3]))(o0:f0.offset=0)(c0:P.cellsOf f0.type=s0)(o1:f1.offset=0+s0)(c1:P.cellsOf f1.type=s1)(o2:f2.offset=0+s0+s1)(c2:P.cellsOf f2.type=s2)(o3:f3.offset=0+s0+s1+s2)(c3:P.cellsOf f3.type=s3)(ct:P.cellsOf t=s0+s1+s2+s3)(h0:oJ enc P B f0.type F0 w0)(h1:oJ enc P B f1.type F1 w1)(h2:oJ enc P B f2.type F2 w2)(h3:oJ enc P B f3.type F3 w3) :
  oJ enc P B t (fun p:α0×α1×α2×α3=>T.agg ((F0 (p.1)).cells ++ ((F1 (p.2.1)).cells ++ ((F2 (p.2.2.1)).cells ++ ((F3 (p.2.2.2)).cells))))) (fun p=>w0 (p.1)+w1 (p.2.1)+w2 (p.2.2.1)+w3 (p.2.2.2)+1):=by
 intro W sp hd fuel cs d ps h;obtain⟨xs,n,_,hx,hl,hxl,hf⟩:=DataW.trod_struct ht h;simp only [Prod.mk.injEq] at hx;have hd':=hx.1;subst hd';have hxl2:xs.length=4:=hxl
 obtain⟨x0,x1,x2,x3,rfl⟩:∃x0 x1 x2 x3,xs=[x0,x1,x2,x3]:=by
  match xs,hxl2 with
  | [x0,x1,x2,x3],_=>exact⟨x0,x1,x2,x3,rfl⟩
 have e0:DataW.trod enc P W 0 sp hd n f0.type ((cs.drop f0.offset).take (P.cellsOf f0.type))=some x0:=hf 0 f0 rfl;obtain⟨a0,q0,r0⟩:=h0 W sp hd n _ x0.1 x0.2 e0;rw [o0,c0] at r0;have e1:DataW.trod enc P W 0 sp hd n f1.type ((cs.drop f1.offset).take (P.cellsOf f1.type))=some x1:=hf 1 f1 rfl;obtain⟨a1,q1,r1⟩:=h1 W sp hd n _ x1.1 x1.2 e1;rw [o1,c1] at r1;have e2:DataW.trod enc P W 0 sp hd n f2.type ((cs.drop f2.offset).take (P.cellsOf f2.type))=some x2:=hf 2 f2 rfl;obtain⟨a2,q2,r2⟩:=h2 W sp hd n _ x2.1 x2.2 e2;rw [o2,c2] at r2;have e3:DataW.trod enc P W 0 sp hd n f3.type ((cs.drop f3.offset).take (P.cellsOf f3.type))=some x3:=hf 3 f3 rfl;obtain⟨a3,q3,r3⟩:=h3 W sp hd n _ x3.1 x3.2 e3;rw [o3,c3] at r3;refine⟨(a0,a1,a2,a3),?_,?_⟩
 ·have h9:=hB.ag [x0.1,x1.1,x2.1,x3.1];simp only [List.map_cons,List.map_nil,List.sum_cons,List.sum_nil] at h9;show w0 a0+w1 a1+w2 a2+w3 a3+1≤B (.agg [x0.1,x1.1,x2.1,x3.1]);omega
 ·rw [ct] at hl;have key:Nd (yJ W) _ (cs.drop 0):=jY r0 (jY r1 (jY r2 (tM r3 Yy)));exact key
end
end Go.Ev
