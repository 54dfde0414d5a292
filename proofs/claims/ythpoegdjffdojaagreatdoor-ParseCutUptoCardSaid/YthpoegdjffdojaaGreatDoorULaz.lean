import Derived.Test.YthpoegdjffdojaaGreatDoorULat
import Derived.Test.YthpoegdjffdojaaGreatDoorULay
set_option linter.all false
set_option maxHeartbeats 4000000
set_option maxRecDepth 10000
namespace Go.Ev
open Go.Proofs
def nz : List Code->Code->Code
 | [],c=>c
 |a :: r,c=>.seq a (nz r c)
def JR : Nat->Code->List Code×Code
 |k+1,.seq a b=>(a :: (JR k b).1,(JR k b).2)
 |_,c=>([],c)
theorem JQ : ∀k c,nz (JR k c).1 (JR k c).2=c
 |0,c=>by cases c<;>rfl
 |k+1,c=>by
  cases c with
  |seq a b=>exact B4 (Code.seq a) (JQ k b)
  |_=>rfl
section
variable {P : Program}
theorem IZ {id tf tb:Nat}{cf:FuncId}{o1 o2:Oper}{Q:Exit->Act->World->Prop}{a:Act}{w:World}{aty:Array TypeId}(h1:o1.op=.makeFunc (.func cf) #[] #[.tmp tb])(hd1:o1.dst=some tf)(hg1:o1.guard=none)(h2:o2.op=.defer { callee:=.value (.tmp tf),args:=#[],argTypes:=aty })(hd2:o2.dst=none)(hg2:o2.guard=none)(hlt:tf < a.tmps.size)
  (hQ:Q .normal { a with tmps:=a.tmps.setIfInBounds tf (.func (.func cf) #[] #[a.eval (.tmp tb)]),defers:=⟨.fn (.func cf) #[a.eval (.tmp tb)],#[]⟩ :: a.defers } w):(Code.region id #[o1,o2] false).wp P Q a w:=by
 refine wp_region_list ?_;show wpList P _ Q [o1,o2] a w;refine wpList_step fun K hK=>?_
 have w1:∀y,Region.wanted o1 y=true:=fun y=>by unfold Region.wanted;rw [hg1]
 have w2:∀y,Region.wanted o2 y=true:=fun y=>by unfold Region.wanted;rw [hg2]
 rw [if_pos (w1 _)];have e1:(execOp a.eval o1).run P w=.ok (.value (.func (.func cf) #[] #[a.eval (.tmp tb)])) w:=by simp [execOp,h1,Instr.makeFunc]
 unfold Oper.wp;rw [e1];refine hK _ _ ?_;refine wpList_step fun K2 hK2=>?_
 rw [if_pos (w2 _)]
 have e2:∀a2:Act,a2.eval (.tmp tf)=.func (.func cf) #[] #[a.eval (.tmp tb)]->(execOp a2.eval o2).run P w=.ok (.defer ⟨.fn (.func cf) #[a.eval (.tmp tb)],#[]⟩) w:=by
  intro a2 h;simp [execOp,h2,resolve,h,Deferred.ofValue]
 unfold Oper.wp;rw [e2]
 ·refine hK2 _ _ ?_;rw [hd1,hd2];exact hQ
 ·rw [hd1];show(a.tmps.setIfInBounds tf _).getD tf _=_;rw [Pb,K7 hlt];rfl
variable {γ : Gm}
theorem wp_cut {C:CT}(hC:∀q ts r,C q ts r->iE P q ts r)(hmix:P.follows .mixedOrders=true){n np:Nat}(hnp:∀d,np<=d->γ.par d=none){c2:Code}{Q:X->St->Prop}{Q2:Exit->Act->World->Prop}{g0:Gh}{oh0:OH}{w0:World}
  (hx:∀x s,Q x s->x=.normal) (hk:∀g s a w,Q .normal s->Rel γ g s a w->Fr g0 oh0 w0 g s.oh w->s.n=n->c2.wp P Q2 a w) :
  ∀(l:List Code) (s:St),okB n (nz l .skip)=true->fT np (nz l .skip)=true->cK P C (nz l .skip) s Q->s.n=n->∀g a w,Rel γ g s a w->Fr g0 oh0 w0 g s.oh w->(nz l c2).wp P Q2 a w
 | [],s,_,_,h,hn,g,a,w,hr,hf=>hk g s a w h hr hf hn
 |x :: r,s,hb,hbp,h,hn,g,a,w,hr,hf=>by
  simp only [nz,okB,C7] at hb;simp only [nz,fT,C7] at hbp;rcases h with h|h
  ·refine wp_seq (wp_mono (oC hC hmix hnp x s _ hb.1 hbp.1 h hn g a w hr) fun e a' w' hp=>?_);obtain⟨xx,s',g',rfl,h2,h3,h4,h5⟩:=hp
   cases xx with
   |normal=>exact wp_cut hC hmix hnp hx hk r s' hb.2 hbp.2 h2 h5 g' a' w' h3 (hf.trans h4)
   |ret=>cases hx _ _ h2
   |exit id=>cases hx _ _ h2
  ·refine wp_seq (wp_mono (oC hC hmix hnp x s _ hb.1 hbp.1 h hn g a w hr) fun e a' w' hp=>?_);obtain⟨xx,s',g',rfl,h2,h3,h4,h5⟩:=hp
   cases xx with
   |normal=>
    obtain⟨fz,s2,hlf,h2⟩:=h2;obtain⟨g6,h6,h7,h8⟩:=h3.UW hlf;exact wp_cut hC hmix hnp hx hk r s2 hb.2 hbp.2 h2 (h8.trans h5) g6 a' w' h6 ((hf.trans h4).trans h7)
   |ret=>cases hx _ _ h2
   |exit id=>cases hx _ _ h2
def Xn (P:Program)(q:FuncId)(pre:OH)(vs:List V)(post:OH):Prop:=
 (∃fn,P.funcs[q]?=some fn/\(fn.name == "runtime.NumGoroutine")=false/\fn.body.isNone=false)/\(∀i o,ae pre i=some o->o.ver=0/\o.live=true/\∀v ∈ o.el,v.cl pre)/\(∀v ∈ vs,v.cl pre)/\(∀i o,ae post i=some o->(ae pre i).isSome=true\/i ∈ ([]:List Nat))/\
 (∀i o o',ae pre i=some o->ae (post ++ pre) i=some o'->o'.ver=0->o'.live=true->o'.sz=o.sz/\o.el.length<=o'.el.length)/\
 ∀(g:Gh) (w:World) (args:Array Value),HR g pre w->args.size=vs.length->(∀(j:Nat) (u:V) (x:Value),vs[j]?=some u->args[j]?=some x->dd g pre u x)->
  ∀u,CallsD P q args u w fun e u' w'=>u'=u/\Ct g pre post (.ba []) w e w'
theorem Bj {g g':Gh}{pre oh':OH}{w w':World}{i:Nat}{o o2:Obj}(h1:HR g pre w)(hr':HR g' oh' w')(hmo:cx g pre g' oh')(hfr:Fr g pre w g' oh' w')(hi:ae pre i=some o)(hol:o.live=true)(hsz0:0 < o.sz)(hel:o.el≠[])
  (ho2:ae oh' i=some o2) (hv2:o2.ver=0) (hl2:o2.live=true) (hs2:o2.sz=o.sz):g'.m i=g.m i/\g'.cp i=g.cp i:=by
 obtain⟨q1,q2⟩:=h1.obj i o hi hol
 obtain⟨b,hb⟩:∃b,g.m i=some b:=by
  cases hm:g.m i with
  |none=>exact absurd (q1 hm) hel
  |some b=>exact⟨b,rfl⟩
 obtain⟨arr,ty,hh,_,hba⟩:=q2 b hb;have hrd:bm g pre (.ref i 0 0 0) (.pointer (some ⟨b,0 * o.sz+0,none⟩)):=⟨⟨rfl,fun o3 h3 hm3=>by rw [hi] at h3;obtain rfl:o=o3:=(by simpa using h3);exact absurd hm3 (eN hol)⟩,o,hi,C0 _,fun _ _=>⟨b,hb,rfl⟩⟩
 obtain⟨_,o3,ho3,_,hc⟩:=hmo _ _ hrd;rw [ho2] at ho3;obtain rfl:o2=o3:=by simpa using ho3
 obtain⟨b2,hb2,e⟩:=hc hv2 hl2
 have hm:g'.m i=g.m i:=by
  rw [hb,hb2];simp only [Value.pointer.injEq,N9,Addr.mk.injEq] at e;rw [e.1]
 refine⟨hm,?_⟩;obtain⟨_,q4⟩:=hr'.obj i o2 ho2 hl2;obtain⟨arr2,ty2,hh2,_,hba2⟩:=q4 b (by rw [hm];exact hb);obtain⟨arr3,hh3,hs3⟩:=hfr.Gx b arr ty (0,0) hh;rw [hh2] at hh3;simp only [N9,Go.Obj.cells.injEq] at hh3;obtain⟨rfl,_,_⟩:=hh3;have e1:=hba.1;have e2:=hba2.1;rw [hs3,e1,hs2] at e2;exact(Nat.eq_of_mul_eq_mul_right hsz0 e2).symm
theorem DD {C:CT}(hC:∀q ts r,C q ts r->iE P q ts r){q:FuncId}{fn:Func}{id i0:Nat}{ops:Array Oper}{pre post:OH}
  (hfn:P.funcs[q]?=some fn) (hname:(fn.name == "runtime.NumGoroutine")=false) (hbody:fn.body=some (.region id ops false)) (hok:Ik fn.ntmps ops.toList=true) (hpar:Dw 0 ops.toList=true) (hlen:1<=fn.ntmps) (hres:fn.results.toList=[])
  (hpre:∀i o,ae pre i=some o->o.ver=0/\o.live=true/\∀v ∈ o.el,v.cl pre) (hvs:∀v ∈ [V.ref i0 0 0 0],v.cl pre) (hpost:∀i o,ae post i=some o->(ae pre i).isSome=true\/i ∈ ([]:List Nat))
  (hle:∀i o o',ae pre i=some o->ae (post ++ pre) i=some o'->o'.ver=0->o'.live=true->o'.sz=o.sz/\o.el.length<=o'.el.length)
  (hne:∀i o,ae pre i=some o->0 < o.sz/\o.el≠[])
  (h:cK P C (.region id ops false) ⟨fn.ntmps,dq 0 [.ref i0 0 0 0],pre⟩ (fun _ s=>Bm s.oh (post ++ pre)/\∀i o,ae pre i=some o->∃o2,ae s.oh i=some o2/\o2.ver=0/\o2.live=true/\o2.sz=o.sz)):Xn P q pre [.ref i0 0 0 0] post:=by
 refine⟨⟨fn,hfn,hname,by simp [hbody]⟩,hpre,hvs,hpost,hle,fun g w args h1 h2 h3 u=>callsD_of_wp hfn hbody ?_⟩;have hr0:=zc (fn:=fn) (vs:=[.ref i0 0 0 0]) 0 (C0 _) hlen h1 h2 h3
 have fin:∀(s':St) (g':Gh) (a':Act) (w':World),(Bm s'.oh (post ++ pre)/\∀i o,ae pre i=some o->∃o2,ae s'.oh i=some o2/\o2.ver=0/\o2.live=true/\o2.sz=o.sz)->Rel ⟨fun j=>if j < 0 then some (args.getD j Go.undef) else none,[]⟩ g' s' a' w'->Fr g pre w g' s'.oh w'/\cx g pre g' s'.oh->s'.n=fn.ntmps->bodyPost P fn (Ct g pre post (.ba []) w) .normal a' w':=by
  intro s' g' a' w' hk hr' hf' hn';obtain⟨hbm,hob⟩:=hk;obtain⟨hfr,hmo⟩:=hf';obtain⟨v,hv,hrv⟩:=rr (fn:=fn) (r:=.ba []) hbm hr' (by rw [hres]);obtain⟨hhr,hown⟩:=QW hbm hr'.hr;have hpl:∀i o,ae (post ++ pre) i=some o->o.live=true:=fun i o1 ho1=>(hbm i o1 ho1).choose_spec.2.2.1
  refine⟨hr'.df,v,hv,v,g',rfl,hhr,hrv,⟨hfr.os,hfr.tape,hfr.output,hfr.size,hfr.km,fun b hb=>hfr.own b (hown b hb),hfr.G,hfr.F,hfr.nG,hfr.nF,hfr.Gx,fun b hb=>absurd hb (sP.none hpl)⟩,hpl,?_⟩;intro i o o' hi hi' hv0 hl;obtain⟨o2,ho2,hv2,hl2,hs2⟩:=hob i o hi;obtain⟨hov,hol,_⟩:=hpre i o hi;obtain⟨hsz0,hel⟩:=hne i o hi;exact Bj h1 hr'.hr hmo hfr hi hol hsz0 hel ho2 hv2 hl2 hs2
 refine(wpIn_wide (n:=0)).1 (wpIn_region ?_);have key:=BQ (ro:=none) (nf:=0) (n:=fn.ntmps) (np:=0) (Q:=bodyPost P fn (Ct g pre post (.ba []) w)) hC hok (fun d _=>rfl) hpar fin ops.toList 0 _ rfl h g _ w hr0 ⟨Fr.refl _ _ _,cx.refl _ _⟩ rfl;rw [List.range_eq_range'];exact key
theorem ug {C:CT}(hC:∀q ts r,C q ts r->iE P q ts r)(hmix:P.follows .mixedOrders=true){q cf:FuncId}{fn:Func}{c P2:Code}{l:List Code}{pre post pre2 post2:OH}{nw:List Nat}{vs:List V}{r:V}{id tf i:Nat}{o1 o2:Oper}{aty:Array TypeId}{s0:St}(k:Nat)
  (hnp:1<=vs.length) (hfn:P.funcs[q]?=some fn) (hname:(fn.name == "runtime.NumGoroutine")=false) (hbody:fn.body=some c) (hsp:JR k c=(l,.seq (.region id #[o1,o2] false) P2))
  (h1:o1.op=.makeFunc (.func cf) #[] #[.tmp 1]) (hd1:o1.dst=some tf) (hg1:o1.guard=none) (h2:o2.op=.defer { callee:=.value (.tmp tf),args:=#[],argTypes:=aty }) (hd2:o2.dst=none) (hg2:o2.guard=none)
  (hok1:okB fn.ntmps (nz l .skip)=true) (hpar1:fT 1 (nz l .skip)=true) (hok2:okB fn.ntmps P2=true) (hpar2:fT 2 P2=true) (hlt:tf < fn.ntmps) (htf:2<=tf) (hlen:vs.length<=fn.ntmps)
  (hcl:Xn P cf pre2 [.ref i 0 0 0] post2) (hid:∀i o,ae pre2 i=some o->o.rn (fun i=>i) (fun _=>0) i=o) (hid2:pN (fun i=>i) (fun _=>0) post2=post2)
  (h0n:s0.n=fn.ntmps) (h0:aA s0.env tf=.undef)
  (hpre:∀i o,ae pre i=some o->o.ver=0/\o.live=true/\∀v ∈ o.el,v.cl pre) (hvs:∀v ∈ vs,v.cl pre) (hpost:∀i o,ae post i=some o->(ae pre i).isSome=true\/i ∈ nw)
  (hle:∀i o o',ae pre i=some o->ae (post ++ pre) i=some o'->o'.ver=0->o'.live=true->o'.sz=o.sz/\o.el.length<=o'.el.length)
  (hE1:cK P C (nz l .skip) ⟨fn.ntmps,dq 0 vs,pre⟩ (fun x s=>x=.normal/\∃fz,VI fz s0 s))
  (hE2:cK P C P2 s0 (fun x s=>(match x with|.exit _=>False|_=>True)/\aA s.env 1=.ref i 0 0 0/\(∀i o,ae pre2 i=some o->ae s.oh i=some o)/\iR P fn 1 pre vs post r x ⟨s.n,s.env,post2 ++ s.oh⟩)):jP P q pre nw vs post r:=by
 refine⟨⟨fn,hfn,hname,by simp [hbody]⟩,hpre,hvs,hpost,hle,fun g0 w args hr0' hsz hrd=>?_⟩;refine calls_of_wp_defers hfn hbody ?_;have hr0:=zc (fn:=fn) 1 hnp hlen hr0' hsz hrd;rw [<- JQ k c,hsp];refine wp_cut hC hmix (np:=1) (fun d hd=>if_neg A8) (fun x s h=>h.1) (fun g s a w1 hQ hr hf hn=>?_) l _ hok1 hpar1 hE1 rfl g0 _ w hr0 (Fr.refl _ _ _);obtain⟨-,fz,hlb⟩:=hQ;obtain⟨g1,hr1,hf1,hn1⟩:=hr.UW hlb;have hsz1:a.tmps.size=fn.ntmps:=hr1.sz.trans h0n;refine wp_seq (IZ h1 hd1 hg1 h2 hd2 hg2 (by rw [hsz1];exact hlt) ?_);show P2.wp P _ _ _
 have hget:∀(v:Value) (j:Nat),j≠tf->(a.tmps.setIfInBounds tf v).getD j Go.undef=a.tmps.getD j Go.undef:=by
  intro v j hj;rw [Pb,I1 (H5 hj),<- Pb]
 have hr2:Rel ⟨fun j=>if j < 2 then some (a.tmps.getD j Go.undef) else none,[⟨.fn (.func cf) #[a.eval (.tmp 1)],#[]⟩]⟩ g1 s0 { a with tmps:=a.tmps.setIfInBounds tf (.func (.func cf) #[] #[a.eval (.tmp 1)]),defers:=⟨.fn (.func cf) #[a.eval (.tmp 1)],#[]⟩ :: a.defers } w1:=by
  refine⟨hr1.hr,?_,by show(a.tmps.setIfInBounds _ _).size=_;rw [Array.size_setIfInBounds];exact hr1.sz,fun t=>?_,fun t v hv=>?_⟩
  ·show _ :: a.defers=_;rw [hr1.df]
  ·by_cases e:t=tf
   ·rw [e,h0];trivial
   ·show dd _ _ _ ((a.tmps.setIfInBounds _ _).getD _ _);rw [hget _ _ e];exact hr1.env t
  ·dsimp only at hv;split at hv
   ·rename_i hj;show(a.tmps.setIfInBounds _ _).getD _ _=_;rw [hget _ _ A8];simpa using hv
   ·cases hv
 refine wp_mono (oC (np:=2) hC hmix (fun d hd=>if_neg A8) P2 s0 _ hok2 hpar2 hE2 h0n g1 _ w1 hr2) fun e a2 w2 hp=>?_
 obtain⟨xx,s,g2,rfl,⟨hx,he1,hob,hret⟩,hr3,hf3,hn3⟩:=hp
 have key:Leaves P fn a2.tmps (Ct g0 pre post r w) a2.defers .returning w2:=by
  rw [hr3.df];obtain⟨⟨fc,hcfn,hcname,hcbody⟩,hcwf,hcvs,hcpost,hcle,hclo⟩:=hcl;have hcb:fc.body≠none:=by intro e;simp [e] at hcbody
  have hcn:fc.name≠ "runtime.NumGoroutine":=by simpa using hcname
  have hcap:a2.tmps.getD 1 Go.undef=a.eval (.tmp 1):=hr3.par 1 _ rfl;refine leaves_cons (f:=cf) (args:=#[a.eval (.tmp 1)]) (fun e=>by cases e) (by simp [invoke,callFunc,hcfn,hcn,hcb]) ?_
  obtain⟨c1,c2,c3,c4⟩:=BI (r:=.ba []) (l:=[.ref i 0 0 0]) (m:=fun i=>i) (vo:=fun _=>0) hcwf hcvs hcpost hcle rfl (fun i _ j _ h=>h) hr3.hr (fun i o h=>by rw [hid i o h];exact hob i o h) (fun i hi=>by simp at hi) (args:=#[a.eval (.tmp 1)]) rfl (fun j v x hv hx=>by
   cases j with
   |zero=>
    obtain rfl:V.ref i 0 0 0=v:=by simpa using hv
    obtain rfl:a.eval (.tmp 1)=x:=by simpa using hx
    rw [<- hcap,<- he1];exact hr3.env 1
   |succ j=>simp at hv)
  refine CallsD.mono (hclo _ w2 _ c1 c2 c3 .returning) fun e u' w' hh=>?_
  obtain⟨rfl,hgp⟩:=hh;obtain⟨v,rfl,g4,k1,k2,k3,k4⟩:=c4 e w' hgp;rw [hid2] at k1 k2 k3 k4;have hr4:Rel _ g4 ⟨s.n,s.env,post2 ++ s.oh⟩ a2 w':=⟨k1,hr3.df,hr3.sz,fun t=>k3.Sh (hr3.env t),hr3.par⟩
  obtain⟨-,v2,hv2,hfin⟩:=FD hnp hpre hr0' hsz hrd hret hr4 (fun j hj=>by
   obtain rfl:j=0:=by omega
   rw [hr3.par 0 _ rfl];have:=hr.par 0 _ rfl
   exact this) ((hf.trans hf1).trans (hf3.trans k4))
  exact⟨v2,hv2,hfin⟩
 cases xx with
 |exit id=>exact hx.elim
 |normal=>exact key
 |ret=>exact key
end
end Go.Ev
namespace Go.Ev
open Go.Proofs
theorem MD (l:List UInt32):rH l<=32 * l.length:=by
 unfold rH;split
 ·exact C0 _
 ·have:=pw (E6 (l.getD (l.length - 1) default))
  have h:l.length≠0:=fun h=>by
   have:=C8 h;contradiction
  omega
theorem Wt {n:Nat}{Q:Int->Prop}(k:Q ((n / 2:Nat):Int)):∃r,r=(n:Int).fdiv (2 ^ (min (1:Int).toNat IntKind.i64.bits))/\Q r:=by
 refine⟨_,rfl,?_⟩
 have:(n:Int).fdiv (2 ^ (min (1:Int).toNat IntKind.i64.bits))=((n / 2:Nat):Int):=by
  show(n:Int).fdiv 2=_;rw [M6 _ B3];rfl
 rw [this];exact k
theorem Xh {n:Nat}(h:n<=4294967296):IntKind.i64.wrap (((BitVec.ofInt IntKind.i64.bits (n:Int) &&& BitVec.ofInt IntKind.i64.bits (1:Int)).toNat:Nat):Int)=((n % 2:Nat):Int):=by
 have e:(BitVec.ofInt IntKind.i64.bits (n:Int) &&& BitVec.ofInt IntKind.i64.bits (1:Int)).toNat=n % 2:=by
  rw [BitVec.toNat_and]
  have h1:(BitVec.ofInt IntKind.i64.bits (n:Int)).toNat=n:=by
   rw [BitVec.toNat_ofInt];show((n:Int) % (2 ^ 64:Nat)).toNat=n;omega
  have h2:(BitVec.ofInt IntKind.i64.bits (1:Int)).toNat=1:=by decide
  rw [h1,h2,Nat.and_one_is_mod]
 rw [e];exact(Qu A8 A8).symm
theorem zX (u:UInt64)(n:Nat)(h:val [u.toUInt32,(u >>> 32).toUInt32]=n):Ok Tryz.prog 101 [.af (.int .u64 u.toNat)] true (tn (lm n)):=by
 have:=VF u;rw [bL,h] at this;exact this
theorem MQ (n0:Nat)(hn:n0<=1024):Ok Tryz.prog 120 [tn (lm 10),.af (.int .i64 n0)] true (.ba [tn (lm (10 ^ n0)),.af (.int .i64 0)]):=by
 have hT:=eo [10] B3;rw [show norm [(10:UInt32)]=[10] from rfl] at hT;have hB:=Aa [10] B3;rw [show rH (norm [(10:UInt32)])=4 from by decide] at hB;have hO:=zX 1 1 B3;have hw:=iu [10] B3;rw [show norm [(10:UInt32)]=lm 10 from by rw [Lw];rfl] at hw;have e10:tn (lm 10)=tn [10]:=by rw [Lw]
 rw [e10];refine aw bN mix Tryz.func120 rfl rfl B1 (zO rfl) ?_
 repeat'(first|(with_reducible first|(refine zz ?_;try intro K hK)|refine zi ?_|refine zh ?_)|((first|apply hK _ _ rfl|apply hK);clear hK K)|(guard_hyp hK;first|refine zx ?_|apply ab|apply aa|refine zW ?_|(refine zQ (hT) ?_)|(refine zQ (hB) ?_)|(refine zQ (hO) ?_)|(refine zQ (hw) ?_)|intro b0 hb)|((first|refine zj ?_|guard_hyp hK);refine zY ?_ ?_;all_goals(intro hb;(try simp only [sn,sb] at hb);try exact ao)))
 refine aT (Nat×Nat×Nat) (fun z=>⟨Tryz.f120.ntmps,[(1,.af (.int .i64 z.1)),(7,.ro true (tn (lm z.2.1))),(8,.ro true (tn (lm z.2.2)))],[]⟩) (fun z=>z.1<=n0/\z.2.1 * z.2.2 ^ z.1=10 ^ n0) (fun z=>z.1) [] (n0,1,10) trivial ⟨wU _,Q1 _⟩ ⟨rfl,⟨rfl,trivial,rfl,trivial,rfl,trivial,trivial⟩,trivial,trivial⟩ ?_;rintro⟨n,B,U⟩ ⟨h1,h2⟩;dsimp only at h1 h2;obtain⟨s1,s2⟩:=Jw h2;have hp:=pd n0;have hA:=Xh (n:=n) A8;by_cases hz:1<=n
 ·have hB1:1<=B:=by
   rcases N5 B with h9|h9
   ·rw [h9,Nat.zero_mul] at h2;exact absurd h2.symm (R0 (M3 B3))
   ·exact h9
  have hU:1<=U:=by
   rcases N5 U with h9|h9
   ·rw [h9,Nat.zero_pow hz,O9] at h2;exact absurd h2.symm (R0 (M3 B3))
   ·exact h9
  have b1:B<=10 ^ n0:=by rw [<- h2];exact V0 _ (M3 hU)
  have b2:U<=10 ^ n0:=by
   rw [<- h2];exact G6 (Nat.le_pow (b:=n) hz) (Nat.le_mul_of_pos_left _ hB1)
  have l1:=fL b1;have l2:=fL b2;have m1:=vw (lm B) (lm U) A8 A8;have m2:=vw (lm U) (lm U) A8 A8;rw [bM,bM] at m1;rw [bM] at m2
  repeat'(first|(refine Wt ?_)|(with_reducible first|(refine zz ?_;try intro K hK)|refine zi ?_|refine zh ?_)|((first|apply hK _ _ rfl|apply hK);clear hK K)|(guard_hyp hK;first|refine zx ?_|apply ab|apply aa|refine zW ?_|(refine zQ (m1) ?_)|(refine zQ (m2) ?_)|intro b0 hb)|((first|refine zj ?_|guard_hyp hK);refine zY ?_ ?_;all_goals(intro hb;(try simp only [sn,sb] at hb);try exact ao)))
  ·exact⟨(n / 2,B * U,U * U),⟨by dsimp only;omega,s1 A8⟩,by dsimp only;omega,rfl,⟨rfl,trivial,rfl,trivial,rfl,trivial,trivial⟩,trivial,trivial⟩
  ·have hn1:n=1:=by omega
   exact⟨(n / 2,B * U,U),⟨by dsimp only;omega,by dsimp only;rw [hn1] at h2 |-;rw [Nat.pow_one] at h2;rw [X8,R4];exact h2⟩,by dsimp only;omega,rfl,⟨rfl,trivial,rfl,trivial,rfl,trivial,trivial⟩,trivial,trivial⟩
  ·exact⟨(n / 2,B,U * U),⟨by dsimp only;omega,s2 A8⟩,by dsimp only;omega,rfl,⟨rfl,trivial,rfl,trivial,rfl,trivial,trivial⟩,trivial,trivial⟩
 ·obtain rfl:n=0:=by omega
  rw [X8,R4] at h2;have hL:=fL (R5 h2);have hb9:=Aa (lm B) A8;have hbl:=MD (norm (lm B));have hnl:=norm_le (lm B)
  repeat'(first|(with_reducible first|(refine zz ?_;try intro K hK)|refine zi ?_|refine zh ?_)|((first|apply hK _ _ rfl|apply hK);clear hK K)|(guard_hyp hK;first|refine zx ?_|apply ab|apply aa|refine zW ?_|(refine zQ (hb9) ?_)|intro b0 hb)|((first|refine zj ?_|guard_hyp hK);refine zY ?_ ?_;all_goals(intro hb;(try simp only [sn,sb] at hb);try exact ao)))
  rw [<- h2];exact⟨trivial,_,_,rfl,kr rfl (fun h=>h),ay rfl⟩
theorem Jx (n0:Nat)(hn:n0<=280000000):Ok Tryz.prog 103 [.af (.int .i64 n0)] true (tn (lm (10 ^ n0))):=by
 have hO:=zX 1 1 B3;have hT:=zX 10 10 B3;have hp:=pd n0;refine aw bN mix Tryz.func103 rfl rfl B1 (zO rfl) ?_
 repeat'(first|(with_reducible first|(refine zz ?_;try intro K hK)|refine zi ?_|refine zh ?_)|((first|apply hK _ _ rfl|apply hK);clear hK K)|(guard_hyp hK;first|refine zx ?_|apply ab|apply aa|refine zW ?_|(refine zQ (hO) ?_)|intro b0 hb)|((first|refine zj ?_|guard_hyp hK);refine zY ?_ ?_;all_goals(intro hb;(try simp only [sn,sb] at hb);try exact ao)))
 refine aT Nat (fun n=>⟨Tryz.f103.ntmps,[(0,.af (.int .i64 n)),(3,.ro true (tn (lm (10 ^ (n0 - n)))))],[]⟩) (fun n=>n<=n0) (fun n=>n) [] n0 trivial (wU _) ⟨rfl,⟨rfl,trivial,(by rw [H6];rfl),trivial,trivial⟩,trivial,trivial⟩ ?_;intro n hle;have l0:=fL (K8 (show 0 < 10 by decide) (show n0 - n<=n0 by omega));by_cases hlt:1024 < n
 ·obtain⟨B,hB⟩:∃B,B=1024:=⟨_,rfl⟩
  have hP:=MQ B (R5 hB);have l1:=fL (K8 (show 0 < 10 by decide) (show B<=n0 by omega));have hm:=vw (lm (10 ^ (n0 - n))) (lm (10 ^ B)) A8 A8;rw [bM,bM,<- P3] at hm;generalize 10 ^ B=Z at hP hm;subst hB
  repeat'(first|(with_reducible first|(refine zz ?_;try intro K hK)|refine zi ?_|refine zh ?_)|((first|apply hK _ _ rfl|apply hK);clear hK K)|(guard_hyp hK;first|refine zx ?_|apply ab|apply aa|refine zW ?_|(refine zQ (hT) ?_)|(refine zQ (hP) ?_)|(refine zQ (hm) ?_)|intro b0 hb)|((first|refine zj ?_|guard_hyp hK);refine zY ?_ ?_;all_goals(intro hb;(try simp only [sn,sb] at hb);try exact ao)))
  refine⟨n - 1024,by omega,by omega,rfl,⟨?_,trivial,?_,trivial,trivial⟩,trivial,trivial⟩
  ·exact B4 (fun q=>V.af (.int .i64 q)) A8
  ·rw [show n0 - (n - 1024)=n0 - n+1024 by omega];rfl
 ·have hP:=MQ n A8;have l1:=fL (K8 (show 0 < 10 by decide) hle);have hm:=vw (lm (10 ^ (n0 - n))) (lm (10 ^ n)) A8 A8;rw [bM,bM,<- P3,show n0 - n+n=n0 by omega] at hm
  repeat'(first|(with_reducible first|(refine zz ?_;try intro K hK)|refine zi ?_|refine zh ?_)|((first|apply hK _ _ rfl|apply hK);clear hK K)|(guard_hyp hK;first|refine zx ?_|apply ab|apply aa|refine zW ?_|(refine zQ (hT) ?_)|(refine zQ (hP) ?_)|(refine zQ (hm) ?_)|intro b0 hb)|((first|refine zj ?_|guard_hyp hK);refine zY ?_ ?_;all_goals(intro hb;(try simp only [sn,sb] at hb);try exact ao)))
  exact⟨trivial,kr rfl (fun h=>h)⟩
theorem Yd {n:Nat}(h:n < 4294967296):IntKind.u64.wrap (((BitVec.ofInt IntKind.u64.bits (0:Int) |||BitVec.ofInt IntKind.u64.bits (n:Int)).toNat:Nat):Int)=(n:Int):=by
 have e:(BitVec.ofInt IntKind.u64.bits (0:Int) |||BitVec.ofInt IntKind.u64.bits (n:Int)).toNat=n:=by
  rw [BitVec.toNat_or]
  have h1:(BitVec.ofInt IntKind.u64.bits (n:Int)).toNat=n:=by
   rw [BitVec.toNat_ofInt];show((n:Int) % (2 ^ 64:Nat)).toNat=n;omega
  have h2:(BitVec.ofInt IntKind.u64.bits (0:Int)).toNat=0:=by decide
  rw [h1,h2,Nat.zero_or]
 rw [e];exact(fU A8 A8).symm
theorem Ww {n:Nat}{Q:Int->Prop}(h:n < 4294967296)(k:Q (n:Int)):∃r,r=IntKind.u64.wrap ((n:Int) * 2 ^ (min (32 * 0:Int).toNat IntKind.u64.bits))/\Q r:=by
 refine⟨_,rfl,?_⟩
 have:IntKind.u64.wrap ((n:Int) * 2 ^ (min (32 * 0:Int).toNat IntKind.u64.bits))=n:=by
  show IntKind.u64.wrap ((n:Int) * 1)=n;rw [Int.mul_one];exact(fU A8 A8).symm
 rw [this];exact k
theorem Qm (n:Nat)(hn:n < 4294967296):Ok Tryz.prog 119 [tn (lm n)] true (.ba [.af (.int .u64 n),.af (.bool true)]):=by
 have hT:=eo (lm n) (G6 (uF (k:=1) A8) B3);have e1:norm (lm n)=lm n:=by rw [bL,bM]
 rw [e1] at hT;by_cases h0:n=0
 ·subst h0;have e0:lm 0=[]:=by simp [lm]
  rw [e0] at hT |-;refine aw bN mix Tryz.func119 rfl rfl B1 (zO rfl) ?_
  repeat'(first|(with_reducible first|(refine zz ?_;try intro K hK)|refine zi ?_|refine zh ?_)|((first|apply hK _ _ rfl|apply hK);clear hK K)|(guard_hyp hK;first|refine zx ?_|apply ab|apply aa|refine zW ?_|(refine zQ (hT) ?_)|intro b0 hb)|((first|refine zj ?_|guard_hyp hK);refine zY ?_ ?_;all_goals(intro hb;(try simp only [sn,sb] at hb);try exact ao)))
  refine aT Unit (fun _=>⟨Tryz.f119.ntmps,[(4,.af (.int .u64 0)),(13,.af (.int .i64 0)),(14,.af (.int .i64 0))],[]⟩) (fun _=>True) (fun _=>0) [] () trivial trivial ⟨rfl,⟨rfl,trivial,rfl,trivial,rfl,trivial,trivial⟩,trivial,trivial⟩ ?_;rintro - -
  repeat'(first|(with_reducible first|(refine zz ?_;try intro K hK)|refine zi ?_|refine zh ?_)|((first|apply hK _ _ rfl|apply hK);clear hK K)|(guard_hyp hK;first|refine zx ?_|apply ab|apply aa|refine zW ?_|intro b0 hb)|((first|refine zj ?_|guard_hyp hK);refine zY ?_ ?_;all_goals(intro hb;(try simp only [sn,sb] at hb);try exact ao)))
  exact⟨trivial,_,_,rfl,ay rfl,ay rfl⟩
 ·have e2:lm n=[UInt32.ofNat n]:=by
   have h1:val [UInt32.ofNat n]=n:=by
    show(UInt32.ofNat n).toNat+4294967296 * 0=n;rw [E9,E2 hn];omega
   rw [<- h1,<- bL]
   have h2:(UInt32.ofNat n)≠0:=fun e=>by
    have:=B4 UInt32.toNat e;rw [E9,E2 hn] at this;exact h0 this
   rw [h1];simp [norm,h2]
  have e3:(UInt32.ofNat n).toNat=n:=by rw [E9,E2 hn]
  rw [e2] at hT |-;refine aw bN mix Tryz.func119 rfl rfl B1 (zO rfl) ?_
  repeat'(first|(with_reducible first|(refine zz ?_;try intro K hK)|refine zi ?_|refine zh ?_)|((first|apply hK _ _ rfl|apply hK);clear hK K)|(guard_hyp hK;first|refine zx ?_|apply ab|apply aa|refine zW ?_|(refine zQ (hT) ?_)|intro b0 hb)|((first|refine zj ?_|guard_hyp hK);refine zY ?_ ?_;all_goals(intro hb;(try simp only [sn,sb] at hb);try exact ao)))
  refine aT Nat (fun i=>⟨Tryz.f119.ntmps,[(4,.af (.int .u64 (if i=0 then 0 else n:Nat))),(12,.ro false (tn [UInt32.ofNat n])),(13,.af (.int .i64 1)),(14,.af (.int .i64 i))],[]⟩) (fun i=>i<=1) (fun i=>1 - i) [] 0 trivial (C0 _) ⟨rfl,⟨rfl,trivial,rfl,trivial,rfl,trivial,rfl,trivial,trivial⟩,trivial,trivial⟩ ?_;intro i hi;by_cases hi0:i=0
  ·subst hi0;rw [if_pos rfl];have hz:=Yd hn
   have hat:(([UInt32.ofNat n]:List UInt32).map bw)[0]?=some (.af (.int .u32 n)):=by
    show some (bw (UInt32.ofNat n))=_;unfold bw;rw [e3]
   repeat'(first|(first|refine Sk _ (UO hat ?_)|refine Ww hn ?_)|(with_reducible first|(refine zz ?_;try intro K hK)|refine zi ?_|refine zh ?_)|((first|apply hK _ _ rfl|apply hK);clear hK K)|(guard_hyp hK;first|refine zx ?_|apply ab|apply aa|refine zW ?_|intro b0 hb)|((first|refine zj ?_|guard_hyp hK);refine zY ?_ ?_;all_goals(intro hb;(try simp only [sn,sb] at hb);try exact ao)))
   refine⟨1,wU _,by decide,rfl,⟨?_,trivial,rfl,trivial,rfl,trivial,rfl,trivial,trivial⟩,trivial,trivial⟩;exact B4 (fun q=>V.af (.int .u64 q)) hz
  ·obtain rfl:i=1:=by omega
   rw [if_neg B3]
   repeat'(first|(with_reducible first|(refine zz ?_;try intro K hK)|refine zi ?_|refine zh ?_)|((first|apply hK _ _ rfl|apply hK);clear hK K)|(guard_hyp hK;first|refine zx ?_|apply ab|apply aa|refine zW ?_|intro b0 hb)|((first|refine zj ?_|guard_hyp hK);refine zY ?_ ?_;all_goals(intro hb;(try simp only [sn,sb] at hb);try exact ao)))
   exact⟨trivial,_,_,rfl,ay rfl,ay rfl⟩
theorem wG {S:dS}{l:List Value}{args:Array Value}(h:Reads S (l.map T.af) args):args=l.toArray:=by
 obtain⟨h1,h2⟩:=h;rw [List.length_map] at h1;refine Array.ext (by simpa using h1) fun i h3 h4=>?_
 have hl:i < l.length:=by omega
 have:=h2 i (.af l[i]) args[i] (by rw [Zf,uz hl];rfl) (by rw [E3 h3]);generalize args[i]=x at this;cases this
 simp
theorem uh {P:Program}{q:FuncId}{l:List Value}{f:Bool}{v:Value}{t:T}(hq:jo P q)(hr:∀S,gD S t v)
  (h:∀(S:dS) (w:World),GL S->(∀b o c,S b o=some c->w.cell? ⟨b,o,none⟩=some c)->Calls P q l.toArray w fun e w'=>e=.returned v/\w'=w):Ok P q (l.map T.af) f t:=by
 refine⟨hq,fun S w args hS hgl hargs=>?_⟩;rw [wG hargs];refine(h S w hgl hS).mono fun e w' he=>?_
 obtain⟨rfl,rfl⟩:=he;exact⟨v,fun _ _=>none,rfl,RowKit.Below.refl _ _,(fun _ _ _ hc=>by cases hc),hr _⟩
theorem lb (s:ByteArray)(b:UInt8):Ok Tryz.prog 69 [gG s,tb b] true (.af (.int .i64 (Lib.indexByte s.data.toList b))):=by
 have e:(b.toNat:Int).toNat.toUInt8=b:=by simp
 refine uh (l:=[.string s,.int .u8 b.toNat]) ⟨_,Tryz.func69,rfl,rfl⟩ (fun S=>gD.af _ rfl) (fun S w _ _=>?_);have:=Tryz.strings_IndexByte s b.toNat w;rw [e] at this;exact this
theorem MU (s u:ByteArray)(hs:s.size < 4294967281):Ok Tryz.prog 90 [gG s,gG u] true (.af (.int .i64 (Lib.index s.data.toList u.data.toList))):=by
 refine uh (l:=[.string s,.string u]) ⟨_,Tryz.func90,rfl,rfl⟩ (fun S=>gD.af _ rfl) (fun S w hg hS=>?_);obtain⟨m,hm⟩:∃m,S 1 0=some (.int .i64 m):=hg.1;exact Tryz.strings_Index s u m w hs (hS _ _ _ hm)
theorem zU (s:ByteArray)(c:UInt8)(hc:c.toNat < 128):Ok Tryz.prog 91 [gG s,gG ⟨#[c]⟩] true (gG ⟨(Lib.trimLeftB s.data.toList c).toArray⟩):=by
 refine uh (l:=[.string s,.string ⟨#[c]⟩]) ⟨_,Tryz.func91,rfl,rfl⟩ (fun S=>gD.af _ rfl) (fun S w _ _=>?_);exact Tryz.strings_TrimLeft_one s c hc w
def zn (v:Nat)(l:List UInt8):Nat:=l.foldl (fun v b=>10 * v+(b.toNat - 48)) v
theorem Gn : ∀(l:List UInt8) (v:Nat),v * 10 ^ l.length<=zn v l
 | [],v=>by simp [zn]
 |b :: r,v=>by
  have:=Gn r (10 * v+(b.toNat - 48));show _<=zn (10 * v+(b.toNat - 48)) r;rw [B9,H9];refine G6 ?_ this;rw [E0 (10 ^ r.length) 10,<- J2];exact F6 _ A8
theorem Gl : ∀(l:List UInt8) (v:Nat),(∀b ∈ l,ak b=true)->zn v l < (v+1) * 10 ^ l.length
 | [],v,_=>by simp [zn]
 |b :: r,v,h=>by
  have hb:=h b (D7 ..);unfold ak at hb;simp only [C7,E5] at hb;have:=Gl r (10 * v+(b.toNat - 48)) (fun c hc=>h c (D5 _ hc));show zn (10 * v+(b.toNat - 48)) r < _;rw [B9,H9];refine L0 this ?_;rw [E0 (10 ^ r.length) 10,<- J2];exact F6 _ A8
theorem xg : ∀(l:List UInt8),eg (Lib.trimLeftB l 48)=eg l
 | []=>rfl
 |b :: r=>by
  unfold Lib.trimLeftB;rw [U2];split
  ·rename_i hb;obtain rfl:b=48:=by simpa using hb
   have:=xg r;unfold Lib.trimLeftB at this;rw [this];rfl
  ·rfl
theorem Il (l:List UInt8):Lib.trimLeftB l 48=[]\/∃b r,Lib.trimLeftB l 48=b :: r/\b≠48:=by
 unfold Lib.trimLeftB
 induction l with
 |nil=>exact .inl rfl
 |cons b r ih=>
  rw [U2];split
  ·exact ih
  ·rename_i hb;exact .inr ⟨b,r,rfl,by simpa using hb⟩
theorem Mk {l:List UInt8}{b:UInt8}(h:b ∈ Lib.trimLeftB l 48):b ∈ l:=(V3 _).subset h
def BH : List UInt8:=[49,48,48,48]
theorem HY {l:List UInt8}(hd:∀b ∈ l,ak b=true)(hz:l=[]\/∃b r,l=b :: r/\b≠48) :
  (4 < l.length->1000 < eg l)/\(l.length < 4->¬1000 < eg l)/\(l.length=4->(1000 < eg l↔l≠BH)/\Op.bytesLess l BH=false):=by
 have dg:∀b ∈ l,48<=b.toNat/\b.toNat<=57:=fun b hb=>by
  have:=hd b hb;unfold ak at this;simpa using this
 refine⟨fun h=>?_,fun h=>?_,fun h=>?_⟩
 ·rcases hz with rfl|⟨b,r,rfl,hb⟩
  ·simp at h
  ·have h1:=Gn r (b.toNat - 48);have h2:=dg b (D7 ..);have h3:b.toNat≠48:=fun e=>hb (I3.1 e)
   rw [B9] at h;have h4:10 ^ 4<=10 ^ r.length:=K8 B3 A8;have h5:1 * 10 ^ r.length<=(b.toNat - 48) * 10 ^ r.length:=F6 _ A8;have h6:eg (b :: r)=zn (b.toNat - 48) r:=by show zn (10 * 0+(b.toNat - 48)) r=_;rw [O9,C2]
   rw [h6];omega
 ·have h1:=Gl l 0 hd;have h4:10 ^ l.length<=10 ^ 3:=K8 B3 A8;have h6:eg l=zn 0 l:=rfl;rw [h6];omega
 ·match l,h with
  | [a,b,c,d],_=>
   obtain⟨ha,ha2⟩:=dg a (by simp);obtain⟨hb,hb2⟩:=dg b (by simp);obtain⟨hc,hc2⟩:=dg c (by simp);obtain⟨hd1,hd2⟩:=dg d (by simp)
   have hne:a.toNat≠48:=by
    rcases hz with e|⟨b',r',e,h9⟩
    ·cases e
    ·cases e;exact fun e=>h9 (I3.1 e)
   have hv:eg [a,b,c,d]=1000 * (a.toNat - 48)+100 * (b.toNat - 48)+10 * (c.toNat - 48)+(d.toNat - 48):=by
    simp only [eg,List.foldl];omega
   refine⟨?_,?_⟩
   ·rw [hv];constructor
    ·intro h e;unfold BH at e;simp at e;obtain⟨rfl,rfl,rfl,rfl⟩:=e;revert h;decide
    ·intro h;by_cases h9:1000 < 1000 * (a.toNat - 48)+100 * (b.toNat - 48)+10 * (c.toNat - 48)+(d.toNat - 48)
     ·exact h9
     ·exfalso;apply h;have e1:a=49:=I3.1 (by show a.toNat=49;omega);have e2:b=48:=I3.1 (by show b.toNat=48;omega);have e3:c=48:=I3.1 (by show c.toNat=48;omega);have e4:d=48:=I3.1 (by show d.toNat=48;omega);rw [e1,e2,e3,e4];rfl
   ·unfold BH;have n1:¬a < 49:=fun h=>by have:a.toNat < 49:=h;omega
    have n2:¬b < 48:=fun h=>by have:b.toNat < 48:=h;omega
    have n3:¬c < 48:=fun h=>by have:c.toNat < 48:=h;omega
    have n4:¬d < 48:=fun h=>by have:d.toNat < 48:=h;omega
    simp [Op.bytesLess,n1,n2,n3,n4]
theorem LC (s:ByteArray)(hs:s.size<=1073741824)(hd:jM s):Ok Tryz.prog 81 [gG s] true (.af (.bool (decide (1000 < eg (bs s))))):=by
 have hdl:∀b ∈ bs s,ak b=true:=fun b hb=>by
  obtain⟨i,hi,rfl⟩:=L6.1 hb;have:=hd i (by rw [<- aU];exact hi);unfold ax at this;rw [List.getD,uz hi] at this;exact this
 have h1:=zU s 48 B3;have hbb:Lib.trimLeftB s.data.toList 48=Lib.trimLeftB (bs s) 48:=rfl;rw [hbb] at h1;obtain⟨a1,a2,a3⟩:=HY (l:=Lib.trimLeftB (bs s) 48) (fun b hb=>hdl b (Mk hb)) (Il _);rw [<- xg];obtain⟨U,hU⟩:∃U:ByteArray,U=⟨(Lib.trimLeftB (bs s) 48).toArray⟩:=⟨_,rfl⟩
 have hl:(Lib.trimLeftB (bs s) 48).length=U.size:=by rw [hU];exact(List.size_toArray).symm
 have ht:Lib.trimLeftB (bs s) 48=U.toList:=by rw [hU,jD]
 have hle:U.size<=s.size:=by rw [<- hl,<- aU];exact(V3 _).length_le
 rw [<- hU] at h1;rw [ht] at a1 a2 a3 |-;have hl2:U.toList.length=U.size:=by rw [<- ht];exact hl
 rw [hl2] at a1 a2 a3;refine aw bN mix Tryz.func81 rfl rfl B1 (zO rfl) ?_;have hk:(⟨#[49,48,48,48]⟩:ByteArray).toList=BH:=by rw [jD];rfl
 repeat'(first|(with_reducible first|(refine zz ?_;try intro K hK)|refine zi ?_|refine zh ?_)|((first|apply hK _ _ rfl|apply hK);clear hK K)|(guard_hyp hK;first|refine zx ?_|apply ab|apply aa|refine zW ?_|(refine zQ (h1) ?_)|intro b0 hb)|((first|refine zj ?_|guard_hyp hK);refine zY ?_ ?_;all_goals(intro hb;(try simp only [sn,sb] at hb);try exact ao)))
 ·exact lC rfl rfl (F9 (a1 A8)).symm
 ·obtain⟨e1,e2⟩:=a3 A8;refine lC rfl rfl ?_;show(!Op.bytesLess U.toList (⟨#[49,48,48,48]⟩:ByteArray).toList && !(U.toList == (⟨#[49,48,48,48]⟩:ByteArray).toList))=_;rw [hk,e2,P8];simp [e1]
 ·exact lC rfl rfl (G4 (a2 A8)).symm
end Go.Ev
