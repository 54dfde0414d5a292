import Derived.Test.YthpoegdjffdojaaGreatDoorULae
set_option linter.all false
namespace Go.Ev
variable {P : Program}
def dq : Nat->List V->Env
 |_,[]=>[]
 |i,v :: r=>(i,v) :: dq (i+1) r
theorem mJ : ∀(vs:List V) (i t:Nat),i<=t->aA (dq i vs) t=(match vs[t - i]? with|some v=>v|none=>.undef)
 | [],i,t,_=>by simp [dq,aA]
 |x :: r,i,t,h=>by
  rw [dq,dj];by_cases e:i=t
  ·subst e;simp
  ·rw [if_neg e,mJ r (i+1) t A8,show t - i=(t - (i+1))+1 by omega,S3]
def OA (i:Nat):V->Prop
 |.own i' ver _ len=>i'=i/\ver=0/\0 < len
 |.ref i' ver _ _=>i'=i/\ver=0
 |_=>False
def Oz (i:Nat):V->Prop
 |.agg l=>∃v ∈ l,OA i v
 |v=>OA i v
theorem Du {g g2:Gh}{oh oh2:OH}{i:Nat}{o o2:Obj}{v:V}{x:Value}(hp:OA i v)(ho:ae oh i=some o)(ho2:ae oh2 i=some o2)(h0:o.ver=0)(h02:o2.ver=0)(hl:o.live=true)(hl2:o2.live=true)
  (h1:bm g oh v x) (h2:bm g2 oh2 v x):g2.m i=g.m i:=by
 cases v with
 |own i' ver off len=>
  obtain⟨rfl,rfl,hlen⟩:=hp;obtain⟨_,q,e1,_,c1⟩:=h1;obtain⟨_,q2,e2,_,c2⟩:=h2;rw [ho] at e1;rw [ho2] at e2;obtain rfl:o=q:=by simpa using e1
  obtain rfl:o2=q2:=by simpa using e2
  obtain⟨a,cap,rfl,hc,_,d1⟩:=c1 h0 hl;obtain⟨a2,cap2,e3,hc2,_,d2⟩:=c2 h02 hl2;simp only [Value.slice.injEq] at e3;obtain⟨rfl,_,rfl⟩:=e3;obtain⟨b,m1,f1,_⟩:=d1 A8;obtain⟨b2,m2,f2,_⟩:=d2 A8;rw [f1] at f2;simp only [N9,Addr.mk.injEq] at f2;rw [m1,m2,f2.1]
 |ref i' ver k foff=>
  obtain⟨rfl,rfl⟩:=hp;obtain⟨_,q,e1,_,c1⟩:=h1;obtain⟨_,q2,e2,_,c2⟩:=h2;rw [ho] at e1;rw [ho2] at e2;obtain rfl:o=q:=by simpa using e1
  obtain rfl:o2=q2:=by simpa using e2
  obtain⟨b,m1,f1⟩:=c1 h0 hl;obtain⟨b2,m2,f2⟩:=c2 h02 hl2;rw [f1] at f2;simp only [Value.pointer.injEq,N9,Addr.mk.injEq] at f2;rw [m1,m2,f2.1]
 |_=>exact hp.elim
theorem KT {g g2:Gh}{oh oh2:OH}{i:Nat}{o o2:Obj}{v:V}{x:Value}(hp:Oz i v)(ho:ae oh i=some o)(ho2:ae oh2 i=some o2)(h0:o.ver=0)(h02:o2.ver=0)(hl:o.live=true)(hl2:o2.live=true)
  (h1:dd g oh v x) (h2:dd g2 oh2 v x):g2.m i=g.m i:=by
 cases v with
 |agg l=>
  obtain⟨u,hu,hp⟩:=hp;obtain⟨j,hj⟩:=List.getElem?_of_mem hu;obtain⟨cs,rfl,hl1,hc1⟩:=h1;obtain⟨cs2,e,hl3,hc2⟩:=h2;simp only [Value.agg.injEq] at e;subst e;have hlt:j < cs.size:=by rw [hl1];exact(yK.1 hj).1
  exact Du hp ho ho2 h0 h02 hl hl2 (hc1 j u _ hj (E3 hlt)).1 (hc2 j u _ hj (E3 hlt)).1
 |own a b c d=>exact Du (v:=.own a b c d) hp ho ho2 h0 h02 hl hl2 h1 h2
 |ref a b c d=>exact Du (v:=.ref a b c d) hp ho ho2 h0 h02 hl hl2 h1 h2
 |_=>exact hp.elim
theorem Dv {g:Gh}{oh:OH}{i:Nat}{o:Obj}{v:V}{x:Value}(hp:OA i v)(ho:ae oh i=some o)(h0:o.ver=0)(hl:o.live=true)(h1:bm g oh v x):∃b,g.m i=some b:=by
 cases v with
 |own i' ver off len=>
  obtain⟨rfl,rfl,hlen⟩:=hp;obtain⟨_,q,e1,_,c1⟩:=h1;rw [ho] at e1;obtain rfl:o=q:=by simpa using e1
  obtain⟨a,cap,rfl,hc,_,d1⟩:=c1 h0 hl;obtain⟨b,m1,_⟩:=d1 A8;exact⟨b,m1⟩
 |ref i' ver k foff=>
  obtain⟨rfl,rfl⟩:=hp;obtain⟨_,q,e1,_,c1⟩:=h1;rw [ho] at e1;obtain rfl:o=q:=by simpa using e1
  obtain⟨b,m1,_⟩:=c1 h0 hl;exact⟨b,m1⟩
 |_=>exact hp.elim
theorem So {g:Gh}{oh:OH}{i:Nat}{o:Obj}{v:V}{x:Value}(hp:Oz i v)(ho:ae oh i=some o)(h0:o.ver=0)(hl:o.live=true)(h1:dd g oh v x):∃b,g.m i=some b:=by
 cases v with
 |agg l=>
  obtain⟨u,hu,hp⟩:=hp;obtain⟨j,hj⟩:=List.getElem?_of_mem hu;obtain⟨cs,rfl,hl1,hc1⟩:=h1;have hlt:j < cs.size:=by rw [hl1];exact(yK.1 hj).1
  exact Dv hp ho h0 hl (hc1 j u _ hj (E3 hlt)).1
 |own a b c d=>exact Dv (v:=.own a b c d) hp ho h0 hl h1
 |ref a b c d=>exact Dv (v:=.ref a b c d) hp ho h0 hl h1
 |_=>exact hp.elim
def Xl (P:Program)(fn:Func)(M:List MO)(vs:List V)(f:Bool)(t:T)(x:X)(s:St):Prop:=
 (match x with|.exit _=>False|_=>True)/\(∀y ∈ M,ae s.oh y.id=some ⟨y.sz,y.b,0,true⟩)/\(∀y ∈ M,∃j u,vs[j]?=some u/\aA s.env j=u/\Oz y.id u)/\
 ∃s1,Le s1 s/\(∀y ∈ M,ae s1.oh y.id=none)/\kz P fn f t x s1
theorem nk {C:CT}(hC:∀q ts r,C q ts r->iE P q ts r)(hmix:P.follows .mixedOrders=true){q:FuncId}{fn:Func}{c:Code}{M:List MO}{vs:List V}{f:Bool}{t:T}
  (hfn:P.funcs[q]?=some fn) (hname:(fn.name == "runtime.NumGoroutine")=false) (hbody:fn.body=some c) (hok:okB fn.ntmps c=true) (hpar:fT vs.length c=true) (hlen:vs.length<=fn.ntmps)
  (hwf:∀x ∈ M,0 < x.sz/\x.a.length=x.b.length/\(∀e ∈ x.a,e.oU)/\(∀e ∈ x.b,e.oU)) (hnd:(M.map (·.id)).Nodup)
  (h:cK P C c ⟨fn.ntmps,dq 0 vs,M.map MO.pre⟩ (Xl P fn M vs f t)):TP P q M vs f t:=by
 refine⟨⟨fn,hfn,hname,by simp [hbody]⟩,hwf,hnd,fun g0 w args hF0 hr0' hsz hrd=>?_⟩
 have hget:∀j,j < args.size->(args ++ Array.replicate (fn.ntmps - args.size) Go.undef).getD j Go.undef=args.getD j Go.undef:=by
  intro j hj;rw [Pb,I0 hj,Pb]
 have hr0:Rel ⟨fun j=>if j < vs.length then some (args.getD j Go.undef) else none,[]⟩ g0 ⟨fn.ntmps,dq 0 vs,M.map MO.pre⟩ { tmps:=args ++ Array.replicate (fn.ntmps - args.size) Go.undef,defers:=[] } w:=by
  refine⟨hr0',rfl,by simp;omega,fun j=>?_,fun j v hv=>?_⟩
  ·rw [mJ vs 0 j (C0 _)];simp only [T6]
   cases hj:vs[j]? with
   |none=>trivial
   |some u=>
    have hlt:j < args.size:=by rw [hsz];exact(yK.1 hj).1
    simp only;rw [hget j hlt];refine hrd j u _ hj ?_;rw [Pb,E3 hlt];rfl
  ·dsimp only at hv;split at hv
   ·rename_i hj;rw [hget j A8];simpa using hv
   ·cases hv
 refine calls_of_wp hfn hbody (wp_mono (oC (np:=vs.length) hC hmix (fun d hd=>if_neg A8) c _ _ hok hpar h rfl g0 _ w hr0) fun e a' w' hp=>?_);obtain⟨xx,s',g',rfl,hret,hrel,hfr,_⟩:=hp;obtain⟨hx,hob,hpin,s1,hle,hno,hres⟩:=hret
 have hpost:∀i o,ae (M.map MO.post) i=some o->ae s'.oh i=some o/\∃y ∈ M,y.id=i/\o=⟨y.sz,y.b,0,true⟩:=by
  intro i o hi;obtain⟨y,hy,rfl,rfl⟩:=bP hi;exact⟨hob y hy,y,hy,rfl,rfl⟩
 have hm:∀y ∈ M,g'.m y.id=g0.m y.id:=by
  intro y hy;obtain⟨j,u,hj,hej,hp⟩:=hpin y hy;have hlt:j < vs.length:=(yK.1 hj).1;have h1:=hrd j u _ hj (by rw [E3 (by omega:j < args.size)]);have h2:=hrel.env j;rw [hej] at h2;have h3:=hrel.par j (args.getD j Go.undef) (if_pos hlt);rw [h3,Pb,E3 (by omega:j < args.size)] at h2;exact KT hp (gf (F:=MO.pre) (fun _=>rfl) hnd y hy) (hob y hy) rfl rfl rfl rfl h1 h2
 obtain⟨hrel1,hfr1⟩:=hrel.less hle;have hfr2:=hfr.trans hfr1;let N:dS:=fun b o=>if w.heap.size<=b then w'.cell? ⟨b,o,none⟩ else none
 have hN:∀b o c,N b o=some c->w.heap.size<=b/\w'.cell? ⟨b,o,none⟩=some c:=by
  intro b o c hc;by_cases hb:w.heap.size<=b
  ·exact⟨hb,by simpa [N,hb] using hc⟩
  ·simp [N,hb] at hc
 have hnew:∀b,cw g' s1.oh b->w.heap.size<=b:=by
  intro b hb;rcases hfr2.own b hb with h'|h'
  ·exfalso;obtain⟨i,o,hi,hl,hmi⟩:=h';obtain⟨y,hy,rfl,rfl⟩:=bP hi;obtain⟨k,o2,hk,hl2,hmk⟩:=hb;have hk':=wX hle.2.2.1 k o2 hk;have:k=y.id:=hrel.hr.inj k y.id o2 _ b hk' (hob y hy) hl2 rfl hmk (by rw [hm y hy];exact hmi);rw [this,hno y hy] at hk;cases hk
  ·exact h'
 have hgiven:∀b o c,g'.F b o=some c->w.heap.size<=b\/cw g0 (M.map MO.pre) b:=by
  intro b o c hc;rcases hfr.nF b o c hc with h'|h'|h'
  ·rw [hF0] at h';cases h'
  ·exact .inr h'
  ·exact .inl h'
 have hFN:∀b o c,g'.F b o=some c->N b o=some c:=by
  intro b o c hc;have hcell:=hrel.hr.hG b o c (hrel.hr.hF b o c hc);rcases hgiven b o c hc with h'|⟨i,ob,hi,_,hmi⟩
  ·simpa [N,h'] using hcell
  ·exfalso;obtain⟨y,hy,rfl,rfl⟩:=bP hi;have hmy:g'.m y.id=some b:=by rw [hm y hy];exact hmi
   obtain⟨_,_,_,hg,_⟩:=(hrel.hr.obj y.id _ (hob y hy) rfl).2 b hmy;have:=hrel.hr.hF b o c hc;rw [hg] at this;cases this
 have hresult:∃v,(results fn a'.tmps).run P w'=.ok v w'/\((f ||t.plain)=true->gD N t v):=by
  cases f with
  |true=>
   have hfin:nL g' s1.oh w' true N:=⟨hFN,by simp,fun b hb o c hc=>by have:=hnew b hb;simpa [N,this] using hc⟩
   obtain⟨v,hv,hrv⟩:=od hres hrel1 hfin;exact⟨v,hv,fun _=>hrv⟩
  |false=>
   have hfin:nL g' s1.oh w' false (fun b o=>w'.cell? ⟨b,o,none⟩):=
    ⟨fun b o c hc=>hrel.hr.hG _ _ _ (hrel.hr.hF _ _ _ hc),fun _ b o c hc=>hrel.hr.hG _ _ _ hc,fun b _ o c hc=>hc⟩
   obtain⟨v,hv,hrv⟩:=od hres hrel1 hfin;exact⟨v,hv,fun hp=>qC (by simpa using hp) hrv⟩
 obtain⟨v,hv,hrv⟩:=hresult
 have hown:∀b,cw g' (M.map MO.post) b->cw g' s'.oh b:=by
  rintro b ⟨i,o,hi,hl,hmi⟩;exact⟨i,o,(hpost i o hi).1,hl,hmi⟩
 have hpl:∀i o,ae (M.map MO.post) i=some o->o.live=true:=by
  intro i o hi;obtain⟨_,y,hy,rfl,rfl⟩:=hpost i o hi;rfl
 have hHR:HR g' (M.map MO.post) w':=by
  refine⟨⟨hrel.hr.hG,hrel.hr.hF,fun i o hi hl=>?_,fun i j oi oj b hi hj=>hrel.hr.inj i j oi oj b (hpost i oi hi).1 (hpost j oj hj).1,jm.none hpl⟩,hrel.hr.gl⟩;obtain⟨h1,y,hy,rfl,rfl⟩:=hpost i o hi;obtain⟨h2,h3⟩:=hrel.hr.obj _ _ h1 hl;refine⟨h2,fun b hb=>?_⟩;obtain⟨arr,ty,hh,hg,hba⟩:=h3 b hb;exact⟨arr,ty,hh,hg,hba.1,hba.2.1,hba.2.2.1,fun k e he=>xV ((hwf y hy).2.2.2 e (MH he)) (hba.2.2.2 k e he)⟩
 have hFr:Fr g0 (M.map MO.pre) w g' (M.map MO.post) w':=
  ⟨hfr.os,hfr.tape,hfr.output,hfr.size,hfr.km,fun b hb=>hfr.own b (hown b hb),hfr.G,hfr.F,hfr.nG,hfr.nF,hfr.Gx,fun b hb=>absurd hb (sP.none hpl)⟩
 cases xx with
 |exit id=>exact hx.elim
 |normal=>exact⟨hrel.df,v,hv,v,g',N,rfl,hHR,hFr,fun y hy _=>hm y hy,hN,hrv⟩
 |ret=>exact⟨hrel.df,v,hv,v,g',N,rfl,hHR,hFr,fun y hy _=>hm y hy,hN,hrv⟩
theorem FJ {C:CT}{q:FuncId}{x:MO}{vs args:List V}{fr:Bool}{r:T}{oh:OH}{k:Acc->Prop}(id ver:Nat)(hc:C q [] (.OZ [x] vs fr r))(ho:ae oh id=some ⟨x.sz,x.a,ver,true⟩)
  (hv:Is [x] vs) (ha:VX (fun _=>id) (fun _=>ver) args vs) (hp:(fr ||r.plain)=true) (hk:k ⟨[(id,⟨x.sz,x.a,ver,true⟩)],[],[(id,⟨x.sz,x.b,ver,true⟩)],V.FE fr r⟩):Tz C q args oh k:=
 ⟨[x],vs,fr,r,fun _=>id,fun _=>ver,hc,hv,ha,by simpa using ho,by
  intro a ha b hb _;obtain rfl:a=x:=by simpa using ha
  obtain rfl:b=a:=by simpa using hb
  rfl,hp,hk⟩
inductive mO (oh oh1:OH):V->V->Prop
 |af (v:Value):mO oh oh1 (.af v) (.af v)
 |ro (f:Bool) (t:T):mO oh oh1 (.ro f t) (.ro f t)
 |emp:mO oh oh1 .emp .emp
 |own (id ver ver1 off len:Nat) (o o1:Obj) (ho:ae oh id=some o) (hv:o.ver=ver) (h1:ae oh1 id=some o1) (hv1:o1.ver=ver1):mO oh oh1 (.own id ver off len) (.own id ver1 off len)
 |ref (id ver ver1 i foff:Nat) (o o1:Obj) (ho:ae oh id=some o) (hv:o.ver=ver) (h1:ae oh1 id=some o1) (hv1:o1.ver=ver1):mO oh oh1 (.ref id ver i foff) (.ref id ver1 i foff)
 |wr (w:Wr) (id ver ver1 i foff:Nat) (o o1:Obj) (ho:ae oh id=some o) (hv:o.ver=ver) (h1:ae oh1 id=some o1) (hv1:o1.ver=ver1):mO oh oh1 (.wr w id ver i foff) (.wr w id ver1 i foff)
def vB (oh oh1:OH)(v v1:V):Prop:=
 match v1 with
 |.agg l1=>(match v with | .agg l=>l.length=l1.length/\∀(j:Nat) (a b:V),l[j]?=some a->l1[j]?=some b->mO oh oh1 a b | _=>False)
 |v1=>mO oh oh1 v v1
def Bm (oh oh1:OH):Prop:=∀i o1,ae oh1 i=some o1->∃o,ae oh i=some o/\o.live=true/\o1.live=true/\o1.sz=o.sz/\o1.el.length=o.el.length/\
  ∀(k:Nat) (e e1:V),o.el[k]?=some e->o1.el[k]?=some e1->vB oh oh1 e e1
section
variable {g : Gh} {oh oh1 : OH} {w : World}
theorem Em (hn:Bm oh oh1){v v1:V}(h:mO oh oh1 v v1){x:Value}(hx:bm g oh v x):bm g oh1 v1 x:=by
 cases h with
 |af v=>exact hx
 |ro f t=>exact hx
 |emp=>exact hx
 |own id ver ver1 off len o o1 ho hv h1 hv1=>
  obtain⟨o',ho',l0,l1,e2,e3,_⟩:=hn id o1 h1;rw [ho] at ho';obtain rfl:o=o':=by simpa using ho'
  obtain⟨x1,o2,ho2,_,hat⟩:=hx;rw [ho] at ho2;obtain rfl:o=o2:=by simpa using ho2
  obtain⟨ad,cap,p1,p2,p3,p4⟩:=hat hv l0;refine⟨x1,o1,h1,by omega,fun _ _=>⟨ad,cap,p1,p2,by omega,fun hcap=>?_⟩⟩;obtain⟨b,b1,b2,b3⟩:=p4 hcap;exact⟨b,b1,by rw [e2];exact b2,b3⟩
 |ref id ver ver1 i foff o o1 ho hv h1 hv1=>
  obtain⟨o',ho',l0,l1,e2,e3,_⟩:=hn id o1 h1;rw [ho] at ho';obtain rfl:o=o':=by simpa using ho'
  obtain⟨x1,o2,ho2,_,hat⟩:=hx;rw [ho] at ho2;obtain rfl:o=o2:=by simpa using ho2
  obtain⟨b,b1,b2⟩:=hat hv l0;exact⟨yj x1.1 h1 l1,o1,h1,by omega,fun _ _=>⟨b,b1,by rw [e2];exact b2⟩⟩
 |wr w id ver ver1 i foff o o1 ho hv h1 hv1=>
  obtain⟨o',ho',l0,l1,e2,e3,_⟩:=hn id o1 h1;rw [ho] at ho';obtain rfl:o=o':=by simpa using ho'
  obtain⟨y,⟨x1,o2,ho2,_,hat⟩,e9⟩:=hx;rw [ho] at ho2;obtain rfl:o=o2:=by simpa using ho2
  obtain⟨b,b1,b2⟩:=hat hv l0;exact⟨y,⟨yj x1.1 h1 l1,o1,h1,by omega,fun _ _=>⟨b,b1,by rw [e2];exact b2⟩⟩,e9⟩
theorem PY {v v1:V}(h:mO oh oh1 v v1):v.cells=[v]/\v1.cells=[v1]:=by cases h<;>exact⟨rfl,rfl⟩
theorem En (hn:Bm oh oh1){v v1:V}(h:vB oh oh1 v v1){x:Value}(hx:dd g oh v x):EA g oh1 v1 x:=by
 have one:∀v1,mO oh oh1 v v1->bm g oh1 v1 x:=by
  intro v1 hc;refine Em hn hc ?_;cases hc<;>exact hx
 cases v1 with
 |agg l1=>
  cases v with
  |agg l=>
   obtain⟨hl,hr⟩:=h;obtain⟨cs,rfl,hcl,hc⟩:=hx;refine⟨cs,rfl,by omega,fun j u c hu hcj=>?_⟩;have hj:j < l.length:=by rw [hl];exact(yK.1 hu).1
   obtain⟨r1,r2⟩:=hc j l[j] c (by simp [hj]) hcj;exact⟨Em hn (hr j l[j] u (by simp [hj]) hu) r1,r2⟩
  |_=>exact h.elim
 |undef=>cases h
 |ba l=>cases h
 |af q=>exact one _ h
 |ro f t=>exact one _ h
 |emp=>exact one _ h
 |own q1 q2 q3 q4=>exact one _ h
 |ref q1 q2 q3 q4=>exact one _ h
 |wr w q1 q2 q3 q4=>exact one _ h
theorem QW (hn:Bm oh oh1)(h:HR g oh w):HR g oh1 w/\∀b,cw g oh1 b->cw g oh b:=by
 refine⟨⟨⟨h.hG,h.hF,fun i o1 ho1 hl1=>?_,fun i j oi oj b hi hj hli hlj hmi hmj=>?_,jm.none fun i o1 ho1=>(hn i o1 ho1).choose_spec.2.2.1⟩,h.gl⟩,?_⟩
 ·obtain⟨o,ho,l0,l1,e2,e3,hels⟩:=hn i o1 ho1;obtain⟨h1,h2⟩:=h.obj i o ho l0;refine⟨fun hmn=>C8 (by rw [e3,h1 hmn];rfl),fun b hb=>?_⟩;obtain⟨arr,ty,hh,hg,hba⟩:=h2 b hb;refine⟨arr,ty,hh,hg,by rw [e2];exact hba.1,by rw [e3];exact hba.2.1,hba.2.2.1,fun k e' he=>?_⟩;have hk:k < o.el.length:=by rw [<- e3];exact(yK.1 he).1
  have hra:=hels k o.el[k] e' (by simp [hk]) he;obtain⟨q1,q2⟩:=hba.2.2.2 k o.el[k] (by simp [hk]);rw [e2]
  have key:e'.cells.length=o.el[k].cells.length/\∀(j:Nat) (a b:V),o.el[k].cells[j]?=some a->e'.cells[j]?=some b->mO oh oh1 a b:=by
   have one:∀e0 v1,mO oh oh1 e0 v1->v1.cells.length=e0.cells.length/\∀(j:Nat) (a b:V),e0.cells[j]?=some a->v1.cells[j]?=some b->mO oh oh1 a b:=by
    intro e0 v1 hc;obtain⟨z1,z2⟩:=PY hc;rw [z1,z2];refine⟨rfl,fun j a b ha hb=>?_⟩
    cases j with
    |zero=>
     simp at ha hb;subst ha;subst hb;exact hc
    |succ j=>simp at ha
   revert hra;generalize o.el[k]=e0;intro hra
   cases e' with
   |agg l1=>
    cases e0 with
    |agg l=>exact⟨hra.1.symm,hra.2⟩
    |_=>exact hra.elim
   |undef=>cases hra
   |ba l=>cases hra
   |af q=>exact one _ _ hra
   |ro f t=>exact one _ _ hra
   |emp=>exact one _ _ hra
   |own q1 q2 q3 q4=>exact one _ _ hra
   |ref q1 q2 q3 q4=>exact one _ _ hra
   |wr w q1 q2 q3 q4=>exact one _ _ hra
  refine⟨by rw [key.1];exact q1,fun j v hv=>?_⟩;have hj:j < o.el[k].cells.length:=by rw [<- key.1];exact(yK.1 hv).1
  obtain⟨c,c1,c2,c3⟩:=q2 j o.el[k].cells[j] (by simp [hj]);exact⟨c,c1,c2,Em hn (key.2 j _ v (by simp [hj]) hv) c3⟩
 ·obtain⟨o,ho,l0,_⟩:=hn i oi hi;obtain⟨o',ho',l0',_⟩:=hn j oj hj;exact h.inj i j o o' b ho ho' l0 l0' hmi hmj
 ·rintro b ⟨i,o1,ho1,hl1,hmi⟩;obtain⟨o,ho,l0,_⟩:=hn i o1 ho1;exact⟨i,o,ho,l0,hmi⟩
end
def Qp (np:Nat)(vs:List V)(s:St)(i:Nat)(o:Obj):Prop:=0 < o.sz/\(∃o2,ae s.oh i=some o2/\o2.ver=0/\o2.live=true/\o2.sz=o.sz)/\∃j u,j < np/\vs[j]?=some u/\aA s.env j=u/\Oz i u
def iR (P : Program) (fn : Func) (np : Nat) (pre : OH) (vs : List V) (post : OH) (r : V) (x : X) (s : St) : Prop :=
  (match x with | .exit _ => False | _ => True) /\
  ∃ (fz : Bool) (s1 : St), (match fz with | false => s1 = s | true => Lf s1 s) /\ (∀ i o o', ae pre i = some o -> ae (post ++ pre) i = some o' -> o'.ver = 0 -> Qp np vs s1 i o) /\ Bm s1.oh (post ++ pre) /\
  (match fn.results.toList with
   | [] => r = .ba []
   | [a] => ef P s1 a fun v => vB s1.oh (post ++ pre) v r
   | [a, b] => ef P s1 a fun v => ef P s1 b fun u => ∃ r1 r2, r = .ba [r1, r2] /\ vB s1.oh (post ++ pre) v r1 /\ vB s1.oh (post ++ pre) u r2
   | _ => False)
theorem rr {γ : Gm} {g : Gh} {w : World} {fn : Func} {oh1 : OH} {r : V} {s1 : St} {a : Act} (hn : Bm s1.oh oh1) (hr : Rel γ g s1 a w)
    (h : match fn.results.toList with
   | [] => r = .ba []
   | [a] => ef P s1 a fun v => vB s1.oh oh1 v r
   | [a, b] => ef P s1 a fun v => ef P s1 b fun u => ∃ r1 r2, r = .ba [r1, r2] /\ vB s1.oh oh1 v r1 /\ vB s1.oh oh1 u r2
   | _ => False) :
    ∃ v, (results fn a.tmps).run P w = .ok v w /\ dd g oh1 r v := by
  split at h
  · rename_i hres;have : fn.results = #[] := by rw [<- D8 (xs := fn.results), hres]
    subst h;exact ⟨.tuple #[], by rw [cW, this]; simp, #[], rfl, rfl, fun j v c hv => by simp at hv⟩
  · rename_i p hres;have : fn.results = #[p] := by rw [<- D8 (xs := fn.results), hres]
    obtain ⟨v, x, hk, hx, hrun⟩ := dP h hr;refine ⟨x, by rw [cW, this]; simp [hrun], ?_⟩;have := En hn hk hx
    cases r with
    | ba l => cases hk
    | _ => exact this
  · rename_i p q hres;have : fn.results = #[p, q] := by rw [<- D8 (xs := fn.results), hres]
    obtain ⟨v, x, h, hx, hrun⟩ := dP h hr;obtain ⟨u, y, ⟨t1, t2, rfl, h1, h2⟩, hy, hrun2⟩ := dP h hr;refine ⟨.tuple #[x, y], by rw [cW, this]; simp [hrun, hrun2], #[x, y], rfl, rfl, fun j v c hv hc => ?_⟩
    match j with
    | 0 => obtain rfl : t1 = v := by simpa using hv
           obtain rfl : x = c := by simpa using hc
           exact En hn h1 hx
    | 1 => obtain rfl : t2 = v := by simpa using hv
           obtain rfl : y = c := by simpa using hc
           exact En hn h2 hy
    | j + 2 => simp at hv
  · exact h.elim
theorem FD {fn:Func}{pre post:OH}{vs:List V}{r:V}{np:Nat}{γ:Gm}{g0 g':Gh}{s':St}{xx:X}{w w':World}{a':Act}{args:Array Value}(hnp:np<=vs.length)
  (hpre:∀i o,ae pre i=some o->o.ver=0/\o.live=true/\∀v ∈ o.el,v.cl pre) (hr0':HR g0 pre w) (hsz:args.size=vs.length) (hrd:∀(j:Nat) (u:V) (x:Value),vs[j]?=some u->args[j]?=some x->dd g0 pre u x)
  (hret:iR P fn np pre vs post r xx s') (hrel:Rel γ g' s' a' w') (hpar:∀j,j < np->a'.tmps.getD j Go.undef=args.getD j Go.undef) (hfr:Fr g0 pre w g' s'.oh w') :
  (∀id,xx≠.exit id)/\∃v,(results fn a'.tmps).run P w'=.ok v w'/\∃(x:Value) (g2:Gh),Ending.returned v=.returned x/\HR g2 (post ++ pre) w'/\dd g2 (post ++ pre) r x/\Fr g0 pre w g2 (post ++ pre) w'/\(∀i o,ae (post ++ pre) i=some o->o.live=true)/\
   (∀i o o',ae pre i=some o->ae (post ++ pre) i=some o'->o'.ver=0->o'.live=true->g2.m i=g0.m i/\g2.cp i=g0.cp i):=by
 obtain⟨hx,fz,s1,hfz,hpin,hbm,hres⟩:=hret
 obtain⟨g1,hrel1,hfr1⟩:∃g1,Rel γ g1 s1 a' w'/\Fr g0 pre w g1 s1.oh w':=by
  cases fz with
  |false=>obtain rfl:s1=s':=hfz;exact⟨g',hrel,hfr⟩
  |true=>obtain⟨h1,h2⟩:=hrel.lf hfz;exact⟨_,h1,hfr.trans h2⟩
 obtain⟨v,hv,hrv⟩:=rr hbm hrel1 hres;obtain⟨hhr,hown⟩:=QW hbm hrel1.hr;have hpl:∀i o,ae (post ++ pre) i=some o->o.live=true:=fun i o1 ho1=>(hbm i o1 ho1).choose_spec.2.2.1
 have hFr:Fr g0 pre w g1 (post ++ pre) w':=
  ⟨hfr1.os,hfr1.tape,hfr1.output,hfr1.size,hfr1.km,fun b hb=>hfr1.own b (hown b hb),hfr1.G,hfr1.F,hfr1.nG,hfr1.nF,hfr1.Gx,fun b hb=>absurd hb (sP.none hpl)⟩
 have hpins:∀i o o',ae pre i=some o->ae (post ++ pre) i=some o'->o'.ver=0->o'.live=true->g1.m i=g0.m i/\g1.cp i=g0.cp i:=by
  intro i o o' hi hi' hv0 hl;obtain⟨hsz0,⟨o2,ho2,hv2,hl2,hs2⟩,j,u,hjn,hj,hej,hp⟩:=hpin i o o' hi hi' hv0;obtain⟨hov,hol,_⟩:=hpre i o hi;have hlt:j < vs.length:=(yK.1 hj).1;have h1:=hrd j u _ hj (by rw [E3 (by omega:j < args.size)]);have h2:=hrel1.env j;rw [hej] at h2;have h3:=hpar j hjn;rw [h3,Pb,E3 (by omega:j < args.size)] at h2;have hm:=KT hp hi ho2 hov hv2 hol hl2 h1 h2;refine⟨hm,?_⟩;obtain⟨b,hb⟩:=So hp hi hov hol h1;obtain⟨_,q2⟩:=hr0'.obj i o hi hol;obtain⟨arr,ty,hh,_,hba⟩:=q2 b hb;obtain⟨_,q4⟩:=hrel1.hr.obj i o2 ho2 hl2;obtain⟨arr2,ty2,hh2,_,hba2⟩:=q4 b (by rw [hm];exact hb);obtain⟨arr3,hh3,hs3⟩:=hfr1.Gx b arr ty (0,0) hh;rw [hh2] at hh3;simp only [N9,Go.Obj.cells.injEq] at hh3;obtain⟨rfl,_,_⟩:=hh3;have e1:=hba.1;have e2:=hba2.1;rw [hs3,e1,hs2] at e2;exact(Nat.eq_of_mul_eq_mul_right hsz0 e2).symm
 exact⟨fun id e=>by subst e;exact hx,v,hv,v,g1,rfl,hhr,hrv,hFr,hpl,hpins⟩
def Ct (g:Gh)(pre post:OH)(r:V)(w:World)(e:Ending)(w':World):Prop:=
 ∃(x:Value) (g2:Gh),e=.returned x/\HR g2 (post ++ pre) w'/\dd g2 (post ++ pre) r x/\Fr g pre w g2 (post ++ pre) w'/\(∀i o,ae (post ++ pre) i=some o->o.live=true)/\
   (∀i o o',ae pre i=some o->ae (post ++ pre) i=some o'->o'.ver=0->o'.live=true->g2.m i=g.m i/\g2.cp i=g.cp i)
theorem zc {fn:Func}{g0:Gh}{pre:OH}{vs:List V}{w:World}{args:Array Value}(np:Nat)(hnp:np<=vs.length)(hlen:vs.length<=fn.ntmps)(hr0':HR g0 pre w)(hsz:args.size=vs.length)
  (hrd:∀(j:Nat) (u:V) (x:Value),vs[j]?=some u->args[j]?=some x->dd g0 pre u x) :
  Rel ⟨fun j=>if j < np then some (args.getD j Go.undef) else none,[]⟩ g0 ⟨fn.ntmps,dq 0 vs,pre⟩ { tmps:=args ++ Array.replicate (fn.ntmps - args.size) Go.undef,defers:=[] } w:=by
 have hget:∀j,j < args.size->(args ++ Array.replicate (fn.ntmps - args.size) Go.undef).getD j Go.undef=args.getD j Go.undef:=by
  intro j hj;rw [Pb,I0 hj,Pb]
 refine⟨hr0',rfl,by simp;omega,fun j=>?_,fun j v hv=>?_⟩
 ·rw [mJ vs 0 j (C0 _)];simp only [T6]
  cases hj:vs[j]? with
  |none=>trivial
  |some u=>
   have hlt:j < args.size:=by rw [hsz];exact(yK.1 hj).1
   simp only;rw [hget j hlt];refine hrd j u _ hj ?_;rw [Pb,E3 hlt];rfl
 ·dsimp only at hv;split at hv
  ·rename_i hj;rw [hget j A8];simpa using hv
  ·cases hv
theorem Sq {C:CT}(hC:∀q ts r,C q ts r->iE P q ts r)(hmix:P.follows .mixedOrders=true){fn:Func}{c:Code}{pre post:OH}{vs:List V}{r:V}(np:Nat)(hnp:np<=vs.length)
  (hok:okB fn.ntmps c=true) (hpar:fT np c=true) (hlen:vs.length<=fn.ntmps)
  (hpre:∀i o,ae pre i=some o->o.ver=0/\o.live=true/\∀v ∈ o.el,v.cl pre)
  (h:cK P C c ⟨fn.ntmps,dq 0 vs,pre⟩ (iR P fn np pre vs post r)) {g0:Gh} {w:World} {args:Array Value} (hr0':HR g0 pre w) (hsz:args.size=vs.length)
  (hrd:∀(j:Nat) (u:V) (x:Value),vs[j]?=some u->args[j]?=some x->dd g0 pre u x):c.wp P (bodyPost P fn (Ct g0 pre post r w)) { tmps:=args ++ Array.replicate (fn.ntmps - args.size) Go.undef,defers:=[] } w:=by
 refine wp_mono (oC (np:=np) hC hmix (fun d hd=>if_neg A8) c _ _ hok hpar h rfl g0 _ w (zc np hnp hlen hr0' hsz hrd)) fun e a' w' hp=>?_
 obtain⟨xx,s',g',rfl,hret,hrel,hfr,_⟩:=hp;obtain⟨hx,v,hv,hfin⟩:=FD hnp hpre hr0' hsz hrd hret hrel (fun j hj=>hrel.par j (args.getD j Go.undef) (if_pos hj)) hfr
 cases xx with
 |exit id=>exact absurd rfl (hx id)
 |normal=>exact⟨hrel.df,v,hv,hfin⟩
 |ret=>exact⟨hrel.df,v,hv,hfin⟩
theorem di {C:CT}(hC:∀q ts r,C q ts r->iE P q ts r)(hmix:P.follows .mixedOrders=true){q:FuncId}{fn:Func}{c:Code}{pre post:OH}{nw:List Nat}{vs:List V}{r:V}(np:Nat)(hnp:np<=vs.length)
  (hfn:P.funcs[q]?=some fn) (hname:(fn.name == "runtime.NumGoroutine")=false) (hbody:fn.body=some c) (hok:okB fn.ntmps c=true) (hpar:fT np c=true) (hlen:vs.length<=fn.ntmps)
  (hpre:∀i o,ae pre i=some o->o.ver=0/\o.live=true/\∀v ∈ o.el,v.cl pre) (hvs:∀v ∈ vs,v.cl pre) (hpost:∀i o,ae post i=some o->(ae pre i).isSome=true\/i ∈ nw)
  (hle:∀i o o',ae pre i=some o->ae (post ++ pre) i=some o'->o'.ver=0->o'.live=true->o'.sz=o.sz/\o.el.length<=o'.el.length)
  (h:cK P C c ⟨fn.ntmps,dq 0 vs,pre⟩ (iR P fn np pre vs post r)):jP P q pre nw vs post r:=
 ⟨⟨fn,hfn,hname,by simp [hbody]⟩,hpre,hvs,hpost,hle,fun g0 w args h1 h2 h3=>calls_of_wp hfn hbody (Sq hC hmix np hnp hok hpar hlen hpre h h1 h2 h3)⟩
def qR : List (Nat×Nat×Nat)->Nat->Nat
 | [],i=>i
 |(j,id,_) :: r,i=>if i=j then id else qR r i
def Ac : List (Nat×Nat×Nat)->Nat->Nat
 | [],_=>0
 |(j,_,v) :: r,i=>if i=j then v else Ac r i
theorem uM {C:CT}{q:FuncId}{args vs:List V}{oh pre post pre' post':OH}{nw nw':List Nat}{r r':V}{k:Acc->Prop}(L:List (Nat×Nat×Nat))(hc:C q [] (.gen pre nw vs post r))
  (e1:pN (qR L) (Ac L) pre=pre') (e2:nw.map (qR L)=nw') (e3:pN (qR L) (Ac L) post=post') (e4:r.rn (qR L) (Ac L)=r')
  (ha:args.map V.wk=vs.map (V.oI (qR L) (Ac L))) (hp:∀p ∈ pre',ae oh p.1=some p.2) (hn:∀i ∈ nw',ae oh i=none)
  (hi:∀i ∈ pre.map (·.1) ++ nw,∀j ∈ pre.map (·.1) ++ nw,qR L i=qR L j->i=j) (hk:k ⟨pre',nw',post',r'⟩):oH C q args oh k:=by
 subst e1 e2 e3 e4;exact⟨pre,nw,vs,post,r,_,_,hc,ha,fun p hp'=>hp _ (D4.2 ⟨p,hp',rfl⟩),fun i hi'=>hn _ (D4.2 ⟨i,hi',rfl⟩),hi,hk⟩
theorem Di {α:Type}{m vo:Nat->Nat}{F:α->V}(h:∀a,(F a).oI m vo=F a)(l:List α):(l.map F).map (V.oI m vo)=l.map F:=by
 rw [List.map_map];exact O2 fun a _=>h a
theorem gw {oh:OH}:∀p ∈ ([]:OH),ae oh p.1=some p.2:=fun _ h=>by simp at h
theorem jC {oh r:OH}{i:Nat}{o:Obj}(h:ae oh i=some o)(k:∀p ∈ r,ae oh p.1=some p.2):∀p ∈ (i,o) :: r,ae oh p.1=some p.2:=by
 intro p hp;rcases B5.1 hp with rfl|hp
 ·exact h
 ·exact k p hp
theorem im {oh:OH}:∀i ∈ ([]:List Nat),ae oh i=none:=fun _ h=>by simp at h
theorem dY {oh:OH}{i:Nat}{r:List Nat}(h:ae oh i=none)(k:∀i ∈ r,ae oh i=none):∀j ∈ i :: r,ae oh j=none:=by
 intro p hp;rcases B5.1 hp with rfl|hp
 ·exact h
 ·exact k p hp
theorem LI {m:Nat->Nat}{a:Nat}:∀i ∈ [a],∀j ∈ [a],m i=m j->i=j:=by
 intro i hi j hj _;rw [HQ.1 hi,HQ.1 hj]
theorem yR {m:Nat->Nat}{a b:Nat}(h:m a≠m b):∀i ∈ [a,b],∀j ∈ [a,b],m i=m j->i=j:=by
 intro i hi j hj e;simp only [B5,K3,S2] at hi hj;rcases hi with rfl|rfl<;>rcases hj with rfl|rfl
 ·rfl
 ·exact absurd e h
 ·exact absurd e.symm h
 ·rfl
theorem zg {C:CT}{q:FuncId}{args vs:List V}{oh pre post:OH}{nw:List Nat}{r:V}{k:Acc->Prop}{A B D:Prop}(L:List (Nat×Nat×Nat))(hc:C q [] (.gen pre nw vs post r))(pre':OH)(nw':List Nat)(post':OH)(r':V)(hk:k ⟨pre',nw',post',r'⟩)
  (e1:pN (qR L) (Ac L) pre=pre':=by rfl) (e2:nw.map (qR L)=nw':=by rfl) (e3:pN (qR L) (Ac L) post=post':=by rfl) (e4:r.rn (qR L) (Ac L)=r':=by rfl)
  (ha:args.map V.wk=vs.map (V.oI (qR L) (Ac L)):=by rfl) (hp:∀p ∈ pre',ae oh p.1=some p.2:=by first|exact gw|exact jC rfl gw|exact jC rfl (jC rfl gw)|exact jC rfl (jC rfl (jC rfl gw))|exact jC rfl (jC rfl (jC rfl (jC rfl gw)))) (hn:∀i ∈ nw',ae oh i=none:=by first|exact im|exact dY rfl im|exact dY rfl (dY rfl im)|exact dY rfl (dY rfl (dY rfl im)))
  (hi:∀i ∈ pre.map (·.1) ++ nw,∀j ∈ pre.map (·.1) ++ nw,qR L i=qR L j->i=j:=by first|exact LI|exact yR B3|exact yR (K5 (D3 rfl))|exact yR (R0 (D3 rfl))):A\/B\/oH C q args oh k\/D:=Or.inr (Or.inr (Or.inl (uM L hc e1 e2 e3 e4 ha hp hn hi hk)))
theorem yg {oh:OH}{id sz ver:Nat}{el:List V}(ho:ae oh id=some ⟨sz,el,ver,true⟩)(hs:∀e ∈ el,∃c,e=.af c):Ren oh [(0,⟨sz,el,0,true⟩)] (fun _=>id):=by
 refine⟨fun i j o1 o2 h1 h2 _=>?_,fun i o1 h1=>?_⟩
 ·by_cases e1:i=0
  ·by_cases e2:j=0
   ·omega
   ·rw [ah _ _ e2] at h2;cases h2
  ·rw [ah _ _ e1] at h1;cases h1
 ·by_cases e1:i=0
  ·subst e1;rw [an] at h1;obtain rfl:(⟨sz,el,0,true⟩:Obj)=o1:=by simpa using h1
   refine⟨_,ho,rfl,rfl,rfl,rfl,rfl,fun k e e1 he he1=>?_⟩;have he2:el[k]?=some e:=he;have he3:el[k]?=some e1:=he1;rw [he2] at he3;obtain rfl:e=e1:=by simpa using he3
   obtain⟨c,rfl⟩:=hs e (MH he2);exact fg.af c
  ·rw [ah _ _ e1] at h1;cases h1
theorem PV {oh oh1:OH}(h:∀i o1,ae oh1 i=some o1->o1.live=true/\(∃v,ae oh i=some ⟨o1.sz,o1.el,v,true⟩)/\∀e ∈ o1.el,∃c,e=.af c):Bm oh oh1:=by
 intro i o1 hi;obtain⟨hl,⟨v,ho⟩,hs⟩:=h i o1 hi;refine⟨_,ho,rfl,hl,rfl,rfl,fun k e e1 he he1=>?_⟩;have he2:o1.el[k]?=some e:=he;rw [he2] at he1;obtain rfl:e=e1:=by simpa using he1
 obtain⟨c,rfl⟩:=hs e (MH he2);exact mO.af c
theorem aR {i:Nat}{o o1:Obj}{id:Nat}(h:ae [(id,o)] i=some o1):i=id/\o1=o:=by
 by_cases e:i=id
 ·subst e;rw [an] at h;exact⟨rfl,by simpa using h.symm⟩
 ·rw [ah _ _ e] at h;cases h
def EE (p:Prop):Prop:=p
theorem EE.mk {p:Prop}(h:p):EE p:=h
theorem EE.out {p:Prop}(h:EE p):p:=h
end Go.Ev
