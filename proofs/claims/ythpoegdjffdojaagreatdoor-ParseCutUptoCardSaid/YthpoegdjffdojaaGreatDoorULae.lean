import Derived.Test.YthpoegdjffdojaaGreatDoorUEvM
set_option linter.all false
namespace Go.Ev
section
variable {P : Program} {γ : Gm} {g : Gh} {oh : OH} {w : World}
def RZ (tmps:Array Value):ResultVar->Sem Value
 |.tmp t=>pure (tmps.getD t Go.undef)
 |.cell p t=>do loadVar t (<- asAddr (tmps.getD p Go.undef))
theorem cW (fn:Func)(tmps:Array Value):results fn tmps=(do let vs <- fn.results.mapM (RZ tmps);pure (if h:vs.size=1 then vs[0] else .tuple vs)):=by
 unfold results
 congr 1
theorem dP {s:St}{a:Act}{rv:ResultVar}{K:V->Prop}(h:ef P s rv K)(hr:Rel γ g s a w) :
  ∃v x,K v/\dd g s.oh v x/\(RZ a.tmps rv).run P w=.ok x w:=by
 cases rv with
 |tmp t=>exact⟨_,_,h,hr.env t,rfl⟩
 |cell p t=>
  obtain⟨pre,v,hk,hp,hall⟩:=AH h;obtain⟨r,h1,h2⟩:=hall g s.oh w _ hr.hr (hr.env p) hp;refine⟨v,r,hk,h2,?_⟩;unfold Instr.loadAt Instr.sureAddr at h1;unfold RZ asAddr;split at h1
  ·rename_i ad had;simp only [had];simpa using h1
  ·simp at h1
theorem od {fn : Func} {f : Bool} {r : T} {xx : X} {s : St} {a : Act} {S : dS} (h : kz P fn f r xx s) (hr : Rel γ g s a w) (hS : nL g s.oh w f S) :
    ∃ v, (results fn a.tmps).run P w = .ok v w /\ gD S r v := by
  obtain ⟨_, h⟩ := h;split at h
  · rename_i hres;have : fn.results = #[] := by rw [<- D8 (xs := fn.results), hres]
    subst h;exact ⟨.tuple #[], by rw [cW, this]; simp, .ba [] #[] rfl (by simp) (by simp)⟩
  · rename_i p hres;have : fn.results = #[p] := by rw [<- D8 (xs := fn.results), hres]
    obtain ⟨v, x, hk, hx, hrun⟩ := dP h hr;refine ⟨x, ?_, (jh hr.hr hS hk hx).1⟩;rw [cW, this];simp [hrun]
  · rename_i p q hres;have : fn.results = #[p, q] := by rw [<- D8 (xs := fn.results), hres]
    obtain ⟨v, x, h, hx, hrun⟩ := dP h hr;obtain ⟨u, y, ⟨t1, t2, rfl, h1, h2⟩, hy, hrun2⟩ := dP h hr;obtain ⟨a1, b1⟩ := jh hr.hr hS h1 hx;obtain ⟨a2, b2⟩ := jh hr.hr hS h2 hy;refine ⟨.tuple #[x, y], ?_, .ba [t1, t2] #[x, y] rfl (fun j us => ?_) (fun j u c hu hc => ?_)⟩
    · rw [cW, this];simp [hrun, hrun2]
    · match j with
      | 0 => simpa using b1 us
      | 1 => simpa using b2 us
      | j + 2 => simp
    · match j with
      | 0 => obtain rfl : t1 = u := by simpa using hu
             obtain rfl : x = c := by simpa using hc
             exact a1
      | 1 => obtain rfl : t2 = u := by simpa using hu
             obtain rfl : y = c := by simpa using hc
             exact a2
      | j + 2 => simp at hu
  · rename_i p q q3 hres;have : fn.results = #[p, q, q3] := by rw [<- D8 (xs := fn.results), hres]
    obtain ⟨v, x, h, hx, hrun⟩ := dP h hr;obtain ⟨u, y, h, hy, hrun2⟩ := dP h hr;obtain ⟨u3, y3, ⟨t1, t2, t3, rfl, h1, h2, h3⟩, hy3, hrun3⟩ := dP h hr;obtain ⟨a1, b1⟩ := jh hr.hr hS h1 hx;obtain ⟨a2, b2⟩ := jh hr.hr hS h2 hy;obtain ⟨a3, b3⟩ := jh hr.hr hS h3 hy3;refine ⟨.tuple #[x, y, y3], ?_, .ba [t1, t2, t3] #[x, y, y3] rfl (fun j us => ?_) (fun j u c hu hc => ?_)⟩
    · rw [cW, this];simp [hrun, hrun2, hrun3]
    · match j with
      | 0 => simpa using b1 us
      | 1 => simpa using b2 us
      | 2 => simpa using b3 us
      | j + 3 => simp
    · match j with
      | 0 => obtain rfl : t1 = u := by simpa using hu
             obtain rfl : x = c := by simpa using hc
             exact a1
      | 1 => obtain rfl : t2 = u := by simpa using hu
             obtain rfl : y = c := by simpa using hc
             exact a2
      | 2 => obtain rfl : t3 = u := by simpa using hu
             obtain rfl : y3 = c := by simpa using hc
             exact a3
      | j + 3 => simp at hu
  · exact h.elim
theorem oG : ∀(ts:List T) (i t:Nat),aA (la i ts) t=(match ts[t - i]? with|some x=>if i<=t then V.FE false x else .undef|none=>.undef)
 | [],i,t=>by simp [la,aA]
 |x :: r,i,t=>by
  rw [la,dj];by_cases h:i=t
  ·subst h;simp
  ·rw [if_neg h,oG r (i+1) t];by_cases hlt:i < t
   ·have:t - i=(t - (i+1))+1:=by omega
    rw [this,S3]
    cases r[t - (i+1)]? with
    |none=>rfl
    |some y=>simp only [show i+1<=t by omega,show i<=t by omega,if_true]
   ·have e1:t - i=0:=by omega
    have e2:t - (i+1)=0:=by omega
    rw [e1,e2];have h3:¬i<=t:=by omega
    have h4:¬i+1<=t:=by omega
    cases r[0]?<;>simp [h3,h4]
theorem aw {C:CT}(hC:∀q ts r,C q ts r->iE P q ts r)(hmix:P.follows .mixedOrders=true){q:FuncId}{fn:Func}{c:Code}{ts:List T}{f:Bool}{r:T}
  (hfn:P.funcs[q]?=some fn) (hname:(fn.name == "runtime.NumGoroutine")=false) (hbody:fn.body=some c) (hok:okB fn.ntmps c=true) (hlen:ts.length<=fn.ntmps)
  (h:cK P C c ⟨fn.ntmps,la 0 ts,[]⟩ (kz P fn f r)):Ok P q ts f r:=by
 refine⟨⟨fn,hfn,hname,by simp [hbody]⟩,fun S w args hS hgl hargs=>?_⟩;obtain⟨hsz,hrd⟩:=hargs;let g0:Gh:=⟨S,fun _ _=>none,fun _=>none,fun _=>0⟩
 have hr0:Rel ⟨fun _=>none,[]⟩ g0 ⟨fn.ntmps,la 0 ts,[]⟩ { tmps:=args ++ Array.replicate (fn.ntmps - args.size) Go.undef,defers:=[] } w:=by
  refine⟨⟨⟨hS,by simp [g0],by simp [ae],by simp [ae],jm.none hJ⟩,hgl⟩,rfl,by simp;omega,fun t=>?_,fun t v h=>by cases h⟩;rw [oG]
  cases ht:ts[t - 0]? with
  |none=>trivial
  |some x=>
   simp only [C0,if_true];have ht':ts[t]?=some x:=ht;have hlt:t < args.size:=by rw [hsz];exact(yK.1 ht').1
   have hg:(args ++ Array.replicate (fn.ntmps - args.size) Go.undef).getD t Go.undef=args[t]:=by
    rw [Pb,I0 hlt];simp [hlt]
   show dd g0 [] (V.FE false x) ((args ++ Array.replicate (fn.ntmps - args.size) Go.undef).getD t Go.undef);rw [hg];exact uk (g:=g0) (f:=false) (hrd t x _ ht' (by simp [hlt]))
 refine calls_of_wp hfn hbody (wp_mono (oC (γ:=⟨fun _=>none,[]⟩) (np:=0) hC hmix (fun _ _=>rfl) c _ _ hok (dF c) h rfl g0 _ w hr0) fun e a' w' hp=>?_);obtain⟨xx,s',g',rfl,hret,hrel,hfr,_⟩:=hp;have hnone:∀b,¬cw g0 [] b:=by rintro b ⟨i,o,ho,_⟩;simp [ae] at ho
 let N:dS:=fun b o=>if w.heap.size<=b then w'.cell? ⟨b,o,none⟩ else none
 have hN:∀b o c,N b o=some c->w.heap.size<=b/\w'.cell? ⟨b,o,none⟩=some c:=by
  intro b o c hc;by_cases hb:w.heap.size<=b
  ·exact⟨hb,by simpa [N,hb] using hc⟩
  ·simp [N,hb] at hc
 have hF:∀b o c,g'.F b o=some c->N b o=some c:=by
  intro b o c hc;have hcell:=hrel.hr.hG b o c (hrel.hr.hF b o c hc);rcases hfr.nF b o c hc with h'|h'|h'
  ·simp [g0] at h'
  ·exact absurd h' (hnone b)
  ·simpa [N,h'] using hcell
 have hown:∀b,cw g' s'.oh b->∀o c,w'.cell? ⟨b,o,none⟩=some c->N b o=some c:=by
  intro b hb o c hc;rcases hfr.own b hb with h'|h'
  ·exact absurd h' (hnone b)
  ·simpa [N,h'] using hc
 have hSlt:∀b o c,S b o=some c->b < w.heap.size:=fun b o c hc=>cD (hS b o c hc)
 have hNun:∀b o c,N b o=some c->S.un N b o=some c:=by
  intro b o c hc;unfold dS.un
  cases hs:S b o with
  |none=>exact hc
  |some c'=>have:=hSlt b o c' hs;have:=(hN b o c hc).1;omega
 have hfin:nL g' s'.oh w' f (dS.pick f S N):=by
  cases f with
  |true=>exact⟨hF,by simp,hown⟩
  |false=>
   refine⟨fun b o c hc=>hNun _ _ _ (hF b o c hc),fun _ b o c hc=>?_,fun b hb o c hc=>hNun _ _ _ (hown b hb o c hc)⟩;rcases hfr.nG b o c hc with h'|h'|h'
   ·have h':S b o=some c:=h';show S.un N b o=some c;simp [dS.un,h']
   ·exact absurd h' (hnone b)
   ·exact hNun b o c (by simpa [N,h'] using hrel.hr.hG b o c hc)
 obtain⟨v,hv,hrv⟩:=od hret hrel hfin;have hbelow:RowKit.Below w.heap.size w w':=⟨hfr.os,hfr.tape,hfr.output,hfr.size,fun b hb=>hfr.km b hb (hnone b) (sP.none hJ)⟩
 cases xx with
 |exit id=>exact hret.1.elim
 |normal=>exact⟨hrel.df,v,hv,v,N,rfl,hbelow,hN,hrv⟩
 |ret=>exact⟨hrel.df,v,hv,v,N,rfl,hbelow,hN,hrv⟩
def Tw (P : Program) (fn : Func) (oh1 : OH) (r : V) (x : X) (s : St) : Prop :=
  (match x with | .exit _ => False | _ => True) /\
  ∃ (fz : Bool) (s1 : St) (m : Nat -> Nat), (match fz with | false => s1 = s | true => Lf s1 s) /\ Ren s1.oh oh1 m /\
  (match fn.results.toList with
   | [a] => ef P s1 a fun v => jN m s1.oh oh1 v r
   | [a, b] => ef P s1 a fun v => ef P s1 b fun u => ∃ r1 r2, r = .ba [r1, r2] /\ jN m s1.oh oh1 v r1 /\ jN m s1.oh oh1 u r2
   | [a, b, c] => ef P s1 a fun v => ef P s1 b fun u => ef P s1 c fun x => ∃ r1 r2 r3, r = .ba [r1, r2, r3] /\ jN m s1.oh oh1 v r1 /\ jN m s1.oh oh1 u r2 /\ jN m s1.oh oh1 x r3
   | _ => False)
theorem AX {fn : Func} {oh1 : OH} {r : V} {s1 : St} {m : Nat -> Nat} {a : Act} (hn : Ren s1.oh oh1 m) (hr : Rel γ g s1 a w)
    (h : match fn.results.toList with
   | [a] => ef P s1 a fun v => jN m s1.oh oh1 v r
   | [a, b] => ef P s1 a fun v => ef P s1 b fun u => ∃ r1 r2, r = .ba [r1, r2] /\ jN m s1.oh oh1 v r1 /\ jN m s1.oh oh1 u r2
   | [a, b, c] => ef P s1 a fun v => ef P s1 b fun u => ef P s1 c fun x => ∃ r1 r2 r3, r = .ba [r1, r2, r3] /\ jN m s1.oh oh1 v r1 /\ jN m s1.oh oh1 u r2 /\ jN m s1.oh oh1 x r3
   | _ => False) :
    ∃ v, (results fn a.tmps).run P w = .ok v w /\ dd (g.Ht oh1 m) oh1 r v := by
  split at h
  · rename_i p hres;have : fn.results = #[p] := by rw [<- D8 (xs := fn.results), hres]
    obtain ⟨v, x, hk, hx, hrun⟩ := dP h hr;refine ⟨x, by rw [cW, this]; simp [hrun], ?_⟩;have := kL hn hk hx
    cases r with
    | ba l => cases hk
    | _ => exact this
  · rename_i p q hres;have : fn.results = #[p, q] := by rw [<- D8 (xs := fn.results), hres]
    obtain ⟨v, x, h, hx, hrun⟩ := dP h hr;obtain ⟨u, y, ⟨t1, t2, rfl, h1, h2⟩, hy, hrun2⟩ := dP h hr;refine ⟨.tuple #[x, y], by rw [cW, this]; simp [hrun, hrun2], #[x, y], rfl, rfl, fun j v c hv hc => ?_⟩
    match j with
    | 0 => obtain rfl : t1 = v := by simpa using hv
           obtain rfl : x = c := by simpa using hc
           exact kL hn h1 hx
    | 1 => obtain rfl : t2 = v := by simpa using hv
           obtain rfl : y = c := by simpa using hc
           exact kL hn h2 hy
    | j + 2 => simp at hv
  · rename_i p q k hres;have : fn.results = #[p, q, k] := by rw [<- D8 (xs := fn.results), hres]
    obtain ⟨v, x, h, hx, hrun⟩ := dP h hr;obtain ⟨u, y, h, hy, hrun2⟩ := dP h hr;obtain ⟨u2, z, ⟨t1, t2, t3, rfl, h1, h2, h3⟩, hz, hrun3⟩ := dP h hr;refine ⟨.tuple #[x, y, z], by rw [cW, this]; simp [hrun, hrun2, hrun3], #[x, y, z], rfl, rfl, fun j v c hv hc => ?_⟩
    match j with
    | 0 => obtain rfl : t1 = v := by simpa using hv
           obtain rfl : x = c := by simpa using hc
           exact kL hn h1 hx
    | 1 => obtain rfl : t2 = v := by simpa using hv
           obtain rfl : y = c := by simpa using hc
           exact kL hn h2 hy
    | 2 => obtain rfl : t3 = v := by simpa using hv
           obtain rfl : z = c := by simpa using hc
           exact kL hn h3 hz
    | j + 3 => simp at hv
  · exact h.elim
theorem Mg {fn:Func}{ts:List T}{S:dS}{w:World}{args:Array Value}(hlen:ts.length<=fn.ntmps)(hS:∀b o c,S b o=some c->w.cell? ⟨b,o,none⟩=some c)(hgl:GL S)(hsz:args.size=ts.length)(hrd:∀(j:Nat) (t:T) (x:Value),ts[j]?=some t->args[j]?=some x->gD S t x) :
  Rel ⟨fun _=>none,[]⟩ (⟨S,fun _ _=>none,fun _=>none,fun _=>0⟩:Gh) ⟨fn.ntmps,la 0 ts,[]⟩ { tmps:=args ++ Array.replicate (fn.ntmps - args.size) Go.undef,defers:=[] } w:=by
 refine⟨⟨⟨hS,by simp,by simp [ae],by simp [ae],jm.none hJ⟩,hgl⟩,rfl,by simp;omega,fun t=>?_,fun t v h=>by cases h⟩;rw [oG]
 cases ht:ts[t - 0]? with
 |none=>trivial
 |some x=>
  simp only [C0,if_true];have ht':ts[t]?=some x:=ht;have hlt:t < args.size:=by rw [hsz];exact(yK.1 ht').1
  have hg:(args ++ Array.replicate (fn.ntmps - args.size) Go.undef).getD t Go.undef=args[t]:=by
   rw [Pb,I0 hlt];simp [hlt]
  show dd (⟨S,fun _ _=>none,fun _=>none,fun _=>0⟩:Gh) [] (V.FE false x) ((args ++ Array.replicate (fn.ntmps - args.size) Go.undef).getD t Go.undef);rw [hg];exact uk (g:=(⟨S,fun _ _=>none,fun _=>none,fun _=>0⟩:Gh)) (f:=false) (hrd t x _ ht' (by simp [hlt]))
theorem FC {γ:Gm}{fn:Func}{oh1:OH}{r:V}{S:dS}{xx:X}{s':St}{g':Gh}{a':Act}{w w':World}(hret:Tw P fn oh1 r xx s')(hrel:Rel γ g' s' a' w')(hfr:Fr (⟨S,fun _ _=>none,fun _=>none,fun _=>0⟩:Gh) [] w g' s'.oh w') :
  (∀id,xx≠.exit id)/\∃v,(results fn a'.tmps).run P w'=.ok v w'/\∃x gn,(Ending.returned v:Ending)=.returned x/\RowKit.Below w.heap.size w w'/\HR gn oh1 w'/\dd gn oh1 r x/\
   (∀b o c,gn.G b o=some c->S b o=some c\/w.heap.size<=b)/\(∀b o c,gn.F b o=some c->w.heap.size<=b)/\(∀b,cw gn oh1 b->w.heap.size<=b)/\(∀i o,ae oh1 i=some o->o.live=true):=by
 obtain⟨hx,fz,s1,m,hle,hn,hres⟩:=hret;have hnone:∀b,¬cw (⟨S,fun _ _=>none,fun _=>none,fun _=>0⟩:Gh) [] b:=by rintro b ⟨i,o,ho,_⟩;simp [ae] at ho
 have hbelow:RowKit.Below w.heap.size w w':=⟨hfr.os,hfr.tape,hfr.output,hfr.size,fun b hb=>hfr.km b hb (hnone b) (sP.none hJ)⟩
 obtain⟨g1,hrel1,hfr1⟩:∃g1,Rel γ g1 s1 a' w'/\Fr (⟨S,fun _ _=>none,fun _=>none,fun _=>0⟩:Gh) [] w g1 s1.oh w':=by
  cases fz with
  |false=>obtain rfl:s1=s':=hle;exact⟨g',hrel,hfr⟩
  |true=>obtain⟨h1,h2⟩:=hrel.lf hle;exact⟨_,h1,hfr.trans h2⟩
 obtain⟨v,hv,hrv⟩:=AX hn hrel1 hres;obtain⟨hhr,hown⟩:=Kv hn hrel1.hr;refine⟨fun id e=>by subst e;exact hx,v,hv,?_⟩
 have fin:∃x gn,(Ending.returned v:Ending)=.returned x/\RowKit.Below w.heap.size w w'/\HR gn oh1 w'/\dd gn oh1 r x/\
   (∀b o c,gn.G b o=some c->S b o=some c\/w.heap.size<=b)/\(∀b o c,gn.F b o=some c->w.heap.size<=b)/\(∀b,cw gn oh1 b->w.heap.size<=b)/\(∀i o,ae oh1 i=some o->o.live=true):=by
  refine⟨v,_,rfl,hbelow,hhr,hrv,fun b o c hc=>?_,fun b o c hc=>?_,fun b hb=>?_,fun i o1 ho1=>(hn.obj i o1 ho1).choose_spec.2.2.1⟩
  ·rcases hfr1.nG b o c hc with h'|h'|h'
   ·exact .inl h'
   ·exact absurd h' (hnone b)
   ·exact .inr h'
  ·rcases hfr1.nF b o c hc with h'|h'|h'
   ·simp at h'
   ·exact absurd h' (hnone b)
   ·exact h'
  ·rcases hfr1.own b (hown b hb) with h'|h'
   ·exact absurd h' (hnone b)
   ·exact h'
 exact fin
theorem kf {C:CT}(hC:∀q ts r,C q ts r->iE P q ts r)(hmix:P.follows .mixedOrders=true){q:FuncId}{fn:Func}{c:Code}{ts:List T}{oh1:OH}{r:V}
  (hfn:P.funcs[q]?=some fn) (hname:(fn.name == "runtime.NumGoroutine")=false) (hbody:fn.body=some c) (hok:okB fn.ntmps c=true) (hlen:ts.length<=fn.ntmps)
  (h:cK P C c ⟨fn.ntmps,la 0 ts,[]⟩ (Tw P fn oh1 r)):IG P q ts oh1 r:=by
 refine⟨⟨fn,hfn,hname,by simp [hbody]⟩,fun S w args hS hgl hargs=>?_⟩;obtain⟨hsz,hrd⟩:=hargs;refine calls_of_wp hfn hbody (wp_mono (oC (np:=0) hC hmix (fun _ _=>rfl) c _ _ hok (dF c) h rfl _ _ w (Mg hlen hS hgl hsz hrd)) fun e a' w' hp=>?_);obtain⟨xx,s',g',rfl,hret,hrel,hfr,_⟩:=hp;obtain⟨hx,v,hv,fin⟩:=FC hret hrel hfr
 cases xx with
 |exit id=>exact absurd rfl (hx id)
 |normal=>exact⟨hrel.df,v,hv,fin⟩
 |ret=>exact⟨hrel.df,v,hv,fin⟩
end
end Go.Ev
namespace Go.Ev
def force (v:V)(K:V->Prop):Prop:=
 match v with
 |.undef=>K .undef
 |.af x=>K (.af x)
 |.ro f t=>K (.ro f t)
 |.emp=>K .emp
 |.own a b c d=>K (.own a b c d)
 |.ref a b c d=>K (.ref a b c d)
 |.wr w a b c d=>K (.wr w a b c d)
 |.agg l=>K (.agg l)
 |.ba l=>K (.ba l)
theorem force_eq (v:V)(K:V->Prop):force v K=K v:=by cases v<;>rfl
def KH (post oh:OH)(K:OH->Prop):Prop:=
 match post with
 | []=>K oh
 | [(i,o)]=>K ((i,o) :: oh)
 |l=>K (l ++ oh)
theorem KG (post oh:OH)(K:OH->Prop):KH post oh K=K (post ++ oh):=by
 unfold KH;split<;>rfl
def UE (o:Oper)(v:V)(env:Env)(K:Env->Prop):Prop:=
 match o.dst with
 |some d=>K ((d,v) :: env)
 |none=>K env
def uo (o:Oper)(v:V)(post:OH)(env:Env)(oh:OH)(K:Env->OH->Prop):Prop:=
 force v fun v=>KH post oh fun oh'=>UE o v env fun env'=>K env' oh'
theorem Lh (o:Oper)(v:V)(post:OH)(n:Nat)(env:Env)(oh:OH)(K:St->Prop):uo o v post env oh (fun e h=>K ⟨n,e,h⟩)=K ((St.mk n env oh).app o v post):=by
 unfold uo;rw [force_eq,KG];unfold UE St.app;cases o.dst<;>rfl
def Cw (P : Program) (C : CT) (ops : Array Oper) : Nat -> List Oper -> Nat -> Env -> OH -> (St -> Prop) -> Prop
  | _, [], n, env, oh, K => K ⟨n, env, oh⟩
  | i, o :: r, n, env, oh, K =>
    (match o.guard with
     | none =>
      (match sA o with
       | some (t, x, w) => OT (tk P t) (rS env x) fun b => uo o (.af (.bool (b == w))) [] env oh fun e h => Cw P C ops (i + 1) r n e h K
       | none => step P C o (rS env) oh fun a =>
       (match fu r i with
        | true => hY a.v fun v => uo o v a.post env oh fun e h => Cw P C ops (i + 1) r n e h K
        | false => uo o a.v a.post env oh fun e h => Cw P C ops (i + 1) r n e h K))
     | some (j, want) =>
       (match cm ops env j with
        | .af (.bool b) => (match b == want with | true => step P C o (rS env) oh fun a => (match fu r i with | true => hY a.v fun v => uo o v a.post env oh fun e h => Cw P C ops (i + 1) r n e h K | false => uo o a.v a.post env oh fun e h => Cw P C ops (i + 1) r n e h K) | false => uo o (.ba []) [] env oh fun e h => Cw P C ops (i + 1) r n e h K)
        | .ba [] => uo o (.ba []) [] env oh fun e h => Cw P C ops (i + 1) r n e h K
        | _ => False))
theorem Ee (P:Program)(C:CT)(ops:Array Oper):∀(l:List Oper) (i n:Nat) (env:Env) (oh:OH) (K:St->Prop),Cw P C ops i l n env oh K=gK P C ops i l ⟨n,env,oh⟩ K
 | [],i,n,env,oh,K=>rfl
 |o :: r,i,n,env,oh,K=>by
  have ih:∀v post,(uo o v post env oh fun e h=>Cw P C ops (i+1) r n e h K)=gK P C ops (i+1) r ((St.mk n env oh).app o v post) K:=by
   intro v post;rw [<- Lh o v post n env oh (fun s=>gK P C ops (i+1) r s K)];simp only [Ee P C ops r]
  unfold Cw gK;simp only [ih];rfl
def uQ (P : Program) (C : CT) (ops : Array Oper) : Nat -> List Oper -> Nat -> Env -> OH -> List (Option Acc) -> (List (Option Acc) -> St -> Prop) -> Prop
  | _, [], n, env, oh, tr, K => K tr ⟨n, env, oh⟩
  | i, o :: r, n, env, oh, tr, K =>
    (match o.guard with
     | none => step P C o (rS env) oh fun a =>
       (match fu r i with
        | true => hY a.v fun v => uo o v a.post env oh fun e h => uQ P C ops (i + 1) r n e h (some { a with v := v } :: tr) K
        | false => uo o a.v a.post env oh fun e h => uQ P C ops (i + 1) r n e h (some a :: tr) K)
     | some (j, want) =>
       (match cm ops env j with
        | .af (.bool b) => (match b == want with | true => step P C o (rS env) oh fun a => (match fu r i with | true => hY a.v fun v => uo o v a.post env oh fun e h => uQ P C ops (i + 1) r n e h (some { a with v := v } :: tr) K | false => uo o a.v a.post env oh fun e h => uQ P C ops (i + 1) r n e h (some a :: tr) K) | false => uo o (.ba []) [] env oh fun e h => uQ P C ops (i + 1) r n e h (none :: tr) K)
        | .ba [] => uo o (.ba []) [] env oh fun e h => uQ P C ops (i + 1) r n e h (none :: tr) K
        | _ => False))
theorem Ge (P:Program)(C:CT)(ops:Array Oper):∀(l:List Oper) (i n:Nat) (env:Env) (oh:OH) (tr:List (Option Acc)) (K:List (Option Acc)->St->Prop),uQ P C ops i l n env oh tr K=Ef P C ops i l ⟨n,env,oh⟩ tr K
 | [],i,n,env,oh,tr,K=>rfl
 |o :: r,i,n,env,oh,tr,K=>by
  have ih:∀v post tr,(uo o v post env oh fun e h=>uQ P C ops (i+1) r n e h tr K)=Ef P C ops (i+1) r ((St.mk n env oh).app o v post) tr K:=by
   intro v post tr;rw [<- Lh o v post n env oh (fun s=>Ef P C ops (i+1) r s tr K)];simp only [Ge P C ops r]
  unfold uQ Ef;simp only [ih];rfl
section
variable {P : Program} {C : CT} {s : St} {Q : X -> St -> Prop}
theorem Ux {a b:Code}(h:cK P C a s (X.seq (fun s'=>cK P C b s' Q) Q)):cK P C (.seq a b) s Q:=Or.inl h
theorem dU {a b:Code}(σ:Type)(enc:σ->St)(I:σ->Prop)(h2:∀z,I z->cK P C b (enc z) Q)(h:∀R:St->Prop,(∀s' z,I z->Le (enc z) s'->R s')->cK P C a s (X.seq R Q)):cK P C (.seq a b) s Q:=
 Or.inr (h _ fun _ z hz hl=>⟨.le,enc z,hl,h2 z hz⟩)
theorem ld {a b:Code}(σ:Type)(enc:σ->St)(I:σ->Prop)(h2:∀z,I z->cK P C b (enc z) Q)(h:∀R:St->Prop,(∀s' z,I z->Lf (enc z) s'->R s')->cK P C a s (X.seq R Q)):cK P C (.seq a b) s Q:=
 Or.inr (h _ fun _ z hz hl=>⟨.lf,enc z,hl,h2 z hz⟩)
theorem UC {id:Nat}{ops:Array Oper}(h:∀K:St->Prop,(∀s',Q .normal s'->K s')->Cw P C ops 0 ops.toList s.n s.env s.oh K):cK P C (.region id ops false) s Q:=by
 have:=h _ (fun _ h=>h);rw [Ee] at this;exact this
theorem Vl {id:Nat}{ops:Array Oper}(h:∀K:List (Option Acc)->St->Prop,(∀tr s',uX ops tr=true->Q .normal s'->K tr s')->uQ P C ops 0 ops.toList s.n s.env s.oh [] K):cK P C (.region id ops true) s Q:=by
 have:=h (fun tr s'=>uX ops tr=true/\Q .normal s') (fun _ _ h1 h2=>⟨h1,h2⟩);rw [Ge] at this;exact this
def MV (v:V)(A B:Prop):Prop:=match v with|.af (.bool t)=>(t=true->A)/\(t=false->B)|_=>False
theorem Td {c:Operand}{a b:Code}(h:MV (rS s.env c) (cK P C a s Q) (cK P C b s Q)):cK P C (.cond c a b) s Q:=by
 unfold MV at h;exact h
theorem Tc {c:Operand}{a b:Code}(hc:rS s.env c=.af (.bool true))(h1:cK P C a s Q):cK P C (.cond c a b) s Q:=by
 simp only [cK,hc];exact⟨fun _=>h1,fun h=>Bool.noConfusion h⟩
theorem Te {c:Operand}{a b:Code}(hc:rS s.env c=.af (.bool false))(h1:cK P C b s Q):cK P C (.cond c a b) s Q:=by
 simp only [cK,hc];exact⟨fun h=>Bool.noConfusion h,fun _=>h1⟩
theorem aT {c:Code}(σ:Type)(enc:σ->St)(I:σ->Prop)(μ:σ->Nat)(ads:List (Nat×Nat×Nat))(z0:σ)(h0:pK s ads)(h1:I z0)(h2:Le (enc z0) (gL s ads))
  (h:∀z,I z->cK P C c (enc z) (X.seq (fun s'=>∃z',I z'/\μ z' < μ z/\Le (enc z') s') Q)):cK P C (.loop c) s Q:=
 ⟨.le,.le,σ,enc,I,μ,ads,z0,h0,h1,h2,h⟩
theorem uD {c:Code}(σ:Type)(enc:σ->St)(I:σ->Prop)(μ:σ->Nat)(z0:σ)(h1:I z0)(h2:Lf (enc z0) s)
  (h:∀z,I z->cK P C c (enc z) (X.seq (fun s'=>∃z',I z'/\μ z' < μ z/\Lf (enc z') s') Q)):cK P C (.loop c) s Q:=
 ⟨.lf,.lf,σ,enc,I,μ,[],z0,trivial,h1,h2,h⟩
theorem Uw {a b:Code}(σ:Type)(enc:σ->St)(I:σ->Prop)(h2:∀z,I z->cK P C b (enc z) Q)(h:∀R:St->Prop,(∀s' z,I z->Lr (enc z) s'->R s')->cK P C a s (X.seq R Q)):cK P C (.seq a b) s Q:=
 Or.inr (h _ fun _ z hz hl=>⟨.lr,enc z,hl,h2 z hz⟩)
end
theorem ab {oh:OH}{K:Nat->Prop}(h:K (lj oh)):fresh oh K:=⟨_,DI oh,h⟩
theorem aC {oh:OH}{K:Nat->Prop}(c:Nat)(h0:ae oh c=none)(h:K c):fresh oh K:=⟨c,h0,h⟩
theorem aa {oh on:OH}{K:Nat->Prop}(h:K (lj oh)):yZ oh on K:=
 ⟨lj oh,fun i hi=>by
  have hge:=JX hi
  cases hq:ae oh i with
  |none=>rfl
  |some o'=>have:=Bv hq;omega,h⟩
theorem X.Vu {id:Nat}{Q:X->St->Prop}{s:St}(h:Q .normal s):X.block id Q (.exit id) s:=by simp [X.block];exact h
theorem X.Vv {id j:Nat}{Q:X->St->Prop}{s:St}(hj:j≠id)(h:Q (.exit j) s):X.block id Q (.exit j) s:=by simp [X.block,hj];exact h
theorem Vt {n b m:Nat}(hb:b<=64)(h:n * 64<=m):n * b<=m:=G6 (H7 _ hb) h
theorem QU {n:Int}{b:Nat}{m:Int}(hb:b<=64)(h0:0<=n)(h:n * 64<=m):n * b<=m:=by
 have:n * (b:Int)<=n * 64:=Int.mul_le_mul_of_nonneg_left A8 h0;omega
theorem kr {oh:OH}{f f':Bool}{t t':T}(h:t=t')(hf:f=true->f'=true):gM oh f (.ro f' t) t':=by subst h;exact jF.ro f' t hf
theorem ay {oh:OH}{f:Bool}{t t':Value}(h:t=t'):gM oh f (.af t) (.af t'):=by subst h;exact jF.af t
theorem jK {oh:OH}{f:Bool}{t':T}(h:T.sl []=t'):gM oh f .emp t':=by subst h;exact jF.emp
def Rg (oh:OH)(f:Bool)(v:V)(t:T):Prop:=v.cells.length=t.cells.length/\∀(j:Nat) (v':V) (u:T),v.cells[j]?=some v'->t.cells[j]?=some u->jF oh f v' u
theorem gp {oh:OH}{f:Bool}(v:Value):Rg oh f (.af v) (.af v):=by
 refine⟨rfl,fun j v' u h1 h2=>?_⟩
 cases j with
 |zero=>simp [V.cells,T.cells] at h1 h2;subst h1;subst h2;exact .af v
 |succ j=>simp [V.cells] at h1
theorem gW {α:Type}{oh:OH}{f:Bool}{F:α->V}{G:α->T}{l:List α}{id ver off len:Nat}{o:Obj}{r:T}(ho:ae oh id=some o)(hv:o.ver=ver)(hl:o.live=true)
  (hn:l.length=len) (he:(o.el.drop off).take len=l.map F) (hFG:∀a ∈ l,Rg oh f (F a) (G a)) (hr:r=T.sl (l.map G)):gM oh f (.own id ver off len) r:=by
 subst hr
 have hel:∀(i:Nat) (e:V) (t:T),i < len->o.el[off+i]?=some e->(l.map G)[i]?=some t->Rg oh f e t:=by
  intro i e t hi h1 h2;have h3:((o.el.drop off).take len)[i]?=some e:=by rw [L7,if_pos hi,G0];exact h1
  rw [he,Zf] at h3;rw [Zf] at h2;obtain⟨a,ha,rfl⟩:=C1.1 h3;rw [ha] at h2;obtain rfl:G a=t:=by simpa using h2
  exact hFG a (MH ha)
 exact jF.own id ver off len o _ ho hv hl (by simpa using hn) (fun i e t hi h1 h2=>(hel i e t hi h1 h2).1.symm) (fun i e t j v u hi h1 h2 h3 h4=>(hel i e t hi h1 h2).2 j v u h3 h4)
theorem DZ {oh:OH}{v:V}{t:T}(h:gM oh false v t):TB oh [v] [t]:=by
 refine⟨rfl,fun j v' t' h1 h2=>?_⟩
 cases j with
 |zero=>simp at h1 h2;subst h1;subst h2;exact h
 |succ j=>simp at h1
theorem uC {oh:OH}{id:Nat}{o:Obj}(h:ae oh id=some o):∀p ∈ [(id,o)],ae oh p.1=some p.2:=by simpa using h
theorem xn {α:Type}{f:α->T}{l:List α}{n:Nat}(h:∀a,(f a).cells.length=n):Rj (l.map f) n:=by
 intro t ht;obtain⟨a,-,rfl⟩:=List.mem_map.mp ht;exact h a
theorem vi {α:Type}{f:α->V}{l:List α}{n:Nat}(h:∀a,(f a).cells.length=n):∀y ∈ l.map f,y.cells.length=n:=by
 intro t ht;obtain⟨a,-,rfl⟩:=List.mem_map.mp ht;exact h a
theorem MJ {e:V}{n:Nat}(h:e.cells.length=n):∀y ∈ [e],y.cells.length=n:=by
 intro y hy;obtain rfl:y=e:=by simpa using hy
 exact h
theorem xm {α β:Type}{f:α->β}{g:β->V}{l:List α}{n:Nat}(h:∀a,(g (f a)).cells.length=n):∀y ∈ (l.map f).map g,y.cells.length=n:=by
 rw [List.map_map];exact vi h
theorem Xe {β:Type}{f:UInt32->β}{l:List UInt32}{i:Nat}{Q:β->Prop}(h:i < l.length)(k:(l.getD i default).toNat < 4294967296->Q (f (l.getD i default))):∃t,(l.map f)[i]?=some t/\Q t:=by
 refine⟨f (l.getD i default),?_,k (E6 _)⟩;rw [Zf,uz h];simp [List.getD,uz h]
theorem UN {a b:Int}{Q:Int->Prop}(ha:0<=a)(ha':a < 4294967296)(hb:0<=b)(hb':b < 4294967296)(k:0<=a * b->a * b<=18446744065119617025->Q (a * b)):∃r,r=IntKind.u64.wrap (a * b)/\Q r:=by
 have h1:0<=a * b:=Int.mul_nonneg ha hb;have h2:a * b<=4294967295 * 4294967295:=Int.mul_le_mul A8 A8 hb A8;refine⟨a * b,?_,k h1 A8⟩;simp [IntKind.wrap,IntKind.bits,IntKind.signed];omega
theorem wrap32 {t:Int}(h:0<=t):IntKind.u32.wrap t=((UInt32.ofNat t.toNat).toNat:Nat):=by
 simp [IntKind.wrap,IntKind.bits,IntKind.signed];omega
theorem Tk {α β:Type}[Inhabited α]{f:α->β}{l:List α}{i:Nat}(h:i < l.length):(l.map f)[i]?=some (f (l.getD i default)):=by
 rw [Zf,uz h];simp [List.getD,uz h]
end Go.Ev
