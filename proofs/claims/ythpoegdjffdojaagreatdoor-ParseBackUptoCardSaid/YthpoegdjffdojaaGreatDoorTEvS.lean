import Derived.Test.YthpoegdjffdojaaGreatDoorTEvI
set_option linter.all false
namespace Go.Ev
section
variable {g : Gh} {oh : OH} {w : World}
def qw (w:World)(r:Nat)(o:Go.Obj):World:={ w with heap:=w.heap.setIfInBounds r o }
theorem Hy {w:World}{r:Nat}{o:Go.Obj}(h:r < w.heap.size):(qw w r o).heap[r]?=some o:=by simp [qw,h]
theorem Dp {w:World}{r k:Nat}{o:Go.Obj}(h:k≠r):(qw w r o).heap[k]?=w.heap[k]?:=by simp [qw,Array.getElem?_setIfInBounds_ne (Ne.symm h)]
theorem Hx {w:World}{r:Nat}{o:Go.Obj}:(qw w r o).heap.size=w.heap.size:=by simp [qw]
theorem HR.Sk (h:HR g oh w)(c:Nat)(hn:ae oh c=none) :
  HR (g.at c w.heap.size 0) ((c,⟨0,[],0,false⟩) :: oh) (w.alloc (.map #[] 0))∧cx g oh (g.at c w.heap.size 0) ((c,⟨0,[],0,false⟩) :: oh)∧
  Fr g oh w (g.at c w.heap.size 0) ((c,⟨0,[],0,false⟩) :: oh) (w.alloc (.map #[] 0)):=by
 have ne:∀{i o},ae oh i=some o→i≠c:=fun ho e=>by rw [e,hn] at ho;cases ho
 have em:∀{i},i≠c→(g.at c w.heap.size 0).m i=g.m i:=fun e=>by simp [Gh.at,e]
 have ec:∀{i},i≠c→(g.at c w.heap.size 0).cp i=g.cp i:=fun e=>by simp [Gh.at,e]
 have hm:cx g oh (g.at c w.heap.size 0) ((c,⟨0,[],0,false⟩) :: oh):=by
  refine bm.lift (fun _ _ _ h=>h) (fun _ _ _ h=>h) fun id o ho=>?_
  have e:=ne ho;exact⟨o,(ah _ _ e).trans ho,Nat.le_refl _,fun h=>⟨h,em e⟩,fun _ hl=>⟨hl,rfl,Nat.le_refl _,em e,ec e⟩⟩
 have hGlt:∀b o c,g.G b o=some c→b < w.heap.size:=fun b o c hc=>cD (h.hG b o c hc)
 have live:∀{i o},ae ((c,(⟨0,[],0,false⟩:Obj)) :: oh) i=some o→o.live=true→i≠c∧ae oh i=some o:=by
  intro i o ho hl
  have e:i≠c:=fun e=>by
   subst e;rw [an] at ho;obtain rfl:(⟨0,[],0,false⟩:Obj)=o:=by simpa using ho
   cases hl
  exact⟨e,by rwa [ah _ _ e] at ho⟩
 refine⟨⟨⟨?_,h.hF,?_,?_,⟨?_,?_⟩⟩,h.gl⟩,hm,⟨rfl,rfl,rfl,by show _≤(w.heap.push _).size;simp,?_,?_,fun _ _ _ h=>h,fun _ _ _ h=>h,fun _ _ _ h=>.inl h,fun _ _ _ h=>.inl h,fun b arr ty fz h=>⟨arr,(heap_alloc_old w _ b (bh h)).trans h,rfl⟩,?_⟩⟩
 ·intro b o c' hc;have:=h.hG b o c' hc;rw [cell_of_heap (heap_alloc_old w _ b (hGlt _ _ _ hc))];exact this
 ·intro i o ho hol;obtain⟨e,ho⟩:=live ho hol;obtain⟨h1,h2⟩:=h.obj i o ho hol;rw [vu,em e,ec e];refine⟨h1,fun b hbm=>?_⟩;obtain⟨arr',ty',hh,hg,hbl⟩:=h2 b hbm;exact⟨arr',ty',by rw [heap_alloc_old w _ b (bh hh)];exact hh,hg,hbl.mono hm⟩
 ·intro i j oi oj b hi hj hli hlj hmi hmj;obtain⟨ei,hi⟩:=live hi hli;obtain⟨ej,hj⟩:=live hj hlj;rw [em ei] at hmi;rw [em ej] at hmj;exact h.inj i j oi oj b hi hj hli hlj hmi hmj
 ·intro i o ho hmp;by_cases e:i=c
  ·subst e;rw [an] at ho;obtain rfl:(⟨0,[],0,false⟩:Obj)=o:=by simpa using ho
   exact⟨w.heap.size,#[],0,by simp [Gh.at],heap_alloc_new w _,rfl,fun j e v he=>by simp at he⟩
  ·rw [ah _ _ e] at ho;obtain⟨b,es,clock,h1,h2,h3⟩:=h.mp.at_ i o ho hmp;exact⟨b,es,clock,(em e).trans h1,by rw [heap_alloc_old w _ b (bh h2)];exact h2,h3⟩
 ·intro i j oi oj b hi hj mi mj hmi hmj
  have vI:∀{i o},ae ((c,(⟨0,[],0,false⟩:Obj)) :: oh) i=some o→jg o→i≠c→∀{b},(g.at c w.heap.size 0).m i=some b→b < w.heap.size:=by
   intro i o ho hmp e b hb;rw [ah _ _ e] at ho;rw [em e] at hb;exact h.mp.lt ⟨i,o,ho,hmp,hb⟩
  by_cases ei:i=c<;>by_cases ej:j=c
  ·omega
  ·have:=vI hj mj ej hmj;have e1:w.heap.size=b:=by simpa [Gh.at,ei] using hmi
   omega
  ·have:=vI hi mi ei hmi;have e1:w.heap.size=b:=by simpa [Gh.at,ej] using hmj
   omega
  ·rw [ah _ _ ei] at hi;rw [ah _ _ ej] at hj;rw [em ei] at hmi;rw [em ej] at hmj;exact h.mp.inj i j oi oj b hi hj mi mj hmi hmj
 ·intro b hlt hn _;exact heap_alloc_old w _ b hlt
 ·rintro b ⟨i,o,ho,hol,hmi⟩;obtain⟨e,ho⟩:=live ho hol;exact .inl ⟨i,o,ho,hol,(em e).symm.trans hmi⟩
 ·rintro b ⟨i,o,ho,hmp,hmi⟩;by_cases e:i=c
  ·right;have:w.heap.size=b:=by simpa [Gh.at,e] using hmi
   omega
  ·left;rw [ah _ _ e] at ho;exact⟨i,o,ho,hmp,(em e).symm.trans hmi⟩
theorem HR.IX (h:HR g oh w)(c b:Nat)(o ob:Obj)(es es':Array MapEntry)(clock clock':Nat)(ho:ae oh c=some o)(hmp:jg o)(hmc:g.m c=some b)
  (hh:w.heap[b]?=some (.map es clock)) (hmo:jg ob) (hver:o.ver≤ob.ver) (hsz:es'.size=ob.el.length) (hel:∀(j:Nat) (e:MapEntry) (v:V),es'[j]?=some e→ob.el[j]?=some v→v=.agg [.af e.key,.af e.val]) :
  HR g ((c,ob) :: oh) (qw w b (.map es' clock'))∧cx g oh g ((c,ob) :: oh)∧Fr g oh w g ((c,ob) :: oh) (qw w b (.map es' clock')):=by
 have hm:cx g oh g ((c,ob) :: oh):=by
  refine bm.lift (fun _ _ _ h=>h) (fun _ _ _ h=>h) fun id o' ho'=>?_
  by_cases e:id=c
  ·subst e;rw [ho] at ho';obtain rfl:o=o':=by simpa using ho'
   exact⟨ob,an _ _ _,hver,fun _=>⟨hmp,rfl⟩,fun _ hl=>by rw [hmo.1] at hl;cases hl⟩
  ·exact⟨o',(ah _ _ e).trans ho',Nat.le_refl _,fun h=>⟨h,rfl⟩,fun _ hl=>⟨hl,rfl,Nat.le_refl _,rfl,rfl⟩⟩
 have hother:∀k,k≠b→(qw w b (.map es' clock')).heap[k]?=w.heap[k]?:=fun k hk=>Dp hk
 have live:∀{i o'},ae ((c,ob) :: oh) i=some o'→o'.live=true→i≠c∧ae oh i=some o':=by
  intro i o' ho' hl
  have e:i≠c:=fun e=>by
   subst e;rw [an] at ho';obtain rfl:ob=o':=by simpa using ho'
   rw [hmo.1] at hl;cases hl
  exact⟨e,by rwa [ah _ _ e] at ho'⟩
 have mpo:∀{i o'},ae ((c,ob) :: oh) i=some o'→jg o'→∃o2,ae oh i=some o2∧jg o2:=by
  intro i o' ho' hmp';by_cases e:i=c
  ·subst e;exact⟨o,ho,hmp⟩
  ·rw [ah _ _ e] at ho';exact⟨o',ho',hmp'⟩
 refine⟨⟨⟨?_,h.hF,?_,?_,⟨?_,?_⟩⟩,h.gl⟩,hm,⟨rfl,rfl,rfl,by rw [Hx];exact Nat.le_refl _,?_,?_,fun _ _ _ h=>h,fun _ _ _ h=>h,fun _ _ _ h=>.inl h,fun _ _ _ h=>.inl h,?_,?_⟩⟩
 ·intro b' off c' hc;have h0:=h.hG b' off c' hc;have hne:b'≠b:=fun e=>by rw [e] at h0;simp [World.cell?,hh] at h0
  rw [cell_of_heap (hother b' hne)];exact h0
 ·intro i o' ho' hol';obtain⟨e,ho'⟩:=live ho' hol';obtain⟨h1,h2⟩:=h.obj i o' ho' hol';refine⟨h1,fun b' hb'=>?_⟩;obtain⟨arr',ty',hh',hg,hbl⟩:=h2 b' hb';have hne:b'≠b:=fun e'=>by rw [e',hh] at hh';cases hh'
  exact⟨arr',ty',by rw [hother b' hne];exact hh',hg,hbl.mono hm⟩
 ·intro i j oi oj b' hi hj hli hlj hmi hmj;exact h.inj i j oi oj b' (live hi hli).2 (live hj hlj).2 hli hlj hmi hmj
 ·intro i o' ho' hmp';by_cases e:i=c
  ·subst e;rw [an] at ho';obtain rfl:ob=o':=by simpa using ho'
   exact⟨b,es',clock',hmc,Hy (bh hh),hsz,hel⟩
  ·rw [ah _ _ e] at ho';obtain⟨b',es2,clock2,h1,h2,h3⟩:=h.mp.at_ i o' ho' hmp';have hne:b'≠b:=fun e'=>e (h.mp.inj i c o' o b ho' ho hmp' hmp (e'▸h1) hmc)
   exact⟨b',es2,clock2,h1,(hother b' hne).trans h2,h3⟩
 ·intro i j oi oj b' hi hj mi mj hmi hmj;obtain⟨o1,q1,q2⟩:=mpo hi mi;obtain⟨o2,q3,q4⟩:=mpo hj mj;exact h.mp.inj i j o1 o2 b' q1 q3 q2 q4 hmi hmj
 ·intro b' hlt _ hn;exact hother b' fun e=>hn (e▸⟨c,o,ho,hmp,hmc⟩)
 ·rintro b' ⟨i,o',ho',hol',hmi⟩;exact .inl ⟨i,o',(live ho' hol').2,hol',hmi⟩
 ·intro b' arr' ty' fz hh';have hne:b'≠b:=fun e'=>by rw [e',hh] at hh';cases hh'
  exact⟨arr',(hother b' hne).trans hh',rfl⟩
 ·rintro b' ⟨i,o',ho',hmp',hmi⟩;obtain⟨o2,q1,q2⟩:=mpo ho' hmp';exact .inl ⟨i,o2,q1,q2,hmi⟩
end
section
variable {P : Program}
theorem qP {a:Value}(h:yI none a=true):∃s,a=.string s:=by
 cases a<;>first|exact⟨_,rfl⟩|cases h
theorem qO {k:IntKind}{a:Value}(h:yI (some k) a=true):∃n,a=.int k n:=by
 cases a with
 |int k' n=>obtain rfl:k=k':=of_decide_eq_true h;exact⟨n,rfl⟩
 |_=>cases h
theorem MH (s t:ByteArray):(s == t)=true↔s=t:=by
 have h:(s == t)=(s.data == t.data):=rfl;rw [h,beq_iff_eq];exact⟨fun e=>by cases s;cases t;congr,fun e=>by rw [e]⟩
theorem HQ {kk:Option IntKind}{a b:Value}(ha:yI kk a=true)(hb:yI kk b=true) :
  Instr.sameNow (uJ kk) a b=some (mkEq a b)∧(mkEq a b=true→a=b):=by
 cases kk with
 |none=>
  obtain⟨s,rfl⟩:=qP ha;obtain⟨s2,rfl⟩:=qP hb;exact⟨rfl,fun h=>by simp only [mkEq] at h;rw [(MH s s2).1 h]⟩
 |some k=>
  obtain⟨s,rfl⟩:=qO ha;obtain⟨s2,rfl⟩:=qO hb;exact⟨by simp [Instr.sameNow,mkEq,uJ],fun h=>by simp only [mkEq] at h;rw [eq_of_beq h]⟩
theorem wU {kk:Option IntKind}{q:TypeId}{a:Value}(ha:yI kk a=true)(hq:P.underlying q=some (uJ kk)) :
  (∀n,Instr.sameBits n a a=true)∧(∀w b n,(Instr.checkKey b (n+1) q a).run P w=.ok () w):=by
 cases kk with
 |none=>
  obtain⟨s,rfl⟩:=qP ha;exact⟨fun n=>by cases n<;>simp [Instr.sameBits,MH],fun w b n=>by simp [Instr.checkKey,run_underlying hq,uJ]⟩
 |some k=>
  obtain⟨s,rfl⟩:=qO ha;exact⟨fun n=>by cases n<;>simp [Instr.sameBits],fun w b n=>by simp [Instr.checkKey,run_underlying hq,uJ]⟩
theorem uz {kk:Option IntKind}{key:Value}(hk:yI kk key=true):∀(es:List MapEntry) (el:List V) (i:Nat),es.length=el.length→(∀v ∈ el,Pb kk v)→
  (∀(j:Nat) (e:MapEntry) (v:V),es[j]?=some e→el[j]?=some v→v=.agg [.af e.key,.af e.val])→
  Instr.findNow (uJ kk) key es i=some ((ll key el).map fun p=>(i+p.1,p.2))∧
  ∀j x,ll key el=some (j,x)→∃e,es[j]?=some e∧e.key=key∧e.val=x
 | [],[],i,_,_,_=>⟨rfl,fun j x h=>by cases h⟩
 |e :: es,v :: el,i,hl,hm,hr=>by
  obtain rfl:=hr 0 e v rfl rfl;obtain⟨q,x,hq,hq2,_⟩:=hm _ (List.mem_cons_self ..);have hq':q=e.key:=by simp at hq;exact hq.1.symm
  subst hq';obtain⟨s1,s2⟩:=HQ hk hq2;obtain⟨i1,i2⟩:=uz hk es el (i+1) (by simpa using hl) (fun v hv=>hm v (List.mem_cons_of_mem _ hv)) (fun j e' v' h1 h2=>hr (j+1) e' v' (by simpa using h1) (by simpa using h2));unfold Instr.findNow ll;rw [s1]
  cases hb:mkEq key e.key with
  |true=>
   refine⟨rfl,fun j x h=>?_⟩;simp only [cond_true,Option.some.injEq,Prod.mk.injEq] at h;obtain⟨rfl,rfl⟩:=h;exact⟨e,rfl,(s2 hb).symm,rfl⟩
  |false=>
   simp only [cond_false];refine⟨?_,fun j x h=>?_⟩
   ·rw [i1]
    cases ll key el with
    |none=>rfl
    |some p=>simp;omega
   ·obtain⟨p,hp,hp2⟩:=Option.map_eq_some_iff.1 h;simp only [Prod.mk.injEq] at hp2;obtain⟨rfl,rfl⟩:=hp2;obtain⟨e',q1,q2,q3⟩:=i2 p.1 p.2 hp;exact⟨e',by simpa using q1,q2,q3⟩
 | [],_ :: _,_,h,_,_=>by simp at h
 |_ :: _,[],_,h,_,_=>by simp at h
theorem run_findKey {k:TypeId}{d:TypeDesc}{key:Value}{es:List MapEntry}{r:Option (Nat×Value)}(w:World)(hu:P.underlying k=some d)(h:Instr.findNow d key es 0=some r):(Instr.findKey k key es).run P w=.ok r w:=by
 simp [Instr.findKey,run_underlying hu,h]
theorem kK {w:World}{b:Nat}{es:Array MapEntry}{clock:Nat}(h:w.heap[b]?=some (.map es clock)):(getObj b).run P w=.ok (.map es clock) w:=by
 simp [getObj,Sem.run,h]
theorem FK {g:Gh}{oh:OH}{w:World}{id ver i0 f0:Nat}{o:Obj}{x:Value}(hr:HR g oh w)(hx:dd g oh (.ref id ver i0 f0) x)(ho:ae oh id=some o)(hl:o.live=false)(hs:o.sz=0) :
  ∃b es clock,g.m id=some b∧x=.map (some b)∧w.heap[b]?=some (.map es clock)∧es.toList.length=o.el.length∧∀(j:Nat) (e:MapEntry) (v:V),es.toList[j]?=some e→o.el[j]?=some v→v=.agg [.af e.key,.af e.val]:=by
 obtain⟨⟨_,h2⟩,_⟩:=hx;obtain⟨b,hb,rfl⟩:=h2 o ho ⟨hl,hs⟩;obtain⟨b',es,clock,q1,q2,q3,q4⟩:=hr.mp.at_ id o ho ⟨hl,hs⟩;rw [hb] at q1;obtain rfl:b=b':=by simpa using q1
 exact⟨b,es,clock,hb,rfl,q2,by simpa using q3,fun j e v he hv=>q4 j e v (by simpa using he) hv⟩
theorem CM {o:Oper}{t:TypeId}{r:Option Operand}{e:Operand→V}{oh:OH}{k:Acc→Prop}(ho:o.op=.makeMap t r)(h:CX (tk P t) oh (r.map e) k):dt P o e oh k:=by
 have key:(∀(g:Gh) (oh:OH) (w:World) (ρ:Operand→Value),(∀z,z ∈ o.op.operands→dd g oh (e z) (ρ z))→(execOp ρ o).run P w=.ok (.value (.map (some w.heap.size))) (w.alloc (.map #[] 0)))→
   (fresh oh fun c=>k ⟨[],[c],[(c,⟨0,[],0,false⟩)],.ref c 0 0 0⟩)→dt P o e oh k:=by
  rintro hrun ⟨c,hfr,hk⟩;refine⟨_,?_,by simp,by simpa using hfr,hk⟩;intro g oh' w ρ hr hρ _ hn;rw [hrun g oh' w ρ hρ];obtain⟨p1,p2,p3⟩:=hr.Sk c (hn c (by simp));refine⟨_,p1,⟨⟨rfl,fun q hq hm=>⟨w.heap.size,by simp [Gh.at],rfl⟩⟩,_,an _ _ _,Nat.le_refl _,fun _ hl=>by cases hl⟩,p2,p3⟩
 unfold CX at h;split at h
 ·rename_i kk z hd hr;obtain rfl:r=none:=by cases r<;>first|rfl|cases hr
  refine key (fun g oh w ρ hρ=>?_) h;simp only [execOp,ho];exact bk _ w _ _ rfl
 ·rename_i kk z q n hd hr;obtain⟨y,rfl,hy⟩:=Option.map_eq_some_iff.1 hr;obtain⟨q,e',i,hu,_⟩:=xI hd;refine key (fun g oh w ρ hρ=>?_) h;have hρy:=hρ y (by simp [ho,Op.operands]);rw [hy] at hρy;simp only [execOp,ho];refine bk _ w _ _ ?_;simp [Instr.makeMap,run_underlying hu,hρy.1,asInt,asIntOf,newObj,Sem.run]
 ·exact h.elim
theorem AE {o:Oper}{t:TypeId}{x i:Operand}{ok:Bool}{e:Operand→V}{oh:OH}{k:Acc→Prop}(ho:o.op=.lookup t x i ok)(h:xS (tk P t) oh (e x) (e i) ok k):dt P o e oh k:=by
 unfold xS at h;split at h
 ·rename_i kk z id ver i0 f0 key hd hvx hvi;obtain⟨q,el,inf,hu,hi,hz,_,hz1,hq⟩:=xI hd;split at h
  ·rename_i ob hob;obtain⟨hl,hs,hkey,hent,h⟩:=h
   have gen:∀(g:Gh) (oh':OH) (w:World) (ρ:Operand→Value),HR g oh' w→(∀z,z ∈ o.op.operands→dd g oh' (e z) (ρ z))→ae oh' id=some ob→
     (execOp ρ o).run P w=.ok (.value (if ok then .tuple #[(yK key ob.el).getD z,.bool (yK key ob.el).isSome] else(yK key ob.el).getD z)) w:=by
    intro g oh' w ρ hr hρ hob';have hρx:=hρ x (by simp [ho,Op.operands]);have hρi:=hρ i (by simp [ho,Op.operands]);rw [hvx] at hρx;rw [hvi] at hρi;obtain⟨b,es,clock,_,hbx,hh,q1,q2⟩:=FK hr hρx hob' hl hs;obtain⟨hf,_⟩:=uz hkey es.toList ob.el 0 q1 hent q2;obtain⟨_,hchk⟩:=wU (P:=P) hkey hq;simp only [execOp,ho];refine bk _ w w _ ?_;rw [hbx,hρi.1];have hfk:=run_findKey (P:=P) w hq hf;unfold yK
    cases hm:ll key ob.el with
    |none=>
     rw [hm] at hfk;simp [Instr.lookup,run_underlying hu,kK hh,hchk w _ 9999,hfk,zeroValue,typeInfo,hi,hz]
    |some p=>
     rw [hm] at hfk;simp [Instr.lookup,run_underlying hu,kK hh,hchk w _ 9999,hfk]
   have one:((yK key ob.el).getD z).oneCell'=true:=by
    unfold yK
    cases hm:ll key ob.el with
    |none=>exact hz1
    |some p=>
     have:∀(el:List V),(∀v ∈ el,Pb kk v)→∀j x,ll key el=some (j,x)→x.oneCell'=true:=by
      intro el
      induction el with
      |nil=>intro _ j x h;cases h
      |cons v el ih=>
       intro he j x h;obtain⟨q,y,rfl,_,hy⟩:=he v (List.mem_cons_self ..);unfold ll at h
       cases hb:mkEq key q with
       |true=>
        rw [hb] at h;simp only [cond_true,Option.some.injEq,Prod.mk.injEq] at h;rw [← h.2,← fD];exact hy
       |false=>
        rw [hb] at h;simp only [cond_false] at h;obtain⟨p,hp,hp2⟩:=Option.map_eq_some_iff.1 h;simp only [Prod.mk.injEq] at hp2;rw [← hp2.2];exact ih (fun v hv=>he v (List.mem_cons_of_mem _ hv)) p.1 p.2 hp
     exact this ob.el hent p.1 p.2 hm
   cases ok with
   |true=>
    obtain⟨v,b,rfl,rfl,hk⟩:=h;refine dD hob hk fun g oh' w ρ hr hρ hob'=>⟨_,gen g oh' w ρ hr hρ hob',?_⟩
    refine⟨_,rfl,rfl,fun j u c hu hc=>?_⟩
    match j with
    |0=>simp at hu hc;subst hu;subst hc;exact⟨rfl,one⟩
    |1=>simp at hu hc;subst hu;subst hc;exact⟨rfl,rfl⟩
    |j+2=>simp at hu
   |false=>
    obtain⟨v,rfl,hk⟩:=h;exact dD hob hk fun g oh' w ρ hr hρ hob'=>⟨_,gen g oh' w ρ hr hρ hob',dI one⟩
  ·exact h.elim
 ·exact h.elim
theorem CN {o:Oper}{t:TypeId}{x i v:Operand}{e:Operand→V}{oh:OH}{k:Acc→Prop}(ho:o.op=.mapUpdate t x i v)(h:CY (tk P t) oh (e x) (e i) (e v) k):dt P o e oh k:=by
 unfold CY at h;split at h
 ·rename_i kk z id ver i0 f0 key y hd hvx hvi hvv;obtain⟨q,el,inf,hu,hi,hz,_,hz1,hq⟩:=xI hd;split at h
  ·rename_i ob hob;obtain⟨hl,hs,hkey,hent,el',hput,hk⟩:=h;refine⟨_,?_,by simpa using hob,by simp,hk⟩;intro g oh' w ρ hr hρ hpre _;have hob':=hpre id ob (by simp);have hρx:=hρ x (by simp [ho,Op.operands]);have hρi:=hρ i (by simp [ho,Op.operands]);have hρv:=hρ v (by simp [ho,Op.operands]);rw [hvx] at hρx;rw [hvi] at hρi;rw [hvv] at hρv;obtain⟨b,es,clock,hb,hbx,hh,q1,q2⟩:=FK hr hρx hob' hl hs;obtain⟨hf,hfd⟩:=uz hkey es.toList ob.el 0 q1 hent q2;obtain⟨hbits,hchk⟩:=wU (P:=P) hkey hq;have hfk:=run_findKey (P:=P) w hq hf;have hes:es.size=ob.el.length:=by simpa using q1
   have q2':∀(j:Nat) (e:MapEntry) (v:V),es[j]?=some e→ob.el[j]?=some v→v=.agg [.af e.key,.af e.val]:=fun j e v h1 h2=>q2 j e v (by simpa using h1) h2
   unfold UO at hput
   cases hm:ll key ob.el with
   |none=>
    rw [hm] at hfk hput;subst hput
    have hrun:(execOp ρ o).run P w=.ok .skip (qw w b (.map (es.push { key,val:=y,born:=clock }) (clock+1))):=by
     simp only [execOp,ho];rw [hbx,hρi.1,hρv.1];simp [Instr.mapUpdate,run_underlying hu,kK hh,hchk w _ 9999,hfk,Go.setObj,Sem.run,qw,hh]
    rw [hrun]
    obtain⟨p1,p2,p3⟩:=hr.IX id b ob ⟨0,ob.el ++ [.agg [.af key,.af y]],ob.ver,false⟩ es (es.push { key,val:=y,born:=clock }) clock (clock+1) hob' ⟨hl,hs⟩ hb hh ⟨rfl,rfl⟩ (Nat.le_refl _) (by simp [hes]) (fun j en u hen huu=>by
     rw [Array.getElem?_push] at hen;have huu:(ob.el ++ [V.agg [.af key,.af y]])[j]?=some u:=huu;by_cases hj:j=es.size
     ·subst hj;rw [if_pos rfl] at hen;cases hen
      rw [List.getElem?_append_right Yy,hes] at huu;simpa using huu.symm
     ·rw [if_neg hj] at hen;have hlt:j < es.size:=(Array.getElem?_eq_some_iff.1 hen).1;rw [List.getElem?_append_left Yy] at huu
      exact q2' j en u hen huu)
    exact⟨g,p1,trivial,p2,p3⟩
   |some p=>
    rw [hm] at hfk hput;subst hput;obtain⟨en,he,hek,hev⟩:=hfd p.1 p.2 hm;have he':es[p.1]?=some en:=by simpa using he
    have hlt:p.1 < es.size:=(Array.getElem?_eq_some_iff.1 he').1
    have hrun:(execOp ρ o).run P w=.ok .skip (qw w b (.map (es.modify p.1 fun e=>{ e with key,val:=y }) clock)):=by
     simp only [execOp,ho];rw [hbx,hρi.1,hρv.1];simp [Instr.mapUpdate,run_underlying hu,kK hh,hchk w _ 9999,hfk,Go.setObj,Sem.run,qw,hh,he',hek,Instr.keyThatStays,hbits]
    rw [hrun]
    obtain⟨p1,p2,p3⟩:=hr.IX id b ob ⟨0,ob.el.set p.1 (.agg [.af key,.af y]),ob.ver,false⟩ es (es.modify p.1 fun e=>{ e with key,val:=y }) clock clock hob' ⟨hl,hs⟩ hb hh ⟨rfl,rfl⟩ (Nat.le_refl _) (by simp [hes]) (fun j en2 u hen huu=>by
     rw [Array.getElem?_modify] at hen;have huu:(ob.el.set p.1 (V.agg [.af key,.af y]))[j]?=some u:=huu;by_cases hj:p.1=j
     ·subst hj;rw [if_pos rfl,he'] at hen;simp only [Option.map_some,Option.some.injEq] at hen;subst hen;rw [List.getElem?_set_self Yy] at huu;simpa using huu.symm
     ·rw [if_neg hj] at hen;rw [List.getElem?_set_ne hj] at huu
      exact q2' j en2 u hen huu)
    exact⟨g,p1,trivial,p2,p3⟩
  ·exact h.elim
 ·exact h.elim
theorem Fc {o:Oper}{c:Call}{lt:Bool}{x y:Operand}{t t2:TypeId}{e:Operand→V}{oh:OH}{k:Acc→Prop}(ho:o.op=.call c)(hc:c.callee=.builtin (match lt with|true=>.min|false=>.max))
  (ha:c.args.toList=[x,y]) (ht:c.argTypes.toList=[t,t2]) (h:VO lt (e x) (e y) fun v=>free k (.af v)):dt P o e oh k:=by
 have ha':c.args=#[x,y]:=by rw [← Array.toArray_toList (xs:=c.args),ha]
 have ht':c.argTypes=#[t,t2]:=by rw [← Array.toArray_toList (xs:=c.argTypes),ht]
 have hmx:x ∈ o.op.operands:=by cases lt<;>simp [ho,Op.operands,Call.operands,hc,ha']
 have hmy:y ∈ o.op.operands:=by cases lt<;>simp [ho,Op.operands,Call.operands,hc,ha']
 unfold VO at h;split at h
 ·rename_i k1 p k2 q hvx hvy;obtain⟨rfl,r,rfl,hk⟩:=h;refine aP hk fun g oh' w ρ hr hρ=>?_
  have hρx:=hρ x hmx;have hρy:=hρ y hmy;rw [hvx] at hρx;rw [hvy] at hρy;refine⟨_,?_,dI rfl⟩
  cases lt with
  |true=>simp [execOp,ho,resolve,hc,ha',ht',invoke,builtin,hρx.1,hρy.1,run_min_int2]
  |false=>simp [execOp,ho,resolve,hc,ha',ht',invoke,builtin,hρx.1,hρy.1,run_max_int2]
 ·exact h.elim
end
end Go.Ev
