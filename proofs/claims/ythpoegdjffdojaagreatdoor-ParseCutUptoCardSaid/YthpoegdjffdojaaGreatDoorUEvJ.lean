import Derived.Test.YthpoegdjffdojaaGreatDoorULac
import Derived.Laws.IdiomStrings
import Derived.Laws.StructEq
import Derived.Laws.BytesArg
set_option linter.all false
namespace Go.Ev
section
variable {P : Program} {g : Gh} {oh : OH} {w : World}
theorem toT1_ok {v:V}{x:Value}{t:T}(hF:∀b o c,g.F b o=some c->g.G b o=some c)(h:bm g oh v x)(ht:V.toT1 v=some t):gD g.G t x:=by
 unfold V.toT1 at ht;split at ht
 ·cases ht;obtain⟨rfl,h1⟩:=h;exact .af _ h1
 ·rename_i f t';cases ht
  cases f
  ·exact h.1
  ·exact h.1.mono hF
 ·cases ht;obtain⟨a,rfl⟩:=h
  exact .sl [] a 0 0 0 0 (fun _ _=>Go.undef) (wU _) B3 (by simp) (by simp) (by simp) (by simp) (by simp)
 ·cases ht
theorem toTs_len : ∀{l:List V} {ts:List T},toTs l=some ts->ts.length=l.length/\∀(j:Nat) (v:V) (t:T),l[j]?=some v->ts[j]?=some t->V.toT1 v=some t
 | [],ts,h=>by cases h;simp
 |x :: r,ts,h=>by
  unfold toTs at h;split at h
  ·rename_i t ts' h1 h2;cases h
   obtain⟨h3,h4⟩:=toTs_len h2;refine⟨by simp [h3],fun j v t' hv ht=>?_⟩
   cases j with
   |zero=>simp at hv ht;subst hv;subst ht;exact h1
   |succ j=>exact h4 j v t' (by simpa using hv) (by simpa using ht)
  ·cases h
theorem toT_ok {v:V}{x:Value}{t:T}(hF:∀b o c,g.F b o=some c->g.G b o=some c)(h:dd g oh v x)(ht:V.toT v=some t):gD g.G t x:=by
 unfold V.toT at ht;split at ht
 ·rename_i l;split at ht
  ·rename_i ts hts;cases ht
   obtain⟨cs,rfl,hl,hr⟩:=h;obtain⟨h3,h4⟩:=toTs_len hts;refine .agg ts cs A8 (fun j c hc=>?_) (fun j u c hu hc=>?_)
   ·have hj:j < l.length:=by rw [<- hl];exact(E4.1 hc).1
    exact(hr j l[j] c (by simp [hj]) hc).2
   ·have hj:j < l.length:=by rw [<- h3];exact(yK.1 hu).1
    exact toT1_ok hF (hr j l[j] c (by simp [hj]) hc).1 (h4 j l[j] u (by simp [hj]) hu)
  ·cases ht
 ·rename_i hne
  have h1:bm g oh v x:=by
   cases v with
   |agg l=>exact absurd rfl (hne l)
   |ba l=>simp [V.toT1] at ht
   |_=>exact h
  exact toT1_ok hF h1 ht
theorem toTA_len : ∀{l:List V} {ts:List T},toTA l=some ts->ts.length=l.length/\∀(j:Nat) (v:V) (t:T),l[j]?=some v->ts[j]?=some t->V.toT v=some t
 | [],ts,h=>by cases h;simp
 |x :: r,ts,h=>by
  unfold toTA at h;split at h
  ·rename_i t ts' h1 h2;cases h
   obtain⟨h3,h4⟩:=toTA_len h2;refine⟨by simp [h3],fun j v t' hv ht=>?_⟩
   cases j with
   |zero=>simp at hv ht;subst hv;subst ht;exact h1
   |succ j=>exact h4 j v t' (by simpa using hv) (by simpa using ht)
  ·cases h
theorem uk {f:Bool}{t:T}{v:Value}(h:gD (g.Qy f) t v):dd g oh (V.FE f t) v:=by
 unfold V.FE;split
 ·cases h with
  |ba l vs hl h1 hr=>
   refine⟨vs,rfl,by simpa using hl,fun j u c hu hc=>?_⟩;rw [Zf] at hu;obtain⟨t',ht,rfl⟩:=C1.1 hu;have:=hr j t' c ht hc
   cases t' with
   |ba l'=>
    cases this with
    |ba _ vs' _ _=>exact absurd hc (h1 j vs')
   |_=>exact Lg this (fun hne=>ud this hne (by simp))
 ·rename_i hne;have:=Lg (g:=g) (oh:=oh) h (fun h1=>ud h h1 hne)
  cases t with
  |ba l=>exact absurd rfl (hne l)
  |agg l=>exact this
  |_=>exact this
structure nL (g:Gh)(oh:OH)(w:World)(f:Bool)(S:dS):Prop where
 F:∀b o c,g.F b o=some c->S b o=some c
 G:f=false->∀b o c,g.G b o=some c->S b o=some c
 own:∀b,cw g oh b->∀o c,w.cell? ⟨b,o,none⟩=some c->S b o=some c
theorem ZS {f:Bool}{S:dS}(hr:HR g oh w)(hS:nL g oh w f S){v:V}{t:T}(h:jF oh f v t):∀{x:Value},bm g oh v x->gD S t x/\x.oneCell'=true:=by
 induction h with
 |af v=>intro x hx;obtain⟨rfl,h1⟩:=hx;exact⟨.af _ h1,h1⟩
 |ro f' t hf=>
  intro x hx;refine⟨hx.1.mono ?_,hx.2⟩
  cases f' with
  |true=>exact hS.F
  |false=>
   cases f with
   |true=>exact absurd (hf rfl) (by simp)
   |false=>exact hS.G rfl
 |emp=>
  intro x hx;obtain⟨a,rfl⟩:=hx;exact⟨.sl [] a 0 0 0 0 (fun _ _=>Go.undef) (wU _) B3 (by simp) (by simp) (by simp) (by simp) (by simp),rfl⟩
 |own id ver off len o ts ho hv hl hn hs hc ih=>
  intro x hx;obtain⟨hx1,o',ho',_,hat⟩:=hx;rw [ho] at ho';obtain rfl:o=o':=by simpa using ho'
  obtain⟨a,cap,rfl,hlc,hoff,hcap⟩:=hat hv hl;refine⟨?_,rfl⟩;by_cases hc0:cap=0
  ·obtain rfl:len=0:=by omega
   obtain rfl:ts=[]:=C8 hn;exact .sl [] a cap 0 0 0 (fun _ _=>Go.undef) (by simp) (by rw [hc0];decide) (by simp) (by simp) (by simp) (by simp) (by simp)
  ·obtain⟨b,hb,rfl,hcp⟩:=hcap hc0;obtain⟨arr,ty,hh,_,hbs,hbl,hbm,hels⟩:=(hr.obj id o ho hl).2 b hb;have hown:cw g oh b:=⟨id,o,ho,hl,hb⟩
   have hel:∀i,i < len->∃e,o.el[off+i]?=some e:=fun i hi=>⟨o.el[off+i]'(by omega),by simp⟩
   have hti:∀(i:Nat) (t:T),ts[i]?=some t->i < len:=fun i t h=>by rw [<- hn];exact(yK.1 h).1
   have hcell:∀(i:Nat) (t:T) (j:Nat),ts[i]?=some t->j < t.cells.length->
     ∃e v c,o.el[off+i]?=some e/\e.cells[j]?=some v/\arr[(off+i) * o.sz+j]?=some c/\c.oneCell'=true/\bm g oh v c:=by
    intro i t j ht hj;have hi:=hti i t ht;obtain⟨e,he⟩:=hel i hi;have hl2:=hs i e t hi he ht;obtain⟨q1,q2⟩:=hels _ e he;have hje:j < e.cells.length:=by omega
    obtain⟨c,c1,c2,c3⟩:=q2 j e.cells[j] (by simp [hje]);exact⟨e,_,c,he,by simp [hje],c1,c2,c3⟩
   have hgetD:∀(i j:Nat) (c:Value),arr[(off+i) * o.sz+j]?=some c->arr.getD ((off+i) * o.sz+j) Go.undef=c:=by
    intro i j c h;rw [Pb,h];rfl
   rw [<- hn];refine .sl ts _ cap o.sz b (off * o.sz) (fun i j=>arr.getD ((off+i) * o.sz+j) Go.undef) A8 A8 (fun _=>rfl) (fun i t ht=>?_) (fun i t j ht hj=>?_) (fun i t j ht hj=>?_) (fun i t j u ht hu=>?_)
   ·have hi:=hti i t ht;obtain⟨e,he⟩:=hel i hi;rw [hs i e t hi he ht];exact(hels _ e he).1
   ·obtain⟨e,v,c,he,hv2,h1,h2,h3⟩:=hcell i t j ht hj;rw [hgetD i j c h1];refine hS.own b hown _ _ ?_;rw [cell_of_row w b _ arr ty _ hh,<- h1];congr 1;rw [I8]
   ·obtain⟨e,v,c,he,hv2,h1,h2,h3⟩:=hcell i t j ht hj;rw [hgetD i j c h1];exact h2
   ·have hj:j < t.cells.length:=(yK.1 hu).1;obtain⟨e,v,c,he,hv2,h1,h2,h3⟩:=hcell i t j ht hj;rw [hgetD i j c h1];exact(ih i e t j v u (hti i t ht) he ht hv2 hu h3).1
 |ref id ver i foff o e ts ho hv hl he hn hc ih=>
  intro x hx;obtain⟨hx1,o',ho',_,hat⟩:=hx;rw [ho] at ho';obtain rfl:o=o':=by simpa using ho'
  obtain⟨b,hb,rfl⟩:=hat hv hl;refine⟨?_,rfl⟩;obtain⟨arr,ty,hh,_,hbs,hbl,hbm,hels⟩:=(hr.obj id o ho hl).2 b hb;have hown:cw g oh b:=⟨id,o,ho,hl,hb⟩
  obtain⟨q1,q2⟩:=hels i e he
  have hcell:∀j,j < ts.length->∃v c,e.cells[foff+j]?=some v/\arr[i * o.sz+(foff+j)]?=some c/\c.oneCell'=true/\bm g oh v c:=by
   intro j hj;obtain⟨c,c1,c2,c3⟩:=q2 (foff+j) e.cells[foff+j] (by simp [show foff+j < e.cells.length by omega]);exact⟨_,c,by simp [show foff+j < e.cells.length by omega],c1,c2,c3⟩
  have hgetD:∀(j:Nat) (c:Value),arr[i * o.sz+(foff+j)]?=some c->arr.getD (i * o.sz+(foff+j)) Go.undef=c:=by
   intro j c h;rw [Pb,h];rfl
  refine .ptr ts b (i * o.sz+foff) (fun j=>arr.getD (i * o.sz+(foff+j)) Go.undef) (fun j hj=>?_) (fun j hj=>?_) (fun j u hu=>?_)
  ·obtain⟨v,c,hv2,h1,h2,h3⟩:=hcell j hj;rw [hgetD j c h1];refine hS.own b hown _ _ ?_;rw [cell_of_row w b _ arr ty _ hh,<- h1];congr 1;omega
  ·obtain⟨v,c,hv2,h1,h2,h3⟩:=hcell j hj;rw [hgetD j c h1];exact h2
  ·have hj:j < ts.length:=(yK.1 hu).1;obtain⟨v,c,hv2,h1,h2,h3⟩:=hcell j hj;rw [hgetD j c h1];exact(ih j v u hv2 hu h3).1
 |jq t id ver i foff u h ih=>
  intro x hx;obtain⟨y,hy,rfl⟩:=hx;obtain⟨h1,h2⟩:=ih hy;exact⟨.jq t u y h2 h1,rfl⟩
theorem jh {f:Bool}{S:dS}(hr:HR g oh w)(hS:nL g oh w f S){v:V}{t:T}(h:gM oh f v t){x:Value}(hx:dd g oh v x):gD S t x/\∀us,x≠.tuple us:=by
 have one:∀v,jF oh f v t->bm g oh v x->gD S t x/\∀us,x≠.tuple us:=by
  intro v h1 h2;obtain⟨h3,h4⟩:=ZS hr hS h1 h2;exact⟨h3,fun us e=>by rw [e] at h4;simp [Value.oneCell'] at h4⟩
 cases v with
 |agg l=>
  cases t with
  |agg ts=>
   obtain⟨hl,hf⟩:=h;obtain⟨cs,rfl,hcl,hc⟩:=hx;refine⟨.agg ts cs A8 (fun j c hcj=>?_) (fun j u c hu hcj=>?_),by simp⟩
   ·have hj:j < l.length:=by rw [<- hcl];exact(E4.1 hcj).1
    exact(hc j l[j] c (by simp [hj]) hcj).2
   ·have hj:j < l.length:=by rw [hl];exact(yK.1 hu).1
    exact(ZS hr hS (hf j l[j] u (by simp [hj]) hu) (hc j l[j] c (by simp [hj]) hcj).1).1
  |_=>exact h.elim
 |ba l=>cases h
 |undef=>cases h
 |af q=>exact one _ h hx
 |ro f' t'=>exact one _ h hx
 |emp=>exact one _ h hx
 |own a1 a2 a3 a4=>exact one _ h hx
 |ref a1 a2 a3 a4=>exact one _ h hx
 |wr w a1 a2 a3 a4=>exact one _ h hx
theorem HR.called (h:HR g oh w){w':World}{N:dS}(hb:RowKit.Below w.heap.size w w')(hN:∀b o c,N b o=some c->w.heap.size<=b/\w'.cell? ⟨b,o,none⟩=some c) :
  HR { g with G:=g.G.un N,F:=g.F.un N } oh w'/\cx g oh { g with G:=g.G.un N,F:=g.F.un N } oh/\Fr g oh w { g with G:=g.G.un N,F:=g.F.un N } oh w':=by
 have hGlt:∀b o c,g.G b o=some c->b < w.heap.size:=fun b o c hc=>cD (h.hG b o c hc)
 have hG:∀b o c,g.G b o=some c->g.G.un N b o=some c:=fun b o c hc=>by simp [dS.un,hc]
 have hFm:∀b o c,g.F b o=some c->g.F.un N b o=some c:=fun b o c hc=>by simp [dS.un,hc]
 have hm:cx g oh { g with G:=g.G.un N,F:=g.F.un N } oh:=
  bm.lift hFm hG fun id o ho=>⟨o,ho,wU _,fun h=>⟨h,rfl⟩,fun _ hl=>⟨hl,rfl,wU _,rfl,rfl⟩⟩
 have split:∀(S:dS) b o c,S.un N b o=some c->S b o=some c\/N b o=some c:=by
  intro S b o c hc;unfold dS.un at hc;split at hc
  ·rename_i c' hc';left;rw [hc'];simpa using hc
  ·exact .inr hc
 refine⟨⟨⟨?_,?_,?_,h.inj,jm.of (g:={ g with G:=g.G.un N,F:=g.F.un N }) (h.mp.sub fun i o hi _=>⟨hi,rfl⟩) fun b hmb=>hb.block b (h.mp.lt (hmb.sub fun i o hi _=>⟨hi,rfl⟩))⟩,h.gl.mono hG⟩,hm,⟨hb.os,hb.tape,hb.output,hb.size,fun b hlt _ _=>hb.block b hlt,fun _ h=>.inl h,hG,hFm,?_,?_,fun b arr ty fz h=>⟨arr,(hb.block b (bh h)).trans h,rfl⟩,fun _ h=>.inl h⟩⟩
 ·intro b o c hc;rcases split _ b o c hc with h'|h'
  ·rw [cell_of_heap (hb.block b (hGlt _ _ _ h'))];exact h.hG b o c h'
  ·exact(hN b o c h').2
 ·intro b o c hc;show g.G.un N b o=some c;rcases split _ b o c hc with h'|h'
  ·exact hG b o c (h.hF b o c h')
  ·unfold dS.un
   cases hg:g.G b o with
   |none=>exact h'
   |some c'=>have:=hGlt b o c' hg;have:=(hN b o c h').1;omega
 ·intro i o ho hl;obtain⟨h1,h2⟩:=h.obj i o ho hl;refine⟨h1,fun b hbm=>?_⟩;obtain⟨arr,ty,hh,hg,hba⟩:=h2 b hbm;have hlt:=bh hh;refine⟨arr,ty,(hb.block b hlt).trans hh,fun off=>?_,hba.mono hm⟩;show g.G.un N b off=none
  cases hu:g.G.un N b off with
  |none=>rfl
  |some c=>
   rcases split _ b off c hu with h'|h'
   ·rw [hg] at h';cases h'
   ·have:=(hN b off c h').1;omega
 ·intro b o c hc;rcases split _ b o c hc with h'|h'
  ·exact .inl h'
  ·exact .inr (.inr (hN b o c h').1)
 ·intro b o c hc;rcases split _ b o c hc with h'|h'
  ·exact .inl h'
  ·exact .inr (.inr (hN b o c h').1)
theorem Hd {C:CT}(hC:∀q ts r,C q ts r->iE P q ts r){o:Oper}{c:Call}{f:Operand}{q:FuncId}{ts:List T}{e:Operand->V}{oh:OH}{k:Acc->Prop}
  (ho:o.op=.call c) (hc:c.callee=.value f) (hf:V.fn? (e f)=some q) (hts:toTA (c.args.toList.map e)=some ts) (h:∃fr r,C q ts (.data fr r)/\free k (V.FE fr r)):dt P o e oh k:=by
 obtain⟨fr,r,hCC,hk⟩:=h;obtain⟨⟨fn,hfn,hname,hbody⟩,hok⟩:=hC q ts (.data fr r) hCC
 have hfe:e f=.af (.func (.func q) #[] #[]):=by
  unfold V.fn? at hf;split at hf
  ·rename_i q' a b he;split at hf
   ·rename_i ha hb;have ha':a=#[]:=by rw [<- D8 (xs:=a),ha]
    have hb':b=#[]:=by rw [<- D8 (xs:=b),hb]
    rw [he,ha',hb'];simpa using hf
   ·cases hf
  ·cases hf
 have hmf:f ∈ o.op.operands:=by simp [ho,Op.operands,Call.operands,hc]
 have hma:∀x ∈ c.args.toList,x ∈ o.op.operands:=by
  intro x hx;simp only [ho,Op.operands,Call.operands,hc];simp at hx |-;exact .inr hx
 obtain⟨hl,htt⟩:=toTA_len hts;refine⟨_,?_,by simp,by simp,hk⟩;intro g oh' w ρ hr hρ _ _;have hrf:=hρ f hmf;rw [hfe] at hrf
 have hex:(execOp ρ o).run P w=.ok (.enter q (c.args.map ρ)) w:=by
  have h1:fn.name≠ "runtime.NumGoroutine":=by simpa using hname
  have h2:fn.body≠none:=by intro e;simp [e] at hbody
  simp [execOp,ho,resolve,hc,hrf.1,Deferred.ofValue,invoke,callFunc,hfn,h1,h2]
 rw [hex]
 have hreads:Reads g.G ts (c.args.map ρ):=by
  refine⟨by simp [hl],fun j t x ht hx=>?_⟩;rw [L9] at hx;obtain⟨op,hop,rfl⟩:=C1.1 hx;have hop':c.args.toList[j]?=some op:=by simpa using hop
  exact toT_ok hr.hF (hρ op (hma op (MH hop'))) (htt j (e op) t (by rw [Zf,hop'];rfl) ht)
 refine(hok g.G w _ hr.hG hr.gl hreads).mono fun en w' hen=>?_
 obtain⟨v,N,rfl,hb,hN,hrd⟩:=hen;obtain⟨h1,h2,h3⟩:=hr.called hb hN;refine⟨v,rfl,_,h1,?_,h2,h3⟩;refine uk ?_
 cases fr with
 |true=>
  refine hrd.mono fun b o c hc=>?_
  show g.F.un N b o=some c;unfold dS.un
  cases hg:g.F b o with
  |none=>exact hc
  |some c'=>have:=cD (hr.hG _ _ _ (hr.hF b o c' hg));have:=(hN b o c hc).1;omega
 |false=>exact hrd
theorem Bv : ∀{oh:OH} {i:Nat} {o:Obj},ae oh i=some o->i < lj oh
 |(j,o') :: r,i,o,h=>by
  unfold ae at h;unfold lj;split at h
  ·rename_i hj;subst hj;split<;>omega
  ·have:=Bv h;split<;>omega
theorem uj (d:Nat):∀(oh:OH) (i:Nat),ae (ny d oh) (i+d)=(ae oh i).map (Obj.sh d)
 | [],i=>rfl
 |(j,o) :: r,i=>by
  have ih:=uj d r i;simp only [ny,E7,ae] at ih |-;by_cases h:j=i
  ·subst h;simp
  ·rw [if_neg A8,if_neg h];exact ih
theorem JX {d:Nat}:∀{oh:OH} {i:Nat},i ∈ (ny d oh).map (·.1)->d<=i:=by
 intro oh i h;simp only [ny,List.map_map,D4] at h;obtain⟨p,_,rfl⟩:=h;simp
theorem kg : ∀{l:OH} {i:Nat} {o:Obj},ae l i=some o->i ∈ l.map (·.1)
 |(j,o') :: r,i,o,h=>by
  unfold ae at h;split at h
  ·rename_i e;simp [<- e]
  ·simp only [E7,B5];exact .inr (kg h)
theorem vJ {d:Nat}{oh:OH}{i:Nat}{o:Obj}(h:ae (ny d oh) i=some o):∃j o0,i=j+d/\ae oh j=some o0/\o=o0.sh d:=by
 have hi:i ∈ (ny d oh).map (·.1):=kg h;have hd:=JX hi;obtain⟨j,rfl⟩:∃j,i=j+d:=⟨i - d,by omega⟩
 rw [uj] at h;obtain⟨o0,h0,rfl⟩:=C1.1 h;exact⟨j,o0,rfl,h0,rfl⟩
theorem NZ (d:Nat)(e:V):(e.Hl d).cells.length=e.cells.length:=by
 cases e<;>simp [V.Hl,V.cells,V.MY]
theorem Hk (d:Nat)(e:V):(e.Hl d).cells=e.cells.map (V.MY d):=by
 cases e<;>simp [V.Hl,V.cells,V.MY]
theorem dG (p oh:OH)(i:Nat):ae (p ++ oh) i=(match ae p i with|some o=>some o|none=>ae oh i):=by
 induction p with
 |nil=>rfl
 |cons q r ih=>
  obtain⟨c,o⟩:=q;simp only [G1,ae];by_cases h:c=i<;>simp [ih,h]
theorem HR.Gu (h:HR g oh w){w':World}{gn:Gh}{on:OH}{d:Nat}(hb:RowKit.Below w.heap.size w w')(hn:HR0 gn on w')
  (hG:∀b o c,gn.G b o=some c->g.G b o=some c\/w.heap.size<=b) (hF:∀b o c,gn.F b o=some c->w.heap.size<=b) (hO:∀b,cw gn on b->w.heap.size<=b) (hlv:∀i o,ae on i=some o->o.live=true)
  (hfresh:∀i,i ∈ (ny d on).map (·.1)->ae oh i=none) :
  ∃g',HR g' (ny d on ++ oh) w'/\cx g oh g' (ny d on ++ oh)/\Fr g oh w g' (ny d on ++ oh) w'/\(∀v x,bm gn on v x->bm g' (ny d on ++ oh) (v.MY d) x):=by
 have hGlt:∀b o c,g.G b o=some c->b < w.heap.size:=fun b o c hc=>cD (h.hG b o c hc)
 let DT:Nat->Bool:=fun i=>(ae (ny d on) i).isSome
 let g':Gh:=⟨g.G.un gn.G,g.F.un gn.F,fun i=>if DT i=true then gn.m (i - d) else g.m i,fun i=>if DT i=true then gn.cp (i - d) else g.cp i⟩
 have hgG:∀b o c,g.G b o=some c->g'.G b o=some c:=fun b o c hc=>by simp [g',dS.un,hc]
 have hgF:∀b o c,g.F b o=some c->g'.F b o=some c:=fun b o c hc=>by simp [g',dS.un,hc]
 have hnG:∀b o c,gn.G b o=some c->g'.G b o=some c:=by
  intro b o c hc;rcases hG b o c hc with h'|h'
  ·exact hgG b o c h'
  ·show g.G.un gn.G b o=some c;unfold dS.un
   cases hq:g.G b o with
   |none=>exact hc
   |some c'=>have:=hGlt b o c' hq;omega
 have hnF:∀b o c,gn.F b o=some c->g'.F b o=some c:=by
  intro b o c hc;have h':=hF b o c hc;show g.F.un gn.F b o=some c;unfold dS.un
  cases hq:g.F b o with
  |none=>exact hc
  |some c'=>have:=hGlt b o c' (h.hF _ _ _ hq);omega
 have split:∀(S N:dS) b o c,S.un N b o=some c->S b o=some c\/N b o=some c:=by
  intro S N b o c hc;unfold dS.un at hc;split at hc
  ·rename_i c' hc';left;rw [hc'];simpa using hc
  ·exact .inr hc
 have hold:∀i o,ae oh i=some o->DT i=false/\ae (ny d on ++ oh) i=some o:=by
  intro i o ho
  have hi:ae (ny d on) i=none:=by
   cases hq:ae (ny d on) i with
   |none=>rfl
   |some o'=>
    have hm:i ∈ (ny d on).map (·.1):=kg hq;rw [hfresh i hm] at ho;cases ho
  exact⟨by simp [DT,hi],by rw [dG,hi];exact ho⟩
 have hnew:∀j o0,ae on j=some o0->DT (j+d)=true/\ae (ny d on ++ oh) (j+d)=some (o0.sh d):=by
  intro j o0 hj;have:ae (ny d on) (j+d)=some (o0.sh d):=by rw [uj,hj];rfl
  exact⟨by simp [DT,this],by rw [dG,this]⟩
 have hcase:∀i o,ae (ny d on ++ oh) i=some o->(∃j o0,i=j+d/\ae on j=some o0/\o=o0.sh d/\DT i=true)\/(ae oh i=some o/\DT i=false):=by
  intro i o ho;rw [dG] at ho
  cases hq:ae (ny d on) i with
  |some o'=>
   rw [hq] at ho;obtain⟨j,o0,e1,e2,e3⟩:=vJ hq;obtain rfl:o'=o:=by simpa using ho
   exact .inl ⟨j,o0,e1,e2,e3,by simp [DT,hq]⟩
  |none=>rw [hq] at ho;exact .inr ⟨ho,by simp [DT,hq]⟩
 have hshR:∀(id ver i foff:Nat) (x:Value),vW gn on id ver i foff x->vW g' (ny d on ++ oh) (id+d) ver i foff x:=by
  intro id ver i foff x hx;obtain⟨h1,o0,ho,hv,hc⟩:=hx;obtain⟨n1,n2⟩:=hnew id o0 ho;refine⟨yj h1.1 n2 (hlv id o0 ho),o0.sh d,n2,hv,fun e hl=>?_⟩;obtain⟨b,b1,b2⟩:=hc e hl;exact⟨b,by simp [g',n1,b1],b2⟩
 have hsh:∀v x,bm gn on v x->bm g' (ny d on ++ oh) (v.MY d) x:=by
  intro v x hx
  cases v with
  |undef=>trivial
  |af v=>exact hx
  |ro f t=>
   refine⟨hx.1.mono ?_,hx.2⟩;cases f
   ·exact hnG
   ·exact hnF
  |emp=>exact hx
  |own id ver off len=>
   obtain⟨h1,o0,ho,hv,hc⟩:=hx;obtain⟨n1,n2⟩:=hnew id o0 ho;refine⟨h1,o0.sh d,n2,hv,fun e hl=>?_⟩;obtain⟨a,cap,e1,e2,e3,e4⟩:=hc e hl;refine⟨a,cap,e1,e2,by simpa [Obj.sh] using e3,fun hcap=>?_⟩;obtain⟨b,b1,b2,b3⟩:=e4 hcap;exact⟨b,by simp [g',n1,b1],b2,by simpa [g',n1] using b3⟩
  |ref id ver i foff=>exact hshR _ _ _ _ _ hx
  |wr w id ver i foff=>obtain⟨y,hy,e⟩:=hx;exact⟨y,hshR _ _ _ _ _ hy,e⟩
  |agg l=>exact hx.elim
  |ba l=>exact hx.elim
 have hm:cx g oh g' (ny d on ++ oh):=
  bm.lift hgF hgG fun id o ho=>⟨o,(hold id o ho).2,wU _,fun h=>⟨h,by simp [g',(hold id o ho).1]⟩,fun _ hl=>⟨hl,rfl,wU _,by simp [g',(hold id o ho).1],by simp [g',(hold id o ho).1]⟩⟩
 have hown:∀b,cw g oh b->b < w.heap.size:=by
  rintro b ⟨i,o,ho,hol,hmi⟩;obtain⟨arr',ty',hh,_⟩:=(h.obj i o ho hol).2 b hmi;exact bh hh
 have hms:∀i o,ae (ny d on ++ oh) i=some o->jg o->ae oh i=some o/\g'.m i=g.m i:=by
  intro i o ho hmp;rcases hcase i o ho with⟨j,o0,rfl,hj,rfl,hN⟩|⟨ho',hN⟩
  ·exact absurd hmp (eN (hlv j o0 hj))
  ·exact⟨ho',by simp [g',hN]⟩
 refine⟨g',⟨⟨?_,?_,?_,?_,(h.mp.sub hms).of fun b hmb=>hb.block b (h.mp.lt (hmb.sub hms))⟩,h.gl.mono hgG⟩,hm,⟨hb.os,hb.tape,hb.output,hb.size,fun b hlt _ _=>hb.block b hlt,?_,hgG,hgF,?_,?_,fun b arr ty fz h=>⟨arr,(hb.block b (bh h)).trans h,rfl⟩,fun b hmb=>.inl (hmb.sub hms)⟩,hsh⟩
 ·intro b o c hc;rcases split _ _ b o c hc with h'|h'
  ·rw [cell_of_heap (hb.block b (hGlt _ _ _ h'))];exact h.hG b o c h'
  ·exact hn.hG b o c h'
 ·intro b o c hc;rcases split _ _ b o c hc with h'|h'
  ·exact hgG b o c (h.hF b o c h')
  ·exact hnG b o c (hn.hF b o c h')
 ·intro i o ho hl;rcases hcase i o ho with⟨j,o0,rfl,hj,rfl,hN⟩|⟨ho',hN⟩
  ·obtain⟨h1,h2⟩:=hn.obj j o0 hj hl;refine⟨fun hmn=>?_,fun b hbm=>?_⟩
   ·have:=h1 (by simpa [g',hN] using hmn);simp [Obj.sh,this]
   ·have hbm':gn.m j=some b:=by simpa [g',hN] using hbm
    obtain⟨arr,ty,hh,hg,hba⟩:=h2 b hbm';have hge:=hO b ⟨j,o0,hj,hl,hbm'⟩;refine⟨arr,ty,hh,fun off=>?_,?_⟩
    ·cases hu:g'.G b off with
     |none=>rfl
     |some c=>
      rcases split _ _ b off c hu with h'|h'
      ·have:=hGlt b off c h';omega
      ·rw [hg] at h';cases h'
    ·have ecp:g'.cp (j+d)=gn.cp j:=by simp [g',hN]
     rw [ecp];refine⟨hba.1,by simpa [Obj.sh] using hba.2.1,hba.2.2.1,fun k e he=>?_⟩;have he':(o0.el.map (V.Hl d))[k]?=some e:=he;rw [Zf] at he';obtain⟨e0,h0,rfl⟩:=C1.1 he';obtain⟨q1,q2⟩:=hba.2.2.2 k e0 h0;refine⟨by rw [NZ];exact q1,fun j' v hv=>?_⟩;rw [Hk,Zf] at hv;obtain⟨v0,hv0,rfl⟩:=C1.1 hv;obtain⟨c,c1,c2,c3⟩:=q2 j' v0 hv0;exact⟨c,c1,c2,hsh _ _ c3⟩
  ·obtain⟨h1,h2⟩:=h.obj i o ho' hl;refine⟨fun hmn=>h1 (by simpa [g',hN] using hmn),fun b hbm=>?_⟩;obtain⟨arr,ty,hh,hg,hba⟩:=h2 b (by simpa [g',hN] using hbm);have hlt:=bh hh;refine⟨arr,ty,(hb.block b hlt).trans hh,fun off=>?_,by simpa [g',hN] using hba.mono hm⟩
   cases hu:g'.G b off with
   |none=>rfl
   |some c=>
    rcases split _ _ b off c hu with h'|h'
    ·rw [hg] at h';cases h'
    ·rcases hG b off c h' with h''|h''
     ·rw [hg] at h'';cases h''
     ·omega
 ·intro i j oi oj b hi hj hli hlj hmi hmj;rcases hcase i oi hi with⟨i0,o0,rfl,hi0,rfl,hN⟩|⟨hi',hN⟩<;>rcases hcase j oj hj with⟨j0,o1,rfl,hj0,rfl,hN2⟩|⟨hj',hN2⟩
  ·have:=hn.inj i0 j0 o0 o1 b hi0 hj0 hli hlj (by simpa [g',hN] using hmi) (by simpa [g',hN2] using hmj);omega
  ·have h1:=hO b ⟨i0,o0,hi0,hli,by simpa [g',hN] using hmi⟩;have h2:=hown b ⟨j,oj,hj',hlj,by simpa [g',hN2] using hmj⟩;omega
  ·have h1:=hO b ⟨j0,o1,hj0,hlj,by simpa [g',hN2] using hmj⟩;have h2:=hown b ⟨i,oi,hi',hli,by simpa [g',hN] using hmi⟩;omega
  ·exact h.inj i j oi oj b hi' hj' hli hlj (by simpa [g',hN] using hmi) (by simpa [g',hN2] using hmj)
 ·rintro b ⟨i,o,ho,hol,hmi⟩;rcases hcase i o ho with⟨j,o0,rfl,hj,rfl,hN⟩|⟨ho',hN⟩
  ·exact .inr (hO b ⟨j,o0,hj,hol,by simpa [g',hN] using hmi⟩)
  ·exact .inl ⟨i,o,ho',hol,by simpa [g',hN] using hmi⟩
 ·intro b o c hc;rcases split _ _ b o c hc with h'|h'
  ·exact .inl h'
  ·rcases hG b o c h' with h''|h''
   ·exact .inl h''
   ·exact .inr (.inr h'')
 ·intro b o c hc;rcases split _ _ b o c hc with h'|h'
  ·exact .inl h'
  ·exact .inr (.inr (hF b o c h'))
theorem QA {g':Gh}{oh':OH}{gn:Gh}{on:OH}{d:Nat}(h1:∀v x,bm gn on v x->bm g' oh' (v.MY d) x){v:V}{x:Value}(h:dd gn on v x):dd g' oh' (v.sh d) x:=by
 have hA:∀v x,EA gn on v x->EA g' oh' (v.Hl d) x:=by
  intro v x h
  cases v with
  |agg l=>
   obtain⟨cs,rfl,hl,hr⟩:=h;refine⟨cs,rfl,by simpa using hl,fun j u c hu hc=>?_⟩;rw [Zf] at hu;obtain⟨u0,h0,rfl⟩:=C1.1 hu;exact⟨h1 _ _ (hr j u0 c h0 hc).1,(hr j u0 c h0 hc).2⟩
  |undef=>trivial
  |ba l=>exact h.elim
  |af q=>exact h1 (.af q) x h
  |ro f t=>exact h1 (.ro f t) x h
  |emp=>exact h1 .emp x h
  |own a b c e=>exact h1 (.own a b c e) x h
  |ref a b c e=>exact h1 (.ref a b c e) x h
  |wr w a b c e=>exact h1 (.wr w a b c e) x h
 cases v with
 |ba l=>
  obtain⟨vs,rfl,hl,hr⟩:=h;refine⟨vs,rfl,by simpa using hl,fun j u c hu hc=>?_⟩;rw [Zf] at hu;obtain⟨u0,h0,rfl⟩:=C1.1 hu;exact hA _ _ (hr j u0 c h0 hc)
 |agg l=>exact hA (.agg l) x h
 |undef=>trivial
 |af q=>exact hA (.af q) x h
 |ro f t=>exact hA (.ro f t) x h
 |emp=>exact hA .emp x h
 |own a b c e=>exact hA (.own a b c e) x h
 |ref a b c e=>exact hA (.ref a b c e) x h
 |wr w a b c e=>exact hA (.wr w a b c e) x h
theorem GX {C:CT}(hC:∀q ts r,C q ts r->iE P q ts r){o:Oper}{c:Call}{f:Operand}{q:FuncId}{ts:List T}{e:Operand->V}{oh:OH}{k:Acc->Prop}
  (ho:o.op=.call c) (hc:c.callee=.value f) (hf:V.fn? (e f)=some q) (hts:toTA (c.args.toList.map e)=some ts)
  (h:∃on v,C q ts (.Br on v)/\yZ oh on fun d=>k ⟨[],(ny d on).map (·.1),ny d on,v.sh d⟩):dt P o e oh k:=by
 obtain⟨on,v,hCC,d0,hfr,hk⟩:=h;obtain⟨⟨fn,hfn,hname,hbody⟩,hok⟩:=hC q ts (.Br on v) hCC
 have hfe:e f=.af (.func (.func q) #[] #[]):=by
  unfold V.fn? at hf;split at hf
  ·rename_i q' a b he;split at hf
   ·rename_i ha hb;have ha':a=#[]:=by rw [<- D8 (xs:=a),ha]
    have hb':b=#[]:=by rw [<- D8 (xs:=b),hb]
    rw [he,ha',hb'];simpa using hf
   ·cases hf
  ·cases hf
 have hmf:f ∈ o.op.operands:=by simp [ho,Op.operands,Call.operands,hc]
 have hma:∀x ∈ c.args.toList,x ∈ o.op.operands:=by
  intro x hx;simp only [ho,Op.operands,Call.operands,hc];simp at hx |-;exact .inr hx
 obtain⟨hl,htt⟩:=toTA_len hts;refine⟨_,?_,by simp,fun i hi=>?_,hk⟩
 ·intro g oh' w ρ hr hρ _ hnw;have hrf:=hρ f hmf;rw [hfe] at hrf
  have hex:(execOp ρ o).run P w=.ok (.enter q (c.args.map ρ)) w:=by
   have h1:fn.name≠ "runtime.NumGoroutine":=by simpa using hname
   have h2:fn.body≠none:=by intro e;simp [e] at hbody
   simp [execOp,ho,resolve,hc,hrf.1,Deferred.ofValue,invoke,callFunc,hfn,h1,h2]
  rw [hex]
  have hreads:Reads g.G ts (c.args.map ρ):=by
   refine⟨by simp [hl],fun j t x ht hx=>?_⟩;rw [L9] at hx;obtain⟨op,hop,rfl⟩:=C1.1 hx;have hop':c.args.toList[j]?=some op:=by simpa using hop
   exact toT_ok hr.hF (hρ op (hma op (MH hop'))) (htt j (e op) t (by rw [Zf,hop'];rfl) ht)
  refine(hok g.G w _ hr.hG hr.gl hreads).mono fun en w' hen=>?_
  obtain⟨x,gn,rfl,hb,hn,hrd,hG,hF,hO,hlv⟩:=hen;obtain⟨g',h1,h2,h3,h4⟩:=hr.Gu hb hn.toHR0 hG hF hO hlv hnw;exact⟨x,rfl,g',h1,QA h4 hrd,h2,h3⟩
 ·exact hfr i hi
theorem jF.mono {oh oh':OH}(h:∀i o,ae oh i=some o->ae oh' i=some o){f:Bool}{v:V}{t:T}(z:jF oh f v t):jF oh' f v t:=by
 induction z with
 |af v=>exact .af v
 |ro f' t hf=>exact .ro f' t hf
 |emp=>exact .emp
 |own id ver off len o ts ho hv hl hn hs hc ih=>exact .own id ver off len o ts (h _ _ ho) hv hl hn hs ih
 |ref id ver i foff o e ts ho hv hl he hn hc ih=>exact .ref id ver i foff o e ts (h _ _ ho) hv hl he hn ih
 |jq t id ver i foff u z ih=>exact .jq t id ver i foff u ih
theorem gM.mono {oh oh':OH}(h:∀i o,ae oh i=some o->ae oh' i=some o){f:Bool}{v:V}{t:T}(z:gM oh f v t):gM oh' f v t:=by
 cases v with
 |agg l=>
  cases t with
  |agg ts=>exact⟨z.1,fun j v t h1 h2=>(z.2 j v t h1 h2).mono h⟩
  |_=>exact z.elim
 |_=>exact jF.mono h z
theorem gS : ∀{oh:OH} {i:Nat} {o:Obj},ae oh i=some o->(i,o) ∈ oh
 |(j,o') :: r,i,o,h=>by
  unfold ae at h;split at h
  ·rename_i hj;subst hj;cases h;simp
  ·exact D5 _ (gS h)
theorem qC {S S':dS}{t:T}{v:Value}(hp:t.plain=true)(h:gD S t v):gD S' t v:=by
 cases h with
 |af v h=>exact .af v h
 |ba l vs hl h1 hr=>
  refine .ba l vs hl h1 fun j u c hu hc=>?_
  have:=hr j u c hu hc;have hu':u.LH=true:=(F8.1 (by simpa [T.plain] using hp)) u (MH hu)
  cases this with
  |af _ h=>exact .af _ h
  |_=>simp [T.LH] at hu'
 |_=>simp [T.plain] at hp
theorem Hb {C:CT}(hC:∀q ts r,C q ts r->iE P q ts r){o:Oper}{c:Call}{f:Operand}{q:FuncId}{e:Operand->V}{oh:OH}{k:Acc->Prop}
  (ho:o.op=.call c) (hc:c.callee=.value f) (hf:V.fn? (e f)=some q)
  (h:∃ts fr r,C q ts (.data fr r)/\∃pre:OH,(∀p ∈ pre,ae oh p.1=some p.2)/\TB pre (c.args.toList.map e) ts/\(fr ||r.plain)=true/\k ⟨pre,[],[],V.FE fr r⟩):dt P o e oh k:=by
 obtain⟨ts,fr,r,hCC,pre,hpre,hfz,hpl,hk⟩:=h;obtain⟨⟨fn,hfn,hname,hbody⟩,hok⟩:=hC q ts (.data fr r) hCC
 have hfe:e f=.af (.func (.func q) #[] #[]):=by
  unfold V.fn? at hf;split at hf
  ·rename_i q' a b he;split at hf
   ·rename_i ha hb;have ha':a=#[]:=by rw [<- D8 (xs:=a),ha]
    have hb':b=#[]:=by rw [<- D8 (xs:=b),hb]
    rw [he,ha',hb'];simpa using hf
   ·cases hf
  ·cases hf
 have hmf:f ∈ o.op.operands:=by simp [ho,Op.operands,Call.operands,hc]
 have hma:∀x ∈ c.args.toList,x ∈ o.op.operands:=by
  intro x hx;simp only [ho,Op.operands,Call.operands,hc];simp at hx |-;exact .inr hx
 refine⟨_,?_,fun i ob h=>hpre _ h,by simp,hk⟩;intro g oh' w ρ hr hρ hp _;have hrf:=hρ f hmf;rw [hfe] at hrf
 have hex:(execOp ρ o).run P w=.ok (.enter q (c.args.map ρ)) w:=by
  have h1:fn.name≠ "runtime.NumGoroutine":=by simpa using hname
  have h2:fn.body≠none:=by intro e;simp [e] at hbody
  simp [execOp,ho,resolve,hc,hrf.1,Deferred.ofValue,invoke,callFunc,hfn,h1,h2]
 rw [hex];let S:dS:=fun b o=>w.cell? ⟨b,o,none⟩
 have hfin:nL g oh' w false S:=⟨fun b o c hc=>hr.hG _ _ _ (hr.hF _ _ _ hc),fun _ b o c hc=>hr.hG _ _ _ hc,fun b _ o c hc=>hc⟩
 have hreads:Reads S ts (c.args.map ρ):=by
  refine⟨by have:=hfz.1;simp at this;simp [this],fun j t x ht hx=>?_⟩;rw [L9] at hx;obtain⟨op,hop,rfl⟩:=C1.1 hx;have hop':c.args.toList[j]?=some op:=by simpa using hop
  have hz:=hfz.2 j (e op) t (by rw [Zf,hop'];rfl) ht;exact(jh hr hfin (hz.mono fun i o hi=>hp i o (gS hi)) (hρ op (hma op (MH hop')))).1
 refine(hok S w _ (fun _ _ _ h=>h) (hr.gl.mono hr.hG) hreads).mono fun en w' hen=>?_
 obtain⟨v,N,rfl,hb,hN,hrd⟩:=hen;obtain⟨h1,h2,h3⟩:=hr.called hb hN;refine⟨v,rfl,_,h1,?_,h2,h3⟩;refine uk ?_
 cases fr with
 |true=>
  refine hrd.mono fun b o c hc=>?_
  show g.F.un N b o=some c;unfold dS.un
  cases hg:g.F b o with
  |none=>exact hc
  |some c'=>have:=cD (hr.hG _ _ _ (hr.hF b o c' hg));have:=(hN b o c hc).1;omega
 |false=>exact qC (by simpa using hpl) hrd
theorem Ea {gn:Gh}{on:OH}{v:V}{x:Value}(hv:v.VR=true)(h:bm gn on v x):bm ⟨gn.F,gn.F,gn.m,gn.cp⟩ on v x:=by
 cases v with
 |ro f t=>cases f with
  |true=>exact h
  |false=>cases hv
 |_=>exact h
theorem LQ {gn:Gh}{on:OH}{v:V}{x:Value}(hv:v.TI=true)(h:EA gn on v x):EA ⟨gn.F,gn.F,gn.m,gn.cp⟩ on v x:=by
 have k:=@Ea gn on v x
 cases v with
 |agg l=>
  obtain⟨cs,rfl,hl,hr⟩:=h;exact⟨cs,rfl,hl,fun j v c h1 h2=>⟨Ea (F8.1 hv v (MH h1)) (hr j v c h1 h2).1,(hr j v c h1 h2).2⟩⟩
 |_=>exact k hv h
theorem Vd {gn:Gh}{on:OH}{v:V}{x:Value}(hv:v.XB=true)(h:dd gn on v x):dd ⟨gn.F,gn.F,gn.m,gn.cp⟩ on v x:=by
 have k:=@LQ gn on v x
 cases v with
 |ba l=>
  obtain⟨cs,rfl,hl,hr⟩:=h;exact⟨cs,rfl,hl,fun j v c h1 h2=>LQ (F8.1 hv v (MH h1)) (hr j v c h1 h2)⟩
 |_=>exact k hv h
theorem LR {e : V} (h : e.TI = true) : ∀ v ∈ e.cells, v.VR = true := by
  cases e with
  | agg l => exact F8.1 h
  | _ => intro v hv; obtain rfl : v = _ := by simpa [V.cells] using hv
         exact h
theorem Ve {gn:Gh}{on:OH}{w:World}(h:HR0 gn on w)(he:∀p ∈ on,∀e ∈ p.2.el,e.TI=true):HR0 ⟨gn.F,gn.F,gn.m,gn.cp⟩ on w where
 hG b o c hc:=h.hG b o c (h.hF b o c hc)
 hF b o c hc:=hc
 obj i o ho hl:=by
  obtain⟨h1,h2⟩:=h.obj i o ho hl;refine⟨h1,fun b hb=>?_⟩;obtain⟨arr,ty,h3,h4,h5⟩:=h2 b hb;refine⟨arr,ty,h3,fun off=>?_,h5.1,h5.2.1,h5.2.2.1,fun k e hk=>?_⟩
  ·show gn.F b off=none
   cases hq:gn.F b off with
   |none=>rfl
   |some c=>have:=h.hF _ _ _ hq;rw [h4 off] at this;cases this
  ·obtain⟨q1,q2⟩:=h5.2.2.2 k e hk;have hf:=LR (he _ (gS ho) e (MH hk));exact⟨q1,fun j v hv=>let ⟨c,c1,c2,c3⟩:=q2 j v hv;⟨c,c1,c2,Ea (hf v (MH hv)) c3⟩⟩
 inj:=h.inj
 mp:=h.mp.sub fun i o ho _=>⟨ho,rfl⟩
theorem CO {C:CT}(hC:∀q ts r,C q ts r->iE P q ts r){o:Oper}{c:Call}{f:Operand}{q:FuncId}{e:Operand->V}{oh:OH}{k:Acc->Prop}
  (ho:o.op=.call c) (hc:c.callee=.value f) (hf:V.fn? (e f)=some q) (h:MT C q (c.args.toList.map e) oh k):dt P o e oh k:=by
 obtain⟨ts,on,v,pre,hCC,hpre,hfz,hv9,he9,d0,hfr,hk⟩:=h;obtain⟨⟨fn,hfn,hname,hbody⟩,hok⟩:=hC q ts (.Br on v) hCC
 have hfe:e f=.af (.func (.func q) #[] #[]):=by
  unfold V.fn? at hf;split at hf
  ·rename_i q' a b he;split at hf
   ·rename_i ha hb;have ha':a=#[]:=by rw [<- D8 (xs:=a),ha]
    have hb':b=#[]:=by rw [<- D8 (xs:=b),hb]
    rw [he,ha',hb'];simpa using hf
   ·cases hf
  ·cases hf
 have hmf:f ∈ o.op.operands:=by simp [ho,Op.operands,Call.operands,hc]
 have hma:∀x ∈ c.args.toList,x ∈ o.op.operands:=by
  intro x hx;simp only [ho,Op.operands,Call.operands,hc];simp at hx |-;exact .inr hx
 refine⟨_,?_,fun i ob h=>hpre _ h,fun i hi=>hfr i hi,hk⟩;intro g oh' w ρ hr hρ hp hnw;have hrf:=hρ f hmf;rw [hfe] at hrf
 have hex:(execOp ρ o).run P w=.ok (.enter q (c.args.map ρ)) w:=by
  have h1:fn.name≠ "runtime.NumGoroutine":=by simpa using hname
  have h2:fn.body≠none:=by intro e;simp [e] at hbody
  simp [execOp,ho,resolve,hc,hrf.1,Deferred.ofValue,invoke,callFunc,hfn,h1,h2]
 rw [hex];let S:dS:=fun b o=>w.cell? ⟨b,o,none⟩
 have hfin:nL g oh' w false S:=⟨fun b o c hc=>hr.hG _ _ _ (hr.hF _ _ _ hc),fun _ b o c hc=>hr.hG _ _ _ hc,fun b _ o c hc=>hc⟩
 have hreads:Reads S ts (c.args.map ρ):=by
  refine⟨by have:=hfz.1;simp at this;simp [this],fun j t x ht hx=>?_⟩;rw [L9] at hx;obtain⟨op,hop,rfl⟩:=C1.1 hx;have hop':c.args.toList[j]?=some op:=by simpa using hop
  have hz:=hfz.2 j (e op) t (by rw [Zf,hop'];rfl) ht;exact(jh hr hfin (hz.mono fun i o hi=>hp i o (gS hi)) (hρ op (hma op (MH hop')))).1
 refine(hok S w _ (fun _ _ _ h=>h) (hr.gl.mono hr.hG) hreads).mono fun en w' hen=>?_
 obtain⟨x,gn,rfl,hb,hn,hrd,hG,hF,hO,hlv⟩:=hen;obtain⟨g',h1,h2,h3,h4⟩:=hr.Gu hb (Ve hn.toHR0 he9) (fun b o c hc=>.inr (hF b o c hc)) hF hO hlv hnw;exact⟨x,rfl,g',h1,QA h4 (Vd hv9 hrd),h2,h3⟩
theorem gf {F:MO->Nat×Obj}(hF:∀x,(F x).1=x.id):∀{M:List MO},(M.map (·.id)).Nodup->∀x ∈ M,ae (M.map F) x.id=some (F x).2
 |y :: r,hn,x,hx=>by
  simp only [E7,List.nodup_cons] at hn;rcases B5.1 hx with rfl|hx
  ·rw [E7,show F x=(x.id,(F x).2) from Prod.ext (hF x) rfl,an]
  ·have hne:x.id≠y.id:=fun e=>hn.1 (by rw [<- e];exact D4.2 ⟨x,hx,rfl⟩)
   rw [E7,show F y=(y.id,(F y).2) from Prod.ext (hF y) rfl,ah _ _ hne];exact gf hF hn.2 x hx
theorem bP {F:MO->Nat×Obj}{i:Nat}{o:Obj}:∀{M:List MO},ae (M.map F) i=some o->∃x ∈ M,(F x).1=i/\o=(F x).2
 |y :: r,h=>by
  rw [E7,show F y=((F y).1,(F y).2) from rfl] at h;unfold ae at h;split at h
  ·rename_i e;exact⟨y,by simp,e,by simpa using h.symm⟩
  ·obtain⟨x,hx,h1,h2⟩:=bP h;exact⟨x,by simp [hx],h1,h2⟩
theorem DL {M:List MO}:∀i o,ae (M.map MO.pre) i=some o->o.live=true:=by
 intro i o hi;obtain⟨x,hx,rfl,rfl⟩:=bP hi;rfl
theorem xV {g g':Gh}{oh oh':OH}{sz k:Nat}{arr:Array Value}{e:V}(hs:e.oU)(h:rZ g oh sz arr k e):rZ g' oh' sz arr k e:=by
 refine⟨h.1,fun j v hv=>?_⟩;obtain⟨c,h1,h2,h3⟩:=h.2 j v hv;refine⟨c,h1,h2,?_⟩
 have:∃q,v=.af q:=by
  cases e with
  |af q=>cases j with
   |zero=>exact⟨q,by simpa [V.cells] using hv.symm⟩
   |succ j=>simp [V.cells] at hv
  |agg l=>exact hs v (MH (by simpa [V.cells] using hv))
  |_=>exact hs.elim
 obtain⟨q,rfl⟩:=this;exact h3
def Gh.view (g:Gh)(M:List MO)(m:Nat->Nat):Gh:=⟨g.G,fun _ _=>none,fun i=>if(ae (M.map MO.pre) i).isSome=true then g.m (m i) else none,fun i=>g.cp (m i)⟩
section
variable {M : List MO} {m vo : Nat -> Nat}
theorem lL (hn:(M.map (·.id)).Nodup){x:MO}(hx:x ∈ M):(g.view M m).m x.id=g.m (m x.id):=by
 simp [Gh.view,gf (F:=MO.pre) (fun _=>rfl) hn x hx]
theorem Nr (h:HR g oh w)(hn:(M.map (·.id)).Nodup)(hs:∀x ∈ M,∀e ∈ x.a,e.oU)(ho:∀x ∈ M,ae oh (m x.id)=some ⟨x.sz,x.a,vo x.id,true⟩)
  (hinj:∀x ∈ M,∀y ∈ M,m x.id=m y.id->x.id=y.id):HR (g.view M m) (M.map MO.pre) w:=by
 refine⟨⟨h.hG,fun _ _ _ h=>by simp [Gh.view] at h,fun i o hi hl=>?_,fun i j oi oj b hi hj hli hlj hmi hmj=>?_,jm.none DL⟩,h.gl⟩
 ·obtain⟨x,hx,rfl,rfl⟩:=bP hi;obtain⟨h1,h2⟩:=h.obj _ _ (ho x hx) rfl;refine⟨fun hm=>h1 (by rw [<- lL hn hx];exact hm),fun b hb=>?_⟩;obtain⟨arr,ty,hh,hg,hba⟩:=h2 b (by rw [<- lL hn hx];exact hb);exact⟨arr,ty,hh,hg,hba.1,hba.2.1,hba.2.2.1,fun k e he=>xV (hs x hx e (MH he)) (hba.2.2.2 k e he)⟩
 ·obtain⟨x,hx,rfl,rfl⟩:=bP hi;obtain⟨y,hy,rfl,rfl⟩:=bP hj;exact hinj x hx y hy (h.inj _ _ _ _ b (ho x hx) (ho y hy) rfl rfl (by rw [<- lL hn hx];exact hmi) (by rw [<- lL hn hy];exact hmj))
theorem Ji (hF:∀b o c,g.F b o=some c->g.G b o=some c)(hn:(M.map (·.id)).Nodup)(ho:∀x ∈ M,ae oh (m x.id)=some ⟨x.sz,x.a,vo x.id,true⟩)
  {v u:V} {x:Value} (ha:IU m vo v u) (hu:It M u) (h:bm g oh v x):bm (g.view M m) (M.map MO.pre) u x:=by
 cases ha with
 |af v=>exact h
 |ro f t=>
  refine⟨h.1.mono ?_,h.2⟩;cases f
  ·exact fun _ _ _ h=>h
  ·exact hF
 |emp=>exact h
 |own i off len=>
  obtain⟨y,hy,rfl⟩:=hu;obtain⟨h1,o,h2,h3,h4⟩:=h;rw [ho y hy] at h2;obtain rfl:(⟨y.sz,y.a,vo y.id,true⟩:Obj)=o:=by simpa using h2
  refine⟨h1,_,gf (F:=MO.pre) (fun _=>rfl) hn y hy,wU _,fun _ _=>?_⟩;obtain⟨a,cap,e1,e2,e3,e4⟩:=h4 rfl rfl
  exact⟨a,cap,e1,e2,e3,fun hc=>by
   obtain⟨b,q1,q2,q3⟩:=e4 hc
   exact⟨b,by rw [lL hn hy];exact q1,q2,q3⟩⟩
 |ref i k foff=>
  obtain⟨y,hy,rfl⟩:=hu;obtain⟨h1,o,h2,h3,h4⟩:=h;rw [ho y hy] at h2;obtain rfl:(⟨y.sz,y.a,vo y.id,true⟩:Obj)=o:=by simpa using h2
  refine⟨yj h1.1 (gf (F:=MO.pre) (fun _=>rfl) hn y hy) rfl,_,gf (F:=MO.pre) (fun _=>rfl) hn y hy,wU _,fun _ _=>?_⟩;obtain⟨b,q1,q2⟩:=h4 rfl rfl;exact⟨b,by rw [lL hn hy];exact q1,q2⟩
theorem HR.PQ (h:HR g oh w){w':World}{g2:Gh}{N:dS}(hn:(M.map (·.id)).Nodup)(hwf:∀x ∈ M,0 < x.sz/\x.a.length=x.b.length/\(∀e ∈ x.a,e.oU)/\(∀e ∈ x.b,e.oU))
  (ho:∀x ∈ M,ae oh (m x.id)=some ⟨x.sz,x.a,vo x.id,true⟩) (hinj:∀x ∈ M,∀y ∈ M,m x.id=m y.id->x.id=y.id)
  (h2:HR g2 (M.map MO.post) w') (hf:Fr (g.view M m) (M.map MO.pre) w g2 (M.map MO.post) w') (hm2:∀x ∈ M,x.a≠[]->g2.m x.id=(g.view M m).m x.id)
  (hN:∀b o c,N b o=some c->w.heap.size<=b/\w'.cell? ⟨b,o,none⟩=some c) :
  HR { g with G:=g.G.un N,F:=g.F.un N } (M.map (fun x=>(m x.id,(⟨x.sz,x.b,vo x.id,true⟩:Obj))) ++ oh) w'/\
   cx g oh { g with G:=g.G.un N,F:=g.F.un N } (M.map (fun x=>(m x.id,(⟨x.sz,x.b,vo x.id,true⟩:Obj))) ++ oh)/\
   Fr g oh w { g with G:=g.G.un N,F:=g.F.un N } (M.map (fun x=>(m x.id,(⟨x.sz,x.b,vo x.id,true⟩:Obj))) ++ oh) w':=by
 have hGlt:∀b o c,g.G b o=some c->b < w.heap.size:=fun b o c hc=>cD (h.hG b o c hc)
 have hG:∀b o c,g.G b o=some c->g.G.un N b o=some c:=fun b o c hc=>by simp [dS.un,hc]
 have hFm:∀b o c,g.F b o=some c->g.F.un N b o=some c:=fun b o c hc=>by simp [dS.un,hc]
 have split:∀(S:dS) b o c,S.un N b o=some c->S b o=some c\/N b o=some c:=by
  intro S b o c hc;unfold dS.un at hc;split at hc
  ·rename_i c' hc';left;rw [hc'];simpa using hc
  ·exact .inr hc
 have hnew:∀i o,ae (M.map (fun x=>(m x.id,(⟨x.sz,x.b,vo x.id,true⟩:Obj))) ++ oh) i=some o->
   (∃x ∈ M,i=m x.id/\o=⟨x.sz,x.b,vo x.id,true⟩)\/(ae oh i=some o/\∀x ∈ M,m x.id≠i):=by
  intro i o hi;rw [dG] at hi
  cases hq:ae (M.map (fun x=>(m x.id,(⟨x.sz,x.b,vo x.id,true⟩:Obj)))) i with
  |some o'=>
   rw [hq] at hi;obtain rfl:o'=o:=by simpa using hi
   obtain⟨x,hx,e1,e2⟩:=bP hq;exact .inl ⟨x,hx,e1.symm,e2⟩
  |none=>
   rw [hq] at hi;refine .inr ⟨hi,fun x hx e=>?_⟩
   have:∀(L:List MO),x ∈ L->ae (L.map (fun x=>(m x.id,(⟨x.sz,x.b,vo x.id,true⟩:Obj)))) (m x.id)≠none:=by
    intro L hL
    induction L with
    |nil=>simp at hL
    |cons y r ih=>
     simp only [E7,ae];split
     ·simp
     ·rename_i hne;rcases B5.1 hL with rfl|hL
      ·exact absurd rfl hne
      ·exact ih hL
   exact this M hx (e▸hq)
 have hold:∀x ∈ M,ae (M.map (fun x=>(m x.id,(⟨x.sz,x.b,vo x.id,true⟩:Obj))) ++ oh) (m x.id)=some ⟨x.sz,x.b,vo x.id,true⟩:=by
  intro x hx
  cases hq:ae (M.map (fun x=>(m x.id,(⟨x.sz,x.b,vo x.id,true⟩:Obj))) ++ oh) (m x.id) with
  |none=>
   rw [dG] at hq;split at hq
   ·cases hq
   ·rw [ho x hx] at hq;cases hq
  |some o=>
   rcases hnew _ _ hq with⟨y,hy,e1,rfl⟩|⟨h1,h2⟩
   ·have e:=hinj x hx y hy e1
    have hxy:x=y:=by
     have:=gf (F:=MO.post) (fun _=>rfl) hn x hx;have h3:=gf (F:=MO.post) (fun _=>rfl) hn y hy;have h4:=gf (F:=MO.pre) (fun _=>rfl) hn x hx;have h5:=gf (F:=MO.pre) (fun _=>rfl) hn y hy;rw [e,h3] at this;rw [e,h5] at h4;obtain⟨i1,s1,a1,b1⟩:=x;obtain⟨i2,s2,a2,b2⟩:=y;simp [MO.post] at this;simp [MO.pre] at h4;simp at e;simp [e,this,h4]
    rw [hxy]
   ·exact absurd rfl (h2 x hx)
 have hownpre:∀b,cw (g.view M m) (M.map MO.pre) b->∃x ∈ M,g.m (m x.id)=some b:=by
  rintro b ⟨i,o,hi,_,hmi⟩;obtain⟨x,hx,rfl,rfl⟩:=bP hi;exact⟨x,hx,by rw [<- lL hn hx];exact hmi⟩
 have hown:∀b,cw (g.view M m) (M.map MO.pre) b->cw g oh b:=by
  intro b hb;obtain⟨x,hx,hmx⟩:=hownpre b hb;exact⟨m x.id,_,ho x hx,rfl,hmx⟩
 have hkeep:∀b,b < w.heap.size->(∀x ∈ M,g.m (m x.id)≠some b)->w'.heap[b]?=w.heap[b]?:=by
  intro b hb hne;refine hf.km b hb (fun hb2=>?_) (sP.none DL);obtain⟨x,hx,hmx⟩:=hownpre b hb2;exact hne x hx hmx
 have hmono:cx g oh { g with G:=g.G.un N,F:=g.F.un N } (M.map (fun x=>(m x.id,(⟨x.sz,x.b,vo x.id,true⟩:Obj))) ++ oh):=by
  refine bm.lift hFm hG fun id o hid=>?_
  by_cases e:∃x ∈ M,m x.id=id
  ·obtain⟨x,hx,rfl⟩:=e;rw [ho x hx] at hid;obtain rfl:(⟨x.sz,x.a,vo x.id,true⟩:Obj)=o:=by simpa using hid
   exact⟨_,hold x hx,wU _,fun h=>absurd h (eN rfl),fun _ _=>⟨rfl,rfl,R5 (hwf x hx).2.1,rfl,rfl⟩⟩
  ·refine⟨o,?_,wU _,fun h=>⟨h,rfl⟩,fun _ hl=>⟨hl,rfl,wU _,rfl,rfl⟩⟩;rw [dG]
   cases hq:ae (M.map (fun x=>(m x.id,(⟨x.sz,x.b,vo x.id,true⟩:Obj)))) id with
   |none=>exact hid
   |some o'=>
    obtain⟨x,hx,e1,_⟩:=bP hq;exact absurd ⟨x,hx,e1⟩ e
 have hms:∀i o,ae (M.map (fun x=>(m x.id,(⟨x.sz,x.b,vo x.id,true⟩:Obj))) ++ oh) i=some o->jg o->ae oh i=some o/\g.m i=g.m i:=by
  intro i o hi hmp;rcases hnew i o hi with⟨x,hx,rfl,rfl⟩|⟨h1,_⟩
  ·exact absurd hmp (eN rfl)
  ·exact⟨h1,rfl⟩
 refine⟨⟨⟨?_,?_,?_,?_,jm.of (g:={ g with G:=g.G.un N,F:=g.F.un N }) (h.mp.sub hms) fun b hmb=>hkeep b (h.mp.lt (hmb.sub hms)) fun x hx hmx=>?_⟩,h.gl.mono hG⟩,hmono,⟨hf.os,hf.tape,hf.output,hf.size,?_,?_,hG,hFm,?_,?_,hf.Gx,fun b hmb=>.inl (hmb.sub hms)⟩⟩
 ·intro b o c hc;rcases split _ b o c hc with h'|h'
  ·have hlt:=hGlt b o c h';rw [cell_of_heap (hkeep b hlt fun x hx hmx=>?_)]
   ·exact h.hG b o c h'
   ·obtain⟨_,_,_,hg,_⟩:=(h.obj _ _ (ho x hx) rfl).2 b hmx;rw [hg] at h';cases h'
  ·exact(hN b o c h').2
 ·intro b o c hc;rcases split _ b o c hc with h'|h'
  ·exact hG b o c (h.hF b o c h')
  ·show g.G.un N b o=some c;unfold dS.un
   cases hg:g.G b o with
   |none=>exact h'
   |some c'=>have:=hGlt b o c' hg;have:=(hN b o c h').1;omega
 ·intro i o hi hl
  have hGn:∀b,b < w.heap.size->(∀off,g.G b off=none)->∀off,g.G.un N b off=none:=by
   intro b hlt hg off
   cases hu:g.G.un N b off with
   |none=>rfl
   |some c=>
    rcases split _ b off c hu with h'|h'
    ·rw [hg] at h';cases h'
    ·have:=(hN b off c h').1;omega
  rcases hnew i o hi with⟨x,hx,rfl,rfl⟩|⟨hi',hne⟩
  ·obtain⟨hsz,hlen,_,hsb⟩:=hwf x hx;obtain⟨h1,h3⟩:=h.obj _ _ (ho x hx) rfl;refine⟨fun hmn=>C8 (by rw [<- hlen,show x.a=[] from h1 hmn];rfl),fun b hb=>?_⟩;obtain⟨arr,ty,hh,hg,hba⟩:=h3 b hb;have hlt:=bh hh;obtain⟨arr2,hh2,hs2⟩:=hf.Gx b arr ty (0,0) hh;refine⟨arr2,ty,hh2,hGn b hlt hg,by rw [hs2];exact hba.1,by show x.b.length<=_;rw [<- hlen];exact hba.2.1,hba.2.2.1,fun k e he=>?_⟩;have hk:k < x.b.length:=(yK.1 he).1;have hne:x.a≠[]:=fun e0=>by rw [e0] at hlen;simp at hlen;omega
   have hmm:g2.m x.id=some b:=by rw [hm2 x hx hne,lL hn hx];exact hb
   obtain⟨arr3,ty3,hh3,_,hba3⟩:=(h2.obj x.id _ (gf (F:=MO.post) (fun _=>rfl) hn x hx) rfl).2 b hmm;rw [hh2] at hh3;simp only [N9,Go.Obj.cells.injEq] at hh3;obtain⟨rfl,_,_⟩:=hh3;exact xV (hsb e (MH he)) (hba3.2.2.2 k e he)
  ·obtain⟨h1,h3⟩:=h.obj i o hi' hl;refine⟨h1,fun b hb=>?_⟩;obtain⟨arr,ty,hh,hg,hba⟩:=h3 b hb;have hlt:=bh hh;refine⟨arr,ty,(hkeep b hlt fun x hx hmx=>hne x hx (h.inj _ _ _ _ b (ho x hx) hi' rfl hl hmx hb)).trans hh,hGn b hlt hg,hba.mono hmono⟩
 ·intro i j oi oj b hi hj hli hlj hmi hmj
  have back:∀i o,ae (M.map (fun x=>(m x.id,(⟨x.sz,x.b,vo x.id,true⟩:Obj))) ++ oh) i=some o->o.live=true->∃o',ae oh i=some o'/\o'.live=true:=by
   intro i o hi hl;rcases hnew i o hi with⟨x,hx,rfl,rfl⟩|⟨hi',_⟩
   ·exact⟨_,ho x hx,rfl⟩
   ·exact⟨o,hi',hl⟩
  obtain⟨oi',hi',hli'⟩:=back i oi hi hli;obtain⟨oj',hj',hlj'⟩:=back j oj hj hlj;exact h.inj i j oi' oj' b hi' hj' hli' hlj' hmi hmj
 ·obtain⟨arr,ty,hh,_⟩:=(h.obj _ _ (ho x hx) rfl).2 b hmx;obtain⟨es,clock,hh2⟩:=h.mp.block (hmb.sub hms);rw [hh] at hh2;cases hh2
 ·intro b hlt hnb _;exact hf.km b hlt (fun hb=>hnb (hown b hb)) (sP.none DL)
 ·rintro b ⟨i,o,hi,hl,hmi⟩;left;rcases hnew i o hi with⟨x,hx,rfl,rfl⟩|⟨hi',_⟩
  ·exact⟨m x.id,_,ho x hx,rfl,hmi⟩
  ·exact⟨i,o,hi',hl,hmi⟩
 ·intro b o c hc;rcases split _ b o c hc with h'|h'
  ·exact .inl h'
  ·exact .inr (.inr (hN b o c h').1)
 ·intro b o c hc;rcases split _ b o c hc with h'|h'
  ·exact .inl h'
  ·exact .inr (.inr (hN b o c h').1)
end
theorem GA {m vo:Nat->Nat}:∀{l k:List V},Xg m vo l k->l.length=k.length/\∀(j:Nat) (v u:V),l[j]?=some v->k[j]?=some u->IU m vo v u
 | [],[],_=>⟨rfl,fun j v u h=>by simp at h⟩
 |a :: r,b :: s,h=>by
  obtain⟨h1,h2⟩:=GA h.2;refine⟨by simp [h1],fun j x y hx hy=>?_⟩
  cases j with
  |zero=>simp at hx hy;subst hx;subst hy;exact h.1
  |succ j=>simp at hx hy;exact h2 j x y hx hy
 | [],_ :: _,h=>h.elim
 |_ :: _,[],h=>h.elim
theorem GH {m vo:Nat->Nat}:∀{l k:List V},VX m vo l k->l.length=k.length/\∀(j:Nat) (v u:V),l[j]?=some v->k[j]?=some u->Xp m vo v u
 | [],[],_=>⟨rfl,fun j v u h=>by simp at h⟩
 |a :: r,b :: s,h=>by
  obtain⟨h1,h2⟩:=GH h.2;refine⟨by simp [h1],fun j x y hx hy=>?_⟩
  cases j with
  |zero=>simp at hx hy;subst hx;subst hy;exact h.1
  |succ j=>simp at hx hy;exact h2 j x y hx hy
 | [],_ :: _,h=>h.elim
 |_ :: _,[],h=>h.elim
def Tb (M:List MO):V->Prop
 |.agg l=>∀v ∈ l,It M v
 |v=>It M v
theorem Ca {M:List MO}:∀{k:List V},Is M k->∀u ∈ k,Tb M u
 |v :: r,h,u,hu=>by
  have h2:Tb M v/\Is M r:=by cases v<;>exact h
  rcases B5.1 hu with rfl|hu
  ·exact h2.1
  ·exact Ca h2.2 u hu
theorem Nq {M:List MO}{m vo:Nat->Nat}(hF:∀b o c,g.F b o=some c->g.G b o=some c)(hn:(M.map (·.id)).Nodup)(ho:∀x ∈ M,ae oh (m x.id)=some ⟨x.sz,x.a,vo x.id,true⟩)
  {v u:V} {x:Value} (ha:Xp m vo v u) (hu:Tb M u) (h:dd g oh v x):dd (g.view M m) (M.map MO.pre) u x:=by
 have one:∀v u x,IU m vo v u->It M u->bm g oh v x->bm (g.view M m) (M.map MO.pre) u x:=fun v u x h1 h2 h3=>Ji hF hn ho h1 h2 h3
 cases u with
 |agg l=>
  cases v with
  |agg l'=>
   obtain⟨cs,rfl,hl,hc⟩:=h;obtain⟨h1,h2⟩:=GA ha;refine⟨cs,rfl,by omega,fun j u c hju hjc=>?_⟩;have hj:j < l'.length:=by rw [h1];exact(yK.1 hju).1
   have hv:=uz hj;exact⟨one _ _ _ (h2 j _ u hv hju) (hu u (MH hju)) (hc j _ c hv hjc).1,(hc j _ c hv hjc).2⟩
  |_=>exact ha.elim
 |af w=>cases ha;exact one _ _ _ (.af w) hu h
 |ro f t=>cases ha with | ro f' t=>exact one _ _ _ (.ro f' t) hu h
 |emp=>cases ha;exact one _ _ _ .emp hu h
 |own i ver off len=>cases ha;exact one _ _ _ (.own i off len) hu h
 |ref i ver k foff=>cases ha;exact one _ _ _ (.ref i k foff) hu h
 |wr w i ver k foff=>cases ha
 |undef=>cases ha
 |ba l=>cases ha
theorem GY {C:CT}(hC:∀q ts r,C q ts r->iE P q ts r){o:Oper}{c:Call}{f:Operand}{q:FuncId}{e:Operand->V}{oh:OH}{k:Acc->Prop}
  (ho:o.op=.call c) (hc:c.callee=.value f) (hf:V.fn? (e f)=some q) (h:Tz C q (c.args.toList.map e) oh k):dt P o e oh k:=by
 obtain⟨M,vs,fr,r,m,vo,hCC,hcov,har,hob,hinj,hpl,hk⟩:=h;obtain⟨⟨fn,hfn,hname,hbody⟩,hwf,hnd,hok⟩:=hC q [] (.OZ M vs fr r) hCC
 have hfe:e f=.af (.func (.func q) #[] #[]):=by
  unfold V.fn? at hf;split at hf
  ·rename_i q' a b he;split at hf
   ·rename_i ha hb;have ha':a=#[]:=by rw [<- D8 (xs:=a),ha]
    have hb':b=#[]:=by rw [<- D8 (xs:=b),hb]
    rw [he,ha',hb'];simpa using hf
   ·cases hf
  ·cases hf
 have hmf:f ∈ o.op.operands:=by simp [ho,Op.operands,Call.operands,hc]
 have hma:∀x ∈ c.args.toList,x ∈ o.op.operands:=by
  intro x hx;simp only [ho,Op.operands,Call.operands,hc];simp at hx |-;exact .inr hx
 refine⟨_,?_,fun i ob h=>?_,by simp,hk⟩
 ·intro g oh' w ρ hr hρ hp _;have hrf:=hρ f hmf;rw [hfe] at hrf
  have hex:(execOp ρ o).run P w=.ok (.enter q (c.args.map ρ)) w:=by
   have h1:fn.name≠ "runtime.NumGoroutine":=by simpa using hname
   have h2:fn.body≠none:=by intro e;simp [e] at hbody
   simp [execOp,ho,resolve,hc,hrf.1,Deferred.ofValue,invoke,callFunc,hfn,h1,h2]
  rw [hex];have hob':∀x ∈ M,ae oh' (m x.id)=some ⟨x.sz,x.a,vo x.id,true⟩:=fun x hx=>hp _ _ (D4.2 ⟨x,hx,rfl⟩)
  obtain⟨hal,hag⟩:=GH har;refine(hok (g.view M m) w _ rfl (Nr hr hnd (fun x hx=>(hwf x hx).2.2.1) hob' hinj) (by simpa using hal) fun j u x hju hjx=>?_).mono fun en w' hen=>?_
  ·rw [L9] at hjx;obtain⟨op,hop,rfl⟩:=C1.1 hjx;have hop':c.args.toList[j]?=some op:=by simpa using hop
   exact Nq hr.hF hnd hob' (hag j (e op) u (by rw [Zf,hop'];rfl) hju) (Ca hcov u (MH hju)) (hρ op (hma op (MH hop')))
  ·obtain⟨v,g2,N,rfl,h2,hf2,hm2,hN,hrd⟩:=hen;obtain⟨h5,h6,h7⟩:=hr.PQ hnd hwf hob' hinj h2 hf2 hm2 hN;refine⟨v,rfl,_,h5,?_,h6,h7⟩;refine uk ?_
   replace hrd:=hrd hpl
   cases fr with
   |true=>
    refine hrd.mono fun b o c hc=>?_
    show g.F.un N b o=some c;unfold dS.un
    cases hg:g.F b o with
    |none=>exact hc
    |some c'=>have:=cD (hr.hG _ _ _ (hr.hF b o c' hg));have:=(hN b o c hc).1;omega
   |false=>exact qC (by simpa using hpl) hrd
 ·obtain⟨x,hx,e1⟩:=D4.1 h;simp only [O8] at e1;rw [<- e1.1,<- e1.2];exact hob x hx
section
variable {m vo : Nat -> Nat} {pre on oh2 : OH}
theorem Bq {l:OH}:∀{k:Nat} {o:Obj},ae (pN m vo l) k=some o->∃i o1,(i,o1) ∈ l/\m i=k/\o=o1.rn m vo i:=by
 induction l with
 |nil=>intro k o h;cases h
 |cons p r ih=>
  intro k o h;rw [pN,E7] at h;unfold ae at h;split at h
  ·rename_i e;exact⟨p.1,p.2,by simp,e,by simpa using h.symm⟩
  ·obtain⟨i,o1,h1,h2,h3⟩:=ih h;exact⟨i,o1,by simp [h1],h2,h3⟩
theorem yz {l:OH}(hinj:∀i ∈ l.map (·.1),∀j ∈ l.map (·.1),m i=m j->i=j):∀{i:Nat} {o:Obj},ae l i=some o->ae (pN m vo l) (m i)=some (o.rn m vo i):=by
 induction l with
 |nil=>intro i o h;cases h
 |cons p r ih=>
  intro i o h;obtain⟨c,ob⟩:=p;rw [pN,E7];by_cases e:i=c
  ·subst e;rw [an] at h;obtain rfl:ob=o:=by simpa using h
   exact an _ _ _
  ·rw [ah _ _ e] at h;have hi:i ∈ r.map (·.1):=D4.2 ⟨(i,o),gS h,rfl⟩;rw [ah _ _ (fun e2=>e (hinj i (by rw [E7];exact D5 _ hi) c (by simp) e2))];exact ih (fun i hi j hj=>hinj i (D5 _ hi) j (D5 _ hj)) h
def Gh.ic (g:Gh)(m:Nat->Nat):Gh:=⟨g.G,g.F,fun i=>g.m (m i),fun i=>g.cp (m i)⟩
theorem fI (hp:∀i o,ae pre i=some o->ae oh (m i)=some (o.rn m vo i)){v:V}{x:Value}(hc:v.Gs pre)(h:bm g oh (v.Sb m vo) x):bm (g.ic m) pre v x:=by
 have hR:∀(i ver k foff:Nat) (x:Value),(ae pre i).isSome=true->vW g oh (m i) (vo i+ver) k foff x->vW (g.ic m) pre i ver k foff x:=by
  intro i ver k foff x hc h;obtain⟨o,ho⟩:=E1.1 hc;obtain⟨h1,o2,h2,h3,h4⟩:=h;rw [hp i o ho] at h2;obtain rfl:o.rn m vo i=o2:=by simpa using h2
  refine⟨⟨h1.1,fun q hq hmp=>h1.2 (q.rn m vo i) (hp i q hq) hmp⟩,o,ho,by have:vo i+ver<=vo i+o.ver:=h3;omega,fun e hl=>?_⟩;exact h4 (by show vo i+o.ver=vo i+ver;omega) hl
 cases v with
 |undef=>trivial
 |af q=>exact h
 |ro f t=>exact⟨by cases f<;>exact h.1,h.2⟩
 |emp=>exact h
 |own i ver off len=>
  obtain⟨o,ho⟩:=E1.1 hc;obtain⟨h1,o2,h2,h3,h4⟩:=h;rw [hp i o ho] at h2;obtain rfl:o.rn m vo i=o2:=by simpa using h2
  refine⟨h1,o,ho,by have:vo i+ver<=vo i+o.ver:=h3;omega,fun e hl=>?_⟩;obtain⟨a,cap,e1,e2,e3,e4⟩:=h4 (by show vo i+o.ver=vo i+ver;omega) hl;exact⟨a,cap,e1,e2,by simpa [Obj.rn] using e3,e4⟩
 |ref i ver k foff=>exact hR i ver k foff x hc h
 |wr w i ver k foff=>obtain⟨y,hy,e⟩:=h;exact⟨y,hR i ver k foff y hc hy,e⟩
 |agg l=>exact h.elim
 |ba l=>exact h.elim
theorem wC (v:V):(v.oI m vo).cells=v.cells.map (V.Sb m vo):=by cases v<;>rfl
theorem Ms {v:V}(h:v.cl pre):∀u ∈ v.cells,u=.undef\/u.Gs pre:=by
 intro u hu
 cases v with
 |agg l=>exact .inr (h u hu)
 |undef=>left;simpa [V.cells] using hu
 |ba l=>exact h.elim
 |af q=>right;rw [show u=V.af q by simpa [V.cells] using hu];exact h
 |ro f t=>right;rw [show u=V.ro f t by simpa [V.cells] using hu];exact h
 |emp=>right;rw [show u=V.emp by simpa [V.cells] using hu];exact h
 |own i a b c=>right;rw [show u=V.own i a b c by simpa [V.cells] using hu];exact h
 |ref i a b c=>right;rw [show u=V.ref i a b c by simpa [V.cells] using hu];exact h
 |wr w i a b c=>right;rw [show u=V.wr w i a b c by simpa [V.cells] using hu];exact h
theorem Jj (hp:∀i o,ae pre i=some o->ae oh (m i)=some (o.rn m vo i)){v:V}{x:Value}(hc:v.cl pre)(h:dd g oh (v.oI m vo) x):dd (g.ic m) pre v x:=by
 cases v with
 |agg l=>
  obtain⟨cs,rfl,hl,hr⟩:=h;refine⟨cs,rfl,by simpa using hl,fun j u c hu hcj=>?_⟩;obtain⟨r1,r2⟩:=hr j (u.Sb m vo) c (by rw [Zf,hu];rfl) hcj;exact⟨fI hp (hc u (MH hu)) r1,r2⟩
 |undef=>trivial
 |ba l=>exact hc.elim
 |af q=>exact fI (g:=g) (oh:=oh) (v:=.af q) hp hc h
 |ro f t=>exact fI (g:=g) (oh:=oh) (v:=.ro f t) hp hc h
 |emp=>exact fI (g:=g) (oh:=oh) (v:=.emp) hp hc h
 |own i a b c=>exact fI (g:=g) (oh:=oh) (v:=.own i a b c) hp hc h
 |ref i a b c=>exact fI (g:=g) (oh:=oh) (v:=.ref i a b c) hp hc h
 |wr w i a b c=>exact fI (g:=g) (oh:=oh) (v:=.wr w i a b c) hp hc h
theorem Jk (h:HR g oh w)(hp:∀i o,ae pre i=some o->ae oh (m i)=some (o.rn m vo i))(hinj:∀i j,(ae pre i).isSome=true->(ae pre j).isSome=true->m i=m j->i=j)
  (hcl:∀i o,ae pre i=some o->∀v ∈ o.el,v.cl pre) (hlv:∀i o,ae pre i=some o->o.live=true):HR (g.ic m) pre w:=by
 refine⟨⟨h.hG,h.hF,fun i o hi hl=>?_,fun i j oi oj b hi hj hli hlj hmi hmj=>?_,jm.none hlv⟩,h.gl⟩
 ·obtain⟨h1,h2⟩:=h.obj _ _ (hp i o hi) hl;refine⟨fun hm=>by simpa [Obj.rn] using h1 hm,fun b hb=>?_⟩;obtain⟨arr,ty,hh,hg,hba⟩:=h2 b hb;refine⟨arr,ty,hh,hg,hba.1,by simpa [Obj.rn,Gh.ic] using hba.2.1,hba.2.2.1,fun k e he=>?_⟩;obtain⟨q1,q2⟩:=hba.2.2.2 k (e.oI m vo) (by show(o.el.map _)[k]?=_;rw [Zf,he];rfl);rw [wC] at q1 q2;refine⟨by simpa [Obj.rn] using q1,fun j v hv=>?_⟩;obtain⟨c,c1,c2,c3⟩:=q2 j (v.Sb m vo) (by rw [Zf,hv];rfl);refine⟨c,c1,c2,?_⟩;rcases Ms (hcl i o hi e (MH he)) v (MH hv) with rfl|hc
  ·trivial
  ·exact fI hp hc c3
 ·exact hinj i j (by simp [hi]) (by simp [hj]) (h.inj _ _ _ _ b (hp i oi hi) (hp j oj hj) hli hlj hmi hmj)
open Classical in
noncomputable def Gh.gu (g g2:Gh)(m:Nat->Nat)(on:OH):Gh:=
 ⟨g2.G,g2.F,fun k=>if h:∃i,(ae on i).isSome=true/\m i=k then g2.m h.choose else g.m k,fun k=>if h:∃i,(ae on i).isSome=true/\m i=k then g2.cp h.choose else g.cp k⟩
variable {g2 : Gh}
theorem ia (hinj:∀i j,(ae on i).isSome=true->(ae on j).isSome=true->m i=m j->i=j){i:Nat}(hi:(ae on i).isSome=true):(g.gu g2 m on).m (m i)=g2.m i/\(g.gu g2 m on).cp (m i)=g2.cp i:=by
 have h:∃j,(ae on j).isSome=true/\m j=m i:=⟨i,hi,rfl⟩
 have e:h.choose=i:=hinj _ _ h.choose_spec.1 hi h.choose_spec.2;refine⟨?_,?_⟩
 ·unfold Gh.gu;exact(I2 h).trans (by rw [e])
 ·unfold Gh.gu;exact(I2 h).trans (by rw [e])
theorem jE {k:Nat}(hk:∀i,(ae on i).isSome=true->m i≠k):(g.gu g2 m on).m k=g.m k/\(g.gu g2 m on).cp k=g.cp k:=by
 have h:¬∃j,(ae on j).isSome=true/\m j=k:=fun⟨j,h1,h2⟩=>hk j h1 h2
 refine⟨?_,?_⟩
 ·unfold Gh.gu;exact O4 h
 ·unfold Gh.gu;exact O4 h
theorem fP (hinj:∀i j,(ae on i).isSome=true->(ae on j).isSome=true->m i=m j->i=j)(hon:∀i o,ae on i=some o->ae oh2 (m i)=some (o.rn m vo i)){v:V}{x:Value}(h:bm g2 on v x) :
  bm (g.gu g2 m on) oh2 (v.Sb m vo) x:=by
 have hR:∀(i ver k foff:Nat) (x:Value),vW g2 on i ver k foff x->vW (g.gu g2 m on) oh2 (m i) (vo i+ver) k foff x:=by
  intro i ver k foff x h;obtain⟨h1,o,ho,h3,h4⟩:=h
  refine⟨⟨h1.1,fun q hq hmp=>by
   rw [hon i o ho] at hq;obtain rfl:o.rn m vo i=q:=by simpa using hq
   obtain⟨b,b1,b2⟩:=h1.2 o ho hmp
   exact⟨b,by rw [(ia (g:=g) (g2:=g2) hinj (i:=i) (by simp [ho])).1];exact b1,b2⟩⟩,_,hon i o ho,by show vo i+ver<=vo i+o.ver;omega,fun e hl=>?_⟩
  obtain⟨b,b1,b2⟩:=h4 (by have:vo i+o.ver=vo i+ver:=e;omega) hl;have hb:=ia (g:=g) (g2:=g2) hinj (i:=i) (by simp [ho]);exact⟨b,by rw [hb.1];exact b1,b2⟩
 cases v with
 |undef=>trivial
 |af q=>exact h
 |ro f t=>exact⟨by cases f<;>exact h.1,h.2⟩
 |emp=>exact h
 |own i ver off len=>
  obtain⟨h1,o,ho,h3,h4⟩:=h;refine⟨h1,_,hon i o ho,by show vo i+ver<=vo i+o.ver;omega,fun e hl=>?_⟩;obtain⟨a,cap,e1,e2,e3,e4⟩:=h4 (by have:vo i+o.ver=vo i+ver:=e;omega) hl;have hb:=ia (g:=g) (g2:=g2) hinj (i:=i) (by simp [ho]);refine⟨a,cap,e1,e2,by simpa [Obj.rn] using e3,fun hc=>?_⟩;obtain⟨b,b1,b2,b3⟩:=e4 hc;exact⟨b,by rw [hb.1];exact b1,b2,by rw [hb.2];exact b3⟩
 |ref i ver k foff=>exact hR i ver k foff x h
 |wr w i ver k foff=>obtain⟨y,hy,e⟩:=h;exact⟨y,hR i ver k foff y hy,e⟩
 |agg l=>exact h.elim
 |ba l=>exact h.elim
theorem fO (hinj:∀i j,(ae on i).isSome=true->(ae on j).isSome=true->m i=m j->i=j)(hon:∀i o,ae on i=some o->ae oh2 (m i)=some (o.rn m vo i)){v:V}{x:Value}(h:EA g2 on v x) :
  EA (g.gu g2 m on) oh2 (v.oI m vo) x:=by
 cases v with
 |agg l=>
  obtain⟨cs,rfl,hl,hr⟩:=h;refine⟨cs,rfl,by simpa using hl,fun j u c hu hcj=>?_⟩;rw [Zf] at hu;obtain⟨u',hu',rfl⟩:=C1.1 hu;exact⟨fP hinj hon (hr j u' c hu' hcj).1,(hr j u' c hu' hcj).2⟩
 |undef=>trivial
 |ba l=>exact h.elim
 |af q=>exact fP (g:=g) (g2:=g2) (v:=.af q) hinj hon h
 |ro f t=>exact fP (g:=g) (g2:=g2) (v:=.ro f t) hinj hon h
 |emp=>exact fP (g:=g) (g2:=g2) (v:=.emp) hinj hon h
 |own i a b c=>exact fP (g:=g) (g2:=g2) (v:=.own i a b c) hinj hon h
 |ref i a b c=>exact fP (g:=g) (g2:=g2) (v:=.ref i a b c) hinj hon h
 |wr w i a b c=>exact fP (g:=g) (g2:=g2) (v:=.wr w i a b c) hinj hon h
theorem MG (hinj:∀i j,(ae on i).isSome=true->(ae on j).isSome=true->m i=m j->i=j)(hon:∀i o,ae on i=some o->ae oh2 (m i)=some (o.rn m vo i)){v:V}{x:Value}(h:dd g2 on v x) :
  dd (g.gu g2 m on) oh2 (v.rn m vo) x:=by
 cases v with
 |ba l=>
  obtain⟨cs,rfl,hl,hr⟩:=h;refine⟨cs,rfl,by simpa using hl,fun j u c hu hcj=>?_⟩;rw [Zf] at hu;obtain⟨u',hu',rfl⟩:=C1.1 hu;exact fO hinj hon (hr j u' c hu' hcj)
 |agg l=>exact fO (g:=g) (g2:=g2) (v:=.agg l) hinj hon h
 |undef=>trivial
 |af q=>exact fO (g:=g) (g2:=g2) (v:=.af q) hinj hon h
 |ro f t=>exact fO (g:=g) (g2:=g2) (v:=.ro f t) hinj hon h
 |emp=>exact fO (g:=g) (g2:=g2) (v:=.emp) hinj hon h
 |own i a b c=>exact fO (g:=g) (g2:=g2) (v:=.own i a b c) hinj hon h
 |ref i a b c=>exact fO (g:=g) (g2:=g2) (v:=.ref i a b c) hinj hon h
 |wr w i a b c=>exact fO (g:=g) (g2:=g2) (v:=.wr w i a b c) hinj hon h
theorem HR.PR (h:HR g oh w){w':World}(hinj:∀i j,(ae on i).isSome=true->(ae on j).isSome=true->m i=m j->i=j)
  (hp:∀i o,ae pre i=some o->ae oh (m i)=some (o.rn m vo i)) (hv0:∀i o,ae pre i=some o->o.ver=0/\o.live=true) (hsub:∀i,(ae pre i).isSome=true->(ae on i).isSome=true)
  (hnw:∀i,(ae on i).isSome=true->ae pre i=none->ae oh (m i)=none)
  (hon:∀i o,ae on i=some o->ae oh2 (m i)=some (o.rn m vo i)) (hoff:∀k,(∀i,(ae on i).isSome=true->m i≠k)->ae oh2 k=ae oh k)
  (hle:∀i o o',ae pre i=some o->ae on i=some o'->o'.ver=0->o'.live=true->o'.sz=o.sz/\o.el.length<=o'.el.length)
  (h2:HR g2 on w') (hf:Fr (g.ic m) pre w g2 on w')
  (hlv:∀i o,ae on i=some o->o.live=true)
  (hpin:∀i o o',ae pre i=some o->ae on i=some o'->o'.ver=0->o'.live=true->g2.m i=(g.ic m).m i/\g2.cp i=(g.ic m).cp i) :
  HR (g.gu g2 m on) oh2 w'/\cx g oh (g.gu g2 m on) oh2/\Fr g oh w (g.gu g2 m on) oh2 w':=by
 have hownp:∀b,cw (g.ic m) pre b->∃i o,ae pre i=some o/\o.live=true/\g.m (m i)=some b:=fun b ⟨i,o,h1,h2,h3⟩=>⟨i,o,h1,h2,h3⟩
 have hown:∀b,cw (g.ic m) pre b->cw g oh b:=by
  rintro b ⟨i,o,h1,h2,h3⟩;exact⟨m i,_,hp i o h1,h2,h3⟩
 have cases2:∀k o,ae oh2 k=some o->(∃i o1,ae on i=some o1/\m i=k/\o=o1.rn m vo i)\/((∀i,(ae on i).isSome=true->m i≠k)/\ae oh k=some o):=by
  intro k o hk;by_cases e:∃i,(ae on i).isSome=true/\m i=k
  ·obtain⟨i,hi,rfl⟩:=e;obtain⟨o1,ho1⟩:=E1.1 hi;rw [hon i o1 ho1] at hk;exact .inl ⟨i,o1,ho1,rfl,by simpa using hk.symm⟩
  ·have e':∀i,(ae on i).isSome=true->m i≠k:=fun i h1 h2=>e ⟨i,h1,h2⟩
   exact .inr ⟨e',by rw [<- hoff k e'];exact hk⟩
 have hmono:cx g oh (g.gu g2 m on) oh2:=by
  refine bm.lift hf.F hf.G fun k o hk=>?_
  by_cases e:∃i,(ae on i).isSome=true/\m i=k
  ·obtain⟨i,hi,rfl⟩:=e;obtain⟨o1,ho1⟩:=E1.1 hi
   cases hpi:ae pre i with
   |none=>rw [hnw i hi hpi] at hk;cases hk
   |some op=>
    rw [hp i op hpi] at hk;obtain rfl:op.rn m vo i=o:=by simpa using hk
    obtain⟨hver,hlive⟩:=hv0 i op hpi;refine⟨_,hon i o1 ho1,by show vo i+op.ver<=vo i+o1.ver;omega,fun h=>absurd h (eN (hlv i o1 ho1)),fun e1 e2=>?_⟩;have hz:o1.ver=0:=by have:vo i+o1.ver=vo i+op.ver:=e1;omega
    obtain⟨q1,q2⟩:=hle i op o1 hpi ho1 hz e2;obtain⟨q3,q4⟩:=hpin i op o1 hpi ho1 hz e2;have hb:=ia (g:=g) (g2:=g2) hinj hi;exact⟨hlive,q1,by simpa [Obj.rn] using q2,by rw [hb.1,q3];rfl,by rw [hb.2,q4];rfl⟩
  ·have e':∀i,(ae on i).isSome=true->m i≠k:=fun i h1 h2=>e ⟨i,h1,h2⟩
   have hb:=jE (g:=g) (g2:=g2) e';exact⟨o,by rw [hoff k e'];exact hk,wU _,fun h=>⟨h,hb.1⟩,fun _ hl=>⟨hl,rfl,wU _,hb.1,hb.2⟩⟩
 have hpl:∀i o,ae pre i=some o->o.live=true:=fun i o hi=>(hv0 i o hi).2
 have hms:∀i o,ae oh2 i=some o->jg o->ae oh i=some o/\(g.gu g2 m on).m i=g.m i:=by
  intro k o hk hmp;rcases cases2 k o hk with⟨i,o1,ho1,rfl,rfl⟩|⟨e',hk'⟩
  ·exact absurd hmp (eN (hlv i o1 ho1))
  ·exact⟨hk',(jE e').1⟩
 have hmpk:∀b,sP (g.gu g2 m on) oh2 b->w'.heap[b]?=w.heap[b]?:=by
  intro b hmb;refine hf.km b (h.mp.lt (hmb.sub hms)) (fun hb2=>?_) (sP.none hpl);obtain⟨arr,ty,hh,_⟩:=(h.obj _ _ (hp _ _ (hownp b hb2).choose_spec.choose_spec.1) (hownp b hb2).choose_spec.choose_spec.2.1).2 b (hownp b hb2).choose_spec.choose_spec.2.2;obtain⟨es,clock,hh2⟩:=h.mp.block (hmb.sub hms);rw [hh] at hh2;cases hh2
 refine⟨⟨⟨h2.hG,h2.hF,?_,?_,(h.mp.sub hms).of hmpk⟩,h2.gl⟩,hmono,⟨hf.os,hf.tape,hf.output,hf.size,fun b hb hn _=>hf.km b hb (fun hn2=>hn (hown b hn2)) (sP.none hpl),?_,hf.G,hf.F,?_,?_,hf.Gx,fun b hmb=>.inl (hmb.sub hms)⟩⟩
 ·intro k o hk hl;rcases cases2 k o hk with⟨i,o1,ho1,rfl,rfl⟩|⟨e',hk'⟩
  ·obtain⟨q1,q2⟩:=h2.obj i o1 ho1 hl;have hb:=ia (g:=g) (g2:=g2) hinj (i:=i) (by simp [ho1]);rw [vu,hb.1,hb.2];refine⟨fun hm=>by show o1.el.map _=[];rw [q1 hm];rfl,fun b hbm=>?_⟩;obtain⟨arr,ty,hh,hg,hba⟩:=q2 b hbm;refine⟨arr,ty,hh,hg,hba.1,by simpa [Obj.rn] using hba.2.1,hba.2.2.1,fun j e he=>?_⟩;have he':(o1.el.map (V.oI m vo))[j]?=some e:=he;rw [Zf] at he';obtain⟨e0,he0,rfl⟩:=C1.1 he';obtain⟨z1,z2⟩:=hba.2.2.2 j e0 he0;rw [rZ,wC];refine⟨by simpa [Obj.rn] using z1,fun t v hv=>?_⟩;rw [Zf] at hv;obtain⟨v0,hv0',rfl⟩:=C1.1 hv;obtain⟨c,c1,c2,c3⟩:=z2 t v0 hv0';exact⟨c,c1,c2,fP hinj hon c3⟩
  ·obtain⟨q1,q2⟩:=h.obj k o hk' hl;have hb:=jE (g:=g) (g2:=g2) e';rw [vu,hb.1,hb.2];refine⟨q1,fun b hbm=>?_⟩;obtain⟨arr,ty,hh,hg,hba⟩:=q2 b hbm;have hlt:=bh hh
   have hno:¬cw (g.ic m) pre b:=by
    intro hb2;obtain⟨i,oi,hi,hli,hmi⟩:=hownp b hb2;have:=h.inj _ _ _ _ b (hp i oi hi) hk' hli hl hmi hbm;exact e' i (hsub i (by simp [hi])) this
   refine⟨arr,ty,(hf.km b hlt hno (sP.none hpl)).trans hh,fun off=>?_,hba.mono hmono⟩
   cases hu:(g.gu g2 m on).G b off with
   |none=>rfl
   |some c=>
    rcases hf.nG b off c hu with h'|h'|h'
    ·have:g.G b off=some c:=h';rw [hg] at this;cases this
    ·exact absurd h' hno
    ·omega
 ·have mix:∀i k o1 o b,ae on i=some o1->o1.live=true->g2.m i=some b->(∀j,(ae on j).isSome=true->m j≠k)->ae oh k=some o->o.live=true->g.m k=some b->False:=by
   intro i k o1 o b hi hli hmi hk ho hlo hmk;obtain⟨arr,ty,hh,_⟩:=(h.obj k o ho hlo).2 b hmk;have hlt:=bh hh;rcases hf.own b ⟨i,o1,hi,hli,hmi⟩ with h'|h'
   ·obtain⟨j,oj,hj,hlj,hmj⟩:=hownp b h';have:=h.inj _ _ _ _ b (hp j oj hj) ho hlj hlo hmj hmk;exact hk j (hsub j (by simp [hj])) this
   ·omega
  intro k l ok ol b hk hl hlk hll hmk hml;rcases cases2 k ok hk with⟨i,o1,ho1,rfl,rfl⟩|⟨e',hk'⟩<;>rcases cases2 l ol hl with⟨j,o2,ho2,rfl,rfl⟩|⟨e2,hl'⟩
  ·rw [(ia (g:=g) (g2:=g2) hinj (i:=i) (by simp [ho1])).1] at hmk;rw [(ia (g:=g) (g2:=g2) hinj (i:=j) (by simp [ho2])).1] at hml;rw [h2.inj i j o1 o2 b ho1 ho2 hlk hll hmk hml]
  ·rw [(ia (g:=g) (g2:=g2) hinj (i:=i) (by simp [ho1])).1] at hmk;rw [(jE (g:=g) (g2:=g2) e2).1] at hml;exact(mix i l o1 ol b ho1 hlk hmk e2 hl' hll hml).elim
  ·rw [(jE (g:=g) (g2:=g2) e').1] at hmk;rw [(ia (g:=g) (g2:=g2) hinj (i:=j) (by simp [ho2])).1] at hml;exact(mix j k o2 ok b ho2 hll hml e' hk' hlk hmk).elim
  ·rw [(jE (g:=g) (g2:=g2) e').1] at hmk;rw [(jE (g:=g) (g2:=g2) e2).1] at hml;exact h.inj k l ok ol b hk' hl' hlk hll hmk hml
 ·rintro b ⟨k,o,hk,hl,hmk⟩;rcases cases2 k o hk with⟨i,o1,ho1,rfl,rfl⟩|⟨e',hk'⟩
  ·rw [(ia (g:=g) (g2:=g2) hinj (i:=i) (by simp [ho1])).1] at hmk;rcases hf.own b ⟨i,o1,ho1,hl,hmk⟩ with h'|h'
   ·exact .inl (hown b h')
   ·exact .inr h'
  ·rw [(jE (g:=g) (g2:=g2) e').1] at hmk;exact .inl ⟨k,o,hk',hl,hmk⟩
 ·intro b o c hc;rcases hf.nG b o c hc with h'|h'|h'
  ·exact .inl h'
  ·exact .inr (.inl (hown b h'))
  ·exact .inr (.inr h')
 ·intro b o c hc;rcases hf.nF b o c hc with h'|h'|h'
  ·exact .inl h'
  ·exact .inr (.inl (hown b h'))
  ·exact .inr (.inr h')
end
theorem Jc (hF:∀b o c,g.F b o=some c->g.G b o=some c){v:V}{x:Value}(h:bm g oh v x):bm g oh v.VZ x:=by
 cases v with
 |ro f t=>
  refine⟨h.1.mono ?_,h.2⟩;cases f
  ·exact fun _ _ _ h=>h
  ·exact hF
 |_=>exact h
theorem TU (hF:∀b o c,g.F b o=some c->g.G b o=some c){v:V}{x:Value}(h:dd g oh v x):dd g oh v.wk x:=by
 cases v with
 |agg l=>
  obtain⟨cs,rfl,hl,hr⟩:=h;refine⟨cs,rfl,by simpa using hl,fun j u c hu hcj=>?_⟩;rw [Zf] at hu;obtain⟨u',hu',rfl⟩:=C1.1 hu;exact⟨Jc hF (hr j u' c hu' hcj).1,(hr j u' c hu' hcj).2⟩
 |ro f t=>exact Jc (g:=g) (oh:=oh) (v:=.ro f t) hF h
 |undef=>trivial
 |ba l=>exact h
 |af q=>exact h
 |emp=>exact h
 |own i a b c=>exact h
 |ref i a b c=>exact h
 |wr w i a b c=>exact h
theorem JH {o:Oper}{f:Fn}{a b:Array Operand}{e:Operand->V}{oh:OH}{k:Acc->Prop}(ho:o.op=.makeFunc f a b)(h:RQ oh f (a.toList.map e) (b.toList.map e) k):dt P o e oh k:=by
 have nil:∀(l:Array Operand),l.toList.map e=[]->l=#[]:=by
  intro l hl;cases l
  simpa using hl
 have one:∀(l:Array Operand) (v:V),l.toList.map e=[v]->∃x,l=#[x]/\e x=v:=by
  intro l v hl;obtain⟨l⟩:=l
  match l,hl with
  | [x],hl=>exact⟨x,rfl,by simpa using hl⟩
 unfold RQ at h;split at h
 ·rename_i q h1 h2;rw [nil a h1,nil b h2] at ho;exact aP h fun g oh w ρ hr hρ=>⟨_,by simp [execOp,ho,Instr.makeFunc],rfl,rfl⟩
 ·rename_i q id ver i foff h1 h2;obtain⟨x,rfl,hx⟩:=one a _ h1;rw [nil b h2] at ho;obtain⟨ob,hob,hv,hl,hk⟩:=cU h;refine dD hob hk fun g oh w ρ hr hρ hob'=>?_
  have hrx:=hρ x (by simp [ho,Op.operands]);rw [hx] at hrx;exact⟨.func (.func q) #[ρ x] #[],by simp [execOp,ho,Instr.makeFunc],_,hrx,rfl⟩
 ·rename_i q id ver i foff h1 h2;obtain⟨x,rfl,hx⟩:=one b _ h2;rw [nil a h1] at ho;obtain⟨ob,hob,hv,hl,hk⟩:=cU h;refine dD hob hk fun g oh w ρ hr hρ hob'=>?_
  have hrx:=hρ x (by simp [ho,Op.operands]);rw [hx] at hrx;exact⟨.func (.func q) #[] #[ρ x],by simp [execOp,ho,Instr.makeFunc],_,hrx,rfl⟩
 ·exact h.elim
theorem JG {o:Oper}{t:TypeId}{x:Operand}{e:Operand->V}{oh:OH}{k:Acc->Prop}(ho:o.op=.makeInterface t x)(h:Uq (tk P t) t oh (e x) k):dt P o e oh k:=by
 obtain⟨hd,h⟩:=h;obtain⟨el,hu⟩:=nS hd;have hm:x ∈ o.op.operands:=by simp [ho,Op.operands]
 split at h
 ·rename_i id ver i foff hx;obtain⟨ob,hob,hv,hl,hk⟩:=cU h;refine dD hob hk fun g oh w ρ hr hρ hob'=>?_
  have hrx:=hρ x hm;rw [hx] at hrx;exact⟨.iface t (ρ x),by simp [execOp,ho,Instr.makeInterface,run_underlying hu],_,hrx,rfl⟩
 ·rename_i f l hx;refine aP h fun g oh w ρ hr hρ=>?_
  have hrx:=hρ x hm;rw [hx] at hrx;exact⟨.iface t (ρ x),by simp [execOp,ho,Instr.makeInterface,run_underlying hu],.jq t _ _ hrx.2 hrx.1,rfl⟩
 ·exact h.elim
theorem BI {pre post:OH}{nw:List Nat}{vs l:List V}{r:V}{m vo:Nat->Nat}
  (hwf:∀i o,ae pre i=some o->o.ver=0/\o.live=true/\∀v ∈ o.el,v.cl pre) (hvs:∀v ∈ vs,v.cl pre) (hpost:∀i o,ae post i=some o->(ae pre i).isSome=true\/i ∈ nw)
  (hle:∀i o o',ae pre i=some o->ae (post ++ pre) i=some o'->o'.ver=0->o'.live=true->o'.sz=o.sz/\o.el.length<=o'.el.length)
  (har:l.map V.wk=vs.map (V.oI m vo)) (hinj:∀i ∈ pre.map (·.1) ++ nw,∀j ∈ pre.map (·.1) ++ nw,m i=m j->i=j)
  {g:Gh} {oh':OH} {w:World} {args:Array Value} (hr:HR g oh' w) (hp:∀i o,ae pre i=some o->ae oh' (m i)=some (o.rn m vo i)) (hn:∀i,i ∈ nw->ae oh' (m i)=none)
  (hsz:args.size=l.length) (hrdA:∀(j:Nat) (v:V) (x:Value),l[j]?=some v->args[j]?=some x->dd g oh' v x) :
  HR (g.ic m) pre w/\args.size=vs.length/\(∀(j:Nat) (u:V) (x:Value),vs[j]?=some u->args[j]?=some x->dd (g.ic m) pre u x)/\
  ∀(en:Ending) (w':World),(∃(x:Value) (g2:Gh),en=.returned x/\HR g2 (post ++ pre) w'/\dd g2 (post ++ pre) r x/\Fr (g.ic m) pre w g2 (post ++ pre) w'/\(∀i o,ae (post ++ pre) i=some o->o.live=true)/\
   (∀i o o',ae pre i=some o->ae (post ++ pre) i=some o'->o'.ver=0->o'.live=true->g2.m i=(g.ic m).m i/\g2.cp i=(g.ic m).cp i))->∃v,en=.returned v/\EG g oh' w ⟨pN m vo pre,nw.map m,pN m vo post,r.rn m vo⟩ v w':=by
 have hal:l.length=vs.length:=by simpa using B4 List.length har
 have memd:∀i,(ae pre i).isSome=true->i ∈ pre.map (·.1) ++ nw:=by
  intro i hi;obtain⟨o,ho⟩:=E1.1 hi;exact W8 _ (D4.2 ⟨(i,o),gS ho,rfl⟩)
 have memn:∀i,(ae (post ++ pre) i).isSome=true->i ∈ pre.map (·.1) ++ nw:=by
  intro i hi;obtain⟨o,ho⟩:=E1.1 hi;rw [dG] at ho
  cases hq:ae post i with
  |some o'=>
   rcases hpost i o' hq with h'|h'
   ·exact memd i h'
   ·exact List.mem_append_right _ h'
  |none=>rw [hq] at ho;exact memd i (by simp [ho])
 have hinj1:∀i j,(ae pre i).isSome=true->(ae pre j).isSome=true->m i=m j->i=j:=fun i j hi hj=>hinj i (memd i hi) j (memd j hj)
 have hinj2:∀i j,(ae (post ++ pre) i).isSome=true->(ae (post ++ pre) j).isSome=true->m i=m j->i=j:=fun i j hi hj=>hinj i (memn i hi) j (memn j hj)
 refine⟨Jk hr hp hinj1 (fun i o hi=>(hwf i o hi).2.2) fun i o hi=>(hwf i o hi).2.1,by rw [hsz];exact hal,fun j u x hju hjx=>?_,fun en w' hen=>?_⟩
 ·have hjl:j < l.length:=by rw [<- hsz];exact(E4.1 hjx).1
  have hop':l[j]?=some l[j]:=by simp [hjl]
  have hw:=TU hr.hF (hrdA j l[j] x hop' hjx);have e1:(l.map V.wk)[j]?=some (l[j]).wk:=by rw [Zf,hop'];rfl
  rw [har,Zf,hju] at e1;have e2:u.oI m vo=(l[j]).wk:=by simpa using e1
  rw [<- e2] at hw;exact Jj hp (hvs u (MH hju)) hw
 ·obtain⟨x,g2,rfl,h2,hrd,hf2,hlv,hpin⟩:=hen
  have hpm:∀i ∈ post.map (·.1),i ∈ pre.map (·.1) ++ nw:=by
   intro i hi;refine memn i ?_;obtain⟨p,hp1,rfl⟩:=D4.1 hi;rw [dG]
   cases hq:ae post p.1 with
   |some o=>rfl
   |none=>
    exfalso
    have:∀(l:OH),p ∈ l->ae l p.1≠none:=by
     intro l hl
     induction l with
     |nil=>simp at hl
     |cons a r ih=>
      obtain⟨c,ob⟩:=a;by_cases e:p.1=c
      ·subst e;rw [an];simp
      ·rw [ah _ _ e];rcases B5.1 hl with rfl|hl
       ·exact absurd rfl e
       ·exact ih hl
    exact this post hp1 hq
  have hpinj:∀i ∈ post.map (·.1),∀j ∈ post.map (·.1),m i=m j->i=j:=fun i hi j hj=>hinj i (hpm i hi) j (hpm j hj)
  have hon:∀i o,ae (post ++ pre) i=some o->ae (pN m vo post ++ oh') (m i)=some (o.rn m vo i):=by
   intro i o hi;rw [dG] at hi |-
   cases hq:ae post i with
   |some o'=>
    rw [hq] at hi;obtain rfl:o'=o:=by simpa using hi
    rw [yz hpinj hq]
   |none=>
    rw [hq] at hi
    cases hq2:ae (pN m vo post) (m i) with
    |none=>exact hp i o hi
    |some o2=>
     obtain⟨j,o3,hj,hmj,_⟩:=Bq hq2;have hjm:j ∈ post.map (·.1):=D4.2 ⟨(j,o3),hj,rfl⟩;have:=hinj j (hpm j hjm) i (memd i (by simp [hi])) hmj;subst this;exfalso
     have:∀(l:OH),(j,o3) ∈ l->ae l j≠none:=by
      intro l hl
      induction l with
      |nil=>simp at hl
      |cons a r ih=>
       obtain⟨c,ob⟩:=a;by_cases e:j=c
       ·subst e;rw [an];simp
       ·rw [ah _ _ e];rcases B5.1 hl with e2|hl
        ·exact absurd (B4 Prod.fst e2) e
        ·exact ih hl
     exact this post hj hq
  obtain⟨h5,h6,h7⟩:=hr.PR (pre:=pre) (on:=post ++ pre) (oh2:=pN m vo post ++ oh') hinj2 hp (fun i o hi=>⟨(hwf i o hi).1,(hwf i o hi).2.1⟩) (fun i hi=>by
    rw [dG]
    cases ae post i with
    |some o=>rfl
    |none=>exact hi) (fun i hi hpi=>by
    rcases D6.1 (memn i hi) with h'|h'
    ·obtain⟨p,hp1,rfl⟩:=D4.1 h';obtain⟨o,ho⟩:=E1.1 hi;rw [dG] at ho
     cases hq:ae post p.1 with
     |none=>rw [hq,hpi] at ho;cases ho
     |some o'=>
      rcases hpost p.1 o' hq with h''|h''
      ·rw [hpi] at h'';cases h''
      ·exact hn _ h''
    ·exact hn i h') hon (fun k hk=>by
    rw [dG]
    cases hq:ae (pN m vo post) k with
    |none=>rfl
    |some o2=>
     obtain⟨j,o3,hj,hmj,_⟩:=Bq hq;exfalso;refine hk j ?_ hmj;have hjm:j ∈ post.map (·.1):=D4.2 ⟨(j,o3),hj,rfl⟩;rw [dG]
     cases hq2:ae post j with
     |some o=>rfl
     |none=>
      exfalso
      have:∀(l:OH),(j,o3) ∈ l->ae l j≠none:=by
       intro l hl
       induction l with
       |nil=>simp at hl
       |cons a r ih=>
        obtain⟨c,ob⟩:=a;by_cases e:j=c
        ·subst e;rw [an];simp
        ·rw [ah _ _ e];rcases B5.1 hl with e2|hl
         ·exact absurd (B4 Prod.fst e2) e
         ·exact ih hl
      exact this post hj hq2) hle h2 hf2 hlv hpin
  exact⟨x,rfl,_,h5,MG hinj2 hon hrd,h6,h7⟩
theorem ql {C:CT}(hC:∀q ts r,C q ts r->iE P q ts r){o:Oper}{q:FuncId}{e:Operand->V}{l:List V}{oh:OH}{k:Acc->Prop}
  (hex0:∀(fn:Func),P.funcs[q]?=some fn->(fn.name == "runtime.NumGoroutine")=false->fn.body.isNone=false->∀(g:Gh) (oh':OH) (w:World) (ρ:Operand->Value),HR g oh' w->(∀z,z ∈ o.op.operands->dd g oh' (e z) (ρ z))->
   ∃args:Array Value,(execOp ρ o).run P w=.ok (.enter q args) w/\args.size=l.length/\∀(j:Nat) (v:V) (x:Value),l[j]?=some v->args[j]?=some x->dd g oh' v x)
  (h:oH C q l oh k):dt P o e oh k:=by
 obtain⟨pre,nw,vs,post,r,m,vo,hCC,har,hpre,hnw,hinj,hk⟩:=h;obtain⟨⟨fn,hfn,hname,hbody⟩,hwf,hvs,hpost,hle,hok⟩:=hC q [] (.gen pre nw vs post r) hCC;refine⟨⟨pN m vo pre,nw.map m,pN m vo post,r.rn m vo⟩,?_,fun i ob h=>?_,fun i hi=>?_,hk⟩
 ·intro g oh' w ρ hr hρ hp' hn';obtain⟨args,hex,hsz,hrdA⟩:=hex0 fn hfn hname hbody g oh' w ρ hr hρ;rw [hex];obtain⟨c1,c2,c3,c4⟩:=BI (r:=r) hwf hvs hpost hle har hinj hr (fun i o hi=>hp' _ _ (D4.2 ⟨(i,o),gS hi,rfl⟩)) (fun i hi=>hn' _ (D4.2 ⟨i,hi,rfl⟩)) hsz hrdA;exact(hok (g.ic m) w args c1 c2 c3).mono c4
 ·obtain⟨p,hp,e1⟩:=D4.1 h;simp only [O8] at e1;rw [<- e1.1,<- e1.2];exact hpre p hp
 ·obtain⟨j,hj,rfl⟩:=D4.1 hi;exact hnw j hj
theorem JK {C:CT}(hC:∀q ts r,C q ts r->iE P q ts r){o:Oper}{c:Call}{f:Operand}{q:FuncId}{e:Operand->V}{oh:OH}{k:Acc->Prop}
  (ho:o.op=.call c) (hc:c.callee=.value f) (hf:V.fn? (e f)=some q) (h:oH C q (c.args.toList.map e) oh k):dt P o e oh k:=by
 have hfe:e f=.af (.func (.func q) #[] #[]):=by
  unfold V.fn? at hf;split at hf
  ·rename_i q' a b he;split at hf
   ·rename_i ha hb;have ha':a=#[]:=by rw [<- D8 (xs:=a),ha]
    have hb':b=#[]:=by rw [<- D8 (xs:=b),hb]
    rw [he,ha',hb'];simpa using hf
   ·cases hf
  ·cases hf
 have hmf:f ∈ o.op.operands:=by simp [ho,Op.operands,Call.operands,hc]
 have hma:∀x ∈ c.args.toList,x ∈ o.op.operands:=by
  intro x hx;simp only [ho,Op.operands,Call.operands,hc];simp at hx |-;exact .inr hx
 refine ql hC (fun fn hfn hname hbody g oh' w ρ hr hρ=>⟨c.args.map ρ,?_,by simp,fun j v x hv hx=>?_⟩) h
 ·have hrf:=hρ f hmf;rw [hfe] at hrf;have h1:fn.name≠ "runtime.NumGoroutine":=by simpa using hname
  have h2:fn.body≠none:=by intro e;simp [e] at hbody
  simp [execOp,ho,resolve,hc,hrf.1,Deferred.ofValue,invoke,callFunc,hfn,h1,h2]
 ·rw [L9] at hx;obtain⟨op,hop,rfl⟩:=C1.1 hx;have hop':c.args.toList[j]?=some op:=by simpa using hop
  rw [Zf,hop'] at hv;obtain rfl:e op=v:=by simpa using hv
  exact hρ op (hma op (MH hop'))
theorem NM {C:CT}(hC:∀q ts r,C q ts r->iE P q ts r){o:Oper}{c:Call}{f:Operand}{q:FuncId}{l:List V}{e:Operand->V}{oh:OH}{k:Acc->Prop}
  (ho:o.op=.call c) (hc:c.callee=.value f) (hf:Cz (e f) (c.args.toList.map e)=some (q,l)) (h:oH C q l oh k):dt P o e oh k:=by
 have hmf:f ∈ o.op.operands:=by simp [ho,Op.operands,Call.operands,hc]
 have hma:∀x ∈ c.args.toList,x ∈ o.op.operands:=by
  intro x hx;simp only [ho,Op.operands,Call.operands,hc];simp at hx |-;exact .inr hx
 have harg:∀(g:Gh) (oh':OH) (ρ:Operand->Value),(∀z,z ∈ o.op.operands->dd g oh' (e z) (ρ z))->∀(j:Nat) (v:V) (x:Value),(c.args.toList.map e)[j]?=some v->(c.args.map ρ)[j]?=some x->dd g oh' v x:=by
  intro g oh' ρ hρ j v x hv hx;rw [L9] at hx;obtain⟨op,hop,rfl⟩:=C1.1 hx;have hop':c.args.toList[j]?=some op:=by simpa using hop
  rw [Zf,hop'] at hv;obtain rfl:e op=v:=by simpa using hv
  exact hρ op (hma op (MH hop'))
 unfold Cz at hf;split at hf
 ·rename_i q' id ver i foff he;cases hf
  refine ql hC (fun fn hfn hname hbody g oh' w ρ hr hρ=>?_) h;have hrf:=hρ f hmf;rw [he] at hrf;obtain⟨y,hy,hyx⟩:=hrf;have h1:fn.name≠ "runtime.NumGoroutine":=by simpa using hname
  have h2:fn.body≠none:=by intro e;simp [e] at hbody
  refine⟨#[y] ++ c.args.map ρ,?_,by simp;omega,fun j v x hv hx=>?_⟩
  ·have hyx:ρ f=.func (.func q) #[y] #[]:=hyx;simp [execOp,ho,resolve,hc,hyx,Deferred.ofValue,invoke,callFunc,hfn,h1,h2]
  ·cases j with
   |zero=>
    rw [I0 (by simp)] at hx;simp at hv hx;subst hv;subst hx;exact hy
   |succ j=>
    refine harg g oh' ρ hρ j v x (by simpa using hv) ?_;rw [Array.getElem?_append_right (by simp)] at hx;simpa using hx
 ·rename_i q' id ver i foff he;cases hf
  refine ql hC (fun fn hfn hname hbody g oh' w ρ hr hρ=>?_) h;have hrf:=hρ f hmf;rw [he] at hrf;obtain⟨y,hy,hyx⟩:=hrf;have h1:fn.name≠ "runtime.NumGoroutine":=by simpa using hname
  have h2:fn.body≠none:=by intro e;simp [e] at hbody
  refine⟨c.args.map ρ ++ #[y],?_,by simp,fun j v x hv hx=>?_⟩
  ·have hyx:ρ f=.func (.func q) #[] #[y]:=hyx;simp [execOp,ho,resolve,hc,hyx,Deferred.ofValue,invoke,callFunc,hfn,h1,h2]
  ·by_cases hj:j < c.args.size
   ·refine harg g oh' ρ hρ j v x ?_ ?_
    ·rw [C5 (by simpa using hj)] at hv;exact hv
    ·rw [I0 (by simpa using hj)] at hx;exact hx
   ·have hv2:v=.ref id ver i foff:=by
     rw [IX (by simp;omega)] at hv;exact(HQ.1 (MH hv))
    have hx2:x=y:=by
     rw [Array.getElem?_append_right (by simp;omega)] at hx;have:=Array.mem_of_getElem? hx;simpa using this
    subst hv2;subst hx2;exact hy
 ·cases hf
theorem CR {o:Oper}{src dst:TypeId}{x:Operand}{e:Operand->V}{oh:OH}{k:Acc->Prop}{s:ByteArray}{e1 sz by1:Nat}{ag:Bool}{z:List Value}(ho:o.op=.convert src dst x)
  (hs:tk P src=.str) (hd:tk P dst=.sl e1 sz by1 ag z) (he:tk P e1=.int .u8) (hv:e x=.af (.string s)) (hlen:s.size<=140737488355328)
  (hk:free k (.ro true (.sl (s.data.toList.map fun b=>.af (.int .u8 b.toNat))))):dt P o e oh k:=by
 refine⟨_,?_,by simp,by simp,hk⟩;intro g oh' w ρ hr hρ _ _;obtain⟨_,_,hu,_⟩:=ie hd;have hρx:=hρ x (by simp [ho,Op.operands]);rw [hv] at hρx;obtain⟨hx1,_⟩:=hρx;have hge:=grownCap_ge w s.size 0 e1;have hmx:grownCap w s.size 0 e1<=maxLen:=grownCap_le_maxLen w s.size 0 e1 (by simp only [maxLen];omega)
 have hrun:(execOp ρ o).run P w=.ok (.value (.slice (some ⟨w.heap.size,0,none⟩) s.size (grownCap w s.size 0 e1)))
   (w.drew.alloc (.cells (bytesRow s (grownCap w s.size 0 e1)) e1 ((bytesRow s (grownCap w s.size 0 e1)).size,(bytesRow s (grownCap w s.size 0 e1)).size+1))):=by
  simp only [execOp,ho,hx1];exact bk _ w _ _ (run_bytes_of_string w src dst e1 s (iq hs) hu (kG he))
 rw [hrun];generalize hcap:grownCap w s.size 0 e1=cap at *;have hsz:s.data.toList.length=s.size:=by rw [J1];rfl
 have hbelow:RowKit.Below w.heap.size w (w.drew.alloc (.cells (bytesRow s cap) e1 ((bytesRow s cap).size,(bytesRow s cap).size+1))):=
  ((RowKit.Below.refl _ w).drew).alloc (wU _) _
 let N:dS:=fun b q=>if b=w.heap.size then(bytesRow s cap)[q]? else none
 have hnew:(w.drew.alloc (.cells (bytesRow s cap) e1 ((bytesRow s cap).size,(bytesRow s cap).size+1))).heap[w.heap.size]?=some (.cells (bytesRow s cap) e1 ((bytesRow s cap).size,(bytesRow s cap).size+1)):=heap_alloc_new w.drew _
 obtain⟨h1,h2,h3⟩:=hr.called (N:=N) hbelow (fun b q c hc=>by
  have hc2:(if b=w.heap.size then(bytesRow s cap)[q]? else none)=some c:=hc;split at hc2
  ·rename_i eb;subst eb;refine⟨wU _,?_⟩;show(World.cell? _ _)=_;unfold World.cell?;simp only;rw [hnew];simpa using hc2
  ·cases hc2)
 refine⟨_,h1,?_,h2,h3⟩;refine⟨?_,rfl⟩
 have key:∀(i:Nat) (t:T),(s.data.toList.map fun b=>T.af (.int .u8 b.toNat))[i]?=some t->∃b,s.data[i]?=some b/\t=.af (.int .u8 b.toNat):=by
  intro i t ht;rw [Zf] at ht;obtain⟨b,hb,rfl⟩:=C1.1 ht;exact⟨b,by rw [<- J7];exact hb,rfl⟩
 have hl:(s.data.toList.map fun b=>T.af (.int .u8 b.toNat)).length=s.size:=by rw [List.length_map];exact hsz
 have:=gD.sl (S:=(g.F.un N)) (s.data.toList.map fun b=>T.af (.int .u8 b.toNat)) (some ⟨w.heap.size,0,none⟩) cap 1 w.heap.size 0 (fun i _=>(s.data[i]?).elim Go.undef fun b=>.int .u8 b.toNat) A8 hmx (fun _=>rfl)
  (fun i t ht=>by obtain⟨b,-,rfl⟩:=key i t ht;rfl)
  (fun i t j ht hj=>by
   obtain⟨b,hb,rfl⟩:=key i t ht;have hj0:j=0:=by simpa [T.cells] using hj
   subst hj0;have hlt:i < s.data.size:=(E4.1 hb).1
   have hF:g.F w.heap.size (0+i * 1+0)=none:=by
    cases hq:g.F w.heap.size (0+i * 1+0) with
    |none=>rfl
    |some c=>
     have:=cD (hr.hG _ _ _ (hr.hF _ _ _ hq));omega
   have hrow:(bytesRow s cap)[i]?=some (.int .u8 b.toNat):=by
    unfold bytesRow;rw [I0 (by simpa using hlt),L9,hb];rfl
   unfold dS.un;rw [hF];show(if w.heap.size=w.heap.size then(bytesRow s cap)[0+i * 1+0]? else none)=_
   rw [if_pos rfl,show 0+i * 1+0=i by omega,hrow,hb];rfl)
  (fun i t j ht hj=>by obtain⟨b,hb,rfl⟩:=key i t ht;rw [hb];rfl)
  (fun i t j u ht hu2=>by
   obtain⟨b,hb,rfl⟩:=key i t ht
   cases j with
   |zero=>
    obtain rfl:T.af (.int .u8 b.toNat)=u:=by simpa [T.cells] using hu2
    rw [hb];exact gD.af _ rfl
   |succ j=>simp [T.cells] at hu2)
 rw [hl] at this;exact this
theorem sq (l:List UInt8):strOfNums (l.map fun b=>(b.toNat:Int))=⟨l.toArray⟩:=by
 unfold strOfNums
 congr 2
 rw [List.map_map]
 conv=>rhs;rw [<- List.map_id l]
 apply O2;intro b _;simp
theorem GV {o:Oper}{src dst:TypeId}{x:Operand}{e:Operand->V}{oh:OH}{k:Acc->Prop}{e1 sz by1:Nat}{ag:Bool}{z:List Value}(ho:o.op=.convert src dst x)
  (hs:tk P src=.sl e1 sz by1 ag z) (hd:tk P dst=.str) (h:RF (tk P e1) oh (e x) k):dt P o e oh k:=by
 unfold RF at h;obtain⟨_,_,hu,_⟩:=ie hs
 have zero:∀(w:World) (a:Option Addr) (cap:Nat) (he:tk P e1=.int .u8),(convert src dst (.slice a 0 cap)).run P w=.ok (.string ⟨#[]⟩) w:=by
  intro w a cap he
  cases a with
  |none=>exact run_convert_bytes_nil w src e1 hu (kG he) 0 cap dst (iq hd)
  |some ad=>
   rw [run_convert_bytes_string w src dst e1 (some ad) 0 cap hu (kG he) (iq hd)];simp [Conv.bytesToString];rfl
 split at h
 ·rename_i v1 id ver off len he hx;obtain⟨ob,hob,hv,hl,hsz,l,hel,hll,hk⟩:=cU h;refine dD hob hk fun g oh w ρ hr hρ hob'=>?_
  have hrx:=hρ x (by simp [ho,Op.operands]);rw [hx] at hrx;obtain⟨_,ob',hob2,_,hat⟩:=hrx;rw [hob'] at hob2;obtain rfl:ob=ob':=by simpa using hob2
  obtain⟨a,cap,hxe,hlc,hoff,hcap⟩:=hat hv hl;refine⟨_,?_,dI rfl⟩;simp only [execOp,ho,hxe];refine bk _ w w _ ?_;by_cases h0:len=0
  ·subst h0;rw [C8 hll];exact zero w a cap he
  ·obtain⟨b,hb,ha,hcp⟩:=hcap A8;subst ha;rw [hsz,R4];obtain⟨arr,ty,hh,_,hbs,_,_,hels⟩:=(hr.obj id ob hob' hl).2 b hb;have hcell:∀j,w.cell? ⟨b,j,none⟩=arr[j]?:=fun j=>cell_of_row w b j arr ty _ hh
   rw [<- sq];refine run_convert_bytes_arg w src e1 hu (kG he) b off len cap (l.map fun b=>(b.toNat:Int)) (by rw [List.length_map];exact hll) (fun i hi=>?_) dst (iq hd);obtain⟨bv,hbv⟩:∃bv,l[i]?=some bv:=⟨_,uz A8⟩
   have hi2:((ob.el.drop off).take len)[i]?=some (V.af (.int .u8 bv.toNat)):=by
    rw [hel,Zf,hbv];rfl
   rw [E8 hi,G0] at hi2;obtain⟨hes,hec⟩:=hels (off+i) _ hi2;obtain⟨c,hc1,hc2⟩:=hec 0 _ rfl;rw [hcell,show off+i=(off+i) * ob.sz+0 by rw [hsz];omega,hc1,C9,Zf,hbv];have hc3:c=.int .u8 bv.toNat:=(Ou (g:=g) (oh:=oh) hc2.2).1;rw [hc3];rfl
 ·rename_i v1 f ts he hx;obtain⟨l,hts,hk⟩:=h;refine aP hk fun g oh w ρ hr hρ=>?_
  have hrx:=hρ x (by simp [ho,Op.operands]);rw [hx] at hrx;obtain⟨hrx,_⟩:=hrx;obtain⟨a,cap,esz,b,off,c,hxe,hlc,hm,ha,hz,hS,h1,hR⟩:=kN hrx
  have hG:∀b o c,g.Qy f b o=some c->w.cell? ⟨b,o,none⟩=some c:=by
   intro b o c h;cases f
   ·exact hr.hG b o c h
   ·exact hr.hG b o c (hr.hF b o c h)
  have hlen:l.length=ts.length:=by rw [hts,List.length_map]
  refine⟨_,?_,dI rfl⟩;simp only [execOp,ho,hxe];refine bk _ w w _ ?_;by_cases h0:ts.length=0
  ·rw [h0,C8 (by omega:l.length=0)];exact zero w a cap he
  ·have hne:ts≠[]:=fun e=>h0 (by rw [e];rfl)
   rw [ha hne,<- sq];refine run_convert_bytes_arg w src e1 hu (kG he) b off ts.length cap (l.map fun b=>(b.toNat:Int)) (by rw [List.length_map];exact hlen) (fun i hi=>?_) dst (iq hd);obtain⟨bv,hbv⟩:∃bv,l[i]?=some bv:=⟨_,uz A8⟩
   have hi2:ts[i]?=some (T.af (.int .u8 bv.toNat)):=by
    rw [hts,Zf,hbv];rfl
   have hesz:=hz _ _ hi2;have hc:=hS i _ 0 hi2 (by simp [T.cells]);have hv:=hR i _ 0 _ hi2 (by simp [T.cells];rfl);have e1:esz=1:=by rw [<- hesz];rfl
   have e2:c i 0=.int .u8 bv.toNat:=by generalize c i 0=cc at hv;cases hv;rfl
   rw [e1,e2,R4,H8] at hc;rw [hG _ _ _ hc,C9,Zf,hbv];rfl
 ·exact h.elim
theorem mz {op:BinOp}{b:Bool}{K:Bool->Prop}(h:uR op b K):∃r,K r/\((op=.eql/\r=b)\/(op=.neq/\r = !b)):=by
 unfold uR at h;split at h
 ·exact⟨_,h,.inl ⟨rfl,rfl⟩⟩
 ·exact⟨_,h,.inr ⟨rfl,rfl⟩⟩
 ·exact h.elim
theorem Oo {g:Gh}{oh:OH}{id ver i f:Nat}{a:Value}{ob:Obj}(h:vW g oh id ver i f a)(ho:ae oh id=some ob)(hv:ob.ver=ver)(hl:ob.live=true):∃b,g.m id=some b/\a=.pointer (some ⟨b,i * ob.sz+f,none⟩):=by
 obtain⟨-,o2,ho2,-,hc⟩:=h;rw [ho] at ho2;obtain rfl:ob=o2:=by simpa using ho2
 exact hc hv hl
theorem Hc {o:Oper}{op:BinOp}{t t2:TypeId}{x y:Operand}{e:Operand->V}{oh:OH}{k:Acc->Prop}(ho:o.op=.binOp op t x y t2)
  (h:Kc (tk P t) op (LG y) oh (e x) (e y) k):dt P o e oh k:=by
 have hmx:x ∈ o.op.operands:=by simp [ho,Op.operands]
 have hmy:y ∈ o.op.operands:=by simp [ho,Op.operands]
 unfold Kc at h;split at h
 ·rename_i id ver i f hd hx hy;obtain⟨ob,hob,hv,hl,hk⟩:=cU h;obtain⟨r,hk,hr⟩:=mz hk;refine dD hob hk fun g oh w ρ hr0 hρ hob'=>?_
  have h1:=hρ x hmx;rw [hx] at h1;have h2:=hρ y hmy;rw [hy] at h2;obtain⟨h2,_⟩:=h2;obtain⟨b,_,h1⟩:=Oo h1 hob' hv hl;obtain⟨el,hu⟩:=nS hd;have he:∀d a,(Op.equalIn (d+1) t (.pointer (some a)) (.pointer none)).run P w=.ok false w:=fun d a=>by simp [Op.equalIn,run_underlying hu]
  have he:=he 9999;have n1:ρ x≠.nilIface:=by rw [h1];exact fun h=>by cases h
  have n2:∀cs,ρ x≠.agg cs:=by rw [h1];exact fun cs h=>by cases h
  have hbin:(binOp op t (ρ x) (ρ y)).run P w=.ok (.bool r) w:=by
   rw [h1,h2];rcases hr with⟨rfl,rfl⟩|⟨rfl,rfl⟩<;>simp [binOp,Op.equal,Op.maxDepth,he]
  refine⟨.bool r,?_,dI rfl⟩;simp only [execOp,ho];refine bk _ w w _ ?_;simp [fN op t x y (ρ x) (ρ y) n1 n2 w,hbin]
 ·rename_i ty id ver i f hd hx hy;obtain⟨ob,hob,hv,hl,hk⟩:=cU h;obtain⟨r,hk,hr⟩:=mz hk;refine dD hob hk fun g oh w ρ hr0 hρ hob'=>?_
  have h1:=hρ x hmx;rw [hx] at h1;have h2:=hρ y hmy;rw [hy] at h2;obtain⟨h2,_⟩:=h2;obtain⟨v,-,h1⟩:=h1;have h1:ρ x=.iface ty v:=h1;obtain⟨el,hu⟩:=xJ hd;have he:∀d v,(Op.equalIn (d+1) t (.iface ty v) .nilIface).run P w=.ok false w:=fun d v=>by simp [Op.equalIn,run_underlying hu]
  have he:=he 9999;have n1:ρ x≠.nilIface:=by rw [h1];exact fun h=>by cases h
  have n2:∀cs,ρ x≠.agg cs:=by rw [h1];exact fun cs h=>by cases h
  have hbin:(binOp op t (ρ x) (ρ y)).run P w=.ok (.bool r) w:=by
   rw [h1,h2];rcases hr with⟨rfl,rfl⟩|⟨rfl,rfl⟩<;>simp [binOp,Op.equal,Op.maxDepth,he]
  refine⟨.bool r,?_,dI rfl⟩;simp only [execOp,ho];refine bk _ w w _ ?_;simp [fN op t x y (ρ x) (ρ y) n1 n2 w,hbin]
 ·rename_i f ty u hd hx hy;obtain⟨r,hk,hr⟩:=mz h;refine aP hk fun g oh w ρ hr0 hρ=>?_
  have h1:=hρ x hmx;rw [hx] at h1;have h2:=hρ y hmy;rw [hy] at h2;obtain⟨h2,_⟩:=h2;obtain⟨h1,_⟩:=h1
  obtain⟨v,h1⟩:∃v,ρ x=.iface ty v:=by
   generalize ρ x=a at h1;cases h1
   exact⟨_,rfl⟩
  obtain⟨el,hu⟩:=xJ hd;have he:∀d v,(Op.equalIn (d+1) t (.iface ty v) .nilIface).run P w=.ok false w:=fun d v=>by simp [Op.equalIn,run_underlying hu]
  have he:=he 9999;have n1:ρ x≠.nilIface:=by rw [h1];exact fun h=>by cases h
  have n2:∀cs,ρ x≠.agg cs:=by rw [h1];exact fun cs h=>by cases h
  have hbin:(binOp op t (ρ x) (ρ y)).run P w=.ok (.bool r) w:=by
   rw [h1,h2];rcases hr with⟨rfl,rfl⟩|⟨rfl,rfl⟩<;>simp [binOp,Op.equal,Op.maxDepth,he]
  refine⟨.bool r,?_,dI rfl⟩;simp only [execOp,ho];refine bk _ w w _ ?_;simp [fN op t x y (ρ x) (ρ y) n1 n2 w,hbin]
 ·rename_i hd hx hy;obtain⟨hc,h⟩:=h;obtain⟨r,hk,hr⟩:=mz h;refine aP hk fun g oh w ρ hr0 hρ=>?_
  have h1:=hρ x hmx;rw [hx] at h1;have h2:=hρ y hmy;rw [hy] at h2;obtain⟨h2,_⟩:=h2;obtain⟨h1,_⟩:=h1;obtain⟨el,hu⟩:=xJ hd;have he:∀d,(Op.equalIn (d+1) t .nilIface .nilIface).run P w=.ok true w:=fun d=>by simp [Op.equalIn,run_underlying hu]
  have he:=he 9999
  have hbin:(binOp op t (ρ x) (ρ y)).run P w=.ok (.bool r) w:=by
   rw [h1,h2];rcases hr with⟨rfl,rfl⟩|⟨rfl,rfl⟩<;>simp [binOp,Op.equal,Op.maxDepth,he]
  have hgd:(eqGuard op t x y (ρ x) (ρ y)).run P w=.ok () w:=by
   rw [h1,h2];unfold LG at hc;split at hc
   ·rcases hr with⟨rfl,rfl⟩|⟨rfl,rfl⟩<;>simp [eqGuard]
   ·cases hc
  refine⟨.bool r,?_,dI rfl⟩;simp only [execOp,ho];refine bk _ w w _ ?_;simp [hgd,hbin]
 ·exact h.elim
theorem EL {t:TypeId}{k:TK}{u v:V}{r:Bool}{g:Gh}{oh:OH}{a b:Value}{w:World}(d:Nat)(ht:tk P t=k)(h:Ns k u v=some r)(ha:bm g oh u a)(hb:bm g oh v b) :
  (Op.equalIn (d+1) t a b).run P w=.ok r w:=by
 unfold Ns at h;split at h
 ·split at h
  ·rename_i hk;subst hk;cases h
   obtain⟨rfl,_⟩:=ha;obtain⟨rfl,_⟩:=hb;rw [run_equalIn_int w d t _ _ _ _ (kG ht)]
  ·cases h
 ·cases h
  obtain⟨rfl,_⟩:=ha;obtain⟨rfl,_⟩:=hb;rw [run_equalIn_string w d t _ _ (iq ht)]
 ·cases h
  obtain⟨rfl,_⟩:=ha;obtain⟨rfl,_⟩:=hb;rw [run_equalIn_bool' w d t _ _ (sc ht)]
 ·cases h
theorem Bk {t:TypeId}{k:TK}{cs:Array Value}{i:Nat}{c:Value}{w:World}(ht:tk P t=k)(hk:k=.bool\/k=.str\/∃q,k=.int q)(hc:cs[i]?=some c):(part t cs i).run P w=.ok c w:=by
 have h:=(nT (P:=P) (t:=t) (d:=k) ht (by rcases hk with rfl|rfl|⟨q,rfl⟩<;>exact Nat.one_pos) w).1;have hf:k.isAgg=false:=by rcases hk with rfl|rfl|⟨q,rfl⟩<;>rfl
 rw [hf] at h;unfold part;simp [Sem.run_bind,h,hc]
theorem rG {g:Gh}{oh:OH}{w:World}{d:Nat}{fs:Array Field}{ks:List TK}{xs ys:Array Value}{l m:List V}
  (hf:∀(i:Nat) (f:Field),fs[i]?=some f->f.offset=i/\f.name≠ "_"/\∃k,ks[i]?=some k/\tk P f.type=k/\(k=.bool\/k=.str\/∃q,k=.int q))
  (hfs:fs.size=ks.length) (hxl:xs.size=l.length) (hyl:ys.size=m.length) (hx:∀(j:Nat) (v:V) (c:Value),l[j]?=some v->xs[j]?=some c->bm g oh v c) (hy:∀(j:Nat) (v:V) (c:Value),m[j]?=some v->ys[j]?=some c->bm g oh v c) :
  ∀(fl:List Field) (i:Nat) (r:Bool),fs.toList.drop i=fl->xu (ks.drop i) (l.drop i) (m.drop i)=some r->(Op.eqFields (d+1) xs ys fl).run P w=.ok r w
 | [],i,r,hd,h=>by
  have hi:ks.drop i=[]:=by
   have:fs.toList.length<=i:=List.drop_eq_nil_iff.1 hd;exact List.drop_eq_nil_iff.2 (by rw [<- hfs];simpa using this)
  rw [hi] at h;unfold xu at h;split at h
  ·cases h;rfl
  ·rename_i hk _ _;cases hk
  ·cases h
 |f :: fl,i,r,hd,h=>by
  have hfi:fs[i]?=some f:=by
   have:(fs.toList.drop i)[0]?=some f:=by rw [hd];rfl
   rw [G0] at this;simpa using this
  obtain⟨h1,h2,k,h3,h4,h5⟩:=hf i f hfi
  have hd':fs.toList.drop (i+1)=fl:=by
   have:(fs.toList.drop i).drop 1=fl:=by rw [hd];rfl
   rw [L4] at this;exact this
  have hkd:ks.drop i=k :: ks.drop (i+1):=F7 (yK.1 h3).1▸by rw [(yK.1 h3).2]
  rw [hkd] at h
  match hl:l.drop i,hm:m.drop i,h with
  | [],_,h=>simp [xu] at h
  |_ :: _,[],h=>simp [xu] at h
  |u :: lr,v :: mr,h=>
   have hu:l[i]?=some u:=by
    have:(l.drop i)[0]?=some u:=by rw [hl];rfl
    rw [G0] at this;simpa using this
   have hv:m[i]?=some v:=by
    have:(m.drop i)[0]?=some v:=by rw [hm];rfl
    rw [G0] at this;simpa using this
   have hl':l.drop (i+1)=lr:=by
    have:(l.drop i).drop 1=lr:=by rw [hl];rfl
    rw [L4] at this;exact this
   have hm':m.drop (i+1)=mr:=by
    have:(m.drop i).drop 1=mr:=by rw [hm];rfl
    rw [L4] at this;exact this
   obtain⟨c,hc⟩:∃c,xs[i]?=some c:=⟨_,E3 (by rw [hxl];exact(yK.1 hu).1)⟩
   obtain⟨c',hc'⟩:∃c,ys[i]?=some c:=⟨_,E3 (by rw [hyl];exact(yK.1 hv).1)⟩
   simp only [xu] at h;unfold Op.eqFields;rw [if_pos h2,h1];simp only [Sem.run_bind,Bk h4 h5 hc,Bk h4 h5 hc',Result.andThen_ok];split at h
   ·rename_i he;rw [EL d h4 he (hx i u c hu hc) (hy i v c' hv hc')];simp only [Result.andThen_ok,U3,Bool.false_eq_true,if_false];exact rG hf hfs hxl hyl hx hy fl (i+1) r hd' (by rw [hl',hm'];exact h)
   ·rename_i he;cases h
    rw [EL d h4 he (hx i u c hu hc) (hy i v c' hv hc')];simp
   ·cases h
theorem JN {o:Oper}{op:BinOp}{t t2:TypeId}{x y:Operand}{e:Operand->V}{oh:OH}{k:Acc->Prop}(ho:o.op=.binOp op t x y t2)
  (h:RT P t op (e x) (e y) k):dt P o e oh k:=by
 have hmx:x ∈ o.op.operands:=by simp [ho,Op.operands]
 have hmy:y ∈ o.op.operands:=by simp [ho,Op.operands]
 unfold RT at h;split at h
 ·rename_i l m hx hy;obtain⟨ks,b,⟨e1,e2,fs,e3,e4,e5⟩,hl,hm,hb,h⟩:=h;obtain⟨r,hk,hr⟩:=mz h;refine aP hk fun g oh w ρ hr0 hρ=>?_
  have h1:=hρ x hmx;rw [hx] at h1;have h2:=hρ y hmy;rw [hy] at h2;obtain⟨xs,h1,hxl,hxr⟩:=h1;obtain⟨ys,h2,hyl,hyr⟩:=h2;have hff:P.fieldsOf t=fs:=by unfold Program.fieldsOf;rw [e3]
  have he:(Op.equalIn 10000 t (.agg xs) (.agg ys)).run P w=.ok b w:=by
   rw [run_equalIn_agg w 9999 t xs ys (by rw [hff];exact e3) e1,hff];exact rG e5 e4 hxl hyl (fun j v c a b=>(hxr j v c a b).1) (fun j v c a b=>(hyr j v c a b).1) fs.toList 0 b (by simp) (by simpa using hb)
  have hbin:(binOp op t (ρ x) (ρ y)).run P w=.ok (.bool r) w:=by
   rw [h1,h2];rcases hr with⟨rfl,rfl⟩|⟨rfl,rfl⟩<;>simp [binOp,Op.equal,Op.maxDepth,he]
  have hgd:(eqGuard op t x y (ρ x) (ρ y)).run P w=.ok () w:=by
   rw [h1,h2];exact run_eqGuard_agg w op t x y xs ys e2
  refine⟨.bool r,?_,dI rfl⟩;simp only [execOp,ho];refine bk _ w w _ ?_;simp [hgd,hbin]
 ·exact h.elim
theorem oP {C:CT}(hC:∀q ts r,C q ts r->iE P q ts r){o:Oper}{e:Operand->V}{oh:OH}{k:Acc->Prop}(h:step P C o e oh k):dt P o e oh k:=by
 unfold step at h;split at h
 ·rename_i x ho;exact wi (.inl ho) h
 ·rename_i x ho;exact wi (.inr ho) h
 ·rename_i c a b ho;exact GW ho h
 ·rename_i op t x y t2 ho;split at h
  ·exact Hc ho h
  ·split at h
   ·exact JN ho h
   ·exact JM ho h
 ·rename_i op t x ho;exact NO ho h
 ·rename_i s d x ho;unfold Kb at h;split at h
  ·rename_i e' sz by_ ag z hd;unfold Kd at h;split at h
   ·rename_i b hs he hx;exact CR ho hs hd he hx h.1 h.2
   ·exact h.elim
  ·rename_i hd;split at h
   ·rename_i e' sz by_ ag z hs;exact GV ho hs hd h
   ·rename_i hs;exact wj ho (by rw [hd];exact h)
  ·exact wj ho h
 ·rename_i t x i ho;exact CP ho h
 ·rename_i t x ho;exact Ha ho h
 ·rename_i t x v ho;exact CK ho h
 ·rename_i t x f ho;exact CQ ho h
 ·rename_i t x ho;exact JL ho h
 ·rename_i t ho;exact CU ho h
 ·rename_i t ps ho;exact CS ho h
 ·rename_i t x i ho;exact JJ ho h
 ·rename_i x ho;exact JF ho h
 ·rename_i x i ho;exact xR ho h
 ·rename_i t len ps ho;exact rM ho h
 ·rename_i t x lo hi mx ho;exact CL ho h
 ·rename_i t l c ho;exact GZ ho h
 ·rename_i t r ho;exact CM ho h
 ·rename_i f a b ho;exact JH ho h
 ·rename_i t x ho;exact JG ho h
 ·rename_i t x i ok ho;exact AE ho h
 ·rename_i t x i v ho;exact CN ho h
 ·rename_i c ho;split at h
  ·rename_i hc;split at h
   ·rename_i x t ha ht;exact JI ho hc ha ht h
   ·exact h.elim
  ·rename_i hc;split at h
   ·rename_i x y t t' ha ht;exact Fc (lt:=true) ho hc ha ht h
   ·exact h.elim
  ·rename_i hc;split at h
   ·rename_i x y t t' ha ht;exact Fc (lt:=false) ho hc ha ht h
   ·exact h.elim
  ·rename_i hc;split at h
   ·rename_i x y t t' ha ht;obtain⟨rfl,h⟩:=h;exact step_append ho hc ha ht h
   ·exact h.elim
  ·rename_i f hc;split at h
   ·rename_i q hf;split at h
    ·rename_i ts hts;rcases h with h|h
     ·exact Hd hC ho hc hf hts h
     ·exact GX hC ho hc hf hts h
    ·rcases h with h|h
     ·exact Hb hC ho hc hf h
     rcases h with h|h
     ·exact GY hC ho hc hf h
     rcases h with h|h
     ·exact JK hC ho hc hf h
     ·exact CO hC ho hc hf h
   ·split at h
    ·rename_i q l hw;exact NM hC ho hc hw h.2
    ·exact h.elim
  ·exact h.elim
 ·exact h.elim
end
end Go.Ev
