import Derived.Test.YthpoegdjffdojaaGreatDoorULaa
set_option linter.all false
namespace Go.Ev
section
variable {P : Program} {g : Gh} {oh : OH} {w : World}
def Lq (agg:Bool)(cs:List Value):Value:=bif agg then .agg cs.toArray else cs.headD Go.undef
theorem nT {t:TypeId}{d:TK}(h:tk P t=d)(h0:0 < d.size)(w:World):(isAgg t).run P w=.ok d.isAgg w/\(d.isAgg=true->(sizeOf t).run P w=.ok d.size w)/\(d.isAgg=false->d.size=1):=by
 cases d with
 |bool=>simp [isAgg,run_underlying (sc h),TK.isAgg,TK.size]
 |int k=>simp [isAgg,run_underlying (kG h),TK.isAgg,TK.size]
 |str=>simp [isAgg,run_underlying (iq h),TK.isAgg,TK.size]
 |ptr=>obtain⟨e,hu⟩:=nS h;simp [isAgg,run_underlying hu,TK.isAgg,TK.size]
 |sl e sz bt ag z=>obtain⟨i,zv,hu,_⟩:=ie h;simp [isAgg,run_underlying hu,TK.isAgg,TK.size]
 |st fs z=>obtain⟨F,i,hu,hi,_,hs,_⟩:=EZ h;simp [isAgg,run_underlying hu,TK.isAgg,TK.size,sizeOf,typeInfo,hi,hs]
 |map kk z=>obtain⟨q,e,i,hu,_⟩:=xI h;simp [isAgg,run_underlying hu,TK.isAgg,TK.size]
 |arr n el esz z=>obtain⟨i,hu,hi,_,hs,_⟩:=xK h;simp [isAgg,run_underlying hu,TK.isAgg,TK.size,sizeOf,typeInfo,hi,hs]
 |jq=>obtain⟨e,hu⟩:=xJ h;simp [isAgg,run_underlying hu,TK.isAgg,TK.size]
 |other=>simp [TK.size] at h0
theorem rq {t:TypeId}{d:TK}(h:tk P t=d)(h0:0 < d.size)(b off:Nat)(cs:List Value)(hl:cs.length=d.size)
  (hc:∀(j:Nat) (v:Value),cs[j]?=some v->w.cell? ⟨b,off+j,none⟩=some v):(loadVar t ⟨b,off,none⟩).run P w=.ok (Lq d.isAgg cs) w:=by
 obtain⟨h1,h2,h3⟩:=nT h h0 w
 cases ha:d.isAgg with
 |true=>
  have hr:=run_loadCells_list (P:=P) w ⟨b,off,none⟩ cs (fun j v hv=>by rw [Addr.add_lit];exact hc j v hv);rw [hl] at hr;simp [loadVar,h1,ha,h2 ha,hr,Lq]
 |false=>
  have h1':=h3 ha
  match cs,hl with
  | [c],_=>
   have:=hc 0 c rfl;simp only [H8] at this;simp [loadVar,h1,ha,this,Lq]
  | [],hl=>simp at hl;omega
  |_ :: _ :: _,hl=>simp at hl;omega
theorem oy {ag:Bool}{vs:List V}{cs:List Value}(hl:vs.length=cs.length)(h1:ag=false->cs.length=1)
  (hr:∀(j:Nat) (v:V) (c:Value),vs[j]?=some v->cs[j]?=some c->bm g oh v c/\c.oneCell'=true):dd g oh (V.cz ag vs) (Lq ag cs):=by
 cases ag with
 |true=>exact⟨cs.toArray,rfl,by simp [hl],fun j v c hv hc=>hr j v c hv (by simpa using hc)⟩
 |false=>
  have hc1:=h1 rfl
  match vs,cs,hl,hr with
  | [v],[c],_,hr=>
   obtain⟨h,h1⟩:=hr 0 v c rfl rfl;simp only [V.cz,Lq,cond_false,List.headD_cons];cases v<;>first|exact h|exact h.elim
  | [],cs,hl,_=>simp at hl;omega
  |_ :: _ :: _,cs,hl,_=>simp at hl;omega
theorem pf {f:Bool}{t:T}{v:Value}(h:gD (g.Qy f) t v)(h1:v.oneCell'=true):bm g oh (V.nC f t) v:=by
 unfold V.nC;split
 ·cases h with|af _ h=>exact⟨rfl,h⟩
 ·exact⟨h,h1⟩
theorem Lg {f:Bool}{t:T}{v:Value}(h:gD (g.Qy f) t v)(h1:(∀l,t≠.agg l)->v.oneCell'=true):EA g oh (V.IL f t) v:=by
 unfold V.IL;split
 ·cases h with
  |agg l cs hl h1' hr=>
   refine⟨cs,rfl,by simpa using hl,fun j u c hu hc=>?_⟩;rw [Zf] at hu;obtain⟨t',ht,rfl⟩:=C1.1 hu;exact⟨pf (hr j t' c ht hc) (h1' j c hc),h1' j c hc⟩
 ·rename_i hne;have:=pf (g:=g) (oh:=oh) h (h1 (fun l e=>hne l e));unfold V.nC at this |-;split at this<;>exact this
theorem ud {S:dS}{t:T}{v:Value}(h:gD S t v)(h1:∀l,t≠.agg l)(h2:∀l,t≠.ba l):v.oneCell'=true:=by
 cases h with
 |af _ h=>exact h
 |sl=>rfl
 |ptr=>rfl
 |agg l=>exact absurd rfl (h1 l)
 |ba l=>exact absurd rfl (h2 l)
 |jq=>rfl
theorem AH {t:TypeId}{xv:V}{oh:OH}{k:Acc->Prop}(h:rj (tk P t) oh xv k) :
  ∃pre v,k ⟨pre,[],[],v⟩/\(∀i ob,(i,ob) ∈ pre->ae oh i=some ob)/\∀(g:Gh) (oh':OH) (w:World) (xx:Value),HR g oh' w->dd g oh' xv xx->
   (∀i ob,(i,ob) ∈ pre->ae oh' i=some ob)->∃r,(Instr.loadAt t xx).run P w=.ok r w/\dd g oh' v r:=by
 unfold rj at h;split at h
 ·rename_i v1 f l;obtain⟨h0,hle,hk⟩:=h;refine⟨[],_,hk,by simp,fun g oh w xx hr hrx _=>?_⟩;obtain⟨hrx,_⟩:=hrx;obtain⟨b,off,c,hxe,hS,h1,hR⟩:=su hrx
  have hG:∀b o c,g.Qy f b o=some c->w.cell? ⟨b,o,none⟩=some c:=by
   intro b o c h;cases f
   ·exact hr.hG b o c h
   ·exact hr.hG b o c (hr.hF b o c h)
  refine⟨Lq (tk P t).isAgg ((List.range (tk P t).size).map c),?_,?_⟩
  ·rw [hxe];simp only [Instr.loadAt,Instr.sureAddr];show(loadVar t ⟨b,off,none⟩).run P w=_;refine rq rfl h0 b off _ (by simp) fun j v hv=>?_
   rw [Zf] at hv;obtain⟨j',hj',rfl⟩:=C1.1 hv;have hlt:j < (tk P t).size:=by have:=yK.1 hj';simpa using this.1
   obtain rfl:j=j':=by rw [L3 hlt] at hj';simpa using hj'
   exact hG _ _ _ (hS j A8)
  ·refine oy (by simp;omega) (fun ha=>by simpa using (nT (P:=P) (t:=t) rfl h0 w).2.2 ha) fun j v cc hv hc=>?_
   rw [Zf] at hv hc;obtain⟨u,hu,rfl⟩:=C1.1 hv;obtain⟨j',hj',rfl⟩:=C1.1 hc;have hlt:j < (tk P t).size:=by have:=yK.1 hj';simpa using this.1
   obtain rfl:j=j':=by rw [L3 hlt] at hj';simpa using hj'
   have hu':l[j]?=some u:=by rw [E8 hlt] at hu;exact hu
   exact⟨pf (hR j u hu') (h1 j A8),h1 j A8⟩
 ·rename_i v1 id ver i foff;obtain⟨ob,hob,hv,hl,h⟩:=cU h;obtain⟨el,hel,h0,hle,hk⟩:=h
  ·skip
   refine⟨_,_,hk,by simpa using hob,fun g oh w xx hr hrx hpre=>?_⟩;have hob':=hpre id ob (by simp);obtain⟨_,ob',hob2,_,hat⟩:=hrx;rw [hob'] at hob2;obtain rfl:ob=ob':=by simpa using hob2
   obtain⟨b,hb,hxe⟩:=hat hv hl;obtain⟨arr,ty,hh,_,hbs,_,_,hels⟩:=(hr.obj id ob hob' hl).2 b hb;obtain⟨hes,hec⟩:=hels i el hel;have hcell:∀j,w.cell? ⟨b,j,none⟩=arr[j]?:=fun j=>cell_of_row w b j arr ty _ hh
   refine⟨Lq (tk P t).isAgg ((List.range (tk P t).size).map fun j=>arr.getD (i * ob.sz+foff+j) Go.undef),?_,?_⟩
   ·rw [hxe];simp only [Instr.loadAt,Instr.sureAddr];show(loadVar t ⟨b,i * ob.sz+foff,none⟩).run P w=_;refine rq rfl h0 b _ _ (by simp) fun j v hv=>?_
    rw [Zf] at hv;obtain⟨j',hj',rfl⟩:=C1.1 hv;have hlt:j < (tk P t).size:=by have:=yK.1 hj';simpa using this.1
    obtain rfl:j=j':=by rw [L3 hlt] at hj';simpa using hj'
    obtain⟨c,hc,_⟩:=hec (foff+j) (el.cells[foff+j]'(by omega)) (by simp);rw [hcell,<- J7];have:arr[i * ob.sz+foff+j]?=some c:=by rw [show i * ob.sz+foff+j=i * ob.sz+(foff+j) by omega];exact hc
    simp [Pb,this]
   ·refine oy (by simp;omega) (fun ha=>by simpa using (nT (P:=P) (t:=t) rfl h0 w).2.2 ha) fun j v cc hv hc=>?_
    rw [Zf] at hc;obtain⟨j',hj',rfl⟩:=C1.1 hc;have hlt:j < (tk P t).size:=by have:=yK.1 hj';simpa using this.1
    obtain rfl:j=j':=by rw [L3 hlt] at hj';simpa using hj'
    have hu':el.cells[foff+j]?=some v:=by rw [E8 hlt,G0] at hv;exact hv
    obtain⟨c,hc,hc1,hc2⟩:=hec (foff+j) v hu';have:arr[i * ob.sz+foff+j]?=some c:=by rw [show i * ob.sz+foff+j=i * ob.sz+(foff+j) by omega];exact hc
    simp only [Pb,this,T4];exact⟨hc2,hc1⟩
 ·exact h.elim
theorem Ha {o:Oper}{t:TypeId}{x:Operand}{e:Operand->V}{oh:OH}{k:Acc->Prop}(ho:o.op=.load t x)
  (h:rj (tk P t) oh (e x) k):dt P o e oh k:=by
 obtain⟨pre,v,hk,hp,hall⟩:=AH h;refine⟨_,Dy (fun g oh w ρ hr hρ hpre=>?_),hp,by simp,hk⟩;obtain⟨r,h1,h2⟩:=hall g oh w (ρ x) hr (hρ x (by simp [ho,Op.operands])) hpre;refine⟨r,?_,h2⟩;simp only [execOp,ho];exact bk _ w w _ h1
theorem gN {α:Type}{l xs:List α}{off:Nat}(h:off+xs.length<=l.length)(j:Nat) :
  (ee l off xs)[j]?=if off<=j/\j < off+xs.length then xs[j - off]? else l[j]?:=by
 unfold ee;by_cases h1:j < off
 ·rw [List.append_assoc,C5 (by simp;omega),E8 h1,if_neg A8]
 ·by_cases h2:j < off+xs.length
  ·rw [if_pos A8,C5 (by simp;omega),IX (by simp;omega)]
   congr 1;simp;omega
  ·rw [if_neg A8,IX (by simp;omega),G0]
   congr 1;simp;omega
theorem FU {α:Type}{l xs:List α}{off:Nat}(h:off+xs.length<=l.length):(ee l off xs).length=l.length:=by
 unfold ee;simp;omega
theorem Hv {e:V}{off:Nat}{xs:List V}(h:off+xs.length<=e.cells.length)(h0:0 < xs.length)(hx:∀x ∈ xs,∀l,x≠.agg l) :
  (e.put off xs).cells=ee e.cells off xs:=by
 have one:e.cells=[e]->(V.cz false xs).cells=ee e.cells off xs:=by
  intro he;rw [he] at h |-;simp at h
  match xs,h0,hx with
  | [y],_,hx=>
   obtain rfl:off=0:=by simp at h;omega
   have:=hx y (by simp);cases y<;>first|rfl|exact absurd rfl (this _)
  |_ :: _ :: _,_,_=>simp at h;omega
 cases e with
 |agg l=>rfl
 |_=>exact one rfl
theorem vQ {v:V}{x:Value}(h:dd g oh v x)(hs:v.jV=true):∀y ∈ v.cells,∀l,y≠.agg l:=by
 intro y hy l e;obtain⟨j,hj,he⟩:=L6.1 hy;obtain⟨c,_,hc,_⟩:=(jd h hs).2 j y (by simp [hj,he]);rw [e] at hc;exact hc
theorem CK {o:Oper}{t:TypeId}{x v:Operand}{e:Operand->V}{oh:OH}{k:Acc->Prop}(ho:o.op=.store t x v)
  (h:CV (tk P t) oh (e x) (e v) k):dt P o e oh k:=by
 unfold CV at h;split at h
 ·rename_i v1 id ver i foff hx;obtain⟨ob,hob,hv,hl,h⟩:=cU h;obtain⟨el,hel,hsol,h0,hvl,hle,hk⟩:=h
  ·skip
   refine⟨_,?_,by simpa using hob,by simp,hk⟩;intro g oh' w ρ hr hρ hpre _;have hob':=hpre id ob (by simp);have hrx:=hρ x (by simp [ho,Op.operands]);have hrv:=hρ v (by simp [ho,Op.operands]);rw [hx] at hrx;obtain⟨_,ob',hob2,_,hat⟩:=hrx;rw [hob'] at hob2;obtain rfl:ob=ob':=by simpa using hob2
   obtain⟨b,hb,hxe⟩:=hat hv hl;obtain⟨arr,ty,hh,_,hbs,hbl,hbm,hels⟩:=(hr.obj id ob hob' hl).2 b hb;obtain⟨hes,hec⟩:=hels i el hel;obtain⟨hcs,hcc⟩:=jd hrv hsol;have hil:i < ob.el.length:=(yK.1 hel).1
   have hend:i * ob.sz+ob.sz<=arr.size:=by
    rw [hbs,<- T5];exact F6 _ A8
   have hlen:(ρ v).cells.toList.length=(e v).cells.length:=by simpa using hcs
   have hput:=Hv (e:=el) (off:=foff) (xs:=(e v).cells) A8 A8 (vQ hrv hsol);have hrun:=run_storeCells_at P b (i * ob.sz+foff) ty (ρ v).cells.toList 0 arr w hh (by rw [hlen];omega) (Qj hrv hsol)
   have hcsE:arr.toList.take (i * ob.sz+foff+0) ++ (ρ v).cells.toList ++ arr.toList.drop (i * ob.sz+foff+0+(ρ v).cells.toList.length)=ee arr.toList (i * ob.sz+foff) (ρ v).cells.toList:=by
    simp [ee]
   rw [hcsE] at hrun;have hsp:i * ob.sz+foff+(ρ v).cells.toList.length<=arr.toList.length:=by rw [hlen];simp;omega
   have hw:=hr.write id b ob ⟨ob.sz,ob.el.set i (el.put foff (e v).cells),ob.ver,ob.live⟩ arr (ee arr.toList (i * ob.sz+foff) (ρ v).cells.toList).toArray ty hob' hl hb hh hl rfl (wU _) (by simp) ?_
   ·obtain⟨w1,w2,w3⟩:=hw
    have hex:(execOp ρ o).run P w=.ok .skip (w.setRow b (ee arr.toList (i * ob.sz+foff) (ρ v).cells.toList).toArray):=by
     have hszt:(sizeOf t).run P w=.ok (ρ v).cells.size w:=by
      rw [hcs,hvl];obtain⟨_,h2,h3⟩:=nT (P:=P) (t:=t) rfl h0 w
      cases ha:(tk P t).isAgg with
      |true=>exact h2 ha
      |false=>
       rw [h3 ha];exact Jt rfl (fun fs z e=>by rw [e] at ha;simp [TK.isAgg] at ha) (fun e=>by rw [e] at h0;simp [TK.size] at h0) w (fun n e z y e2=>by rw [e2] at ha;simp [TK.isAgg] at ha)
     simp only [execOp,ho,hxe,Instr.storeAt,Instr.sureAddr,storeVar];simp [hszt,hrun]
    rw [hex];exact⟨g,w1,trivial,w2,w3⟩
   ·refine⟨?_,by simpa using hbl,hbm,fun k' e' he'=>?_⟩
    ·simp only [List.size_toArray,FU hsp];simpa using hbs
    ·have hget:∀p,(ee arr.toList (i * ob.sz+foff) (ρ v).cells.toList).toArray[p]?=if i * ob.sz+foff<=p/\p < i * ob.sz+foff+(e v).cells.length then(ρ v).cells[p - (i * ob.sz+foff)]? else arr[p]?:=by
      intro p;rw [L2,gN hsp,hlen];simp
     by_cases hk:k'=i
     ·subst hk
      obtain rfl:el.put foff (e v).cells=e':=by
       have he2:(ob.el.set k' (el.put foff (e v).cells))[k']?=some e':=he';rw [List.getElem?_set_self hil] at he2;simpa using he2
      refine⟨by rw [hput,FU A8];exact hes,fun j u hj=>?_⟩;rw [hput,gN A8] at hj;rw [hget];by_cases hin:foff<=j/\j < foff+(e v).cells.length
      ·rw [if_pos hin] at hj;rw [if_pos (by show k' * ob.sz+foff<=k' * ob.sz+j/\k' * ob.sz+j < _;omega)];obtain⟨c,h1,h2,h3⟩:=hcc _ u hj;refine⟨c,?_,h3,h2⟩;show(ρ v).cells[k' * ob.sz+j - (k' * ob.sz+foff)]?=some c;rw [show k' * ob.sz+j - (k' * ob.sz+foff)=j - foff by omega];exact h1
      ·rw [if_neg hin] at hj;rw [if_neg (by show ¬(k' * ob.sz+foff<=k' * ob.sz+j/\k' * ob.sz+j < _);omega)];exact hec j u hj
     ·have he2:(ob.el.set i (el.put foff (e v).cells))[k']?=some e':=he';rw [W9 A8] at he2;obtain⟨q1,q2⟩:=hels k' e' he2;refine⟨q1,fun j u hj=>?_⟩;rw [hget,if_neg]
      ·exact q2 j u hj
      ·have hjl:j < ob.sz:=by rw [<- q1];exact(yK.1 hj).1
       rintro⟨c1,c2⟩;have c1:i * ob.sz+foff<=k' * ob.sz+j:=c1;have c2:k' * ob.sz+j < i * ob.sz+foff+(e v).cells.length:=c2;rcases Nat.lt_or_gt_of_ne hk with hlt|hgt
       ·have:(k'+1) * ob.sz<=i * ob.sz:=F6 _ hlt;rw [T5] at this;omega
       ·have:(i+1) * ob.sz<=k' * ob.sz:=F6 _ hgt;rw [T5] at this;omega
 ·exact h.elim
end
end Go.Ev
namespace Go.Ev
section
variable {P : Program} {g : Gh} {oh : OH} {w : World}
theorem BL (off:Nat):∀(l:List Value) (k:Nat) (cs:Array Value),off+k+l.length<=cs.size->
  ((l.zipIdx k).foldl (fun cs (p:Value×Nat)=>cs.setIfInBounds (off+p.2) p.1) cs).toList=ee cs.toList (off+k) l
 | [],k,cs,_=>by simp [ee]
 |v :: l,k,cs,h=>by
  simp only [B9] at h;simp only [List.zipIdx_cons,List.foldl_cons];rw [BL off l (k+1) _ (by simp;omega)];apply List.ext_getElem?;intro j;rw [gN (by simp;omega),gN (by simp;omega)];simp only [Array.toList_setIfInBounds,List.getElem?_set,B9,J1];by_cases h1:j=off+k
  ·subst h1;rw [if_neg A8,if_pos rfl,if_pos A8,if_pos A8];simp
  ·by_cases h2:off+(k+1)<=j/\j < off+(k+1)+l.length
   ·rw [if_pos h2,if_pos A8];rw [show j - (off+k)=(j - (off+(k+1)))+1 by omega];simp
   ·rw [if_neg h2,if_neg A8,if_neg A8]
def xp (g:Gh)(oh:OH)(vs:List V)(cs:Array Value):Prop:=
 cs.size=vs.length/\∀(j:Nat) (v:V) (c:Value),vs[j]?=some v->cs[j]?=some c->bm g oh v c/\c.oneCell'=true
theorem rJ (z:List Value)(h:∀c ∈ z,c.oneCell'=true):xp g oh (z.map V.bI) z.toArray:=by
 refine⟨by simp,fun j v c hv hc=>?_⟩;rw [Zf] at hv;obtain⟨c',hc',rfl⟩:=C1.1 hv;have:c'=c:=by rw [L2,hc'] at hc;simpa using hc
 subst this;have h1:=h c' (MH hc');exact⟨ik (by rw [fD];exact h1),h1⟩
theorem qO {vs:List V}{cs:Array Value}(h:xp g oh vs cs){v:V}{x:Value}(hr:dd g oh v x)(hs:v.jV=true){off:Nat}(hle:off+v.cells.length<=vs.length) :
  xp g oh (ee vs off v.cells) (ee cs.toList off x.cells.toList).toArray:=by
 obtain⟨h1,h2⟩:=jd hr hs;have hxl:x.cells.toList.length=v.cells.length:=by simpa using h1
 have hle':off+x.cells.toList.length<=cs.toList.length:=by rw [hxl];simpa [h.1] using hle
 refine⟨by simp only [List.size_toArray,FU hle',FU hle];simpa using h.1,fun j u c hu hc=>?_⟩;rw [L2,gN hle',hxl] at hc;rw [gN hle] at hu;by_cases hin:off<=j/\j < off+v.cells.length
 ·rw [if_pos hin] at hu hc;obtain⟨c',e1,e2,e3⟩:=h2 _ u hu;rw [J7,e1] at hc;obtain rfl:c'=c:=by simpa using hc
  exact⟨e2,e3⟩
 ·rw [if_neg hin] at hu hc;exact h.2 j u c hu (by simpa using hc)
theorem oS {fs:List (Nat×Nat)}{K:List V->Prop}(e:Operand->V):∀(ps:List (Nat×Operand)) (vs:List V),wv fs vs (ps.map fun p=>(p.1,e p.2)) K->
  ∃us,K us/\∀(ρ:Operand->Value) (g:Gh) (oh:OH) (cs:Array Value),xp g oh vs cs->(∀p ∈ ps,dd g oh (e p.2) (ρ p.2))->
   ∃cs',Instr.fill (fs.toArray[·]?) cs (ps.map fun p=>(p.1,ρ p.2))=some cs'/\xp g oh us cs'
 | [],vs,h=>⟨vs,h,fun ρ g oh cs ha _=>⟨cs,rfl,ha⟩⟩
 |p :: ps,vs,h=>by
  simp only [E7,wv] at h;split at h
  ·rename_i off sz hf;obtain⟨hs,hl,hle,h⟩:=h;obtain⟨us,hK,hrest⟩:=oS e ps _ h;refine⟨us,hK,fun ρ g oh cs ha hp=>?_⟩;have hr:=hp p (by simp);obtain⟨h1,h2⟩:=jd hr hs;obtain⟨cs',hc',ha'⟩:=hrest ρ g oh _ (qO ha hr hs (off:=off) A8) (fun q hq=>hp q (by simp [hq]));refine⟨cs',?_,ha'⟩;have hf':fs.toArray[p.1]?=some (off,sz):=by simpa using hf
   simp only [E7,Instr.fill,hf'];rw [if_neg (by simp [h1,hl,ha.1];omega)]
   have hfold:(ρ p.2).cells.zipIdx.foldl (fun(cs:Array Value) (x:Value×Nat)=>cs.setIfInBounds (off+x.2) x.1) cs=(ee cs.toList off (ρ p.2).cells.toList).toArray:=by
    apply U9;rw [<- Array.foldl_toList,Array.toList_zipIdx,BL off _ 0 cs (by simp [h1,ha.1];omega)];simp
   rw [<- hc',<- hfold]
  ·exact h.elim
theorem Mx {t:TypeId}{fs:List (Nat×Nat)}{z:List Value}(h:tk P t=.st fs z)(parts:List (Nat×Value)):P.built t parts=Instr.fill (fs.toArray[·]?) z.toArray parts:=by
 obtain⟨F,i,hu,hi,hz,_,_,rfl,hall⟩:=EZ h
 have hm:F.toList.mapM (fun f=>(P.info? f.type).map fun i=>(f.offset,i.size))=some (F.toList.map fun f=>(f.offset,P.cellsOf f.type)):=by
  have:∀l:List Field,(∀f ∈ l,(P.info? f.type).isSome=true)->l.mapM (fun f=>(P.info? f.type).map fun i=>(f.offset,i.size))=some (l.map fun f=>(f.offset,P.cellsOf f.type)):=by
   intro l
   induction l with
   |nil=>simp
   |cons f l ih=>
    intro hl;obtain⟨i,hi⟩:=E1.1 (hl f (by simp));simp [List.mapM_cons,hi,ih (fun q hq=>hl q (by simp [hq])),Program.cellsOf]
  exact this _ hall
 simp [Program.built,hi,hu,hz,hm,Value.cells]
theorem qU {pl pl':Nat->Option (Nat×Nat)}(h:∀i r,pl i=some r->pl' i=some r):∀(ps:List (Nat×Value)) (cs out:Array Value),Instr.fill pl cs ps=some out->Instr.fill pl' cs ps=some out
 | [],cs,out,hf=>hf
 |(i,v) :: r,cs,out,hf=>by
  simp only [Instr.fill] at hf |-
  cases hp:pl i with
  |none=>simp [hp] at hf
  |some q=>
   obtain⟨off,sz⟩:=q;simp only [hp] at hf;simp only [h i _ hp];split at hf
   ·cases hf
   ·rename_i hc;rw [if_neg hc];exact qU h r _ out hf
theorem Iv {t:TypeId}{n el esz:Nat}{z:List Value}(h:tk P t=.arr n el esz z)(parts:List (Nat×Value)):P.built t parts=Instr.fill (fun i=>some (i * esz,esz)) z.toArray parts:=by
 obtain⟨i,hu,hi,hz,_,_,rfl,hall⟩:=xK h;obtain⟨j,hj⟩:=E1.1 hall;simp [Program.built,hi,hu,hz,hj,Value.cells,Program.cellsOf]
theorem CS {o:Oper}{t:TypeId}{ps:Array (Nat×Operand)}{e:Operand->V}{oh:OH}{k:Acc->Prop}(ho:o.op=.build t ps)
  (h:Df (tk P t) (ps.toList.map fun p=>(p.1,e p.2)) k):dt P o e oh k:=by
 unfold Df at h;split at h
 ·rename_i fs z hd;obtain⟨us,hK,hall⟩:=oS (fs:=fs) e ps.toList (z.map V.bI) h;refine aP hK fun g oh w ρ hr hρ=>?_
  obtain⟨_,_,_,_,_,_,hz1,_⟩:=EZ hd
  obtain⟨cs',hc,ha⟩:=hall ρ g oh z.toArray (rJ z hz1) (fun p hp=>hρ p.2 (by
   simp only [ho,Op.operands]
   exact W2.2 (D4.2 ⟨p,hp,rfl⟩)))
  refine⟨.agg cs',?_,cs',rfl,ha.1,ha.2⟩;simp only [execOp,ho];refine bk _ w w _ (run_build w t _ cs' ?_);rw [Mx hd,<- hc];simp
 ·rename_i n el esz z hd;obtain⟨us,hK,hall⟩:=oS (fs:=(List.range n).map fun j=>(j * esz,esz)) e ps.toList (z.map V.bI) h;refine aP hK fun g oh w ρ hr hρ=>?_
  obtain⟨_,_,_,_,_,hz1,_⟩:=xK hd
  obtain⟨cs',hc,ha⟩:=hall ρ g oh z.toArray (rJ z hz1) (fun p hp=>hρ p.2 (by
   simp only [ho,Op.operands]
   exact W2.2 (D4.2 ⟨p,hp,rfl⟩)))
  refine⟨.agg cs',?_,cs',rfl,ha.1,ha.2⟩;simp only [execOp,ho];refine bk _ w w _ (run_build w t _ cs' ?_);rw [Iv hd];refine qU (pl:=(((List.range n).map fun j=>(j * esz,esz)).toArray[·]?)) (fun i r hir=>?_) _ _ _ ?_
  ·have hi:i < n:=by
    by_cases h:i < n
    ·exact h
    ·simp [h] at hir
   simpa [hi] using hir
  ·simpa using hc
 ·exact h.elim
theorem JI {o:Oper}{c:Call}{t:TypeId}{x:Operand}{e:Operand->V}{oh:OH}{k:Acc->Prop}(ho:o.op=.call c)(hc:c.callee=.builtin .len)
  (ha:c.args.toList=[x]) (ht:c.argTypes.toList=[t]) (h:RR (tk P t) oh (e x) k):dt P o e oh k:=by
 have ha':c.args=#[x]:=by rw [<- D8 (xs:=c.args),ha]
 have ht':c.argTypes=#[t]:=by rw [<- D8 (xs:=c.argTypes),ht]
 have hmem:x ∈ o.op.operands:=by simp [ho,Op.operands,Call.operands,hc,ha']
 have run:∀(ρ:Operand->Value) (w:World) (v:Value),(Builtin.len_ #[t] o.type #[ρ x]).run P w=.ok v w->(execOp ρ o).run P w=.ok (.value v) w:=by
  intro ρ w v hv;simp [execOp,ho,resolve,hc,ha',ht',invoke,builtin,hv]
 unfold RR at h;split at h
 ·rename_i d1 v1 e1 sz by1 ag1 z1 f l hd hx;obtain⟨inf,zv,hu,_⟩:=ie hd;refine aP h fun g oh w ρ hr hρ=>⟨_,run ρ w _ ?_,dI rfl⟩
  have hrx:=hρ x hmem;rw [hx] at hrx;obtain⟨a,cap,esz,b,off,c',hxe,_⟩:=kN hrx.1;simp [Builtin.len_,run_underlying hu,hxe,goInt]
 ·rename_i d1 v1 e1 sz by1 ag1 z1 id ver off len hd hx;obtain⟨ob,hob,hv,hl,hk⟩:=cU h;obtain⟨inf,zv,hu,_⟩:=ie hd;refine dD hob hk fun g oh w ρ hr hρ hob'=>⟨_,run ρ w _ ?_,dI rfl⟩
  have hrx:=hρ x hmem;rw [hx] at hrx;obtain⟨_,ob',hob2,_,hat⟩:=hrx;rw [hob'] at hob2;obtain rfl:ob=ob':=by simpa using hob2
  obtain⟨a,cap,hxe,_⟩:=hat hv hl;simp [Builtin.len_,run_underlying hu,hxe,goInt]
 ·rename_i d1 v1 e1 sz by1 ag1 z1 hd hx;obtain⟨inf,zv,hu,_⟩:=ie hd;refine aP h fun g oh w ρ hr hρ=>⟨_,run ρ w _ ?_,dI rfl⟩
  have hrx:=hρ x hmem;rw [hx] at hrx;obtain⟨a,hxe⟩:=hrx;simp [Builtin.len_,run_underlying hu,hxe,goInt]
 ·rename_i d1 v1 s hd hx;refine aP h fun g oh w ρ hr hρ=>⟨_,run ρ w _ ?_,dI rfl⟩
  have hrx:=hρ x hmem;rw [hx] at hrx;obtain⟨hrx,_⟩:=hrx;simp [Builtin.len_,run_underlying (iq hd),hrx,goInt]
 ·exact h.elim
theorem GW {o:Oper}{c a b:Operand}{e:Operand->V}{oh:OH}{k:Acc->Prop}(ho:o.op=.pick c a b)
  (h:(match e c with|.af (.bool t)=>(match t with|true=>free k (e a)|false=>free k (e b))|_=>False)):dt P o e oh k:=by
 split at h
 ·rename_i t hc;split at h
  ·refine aP h fun g oh w ρ hr hρ=>⟨ρ a,?_,hρ a (by simp [ho,Op.operands])⟩
   have:=hρ c (by simp [ho,Op.operands]);rw [hc] at this;simp [execOp,ho,this.1,asBool]
  ·refine aP h fun g oh w ρ hr hρ=>⟨ρ b,?_,hρ b (by simp [ho,Op.operands])⟩
   have:=hρ c (by simp [ho,Op.operands]);rw [hc] at this;simp [execOp,ho,this.1,asBool]
 ·exact h.elim
theorem Kf {x:Option V}{a:Int}{K:Int->Prop}(h:Cu x a K):(x=none/\K a)\/∃q n,x=some (.af (.int q n))/\K n:=by
 unfold Cu at h;split at h
 ·exact .inl ⟨rfl,h⟩
 ·exact .inr ⟨_,_,rfl,h⟩
 ·exact h.elim
theorem dJ (x:Option Operand)(e:Operand->V){a:Int}{K:Int->Prop}(h:Cu (x.map e) a K) :
  ∃n,K n/\∀(g:Gh) (oh:OH) (ρ:Operand->Value),(∀y,x=some y->dd g oh (e y) (ρ y))->(x=none/\n=a)\/∃y q,x=some y/\ρ y=.int q n:=by
 rcases Kf h with⟨hx,hk⟩|⟨q,n,hx,hk⟩
 ·exact⟨a,hk,fun g oh ρ _=>.inl ⟨by simpa using hx,rfl⟩⟩
 ·cases x with
  |none=>simp at hx
  |some y=>
   refine⟨n,hk,fun g oh ρ hr=>.inr ⟨y,q,rfl,?_⟩⟩;have:=hr y rfl;have hy:e y=.af (.int q n):=by simpa using hx
   rw [hy] at this;exact this.1
theorem gO (k:IntKind)(i:Int)(y:Nat)(code:BoundsCode)(h0:0<=i)(h1:i<=y):(Instr.sliceBound (.int k i) y code).run P w=.ok i.toNat w:=by
 simp [Instr.sliceBound,asIntOf,h0,h1]
theorem mY {lo hi:Option Operand}{ρ:Operand->Value}(isS:Bool)(len cap:Nat)(hlc:len<=cap)(a b:Int)(h0:0<=a)(hab:a<=b)(hb:b<=len)
  (hlo:(lo=none/\a=0)\/∃y q,lo=some y/\ρ y=.int q a) (hhi:(hi=none/\b=len)\/∃y q,hi=some y/\ρ y=.int q b) :
  (Instr.sliceBounds isS len cap (lo.map ρ) (hi.map ρ) none).run P w=.ok (a.toNat,b.toNat,cap) w:=by
 rcases hlo with⟨rfl,rfl⟩|⟨y,q,rfl,hy⟩<;>rcases hhi with⟨rfl,rfl⟩|⟨y',q',rfl,hy'⟩
 ·simp [Instr.sliceBounds]
 ·simp only [Instr.sliceBounds,S7,P5,hy'];rw [Sem.run_bind];simp only [Sem.run_pure,Result.andThen_ok];rw [Sem.run_bind,gO _ _ _ _ A8 A8];simp
 ·simp only [Instr.sliceBounds,S7,P5,hy];rw [Sem.run_bind];simp only [Sem.run_pure,Result.andThen_ok];rw [Sem.run_bind];simp only [Sem.run_pure,Result.andThen_ok];rw [Sem.run_bind,gO _ _ _ _ A8 A8];simp
 ·simp only [Instr.sliceBounds,P5,hy,hy'];rw [Sem.run_bind];simp only [Sem.run_pure,Result.andThen_ok];rw [Sem.run_bind,gO _ _ _ _ A8 A8];simp only [Result.andThen_ok];rw [Sem.run_bind,gO _ _ _ _ A8 A8];simp
end
end Go.Ev
namespace Go.Ev
section
variable {P : Program} {g : Gh} {oh : OH} {w : World}
theorem KB {S:dS}{l:List T}{b off esz:Nat}{c:Nat->Nat->Value}(a k:Nat)
  (hz:∀(i:Nat) (t:T),l[i]?=some t->t.cells.length=esz)
  (hs:∀(i:Nat) (t:T) (j:Nat),l[i]?=some t->j < t.cells.length->S b (off+i * esz+j)=some (c i j))
  (h1:∀(i:Nat) (t:T) (j:Nat),l[i]?=some t->j < t.cells.length->(c i j).oneCell'=true)
  (hr:∀(i:Nat) (t:T) (j:Nat) (u:T),l[i]?=some t->t.cells[j]?=some u->gD S u (c i j))
  (ad:Option Addr) (cap:Nat) (hc:((l.drop a).take k).length<=cap) (hm:cap<=maxLen) (ha:(l.drop a).take k≠[]->ad=some ⟨b,off+a * esz,none⟩) :
  gD S (.sl ((l.drop a).take k)) (.slice ad ((l.drop a).take k).length cap):=by
 have key:∀(i:Nat) (t:T),((l.drop a).take k)[i]?=some t->l[a+i]?=some t:=by
  intro i t h
  have hi:i < k:=by
   have:=(yK.1 h).1;simp at this;omega
  rw [E8 hi,G0] at h;exact h
 refine .sl _ ad cap esz b (off+a * esz) (fun i j=>c (a+i) j) hc hm ha (fun i t h=>hz _ _ (key i t h)) (fun i t j h hj=>?_) (fun i t j h hj=>h1 _ _ _ (key i t h) hj) (fun i t j u h hu=>hr _ _ _ _ (key i t h) hu);have:=hs _ _ _ (key i t h) hj;rw [<- this];congr 1;rw [I8];omega
theorem CL {o:Oper}{t:TypeId}{x:Operand}{lo hi mx:Option Operand}{e:Operand->V}{oh:OH}{k:Acc->Prop}(ho:o.op=.slice t x lo hi mx)
  (h:CW (tk P t) oh (e x) (lo.map e) (hi.map e) (mx.map e) k):dt P o e oh k:=by
 have hmx:x ∈ o.op.operands:=by simp [ho,Op.operands]
 have hml:∀y,lo=some y->y ∈ o.op.operands:=by intro y hy;simp [ho,Op.operands,hy]
 have hmh:∀y,hi=some y->y ∈ o.op.operands:=by intro y hy;simp [ho,Op.operands,hy]
 have hmm:∀y,mx=some y->y ∈ o.op.operands:=by intro y hy;simp [ho,Op.operands,hy]
 unfold CW at h;split at h
 ·-- three bounds,all nought
  rename_i m hm';split at h
  ·rename_i d1 v1 w1 e1 sz by1 ag1 z1 f l hh hd hx hhi;obtain⟨inf,zv,hu,hinf,_⟩:=ie hd;obtain⟨a,h,hA⟩:=dJ lo e h;have h2:Cu (hi.map e) 0 fun b=>Cu (mx.map e) 0 fun c=>a=0/\b=0/\c=0/\free k .emp:=by rw [hhi,hm'];exact h
   obtain⟨b,h,hB⟩:=dJ hi e h2;obtain⟨c,⟨rfl,rfl,rfl,hk⟩,hC⟩:=dJ mx e h;refine aP hk fun g oh w ρ hr hρ=>?_
   have hrx:=hρ x hmx;rw [hx] at hrx;obtain⟨ad,cap,esz,b,off,c',hxe,_⟩:=kN hrx.1
   have hcc:∃y q,mx=some y/\ρ y=.int q 0:=by
    rcases hC g oh ρ (fun y hy=>hρ y (hmm y hy)) with⟨hn,_⟩|h
    ·simp [hn] at hm'
    ·exact h
   have hbb:∃y q,hi=some y/\ρ y=.int q 0:=by
    rcases hB g oh ρ (fun y hy=>hρ y (hmh y hy)) with⟨hn,_⟩|h
    ·simp [hn] at hhi
    ·exact h
   obtain⟨y,q,rfl,hy⟩:=hcc;obtain⟨y',q',rfl,hy'⟩:=hbb;have b1:∀(n:Nat) (code:BoundsCode),(Instr.sliceBound (.int q 0) n code).run P w=.ok 0 w:=fun n code=>gO (P:=P) (w:=w) q 0 n code A8 A8
   have b2:∀(n:Nat) (code:BoundsCode),(Instr.sliceBound (.int q' 0) n code).run P w=.ok 0 w:=fun n code=>gO (P:=P) (w:=w) q' 0 n code A8 A8
   have hrun:(Instr.sliceBounds true l.length cap (lo.map ρ) (some (ρ y')) (some (ρ y))).run P w=.ok (0,0,0) w:=by
    rcases hA g oh ρ (fun y hy=>hρ y (hml y hy)) with⟨rfl,_⟩|⟨y2,q2,rfl,hy2⟩
    ·simp [Instr.sliceBounds,hy,hy',b1,b2]
    ·have b3:∀(n:Nat) (code:BoundsCode),(Instr.sliceBound (.int q2 0) n code).run P w=.ok 0 w:=fun n code=>gO (P:=P) (w:=w) q2 0 n code A8 A8
     simp [Instr.sliceBounds,hy,hy',hy2,b1,b2,b3]
   refine⟨.slice ad 0 0,?_,ad,rfl⟩;simp only [execOp,ho];refine bk _ w w _ ?_;rw [hxe];simp only [P5];simp [Instr.sliceAt,Instr.slice,run_underlying hu,hrun,sizeOf,typeInfo,hinf]
  ·exact h.elim
 ·split at h
  ·rename_i d1 v1 e1 sz by1 ag1 z1 f l hd hx;obtain⟨hall,h⟩:=h;obtain⟨inf,zv,hu,hinf,_,hsz,_⟩:=ie hd;obtain⟨a,h,hA⟩:=dJ lo e h;obtain⟨b,⟨h0,hab,hbl,hk⟩,hB⟩:=dJ hi e h;have hmx0:mx=none:=by cases mx<;>simp_all
   subst hmx0;refine aP hk fun g oh w ρ hr hρ=>?_
   have hrx:=hρ x hmx;rw [hx] at hrx;obtain⟨ad,cap,esz,bb,off,c',hxe,hlc,hm,ha,hz,hS,h1,hR⟩:=kN hrx.1;have hrun:=mY (P:=P) (w:=w) true l.length cap hlc a b h0 hab hbl (hA g oh ρ (fun y hy=>hρ y (hml y hy))) (hB g oh ρ (fun y hy=>hρ y (hmh y hy)));have hlen:((l.drop a.toNat).take (b - a).toNat).length=b.toNat - a.toNat:=by simp;omega
   refine⟨.slice (if cap=a.toNat then ad else ad.map (·.add (a.toNat * inf.size))) (b.toNat - a.toNat) (cap - a.toNat),?_,?_,rfl⟩
   ·simp only [execOp,ho];refine bk _ w w _ ?_;rw [hxe];simp only [S7];simp [Instr.sliceAt,Instr.slice,run_underlying hu,hrun,sizeOf,typeInfo,hinf]
   ·rw [<- hlen];refine KB a.toNat (b - a).toNat hz hS h1 hR _ _ (by rw [hlen];omega) A8 fun hne=>?_
    have hpos:0 < ((l.drop a.toNat).take (b - a).toNat).length:=G3.2 hne;have hl0:l≠[]:=fun e=>by simp [e] at hpos
    have hcap:¬cap=a.toNat:=by omega
    rw [if_neg hcap,ha hl0];have h0l:0 < l.length:=G3.2 hl0
    have:esz=sz:=by
     have e1:=hz 0 l[0] (by simp);have e2:=hall l[0] (G9 _);omega
    simp [Addr.add_lit,hsz,this]
  ·rename_i d1 v1 e1 sz by1 ag1 z1 id ver off len hd hx;obtain⟨ob,hob,hv,hl,hosz,h⟩:=cU h;obtain⟨inf,zv,hu,hinf,_,hsz,_⟩:=ie hd;obtain⟨a,h,hA⟩:=dJ lo e h;obtain⟨b,⟨h0,hab,hbl,hk⟩,hB⟩:=dJ hi e h;have hmx0:mx=none:=by cases mx<;>simp_all
   subst hmx0;refine dD hob hk fun g oh w ρ hr hρ hob'=>?_
   have hrx:=hρ x hmx;rw [hx] at hrx;obtain⟨_,ob',hob2,_,hat⟩:=hrx;rw [hob'] at hob2;obtain rfl:ob=ob':=by simpa using hob2
   obtain⟨ad,cap,hxe,hlc,hoff,hcap⟩:=hat hv hl;have hrun:=mY (P:=P) (w:=w) true len cap hlc a b h0 hab hbl (hA g oh ρ (fun y hy=>hρ y (hml y hy))) (hB g oh ρ (fun y hy=>hρ y (hmh y hy)));refine⟨.slice (if cap=a.toNat then ad else ad.map (·.add (a.toNat * inf.size))) (b.toNat - a.toNat) (cap - a.toNat),?_,rfl,ob,hob',by omega,fun _ _=>⟨(if cap=a.toNat then ad else ad.map (·.add (a.toNat * inf.size))),cap - a.toNat,?_,?_,?_,?_⟩⟩
   ·simp only [execOp,ho];refine bk _ w w _ ?_;rw [hxe];simp only [S7];simp [Instr.sliceAt,Instr.slice,run_underlying hu,hrun,sizeOf,typeInfo,hinf]
   ·rw [show(b - a).toNat=b.toNat - a.toNat by omega]
   ·omega
   ·omega
   ·intro hne;obtain⟨bb,hb,had,hcp⟩:=hcap A8;refine⟨bb,hb,?_,by omega⟩;rw [if_neg A8,had];simp [Addr.add_lit,hsz,<- hosz,I8]
  ·rename_i d1 v1 e1 sz by1 ag1 z1 hd hx;obtain⟨inf,zv,hu,hinf,_,hsz,_⟩:=ie hd;obtain⟨a,h,hA⟩:=dJ lo e h;obtain⟨b,⟨rfl,rfl,hk⟩,hB⟩:=dJ hi e h;have hmx0:mx=none:=by cases mx<;>simp_all
   subst hmx0;refine aP hk fun g oh w ρ hr hρ=>?_
   have hrx:=hρ x hmx;rw [hx] at hrx;obtain⟨ad,hxe⟩:=hrx;have hrun:=mY (P:=P) (w:=w) true 0 0 (wU _) 0 0 A8 A8 A8 (hA g oh ρ (fun y hy=>hρ y (hml y hy))) (hB g oh ρ (fun y hy=>hρ y (hmh y hy)));refine⟨.slice ad 0 0,?_,ad,rfl⟩;simp only [execOp,ho];refine bk _ w w _ ?_;rw [hxe];simp only [S7];simp [Instr.sliceAt,Instr.slice,run_underlying hu,hrun,sizeOf,typeInfo,hinf]
  ·rename_i d1 v1 s hd hx;obtain⟨a,h,hA⟩:=dJ lo e h;obtain⟨b,⟨h0,hab,hbl,hk⟩,hB⟩:=dJ hi e h;have hmx0:mx=none:=by cases mx<;>simp_all
   subst hmx0;refine aP hk fun g oh w ρ hr hρ=>⟨_,?_,dI rfl⟩
   have hrx:=hρ x hmx;rw [hx] at hrx;obtain⟨hxe,_⟩:=hrx;have hrun:=mY (P:=P) (w:=w) false s.size s.size (wU _) a b h0 hab hbl (hA g oh ρ (fun y hy=>hρ y (hml y hy))) (hB g oh ρ (fun y hy=>hρ y (hmh y hy)));simp only [execOp,ho];refine bk _ w w _ ?_;rw [hxe];simp only [S7];simp [Instr.sliceAt,Instr.slice,run_underlying (iq hd),hrun]
  ·exact h.elim
end
end Go.Ev
