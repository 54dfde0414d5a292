import Derived.Test.YthpoegdjffdojaaGreatDoorULab
set_option linter.all false
namespace Go.Ev
section
variable {P : Program} {g : Gh} {oh : OH} {w : World}
theorem vK {ag:Bool}{z:List Value}(h:ag=false->z.length=1):(V.cz ag (z.map V.bI)).cells=z.map V.bI:=by
 cases ag with
 |true=>rfl
 |false=>
  match z,h rfl with
  | [c],_=>
   simp only [V.cz,E7,Y1,cond_false];unfold V.bI;split<;>rfl
theorem oB {k j n sz:Nat}(hk:k < n)(hj:j < sz):k * sz+j < n * sz:=by
 have:(k+1) * sz<=n * sz:=F6 _ hk;rw [T5] at this;omega
theorem GZ {o:Oper}{t:TypeId}{l c:Operand}{e:Operand->V}{oh:OH}{k:Acc->Prop}(ho:o.op=.makeSlice t l c)
  (h:JT (tk P t) oh (e l) (e c) k):dt P o e oh k:=by
 unfold JT at h;split at h
 ·rename_i d1 v1 v2 e1 sz by1 ag z q1 n q2 m hd hl hc;obtain⟨hnm,h0,h63,hby,hzl,hsz0,c0,hfr,hk⟩:=h;obtain⟨inf,zv,hu,hinf,hzero,hsz,hbt,hzc,_,hz1,_,hag⟩:=ie hd;refine⟨_,?_,by simp,?_,hk⟩
  ·intro g oh' w ρ hr hρ _ hn;have hnone:=hn c0 (by simp);have hrl:=hρ l (by simp [ho,Op.operands]);rw [hl] at hrl;have hrc:=hρ c (by simp [ho,Op.operands]);rw [hc] at hrc;have hrun:=run_make (P:=P) w t e1 inf zv hu hinf hzero q1 q2 n m h0 hnm (by rw [hbt,Int.mul_comm];omega) h63
   have hex:(execOp ρ o).run P w=.ok (.value (.slice (some ⟨w.heap.size,0,none⟩) n.toNat m.toNat)) (w.alloc (.cells (madeCells zv.cells (m.toNat * inf.size)) e1)):=by
    simp only [execOp,ho];refine bk _ _ _ _ ?_;rw [hrl.1,hrc.1];exact hrun
   rw [hex];have hcells:=vK (ag:=ag) (z:=z) (fun h=>by rw [hzl];exact hag h);have hzs:zv.cells.size=sz:=by rw [<- J1,hzc,hzl]
   have hb:gE g oh' ⟨sz,List.replicate m.toNat (V.cz ag (z.map V.bI)),0,true⟩ m.toNat (madeCells zv.cells (m.toNat * inf.size)):=by
    refine⟨by rw [size_madeCells,hsz],by simp,by simp only [maxLen];omega,fun k' e' he'=>?_⟩
    have hk':k' < m.toNat:=by
     have:=(yK.1 he').1;simpa using this
    obtain rfl:V.cz ag (z.map V.bI)=e':=by
     have he2:(List.replicate m.toNat (V.cz ag (z.map V.bI)))[k']?=some e':=he';rw [List.getElem?_replicate_of_lt hk'] at he2;simpa using he2
    refine⟨by rw [hcells];simpa using hzl,fun j v hj=>?_⟩;rw [hcells,Zf] at hj;obtain⟨cv,hcv,rfl⟩:=C1.1 hj;have hjl:j < sz:=by rw [<- hzl];exact(yK.1 hcv).1
    have hone:=hz1 cv (MH hcv);refine⟨cv,?_,hone,ik (by rw [fD];exact hone)⟩;have hlt:=oB hk' hjl;have hmod:(k' * sz+j) % sz=j:=by rw [E0,U5];exact E2 hjl
    have hj2:zv.cells[j]?=some cv:=by rw [<- J7,hzc];exact hcv
    unfold madeCells;rw [hsz,L9,Array.getElem?_range,if_pos hlt];simp only [P5,hzs];rw [hmod];simp [getElem!_def,hj2]
   obtain⟨p1,p2,p3⟩:=hr.place c0 m.toNat _ _ e1 rfl (by simp [hnone]) hb;refine⟨_,p1,⟨rfl,_,an _ _ _,wU _,fun _ _=>⟨_,m.toNat,rfl,by omega,by simp;omega,fun _=>⟨w.heap.size,by simp [Gh.at],by simp,by simp [Gh.at]⟩⟩⟩,p2,p3⟩
  ·intro i hi;obtain rfl:i=c0:=by simpa using hi
   exact hfr
 ·exact h.elim
def MR (g:Gh)(oh:OH)(w:World)(sz:Nat)(ys:List V)(x:Value):Prop:=
 ∃news:List Value,news.length=ys.length * sz/\(∀u ∈ news,u.oneCell'=true)/\
  (∀(i:Nat) (e:V),ys[i]?=some e->∀(j:Nat) (v:V),e.cells[j]?=some v->∃c,news[i * sz+j]?=some c/\bm g oh v c)/\
  ∃a cap,x=.slice a ys.length cap/\(ys≠[]->∃a',a=some a'/\∀(j:Nat) (u:Value),news[j]?=some u->w.cell? (a'.add j)=some u)
theorem wN (f:Bool)(t:T):(V.IL f t).cells=t.cells.map (V.nC f):=by
 cases t<;>rfl
theorem Mi {oh0:OH}{y:V}{K:OH->List V->Prop}{sz:Nat}(hsz:0 < sz)(h:elems oh0 y K) :
  ∃pre ys,K pre ys/\(∀i ob,(i,ob) ∈ pre->ae oh0 i=some ob)/\
   ((∀y ∈ ys,y.cells.length=sz)->∀(g:Gh) (oh:OH) (w:World) (x:Value),HR g oh w->(∀i ob,(i,ob) ∈ pre->ae oh i=some ob)->dd g oh y x->MR g oh w sz ys x):=by
 unfold elems at h;split at h
 ·refine⟨[],[],h,by simp,fun _ g oh w x hr _ hx=>?_⟩;obtain⟨a,rfl⟩:=hx;exact⟨[],by simp,by simp,by simp,a,0,rfl,by simp⟩
 ·rename_i f l;refine⟨[],_,h,by simp,fun hall g oh w x hr _ hx=>?_⟩;obtain⟨hx,_⟩:=hx;obtain⟨a,cap,esz,b,off,c,rfl,hlc,hm,ha,hz,hS,h1,hR⟩:=kN hx
  have hG:∀b o c,g.Qy f b o=some c->w.cell? ⟨b,o,none⟩=some c:=by
   intro b o c h;cases f
   ·exact hr.hG b o c h
   ·exact hr.hG b o c (hr.hF b o c h)
  have hcl:∀(i:Nat) (t:T),l[i]?=some t->t.cells.length=sz:=by
   intro i t ht;have:=hall (V.IL f t) (D4.2 ⟨t,MH ht,rfl⟩);rw [wN] at this;simpa using this
  have hesz:l≠[]->esz=sz:=by
   intro hne;have h0:0 < l.length:=G3.2 hne;have e1:=hz 0 l[0] (by simp);have e2:=hcl 0 l[0] (by simp);omega
  refine⟨(List.range (l.length * sz)).map fun p=>c (p / sz) (p % sz),by simp,?_,?_,a,cap,by simp,?_⟩
  ·intro u hu;obtain⟨p,hp,rfl⟩:=D4.1 hu;have hp:p < l.length * sz:=by simpa using hp
   have hi:p / sz < l.length:=P4 (by rw [E0];exact hp);have hmod:=J9 p hsz;have hget:l[p / sz]?=some l[p / sz]:=by simp [hi]
   exact h1 _ _ _ hget (by rw [hcl _ _ hget];exact hmod)
  ·intro i e he j v hj;rw [Zf] at he;obtain⟨t,ht,rfl⟩:=C1.1 he;rw [wN,Zf] at hj;obtain⟨u,hu,rfl⟩:=C1.1 hj;have hil:i < l.length:=(yK.1 ht).1;have hjl:j < sz:=by rw [<- hcl i t ht];exact(yK.1 hu).1
   have hlt:=oB hil hjl;have hdiv:(i * sz+j) / sz=i:=by rw [E0,X1 hsz,N6 hjl,H8]
   have hmod:(i * sz+j) % sz=j:=by rw [E0,U5];exact E2 hjl
   refine⟨c i j,?_,pf (hR i t j u ht hu) (h1 i t j ht (by rw [hcl i t ht];exact hjl))⟩;rw [Zf,L3 hlt];simp [hdiv,hmod]
  ·intro hne;have hne':l≠[]:=fun e=>hne (by simp [e])
   have hee:=hesz hne';refine⟨_,ha hne',fun p u hp=>?_⟩;rw [Zf] at hp;obtain⟨p',hp',rfl⟩:=C1.1 hp;have hlt:p < l.length * sz:=by have:=yK.1 hp';simpa using this.1
   obtain rfl:p=p':=by rw [L3 hlt] at hp';simpa using hp'
   have hi:p / sz < l.length:=P4 (by rw [E0];exact hlt);have hmod:=J9 p hsz;have hget:l[p / sz]?=some l[p / sz]:=by simp [hi]
   rw [Addr.add_lit];refine hG _ _ _ ?_;have:=hS (p / sz) l[p / sz] (p % sz) hget (by rw [hcl _ _ hget];exact hmod);rw [<- this,hee];congr 1;have:=M0 p sz;rw [E0] at this;omega
 ·rename_i id ver off len;obtain⟨ob,hob,hv,hl,hk⟩:=cU h;refine⟨_,_,hk,by simpa using hob,fun hall g oh w x hr hpre hx=>?_⟩;have hob':=hpre id ob (by simp);obtain⟨_,ob',hob2,_,hat⟩:=hx;rw [hob'] at hob2;obtain rfl:ob=ob':=by simpa using hob2
  obtain⟨a,cap,rfl,hlc,hoff,hcap⟩:=hat hv hl;have hylen:((ob.el.drop off).take len).length=len:=by simp;omega
  by_cases hlen0:len=0
  ·subst hlen0;exact⟨[],by simp,by simp,by simp,a,cap,by simp,by simp⟩
  ·obtain⟨b,hb,ha,hcp⟩:=hcap A8;subst ha;obtain⟨arr,ty,hh,_,hbs,hbl,hbm,hels⟩:=(hr.obj id ob hob' hl).2 b hb
   have hosz:ob.sz=sz:=by
    have hlt:off < ob.el.length:=by omega
    have hge:ob.el[off]?=some ob.el[off]:=by simp [hlt]
    have e1:=(hels off _ hge).1
    have e2:=hall ob.el[off] (by
     refine V7.2 ⟨0,?_⟩
     rw [E8 A8,G0];exact hge)
    omega
   have hend:(off+len) * sz<=arr.size:=by rw [hbs,hosz];exact F6 _ A8
   rw [I8] at hend;have hnl:((arr.toList.drop (off * sz)).take (len * sz)).length=len * sz:=by simp;omega
   have hget:∀p,p < len * sz->((arr.toList.drop (off * sz)).take (len * sz))[p]?=arr[off * sz+p]?:=by
    intro p hp;rw [E8 hp,G0];simp
   refine⟨(arr.toList.drop (off * sz)).take (len * sz),by rw [hnl,hylen],?_,?_,_,cap,by rw [hylen],fun _=>⟨_,rfl,fun p u hp=>?_⟩⟩
   ·intro u hu;obtain⟨p,hp,he⟩:=L6.1 hu;have hp':p < len * sz:=by rw [hnl] at hp;exact hp
    have hq:p / sz < len:=P4 (by rw [E0];exact hp');have hm:=J9 p hsz;have hlt:off+p / sz < ob.el.length:=by omega
    obtain⟨q1,q2⟩:=hels (off+p / sz) ob.el[off+p / sz] (by simp [hlt]);obtain⟨cv,hcv,hone,_⟩:=q2 (p % sz) (ob.el[off+p / sz].cells[p % sz]'(by rw [q1,hosz];exact hm)) (by simp);have:((arr.toList.drop (off * sz)).take (len * sz))[p]?=some u:=by rw [uz hp,he]
    rw [hget p hp'] at this
    have hpe:(off+p / sz) * ob.sz+p % sz=off * sz+p:=by
     rw [hosz,I8];have:=M0 p sz;rw [E0] at this;omega
    rw [hpe,this] at hcv;obtain rfl:u=cv:=by simpa using hcv
    exact hone
   ·intro i e he j v hj;have hil:i < len:=by have:=(yK.1 he).1;rw [hylen] at this;exact this
    rw [E8 hil,G0] at he;obtain⟨q1,q2⟩:=hels _ e he;obtain⟨cv,hcv,hone,hrd⟩:=q2 j v hj;have hjl:j < sz:=by rw [<- hosz,<- q1];exact(yK.1 hj).1
    refine⟨cv,?_,hrd⟩;rw [hget _ (oB hil hjl),<- hcv,hosz];congr 1;rw [I8];omega
   ·have hp':p < len * sz:=by have:=(yK.1 hp).1;rw [hnl] at this;exact this
    rw [hget p hp'] at hp;rw [Addr.add_lit,cell_of_row w b _ arr ty _ hh,hosz];exact hp
 ·exact h.elim
theorem jl {sz n ver:Nat}{olds:List Value}{news rest:List Value}{xs ys:List V}
  (hxl:∀x ∈ xs,x.cells.length=sz) (hyl:∀y ∈ ys,y.cells.length=sz) (hol:olds.length=xs.length * sz) (hnl:news.length=ys.length * sz)
  (ho:∀(i:Nat) (e:V),xs[i]?=some e->∀(j:Nat) (v:V),e.cells[j]?=some v->∃c,olds[i * sz+j]?=some c/\c.oneCell'=true/\bm g oh v c)
  (hn:∀(i:Nat) (e:V),ys[i]?=some e->∀(j:Nat) (v:V),e.cells[j]?=some v->∃c,news[i * sz+j]?=some c/\bm g oh v c)
  (hn1:∀u ∈ news,u.oneCell'=true) (hsize:(olds ++ news ++ rest).length=n * sz) (hle:xs.length+ys.length<=n) (hm:n<=maxLen) :
  gE g oh ⟨sz,xs ++ ys,ver,true⟩ n (olds ++ news ++ rest).toArray:=by
 refine⟨by simpa using hsize,by simpa using hle,hm,fun k e he=>?_⟩;have he2:(xs ++ ys)[k]?=some e:=he;by_cases hk:k < xs.length
 ·rw [C5 hk] at he2;refine⟨hxl e (MH he2),fun j v hj=>?_⟩;have hjl:j < sz:=by rw [<- hxl e (MH he2)];exact(yK.1 hj).1
  obtain⟨c,h1,h2,h3⟩:=ho k e he2 j v hj;refine⟨c,?_,h2,h3⟩;have:=oB hk hjl;show(olds ++ news ++ rest).toArray[k * sz+j]?=some c;rw [L2,List.append_assoc,C5 A8];exact h1
 ·rw [IX A8] at he2;refine⟨hyl e (MH he2),fun j v hj=>?_⟩;have hkl:k - xs.length < ys.length:=(yK.1 he2).1;have hjl:j < sz:=by rw [<- hyl e (MH he2)];exact(yK.1 hj).1
  obtain⟨c,h1,h3⟩:=hn _ e he2 j v hj;have hidx:=oB hkl hjl;have hks:k * sz=xs.length * sz+(k - xs.length) * sz:=by rw [<- I8];congr 1;omega
  refine⟨c,?_,hn1 c (MH h1),h3⟩;show(olds ++ news ++ rest).toArray[k * sz+j]?=some c;rw [L2,List.append_assoc,IX A8,C5 A8,hks,hol];rw [show xs.length * sz+(k - xs.length) * sz+j - xs.length * sz=(k - xs.length) * sz+j by omega];exact h1
theorem IV (z:Array Value)(n:Nat):(Builtin.zeroCells z n).toList.length=n * z.size:=by simp [size_zeroCells]
theorem HR.bare (h:HR g oh w)(c:Nat)(ob:Obj)(hlv:ob.live=true)(hv:∀o,ae oh c=some o->o.ver < ob.ver)(he:ob.el=[]) :
  HR { g with m:=fun i=>if i=c then none else g.m i } ((c,ob) :: oh) w/\cx g oh { g with m:=fun i=>if i=c then none else g.m i } ((c,ob) :: oh)/\
  Fr g oh w { g with m:=fun i=>if i=c then none else g.m i } ((c,ob) :: oh) w:=by
 have hm:cx g oh { g with m:=fun i=>if i=c then none else g.m i } ((c,ob) :: oh):=by
  refine bm.lift (fun _ _ _ h=>h) (fun _ _ _ h=>h) fun id o ho=>?_
  by_cases e:id=c
  ·subst e;exact⟨ob,an _ _ _,by have:=hv o ho;omega,fun h=>absurd h (eN hlv),fun e'=>by have:=hv o ho;omega⟩
  ·exact⟨o,(ah _ _ e).trans ho,wU _,fun h=>⟨h,by simp [e]⟩,fun _ hl=>⟨hl,rfl,wU _,by simp [e],rfl⟩⟩
 have hms:∀i o,ae ((c,ob) :: oh) i=some o->jg o->ae oh i=some o/\(if i=c then none else g.m i)=g.m i:=by
  intro i o ho hmp;by_cases e:i=c
  ·subst e;rw [an] at ho;obtain rfl:ob=o:=by simpa using ho
   exact absurd hmp (eN hlv)
  ·exact⟨by rwa [ah _ _ e] at ho,if_neg e⟩
 refine⟨⟨⟨h.hG,h.hF,?_,?_,h.mp.sub hms⟩,h.gl⟩,hm,⟨rfl,rfl,rfl,wU _,fun _ _ _ _=>rfl,?_,fun _ _ _ h=>h,fun _ _ _ h=>h,fun _ _ _ h=>.inl h,fun _ _ _ h=>.inl h,fun _ arr _ _ h=>⟨arr,h,rfl⟩,fun b hb=>.inl (hb.sub hms)⟩⟩
 ·intro i o ho hol;by_cases e:i=c
  ·subst e;rw [an] at ho;obtain rfl:ob=o:=by simpa using ho
   exact⟨fun _=>he,fun b hb=>by simp at hb⟩
  ·rw [ah _ _ e] at ho;obtain⟨h1,h2⟩:=h.obj i o ho hol;refine⟨by simpa [e] using h1,fun b hb=>?_⟩;obtain⟨arr',ty',hh,hg,hbl⟩:=h2 b (by simpa [e] using hb);exact⟨arr',ty',hh,hg,hbl.mono hm⟩
 ·intro i j oi oj b hi hj hli hlj hmi hmj;by_cases ei:i=c
  ·simp [ei] at hmi
  ·by_cases ej:j=c
   ·simp [ej] at hmj
   ·rw [ah _ _ ei] at hi;rw [ah _ _ ej] at hj;exact h.inj i j oi oj b hi hj hli hlj (by simpa [ei] using hmi) (by simpa [ej] using hmj)
 ·rintro b ⟨i,o,ho,hol,hmi⟩;left;by_cases e:i=c
  ·simp [e] at hmi
  ·exact⟨i,o,by rw [ah _ _ e] at ho;exact ho,hol,by simpa [e] using hmi⟩
section
variable {t ty e1 : TypeId} {inf : TypeInfo} {zv : Value}
theorem xZ (hu:P.underlying t=some (.slice e1))(hinf:P.info? e1=some inf)(a:Option Addr)(n cap:Nat)(hn:n<=cap)(a2:Option Addr)(c2:Nat) :
  (Builtin.append_ #[t,t] ty #[.slice a n cap,.slice a2 0 c2]).run P w=.ok (.slice a n cap) w:=by
 have hf:(Builtin.firstCells inf.size 0 (.slice a2 0 c2)).run P w=.ok #[] w:=by
  cases a2 with
  |none=>simp [Builtin.firstCells]
  |some a2=>simp [Builtin.firstCells,loadCells,loadCellsFrom]
 cases a with
 |none=>simp [Builtin.append_,run_underlying hu,sizeOf,typeInfo,hinf,Builtin.lenOf,hn,hf]
 |some a=>simp [Builtin.append_,run_underlying hu,sizeOf,typeInfo,hinf,Builtin.lenOf,hn,hf,storeCells]
theorem xY (hu:P.underlying t=some (.slice e1))(hinf:P.info? e1=some inf)(b n cap:Nat)(cur:Array Value)(ty':TypeId)(hg:w.heap[b]?=some (.cells cur ty' (0,0)))
  (a:Addr) (m c:Nat) (news:List Value) (hl:news.length=m * inf.size) (hnews:∀(j:Nat) (u:Value),news[j]?=some u->w.cell? (a.add j)=some u) (h1:∀u ∈ news,u.oneCell'=true)
  (hroom:n+m<=cap) (hfit:n * inf.size+news.length<=cur.size) :
  (Builtin.append_ #[t,t] ty #[.slice (some ⟨b,0,none⟩) n cap,.slice (some a) m c]).run P w =
   .ok (.slice (some ⟨b,0,none⟩) (n+m) cap) (w.setRow b (cur.toList.take (n * inf.size) ++ news ++ cur.toList.drop (n * inf.size+news.length)).toArray):=by
 have hf:=run_firstCells_some (P:=P) w inf.size m a m c news hl hnews;have hst:=run_storeCells_at P b (n * inf.size) ty' news 0 cur w hg (by simpa using hfit) h1;simp only [H8] at hst;simp [Builtin.append_,run_underlying hu,sizeOf,typeInfo,hinf,Builtin.lenOf,hroom,hf,Addr.add_lit,hst]
theorem AP (hu:P.underlying t=some (.slice e1))(hinf:P.info? e1=some inf)(hz:inf.zero=some zv)(ad:Option Addr)
  (a:Addr) (m c:Nat) (news:List Value) (hl:news.length=m * inf.size) (hnews:∀(j:Nat) (u:Value),news[j]?=some u->w.cell? (a.add j)=some u)
  (h0:0 < m) (h63:m<=9223372036854775807) (h47:m * inf.bytes<=140737488355328) :
  (Builtin.append_ #[t,t] ty #[.slice ad 0 0,.slice (some a) m c]).run P w =
   .ok (.slice (some ⟨w.heap.size,0,none⟩) m (grownCap w m 0 e1)) (w.drew.alloc (.cells (news ++ (Builtin.zeroCells zv.cells (grownCap w m 0 e1 - m)).toList).toArray e1)):=by
 cases ad with
 |none=>
  rw [run_append_nil (P:=P) w t ty e1 inf zv hu hinf hz a m c news hl hnews h0 A8 A8]
  congr 2;apply B4 (fun q=>Go.Obj.cells q e1);apply U9;simp
 |some b=>
  have:=run_append_grow (P:=P) w t ty e1 inf zv hu hinf hz b 0 0 [] (by simp) (by simp) a m c news hl hnews A8 A8 (growslice_fits A8 (by simpa using h47));rw [C2] at this;rw [this]
  congr 2;apply B4 (fun q=>Go.Obj.cells q e1);apply U9;simp
end
end
end Go.Ev
