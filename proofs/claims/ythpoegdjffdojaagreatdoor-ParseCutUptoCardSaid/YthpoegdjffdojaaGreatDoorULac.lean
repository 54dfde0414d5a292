import Derived.Test.YthpoegdjffdojaaGreatDoorUEvH
set_option linter.all false
namespace Go.Ev
section
variable {P : Program} {g : Gh} {oh : OH} {w : World}
theorem vh {t ty e1:TypeId}{inf:TypeInfo}{zv:Value}{sz:Nat}(hu:P.underlying t=some (.slice e1))(hinf:P.info? e1=some inf)(hz:inf.zero=some zv)
  (hsz:inf.size=sz) (hzs:zv.cells.size=sz) (hr:HR g oh w) (ys:List V) (hyl:∀y ∈ ys,y.cells.length=sz) (y:Value) (hy:MR g oh w sz ys y)
  (a:Option Addr) (n cap:Nat) (xs:List V) (hxn:xs.length=n) (hxl:∀x ∈ xs,x.cells.length=sz) (hncap:n<=cap)
  (h63:n+ys.length<=9223372036854775807) (h47:(n+ys.length) * inf.bytes<=140737488355328) (c ver:Nat) (hv:∀o,ae oh c=some o->o.ver < ver)
  (hx:(cap=0)\/∃b ob arr ty',ae oh c=some ob/\ob.live=true/\g.m c=some b/\a=some ⟨b,0,none⟩/\cap<=g.cp c/\ob.sz=sz/\w.heap[b]?=some (.cells arr ty' (0,0))/\
   gE g oh ob (g.cp c) arr/\xs=ob.el.take n/\n<=ob.el.length) :
  ∃x' w' g',(Builtin.append_ #[t,t] ty #[.slice a n cap,y]).run P w=.ok x' w'/\HR g' ((c,⟨sz,xs ++ ys,ver,true⟩) :: oh) w'/\
   cx g oh g' ((c,⟨sz,xs ++ ys,ver,true⟩) :: oh)/\Fr g oh w g' ((c,⟨sz,xs ++ ys,ver,true⟩) :: oh) w'/\
   dd g' ((c,⟨sz,xs ++ ys,ver,true⟩) :: oh) (.own c ver 0 (n+ys.length)) x':=by
 obtain⟨news,hnl,hn1,hne,ya,yc,rfl,hya⟩:=hy
 have own:∀(g':Gh) (x':Value) (ad:Option Addr) (cp:Nat),x'=.slice ad (n+ys.length) cp->n+ys.length<=cp->
   (cp≠0->∃b,g'.m c=some b/\ad=some ⟨b,0,none⟩/\cp<=g'.cp c)->dd g' ((c,⟨sz,xs ++ ys,ver,true⟩) :: oh) (.own c ver 0 (n+ys.length)) x':=by
  rintro g' _ ad cp rfl hle hb;refine⟨rfl,_,an _ _ _,wU _,fun _ _=>⟨ad,cp,rfl,hle,by simp [hxn],fun h=>?_⟩⟩;obtain⟨b,h1,h2,h3⟩:=hb h;exact⟨b,h1,by simpa using h2,by omega⟩
 by_cases hy0:ys=[]
 ·subst hy0;obtain⟨rfl⟩:news=[]:=C8 (by simpa using hnl);have hrun:=xZ (P:=P) (w:=w) (ty:=ty) hu hinf a n cap hncap ya yc;rcases hx with rfl|⟨b,ob,arr,ty',hob,hl,hmc,rfl,hcp,hosz,hh,hba,hxs,hnl'⟩
  ·obtain rfl:n=0:=by omega
   obtain rfl:xs=[]:=C8 hxn;have hb:=hr.bare c ⟨sz,[],ver,true⟩ rfl hv rfl;exact⟨_,_,_,hrun,hb.1,hb.2.1,hb.2.2,own _ _ a 0 rfl (by simp) (by simp)⟩
  ·have hself:w.setRow b arr=w:=setRow_self w b arr ty' (0,0) hh;have hlt:=hv ob hob
   have hb:=hr.write c b ob ⟨sz,xs ++ [],ver,true⟩ arr arr ty' hob hl hmc hh rfl hosz.symm (O0 hlt) (fun e=>absurd e (by simp only;omega)) (by
    refine⟨by rw [hba.1,hosz],by simp [hxn];have:=hba.2.1;omega,hba.2.2.1,fun k e he=>?_⟩;have he2:xs[k]?=some e:=by simpa using he
    rw [hxs] at he2;have hk:k < n:=by have:=(yK.1 he2).1;simp at this;omega
    rw [E8 hk] at he2;have:=hba.2.2.2 k e he2
    rw [hosz] at this;exact this)
   rw [hself] at hb;exact⟨_,_,_,hrun,hb.1,hb.2.1,hb.2.2,own _ _ _ cap rfl (by simpa using hncap) (fun _=>⟨b,hmc,rfl,hcp⟩)⟩
 ·obtain⟨a',rfl,hnews⟩:=hya hy0;have hpos:0 < ys.length:=G3.2 hy0;have holds0:∀(i:Nat) (e:V),ys[i]?=some e->∀(j:Nat) (v:V),e.cells[j]?=some v->∃cc,news[i * sz+j]?=some cc/\bm g oh v cc:=hne;rcases hx with rfl|⟨b,ob,arr,ty',hob,hl,hmc,rfl,hcp,hosz,hh,hba,hxs,hnl'⟩
  ·obtain rfl:n=0:=by omega
   obtain rfl:xs=[]:=C8 hxn;have hrun:=AP (P:=P) (w:=w) (ty:=ty) hu hinf hz a a' ys.length yc news (by rw [hsz];exact hnl) hnews hpos A8 (by simpa using h47);have hge:=grownCap_ge w ys.length 0 e1;have hmx:grownCap w ys.length 0 e1<=maxLen:=grownCap_le_maxLen w ys.length 0 e1 (by simp only [maxLen];omega)
   have hb:=(hr.same (w':=w.drew) rfl).place c (grownCap w ys.length 0 e1) ⟨sz,[] ++ ys,ver,true⟩ ([] ++ news ++ (Builtin.zeroCells zv.cells (grownCap w ys.length 0 e1 - ys.length)).toList).toArray e1 rfl hv
    (jl (by simp) hyl (by simp) hnl (by simp) holds0 hn1 (by
     simp only [Q8,List.length_append,IV,hnl,hzs,<- I8];congr 1;omega) (by simpa using hge) hmx)
   refine⟨_,_,_,hrun,hb.1,hb.2.1,hb.2.2.drew,own _ _ _ _ (by simp;rfl) (by simpa using hge) (fun _=>⟨w.heap.size,by simp [Gh.at],rfl,by simp [Gh.at]⟩)⟩
  ·have hxl':∀(i:Nat) (e:V),xs[i]?=some e->i < n/\ob.el[i]?=some e:=by
    intro i e he;have hi:i < n:=by have:=(yK.1 he).1;omega
    rw [hxs,E8 hi] at he;exact⟨hi,he⟩
   have hfit:n * sz<=arr.size:=by rw [hba.1,hosz];exact F6 _ (by have:=hba.2.1;omega)
   have hol:(arr.toList.take (n * sz)).length=n * sz:=by simp;omega
   have ho:∀(i:Nat) (e:V),xs[i]?=some e->∀(j:Nat) (v:V),e.cells[j]?=some v->∃cc,(arr.toList.take (n * sz))[i * sz+j]?=some cc/\cc.oneCell'=true/\bm g oh v cc:=by
    intro i e he j v hj;obtain⟨hi,he'⟩:=hxl' i e he;obtain⟨q1,q2⟩:=hba.2.2.2 i e he';obtain⟨cc,hcc,h1,h2⟩:=q2 j v hj;have hjl:j < sz:=by rw [<- hosz,<- q1];exact(yK.1 hj).1
    refine⟨cc,?_,h1,h2⟩;rw [E8 (oB hi hjl),J7,<- hosz];exact hcc
   have hlt:=hv ob hob;by_cases hroom:n+ys.length<=cap
   ·have hfit2:n * inf.size+news.length<=arr.size:=by
     rw [hsz,hnl,<- I8,hba.1,hosz];exact F6 _ A8
    have hrun:=xY (P:=P) (w:=w) (ty:=ty) hu hinf b n cap arr ty' hh a' ys.length yc news (by rw [hsz];exact hnl) hnews hn1 hroom hfit2;rw [hsz] at hrun hfit2
    have hb:=hr.write c b ob ⟨sz,xs ++ ys,ver,true⟩ arr (arr.toList.take (n * sz) ++ news ++ arr.toList.drop (n * sz+news.length)).toArray ty' hob hl hmc hh rfl hosz.symm (O0 hlt) (fun e=>absurd e (by simp only;omega))
     (jl hxl hyl (by rw [hol,hxn]) hnl ho holds0 hn1 (by
      simp only [List.length_append,hol,List.length_drop,J1];have hs2:=hba.1
      rw [hosz] at hs2;omega) A8 hba.2.2.1)
    exact⟨_,_,_,hrun,hb.1,hb.2.1,hb.2.2,own _ _ _ cap rfl hroom (fun _=>⟨b,hmc,rfl,hcp⟩)⟩
   ·have hcell:∀(j:Nat) (u:Value),(arr.toList.take (n * sz))[j]?=some u->w.cell? ((⟨b,0,none⟩:Addr).add j)=some u:=by
     intro j u hj;have hjl:j < n * sz:=by have:=(yK.1 hj).1;omega
     rw [E8 hjl,J7] at hj;rw [Addr.add_lit,cell_of_row w b _ arr ty' _ hh];simpa using hj
    have hrun:=run_append_grow (P:=P) w t ty e1 inf zv hu hinf hz ⟨b,0,none⟩ n cap (arr.toList.take (n * sz)) (by rw [hsz];exact hol) hcell a' ys.length yc news (by rw [hsz];exact hnl) hnews A8 A8
     (growslice_fits A8 h47)
    have hge:=grownCap_ge w (n+ys.length) cap e1;have hmx:grownCap w (n+ys.length) cap e1<=maxLen:=grownCap_le_maxLen w (n+ys.length) cap e1 (by simp only [maxLen];omega)
    have hb:=(hr.same (w':=w.drew) rfl).place c (grownCap w (n+ys.length) cap e1) ⟨sz,xs ++ ys,ver,true⟩ (arr.toList.take (n * sz) ++ news ++ (Builtin.zeroCells zv.cells (grownCap w (n+ys.length) cap e1 - (n+ys.length))).toList).toArray e1 rfl hv
     (jl hxl hyl (by rw [hol,hxn]) hnl ho holds0 hn1 (by
      simp only [List.length_append,hol,IV,hnl,hzs,<- I8];congr 1;omega) A8 hmx)
    have he:((arr.toList.take (n * sz)).toArray ++ news.toArray ++ Builtin.zeroCells zv.cells (grownCap w (n+ys.length) cap e1 - (n+ys.length)))=(arr.toList.take (n * sz) ++ news ++ (Builtin.zeroCells zv.cells (grownCap w (n+ys.length) cap e1 - (n+ys.length))).toList).toArray:=by
     apply U9;simp
    rw [he] at hrun;exact⟨_,_,_,hrun,hb.1,hb.2.1,hb.2.2.drew,own _ _ _ _ rfl hge (fun _=>⟨w.heap.size,by simp [Gh.at],rfl,by simp [Gh.at]⟩)⟩
theorem step_append {o : Oper} {c : Call} {t : TypeId} {x y : Operand} {e : Operand -> V} {oh : OH} {k : Acc -> Prop} (ho : o.op = .call c) (hc : c.callee = .builtin .append)
    (ha : c.args.toList = [x, y]) (ht : c.argTypes.toList = [t, t]) (h : xW (tk P t) oh (e x) (e y) k) : dt P o e oh k := by
  have ha' : c.args = #[x, y] := by rw [<- D8 (xs := c.args), ha]
  have ht' : c.argTypes = #[t, t] := by rw [<- D8 (xs := c.argTypes), ht]
  have hmx : x ∈ o.op.operands := by simp [ho, Op.operands, Call.operands, hc, ha']
  have hmy : y ∈ o.op.operands := by simp [ho, Op.operands, Call.operands, hc, ha']
  have run : ∀ (ρ : Operand -> Value) (w w' : World) (v : Value), (Builtin.append_ #[t, t] o.type #[ρ x, ρ y]).run P w = .ok v w' -> (execOp ρ o).run P w = .ok (.value v) w' := by
    intro ρ w w' v hv;simp [execOp, ho, resolve, hc, ha', ht', invoke, builtin, hv]
  unfold xW at h;split at h
  · rename_i d1 e1 sz by1 ag1 z1 hd;obtain ⟨inf, zv, hu, hinf, hzero, hsz, hbt, hzc, hzl, _⟩ := ie hd;have hzs : zv.cells.size = sz := by rw [<- J1, hzc, hzl]
    obtain ⟨_, hsz0, h⟩ := h;obtain ⟨pre, ys, h, hpre, hys⟩ := Mi hsz0 h;split at h
    · rename_i v1 hx;obtain ⟨h63, h47, hyl, c0, hfr, hk⟩ := h;refine ⟨_, ?_, hpre, ?_, hk⟩
      · intro g oh' w ρ hr hρ hp hn;have hrx := hρ x hmx; rw [hx] at hrx;obtain ⟨a, hxe⟩ := hrx;have hny := hys hyl g oh' w (ρ y) hr hp (hρ y hmy);have hnone := hn c0 (by simp);obtain ⟨x', w', g', r1, r2, r3, r4, r5⟩ := vh (P := P) (ty := o.type) hu hinf hzero hsz hzs hr ys hyl (ρ y) hny a 0 0 [] rfl (by simp) (wU _) A8 (by rw [hbt]; simpa using h47) c0 0 (by simp [hnone]) (.inl rfl);rw [hxe.symm] at r1;rw [run ρ w w' x' r1];refine ⟨g', r2, ?_, r3, r4⟩;simpa using r5
      · intro i hi;obtain rfl : i = c0 := by simpa using hi
        exact hfr
    · rename_i v1 id ver len hx;obtain ⟨ob, hob, hv, hl, hosz, h63, h47, hyl, hk⟩ := cU h;refine ⟨_, ?_, ?_, by simp, hk⟩
      · intro g oh' w ρ hr hρ hp hn;have hob' := hp id ob (by simp);have hrx := hρ x hmx; rw [hx] at hrx;obtain ⟨_, ob', hob2, _, hat⟩ := hrx;rw [hob'] at hob2;obtain rfl : ob = ob' := by simpa using hob2
        obtain ⟨a, cap, hxe, hlc, hoff, hcap⟩ := hat hv hl;have hny := hys hyl g oh' w (ρ y) hr (fun i ob2 h2 => hp i ob2 (by simp [h2])) (hρ y hmy)
        have hxl : ∀ x ∈ ob.el.take len, x.cells.length = sz := by
          intro q hq;have hqm : q ∈ ob.el := J5 hq;obtain ⟨h1, h2⟩ := hr.obj id ob hob' hl
          cases hm : g.m id with
          | none => have := h1 hm; rw [this] at hqm; simp at hqm
          | some b =>
            obtain ⟨arr, ty', hh, _, hba⟩ := h2 b hm;obtain ⟨i, hi⟩ := V7.1 hqm;rw [<- hosz]; exact (hba.2.2.2 i q hi).1
        obtain ⟨x', w', g', r1, r2, r3, r4, r5⟩ := vh (P := P) (ty := o.type) hu hinf hzero hsz hzs hr ys hyl (ρ y) hny a len cap (ob.el.take len) (by simp; omega) hxl hlc h63 (by rw [hbt]; exact h47) id (ver + 1)
          (by intro o2 ho2; rw [hob'] at ho2; obtain rfl : ob = o2 := by simpa using ho2
              omega) (by
            by_cases hc0 : cap = 0
            · exact .inl hc0
            · obtain ⟨b, hb, ha2, hcp⟩ := hcap hc0;obtain ⟨arr, ty', hh, _, hba⟩ := (hr.obj id ob hob' hl).2 b hb
              exact .inr ⟨b, ob, arr, ty', hob', hl, hb, by simpa using ha2, by omega, hosz, hh, hba, rfl, by omega⟩)
        rw [hxe.symm] at r1;rw [run ρ w w' x' r1];exact ⟨g', r2, r5, r3, r4⟩
      · intro i ob2 h2;simp only [B5, O8] at h2;rcases h2 with ⟨rfl, rfl⟩ | h2
        · exact hob
        · exact hpre i ob2 h2
    · exact h.elim
  · exact h.elim
theorem Kk {t:TypeId}{d:TK}(h:tk P t=d)(h0:0 < d.size)(w:World)(cs:Array Value)(off:Nat)(hle:off+d.size<=cs.size) :
  (part t cs off).run P w=.ok (Lq d.isAgg ((cs.toList.drop off).take d.size)) w:=by
 obtain⟨h1,h2,h3⟩:=nT h h0 w;unfold part
 cases ha:d.isAgg with
 |true=>
  have h2':=h2 ha;simp only [Sem.run_bind,h1,ha,Result.andThen_ok,if_true,h2'];show Result.ok _ w=_
  congr 1
  show Value.agg _=Value.agg _
  congr 1
  apply U9;simp [T3,List.take_drop,H4,List.extract]
 |false=>
  have hs:=h3 ha;have hlt:off < cs.size:=by omega
  simp only [Sem.run_bind,h1,ha,Result.andThen_ok,Bool.false_eq_true,if_false,E3 hlt];show Result.ok _ w=_
  congr 1
  simp only [Lq,cond_false,hs];rw [F7 (by simpa using hlt)];simp
theorem MM {g:Gh}{oh:OH}{l:List V}{cs:Array Value}{d:TK}(h0:0 < d.size)(hd1:d.isAgg=false->d.size=1)(hl:cs.size=l.length)(hr:∀(j:Nat) (v:V) (c:Value),l[j]?=some v->cs[j]?=some c->bm g oh v c/\c.oneCell'=true)
  (off:Nat) (hle:off+d.size<=l.length):dd g oh (V.cz d.isAgg ((l.drop off).take d.size)) (Lq d.isAgg ((cs.toList.drop off).take d.size)):=by
 refine oy (by simp;omega) (fun ha=>?_) fun j v c hv hc=>?_
 ·have:=hd1 ha;simp [this];omega
 ·have hj:j < d.size:=by
   have:=(yK.1 hv).1;simp at this;omega
  rw [E8 hj,G0] at hv hc;exact hr _ v c hv (by simpa using hc)
theorem JJ {o:Oper}{t:TypeId}{x i:Operand}{e:Operand->V}{oh:OH}{k:Acc->Prop}(ho:o.op=.index t x i)
  (h:RS (tk P) (tk P t) (e x) (e i) k):dt P o e oh k:=by
 unfold RS at h;split at h
 ·rename_i d1 v1 v2 s k2 n hd hx hi;obtain⟨h0,b,hb,hk⟩:=h;refine aP hk fun g oh w ρ hr hρ=>⟨_,?_,dI rfl⟩
  have hrx:=hρ x (by simp [ho,Op.operands]);rw [hx] at hrx;have hri:=hρ i (by simp [ho,Op.operands]);rw [hi] at hri;simp only [execOp,ho];refine bk _ w w _ ?_;rw [hrx.1,hri.1];simp [Instr.index,asIntOf,run_underlying (iq hd),h0,hb]
 ·rename_i len el esz z l k2 n hd hx hi;obtain⟨h0,hlt,hez,hsz,hle,hk⟩:=h;obtain⟨inf,hu,hinf,_,_,_,hesz,hel⟩:=xK hd;have hs0:0 < (tk P el).size:=by omega
  refine aP hk fun g oh w ρ hr hρ=>?_
  have hρx:=hρ x (by simp [ho,Op.operands]);rw [hx] at hρx;have hρi:=hρ i (by simp [ho,Op.operands]);rw [hi] at hρi;obtain⟨cs,hxe,hl,hr'⟩:=hρx;obtain⟨j,hj⟩:=E1.1 hel;have hjs:j.size=esz:=by rw [hesz];simp [Program.cellsOf,hj]
  have hn0:0<=n/\n < (len:Int):=⟨h0,hlt⟩
  refine⟨Lq (tk P el).isAgg ((cs.toList.drop (n.toNat * esz)).take (tk P el).size),?_,?_⟩
  ·simp only [execOp,ho];refine bk _ w w _ ?_;rw [hxe,hρi.1];have hrun:=Kk (P:=P) (t:=el) rfl hs0 w cs (n.toNat * esz) A8;simp [Instr.index,asIntOf,run_underlying hu,sizeOf,typeInfo,hj,hn0,hjs,hrun]
  ·have:=MM (g:=g) (oh:=oh) hs0 (nT (P:=P) (t:=el) rfl hs0 w).2.2 hl hr' (n.toNat * esz) A8;rw [hsz] at this |-;exact this
 ·exact h.elim
theorem JF {o:Oper}{x:Operand}{e:Operand->V}{oh:OH}{k:Acc->Prop}(ho:o.op=.nilCheck x)(h:RP oh (e x) k):dt P o e oh k:=by
 have hm:x ∈ o.op.operands:=by simp [ho,Op.operands]
 unfold RP at h;split at h
 ·rename_i id ver i foff hx;obtain⟨ob,hob,hv,hl,hk⟩:=cU h;refine dD hob hk fun g oh w ρ hr hρ hob'=>?_
  have hrx:=hρ x hm;rw [hx] at hrx;have hrx2:=hrx;obtain⟨_,o2,h2,_,hb⟩:=hrx;rw [hob'] at h2;cases h2;obtain⟨b,_,hxe⟩:=hb hv hl;exact⟨ρ x,by simp only [execOp,ho,hxe];rfl,hrx2⟩
 ·rename_i f l hx;refine aP h fun g oh w ρ hr hρ=>?_
  have hrx:=hρ x hm;rw [hx] at hrx;have hrx2:=hrx;obtain⟨b,off,c,hxe,_⟩:=su hrx.1;exact⟨ρ x,by simp only [execOp,ho,hxe];rfl,hrx2⟩
 ·exact h.elim
theorem xR {o:Oper}{x:Operand}{i:Nat}{e:Operand->V}{oh:OH}{k:Acc->Prop}(ho:o.op=.extract x i)
  (h:tH (e x) i k):dt P o e oh k:=by
 unfold tH at h;split at h
 ·rename_i l hx;obtain⟨v,hv,hk⟩:=h;refine aP hk fun g oh w ρ hr hρ=>?_
  have hrx:=hρ x (by simp [ho,Op.operands]);rw [hx] at hrx;obtain⟨vs,hxe,hl,hall⟩:=hrx;have hi:i < vs.size:=by rw [hl];exact(yK.1 hv).1
  have hr2:=hall i v vs[i] hv (by simp [hi]);refine⟨vs[i],?_,?_⟩
  ·simp only [execOp,ho];refine bk _ w w _ ?_;rw [hxe];simp [Instr.extract,hi]
  ·cases v with
   |ba l=>exact hr2.elim
   |_=>exact hr2
 ·exact h.elim
theorem uY {sz:Nat}{ag:Bool}:∀(n:Nat) (l:List V) (k:Nat),(chunks sz ag n l)[k]?=if k < n then some (V.cz ag ((l.drop (k * sz)).take sz)) else none
 |0,l,k=>by simp [chunks]
 |n+1,l,0=>by simp [chunks]
 |n+1,l,k+1=>by
  simp only [chunks,S3,uY n,L4,Nat.add_lt_add_iff_right];rw [show sz+k * sz=(k+1) * sz by rw [T5];omega]
theorem kV {sz:Nat}{ag:Bool}:∀(n:Nat) (l:List V),(chunks sz ag n l).length=n
 |0,l=>rfl
 |n+1,l=>by simp [chunks,kV n]
theorem LS {α:Type}(n:Nat)(z:List α)(p:Nat)(hp:p < n * z.length):(List.replicate n z).flatten[p]?=z[p % z.length]?:=by
 induction n generalizing p with
 |zero=>simp at hp
 |succ n ih=>
  rw [T9,List.flatten_cons];by_cases h:p < z.length
  ·rw [C5 h,E2 h]
  ·rw [IX A8,ih (p - z.length) (by rw [T5] at hp;omega)]
   congr 1
   exact(Nat.mod_eq_sub_mod A8).symm
theorem rM {o:Oper}{t:TypeId}{len:Nat}{ps:Array (Nat×Operand)}{e:Operand->V}{oh:OH}{k:Acc->Prop}(ho:o.op=.buildSlice t len ps)
  (h:lR (tk P t) oh len (ps.toList.map fun p=>(p.1,e p.2)) k):dt P o e oh k:=by
 unfold lR at h;split at h
 ·rename_i d1 e1 sz by1 ag z hd;obtain⟨hsz0,hzl,hle,h⟩:=h;obtain⟨inf,zv,hu,hinf,hzero,hsz,hbt,hzc,_,hz1,_,hag⟩:=ie hd;have hzs:zv.cells.size=sz:=by rw [<- J1,hzc,hzl]
  obtain⟨us,⟨c0,hfr,hK⟩,hall⟩:=oS e ps.toList _ h;refine⟨_,?_,by simp,?_,hK⟩
  ·intro g oh' w ρ hr hρ _ hn;have hnone:=hn c0 (by simp)
   have hbase:xp g oh' (List.replicate len (z.map V.bI)).flatten (madeCells zv.cells (len * sz)):=by
    have hfl:(List.replicate len (z.map V.bI)).flatten.length=len * sz:=by simp [hzl]
    refine⟨by rw [size_madeCells,hfl],fun j v c hv hc=>?_⟩;have hj:j < len * sz:=by rw [<- hfl];exact(yK.1 hv).1
    rw [LS len _ j (by simpa [hzl] using hj),Zf] at hv;simp only [List.length_map,hzl] at hv;obtain⟨cv,hcv,rfl⟩:=C1.1 hv;have hone:=hz1 cv (MH hcv);have hcv2:zv.cells[j % sz]?=some cv:=by rw [<- J7,hzc];exact hcv
    unfold madeCells at hc;rw [L9,Array.getElem?_range,if_pos hj] at hc;simp only [P5,hzs,getElem!_def,hcv2,N9] at hc;subst hc;exact⟨ik (by rw [fD];exact hone),hone⟩
   obtain⟨cs',hc,ha⟩:=hall ρ g oh' _ hbase (fun p hp=>hρ p.2 (by
    simp only [ho,Op.operands]
    exact W2.2 (D4.2 ⟨p,hp,rfl⟩)))
   have hc2:Instr.fill (fun i=>some (i * sz,sz)) (madeCells zv.cells (len * sz)) (ps.toList.map fun p=>(p.1,ρ p.2))=some cs':=by
    refine qU (fun i r hr=>?_) _ _ _ hc;rw [L2,Zf] at hr;obtain⟨q,hq,rfl⟩:=C1.1 hr;have hql:i < len:=by have:=(yK.1 hq).1;simpa using this
    rw [L3 hql] at hq;obtain rfl:i=q:=by simpa using hq
    rfl
   have hlen0:len * sz=0->len=0:=fun h=>by
    rcases Nat.mul_eq_zero.1 h with h|h
    ·exact h
    ·omega
   have hus:us.length=len * sz:=by
    have h1:=ha.1
    have:cs'.size=len * sz:=by
     have key:∀(pl:Nat->Option (Nat×Nat)) (ps:List (Nat×Value)) (cs out:Array Value),Instr.fill pl cs ps=some out->out.size=cs.size:=by
      intro pl ps
      induction ps with
      |nil=>intro cs out h;simp [Instr.fill] at h;rw [h]
      |cons q r ih=>
       obtain⟨i,v⟩:=q;intro cs out h;simp only [Instr.fill] at h
       cases hp:pl i with
       |none=>simp [hp] at h
       |some q=>
        obtain⟨off,s⟩:=q;simp only [hp] at h;split at h
        ·cases h
        ·rename_i hcnd;have e1:=ih _ _ h
         have:∀(l:List (Value×Nat)) (cs:Array Value),(l.foldl (fun cs (x:Value×Nat)=>cs.setIfInBounds (off+x.2) x.1) cs).size=cs.size:=by
          intro l;induction l with
          |nil=>intro cs;rfl
          |cons y l ih=>intro cs;simp only [List.foldl_cons];rw [ih];simp
         rw [e1,<- Array.foldl_toList];exact this _ _
     rw [key _ _ _ _ hc,size_madeCells]
    omega
   have hex:(execOp ρ o).run P w=.ok (.value (.slice (some ⟨w.heap.size,0,none⟩) len len)) (w.alloc (.cells cs' e1)):=by
    have hps:(ps.map fun(i,x)=>(i,ρ x))=(ps.toList.map fun p=>(p.1,ρ p.2)).toArray:=by apply U9;simp
    simp only [execOp,ho,hps];refine bk _ _ _ _ ?_;have hgt:¬len * inf.size > 2 ^ 24:=by rw [hsz];omega
    generalize (ps.toList.map fun p=>(p.1,ρ p.2))=L at hc2;simp only [Instr.buildSlice];rw [Sem.run_bind,run_underlying hu];simp only [Result.andThen_ok];by_cases hl0:len=0
    ·subst hl0;have hm0:madeCells zv.cells (0 * sz)=#[]:=by simp [madeCells]
     rw [hm0] at hc2;simp only [<- hsz] at hc2;simp [sizeOf,typeInfo,hinf,Array.range_zero',hc2,newRow]
    ·have hne:¬len * inf.size=0:=fun h=>hl0 (hlen0 (by rw [<- hsz];exact h))
     have hne2:¬(len=0\/inf.size=0):=by
      rintro(h|h)
      ·exact hl0 h
      ·omega
     unfold madeCells at hc2;simp only [<- hsz] at hc2;simp [sizeOf,typeInfo,hinf,zeroValue,hzero,hgt,hne2,hc2,newRow];omega
   rw [hex]
   have hb:gE g oh' ⟨sz,chunks sz ag len us,0,true⟩ len cs':=by
    refine⟨by rw [ha.1,hus],by simp [kV],by simp only [maxLen];have:len<=len * sz:=V0 _ hsz0;omega,fun k' e' he'=>?_⟩;have he2:(chunks sz ag len us)[k']?=some e':=he';rw [uY] at he2;split at he2
    ·rename_i hk';obtain rfl:V.cz ag ((us.drop (k' * sz)).take sz)=e':=by simpa using he2
     have hidx:=oB (sz:=sz) (j:=0) hk' hsz0
     have hend:k' * sz+sz<=us.length:=by
      have:(k'+1) * sz<=len * sz:=F6 _ hk';rw [T5] at this;omega
     have htl:((us.drop (k' * sz)).take sz).length=sz:=by simp;omega
     have hcells:(V.cz ag ((us.drop (k' * sz)).take sz)).cells=(us.drop (k' * sz)).take sz:=by
      cases ag with
      |true=>rfl
      |false=>
       have h1:=hag rfl
       match hq:(us.drop (k' * sz)).take sz,htl with
       | [y],_=>
        have hy:us[k' * sz]?=some y:=by
         have:((us.drop (k' * sz)).take sz)[0]?=some y:=by rw [hq];rfl
         rw [E8 A8,G0] at this;simpa using this
        have hyc:k' * sz < cs'.size:=by rw [ha.1];exact(yK.1 hy).1
        have:=(ha.2 (k' * sz) y cs'[k' * sz] hy (by simp [hyc])).1;cases y<;>first|rfl|exact this.elim
       | [],h=>simp at h;omega
       |_ :: _ :: _,h=>simp at h;omega
     refine⟨by rw [hcells];exact htl,fun j v hj=>?_⟩;rw [hcells] at hj;have hjl:j < sz:=by rw [<- htl];exact(yK.1 hj).1
     rw [E8 hjl,G0] at hj;have hlt:k' * sz+j < cs'.size:=by rw [ha.1];exact(yK.1 hj).1
     obtain⟨q1,q2⟩:=ha.2 (k' * sz+j) v cs'[k' * sz+j] hj (by simp [hlt]);exact⟨_,by show cs'[k' * sz+j]?=_;simp [hlt],q2,q1⟩
    ·cases he2
   obtain⟨p1,p2,p3⟩:=hr.place c0 len _ cs' e1 rfl (by simp [hnone]) hb;refine⟨_,p1,⟨rfl,_,an _ _ _,wU _,fun _ _=>⟨_,len,rfl,wU _,by simp [kV],fun _=>⟨w.heap.size,by simp [Gh.at],by simp,by simp [Gh.at]⟩⟩⟩,p2,p3⟩
  ·intro i hi;obtain rfl:i=c0:=by simpa using hi
   exact hfr
 ·exact h.elim
end
end Go.Ev
namespace Go.Ev
section
variable {g : Gh} {oh : OH} {w : World}
end
section
variable {P : Program}
theorem CM {o:Oper}{t:TypeId}{r:Option Operand}{e:Operand->V}{oh:OH}{k:Acc->Prop}(ho:o.op=.makeMap t r)(h:CX (tk P t) oh (r.map e) k):dt P o e oh k:=False.elim h
theorem AE {o:Oper}{t:TypeId}{x i:Operand}{ok:Bool}{e:Operand->V}{oh:OH}{k:Acc->Prop}(ho:o.op=.lookup t x i ok)(h:xS (tk P t) oh (e x) (e i) ok k):dt P o e oh k:=False.elim h
theorem CN {o:Oper}{t:TypeId}{x i v:Operand}{e:Operand->V}{oh:OH}{k:Acc->Prop}(ho:o.op=.mapUpdate t x i v)(h:CY (tk P t) oh (e x) (e i) (e v) k):dt P o e oh k:=False.elim h
theorem Fc {o:Oper}{c:Call}{lt:Bool}{x y:Operand}{t t2:TypeId}{e:Operand->V}{oh:OH}{k:Acc->Prop}(ho:o.op=.call c)(hc:c.callee=.builtin (match lt with|true=>.min|false=>.max))
  (ha:c.args.toList=[x,y]) (ht:c.argTypes.toList=[t,t2]) (h:VO lt (e x) (e y) fun v=>free k (.af v)):dt P o e oh k:=by
 have ha':c.args=#[x,y]:=by rw [<- D8 (xs:=c.args),ha]
 have ht':c.argTypes=#[t,t2]:=by rw [<- D8 (xs:=c.argTypes),ht]
 have hmx:x ∈ o.op.operands:=by cases lt<;>simp [ho,Op.operands,Call.operands,hc,ha']
 have hmy:y ∈ o.op.operands:=by cases lt<;>simp [ho,Op.operands,Call.operands,hc,ha']
 unfold VO at h;split at h
 ·rename_i k1 p k2 q hvx hvy;obtain⟨rfl,r,rfl,hk⟩:=h;refine aP hk fun g oh' w ρ hr hρ=>?_
  have hρx:=hρ x hmx;have hρy:=hρ y hmy;rw [hvx] at hρx;rw [hvy] at hρy;refine⟨_,?_,dI rfl⟩
  cases lt with
  |true=>simp [execOp,ho,resolve,hc,ha',ht',invoke,builtin,hρx.1,hρy.1,run_min_int2]
  |false=>simp [execOp,ho,resolve,hc,ha',ht',invoke,builtin,hρx.1,hρy.1,run_max_int2]
 ·exact h.elim
end
end Go.Ev
