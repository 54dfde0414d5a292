import Derived.Test.YthpoegdjffdojaaGreatDoorUEvJ
import Derived.OrdersIn
set_option linter.all false
namespace Go.Ev
structure Gm where
 par:Nat->Option Value
 df:List Deferred
structure Rel (γ:Gm)(g:Gh)(s:St)(a:Act)(w:World):Prop where
 hr:HR g s.oh w
 df:a.defers=γ.df
 sz:a.tmps.size=s.n
 env:∀t,dd g s.oh (aA s.env t) (a.tmps.getD t Go.undef)
 par:∀t v,γ.par t=some v->a.tmps.getD t Go.undef=v
section
variable {P : Program} {γ : Gm} {g : Gh} {s : St} {a : Act} {w : World}
theorem me (h:Rel γ g s a w)(x:Operand):dd g s.oh (rS s.env x) (a.eval x):=by
 cases x with
 |tmp t=>exact h.env t
 |const v=>exact um v
 |global q=>exact⟨rfl,rfl⟩
 |func f=>exact⟨rfl,rfl⟩
theorem dj (d:Nat)(v:V)(e:Env)(t:Nat):aA ((d,v) :: e) t=if d=t then v else aA e t:=by
 rfl
theorem Rel.put {o:Oper}{post:OH}{g':Gh}{w':World}{v:V}{x:Value}(h:Rel γ g s a w)(hd:∀d,o.dst=some d->d < s.n)(hγ:∀d,o.dst=some d->γ.par d=none)(h1:HR g' (post ++ s.oh) w')
  (hv:dd g' (post ++ s.oh) v x) (hm:cx g s.oh g' (post ++ s.oh)):Rel γ g' (s.app o v post) (a.put o.dst x) w':=by
 cases hdst:o.dst with
 |none=>
  refine⟨h1,h.df,h.sz,fun t=>?_,by simpa [Act.put] using h.par⟩;simp only [St.app,hdst,Act.put];exact hm.Sh (h.env t)
 |some d=>
  refine⟨h1,h.df,by simp [Act.put,St.app,h.sz],fun t=>?_,fun t v hv=>?_⟩
  rotate_left
  ·have e:d≠t:=fun e=>by rw [<- e,hγ d hdst] at hv;cases hv
   simp only [Act.put];rw [Pb,I1 e,<- Pb];exact h.par t v hv
  simp only [St.app,hdst,Act.put,dj];by_cases e:d=t
  ·subst e;have hlt:d < a.tmps.size:=by rw [h.sz];exact hd d hdst
   rw [if_pos rfl,Pb,K7 hlt];exact hv
  ·rw [if_neg e,Pb,I1 e,<- Pb];exact hm.Sh (h.env t)
theorem Rel.skip {o:Oper}(h:Rel γ g s a w)(hγ:∀d,o.dst=some d->γ.par d=none):Rel γ g (s.app o (.ba []) []) (a.put o.dst Go.undef) w:=by
 cases hdst:o.dst with
 |none=>exact⟨by simpa [St.app] using h.hr,h.df,h.sz,fun t=>by simpa [St.app,hdst,Act.put] using h.env t,by simpa [Act.put] using h.par⟩
 |some d=>
  refine⟨by simpa [St.app] using h.hr,h.df,by simp [Act.put,St.app,h.sz],fun t=>?_,fun t v hv=>?_⟩
  rotate_left
  ·have e:d≠t:=fun e=>by rw [<- e,hγ d hdst] at hv;cases hv
   simp only [Act.put];rw [Pb,I1 e,<- Pb];exact h.par t v hv
  simp only [St.app,hdst,Act.put,dj,Q8];by_cases e:d=t
  ·rw [if_pos e,Pb,Array.getElem?_setIfInBounds];subst e;refine⟨#[],?_,rfl,fun j v c h=>by simp at h⟩;simp only [if_true];split<;>rfl
  ·rw [if_neg e,Pb,I1 e,<- Pb];exact h.env t
def FR (ro:Option Nat):Fence:={ Fence.wide with round:=ro }
theorem Mu {ro:Option Nat}{nf:Nat}{f:FuncId}{args:Array Value}{R:Ending->World->Prop}(h:Calls P f args w R):CallsIn (FR ro) nf P f args w R:=(callsIn_wide (n:=nf)).2 h
theorem HE {Z:Value->World->Prop}{ρ:Operand->Value}{o:Oper}(h:Out P Z ((execOp ρ o).run P w))(c:Call):o.op≠.defer c:=by
 intro e;have e1:execOp ρ o=(do pure (.defer (<- resolve ρ c o.type)):Sem Next):=by simp only [execOp,e]
 rw [e1] at h;simp only [Sem.run_bind] at h
 cases hr:(resolve ρ c o.type).run P w with
 |ok d w'=>rw [hr] at h;exact h
 |halt x w'=>rw [hr] at h;exact h
theorem vY {ro:Option Nat}{nf:Nat}{o:Oper}{K:Act->World->Prop}{Q:Exit->Act->World->Prop}{Z:Value->World->Prop}(h:Out P Z ((execOp a.eval o).run P w))
  (hk:∀v w',Z v w'->K (a.put o.dst v) w'):o.wpIn (FR ro) nf P a w K Q:=by
 refine⟨fun _ _=>trivial,?_⟩;rw [Oper.semAt_eq _ _ _ (HE h)];generalize (execOp a.eval o).run P w=r at *
 cases r with
 |ok n w'=>
  cases n<;>simp only [Out] at h<;>simp only [Oper.uponIn]
  case value v=>exact hk _ _ h
  case skip=>exact hk _ _ h
  case enter f args=>
   refine⟨(fun h=>by cases h),(Mu h).mono fun e w'' he=>?_⟩;obtain⟨v,rfl,hz⟩:=he;exact hk _ _ hz
 |halt x w'=>simp only [Out] at h
theorem xQ {ro:Option Nat}{nf:Nat}{o:Oper}{acc:Acc}{K:Act->World->Prop}{Q:Exit->Act->World->Prop}(h:Rel γ g s a w)(hd:∀d,o.dst=some d->d < s.n)(hγ:∀d,o.dst=some d->γ.par d=none)(hok:EB P o (rS s.env) acc)
  (hp:∀i ob,(i,ob) ∈ acc.pre->ae s.oh i=some ob) (hn:∀i,i ∈ acc.nw->ae s.oh i=none)
  (hk:∀g' a' w',Rel γ g' (s.app o acc.v acc.post) a' w'->Fr g s.oh w g' (acc.post ++ s.oh) w'->cx g s.oh g' (acc.post ++ s.oh)->K a' w'):o.wpIn (FR ro) nf P a w K Q:=by
 refine vY (hok g s.oh w a.eval h.hr (fun x _=>me h x) hp hn) fun v w' hz=>?_
 obtain⟨g',h1,h2,h3,h4⟩:=hz;exact hk g' _ w' (h.put hd hγ h1 h2 h3) h4 h3
theorem kT {ops:Array Oper}{j:Nat}{b:Bool}(h:Rel γ g s a w)(hg:cm ops s.env j=.af (.bool b)):yielded ops a.tmps j=some b:=by
 unfold cm at hg;unfold yielded
 cases hd:(ops[j]?).bind (·.dst) with
 |none=>simp [hd] at hg
 |some d=>
  simp only [hd] at hg;have:=h.env d;rw [hg] at this;have hx:a.tmps.getD d Go.undef=.bool b:=this.1
  have:a.tmps[d]?=some (.bool b):=by
   rw [Pb] at hx
   cases hq:a.tmps[d]? with
   |none=>rw [hq] at hx;simp [Go.undef] at hx
   |some q=>rw [hq] at hx;simpa using hx
  simp [this]
theorem uL {ops:Array Oper}{j:Nat}{b:Bool}(h:Rel γ g s a w)(hg:cm ops s.env j=.ba []):yielded ops a.tmps j≠some b:=by
 unfold cm at hg;unfold yielded
 cases hd:(ops[j]?).bind (·.dst) with
 |none=>simp
 |some d=>
  simp only [hd] at hg;have:=h.env d;rw [hg] at this;obtain⟨vs,hx,_,_⟩:=this;intro e;simp only [Option.bind_some] at e;rw [Pb] at hx
  cases hq:a.tmps[d]? with
  |none=>rw [hq] at e;simp at e
  |some q=>rw [hq] at hx e;simp at hx;subst hx;simp at e
theorem Su {o:Oper}{t:TypeId}{x:Operand}{pos:Bool}{K:Bool->Prop}(hn:sA o=some (t,x,pos))(h:Rel γ g s a w)(hb:OT (tk P t) (rS s.env x) K) :
  ∃b,K b/\(execOp a.eval o).run P w=.ok (.value (.bool (b == pos))) w:=by
 have key:∀(ad:Option Addr) (len cap:Nat),a.eval x=.slice ad len cap->(∃e,P.underlying t=some (.slice e))->K ad.isNone->
   ∃b,K b/\(execOp a.eval o).run P w=.ok (.value (.bool (b == pos))) w:=by
  rintro ad len cap he ⟨e1,hu⟩ hk;refine⟨_,hk,?_⟩
  have heq:∀d,(Op.equalIn (d+1) t (.slice ad len cap) (.slice none 0 0)).run P w=.ok ad.isNone w:=by
   intro d;cases ad<;>simp [Op.equalIn,run_underlying hu]
  have heq:=heq 9999;unfold sA at hn;split at hn
  ·rename_i t' x' t2 ho;cases hn
   simp only [execOp,ho];refine bk _ w w _ ?_;show((do eqGuard .eql t x _ (a.eval x) (.slice none 0 0);binOp .eql t (a.eval x) (.slice none 0 0)):Sem Value).run P w=_;rw [he];simp [fN .eql t x _ (.slice ad len cap) (.slice none 0 0) (by simp) (by simp) w,binOp,Op.equal,Op.maxDepth,heq]
  ·rename_i t' x' t2 ho;cases hn
   simp only [execOp,ho];refine bk _ w w _ ?_;show((do eqGuard .neq t x _ (a.eval x) (.slice none 0 0);binOp .neq t (a.eval x) (.slice none 0 0)):Sem Value).run P w=_;rw [he];simp [fN .neq t x _ (.slice ad len cap) (.slice none 0 0) (by simp) (by simp) w,binOp,Op.equal,Op.maxDepth,heq]
  ·cases hn
 have hrx:=me h x;unfold OT at hb;split at hb
 ·rename_i d1 v1 e1 sz by1 ag1 z1 f l hd hx;rw [hx] at hrx;obtain⟨ad,cap,esz,b,off,c',hxe,_,_,ha,_⟩:=kN hrx.1;obtain⟨_,_,hu,_⟩:=ie hd
  exact key ad _ _ hxe ⟨_,hu⟩ (hb _ fun hn=>by
   cases l with
   |nil=>rfl
   |cons q r=>rw [ha (by simp)] at hn;simp at hn)
 ·rename_i d1 v1 e1 sz by1 ag1 z1 hd hx;rw [hx] at hrx;obtain⟨ad,hxe⟩:=hrx;obtain⟨_,_,hu,_⟩:=ie hd;exact key ad _ _ hxe ⟨_,hu⟩ (hb _)
 ·exact hb.elim
theorem iN {v:V}{K:V->Prop}(h:hY v K):K v:=by
 unfold hY at h;split at h
 ·rename_i b;cases b
  ·exact h.2 rfl
  ·exact h.1 rfl
 ·exact h
theorem qV {ro:Option Nat}{nf:Nat}{C:CT}(hC:∀q ts r,C q ts r->iE P q ts r){ops:Array Oper}{K:St->Prop}{Q:Exit->Act->World->Prop}{n np:Nat}{rest:List Nat}(hdst:Ik n ops.toList=true)(hnp:∀d,np<=d->γ.par d=none)(hpar:Dw np ops.toList=true)
  {g0:Gh} {oh0:OH} {w0:World} (hK:∀s' g' a' w',K s'->Rel γ g' s' a' w'->Fr g0 oh0 w0 g' s'.oh w'/\cx g0 oh0 g' s'.oh->s'.n=n->wpOpsIn (FR ro) nf P ops Q rest a' w') :
  ∀(r:List Oper) (i:Nat) (s:St),(∃r',ops.toList.drop i=r ++ r')->gK P C ops i r s K->∀g a w,Rel γ g s a w->Fr g0 oh0 w0 g s.oh w/\cx g0 oh0 g s.oh->s.n=n->wpOpsIn (FR ro) nf P ops Q (List.range' i r.length ++ rest) a w
 | [],i,s,_,h,g,a,w,hr,hf,hn=>by
  simp only [gK] at h;simpa [wpOpsIn] using hK s g a w h hr hf hn
 |o :: r,i,s,hdr,h,g,a,w,hr,hf,hn=>by
  obtain⟨r9,hdr⟩:=hdr
  have hoi:ops[i]?=some o:=by
   have:(ops.toList.drop i)[0]?=some o:=by rw [hdr];rfl
   rw [G0] at this;simpa using this
  have hdr':∃r',ops.toList.drop (i+1)=r ++ r':=by
   have:(ops.toList.drop i).drop 1=r ++ r9:=by rw [hdr];rfl
   rw [L4] at this;exact⟨r9,this⟩
  have hd:∀d,o.dst=some d->d < s.n:=by
   intro d hd;have hm:o ∈ ops.toList:=MH (by simpa using hoi:ops.toList[i]?=some o);have:=F8.1 hdst o hm;simp only [hd] at this;rw [hn];simpa [Nat.blt_eq] using this
  have hγ:∀d,o.dst=some d->γ.par d=none:=by
   intro d hd;have hm:o ∈ ops.toList:=MH (by simpa using hoi:ops.toList[i]?=some o);have:=F8.1 hpar o hm;simp only [hd] at this;exact hnp d (D3 this)
  have uo:=qV (ro:=ro) (nf:=nf) hC hdst hnp hpar hK r (i+1);simp only [B9,List.range'_succ,G1,wpOpsIn,hoi];simp only [gK] at h;have happ:∀v post,(s.app o v post).n=n:=fun v post=>hn
  split at h
  ·rename_i hg;rw [if_pos (by simp [Region.wanted,hg])];split at h
   ·rename_i t x pos hnt;obtain⟨b,hb,hrun⟩:=Su hnt hr h;refine vY (Z:=fun v w'=>v=.bool (b == pos)/\w'=w) (by rw [hrun];exact⟨rfl,rfl⟩) ?_;rintro _ _ ⟨rfl,rfl⟩;exact uo _ hdr' hb g _ _ (hr.put hd hγ (by simpa using hr.hr) ⟨rfl,rfl⟩ (cx.refl _ _)) (by simpa [St.app] using hf) (happ _ _)
   ·obtain⟨acc,hok,hp,hnw,h⟩:=oP hC h;refine xQ hr hd hγ hok hp hnw fun g' a' w' hr' hf' hm'=>?_
    have h2:gK P C ops (i+1) r (s.app o acc.v acc.post) K:=by
     split at h
     ·exact iN h
     ·exact h
    exact uo _ hdr' h2 g' a' w' hr' ⟨hf.1.trans hf',hf.2.trans hm'⟩ (happ _ _)
  ·rename_i j want hg;split at h
   ·rename_i b hgv;have hy:=kT hr hgv;split at h
    ·rename_i hb;rw [if_pos (by simp [Region.wanted,hg,hy];simpa using hb)];obtain⟨acc,hok,hp,hnw,h⟩:=oP hC h;refine xQ hr hd hγ hok hp hnw fun g' a' w' hr' hf' hm'=>?_
     have h2:gK P C ops (i+1) r (s.app o acc.v acc.post) K:=by
      split at h
      ·exact iN h
      ·exact h
     exact uo _ hdr' h2 g' a' w' hr' ⟨hf.1.trans hf',hf.2.trans hm'⟩ (happ _ _)
    ·rename_i hb;rw [if_neg (by simp [Region.wanted,hg,hy];simpa using hb)];refine⟨fun _ _=>trivial,?_⟩;exact uo _ hdr' h g _ w (hr.skip hγ) (by simpa [St.app] using hf) (happ _ _)
   ·rename_i hgv;rw [if_neg (by simp only [Region.wanted,hg];intro e;exact uL hr hgv (by simpa using e))];refine⟨fun _ _=>trivial,?_⟩;exact uo _ hdr' h g _ w (hr.skip hγ) (by simpa [St.app] using hf) (happ _ _)
   ·exact h.elim
theorem BQ {ro:Option Nat}{nf:Nat}{C:CT}(hC:∀q ts r,C q ts r->iE P q ts r){ops:Array Oper}{K:St->Prop}{Q:Exit->Act->World->Prop}{n np:Nat}(hdst:Ik n ops.toList=true)(hnp:∀d,np<=d->γ.par d=none)(hpar:Dw np ops.toList=true)
  {g0:Gh} {oh0:OH} {w0:World} (hK:∀s' g' a' w',K s'->Rel γ g' s' a' w'->Fr g0 oh0 w0 g' s'.oh w'/\cx g0 oh0 g' s'.oh->s'.n=n->Q .normal a' w') :
  ∀(r:List Oper) (i:Nat) (s:St),ops.toList.drop i=r->gK P C ops i r s K->∀g a w,Rel γ g s a w->Fr g0 oh0 w0 g s.oh w/\cx g0 oh0 g s.oh->s.n=n->wpOpsIn (FR ro) nf P ops Q (List.range' i r.length) a w:=by
 intro r i s hdr h g a w hr hf hn;have:=qV (ro:=ro) (nf:=nf) (rest:=[]) hC hdst hnp hpar (K:=K) (Q:=Q) (fun s' g' a' w' h1 h2 h3 h4=>hK s' g' a' w' h1 h2 h3 h4) r i s ⟨[],by rw [hdr,J8]⟩ h g a w hr hf hn;simpa using this
end
end Go.Ev
namespace Go.Ev
def zZ (s t:St):Prop:=s.n=t.n/\(∀i,aA s.env i=aA t.env i)/\∀i,ae s.oh i=ae t.oh i
theorem zZ.refl (s:St):zZ s s:=⟨rfl,fun _=>rfl,fun _=>rfl⟩
theorem zZ.symm {s t:St}(h:zZ s t):zZ t s:=⟨h.1.symm,fun i=>(h.2.1 i).symm,fun i=>(h.2.2 i).symm⟩
theorem zZ.trans {s t u:St}(h:zZ s t)(k:zZ t u):zZ s u:=⟨h.1.trans k.1,fun i=>(h.2.1 i).trans (k.2.1 i),fun i=>(h.2.2 i).trans (k.2.2 i)⟩
theorem OM {s t:St}(h:zZ s t):rS s.env=rS t.env:=by
 funext x;cases x<;>first|exact h.2.1 _|rfl
theorem mf (p oh:OH)(i:Nat):ae (p ++ oh) i=(match ae p i with|some o=>some o|none=>ae oh i):=by
 induction p with
 |nil=>rfl
 |cons q r ih=>
  obtain⟨c,o⟩:=q;simp only [G1,ae];by_cases h:c=i<;>simp [ih,h]
theorem Ld {p:OH}{i:Nat}{o:Obj}(h:ae p i=some o):i ∈ p.map (·.1):=by
 induction p with
 |nil=>simp [ae] at h
 |cons q r ih=>
  obtain⟨c,o'⟩:=q;by_cases e:i=c
  ·simp [e]
  ·rw [ah _ _ e] at h;simp [ih h]
theorem ox {p:OH}{i:Nat}(h:i ∉ p.map (·.1)):ae p i=none:=by
 cases hq:ae p i with
 |none=>rfl
 |some o=>exact absurd (Ld hq) h
theorem Qi {s t:St}(h:zZ s t)(o:Oper)(v:V)(post:OH):zZ (s.app o v post) (t.app o v post):=by
 refine⟨h.1,fun i=>?_,fun i=>?_⟩
 ·cases hd:o.dst with
  |none=>simpa [St.app,hd] using h.2.1 i
  |some d=>simp only [St.app,hd,dj,h.2.1 i]
 ·simp only [St.app,mf,h.2.2 i]
section
variable {P : Program} {ops : Array Oper}
def mL (ops:Array Oper)(o:Oper)(e:Env):Prop:=match o.guard with|none=>True|some (j,want)=>cm ops e j=.af (.bool want)
def ky (ops:Array Oper)(o:Oper)(e:Env):Prop:=match o.guard with|none=>False|some (j,want)=>cm ops e j=.af (.bool (!want))\/cm ops e j=.ba []
def jn (P:Program)(ops:Array Oper)(o:Oper)(s:St):Option Acc->Prop
 |some a=>mL ops o s.env/\EB P o (rS s.env) a/\(∀i ob,(i,ob) ∈ a.pre->ae s.oh i=some ob)/\(∀i,i ∈ a.nw->ae s.oh i=none)
 |none=>ky ops o s.env
def XL : Option Acc->V
 |some a=>a.v
 |none=>.ba []
def postOf : Option Acc->OH
 |some a=>a.post
 |none=>[]
abbrev Ev :=Oper×Option Acc
def St.go (s:St)(x:Ev):St:=s.app x.1 (XL x.2) (postOf x.2)
def vU (P:Program)(ops:Array Oper):List Ev->St->St->Prop
 | [],s,s'=>zZ s s'
 |x :: l,s,s'=>jn P ops x.1 s x.2/\vU P ops l (s.go x) s'
theorem pD {s t:St}(h:zZ s t)(j:Nat):cm ops s.env j=cm ops t.env j:=by
 unfold cm;cases (ops[j]?).bind (·.dst)<;>first|rfl|exact h.2.1 _
theorem Ei {s t:St}(h:zZ s t){o:Oper}{r:Option Acc}(hc:jn P ops o s r):jn P ops o t r:=by
 cases r with
 |none=>
  simp only [jn,ky] at hc |-;split<;>rename_i hg<;>simp only [hg] at hc
  ·rw [<- pD h];exact hc
 |some a=>
  obtain⟨h1,h2,h3,h4⟩:=hc;refine⟨?_,by rw [<- OM h];exact h2,fun i ob hm=>by rw [<- h.2.2];exact h3 i ob hm,fun i hm=>by rw [<- h.2.2];exact h4 i hm⟩;simp only [mL] at h1 |-;split<;>rename_i hg<;>simp only [hg] at h1
  ·trivial
  ·rw [<- pD h];exact h1
theorem AO : ∀{l:List Ev} {s t s':St},zZ s t->vU P ops l s s'->vU P ops l t s'
 | [],_,_,_,h,hr=>h.symm.trans hr
 |_ :: _,_,_,_,h,hr=>⟨Ei h hr.1,AO (Qi h _ _ _) hr.2⟩
theorem EB.congr {o:Oper}{e e':Operand->V}{a:Acc}(h:EB P o e a)(he:∀x,x ∈ o.op.operands->e x=e' x):EB P o e' a:=
 fun g oh w ρ hr hρ hp hn=>h g oh w ρ hr (fun x hx=>by rw [he x hx];exact hρ x hx) hp hn
theorem xf {l m:List Nat}(h:SX l m=true):∀i,i ∈ l->i ∉ m:=by
 intro i hi hm;have:=F8.1 (F8.1 h i hi) i hm;simp at this
theorem uV {x y:Ev}{s:St}(ha:∀d,x.1.dst=some d->d ∉ y.1.looksAt ops)(hp:∀i,i ∈ (postOf x.2).map (·.1)->∀b,y.2=some b->i ∉ b.all) :
  jn P ops y.1 (s.go x) y.2↔jn P ops y.1 s y.2:=by
 have heget:∀t,t ∈ y.1.looksAt ops->aA (s.go x).env t=aA s.env t:=by
  intro t ht;unfold St.go St.app
  cases hd:x.1.dst with
  |none=>rfl
  |some d=>
   simp only [dj];rw [if_neg];intro e;subst e;exact ha d hd ht
 have hopd:∀z,z ∈ y.1.op.operands->rS (s.go x).env z=rS s.env z:=by
  intro z hz
  cases z with
  |tmp t=>exact heget t (by
    unfold Oper.looksAt;refine D6.2 (.inl ?_)
    exact List.mem_filterMap.2 ⟨.tmp t,by simpa using hz,rfl⟩)
  |_=>rfl
 have hg:∀j want,y.1.guard=some (j,want)->cm ops (s.go x).env j=cm ops s.env j:=by
  intro j want hg;unfold cm
  cases hd:(ops[j]?).bind (·.dst) with
  |none=>rfl
  |some d=>exact heget d (by simp [Oper.looksAt,hg,hd])
 cases hy:y.2 with
 |none=>
  simp only [jn,ky];split
  ·exact Iff.rfl
  ·rename_i j want hgd;rw [hg j want hgd]
 |some b=>
  have hoh:∀i,i ∈ b.all->ae (s.go x).oh i=ae s.oh i:=by
   intro i hi;show ae (postOf x.2 ++ s.oh) i=_;rw [mf,ox fun hm=>hp i hm b hy hi]
  have hpre:∀i ob,(i,ob) ∈ b.pre->i ∈ b.all:=fun i ob hm=>by
   unfold Acc.all;exact D6.2 (.inl (D4.2 ⟨_,hm,rfl⟩))
  have hnw:∀i,i ∈ b.nw->i ∈ b.all:=fun i hm=>by
   unfold Acc.all Acc.wr;exact D6.2 (.inr (D6.2 (.inl hm)))
  have hw:mL ops y.1 (s.go x).env↔mL ops y.1 s.env:=by
   unfold mL;split
   ·exact Iff.rfl
   ·rename_i j want hgd;rw [hg j want hgd]
  simp only [jn];constructor
  ·rintro⟨h1,h2,h3,h4⟩;exact⟨hw.1 h1,h2.congr hopd,fun i ob hm=>by rw [<- hoh i (hpre i ob hm)];exact h3 i ob hm,fun i hm=>by rw [<- hoh i (hnw i hm)];exact h4 i hm⟩
  ·rintro⟨h1,h2,h3,h4⟩;exact⟨hw.2 h1,h2.congr fun z hz=>(hopd z hz).symm,fun i ob hm=>by rw [hoh i (hpre i ob hm)];exact h3 i ob hm,fun i hm=>by rw [hoh i (hnw i hm)];exact h4 i hm⟩
theorem DV {x y:Option Acc}(h:indep x y=true):(∀i,i ∈ (postOf x).map (·.1)->∀b,y=some b->i ∉ b.all)/\(∀i,i ∈ (postOf y).map (·.1)->∀b,x=some b->i ∉ b.all):=by
 cases x with
 |none=>exact⟨by simp [postOf],by simp⟩
 |some a=>
  cases y with
  |none=>exact⟨by simp,by simp [postOf]⟩
  |some b=>
   simp only [indep,C7] at h;refine⟨fun i hi b' hb=>?_,fun i hi a' ha=>?_⟩
   ·cases hb;exact xf h.1 i (by unfold Acc.wr;exact D6.2 (.inr hi))
   ·cases ha;exact xf h.2 i (by unfold Acc.wr;exact D6.2 (.inr hi))
theorem Px {x y:Ev}{s:St}(hd:∀d,x.1.dst=some d->y.1.dst≠some d)(hp:∀i,i ∈ (postOf x.2).map (·.1)->i ∉ (postOf y.2).map (·.1)) :
  zZ ((s.go x).go y) ((s.go y).go x):=by
 refine⟨rfl,fun t=>?_,fun i=>?_⟩
 ·unfold St.go St.app
  cases hx:x.1.dst with
  |none=>cases hy:y.1.dst<;>rfl
  |some d=>
   cases hy:y.1.dst with
   |none=>rfl
   |some d'=>
    simp only [dj];have:d≠d':=fun e=>hd d hx (e▸hy)
    by_cases h1:d=t<;>by_cases h2:d'=t<;>simp_all
 ·show ae (postOf y.2 ++ (postOf x.2 ++ s.oh)) i=ae (postOf x.2 ++ (postOf y.2 ++ s.oh)) i;simp only [mf];by_cases h1:i ∈ (postOf x.2).map (·.1)
  ·rw [ox (hp i h1)]
  ·rw [ox h1]
def TC (ops:Array Oper)(y x:Ev):Prop:=y.1.apart ops x.1=true/\indep y.2 x.2=true
theorem front {x:Ev}{s':St}:∀(A B:List Ev) (s:St),(∀y ∈ A,TC ops y x)->vU P ops (A ++ x :: B) s s'->vU P ops (x :: (A ++ B)) s s'
 | [],B,s,_,h=>h
 |y :: A,B,s,hf,h=>by
  obtain⟨h1,h2⟩:=h;obtain⟨h3,h4⟩:=front A B (s.go y) (fun z hz=>hf z (by simp [hz])) h2;obtain⟨hap,hin⟩:=hf y (by simp);obtain⟨a1,a2,a3⟩:=Oper.apart_spec hap;obtain⟨i1,i2⟩:=DV hin
  have hpp:∀i,i ∈ (postOf y.2).map (·.1)->i ∉ (postOf x.2).map (·.1):=by
   intro i hi hx
   cases hx2:x.2 with
   |none=>rw [hx2] at hx;simp [postOf] at hx
   |some b=>
    rw [hx2] at hx;refine i1 i hi b hx2 ?_;unfold Acc.all Acc.wr;exact D6.2 (.inr (D6.2 (.inr hx)))
  refine⟨(uV a1 i1).1 h3,(uV a3 i2).2 h1,AO ?_ h4⟩;exact Px a2 hpp
theorem pE {C:CT}(hC:∀q ts r,C q ts r->iE P q ts r){K:List (Option Acc)->St->Prop} :
  ∀(r:List Oper) (i:Nat) (s:St) (tr:List (Option Acc)),Ef P C ops i r s tr K->
   ∃(rs:List (Option Acc)) (s':St),rs.length=r.length/\vU P ops (r.zip rs) s s'/\K (rs.reverse ++ tr) s'
 | [],i,s,tr,h=>⟨[],s,rfl,zZ.refl s,h⟩
 |o :: r,i,s,tr,h=>by
  simp only [Ef] at h;split at h
  ·rename_i hg;obtain⟨acc,hok,hp,hnw,h⟩:=oP hC h
   have h2:Ef P C ops (i+1) r (s.app o acc.v acc.post) (some acc :: tr) K:=by
    split at h
    ·exact iN h
    ·exact h
   obtain⟨rs,s',hl,hr,hK⟩:=pE hC r (i+1) _ _ h2;exact⟨some acc :: rs,s',by simp [hl],⟨⟨by simp [mL,hg],hok,hp,hnw⟩,hr⟩,by simpa using hK⟩
  ·rename_i j want hg;split at h
   ·rename_i b hgv;split at h
    ·rename_i hb;obtain⟨acc,hok,hp,hnw,h⟩:=oP hC h
     have h2:Ef P C ops (i+1) r (s.app o acc.v acc.post) (some acc :: tr) K:=by
      split at h
      ·exact iN h
      ·exact h
     obtain⟨rs,s',hl,hr,hK⟩:=pE hC r (i+1) _ _ h2;exact⟨some acc :: rs,s',by simp [hl],⟨⟨by simp only [mL,hg];rw [hgv];simp at hb;rw [hb],hok,hp,hnw⟩,hr⟩,by simpa using hK⟩
    ·rename_i hb;obtain⟨rs,s',hl,hr,hK⟩:=pE hC r (i+1) _ _ h;refine⟨none :: rs,s',by simp [hl],⟨?_,hr⟩,by simpa using hK⟩;simp only [jn,ky,hg];left;rw [hgv];cases b<;>cases want<;>simp_all
   ·rename_i hgv;obtain⟨rs,s',hl,hr,hK⟩:=pE hC r (i+1) _ _ h;refine⟨none :: rs,s',by simp [hl],⟨?_,hr⟩,by simpa using hK⟩;simp only [jn,ky,hg];exact .inr hgv
   ·exact h.elim
theorem pJ {j:Nat}{x:Option Acc}:∀{l:List (Option Acc)},sG ops j x l=true->∀(i:Nat) (a:Option Acc),l.reverse[i]?=some a->(vO ops i j=true\/indep a x=true)\/BW ops i j=true
 | [],_,i,a,h=>by simp at h
 |y :: r,hc,i,a,h=>by
  simp only [sG,C7,M7] at hc;rw [List.reverse_cons] at h;by_cases hi:i < r.reverse.length
  ·rw [C5 hi] at h;exact pJ hc.2 i a h
  ·rw [IX A8] at h
   have h0:i - r.reverse.length=0:=by
    have:i - r.reverse.length < [y].length:=(yK.1 h).1;simp only [List.length_singleton] at this;omega
   rw [h0] at h;obtain rfl:y=a:=by simpa using h
   have:i=r.length:=by simp at hi h0;omega
   rw [this];exact hc.1
theorem uW : ∀{l:List (Option Acc)},uX ops l=true->∀(i j:Nat) (a b:Option Acc),i < j->l.reverse[i]?=some a->l.reverse[j]?=some b->(vO ops i j=true\/indep a b=true)\/BW ops i j=true
 | [],_,i,j,a,b,_,h,_=>by simp at h
 |y :: r,hc,i,j,a,b,hij,h,k=>by
  simp only [uX,C7] at hc;rw [List.reverse_cons] at h k;by_cases hj:j < r.reverse.length
  ·rw [C5 hj] at k;rw [C5 A8] at h;exact uW hc.2 i j a b hij h k
  ·rw [IX A8] at k
   have h0:j - r.reverse.length=0:=by
    have:j - r.reverse.length < [y].length:=(yK.1 k).1;simp only [List.length_singleton] at this;omega
   rw [h0] at k;obtain rfl:y=b:=by simpa using k
   have hjr:j=r.length:=by simp at hj h0;omega
   rw [C5 (by simp;omega)] at h;rw [hjr];exact pJ hc.1 i a h
structure Left (P:Program)(ops:Array Oper)(listed:Array Bool)(L:List (Nat×Ev)):Prop where
 size:listed.size=ops.size
 at_:∀x ∈ L,ops[x.1]?=some x.2.1
 left:∀i,i < ops.size->(listed.getD i true=false↔∃x ∈ L,x.1=i)
 Sc:L.Pairwise fun x y=>x.1 < y.1
 free:L.Pairwise fun x y=>(vO ops x.1 y.1=true\/BW ops x.1 y.1=true)\/TC ops x.2 y.2
 shut:∀i k,vO ops i k=true->listed.getD k false=true->listed.getD i false=true
theorem Left.take {listed:Array Bool}{A B:List (Nat×Ev)}{x:Nat×Ev}(h:Left P ops listed (A ++ x :: B))(hx0:∀i,vO ops i x.1=true->listed.getD i false=true):Left P ops (listed.setIfInBounds x.1 true) (A ++ B):=by
 have hsub:(A ++ B).Sublist (A ++ x :: B):=List.Sublist.append (List.Sublist.refl _) (List.sublist_cons_self _ _);refine⟨by simpa using h.size,fun y hy=>h.at_ y (hsub.subset hy),fun i hi=>?_,h.Sc.sublist hsub,h.free.sublist hsub,fun i k he hk=>?_⟩
 rotate_left
 ·have up:∀i,listed.getD i false=true->(listed.setIfInBounds x.1 true).getD i false=true:=by
   intro i hi;by_cases e:x.1=i
   ·subst e
    have hlt:x.1 < listed.size:=by
     by_cases e:x.1 < listed.size
     ·exact e
     ·simp [Pb,e] at hi
    rw [Pb,K7 hlt];rfl
   ·rw [Pb,I1 e,<- Pb];exact hi
  by_cases e:x.1=k
  ·subst e;exact up i (hx0 i he)
  ·rw [Pb,I1 e,<- Pb] at hk;exact up i (h.shut i k he hk)
 have hx:x.1 < ops.size:=by
  have:=h.at_ x (by simp);exact(E4.1 this).1
 by_cases e:x.1=i
 ·subst e;constructor
  ·intro hg;rw [Pb,K7 (by rw [h.size];exact hx)] at hg;simp at hg
  ·rintro⟨y,hy,he⟩;exfalso;have hr:=h.Sc;rw [List.pairwise_append] at hr;obtain⟨_,h2,h3⟩:=hr;rcases D6.1 hy with hy|hy
   ·have:=h3 y hy x (by simp);omega
   ·have:=(List.pairwise_cons.1 h2).1 y hy;omega
 ·rw [Pb,I1 e,<- Pb,h.left i hi];constructor
  ·rintro⟨y,hy,rfl⟩;refine⟨y,?_,rfl⟩;simp only [D6,B5] at hy |-;rcases hy with hy|rfl|hy
   ·exact .inl hy
   ·exact absurd rfl e
   ·exact .inr hy
  ·rintro⟨y,hy,rfl⟩;exact⟨y,hsub.subset hy,rfl⟩
theorem Ey {ro:Option Nat}{nf:Nat}{γ:Gm}{n np:Nat}(hnp:∀d,np<=d->γ.par d=none)(hpar:Dw np ops.toList=true){Q:Exit->Act->World->Prop}{send:St}{g0:Gh}{oh0:OH}{w0:World}(hdst:Ik n ops.toList=true)(hback:QX ops=true)
  (hQ:∀g' a' w' s',zZ s' send->Rel γ g' s' a' w'->Fr g0 oh0 w0 g' s'.oh w'/\cx g0 oh0 g' s'.oh->Q .normal a' w') :
  ∀(fuel:Nat) (listed:Array Bool) (L:List (Nat×Ev)) (s:St) (g:Gh) (a:Act) (w:World),L.length=fuel->Left P ops listed L->vU P ops (L.map (·.2)) s send->
   Rel γ g s a w->Fr g0 oh0 w0 g s.oh w/\cx g0 oh0 g s.oh->s.n=n->wpAnyIn (FR ro) nf P .any ops Q fuel listed a w
 |0,listed,L,s,g,a,w,hl,hL,hrun,hr,hf,hn=>by
  obtain rfl:L=[]:=C8 hl;refine⟨?_,hQ g a w s hrun hr hf⟩;unfold Region.ready;rw [List.filter_eq_nil_iff];intro i hi;have hi:i < ops.size:=by simpa using hi
  have:listed.getD i true≠false:=fun e=>by have:=(hL.left i hi).1 e;simp at this
  simp [this]
 |fuel+1,listed,L,s,g,a,w,hl,hL,hrun,hr,hf,hn=>by
  refine⟨fun he=>?_,fun i hi=>?_⟩
  ·-- something is always ready
   exfalso
   match L,hl with
   |x :: L,_=>
    have hx:=hL.at_ x (by simp);have hlt:x.1 < ops.size:=(E4.1 hx).1
    have:x.1 ∈ Region.ready .any ops listed:=by
     unfold Region.ready;rw [U6];refine⟨by simpa using hlt,?_⟩;have h1:=(hL.left x.1 hlt).2 ⟨x,by simp,rfl⟩;simp only [h1,hx,P5,T4,Bool.not_false,L5];rw [Array.all_eq_true_iff_forall_mem];intro e hem
     cases hb:Region.binds .any e with
     |false=>simp
     |true=>
      have hbk:=F8.1 hback x.1 (by simpa using hlt);simp only [hx] at hbk;have:=F8.1 hbk e (by simpa using hem);simp only [hb,U3,U4] at this;have hon:e.on < x.1:=by simpa [Nat.blt_eq] using this
      simp only [U3,U4]
      have hnl:¬∃y ∈ x :: L,y.1=e.on:=by
       rintro⟨y,hy,hye⟩;have hri:=(List.pairwise_cons.1 hL.Sc).1;rcases B5.1 hy with rfl|hy
       ·omega
       ·have:=hri y hy;omega
      have hne:¬listed.getD e.on true=false:=fun h=>hnl ((hL.left e.on A8).1 h)
      have hlt2:e.on < listed.size:=by rw [hL.size];omega
      have:listed.getD e.on true=listed.getD e.on false:=by simp [Pb,hlt2]
      rw [<- this];simpa using hne
    rw [he] at this;simp at this
  ·-- any that is ready may go first
   unfold Region.ready at hi;rw [U6] at hi;obtain⟨hi1,hi2⟩:=hi;have hilt:i < ops.size:=by simpa using hi1
   simp only [C7,Bool.not_eq_true'] at hi2;obtain⟨x,hx,rfl⟩:=(hL.left i hilt).1 hi2.1;obtain⟨A,B,rfl⟩:=List.append_of_mem hx;have hxo:=hL.at_ x (by simp);have hall:=hi2.2;simp only [hxo,P5,T4] at hall;rw [Array.all_eq_true_iff_forall_mem] at hall
   have hdone:∀i,vO ops i x.1=true->listed.getD i false=true:=by
    intro i he;unfold vO at he;simp only [hxo] at he;obtain⟨e,hem,hee⟩:=S4.1 he;simp only [C7] at hee;have hon:=M5 hee.1;have:=hall e (by simpa using hem);simp only [hee.2,U3,U4] at this;rw [hon] at this;exact this
   have hfree:∀y ∈ A,TC ops y.2 x.2:=by
    intro y hy;have hp:=hL.free;rw [List.pairwise_append] at hp;rcases hp.2.2 y hy x (by simp) with he|hf
    ·exfalso
     have this:listed.getD y.1 false=true:=by
      rcases he with he|he
      ·exact hdone y.1 he
      ·unfold BW at he;simp only [hxo] at he;obtain⟨e,hem,hee⟩:=S4.1 he;simp only [C7] at hee;refine hL.shut y.1 e.on hee.2 ?_;have:=hall e (by simpa using hem);simpa only [hee.1,U3,U4] using this
     have hyo:=hL.at_ y (by simp [hy]);have hylt:y.1 < ops.size:=(E4.1 hyo).1;have hyl:=(hL.left y.1 hylt).2 ⟨y,by simp [hy],rfl⟩;have hlt2:y.1 < listed.size:=by rw [hL.size];exact hylt
     have e2:listed.getD y.1 true=listed.getD y.1 false:=by simp [Pb,hlt2]
     rw [<- e2,hyl] at this;simp at this
    ·exact hf
   have hrun2:vU P ops (x.2 :: (A.map (·.2) ++ B.map (·.2))) s send:=by
    refine front _ _ _ (fun y hy=>?_) (by simpa using hrun);obtain⟨z,hz,rfl⟩:=D4.1 hy;exact hfree z hz
   obtain⟨hcond,hrest⟩:=hrun2;have hrest':vU P ops ((A ++ B).map (·.2)) (s.go x.2) send:=by simpa using hrest
   have hlen:(A ++ B).length=fuel:=by simp at hl |-;omega
   have hd:∀d,x.2.1.dst=some d->d < s.n:=by
    intro d hd;have hm:x.2.1 ∈ ops.toList:=MH (by simpa using hxo:ops.toList[x.1]?=some x.2.1);have:=F8.1 hdst x.2.1 hm;simp only [hd] at this;rw [hn];simpa [Nat.blt_eq] using this
   have hγ:∀d,x.2.1.dst=some d->γ.par d=none:=by
    intro d hd;have hm:x.2.1 ∈ ops.toList:=MH (by simpa using hxo:ops.toList[x.1]?=some x.2.1);have:=F8.1 hpar x.2.1 hm;simp only [hd] at this;exact hnp d (D3 this)
   unfold wpOpIn;simp only [hxo]
   cases hrec:x.2.2 with
   |some acc=>
    rw [hrec] at hcond;obtain⟨c1,c2,c3,c4⟩:=hcond;rw [if_pos]
    ·refine xQ hr hd hγ c2 c3 c4 fun g' a' w' hr' hf' hm'=>?_
     have hgo:s.go x.2=s.app x.2.1 acc.v acc.post:=by unfold St.go;rw [hrec];rfl
     rw [hgo] at hrest';exact Ey hnp hpar hdst hback hQ fuel _ (A ++ B) _ g' a' w' hlen (hL.take hdone) hrest' hr' ⟨hf.1.trans hf',hf.2.trans hm'⟩ hn
    ·unfold Region.wanted;unfold mL at c1
     cases hg:x.2.1.guard with
     |none=>rfl
     |some jw=>
      obtain⟨j,want⟩:=jw;simp only [hg] at c1;simp [kT hr c1]
   |none=>
    rw [hrec] at hcond;rw [if_neg]
    ·have hgo:s.go x.2=s.app x.2.1 (.ba []) []:=by unfold St.go;rw [hrec];rfl
     rw [hgo] at hrest';refine⟨fun _ _=>trivial,?_⟩;exact Ey hnp hpar hdst hback hQ fuel _ (A ++ B) _ g _ w hlen (hL.take hdone) hrest' (hr.skip hγ) (by simpa [St.app] using hf) hn
    ·unfold Region.wanted;simp only [jn,ky] at hcond
     cases hg:x.2.1.guard with
     |none=>simp [hg] at hcond
     |some jw=>
      obtain⟨j,want⟩:=jw;simp only [hg] at hcond;rcases hcond with hcond|hcond
      ·simp [kT hr hcond]
      ·intro e;exact uL hr hcond (by simpa using e)
end
end Go.Ev
