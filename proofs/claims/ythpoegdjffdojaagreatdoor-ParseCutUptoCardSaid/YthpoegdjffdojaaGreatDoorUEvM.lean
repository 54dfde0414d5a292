import Derived.Test.YthpoegdjffdojaaGreatDoorULad
set_option linter.all false
namespace Go.Ev
section
variable {P : Program} {γ : Gm} {g : Gh} {oh oh1 : OH} {w : World}
theorem cy {v:V}{x:Value}(hsub:∀i o,ae oh1 i=some o->ae oh i=some o)(hc:v.Gs oh1)(h:bm g oh v x):bm g oh1 v x:=by
 cases v with
 |undef=>exact hc.elim
 |af v=>exact h
 |ro f t=>exact h
 |emp=>exact h
 |own id ver off len=>
  obtain⟨h1,o,ho,h2,h3⟩:=h;obtain⟨o',ho'⟩:=E1.1 hc;have:=hsub id o' ho';rw [ho] at this;obtain rfl:o=o':=by simpa using this
  exact⟨h1,o,ho',h2,h3⟩
 |ref id ver i foff=>
  obtain⟨h1,o,ho,h2,h3⟩:=h;obtain⟨o',ho'⟩:=E1.1 hc;have:=hsub id o' ho';rw [ho] at this;obtain rfl:o=o':=by simpa using this
  exact⟨⟨h1.1,fun q hq hm=>h1.2 q (hsub _ _ hq) hm⟩,o,ho',h2,h3⟩
 |wr w id ver i foff=>
  obtain⟨y,⟨h1,o,ho,h2,h3⟩,e⟩:=h;obtain⟨o',ho'⟩:=E1.1 hc;have:=hsub id o' ho';rw [ho] at this;obtain rfl:o=o':=by simpa using this
  exact⟨y,⟨⟨h1.1,fun q hq hm=>h1.2 q (hsub _ _ hq) hm⟩,o,ho',h2,h3⟩,e⟩
 |agg l=>exact hc.elim
 |ba l=>exact hc.elim
theorem Kz {v:V}{x:Value}(hsub:∀i o,ae oh1 i=some o->ae oh i=some o)(hc:v.cl oh1)(h:dd g oh v x):dd g oh1 v x:=by
 cases v with
 |agg l=>
  obtain⟨cs,rfl,hl,hr⟩:=h;exact⟨cs,rfl,hl,fun j u c hu hcj=>⟨cy hsub (hc u (MH hu)) (hr j u c hu hcj).1,(hr j u c hu hcj).2⟩⟩
 |undef=>trivial
 |ba l=>exact hc.elim
 |af v=>exact cy (g:=g) (v:=.af v) hsub hc h
 |ro f t=>exact cy (v:=.ro f t) hsub hc h
 |emp=>exact cy (g:=g) (v:=.emp) hsub hc h
 |own a1 a2 a3 a4=>exact cy (v:=.own a1 a2 a3 a4) hsub hc h
 |ref a1 a2 a3 a4=>exact cy (v:=.ref a1 a2 a3 a4) hsub hc h
 |wr w a1 a2 a3 a4=>exact cy (v:=.wr w a1 a2 a3 a4) hsub hc h
theorem wX {l:OH}(h:gi oh l):∀i o,ae l i=some o->ae oh i=some o:=by
 induction l with
 |nil=>intro i o hi;simp [ae] at hi
 |cons p r ih=>
  obtain⟨c,ob⟩:=p;intro i o hi;by_cases e:i=c
  ·subst e;rw [an] at hi;obtain rfl:ob=o:=by simpa using hi
   exact h.1
  ·rw [ah _ _ e] at hi;exact ih h.2 i o hi
theorem Cd {l:OH}(h:eV oh1 l):∀i o,ae l i=some o->∀v ∈ o.el,v.cl oh1:=by
 induction l with
 |nil=>intro i o hi;simp [ae] at hi
 |cons p r ih=>
  obtain⟨c,ob⟩:=p;intro i o hi;by_cases e:i=c
  ·subst e;rw [an] at hi;obtain rfl:ob=o:=by simpa using hi
   exact h.1
  ·rw [ah _ _ e] at hi;exact ih h.2 i o hi
theorem DR {e l:Env}(h:de oh1 e l):∀t,aA l t=.undef\/(aA e t=aA l t/\(aA l t).cl oh1):=by
 induction l with
 |nil=>intro t;exact .inl rfl
 |cons p r ih=>
  obtain⟨d,v⟩:=p;intro t;rw [dj];by_cases hd:d=t
  ·subst hd;rw [if_pos rfl];exact .inr ⟨h.1,h.2.1⟩
  ·rw [if_neg hd];exact ih h.2.2 t
theorem Ij {sz k : Nat} {arr : Array Value} {e : V} (hsub : ∀ i o, ae oh1 i = some o -> ae oh i = some o) (hc : e.cl oh1) (h : rZ g oh sz arr k e) : rZ g oh1 sz arr k e := by
  refine ⟨h.1, fun j v hj => ?_⟩;obtain ⟨c, h1, h2, h3⟩ := h.2 j v hj;refine ⟨c, h1, h2, ?_⟩
  cases e with
  | agg l => exact cy hsub (hc v (MH hj)) h3
  | undef =>
    cases j with
    | zero => obtain rfl : V.undef = v := by simpa [V.cells] using hj
              trivial
    | succ j => simp [V.cells] at hj
  | af q =>
    cases j with
    | zero => obtain rfl : V.af q = v := by simpa [V.cells] using hj
              exact cy hsub hc h3
    | succ j => simp [V.cells] at hj
  | ro f t =>
    cases j with
    | zero => obtain rfl : V.ro f t = v := by simpa [V.cells] using hj
              exact cy hsub hc h3
    | succ j => simp [V.cells] at hj
  | emp =>
    cases j with
    | zero => obtain rfl : V.emp = v := by simpa [V.cells] using hj
              exact cy hsub hc h3
    | succ j => simp [V.cells] at hj
  | own a1 a2 a3 a4 =>
    cases j with
    | zero => obtain rfl : V.own a1 a2 a3 a4 = v := by simpa [V.cells] using hj
              exact cy hsub hc h3
    | succ j => simp [V.cells] at hj
  | ref a1 a2 a3 a4 =>
    cases j with
    | zero => obtain rfl : V.ref a1 a2 a3 a4 = v := by simpa [V.cells] using hj
              exact cy hsub hc h3
    | succ j => simp [V.cells] at hj
  | wr w a1 a2 a3 a4 =>
    cases j with
    | zero => obtain rfl : V.wr w a1 a2 a3 a4 = v := by simpa [V.cells] using hj
              exact cy hsub hc h3
    | succ j => simp [V.cells] at hj
  | ba l => exact hc.elim
theorem Rel.less {s1 s:St}{a:Act}(hle:Le s1 s)(h:Rel γ g s a w):Rel γ g s1 a w/\Fr g s.oh w g s1.oh w:=by
 obtain⟨hn,hle1,hle2,hcl⟩:=hle;have hsub:=wX hle2;refine⟨⟨⟨⟨h.hr.hG,h.hr.hF,fun i o ho hl=>?_,fun i j oi oj b hi hj=>h.hr.inj i j oi oj b (hsub _ _ hi) (hsub _ _ hj),h.hr.mp.sub fun i o hi _=>⟨hsub i o hi,rfl⟩⟩,h.hr.gl⟩,h.df,h.sz.trans hn.symm,fun t=>?_,h.par⟩,?_⟩
 ·obtain⟨h1,h2⟩:=h.hr.obj i o (hsub i o ho) hl;refine⟨h1,fun b hb=>?_⟩;obtain⟨arr,ty,hh,hg,hba⟩:=h2 b hb;exact⟨arr,ty,hh,hg,hba.1,hba.2.1,hba.2.2.1,fun k e he=>Ij hsub (Cd hcl i o ho e (MH he)) (hba.2.2.2 k e he)⟩
 ·rcases DR hle1 t with hu|⟨he,hc⟩
  ·rw [hu];trivial
  ·have:=h.env t;rw [he] at this;exact Kz hsub hc this
 ·refine⟨rfl,rfl,rfl,wU _,fun _ _ _ _=>rfl,?_,fun _ _ _ h=>h,fun _ _ _ h=>h,fun _ _ _ h=>.inl h,fun _ _ _ h=>.inl h,fun _ arr _ _ h=>⟨arr,h,rfl⟩,fun b hb=>.inl (hb.sub fun i o hi _=>⟨hsub i o hi,rfl⟩)⟩;rintro b ⟨i,o,ho,hl,hm⟩;exact .inl ⟨i,o,hsub i o ho,hl,hm⟩
theorem Cq {a:Act}:∀(ads:List (Nat×Nat×Nat)) (s:St) (g:Gh),pK s ads->Rel γ g s a w->∃g',Rel γ g' (gL s ads) a w/\Fr g s.oh w g' (gL s ads).oh w
 | [],s,g,_,h=>⟨g,h,Fr.refl _ _ _⟩
 |(t,c,sz) :: r,s,g,ho,h=>by
  obtain⟨he,hn,hr⟩:=ho;have hb:=h.hr.bare c ⟨sz,[],0,true⟩ rfl (by simp [hn]) rfl
  have h1:Rel γ { g with m:=fun i=>if i=c then none else g.m i } { s with env:=(t,.own c 0 0 0) :: s.env,oh:=(c,⟨sz,[],0,true⟩) :: s.oh } a w:=by
   refine⟨hb.1,h.df,h.sz,fun t'=>?_,h.par⟩;simp only [dj];by_cases e:t=t'
   ·subst e;rw [if_pos rfl];have:=h.env t;rw [he] at this;obtain⟨ad,hx⟩:=this;rw [hx];exact⟨rfl,_,an _ _ _,wU _,fun _ _=>⟨ad,0,rfl,wU _,by simp,by simp⟩⟩
   ·rw [if_neg e];exact hb.2.1.Sh (h.env t')
  obtain⟨g',h2,h3⟩:=Cq r _ _ hr h1;exact⟨g',h2,hb.2.2.trans h3⟩
def bW (g:Gh)(oh oh1:OH)(b:Nat):Prop:=∃i o,ae oh i=some o/\o.live=true/\g.m i=some b/\ae oh1 i=none
theorem SO {f:Bool}{S:dS}(hr:HR g oh w)(hF:∀b o c,g.F b o=some c->S b o=some c)(hG:f=false->∀b o c,g.G b o=some c->S b o=some c)
  (hD:∀b,bW g oh oh1 b->∀o c,w.cell? ⟨b,o,none⟩=some c->S b o=some c) {v:V} {t:T} (h:iT oh oh1 f v t):∀{x:Value},bm g oh v x->gD S t x/\x.oneCell'=true:=by
 induction h with
 |af v=>intro x hx;obtain⟨rfl,h1⟩:=hx;exact⟨.af _ h1,h1⟩
 |ro f' t hf=>
  intro x hx;refine⟨hx.1.mono ?_,hx.2⟩
  cases f' with
  |true=>exact hF
  |false=>
   cases f with
   |true=>exact absurd (hf rfl) (by simp)
   |false=>exact hG rfl
 |emp=>
  intro x hx;obtain⟨a,rfl⟩:=hx;exact⟨.sl [] a 0 0 0 0 (fun _ _=>Go.undef) (wU _) B3 (by simp) (by simp) (by simp) (by simp) (by simp),rfl⟩
 |own id ver off len o ts ho hd hv hl hn hs hc ih=>
  intro x hx;obtain⟨hx1,o',ho',_,hat⟩:=hx;rw [ho] at ho';obtain rfl:o=o':=by simpa using ho'
  obtain⟨a,cap,rfl,hlc,hoff,hcap⟩:=hat hv hl;refine⟨?_,rfl⟩;by_cases hc0:cap=0
  ·obtain rfl:len=0:=by omega
   obtain rfl:ts=[]:=C8 hn;exact .sl [] a cap 0 0 0 (fun _ _=>Go.undef) (by simp) (by rw [hc0];decide) (by simp) (by simp) (by simp) (by simp) (by simp)
  ·obtain⟨b,hb,rfl,hcp⟩:=hcap hc0;obtain⟨arr,ty,hh,_,hbs,hbl,hbm,hels⟩:=(hr.obj id o ho hl).2 b hb;have hdrop:bW g oh oh1 b:=⟨id,o,ho,hl,hb,hd⟩
   have hel:∀i,i < len->∃e,o.el[off+i]?=some e:=fun i hi=>⟨o.el[off+i]'(by omega),by simp⟩
   have hti:∀(i:Nat) (t:T),ts[i]?=some t->i < len:=fun i t h=>by rw [<- hn];exact(yK.1 h).1
   have hcell:∀(i:Nat) (t:T) (j:Nat),ts[i]?=some t->j < t.cells.length->
     ∃e v c,o.el[off+i]?=some e/\e.cells[j]?=some v/\arr[(off+i) * o.sz+j]?=some c/\c.oneCell'=true/\bm g oh v c:=by
    intro i t j ht hj;have hi:=hti i t ht;obtain⟨e,he⟩:=hel i hi;have hl2:=hs i e t hi he ht;obtain⟨q1,q2⟩:=hels _ e he;have hje:j < e.cells.length:=by omega
    obtain⟨c,c1,c2,c3⟩:=q2 j e.cells[j] (by simp [hje]);exact⟨e,_,c,he,by simp [hje],c1,c2,c3⟩
   have hgetD:∀(i j:Nat) (c:Value),arr[(off+i) * o.sz+j]?=some c->arr.getD ((off+i) * o.sz+j) Go.undef=c:=by
    intro i j c h;rw [Pb,h];rfl
   rw [<- hn];refine .sl ts _ cap o.sz b (off * o.sz) (fun i j=>arr.getD ((off+i) * o.sz+j) Go.undef) A8 A8 (fun _=>rfl) (fun i t ht=>?_) (fun i t j ht hj=>?_) (fun i t j ht hj=>?_) (fun i t j u ht hu=>?_)
   ·have hi:=hti i t ht;obtain⟨e,he⟩:=hel i hi;rw [hs i e t hi he ht];exact(hels _ e he).1
   ·obtain⟨e,v,c,he,hv2,h1,h2,h3⟩:=hcell i t j ht hj;rw [hgetD i j c h1];refine hD b hdrop _ _ ?_;rw [cell_of_row w b _ arr ty _ hh,<- h1];congr 1;rw [I8]
   ·obtain⟨e,v,c,he,hv2,h1,h2,h3⟩:=hcell i t j ht hj;rw [hgetD i j c h1];exact h2
   ·have hj:j < t.cells.length:=(yK.1 hu).1;obtain⟨e,v,c,he,hv2,h1,h2,h3⟩:=hcell i t j ht hj;rw [hgetD i j c h1];exact(ih i e t j v u (hti i t ht) he ht hv2 hu h3).1
 |ref id ver i foff o e ts ho hd hv hl he hn hc ih=>
  intro x hx;obtain⟨hx1,o',ho',_,hat⟩:=hx;rw [ho] at ho';obtain rfl:o=o':=by simpa using ho'
  obtain⟨b,hb,rfl⟩:=hat hv hl;refine⟨?_,rfl⟩;obtain⟨arr,ty,hh,_,hbs,hbl,hbm,hels⟩:=(hr.obj id o ho hl).2 b hb;have hdrop:bW g oh oh1 b:=⟨id,o,ho,hl,hb,hd⟩
  obtain⟨q1,q2⟩:=hels i e he
  have hcell:∀j,j < ts.length->∃v c,e.cells[foff+j]?=some v/\arr[i * o.sz+(foff+j)]?=some c/\c.oneCell'=true/\bm g oh v c:=by
   intro j hj;obtain⟨c,c1,c2,c3⟩:=q2 (foff+j) e.cells[foff+j] (by simp [show foff+j < e.cells.length by omega]);exact⟨_,c,by simp [show foff+j < e.cells.length by omega],c1,c2,c3⟩
  have hgetD:∀(j:Nat) (c:Value),arr[i * o.sz+(foff+j)]?=some c->arr.getD (i * o.sz+(foff+j)) Go.undef=c:=by
   intro j c h;rw [Pb,h];rfl
  refine .ptr ts b (i * o.sz+foff) (fun j=>arr.getD (i * o.sz+(foff+j)) Go.undef) (fun j hj=>?_) (fun j hj=>?_) (fun j u hu=>?_)
  ·obtain⟨v,c,hv2,h1,h2,h3⟩:=hcell j hj;rw [hgetD j c h1];refine hD b hdrop _ _ ?_;rw [cell_of_row w b _ arr ty _ hh,<- h1];congr 1;omega
  ·obtain⟨v,c,hv2,h1,h2,h3⟩:=hcell j hj;rw [hgetD j c h1];exact h2
  ·have hj:j < ts.length:=(yK.1 hu).1;obtain⟨v,c,hv2,h1,h2,h3⟩:=hcell j hj;rw [hgetD j c h1];exact(ih j v u hv2 hu h3).1
 |jq t id ver i foff u h ih=>
  intro x hx;obtain⟨y,hy,rfl⟩:=hx;obtain⟨h1,h2⟩:=ih hy;exact⟨.jq t u y h2 h1,rfl⟩
open Classical in
noncomputable def Gh.mu (g:Gh)(oh oh1:OH)(w:World):Gh:=
 ⟨fun b o=>if bW g oh oh1 b then w.cell? ⟨b,o,none⟩ else g.G b o,fun b o=>if bW g oh oh1 b then w.cell? ⟨b,o,none⟩ else g.F b o,
  fun i=>if(ae oh i).isSome=true then g.m i else none,g.cp⟩
theorem Pf {oh oh1:OH}{a b:Value}{v:V}(h:LV oh oh1 (.agg [.af a,.af b]) v):v=.agg [.af a,.af b]:=by
 have one:∀(c:Value) (u:V),Lc oh oh1 (.af c) u->u=.af c:=by
  intro c u hu
  cases hu with
  |same _ h=>rfl
  |vM f _ t h=>cases h;rfl
 have key:∀(l:List V) (u:V),Lc oh oh1 (.agg l) u->u=.agg l:=by
  intro l u hu;generalize hx:V.agg l=x at hu
  cases hu with
  |same _ h=>rfl
  |vM f _ t h=>subst hx;cases h
  |gL c o h0 h1=>cases hx
 cases v with
 |agg l1=>
  obtain⟨h1,h2⟩:=h
  match l1,h1 with
  | [x,y],_=>rw [one a x (h2 0 _ _ rfl rfl),one b y (h2 1 _ _ rfl rfl)]
 |undef=>cases key _ _ h
 |ba l=>cases key _ _ h
 |af q=>cases key _ _ h
 |ro f t=>cases key _ _ h
 |emp=>cases key _ _ h
 |own q1 q2 q3 q4=>cases key _ _ h
 |ref q1 q2 q3 q4=>cases key _ _ h
 |wr w q1 q2 q3 q4=>cases key _ _ h
open Classical in
theorem Rel.lf {s1 s : St} {a : Act} (hle : Lf s1 s) (h : Rel γ g s a w) : Rel γ (g.mu s.oh s1.oh w) s1 a w /\ Fr g s.oh w (g.mu s.oh s1.oh w) s1.oh w := by
  have hown : ∀ b, bW g s.oh s1.oh b -> cw g s.oh b := fun b ⟨i, o, h1, h2, h3, _⟩ => ⟨i, o, h1, h2, h3⟩
  have hGn : ∀ b, cw g s.oh b -> ∀ o, g.G b o = none := by
    rintro b ⟨i, o, h1, h2, h3⟩ off;obtain ⟨arr, ty, _, hg, _⟩ := (h.hr.obj i o h1 h2).2 b h3;exact hg off
  have hGG : ∀ b o c, g.G b o = some c -> (g.mu s.oh s1.oh w).G b o = some c := by
    intro b o c hc;show (if bW g s.oh s1.oh b then w.cell? ⟨b, o, none⟩ else g.G b o) = some c;by_cases hd : bW g s.oh s1.oh b
    · rw [hGn b (hown b hd) o] at hc; cases hc
    · rw [if_neg hd]; exact hc
  have hFF : ∀ b o c, g.F b o = some c -> (g.mu s.oh s1.oh w).F b o = some c := by
    intro b o c hc;show (if bW g s.oh s1.oh b then w.cell? ⟨b, o, none⟩ else g.F b o) = some c;by_cases hd : bW g s.oh s1.oh b
    · have := h.hr.hF b o c hc; rw [hGn b (hown b hd) o] at this; cases this
    · rw [if_neg hd]; exact hc
  have hm : ∀ i o, ae s.oh i = some o -> (g.mu s.oh s1.oh w).m i = g.m i := by
    intro i o ho; simp [Gh.mu, ho]
  have hm0 : ∀ i, ae s.oh i = none -> (g.mu s.oh s1.oh w).m i = none := by
    intro i ho; simp [Gh.mu, ho]
  have hc : ∀ v v1, Lc s.oh s1.oh v v1 -> ∀ x, bm g s.oh v x -> bm (g.mu s.oh s1.oh w) s1.oh v1 x /\ (x.oneCell' = true -> x.oneCell' = true) := by
    intro v v1 hl x hx;refine ⟨?_, id⟩
    cases hl with
    | same v hcl =>
      cases v with
      | undef => exact hcl.elim
      | af q => exact hx
      | ro f t =>
        refine ⟨hx.1.mono ?_, hx.2⟩;cases f
        · exact hGG
        · exact hFF
      | emp => exact hx
      | own id ver off len =>
        obtain ⟨h1, o, ho, h2, h3⟩ := hx;obtain ⟨o1, ho1⟩ := E1.1 hcl;rcases hle.oh id o1 ho1 with ⟨o', ho', e1, e2, e3, e4, _⟩ | ⟨hn, _⟩
        · rw [ho] at ho';obtain rfl : o = o' := by simpa using ho'
          refine ⟨h1, o1, ho1, by omega, fun ev el => ?_⟩;obtain ⟨ad, cap, p1, p2, p3, p4⟩ := h3 A8 (by rw [<- e3]; exact el);refine ⟨ad, cap, p1, p2, by omega, fun hcap => ?_⟩;obtain ⟨b, b1, b2, b3⟩ := p4 hcap;exact ⟨b, by rw [hm id o ho]; exact b1, by rw [e1]; exact b2, b3⟩
        · rw [ho] at hn; cases hn
      | ref id ver i foff =>
        obtain ⟨h1, o, ho, h2, h3⟩ := hx;obtain ⟨o1, ho1⟩ := E1.1 hcl;rcases hle.oh id o1 ho1 with ⟨o', ho', e1, e2, e3, e4, _⟩ | ⟨hn, _⟩
        · rw [ho] at ho';obtain rfl : o = o' := by simpa using ho'
          refine ⟨⟨h1.1, fun q hq hmp => ?_⟩, o1, ho1, by omega, fun ev el => ?_⟩
          · rw [ho1] at hq;obtain rfl : o1 = q := by simpa using hq
            obtain ⟨b, b1, b2⟩ := h1.2 o ho ⟨by rw [<- e3]; exact hmp.1, by rw [<- e1]; exact hmp.2⟩;exact ⟨b, (hm id o ho).trans b1, b2⟩
          obtain ⟨b, b1, b2⟩ := h3 A8 (by rw [<- e3]; exact el);exact ⟨b, by rw [hm id o ho]; exact b1, by rw [e1]; exact b2⟩
        · rw [ho] at hn; cases hn
      | wr w9 id ver i foff =>
        obtain ⟨y, ⟨h1, o, ho, h2, h3⟩, e9⟩ := hx;refine ⟨y, ?_, e9⟩;obtain ⟨o1, ho1⟩ := E1.1 hcl;rcases hle.oh id o1 ho1 with ⟨o', ho', e1, e2, e3, e4, _⟩ | ⟨hn, _⟩
        · rw [ho] at ho';obtain rfl : o = o' := by simpa using ho'
          refine ⟨⟨h1.1, fun q hq hmp => ?_⟩, o1, ho1, by omega, fun ev el => ?_⟩
          · rw [ho1] at hq;obtain rfl : o1 = q := by simpa using hq
            obtain ⟨b, b1, b2⟩ := h1.2 o ho ⟨by rw [<- e3]; exact hmp.1, by rw [<- e1]; exact hmp.2⟩;exact ⟨b, (hm id o ho).trans b1, b2⟩
          obtain ⟨b, b1, b2⟩ := h3 A8 (by rw [<- e3]; exact el);exact ⟨b, by rw [hm id o ho]; exact b1, by rw [e1]; exact b2⟩
        · rw [ho] at hn; cases hn
      | agg l => exact hcl.elim
      | ba l => exact hcl.elim
    | vM f v t hf =>
      have := SO (S := (g.mu s.oh s1.oh w).Qy f) h.hr (fun b o c hc => by
          cases f with
          | true => exact hFF b o c hc
          | false => exact hGG b o c (h.hr.hF b o c hc)) (fun hf b o c hc => by subst hf; exact hGG b o c hc)
        (fun b hd o c hcl => by
          cases f with
          | true => show (if bW g s.oh s1.oh b then w.cell? ⟨b, o, none⟩ else g.F b o) = some c; rw [if_pos hd]; exact hcl
          | false => show (if bW g s.oh s1.oh b then w.cell? ⟨b, o, none⟩ else g.G b o) = some c; rw [if_pos hd]; exact hcl) hf hx
      exact pf this.1 this.2
    | gL c o h0 h1 =>
      obtain ⟨ad, rfl⟩ := hx;rcases hle.oh c o h1 with ⟨o', ho', _⟩ | ⟨_, e1, e2, e3⟩
      · rw [h0] at ho'; cases ho'
      · exact ⟨rfl, o, h1, by omega, fun _ _ => ⟨ad, 0, rfl, wU _, by simp, by simp⟩⟩
  have hA : ∀ v v1, LV s.oh s1.oh v v1 -> ∀ x, dd g s.oh v x -> dd (g.mu s.oh s1.oh w) s1.oh v1 x := by
    intro v v1 hl x hx
    have one : ∀ v1, Lc s.oh s1.oh v v1 -> bm (g.mu s.oh s1.oh w) s1.oh v1 x := by
      intro v1 hlc;refine (hc v v1 hlc x ?_).1
      cases v with
      | agg l => cases hlc with
        | same _ hcl => exact hcl.elim
        | vM f _ t hf => cases hf
      | ba l => cases hlc with
        | same _ hcl => exact hcl.elim
        | vM f _ t hf => cases hf
      | _ => exact hx
    cases v1 with
    | agg l1 =>
      cases v with
      | agg l =>
        obtain ⟨hll, hlc⟩ := hl;obtain ⟨cs, rfl, hcl, hr⟩ := hx;refine ⟨cs, rfl, by omega, fun j u c hu hcj => ?_⟩;have hj : j < l.length := by rw [hll]; exact (yK.1 hu).1
        obtain ⟨r1, r2⟩ := hr j l[j] c (by simp [hj]) hcj;exact ⟨(hc _ _ (hlc j l[j] u (by simp [hj]) hu) c r1).1, r2⟩
      | _ => exact hl.elim
    | undef => trivial
    | ba l => exact (one _ hl).elim
    | af q => exact one _ hl
    | ro f t => exact one _ hl
    | emp => exact one _ hl
    | own q1 q2 q3 q4 => exact one _ hl
    | ref q1 q2 q3 q4 => exact one _ hl
    | wr w q1 q2 q3 q4 => exact one _ hl
  have hlen : ∀ v v1, LV s.oh s1.oh v v1 -> v1.cells.length = v.cells.length := by
    intro v v1 hl
    have one : ∀ v1, Lc s.oh s1.oh v v1 -> (∀ l, v1 ≠ .agg l) -> v1.cells.length = v.cells.length := by
      intro v1 hlc hne;have h1 : v1.cells.length = 1 := by cases v1 <;> first | rfl | exact absurd rfl (hne _)
      have h2 : v.cells.length = 1 := by
        cases v with
        | agg l => cases hlc with
          | same _ hcl => exact hcl.elim
          | vM f _ t hf => cases hf
        | _ => rfl
      omega
    cases v1 with
    | agg l1 =>
      cases v with
      | agg l => exact hl.1.symm
      | _ => exact hl.elim
    | undef => exact one _ hl (by simp)
    | ba l => exact one _ hl (by simp)
    | af q => exact one _ hl (by simp)
    | ro f t => exact one _ hl (by simp)
    | emp => exact one _ hl (by simp)
    | own q1 q2 q3 q4 => exact one _ hl (by simp)
    | ref q1 q2 q3 q4 => exact one _ hl (by simp)
    | wr w q1 q2 q3 q4 => exact one _ hl (by simp)
  have hEl : ∀ sz arr k e e1, LV s.oh s1.oh e e1 -> rZ g s.oh sz arr k e -> rZ (g.mu s.oh s1.oh w) s1.oh sz arr k e1 := by
    intro sz arr k e e1 hl he;obtain ⟨q1, q2⟩ := he;refine ⟨by rw [hlen e e1 hl]; exact q1, fun j v hv => ?_⟩;have hj : j < e.cells.length := by rw [<- hlen e e1 hl]; exact (yK.1 hv).1
    obtain ⟨c, c1, c2, c3⟩ := q2 j e.cells[j] (by simp [hj]);refine ⟨c, c1, c2, ?_⟩
    have one : ∀ v1, (∀ l, v1 ≠ .agg l) -> v1.cells[j]? = some v -> Lc s.oh s1.oh e v1 -> bm (g.mu s.oh s1.oh w) s1.oh v c := by
      intro v1 hne hv1 hlc;have e1 : v1.cells = [v1] := by cases v1 <;> first | rfl | exact absurd rfl (hne _)
      have e2 : e.cells = [e] := by
        cases e with
        | agg l => cases hlc with
          | same _ hcl => exact hcl.elim
          | vM f _ t hf => cases hf
        | _ => rfl
      have hj0 : j = 0 := by rw [e2] at hj; simpa using hj
      subst hj0;have hvv : v1 = v := by rw [e1] at hv1; simpa using hv1
      subst hvv;have : e.cells[0] = e := by simp [e2]
      rw [this] at c3;exact (hc e v1 hlc c c3).1
    cases e1 with
    | agg l1 =>
      cases e with
      | agg l => exact (hc _ _ (hl.2 j (V.agg l).cells[j] v (by have : (V.agg l).cells = l := rfl
                                                                simp [this]) hv) c c3).1
      | _ => exact hl.elim
    | undef => exact one _ (by simp) hv hl
    | ba l => exact one _ (by simp) hv hl
    | af q => exact one _ (by simp) hv hl
    | ro f t => exact one _ (by simp) hv hl
    | emp => exact one _ (by simp) hv hl
    | own q1 q2 q3 q4 => exact one _ (by simp) hv hl
    | ref q1 q2 q3 q4 => exact one _ (by simp) hv hl
    | wr w q1 q2 q3 q4 => exact one _ (by simp) hv hl
  have hmx : ∀ i o1, ae s1.oh i = some o1 -> jg o1 -> ∃ o, ae s.oh i = some o /\ jg o /\ (g.mu s.oh s1.oh w).m i = g.m i /\ (MS g w i o -> MS (g.mu s.oh s1.oh w) w i o1) := by
    intro i o1 ho1 hmp;rcases hle.oh i o1 ho1 with ⟨o, ho, e1, e2, e3, e4, hels⟩ | ⟨hn, e1, e2, e3⟩
    · refine ⟨o, ho, ⟨by rw [<- e3]; exact hmp.1, by rw [<- e1]; exact hmp.2⟩, hm i o ho, fun ⟨b, es, clock, q0, q1, q2, q3⟩ => ⟨b, es, clock, (hm i o ho).trans q0, q1, by rw [e4]; exact q2, fun j e v he hv => ?_⟩⟩;have hj : j < o.el.length := by rw [<- e4]; exact (yK.1 hv).1
      have hoj : o.el[j]? = some o.el[j] := uz hj;have h1 := q3 j e _ he hoj;have h2 := hels j _ v hoj hv;rw [h1] at h2;exact Pf h2
    · exact absurd hmp (eN e3)
  have hmpk : jm (g.mu s.oh s1.oh w) s1.oh w := by
    refine ⟨fun i o1 ho1 hmp => ?_, fun i j oi oj b hi hj mi mj e e' => ?_⟩
    · obtain ⟨o, ho, hm1, _, hk⟩ := hmx i o1 ho1 hmp;exact hk (h.hr.mp.at_ i o ho hm1)
    · obtain ⟨o, ho, hm1, e1, _⟩ := hmx i oi hi mi;obtain ⟨o', ho', hm2, e2, _⟩ := hmx j oj hj mj;exact h.hr.mp.inj i j o o' b ho ho' hm1 hm2 (by rw [<- e1]; exact e) (by rw [<- e2]; exact e')
  refine ⟨⟨⟨⟨?_, ?_, fun i o1 ho1 hl1 => ?_, fun i j oi oj b hi hj hli hlj hmi hmj => ?_, hmpk⟩, h.hr.gl.mono hGG⟩, h.df, h.sz.trans hle.n.symm, fun t => ?_, h.par⟩, ⟨rfl, rfl, rfl, wU _, fun _ _ _ _ => rfl, ?_, hGG, hFF, ?_, ?_, fun _ arr _ _ h => ⟨arr, h, rfl⟩, fun b ⟨i, o1, ho1, hmp, e⟩ => by
    obtain ⟨o, ho, hm1, e1, _⟩ := hmx i o1 ho1 hmp
    exact .inl ⟨i, o, ho, hm1, e1.symm.trans e⟩⟩⟩
  · intro b o c hcl;have hcl : (if bW g s.oh s1.oh b then w.cell? ⟨b, o, none⟩ else g.G b o) = some c := hcl;by_cases hd : bW g s.oh s1.oh b
    · rw [if_pos hd] at hcl; exact hcl
    · rw [if_neg hd] at hcl; exact h.hr.hG b o c hcl
  · intro b o c hcl;have hcl : (if bW g s.oh s1.oh b then w.cell? ⟨b, o, none⟩ else g.F b o) = some c := hcl;show (if bW g s.oh s1.oh b then w.cell? ⟨b, o, none⟩ else g.G b o) = some c;by_cases hd : bW g s.oh s1.oh b
    · rw [if_pos hd] at hcl |-; exact hcl
    · rw [if_neg hd] at hcl |-; exact h.hr.hF b o c hcl
  · rcases hle.oh i o1 ho1 with ⟨o, ho, e1, e2, e3, e4, hels⟩ | ⟨hn, e1, e2, e3⟩
    · obtain ⟨h1, h2⟩ := h.hr.obj i o ho (by rw [<- e3]; exact hl1);refine ⟨fun hmn => ?_, fun b hb => ?_⟩
      · rw [hm i o ho] at hmn;have := h1 hmn;exact C8 (by rw [e4, this]; rfl)
      · rw [hm i o ho] at hb;obtain ⟨arr, ty, hh, hg, hba⟩ := h2 b hb;refine ⟨arr, ty, hh, fun off => ?_, by rw [e1]; exact hba.1, by rw [e4]; exact hba.2.1, hba.2.2.1, fun k e1' he => ?_⟩
        · show (if bW g s.oh s1.oh b then w.cell? ⟨b, off, none⟩ else g.G b off) = none;rw [if_neg]
          · exact hg off
          · rintro ⟨j, oj, hj, hlj, hmj, hn⟩;have := h.hr.inj i j o oj b ho hj (by rw [<- e3]; exact hl1) hlj hb hmj;subst this;rw [ho1] at hn; cases hn
        · have hk : k < o.el.length := by rw [<- e4]; exact (yK.1 he).1
          rw [e1];exact hEl _ _ _ _ _ (hels k o.el[k] e1' (by simp [hk]) he) (hba.2.2.2 k o.el[k] (by simp [hk]))
    · refine ⟨fun _ => e1, fun b hb => ?_⟩;rw [hm0 i hn] at hb; cases hb
  · rcases hle.oh i oi hi with ⟨o, ho, _, _, e3, _⟩ | ⟨hn, _⟩
    · rcases hle.oh j oj hj with ⟨o', ho', _, _, e3', _⟩ | ⟨hn, _⟩
      · rw [hm i o ho] at hmi;rw [hm j o' ho'] at hmj;exact h.hr.inj i j o o' b ho ho' (by rw [<- e3]; exact hli) (by rw [<- e3']; exact hlj) hmi hmj
      · rw [hm0 j hn] at hmj; cases hmj
    · rw [hm0 i hn] at hmi; cases hmi
  · rcases hle.env t with hu | hl
    · rw [hu]; trivial
    · exact hA _ _ hl _ (h.env t)
  · rintro b ⟨i, o1, ho1, hl1, hmi⟩;left;rcases hle.oh i o1 ho1 with ⟨o, ho, e1, e2, e3, e4, hels⟩ | ⟨hn, _⟩
    · rw [hm i o ho] at hmi;exact ⟨i, o, ho, by rw [<- e3]; exact hl1, hmi⟩
    · rw [hm0 i hn] at hmi; cases hmi
  · intro b o c hcl;have hcl : (if bW g s.oh s1.oh b then w.cell? ⟨b, o, none⟩ else g.G b o) = some c := hcl;by_cases hd : bW g s.oh s1.oh b
    · exact .inr (.inl (hown b hd))
    · rw [if_neg hd] at hcl; exact .inl hcl
  · intro b o c hcl;have hcl : (if bW g s.oh s1.oh b then w.cell? ⟨b, o, none⟩ else g.F b o) = some c := hcl;by_cases hd : bW g s.oh s1.oh b
    · exact .inr (.inl (hown b hd))
    · rw [if_neg hd] at hcl; exact .inl hcl
def Gh.Ht (g:Gh)(oh1:OH)(m:Nat->Nat):Gh:=⟨g.G,g.F,fun i=>if(ae oh1 i).isSome=true then g.m (m i) else none,fun i=>g.cp (m i)⟩
section
variable {oh1 : OH} {m : Nat -> Nat}
theorem yi (hn:Ren oh oh1 m){v v1:V}(h:fg m oh oh1 v v1){x:Value}(hx:bm g oh v x):bm (g.Ht oh1 m) oh1 v1 x:=by
 cases h with
 |af v=>exact hx
 |ro f t=>exact⟨by cases f<;>exact hx.1,hx.2⟩
 |emp=>exact hx
 |own id ver off len o ho hv h1=>
  obtain⟨o1,ho1⟩:=E1.1 h1;obtain⟨o',ho',l0,l1,e1,e2,e3,_⟩:=hn.obj id o1 ho1;rw [ho] at ho';obtain rfl:o=o':=by simpa using ho'
  obtain⟨x1,o2,ho2,_,hat⟩:=hx;rw [ho] at ho2;obtain rfl:o=o2:=by simpa using ho2
  obtain⟨ad,cap,p1,p2,p3,p4⟩:=hat hv l0;refine⟨x1,o1,ho1,by omega,fun _ _=>⟨ad,cap,p1,p2,by omega,fun hcap=>?_⟩⟩;obtain⟨b,b1,b2,b3⟩:=p4 hcap;exact⟨b,by simp [Gh.Ht,h1,b1],by rw [e2];exact b2,b3⟩
 |ref id ver i foff o ho hv h1=>
  obtain⟨o1,ho1⟩:=E1.1 h1;obtain⟨o',ho',l0,l1,e1,e2,e3,_⟩:=hn.obj id o1 ho1;rw [ho] at ho';obtain rfl:o=o':=by simpa using ho'
  obtain⟨x1,o2,ho2,_,hat⟩:=hx;rw [ho] at ho2;obtain rfl:o=o2:=by simpa using ho2
  obtain⟨b,b1,b2⟩:=hat hv l0;exact⟨yj x1.1 ho1 l1,o1,ho1,by omega,fun _ _=>⟨b,by simp [Gh.Ht,h1,b1],by rw [e2];exact b2⟩⟩
 |wr w id ver i foff o ho hv h1=>
  obtain⟨o1,ho1⟩:=E1.1 h1;obtain⟨o',ho',l0,l1,e1,e2,e3,_⟩:=hn.obj id o1 ho1;rw [ho] at ho';obtain rfl:o=o':=by simpa using ho'
  obtain⟨y,⟨x1,o2,ho2,_,hat⟩,rfl⟩:=hx;rw [ho] at ho2;obtain rfl:o=o2:=by simpa using ho2
  obtain⟨b,b1,b2⟩:=hat hv l0;exact⟨y,⟨yj x1.1 ho1 l1,o1,ho1,by omega,fun _ _=>⟨b,by simp [Gh.Ht,h1,b1],by rw [e2];exact b2⟩⟩,rfl⟩
theorem Kw {v v1:V}(h:fg m oh oh1 v v1):v.cells=[v]/\v1.cells=[v1]:=by cases h<;>exact⟨rfl,rfl⟩
theorem kL (hn:Ren oh oh1 m){v v1:V}(h:jN m oh oh1 v v1){x:Value}(hx:dd g oh v x):EA (g.Ht oh1 m) oh1 v1 x:=by
 have one:∀v1,fg m oh oh1 v v1->bm (g.Ht oh1 m) oh1 v1 x:=by
  intro v1 hc;refine yi hn hc ?_;cases hc<;>exact hx
 cases v1 with
 |agg l1=>
  cases v with
  |agg l=>
   obtain⟨hl,hr⟩:=h;obtain⟨cs,rfl,hcl,hc⟩:=hx;refine⟨cs,rfl,by omega,fun j u c hu hcj=>?_⟩;have hj:j < l.length:=by rw [hl];exact(yK.1 hu).1
   obtain⟨r1,r2⟩:=hc j l[j] c (by simp [hj]) hcj;exact⟨yi hn (hr j l[j] u (by simp [hj]) hu) r1,r2⟩
  |_=>exact h.elim
 |undef=>cases h
 |ba l=>cases h
 |af q=>exact one _ h
 |ro f t=>exact one _ h
 |emp=>exact one _ h
 |own q1 q2 q3 q4=>exact one _ h
 |ref q1 q2 q3 q4=>exact one _ h
 |wr w q1 q2 q3 q4=>exact one _ h
theorem Kv (hn:Ren oh oh1 m)(h:HR g oh w):HR (g.Ht oh1 m) oh1 w/\∀b,cw (g.Ht oh1 m) oh1 b->cw g oh b:=by
 have hm:∀i o1,ae oh1 i=some o1->(g.Ht oh1 m).m i=g.m (m i):=fun i o1 h=>by simp [Gh.Ht,h]
 refine⟨⟨⟨h.hG,h.hF,fun i o1 ho1 hl1=>?_,fun i j oi oj b hi hj hli hlj hmi hmj=>?_,jm.none fun i o1 ho1=>(hn.obj i o1 ho1).choose_spec.2.2.1⟩,h.gl⟩,?_⟩
 ·obtain⟨o,ho,l0,l1,e1,e2,e3,hels⟩:=hn.obj i o1 ho1;obtain⟨h1,h2⟩:=h.obj (m i) o ho l0;refine⟨fun hmn=>?_,fun b hb=>?_⟩
  ·rw [hm i o1 ho1] at hmn;exact C8 (by rw [e3,h1 hmn];rfl)
  ·rw [hm i o1 ho1] at hb;obtain⟨arr,ty,hh,hg,hba⟩:=h2 b hb;refine⟨arr,ty,hh,hg,by rw [e2];exact hba.1,by rw [e3];exact hba.2.1,hba.2.2.1,fun k e' he=>?_⟩;have hk:k < o.el.length:=by rw [<- e3];exact(yK.1 he).1
   have hra:=hels k o.el[k] e' (by simp [hk]) he;obtain⟨q1,q2⟩:=hba.2.2.2 k o.el[k] (by simp [hk]);rw [e2]
   have key:e'.cells.length=o.el[k].cells.length/\∀(j:Nat) (a b:V),o.el[k].cells[j]?=some a->e'.cells[j]?=some b->fg m oh oh1 a b:=by
    have one:∀v1,fg m oh oh1 o.el[k] v1->v1.cells.length=o.el[k].cells.length/\∀(j:Nat) (a b:V),o.el[k].cells[j]?=some a->v1.cells[j]?=some b->fg m oh oh1 a b:=by
     intro v1 hc;obtain⟨z1,z2⟩:=Kw hc;rw [z1,z2];refine⟨rfl,fun j a b ha hb=>?_⟩
     cases j with
     |zero=>
      simp at ha hb;subst ha;subst hb;exact hc
     |succ j=>simp at ha
    revert hra one;generalize o.el[k]=e0;intro hra one
    cases e' with
    |agg l1=>
     cases e0 with
     |agg l=>exact⟨hra.1.symm,hra.2⟩
     |_=>exact hra.elim
    |undef=>cases hra
    |ba l=>cases hra
    |af q=>exact one _ hra
    |ro f t=>exact one _ hra
    |emp=>exact one _ hra
    |own q1 q2 q3 q4=>exact one _ hra
    |ref q1 q2 q3 q4=>exact one _ hra
    |wr w q1 q2 q3 q4=>exact one _ hra
   refine⟨by rw [key.1];exact q1,fun j v hv=>?_⟩;have hj:j < o.el[k].cells.length:=by rw [<- key.1];exact(yK.1 hv).1
   obtain⟨c,c1,c2,c3⟩:=q2 j o.el[k].cells[j] (by simp [hj]);exact⟨c,c1,c2,yi hn (key.2 j _ v (by simp [hj]) hv) c3⟩
 ·rw [hm i oi hi] at hmi;rw [hm j oj hj] at hmj;obtain⟨o,ho,l0,_⟩:=hn.obj i oi hi;obtain⟨o',ho',l0',_⟩:=hn.obj j oj hj;exact hn.inj i j oi oj hi hj (h.inj (m i) (m j) o o' b ho ho' l0 l0' hmi hmj)
 ·rintro b ⟨i,o1,ho1,hl1,hmi⟩;rw [hm i o1 ho1] at hmi;obtain⟨o,ho,l0,_⟩:=hn.obj i o1 ho1;exact⟨m i,o,ho,l0,hmi⟩
end
theorem Rel.lr {s1 s:St}{a:Act}(hle:Lr s1 s)(h:Rel γ g s a w):∃g1,Rel γ g1 s1 a w/\Fr g s.oh w g1 s1.oh w:=by
 obtain⟨hn,m,hr,he⟩:=hle;obtain⟨h1,h2⟩:=Kv hr h.hr
 refine⟨g.Ht s1.oh m,⟨h1,h.df,h.sz.trans hn.symm,fun t=>?_,h.par⟩,rfl,rfl,rfl,wU _,fun _ _ _ _=>rfl,fun b hb=>.inl (h2 b hb),fun _ _ _ h=>h,fun _ _ _ h=>h,fun _ _ _ h=>.inl h,fun _ _ _ h=>.inl h,
  fun _ arr _ _ h=>⟨arr,h,rfl⟩,fun b hb=>absurd hb (sP.none fun i o1 ho1=>(hr.obj i o1 ho1).choose_spec.2.2.1)⟩
 rcases he t with e|e
 ·rw [e];trivial
 ·have k:=kL hr e (h.env t);generalize aA s1.env t=v1 at e k |-;generalize aA s.env t=v0 at e
  cases v1 with
  |ba l=>cases e
  |_=>exact k
theorem Rel.UW {fz:Md}{s1 s:St}{a:Act}(hle:VI fz s1 s)(h:Rel γ g s a w):∃g1,Rel γ g1 s1 a w/\Fr g s.oh w g1 s1.oh w/\s1.n=s.n:=by
 cases fz with
 |le=>exact⟨g,(h.less hle).1,(h.less hle).2,hle.1⟩
 |lf=>exact⟨_,(h.lf hle).1,(h.lf hle).2,hle.n⟩
 |lr=>obtain⟨g1,h1,h2⟩:=h.lr hle;exact⟨g1,h1,h2,hle.n⟩
def Mb : X->Exit
 |.normal=>.normal
 |.ret=>.ret
 |.exit id=>.exit id
def IE (γ:Gm)(Q:X->St->Prop)(g:Gh)(oh:OH)(w:World)(n:Nat)(e:Exit)(a:Act)(w':World):Prop:=
 ∃x s' g',e=Mb x/\Q x s'/\Rel γ g' s' a w'/\Fr g oh w g' s'.oh w'/\s'.n=n
theorem IE.from {Q:X->St->Prop}{g1:Gh}{oh1:OH}{w1:World}{n:Nat}{e:Exit}{a:Act}{w':World}(hf:Fr g oh w g1 oh1 w1)(h:IE γ Q g1 oh1 w1 n e a w'):IE γ Q g oh w n e a w':=by
 obtain⟨x,s',g',h1,h2,h3,h4,h5⟩:=h;exact⟨x,s',g',h1,h2,h3,hf.trans h4,h5⟩
def Rf (γ:Gm)(Q:X->St->Prop)(g:Gh)(oh:OH)(w:World)(n:Nat)(e:Exit)(a:Act)(w':World):Prop:=
 ∃s' g',e=.normal/\Q .normal s'/\Rel γ g' s' a w'/\Fr g oh w g' s'.oh w'/\cx g oh g' s'.oh/\s'.n=n
theorem Dl {ro:Option Nat}{nf:Nat}{C:CT}(hC:∀q ts r,C q ts r->iE P q ts r)(hmix:P.follows .mixedOrders=true){n np:Nat}(hnp:∀d,np<=d->γ.par d=none)(id:Nat)(ops:Array Oper) :
  ∀(b:Bool) (s:St) (Q:X->St->Prop),okB n (.region id ops b)=true->fT np (.region id ops b)=true->cK P C (.region id ops b) s Q->s.n=n->∀g a w,Rel γ g s a w->(Code.region id ops b).wpIn (FR ro) nf P (Rf γ Q g s.oh w n) a w
 |false,s,Q,hb,hbp,h,hn,g,a,w,hr=>by
  simp only [okB,C7] at hb;simp only [fT,C7] at hbp;refine wpIn_region ?_;have:=BQ (ro:=ro) (nf:=nf) (n:=n) (Q:=Rf γ Q g s.oh w n) hC hb.1 hnp hbp (g0:=g) (oh0:=s.oh) (w0:=w) (fun s' g' a' w' hk hr' hf' hn'=>⟨s',g',rfl,hk,hr',hf'.1,hf'.2,hn'⟩) ops.toList 0 s rfl h g a w hr ⟨Fr.refl _ _ _,cx.refl _ _⟩ hn;simpa [List.range_eq_range'] using this
 |true,s,Q,hb,hbp,h,hn,g,a,w,hr=>by
  simp only [okB,C7,U3,U4] at hb;simp only [fT] at hbp;obtain⟨hdst,hap,hback⟩:=hb;obtain⟨rs,s',hl,hrun,hcomm,hq⟩:=pE hC ops.toList 0 s [] h;simp only [J8] at hcomm;refine wpIn_region_any hmix ?_;have hr':Rel γ g s a { w with drawn:=w.drawn+1 }:=⟨hr.hr.same rfl,hr.df,hr.sz,hr.env,hr.par⟩
  have hfr:Fr g s.oh w g s.oh { w with drawn:=w.drawn+1 }:=⟨rfl,rfl,rfl,wU _,fun _ _ _ _=>rfl,fun _ h=>.inl h,fun _ _ _ h=>h,fun _ _ _ h=>h,fun _ _ _ h=>.inl h,fun _ _ _ h=>.inl h,fun _ arr _ _ h=>⟨arr,h,rfl⟩,fun _ h=>.inl h⟩
  have hzl:(ops.toList.zip rs).length=ops.size:=by simp [hl]
  have hnn:s'.n=n:=by
   have:∀(l:List Ev) (s s':St),vU P ops l s s'->s.n=s'.n:=by
    intro l
    induction l with
    |nil=>intro s s' h;exact h.1
    |cons x l ih=>intro s s' h;exact(ih _ _ h.2:(s.go x).n=s'.n)
   rw [<- this _ _ _ hrun];exact hn
  refine Ey (n:=n) hnp hbp hdst hback (send:=s') (g0:=g) (oh0:=s.oh) (w0:=w) ?_ ops.size (Array.replicate ops.size false) ((List.range ops.size).zip (ops.toList.zip rs)) s g a _ (by simp [hl]) ?_ ?_ hr' ⟨hfr,cx.refl _ _⟩ hn
  ·intro g' a' w' s2 he hr2 hf2;obtain⟨hf2,hmm⟩:=hf2
   have hm:cx g' s2.oh g' s'.oh:=by
    have hoh:∀v x,bm g' s2.oh v x->bm g' s'.oh v x:=by
     intro v x hx
     cases v with
     |own i1 i2 i3 i4=>obtain⟨h1,o,ho,h2⟩:=hx;exact⟨h1,o,by rw [<- he.2.2];exact ho,h2⟩
     |ref i1 i2 i3 i4=>obtain⟨h1,o,ho,h2⟩:=hx;exact⟨⟨h1.1,fun q hq hm=>h1.2 q (by rw [he.2.2];exact hq) hm⟩,o,by rw [<- he.2.2];exact ho,h2⟩
     |wr w9 i1 i2 i3 i4=>obtain⟨y,⟨h1,o,ho,h2⟩,e9⟩:=hx;exact⟨y,⟨⟨h1.1,fun q hq hm=>h1.2 q (by rw [he.2.2];exact hq) hm⟩,o,by rw [<- he.2.2];exact ho,h2⟩,e9⟩
     |_=>exact hx
    exact hoh
   refine⟨s',g',rfl,hq,?_,?_,hmm.trans hm,hnn⟩
   ·refine⟨⟨⟨hr2.hr.hG,hr2.hr.hF,fun i o ho hl=>?_,fun i j oi oj b hi hj=>hr2.hr.inj i j oi oj b (by rw [he.2.2];exact hi) (by rw [he.2.2];exact hj),hr2.hr.mp.sub fun i o ho _=>⟨by rw [he.2.2];exact ho,rfl⟩⟩,hr2.hr.gl⟩,hr2.df,hr2.sz.trans he.1,fun t=>?_,hr2.par⟩
    ·obtain⟨h1,h2⟩:=hr2.hr.obj i o (by rw [he.2.2];exact ho) hl;refine⟨h1,fun b hb=>?_⟩;obtain⟨arr,ty,hh,hg,hba⟩:=h2 b hb;exact⟨arr,ty,hh,hg,hba.mono hm⟩
    ·rw [<- he.2.1];exact hm.Sh (hr2.env t)
   ·refine⟨hf2.os,hf2.tape,hf2.output,hf2.size,hf2.km,fun b hb=>hf2.own b ?_,hf2.G,hf2.F,hf2.nG,hf2.nF,hf2.Gx,fun b hb=>hf2.DK b (hb.sub fun i o ho _=>⟨by rw [he.2.2];exact ho,rfl⟩)⟩;obtain⟨i,o,ho,hl,hm⟩:=hb;exact⟨i,o,by rw [he.2.2];exact ho,hl,hm⟩
  ·have hget:∀(i:Nat) (x:Nat×Ev),((List.range ops.size).zip (ops.toList.zip rs))[i]?=some x->x.1=i/\i < ops.size/\ops[i]?=some x.2.1/\rs[i]?=some x.2.2:=by
    intro i x hx;rw [List.getElem?_zip_eq_some] at hx;obtain⟨h1,h2⟩:=hx;rw [List.getElem?_zip_eq_some] at h2;have hlt:i < ops.size:=by have:=(yK.1 h1).1;simpa using this
    rw [L3 hlt] at h1;exact⟨by simpa using h1.symm,hlt,by simpa using h2.1,h2.2⟩
   refine⟨by simp,fun x hx=>?_,fun i hi=>?_,?_,?_,?_⟩
   ·obtain⟨i,hi⟩:=V7.1 hx;obtain⟨h1,h2,h3,_⟩:=hget i x hi;rw [h1];exact h3
   ·constructor
    ·intro _;have:i < ((List.range ops.size).zip (ops.toList.zip rs)).length:=by simp [hl];exact hi
     exact⟨_,G9 this,(hget i _ (uz this)).1⟩
    ·intro _;simp [Pb,hi]
   ·rw [List.pairwise_iff_getElem];intro i j hi hj hij;have e1:=(hget i _ (uz hi)).1;have e2:=(hget j _ (uz hj)).1;omega
   ·rw [List.pairwise_iff_getElem];intro i j hi hj hij;obtain⟨e1,l1,o1,r1⟩:=hget i _ (uz hi);obtain⟨e2,l2,o2,r2⟩:=hget j _ (uz hj);rw [e1,e2];have hA:=F8.1 (F8.1 hap j (by simpa using l2)) i (by simpa using hij);simp only [o1,o2,M7] at hA;have hB:=uW hcomm i j _ _ hij (by rw [R6];exact r1) (by rw [R6];exact r2);rcases hA with hA|hA
    ·exact .inl (.inl hA)
    ·rcases hB with(hB|hB)|hB
     ·exact .inl (.inl hB)
     ·exact .inr ⟨hA,hB⟩
     ·exact .inl (.inr hB)
   ·intro i k he hk;rw [Pb,Array.getElem?_replicate] at hk;split at hk<;>cases hk
  ·have:((List.range ops.size).zip (ops.toList.zip rs)).map (·.2)=ops.toList.zip rs:=List.map_snd_zip (by simp [hl]);rw [this];exact hrun
theorem kU {ro:Option Nat}{nf:Nat}{C:CT}(hC:∀q ts r,C q ts r->iE P q ts r)(hmix:P.follows .mixedOrders=true){n np:Nat}(hnp:∀d,np<=d->γ.par d=none) :
  ∀(c:Code) (s:St) (Q:X->St->Prop),okB n c=true->fT np c=true->cK P C c s Q->s.n=n->∀g a w,Rel γ g s a w->c.wpIn (FR ro) nf P (IE γ Q g s.oh w n) a w
 |.skip,s,Q,_,_,h,hn,g,a,w,hr=>wpIn_skip ⟨.normal,s,g,rfl,h,hr,Fr.refl _ _ _,hn⟩
 |.ret,s,Q,_,_,h,hn,g,a,w,hr=>wpIn_ret ⟨.ret,s,g,rfl,h,hr,Fr.refl _ _ _,hn⟩
 |.exit id,s,Q,_,_,h,hn,g,a,w,hr=>wpIn_exit ⟨.exit id,s,g,rfl,h,hr,Fr.refl _ _ _,hn⟩
 |.seq x y,s,Q,hb,hbp,h,hn,g,a,w,hr=>by
  simp only [okB,C7] at hb;simp only [fT,C7] at hbp;rcases h with h|h
  ·refine wpIn_seq (wpIn_mono (kU hC hmix hnp x s _ hb.1 hbp.1 h hn g a w hr) fun e a' w' hp=>?_);obtain⟨xx,s',g',rfl,h2,h3,h4,h5⟩:=hp
   cases xx with
   |normal=>
    exact wpIn_mono (kU hC hmix hnp y s' Q hb.2 hbp.2 h2 h5 g' a' w' h3) fun e a2 w2 hp2=>hp2.from h4
   |ret=>exact⟨.ret,s',g',rfl,h2,h3,h4,h5⟩
   |exit id=>exact⟨.exit id,s',g',rfl,h2,h3,h4,h5⟩
  ·refine wpIn_seq (wpIn_mono (kU hC hmix hnp x s _ hb.1 hbp.1 h hn g a w hr) fun e a' w' hp=>?_);obtain⟨xx,s',g',rfl,h2,h3,h4,h5⟩:=hp
   cases xx with
   |normal=>
    obtain⟨fz,s2,hlf,h2⟩:=h2;obtain⟨g6,h6,h7,h8⟩:=h3.UW hlf;exact wpIn_mono (kU hC hmix hnp y s2 Q hb.2 hbp.2 h2 (h8.trans h5) _ a' w' h6) fun e a2 w2 hp2=>hp2.from (h4.trans h7)
   |ret=>exact⟨.ret,s',g',rfl,h2,h3,h4,h5⟩
   |exit id=>exact⟨.exit id,s',g',rfl,h2,h3,h4,h5⟩
 |.cond c x y,s,Q,hb,hbp,h,hn,g,a,w,hr=>by
  simp only [okB,C7] at hb;simp only [fT,C7] at hbp;simp only [cK] at h;split at h
  ·rename_i t hc;have hv:=me hr c;rw [hc] at hv;exact wpIn_cond_split hv.1 (fun ht=>kU hC hmix hnp x s Q hb.1 hbp.1 (h.1 ht) hn g a w hr) (fun ht=>kU hC hmix hnp y s Q hb.2 hbp.2 (h.2 ht) hn g a w hr)
  ·exact h.elim
 |.block id c,s,Q,hb,hbp,h,hn,g,a,w,hr=>by
  refine wpIn_block (wpIn_mono (kU hC hmix hnp c s _ hb hbp h hn g a w hr) fun e a' w' hp=>?_);obtain⟨xx,s',g',rfl,h2,h3,h4,h5⟩:=hp
  cases xx with
  |normal=>exact⟨.normal,s',g',rfl,h2,h3,h4,h5⟩
  |ret=>exact⟨.ret,s',g',rfl,h2,h3,h4,h5⟩
  |exit j=>
   simp only [X.block] at h2;simp only [Mb,Exit.inBlock];by_cases e:j=id
   ·rw [if_pos e] at h2 |-;exact⟨.normal,s',g',rfl,h2,h3,h4,h5⟩
   ·rw [if_neg e] at h2 |-;exact⟨.exit j,s',g',rfl,h2,h3,h4,h5⟩
 |.loop c,s,Q,hb,hbp,h,hn,g,a,w,hr=>by
  obtain⟨f0,fz,σ,enc,I,μ,ads,z0,had,hI,hle,hround⟩:=h;obtain⟨g1,hr1,hf1⟩:=Cq ads s g had hr;obtain⟨g2,hr2,hf2,hle1⟩:=hr1.UW hle
  have hn0:(gL s ads).n=s.n:=by
   have:∀(ads:List (Nat×Nat×Nat)) (s:St),(gL s ads).n=s.n:=by
    intro ads;induction ads with
    |nil=>intro s;rfl
    |cons p r ih=>intro s;obtain⟨t,c,sz⟩:=p;simp only [gL];rw [ih]
   exact this ads s
  have key:∀(m:Nat) (z:σ) (g1:Gh) (a:Act) (w1:World),μ z=m->I z->(enc z).n=n->Rel γ g1 (enc z) a w1->Fr g s.oh w g1 (enc z).oh w1->
    ∀(b:Frame) (k:List Item) (cs:List Frame),b.roundOf=(FR ro).round->(FR ro).fn b.fn->(FR ro).room (cs.length+1+nf)->∃e a' w',IE γ Q g s.oh w n e a' w'/\ArrivesIn (Machine.fenced P (FR ro)) P (lone (b.atR a (.code c :: .inLoop c :: k)) cs w1) b k cs e a' w':=by
   intro m
   induction m using Nat.strongRecOn with
   |_ m ih=>
    intro z g1 a w1 hm hI hnz hrz hfz b k cs b1 b2 b3;obtain⟨e,a2,w2,hp,harr⟩:=kU hC hmix hnp c (enc z) _ hb hbp (hround z hI) hnz g1 a w1 hrz b (.inLoop c :: k) cs b1 b2 b3;obtain⟨xx,s',g',rfl,h2,h3,h4,h5⟩:=hp
    cases xx with
    |normal=>
     obtain⟨z',hI',hlt,hle'⟩:=h2;obtain⟨g3,hr',hf',hle1'⟩:=h3.UW hle';obtain⟨e,a3,w3,hq,harr3⟩:=ih (μ z') A8 z' g3 a2 w2 rfl hI' (hle1'.trans h5) hr' ((hfz.trans h4).trans hf') b k cs b1 b2 b3;exact⟨e,a3,w3,hq,.of_steps (StepsIn.trans harr (.one (fenced_calm b2 b3 rfl) stepR_inLoop)) harr3⟩
    |ret=>exact⟨.ret,a2,w2,⟨.ret,s',g',rfl,h2,h3,hfz.trans h4,h5⟩,.pass (x:=.inLoop c) rfl (fun _ _=>.inl (by simp)) harr⟩
    |exit id=>exact⟨.exit id,a2,w2,⟨.exit id,s',g',rfl,h2,h3,hfz.trans h4,h5⟩,.pass (x:=.inLoop c) rfl (fun _ _=>.inl (by simp)) harr⟩
  intro b k cs b1 b2 b3;obtain⟨e,a',w',hq,harr⟩:=key (μ z0) z0 g2 a w rfl hI (hle1.trans (hn0.trans hn)) hr2 (hf1.trans hf2) b k cs b1 b2 b3;exact⟨e,a',w',hq,.of_steps (.one (fenced_calm b2 b3 rfl) stepR_loop) harr⟩
 |.region id ops b,s,Q,hb,hbp,h,hn,g,a,w,hr=>wpIn_mono (Dl hC hmix hnp id ops b s Q hb hbp h hn g a w hr) fun e a' w' ⟨s',g',h1,h2,h3,h4,h5,h6⟩=>⟨.normal,s',g',h1,h2,h3,h4,h6⟩
 |.rangeFunc ..,s,Q,_,_,h,_,_,_,_,_=>h.elim
 |.scope _,s,Q,_,_,h,_,_,_,_,_=>h.elim
 |.label _,s,Q,_,_,h,_,_,_,_,_=>h.elim
 |.goto _,s,Q,_,_,h,_,_,_,_,_=>h.elim
 |.refuse _,s,Q,_,_,h,_,_,_,_,_=>h.elim
theorem oC {C:CT}(hC:∀q ts r,C q ts r->iE P q ts r)(hmix:P.follows .mixedOrders=true){n np:Nat}(hnp:∀d,np<=d->γ.par d=none)
  (c:Code) (s:St) (Q:X->St->Prop) (h1:okB n c=true) (h2:fT np c=true) (h3:cK P C c s Q) (h4:s.n=n) (g:Gh) (a:Act) (w:World) (h5:Rel γ g s a w):c.wp P (IE γ Q g s.oh w n) a w:=
 (wpIn_wide (n:=0)).1 (kU (ro:=none) hC hmix hnp c s Q h1 h2 h3 h4 g a w h5)
end
end Go.Ev
