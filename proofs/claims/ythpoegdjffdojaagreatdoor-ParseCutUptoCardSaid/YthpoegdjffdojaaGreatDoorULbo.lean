import Derived.Deep.Slices
import Derived.Test.YthpoegdjffdojaaGreatDoorULbj
import Derived.Test.YthpoegdjffdojaaGreatDoorCards
import Derived.Test.YthpoegdjffdojaaGreatDoorTie
import Derived.HandedShaped
import Derived.Deep.DeepHandedRow
set_option linter.all false
set_option maxRecDepth 100000
namespace Go.Ev
open Go.Deep
def yJ (W:World):dS:=fun b o=>W.cell? ⟨b,o,none⟩
def TO (S:dS)(t:T)(cs:List Value):Prop:=
 t.cells.length=cs.length/\∀(j:Nat) (u:T) (c:Value),t.cells[j]?=some u->cs[j]?=some c->gD S u c/\c.oneCell'=true
structure Qt {H:Type}(B:DataW H->Nat):Prop where
 one:∀d,1<=B d
 str:∀l:List UInt8,l.length+1<=B (.lit (.string l))
 sl:∀e s,(e.map B).sum+1<=B (.slice e s)
 ag:∀ps,(ps.map B).sum+1<=B (.agg ps)
section
variable {H : Type} (enc : TypeId × Value -> H) (P : Program) (B : DataW H -> Nat)
def oJ {α:Type}(t:TypeId)(F:α->T)(w:α->Nat):Prop:=
 ∀(W:World) (sp:Nat->Bool) (hd:Bool) (fuel:Nat) (cs:List Value) (d:DataW H) (ps:List MemPlace),DataW.trod enc P W 0 sp hd fuel t cs=some (d,ps)->
  ∃a:α,w a<=B d/\TO (yJ W) (F a) cs
variable {enc P B}
theorem ss {S:dS}{v:Value}(h:v.oneCell'=true):TO S (.af v) [v]:=by
 refine⟨rfl,fun j u c h1 h2=>?_⟩
 cases j with
 |zero=>simp [T.cells] at h1 h2;subst h1;subst h2;exact⟨.af _ h,h⟩
 |succ j=>simp at h2
theorem Ky {t:TypeId}(hB:Qt B)(ht:P.underlying t=some .bool):oJ enc P B t (fun b:Bool=>T.af (.bool b)) (fun _=>1):=by
 intro W sp hd fuel cs d ps h;obtain⟨b,rfl,_⟩:=DataW.trod_bool ht h;exact⟨b,hB.one _,ss rfl⟩
theorem Fo {t:TypeId}{k:IntKind}(hB:Qt B)(ht:P.underlying t=some (.int k)):oJ enc P B t (fun n:Int=>T.af (.int k n)) (fun _=>1):=by
 intro W sp hd fuel cs d ps h;obtain⟨n,rfl,_,hw⟩:=DataW.trod_int ht h;exact⟨n,hB.one _,ss rfl⟩
theorem Oq {t:TypeId}(hB:Qt B)(ht:P.underlying t=some (.int .u32)):oJ enc P B t (fun n:UInt32=>T.af (.int .u32 n.toNat)) (fun _=>1):=by
 intro W sp hd fuel cs d ps h;obtain⟨n,rfl,_,hw⟩:=DataW.trod_int ht h;have hx:0<=n/\n<=4294967295:=by simpa [Lit.wf,IntKind.min,IntKind.max,IntKind.signed,IntKind.bits] using hw
 have e:((UInt32.ofNat n.toNat).toNat:Int)=n:=by rw [E9];omega
 refine⟨UInt32.ofNat n.toNat,hB.one _,?_⟩;show TO _ (.af (.int .u32 ((UInt32.ofNat n.toNat).toNat:Nat))) _;rw [e];exact ss rfl
theorem kM {t:TypeId}(hB:Qt B)(ht:P.underlying t=some .string):oJ enc P B t (fun s:ByteArray=>T.af (.string s)) (fun s=>s.size+1):=by
 intro W sp hd fuel cs d ps h;obtain⟨s,rfl,hx,hs⟩:=DataW.trod_string ht h;simp only [O8] at hx;have hd':=hx.1;subst hd';refine⟨s,?_,ss rfl⟩;have:=hB.str s.data.toList
 rwa [J1] at this
theorem tD {u v:Nat->Nat}:∀(l:List Nat),(∀i ∈ l,u i<=v i)->(l.map u).sum<=(l.map v).sum
 | [],_=>wU _
 |a :: r,h=>by
  have h1:=h a (D7 ..);have h2:=tD r fun i hi=>h i (D5 _ hi)
  rw [E7,E7,J6,J6];omega
theorem gP {α:Type}[Inhabited α]{t e:TypeId}{sz:Nat}{F:α->T}{w:α->Nat}(hB:Qt B)(ht:P.underlying t=some (.slice e))(hsz:P.cellsOf e=sz)(h0:0 < sz)(hF:∀a,(F a).cells.length=sz)
  (he:oJ enc P B e F w):oJ enc P B t (fun l:List α=>T.sl (l.map F)) (fun l=>(l.map w).sum+1):=by
 intro W sp hd fuel cs d ps h;rcases open_slice ht h with⟨rfl,hx⟩|⟨a,len,cap,m,n,D,Pl,rfl,_,hl,hm,hmm,hx,hel⟩
 ·simp only [O8] at hx;have hd':=hx.1;subst hd';refine⟨[],hB.one _,rfl,fun j u c h1 h2=>?_⟩
  cases j with
  |zero=>
   simp [T.cells] at h1 h2;subst h1;subst h2;refine⟨?_,rfl⟩;exact gD.sl [] none 0 0 0 0 (fun _ _=>undef) (C0 _) (C0 _) (fun h=>absurd rfl h) (fun i t h=>by simp at h) (fun i t j h=>by simp at h) (fun i t j h=>by simp at h) (fun i t j u h=>by simp at h)
  |succ j=>simp at h2
 ·have hlm:len<=m:=by rw [hmm];split<;>omega
  simp only [O8] at hx;have hd':=hx.1;subst hd'
  have hall:∀i,i < len->∃p:α×List Value,W.cells? 0 (a.add (i * sz)) sz=some p.2/\w p.1<=B (D i)/\TO (yJ W) (F p.1) p.2:=by
   intro i hi;obtain⟨cs',h1,h2⟩:=hel i A8;rw [hsz] at h1;obtain⟨x,hx1,hx2⟩:=he W sp hd n cs' (D i) (Pl i) h2;exact⟨(x,cs'),h1,hx1,hx2⟩
  obtain⟨f,hf⟩:=choose_lt hall;refine⟨(List.range len).map fun i=>(f i).1,?_,rfl,fun j u c h1 h2=>?_⟩
  ·have h3:=hB.sl ((List.range len).map D) ((List.range (m - len)).map fun j=>D (len+j));refine G6 (N0 ?_) h3;rw [List.map_map,List.map_map];exact tD (List.range len) fun i hi=>(hf i (Y4.1 hi)).2.1
  ·cases j with
   |succ j=>simp at h2
   |zero=>
    simp [T.cells] at h1 h2;subst h1;subst h2;refine⟨?_,rfl⟩
    have hget:∀(i:Nat) (t:T),((List.range len).map (F ∘ fun i=>(f i).1))[i]?=some t->i < len/\t=F (f i).1:=by
     intro i t hi;rw [Zf] at hi;obtain⟨k,hk,rfl⟩:=C1.1 hi;have hil:i < len:=by have:=(yK.1 hk).1;simpa using this
     rw [L3 hil] at hk;obtain rfl:i=k:=by simpa using hk
     exact⟨hil,rfl⟩
    have hcell:∀i j,i < len->j < sz->W.cell? ((a.add (i * sz)).add j)=(f i).2[j]?/\(f i).2.length=sz:=by
     intro i j hi hj;obtain⟨_,h2,h3⟩:=World.cells?_some (hf i hi).1;exact⟨h3 j hj,h2⟩
    have hspot:0 < len->a.spot=none:=by
     intro hl0;obtain⟨h3,h4⟩:=hcell 0 0 hl0 h0;rw [uz A8] at h3;have:=World.cell?_spot h3;simpa [Addr.add] using this
    have haddr:∀i j,0 < len->(a.add (i * sz)).add j=⟨a.block,a.off+i * sz+j,none⟩:=by
     intro i j hl0;have hs:=hspot hl0;obtain⟨b,o,spot⟩:=a;simp only at hs;subst hs;unfold Addr.add;by_cases h1:i * sz=0<;>by_cases h2:j=0<;>simp [h1,h2]
    have hlen':len=((List.range len).map (F ∘ fun i=>(f i).1)).length:=by simp
    have key:=gD.sl (S:=yJ W) ((List.range len).map (F ∘ fun i=>(f i).1)) (some a) cap sz a.block a.off (fun i j=>(f i).2.getD j undef) (by simpa using hl) hm
     (fun hne=>by
      have hl0:0 < len:=by
       cases len with
       |zero=>simp at hne
       |succ n=>omega
      have hs:=hspot hl0;obtain⟨b,o,spot⟩:=a;simp only at hs
      subst hs;rfl)
     (fun i t hi=>by rw [(hget i t hi).2];exact hF _)
     (fun i t j hi hj=>by
      obtain⟨hil,rfl⟩:=hget i t hi;rw [hF] at hj;obtain⟨h3,h4⟩:=hcell i j hil hj;rw [haddr i j A8,uz A8] at h3;show W.cell? ⟨a.block,a.off+i * sz+j,none⟩=some ((f i).2.getD j undef)
      rw [h3];simp [List.getD,uz (show j < (f i).2.length by omega)])
     (fun i t j hi hj=>by
      obtain⟨hil,rfl⟩:=hget i t hi;obtain⟨h5,h6⟩:=(hf i hil).2.2;have hj2:j < (f i).2.length:=by omega
      have:=(h6 j _ _ (uz hj) (uz hj2)).2
      simpa [List.getD,uz hj2] using this)
     (fun i t j u hi hu=>by
      obtain⟨hil,rfl⟩:=hget i t hi;obtain⟨h5,h6⟩:=(hf i hil).2.2;have hj:=(yK.1 hu).1;have hj2:j < (f i).2.length:=by omega
      have:=(h6 j _ _ hu (uz hj2)).1
      simpa [List.getD,uz hj2] using this)
    rw [<- hlen'] at key;exact key
def Nd (S:dS)(l:List T)(cs:List Value):Prop:=l.length=cs.length/\∀(j:Nat) (u:T) (c:Value),l[j]?=some u->cs[j]?=some c->gD S u c/\c.oneCell'=true
theorem Ot {S:dS}{l l2:List T}{cs cs2:List Value}(h:Nd S l cs)(h2:Nd S l2 cs2):Nd S (l ++ l2) (cs ++ cs2):=by
 refine⟨by simp [h.1,h2.1],fun j u c h3 h4=>?_⟩;by_cases hj:j < l.length
 ·rw [C5 hj] at h3;rw [C5 (by rw [<- h.1];exact hj)] at h4;exact h.2 j u c h3 h4
 ·rw [IX A8] at h3;rw [IX (by rw [<- h.1];omega),<- h.1] at h4;exact h2.2 _ u c h3 h4
theorem jY {S:dS}{t:T}{l:List T}{cs:List Value}{off s:Nat}(h:TO S t ((cs.drop off).take s))(h2:Nd S l (cs.drop (off+s))):Nd S (t.cells ++ l) (cs.drop off):=by
 have:=Ot (l:=t.cells) h h2
 rwa [<- L4,L1] at this
theorem tM {S:dS}{t:T}{cs:List Value}{off s:Nat}(h:TO S t ((cs.drop off).take s))(hl:cs.length=off+s):Nd S t.cells (cs.drop off):=by
 rw [B7 (by rw [List.length_drop];omega)] at h;exact h
theorem iJ {α β:Type}{t:TypeId}{F:α->T}{g:α->Nat}{F':β->T}{g':β->Nat}(f:α->β)(hF:∀a,F a=F' (f a))(hg:∀a,g' (f a)<=g a)(h:oJ enc P B t F g):oJ enc P B t F' g':=by
 intro W sp hd fuel cs d ps h1;obtain⟨a,h3,h4⟩:=h W sp hd fuel cs d ps h1;exact⟨f a,G6 (hg a) h3,hF a▸h4⟩
theorem Sg {S:dS}{l:List T}{cs:Array Value}(h:Nd S l cs.toList):gD S (.agg l) (.agg cs):=
 .agg l cs (by simpa using h.1.symm) (fun j c hj=>by
  have hj':=(E4.1 hj).1;have h9:=h.1;simp at h9;have h3:l[j]?=some (l[j]'(by omega)):=uz A8
  exact(h.2 j _ c h3 (by simpa using hj)).2) (fun j u c hu hc=>(h.2 j u c hu (by simpa using hc)).1)
theorem lW {α0 α1:Type}{t:TypeId}{f0 f1:Field}{s0 s1:Nat}{F0:α0->T}{F1:α1->T}{w0:α0->Nat}{w1:α1->Nat}(hB:Qt B)(ht:P.underlying t=some (.struct #[f0,f1]))(o0:f0.offset=0)(c0:P.cellsOf f0.type=s0)(o1:f1.offset=0+s0)(c1:P.cellsOf f1.type=s1)(ct:P.cellsOf t=s0+s1)(h0:oJ enc P B f0.type F0 w0)(h1:oJ enc P B f1.type F1 w1) :
  oJ enc P B t (fun p:α0×α1=>T.agg ((F0 (p.1)).cells ++ ((F1 (p.2)).cells))) (fun p=>w0 (p.1)+w1 (p.2)+1):=by
 intro W sp hd fuel cs d ps h;obtain⟨xs,n,_,hx,hl,hxl,hf⟩:=DataW.trod_struct ht h;simp only [O8] at hx;have hd':=hx.1;subst hd';have hxl2:xs.length=2:=hxl
 obtain⟨x0,x1,rfl⟩:∃x0 x1,xs=[x0,x1]:=by
  match xs,hxl2 with
  | [x0,x1],_=>exact⟨x0,x1,rfl⟩
 have e0:DataW.trod enc P W 0 sp hd n f0.type ((cs.drop f0.offset).take (P.cellsOf f0.type))=some x0:=hf 0 f0 rfl;obtain⟨a0,q0,r0⟩:=h0 W sp hd n _ x0.1 x0.2 e0;rw [o0,c0] at r0;have e1:DataW.trod enc P W 0 sp hd n f1.type ((cs.drop f1.offset).take (P.cellsOf f1.type))=some x1:=hf 1 f1 rfl;obtain⟨a1,q1,r1⟩:=h1 W sp hd n _ x1.1 x1.2 e1;rw [o1,c1] at r1;refine⟨(a0,a1),?_,?_⟩
 ·have h9:=hB.ag [x0.1,x1.1];simp only [E7,Y1,J6,List.sum_nil] at h9;show w0 a0+w1 a1+1<=B (.agg [x0.1,x1.1]);omega
 ·rw [ct] at hl;have key:Nd (yJ W) _ (cs.drop 0):=jY r0 (tM r1 A8);exact key
theorem Bc {α0 α1 α2:Type}{t:TypeId}{f0 f1 f2:Field}{s0 s1 s2:Nat}{F0:α0->T}{F1:α1->T}{F2:α2->T}{w0:α0->Nat}{w1:α1->Nat}{w2:α2->Nat}(hB:Qt B)(ht:P.underlying t=some (.struct #[f0,f1,f2]))(o0:f0.offset=0)(c0:P.cellsOf f0.type=s0)(o1:f1.offset=0+s0)(c1:P.cellsOf f1.type=s1)(o2:f2.offset=0+s0+s1)(c2:P.cellsOf f2.type=s2)(ct:P.cellsOf t=s0+s1+s2)(h0:oJ enc P B f0.type F0 w0)(h1:oJ enc P B f1.type F1 w1)(h2:oJ enc P B f2.type F2 w2) :
  oJ enc P B t (fun p:α0×α1×α2=>T.agg ((F0 (p.1)).cells ++ ((F1 (p.2.1)).cells ++ ((F2 (p.2.2)).cells)))) (fun p=>w0 (p.1)+w1 (p.2.1)+w2 (p.2.2)+1):=by
 intro W sp hd fuel cs d ps h;obtain⟨xs,n,_,hx,hl,hxl,hf⟩:=DataW.trod_struct ht h;simp only [O8] at hx;have hd':=hx.1;subst hd';have hxl2:xs.length=3:=hxl
 obtain⟨x0,x1,x2,rfl⟩:∃x0 x1 x2,xs=[x0,x1,x2]:=by
  match xs,hxl2 with
  | [x0,x1,x2],_=>exact⟨x0,x1,x2,rfl⟩
 have e0:DataW.trod enc P W 0 sp hd n f0.type ((cs.drop f0.offset).take (P.cellsOf f0.type))=some x0:=hf 0 f0 rfl;obtain⟨a0,q0,r0⟩:=h0 W sp hd n _ x0.1 x0.2 e0;rw [o0,c0] at r0;have e1:DataW.trod enc P W 0 sp hd n f1.type ((cs.drop f1.offset).take (P.cellsOf f1.type))=some x1:=hf 1 f1 rfl;obtain⟨a1,q1,r1⟩:=h1 W sp hd n _ x1.1 x1.2 e1;rw [o1,c1] at r1;have e2:DataW.trod enc P W 0 sp hd n f2.type ((cs.drop f2.offset).take (P.cellsOf f2.type))=some x2:=hf 2 f2 rfl;obtain⟨a2,q2,r2⟩:=h2 W sp hd n _ x2.1 x2.2 e2;rw [o2,c2] at r2;refine⟨(a0,a1,a2),?_,?_⟩
 ·have h9:=hB.ag [x0.1,x1.1,x2.1];simp only [E7,Y1,J6,List.sum_nil] at h9;show w0 a0+w1 a1+w2 a2+1<=B (.agg [x0.1,x1.1,x2.1]);omega
 ·rw [ct] at hl;have key:Nd (yJ W) _ (cs.drop 0):=jY r0 (jY r1 (tM r2 A8));exact key
theorem lV {α0 α1 α2 α3:Type}{t:TypeId}{f0 f1 f2 f3:Field}{s0 s1 s2 s3:Nat}{F0:α0->T}{F1:α1->T}{F2:α2->T}{F3:α3->T}{w0:α0->Nat}{w1:α1->Nat}{w2:α2->Nat}{w3:α3->Nat}(hB:Qt B)(ht:P.underlying t=some (.struct #[f0,f1,f2,f3]))(o0:f0.offset=0)(c0:P.cellsOf f0.type=s0)(o1:f1.offset=0+s0)(c1:P.cellsOf f1.type=s1)(o2:f2.offset=0+s0+s1)(c2:P.cellsOf f2.type=s2)(o3:f3.offset=0+s0+s1+s2)(c3:P.cellsOf f3.type=s3)(ct:P.cellsOf t=s0+s1+s2+s3)(h0:oJ enc P B f0.type F0 w0)(h1:oJ enc P B f1.type F1 w1)(h2:oJ enc P B f2.type F2 w2)(h3:oJ enc P B f3.type F3 w3) :
  oJ enc P B t (fun p:α0×α1×α2×α3=>T.agg ((F0 (p.1)).cells ++ ((F1 (p.2.1)).cells ++ ((F2 (p.2.2.1)).cells ++ ((F3 (p.2.2.2)).cells))))) (fun p=>w0 (p.1)+w1 (p.2.1)+w2 (p.2.2.1)+w3 (p.2.2.2)+1):=by
 intro W sp hd fuel cs d ps h;obtain⟨xs,n,_,hx,hl,hxl,hf⟩:=DataW.trod_struct ht h;simp only [O8] at hx;have hd':=hx.1;subst hd';have hxl2:xs.length=4:=hxl
 obtain⟨x0,x1,x2,x3,rfl⟩:∃x0 x1 x2 x3,xs=[x0,x1,x2,x3]:=by
  match xs,hxl2 with
  | [x0,x1,x2,x3],_=>exact⟨x0,x1,x2,x3,rfl⟩
 have e0:DataW.trod enc P W 0 sp hd n f0.type ((cs.drop f0.offset).take (P.cellsOf f0.type))=some x0:=hf 0 f0 rfl;obtain⟨a0,q0,r0⟩:=h0 W sp hd n _ x0.1 x0.2 e0;rw [o0,c0] at r0;have e1:DataW.trod enc P W 0 sp hd n f1.type ((cs.drop f1.offset).take (P.cellsOf f1.type))=some x1:=hf 1 f1 rfl;obtain⟨a1,q1,r1⟩:=h1 W sp hd n _ x1.1 x1.2 e1;rw [o1,c1] at r1;have e2:DataW.trod enc P W 0 sp hd n f2.type ((cs.drop f2.offset).take (P.cellsOf f2.type))=some x2:=hf 2 f2 rfl;obtain⟨a2,q2,r2⟩:=h2 W sp hd n _ x2.1 x2.2 e2;rw [o2,c2] at r2;have e3:DataW.trod enc P W 0 sp hd n f3.type ((cs.drop f3.offset).take (P.cellsOf f3.type))=some x3:=hf 3 f3 rfl;obtain⟨a3,q3,r3⟩:=h3 W sp hd n _ x3.1 x3.2 e3;rw [o3,c3] at r3;refine⟨(a0,a1,a2,a3),?_,?_⟩
 ·have h9:=hB.ag [x0.1,x1.1,x2.1,x3.1];simp only [E7,Y1,J6,List.sum_nil] at h9;show w0 a0+w1 a1+w2 a2+w3 a3+1<=B (.agg [x0.1,x1.1,x2.1,x3.1]);omega
 ·rw [ct] at hl;have key:Nd (yJ W) _ (cs.drop 0):=jY r0 (jY r1 (jY r2 (tM r3 A8)));exact key
end
end Go.Ev
namespace Go.Ev
open Go.Proofs Go.Proofs.YthpoegdjffdojaaGreatDoor
theorem Mw {H:Type}(d:DataW H):1<=Rows.uptoBulk d:=by
 cases d with
 |lit l=>cases l<;>simp [Rows.uptoBulk]
 |_=>simp [Rows.uptoBulk]
theorem Cg {H:Type}(l:List (DataW H)):(l.map Rows.uptoBulk).sum=Rows.uptoBulkAll l:=by
 induction l with
 |nil=>rfl
 |cons x r ih=>simp only [Rows.uptoBulkAll,E7,J6,ih]
theorem bB {H:Type}:Qt (H:=H) Rows.uptoBulk where
 one:=Mw
 str l:=wU _
 sl e s:=by have:=Cg e;simp only [Rows.uptoBulk];omega
 ag ps:=by have:=Cg ps;simp only [Rows.uptoBulk];omega
section
variable {H : Type} {enc : TypeId × Value -> H}
theorem AD {α:Type}:∀l:List α,(l.map fun _=>1).sum=l.length
 | []=>rfl
 |a :: r=>by rw [E7,J6,AD r,B9];omega
theorem kJ : oJ enc Tryz.prog Rows.uptoBulk 22 (fun l:List ByteArray=>T.sl (iD l)) iQ:=
 iJ (fun l=>l) (fun _=>rfl) (fun _=>wU _) (gP (sz:=1) bB Tryz.underlying22 B1 B3 (fun _=>rfl) (kM bB Tryz.underlying9))
theorem Dh : oJ enc Tryz.prog Rows.uptoBulk 62 (fun l:List UInt32=>T.sl (l.map bw)) (fun l=>l.length+1):=
 iJ (fun l=>l) (fun _=>rfl) (fun l=>by rw [AD];exact wU _) (gP (sz:=1) bB Tryz.underlying62 B1 B3 (fun _=>rfl) (Oq bB Tryz.underlying70))
theorem Of : oJ enc Tryz.prog Rows.uptoBulk 68 AA IA:=
 iJ (fun p:Int×(Bool×List UInt32)×List UInt32=>(⟨p.1,p.2.1.1,p.2.1.2,p.2.2⟩:dT)) (fun _=>rfl) (fun p=>by show 7+p.2.1.2.length+p.2.2.length<=_;omega)
  (lW (s0:=1) (s1:=3) bB Tryz.underlying68 rfl B1 rfl B1 B1 (Fo bB Tryz.underlying42)
   (lW (s0:=2) (s1:=1) bB Tryz.underlying66 rfl B1 rfl B1 B1
    (lW (s0:=1) (s1:=1) bB Tryz.underlying64 rfl B1 rfl B1 B1 (Ky bB Tryz.underlying4) Dh) Dh))
theorem Kh : oJ enc Tryz.prog Rows.uptoBulk 71 fW Nc:=
 iJ (fun l=>l) (fun _=>rfl) (fun _=>wU _) (gP (sz:=4) bB Tryz.underlying71 B1 B3 (fun _=>rfl) Of)
theorem RW : oJ enc Tryz.prog Rows.uptoBulk 43 (fun l:List (List dT)=>T.sl (l.map fW)) Cl:=
 iJ (fun l=>l) (fun _=>rfl) (fun _=>wU _) (gP (sz:=1) bB Tryz.underlying43 B1 B3 (fun _=>rfl) Kh)
theorem RX : oJ enc Tryz.prog Rows.uptoBulk 45 tw Et:=
 iJ (fun p:Int×List ByteArray×List (List dT)=>(⟨p.1,p.2.1,p.2.2⟩:nt)) (fun _=>rfl) (fun p=>by show 2+iQ p.2.1+Cl p.2.2<=_;omega)
  (Bc (s0:=1) (s1:=1) (s2:=1) bB Tryz.underlying45 rfl B1 rfl B1 rfl B1 B1 (Fo bB Tryz.underlying42) kJ RW)
theorem Oi : oJ enc Tryz.prog Rows.uptoBulk 38 (fun l:List nt=>T.sl (l.map tw)) (fun l=>(l.map Et).sum+1):=
 gP (sz:=3) bB Tryz.underlying38 B1 B3 (fun _=>rfl) RX
theorem Og : oJ enc Tryz.prog Rows.uptoBulk 40 xO Es:=
 iJ (fun p:ByteArray×List ByteArray×List nt×List ByteArray=>(⟨p.1,p.2.1,p.2.2.1,p.2.2.2⟩:pS)) (fun _=>rfl) (fun p=>by show 2+(p.1.size+1)+iQ p.2.1+(p.2.2.1.map Et).sum+iQ p.2.2.2<=_;omega)
  (lV (s0:=1) (s1:=1) (s2:=1) (s3:=1) bB Tryz.underlying40 rfl B1 rfl B1 rfl B1 rfl B1 B1 (kM bB Tryz.underlying9) kJ Oi kJ)
theorem RV : oJ enc Tryz.prog Rows.uptoBulk 79 Az Iz:=
 iJ (fun p:ByteArray×List UInt32×List ByteArray×List ByteArray=>(⟨p.1,p.2.1,p.2.2.1,p.2.2.2⟩:rX)) (fun _=>rfl) (fun p=>by show 2+(p.1.size+1)+p.2.1.length+iQ p.2.2.1+iQ p.2.2.2<=_;omega)
  (lV (s0:=1) (s1:=1) (s2:=1) (s3:=1) bB Tryz.underlying79 rfl B1 rfl B1 rfl B1 rfl B1 B1 (kM bB Tryz.underlying9) Dh kJ kJ)
theorem Oh : oJ enc Tryz.prog Rows.uptoBulk 26 CH MC:=
 iJ (fun p:ByteArray×List ByteArray×List rX×List pS=>(⟨p.1,p.2.1,p.2.2.1,p.2.2.2⟩:rY)) (fun _=>rfl) (fun p=>by show 3+(p.1.size+1)+iQ p.2.1+(p.2.2.1.map Iz).sum+(p.2.2.2.map Es).sum<=_;omega)
  (lV (s0:=1) (s1:=1) (s2:=1) (s3:=1) bB Tryz.underlying26 rfl B1 rfl B1 rfl B1 rfl B1 B1 (kM bB Tryz.underlying9) kJ
   (gP (sz:=4) bB Tryz.underlying23 B1 B3 (fun _=>rfl) RV) (gP (sz:=4) bB Tryz.underlying24 B1 B3 (fun _=>rfl) Og))
end
theorem kR {α:Type}{g:α->Nat}(h1:∀a,1<=g a):∀l:List α,l.length<=(l.map g).sum
 | []=>wU _
 |a :: r=>by
  have h2:=kR h1 r;have h3:=h1 a;rw [E7,J6,B9];omega
theorem kZ (l:List ByteArray):l.length+1<=iQ l:=N0 (kR (fun s=>P7 _ _) l)
theorem kY {l:List ByteArray}{s:ByteArray}(h:s ∈ l):s.size<=iQ l:=by
 have h1:=gZ Er h;have h2:Er s=s.size+1:=rfl;have h3:iQ l=(l.map Er).sum+1:=rfl;omega
theorem Ol {l:List (List dT)}(h:Cl l<=1048576):zV l:=by
 have h1:Cl l=(l.map Nc).sum+1:=rfl;have h2:=kR (g:=Nc) (fun a=>P7 _ _) l;refine⟨by omega,fun a ha=>?_,fun a ha t ht=>?_⟩
 ·have h3:=gZ Nc ha;have h4:Nc a=(a.map IA).sum+1:=rfl;have h5:=kR (g:=IA) (fun t=>by show 1<=7+t.nH.length+t.den.length;omega) a;omega
 ·have h3:=gZ Nc ha;have h4:Nc a=(a.map IA).sum+1:=rfl;have h5:=gZ IA ht;have h6:IA t=7+t.nH.length+t.den.length:=rfl;omega
theorem Ow {p:pS}(h:Es p<=1048576):Ty p:=by
 have h4:Es p=2+(p.name.size+1)+iQ p.cX+(p.bg.map Et).sum+iQ p.aN:=rfl;have h5:=kZ p.cX;have h6:=kZ p.aN;have h7:=kR (g:=Et) (fun e=>by show 1<=2+iQ e.given+Cl e.nums;omega) p.bg
 have he:∀e ∈ p.bg,2+iQ e.given+Cl e.nums<=1048576:=fun e he=>by
  have:=gZ Et he;have h9:Et e=2+iQ e.given+Cl e.nums:=rfl;omega
 exact⟨by omega,by omega,fun s hs=>by have:=kY hs;omega,by omega,fun e hm=>by have:=he e hm;have:=kZ e.given;omega,fun e hm s hs=>by have:=he e hm;have:=kY hs;omega,fun e hm=>Ol (by have:=he e hm;omega),by omega,fun s hs=>by have:=kY hs;omega⟩
theorem Np {v:rX}(h:Iz v<=1048576):VD v:=by
 have h4:Iz v=2+(v.name.size+1)+v.count.length+iQ v.dL+iQ v.aN:=rfl;have h5:=kZ v.dL;have h6:=kZ v.aN;exact⟨by omega,by omega,by omega,fun s hs=>by have:=kY hs;omega,by omega,fun s hs=>by have:=kY hs;omega⟩
theorem PC {f:rY}(h:MC f<=1048576):Qr f:=by
 have h4:MC f=3+(f.name.size+1)+iQ f.aN+(f.vars.map Iz).sum+(f.bG.map Es).sum:=rfl;have h6:=kZ f.aN;have h7:=kR (g:=Iz) (fun v=>by show 1<=2+(v.name.size+1)+v.count.length+iQ v.dL+iQ v.aN;omega) f.vars;have h8:=kR (g:=Es) (fun p=>by show 1<=2+(p.name.size+1)+iQ p.cX+(p.bg.map Et).sum+iQ p.aN;omega) f.bG;exact⟨by omega,by omega,fun s hs=>by have:=kY hs;omega,by omega,fun v hv=>Np (by have:=gZ Iz hv;omega),by omega,fun p hp=>Ow (by have:=gZ Es hp;omega)⟩
end Go.Ev
namespace Go.Proofs.YthpoegdjffdojaaGreatDoor.FV
open Go.Ev Go.ChangeShapes Go.WideShapes Go.RowKit Go.ChangeMaps Go.ChangeAt
theorem own : ownKnob Tryz.prog.godebug=none:=by kernel_rfl
def kl : List (String×DataW Unit):=[("unicode/utf8.acceptRanges",Rows.laid_unicode_utf8_acceptRanges),("errors.errorType",Rows.laid_errors_errorType),("unicode/utf8.first",Rows.laid_unicode_utf8_first)]
theorem et : Tryz.prog.globalNamed "errors.errorType" = some 0:=by kernel_rfl
theorem rt : (Tryz.prog.cutTypes.find? (fun x=>x.1 == "internal/reflectlite.rtype")).map (fun x=>x.2)=some 149:=by kernel_rfl
theorem Sp : ((List.range Tryz.prog.types.size).filter fun t=>Tryz.prog.rowNamed t [101,114,114,111,114])=[34]:=by kernel_rfl
theorem uK {W:World}(h:laidMetH Tryz.prog kl W):W.cell? ⟨0,0,none⟩=some (.iface 149 (.agg #[.pointer (some ⟨4,34,none⟩)])):=by
 have h':laidMet Tryz.prog (kl.filter fun x=>x.2.handleName?.isNone) W/\handlesMet Tryz.prog [("errors.errorType",Rows.laid_errors_errorType)] W:=h;obtain⟨name,u,ty,e1,e2,e3,e4,e5⟩:=h'.2 _ (HQ.2 rfl);have en:name=[101,114,114,111,114]:=(C6 e1).symm;subst en;obtain rfl:=C6 (rt.symm.trans e2);have hm:ty ∈ (List.range Tryz.prog.types.size).filter fun t=>Tryz.prog.rowNamed t [101,114,114,111,114]:=U6.2 ⟨Y4.2 e3,e4⟩
 rw [Sp] at hm;obtain rfl:=HQ.1 hm;have hh:typeHandle Tryz.prog 34=.pointer (some ⟨4,34,none⟩):=by kernel_rfl
 rw [hh] at e5;simpa using World.var?_cell et e5 0
theorem Va {W:World}(h:laidMetH Tryz.prog kl W)(hs:W.ShapedOpen Tryz.prog):GL (fun b o=>W.cell? ⟨b,o,none⟩):=
 ⟨cell_of_shapedOpen_int (t:=3) (zero:=#[.int .i64 0]) hs (N8 B1) B1 rfl B1 B1 Tryz.underlying3,uK h⟩
def LW : Nat->DataW Unit->List Value
 |0,_=>[]
 |_+1,.lit (.int k n)=>[.int k n]
 |_+1,.lit (.bool b)=>[.bool b]
 |_+1,.lit (.string b)=>[.string ⟨b.toArray⟩]
 |f+1,.agg l=>l.flatMap (LW f)
 |_+1,_=>[]
def LB (h:Array Go.Obj)(g:Nat)(cs:List Value):Array Go.Obj:=h.modify g fun
 |.cells _ t frozen=>.cells cs.toArray t frozen
 |o=>o
noncomputable def wY (os:Os):World:=
 let w0:=World.holding Tryz.prog os ⟨#[],#[],[]⟩
 { w0 with heap:=LB (LB (LB w0.heap 3 (LW 9 Rows.laid_unicode_utf8_acceptRanges)) 0 [.iface 149 (.agg #[.pointer (some ⟨4,34,none⟩)])]) 2 (LW 9 Rows.laid_unicode_utf8_first) }
theorem vL (os:Os)(args:Array Value):laidMetH Tryz.prog kl ((wY os).forCall (fun _ _=>0) ⟨#[],args,[]⟩).memory:=
 laidMetH_of_parts (laidMet_of_run' 12 B1 B1) B1
theorem laidOut : laidOutB Tryz.prog=true:=by kernel_rfl
theorem DF {P:Program}{W:World}{r:Reach}{base:Nat}{t:TypeId}{fs:Array Field}{v:Value}(ht:P.underlying t=some (.struct fs))(h:Value.okWide P W r base t v):∃cs,v=.agg cs:=by
 unfold Value.okWide at h;rw [ht] at h;obtain⟨cs,rfl,_,_⟩:=h;exact⟨cs,rfl⟩
theorem HK {P:Program}{W:World}{r:Reach}{base:Nat}{t e:TypeId}{v:Value}(ht:P.underlying t=some (.slice e))(h:Value.okWide P W r base t v):v.cells=#[v]:=by
 cases v with
 |agg cs=>simp [Value.okWide,Cell.okWide,ht,Cell.ok] at h
 |_=>rfl
theorem HG {H:Type}{enc:TypeId×Value->H}{W:World}{base:Nat}{v:Value}{d:DataW H}{p:List MemPlace}(hval:Value.okWide Tryz.prog W .any base 26 v)
  (h:DataW.Trod enc Tryz.prog W 0 (fun _=>true) true 26 v d p):∃f:rY,MC f<=Rows.uptoBulk d/\gD (yJ W) (CH f) v:=by
 obtain⟨cs,rfl⟩:=DF Tryz.underlying26 hval;obtain⟨fuel,hf⟩:=h;obtain⟨f,h1,h2⟩:=Oh (enc:=enc) W _ _ fuel _ d p hf;exact⟨f,h1,Sg h2⟩
theorem HF {H:Type}{enc:TypeId×Value->H}{W:World}{base:Nat}{v:Value}{d:DataW H}{p:List MemPlace}(hval:Value.okWide Tryz.prog W .any base 22 v)
  (h:DataW.Trod enc Tryz.prog W 0 (fun _=>true) true 22 v d p):∃l:List ByteArray,iQ l<=Rows.uptoBulk d/\gD (yJ W) (.sl (iD l)) v:=by
 have e:=HK Tryz.underlying22 hval;obtain⟨fuel,hf⟩:=h;rw [e] at hf;obtain⟨l,h1,h2⟩:=kJ (enc:=enc) W _ _ fuel _ d p hf;exact⟨l,h1,(h2.2 0 _ v rfl rfl).1⟩
end Go.Proofs.YthpoegdjffdojaaGreatDoor.FV
