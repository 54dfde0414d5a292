import Derived.Test.YthpoegdjffdojaaGreatDoorULaq
import Derived.Lib.ConvBytes
set_option linter.all false
set_option maxHeartbeats 4000000
set_option maxRecDepth 100000
namespace Go.Proofs
open Go.RowKit Go.Ev
theorem bR {w w':World}{a:Addr}(h:w'.heap[a.block]?=w.heap[a.block]?):w'.cell? a=w.cell? a:=by unfold World.cell?;rw [h]
theorem dX {w w':World}{a:Addr}(h:w'.heap[a.block]?=w.heap[a.block]?):w'.frozen? a=w.frozen? a:=by unfold World.frozen?;rw [h]
structure Old (w:World)(r o c:Nat):Prop where
 on:w.cell? ⟨r,4,none⟩=some (.slice (some ⟨o,0,none⟩) 4 c)
 o0:w.cell? ⟨o,0,none⟩=some (.string ⟨#[92]⟩)
 o1:w.cell? ⟨o,1,none⟩=some (.string ⟨#[92,92]⟩)
 o2:w.cell? ⟨o,2,none⟩=some (.string ⟨#[34]⟩)
 o3:w.cell? ⟨o,3,none⟩=some (.string ⟨#[92,34]⟩)
theorem Old.below {w wr:World}{r o c:Nat}(R:Old w r o c)(h:Below w.heap.size w wr):Old wr r o c:=by
 have key:∀{a:Addr} {v:Value},w.cell? a=some v->wr.cell? a=some v:=fun hc=>Lib.Below.cellOf h hc (wU _)
 exact⟨key R.on,key R.o0,key R.o1,key R.o2,key R.o3⟩
def lF (v:Value):List Value:=List.replicate 256 (Value.slice none 0 0) ++ [v]
theorem Rl : (Tryz.zeroCells225).toList=List.replicate 257 (Value.slice none 0 0):=by kernel_rfl
theorem Rk (v:Value):(Tryz.zeroCells225).toList.set 256 v=lF v:=by
 rw [Rl];rfl
theorem Ng : (Tryz.zeroCells225).size=257:=by kernel_rfl
theorem Ia (w:World)(v:Value)(hv:v.oneCell'=true):(storeCells ⟨w.heap.size,0,none⟩ (lF v)).run Tryz.prog (w.alloc (.cells Tryz.zeroCells225 225))=.ok () (w.alloc (.cells (lF v).toArray 225)):=by
 have hz:(lF v).toArray.size=257:=by unfold lF;simp
 have:=run_storeCells_new (P:=Tryz.prog) w 225 Tryz.zeroCells225 (lF v).toArray (by rw [hz];kernel_rfl) (by rw [hz];exact Ng) (by
  rw [Array.all_eq_true'];intro x hx;unfold lF at hx;rw [W2,D6] at hx;rcases hx with hx|hx
  ·rw [(List.mem_replicate.1 hx).2];rfl
  ·rw [HQ.1 hx];exact hv)
 exact this
theorem SH (v:Value){k:Nat}(h:k < 256):(lF v).toArray[k]?=some (Value.slice none 0 0):=by
 unfold lF;rw [L2,C5 (by simpa using h),List.getElem?_replicate,if_pos h]
theorem LJ (v:Value):(lF v).toArray[256]?=some v:=by
 unfold lF;rw [L2,IX (by simp)];simp
theorem eW (w:World)(A B:Obj){j:Nat}(h:j < w.heap.size):((w.alloc A).alloc B).heap[j]?=w.heap[j]?:=by
 rw [heap_alloc_old _ _ (by simp;omega),heap_alloc_old _ _ h]
theorem QN (wr:World)(b:UInt8):(convert 111 9 (.slice (some ⟨wr.heap.size,0,none⟩) 1 1)).run Tryz.prog (wr.alloc (.cells #[.int .u8 (b.toNat:Int)] 5))=.ok (.string ⟨#[b]⟩) (wr.alloc (.cells #[.int .u8 (b.toNat:Int)] 5)):=by
 have h:=run_convert_bytes_arg (P:=Tryz.prog) (wr.alloc (.cells #[.int .u8 (b.toNat:Int)] 5)) 111 5 B1 B1 wr.heap.size 0 1 1 ([b].map fun b=>(b.toNat:Int)) rfl (fun j hj=>by
  obtain rfl:j=0:=by omega
  rw [cell_of_row _ _ 0 _ _ (0,0) (heap_alloc_last wr _)];rfl) 9 B1
 rw [sq] at h;exact h
def Ck (n:Nat)(vp vq:Value)(k:Nat):Value:=if k=34/\1<=n then vp else if k=92/\2<=n then vq else .slice none 0 0
def TL (B:Nat)(w:World)(b t:Nat)(v:Value)(x y:UInt8):Prop:=∃p c,v=.slice (some ⟨p,0,none⟩) 2 c/\B<=p/\p≠b/\p≠t/\w.cell? ⟨p,0,none⟩=some (.int .u8 (x.toNat:Int))/\w.cell? ⟨p,1,none⟩=some (.int .u8 (y.toNat:Int))
theorem TL.XC {B:Nat}{w:World}{b t:Nat}{v:Value}{x y:UInt8}(h:TL B w b t v x y):∀(a:Addr) (l c:Nat),v=.slice (some a) l c->B<=a.block:=by
 obtain⟨p,c,rfl,hB,-⟩:=h;intro a l c' e
 injection e with e1
 obtain rfl:=C6 e1;exact hB
theorem TL.holds {B:Nat}{w:World}{b t:Nat}{v:Value}{x y:UInt8}(h:TL B w b t v x y):Lib.HoldsBytes w v [x,y]:=by
 obtain⟨p,c,rfl,-,-,-,h0,h1⟩:=h;refine⟨_,c,rfl,fun h=>by simp at h,fun a ha i z hz=>?_⟩;obtain rfl:=C6 ha
 match i with
 |0=>simp at hz;subst hz;simpa [Addr.add] using h0
 |1=>simp at hz;subst hz;simpa [Addr.add] using h1
 |i+2=>simp at hz
structure GG (w wr:World)(b t n:Nat)(vp vq:Value):Prop where
 below:Below w.heap.size w wr
 hb:w.heap.size<=b
 ht:w.heap.size<=t
 ne:t≠b
 row:∃c ty,wr.heap[b]?=some (.cells c ty (0,0))/\c.size=257
 at_:∀k,k < 256->wr.cell? ⟨b,k,none⟩=some (Ck n vp vq k)
 tr:wr.cell? ⟨b,256,none⟩=some (.slice (some ⟨t,0,none⟩) n 2)
 TX:∃c ty,wr.heap[t]?=some (.cells c ty (0,0))/\c.size=2
 t0:1<=n->wr.cell? ⟨t,0,none⟩=some (.string ⟨#[34]⟩)
 t1:2<=n->wr.cell? ⟨t,1,none⟩=some (.string ⟨#[92]⟩)
 hp:1<=n->TL w.heap.size wr b t vp 92 34
 hq:2<=n->TL w.heap.size wr b t vq 92 92
theorem GG.start (w:World)(ty ty':TypeId)(x y:Value):GG w ((w.alloc (.cells #[x,y] ty')).alloc (.cells (lF (.slice (some ⟨w.heap.size,0,none⟩) 0 2)).toArray ty)) (w.heap.size+1) w.heap.size 0 (.slice none 0 0) (.slice none 0 0):=by
 have hs:(w.alloc (.cells #[x,y] ty')).heap.size=w.heap.size+1:=by simp
 have hl:=heap_alloc_last (w.alloc (.cells #[x,y] ty')) (.cells (lF (.slice (some ⟨w.heap.size,0,none⟩) 0 2)).toArray ty);rw [hs] at hl
 have cl:∀(k:Nat) (v:Value),(lF (.slice (some ⟨w.heap.size,0,none⟩) 0 2)).toArray[k]?=some v->((w.alloc (.cells #[x,y] ty')).alloc (.cells (lF (.slice (some ⟨w.heap.size,0,none⟩) 0 2)).toArray ty)).cell? ⟨w.heap.size+1,k,none⟩=some v:=fun k v h=>by
  rw [cell_of_row _ _ k _ _ (0,0) hl];exact h
 refine⟨((Below.refl _ w).alloc (wU _) _).alloc (by rw [hs];omega) _,by omega,wU _,by omega,⟨_,_,hl,by unfold lF;simp⟩,fun k hk=>?_,cl _ _ (LJ _),⟨#[x,y],ty',?_,rfl⟩,fun h=>by omega,fun h=>by omega,fun h=>by omega,fun h=>by omega⟩
 ·rw [cl k _ (SH _ hk)];unfold Ck;rw [if_neg A8,if_neg A8]
 ·rw [heap_alloc_old _ _ (by rw [hs];omega)];exact heap_alloc_last w _
structure Cr (B:Nat)(w:World)(b t:Nat)(vp vq:Value):Prop where
 Sa:TN w b t vp vq
 hb:B<=b
 ht:B<=t
 fp:∀(a:Addr) (l c:Nat),vp=.slice (some a) l c->B<=a.block
 fq:∀(a:Addr) (l c:Nat),vq=.slice (some a) l c->B<=a.block
theorem ID (a:Addr)(i:Nat):(a.add i).block=a.block:=by unfold Addr.add;split<;>rfl
theorem Cr.km {B:Nat}{w w':World}{b t:Nat}{vp vq:Value}(h:Cr B w b t vp vq)(k:∀j,B<=j->w'.heap[j]?=w.heap[j]?):Cr B w' b t vp vq:=by
 have key:∀{a:Addr} {v:Value},B<=a.block->w.cell? a=some v->w'.cell? a=some v:=fun {a v} hB hc=>(bR (k a.block hB)).trans hc
 have hh:∀{v:Value} {l:List UInt8},(∀(a:Addr) (l c:Nat),v=.slice (some a) l c->B<=a.block)->Lib.HoldsBytes w v l->Lib.HoldsBytes w' v l:=fun hf ⟨p,c,h1,h2,h3⟩=>⟨p,c,h1,h2,fun a ha i x hx=>by
  subst ha
  exact key (by rw [ID];exact hf a _ _ h1) (h3 a rfl i x hx)⟩
 exact⟨⟨fun j hj=>key h.hb (h.Sa.at_ j hj),key h.hb h.Sa.tr,key h.ht h.Sa.t0,key h.ht h.Sa.t1,hh h.fp h.Sa.hp,hh h.fq h.Sa.hq⟩,h.hb,h.ht,h.fp,h.fq⟩
theorem GG.done {w wr:World}{b t:Nat}{vp vq:Value}(h:GG w wr b t 2 vp vq):TN wr b t vp vq:=
 ⟨fun k hk=>by
  rw [h.at_ k hk];unfold Ck MZ;by_cases c1:k=34
  ·rw [if_pos ⟨c1,by omega⟩,if_pos c1]
  ·rw [if_neg (fun q=>c1 q.1),if_neg c1];by_cases c2:k=92
   ·rw [if_pos ⟨c2,by omega⟩,if_pos c2]
   ·rw [if_neg (fun q=>c2 q.1),if_neg c2],h.tr,h.t0 A8,h.t1 A8,(h.hp A8).holds,(h.hq A8).holds⟩
theorem GG.Vo {w wr:World}{b t:Nat}{vp vq:Value}(h:GG w wr b t 2 vp vq):Cr w.heap.size wr b t vp vq:=⟨h.done,h.hb,h.ht,(h.hp A8).XC,(h.hq A8).XC⟩
theorem eP {b o o':Nat}(h:o≠o'):(⟨b,o,none⟩:Addr)≠⟨b,o',none⟩:=fun e=>h (B4 Addr.off e)
theorem iw {b b' o o':Nat}(h:b≠b'):(⟨b,o,none⟩:Addr)≠⟨b',o',none⟩:=fun e=>h (B4 Addr.block e)
def qZ (wr:World)(b t n k:Nat)(A B:Obj)(X:Value)(e:TypeId)(L:ByteArray)(v:Value):World:=
 (Lib.bytesWorld ((((wr.setCell ⟨t,n,none⟩ X).setCell ⟨b,256,none⟩ (.slice (some ⟨t,0,none⟩) (n+1) 2)).alloc A).alloc B) e L).setCell ⟨b,k,none⟩ v
theorem xU {w:World}{g:Nat}{c:Array Value}{ty:TypeId}{fr:Nat×Nat}(h:w.heap[g]?=some (.cells c ty fr))(a:Addr)(v:Value):∃c',(w.setCell a v).heap[g]?=some (.cells c' ty fr)/\c'.size=c.size:=by
 by_cases e:a.block=g
 ·subst e;refine⟨if a.spot.isSome then c else c.setIfInBounds a.off v,?_,?_⟩
  ·simp [World.setCell,Array.getElem?_modify,h]
  ·split<;>simp
 ·exact⟨c,(Below.heap_setCell _ _ _ _ (fun q=>e q.symm)).trans h,rfl⟩
section
variable {wr : World} {b t n k : Nat} {A B : Obj} {X v : Value} {e : TypeId} {L : ByteArray}
theorem zs : ((((wr.setCell ⟨t,n,none⟩ X).setCell ⟨b,256,none⟩ (.slice (some ⟨t,0,none⟩) (n+1) 2)).alloc A).alloc B).heap.size=wr.heap.size+2:=by simp
theorem mG {j:Nat}(hj:j < wr.heap.size):(Lib.bytesWorld ((((wr.setCell ⟨t,n,none⟩ X).setCell ⟨b,256,none⟩ (.slice (some ⟨t,0,none⟩) (n+1) 2)).alloc A).alloc B) e L).heap[j]?=((wr.setCell ⟨t,n,none⟩ X).setCell ⟨b,256,none⟩ (.slice (some ⟨t,0,none⟩) (n+1) 2)).heap[j]?:=by
 rw [Lib.bytesWorld_at_old _ _ _ _ (by rw [zs];omega),eW _ _ _ (by simpa using hj)]
theorem qY {a:Addr}(ha:a.block < wr.heap.size)(h1:(⟨b,k,none⟩:Addr)≠a)(h2:(⟨b,256,none⟩:Addr)≠a)(h3:(⟨t,n,none⟩:Addr)≠a):(qZ wr b t n k A B X e L v).cell? a=wr.cell? a:=by
 unfold qZ;rw [World.cell?_setCell_other _ _ _ _ h1,bR (mG ha),World.cell?_setCell_other _ _ _ _ h2,World.cell?_setCell_other _ _ _ _ h3]
theorem Cj {j:Nat}{c:Array Value}{ty:TypeId}{fr:Nat×Nat}(hj:j < wr.heap.size)(h:wr.heap[j]?=some (.cells c ty fr)):∃c',(qZ wr b t n k A B X e L v).heap[j]?=some (.cells c' ty fr)/\c'.size=c.size:=by
 obtain⟨c1,r1,z1⟩:=xU h ⟨t,n,none⟩ X;obtain⟨c2,r2,z2⟩:=xU r1 ⟨b,256,none⟩ (.slice (some ⟨t,0,none⟩) (n+1) 2);obtain⟨c3,r3,z3⟩:=xU ((mG (A:=A) (B:=B) (e:=e) (L:=L) hj).trans r2) ⟨b,k,none⟩ v;exact⟨c3,r3,by omega⟩
theorem Cm {B0:Nat}{w w1:World}(h:Below B0 w w1)(hB:B0<=w1.heap.size)(e:TypeId)(L:ByteArray):Below B0 w (Lib.bytesWorld w1 e L):=
 ⟨h.os,h.tape,h.output,by rw [Lib.bytesWorld_size];have:=h.size;omega,fun j hj=>by rw [Lib.bytesWorld_at_old _ _ _ _ A8];exact h.block j hj⟩
theorem GG.step {w:World}{vp vq vp' vq':Value}(h:GG w wr b t n vp vq)(hk:k < 256)(hn:n < 2)(hX:n=0/\k=34/\X=.string ⟨#[34]⟩/\L=⟨#[92,34]⟩/\vp'=v\/n=1/\k=92/\X=.string ⟨#[92]⟩/\L=⟨#[92,92]⟩/\vp'=vp/\vq'=v)
  (hv:∃c,v=.slice (some ⟨wr.heap.size+2,0,none⟩) 2 c):GG w (qZ wr b t n k A B X e L v) b t (n+1) vp' vq':=by
 obtain⟨cB,tyB,rB,zB⟩:=h.row;obtain⟨cT,tyT,rT,zT⟩:=h.TX;have hb:=(E4.1 rB).1;have ht:=(E4.1 rT).1;have hws:=h.below.size;have hne:=h.ne;obtain⟨c1,r1,z1⟩:=Cj (b:=b) (t:=t) (n:=n) (k:=k) (A:=A) (B:=B) (X:=X) (e:=e) (L:=L) (v:=v) hb rB;obtain⟨c2,r2,z2⟩:=Cj (b:=b) (t:=t) (n:=n) (k:=k) (A:=A) (B:=B) (X:=X) (e:=e) (L:=L) (v:=v) ht rT;have hk256:k≠256:=by omega
 have atK:(qZ wr b t n k A B X e L v).cell? ⟨b,k,none⟩=some v:=by
  have key:(Lib.bytesWorld ((((wr.setCell ⟨t,n,none⟩ X).setCell ⟨b,256,none⟩ (.slice (some ⟨t,0,none⟩) (n+1) 2)).alloc A).alloc B) e L).cell? ⟨b,k,none⟩=some (Ck n vp vq k):=by
   rw [bR (mG hb),World.cell?_setCell_other _ _ _ _ (eP (H5 hk256)),World.cell?_setCell_other _ _ _ _ (iw hne)];exact h.at_ k hk
  exact World.cell?_setCell_same _ _ _ key
 have at256:(qZ wr b t n k A B X e L v).cell? ⟨b,256,none⟩=some (.slice (some ⟨t,0,none⟩) (n+1) 2):=by
  unfold qZ;rw [World.cell?_setCell_other _ _ _ _ (eP hk256),bR (mG hb)]
  have key:(wr.setCell ⟨t,n,none⟩ X).cell? ⟨b,256,none⟩=some (.slice (some ⟨t,0,none⟩) n 2):=by
   rw [World.cell?_setCell_other _ _ _ _ (iw hne)];exact h.tr
  exact World.cell?_setCell_same _ _ _ key
 have atT:(qZ wr b t n k A B X e L v).cell? ⟨t,n,none⟩=some X:=by
  unfold qZ;rw [World.cell?_setCell_other _ _ _ _ (iw (H5 hne)),bR (mG ht),World.cell?_setCell_other _ _ _ _ (iw (H5 hne))];obtain⟨x,hx⟩:∃x,cT[n]?=some x:=⟨_,E3 A8⟩
  exact World.cell?_setCell_same _ _ _ ((cell_of_row _ _ n _ _ _ rT).trans hx)
 have new:∀j,j < L.size->(qZ wr b t n k A B X e L v).cell? ⟨wr.heap.size+2,j,none⟩=some (.int .u8 (L.data.toList.getD j 0).toNat):=fun j hj=>by
  unfold qZ;rw [World.cell?_setCell_other _ _ _ _ (iw A8)];have:=Lib.bytesWorld_cell ((((wr.setCell ⟨t,n,none⟩ X).setCell ⟨b,256,none⟩ (.slice (some ⟨t,0,none⟩) (n+1) 2)).alloc A).alloc B) e L j hj;rw [zs] at this;exact this
 obtain⟨cv,hv⟩:=hv
 have hbel:Below w.heap.size w (qZ wr b t n k A B X e L v):=by
  have s1:Below w.heap.size w ((wr.setCell ⟨t,n,none⟩ X).setCell ⟨b,256,none⟩ (.slice (some ⟨t,0,none⟩) (n+1) 2)):=(h.below.setCell (p:=⟨t,n,none⟩) h.ht _).setCell (p:=⟨b,256,none⟩) h.hb _;have z1:((wr.setCell ⟨t,n,none⟩ X).setCell ⟨b,256,none⟩ (.slice (some ⟨t,0,none⟩) (n+1) 2)).heap.size=wr.heap.size:=by simp
  have s2:=s1.alloc (by rw [z1];exact hws) A;have s3:=s2.alloc (by have:=s2.size;omega) B;exact Below.setCell (Cm s3 (by rw [zs];omega) e L) (p:=⟨b,k,none⟩) h.hb v
 have hc:∀{p o:Nat} {u:Value},p≠b->p≠t->wr.cell? ⟨p,o,none⟩=some u->(qZ wr b t n k A B X e L v).cell? ⟨p,o,none⟩=some u:=fun {p o u} g1 g2 g=>by
  rw [qY (World.block_lt_of_cell? _ _ g) (iw (H5 g1)) (iw (H5 g1)) (iw (H5 g2))];exact g
 refine⟨hbel,h.hb,h.ht,h.ne,⟨c1,tyB,r1,by omega⟩,fun j hj=>?_,at256,⟨c2,tyT,r2,by omega⟩,?_,?_,?_,?_⟩
 ·by_cases c:j=k
  ·subst c;rw [atK];rcases hX with⟨rfl,rfl,-,-,rfl⟩|⟨rfl,rfl,-,-,-,rfl⟩
   ·rfl
   ·rfl
  ·have hj256:(256:Nat)≠j:=by omega
   rw [qY hb (eP (H5 c)) (eP hj256) (iw hne),h.at_ j hj];clear atK at256 atT new hc hbel;rcases hX with⟨rfl,rfl,-,-,rfl⟩|⟨rfl,rfl,-,-,rfl,rfl⟩
   ·unfold Ck;rw [if_neg A8,if_neg A8,if_neg A8,if_neg A8]
   ·unfold Ck;by_cases c2:j=34
    ·rw [if_pos A8,if_pos A8]
    ·rw [if_neg A8,if_neg A8,if_neg A8,if_neg A8]
 ·intro h1;rcases hX with⟨rfl,rfl,rfl,-,rfl⟩|⟨rfl,rfl,-,-,-,rfl⟩
  ·exact atT
  ·rw [qY ht (iw (H5 hne)) (iw (H5 hne)) (eP B3)];exact h.t0 (wU _)
 ·intro h1;rcases hX with⟨rfl,-⟩|⟨rfl,rfl,rfl,-,-,rfl⟩
  ·exact absurd h1 B3
  ·exact atT
 ·intro h1;rcases hX with⟨rfl,rfl,rfl,rfl,rfl⟩|⟨rfl,rfl,-,-,rfl,rfl⟩
  ·exact⟨_,_,hv,by omega,by omega,by omega,new 0 B3,new 1 B3⟩
  ·obtain⟨p,c,hp1,hpB,hp2,hp3,hp4,hp5⟩:=h.hp (wU _);exact⟨p,c,hp1,hpB,hp2,hp3,hc hp2 hp3 hp4,hc hp2 hp3 hp5⟩
 ·intro h1;rcases hX with⟨rfl,-⟩|⟨rfl,rfl,rfl,rfl,rfl,rfl⟩
  ·exact absurd h1 B3
  ·exact⟨_,_,hv,by omega,by omega,by omega,new 0 B3,new 1 B3⟩
end
theorem Ch (r o c:Nat)(w:World)(R:Old w r o c) :
  Calls Tryz.prog 97 #[.pointer (some ⟨r,0,none⟩)] w fun e w'=>∃b t vp vq,e=.returned (.iface 226 (.pointer (some ⟨b,0,none⟩)))/\Cr w.heap.size w' b t vp vq/\Below w.heap.size w w':=by
 have hql:∀(w:World) (a:Option Addr) (n c:Nat),(binOp .eql 111 (.slice a n c) (.slice none 0 0)).run Tryz.prog w=.ok (.bool a.isNone) w:=fun w a n c=>Lib.run_eql_slice_nil w _ 5 a n c 0 0 B1
 have hx34:(⟨#[34]⟩:ByteArray)[0]=34:=rfl;have hx92:(⟨#[92]⟩:ByteArray)[0]=92:=rfl;have q:=R.on;have q0:=R.o0;have q1:=R.o1;have q2:=R.o2;have q3:=R.o3
 have hmk:∀w:World,(Instr.makeSlice 22 (.int .i64 0) (.int .i64 2)).run Tryz.prog w=.ok (.slice (some ⟨w.heap.size,0,none⟩) 0 2) (w.alloc (.cells #[.string ⟨#[]⟩,.string ⟨#[]⟩] 9)):=fun w=>by
  have hi8:(Tryz.prog.info? 9).map (fun i=>(i.zero,i.size,i.bytes))=some (some (Value.string ⟨#[]⟩),1,16):=by kernel_rfl
  obtain⟨j,hj,hzz⟩:=C1.1 hi8;simp only [O8] at hzz;obtain⟨h1,h2,h3⟩:=hzz;have hr:=run_make (P:=Tryz.prog) w 22 9 j (.string ⟨#[]⟩) B1 hj h1 .i64 .i64 0 2 A8 A8 (by rw [h3];decide) A8;rw [h2] at hr;have e:madeCells (Value.string ⟨#[]⟩).cells (Int.toNat 2 * 1)=#[.string ⟨#[]⟩,.string ⟨#[]⟩]:=by kernel_rfl
  rw [e] at hr;exact hr
 go_enter Tryz.func97,Tryz.ntmps97
 go_wp2
 go_loopw [4,5] (fun v4 v5 wr=>∃i:Nat,v5=.int .i64 i/\(i=0\/i=2\/i=4)/\v4=.bool (decide (i=0))/\wr=w) (fun _ v5 _=>4 - (intOf v5).toNat)
 case atStart=>exact⟨0,rfl,Or.inl rfl,rfl,rfl⟩
 case round=>
  obtain⟨i,rfl,hi,rfl,hw⟩:=hrel;have hw2:w=wr:=hw.symm;clear hw;subst hw2;rcases hi with rfl|rfl|rfl
  ·go_wp2
   exact⟨⟨2,rfl,Or.inr (Or.inl rfl),rfl,trivial⟩,by decide⟩
  ·go_wp2
   exact⟨⟨4,rfl,Or.inr (Or.inr rfl),rfl,trivial⟩,by decide⟩
  ·have hst:(storeCells ⟨w.heap.size+1,0,none⟩ ((Tryz.zeroCells225).toList.set 256 (.slice (some ⟨w.heap.size,0,none⟩) 0 2))).run Tryz.prog ((w.alloc (.cells #[.string ⟨#[]⟩,.string ⟨#[]⟩] 9)).alloc (.cells Tryz.zeroCells225 225))=.ok () ((w.alloc (.cells #[.string ⟨#[]⟩,.string ⟨#[]⟩] 9)).alloc (.cells (lF (.slice (some ⟨w.heap.size,0,none⟩) 0 2)).toArray 225)):=by
    have hs:(w.alloc (.cells #[.string ⟨#[]⟩,.string ⟨#[]⟩] 9)).heap.size=w.heap.size+1:=by simp
    have:=Ia (w.alloc (.cells #[.string ⟨#[]⟩,.string ⟨#[]⟩] 9)) (.slice (some ⟨w.heap.size,0,none⟩) 0 2) rfl;rw [hs] at this;rw [Rk];exact this
   have H0:Hid (GG w ((w.alloc (.cells #[.string ⟨#[]⟩,.string ⟨#[]⟩] 9)).alloc (.cells (lF (.slice (some ⟨w.heap.size,0,none⟩) 0 2)).toArray 225)) (w.heap.size+1) w.heap.size 0 (.slice none 0 0) (.slice none 0 0)):=GG.start w _ _ _ _
   go_wp2
   go_loopw [12] (fun v12 wr=>∃(n:Nat) (vp vq:Value),v12=.int .i64 (2 - 2 * (n:Int))/\(n=0\/n=1\/n=2)/\Hid (GG w wr (w.heap.size+1) w.heap.size n vp vq)) (fun v12 _=>(intOf v12+2).toNat)
   case atStart=>exact⟨0,_,_,rfl,Or.inl rfl,H0⟩
   case round=>
    obtain⟨n,vp,vq,rfl,hn,HB⟩:=hrel;have hq:=R.below HB.out.below;have q:=hq.on;have q0:=hq.o0;have q1:=hq.o1;have q2:=hq.o2;have q3:=hq.o3;clear hq;obtain⟨cB,tyB,rB,zB⟩:=HB.out.row;obtain⟨cT,tyT,rT,zT⟩:=HB.out.TX;obtain⟨xT,hxT⟩:∃x,cT[0]?=some x:=⟨_,E3 A8⟩
    obtain⟨yT,hyT⟩:∃x,cT[1]?=some x:=⟨_,E3 A8⟩
    have b256:=HB.out.tr;have f256:wr.frozen? ⟨w.heap.size+1,256,none⟩=false:=by simp [World.frozen?,rB]
    have fT0:wr.frozen? ⟨w.heap.size,0,none⟩=false:=by simp [World.frozen?,rT]
    have fT1:wr.frozen? ⟨w.heap.size,1,none⟩=false:=by simp [World.frozen?,rT]
    have cT0:wr.cell? ⟨w.heap.size,0,none⟩=some xT:=(cell_of_row _ _ 0 _ _ _ rT).trans hxT;have cT1:wr.cell? ⟨w.heap.size,1,none⟩=some yT:=(cell_of_row _ _ 1 _ _ _ rT).trans hyT;rcases hn with rfl|rfl|rfl
    ·have b34:=HB.out.at_ 34 B3;rw [show Ck 0 vp vq 34=.slice none 0 0 from rfl] at b34;have f34:wr.frozen? ⟨w.heap.size+1,34,none⟩=false:=by simp [World.frozen?,rB]
     have hcv:(convert 111 9 (.slice (some ⟨wr.heap.size,0,none⟩) 1 1)).run Tryz.prog (wr.alloc (.cells #[.int .u8 34] 5))=.ok (.string ⟨#[34]⟩) (wr.alloc (.cells #[.int .u8 34] 5)):=QN wr 34;have hltB:w.heap.size+1 < wr.heap.size:=(E4.1 rB).1;have hltT:w.heap.size < wr.heap.size:=by omega
     have k1:((wr.alloc (.cells #[.int .u8 34] 5)).alloc (.cells #[.string ⟨#[34]⟩] 9)).cell? ⟨w.heap.size,0,none⟩=some xT:=(bR (eW _ _ _ hltT)).trans cT0;have k2:((wr.alloc (.cells #[.int .u8 34] 5)).alloc (.cells #[.string ⟨#[34]⟩] 9)).frozen? ⟨w.heap.size,0,none⟩=false:=(dX (eW _ _ _ hltT)).trans fT0
     have k3:(((wr.alloc (.cells #[.int .u8 34] 5)).alloc (.cells #[.string ⟨#[34]⟩] 9)).setCell ⟨w.heap.size,0,none⟩ (.string ⟨#[34]⟩)).cell? ⟨w.heap.size+1,256,none⟩=some (.slice (some ⟨w.heap.size,0,none⟩) 0 2):=by
      rw [World.cell?_setCell_other _ _ _ _ (by simp)];exact(bR (eW _ _ _ hltB)).trans b256
     have k4:(((wr.alloc (.cells #[.int .u8 34] 5)).alloc (.cells #[.string ⟨#[34]⟩] 9)).setCell ⟨w.heap.size,0,none⟩ (.string ⟨#[34]⟩)).frozen? ⟨w.heap.size+1,256,none⟩=false:=by
      rw [World.frozen?_setCell];exact(dX (eW _ _ _ hltB)).trans f256
     have szV:((wr.setCell ⟨w.heap.size,0,none⟩ (.string ⟨#[34]⟩)).setCell ⟨w.heap.size+1,256,none⟩ (.slice (some ⟨w.heap.size,0,none⟩) 1 2)).heap.size=wr.heap.size:=by simp [World.setCell]
     have sz:((((wr.setCell ⟨w.heap.size,0,none⟩ (.string ⟨#[34]⟩)).setCell ⟨w.heap.size+1,256,none⟩ (.slice (some ⟨w.heap.size,0,none⟩) 1 2)).alloc (.cells #[.int .u8 34] 5)).alloc (.cells #[.string ⟨#[34]⟩] 9)).heap.size=wr.heap.size+2:=by simp [World.setCell]
     have k5:=Lib.run_convert_string_bytes (P:=Tryz.prog) ((((wr.setCell ⟨w.heap.size,0,none⟩ (.string ⟨#[34]⟩)).setCell ⟨w.heap.size+1,256,none⟩ (.slice (some ⟨w.heap.size,0,none⟩) 1 2)).alloc (.cells #[.int .u8 34] 5)).alloc (.cells #[.string ⟨#[34]⟩] 9)) 9 111 5 ⟨#[92,34]⟩ (u:=.string) B1 B1 B1
     have k6:(Lib.bytesWorld ((((wr.setCell ⟨w.heap.size,0,none⟩ (.string ⟨#[34]⟩)).setCell ⟨w.heap.size+1,256,none⟩ (.slice (some ⟨w.heap.size,0,none⟩) 1 2)).alloc (.cells #[.int .u8 34] 5)).alloc (.cells #[.string ⟨#[34]⟩] 9)) 5 ⟨#[92,34]⟩).cell? ⟨w.heap.size+1,34,none⟩=some (.slice none 0 0):=by
      rw [bR (Lib.bytesWorld_at_old _ _ _ _ (by rw [sz];show w.heap.size+1 < _;omega)),bR (eW _ _ _ (by rw [szV];exact hltB)),World.cell?_setCell_other _ _ _ _ (by simp),World.cell?_setCell_other _ _ _ _ (by simp)];exact b34
     have k7:(Lib.bytesWorld ((((wr.setCell ⟨w.heap.size,0,none⟩ (.string ⟨#[34]⟩)).setCell ⟨w.heap.size+1,256,none⟩ (.slice (some ⟨w.heap.size,0,none⟩) 1 2)).alloc (.cells #[.int .u8 34] 5)).alloc (.cells #[.string ⟨#[34]⟩] 9)) 5 ⟨#[92,34]⟩).frozen? ⟨w.heap.size+1,34,none⟩=false:=by
      rw [dX (Lib.bytesWorld_at_old _ _ _ _ (by rw [sz];show w.heap.size+1 < _;omega)),dX (eW _ _ _ (by rw [szV];exact hltB)),World.frozen?_setCell,World.frozen?_setCell];exact f34
     go_wp2
     exact⟨⟨1,_,vq,rfl,Or.inr (Or.inl rfl),(HB.out.step (k:=34) B3 B3 (Or.inl ⟨rfl,rfl,rfl,rfl,rfl⟩) ⟨_,rfl⟩:GG _ _ _ _ _ _ _)⟩,by decide⟩
    ·have b92:=HB.out.at_ 92 B3;rw [show Ck 1 vp vq 92=.slice none 0 0 from rfl] at b92;have f92:wr.frozen? ⟨w.heap.size+1,92,none⟩=false:=by simp [World.frozen?,rB]
     have hcv:(convert 111 9 (.slice (some ⟨wr.heap.size,0,none⟩) 1 1)).run Tryz.prog (wr.alloc (.cells #[.int .u8 92] 5))=.ok (.string ⟨#[92]⟩) (wr.alloc (.cells #[.int .u8 92] 5)):=QN wr 92;have hltB:w.heap.size+1 < wr.heap.size:=(E4.1 rB).1;have hltT:w.heap.size < wr.heap.size:=by omega
     have k1:((wr.alloc (.cells #[.int .u8 92] 5)).alloc (.cells #[.string ⟨#[92]⟩] 9)).cell? ⟨w.heap.size,1,none⟩=some yT:=(bR (eW _ _ _ hltT)).trans cT1;have k2:((wr.alloc (.cells #[.int .u8 92] 5)).alloc (.cells #[.string ⟨#[92]⟩] 9)).frozen? ⟨w.heap.size,1,none⟩=false:=(dX (eW _ _ _ hltT)).trans fT1
     have k3:(((wr.alloc (.cells #[.int .u8 92] 5)).alloc (.cells #[.string ⟨#[92]⟩] 9)).setCell ⟨w.heap.size,1,none⟩ (.string ⟨#[92]⟩)).cell? ⟨w.heap.size+1,256,none⟩=some (.slice (some ⟨w.heap.size,0,none⟩) 1 2):=by
      rw [World.cell?_setCell_other _ _ _ _ (by simp)];exact(bR (eW _ _ _ hltB)).trans b256
     have k4:(((wr.alloc (.cells #[.int .u8 92] 5)).alloc (.cells #[.string ⟨#[92]⟩] 9)).setCell ⟨w.heap.size,1,none⟩ (.string ⟨#[92]⟩)).frozen? ⟨w.heap.size+1,256,none⟩=false:=by
      rw [World.frozen?_setCell];exact(dX (eW _ _ _ hltB)).trans f256
     have szV:((wr.setCell ⟨w.heap.size,1,none⟩ (.string ⟨#[92]⟩)).setCell ⟨w.heap.size+1,256,none⟩ (.slice (some ⟨w.heap.size,0,none⟩) 2 2)).heap.size=wr.heap.size:=by simp [World.setCell]
     have sz:((((wr.setCell ⟨w.heap.size,1,none⟩ (.string ⟨#[92]⟩)).setCell ⟨w.heap.size+1,256,none⟩ (.slice (some ⟨w.heap.size,0,none⟩) 2 2)).alloc (.cells #[.int .u8 92] 5)).alloc (.cells #[.string ⟨#[92]⟩] 9)).heap.size=wr.heap.size+2:=by simp [World.setCell]
     have k5:=Lib.run_convert_string_bytes (P:=Tryz.prog) ((((wr.setCell ⟨w.heap.size,1,none⟩ (.string ⟨#[92]⟩)).setCell ⟨w.heap.size+1,256,none⟩ (.slice (some ⟨w.heap.size,0,none⟩) 2 2)).alloc (.cells #[.int .u8 92] 5)).alloc (.cells #[.string ⟨#[92]⟩] 9)) 9 111 5 ⟨#[92,92]⟩ (u:=.string) B1 B1 B1
     have k6:(Lib.bytesWorld ((((wr.setCell ⟨w.heap.size,1,none⟩ (.string ⟨#[92]⟩)).setCell ⟨w.heap.size+1,256,none⟩ (.slice (some ⟨w.heap.size,0,none⟩) 2 2)).alloc (.cells #[.int .u8 92] 5)).alloc (.cells #[.string ⟨#[92]⟩] 9)) 5 ⟨#[92,92]⟩).cell? ⟨w.heap.size+1,92,none⟩=some (.slice none 0 0):=by
      rw [bR (Lib.bytesWorld_at_old _ _ _ _ (by rw [sz];show w.heap.size+1 < _;omega)),bR (eW _ _ _ (by rw [szV];exact hltB)),World.cell?_setCell_other _ _ _ _ (by simp),World.cell?_setCell_other _ _ _ _ (by simp)];exact b92
     have k7:(Lib.bytesWorld ((((wr.setCell ⟨w.heap.size,1,none⟩ (.string ⟨#[92]⟩)).setCell ⟨w.heap.size+1,256,none⟩ (.slice (some ⟨w.heap.size,0,none⟩) 2 2)).alloc (.cells #[.int .u8 92] 5)).alloc (.cells #[.string ⟨#[92]⟩] 9)) 5 ⟨#[92,92]⟩).frozen? ⟨w.heap.size+1,92,none⟩=false:=by
      rw [dX (Lib.bytesWorld_at_old _ _ _ _ (by rw [sz];show w.heap.size+1 < _;omega)),dX (eW _ _ _ (by rw [szV];exact hltB)),World.frozen?_setCell,World.frozen?_setCell];exact f92
     go_wp2
     exact⟨⟨2,_,_,rfl,Or.inr (Or.inr rfl),(HB.out.step (k:=92) B3 B3 (Or.inr ⟨rfl,rfl,rfl,rfl,rfl,rfl⟩) ⟨_,rfl⟩:GG _ _ _ _ _ _ _)⟩,by decide⟩
    ·have HR:=HB.out.Vo;have hbl:=HB.out.below
     go_wp2
     go_ret
     exact⟨_,_,_,_,rfl,HR,hbl⟩
end Go.Proofs
namespace Go.Proofs
open Go.RowKit Go.Ev
theorem ue (w:World):(callFunc 143 #[]).run Tryz.prog w=.ok (.value (.tuple #[])) w:=run_call_mark0 Tryz.func143 B1 B1 B1 .disable B1 w
theorem wM (w:World):(callFunc 145 #[]).run Tryz.prog w=.ok (.value (.tuple #[])) w:=run_call_mark0 Tryz.func145 B1 B1 B1 .enable B1 w
theorem DC (a:Addr)(w:World):(callFunc 146 #[.pointer (some a)]).run Tryz.prog w=.ok (.value (.tuple #[])) w:=run_call_marked Tryz.func146 B1 B1 B1 .acquire B1 a w
theorem DB (a:Addr)(w:World):(callFunc 148 #[.pointer (some a)]).run Tryz.prog w=.ok (.value (.tuple #[])) w:=run_call_marked Tryz.func148 B1 B1 B1 .releaseMerge B1 a w
theorem Lb (a:Addr)(x:Value)(u:FrameMode)(w:World)(hc:w.cell? a=some x)(hz:w.frozen? a=false) :
  CallsD Tryz.prog 115 #[.pointer (some a),.bool true] u w fun e u' w'=>u'=u/\(e=.returned (.tuple #[])/\w'=w.drew.setCell a (.int .u32 1)):=by
 have hc':w.drew.cell? a=some x:=by go_simp
 have hz':w.drew.frozen? a=false:=by go_simp
 have hst:=run_call_store (P:=Tryz.prog) Tryz.func132 B1 B1 B1 B1 (k:=.u32) (y:=1) hc' hz'
 go_enter_d Tryz.func115,Tryz.ntmps115
 go_wp2
 go_region_calls
 all_goals(go_end0;exact⟨rfl,rfl⟩)
theorem HH (a:Addr)(u:FrameMode)(w:World)(hc:w.cell? a=some (.int .i32 1))(hz:w.frozen? a=false) :
  CallsD Tryz.prog 114 #[.pointer (some a)] u w fun e u' w'=>u'=u/\(e=.returned (.tuple #[])/\w'=w.setCell a (.int .i32 0)):=by
 have hd:=ue;have he:=wM;have hr:=DB;have hadd:=run_call_add (P:=Tryz.prog) Tryz.func149 B1 B1 B1 .i32 B1 (y:=-1) (s:=0) hc hz (by simp [go_sem];rfl);first|have hcv:=run_convert_to_unsafe (P:=Tryz.prog) (src:=258) (dst:=124) (t:=174) B1 B1 B1 hc|have hcv:=run_convert_to_unsafe (P:=Tryz.prog) (src:=237) (dst:=124) (t:=174) B1 B1 B1 hc
 go_enter_d Tryz.func114,Tryz.ntmps114
 go_wp2
 go_end0
 go_wp2
 go_end0
 exact⟨rfl,rfl⟩
theorem OP (a:Addr)(w:World)(hc:w.cell? a=some (.int .i32 0))(hz:w.frozen? a=false) :
  Calls Tryz.prog 113 #[.pointer (some a)] w fun e w'=>e=.returned (.tuple #[])/\w'=w.setCell a (.int .i32 1):=by
 have hd:=ue;have he:=wM;have ha:=DC;have hcas:=run_call_cas_hit (P:=Tryz.prog) Tryz.func144 B1 B1 B1 .i32 B1 (y:=1) hc hz;have hc':(w.setCell a (.int .i32 1)).cell? a=some (.int .i32 1):=World.cell?_setCell_same w a _ hc;first|have hcv:=run_convert_to_unsafe (P:=Tryz.prog) (src:=258) (dst:=124) (t:=174) B1 B1 B1 hc'|have hcv:=run_convert_to_unsafe (P:=Tryz.prog) (src:=237) (dst:=124) (t:=174) B1 B1 B1 hc'
 go_enter Tryz.func113,Tryz.ntmps113
 go_wp2
 first|go_end0|(simp only [Exit.inBlock,Exit.then];refine bodyPost_ret (results_none rfl _ _ _) rfl ?_)|refine bodyPost_ret (results_none rfl _ _ _) rfl ?_
 go_wp2
 go_end0
 exact⟨rfl,rfl⟩
end Go.Proofs
