import Derived.Test.YthpoegdjffdojaaGreatDoorULav
import Derived.Handy
set_option linter.all false
set_option maxHeartbeats 4000000
set_option maxRecDepth 100000
namespace Go.Proofs
open Go.RowKit Go.Ev
structure Rc (w:World)(r o c:Nat):Prop where
 vI:Old w r o c
 c0:w.cell? ⟨r,0,none⟩=some (.int .u32 0)
 c1:w.cell? ⟨r,1,none⟩=some (.int .i32 0)
 c3:∃x,w.cell? ⟨r,3,none⟩=some x
 fz:∀k,w.frozen? ⟨r,k,none⟩=false
 ne:o≠r
theorem uO {B:Nat}{w w':World}(h:Below B w w'){a:Addr}(ha:a.block < B):w'.frozen? a=w.frozen? a:=dX (h.block _ ha)
theorem Ci (r o c:Nat)(w:World)(R:Old w r o c)(x3:Value)(h3:w.cell? ⟨r,3,none⟩=some x3)(fz:∀k,w.frozen? ⟨r,k,none⟩=false) :
  Calls Tryz.prog 86 #[.pointer (some ⟨r,0,none⟩)] w fun e w'=>e=.returned (.tuple #[])/\∃w2 b t vp vq,Cr w.heap.size w2 b t vp vq/\Below w.heap.size w w2/\
   w'=(w2.setCell ⟨r,3,none⟩ (.iface 226 (.pointer (some ⟨b,0,none⟩)))).setCell ⟨r,4,none⟩ (.slice none 0 0):=by
 go_enter Tryz.func86,Tryz.ntmps86
 go_wp2_with (go_at_call 97;refine(Ch r o c _ R).mono ?_)
 rintro e w2 ⟨b,t,vp,vq,rfl,hF,hb⟩;have hr:r < w.heap.size:=World.block_lt_of_cell? _ _ h3;have k3:w2.cell? ⟨r,3,none⟩=some x3:=Lib.Below.cellOf hb h3 (wU _);have k4:=(R.below hb).on;have g3:w2.frozen? ⟨r,3,none⟩=false:=(uO (a:=⟨r,3,none⟩) hb hr).trans (fz 3);have g4:w2.frozen? ⟨r,4,none⟩=false:=(uO (a:=⟨r,4,none⟩) hb hr).trans (fz 4)
 go_wp2
 go_end0
 exact⟨rfl,w2,b,t,vp,vq,hF,hb,rfl⟩
def Used (r B:Nat)(w w':World):Prop:=∃b t vp vq,Cr B w' b t vp vq/\w'.cell? ⟨r,3,none⟩=some (.iface 226 (.pointer (some ⟨b,0,none⟩)))/\Below r w w'
theorem Oc {w:World}{r o c k:Nat}{v:Value}(R:Old w r o c)(hne:o≠r)(hk:k≠4):Old (w.setCell ⟨r,k,none⟩ v) r o c:=by
 have oth:∀(j:Nat),(w.setCell ⟨r,k,none⟩ v).cell? ⟨o,j,none⟩=w.cell? ⟨o,j,none⟩:=fun j=>World.cell?_setCell_other _ _ _ _ (iw (H5 hne))
 exact⟨(World.cell?_setCell_other _ _ _ _ (eP hk)).trans R.on,(oth 0).trans R.o0,(oth 1).trans R.o1,(oth 2).trans R.o2,(oth 3).trans R.o3⟩
theorem CZ (r o c:Nat)(w:World)(R:Rc w r o c) :
  Calls Tryz.prog 96 #[.pointer (some ⟨r,0,none⟩),.func (.func 86) #[.pointer (some ⟨r,0,none⟩)] #[]] w fun e w'=>e=.returned (.tuple #[])/\Used r w.heap.size w w':=by
 obtain⟨x3,h3⟩:=R.c3;have h0:=R.c0;have h1:=R.c1;have f0:=R.fz 0;have f1:=R.fz 1;have hr:r < w.heap.size:=World.block_lt_of_cell? _ _ h0;have hl:=run_call_load (P:=Tryz.prog) Tryz.func112 B1 B1 B1 .u32 B1 (w:=w.setCell ⟨r,1,none⟩ (.int .i32 1)) (a:=⟨r,0,none⟩) (x:=0) ((World.cell?_setCell_other _ ⟨r,1,none⟩ ⟨r,0,none⟩ _ (eP B3)).trans h0);have R1:Old (w.setCell ⟨r,1,none⟩ (.int .i32 1)) r o c:=Oc R.vI R.ne B3;have h31:(w.setCell ⟨r,1,none⟩ (.int .i32 1)).cell? ⟨r,3,none⟩=some x3:=(World.cell?_setCell_other _ _ _ _ (eP B3)).trans h3;have fz1:∀k,(w.setCell ⟨r,1,none⟩ (.int .i32 1)).frozen? ⟨r,k,none⟩=false:=fun k=>by rw [World.frozen?_setCell];exact R.fz k
 have hnot:∀(x:Bool) (w:World),(Op.unary .not (.bool x)).run Tryz.prog w=.ok (.bool (!x)) w:=fun _ _=>rfl
 go_enter_defers Tryz.func96,Tryz.ntmps96
 go_wp2_with (go_at_call 113;refine(OP ⟨r,1,none⟩ _ h1 f1).mono ?_;rintro e w' ⟨rfl,rfl⟩)
 go_wp2_with (go_at_call 95;go_in)
 refine(Ci r o c _ R1 x3 h31 fz1).mono ?_;rintro e w' ⟨rfl,w2,b,t,vp,vq,hF,hb,hw'⟩;have sz1:(w.setCell ⟨r,1,none⟩ (.int .i32 1)).heap.size=w.heap.size:=by simp
 rw [sz1] at hF hb;have b0:w2.cell? ⟨r,0,none⟩=some (.int .u32 0):=(bR (hb.block r hr)).trans ((World.cell?_setCell_other _ _ _ _ (eP B3)).trans h0);have b1:w2.cell? ⟨r,1,none⟩=some (.int .i32 1):=(bR (hb.block r hr)).trans (World.cell?_setCell_same _ _ _ h1);have b3:w2.cell? ⟨r,3,none⟩=some x3:=(bR (hb.block r hr)).trans h31;have fz2:∀k,w2.frozen? ⟨r,k,none⟩=false:=fun k=>(dX (hb.block r hr)).trans (fz1 k)
 have c0:w'.cell? ⟨r,0,none⟩=some (.int .u32 0):=by
  rw [hw',World.cell?_setCell_other _ _ _ _ (eP B3),World.cell?_setCell_other _ _ _ _ (eP B3)];exact b0
 have c1:w'.cell? ⟨r,1,none⟩=some (.int .i32 1):=by
  rw [hw',World.cell?_setCell_other _ _ _ _ (eP B3),World.cell?_setCell_other _ _ _ _ (eP B3)];exact b1
 have c3:w'.cell? ⟨r,3,none⟩=some (.iface 226 (.pointer (some ⟨b,0,none⟩))):=by
  rw [hw',World.cell?_setCell_other _ _ _ _ (eP B3)];exact World.cell?_setCell_same _ _ _ b3
 have fz3:∀k,w'.frozen? ⟨r,k,none⟩=false:=fun k=>by rw [hw',World.frozen?_setCell,World.frozen?_setCell];exact fz2 k
 have hF':Cr w.heap.size w' b t vp vq:=hF.km fun j hj=>by
  rw [hw',Below.heap_setCell _ _ _ _ (by show j≠r;omega),Below.heap_setCell _ _ _ _ (by show j≠r;omega)]
 have hB':Below r w w':=by
  rw [hw'];exact((((Below.refl r w).setCell (p:=⟨r,1,none⟩) (wU _) _).trans (hb.mono (O0 hr))).setCell (p:=⟨r,3,none⟩) (wU _) _).setCell (p:=⟨r,4,none⟩) (wU _) _
 clear hw' hF hb b0 b1 b3 fz2 R1 h31 fz1 hl
 go_wp2
 refine leaves_cons (f:=115) (args:=#[.pointer (some ⟨r,0,none⟩),.bool true]) (by simp) (by simp [go_sem]) ?_;refine(Lb ⟨r,0,none⟩ (.int .u32 0) .returning _ c0 (fz3 0)).mono ?_;rintro e u' w'' ⟨rfl,rfl,rfl⟩;refine leaves_cons (f:=114) (args:=#[.pointer (some ⟨r,1,none⟩)]) (by simp [settle]) (by simp [go_sem]) ?_;refine(HH ⟨r,1,none⟩ _ _ ?_ ?_).mono ?_
 ·rw [World.cell?_setCell_other _ _ _ _ (eP B3),World.cell?_drew];exact c1
 ·rw [World.frozen?_setCell];exact fz3 1
 rintro e u' w'' ⟨rfl,rfl,rfl⟩
 have hfin:Used r w.heap.size w ((w'.drew.setCell ⟨r,0,none⟩ (.int .u32 1)).setCell ⟨r,1,none⟩ (.int .i32 0)):=by
  refine⟨b,t,vp,vq,hF'.km fun j hj=>?_,?_,(hB'.drew.setCell (p:=⟨r,0,none⟩) (wU _) _).setCell (p:=⟨r,1,none⟩) (wU _) _⟩
  ·rw [Below.heap_setCell _ _ _ _ (by show j≠r;omega),Below.heap_setCell _ _ _ _ (by show j≠r;omega)];rfl
  ·rw [World.cell?_setCell_other _ _ _ _ (eP B3),World.cell?_setCell_other _ _ _ _ (eP B3),World.cell?_drew];exact c3
 simp [Leaves,settle,results,Tryz.results96];exact hfin
theorem DA (r o c:Nat)(w:World)(R:Rc w r o c) :
  Calls Tryz.prog 85 #[.pointer (some ⟨r,0,none⟩),.func (.func 86) #[.pointer (some ⟨r,0,none⟩)] #[]] w fun e w'=>e=.returned (.tuple #[])/\Used r w.heap.size w w':=by
 have h0:=R.c0;have hl:=run_call_load (P:=Tryz.prog) Tryz.func112 B1 B1 B1 .u32 B1 h0;have hnot:∀(x:Bool) (w:World),(Op.unary .not (.bool x)).run Tryz.prog w=.ok (.bool (!x)) w:=fun _ _=>rfl
 go_enter Tryz.func85,Tryz.ntmps85
 go_wp2_with (first|(go_at_call 96;refine(CZ r o c _ R).mono ?_;rintro e w' ⟨rfl,hU⟩)|(go_at_call 95;go_in))
 go_end0
 exact⟨rfl,hU⟩
theorem vF (s:ByteArray)(hs:s.size<=1048576)(r o c:Nat)(w:World)(R:Rc w r o c) :
  Calls Tryz.prog 71 #[.pointer (some ⟨r,0,none⟩),.string s] w fun e w'=>e=.returned (.string (bA (bH (bs s))))/\Below r w w':=by
 have hr:r < w.heap.size:=World.block_lt_of_cell? _ _ R.c0
 go_enter Tryz.func71,Tryz.ntmps71
 go_wp2_with (go_at_call 85;refine(DA r o c _ R).mono ?_)
 rintro e w' ⟨rfl,b,t,vp,vq,hF,h3,hB⟩
 go_wp2_with (go_at_call 215;refine(Ho s hs b t vp vq _ hF.Sa).mono ?_)
 rintro e w3 ⟨rfl,hb3⟩
 go_wp2
 go_ret
 exact⟨rfl,hB.trans (hb3.mono (by have:=hB.size;omega))⟩
theorem OU (w:World)(A:Array Value)(t1 t2:TypeId)(c:Nat)(h0:A[0]?=some (.string ⟨#[92]⟩))(h1:A[1]?=some (.string ⟨#[92,92]⟩))(h2:A[2]?=some (.string ⟨#[34]⟩))(h3:A[3]?=some (.string ⟨#[92,34]⟩)) :
  Rc ((w.alloc (.cells A t1)).alloc (.cells #[.int .u32 0,.int .i32 0,.int .u32 0,.nilIface,.slice (some ⟨w.heap.size,0,none⟩) 4 c] t2)) (w.heap.size+1) w.heap.size c:=by
 have hs:(w.alloc (.cells A t1)).heap.size=w.heap.size+1:=by simp
 have l1:=heap_alloc_last (w.alloc (.cells A t1)) (.cells #[.int .u32 0,.int .i32 0,.int .u32 0,.nilIface,.slice (some ⟨w.heap.size,0,none⟩) 4 c] t2);rw [hs] at l1
 have l0:((w.alloc (.cells A t1)).alloc (.cells #[.int .u32 0,.int .i32 0,.int .u32 0,.nilIface,.slice (some ⟨w.heap.size,0,none⟩) 4 c] t2)).heap[w.heap.size]?=some (.cells A t1):=by
  rw [heap_alloc_old _ _ (by rw [hs];omega)];exact heap_alloc_last w _
 refine⟨⟨cell_of_row _ _ 4 _ _ _ l1,(cell_of_row _ _ 0 _ _ _ l0).trans h0,(cell_of_row _ _ 1 _ _ _ l0).trans h1,(cell_of_row _ _ 2 _ _ _ l0).trans h2,(cell_of_row _ _ 3 _ _ _ l0).trans h3⟩,cell_of_row _ _ 0 _ _ _ l1,cell_of_row _ _ 1 _ _ _ l1,⟨_,cell_of_row _ _ 3 _ _ _ l1⟩,fun k=>?_,by omega⟩;unfold World.frozen?;rw [l1];show(decide (0<=k) && decide (k < 0))=false;simp
theorem Rc.drew {w:World}{r o c:Nat}(h:Rc w r o c):Rc w.drew r o c:=⟨⟨h.vI.on,h.vI.o0,h.vI.o1,h.vI.o2,h.vI.o3⟩,h.c0,h.c1,h.c3,h.fz,h.ne⟩
theorem yE (q:Nat)(w:World)(q0:w.cell? ⟨q,0,none⟩=some (.string ⟨#[92]⟩))(q1:w.cell? ⟨q,1,none⟩=some (.string ⟨#[92,92]⟩))(q2:w.cell? ⟨q,2,none⟩=some (.string ⟨#[34]⟩))(q3:w.cell? ⟨q,3,none⟩=some (.string ⟨#[92,34]⟩)) :
  Calls Tryz.prog 70 #[.slice (some ⟨q,0,none⟩) 4 4] w fun e w'=>∃r o c,e=.returned (.pointer (some ⟨r,0,none⟩))/\Rc w' r o c/\Below w.heap.size w w'/\w.heap.size<=r:=by
 go_enter Tryz.func70,Tryz.ntmps70
 go_wp2
 go_ret
 exact⟨_,_,_,rfl,(OU w _ _ _ _ (by rw [I0 (by simp)];rfl) (by rw [I0 (by simp)];rfl) (by rw [I0 (by simp)];rfl) (by rw [I0 (by simp)];rfl)).drew,(((Below.refl _ w).alloc (wU _) _).alloc (by simp) _).drew,Nat.le_succ _⟩
theorem wP : ∀l:List UInt8,0<=Lib.indexByte l 10↔l.any (fun b=>decide (b.toNat=10))=true
 | []=>by
  constructor
  ·intro h;exact absurd h B3
  ·intro h;cases h
 |b :: l=>by
  have ih:=wP l;have hg:=Lib.indexByte_ge l 10;rw [List.any_cons,M7,E5,<- ih,Lib.indexByte];by_cases h:b=10
  ·subst h;constructor
   ·intro _;exact Or.inl rfl
   ·intro _;rw [if_pos (by rfl)];exact Int.le_refl _
  ·have hn:¬b.toNat=10:=fun q=>h (I3.1 q)
   rw [if_neg (by simpa using h)];split
   ·rename_i h1;have h1':Lib.indexByte l 10 = -1:=by simpa using h1
    rw [h1'];constructor
    ·intro q;exact absurd q B3
    ·rintro(q|q)
     ·exact absurd q hn
     ·exact absurd q B3
   ·rename_i h1;have h1':¬Lib.indexByte l 10 = -1:=by simpa using h1
    constructor
    ·intro _;right;omega
    ·intro _;omega
theorem Bu (s:ByteArray):0<=Lib.indexByte s.data.toList 10↔IM s=true:=wP _
theorem Bd (s:ByteArray)(hs:s.size<=1048576)(w:World) :
  Calls Tryz.prog 48 #[.string s] w fun e w'=>e=.returned (.string (rQ s))/\Below w.heap.size w w':=by
 have hix:∀w,Calls Tryz.prog 69 #[.string s,.int .u8 10] w fun e w'=>e=.returned (.int .i64 (Lib.indexByte s.data.toList 10))/\w'=w:=fun w=>Tryz.strings_IndexByte s 10 w
 by_cases h:0<=Lib.indexByte s.data.toList 10
 ·have hn:=(Bu s).mp h
  go_enter Tryz.func48,Tryz.ntmps48
  go_wp2_with (go_at_call 69;refine(hix _).mono ?_;rintro e w' ⟨rfl,rfl⟩)
  go_ret
  exact⟨by unfold rQ;rw [if_pos hn];rfl,Below.refl _ _⟩
 ·have hn:¬IM s=true:=fun q=>h ((Bu s).mpr q)
  have hZ:(bA (bH (bs s))).size<=2097152:=by
   have h1:=sD (bs s);have h2:=sE (bs s);rw [aU] at h1 h2;rw [rI];omega
  have z1:¬9223372036854775807 < 1+(bA (bH (bs s))).size:=by omega
  have z2:¬9223372036854775807 < 1+(bA (bH (bs s))).size+1:=by omega
  have z3:¬9223372036854775807 < ((⟨#[34]⟩:ByteArray) ++ bA (bH (bs s))).size+1:=by rw [B8];show ¬9223372036854775807 < 1+(bA (bH (bs s))).size+1;omega
  go_enter Tryz.func48,Tryz.ntmps48
  go_wp2_with (go_at_call 69;refine(hix _).mono ?_;rintro e w' ⟨rfl,hw⟩;have hw2:w=w':=hw.symm;clear hw;subst hw2)
  have hl:=heap_alloc_last w (.cells #[.string ⟨#[92]⟩,.string ⟨#[92,92]⟩,.string ⟨#[34]⟩,.string ⟨#[92,34]⟩] 9);refine(yE w.heap.size _ (cell_of_row _ _ 0 _ _ _ hl) (cell_of_row _ _ 1 _ _ _ hl) (cell_of_row _ _ 2 _ _ _ hl) (cell_of_row _ _ 3 _ _ _ hl)).mono ?_;rintro e w2 ⟨r,o,c,rfl,R,hB,hr⟩;have hs1:(w.alloc (.cells #[.string ⟨#[92]⟩,.string ⟨#[92,92]⟩,.string ⟨#[34]⟩,.string ⟨#[92,34]⟩] 9)).heap.size=w.heap.size+1:=by simp
  have h1:=(Below.refl w.heap.size w).alloc (wU _) (.cells #[.string ⟨#[92]⟩,.string ⟨#[92,92]⟩,.string ⟨#[34]⟩,.string ⟨#[92,34]⟩] 9);have h2:=h1.trans (hB.mono A8);clear hl hB h1
  go_wp2_with (go_at_call 71;refine(vF s hs r o c _ R).mono ?_;rintro e w3 ⟨rfl,hB3⟩)
  go_ret
  refine⟨?_,h2.trans (hB3.mono A8)⟩;unfold rQ;rw [if_neg hn];unfold lX;rw [<- Gy,<- Gy];rfl
end Go.Proofs
namespace Go.Ev
open Go.Proofs
theorem Dm {S:dS}{l:List Value}{args:Array Value}(h:Reads S (l.map T.af) args):args=l.toArray:=by
 obtain⟨h1,h2⟩:=h;rw [List.length_map] at h1;refine Array.ext (by simpa using h1) fun i h3 h4=>?_
 have hl:i < l.length:=by omega
 have:=h2 i (.af l[i]) args[i] (by rw [Zf,uz hl];rfl) (by rw [E3 h3]);generalize args[i]=x at this;cases this
 simp
theorem HJ {P:Program}{q:FuncId}{l:List Value}{f:Bool}{v:Value}{t:T}(hq:jo P q)(hr:∀S,gD S t v)
  (h:∀(w:World),Calls P q l.toArray w fun e w'=>e=.returned v/\RowKit.Below w.heap.size w w'):Ok P q (l.map T.af) f t:=by
 refine⟨hq,fun S w args hS hgl hargs=>?_⟩;rw [Dm hargs];refine(h w).mono fun e w' he=>?_
 obtain⟨rfl,hb⟩:=he;exact⟨v,fun _ _=>none,rfl,hb,(fun _ _ _ hc=>by cases hc),hr _⟩
theorem KD (s:ByteArray)(hs:s.size<=1048576):Ok Tryz.prog 48 [gG s] true (.af (.string (rQ s))):=
 HJ (l:=[.string s]) ⟨_,Tryz.func48,rfl,rfl⟩ (fun S=>.af _ rfl) (fun w=>Bd s hs w)
variable {W : fA}
theorem FA (σ:PS W):pO σ=dz W σ.at_ σ.bad σ.bu:=rfl
theorem gQ (σ:PS W)(k:Int)(w:ByteArray):jP Tryz.prog 30 (pO σ) [] [.ref 0 0 0 0,.af (.int .i8 k),.af (.string w)] (pO σ.settle) (.af (.bool (σ.du k w))):=by
 have hlk:=kP σ
 cases ht:σ.tok with
 |none=>
  rw [pA ht];rw [ht] at hlk;rw [yu ht] at hlk |-;unfold pO at hlk |-;refine bd bN mix 1 (zO rfl) Tryz.func30 rfl rfl B1 B1 (zO rfl) ?vs ?_
  case vs=>exact IP (IP pQ)
  repeat'(first|(with_reducible first|(refine zz ?_;try intro K hK)|refine zi ?_|refine zh ?_)|((first|apply hK _ _ rfl|apply hK);clear hK K)|(guard_hyp hK;first|refine zx ?_|apply ab|apply aa|refine zW ?_|refine zp 0 (hlk) ?_|intro b0 hb)|((first|refine zj ?_|guard_hyp hK);refine zY ?_ ?_;all_goals(intro hb;(try simp only [sn,sb] at hb);try exact ao)))
  all_goals exact oZ rfl rfl rfl rfl B3 rfl
 |some t=>
  rw [ht,PS.az ht] at hlk;rw [PS.az ht,<- SG ht];rw [bF ht] at hlk |-;refine bd bN mix 1 (zO rfl) Tryz.func30 rfl rfl B1 B1 (zO rfl) ?vs ?_
  case vs=>exact IP (IP pQ)
  repeat'(first|(with_reducible first|(refine zz ?_;try intro K hK)|refine zi ?_|refine zh ?_)|((first|apply hK _ _ rfl|apply hK);clear hK K)|(guard_hyp hK;first|refine zx ?_|apply ab|apply aa|refine zW ?_|refine zp 0 (hlk) ?_|intro b0 hb)|((first|refine zj ?_|guard_hyp hK);refine zY ?_ ?_;all_goals(intro hb;(try simp only [sn,sb] at hb);try exact ao)))
  ·exact oZ rfl rfl (by rw [F9 hb,L5]) rfl B3 rfl
  ·exact oZ rfl rfl (by rw [G4 hb,Y6]) rfl B3 rfl
def PS.TE (w:ByteArray)(σ:PS W):PS W:=if σ.du 4 w=true then σ.aK else σ.settle
theorem ij (σ:PS W)(w:ByteArray)(hL:W.L.length<=1073741824):jP Tryz.prog 58 (pO σ) [] [.ref 0 0 0 0,.af (.string w)] (pO (σ.TE w)) (.af (.bool (σ.du 4 w))):=by
 have hcm:=gQ σ 4 w;unfold PS.TE
 cases hB:σ.du 4 w with
 |true=>
  obtain⟨t,ht,hk,-⟩:=PS.cj hB;have hlt:=(PS.aX ht).2.2;rw [if_pos rfl,eL ht (by rw [hk];decide)];rw [hB,PS.az ht] at hcm;rw [bF ht] at hcm |-;refine bd bN mix 1 (zO rfl) Tryz.func58 rfl rfl B1 B1 (zO rfl) ?vs ?_
  case vs=>exact IP pQ
  repeat'(first|(with_reducible first|(refine zz ?_;try intro K hK)|refine zi ?_|refine zh ?_)|((first|apply hK _ _ rfl|apply hK);clear hK K)|(guard_hyp hK;first|refine zx ?_|apply ab|apply aa|refine zW ?_|refine zp 0 (hcm) ?_|intro b0 hb)|((first|refine zj ?_|guard_hyp hK);refine zY ?_ ?_;all_goals(intro hb;(try simp only [sn,sb] at hb);try exact ao)))
  all_goals exact oZ rfl rfl rfl rfl B3 rfl
 |false=>
  rw [if_neg B6];rw [hB] at hcm;unfold pO at hcm |-;refine bd bN mix 1 (zO rfl) Tryz.func58 rfl rfl B1 B1 (zO rfl) ?vs ?_
  case vs=>exact IP pQ
  repeat'(first|(with_reducible first|(refine zz ?_;try intro K hK)|refine zi ?_|refine zh ?_)|((first|apply hK _ _ rfl|apply hK);clear hK K)|(guard_hyp hK;first|refine zx ?_|apply ab|apply aa|refine zW ?_|refine zp 0 (hcm) ?_|intro b0 hb)|((first|refine zj ?_|guard_hyp hK);refine zY ?_ ?_;all_goals(intro hb;(try simp only [sn,sb] at hb);try exact ao)))
  all_goals exact oZ rfl rfl rfl rfl B3 rfl
theorem YV (σ:PS W)(k:Int)(hk:0 < k)(hL:W.L.length<=1073741824):jP Tryz.prog 54 (pO σ) [] [.ref 0 0 0 0,.af (.int .i8 k)] (pO (PS.take k σ).2) (.af (.string (PS.take k σ).1)):=by
 have hlk:=kP σ;have hfl:=iV σ.settle 30 B3;rw [dO] at hfl
 cases ht:σ.tok with
 |none=>
  rw [kD ht] at hfl;rw [ht] at hlk;rw [show PS.take k σ=(eS,σ.settle) from by unfold PS.take;rw [ht];rfl];unfold pO at hlk hfl |-;refine bd bN mix 1 (zO rfl) Tryz.func54 rfl rfl B1 B1 (zO rfl) ?vs ?_
  case vs=>exact IP pQ
  repeat'(first|(with_reducible first|(refine zz ?_;try intro K hK)|refine zi ?_|refine zh ?_)|((first|apply hK _ _ rfl|apply hK);clear hK K)|(guard_hyp hK;first|refine zx ?_|apply ab|apply aa|refine zW ?_|refine zp 0 (hlk) ?_|refine zp 0 (hfl) ?_|intro b0 hb)|((first|refine zj ?_|guard_hyp hK);refine zY ?_ ?_;all_goals(intro hb;(try simp only [sn,sb] at hb);try exact ao)))
  all_goals exact jy rfl rfl ⟨_,.inl rfl⟩ rfl B3 rfl
 |some t=>
  have hlt:=(PS.aX ht).2.2;rw [ht,PS.az ht] at hlk;rw [PS.az ht] at hfl;by_cases hkk:t.kind=k
  ·rw [show PS.take k σ=(t.text,σ.aK) from by unfold PS.take;rw [ht];exact if_pos hkk,eL ht (by rw [hkk];omega)];rw [bF ht] at hlk |-;refine bd bN mix 1 (zO rfl) Tryz.func54 rfl rfl B1 B1 (zO rfl) ?vs ?_
   case vs=>exact IP pQ
   repeat'(first|(with_reducible first|(refine zz ?_;try intro K hK)|refine zi ?_|refine zh ?_)|((first|apply hK _ _ rfl|apply hK);clear hK K)|(guard_hyp hK;first|refine zx ?_|apply ab|apply aa|refine zW ?_|refine zp 0 (hlk) ?_|intro b0 hb)|((first|refine zj ?_|guard_hyp hK);refine zY ?_ ?_;all_goals(intro hb;(try simp only [sn,sb] at hb);try exact ao)))
   all_goals exact jy rfl rfl ⟨_,.inl rfl⟩ rfl B3 rfl
  ·rw [show PS.take k σ=(eS,σ.bZ 30) from by unfold PS.take;rw [ht];exact if_neg hkk];unfold pO at hlk hfl |-;refine bd bN mix 1 (zO rfl) Tryz.func54 rfl rfl B1 B1 (zO rfl) ?vs ?_
   case vs=>exact IP pQ
   repeat'(first|(with_reducible first|(refine zz ?_;try intro K hK)|refine zi ?_|refine zh ?_)|((first|apply hK _ _ rfl|apply hK);clear hK K)|(guard_hyp hK;first|refine zx ?_|apply ab|apply aa|refine zW ?_|refine zp 0 (hlk) ?_|refine zp 0 (hfl) ?_|intro b0 hb)|((first|refine zj ?_|guard_hyp hK);refine zY ?_ ?_;all_goals(intro hb;(try simp only [sn,sb] at hb);try exact ao)))
   all_goals exact jy rfl rfl ⟨_,.inl rfl⟩ rfl B3 rfl
theorem mc (σ:PS W)(hL:W.L.length<=1073741824):jP Tryz.prog 28 (pO σ) [] [.ref 0 0 0 0] (pO (PS.take 1 σ).2) (.af (.string (PS.take 1 σ).1)):=by
 have h:=YV σ 1 B3 hL;unfold pO at h |-;refine bd bN mix 1 (zO rfl) Tryz.func28 rfl rfl B1 B1 (zO rfl) ?vs ?_
 case vs=>exact pQ
 repeat'(first|(with_reducible first|(refine zz ?_;try intro K hK)|refine zi ?_|refine zh ?_)|((first|apply hK _ _ rfl|apply hK);clear hK K)|(guard_hyp hK;first|refine zx ?_|apply ab|apply aa|refine zW ?_|refine zp 0 (h) ?_|intro b0 hb)|((first|refine zj ?_|guard_hyp hK);refine zY ?_ ?_;all_goals(intro hb;(try simp only [sn,sb] at hb);try exact ao)))
 all_goals exact jy rfl rfl ⟨_,.inl rfl⟩ rfl B3 rfl
def Xq : Option dy->V
 |none=>.af .nilIface
 |some f=>.ro false (.jq 87 (.ptr (rF f)))
theorem xF (b:Option dy):(Xq b).kx:=by
 cases b with
 |none=>exact⟨_,.inl rfl⟩
 |some f=>exact⟨default,.inr ⟨_,_,rfl⟩⟩
theorem ub (σ:PS W):jP Tryz.prog 33 (pO σ) [] [.ref 0 0 0 0] (pO σ.fin) (Xq σ.fin.bad):=by
 have hlk:=kP σ;have hfl:=iV σ.settle 30 B3;rw [dO] at hfl
 cases ht:σ.tok with
 |none=>
  have hb:=PS.jc ht;rw [ht] at hlk;rw [show PS.fin σ=σ.settle from by unfold PS.fin;rw [ht]];unfold pO at hlk hfl |-;generalize σ.settle=τ at *
  cases hbb:τ.bad with
  |none=>exact absurd hbb hb
  |some f=>
   rw [hbb] at hlk;refine bd bN mix 1 (zO rfl) Tryz.func33 rfl rfl B1 B1 (zO rfl) ?vs ?_
   case vs=>exact pQ
   repeat'(first|(with_reducible first|(refine zz ?_;try intro K hK)|refine zi ?_|refine zh ?_)|((first|apply hK _ _ rfl|apply hK);clear hK K)|(guard_hyp hK;first|refine zx ?_|apply ab|apply aa|refine zW ?_|refine zp 0 (hlk) ?_|intro b0 hb)|((first|refine zj ?_|guard_hyp hK);refine zY ?_ ?_;all_goals(intro hb;(try simp only [sn,sb] at hb);try exact ao)))
   all_goals exact jy rfl rfl (xF (some f)) rfl B3 rfl
 |some t=>
  rw [ht,PS.az ht] at hlk;rw [PS.az ht] at hfl;by_cases hkk:t.kind=0
  ·rw [show PS.fin σ=σ from by unfold PS.fin;rw [ht];exact if_pos hkk];rw [(PS.aX ht).1];rw [bF ht] at hlk |-;refine bd bN mix 1 (zO rfl) Tryz.func33 rfl rfl B1 B1 (zO rfl) ?vs ?_
   case vs=>exact pQ
   repeat'(first|(with_reducible first|(refine zz ?_;try intro K hK)|refine zi ?_|refine zh ?_)|((first|apply hK _ _ rfl|apply hK);clear hK K)|(guard_hyp hK;first|refine zx ?_|apply ab|apply aa|refine zW ?_|refine zp 0 (hlk) ?_|intro b0 hb)|((first|refine zj ?_|guard_hyp hK);refine zY ?_ ?_;all_goals(intro hb;(try simp only [sn,sb] at hb);try exact ao)))
   all_goals exact jy rfl rfl (xF none) rfl B3 rfl
  ·rw [show PS.fin σ=σ.bZ 30 from by unfold PS.fin;rw [ht];exact if_neg hkk];rw [show(σ.bZ 30).bad=some ⟨30,t.line,t.Ae,t.text⟩ from by unfold PS.bZ;rw [(PS.aX ht).1,(PS.aX ht).2.1]];rw [Bo ht] at hfl |-;unfold pO at hlk hfl |-;refine bd bN mix 1 (zO rfl) Tryz.func33 rfl rfl B1 B1 (zO rfl) ?vs ?_
   case vs=>exact pQ
   repeat'(first|(with_reducible first|(refine zz ?_;try intro K hK)|refine zi ?_|refine zh ?_)|((first|apply hK _ _ rfl|apply hK);clear hK K)|(guard_hyp hK;first|refine zx ?_|apply ab|apply aa|refine zW ?_|refine zp 0 (hlk) ?_|refine zp 0 (hfl) ?_|intro b0 hb)|((first|refine zj ?_|guard_hyp hK);refine zY ?_ ?_;all_goals(intro hb;(try simp only [sn,sb] at hb);try exact ao)))
   all_goals exact jy rfl rfl (xF (some ⟨30,t.line,t.Ae,t.text⟩)) rfl B3 rfl
end Go.Ev
namespace Go.Ev
open Go.Proofs
variable {W : fA}
def PS.eO (ws:List (Int×ByteArray))(σ:PS W):PS W:=ws.foldl (fun τ p=>PS.aO p.1 p.2 τ) σ
theorem wQ {σ:PS W}(h:σ.bad≠none):∀ws:List (Int×ByteArray),σ.eO ws=σ
 | []=>rfl
 |p :: r=>by
  show(PS.aO p.1 p.2 σ).eO r=σ;rw [(PS.aJ p.1 p.2 σ).NL h];exact wQ h r
def dK (W:fA)(p:Int×ByteArray):Prop:=(p.1=1\/p.1=4)/\∀t ∈ W.L,t.text=p.2->t.kind=1\/t.kind=4->t.kind=p.1
def EK (ws:List (Int×ByteArray)):Obj:=⟨1,ws.map fun p=>vS p.2,0,true⟩
def nO (W:fA)(a:Nat)(b:Option dy)(n:Nat)(ws:List (Int×ByteArray)):OH:=[(0,dE W a b n),(1,EK ws)]
theorem jQ (ws:List (Int×ByteArray)):∀e ∈ (EK ws).el,e.flat:=by
 intro e he;obtain⟨p,-,rfl⟩:=D4.1 he;trivial
theorem yH {a:Nat}{b:Option dy}{n:Nat}{ws:List (Int×ByteArray)}{i:Nat}{o:Obj}(h:ae (nO W a b n ws) i=some o):(i=0/\o=dE W a b n)\/(i=1/\o=EK ws):=by
 by_cases h0:i=0
 ·subst h0;exact .inl ⟨rfl,(C6 h).symm⟩
 ·by_cases h1:i=1
  ·subst h1;exact .inr ⟨rfl,(C6 h).symm⟩
  ·rw [nO,ae,if_neg (H5 h0),ae,if_neg (H5 h1)] at h;cases h
theorem uy {a a':Nat}{b b':Option dy}{n n':Nat}{ws:List (Int×ByteArray)}{i:Nat}{o:Obj}(h:ae (dz W a' b' n' ++ nO W a b n ws) i=some o):(i=0/\o=dE W a' b' n')\/(i=1/\o=EK ws):=by
 by_cases h0:i=0
 ·subst h0;exact .inl ⟨rfl,(C6 h).symm⟩
 ·have:ae (nO W a b n ws) i=some o:=by
   rw [<- h];show _=ae ((0,_) :: nO W a b n ws) i;rw [ae,if_neg (H5 h0)]
  rcases yH this with⟨e,-⟩|h9
  ·exact absurd e h0
  ·exact .inr h9
theorem Lo {P:Program}{fn:Func}{s:St}{a a':Nat}{b b':Option dy}{n n' np:Nat}{ws:List (Int×ByteArray)}{x:X}(hx:match x with|.exit _=>False|_=>True)(hr:fn.results.toList=[])(hs:ae s.oh 0=some (dE W a' b' n'))(h1:ae s.oh 1=some (EK ws))(hnp:1 < np)(he:aA s.env 0=.ref 0 0 0 0)(he1:aA s.env 1=.own 1 0 0 ws.length)(hw:0 < ws.length) :
  iR P fn np (nO W a b n ws) [.ref 0 0 0 0,.own 1 0 0 ws.length] (dz W a' b' n') (.ba []) x s:=by
 refine⟨hx,false,s,rfl,fun i o o' g1 g2 g3=>?_,fun i o h=>?_,?_⟩
 ·rcases yH g1 with⟨rfl,rfl⟩|⟨rfl,rfl⟩
  ·exact⟨D0 _,⟨_,hs,rfl,rfl,rfl⟩,0,_,by omega,rfl,he,⟨rfl,rfl⟩⟩
  ·exact⟨D0 _,⟨_,h1,rfl,rfl,rfl⟩,1,_,hnp,rfl,he1,⟨rfl,rfl,hw⟩⟩
 ·rcases uy h with⟨rfl,rfl⟩|⟨rfl,rfl⟩
  ·refine⟨_,hs,rfl,rfl,rfl,rfl,fun k e e1 g1 g2=>?_⟩;rw [g1] at g2;obtain rfl:e=e1:=by simpa using g2
   exact jk (aW _ _ _ e (MH g1))
  ·refine⟨_,h1,rfl,rfl,rfl,rfl,fun k e e1 g1 g2=>?_⟩;rw [g1] at g2;obtain rfl:e=e1:=by simpa using g2
   exact jk (jQ _ e (MH g1))
 ·rw [hr]
theorem DJ {ws:List (Int×ByteArray)}{i:Nat}{p:Int×ByteArray}(h:ws[i]?=some p)(σ:PS W):PS.eO (ws.drop i) σ=PS.eO (ws.drop (i+1)) (PS.aO p.1 p.2 σ):=by
 obtain⟨hl,e⟩:=yK.1 h;rw [F7 hl,e];rfl
def NV (N:Nat)(ws:List (Int×ByteArray))(z:Nat×PS W):St:=⟨N,[(0,.ref 0 0 0 0),(1,.own 1 0 0 ws.length),(6,.own 1 0 0 ws.length),(7,.af (.int .i64 ws.length)),(8,.af (.int .i64 z.1))],[(0,dE W z.2.at_ z.2.bad z.2.bu),(1,EK ws)]⟩
theorem Xd {ws:List (Int×ByteArray)}{i:Nat}{p:Int×ByteArray}(h:ws[i]?=some p):(ws.map fun p=>vS p.2)[0+i]?=some (.af (.string p.2)):=by
 rw [C2,Zf,h];rfl
theorem cY (ws:List (Int×ByteArray))(σ:PS W)(hL:W.L.length<=1073741824)(hw:0 < ws.length)(hn:ws.length<=1024)(hk:∀p ∈ ws,dK W p):jP Tryz.prog 27 (nO W σ.at_ σ.bad σ.bu ws) [] [.ref 0 0 0 0,.own 1 0 0 ws.length] (pO (σ.eO ws)) (.ba []):=by
 unfold pO;refine di bN mix 2 (zO rfl) Tryz.func27 rfl rfl B1 B1 (zO rfl) ?wf ?vs ?po ?le ?_
 case wf=>
  intro i o h;rcases yH h with⟨rfl,rfl⟩|⟨rfl,rfl⟩
  ·exact⟨rfl,rfl,fZ _⟩
  ·exact⟨rfl,rfl,fun v hv=>(jQ ws v hv).cl _⟩
 case vs=>exact xH rfl rfl
 case po=>
  intro i o h;obtain⟨rfl,rfl⟩:=aR h;exact .inl rfl
 case le=>
  intro i o o' h1 h2 h3 h4;rcases yH h1 with⟨rfl,rfl⟩|⟨rfl,rfl⟩
  ·rcases uy h2 with⟨-,rfl⟩|⟨e,-⟩
   ·exact⟨rfl,wU _⟩
   ·cases e
  ·rcases uy h2 with⟨e,-⟩|⟨-,rfl⟩
   ·cases e
   ·exact⟨rfl,wU _⟩
 repeat'(first|(with_reducible first|(refine zz ?_;try intro K hK)|refine zi ?_|refine zh ?_)|((first|apply hK _ _ rfl|apply hK);clear hK K)|(guard_hyp hK;first|refine zx ?_|apply ab|apply aa|refine zW ?_|intro b0 hb)|((first|refine zj ?_|guard_hyp hK);refine zY ?_ ?_;all_goals(intro hb;(try simp only [sn,sb] at hb);try exact ao)))
 refine aT (Nat×PS W) (NV Tryz.f27.ntmps ws) (fun z=>z.1<=ws.length/\PS.eO (ws.drop z.1) z.2=σ.eO ws) (fun z=>ws.length - z.1) [] (0,σ) trivial ⟨C0 _,rfl⟩ ⟨rfl,⟨rfl,rfl,rfl,rfl,rfl,rfl,rfl,trivial,rfl,trivial,trivial⟩,⟨rfl,rfl,trivial⟩,⟨fZ _,fun v hv=>(jQ ws v hv).cl _,trivial⟩⟩ ?_;rintro⟨i,τ⟩ ⟨h0,h1⟩;dsimp only at h0 h1;unfold NV;dsimp only;by_cases hlt:i < ws.length
 ·obtain⟨p,hp⟩:∃p,ws[i]?=some p:=⟨_,uz hlt⟩
  have hpm:=MH hp;obtain⟨hk0,hk1⟩:=hk p hpm;rw [DJ hp] at h1;have hat:=Xd hp;have ca:=gQ τ 4 p.2;have cb:=gQ τ.settle 1 p.2;rw [dw,sJ] at cb;by_cases hB:τ.du p.1 p.2=true
  ·obtain⟨t,ht,hkk,htx⟩:=PS.cj hB;have hlt2:=(PS.aX ht).2.2;rw [show PS.aO p.1 p.2 τ=τ.aK from if_pos hB] at h1;have hav:=PS.dx ht (by rw [hkk];omega);have fin:Le (NV (W:=W) Tryz.f27.ntmps ws (i+1,τ.aK)) (NV Tryz.f27.ntmps ws (i+1,τ.aK)):=⟨rfl,⟨rfl,rfl,rfl,rfl,rfl,rfl,rfl,trivial,rfl,trivial,trivial⟩,⟨rfl,rfl,trivial⟩,⟨fZ _,fun v hv=>(jQ ws v hv).cl _,trivial⟩⟩
   rw [PS.az ht,bF ht] at ca cb;rw [(PS.aX ht).1];rcases hk0 with hk0|hk0
   ·have e4:τ.du 4 p.2=false:=by
     unfold PS.du;rw [ht];exact G4 fun h=>by have:=h.1;omega
    rw [e4] at ca;rw [hk0] at hB;rw [hB] at cb
    repeat'(first|(refine Sk _ (UO hat ?_))|(with_reducible first|(refine zz ?_;try intro K hK)|refine zi ?_|refine zh ?_)|((first|apply hK _ _ rfl|apply hK);clear hK K)|(guard_hyp hK;first|refine zx ?_|apply ab|apply aa|refine zW ?_|refine zp 0 (ca) ?_|refine zp 0 (cb) ?_|intro b0 hb)|((first|refine zj ?_|guard_hyp hK);refine zY ?_ ?_;all_goals(intro hb;(try simp only [sn,sb] at hb);try exact ao)))
    refine⟨(i+1,τ.aK),⟨hlt,h1⟩,by dsimp only;omega,rfl,⟨rfl,rfl,rfl,rfl,rfl,rfl,rfl,trivial,rfl,trivial,trivial⟩,⟨?_,rfl,trivial⟩,⟨fZ _,fun v hv=>(jQ ws v hv).cl _,trivial⟩⟩;dsimp only;rw [hav.1,hav.2.1,hav.2.2];rfl
   ·rw [hk0] at hB;rw [hB] at ca
    repeat'(first|(refine Sk _ (UO hat ?_))|(with_reducible first|(refine zz ?_;try intro K hK)|refine zi ?_|refine zh ?_)|((first|apply hK _ _ rfl|apply hK);clear hK K)|(guard_hyp hK;first|refine zx ?_|apply ab|apply aa|refine zW ?_|refine zp 0 (ca) ?_|intro b0 hb)|((first|refine zj ?_|guard_hyp hK);refine zY ?_ ?_;all_goals(intro hb;(try simp only [sn,sb] at hb);try exact ao)))
    refine⟨(i+1,τ.aK),⟨hlt,h1⟩,by dsimp only;omega,rfl,⟨rfl,rfl,rfl,rfl,rfl,rfl,rfl,trivial,rfl,trivial,trivial⟩,⟨?_,rfl,trivial⟩,⟨fZ _,fun v hv=>(jQ ws v hv).cl _,trivial⟩⟩;dsimp only;rw [hav.1,hav.2.1,hav.2.2];rfl
  ·have e:∀k,k=1\/k=4->τ.du k p.2=false:=by
    intro k hk2
    cases hB2:τ.du k p.2 with
    |false=>rfl
    |true=>
     obtain⟨t,ht,hkk,htx⟩:=PS.cj hB2;have:=hk1 t (MH (PS.aX ht).2.1) htx A8;refine absurd ?_ hB;rw [<- this,hkk];exact hB2
   have hfl:=iV τ.settle 30 B3;rw [dO] at hfl;rw [e 4 (.inr rfl)] at ca;rw [e 1 (.inl rfl)] at cb;rw [show PS.aO p.1 p.2 τ=τ.bZ 30 from if_neg hB,wQ (PS.vX τ 30)] at h1;rw [<- h1];unfold pO at ca cb hfl
   repeat'(first|(refine Sk _ (UO hat ?_))|(with_reducible first|(refine zz ?_;try intro K hK)|refine zi ?_|refine zh ?_)|((first|apply hK _ _ rfl|apply hK);clear hK K)|(guard_hyp hK;first|refine zx ?_|apply ab|apply aa|refine zW ?_|refine zp 0 (ca) ?_|refine zp 0 (cb) ?_|refine zp 0 (hfl) ?_|intro b0 hb)|((first|refine zj ?_|guard_hyp hK);refine zY ?_ ?_;all_goals(intro hb;(try simp only [sn,sb] at hb);try exact ao)))
   all_goals exact Lo trivial rfl rfl rfl B3 rfl rfl hw
 ·obtain rfl:i=ws.length:=by omega
  rw [I7 (wU _)] at h1;have h1:τ=σ.eO ws:=h1;subst h1
  repeat'(first|(with_reducible first|(refine zz ?_;try intro K hK)|refine zi ?_|refine zh ?_)|((first|apply hK _ _ rfl|apply hK);clear hK K)|(guard_hyp hK;first|refine zx ?_|apply ab|apply aa|refine zW ?_|intro b0 hb)|((first|refine zj ?_|guard_hyp hK);refine zY ?_ ?_;all_goals(intro hb;(try simp only [sn,sb] at hb);try exact ao)))
  all_goals exact Lo trivial rfl rfl rfl B3 rfl rfl hw
theorem bY {C:CT}{q:FuncId}{args:List V}{oh:OH}{a a':Nat}{b b':Option dy}{n n':Nat}{k:Acc->Prop}(ws:List (Int×ByteArray))(id id1:Nat)(hc:C q [] (.gen (nO W a b n ws) [] [.ref 0 0 0 0,.own 1 0 0 ws.length] (dz W a' b' n') (.ba [])))
  (ha:args=[.ref id 0 0 0,.own id1 0 0 ws.length]) (hp:ae oh id=some (dE W a b n)) (hp1:ae oh id1=some (EK ws)) (hne:id≠id1)
  (hk:k ⟨[(id,dE W a b n),(id1,EK ws)],[],[(id,dE W a' b' n')],.ba []⟩):oH C q args oh k:=by
 have ew:(EK ws).rn (qR [(0,id,0),(1,id1,0)]) (Ac [(0,id,0),(1,id1,0)]) 1=EK ws:=by
  show Obj.mk 1 ((ws.map fun p=>vS p.2).map _) 0 true=EK ws;rw [Di (F:=fun p:Int×ByteArray=>vS p.2) (fun _=>rfl)];rfl
 have ep:∀a b n,(dE W a b n).rn (qR [(0,id,0),(1,id1,0)]) (Ac [(0,id,0),(1,id1,0)]) 0=dE W a b n:=by
  intro a b n;show Obj.mk 5 [(KS W a b n).oI _ _] 0 true=_;rw [oX _ _ (je a b n)];rfl
 refine⟨_,_,_,_,_,qR [(0,id,0),(1,id1,0)],Ac [(0,id,0),(1,id1,0)],hc,by rw [ha];rfl,fun p hp'=>?_,fun i hi=>by simp at hi,fun i hi j hj hij=>?_,?_⟩
 ·rcases B5.1 hp' with rfl|hp'
  ·show ae oh id=some ((dE W a b n).rn _ _ 0);rw [ep];exact hp
  ·obtain rfl:=HQ.1 hp';show ae oh id1=some ((EK ws).rn _ _ 1);rw [ew];exact hp1
 ·have hi:i=0\/i=1:=by simpa [nO] using hi
  have hj:j=0\/j=1:=by simpa [nO] using hj
  rcases hi with rfl|rfl<;>rcases hj with rfl|rfl
  ·rfl
  ·exact absurd hij hne
  ·exact absurd hij.symm hne
  ·rfl
 ·have e1:pN (qR [(0,id,0),(1,id1,0)]) (Ac [(0,id,0),(1,id1,0)]) (nO W a b n ws)=[(id,dE W a b n),(id1,EK ws)]:=by
   show [(id,(dE W a b n).rn _ _ 0),(id1,(EK ws).rn _ _ 1)]=_;rw [ep,ew]
  have e2:pN (qR [(0,id,0),(1,id1,0)]) (Ac [(0,id,0),(1,id1,0)]) (dz W a' b' n')=[(id,dE W a' b' n')]:=by
   show [(id,(dE W a' b' n').rn _ _ 0)]=_;rw [ep]
  rw [e1,e2];exact hk
end Go.Ev
