import Derived.Lib.SlBuf
import Derived.Deep.OwnRows
import Derived.Deep.Cut
import Derived.WalkSpells
import Derived.Test.YthpoegdjffdojaaGreatDoorULap
set_option linter.all false
set_option maxHeartbeats 60000000
set_option maxRecDepth 100000
namespace Go.Ev
theorem zb : ∀a b:List UInt8,bH (a ++ b)=bH a ++ bH b
 | [],b=>rfl
 |x :: a,b=>by
  rw [G1,bH,bH,zb a b];split<;>rfl
def iO (l:List UInt8):Nat:=l.count 34+l.count 92
theorem ns (x:UInt8)(l:List UInt8):iO (x :: l)=(if x=34\/x=92 then 1 else 0)+iO l:=by
 unfold iO;rw [List.count_cons,List.count_cons];by_cases h1:x=34
 ·subst h1;simp;omega
 ·by_cases h2:x=92
  ·subst h2;simp;omega
  ·simp [h1,h2]
theorem sD : ∀l:List UInt8,(bH l).length=l.length+iO l
 | []=>rfl
 |x :: l=>by
  rw [bH,ns];split
  ·rw [B9,B9,sD l,B9];omega
  ·rw [B9,sD l,B9];omega
theorem BR : ∀l:List UInt8,iO l=0->bH l=l
 | [],_=>rfl
 |x :: l,h=>by
  rw [ns] at h;rw [bH];split
  ·rename_i hx;rw [if_pos hx] at h;omega
  ·rename_i hx;rw [if_neg hx] at h;rw [BR l A8]
theorem oO {s:ByteArray}{i:Nat}(h:i < s.size):(bs s).take (i+1)=(bs s).take i ++ [ax s i]:=by
 have hl:i < (bs s).length:=by rw [aU];exact h
 rw [I6 hl];unfold ax;rw [C9,uz hl];rfl
theorem sE : ∀l:List UInt8,iO l<=l.length
 | []=>wU _
 |x :: l=>by
  have:=sE l;rw [ns,B9];split<;>omega
theorem Mf (a b:List UInt8):iO (a ++ b)=iO a+iO b:=by
 unfold iO;rw [List.count_append,List.count_append];omega
end Go.Ev
namespace Go
theorem nD {P:Program}{ops:Array Oper}{o:Oper}{a:Act}{w:World}{K:Act->World->Prop}{Q:Exit->Act->World->Prop}{E:Prop}
  (hg:o.guard=none) (d s:Operand) (t t':TypeId) (ho:o.op=.call { callee:=.builtin .copy,args:=#[d,s],argTypes:=#[t,t'] }) (v u:Value) (hd:a.eval d=v) (hs:a.eval s=u) {v':Value} {w':World}
  (hr:(Builtin.copy_ #[t,t'] o.type #[v,u]).run P w=.ok v' w') (hK:K (a.put o.dst v') w'):if Region.wanted o (yielded ops a.tmps)=true then Oper.wp P o a w K Q else E:=by
 have hw:Region.wanted o (yielded ops a.tmps)=true:=by simp [Region.wanted,hg]
 rw [if_pos hw];exact Lib.wp_copy_run w d s t t' ho v u hd hs hr hK
end Go
namespace Go.Lib
open Go.RowKit
theorem Buf.drew {w0 wr:World}{h N:Nat}{acc:List UInt8}(hb:Buf w0 wr h N acc):Buf w0 wr.drew h N acc:=
 ⟨hb.below.drew,hb.there,hb.free,hb.holds,hb.fits⟩
theorem Buf.put {w0 wr:World}{h N:Nat}{acc:List UInt8}(hb:Buf w0 wr h N acc)(x:UInt8)(hl:acc.length < N):Buf w0 (wr.setCell ⟨h,acc.length,none⟩ (.int .u8 (x.toNat:Int))) h N (acc ++ [x]):=by
 have hth:=hb.there
 have same:(wr.setCell ⟨h,acc.length,none⟩ (.int .u8 (x.toNat:Int))).cell? ⟨h,acc.length,none⟩=some (.int .u8 (x.toNat:Int)):=by
  obtain⟨v,hv⟩:=E1.1 (hth _ hl);exact World.cell?_setCell_same _ _ _ hv
 have other:∀j,j≠acc.length->(wr.setCell ⟨h,acc.length,none⟩ (.int .u8 (x.toNat:Int))).cell? ⟨h,j,none⟩=wr.cell? ⟨h,j,none⟩:=fun j hj=>World.cell?_setCell_other _ _ _ _ (by first|(simp;omega)|(simp;done))
 refine⟨hb.below.setCell (p:=⟨h,acc.length,none⟩) (wU _) _,fun j hj=>?_,fun j hj=>?_,fun j y hy=>?_,by rw [List.length_append,List.length_singleton];omega⟩
 ·by_cases e:j=acc.length
  ·rw [e,same];rfl
  ·rw [other j e];exact hth j hj
 ·rw [World.frozen?_setCell];exact hb.free j hj
 ·by_cases e:j=acc.length
  ·subst e;rw [IX (wU _),H6] at hy;obtain rfl:x=y:=by simpa using hy
   exact same
  ·rw [other j e]
   have hj:j < acc.length:=by
    have:=(yK.1 hy).1;rw [List.length_append,List.length_singleton] at this;omega
   rw [C5 hj] at hy;exact hb.holds j y hy
end Go.Lib
namespace Go.Proofs
open Go.RowKit Go.Ev
theorem Cf {s:ByteArray}{i:Nat}(h:i < s.size):s[i]=ax s i:=by
 have h2:i < s.data.toList.length:=by rw [J1];exact h
 show s.data[i]=s.data.toList.getD i 0;rw [List.getD,uz h2,X0];rfl
def MZ (vp vq:Value)(k:Nat):Value:=if k=34 then vp else if k=92 then vq else .slice none 0 0
theorem Kp {vp vq:Value}{c:UInt8}(c1:¬c=34)(c2:¬c=92):MZ vp vq c.toNat=.slice none 0 0:=by
 have h1:¬c.toNat=34:=fun h=>c1 (I3.1 h)
 have h2:¬c.toNat=92:=fun h=>c2 (I3.1 h)
 unfold MZ;rw [if_neg h1,if_neg h2]
structure TN (w:World)(b t:Nat)(vp vq:Value):Prop where
 at_:∀k,k < 256->w.cell? ⟨b,k,none⟩=some (MZ vp vq k)
 tr:w.cell? ⟨b,256,none⟩=some (.slice (some ⟨t,0,none⟩) 2 2)
 t0:w.cell? ⟨t,0,none⟩=some (.string ⟨#[34]⟩)
 t1:w.cell? ⟨t,1,none⟩=some (.string ⟨#[92]⟩)
 hp:Lib.HoldsBytes w vp [92,34]
 hq:Lib.HoldsBytes w vq [92,92]
theorem TN.below {w wr:World}{b t:Nat}{vp vq:Value}(R:TN w b t vp vq)(h:Below w.heap.size w wr):TN wr b t vp vq:=by
 have key:∀{a:Addr} {v:Value},w.cell? a=some v->wr.cell? a=some v:=fun hc=>Lib.Below.cellOf h hc (wU _)
 have hb:∀{v:Value} {l:List UInt8},Lib.HoldsBytes w v l->Lib.HoldsBytes wr v l:=fun⟨p,c,h1,h2,h3⟩=>⟨p,c,h1,h2,fun a ha i x hx=>key (h3 a ha i x hx)⟩
 exact⟨fun k hk=>key (R.at_ k hk),key R.tr,key R.t0,key R.t1,hb R.hp,hb R.hq⟩
theorem Ho (s:ByteArray)(hs:s.size<=1048576)(b t:Nat)(vp vq:Value)(w:World)(R:TN w b t vp vq) :
  Calls Tryz.prog 215 #[.pointer (some ⟨b,0,none⟩),.string s] w fun e w'=>e=.returned (.string (bA (bH (bs s))))/\Below w.heap.size w w':=by
 obtain⟨pv,cv,e1,pn,pc⟩:=R.hp;obtain⟨qv,cq,e2,qn,qc⟩:=R.hq
 obtain⟨av,rfl⟩:∃a,pv=some a:=by
  cases pv with
  |none=>cases pn rfl
  |some a=>exact⟨a,rfl⟩
 obtain⟨aq,rfl⟩:∃a,qv=some a:=by
  cases qv with
  |none=>cases qn rfl
  |some a=>exact⟨a,rfl⟩
 have hnq:∀(w:World) (a:Option Addr) (n c:Nat),(binOp .neq 111 (.slice a n c) (.slice none 0 0)).run Tryz.prog w=.ok (.bool (!a.isNone)) w:=fun w a n c=>run_neq_slice_nil_any w _ 5 a n c 0 0 B1
 have hx34:(⟨#[34]⟩:ByteArray)[0]=34:=rfl;have hx92:(⟨#[92]⟩:ByteArray)[0]=92:=rfl;have h256:=R.tr;have h0:=R.t0;have h1:=R.t1
 go_enter Tryz.func215,Tryz.ntmps215
 go_upto_if 26 with fail
 go_cut [5,6] from 16 (fun s5 s6 wr=>s5=.int .i64 ((s.size+iO (bs s):Nat):Int)/\s6=.bool (decide (iO (bs s)≠0))/\Below w.heap.size w wr)
 case first=>
  by_cases h16:(16:Int)<=(s.size:Int)
  ·go_wp2
   go_loopw [5,6,32] (fun v5 v6 v32 wr=>∃i n:Nat,v32=.int .i64 i/\i<=2/\n=(if i=0 then 0 else if i=1 then(bs s).count 34 else iO (bs s))/\v5=.int .i64 ((s.size+n:Nat):Int)/\v6=.bool (decide (n≠0))/\Below w.heap.size w wr) (fun _ _ v32 _=>2 - (intOf v32).toNat)
   case atStart=>exact⟨0,0,rfl,by omega,rfl,rfl,rfl,Below.refl _ w⟩
   case round=>
    rename (16:Int)<=(s.size:Int)=>h17
    clear h17;try clear h16
    obtain⟨i,n,rfl,hi,hn,rfl,rfl,hbw⟩:=hrel;have R2:=R.below hbw;have k256:=R2.tr;have k0:=R2.t0;have k1:=R2.t1;have k34:=R2.at_ 34 B3;have k92:=R2.at_ 92 B3;rw [show MZ vp vq 34=vp from rfl,e1] at k34;rw [show MZ vp vq 92=vq from rfl,e2] at k92;have hl34:(bs s).count 34<=s.size:=by have:=List.count_le_length (a:=(34:UInt8)) (l:=bs s);rwa [aU] at this
    have hl92:(bs s).count 92<=s.size:=by have:=List.count_le_length (a:=(92:UInt8)) (l:=bs s);rwa [aU] at this
    have hcu:iO (bs s)=(bs s).count 34+(bs s).count 92:=rfl;have hc3:i=0\/i=1\/i=2:=by omega
    rcases hc3 with rfl|rfl|rfl
    ·rw [if_pos rfl] at hn;subst hn;have hcn:Lib.countByte s.data.toList 34=(bs s).count 34:=rfl;generalize (bs s).count 34=m at *;by_cases hm:m=0
     ·subst hm
      go_wp2_with (go_at_call 217;refine(Tryz.strings_Count_one s 34 _).mono ?_;rintro e w' ⟨rfl,rfl⟩)
      go_roundw
      case rel=>
       exact⟨1,0,rfl,by omega,by rw [if_neg B3,if_pos rfl],rfl,rfl,hbw⟩
      case measure=>simp [intOf]
     ·have hm2:¬((m:Int)=0):=by omega
      go_wp2_with (go_at_call 217;refine(Tryz.strings_Count_one s 34 _).mono ?_;rintro e w' ⟨rfl,rfl⟩)
      go_region
      go_wp2
      go_roundw
      case rel=>
       exact⟨1,m,rfl,by omega,by rw [if_neg B3,if_pos rfl],B4 (Value.int IntKind.i64) A8,B4 Value.bool (F9 hm).symm,hbw.drew⟩
      case measure=>simp [intOf]
    ·rw [if_neg B3,if_pos rfl] at hn;obtain⟨B,hB⟩:∃B,B=decide (n≠0):=⟨_,rfl⟩
     rw [<- hB];rw [<- hn] at hcu hl34;have hcn:Lib.countByte s.data.toList 92=(bs s).count 92:=rfl;generalize (bs s).count 92=m at *;generalize iO (bs s)=N at *;by_cases hm:m=0
     ·subst hm
      go_wp2_with (go_at_call 217;refine(Tryz.strings_Count_one s 92 _).mono ?_;rintro e w' ⟨rfl,rfl⟩)
      go_roundw
      case rel=>
       exact⟨2,N,rfl,by omega,by rw [if_neg B3,if_neg B3],B4 (Value.int IntKind.i64) A8,B4 Value.bool (by first|(rw [hB];exact V9.2 A8)|(rw [P8];simp;omega)),hbw⟩
      case measure=>simp [intOf]
     ·have hm2:¬((m:Int)=0):=by omega
      go_wp2_with (go_at_call 217;refine(Tryz.strings_Count_one s 92 _).mono ?_;rintro e w' ⟨rfl,rfl⟩)
      go_region
      go_wp2
      go_roundw
      case rel=>
       exact⟨2,N,rfl,by omega,by rw [if_neg B3,if_neg B3],B4 (Value.int IntKind.i64) A8,B4 Value.bool (F9 A8).symm,hbw.drew⟩
      case measure=>simp [intOf]
    ·rw [if_neg B3,if_neg B3] at hn;subst hn
     go_wp2
     go_meet
     case rel=>exact⟨rfl,rfl,hbw⟩
  ·go_wp2
   go_loopw [5,6,10] (fun v5 v6 v10 wr=>∃i:Nat,v10=.int .i64 i/\i<=s.size/\v5=.int .i64 ((s.size+iO ((bs s).take i):Nat):Int)/\v6=.bool (decide (iO ((bs s).take i)≠0))/\wr=w) (fun _ _ v10 _=>s.size - (intOf v10).toNat)
   case atStart=>exact⟨0,rfl,C0 _,rfl,rfl,rfl⟩
   case round=>
    obtain⟨i,rfl,hi,rfl,rfl,rfl⟩:=hrel;by_cases hlt:i < s.size
    ·have hg:=Cf hlt;obtain⟨c,hc⟩:∃c,ax s i=c:=⟨_,rfl⟩
     rw [hc] at hg;have hl256:(c.toNat:Int) < 256:=by have:=T2 c;omega
     have htk:=oO hlt;rw [hc] at htk;have hn1:iO ((bs s).take (i+1))=iO ((bs s).take i)+(if c=34\/c=92 then 1 else 0):=by rw [htk,Mf,ns];rfl
     have hle:=sE ((bs s).take i);rw [List.length_take,aU] at hle;generalize iO ((bs s).take i)=n at *;by_cases c1:c=34
     ·subst c1;have hat:=R.at_ 34 B3;rw [show MZ vp vq 34=vp from rfl,e1] at hat;rw [if_pos (Or.inl rfl)] at hn1
      go_wp2
      go_roundw
      case rel=>exact⟨i+1,rfl,hlt,B4 (Value.int IntKind.i64) (by rw [hn1];omega),B4 Value.bool (F9 (by rw [hn1];omega)).symm,trivial⟩
      case measure=>simp [intOf];omega
     ·by_cases c2:c=92
      ·subst c2;have hat:=R.at_ 92 B3;rw [show MZ vp vq 92=vq from rfl,e2] at hat;rw [if_pos (Or.inr rfl)] at hn1
       go_wp2
       go_roundw
       case rel=>exact⟨i+1,rfl,hlt,B4 (Value.int IntKind.i64) (by rw [hn1];omega),B4 Value.bool (F9 (by rw [hn1];omega)).symm,trivial⟩
       case measure=>simp [intOf];omega
      ·have hat:=R.at_ c.toNat (T2 c);rw [Kp c1 c2] at hat;rw [if_neg (by rintro(h|h);exact c1 h;exact c2 h),H8] at hn1
       go_wp2
       all_goals exact⟨⟨i+1,rfl,hlt,by rw [hn1,H8],by rw [hn1,H8],trivial⟩,by simp [intOf];omega⟩
    ·obtain rfl:i=s.size:=by omega
     rw [B7 (by rw [aU];exact wU _)]
     go_wp2
     go_meet
     case rel=>exact⟨rfl,rfl,Below.refl _ _⟩
 case rest=>
  obtain⟨rfl,rfl,hbw⟩:=hcut;have R2:=R.below hbw;clear R pc qc h256 h0 h1;have hlen:=sD (bs s);have hele:=sE (bs s);rw [aU] at hlen hele;by_cases hz:iO (bs s)=0
  ·have hd:decide (iO (bs s)≠0)=false:=by rw [hz];rfl
   rw [hd]
   go_wp2
   go_ret
   exact⟨by rw [BR _ hz];rfl,hbw⟩
  ·have hd:decide (iO (bs s)≠0)=true:=F9 hz;rw [hd];obtain⟨T,hT⟩:∃T,T=s.size+iO (bs s):=⟨_,rfl⟩
   rw [<- hT] at hlen |-;have hTle:T<=2097152:=by omega
   clear hT;have hu:Tryz.prog.underlying 111=some (.slice 5):=by kernel_rfl
   have hi8:(Tryz.prog.info? 5).map (fun i=>(i.zero,i.size,i.bytes))=some (some (Value.int .u8 0),1,1):=by kernel_rfl
   have hs8:(Tryz.prog.info? 5).map (·.size)=some 1:=by kernel_rfl
   have hmk:∀w:World,(Instr.makeSlice 111 (.int .i64 (T:Int)) (.int .i64 (T:Int))).run Tryz.prog w=.ok (.slice (some ⟨w.heap.size,0,none⟩) T T) (w.alloc (.cells (madeCells #[.int .u8 0] T) 5)):=fun w=>
    run_make_row' (P:=Tryz.prog) 111 5 (.int .u8 0) 1 hu hi8 rfl .i64 .i64 T A8 A8 w
   have B0:=Lib.Buf.start wc (madeCells #[.int .u8 0] T) 5 T 0 (by simp [madeCells]);rw [World.drewN_zero] at B0;have HB0:Hid (Lib.Buf wc (wc.alloc (.cells (madeCells #[.int .u8 0] T) 5)) wc.heap.size T []):=B0;clear B0
   have z5:∀w,(Go.sizeOf 5).run Tryz.prog w=.ok 1 w:=fun w=>by
    obtain⟨j,hj,hjs⟩:=C1.1 hs8;simp [Go.sizeOf,typeInfo,hj,hjs,Result.andThen]
   go_wp2
   go_loopw [13,14] (fun v13 v14 wr=>∃i:Nat,v14=.int .i64 i/\i<=s.size/\v13=.int .i64 ((bH ((bs s).take i)).length:Nat)/\Hid (Lib.Buf wc wr wc.heap.size T (bH ((bs s).take i)))) (fun _ v14 _=>s.size - (intOf v14).toNat)
   case atStart=>exact⟨0,rfl,C0 _,rfl,HB0⟩
   case round=>
    obtain⟨i,rfl,hi,rfl,HB⟩:=hrel;by_cases hlt:i < s.size
    ·have hg:=Cf hlt;obtain⟨c,hc⟩:∃c,ax s i=c:=⟨_,rfl⟩
     rw [hc] at hg;have hl256:(c.toNat:Int) < 256:=by have:=T2 c;omega
     have htk:=oO hlt;rw [hc] at htk;have hstep:bH ((bs s).take (i+1))=bH ((bs s).take i) ++ bH [c]:=by rw [htk,zb]
     have hfit:(bH ((bs s).take i)).length+(bH [c]).length<=T:=by
      rw [<- hlen,<- List.length_append,<- hstep]
      conv=>rhs;rw [<- L1 (i+1) (bs s),zb,List.length_append]
      exact N1 _ _
     have R3:=R2.below HB.out.below;clear htk hc;generalize bH ((bs s).take i)=acc at *;by_cases c1:c=34
     ·subst c1;have hat:=R3.at_ 34 B3;rw [show MZ vp vq 34=vp from rfl,e1] at hat;have he:bH [(34:UInt8)]=[92,34]:=rfl;rw [he] at hstep hfit;have hf2:acc.length+2<=T:=hfit;have hsl:∀W,(Instr.slice 111 (.slice (some ⟨wc.heap.size,0,none⟩) T T) (some (.int .i64 (acc.length:Int))) none none).run Tryz.prog W=.ok (Lib.tailV wc.heap.size T acc.length) W:=fun W=>Lib.run_slice_tailV W _ 5 hu z5 _ T acc.length A8
      obtain⟨w2,hr2,B2⟩:=Lib.copy_part (P:=Tryz.prog) wc wr.drew wc.heap.size T acc [92,34] vp 111 3 5 hu hs8 (wU _) HB.out.drew R2.hp hfit;rw [e1] at hr2;have HB2:Hid (Lib.Buf wc w2 wc.heap.size T (acc ++ [92,34])):=B2;clear B2
      go_wp2
      go_region_law (refine nD rfl (.tmp 105) (.tmp 111) 111 111 rfl _ _ (by simp [Act.eval,Act.put]) (by simp [Act.eval,Act.put]) hr2 ?_)
      go_wp2
      go_roundw
      case rel=>exact⟨i+1,rfl,hlt,B4 (Value.int IntKind.i64) (by rw [hstep,List.length_append];first|rfl|omega|(simp;done)),by rw [hstep];exact HB2⟩
      case measure=>simp [intOf];omega
     ·by_cases c2:c=92
      ·subst c2;have hat:=R3.at_ 92 B3;rw [show MZ vp vq 92=vq from rfl,e2] at hat;have he:bH [(92:UInt8)]=[92,92]:=rfl;rw [he] at hstep hfit;have hf2:acc.length+2<=T:=hfit;have hsl:∀W,(Instr.slice 111 (.slice (some ⟨wc.heap.size,0,none⟩) T T) (some (.int .i64 (acc.length:Int))) none none).run Tryz.prog W=.ok (Lib.tailV wc.heap.size T acc.length) W:=fun W=>Lib.run_slice_tailV W _ 5 hu z5 _ T acc.length A8
       obtain⟨w2,hr2,B2⟩:=Lib.copy_part (P:=Tryz.prog) wc wr.drew wc.heap.size T acc [92,92] vq 111 3 5 hu hs8 (wU _) HB.out.drew R2.hq hfit;rw [e2] at hr2;have HB2:Hid (Lib.Buf wc w2 wc.heap.size T (acc ++ [92,92])):=B2;clear B2
       go_wp2
       go_region_law (refine nD rfl (.tmp 105) (.tmp 111) 111 111 rfl _ _ (by simp [Act.eval,Act.put]) (by simp [Act.eval,Act.put]) hr2 ?_)
       go_wp2
       go_roundw
       case rel=>exact⟨i+1,rfl,hlt,B4 (Value.int IntKind.i64) (by rw [hstep,List.length_append];first|rfl|omega|(simp;done)),by rw [hstep];exact HB2⟩
       case measure=>simp [intOf];omega
      ·have hat:=R3.at_ c.toNat (T2 c);rw [Kp c1 c2] at hat;have he:bH [c]=[c]:=by rw [bH,if_neg (by rintro(h|h);exact c1 h;exact c2 h)];rfl
       rw [he] at hstep hfit;have hal:acc.length < T:=by have:=hfit;rw [List.length_singleton] at this;omega
       have hali:(acc.length:Int) < (T:Int):=by omega
       obtain⟨v0,hv0⟩:=E1.1 (HB.out.there _ hal);have hf0:=HB.out.free _ hal;have HB2:Hid (Lib.Buf wc (wr.setCell ⟨wc.heap.size,acc.length,none⟩ (.int .u8 (c.toNat:Int))) wc.heap.size T (acc ++ [c])):=HB.out.put c hal
       go_wp2
       go_roundw
       case rel=>exact⟨i+1,rfl,hlt,B4 (Value.int IntKind.i64) (by rw [hstep,List.length_append,List.length_singleton];omega),by rw [hstep];exact HB2⟩
       case measure=>simp [intOf];omega
    ·obtain rfl:i=s.size:=by omega
     rw [B7 (by rw [aU];exact wU _)]
     have hcv:=run_convert_bytes_arg (P:=Tryz.prog) wr 111 5 hu B1 wc.heap.size 0 T T ((bH (bs s)).map fun b=>(b.toNat:Int)) (by rw [List.length_map];exact hlen) (fun j hj=>by
      rw [C2];have hj2:j < (bH (bs s)).length:=by omega
      rw [B7 (by rw [aU];exact wU _)] at HB
      rw [HB.out.holds j _ (uz hj2),List.getD,Zf,uz hj2];rfl) 9 B1
     rw [sq] at hcv
     go_wp2
     go_ret
     exact⟨rfl,hbw.trans (HB.out.below.mono hbw.size)⟩
end Go.Proofs
namespace Go.Ev
open Go.Proofs
theorem take_one {s:ByteArray}{i:Nat}(h:i < s.size)(l:List UInt8):bA l ++ s.extract i (i+1)=bA (l ++ [ax s i]):=by
 have e:s.extract i (i+1)=bA [ax s i]:=by
  refine mH (by rw [dm A8,rI,List.length_singleton];omega) fun j hj=>?_
  rw [dm A8] at hj;rw [cI A8,show j=0 by omega,H8];rfl
 rw [e,Gy]
theorem HU {s:ByteArray}{i:Nat}(h:i < s.size):((bs s).take (i+1)).filter (fun b=>decide (b.toNat≠10))=((bs s).take i).filter (fun b=>decide (b.toNat≠10)) ++ (if(ax s i).toNat≠10 then [ax s i] else []):=by
 rw [oO h,List.filter_append,List.filter_cons];by_cases c:(ax s i).toNat≠10
 ·rw [if_pos (F9 c),if_pos c];rfl
 ·rw [if_neg (by simpa using c),if_neg c];rfl
def Yj (n:Nat)(s:ByteArray)(i:Nat):St:=⟨n,[(0,.af (.string s)),(3,.af (.string (bA (((bs s).take i).filter (fun b=>decide (b.toNat≠10)))))),(4,.af (.int .i64 i))],[]⟩
theorem Ph (s:ByteArray)(hs:s.size<=1073741824):Ok Tryz.prog 44 [gG s] true (.af (.string (ml s))):=by
 refine aw bN mix Tryz.func44 rfl rfl B1 (zO rfl) ?_
 repeat'(first|(with_reducible first|(refine zz ?_;try intro K hK)|refine zi ?_|refine zh ?_)|((first|apply hK _ _ rfl|apply hK);clear hK K)|(guard_hyp hK;first|refine zx ?_|apply ab|apply aa|refine zW ?_|intro b0 hb)|((first|refine zj ?_|guard_hyp hK);refine zY ?_ ?_;all_goals(intro hb;(try simp only [sn,sb] at hb);try exact ao)))
 refine aT Nat (fun i=>Yj Tryz.f44.ntmps s i) (fun i=>i<=s.size/\i<=20) (fun i=>20 - i) [] 0 trivial ⟨C0 _,by decide⟩ ⟨rfl,⟨rfl,trivial,rfl,trivial,rfl,trivial,trivial⟩,trivial,trivial⟩ ?_;rintro i ⟨hi,h20⟩;have hln:(((bs s).take i).filter (fun b=>decide (b.toNat≠10))).length<=20:=G6 (V8 _ _) (by rw [List.length_take];omega);by_cases hlt:i < s.size
 ·by_cases hl2:i < 20
  ·have hnx:=HU hlt;have h3:(bA (((bs s).take i).filter (fun b=>decide (b.toNat≠10)))).size<=1073741826:=by rw [rI];omega
   by_cases c:(ax s i).toNat=10
   ·rw [if_neg (fun h=>h c),J8] at hnx
    repeat'(first|((refine fy (s:=s) (i:=i) ?_ hlt;intro hu))|(with_reducible first|(refine zz ?_;try intro K hK)|refine zi ?_|refine zh ?_)|((first|apply hK _ _ rfl|apply hK);clear hK K)|(guard_hyp hK;first|refine zx ?_|apply ab|apply aa|refine zW ?_|intro b0 hb)|((first|refine zj ?_|guard_hyp hK);refine zY ?_ ?_;all_goals(intro hb;(try simp only [sn,sb] at hb);try exact ao)))
    all_goals first
     |(exfalso;omega)
     |exact⟨i+1,⟨hlt,hl2⟩,by omega,rfl,⟨rfl,trivial,B4 (fun l=>V.af (.string (bA l))) hnx.symm,trivial,rfl,trivial,trivial⟩,trivial,trivial⟩
   ·rw [if_pos c] at hnx
    repeat'(first|(first|(refine fy (s:=s) (i:=i) ?_ hlt;intro hu)|refine Mt h3 hs ?_)|(with_reducible first|(refine zz ?_;try intro K hK)|refine zi ?_|refine zh ?_)|((first|apply hK _ _ rfl|apply hK);clear hK K)|(guard_hyp hK;first|refine zx ?_|apply ab|apply aa|refine zW ?_|intro b0 hb)|((first|refine zj ?_|guard_hyp hK);refine zY ?_ ?_;all_goals(intro hb;(try simp only [sn,sb] at hb);try exact ao)))
    all_goals first
     |(exfalso;omega)
     |exact⟨i+1,⟨hlt,hl2⟩,by omega,rfl,⟨rfl,trivial,B4 (fun x=>V.af (.string x)) ((take_one hlt _).trans (B4 bA hnx.symm)),trivial,rfl,trivial,trivial⟩,trivial,trivial⟩
  ·have hi20:i=20:=by omega
   repeat'(first|(with_reducible first|(refine zz ?_;try intro K hK)|refine zi ?_|refine zh ?_)|((first|apply hK _ _ rfl|apply hK);clear hK K)|(guard_hyp hK;first|refine zx ?_|apply ab|apply aa|refine zW ?_|intro b0 hb)|((first|refine zj ?_|guard_hyp hK);refine zY ?_ ?_;all_goals(intro hb;(try simp only [sn,sb] at hb);try exact ao)))
   refine⟨trivial,ay ?_⟩;unfold ml HV;rw [hi20]
 ·repeat'(first|(with_reducible first|(refine zz ?_;try intro K hK)|refine zi ?_|refine zh ?_)|((first|apply hK _ _ rfl|apply hK);clear hK K)|(guard_hyp hK;first|refine zx ?_|apply ab|apply aa|refine zW ?_|intro b0 hb)|((first|refine zj ?_|guard_hyp hK);refine zY ?_ ?_;all_goals(intro hb;(try simp only [sn,sb] at hb);try exact ao)))
  have hie:(bs s).take i=(bs s).take 20:=by
   rw [B7 (by rw [aU];omega),B7 (by rw [aU];omega)]
  refine⟨trivial,ay ?_⟩;unfold ml HV;rw [<- hie]
def Fe (l:List UInt8):Bool:=l.any fun b=>decide (b.toNat=42)
def WZ (n:Nat)(s:ByteArray)(i:Nat):St:=⟨n,[(0,.af (.string s)),(3,.af (.string (bA ((bs s).take i)))),(4,.af (.int .i64 i))],[]⟩
theorem MB (s:ByteArray)(hs:s.size<=1073741824):Ok Tryz.prog 17 [gG s] true (.af (.string (gX s))):=by
 have cl:=Ph s hs;have hls:(ml s).size<=20:=G6 (V8 _ _) (by rw [List.length_take];omega);refine aw bN mix Tryz.func17 rfl rfl B1 (zO rfl) ?_
 repeat'(first|(with_reducible first|(refine zz ?_;try intro K hK)|refine zi ?_|refine zh ?_)|((first|apply hK _ _ rfl|apply hK);clear hK K)|(guard_hyp hK;first|refine zx ?_|apply ab|apply aa|refine zW ?_|intro b0 hb)|((first|refine zj ?_|guard_hyp hK);refine zY ?_ ?_;all_goals(intro hb;(try simp only [sn,sb] at hb);try exact ao)))
 refine aT Nat (fun i=>WZ Tryz.f17.ntmps s i) (fun i=>i<=s.size/\i<=20/\Fe ((bs s).take i)=false) (fun i=>20 - i) [] 0 trivial ⟨C0 _,by decide,rfl⟩ ⟨rfl,⟨rfl,trivial,rfl,trivial,rfl,trivial,trivial⟩,trivial,trivial⟩ ?_;rintro i ⟨hi,h20,hst⟩;have hln:((bs s).take i).length<=20:=by rw [List.length_take];omega
 have hexit:(bs s).take i=(bs s).take 20->gX s=if s.size % 3=0 then bA [9,10,13] else bA [47,42] ++ bA ((bs s).take i) ++ bA [42,47]:=fun h=>by
  unfold gX;rw [<- h,if_neg (by unfold Fe at hst;rw [hst];exact B6)]
 have h3:(bA ((bs s).take i)).size<=1073741826:=by rw [rI];omega
 by_cases hlt:i < s.size
 ·by_cases hl2:i < 20
  ·have hnx:=oO hlt;by_cases c:(ax s i).toNat=42
   ·have hb9:gX s=bA [10,47,47,32] ++ ml s ++ bA [10]:=by
     unfold gX;rw [if_pos];rw [S4];refine⟨ax s i,?_,F9 c⟩;have h9:ax s i ∈ (bs s).take (i+1):=by rw [hnx];simp
     have h8:((bs s).take 20).take (i+1)=(bs s).take (i+1):=by rw [J3,I5 A8]
     rw [<- h8] at h9;exact J5 h9
    have k1:ByteArray.size (⟨#[10,47,47,32]⟩:ByteArray)+(ml s).size<=9223372036854775807:=by show 4+_<=_;omega
    have k2:((⟨#[10,47,47,32]⟩:ByteArray) ++ ml s).size+ByteArray.size (⟨#[10]⟩:ByteArray)<=9223372036854775807:=by rw [B8];show 4+_+1<=_;omega
    repeat'(first|(first|(refine fy (s:=s) (i:=i) ?_ hlt;intro hu)|refine bK k1 ?_|refine bK k2 ?_)|(with_reducible first|(refine zz ?_;try intro K hK)|refine zi ?_|refine zh ?_)|((first|apply hK _ _ rfl|apply hK);clear hK K)|(guard_hyp hK;first|refine zx ?_|apply ab|apply aa|refine zW ?_|(refine zQ (cl) ?_)|intro b0 hb)|((first|refine zj ?_|guard_hyp hK);refine zY ?_ ?_;all_goals(intro hb;(try simp only [sn,sb] at hb);try exact ao)))
    all_goals first
     |(exfalso;omega)
     |exact⟨trivial,ay (B4 Value.string hb9.symm)⟩
     |exact⟨trivial,ay (by rw [hb9];rfl)⟩
   ·have hs2:Fe ((bs s).take (i+1))=false:=by
     unfold Fe at hst |-;rw [hnx,List.any_append,hst,U4,List.any_cons,G4 c];rfl
    repeat'(first|(first|(refine fy (s:=s) (i:=i) ?_ hlt;intro hu)|refine Mt h3 hs ?_)|(with_reducible first|(refine zz ?_;try intro K hK)|refine zi ?_|refine zh ?_)|((first|apply hK _ _ rfl|apply hK);clear hK K)|(guard_hyp hK;first|refine zx ?_|apply ab|apply aa|refine zW ?_|intro b0 hb)|((first|refine zj ?_|guard_hyp hK);refine zY ?_ ?_;all_goals(intro hb;(try simp only [sn,sb] at hb);try exact ao)))
    all_goals first
     |(exfalso;omega)
     |exact⟨i+1,⟨hlt,hl2,hs2⟩,by omega,rfl,⟨rfl,trivial,B4 (fun x=>V.af (.string x)) ((take_one hlt _).trans (B4 bA hnx.symm)),trivial,rfl,trivial,trivial⟩,trivial,trivial⟩
  ·have he:=hexit (by rw [show i=20 by omega]);have q1:ByteArray.size (⟨#[47,42]⟩:ByteArray)+(bA ((bs s).take i)).size<=9223372036854775807:=by rw [rI];show 2+_<=_;omega
   have q2:((⟨#[47,42]⟩:ByteArray) ++ bA ((bs s).take i)).size+ByteArray.size (⟨#[42,47]⟩:ByteArray)<=9223372036854775807:=by rw [B8,rI];show 2+_+2<=_;omega
   by_cases h0:s.size % 3=0
   ·rw [if_pos h0] at he;have hmd:((0:Nat):Int)=(s.size:Int).tmod 3:=by rw [show(s.size:Int).tmod 3=((s.size % 3:Nat):Int) from rfl,h0]
    repeat'(first|(first|refine bK q1 ?_|refine bK q2 ?_)|(with_reducible first|(refine zz ?_;try intro K hK)|refine zi ?_|refine zh ?_)|((first|apply hK _ _ rfl|apply hK);clear hK K)|(guard_hyp hK;first|refine zx ?_|apply ab|apply aa|refine zW ?_|intro b0 hb)|((first|refine zj ?_|guard_hyp hK);refine zY ?_ ?_;all_goals(intro hb;(try simp only [sn,sb] at hb);try exact ao)))
    all_goals first
     |exact⟨trivial,ay (B4 Value.string he.symm)⟩
     |exact absurd (hb.symm.trans hmd.symm) (by simp)
     |exact absurd hmd.symm hb
   ·rw [if_neg h0] at he;have hmd:(s.size:Int).tmod 3≠0:=fun h=>h0 (W6 h)
    repeat'(first|(first|refine bK q1 ?_|refine bK q2 ?_)|(with_reducible first|(refine zz ?_;try intro K hK)|refine zi ?_|refine zh ?_)|((first|apply hK _ _ rfl|apply hK);clear hK K)|(guard_hyp hK;first|refine zx ?_|apply ab|apply aa|refine zW ?_|intro b0 hb)|((first|refine zj ?_|guard_hyp hK);refine zY ?_ ?_;all_goals(intro hb;(try simp only [sn,sb] at hb);try exact ao)))
    all_goals first
     |exact⟨trivial,ay (B4 Value.string he.symm)⟩
     |exact absurd hb hmd
 ·have he:=hexit (by rw [B7 (by rw [aU];omega),B7 (by rw [aU];omega)]);have q1:ByteArray.size (⟨#[47,42]⟩:ByteArray)+(bA ((bs s).take i)).size<=9223372036854775807:=by rw [rI];show 2+_<=_;omega
  have q2:((⟨#[47,42]⟩:ByteArray) ++ bA ((bs s).take i)).size+ByteArray.size (⟨#[42,47]⟩:ByteArray)<=9223372036854775807:=by rw [B8,rI];show 2+_+2<=_;omega
  by_cases h0:s.size % 3=0
  ·rw [if_pos h0] at he;have hmd:((0:Nat):Int)=(s.size:Int).tmod 3:=by rw [show(s.size:Int).tmod 3=((s.size % 3:Nat):Int) from rfl,h0]
   repeat'(first|(first|refine bK q1 ?_|refine bK q2 ?_)|(with_reducible first|(refine zz ?_;try intro K hK)|refine zi ?_|refine zh ?_)|((first|apply hK _ _ rfl|apply hK);clear hK K)|(guard_hyp hK;first|refine zx ?_|apply ab|apply aa|refine zW ?_|intro b0 hb)|((first|refine zj ?_|guard_hyp hK);refine zY ?_ ?_;all_goals(intro hb;(try simp only [sn,sb] at hb);try exact ao)))
   all_goals first
    |exact⟨trivial,ay (B4 Value.string he.symm)⟩
    |exact absurd (hb.symm.trans hmd.symm) (by simp)
    |exact absurd hmd.symm hb
  ·rw [if_neg h0] at he;have hmd:(s.size:Int).tmod 3≠0:=fun h=>h0 (W6 h)
   repeat'(first|(first|refine bK q1 ?_|refine bK q2 ?_)|(with_reducible first|(refine zz ?_;try intro K hK)|refine zi ?_|refine zh ?_)|((first|apply hK _ _ rfl|apply hK);clear hK K)|(guard_hyp hK;first|refine zx ?_|apply ab|apply aa|refine zW ?_|intro b0 hb)|((first|refine zj ?_|guard_hyp hK);refine zY ?_ ?_;all_goals(intro hb;(try simp only [sn,sb] at hb);try exact ao)))
   all_goals first
    |exact⟨trivial,ay (B4 Value.string he.symm)⟩
    |exact absurd hb hmd
def QT (s:ByteArray):V:=.af (.string s)
def IN (l:List ByteArray)(i:Nat):List ByteArray:=(l.take i).map gX
theorem yV {l:List ByteArray}{i:Nat}(h:i<=l.length):(IN l i).length=i:=by unfold IN;rw [List.length_map,List.length_take];omega
theorem LL {l:List ByteArray}{i:Nat}(h:i < l.length):IN l (i+1)=IN l i ++ [gX (l.getD i default)]:=by
 unfold IN;rw [I6 h,G7,List.getD,uz h];rfl
theorem QP (oh:OH)(l:List ByteArray)(v:Nat):eV oh [(0,⟨1,l.map QT,v,true⟩)]:=by
 refine⟨fun x hx=>?_,trivial⟩;obtain⟨u,_,rfl⟩:=D4.1 hx;trivial
theorem Vy {e:V}{n:Nat}(h:e.cells.length=n):∀y ∈ [e],y.cells.length=n:=by
 intro y hy;rw [HQ.1 hy];exact h
def Yk (n:Nat)(l:List ByteArray)(i:Nat):St:=⟨n,[(0,.ro false (.sl (iD l))),(3,.own 0 i 0 i),(4,.af (.int .i64 i))],[(0,⟨1,(IN l i).map QT,i,true⟩)]⟩
theorem Py (l:List ByteArray)(hl:l.length<=1073741824)(hz:∀s ∈ l,s.size<=1073741824):Ok Tryz.prog 6 [.sl (iD l)] true (.sl (iD (nJ l))):=by
 have hll:(iD l).length=l.length:=List.length_map _;refine aw bN mix Tryz.func6 rfl rfl B1 (zO rfl) ?_
 repeat'(first|(with_reducible first|(refine zz ?_;try intro K hK)|refine zi ?_|refine zh ?_)|((first|apply hK _ _ rfl|apply hK);clear hK K)|(guard_hyp hK;first|refine zx ?_|apply ab|apply aa|refine zW ?_|intro b0 hb)|((first|refine zj ?_|guard_hyp hK);refine zY ?_ ?_;all_goals(intro hb;(try simp only [sn,sb] at hb);try exact ao)))
 refine aT Nat (fun i=>Yk Tryz.f6.ntmps l i) (fun i=>i<=l.length/\i<=10) (fun i=>10 - i) [(3,0,1)] 0 ⟨rfl,rfl,trivial⟩ ⟨C0 _,C0 _⟩ ⟨rfl,⟨rfl,trivial,rfl,rfl,rfl,trivial,trivial⟩,⟨rfl,trivial⟩,QP _ _ _⟩ ?_;rintro i ⟨hi,h10⟩
 have fin:i=l.length\/i=10->∀s:St,aA s.env 2=.own 0 i 0 i->ae s.oh 0=some ⟨1,(IN l i).map QT,i,true⟩->kz Tryz.prog Tryz.f6 true (.sl (iD (nJ l))) .ret s:=fun h s e1 e2=>by
  have hg:IN l i=nJ l:=by
   unfold IN nJ;rcases h with h|h
   ·rw [B7 A8,B7 A8]
   ·rw [h]
  have hgl:(nJ l).length=i:=by rw [<- hg];exact yV hi
  refine⟨trivial,?_⟩;show gM s.oh true (aA s.env 2) _;rw [e1];refine gW (F:=QT) (G:=gG) (l:=nJ l) e2 rfl rfl hgl ?_ (fun w _=>gp _) rfl;show(((IN l i).map QT).drop 0).take i=_;rw [F4,B7 (by rw [List.length_map,yV hi];exact wU _),hg]
 by_cases hlt:i < l.length
 ·by_cases hl2:i < 10
  ·have hat:=tF hlt;have hme:l.getD i default ∈ l:=by rw [List.getD,uz hlt];exact G9 hlt
   have cb:=MB _ (hz _ hme);have hnx:=LL hlt;have hln:=yV hi
   repeat'(first|(first|refine UO (Vy rfl) ?_|refine Sk _ (UO hat ?_))|(with_reducible first|(refine zz ?_;try intro K hK)|refine zi ?_|refine zh ?_)|((first|apply hK _ _ rfl|apply hK);clear hK K)|(guard_hyp hK;first|refine zx ?_|apply ab|apply aa|refine zW ?_|(refine zQ (cb) ?_)|intro b0 hb)|((first|refine zj ?_|guard_hyp hK);refine zY ?_ ?_;all_goals(intro hb;(try simp only [sn,sb] at hb);try exact ao)))
   refine⟨i+1,⟨hlt,hl2⟩,by omega,rfl,⟨rfl,trivial,rfl,rfl,rfl,trivial,trivial⟩,⟨?_,trivial⟩,QP _ _ _⟩;refine B4 (fun L=>some (Obj.mk 1 L (i+1) true)) (?_:((IN l i).map QT).take i ++ [QT (gX (l.getD i default))]=(IN l (i+1)).map QT);rw [hnx,G7,B7 (by rw [List.length_map,hln];exact wU _)];rfl
  ·repeat'(first|(with_reducible first|(refine zz ?_;try intro K hK)|refine zi ?_|refine zh ?_)|((first|apply hK _ _ rfl|apply hK);clear hK K)|(guard_hyp hK;first|refine zx ?_|apply ab|apply aa|refine zW ?_|intro b0 hb)|((first|refine zj ?_|guard_hyp hK);refine zY ?_ ?_;all_goals(intro hb;(try simp only [sn,sb] at hb);try exact ao)))
   exact fin (Or.inr A8) _ rfl rfl
 ·repeat'(first|(with_reducible first|(refine zz ?_;try intro K hK)|refine zi ?_|refine zh ?_)|((first|apply hK _ _ rfl|apply hK);clear hK K)|(guard_hyp hK;first|refine zx ?_|apply ab|apply aa|refine zW ?_|intro b0 hb)|((first|refine zj ?_|guard_hyp hK);refine zY ?_ ?_;all_goals(intro hb;(try simp only [sn,sb] at hb);try exact ao)))
  exact fin (Or.inl A8) _ rfl rfl
end Go.Ev
