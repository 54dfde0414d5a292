import Derived.Test.YthpoegdjffdojaaGreatDoorULba
import Derived.Test.YthpoegdjffdojaaGreatDoorUDivP
set_option linter.all false
set_option maxHeartbeats 8000000
set_option maxRecDepth 100000
namespace Go.Proofs
open Go.RowKit Go.Ev
theorem zq {s:ByteArray}{i:Nat}(h:i < s.size):s[i]=ax s i:=by
 have h2:i < s.data.toList.length:=by rw [J1];exact h
 show s.data[i]=s.data.toList.getD i 0;rw [List.getD,uz h2,X0];rfl
theorem sub_one {s:ByteArray}{i:Nat}(h:i < s.size)(l:List UInt8):(⟨l.toArray⟩:ByteArray) ++ sub s i 1=⟨(l ++ [ax s i]).toArray⟩:=by
 refine P1 (W5.1 ?_);rw [Q7,S1];have e2:(sub s i 1).data.toList=((bs s).drop i).take 1:=jH s i 1;rw [e2,drop_at h];simp
theorem Iw (b:Nat)(v:Value)(w:World)(hb:w.heap[b]?=some (.cells #[.pointer none,v] 191 (0,0))) :
  Calls Tryz.prog 111 #[.pointer (some ⟨b,0,none⟩)] w fun e w'=>e=.returned (.tuple #[])/\w'=w.setCell ⟨b,0,none⟩ (.pointer (some ⟨b,0,none⟩)):=by
 have hp:Tryz.prog.underlying 189=some (.pointer 191):=by kernel_rfl
 have hu:Tryz.prog.underlying 124=some .unsafePointer:=by kernel_rfl
 have hz:(Tryz.prog.info? 191).map (·.size)=some 2:=by kernel_rfl
 have hlies:liesAt Tryz.prog Tryz.prog.depth 191 (2 / Tryz.prog.cellsOf 191) 0 191 1=true:=by kernel_rfl
 obtain⟨j,hj,hjs⟩:=C1.1 hz;have c0:w.cell? ⟨b,0,none⟩=some (.pointer none):=by simp [World.cell?,hb]
 have f0:w.frozen? ⟨b,0,none⟩=false:=by simp [World.frozen?,hb]
 have hsh:w.shape? b=some (191,2):=by simp [World.shape?,hb]
 have k1:=Lib.run_to_unsafe w ⟨b,0,none⟩ hp hu hj (by rw [hjs];decide) hsh (D0 1);have k3:=Lib.run_from_unsafe w ⟨b,0,none⟩ hu hp hj hsh hlies
 have k2:∀w,(callFunc 129 #[.pointer (some ⟨b,0,none⟩)]).run Tryz.prog w=.ok (.value (.pointer (some ⟨b,0,none⟩))) w:=by
  intro w;rw [@run_callFunc_extern Tryz.prog 129 _ Extern.AbiNoEscape.same Tryz.func129 B1 B1 B1 B1,Lib.run_noEscape,Result.andThen_ok]
 go_enter Tryz.func111,Tryz.ntmps111
 go_wp2
 go_end0
 exact⟨rfl,rfl⟩
theorem Ix (b:Nat)(w:World)(c0:w.cell? ⟨b,0,none⟩=some (.pointer (some ⟨b,0,none⟩))) :
  Calls Tryz.prog 111 #[.pointer (some ⟨b,0,none⟩)] w fun e w'=>e=.returned (.tuple #[])/\w'=w:=by
 have hp:Tryz.prog.underlying 189=some (.pointer 191):=by kernel_rfl
 have hz:(Tryz.prog.info? 191).map (·.size)=some 2:=by kernel_rfl
 obtain⟨j,hj,hjs⟩:=C1.1 hz
 go_enter Tryz.func111,Tryz.ntmps111
 go_wp2
 rw [Lib.run_neq_ptr_same w _ hp hj]
 go_wp2
 go_end0
 exact⟨rfl,rfl⟩
theorem MA {b:Nat}{xs:List Value}{w:World}(h:Lib.IsBuilderF 191 5 b b xs w) :
  Calls Tryz.prog 111 #[.pointer (some ⟨b,0,none⟩)] w fun e w'=>e=.returned (.tuple #[])/\Lib.BuilderAtF 191 5 b b (.pointer (some ⟨b,0,none⟩)) xs w'/\Below b w w':=by
 rcases h with h|h
 ·obtain⟨hB,v,hv,hown,hne⟩:=h;refine(Iw b v w hv).mono ?_;rintro e w' ⟨rfl,rfl⟩;refine⟨rfl,⟨wU _,v,?_,?_,hne⟩,(Below.refl b w).setCell (p:=⟨b,0,none⟩) (wU _) _⟩
  ·simp [World.setCell,Array.getElem?_modify,hv]
  ·exact hown.kept (row:=some b) ⟨rfl,rfl,rfl,by simp [World.setCell],fun k _ hk=>Below.heap_setCell _ _ _ _ (fun e=>hk (by simp [e]))⟩ (Or.inr hne)
 ·have c0:=h.cell0;refine(Ix b w c0).mono ?_;rintro e w' ⟨rfl,rfl⟩;exact⟨rfl,h,Below.refl b _⟩
theorem vd (b:Nat)(xs:List Value)(c:Int)(w:World)(h:Lib.IsBuilderF 191 5 b b xs w)(hlen:xs.length+1<=140737488355328)(hb:b<=w.heap.size) :
  Calls Tryz.prog 93 #[.pointer (some ⟨b,0,none⟩),.int .u8 c] w fun e w'=>e=.returned .nilIface/\Lib.IsBuilderF 191 5 b b (xs ++ [.int .u8 c]) w'/\Below b w w':=by
 have hsl:Tryz.prog.underlying 111=some (.slice 5):=by kernel_rfl
 have hby:(Tryz.prog.info? 5).map (fun i=>(i.zero,i.size,i.bytes))=some (some (.int .u8 0),1,1):=by kernel_rfl
 obtain⟨i0,hi,hz⟩:=C1.1 hby
 have hz0:i0.zero=some (.int .u8 0):=B4 Prod.fst hz;have hz1:i0.size=1:=B4 (fun x=>x.2.1) hz;have hz2:i0.bytes=1:=B4 (fun x=>x.2.2) hz
 go_enter Tryz.func93,Tryz.ntmps93
 go_wp2_with (go_at_call 111;refine(MA h).mono ?_)
 rintro e w1 ⟨rfl,⟨hB,v,hv,hown,hne⟩,k1⟩;have hs1:=k1.size;have c1:w1.cell? ⟨b,1,none⟩=some v:=by simp [World.cell?,hv]
 go_wp2_with (at_builtin;go_loud (refine wpList_append_ownF _ rfl _ _ 111 rfl b 5 i0 (.int .u8 0) 1 1 hsl hi hz0 hz1 hz2 rfl Nat.one_pos v xs.length xs rfl (hown.alloc _) ⟨w1.heap.size,0,none⟩ 1 1 [.int .u8 c] rfl rfl ?q1 ?q2 ?q3 ?q4 ?q5 ?_))
 case q1=>
  intro j u hj
  match j,hj with
  |0,hj=>simp at hj;subst hj;simp [Addr.add]
 case q2=>intro u hu;simp at hu;subst hu;rfl
 case q3=>unfold maxLen;omega
 case q4=>omega
 case q5=>simp;omega
 intro v' w2 hown' hgrow _;have hlt:b < w1.heap.size:=(E4.1 hv).1
 have hv2:w2.heap[b]?=some (.cells #[.pointer (some ⟨b,0,none⟩),v] 191 (0,0)):=by
  rw [hgrow.block b (by simp;omega) (fun e=>hne e.symm),Lib.alloc_old w1 _ b hlt];exact hv
 have d0:w2.cell? ⟨b,0,none⟩=some (.pointer (some ⟨b,0,none⟩)):=by simp [World.cell?,hv2]
 have d1:w2.cell? ⟨b,1,none⟩=some v:=by simp [World.cell?,hv2]
 have f1:w2.frozen? ⟨b,1,none⟩=false:=by simp [World.frozen?,hv2]
 have f0:w2.frozen? ⟨b,0,none⟩=false:=by simp [World.frozen?,hv2]
 obtain⟨ad,cap,rfl⟩:∃ad cap,v'=.slice (some ⟨ad,0,none⟩) (xs.length+1) cap:=by
  rcases hown'.2 with⟨_,h0⟩|⟨ad,cap,cur,fz,he,_⟩
  ·omega
  ·exact⟨ad,cap,he⟩
 go_wp2
 go_ret
 refine⟨rfl,.inr (Lib.BuilderAtF.put (T:=191) (e:=5) (wU b) hv2 (bs':=xs ++ [.int .u8 c]) (by simpa using hown') B3),?_⟩;exact((k1.alloc A8 _).grown hgrow (by simp;omega) (fun k hk=>(hown.lt k hk).1)).setCell (p:=⟨b,1,none⟩) (wU _) _
set_option maxHeartbeats 4000000 in
set_option maxRecDepth 1000000 in
theorem By (s:ByteArray)(w:World)(hs:s.size<=1073741824) :
  Calls Tryz.prog 82 #[.string s] w fun e w'=>e=.returned (.tuple #[.string (dv s 1 ⟨#[]⟩).2.1,.int .i64 ((dv s 1 ⟨#[]⟩).1:Nat),.bool (dv s 1 ⟨#[]⟩).2.2])/\Below w.heap.size w w':=by
 go_enter Tryz.func82,Tryz.ntmps82
 go_wp2
 go_loopw [6] (fun i wr=>∃(n:Nat) (l:List UInt8),i=.int .i64 (n:Nat)/\1<=n/\Lib.IsBuilderF 191 5 w.heap.size w.heap.size (Lib.byteCells l) wr/\Below w.heap.size w wr/\dv s n ⟨l.toArray⟩=dv s 1 ⟨#[]⟩/\l.length<=n/\n<=s.size+2)
  (fun i _=>s.size+2 - (intOf i).toNat)
 case atStart=>
  exact⟨1,[],rfl,wU _,Lib.IsBuilderF.of (Lib.fresh_isBuilder _ _ w),(Below.refl _ w).alloc (wU _) _,rfl,C0 _,by omega⟩
 case round=>
  obtain⟨n,l,rfl,h1,hI,hbw,hq,hl,hn⟩:=hrel;have hsz:=hbw.size;by_cases hlt:n < s.size
  ·have hg:=zq hlt;rw [dv,I2 hlt] at hq;by_cases c1:(ax s n).toNat=34
   ·rw [if_pos c1] at hq;have b1:(((ax s n).toNat:Int) == 34)=true:=by simp;omega
    go_wp2_with (go_at_call 92;refine(Tryz.Builder_String_any_k w.heap.size w.heap.size l _ hI hsz).mono ?_)
    rintro e W1 ⟨rfl,_,k1,_⟩
    go_wp2
    (try simp only [Exit.inBlock,Exit.then]);refine bodyPost_ret (results_tmp3 rfl _ _ _) rfl ?_
    exact⟨by rw [<- hq];rfl,hbw.trans k1⟩
   rw [if_neg c1] at hq;have b1:(((ax s n).toNat:Int) == 34)=false:=by simp;omega
   by_cases c2:(ax s n).toNat=10
   ·rw [if_pos c2] at hq;have b2:(((ax s n).toNat:Int) == 10)=true:=by simp;omega
    go_wp2
    (try simp only [Exit.inBlock,Exit.then]);refine bodyPost_ret (results_tmp3 rfl _ _ _) rfl ?_
    exact⟨by rw [<- hq];rfl,hbw⟩
   rw [if_neg c2] at hq;have b2:(((ax s n).toNat:Int) == 10)=false:=by simp;omega
   by_cases c3:(ax s n).toNat=92
   ·rw [if_pos c3] at hq;have b3:(((ax s n).toNat:Int) == 92)=true:=by simp;omega
    by_cases hlt2:n+1 < s.size
    ·have hg2:=zq hlt2;by_cases c4:(ax s (n+1)).toNat≠34/\(ax s (n+1)).toNat≠92
     ·rw [if_pos c4] at hq;have b4:(((n:Int)+1) == (s.size:Int))=false:=by simp;omega
      have b5:(((ax s (n+1)).toNat:Int) != 34)=true:=by simp;omega
      have b6:(((ax s (n+1)).toNat:Int) != 92)=true:=by simp;omega
      go_wp2
      (try simp only [Exit.inBlock,Exit.then]);refine bodyPost_ret (results_tmp3 rfl _ _ _) rfl ?_
      exact⟨by rw [<- hq];rfl,hbw⟩
     ·rw [if_neg c4,sub_one hlt2] at hq;have b4:(((n:Int)+1) == (s.size:Int))=false:=by simp;omega
      have c6:(ax s (n+1)).toNat=34\/(ax s (n+1)).toNat=92:=by omega
      rcases c6 with c5|c5
      ·have b5:(((ax s (n+1)).toNat:Int) != 34)=false:=by simp;omega
       go_wp2_with (go_at_call 93;refine(vd w.heap.size _ _ _ hI (by rw [Lib.byteCells_length];omega) hsz).mono ?_)
       rintro e W1 ⟨rfl,h1',k1⟩
       go_wp2
       go_roundw
       case rel=>
        refine⟨n+2,l ++ [ax s (n+1)],by simp;omega,by omega,?_,hbw.trans k1,hq,by rw [List.length_append,List.length_singleton];omega,by omega⟩;rw [Lib.byteCells_append];have e9:Lib.byteCells [ax s (n+1)]=[.int .u8 ((ax s (n+1)).toNat:Nat)]:=rfl;rw [e9];first|exact h1'|(rw [c5];exact h1')
       case measure=>
        simp [intOf];omega
      ·have b5:(((ax s (n+1)).toNat:Int) != 34)=true:=by simp;omega
       have b6:(((ax s (n+1)).toNat:Int) != 92)=false:=by simp;omega
       go_wp2_with (go_at_call 93;refine(vd w.heap.size _ _ _ hI (by rw [Lib.byteCells_length];omega) hsz).mono ?_)
       rintro e W1 ⟨rfl,h1',k1⟩
       go_wp2
       go_roundw
       case rel=>
        refine⟨n+2,l ++ [ax s (n+1)],by simp;omega,by omega,?_,hbw.trans k1,hq,by rw [List.length_append,List.length_singleton];omega,by omega⟩;rw [Lib.byteCells_append];have e9:Lib.byteCells [ax s (n+1)]=[.int .u8 ((ax s (n+1)).toNat:Nat)]:=rfl;rw [e9];first|exact h1'|(rw [c5];exact h1')
       case measure=>
        simp [intOf];omega
    ·have hz:ax s (n+1)=0:=bU A8;rw [hz,if_pos B3] at hq;have b4:(((n:Int)+1) == (s.size:Int))=true:=by simp;omega
     go_wp2
     (try simp only [Exit.inBlock,Exit.then]);refine bodyPost_ret (results_tmp3 rfl _ _ _) rfl ?_
     exact⟨by rw [<- hq];rfl,hbw⟩
   ·rw [if_neg c3,sub_one hlt] at hq;have b3:(((ax s n).toNat:Int) == 92)=false:=by simp;omega
    go_wp2_with (go_at_call 93;refine(vd w.heap.size _ _ _ hI (by rw [Lib.byteCells_length];omega) hsz).mono ?_)
    rintro e W1 ⟨rfl,h1',k1⟩
    go_wp2
    go_roundw
    case rel=>
     refine⟨n+1,l ++ [ax s n],by simp,by omega,?_,hbw.trans k1,hq,by rw [List.length_append,List.length_singleton];omega,by omega⟩;rw [Lib.byteCells_append];have e9:Lib.byteCells [ax s n]=[.int .u8 ((ax s n).toNat:Nat)]:=rfl;rw [e9];exact h1'
    case measure=>
     simp [intOf];omega
  ·rw [dv,O4 hlt] at hq
   go_wp2
   (try simp only [Exit.inBlock,Exit.then]);refine bodyPost_ret (results_tmp3 rfl _ _ _) rfl ?_
   exact⟨by rw [<- hq];rfl,hbw⟩
end Go.Proofs
namespace Go.Ev
open Go.Proofs
theorem Bp {P:Program}{q:FuncId}{l:List Value}{f:Bool}{v:Value}{t:T}(hq:jo P q)(hr:∀S,gD S t v)
  (h:∀(w:World),Calls P q l.toArray w fun e w'=>e=.returned v/\RowKit.Below w.heap.size w w'):Ok P q (l.map T.af) f t:=by
 refine⟨hq,fun S w args hS hgl hargs=>?_⟩;rw [wG hargs];refine(h w).mono fun e w' he=>?_
 obtain⟨rfl,hb⟩:=he;exact⟨v,fun _ _=>none,rfl,hb,(fun _ _ _ hc=>by cases hc),hr _⟩
theorem Ls (s:ByteArray)(hs:s.size<=1073741824):Ok Tryz.prog 82 [gG s] true (.ba [.af (.string (dv s 1 ⟨#[]⟩).2.1),.af (.int .i64 ((dv s 1 ⟨#[]⟩).1:Nat)),.af (.bool (dv s 1 ⟨#[]⟩).2.2)]):=by
 refine Bp (l:=[.string s]) ⟨_,Tryz.func82,rfl,rfl⟩ (fun S=>?_) (fun w=>By s w hs);refine .ba _ _ rfl (fun j us h=>?_) (fun j u c h1 h2=>?_)
 ·match j with
  |0=>simp at h
  |1=>simp at h
  |2=>simp at h
  |j+3=>simp at h
 ·match j with
  |0=>simp at h1 h2;subst h1;subst h2;exact .af _ rfl
  |1=>simp at h1 h2;subst h1;subst h2;exact .af _ rfl
  |2=>simp at h1 h2;subst h1;subst h2;exact .af _ rfl
  |j+3=>simp at h1
def IJ (k:Int)(w:ByteArray)(l c:Int):V:=.agg [.af (.int .i8 k),.af (.string w),.af (.int .i64 l),.af (.int .i64 c)]
def nU (k:Int)(w:ByteArray)(l c:Int):Obj:=⟨4,[IJ k w l c],0,true⟩
def xd (f:dy):V:=.ro true (.jq 87 (.ptr (rF f)))
def my (f:dy):V:=.ba [IJ 0 eS 0 0,xd f]
theorem oN (k:Int)(w:ByteArray)(l c:Int):(IJ k w l c).flat:=by
 intro v hv;simp at hv;rcases hv with rfl|rfl|rfl|rfl<;>trivial
theorem iU (k:Int)(w:ByteArray)(l c:Int):∀e ∈ (nU k w l c).el,e.flat:=fm (oN k w l c)
theorem Vh {oh oh1:OH}{id:Nat}{f:dy}(ho:ae oh id=some ⟨4,[.agg [.af (.int .i64 f.code),.af (.int .i64 f.line),.af (.int .i64 f.Ae),.af (.string f.word)]],0,true⟩)(hd:ae oh1 id=none) :
  Lc oh oh1 (.wr (.jq 87) id 0 0 0) (xd f):=by
 refine Lc.vM true _ (.jq 87 (.ptr (rF f))) (iT.jq _ id 0 0 0 _ (iT.ref id 0 0 0 _ _ _ ho hd rfl rfl rfl rfl fun j v u h1 h2=>?_))
 match j with
 |0=>simp [V.cells] at h1;simp [rF] at h2;subst h1;subst h2;exact .af _
 |1=>simp [V.cells] at h1;simp [rF] at h2;subst h1;subst h2;exact .af _
 |2=>simp [V.cells] at h1;simp [rF] at h2;subst h1;subst h2;exact .af _
 |3=>simp [V.cells] at h1;simp [rF] at h2;subst h1;subst h2;exact .af _
 |j+4=>simp [V.cells] at h1
theorem PH (k:Int)(w:ByteArray)(l c:Int)(code:Int)(word:ByteArray) :
  jP Tryz.prog 79 [(0,nU k w l c)] [] [.af (.int .i64 code),.af (.string word),.ref 0 0 0 0] [] (my ⟨code,l,c,word⟩):=by
 refine di bN mix 3 (zO rfl) Tryz.func79 rfl rfl B1 B1 (zO rfl) ?wf ?vs ?po ?le ?_
 case wf=>
  intro i o h;obtain⟨rfl,rfl⟩:=aR h;exact⟨rfl,rfl,fun v hv=>(iU k w l c v hv).cl _⟩
 case vs=>exact Jv trivial trivial rfl
 case po=>intro i o h;simp [ae] at h
 case le=>
  intro i o o' h1 h2 h3 h4;obtain⟨rfl,rfl⟩:=aR h1;obtain⟨-,rfl⟩:=aR h2;exact⟨rfl,wU _⟩
 repeat'(first|(with_reducible first|(refine zz ?_;try intro K hK)|refine zi ?_|refine zh ?_)|((first|apply hK _ _ rfl|apply hK);clear hK K)|(guard_hyp hK;first|refine zx ?_|apply ab|apply aa|refine zW ?_|intro b0 hb)|((first|refine zj ?_|guard_hyp hK);refine zY ?_ ?_;all_goals(intro hb;(try simp only [sn,sb] at hb);try exact ao)))
 refine⟨trivial,true,⟨Tryz.f79.ntmps,[(2,.ref 0 0 0 0),(5,.ref 1 0 0 0),(6,xd ⟨code,l,c,word⟩)],[(0,nU k w l c),(1,nU 0 eS 0 0)]⟩,?_,?_,?_,?_⟩
 ·exact bx ⟨Lc.same _ rfl,Lc.same _ rfl,Vh rfl rfl,trivial⟩ ⟨au rfl (iU _ _ _ _),au rfl (iU _ _ _ _),trivial⟩
 ·intro i o o' h1 h2 h3;obtain⟨rfl,rfl⟩:=aR h1;exact⟨D0 _,⟨_,rfl,rfl,rfl,rfl⟩,2,_,by decide,rfl,rfl,⟨rfl,rfl⟩⟩
 ·intro i o h;obtain⟨rfl,rfl⟩:=aR h;refine⟨_,rfl,rfl,rfl,rfl,rfl,fun k e e1 h1 h2=>?_⟩;rw [h1] at h2;obtain rfl:e=e1:=by simpa using h2
  exact jk (iU _ _ _ _ e (MH h1))
 ·refine AY (l:=[.af (.int .i8 0),.af (.string eS),.af (.int .i64 0),.af (.int .i64 0)]) nV rfl (D0 _) rfl rfl ⟨_,_,rfl,jk (oN 0 eS 0 0),mO.ro _ _⟩
theorem iY {C:CT}{q:FuncId}{args:List V}{oh:OH}{k:Int}{w:ByteArray}{l c code:Int}{word:ByteArray}{K:Acc->Prop}(id:Nat)(hc:C q [] (.gen [(0,nU k w l c)] [] [.af (.int .i64 code),.af (.string word),.ref 0 0 0 0] [] (my ⟨code,l,c,word⟩)))
  (ha:args=[.af (.int .i64 code),.af (.string word),.ref id 0 0 0]) (hp:ae oh id=some (nU k w l c))
  (hk:K ⟨[(id,nU k w l c)],[],[],my ⟨code,l,c,word⟩⟩):oH C q args oh K:=by
 have e1:∀m vo,vo 0=0->(nU k w l c).rn m vo 0=nU k w l c:=by
  intro m vo h;show Obj.mk 4 [(IJ k w l c).oI m vo] (vo 0+0) true=_;rw [oX _ _ (oN k w l c),h];rfl
 refine⟨_,_,_,_,_,fun _=>id,fun _=>0,hc,by rw [ha];rfl,fun p hp'=>?_,fun i hi=>by simp at hi,fun i hi j hj _=>?_,?_⟩
 ·obtain rfl:=HQ.1 hp';show ae oh id=some ((nU k w l c).rn _ _ 0);rw [e1 _ _ rfl];exact hp
 ·have h1:i=0:=by simpa using hi
  have h2:j=0:=by simpa using hj
  rw [h1,h2]
 ·have:pN (fun _=>id) (fun _=>0) [(0,nU k w l c)]=[(id,nU k w l c)]:=by
   show [(id,(nU k w l c).rn _ _ 0)]=_;rw [e1 _ _ rfl]
  rw [this];exact hk
end Go.Ev
namespace Go.Proofs
open Go.RowKit Go.Ev
set_option maxHeartbeats 4000000 in
set_option maxRecDepth 1000000 in
theorem Eh (s:ByteArray)(w:World)(hs:s.size<=1073741824) :
  Calls Tryz.prog 99 #[.string s] w fun e w'=>e=.returned (.int .i64 (ar ak s 0:Nat))/\Below w.heap.size w w':=by
 go_enter Tryz.func99,Tryz.ntmps99
 go_wp2
 go_loopw [3] (fun i wr=>∃n:Nat,i=.int .i64 (n:Nat)/\wr.heap[w.heap.size]?=some (.stringIter s n)/\Below w.heap.size w wr/\n<=s.size/\n+ar ak s n=ar ak s 0)
  (fun i _=>s.size - (intOf i).toNat)
 case atStart=>
  refine⟨0,rfl,?_,?_,C0 _,C2 _⟩
  ·have:=World.iter_heap w s 0;simpa using this
  ·first|exact(Below.refl _ w).alloc (wU _) _|(have h9:=(Below.refl w.heap.size w).alloc (wU _) (.stringIter s 0);exact h9)
 case round=>
  obtain⟨n,rfl,hit,hbw,hn,hr⟩:=hrel;by_cases hp:n < s.size
  ·have hnx:∀ty,(Instr.next (.pointer (some ⟨w.heap.size,0,none⟩)) true ty).run Tryz.prog wr=_:=fun ty=>Lib.run_next_any_at wr w.heap.size s n ty hit hp
   have hg:=zq hp;have hit2:=Lib.iterAt_heap wr w.heap.size s n (n+(Utf8.decode s n).2) hit;have hbw2:=Lib.below_iterAt hbw (k:=w.heap.size) (wU _) s (n+(Utf8.decode s n).2)
   cases hD:ak (ax s n) with
   |true=>
    have hd2:=hD;unfold ak at hd2;simp only [C7,E5] at hd2;have he:=decode_ascii s n hp (by rw [hg];omega);have e1:(Utf8.decode s n).1=(ax s n).toNat:=by rw [he,hg]
    have e2:(Utf8.decode s n).2=1:=by rw [he]
    rw [fj hp hD] at hr;have b1:(decide (((Utf8.decode s n).1:Int) < 48))=false:=by rw [e1];simp;omega
    have b2:(decide (((Utf8.decode s n).1:Int) > 57))=false:=by rw [e1];simp;omega
    rw [e2] at hit2 hbw2
    go_wp2
    all_goals first|(exfalso;omega)|exact⟨⟨n+1,by simp,hit2,hbw2,hp,by rw [<- hr];omega⟩,by simp [intOf];omega⟩
   |false=>
    rw [na hp hD,H8] at hr
    have hlo:(Utf8.decode s n).1 < 48\/57 < (Utf8.decode s n).1:=by
     by_cases h9:(ax s n).toNat < 128
     ·have he:=decode_ascii s n hp (by rw [hg];exact h9);have e1:(Utf8.decode s n).1=(ax s n).toNat:=by rw [he,hg]
      unfold ak at hD;simp only [S9,K6] at hD;omega
     ·have:=(decode_high s n hp (by rw [hg];omega)).1;omega
    subst hr
    go_wp2
    all_goals first|(exfalso;omega)|(go_ret;exact⟨rfl,hbw2⟩)
  ·have hnx:∀ty,(Instr.next (.pointer (some ⟨w.heap.size,0,none⟩)) true ty).run Tryz.prog wr=_:=fun ty=>Lib.run_next_end_at wr w.heap.size s n ty hit hp
   rw [lT A8,H8] at hr;subst hr
   go_wp2
   go_ret
   exact⟨rfl,hbw⟩
end Go.Proofs
namespace Go.Ev
open Go.Proofs
theorem zk (s:ByteArray)(hs:s.size<=1073741824):Ok Tryz.prog 99 [gG s] true (.af (.int .i64 (ar ak s 0:Nat))):=
 Bp (l:=[.string s]) ⟨_,Tryz.func99,rfl,rfl⟩ (fun S=>.af _ rfl) (fun w=>Eh s w hs)
theorem Se {P:Program}{fn:Func}{f:Bool}{s:St}{b tb c i1 v1 z1:Nat}{l2:List V}{t1:T}{x:Value}{fs2:List (Nat×Nat)}{y2:List Value}
  (hr:fn.results.toList=[.cell b tb,.tmp c])
  (ht2:tk P tb=.st fs2 y2) (hz2:y2.length=l2.length) (h02:0 < l2.length) (ha2:aA s.env b=.ref i1 v1 0 0) (ho2:ae s.oh i1=some ⟨z1,[.agg l2],v1,true⟩) (hf:gM s.oh f (.agg l2) t1) (hc:aA s.env c=.af x) :
  kz P fn f (.ba [t1,.af x]) .ret s:=by
 refine⟨trivial,?_⟩;rw [hr]
 have h:ef P s (.cell b tb) (fun v=>ef P s (.tmp c) (fun u=>∃r1 r2,T.ba [t1,.af x]=.ba [r1,r2]/\gM s.oh f v r1/\gM s.oh f u r2)):=
  AY ht2 hz2 h02 ha2 ho2 ⟨_,_,rfl,hf,by rw [hc];exact jF.af x⟩
 exact h
theorem LN {oh:OH}(z:Int)(d:Nat):gM oh true (.agg [.af (.bool (decide (z < 0))),.ro true (tn (lm z.natAbs)),.ro true (tn (lm d))]) (tA z d):=by
 refine⟨rfl,fun j v t h1 h2=>?_⟩
 match j with
 |0=>simp at h1;simp [tA] at h2;subst h1;subst h2;exact .af _
 |1=>simp at h1;simp [tA] at h2;subst h1;subst h2;exact .ro true _ fun h=>h
 |2=>simp at h1;simp [tA] at h2;subst h1;subst h2;exact .ro true _ fun h=>h
 |j+3=>simp at h1
def WY : Obj:=⟨3,[.agg [.af (.bool false),.emp,.emp]],0,true⟩
theorem Ek (oh:OH):∀v ∈ WY.el,v.cl oh:=by
 intro v hv;obtain rfl:=HQ.1 hv;intro v hv;simp at hv;rcases hv with rfl|rfl<;>trivial
def oF (w:ByteArray):ByteArray:=if vG w then(w.extract 0 (aI w)).extract (fb w+1) (w.extract 0 (aI w)).size else⟨#[]⟩
section
variable {w : ByteArray} (h : lu w)
include h
theorem xX : (w.extract 0 (aI w)).size=aI w:=by rw [dQ iM];omega
theorem Kg {j:Nat}(hj:j < aI w):ax (w.extract 0 (aI w)) j=ax w j:=by rw [cI A8,C2]
theorem zu : (oF w).size=lJ w:=by
 have h1:=ur h;unfold oF;by_cases c:vG w
 ·rw [if_pos c] at h1 |-;rw [dQ (wU _),xX h];omega
 ·rw [if_neg c];unfold lJ;rw [if_neg c];rfl
theorem MF : bs (oF w)=((bs w).drop (fb w+1)).take (lJ w):=by
 have h1:=ur h;unfold oF;by_cases c:vG w
 ·rw [if_pos c] at h1 |-;rw [cZ,xX h,cZ,T6,F4,Q4,J3,I5 (wU _)]
  congr 1;omega
 ·rw [if_neg c];unfold lJ;rw [if_neg c,Q3];rfl
theorem ML : bs ((w.extract 0 (aI w)).extract 0 (fb w))=(bs w).take (fb w):=by
 have h1:=ur h;rw [cZ,cZ,F4,F4,J3]
 congr 1;omega
theorem zR : ((w.extract 0 (aI w)).extract 0 (fb w)).size=fb w:=by
 have h1:=ur h;rw [dQ (by rw [xX h];omega)];omega
theorem Ql : jM ((w.extract 0 (aI w)).extract 0 (fb w)):=by
 intro j hj;rw [zR h] at hj;have h1:=ur h;rw [cI A8,Kg h A8,C2];exact Ss h hj
theorem Qc : jM (oF w):=by
 intro j hj;rw [zu h] at hj;have h1:=ur h;by_cases c:vG w
 ·rw [if_pos c] at h1;unfold oF;rw [if_pos c,cI (by rw [xX h];omega),Kg h A8];exact OS h c hj
 ·unfold lJ at hj;rw [if_neg c] at hj;omega
theorem zM : bs ((w.extract 0 (aI w)).extract 0 (fb w) ++ oF w)=dH w:=by
 have e:bs ((w.extract 0 (aI w)).extract 0 (fb w) ++ oF w)=bs ((w.extract 0 (aI w)).extract 0 (fb w)) ++ bs (oF w):=by
  unfold bs;rw [Q7,S1]
 rw [e,ML h,MF h];rfl
theorem OW : cg ((w.extract 0 (aI w)).extract 0 (fb w) ++ oF w)=some (eg (dH w)):=by
 have h1:=Lm h;have hl:((w.extract 0 (aI w)).extract 0 (fb w) ++ oF w).size=fb w+lJ w:=by rw [B8,zR h,zu h]
 rw [pj A8,zM h];intro i hi;rw [hl] at hi;by_cases hlt:i < fb w
 ·have e:ax ((w.extract 0 (aI w)).extract 0 (fb w) ++ oF w) i=ax ((w.extract 0 (aI w)).extract 0 (fb w)) i:=by
   unfold ax;rw [zM h,ML h,List.getD,List.getD,dH,C5 (by rw [List.length_take,aU];have:=wO h;omega)]
  rw [e];exact Ql h i (by rw [zR h];exact hlt)
 ·have e:ax ((w.extract 0 (aI w)).extract 0 (fb w) ++ oF w) i=ax (oF w) (i - fb w):=by
   unfold ax;rw [zM h,MF h,List.getD,List.getD,dH,IX (by rw [List.length_take,aU];have:=wO h;omega),List.length_take,aU,I5 (wO h)]
  rw [e];exact Qc h _ (by rw [zu h];omega)
theorem JC (c:eM w):(w.extract (aI w+1) w.size).size=w.size - (aI w+1):=dQ (wU _)
end
end Go.Ev
namespace Go.Ev
open Go.Proofs
section
variable {w : ByteArray} (h : lu w)
include h
theorem Uc {k n:Nat}(hk:k+n=w.size):w.extract k w.size=sub w k n:=by
 unfold sub;rw [hk]
theorem CJ (c:eM w):ax (w.extract (aI w+1) w.size) 0=ax w (aI w+1):=by
 obtain⟨h1,h2,h3,h4⟩:=HP h c;rw [cI A8]
theorem UY (c:eM w):jM (w.extract (bJ w) w.size)/\eg (bs (w.extract (bJ w) w.size))=mC w/\1<=(w.extract (bJ w) w.size).size:=by
 obtain⟨h1,h2,h3,h4⟩:=HP h c;rw [Uc h h2];refine⟨Km A8,rfl,?_⟩;rw [so (R5 h2)];exact h3
theorem Ue (c:eM w)(hk:bJ w=aI w+2):(w.extract (aI w+1) w.size).extract 1 (w.extract (aI w+1) w.size).size=w.extract (bJ w) w.size:=by
 refine qX ?_;obtain⟨h1,h2,h3,h4⟩:=HP h c;rw [cZ,JC h c,cZ,cZ,Q4,L4,J3,hk]
 congr 1
 omega
theorem ND (c:eM w):∃(U U1:ByteArray),U=w.extract (aI w+1) w.size/\0 < U.size/\
  (((ax U 0).toNat=45\/(ax U 0).toNat=43)->U1=U.extract 1 U.size)/\(¬((ax U 0).toNat=45\/(ax U 0).toNat=43)->U1=U)/\
  jM U1/\eg (bs U1)=mC w/\1<=U1.size/\U1.size<=w.size/\lI w=(if(ax U 0).toNat=45 then -(mC w:Int) else mC w):=by
 obtain⟨h1,h2,h3,h4⟩:=HP h c;obtain⟨k1,k2,k3⟩:=UY h c;have hl:=JC h c;have hX:lI w=(if(ax w (aI w+1)).toNat=45 then -(mC w:Int) else mC w):=if_pos c;refine⟨w.extract (aI w+1) w.size,w.extract (bJ w) w.size,rfl,by omega,fun e=>?_,fun e=>?_,k1,k2,k3,by rw [dQ (wU _)];omega,by rw [CJ h c];exact hX⟩
 ·rw [CJ h c] at e;exact(Ue h c (if_pos (e.elim .inr .inl))).symm
 ·rw [CJ h c] at e;have hK:bJ w=aI w+1:=if_neg (fun e2=>e (e2.elim .inr .inl));rw [hK]
end
theorem wT {a b:ByteArray}(h:a=b):V.af (.string a)=V.af (.string b):=by rw [h]
end Go.Ev
namespace Go.Ev
open Go.Proofs
theorem Qq (a b:List UInt32)(ha:a.length<=2147483648)(hb9:b.length<=2147483648):Ok Tryz.prog 137 [tn a,tn b] true (tn (lm (Nat.gcd (val a) (val b)))):=by
 have hna:=norm_le a;have hnb:=norm_le b;refine aw bN mix Tryz.func137 rfl rfl B1 (zO rfl) ?_
 repeat'(first|(with_reducible first|(refine zz ?_;try intro K hK)|refine zi ?_|refine zh ?_)|((first|apply hK _ _ rfl|apply hK);clear hK K)|(guard_hyp hK;first|refine zy ?_|apply ab|apply aa|(refine aY ?_;intro hu)|refine zP wA ?_|(refine aD ?_;intro hm1 hm2)|refine zP aZ ?_|refine zP rfl ?_|(refine zQ (iu a A8) ?_)|(refine zQ (iu b A8) ?_)|intro b0 hb)|((first|refine zj ?_|guard_hyp hK);refine zY ?_ ?_;all_goals(intro hb;(try simp only [sn,sb] at hb);try exact ao)))
 rw [bL] at hna hnb;refine aT (Nat×Nat) (fun(A,B)=>⟨Tryz.f137.ntmps,[(0,.ro true (tn (lm A))),(1,.ro true (tn (lm B)))],[]⟩) (fun(A,B)=>Nat.gcd A B=Nat.gcd (val a) (val b)/\(lm A).length<=2147483648/\(lm B).length<=2147483648) (fun(A,B)=>B) [] (val a,val b) trivial ⟨rfl,by omega,by omega⟩ ⟨rfl,⟨?_,trivial,?_,trivial,trivial⟩,trivial,trivial⟩ ?_
 ·show V.ro true (tn (norm a))=_;rw [bL]
 ·show V.ro true (tn (norm b))=_;rw [bL]
 rintro⟨A,B⟩ ⟨h1,h2,h3⟩;by_cases hB:B=0
 ·subst hB;have e0:(lm 0).length=0:=by rw [(gV 0).2 rfl];rfl
  repeat'(first|(with_reducible first|(refine zz ?_;try intro K hK)|refine zi ?_|refine zh ?_)|((first|apply hK _ _ rfl|apply hK);clear hK K)|(guard_hyp hK;first|refine zy ?_|apply ab|apply aa|(refine aY ?_;intro hu)|refine zP wA ?_|(refine aD ?_;intro hm1 hm2)|refine zP aZ ?_|refine zP rfl ?_|intro b0 hb)|((first|refine zj ?_|guard_hyp hK);refine zY ?_ ?_;all_goals(intro hb;(try simp only [sn,sb] at hb);try exact ao)))
  refine UO trivial (kr ?_ fun h=>h);rw [<- h1,Nat.gcd_zero_right]
 ·have hd:=rf (lm A) (lm B) h2 h3 (by rw [bM];exact hB);rw [bM,bM] at hd;have hp:(lm B).length≠0:=fun e=>hB ((gV B).1 (C8 e))
  repeat'(first|(with_reducible first|(refine zz ?_;try intro K hK)|refine zi ?_|refine zh ?_)|((first|apply hK _ _ rfl|apply hK);clear hK K)|(guard_hyp hK;first|refine zy ?_|apply ab|apply aa|(refine aY ?_;intro hu)|refine zP wA ?_|(refine aD ?_;intro hm1 hm2)|refine zP aZ ?_|refine zP rfl ?_|(refine zQ (hd) ?_)|intro b0 hb)|((first|refine zj ?_|guard_hyp hK);refine zY ?_ ?_;all_goals(intro hb;(try simp only [sn,sb] at hb);try exact ao)))
  have hlt:=J9 A (I9 hB);have:=wW hlt;exact⟨(B,A % B),⟨by rw [<- h1,Nat.gcd_comm B,<- Nat.gcd_rec,Nat.gcd_comm],h3,by omega⟩,hlt,rfl,⟨rfl,trivial,rfl,trivial,trivial⟩,trivial,trivial⟩
theorem Jg (n:Bool)(m:List UInt32)(hm:m.length<=2199023255552):Ok Tryz.prog 139 [tI n m] true (tZ (iv n m)):=by
 refine aw bN mix Tryz.func139 rfl rfl B1 (zO rfl) ?_
 repeat'(first|(with_reducible first|(refine zz ?_;try intro K hK)|refine zi ?_|refine zh ?_)|((first|apply hK _ _ rfl|apply hK);clear hK K)|(guard_hyp hK;first|refine zy ?_|apply ab|apply aa|(refine aY ?_;intro hu)|refine zP wA ?_|(refine aD ?_;intro hm1 hm2)|refine zP aZ ?_|refine zP rfl ?_|(refine zQ (UI n m hm) ?_)|intro b0 hb)|((first|refine zj ?_|guard_hyp hK);refine zY ?_ ?_;all_goals(intro hb;(try simp only [sn,sb] at hb);try exact ao)))
 exact lU (l:=[V.af (.bool (decide (iv n m < 0))),.ro true (tn (lm (iv n m).natAbs))]) rfl RB rfl (D0 _) rfl rfl (WN _)
theorem HS (n:Bool)(a d:List UInt32)(hd:val d≠0)(ha:a.length<=2147483648)(hl:d.length<=2147483648):Ok Tryz.prog 122 [.af (.bool n),tn a,tn d] true (tQ (iv n a) (val d)):=by
 have hg0:Nat.gcd (val a) (val d)≠0:=fun h=>hd (Nat.eq_zero_of_gcd_eq_zero_right h)
 have hgd:Nat.gcd (val a) (val d)<=val d:=Nat.le_of_dvd (I9 hd) (Nat.gcd_dvd_right _ _);have hgl:=fL hgd;have hdl:=kQ d;have hal:=kQ a;have h1:=Qq a d ha hl;have h2:=rf a (lm (Nat.gcd (val a) (val d))) ha A8 (by rw [bM];exact hg0);have h3:=rf d (lm (Nat.gcd (val a) (val d))) hl A8 (by rw [bM];exact hg0);rw [bM] at h2 h3;have hm:=fL (X2 (val a) (Nat.gcd (val a) (val d)));have h4:=Jg n (lm (val a / Nat.gcd (val a) (val d))) A8;rw [SF,UZ] at h4;have e1:qz (iv n a) (val d)=(iv n a).tdiv (Nat.gcd (val a) (val d)):=by unfold qz;rw [LF]
 have e2:qd (iv n a) (val d)=val d / Nat.gcd (val a) (val d):=by unfold qd;rw [LF]
 rw [<- e1] at h4;refine aw bN mix Tryz.func122 rfl rfl B1 (zO rfl) ?_
 repeat'(first|(with_reducible first|(refine zz ?_;try intro K hK)|refine zi ?_|refine zh ?_)|((first|apply hK _ _ rfl|apply hK);clear hK K)|(guard_hyp hK;first|refine zy ?_|apply ab|apply aa|(refine aY ?_;intro hu)|refine zP wA ?_|(refine aD ?_;intro hm1 hm2)|refine zP aZ ?_|refine zP rfl ?_|(refine zQ (h1) ?_)|(refine zQ (h2) ?_)|(refine zQ (h3) ?_)|(refine zQ (h4) ?_)|intro b0 hb)|((first|refine zj ?_|guard_hyp hK);refine zY ?_ ?_;all_goals(intro hb;(try simp only [sn,sb] at hb);try exact ao)))
 rw [<- e2];exact lU (l:=[V.af (.bool (decide (qz (iv n a) (val d) < 0))),.ro true (tn (lm (qz (iv n a) (val d)).natAbs)),.ro true (tn (lm (qd (iv n a) (val d))))]) rfl NB rfl (D0 _) rfl rfl Fp
end Go.Ev
