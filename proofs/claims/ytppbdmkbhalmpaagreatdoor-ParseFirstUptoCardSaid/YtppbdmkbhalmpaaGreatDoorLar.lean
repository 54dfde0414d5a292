import Derived.Test.YtppbdmkbhalmpaaGreatDoorLag
import Derived.Test.YtppbdmkbhalmpaaGreatDoorLap
import Derived.WalkKit
import Derived.BigCall
import Derived.OwnWalk
import Derived.Lib.FrozenHead2
import Derived.Laws.Externs
import Derived.Test.YtppbdmkbhalmpaaGreatDoorLaq
import Derived.Test.YtppbdmkbhalmpaaGreatDoorLaj
import Derived.Test.YtppbdmkbhalmpaaGreatDoorLak
import Derived.Lib.OthersKept
import Derived.Laws.RangeAny
import Derived.Test.YtppbdmkbhalmpaaGreatDoorLao
set_option linter.all false
set_option maxHeartbeats 8000000
set_option maxRecDepth 100000
namespace Go.Proofs
open Go.RowKit Go.Ev
theorem chr_get {s:ByteArray}{i:Nat}(h:i < s.size):s[i]=chr s i:=by
 have h2:i < s.data.toList.length:=by rw [Array.length_toList];exact h
 show s.data[i]=s.data.toList.getD i 0
 rw [List.getD,List.getElem?_eq_getElem h2,Array.getElem_toList];rfl
theorem sub_one {s:ByteArray}{i:Nat}(h:i < s.size)(l:List UInt8):(⟨l.toArray⟩:ByteArray) ++ sub s i 1=⟨(l ++ [chr s i]).toArray⟩:=by
 refine ByteArray.ext (Array.toList_inj.1 ?_)
 rw [ByteArray.data_append,Array.toList_append]
 have e2:(sub s i 1).data.toList=((bs s).drop i).take 1:=sub_bs s i 1
 rw [e2,drop_at h]
 simp
theorem bld_first (b:Nat)(v:Value)(w:World)(hb:w.heap[b]?=some (.cells #[.pointer none,v] 150 (0,0))) :
  Calls Tryz.prog 81 #[.pointer (some ⟨b,0,none⟩)] w fun e w'=>e=.returned (.tuple #[])∧w'=w.setCell ⟨b,0,none⟩ (.pointer (some ⟨b,0,none⟩)):=by
 have hp:Tryz.prog.underlying 147=some (.pointer 150):=by kernel_rfl
 have hu:Tryz.prog.underlying 96=some .unsafePointer:=by kernel_rfl
 have hz:(Tryz.prog.info? 150).map (·.size)=some 2:=by kernel_rfl
 have hlies:liesAt Tryz.prog Tryz.prog.depth 150 (2 / Tryz.prog.cellsOf 150) 0 150 1=true:=by kernel_rfl
 obtain⟨j,hj,hjs⟩:=Option.map_eq_some_iff.1 hz
 have c0:w.cell? ⟨b,0,none⟩=some (.pointer none):=by simp [World.cell?,hb]
 have f0:w.frozen? ⟨b,0,none⟩=false:=by simp [World.frozen?,hb]
 have hsh:w.shape? b=some (150,2):=by simp [World.shape?,hb]
 have k1:=Lib.run_to_unsafe w ⟨b,0,none⟩ hp hu hj (by rw [hjs];decide) hsh (Nat.zero_lt_succ 1)
 have k3:=Lib.run_from_unsafe w ⟨b,0,none⟩ hu hp hj hsh hlies
 have k2:∀w,(callFunc 94 #[.pointer (some ⟨b,0,none⟩)]).run Tryz.prog w=.ok (.value (.pointer (some ⟨b,0,none⟩))) w:=by
  intro w
  rw [@run_callFunc_extern Tryz.prog 94 _ Extern.AbiNoEscape.same Tryz.func94 (by kernel_rfl) (by kernel_rfl) (by kernel_rfl) (by kernel_rfl),Lib.run_noEscape,Result.andThen_ok]
 go_enter Tryz.func81,Tryz.ntmps81
 go_wp2
 go_end0
 exact⟨rfl,rfl⟩
theorem bld_again (b:Nat)(w:World)(c0:w.cell? ⟨b,0,none⟩=some (.pointer (some ⟨b,0,none⟩))) :
  Calls Tryz.prog 81 #[.pointer (some ⟨b,0,none⟩)] w fun e w'=>e=.returned (.tuple #[])∧w'=w:=by
 have hp:Tryz.prog.underlying 147=some (.pointer 150):=by kernel_rfl
 have hz:(Tryz.prog.info? 150).map (·.size)=some 2:=by kernel_rfl
 obtain⟨j,hj,hjs⟩:=Option.map_eq_some_iff.1 hz
 go_enter Tryz.func81,Tryz.ntmps81
 go_wp2
 rw [Lib.run_neq_ptr_same w _ hp hj]
 go_wp2
 go_end0
 exact⟨rfl,rfl⟩
theorem bld_used {b:Nat}{xs:List Value}{w:World}(h:Lib.IsBuilderF 150 5 b b xs w) :
  Calls Tryz.prog 81 #[.pointer (some ⟨b,0,none⟩)] w fun e w'=>e=.returned (.tuple #[])∧Lib.BuilderAtF 150 5 b b (.pointer (some ⟨b,0,none⟩)) xs w'∧Below b w w':=by
 rcases h with h|h
 ·obtain⟨hB,v,hv,hown,hne⟩:=h
  refine(bld_first b v w hv).mono ?_
  rintro e w' ⟨rfl,rfl⟩
  refine⟨rfl,⟨Nat.le_refl _,v,?_,?_,hne⟩,(Below.refl b w).setCell (p:=⟨b,0,none⟩) (Nat.le_refl _) _⟩
  ·simp [World.setCell,Array.getElem?_modify,hv]
  ·exact hown.kept (row:=some b) ⟨rfl,rfl,rfl,by simp [World.setCell],fun k _ hk=>Below.heap_setCell _ _ _ _ (fun e=>hk (by simp [e]))⟩ (Or.inr hne)
 ·have c0:=h.cell0
  refine(bld_again b w c0).mono ?_
  rintro e w' ⟨rfl,rfl⟩
  exact⟨rfl,h,Below.refl b _⟩
theorem bld_byte (b:Nat)(xs:List Value)(c:Int)(w:World)(h:Lib.IsBuilderF 150 5 b b xs w)(hlen:xs.length+1≤140737488355328)(hb:b≤w.heap.size) :
  Calls Tryz.prog 64 #[.pointer (some ⟨b,0,none⟩),.int .u8 c] w fun e w'=>e=.returned .nilIface∧Lib.IsBuilderF 150 5 b b (xs ++ [.int .u8 c]) w'∧Below b w w':=by
 have hsl:Tryz.prog.underlying 148=some (.slice 5):=by kernel_rfl
 have hby:(Tryz.prog.info? 5).map (fun i=>(i.zero,i.size,i.bytes))=some (some (.int .u8 0),1,1):=by kernel_rfl
 obtain⟨i0,hi,hz⟩:=Option.map_eq_some_iff.1 hby
 have hz0:i0.zero=some (.int .u8 0):=congrArg Prod.fst hz
 have hz1:i0.size=1:=congrArg (fun x=>x.2.1) hz
 have hz2:i0.bytes=1:=congrArg (fun x=>x.2.2) hz
 go_enter Tryz.func64,Tryz.ntmps64
 go_wp2_with (go_at_call 81;refine(bld_used h).mono ?_)
 rintro e w1 ⟨rfl,⟨hB,v,hv,hown,hne⟩,k1⟩
 have hs1:=k1.size
 have c1:w1.cell? ⟨b,1,none⟩=some v:=by simp [World.cell?,hv]
 go_wp2_with (at_builtin;go_loud (refine wpList_append_ownF _ rfl _ _ 148 rfl b 5 i0 (.int .u8 0) 1 1 hsl hi hz0 hz1 hz2 rfl Nat.one_pos v xs.length xs rfl (hown.alloc _) ⟨w1.heap.size,0,none⟩ 1 1 [.int .u8 c] rfl rfl ?q1 ?q2 ?q3 ?q4 ?q5 ?_))
 case q1=>
  intro j u hj
  match j,hj with
  |0,hj=>simp at hj;subst hj;simp [Addr.add]
 case q2=>intro u hu;simp at hu;subst hu;rfl
 case q3=>unfold maxLen;omega
 case q4=>omega
 case q5=>simp;omega
 intro v' w2 hown' hgrow _
 have hlt:b < w1.heap.size:=(Array.getElem?_eq_some_iff.1 hv).1
 have hv2:w2.heap[b]?=some (.cells #[.pointer (some ⟨b,0,none⟩),v] 150 (0,0)):=by
  rw [hgrow.block b (by simp;omega) (fun e=>hne e.symm),Lib.alloc_old w1 _ b hlt]
  exact hv
 have d0:w2.cell? ⟨b,0,none⟩=some (.pointer (some ⟨b,0,none⟩)):=by simp [World.cell?,hv2]
 have d1:w2.cell? ⟨b,1,none⟩=some v:=by simp [World.cell?,hv2]
 have f1:w2.frozen? ⟨b,1,none⟩=false:=by simp [World.frozen?,hv2]
 have f0:w2.frozen? ⟨b,0,none⟩=false:=by simp [World.frozen?,hv2]
 obtain⟨ad,cap,rfl⟩:∃ad cap,v'=.slice (some ⟨ad,0,none⟩) (xs.length+1) cap:=by
  rcases hown'.2 with⟨_,h0⟩|⟨ad,cap,cur,fz,he,_⟩
  ·omega
  ·exact⟨ad,cap,he⟩
 go_wp2
 go_ret
 refine⟨rfl,.inr (Lib.BuilderAtF.put (T:=150) (e:=5) (Nat.le_refl b) hv2 (bs':=xs ++ [.int .u8 c]) (by simpa using hown') (by decide)),?_⟩
 exact((k1.alloc (by omega) _).grown hgrow (by simp;omega) (fun k hk=>(hown.lt k hk).1)).setCell (p:=⟨b,1,none⟩) (Nat.le_refl _) _
set_option maxHeartbeats 4000000 in
set_option maxRecDepth 1000000 in
theorem meant_calls (s:ByteArray)(w:World)(hs:s.size≤1073741824) :
  Calls Tryz.prog 54 #[.string s] w fun e w'=>e=.returned (.tuple #[.string (quoF s 1 ⟨#[]⟩).2.1,.int .i64 ((quoF s 1 ⟨#[]⟩).1:Nat),.bool (quoF s 1 ⟨#[]⟩).2.2])∧Below w.heap.size w w':=by
 go_enter Tryz.func54,Tryz.ntmps54
 go_wp2
 go_loopw [6] (fun i wr=>∃(n:Nat) (l:List UInt8),i=.int .i64 (n:Nat)∧1≤n∧Lib.IsBuilderF 150 5 w.heap.size w.heap.size (Lib.byteCells l) wr∧Below w.heap.size w wr∧quoF s n ⟨l.toArray⟩=quoF s 1 ⟨#[]⟩∧l.length≤n∧n≤s.size+2)
  (fun i _=>s.size+2 - (intOf i).toNat)
 case atStart=>
  exact⟨1,[],rfl,Nat.le_refl _,Lib.IsBuilderF.of (Lib.fresh_isBuilder _ _ w),(Below.refl _ w).alloc (Nat.le_refl _) _,rfl,Nat.zero_le _,by omega⟩
 case round=>
  obtain⟨n,l,rfl,h1,hI,hbw,hq,hl,hn⟩:=hrel
  have hsz:=hbw.size
  by_cases hlt:n < s.size
  ·have hg:=chr_get hlt
   rw [quoF,dif_pos hlt] at hq
   by_cases c1:(chr s n).toNat=34
   ·rw [if_pos c1] at hq
    have b1:(((chr s n).toNat:Int) == 34)=true:=by simp;omega
    go_wp2_with (go_at_call 63;refine(Tryz.Builder_String_any_k w.heap.size w.heap.size l _ hI hsz).mono ?_)
    rintro e W1 ⟨rfl,_,k1,_⟩
    go_wp2
    (try simp only [Exit.inBlock,Exit.then]);refine bodyPost_ret (results_tmp3 rfl _ _ _) rfl ?_
    exact⟨by rw [← hq];rfl,hbw.trans k1⟩
   rw [if_neg c1] at hq
   have b1:(((chr s n).toNat:Int) == 34)=false:=by simp;omega
   by_cases c2:(chr s n).toNat=10
   ·rw [if_pos c2] at hq
    have b2:(((chr s n).toNat:Int) == 10)=true:=by simp;omega
    go_wp2
    (try simp only [Exit.inBlock,Exit.then]);refine bodyPost_ret (results_tmp3 rfl _ _ _) rfl ?_
    exact⟨by rw [← hq];rfl,hbw⟩
   rw [if_neg c2] at hq
   have b2:(((chr s n).toNat:Int) == 10)=false:=by simp;omega
   by_cases c3:(chr s n).toNat=92
   ·rw [if_pos c3] at hq
    have b3:(((chr s n).toNat:Int) == 92)=true:=by simp;omega
    by_cases hlt2:n+1 < s.size
    ·have hg2:=chr_get hlt2
     by_cases c4:(chr s (n+1)).toNat≠34∧(chr s (n+1)).toNat≠92
     ·rw [if_pos c4] at hq
      have b4:(((n:Int)+1) == (s.size:Int))=false:=by simp;omega
      have b5:(((chr s (n+1)).toNat:Int) != 34)=true:=by simp;omega
      have b6:(((chr s (n+1)).toNat:Int) != 92)=true:=by simp;omega
      go_wp2
      (try simp only [Exit.inBlock,Exit.then]);refine bodyPost_ret (results_tmp3 rfl _ _ _) rfl ?_
      exact⟨by rw [← hq];rfl,hbw⟩
     ·rw [if_neg c4,sub_one hlt2] at hq
      have b4:(((n:Int)+1) == (s.size:Int))=false:=by simp;omega
      have c6:(chr s (n+1)).toNat=34∨(chr s (n+1)).toNat=92:=by omega
      rcases c6 with c5|c5
      ·have b5:(((chr s (n+1)).toNat:Int) != 34)=false:=by simp;omega
       go_wp2_with (go_at_call 64;refine(bld_byte w.heap.size _ _ _ hI (by rw [Lib.byteCells_length];omega) hsz).mono ?_)
       rintro e W1 ⟨rfl,h1',k1⟩
       go_wp2
       go_roundw
       case rel=>
        refine⟨n+2,l ++ [chr s (n+1)],by simp;omega,by omega,?_,hbw.trans k1,hq,by rw [List.length_append,List.length_singleton];omega,by omega⟩
        rw [Lib.byteCells_append]
        have e9:Lib.byteCells [chr s (n+1)]=[.int .u8 ((chr s (n+1)).toNat:Nat)]:=rfl
        rw [e9]
        first|exact h1'|(rw [c5];exact h1')
       case measure=>
        simp [intOf];omega
      ·have b5:(((chr s (n+1)).toNat:Int) != 34)=true:=by simp;omega
       have b6:(((chr s (n+1)).toNat:Int) != 92)=false:=by simp;omega
       go_wp2_with (go_at_call 64;refine(bld_byte w.heap.size _ _ _ hI (by rw [Lib.byteCells_length];omega) hsz).mono ?_)
       rintro e W1 ⟨rfl,h1',k1⟩
       go_wp2
       go_roundw
       case rel=>
        refine⟨n+2,l ++ [chr s (n+1)],by simp;omega,by omega,?_,hbw.trans k1,hq,by rw [List.length_append,List.length_singleton];omega,by omega⟩
        rw [Lib.byteCells_append]
        have e9:Lib.byteCells [chr s (n+1)]=[.int .u8 ((chr s (n+1)).toNat:Nat)]:=rfl
        rw [e9]
        first|exact h1'|(rw [c5];exact h1')
       case measure=>
        simp [intOf];omega
    ·have hz:chr s (n+1)=0:=chr_end (by omega)
     rw [hz,if_pos (by decide)] at hq
     have b4:(((n:Int)+1) == (s.size:Int))=true:=by simp;omega
     go_wp2
     (try simp only [Exit.inBlock,Exit.then]);refine bodyPost_ret (results_tmp3 rfl _ _ _) rfl ?_
     exact⟨by rw [← hq];rfl,hbw⟩
   ·rw [if_neg c3,sub_one hlt] at hq
    have b3:(((chr s n).toNat:Int) == 92)=false:=by simp;omega
    go_wp2_with (go_at_call 64;refine(bld_byte w.heap.size _ _ _ hI (by rw [Lib.byteCells_length];omega) hsz).mono ?_)
    rintro e W1 ⟨rfl,h1',k1⟩
    go_wp2
    go_roundw
    case rel=>
     refine⟨n+1,l ++ [chr s n],by simp,by omega,?_,hbw.trans k1,hq,by rw [List.length_append,List.length_singleton];omega,by omega⟩
     rw [Lib.byteCells_append]
     have e9:Lib.byteCells [chr s n]=[.int .u8 ((chr s n).toNat:Nat)]:=rfl
     rw [e9]
     exact h1'
    case measure=>
     simp [intOf];omega
  ·rw [quoF,dif_neg hlt] at hq
   go_wp2
   (try simp only [Exit.inBlock,Exit.then]);refine bodyPost_ret (results_tmp3 rfl _ _ _) rfl ?_
   exact⟨by rw [← hq];rfl,hbw⟩
end Go.Proofs
namespace Go.Ev
open Go.Proofs
theorem ok_below {P:Program}{q:FuncId}{l:List Value}{f:Bool}{v:Value}{t:T}(hq:Callable P q)(hr:∀S,RdT S t v)
  (h:∀(w:World),Calls P q l.toArray w fun e w'=>e=.returned v∧RowKit.Below w.heap.size w w'):Ok P q (l.map T.con) f t:=by
 refine⟨hq,fun S w args hS hgl hargs=>?_⟩
 rw [reads_con hargs]
 refine(h w).mono fun e w' he=>?_
 obtain⟨rfl,hb⟩:=he
 exact⟨v,fun _ _=>none,rfl,hb,(fun _ _ _ hc=>by cases hc),hr _⟩
theorem meant_ok (s:ByteArray)(hs:s.size≤1073741824):Ok Tryz.prog 54 [tS9 s] true (.tup [.con (.string (quoF s 1 ⟨#[]⟩).2.1),.con (.int .i64 ((quoF s 1 ⟨#[]⟩).1:Nat)),.con (.bool (quoF s 1 ⟨#[]⟩).2.2)]):=by
 refine ok_below (l:=[.string s]) ⟨_,Tryz.func54,rfl,rfl⟩ (fun S=>?_) (fun w=>meant_calls s w hs)
 refine .tup _ _ rfl (fun j us h=>?_) (fun j u c h1 h2=>?_)
 ·match j with
  |0=>simp at h
  |1=>simp at h
  |2=>simp at h
  |j+3=>simp at h
 ·match j with
  |0=>simp at h1 h2;subst h1;subst h2;exact .con _ rfl
  |1=>simp at h1 h2;subst h1;subst h2;exact .con _ rfl
  |2=>simp at h1 h2;subst h1;subst h2;exact .con _ rfl
  |j+3=>simp at h1
def tkV (k:Int)(w:ByteArray)(l c:Int):V:=.agg [.con (.int .i8 k),.con (.string w),.con (.int .i64 l),.con (.int .i64 c)]
def tkOb (k:Int)(w:ByteArray)(l c:Int):Obj:=⟨4,[tkV k w l c],0,true⟩
def feV (f:Flt):V:=.ro true (.ifc 63 (.ptr (fTl f)))
def failV (f:Flt):V:=.tup [tkV 0 eS 0 0,feV f]
theorem tkV_flat (k:Int)(w:ByteArray)(l c:Int):(tkV k w l c).flat:=by
 intro v hv
 simp at hv
 rcases hv with rfl|rfl|rfl|rfl<;>trivial
theorem tkOb_flat (k:Int)(w:ByteArray)(l c:Int):∀e ∈ (tkOb k w l c).el,e.flat:=one_flat (tkV_flat k w l c)
theorem fd_fe {oh oh1:OH}{id:Nat}{f:Flt}(ho:oget oh id=some ⟨4,[.agg [.con (.int .i64 f.code),.con (.int .i64 f.line),.con (.int .i64 f.col),.con (.string f.word)]],0,true⟩)(hd:oget oh1 id=none) :
  Lc oh oh1 (.wr (.ifc 63) id 0 0 0) (feV f):=by
 refine Lc.frz true _ (.ifc 63 (.ptr (fTl f))) (Fd1.ifc _ id 0 0 0 _ (Fd1.ref id 0 0 0 _ _ _ ho hd rfl rfl rfl rfl fun j v u h1 h2=>?_))
 match j with
 |0=>simp [V.cells] at h1;simp [fTl] at h2;subst h1;subst h2;exact .con _
 |1=>simp [V.cells] at h1;simp [fTl] at h2;subst h1;subst h2;exact .con _
 |2=>simp [V.cells] at h1;simp [fTl] at h2;subst h1;subst h2;exact .con _
 |3=>simp [V.cells] at h1;simp [fTl] at h2;subst h1;subst h2;exact .con _
 |j+4=>simp [V.cells] at h1
theorem fail_ok (k:Int)(w:ByteArray)(l c:Int)(code:Int)(word:ByteArray) :
  OkG Tryz.prog 47 [(0,tkOb k w l c)] [] [.con (.int .i64 code),.con (.string word),.ref 0 0 0 0] [] (failV ⟨code,l,c,word⟩):=by
 refine okg_of_ev hC0 mix 3 (zO rfl) Tryz.func47 rfl rfl (by kernel_rfl) (by kernel_rfl) (zO rfl) ?wf ?vs ?po ?le ?_
 case wf=>
  intro i o h
  obtain⟨rfl,rfl⟩:=oget_one h
  exact⟨rfl,rfl,fun v hv=>(tkOb_flat k w l c v hv).cl _⟩
 case vs=>exact three_vs trivial trivial rfl
 case po=>intro i o h;simp [oget] at h
 case le=>
  intro i o o' h1 h2 h3 h4
  obtain⟨rfl,rfl⟩:=oget_one h1
  obtain⟨-,rfl⟩:=oget_one h2
  exact⟨rfl,Nat.le_refl _⟩
 repeat'(first|(with_reducible first|(refine zz ?_;try intro K hK)|refine zI ?_|refine zt ?_|refine zf ?_)|((first|refine hK _ ?_|refine hK _ _ rfl ?_);clear hK K)|(guard_hyp hK;first|(refine zY ?zz ?_;case zz=>first|exact rfl|exact gJ)|refine fresh_n ?_|refine freshO_n ?_|refine zW ?_|intro b0 hb)|((first|with_reducible refine zm ?_|guard_hyp hK);refine zY ?_ ?_;all_goals(intro hb;(try simp only [sn,sb] at hb);try exact ex0)))
 refine⟨trivial,true,⟨Tryz.f47.ntmps,[(2,.ref 0 0 0 0),(5,.ref 1 0 0 0),(6,feV ⟨code,l,c,word⟩)],[(0,tkOb k w l c),(1,tkOb 0 eS 0 0)]⟩,?_,?_,?_,?_⟩
 ·exact lf_of0 ⟨Lc.same _ rfl,Lc.same _ rfl,fd_fe rfl rfl,trivial⟩ ⟨lfOb_same rfl (tkOb_flat _ _ _ _),lfOb_same rfl (tkOb_flat _ _ _ _),trivial⟩
 ·intro i o o' h1 h2 h3
  obtain⟨rfl,rfl⟩:=oget_one h1
  exact⟨Nat.zero_lt_succ _,⟨_,rfl,rfl,rfl,rfl⟩,2,_,by decide,rfl,rfl,⟨rfl,rfl⟩⟩
 ·intro i o h
  obtain⟨rfl,rfl⟩:=oget_one h
  refine⟨_,rfl,rfl,rfl,rfl,rfl,fun k e e1 h1 h2=>?_⟩
  rw [h1] at h2
  obtain rfl:e=e1:=by simpa using h2
  exact bmA_flat (tkOb_flat _ _ _ _ e (List.mem_of_getElem? h1))
 ·refine resc (l:=[.con (.int .i8 0),.con (.string eS),.con (.int .i64 0),.con (.int .i64 0)]) tk85 rfl (Nat.zero_lt_succ _) rfl rfl ⟨_,_,rfl,bmA_flat (tkV_flat 0 eS 0 0),BmC.ro _ _⟩
theorem fail_call {C:CT}{q:FuncId}{args:List V}{oh:OH}{k:Int}{w:ByteArray}{l c code:Int}{word:ByteArray}{K:Acc→Prop}(id:Nat)(hc:C q [] (.gen [(0,tkOb k w l c)] [] [.con (.int .i64 code),.con (.string word),.ref 0 0 0 0] [] (failV ⟨code,l,c,word⟩)))
  (ha:args=[.con (.int .i64 code),.con (.string word),.ref id 0 0 0]) (hp:oget oh id=some (tkOb k w l c))
  (hk:K ⟨[(id,tkOb k w l c)],[],[],failV ⟨code,l,c,word⟩⟩):GenK C q args oh K:=by
 have e1:∀m vo,vo 0=0→(tkOb k w l c).rn m vo 0=tkOb k w l c:=by
  intro m vo h
  show Obj.mk 4 [(tkV k w l c).rnA m vo] (vo 0+0) true=_
  rw [rn_id _ _ (tkV_flat k w l c),h];rfl
 refine⟨_,_,_,_,_,fun _=>id,fun _=>0,hc,by rw [ha];rfl,fun p hp'=>?_,fun i hi=>by simp at hi,fun i hi j hj _=>?_,?_⟩
 ·obtain rfl:=List.mem_singleton.1 hp'
  show oget oh id=some ((tkOb k w l c).rn _ _ 0)
  rw [e1 _ _ rfl];exact hp
 ·have h1:i=0:=by simpa using hi
  have h2:j=0:=by simpa using hj
  rw [h1,h2]
 ·have:rnO (fun _=>id) (fun _=>0) [(0,tkOb k w l c)]=[(id,tkOb k w l c)]:=by
   show [(id,(tkOb k w l c).rn _ _ 0)]=_
   rw [e1 _ _ rfl]
  rw [this]
  exact hk
end Go.Ev
namespace Go.Proofs
open Go.RowKit Go.Ev
set_option maxHeartbeats 4000000 in
set_option maxRecDepth 1000000 in
theorem drun_calls (s:ByteArray)(w:World)(hs:s.size≤1073741824) :
  Calls Tryz.prog 69 #[.string s] w fun e w'=>e=.returned (.int .i64 (runF isDig s 0:Nat))∧Below w.heap.size w w':=by
 go_enter Tryz.func69,Tryz.ntmps69
 go_wp2
 go_loopw [3] (fun i wr=>∃n:Nat,i=.int .i64 (n:Nat)∧wr.heap[w.heap.size]?=some (.stringIter s n)∧Below w.heap.size w wr∧n≤s.size∧n+runF isDig s n=runF isDig s 0)
  (fun i _=>s.size - (intOf i).toNat)
 case atStart=>
  refine⟨0,rfl,?_,?_,Nat.zero_le _,Nat.zero_add _⟩
  ·have:=World.iter_heap w s 0
   simpa using this
  ·first|exact(Below.refl _ w).alloc (Nat.le_refl _) _|(have h9:=(Below.refl w.heap.size w).alloc (Nat.le_refl _) (.stringIter s 0);exact h9)
 case round=>
  obtain⟨n,rfl,hit,hbw,hn,hr⟩:=hrel
  by_cases hp:n < s.size
  ·have hnx:∀ty,(Instr.next (.pointer (some ⟨w.heap.size,0,none⟩)) true ty).run Tryz.prog wr=_:=fun ty=>Lib.run_next_any_at wr w.heap.size s n ty hit hp
   have hg:=chr_get hp
   have hit2:=Lib.iterAt_heap wr w.heap.size s n (n+(Utf8.decode s n).2) hit
   have hbw2:=Lib.below_iterAt hbw (k:=w.heap.size) (Nat.le_refl _) s (n+(Utf8.decode s n).2)
   cases hD:isDig (chr s n) with
   |true=>
    have hd2:=hD
    unfold isDig at hd2
    simp only [Bool.and_eq_true,decide_eq_true_eq] at hd2
    have he:=decode_ascii s n hp (by rw [hg];omega)
    have e1:(Utf8.decode s n).1=(chr s n).toNat:=by rw [he,hg]
    have e2:(Utf8.decode s n).2=1:=by rw [he]
    rw [runF_yes hp hD] at hr
    have b1:(decide (((Utf8.decode s n).1:Int) < 48))=false:=by rw [e1];simp;omega
    have b2:(decide (((Utf8.decode s n).1:Int) > 57))=false:=by rw [e1];simp;omega
    rw [e2] at hit2 hbw2
    go_wp2
    all_goals first|(exfalso;omega)|exact⟨⟨n+1,by simp,hit2,hbw2,hp,by rw [← hr];omega⟩,by simp [intOf];omega⟩
   |false=>
    rw [runF_no hp hD,Nat.add_zero] at hr
    have hlo:(Utf8.decode s n).1 < 48∨57 < (Utf8.decode s n).1:=by
     by_cases h9:(chr s n).toNat < 128
     ·have he:=decode_ascii s n hp (by rw [hg];exact h9)
      have e1:(Utf8.decode s n).1=(chr s n).toNat:=by rw [he,hg]
      unfold isDig at hD
      simp only [Bool.and_eq_false_iff,decide_eq_false_iff_not] at hD
      omega
     ·have:=(decode_high s n hp (by rw [hg];omega)).1
      omega
    subst hr
    go_wp2
    all_goals first|(exfalso;omega)|(go_ret;exact⟨rfl,hbw2⟩)
  ·have hnx:∀ty,(Instr.next (.pointer (some ⟨w.heap.size,0,none⟩)) true ty).run Tryz.prog wr=_:=fun ty=>Lib.run_next_end_at wr w.heap.size s n ty hit hp
   rw [runF_end (by omega),Nat.add_zero] at hr
   subst hr
   go_wp2
   go_ret
   exact⟨rfl,hbw⟩
end Go.Proofs
namespace Go.Ev
open Go.Proofs
theorem drun_ok (s:ByteArray)(hs:s.size≤1073741824):Ok Tryz.prog 69 [tS9 s] true (.con (.int .i64 (runF isDig s 0:Nat))):=
 ok_below (l:=[.string s]) ⟨_,Tryz.func69,rfl,rfl⟩ (fun S=>.con _ rfl) (fun w=>drun_calls s w hs)
structure NumOK (w:ByteArray):Prop where
 dig:isDig (chr w 0)=true
 len:numF w=w.size
 big:numB w=false
 pos:1≤w.size
def nmA (w:ByteArray):Nat:=runF isDig w 0
def ptB (w:ByteArray):Prop:=(chr w (runF isDig w 0)).toNat=46∧0 < runF isDig w (runF isDig w 0+1)
instance  (w:ByteArray):Decidable (ptB w):=inferInstanceAs (Decidable (_∧_))
def nmB (w:ByteArray):Nat:=if ptB w then runF isDig w (nmA w+1) else 0
def decMl (w:ByteArray):List UInt8:=(bs w).take (nmA w) ++ ((bs w).drop (nmA w+1)).take (nmB w)
def decXn (w:ByteArray):Nat:=decV (bs (sub w (numK w) (runF isDig w (numK w))))
def decX (w:ByteArray):Int:=if numE w then(if(chr w (numA w+1)).toNat=45 then -(decXn w:Int) else decXn w) else 0
def decPn (w:ByteArray):Nat:=if 0≤decX w - nmB w then decV (decMl w) * 10 ^ (decX w - nmB w).toNat else decV (decMl w)
def decPd (w:ByteArray):Nat:=if 0≤decX w - nmB w then 1 else 10 ^ (-(decX w - nmB w)).toNat
def decQ (w:ByteArray):Int×Nat:=(qz (decPn w) (decPd w),qd (decPn w) (decPd w))
theorem ext_chr {s:ByteArray}{i j k:Nat}(h:i+k < j):chr (s.extract i j) k=chr s (i+k):=by
 have:=sub_chr (s:=s) (i:=i) (n:=j - i) (j:=k) (by omega)
 unfold sub at this
 rw [show i+(j - i)=j by omega] at this
 exact this
theorem ext_len {s:ByteArray}{i j:Nat}(h:j≤s.size):(s.extract i j).size=j - i:=by
 rw [ByteArray.size_extract];omega
theorem ext_bs (s:ByteArray)(i j:Nat):bs (s.extract i j)=((bs s).drop i).take (j - i):=by
 unfold bs
 rw [ByteArray.data_extract,Array.toList_extract,List.extract_eq_take_drop]
theorem bs_ext {s t:ByteArray}(h:bs s=bs t):s=t:=ByteArray.ext (Array.toList_inj.1 h)
theorem decV_lt : ∀(l:List UInt8) (v:Nat),l.foldl (fun v b=>10 * v+(b.toNat - 48)) v < (v+1) * 256 ^ l.length
 | [],v=>by simp
 |b :: r,v=>by
  have hb:=UInt8.toNat_lt b
  have ih:=decV_lt r (10 * v+(b.toNat - 48))
  rw [List.foldl_cons,List.length_cons,Nat.pow_succ]
  refine Nat.lt_of_lt_of_le ih ?_
  rw [Nat.mul_comm (256 ^ r.length) 256,← Nat.mul_assoc]
  exact Nat.mul_le_mul_right _ (by omega)
theorem decV_len (l:List UInt8):(lm (decV l)).length≤l.length:=by
 refine lm_len ?_
 have:=decV_lt l 0
 rw [Nat.zero_add,Nat.one_mul] at this
 exact Nat.lt_of_lt_of_le this (Nat.pow_le_pow_left (by decide) _)
section
variable {w : ByteArray} (h : NumOK w)
include h
theorem nm_pos : 1≤nmA w:=by
 have:=runF_yes (p:=isDig) h.pos h.dig
 unfold nmA;omega
theorem nm_le : nmA w≤w.size:=by
 have:=runF_le (p:=isDig) (s:=w) (i:=0) (Nat.zero_le _)
 unfold nmA;omega
theorem nm_A : numA w=nmA w+(if ptB w then 1+nmB w else 0):=by
 by_cases c:ptB w
 ·have e1:numA w=runF isDig w 0+1+runF isDig w (runF isDig w 0+1):=if_pos c
  have e2:nmB w=runF isDig w (runF isDig w 0+1):=if_pos c
  rw [if_pos c,e1,e2];unfold nmA;omega
 ·have e1:numA w=runF isDig w 0:=if_neg c
  rw [if_neg c,e1];rfl
theorem nm_E (c:numE w):numA w+1≤numK w∧numK w+runF isDig w (numK w)=w.size∧0 < runF isDig w (numK w)∧decXn w≤1000:=by
 have h1:=h.len
 have h2:=h.big
 unfold numF at h1
 rw [if_pos c] at h1
 unfold numB at h2
 rw [decide_eq_true c,Bool.true_and] at h2
 have h3:=of_decide_eq_false h2
 refine⟨by unfold numK;split<;>omega,h1,c.2,by unfold decXn;omega⟩
theorem nm_N (c:¬numE w):numA w=w.size:=by
 have h1:=h.len
 unfold numF at h1
 rw [if_neg c] at h1
 exact h1
theorem nm_dig {j:Nat}(hj:j < nmA w):isDig (chr w j)=true:=by
 have:=runF_all (p:=isDig) (s:=w) (i:=0) (j:=j) hj
 rw [Nat.zero_add] at this
 exact this
theorem nm_dig2 (c:ptB w){j:Nat}(hj:j < nmB w):isDig (chr w (nmA w+1+j))=true:=by
 unfold nmB at hj
 rw [if_pos c] at hj
 exact runF_all hj
theorem nm_pt (c:ptB w):(chr w (nmA w)).toNat=46∧0 < nmB w:=by
 unfold nmB
 rw [if_pos c];exact c
end
theorem ret_ct {P:Program}{fn:Func}{f:Bool}{s:St}{b tb c i1 v1 z1:Nat}{l2:List V}{t1:T}{x:Value}{fs2:List (Nat×Nat)}{y2:List Value}
  (hr:fn.results.toList=[.cell b tb,.tmp c])
  (ht2:tk P tb=.st fs2 y2) (hz2:y2.length=l2.length) (h02:0 < l2.length) (ha2:eget s.env b=.ref i1 v1 0 0) (ho2:oget s.oh i1=some ⟨z1,[.agg l2],v1,true⟩) (hf:FzA s.oh f (.agg l2) t1) (hc:eget s.env c=.con x) :
  RetOK P fn f (.tup [t1,.con x]) .ret s:=by
 refine⟨trivial,?_⟩
 rw [hr]
 have h:resV P s (.cell b tb) (fun v=>resV P s (.tmp c) (fun u=>∃r1 r2,T.tup [t1,.con x]=.tup [r1,r2]∧FzA s.oh f v r1∧FzA s.oh f u r2)):=
  resc ht2 hz2 h02 ha2 ho2 ⟨_,_,rfl,hf,by rw [hc];exact Fz1.con x⟩
 exact h
theorem fz_num {oh:OH}(z:Int)(d:Nat):FzA oh true (.agg [.con (.bool (decide (z < 0))),.ro true (tn (lm z.natAbs)),.ro true (tn (lm d))]) (tNum z d):=by
 refine⟨rfl,fun j v t h1 h2=>?_⟩
 match j with
 |0=>simp at h1;simp [tNum] at h2;subst h1;subst h2;exact .con _
 |1=>simp at h1;simp [tNum] at h2;subst h1;subst h2;exact .ro true _ fun h=>h
 |2=>simp at h1;simp [tNum] at h2;subst h1;subst h2;exact .ro true _ fun h=>h
 |j+3=>simp at h1
def bxR : Obj:=⟨3,[.agg [.con (.bool false),.emp,.emp]],0,true⟩
theorem bxR_cl (oh:OH):∀v ∈ bxR.el,v.cl oh:=by
 intro v hv
 obtain rfl:=List.mem_singleton.1 hv
 intro v hv
 simp at hv
 rcases hv with rfl|rfl<;>trivial
def behS (w:ByteArray):ByteArray:=if ptB w then(w.extract 0 (numA w)).extract (nmA w+1) (w.extract 0 (numA w)).size else⟨#[]⟩
section
variable {w : ByteArray} (h : NumOK w)
include h
theorem s0_len : (w.extract 0 (numA w)).size=numA w:=by rw [ext_len numA_le];omega
theorem s0_chr {j:Nat}(hj:j < numA w):chr (w.extract 0 (numA w)) j=chr w j:=by rw [ext_chr (by omega),Nat.zero_add]
theorem beh_len : (behS w).size=nmB w:=by
 have h1:=nm_A h
 unfold behS
 by_cases c:ptB w
 ·rw [if_pos c] at h1 ⊢
  rw [ext_len (Nat.le_refl _),s0_len h];omega
 ·rw [if_neg c];unfold nmB;rw [if_neg c];rfl
theorem beh_bs : bs (behS w)=((bs w).drop (nmA w+1)).take (nmB w):=by
 have h1:=nm_A h
 unfold behS
 by_cases c:ptB w
 ·rw [if_pos c] at h1 ⊢
  rw [ext_bs,s0_len h,ext_bs,Nat.sub_zero,List.drop_zero,List.drop_take,List.take_take,Nat.min_eq_left (Nat.le_refl _)]
  congr 1;omega
 ·rw [if_neg c];unfold nmB;rw [if_neg c,List.take_zero];rfl
theorem ahd_bs : bs ((w.extract 0 (numA w)).extract 0 (nmA w))=(bs w).take (nmA w):=by
 have h1:=nm_A h
 rw [ext_bs,ext_bs,List.drop_zero,List.drop_zero,List.take_take]
 congr 1;omega
theorem ahd_len : ((w.extract 0 (numA w)).extract 0 (nmA w)).size=nmA w:=by
 have h1:=nm_A h
 rw [ext_len (by rw [s0_len h];omega)];omega
theorem ahd_dig : allDig ((w.extract 0 (numA w)).extract 0 (nmA w)):=by
 intro j hj
 rw [ahd_len h] at hj
 have h1:=nm_A h
 rw [ext_chr (by omega),s0_chr h (by omega),Nat.zero_add]
 exact nm_dig h hj
theorem beh_dig : allDig (behS w):=by
 intro j hj
 rw [beh_len h] at hj
 have h1:=nm_A h
 by_cases c:ptB w
 ·rw [if_pos c] at h1
  unfold behS
  rw [if_pos c,ext_chr (by rw [s0_len h];omega),s0_chr h (by omega)]
  exact nm_dig2 h c hj
 ·unfold nmB at hj;rw [if_neg c] at hj;omega
theorem all_bs : bs ((w.extract 0 (numA w)).extract 0 (nmA w) ++ behS w)=decMl w:=by
 have e:bs ((w.extract 0 (numA w)).extract 0 (nmA w) ++ behS w)=bs ((w.extract 0 (numA w)).extract 0 (nmA w)) ++ bs (behS w):=by
  unfold bs
  rw [ByteArray.data_append,Array.toList_append]
 rw [e,ahd_bs h,beh_bs h];rfl
theorem nat_all : natP ((w.extract 0 (numA w)).extract 0 (nmA w) ++ behS w)=some (decV (decMl w)):=by
 have h1:=nm_pos h
 have hl:((w.extract 0 (numA w)).extract 0 (nmA w) ++ behS w).size=nmA w+nmB w:=by rw [ByteArray.size_append,ahd_len h,beh_len h]
 rw [natP_yes (by omega),all_bs h]
 intro i hi
 rw [hl] at hi
 by_cases hlt:i < nmA w
 ·have e:chr ((w.extract 0 (numA w)).extract 0 (nmA w) ++ behS w) i=chr ((w.extract 0 (numA w)).extract 0 (nmA w)) i:=by
   unfold chr
   rw [all_bs h,ahd_bs h,List.getD,List.getD,decMl,List.getElem?_append_left (by rw [List.length_take,bs_len];have:=nm_le h;omega)]
  rw [e]
  exact ahd_dig h i (by rw [ahd_len h];exact hlt)
 ·have e:chr ((w.extract 0 (numA w)).extract 0 (nmA w) ++ behS w) i=chr (behS w) (i - nmA w):=by
   unfold chr
   rw [all_bs h,beh_bs h,List.getD,List.getD,decMl,List.getElem?_append_right (by rw [List.length_take,bs_len];have:=nm_le h;omega),List.length_take,bs_len,Nat.min_eq_left (nm_le h)]
  rw [e]
  exact beh_dig h _ (by rw [beh_len h];omega)
theorem t0_len (c:numE w):(w.extract (numA w+1) w.size).size=w.size - (numA w+1):=ext_len (Nat.le_refl _)
end
section
variable {w : ByteArray} (h : NumOK w)
include h
theorem t_sub {k n:Nat}(hk:k+n=w.size):w.extract k w.size=sub w k n:=by
 unfold sub;rw [hk]
theorem t0_chr (c:numE w):chr (w.extract (numA w+1) w.size) 0=chr w (numA w+1):=by
 obtain⟨h1,h2,h3,h4⟩:=nm_E h c
 rw [ext_chr (by omega)]
theorem k_dig (c:numE w):allDig (w.extract (numK w) w.size)∧decV (bs (w.extract (numK w) w.size))=decXn w∧1≤(w.extract (numK w) w.size).size:=by
 obtain⟨h1,h2,h3,h4⟩:=nm_E h c
 rw [t_sub h h2]
 refine⟨runF_dig (by omega),rfl,?_⟩
 rw [sub_len (Nat.le_of_eq h2)];exact h3
theorem t1_eq (c:numE w)(hk:numK w=numA w+2):(w.extract (numA w+1) w.size).extract 1 (w.extract (numA w+1) w.size).size=w.extract (numK w) w.size:=by
 refine bs_ext ?_
 obtain⟨h1,h2,h3,h4⟩:=nm_E h c
 rw [ext_bs,t0_len h c,ext_bs,ext_bs,List.drop_take,List.drop_drop,List.take_take,hk]
 congr 1
 omega
theorem t_facts (c:numE w):∃(U U1:ByteArray),U=w.extract (numA w+1) w.size∧0 < U.size∧
  (((chr U 0).toNat=45∨(chr U 0).toNat=43)→U1=U.extract 1 U.size)∧(¬((chr U 0).toNat=45∨(chr U 0).toNat=43)→U1=U)∧
  allDig U1∧decV (bs U1)=decXn w∧1≤U1.size∧U1.size≤w.size∧decX w=(if(chr U 0).toNat=45 then -(decXn w:Int) else decXn w):=by
 obtain⟨h1,h2,h3,h4⟩:=nm_E h c
 obtain⟨k1,k2,k3⟩:=k_dig h c
 have hl:=t0_len h c
 have hX:decX w=(if(chr w (numA w+1)).toNat=45 then -(decXn w:Int) else decXn w):=if_pos c
 refine⟨w.extract (numA w+1) w.size,w.extract (numK w) w.size,rfl,by omega,fun e=>?_,fun e=>?_,k1,k2,k3,by rw [ext_len (Nat.le_refl _)];omega,by rw [t0_chr h c];exact hX⟩
 ·rw [t0_chr h c] at e
  exact(t1_eq h c (if_pos (e.elim .inr .inl))).symm
 ·rw [t0_chr h c] at e
  have hK:numK w=numA w+1:=if_neg (fun e2=>e (e2.elim .inr .inl))
  rw [hK]
end
theorem wT {a b:ByteArray}(h:a=b):V.con (.string a)=V.con (.string b):=by rw [h]
end Go.Ev
