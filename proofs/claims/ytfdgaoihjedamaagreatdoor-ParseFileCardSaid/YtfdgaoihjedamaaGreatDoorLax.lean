import Derived.Test.YtfdgaoihjedamaaGreatDoorLaw
import Derived.Test.YtfdgaoihjedamaaGreatDoorLexA
import Derived.WalkKit
import Derived.BigCall
import Derived.OwnWalk
import Derived.Lib.FrozenHead2
import Derived.Laws.Externs
import Derived.Test.YtfdgaoihjedamaaGreatDoorLao
import Derived.Test.YtfdgaoihjedamaaGreatDoorRdt
set_option linter.all false
set_option maxHeartbeats 4000000
set_option maxRecDepth 100000
namespace Go.Ev
open Go.Proofs
def lrP (s:ByteArray)(a:Nat):OH:=lrO s a (placeF s a).1 (placeF s a).2
theorem passP_ok (s:ByteArray)(a n:Nat)(hs:s.size≤1073741824)(ha:a+n≤s.size):OkG Tryz.prog 91 (lrP s a) [] [.ref 0 0 0 0,.con (.int .i64 n)] (lrP s (a+n)) (.tup []):=by
 have hp:=placeF_le s a
 have h:=pass_ok s a (placeF s a).1 (placeF s a).2 n hs ha (by omega) (by omega)
 rw [walk_place] at h
 exact h
theorem lr_ret1 {P:Program}{fn:Func}{t:St}{vs:List V}{s:ByteArray}{a l c a' l' c' np i:Nat}{r:V}{x:X}(hx:match x with|.exit _=>False|_=>True)(hr:fn.results.toList=[.tmp i])(hi:∃v,eget t.env i=.con v∧r=.con v)(hs:oget t.oh 0=some ⟨4,[lrV s a' l' c'],0,true⟩)(hnp:0 < np)(hv:vs[0]?=some (.ref 0 0 0 0))(he:eget t.env 0=.ref 0 0 0 0) :
  RetG P fn np (lrO s a l c) vs (lrO s a' l' c') r x t:=by
 obtain⟨v,hi,rfl⟩:=hi
 refine⟨hx,false,t,rfl,lr_pin hs hnp hv he,lr_bm hs,?_⟩
 rw [hr]
 show BmA _ _ (eget t.env i) (.con v)
 rw [hi]
 exact .con v
theorem blk_idx (b:UInt8):isBlk b=true↔0≤Lib.indexByte [32,9,10,13] b:=by
 by_cases h1:b=32
 ·subst h1;decide
 by_cases h2:b=9
 ·subst h2;decide
 by_cases h3:b=10
 ·subst h3;decide
 by_cases h4:b=13
 ·subst h4;decide
 have f:Lib.indexByte [] b = -1:=rfl
 rw [ib_cons,ib_cons,ib_cons,ib_cons,if_neg (Ne.symm h1),if_neg (Ne.symm h2),if_neg (Ne.symm h3),if_neg (Ne.symm h4),f]
 have g1:b.toNat≠32:=fun h=>h1 (UInt8.toNat_inj.1 h)
 have g2:b.toNat≠9:=fun h=>h2 (UInt8.toNat_inj.1 h)
 have g3:b.toNat≠10:=fun h=>h3 (UInt8.toNat_inj.1 h)
 have g4:b.toNat≠13:=fun h=>h4 (UInt8.toNat_inj.1 h)
 unfold isBlk
 simp [g1,g2,g3,g4]
theorem skipF_pos {s:ByteArray}(h0:(chr s 0).toNat=47)(h1:(chr s 1).toNat=47∨(chr s 1).toNat=42)(h:0≤skipF s):0 < skipF s:=by
 have l1:1 < s.size:=by
  rcases Nat.lt_or_ge 1 s.size with h9|h9
  ·exact h9
  ·rw [chr_end h9] at h1;rcases h1 with h1|h1<;>exact absurd h1 (by decide)
 rcases h1 with h1|h1
 ·have e0:isBlk (chr s 0)=false:=by unfold isBlk;simp [h0]
  have e1:skipF s=skipA s 2:=by
   unfold skipF
   rw [if_neg (by rw [e0];decide),if_neg (fun h=>h.elim (fun h=>h h0) (fun h=>h.1 h1))]
  have e2:=skipA_line s h1 2 l1
  have hg:=ib_ge ((bs s).drop 2) 10
  rw [e1,e2]
  split<;>omega
 ·have e1:=skipF_block s h0 h1
  have hg:=ix_ge ((bs s).drop 2) [42,47]
  rw [e1] at h ⊢
  split<;>rename_i h9
  ·rw [if_pos h9] at h;omega
  ·omega
theorem blanks_ok (s:ByteArray)(a:Nat)(hs:s.size≤1073741824)(ha:a≤s.size) :
  OkG Tryz.prog 81 (lrP s a) [] [.ref 0 0 0 0] (lrP s (blF s a).1) (.con (.bool (blF s a).2)):=by
 unfold lrP
 refine okg_of_ev hC0 mix 1 (zO rfl) Tryz.func81 rfl rfl (by kernel_rfl) (by kernel_rfl) (zO rfl) ?wf ?vs ?po ?le ?_
 case wf=>exact lr_wf _ _ _ _
 case vs=>
  intro v hv
  simp at hv
  rcases hv with rfl
  exact rfl
 case po=>exact lr_po _ _ _ _ _ _ _
 case le=>exact lr_le _ _ _ _ _ _ _
 repeat'(first|(with_reducible first|(refine zz ?_;try intro K hK)|refine zI ?_|refine zt ?_|refine zf ?_)|((first|refine hK _ ?_|refine hK _ _ rfl ?_);clear hK K)|(guard_hyp hK;first|(refine zY ?zz ?_;case zz=>first|exact rfl|exact gJ)|refine fresh_n ?_|refine freshO_n ?_|refine zW ?_|intro b0 hb)|((first|with_reducible refine zm ?_|guard_hyp hK);refine zY ?_ ?_;all_goals(intro hb;(try simp only [sn,sb] at hb);try exact ex0)))
 refine loop_i Nat (fun k=>⟨Tryz.f81.ntmps,[(0,.ref 0 0 0 0),(2,.con (.bool false))],[(0,⟨4,[lrV s k (placeF s k).1 (placeF s k).2],0,true⟩)]⟩) (fun k=>k≤s.size∧blF s k=blF s a) (fun k=>s.size - k) [] a trivial ⟨ha,rfl⟩ ⟨rfl,⟨rfl,rfl,rfl,trivial,trivial⟩,⟨rfl,trivial⟩,⟨lr_one,trivial⟩⟩ ?_
 rintro k ⟨hk,hbl⟩
 rw [← hbl]
 have hul:(s.extract k s.size).size=s.size - k:=by rw [ByteArray.size_extract];omega
 have hemp:(s.extract k s.size).toList=(⟨#[]⟩:ByteArray).toList↔s.size≤k:=by
  constructor
  ·intro h
   have:=congrArg ByteArray.size (bq_inj h)
   rw [hul] at this
   have e:(⟨#[]⟩:ByteArray).size=0:=rfl
   omega
  ·intro h
   have:(s.extract k s.size)=⟨#[]⟩:=by
    apply ByteArray.ext
    have h2:(s.extract k s.size).data.size=0:=by rw [show(s.extract k s.size).data.size=(s.extract k s.size).size from rfl,hul];omega
    exact Array.eq_empty_of_size_eq_zero h2
   rw [this]
 by_cases h0:k < s.size
 ·have hne:¬(s.extract k s.size).toList=(⟨#[]⟩:ByteArray).toList:=fun h=>by have:=hemp.1 h;omega
  rw [blF,dif_pos h0] at hbl ⊢
  have hp1:=HasPre_ok (s.extract k s.size) ⟨#[47,47]⟩ (by omega) (by decide)
  have hp2:=HasPre_ok (s.extract k s.size) ⟨#[47,42]⟩ (by omega) (by decide)
  rw [bq_two _ 47 47 (by decide) (by decide)] at hp1
  rw [bq_two _ 47 42 (by decide) (by decide)] at hp2
  have hlz:∀i,(chr (s.extract k s.size) i).toNat≠0→i < s.size - k:=fun i h=>by
   rcases Nat.lt_or_ge i (s.size - k) with h9|h9
   ·exact h9
   ·rw [chr_end (by omega)] at h;exact absurd rfl h
  have hpu:=fun n hn=>passP_ok s k n hs hn
  unfold lrP at hpu
  have hbn:∀m:Nat,skipF (s.extract k s.size)=m→0 < m→blF s (k+m)=blF s a:=by
   intro m h1 h2
   rw [if_neg (by omega),dif_pos (by omega),h1] at hbl
   rw [← hbl];simp
  have hset:blF s k=blF s a:=by rw [blF,dif_pos h0];exact hbl
  by_cases c1:chr (s.extract k s.size) 0=47∧chr (s.extract k s.size) 1=47
  ·rw [decide_eq_true c1] at hp1
   have hi:=IndexByte_ok (s.extract k s.size) 10
   have hsk:=skipF_line (s.extract k s.size) (chr_n.1 c1.1) (chr_n.1 c1.2)
   have hge:=ib_ge (bs (s.extract k s.size)) 10
   have hle:=skipF_le (s:=s.extract k s.size) (by omega)
   have hpo:0 < skipF (s.extract k s.size):=skipF_pos (chr_n.1 c1.1) (.inl (chr_n.1 c1.2)) (by rw [hsk];split<;>omega)
   have e0:Lib.indexByte (s.extract k s.size).data.toList 10=Lib.indexByte (bs (s.extract k s.size)) 10:=rfl
   rw [e0] at hi
   by_cases c2:Lib.indexByte (bs (s.extract k s.size)) 10 = -1
   ·rw [if_pos c2] at hsk
    rw [c2] at hi
    have hps:=hpu (s.extract k s.size).size (by omega)
    have hb9:=hbn _ hsk (by omega)
    rw [hbl]
    repeat'(first|(with_reducible first|(refine zz ?_;try intro K hK)|refine zI ?_|refine zt ?_|refine zf ?_)|((first|refine hK _ ?_|refine hK _ _ rfl ?_);clear hK K)|(guard_hyp hK;first|(refine zY ?zz ?_;case zz=>first|exact rfl|exact gJ)|refine fresh_n ?_|refine freshO_n ?_|refine zW ?_|(refine zQ (hp1) ?_)|(refine zQ (hi) ?_)|refine zg ([]) (hps) (lrO s k (placeF s k).1 (placeF s k).2) ([]) (lrO s (k+(s.extract k s.size).size) (placeF s (k+(s.extract k s.size).size)).1 (placeF s (k+(s.extract k s.size).size)).2) (.tup []) ?_|intro b0 hb)|((first|with_reducible refine zm ?_|guard_hyp hK);refine zY ?_ ?_;all_goals(intro hb;(try simp only [sn,sb] at hb);try exact ex0)))
    ·exact absurd hb hne
    ·exact⟨_,⟨by omega,hb9⟩,by omega,rfl,⟨rfl,rfl,rfl,trivial,trivial⟩,⟨rfl,trivial⟩,⟨lr_one,trivial⟩⟩
   ·rw [if_neg c2] at hsk
    obtain⟨m,hm⟩:∃m:Nat,Lib.indexByte (bs (s.extract k s.size)) 10=m:=⟨_,(Int.toNat_of_nonneg (by omega)).symm⟩
    rw [hm] at hi hsk
    have hps:=hpu m (by omega)
    have hb9:=hbn _ hsk (by omega)
    rw [hbl]
    repeat'(first|(with_reducible first|(refine zz ?_;try intro K hK)|refine zI ?_|refine zt ?_|refine zf ?_)|((first|refine hK _ ?_|refine hK _ _ rfl ?_);clear hK K)|(guard_hyp hK;first|(refine zY ?zz ?_;case zz=>first|exact rfl|exact gJ)|refine fresh_n ?_|refine freshO_n ?_|refine zW ?_|(refine zQ (hp1) ?_)|(refine zQ (hi) ?_)|refine zg ([]) (hps) (lrO s k (placeF s k).1 (placeF s k).2) ([]) (lrO s (k+m) (placeF s (k+m)).1 (placeF s (k+m)).2) (.tup []) ?_|intro b0 hb)|((first|with_reducible refine zm ?_|guard_hyp hK);refine zY ?_ ?_;all_goals(intro hb;(try simp only [sn,sb] at hb);try exact ex0)))
    ·exact absurd hb hne
    ·exact⟨_,⟨by omega,hb9⟩,by omega,rfl,⟨rfl,rfl,rfl,trivial,trivial⟩,⟨rfl,trivial⟩,⟨lr_one,trivial⟩⟩
  rw [decide_eq_false c1] at hp1
  by_cases c3:chr (s.extract k s.size) 0=47∧chr (s.extract k s.size) 1=42
  ·rw [decide_eq_true c3] at hp2
   have hl2:=hlz 1 (by rw [chr_n.1 c3.2];decide)
   have hsk:=skipF_block (s.extract k s.size) (chr_n.1 c3.1) (chr_n.1 c3.2)
   have hge:=ix_ge ((bs (s.extract k s.size)).drop 2) [42,47]
   have hle:=skipF_le (s:=s.extract k s.size) (by omega)
   obtain⟨u,hu⟩:∃u:ByteArray,u=(s.extract k s.size).extract 2 (s.extract k s.size).size:=⟨_,rfl⟩
   have hul2:u.size=s.size - k - 2:=by rw [hu,ByteArray.size_extract];omega
   have hub:u.data.toList=(bs (s.extract k s.size)).drop 2:=by
    have:=sub_bs (s.extract k s.size) 2 ((s.extract k s.size).size - 2)
    unfold sub at this
    rw [show 2+((s.extract k s.size).size - 2)=(s.extract k s.size).size by omega,← hu,List.take_of_length_le (by rw [List.length_drop,bs_len];omega)] at this
    exact this
   have hi:=Index_ok u ⟨#[42,47]⟩ (by omega)
   rw [hub,show(⟨#[42,47]⟩:ByteArray).data.toList=[42,47] from rfl] at hi
   rw [hu] at hi
   clear hu hul2 hub
   by_cases c2:Lib.index ((bs (s.extract k s.size)).drop 2) [42,47] = -1
   ·rw [if_pos c2] at hsk
    rw [c2] at hi
    rw [if_pos (by omega)]
    repeat'(first|(with_reducible first|(refine zz ?_;try intro K hK)|refine zI ?_|refine zt ?_|refine zf ?_)|((first|refine hK _ ?_|refine hK _ _ rfl ?_);clear hK K)|(guard_hyp hK;first|(refine zY ?zz ?_;case zz=>first|exact rfl|exact gJ)|refine fresh_n ?_|refine freshO_n ?_|refine zW ?_|(refine zQ (hp1) ?_)|(refine zQ (hp2) ?_)|(refine zQ (hi) ?_)|intro b0 hb)|((first|with_reducible refine zm ?_|guard_hyp hK);refine zY ?_ ?_;all_goals(intro hb;(try simp only [sn,sb] at hb);try exact ex0)))
    ·exact absurd hb hne
    ·exact lr_ret1 trivial rfl ⟨_,rfl,rfl⟩ rfl (by decide) rfl rfl
   ·rw [if_neg c2] at hsk
    obtain⟨m,hm⟩:∃m:Nat,Lib.index ((bs (s.extract k s.size)).drop 2) [42,47]=m:=⟨_,(Int.toNat_of_nonneg (by omega)).symm⟩
    rw [hm] at hi hsk
    have hps:=hpu (m+4) (by omega)
    have hb9:=hbn (m+4) hsk (by omega)
    rw [hbl]
    repeat'(first|(with_reducible first|(refine zz ?_;try intro K hK)|refine zI ?_|refine zt ?_|refine zf ?_)|((first|refine hK _ ?_|refine hK _ _ rfl ?_);clear hK K)|(guard_hyp hK;first|(refine zY ?zz ?_;case zz=>first|exact rfl|exact gJ)|refine fresh_n ?_|refine freshO_n ?_|refine zW ?_|(refine zQ (hp1) ?_)|(refine zQ (hp2) ?_)|(refine zQ (hi) ?_)|refine zg ([]) (hps) (lrO s k (placeF s k).1 (placeF s k).2) ([]) (lrO s (k+(m+4)) (placeF s (k+(m+4))).1 (placeF s (k+(m+4))).2) (.tup []) ?_|intro b0 hb)|((first|with_reducible refine zm ?_|guard_hyp hK);refine zY ?_ ?_;all_goals(intro hb;(try simp only [sn,sb] at hb);try exact ex0)))
    ·exact absurd hb hne
    ·exact⟨_,⟨by omega,hb9⟩,by omega,rfl,⟨rfl,rfl,rfl,trivial,trivial⟩,⟨rfl,trivial⟩,⟨lr_one,trivial⟩⟩
  rw [decide_eq_false c3] at hp2
  have hi:=IndexByte_ok ⟨#[32,9,10,13]⟩ (chr (s.extract k s.size) 0)
  have hbk:=blk_idx (chr (s.extract k s.size) 0)
  have e0:(⟨#[32,9,10,13]⟩:ByteArray).data.toList=[32,9,10,13]:=rfl
  rw [e0] at hi
  cases hB:isBlk (chr (s.extract k s.size) 0) with
  |true=>
   have hsk:skipF (s.extract k s.size)=(1:Nat):=by unfold skipF;rw [if_pos hB];rfl
   have hps:=hpu 1 (by omega)
   have hb9:=hbn 1 hsk (by omega)
   rw [hbl]
   have hbk:=hbk.1 hB
   repeat'(first|(refine at_s ?_;intro hu)|(with_reducible first|(refine zz ?_;try intro K hK)|refine zI ?_|refine zt ?_|refine zf ?_)|((first|refine hK _ ?_|refine hK _ _ rfl ?_);clear hK K)|(guard_hyp hK;first|(refine zY ?zz ?_;case zz=>first|exact rfl|exact gJ)|refine fresh_n ?_|refine freshO_n ?_|refine zW ?_|(refine zQ (hp1) ?_)|(refine zQ (hp2) ?_)|(refine zQ (hi) ?_)|refine zg ([]) (hps) (lrO s k (placeF s k).1 (placeF s k).2) ([]) (lrO s (k+1) (placeF s (k+1)).1 (placeF s (k+1)).2) (.tup []) ?_|intro b0 hb)|((first|with_reducible refine zm ?_|guard_hyp hK);refine zY ?_ ?_;all_goals(intro hb;(try simp only [sn,sb] at hb);try exact ex0)))
   ·exact absurd hb hne
   ·exact⟨_,⟨by omega,hb9⟩,by omega,rfl,⟨rfl,rfl,rfl,trivial,trivial⟩,⟨rfl,trivial⟩,⟨lr_one,trivial⟩⟩
  |false=>
   have hsk:skipF (s.extract k s.size)=0:=by
    unfold skipF
    rw [if_neg (by rw [hB];decide),if_pos]
    by_cases d:(chr (s.extract k s.size) 0).toNat=47
    ·have d0:chr (s.extract k s.size) 0=47:=chr_n.2 d
     exact .inr ⟨fun h=>c1 ⟨d0,chr_n.2 h⟩,fun h=>c3 ⟨d0,chr_n.2 h⟩⟩
    ·exact .inl d
   rw [if_neg (by omega),dif_neg (by omega)]
   have hbk:¬0≤Lib.indexByte [32,9,10,13] (chr (s.extract k s.size) 0):=fun h=>by rw [hbk.2 h] at hB;cases hB
   repeat'(first|(refine at_s ?_;intro hu)|(with_reducible first|(refine zz ?_;try intro K hK)|refine zI ?_|refine zt ?_|refine zf ?_)|((first|refine hK _ ?_|refine hK _ _ rfl ?_);clear hK K)|(guard_hyp hK;first|(refine zY ?zz ?_;case zz=>first|exact rfl|exact gJ)|refine fresh_n ?_|refine freshO_n ?_|refine zW ?_|(refine zQ (hp1) ?_)|(refine zQ (hp2) ?_)|(refine zQ (hi) ?_)|intro b0 hb)|((first|with_reducible refine zm ?_|guard_hyp hK);refine zY ?_ ?_;all_goals(intro hb;(try simp only [sn,sb] at hb);try exact ex0)))
   ·exact absurd hb hne
   ·exact lr_ret1 trivial rfl ⟨_,rfl,rfl⟩ rfl (by decide) rfl rfl
 ·have he:=hemp.2 (by omega)
  rw [blF,dif_neg h0]
  repeat'(first|(with_reducible first|(refine zz ?_;try intro K hK)|refine zI ?_|refine zt ?_|refine zf ?_)|((first|refine hK _ ?_|refine hK _ _ rfl ?_);clear hK K)|(guard_hyp hK;first|(refine zY ?zz ?_;case zz=>first|exact rfl|exact gJ)|refine fresh_n ?_|refine freshO_n ?_|refine zW ?_|intro b0 hb)|((first|with_reducible refine zm ?_|guard_hyp hK);refine zY ?_ ?_;all_goals(intro hb;(try simp only [sn,sb] at hb);try exact ex0)))
  ·exact lr_ret1 trivial rfl ⟨_,rfl,rfl⟩ rfl (by decide) rfl rfl
  ·exact absurd he hb
end Go.Ev
namespace Go.Proofs
open Go.RowKit Go.Ev
theorem chr_get {s:ByteArray}{i:Nat}(h:i < s.size):s[i]=chr s i:=by
 have h2:i < s.data.toList.length:=by rw [Array.length_toList];exact h
 show s.data[i]=s.data.toList.getD i 0
 rw [List.getD,List.getElem?_eq_getElem h2,Array.getElem_toList];rfl
theorem sub_one {s:ByteArray}{i:Nat}(h:i < s.size)(l:List UInt8):(⟨l.toArray⟩:ByteArray) ++ sub s i 1=⟨(l ++ [chr s i]).toArray⟩:=by
 refine ByteArray.ext (Array.toList_inj.1 ?_)
 rw [ByteArray.data_append,Array.toList_append]
 have e2:(sub s i 1).data.toList=((bs s).drop i).take 1:=sub_bs s i 1
 rw [e2,drop_at h]
 simp
theorem bld_first (b:Nat)(v:Value)(w:World)(hb:w.heap[b]?=some (.cells #[.pointer none,v] 178 (0,0))) :
  Calls Tryz.prog 130 #[.pointer (some ⟨b,0,none⟩)] w fun e w'=>e=.returned (.tuple #[])∧w'=w.setCell ⟨b,0,none⟩ (.pointer (some ⟨b,0,none⟩)):=by
 have hp:Tryz.prog.underlying 175=some (.pointer 178):=by kernel_rfl
 have hu:Tryz.prog.underlying 123=some .unsafePointer:=by kernel_rfl
 have hz:(Tryz.prog.info? 178).map (·.size)=some 2:=by kernel_rfl
 have hlies:liesAt Tryz.prog Tryz.prog.depth 178 (2 / Tryz.prog.cellsOf 178) 0 178 1=true:=by kernel_rfl
 obtain⟨j,hj,hjs⟩:=Option.map_eq_some_iff.1 hz
 have c0:w.cell? ⟨b,0,none⟩=some (.pointer none):=by simp [World.cell?,hb]
 have f0:w.frozen? ⟨b,0,none⟩=false:=by simp [World.frozen?,hb]
 have hsh:w.shape? b=some (178,2):=by simp [World.shape?,hb]
 have k1:=Lib.run_to_unsafe w ⟨b,0,none⟩ hp hu hj (by rw [hjs];decide) hsh (Nat.zero_lt_succ 1)
 have k3:=Lib.run_from_unsafe w ⟨b,0,none⟩ hu hp hj hsh hlies
 have k2:∀w,(callFunc 145 #[.pointer (some ⟨b,0,none⟩)]).run Tryz.prog w=.ok (.value (.pointer (some ⟨b,0,none⟩))) w:=by
  intro w
  rw [@run_callFunc_extern Tryz.prog 145 _ Extern.AbiNoEscape.same Tryz.func145 (by kernel_rfl) (by kernel_rfl) (by kernel_rfl) (by kernel_rfl),Lib.run_noEscape,Result.andThen_ok]
 go_enter Tryz.func130,Tryz.ntmps130
 go_wp2
 go_end0
 exact⟨rfl,rfl⟩
theorem bld_again (b:Nat)(w:World)(c0:w.cell? ⟨b,0,none⟩=some (.pointer (some ⟨b,0,none⟩))) :
  Calls Tryz.prog 130 #[.pointer (some ⟨b,0,none⟩)] w fun e w'=>e=.returned (.tuple #[])∧w'=w:=by
 have hp:Tryz.prog.underlying 175=some (.pointer 178):=by kernel_rfl
 have hz:(Tryz.prog.info? 178).map (·.size)=some 2:=by kernel_rfl
 obtain⟨j,hj,hjs⟩:=Option.map_eq_some_iff.1 hz
 go_enter Tryz.func130,Tryz.ntmps130
 go_wp2
 rw [Lib.run_neq_ptr_same w _ hp hj]
 go_wp2
 go_end0
 exact⟨rfl,rfl⟩
theorem bld_used {b:Nat}{xs:List Value}{w:World}(h:Lib.IsBuilderF 178 5 b b xs w) :
  Calls Tryz.prog 130 #[.pointer (some ⟨b,0,none⟩)] w fun e w'=>e=.returned (.tuple #[])∧Lib.BuilderAtF 178 5 b b (.pointer (some ⟨b,0,none⟩)) xs w'∧Below b w w':=by
 rcases h with h|h
 ·obtain⟨hB,v,hv,hown,hne⟩:=h
  refine(bld_first b v w hv).mono ?_
  rintro e w' ⟨rfl,rfl⟩
  refine⟨rfl,⟨Nat.le_refl _,v,?_,?_,hne⟩,(Below.refl b w).setCell (p:=⟨b,0,none⟩) (Nat.le_refl _) _⟩
  ·simp [World.setCell,Array.getElem?_modify,hv]
  ·exact hown.kept (row:=some b) ⟨rfl,rfl,rfl,by simp [World.setCell],fun k _ hk=>Below.heap_setCell _ _ _ _ (fun e=>hk (by simp [e]))⟩ (Or.inr hne)
 ·have c0:=h.cell0
  refine(bld_again b w c0).mono ?_
  rintro e w' ⟨rfl,rfl⟩
  exact⟨rfl,h,Below.refl b _⟩
theorem bld_byte (b:Nat)(xs:List Value)(c:Int)(w:World)(h:Lib.IsBuilderF 178 5 b b xs w)(hlen:xs.length+1≤140737488355328)(hb:b≤w.heap.size) :
  Calls Tryz.prog 107 #[.pointer (some ⟨b,0,none⟩),.int .u8 c] w fun e w'=>e=.returned .nilIface∧Lib.IsBuilderF 178 5 b b (xs ++ [.int .u8 c]) w'∧Below b w w':=by
 have hsl:Tryz.prog.underlying 176=some (.slice 5):=by kernel_rfl
 have hby:(Tryz.prog.info? 5).map (fun i=>(i.zero,i.size,i.bytes))=some (some (.int .u8 0),1,1):=by kernel_rfl
 obtain⟨i0,hi,hz⟩:=Option.map_eq_some_iff.1 hby
 have hz0:i0.zero=some (.int .u8 0):=congrArg Prod.fst hz
 have hz1:i0.size=1:=congrArg (fun x=>x.2.1) hz
 have hz2:i0.bytes=1:=congrArg (fun x=>x.2.2) hz
 go_enter Tryz.func107,Tryz.ntmps107
 go_wp2_with (go_at_call 130;refine(bld_used h).mono ?_)
 rintro e w1 ⟨rfl,⟨hB,v,hv,hown,hne⟩,k1⟩
 have hs1:=k1.size
 have c1:w1.cell? ⟨b,1,none⟩=some v:=by simp [World.cell?,hv]
 go_wp2_with (at_builtin;go_loud (refine wpList_append_ownF _ rfl _ _ 176 rfl b 5 i0 (.int .u8 0) 1 1 hsl hi hz0 hz1 hz2 rfl Nat.one_pos v xs.length xs rfl (hown.alloc _) ⟨w1.heap.size,0,none⟩ 1 1 [.int .u8 c] rfl rfl ?q1 ?q2 ?q3 ?q4 ?q5 ?_))
 case q1=>
  intro j u hj
  match j,hj with
  |0,hj=>simp at hj;subst hj;simp [Addr.add]
 case q2=>intro u hu;simp at hu;subst hu;rfl
 case q3=>unfold maxLen;omega
 case q4=>omega
 case q5=>simp;omega
 intro v' w2 hown' hgrow _
 have hlt:b < w1.heap.size:=(Array.getElem?_eq_some_iff.1 hv).1
 have hv2:w2.heap[b]?=some (.cells #[.pointer (some ⟨b,0,none⟩),v] 178 (0,0)):=by
  rw [hgrow.block b (by simp;omega) (fun e=>hne e.symm),Lib.alloc_old w1 _ b hlt]
  exact hv
 have d0:w2.cell? ⟨b,0,none⟩=some (.pointer (some ⟨b,0,none⟩)):=by simp [World.cell?,hv2]
 have d1:w2.cell? ⟨b,1,none⟩=some v:=by simp [World.cell?,hv2]
 have f1:w2.frozen? ⟨b,1,none⟩=false:=by simp [World.frozen?,hv2]
 have f0:w2.frozen? ⟨b,0,none⟩=false:=by simp [World.frozen?,hv2]
 obtain⟨ad,cap,rfl⟩:∃ad cap,v'=.slice (some ⟨ad,0,none⟩) (xs.length+1) cap:=by
  rcases hown'.2 with⟨_,h0⟩|⟨ad,cap,cur,fz,he,_⟩
  ·omega
  ·exact⟨ad,cap,he⟩
 go_wp2
 go_ret
 refine⟨rfl,.inr (Lib.BuilderAtF.put (T:=178) (e:=5) (Nat.le_refl b) hv2 (bs':=xs ++ [.int .u8 c]) (by simpa using hown') (by decide)),?_⟩
 exact((k1.alloc (by omega) _).grown hgrow (by simp;omega) (fun k hk=>(hown.lt k hk).1)).setCell (p:=⟨b,1,none⟩) (Nat.le_refl _) _
set_option maxHeartbeats 4000000 in
set_option maxRecDepth 1000000 in
theorem meant_calls (s:ByteArray)(w:World)(hs:s.size≤1073741824) :
  Calls Tryz.prog 89 #[.string s] w fun e w'=>e=.returned (.tuple #[.string (quoF s 1 ⟨#[]⟩).2.1,.int .i64 ((quoF s 1 ⟨#[]⟩).1:Nat),.bool (quoF s 1 ⟨#[]⟩).2.2])∧Below w.heap.size w w':=by
 go_enter Tryz.func89,Tryz.ntmps89
 go_wp2
 go_loopw [6] (fun i wr=>∃(n:Nat) (l:List UInt8),i=.int .i64 (n:Nat)∧1≤n∧Lib.IsBuilderF 178 5 w.heap.size w.heap.size (Lib.byteCells l) wr∧Below w.heap.size w wr∧quoF s n ⟨l.toArray⟩=quoF s 1 ⟨#[]⟩∧l.length≤n∧n≤s.size+2)
  (fun i _=>s.size+2 - (intOf i).toNat)
 case atStart=>
  exact⟨1,[],rfl,Nat.le_refl _,Lib.IsBuilderF.of (Lib.fresh_isBuilder _ _ w),(Below.refl _ w).alloc (Nat.le_refl _) _,rfl,Nat.zero_le _,by omega⟩
 case round=>
  obtain⟨n,l,rfl,h1,hI,hbw,hq,hl,hn⟩:=hrel
  have hsz:=hbw.size
  by_cases hlt:n < s.size
  ·have hg:=chr_get hlt
   rw [quoF,dif_pos hlt] at hq
   by_cases c1:(chr s n).toNat=34
   ·rw [if_pos c1] at hq
    have b1:(((chr s n).toNat:Int) == 34)=true:=by simp;omega
    go_wp2_with (go_at_call 106;refine(Tryz.Builder_String_any_k w.heap.size w.heap.size l _ hI hsz).mono ?_)
    rintro e W1 ⟨rfl,_,k1,_⟩
    go_wp2
    (try simp only [Exit.inBlock,Exit.then]);refine bodyPost_ret (results_tmp3 rfl _ _ _) rfl ?_
    exact⟨by rw [← hq];rfl,hbw.trans k1⟩
   rw [if_neg c1] at hq
   have b1:(((chr s n).toNat:Int) == 34)=false:=by simp;omega
   by_cases c2:(chr s n).toNat=10
   ·rw [if_pos c2] at hq
    have b2:(((chr s n).toNat:Int) == 10)=true:=by simp;omega
    go_wp2
    (try simp only [Exit.inBlock,Exit.then]);refine bodyPost_ret (results_tmp3 rfl _ _ _) rfl ?_
    exact⟨by rw [← hq];rfl,hbw⟩
   rw [if_neg c2] at hq
   have b2:(((chr s n).toNat:Int) == 10)=false:=by simp;omega
   by_cases c3:(chr s n).toNat=92
   ·rw [if_pos c3] at hq
    have b3:(((chr s n).toNat:Int) == 92)=true:=by simp;omega
    by_cases hlt2:n+1 < s.size
    ·have hg2:=chr_get hlt2
     by_cases c4:(chr s (n+1)).toNat≠34∧(chr s (n+1)).toNat≠92
     ·rw [if_pos c4] at hq
      have b4:(((n:Int)+1) == (s.size:Int))=false:=by simp;omega
      have b5:(((chr s (n+1)).toNat:Int) != 34)=true:=by simp;omega
      have b6:(((chr s (n+1)).toNat:Int) != 92)=true:=by simp;omega
      go_wp2
      (try simp only [Exit.inBlock,Exit.then]);refine bodyPost_ret (results_tmp3 rfl _ _ _) rfl ?_
      exact⟨by rw [← hq];rfl,hbw⟩
     ·rw [if_neg c4,sub_one hlt2] at hq
      have b4:(((n:Int)+1) == (s.size:Int))=false:=by simp;omega
      have c6:(chr s (n+1)).toNat=34∨(chr s (n+1)).toNat=92:=by omega
      rcases c6 with c5|c5
      ·have b5:(((chr s (n+1)).toNat:Int) != 34)=false:=by simp;omega
       go_wp2_with (go_at_call 107;refine(bld_byte w.heap.size _ _ _ hI (by rw [Lib.byteCells_length];omega) hsz).mono ?_)
       rintro e W1 ⟨rfl,h1',k1⟩
       go_wp2
       go_roundw
       case rel=>
        refine⟨n+2,l ++ [chr s (n+1)],by simp;omega,by omega,?_,hbw.trans k1,hq,by rw [List.length_append,List.length_singleton];omega,by omega⟩
        rw [Lib.byteCells_append]
        have e9:Lib.byteCells [chr s (n+1)]=[.int .u8 ((chr s (n+1)).toNat:Nat)]:=rfl
        rw [e9]
        first|exact h1'|(rw [c5];exact h1')
       case measure=>
        simp [intOf];omega
      ·have b5:(((chr s (n+1)).toNat:Int) != 34)=true:=by simp;omega
       have b6:(((chr s (n+1)).toNat:Int) != 92)=false:=by simp;omega
       go_wp2_with (go_at_call 107;refine(bld_byte w.heap.size _ _ _ hI (by rw [Lib.byteCells_length];omega) hsz).mono ?_)
       rintro e W1 ⟨rfl,h1',k1⟩
       go_wp2
       go_roundw
       case rel=>
        refine⟨n+2,l ++ [chr s (n+1)],by simp;omega,by omega,?_,hbw.trans k1,hq,by rw [List.length_append,List.length_singleton];omega,by omega⟩
        rw [Lib.byteCells_append]
        have e9:Lib.byteCells [chr s (n+1)]=[.int .u8 ((chr s (n+1)).toNat:Nat)]:=rfl
        rw [e9]
        first|exact h1'|(rw [c5];exact h1')
       case measure=>
        simp [intOf];omega
    ·have hz:chr s (n+1)=0:=chr_end (by omega)
     rw [hz,if_pos (by decide)] at hq
     have b4:(((n:Int)+1) == (s.size:Int))=true:=by simp;omega
     go_wp2
     (try simp only [Exit.inBlock,Exit.then]);refine bodyPost_ret (results_tmp3 rfl _ _ _) rfl ?_
     exact⟨by rw [← hq];rfl,hbw⟩
   ·rw [if_neg c3,sub_one hlt] at hq
    have b3:(((chr s n).toNat:Int) == 92)=false:=by simp;omega
    go_wp2_with (go_at_call 107;refine(bld_byte w.heap.size _ _ _ hI (by rw [Lib.byteCells_length];omega) hsz).mono ?_)
    rintro e W1 ⟨rfl,h1',k1⟩
    go_wp2
    go_roundw
    case rel=>
     refine⟨n+1,l ++ [chr s n],by simp,by omega,?_,hbw.trans k1,hq,by rw [List.length_append,List.length_singleton];omega,by omega⟩
     rw [Lib.byteCells_append]
     have e9:Lib.byteCells [chr s n]=[.int .u8 ((chr s n).toNat:Nat)]:=rfl
     rw [e9]
     exact h1'
    case measure=>
     simp [intOf];omega
  ·rw [quoF,dif_neg hlt] at hq
   go_wp2
   (try simp only [Exit.inBlock,Exit.then]);refine bodyPost_ret (results_tmp3 rfl _ _ _) rfl ?_
   exact⟨by rw [← hq];rfl,hbw⟩
end Go.Proofs
namespace Go.Ev
open Go.Proofs
theorem ok_below {P:Program}{q:FuncId}{l:List Value}{f:Bool}{v:Value}{t:T}(hq:Callable P q)(hr:∀S,RdT S t v)
  (h:∀(w:World),Calls P q l.toArray w fun e w'=>e=.returned v∧RowKit.Below w.heap.size w w'):Ok P q (l.map T.con) f t:=by
 refine⟨hq,fun S w args hS hgl hargs=>?_⟩
 rw [reads_con hargs]
 refine(h w).mono fun e w' he=>?_
 obtain⟨rfl,hb⟩:=he
 exact⟨v,fun _ _=>none,rfl,hb,(fun _ _ _ hc=>by cases hc),hr _⟩
theorem meant_ok (s:ByteArray)(hs:s.size≤1073741824):Ok Tryz.prog 89 [tS9 s] true (.tup [.con (.string (quoF s 1 ⟨#[]⟩).2.1),.con (.int .i64 ((quoF s 1 ⟨#[]⟩).1:Nat)),.con (.bool (quoF s 1 ⟨#[]⟩).2.2)]):=by
 refine ok_below (l:=[.string s]) ⟨_,Tryz.func89,rfl,rfl⟩ (fun S=>?_) (fun w=>meant_calls s w hs)
 refine .tup _ _ rfl (fun j us h=>?_) (fun j u c h1 h2=>?_)
 ·match j with
  |0=>simp at h
  |1=>simp at h
  |2=>simp at h
  |j+3=>simp at h
 ·match j with
  |0=>simp at h1 h2;subst h1;subst h2;exact .con _ rfl
  |1=>simp at h1 h2;subst h1;subst h2;exact .con _ rfl
  |2=>simp at h1 h2;subst h1;subst h2;exact .con _ rfl
  |j+3=>simp at h1
def tkV (k:Int)(w:ByteArray)(l c:Int):V:=.agg [.con (.int .i8 k),.con (.string w),.con (.int .i64 l),.con (.int .i64 c)]
def tkOb (k:Int)(w:ByteArray)(l c:Int):Obj:=⟨4,[tkV k w l c],0,true⟩
def feV (f:Flt):V:=.ro true (.ifc 88 (.ptr (fTl f)))
def failV (f:Flt):V:=.tup [tkV 0 eS 0 0,feV f]
theorem tkV_flat (k:Int)(w:ByteArray)(l c:Int):(tkV k w l c).flat:=by
 intro v hv
 simp at hv
 rcases hv with rfl|rfl|rfl|rfl<;>trivial
theorem tkOb_flat (k:Int)(w:ByteArray)(l c:Int):∀e ∈ (tkOb k w l c).el,e.flat:=one_flat (tkV_flat k w l c)
theorem fd_fe {oh oh1:OH}{id:Nat}{f:Flt}(ho:oget oh id=some ⟨4,[.agg [.con (.int .i64 f.code),.con (.int .i64 f.line),.con (.int .i64 f.col),.con (.string f.word)]],0,true⟩)(hd:oget oh1 id=none) :
  Lc oh oh1 (.wr (.ifc 88) id 0 0 0) (feV f):=by
 refine Lc.frz true _ (.ifc 88 (.ptr (fTl f))) (Fd1.ifc _ id 0 0 0 _ (Fd1.ref id 0 0 0 _ _ _ ho hd rfl rfl rfl rfl fun j v u h1 h2=>?_))
 match j with
 |0=>simp [V.cells] at h1;simp [fTl] at h2;subst h1;subst h2;exact .con _
 |1=>simp [V.cells] at h1;simp [fTl] at h2;subst h1;subst h2;exact .con _
 |2=>simp [V.cells] at h1;simp [fTl] at h2;subst h1;subst h2;exact .con _
 |3=>simp [V.cells] at h1;simp [fTl] at h2;subst h1;subst h2;exact .con _
 |j+4=>simp [V.cells] at h1
theorem fail_ok (k:Int)(w:ByteArray)(l c:Int)(code:Int)(word:ByteArray) :
  OkG Tryz.prog 82 [(0,tkOb k w l c)] [] [.con (.int .i64 code),.con (.string word),.ref 0 0 0 0] [] (failV ⟨code,l,c,word⟩):=by
 refine okg_of_ev hC0 mix 3 (zO rfl) Tryz.func82 rfl rfl (by kernel_rfl) (by kernel_rfl) (zO rfl) ?wf ?vs ?po ?le ?_
 case wf=>
  intro i o h
  obtain⟨rfl,rfl⟩:=oget_one h
  exact⟨rfl,rfl,fun v hv=>(tkOb_flat k w l c v hv).cl _⟩
 case vs=>exact three_vs trivial trivial rfl
 case po=>intro i o h;simp [oget] at h
 case le=>
  intro i o o' h1 h2 h3 h4
  obtain⟨rfl,rfl⟩:=oget_one h1
  obtain⟨-,rfl⟩:=oget_one h2
  exact⟨rfl,Nat.le_refl _⟩
 repeat'(first|(with_reducible first|(refine zz ?_;try intro K hK)|refine zI ?_|refine zt ?_|refine zf ?_)|((first|refine hK _ ?_|refine hK _ _ rfl ?_);clear hK K)|(guard_hyp hK;first|(refine zY ?zz ?_;case zz=>first|exact rfl|exact gJ)|refine fresh_n ?_|refine freshO_n ?_|refine zW ?_|intro b0 hb)|((first|with_reducible refine zm ?_|guard_hyp hK);refine zY ?_ ?_;all_goals(intro hb;(try simp only [sn,sb] at hb);try exact ex0)))
 refine⟨trivial,true,⟨Tryz.f82.ntmps,[(2,.ref 0 0 0 0),(5,.ref 1 0 0 0),(6,feV ⟨code,l,c,word⟩)],[(0,tkOb k w l c),(1,tkOb 0 eS 0 0)]⟩,?_,?_,?_,?_⟩
 ·exact lf_of0 ⟨Lc.same _ rfl,Lc.same _ rfl,fd_fe rfl rfl,trivial⟩ ⟨lfOb_same rfl (tkOb_flat _ _ _ _),lfOb_same rfl (tkOb_flat _ _ _ _),trivial⟩
 ·intro i o o' h1 h2 h3
  obtain⟨rfl,rfl⟩:=oget_one h1
  exact⟨Nat.zero_lt_succ _,⟨_,rfl,rfl,rfl,rfl⟩,2,_,by decide,rfl,rfl,⟨rfl,rfl⟩⟩
 ·intro i o h
  obtain⟨rfl,rfl⟩:=oget_one h
  refine⟨_,rfl,rfl,rfl,rfl,rfl,fun k e e1 h1 h2=>?_⟩
  rw [h1] at h2
  obtain rfl:e=e1:=by simpa using h2
  exact bmA_flat (tkOb_flat _ _ _ _ e (List.mem_of_getElem? h1))
 ·refine resc (l:=[.con (.int .i8 0),.con (.string eS),.con (.int .i64 0),.con (.int .i64 0)]) tk99 rfl (Nat.zero_lt_succ _) rfl rfl ⟨_,_,rfl,bmA_flat (tkV_flat 0 eS 0 0),BmC.ro _ _⟩
theorem fail_call {C:CT}{q:FuncId}{args:List V}{oh:OH}{k:Int}{w:ByteArray}{l c code:Int}{word:ByteArray}{K:Acc→Prop}(id:Nat)(hc:C q [] (.gen [(0,tkOb k w l c)] [] [.con (.int .i64 code),.con (.string word),.ref 0 0 0 0] [] (failV ⟨code,l,c,word⟩)))
  (ha:args=[.con (.int .i64 code),.con (.string word),.ref id 0 0 0]) (hp:oget oh id=some (tkOb k w l c))
  (hk:K ⟨[(id,tkOb k w l c)],[],[],failV ⟨code,l,c,word⟩⟩):GenK C q args oh K:=by
 have e1:∀m vo,vo 0=0→(tkOb k w l c).rn m vo 0=tkOb k w l c:=by
  intro m vo h
  show Obj.mk 4 [(tkV k w l c).rnA m vo] (vo 0+0) true=_
  rw [rn_id _ _ (tkV_flat k w l c),h];rfl
 refine⟨_,_,_,_,_,fun _=>id,fun _=>0,hc,by rw [ha];rfl,fun p hp'=>?_,fun i hi=>by simp at hi,fun i hi j hj _=>?_,?_⟩
 ·obtain rfl:=List.mem_singleton.1 hp'
  show oget oh id=some ((tkOb k w l c).rn _ _ 0)
  rw [e1 _ _ rfl];exact hp
 ·have h1:i=0:=by simpa using hi
  have h2:j=0:=by simpa using hj
  rw [h1,h2]
 ·have:rnO (fun _=>id) (fun _=>0) [(0,tkOb k w l c)]=[(id,tkOb k w l c)]:=by
   show [(id,(tkOb k w l c).rn _ _ 0)]=_
   rw [e1 _ _ rfl]
  rw [this]
  exact hk
end Go.Ev
