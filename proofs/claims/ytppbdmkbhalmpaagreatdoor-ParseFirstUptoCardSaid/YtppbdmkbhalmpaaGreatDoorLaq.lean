import Derived.Test.YtppbdmkbhalmpaaGreatDoorLah
import Derived.Test.YtppbdmkbhalmpaaGreatDoorLap
import Derived.Test.YtppbdmkbhalmpaaGreatDoorLag
set_option linter.all false
set_option maxHeartbeats 4000000
set_option maxRecDepth 10000
namespace Go.Ev
open Go.Proofs
theorem ib_cons (b c:UInt8)(l:List UInt8):Lib.indexByte (b :: l) c=if b=c then 0 else if Lib.indexByte l c = -1 then -1 else Lib.indexByte l c+1:=by
 rw [Lib.indexByte]
 by_cases h:b=c
 ·simp [h]
 ·simp [h]
theorem ib_ge (l:List UInt8)(c:UInt8) : -1≤Lib.indexByte l c:=Lib.indexByte_ge l c
theorem ix_cons (b:UInt8)(l u:List UInt8):Lib.index (b :: l) u=if u.isPrefixOf (b :: l)=true then 0 else if Lib.index l u = -1 then -1 else Lib.index l u+1:=by
 rw [Lib.index]
 by_cases h:u.isPrefixOf (b :: l)=true
 ·simp [h]
 ·simp [h]
theorem ix_ge (l u:List UInt8) : -1≤Lib.index l u:=Lib.index_ge l u
theorem chr_n {s:ByteArray}{i:Nat}{b:UInt8}:chr s i=b↔(chr s i).toNat=b.toNat:=UInt8.toNat_inj.symm
theorem skipA_line (s:ByteArray)(h1:(chr s 1).toNat=47)(i:Nat)(hi:i≤s.size):skipA s i=if Lib.indexByte ((bs s).drop i) 10 = -1 then(s.size:Int) else i+Lib.indexByte ((bs s).drop i) 10:=by
 rw [skipA]
 by_cases hlt:i < s.size
 ·rw [dif_pos hlt,drop_at hlt,ib_cons]
  have hg:=ib_ge ((bs s).drop (i+1)) 10
  by_cases h2:(chr s i).toNat=10
  ·have h3:chr s i=10:=chr_n.2 h2
   rw [if_pos ⟨h1,h2⟩,if_pos h3,if_neg (by decide)];omega
  ·have h3:¬chr s i=10:=fun h=>h2 (by rw [h];rfl)
   rw [if_neg (fun h=>h2 h.2),if_neg (fun h=>absurd h.1 (by omega)),if_neg h3,skipA_line s h1 (i+1) hlt]
   by_cases h4:Lib.indexByte ((bs s).drop (i+1)) 10 = -1
   ·rw [if_pos h4,if_pos h4,if_pos rfl]
   ·rw [if_neg h4,if_neg h4,if_neg (by omega)];omega
 ·rw [dif_neg hlt,if_pos h1]
  have:(bs s).drop i=[]:=List.drop_eq_nil_of_le (by rw [bs_len];omega)
  rw [this];rfl
termination_by s.size - i
theorem pre_two (l:List UInt8)(b:UInt8):([42,47]:List UInt8).isPrefixOf (b :: l)=true↔b=42∧l.head?=some 47:=by
 cases l with
 |nil=>simp [List.isPrefixOf]
 |cons c r=>
  simp [List.isPrefixOf]
  constructor
  ·rintro⟨h,k⟩;exact⟨h.symm,k.symm⟩
  ·rintro⟨h,k⟩;exact⟨h.symm,k.symm⟩
theorem chr_head (s:ByteArray)(i:Nat):(chr s i).toNat=47↔((bs s).drop i).head?=some 47:=by
 rcases Nat.lt_or_ge i s.size with h|h
 ·rw [drop_at h,List.head?_cons]
  constructor
  ·intro h2
   have h3:chr s i=47:=chr_n.2 h2
   rw [h3]
  ·intro h2;rw [Option.some.inj h2];rfl
 ·rw [chr_end h,List.drop_eq_nil_of_le (by rw [bs_len];omega)]
  constructor
  ·intro h2;exact absurd h2 (by decide)
  ·intro h2;cases h2
theorem skipA_block (s:ByteArray)(h1:(chr s 1).toNat=42)(i:Nat)(hi:i≤s.size):skipA s i=if Lib.index ((bs s).drop i) [42,47] = -1 then -1 else i+Lib.index ((bs s).drop i) [42,47]+2:=by
 rw [skipA]
 by_cases hlt:i < s.size
 ·rw [dif_pos hlt,drop_at hlt,ix_cons,if_neg (fun h=>absurd h.1 (by omega))]
  have hg:=ix_ge ((bs s).drop (i+1)) [42,47]
  by_cases h2:(chr s i).toNat=42∧(chr s (i+1)).toNat=47
  ·have h3:([42,47]:List UInt8).isPrefixOf (chr s i :: (bs s).drop (i+1))=true:=(pre_two _ _).2 ⟨chr_n.2 h2.1,(chr_head s _).1 h2.2⟩
   rw [if_pos ⟨h1,h2⟩,if_pos h3,if_neg (by decide)];omega
  ·have h3:¬([42,47]:List UInt8).isPrefixOf (chr s i :: (bs s).drop (i+1))=true:=fun h=>by
    obtain⟨e1,e2⟩:=(pre_two _ _).1 h
    exact h2 ⟨by rw [e1];rfl,(chr_head s _).2 e2⟩
   rw [if_neg (fun h=>h2 h.2),if_neg h3,skipA_block s h1 (i+1) hlt]
   by_cases h4:Lib.index ((bs s).drop (i+1)) [42,47] = -1
   ·rw [if_pos h4,if_pos h4,if_pos rfl]
   ·rw [if_neg h4,if_neg h4,if_neg (by omega)];omega
 ·rw [dif_neg hlt,if_neg (by omega)]
  have:(bs s).drop i=[]:=List.drop_eq_nil_of_le (by rw [bs_len];omega)
  rw [this];rfl
termination_by s.size - i
theorem skipF_line (s:ByteArray)(h0:(chr s 0).toNat=47)(h1:(chr s 1).toNat=47):skipF s=if Lib.indexByte (bs s) 10 = -1 then(s.size:Int) else Lib.indexByte (bs s) 10:=by
 have l1:1 < s.size:=by
  rcases Nat.lt_or_ge 1 s.size with h|h
  ·exact h
  ·rw [chr_end h] at h1;exact absurd h1 (by decide)
 have e0:isBlk (chr s 0)=false:=by unfold isBlk;simp [h0]
 unfold skipF
 rw [if_neg (by rw [e0];decide),if_neg (fun h=>h.elim (fun h=>h h0) (fun h=>h.1 h1)),skipA_line s h1 2 l1]
 have hd:bs s=chr s 0 :: chr s 1 :: (bs s).drop 2:=by
  have:=drop_at (s:=s) (i:=0) (by omega)
  rw [List.drop_zero] at this
  rw [← drop_at l1];exact this
 have e1:Lib.indexByte (bs s) 10=if Lib.indexByte ((bs s).drop 2) 10 = -1 then -1 else Lib.indexByte ((bs s).drop 2) 10+2:=by
  have hg:=ib_ge ((bs s).drop 2) 10
  have n0:¬chr s 0=10:=fun h=>by rw [h] at h0;exact absurd h0 (by decide)
  have n1:¬chr s 1=10:=fun h=>by rw [h] at h1;exact absurd h1 (by decide)
  rw [hd,ib_cons,ib_cons,← hd,if_neg n0,if_neg n1]
  by_cases h4:Lib.indexByte ((bs s).drop 2) 10 = -1
  ·rw [if_pos h4,if_pos rfl,if_pos h4]
  ·rw [if_neg h4,if_neg (by omega),if_neg h4];omega
 rw [e1]
 have hg:=ib_ge ((bs s).drop 2) 10
 by_cases h4:Lib.indexByte ((bs s).drop 2) 10 = -1
 ·rw [if_pos h4,if_pos h4,if_pos rfl]
 ·rw [if_neg h4,if_neg h4,if_neg (by omega)];omega
theorem skipF_block (s:ByteArray)(h0:(chr s 0).toNat=47)(h1:(chr s 1).toNat=42):skipF s=if Lib.index ((bs s).drop 2) [42,47] = -1 then -1 else Lib.index ((bs s).drop 2) [42,47]+4:=by
 have l1:1 < s.size:=by
  rcases Nat.lt_or_ge 1 s.size with h|h
  ·exact h
  ·rw [chr_end h] at h1;exact absurd h1 (by decide)
 have e0:isBlk (chr s 0)=false:=by unfold isBlk;simp [h0]
 unfold skipF
 rw [if_neg (by rw [e0];decide),if_neg (fun h=>h.elim (fun h=>h h0) (fun h=>h.2 h1)),skipA_block s h1 2 l1]
 by_cases h4:Lib.index ((bs s).drop 2) [42,47] = -1
 ·rw [if_pos h4,if_pos h4]
 ·rw [if_neg h4,if_neg h4];omega
theorem bq_two (s:ByteArray)(a b:UInt8)(ha:a≠0)(hb:b≠0):preB s ⟨#[a,b]⟩=decide (chr s 0=a∧chr s 1=b):=by
 unfold preB
 rw [Bool.eq_iff_iff,Bool.and_eq_true,decide_eq_true_eq,decide_eq_true_eq,beq_iff_eq,bq_data,bq_data]
 have e1:(⟨#[a,b]⟩:ByteArray).size=2:=rfl
 rw [e1]
 have e2:(s.extract 0 2).data.toList=(bs s).take 2:=by
  have:=sub_bs s 0 2
  rw [List.drop_zero] at this
  exact this
 rw [e2]
 show 2≤s.size∧(bs s).take 2=[a,b]↔_
 rw [← bs_len]
 unfold chr
 match hq:bs s with
 | []=>simp;intro h;exact absurd h.symm ha
 | [x]=>simp;intro _ h;exact absurd h.symm hb
 |x :: y :: r=>simp
def blF (s:ByteArray)(a:Nat):Nat×Bool:=
 if h:a < s.size then
  if skipF (s.extract a s.size) < 0 then(a,false)
  else if h2:0 < skipF (s.extract a s.size) then blF s (a+(skipF (s.extract a s.size)).toNat)
  else(a,true)
 else(a,true)
termination_by s.size - a
decreasing_by have:=skipF (s.extract a s.size);omega
theorem blF_le (s:ByteArray)(a:Nat)(ha:a≤s.size):a≤(blF s a).1∧(blF s a).1≤s.size:=by
 rw [blF]
 split
 ·rename_i h
  split
  ·exact⟨Nat.le_refl _,ha⟩
  ·split
   ·rename_i h2
    have h3:=skipF_le (s:=s.extract a s.size) (by rw [ByteArray.size_extract];omega)
    rw [ByteArray.size_extract] at h3
    have:=blF_le s (a+(skipF (s.extract a s.size)).toNat) (by omega)
    omega
   ·exact⟨Nat.le_refl _,ha⟩
 ·exact⟨Nat.le_refl _,ha⟩
termination_by s.size - a
def lrV (s:ByteArray)(a l c:Nat):V:=.agg [.con (.string s),.con (.int .i64 a),.con (.int .i64 l),.con (.int .i64 c)]
def lrO (s:ByteArray)(a l c:Nat):OH:=[(0,⟨4,[lrV s a l c],0,true⟩)]
theorem lrV_flat (s:ByteArray)(a l c:Nat):(lrV s a l c).flat:=by
 intro v hv
 simp at hv
 rcases hv with rfl|rfl|rfl|rfl<;>trivial
theorem lr_one {s:ByteArray}{a l c:Nat}{oh:OH}:∀v ∈ [lrV s a l c],v.cl oh:=by
 intro v hv
 obtain rfl:=List.mem_singleton.1 hv
 exact(lrV_flat s a l c).cl oh
theorem lr_wf (s:ByteArray)(a l c:Nat):∀i o,oget (lrO s a l c) i=some o→o.ver=0∧o.live=true∧∀v ∈ o.el,v.cl (lrO s a l c):=by
 intro i o h
 obtain⟨rfl,rfl⟩:=oget_one h
 exact⟨rfl,rfl,lr_one⟩
theorem lr_po (s:ByteArray)(a l c a' l' c':Nat){nw:List Nat}:∀i o,oget (lrO s a' l' c') i=some o→(oget (lrO s a l c) i).isSome=true∨i ∈ nw:=by
 intro i o h
 obtain⟨rfl,rfl⟩:=oget_one h
 exact .inl rfl
theorem lr_after {s:ByteArray}{a l c a' l' c':Nat}{i:Nat}{o:Obj}(h:oget (lrO s a' l' c' ++ lrO s a l c) i=some o):i=0∧o=⟨4,[lrV s a' l' c'],0,true⟩:=by
 by_cases h0:i=0
 ·subst h0
  have e:oget (lrO s a' l' c' ++ lrO s a l c) 0=some ⟨4,[lrV s a' l' c'],0,true⟩:=rfl
  rw [e] at h
  exact⟨rfl,(Option.some.inj h).symm⟩
 ·rw [show lrO s a' l' c' ++ lrO s a l c=[(0,_),(0,_)] from rfl,oget,if_neg (Ne.symm h0),oget,if_neg (Ne.symm h0)] at h
  cases h
theorem lr_le (s:ByteArray)(a l c a' l' c':Nat):∀i o o',oget (lrO s a l c) i=some o→oget (lrO s a' l' c' ++ lrO s a l c) i=some o'→o'.ver=0→o'.live=true→o'.sz=o.sz∧o.el.length≤o'.el.length:=by
 intro i o o' h1 h2 h3 h4
 obtain⟨rfl,rfl⟩:=lr_after h2
 obtain⟨-,rfl⟩:=oget_one h1
 exact⟨rfl,Nat.le_refl _⟩
theorem lr_pin {t:St}{vs:List V}{s:ByteArray}{a l c a' l' c' np:Nat}{e:List V}(hs:oget t.oh 0=some ⟨4,e,0,true⟩)(hnp:0 < np)(hv:vs[0]?=some (.ref 0 0 0 0))(he:eget t.env 0=.ref 0 0 0 0) :
  ∀i o o',oget (lrO s a l c) i=some o→oget (lrO s a' l' c' ++ lrO s a l c) i=some o'→o'.ver=0→PinG np vs t i o:=by
 intro i o o' h1 h2 h3
 obtain⟨rfl,rfl⟩:=lr_after h2
 obtain⟨-,rfl⟩:=oget_one h1
 exact⟨Nat.zero_lt_succ _,⟨_,hs,rfl,rfl,rfl⟩,0,_,hnp,hv,he,⟨rfl,rfl⟩⟩
theorem lr_bm {t:St}{s:ByteArray}{a l c a' l' c':Nat}(hs:oget t.oh 0=some ⟨4,[lrV s a' l' c'],0,true⟩):Bm t.oh (lrO s a' l' c' ++ lrO s a l c):=by
 intro i o h
 obtain⟨rfl,rfl⟩:=lr_after h
 refine⟨_,hs,rfl,rfl,rfl,rfl,fun k e e1 he he1=>?_⟩
 rw [he] at he1
 obtain rfl:e=e1:=by simpa using he1
 cases k with
 |zero=>
  obtain rfl:lrV s a' l' c'=e:=by simpa using he
  refine⟨rfl,fun j x y hx hy=>?_⟩
  rw [hx] at hy
  obtain rfl:x=y:=by simpa using hy
  have hm:=List.mem_of_getElem? hx
  simp at hm
  rcases hm with rfl|rfl|rfl|rfl<;>exact .con _
 |succ k=>simp at he
theorem lr_ret0 {P:Program}{fn:Func}{t:St}{vs:List V}{s:ByteArray}{a l c a' l' c' np:Nat}{x:X}(hx:match x with|.exit _=>False|_=>True)(hr:fn.results.toList=[])(hs:oget t.oh 0=some ⟨4,[lrV s a' l' c'],0,true⟩)(hnp:0 < np)(hv:vs[0]?=some (.ref 0 0 0 0))(he:eget t.env 0=.ref 0 0 0 0) :
  RetG P fn np (lrO s a l c) vs (lrO s a' l' c') (.tup []) x t:=by
 refine⟨hx,false,t,rfl,lr_pin hs hnp hv he,lr_bm hs,?_⟩
 rw [hr]
def walkF (s:ByteArray)(a:Nat)(l c:Nat):Nat→Nat×Nat
 |0=>(l,c)
 |k+1=>if(chr s (a+k)).toNat=10 then((walkF s a l c k).1+1,1) else((walkF s a l c k).1,(walkF s a l c k).2+1)
theorem walkF_le (s:ByteArray)(a l c:Nat):∀k,(walkF s a l c k).1≤l+k∧(walkF s a l c k).2≤c+k+1
 |0=>⟨Nat.le_refl _,by simp [walkF]⟩
 |k+1=>by
  have:=walkF_le s a l c k
  rw [walkF]
  split<;>(simp only;omega)
def tB (b:UInt8):T:=.con (.int .u8 b.toNat)
theorem at_b {l:List UInt8}{i:Nat}{b:UInt8}(h:l[i]?=some b):(l.map tB)[i]?=some (tB b):=by
 rw [List.getElem?_map,h];rfl
theorem pass_ok (s:ByteArray)(a l c n:Nat)(hs:s.size≤1073741824)(ha:a+n≤s.size)(hl:l≤1073741825)(hc:c≤1073741825) :
  OkG Tryz.prog 56 (lrO s a l c) [] [.ref 0 0 0 0,.con (.int .i64 n)] (lrO s (a+n) (walkF s a l c n).1 (walkF s a l c n).2) (.tup []):=by
 refine okg_of_ev hC0 mix 2 (zO rfl) Tryz.func56 rfl rfl (by kernel_rfl) (by kernel_rfl) (zO rfl) ?wf ?vs ?po ?le ?_
 case wf=>exact lr_wf _ _ _ _
 case vs=>
  intro v hv
  simp at hv
  rcases hv with rfl|rfl
  ·exact rfl
  ·trivial
 case po=>exact lr_po _ _ _ _ _ _ _
 case le=>exact lr_le _ _ _ _ _ _ _
 have hsz:(s.extract a (a+n)).size=n:=by rw [ByteArray.size_extract];omega
 have h47:(s.extract a (a+n)).size≤140737488355328:=by omega
 obtain⟨B,hB⟩:∃B:List UInt8,B=(s.extract a (a+n)).data.toList:=⟨_,rfl⟩
 have hBl:B.length=n:=by rw [hB,Array.length_toList];exact hsz
 have hBk:∀k,k < n→B[k]?=some (chr s (a+k)):=by
  intro k hk
  have h1:B=((bs s).drop a).take n:=by
   rw [hB]
   show bs (s.extract a (a+n))=_
   unfold bs
   rw [ByteArray.data_extract,Array.toList_extract,List.extract_eq_take_drop]
   congr 1;omega
  rw [h1,List.getElem?_take_of_lt hk,List.getElem?_drop]
  have h2:a+k < (bs s).length:=by rw [bs_len];omega
  unfold chr
  rw [List.getD,List.getElem?_eq_getElem h2];rfl
 have hlen:V.con (.int .i64 (((s.extract a (a+n)).data.toList.map tB).length:Int))=.con (.int .i64 n):=by rw [List.length_map,← hB,hBl]
 have hro:V.ro true (.sl ((s.extract a (a+n)).data.toList.map tB))=.ro true (.sl (B.map tB)):=by rw [hB]
 repeat'(first|(refine And.intro h47 ?_)|(with_reducible first|(refine zz ?_;try intro K hK)|refine zI ?_|refine zt ?_|refine zf ?_)|((first|refine hK _ ?_|refine hK _ _ rfl ?_);clear hK K)|(guard_hyp hK;first|(refine zY ?zz ?_;case zz=>first|exact rfl|exact gJ)|refine fresh_n ?_|refine freshO_n ?_|refine zW ?_|intro b0 hb)|((first|with_reducible refine zm ?_|guard_hyp hK);refine zY ?_ ?_;all_goals(intro hb;(try simp only [sn,sb] at hb);try exact ex0)))
 refine loop_i Nat (fun k=>⟨Tryz.f56.ntmps,[(0,.ref 0 0 0 0),(1,.con (.int .i64 n)),(21,.ro true (.sl (B.map tB))),(22,.con (.int .i64 n)),(23,.con (.int .i64 k))],[(0,⟨4,[lrV s a (walkF s a l c k).1 (walkF s a l c k).2],0,true⟩)]⟩) (fun k=>k≤n) (fun k=>n - k) [] 0 trivial (Nat.zero_le _) ⟨rfl,⟨rfl,rfl,rfl,trivial,hro,trivial,hlen,trivial,rfl,trivial,trivial⟩,⟨rfl,trivial⟩,⟨lr_one,trivial⟩⟩ ?_
 intro k hk
 have hw:=walkF_le s a l c k
 by_cases hlt:k < n
 ·have hbk:=hBk k hlt
  repeat'(first|(refine Exists.intro _ (And.intro (at_b hbk) ?_))|(with_reducible first|(refine zz ?_;try intro K hK)|refine zI ?_|refine zt ?_|refine zf ?_)|((first|refine hK _ ?_|refine hK _ _ rfl ?_);clear hK K)|(guard_hyp hK;first|(refine zY ?zz ?_;case zz=>first|exact rfl|exact gJ)|refine fresh_n ?_|refine freshO_n ?_|refine zW ?_|intro b0 hb)|((first|with_reducible refine zm ?_|guard_hyp hK);refine zY ?_ ?_;all_goals(intro hb;(try simp only [sn,sb] at hb);try exact ex0)))
  ·refine⟨k+1,hlt,by omega,rfl,⟨rfl,rfl,rfl,trivial,rfl,trivial,rfl,trivial,rfl,trivial,trivial⟩,⟨?_,trivial⟩,⟨lr_one,trivial⟩⟩
   rw [walkF,if_pos (by omega)];rfl
  ·refine⟨k+1,hlt,by omega,rfl,⟨rfl,rfl,rfl,trivial,rfl,trivial,rfl,trivial,rfl,trivial,trivial⟩,⟨?_,trivial⟩,⟨lr_one,trivial⟩⟩
   rw [walkF,if_neg (by omega)];rfl
 ·obtain rfl:k=n:=by omega
  repeat'(first|(with_reducible first|(refine zz ?_;try intro K hK)|refine zI ?_|refine zt ?_|refine zf ?_)|((first|refine hK _ ?_|refine hK _ _ rfl ?_);clear hK K)|(guard_hyp hK;first|(refine zY ?zz ?_;case zz=>first|exact rfl|exact gJ)|refine fresh_n ?_|refine freshO_n ?_|refine zW ?_|intro b0 hb)|((first|with_reducible refine zm ?_|guard_hyp hK);refine zY ?_ ?_;all_goals(intro hb;(try simp only [sn,sb] at hb);try exact ex0)))
  exact lr_ret0 trivial rfl rfl (by decide) rfl rfl
theorem walk_place (s:ByteArray)(a:Nat):∀k,walkF s a (placeF s a).1 (placeF s a).2 k=placeF s (a+k)
 |0=>rfl
 |k+1=>by
  rw [walkF,walk_place s a k,← Nat.add_assoc,placeF]
def lrP (s:ByteArray)(a:Nat):OH:=lrO s a (placeF s a).1 (placeF s a).2
theorem passP_ok (s:ByteArray)(a n:Nat)(hs:s.size≤1073741824)(ha:a+n≤s.size):OkG Tryz.prog 56 (lrP s a) [] [.ref 0 0 0 0,.con (.int .i64 n)] (lrP s (a+n)) (.tup []):=by
 have hp:=placeF_le s a
 have h:=pass_ok s a (placeF s a).1 (placeF s a).2 n hs ha (by omega) (by omega)
 rw [walk_place] at h
 exact h
theorem lr_ret1 {P:Program}{fn:Func}{t:St}{vs:List V}{s:ByteArray}{a l c a' l' c' np i:Nat}{r:V}{x:X}(hx:match x with|.exit _=>False|_=>True)(hr:fn.results.toList=[.tmp i])(hi:∃v,eget t.env i=.con v∧r=.con v)(hs:oget t.oh 0=some ⟨4,[lrV s a' l' c'],0,true⟩)(hnp:0 < np)(hv:vs[0]?=some (.ref 0 0 0 0))(he:eget t.env 0=.ref 0 0 0 0) :
  RetG P fn np (lrO s a l c) vs (lrO s a' l' c') r x t:=by
 obtain⟨v,hi,rfl⟩:=hi
 refine⟨hx,false,t,rfl,lr_pin hs hnp hv he,lr_bm hs,?_⟩
 rw [hr]
 show BmA _ _ (eget t.env i) (.con v)
 rw [hi]
 exact .con v
theorem blk_idx (b:UInt8):isBlk b=true↔0≤Lib.indexByte [32,9,10,13] b:=by
 by_cases h1:b=32
 ·subst h1;decide
 by_cases h2:b=9
 ·subst h2;decide
 by_cases h3:b=10
 ·subst h3;decide
 by_cases h4:b=13
 ·subst h4;decide
 have f:Lib.indexByte [] b = -1:=rfl
 rw [ib_cons,ib_cons,ib_cons,ib_cons,if_neg (Ne.symm h1),if_neg (Ne.symm h2),if_neg (Ne.symm h3),if_neg (Ne.symm h4),f]
 have g1:b.toNat≠32:=fun h=>h1 (UInt8.toNat_inj.1 h)
 have g2:b.toNat≠9:=fun h=>h2 (UInt8.toNat_inj.1 h)
 have g3:b.toNat≠10:=fun h=>h3 (UInt8.toNat_inj.1 h)
 have g4:b.toNat≠13:=fun h=>h4 (UInt8.toNat_inj.1 h)
 unfold isBlk
 simp [g1,g2,g3,g4]
theorem skipF_pos {s:ByteArray}(h0:(chr s 0).toNat=47)(h1:(chr s 1).toNat=47∨(chr s 1).toNat=42)(h:0≤skipF s):0 < skipF s:=by
 have l1:1 < s.size:=by
  rcases Nat.lt_or_ge 1 s.size with h9|h9
  ·exact h9
  ·rw [chr_end h9] at h1;rcases h1 with h1|h1<;>exact absurd h1 (by decide)
 rcases h1 with h1|h1
 ·have e0:isBlk (chr s 0)=false:=by unfold isBlk;simp [h0]
  have e1:skipF s=skipA s 2:=by
   unfold skipF
   rw [if_neg (by rw [e0];decide),if_neg (fun h=>h.elim (fun h=>h h0) (fun h=>h.1 h1))]
  have e2:=skipA_line s h1 2 l1
  have hg:=ib_ge ((bs s).drop 2) 10
  rw [e1,e2]
  split<;>omega
 ·have e1:=skipF_block s h0 h1
  have hg:=ix_ge ((bs s).drop 2) [42,47]
  rw [e1] at h ⊢
  split<;>rename_i h9
  ·rw [if_pos h9] at h;omega
  ·omega
theorem blanks_ok (s:ByteArray)(a:Nat)(hs:s.size≤1073741824)(ha:a≤s.size) :
  OkG Tryz.prog 46 (lrP s a) [] [.ref 0 0 0 0] (lrP s (blF s a).1) (.con (.bool (blF s a).2)):=by
 unfold lrP
 refine okg_of_ev hC0 mix 1 (zO rfl) Tryz.func46 rfl rfl (by kernel_rfl) (by kernel_rfl) (zO rfl) ?wf ?vs ?po ?le ?_
 case wf=>exact lr_wf _ _ _ _
 case vs=>
  intro v hv
  simp at hv
  rcases hv with rfl
  exact rfl
 case po=>exact lr_po _ _ _ _ _ _ _
 case le=>exact lr_le _ _ _ _ _ _ _
 repeat'(first|(with_reducible first|(refine zz ?_;try intro K hK)|refine zI ?_|refine zt ?_|refine zf ?_)|((first|refine hK _ ?_|refine hK _ _ rfl ?_);clear hK K)|(guard_hyp hK;first|(refine zY ?zz ?_;case zz=>first|exact rfl|exact gJ)|refine fresh_n ?_|refine freshO_n ?_|refine zW ?_|intro b0 hb)|((first|with_reducible refine zm ?_|guard_hyp hK);refine zY ?_ ?_;all_goals(intro hb;(try simp only [sn,sb] at hb);try exact ex0)))
 refine loop_i Nat (fun k=>⟨Tryz.f46.ntmps,[(0,.ref 0 0 0 0),(2,.con (.bool false))],[(0,⟨4,[lrV s k (placeF s k).1 (placeF s k).2],0,true⟩)]⟩) (fun k=>k≤s.size∧blF s k=blF s a) (fun k=>s.size - k) [] a trivial ⟨ha,rfl⟩ ⟨rfl,⟨rfl,rfl,rfl,trivial,trivial⟩,⟨rfl,trivial⟩,⟨lr_one,trivial⟩⟩ ?_
 rintro k ⟨hk,hbl⟩
 rw [← hbl]
 have hul:(s.extract k s.size).size=s.size - k:=by rw [ByteArray.size_extract];omega
 have hemp:(s.extract k s.size).toList=(⟨#[]⟩:ByteArray).toList↔s.size≤k:=by
  constructor
  ·intro h
   have:=congrArg ByteArray.size (bq_inj h)
   rw [hul] at this
   have e:(⟨#[]⟩:ByteArray).size=0:=rfl
   omega
  ·intro h
   have:(s.extract k s.size)=⟨#[]⟩:=by
    apply ByteArray.ext
    have h2:(s.extract k s.size).data.size=0:=by rw [show(s.extract k s.size).data.size=(s.extract k s.size).size from rfl,hul];omega
    exact Array.eq_empty_of_size_eq_zero h2
   rw [this]
 by_cases h0:k < s.size
 ·have hne:¬(s.extract k s.size).toList=(⟨#[]⟩:ByteArray).toList:=fun h=>by have:=hemp.1 h;omega
  rw [blF,dif_pos h0] at hbl ⊢
  have hp1:=HasPre_ok (s.extract k s.size) ⟨#[47,47]⟩ (by omega) (by decide)
  have hp2:=HasPre_ok (s.extract k s.size) ⟨#[47,42]⟩ (by omega) (by decide)
  rw [bq_two _ 47 47 (by decide) (by decide)] at hp1
  rw [bq_two _ 47 42 (by decide) (by decide)] at hp2
  have hlz:∀i,(chr (s.extract k s.size) i).toNat≠0→i < s.size - k:=fun i h=>by
   rcases Nat.lt_or_ge i (s.size - k) with h9|h9
   ·exact h9
   ·rw [chr_end (by omega)] at h;exact absurd rfl h
  have hpu:=fun n hn=>passP_ok s k n hs hn
  unfold lrP at hpu
  have hbn:∀m:Nat,skipF (s.extract k s.size)=m→0 < m→blF s (k+m)=blF s a:=by
   intro m h1 h2
   rw [if_neg (by omega),dif_pos (by omega),h1] at hbl
   rw [← hbl];simp
  have hset:blF s k=blF s a:=by rw [blF,dif_pos h0];exact hbl
  by_cases c1:chr (s.extract k s.size) 0=47∧chr (s.extract k s.size) 1=47
  ·rw [decide_eq_true c1] at hp1
   have hi:=IndexByte_ok (s.extract k s.size) 10
   have hsk:=skipF_line (s.extract k s.size) (chr_n.1 c1.1) (chr_n.1 c1.2)
   have hge:=ib_ge (bs (s.extract k s.size)) 10
   have hle:=skipF_le (s:=s.extract k s.size) (by omega)
   have hpo:0 < skipF (s.extract k s.size):=skipF_pos (chr_n.1 c1.1) (.inl (chr_n.1 c1.2)) (by rw [hsk];split<;>omega)
   have e0:Lib.indexByte (s.extract k s.size).data.toList 10=Lib.indexByte (bs (s.extract k s.size)) 10:=rfl
   rw [e0] at hi
   by_cases c2:Lib.indexByte (bs (s.extract k s.size)) 10 = -1
   ·rw [if_pos c2] at hsk
    rw [c2] at hi
    have hps:=hpu (s.extract k s.size).size (by omega)
    have hb9:=hbn _ hsk (by omega)
    rw [hbl]
    repeat'(first|(with_reducible first|(refine zz ?_;try intro K hK)|refine zI ?_|refine zt ?_|refine zf ?_)|((first|refine hK _ ?_|refine hK _ _ rfl ?_);clear hK K)|(guard_hyp hK;first|(refine zY ?zz ?_;case zz=>first|exact rfl|exact gJ)|refine fresh_n ?_|refine freshO_n ?_|refine zW ?_|(refine zQ (hp1) ?_)|(refine zQ (hi) ?_)|refine zg ([]) (hps) (lrO s k (placeF s k).1 (placeF s k).2) ([]) (lrO s (k+(s.extract k s.size).size) (placeF s (k+(s.extract k s.size).size)).1 (placeF s (k+(s.extract k s.size).size)).2) (.tup []) ?_|intro b0 hb)|((first|with_reducible refine zm ?_|guard_hyp hK);refine zY ?_ ?_;all_goals(intro hb;(try simp only [sn,sb] at hb);try exact ex0)))
    ·exact absurd hb hne
    ·exact⟨_,⟨by omega,hb9⟩,by omega,rfl,⟨rfl,rfl,rfl,trivial,trivial⟩,⟨rfl,trivial⟩,⟨lr_one,trivial⟩⟩
   ·rw [if_neg c2] at hsk
    obtain⟨m,hm⟩:∃m:Nat,Lib.indexByte (bs (s.extract k s.size)) 10=m:=⟨_,(Int.toNat_of_nonneg (by omega)).symm⟩
    rw [hm] at hi hsk
    have hps:=hpu m (by omega)
    have hb9:=hbn _ hsk (by omega)
    rw [hbl]
    repeat'(first|(with_reducible first|(refine zz ?_;try intro K hK)|refine zI ?_|refine zt ?_|refine zf ?_)|((first|refine hK _ ?_|refine hK _ _ rfl ?_);clear hK K)|(guard_hyp hK;first|(refine zY ?zz ?_;case zz=>first|exact rfl|exact gJ)|refine fresh_n ?_|refine freshO_n ?_|refine zW ?_|(refine zQ (hp1) ?_)|(refine zQ (hi) ?_)|refine zg ([]) (hps) (lrO s k (placeF s k).1 (placeF s k).2) ([]) (lrO s (k+m) (placeF s (k+m)).1 (placeF s (k+m)).2) (.tup []) ?_|intro b0 hb)|((first|with_reducible refine zm ?_|guard_hyp hK);refine zY ?_ ?_;all_goals(intro hb;(try simp only [sn,sb] at hb);try exact ex0)))
    ·exact absurd hb hne
    ·exact⟨_,⟨by omega,hb9⟩,by omega,rfl,⟨rfl,rfl,rfl,trivial,trivial⟩,⟨rfl,trivial⟩,⟨lr_one,trivial⟩⟩
  rw [decide_eq_false c1] at hp1
  by_cases c3:chr (s.extract k s.size) 0=47∧chr (s.extract k s.size) 1=42
  ·rw [decide_eq_true c3] at hp2
   have hl2:=hlz 1 (by rw [chr_n.1 c3.2];decide)
   have hsk:=skipF_block (s.extract k s.size) (chr_n.1 c3.1) (chr_n.1 c3.2)
   have hge:=ix_ge ((bs (s.extract k s.size)).drop 2) [42,47]
   have hle:=skipF_le (s:=s.extract k s.size) (by omega)
   obtain⟨u,hu⟩:∃u:ByteArray,u=(s.extract k s.size).extract 2 (s.extract k s.size).size:=⟨_,rfl⟩
   have hul2:u.size=s.size - k - 2:=by rw [hu,ByteArray.size_extract];omega
   have hub:u.data.toList=(bs (s.extract k s.size)).drop 2:=by
    have:=sub_bs (s.extract k s.size) 2 ((s.extract k s.size).size - 2)
    unfold sub at this
    rw [show 2+((s.extract k s.size).size - 2)=(s.extract k s.size).size by omega,← hu,List.take_of_length_le (by rw [List.length_drop,bs_len];omega)] at this
    exact this
   have hi:=Index_ok u ⟨#[42,47]⟩ (by omega)
   rw [hub,show(⟨#[42,47]⟩:ByteArray).data.toList=[42,47] from rfl] at hi
   rw [hu] at hi
   clear hu hul2 hub
   by_cases c2:Lib.index ((bs (s.extract k s.size)).drop 2) [42,47] = -1
   ·rw [if_pos c2] at hsk
    rw [c2] at hi
    rw [if_pos (by omega)]
    repeat'(first|(with_reducible first|(refine zz ?_;try intro K hK)|refine zI ?_|refine zt ?_|refine zf ?_)|((first|refine hK _ ?_|refine hK _ _ rfl ?_);clear hK K)|(guard_hyp hK;first|(refine zY ?zz ?_;case zz=>first|exact rfl|exact gJ)|refine fresh_n ?_|refine freshO_n ?_|refine zW ?_|(refine zQ (hp1) ?_)|(refine zQ (hp2) ?_)|(refine zQ (hi) ?_)|intro b0 hb)|((first|with_reducible refine zm ?_|guard_hyp hK);refine zY ?_ ?_;all_goals(intro hb;(try simp only [sn,sb] at hb);try exact ex0)))
    ·exact absurd hb hne
    ·exact lr_ret1 trivial rfl ⟨_,rfl,rfl⟩ rfl (by decide) rfl rfl
   ·rw [if_neg c2] at hsk
    obtain⟨m,hm⟩:∃m:Nat,Lib.index ((bs (s.extract k s.size)).drop 2) [42,47]=m:=⟨_,(Int.toNat_of_nonneg (by omega)).symm⟩
    rw [hm] at hi hsk
    have hps:=hpu (m+4) (by omega)
    have hb9:=hbn (m+4) hsk (by omega)
    rw [hbl]
    repeat'(first|(with_reducible first|(refine zz ?_;try intro K hK)|refine zI ?_|refine zt ?_|refine zf ?_)|((first|refine hK _ ?_|refine hK _ _ rfl ?_);clear hK K)|(guard_hyp hK;first|(refine zY ?zz ?_;case zz=>first|exact rfl|exact gJ)|refine fresh_n ?_|refine freshO_n ?_|refine zW ?_|(refine zQ (hp1) ?_)|(refine zQ (hp2) ?_)|(refine zQ (hi) ?_)|refine zg ([]) (hps) (lrO s k (placeF s k).1 (placeF s k).2) ([]) (lrO s (k+(m+4)) (placeF s (k+(m+4))).1 (placeF s (k+(m+4))).2) (.tup []) ?_|intro b0 hb)|((first|with_reducible refine zm ?_|guard_hyp hK);refine zY ?_ ?_;all_goals(intro hb;(try simp only [sn,sb] at hb);try exact ex0)))
    ·exact absurd hb hne
    ·exact⟨_,⟨by omega,hb9⟩,by omega,rfl,⟨rfl,rfl,rfl,trivial,trivial⟩,⟨rfl,trivial⟩,⟨lr_one,trivial⟩⟩
  rw [decide_eq_false c3] at hp2
  have hi:=IndexByte_ok ⟨#[32,9,10,13]⟩ (chr (s.extract k s.size) 0)
  have hbk:=blk_idx (chr (s.extract k s.size) 0)
  have e0:(⟨#[32,9,10,13]⟩:ByteArray).data.toList=[32,9,10,13]:=rfl
  rw [e0] at hi
  cases hB:isBlk (chr (s.extract k s.size) 0) with
  |true=>
   have hsk:skipF (s.extract k s.size)=(1:Nat):=by unfold skipF;rw [if_pos hB];rfl
   have hps:=hpu 1 (by omega)
   have hb9:=hbn 1 hsk (by omega)
   rw [hbl]
   have hbk:=hbk.1 hB
   repeat'(first|(refine at_s ?_;intro hu)|(with_reducible first|(refine zz ?_;try intro K hK)|refine zI ?_|refine zt ?_|refine zf ?_)|((first|refine hK _ ?_|refine hK _ _ rfl ?_);clear hK K)|(guard_hyp hK;first|(refine zY ?zz ?_;case zz=>first|exact rfl|exact gJ)|refine fresh_n ?_|refine freshO_n ?_|refine zW ?_|(refine zQ (hp1) ?_)|(refine zQ (hp2) ?_)|(refine zQ (hi) ?_)|refine zg ([]) (hps) (lrO s k (placeF s k).1 (placeF s k).2) ([]) (lrO s (k+1) (placeF s (k+1)).1 (placeF s (k+1)).2) (.tup []) ?_|intro b0 hb)|((first|with_reducible refine zm ?_|guard_hyp hK);refine zY ?_ ?_;all_goals(intro hb;(try simp only [sn,sb] at hb);try exact ex0)))
   ·exact absurd hb hne
   ·exact⟨_,⟨by omega,hb9⟩,by omega,rfl,⟨rfl,rfl,rfl,trivial,trivial⟩,⟨rfl,trivial⟩,⟨lr_one,trivial⟩⟩
  |false=>
   have hsk:skipF (s.extract k s.size)=0:=by
    unfold skipF
    rw [if_neg (by rw [hB];decide),if_pos]
    by_cases d:(chr (s.extract k s.size) 0).toNat=47
    ·have d0:chr (s.extract k s.size) 0=47:=chr_n.2 d
     exact .inr ⟨fun h=>c1 ⟨d0,chr_n.2 h⟩,fun h=>c3 ⟨d0,chr_n.2 h⟩⟩
    ·exact .inl d
   rw [if_neg (by omega),dif_neg (by omega)]
   have hbk:¬0≤Lib.indexByte [32,9,10,13] (chr (s.extract k s.size) 0):=fun h=>by rw [hbk.2 h] at hB;cases hB
   repeat'(first|(refine at_s ?_;intro hu)|(with_reducible first|(refine zz ?_;try intro K hK)|refine zI ?_|refine zt ?_|refine zf ?_)|((first|refine hK _ ?_|refine hK _ _ rfl ?_);clear hK K)|(guard_hyp hK;first|(refine zY ?zz ?_;case zz=>first|exact rfl|exact gJ)|refine fresh_n ?_|refine freshO_n ?_|refine zW ?_|(refine zQ (hp1) ?_)|(refine zQ (hp2) ?_)|(refine zQ (hi) ?_)|intro b0 hb)|((first|with_reducible refine zm ?_|guard_hyp hK);refine zY ?_ ?_;all_goals(intro hb;(try simp only [sn,sb] at hb);try exact ex0)))
   ·exact absurd hb hne
   ·exact lr_ret1 trivial rfl ⟨_,rfl,rfl⟩ rfl (by decide) rfl rfl
 ·have he:=hemp.2 (by omega)
  rw [blF,dif_neg h0]
  repeat'(first|(with_reducible first|(refine zz ?_;try intro K hK)|refine zI ?_|refine zt ?_|refine zf ?_)|((first|refine hK _ ?_|refine hK _ _ rfl ?_);clear hK K)|(guard_hyp hK;first|(refine zY ?zz ?_;case zz=>first|exact rfl|exact gJ)|refine fresh_n ?_|refine freshO_n ?_|refine zW ?_|intro b0 hb)|((first|with_reducible refine zm ?_|guard_hyp hK);refine zY ?_ ?_;all_goals(intro hb;(try simp only [sn,sb] at hb);try exact ex0)))
  ·exact lr_ret1 trivial rfl ⟨_,rfl,rfl⟩ rfl (by decide) rfl rfl
  ·exact absurd he hb
end Go.Ev
