import Derived.Test.YtfdgaoihjedamaaGreatDoorLexR
set_option linter.all false
set_option maxHeartbeats 4000000
set_option maxRecDepth 10000
namespace Go.Ev
open Go.Proofs
structure TkR where
 n:Nat
 kind:Nat
 text:ByteArray
 code:Nat
 word:ByteArray
def eS : ByteArray:=.empty
def takeF (s:ByteArray):TkR:=
 if skipF s < 0 then⟨0,0,eS,21,⟨#[47,42]⟩⟩
 else if 0 < skipF s then⟨(skipF s).toNat,0,eS,0,eS⟩
 else if isLet (chr s 0)=true then(if 64 < runF isWrd s 0 then⟨0,0,eS,20,s.extract 0 (runF isWrd s 0)⟩ else⟨runF isWrd s 0,1,s.extract 0 (runF isWrd s 0),0,eS⟩)
 else if isDig (chr s 0)=true then
  (if numB s=true∨isLet (chr s (numF s))=true then⟨0,0,eS,22,s.extract 0 (numF s+runF isWrd s (numF s))⟩ else⟨numF s,2,s.extract 0 (numF s),0,eS⟩)
 else if(chr s 0).toNat=34 then(if(quoF s 1 ⟨#[]⟩).2.2=true then⟨(quoF s 1 ⟨#[]⟩).1,3,(quoF s 1 ⟨#[]⟩).2.1,0,eS⟩ else⟨0,0,eS,21,⟨#[34]⟩⟩)
 else if isSgn (chr s 0)=true then⟨1,4,s.extract 0 1,0,eS⟩
 else⟨0,0,eS,20,s.extract 0 1⟩
def tTk (k:Int)(w:ByteArray)(l c:Int):T:=.agg [.con (.int .i8 k),.con (.string w),.con (.int .i64 l),.con (.int .i64 c)]
def tFl (c l k:Int)(w:ByteArray):T:=.agg [.con (.int .i64 c),.con (.int .i64 l),.con (.int .i64 k),.con (.string w)]
theorem numF_le {s:ByteArray}:numF s≤s.size:=by
 have hA:=numA_le (s:=s)
 unfold numF
 split
 ·rename_i h
  have hk:numK s < s.size:=by
   rcases Nat.lt_or_ge (numK s) s.size with h9|h9
   ·exact h9
   ·have:=h.2;rw [runF_end h9] at this;omega
  exact runF_le (by omega)
 ·exact hA
theorem resc {P:Program}{s:St}{a t id ver sz:Nat}{l:List V}{fs:List (Nat×Nat)}{z:List Value}{K:V→Prop}(ht:tk P t=.st fs z)(hz:z.length=l.length)(h0:0 < l.length)
  (ha:eget s.env a=.ref id ver 0 0) (ho:oget s.oh id=some ⟨sz,[.agg l],ver,true⟩) (hk:K (.agg l)):resV P s (.cell a t) K:=by
 show sload (tk P t) s.oh (eget s.env a) _
 rw [ha,ht]
 show use s.oh id ver _
 unfold use
 rw [ho]
 refine⟨rfl,rfl,.agg l,rfl,by simp only [TK.size];omega,by simp only [TK.size,V.cells];omega,?_⟩
 show K (V.ofCells true ((l.drop 0).take z.length))
 rw [List.drop_zero,hz,List.take_length]
 exact hk
theorem fz_aggC {oh:OH}{f:Bool}(l:List Value):FzA oh f (.agg (l.map .con)) (.agg (l.map .con)):=by
 refine⟨by rw [List.length_map,List.length_map],fun j v t h1 h2=>?_⟩
 rw [List.getElem?_map] at h1 h2
 obtain⟨a,ha,rfl⟩:=Option.map_eq_some_iff.1 h1
 rw [ha] at h2
 obtain rfl:T.con a=t:=by simpa using h2
 exact Fz1.con a
theorem ret_tcc {P:Program}{fn:Func}{f:Bool}{s:St}{a b tb c tc i1 i2 v1 v2 z1 z2:Nat}{x:Value}{l2 l3:List Value}{fs2 fs3:List (Nat×Nat)}{y2 y3:List Value}
  (hr:fn.results.toList=[.tmp a,.cell b tb,.cell c tc]) (e1:eget s.env a=.con x)
  (ht2:tk P tb=.st fs2 y2) (hz2:y2.length=(l2.map V.con).length) (h02:0 < (l2.map V.con).length) (ha2:eget s.env b=.ref i1 v1 0 0) (ho2:oget s.oh i1=some ⟨z1,[.agg (l2.map .con)],v1,true⟩)
  (ht3:tk P tc=.st fs3 y3) (hz3:y3.length=(l3.map V.con).length) (h03:0 < (l3.map V.con).length) (ha3:eget s.env c=.ref i2 v2 0 0) (ho3:oget s.oh i2=some ⟨z2,[.agg (l3.map .con)],v2,true⟩) :
  RetOK P fn f (.tup [.con x,.agg (l2.map .con),.agg (l3.map .con)]) .ret s:=by
 refine⟨trivial,?_⟩
 rw [hr]
 have h:resV P s (.cell b tb) (fun u=>resV P s (.cell c tc) (fun y=>∃t1 t2 t3,T.tup [.con x,.agg (l2.map .con),.agg (l3.map .con)]=.tup [t1,t2,t3]∧FzA s.oh f (eget s.env a) t1∧FzA s.oh f u t2∧FzA s.oh f y t3)):=by
  refine resc ht2 hz2 h02 ha2 ho2 (resc ht3 hz3 h03 ha3 ho3 ?_)
  rw [e1]
  exact⟨_,_,_,rfl,Fz1.con x,fz_aggC l2,fz_aggC l3⟩
 exact h
theorem rTake_ok (s:ByteArray)(hs:s.size≤1073741824)(h1:1≤s.size):Ok Tryz.prog 60 [tS9 s] true (.tup [.con (.int .i64 (takeF s).n),tTk (takeF s).kind (takeF s).text 0 0,tFl (takeF s).code 0 0 (takeF s).word]):=by
 have hsk:=rskipped_ok s hs h1
 have hl:=rLetter_ok (chr s 0)
 have hd:=rDigit_ok (chr s 0)
 have hg:=rsign_ok (chr s 0)
 have hw:=rword_ok s 0 hs (by omega)
 have hnF:=numF_le (s:=s)
 have hwn:=rword_ok s (numF s) hs (by omega)
 have hn:=rnumber_ok s hs
 have hq:=rquoted_ok s hs
 have hnl:=rLetter_ok (chr s (numF s))
 have hna:=rat_ok s (numF s)
 have hr0:=runF_le (p:=isWrd) (s:=s) (i:=0) (Nat.zero_le _)
 have hrn:=runF_le (p:=isWrd) (s:=s) (i:=numF s) hnF
 refine ok_of_ev hC0 mix Tryz.func60 rfl rfl (by kernel_rfl) (zO rfl) ?_
 unfold takeF
 by_cases c1:skipF s < 0
 ·rw [if_pos c1]
  repeat'(first|(with_reducible first|(refine zz ?_;try intro K hK)|refine zI ?_|refine zt ?_|refine zf ?_)|((first|refine hK _ ?_|refine hK _ _ rfl ?_);clear hK K)|(guard_hyp hK;first|(refine zY ?zz ?_;case zz=>first|exact rfl|exact gI)|refine fresh_n ?_|refine freshO_n ?_|refine zW ?_|(refine zQ (hsk) ?_)|intro b0 hb)|((first|with_reducible refine zm ?_|guard_hyp hK);refine zY ?_ ?_;all_goals(intro hb;(try simp only [sn,sb] at hb);try exact ex0)))
  all_goals exact ret_tcc (l2:=[.int .i8 (0),.string (eS),.int .i64 0,.int .i64 0]) (l3:=[.int .i64 (21),.int .i64 0,.int .i64 0,.string (⟨#[47,42]⟩)]) rfl rfl tk99 rfl (Nat.zero_lt_succ _) rfl rfl tk25 rfl (Nat.zero_lt_succ _) rfl rfl
 rw [if_neg c1]
 by_cases c2:0 < skipF s
 ·rw [if_pos c2]
  have e2:((skipF s).toNat:Int)=skipF s:=Int.toNat_of_nonneg (by omega)
  rw [show(TkR.mk (skipF s).toNat 0 eS 0 eS).n=(skipF s).toNat from rfl,e2]
  repeat'(first|(with_reducible first|(refine zz ?_;try intro K hK)|refine zI ?_|refine zt ?_|refine zf ?_)|((first|refine hK _ ?_|refine hK _ _ rfl ?_);clear hK K)|(guard_hyp hK;first|(refine zY ?zz ?_;case zz=>first|exact rfl|exact gI)|refine fresh_n ?_|refine freshO_n ?_|refine zW ?_|(refine zQ (hsk) ?_)|intro b0 hb)|((first|with_reducible refine zm ?_|guard_hyp hK);refine zY ?_ ?_;all_goals(intro hb;(try simp only [sn,sb] at hb);try exact ex0)))
  all_goals exact ret_tcc (l2:=[.int .i8 (0),.string (eS),.int .i64 0,.int .i64 0]) (l3:=[.int .i64 (0),.int .i64 0,.int .i64 0,.string (eS)]) rfl rfl tk99 rfl (Nat.zero_lt_succ _) rfl rfl tk25 rfl (Nat.zero_lt_succ _) rfl rfl
 rw [if_neg c2]
 have c3:skipF s=0:=by omega
 rw [c3] at hsk
 cases hL:isLet (chr s 0) with
 |true=>
  rw [hL] at hl
  rw [if_pos rfl]
  by_cases c4:64 < runF isWrd s 0
  ·rw [if_pos c4]
   repeat'(first|(refine at_s ?_;intro hu)|(with_reducible first|(refine zz ?_;try intro K hK)|refine zI ?_|refine zt ?_|refine zf ?_)|((first|refine hK _ ?_|refine hK _ _ rfl ?_);clear hK K)|(guard_hyp hK;first|(refine zY ?zz ?_;case zz=>first|exact rfl|exact gI)|refine fresh_n ?_|refine freshO_n ?_|refine zW ?_|(refine zQ (hsk) ?_)|(refine zQ (hl) ?_)|(refine zQ (hw) ?_)|intro b0 hb)|((first|with_reducible refine zm ?_|guard_hyp hK);refine zY ?_ ?_;all_goals(intro hb;(try simp only [sn,sb] at hb);try exact ex0)))
   all_goals exact ret_tcc (l2:=[.int .i8 (0),.string (eS),.int .i64 0,.int .i64 0]) (l3:=[.int .i64 (20),.int .i64 0,.int .i64 0,.string (s.extract 0 (runF isWrd s 0))]) rfl rfl tk99 rfl (Nat.zero_lt_succ _) rfl rfl tk25 rfl (Nat.zero_lt_succ _) rfl rfl
  ·rw [if_neg c4]
   repeat'(first|(refine at_s ?_;intro hu)|(with_reducible first|(refine zz ?_;try intro K hK)|refine zI ?_|refine zt ?_|refine zf ?_)|((first|refine hK _ ?_|refine hK _ _ rfl ?_);clear hK K)|(guard_hyp hK;first|(refine zY ?zz ?_;case zz=>first|exact rfl|exact gI)|refine fresh_n ?_|refine freshO_n ?_|refine zW ?_|(refine zQ (hsk) ?_)|(refine zQ (hl) ?_)|(refine zQ (hw) ?_)|intro b0 hb)|((first|with_reducible refine zm ?_|guard_hyp hK);refine zY ?_ ?_;all_goals(intro hb;(try simp only [sn,sb] at hb);try exact ex0)))
   all_goals exact ret_tcc (l2:=[.int .i8 (1),.string (s.extract 0 (runF isWrd s 0)),.int .i64 0,.int .i64 0]) (l3:=[.int .i64 (0),.int .i64 0,.int .i64 0,.string (eS)]) rfl rfl tk99 rfl (Nat.zero_lt_succ _) rfl rfl tk25 rfl (Nat.zero_lt_succ _) rfl rfl
 |false=>
  rw [hL] at hl
  rw [if_neg Bool.false_ne_true]
  cases hD:isDig (chr s 0) with
  |true=>
   rw [hD] at hd
   rw [if_pos rfl]
   cases hB:numB s with
   |true=>
    rw [hB] at hn
    rw [if_pos (.inl rfl)]
    repeat'(first|(refine at_s ?_;intro hu)|(with_reducible first|(refine zz ?_;try intro K hK)|refine zI ?_|refine zt ?_|refine zf ?_)|((first|refine hK _ ?_|refine hK _ _ rfl ?_);clear hK K)|(guard_hyp hK;first|(refine zY ?zz ?_;case zz=>first|exact rfl|exact gI)|refine fresh_n ?_|refine freshO_n ?_|refine zW ?_|(refine zQ (hsk) ?_)|(refine zQ (hl) ?_)|(refine zQ (hd) ?_)|(refine zQ (hn) ?_)|(refine zQ (hwn) ?_)|intro b0 hb)|((first|with_reducible refine zm ?_|guard_hyp hK);refine zY ?_ ?_;all_goals(intro hb;(try simp only [sn,sb] at hb);try exact ex0)))
    all_goals exact ret_tcc (l2:=[.int .i8 (0),.string (eS),.int .i64 0,.int .i64 0]) (l3:=[.int .i64 (22),.int .i64 0,.int .i64 0,.string (s.extract 0 (numF s+runF isWrd s (numF s)))]) rfl rfl tk99 rfl (Nat.zero_lt_succ _) rfl rfl tk25 rfl (Nat.zero_lt_succ _) rfl rfl
   |false=>
    rw [hB] at hn
    cases hLn:isLet (chr s (numF s)) with
    |true=>
     rw [hLn] at hnl
     rw [if_pos (.inr rfl)]
     repeat'(first|(refine at_s ?_;intro hu)|(with_reducible first|(refine zz ?_;try intro K hK)|refine zI ?_|refine zt ?_|refine zf ?_)|((first|refine hK _ ?_|refine hK _ _ rfl ?_);clear hK K)|(guard_hyp hK;first|(refine zY ?zz ?_;case zz=>first|exact rfl|exact gI)|refine fresh_n ?_|refine freshO_n ?_|refine zW ?_|(refine zQ (hsk) ?_)|(refine zQ (hl) ?_)|(refine zQ (hd) ?_)|(refine zQ (hn) ?_)|(refine zQ (hwn) ?_)|(refine zQ (hna) ?_)|(refine zQ (hnl) ?_)|intro b0 hb)|((first|with_reducible refine zm ?_|guard_hyp hK);refine zY ?_ ?_;all_goals(intro hb;(try simp only [sn,sb] at hb);try exact ex0)))
     all_goals exact ret_tcc (l2:=[.int .i8 (0),.string (eS),.int .i64 0,.int .i64 0]) (l3:=[.int .i64 (22),.int .i64 0,.int .i64 0,.string (s.extract 0 (numF s+runF isWrd s (numF s)))]) rfl rfl tk99 rfl (Nat.zero_lt_succ _) rfl rfl tk25 rfl (Nat.zero_lt_succ _) rfl rfl
    |false=>
     rw [hLn] at hnl
     rw [if_neg (fun h=>h.elim Bool.false_ne_true Bool.false_ne_true)]
     repeat'(first|(refine at_s ?_;intro hu)|(with_reducible first|(refine zz ?_;try intro K hK)|refine zI ?_|refine zt ?_|refine zf ?_)|((first|refine hK _ ?_|refine hK _ _ rfl ?_);clear hK K)|(guard_hyp hK;first|(refine zY ?zz ?_;case zz=>first|exact rfl|exact gI)|refine fresh_n ?_|refine freshO_n ?_|refine zW ?_|(refine zQ (hsk) ?_)|(refine zQ (hl) ?_)|(refine zQ (hd) ?_)|(refine zQ (hn) ?_)|(refine zQ (hwn) ?_)|(refine zQ (hna) ?_)|(refine zQ (hnl) ?_)|intro b0 hb)|((first|with_reducible refine zm ?_|guard_hyp hK);refine zY ?_ ?_;all_goals(intro hb;(try simp only [sn,sb] at hb);try exact ex0)))
     all_goals exact ret_tcc (l2:=[.int .i8 (2),.string (s.extract 0 (numF s)),.int .i64 0,.int .i64 0]) (l3:=[.int .i64 (0),.int .i64 0,.int .i64 0,.string (eS)]) rfl rfl tk99 rfl (Nat.zero_lt_succ _) rfl rfl tk25 rfl (Nat.zero_lt_succ _) rfl rfl
  |false=>
   rw [hD] at hd
   rw [if_neg Bool.false_ne_true]
   by_cases c5:(chr s 0).toNat=34
   ·rw [if_pos c5]
    cases hQ:(quoF s 1 ⟨#[]⟩).2.2 with
    |true=>
     rw [hQ] at hq
     rw [if_pos rfl]
     repeat'(first|(refine at_s ?_;intro hu)|(with_reducible first|(refine zz ?_;try intro K hK)|refine zI ?_|refine zt ?_|refine zf ?_)|((first|refine hK _ ?_|refine hK _ _ rfl ?_);clear hK K)|(guard_hyp hK;first|(refine zY ?zz ?_;case zz=>first|exact rfl|exact gI)|refine fresh_n ?_|refine freshO_n ?_|refine zW ?_|(refine zQ (hsk) ?_)|(refine zQ (hl) ?_)|(refine zQ (hd) ?_)|(refine zQ (hq) ?_)|intro b0 hb)|((first|with_reducible refine zm ?_|guard_hyp hK);refine zY ?_ ?_;all_goals(intro hb;(try simp only [sn,sb] at hb);try exact ex0)))
     all_goals first|exact ret_tcc (l2:=[.int .i8 (3),.string ((quoF s 1 ⟨#[]⟩).2.1),.int .i64 0,.int .i64 0]) (l3:=[.int .i64 (0),.int .i64 0,.int .i64 0,.string (eS)]) rfl rfl tk99 rfl (Nat.zero_lt_succ _) rfl rfl tk25 rfl (Nat.zero_lt_succ _) rfl rfl|(exfalso;simp only [show Int.toNat 0=0 from rfl] at *;omega)
    |false=>
     rw [hQ] at hq
     rw [if_neg Bool.false_ne_true]
     repeat'(first|(refine at_s ?_;intro hu)|(with_reducible first|(refine zz ?_;try intro K hK)|refine zI ?_|refine zt ?_|refine zf ?_)|((first|refine hK _ ?_|refine hK _ _ rfl ?_);clear hK K)|(guard_hyp hK;first|(refine zY ?zz ?_;case zz=>first|exact rfl|exact gI)|refine fresh_n ?_|refine freshO_n ?_|refine zW ?_|(refine zQ (hsk) ?_)|(refine zQ (hl) ?_)|(refine zQ (hd) ?_)|(refine zQ (hq) ?_)|intro b0 hb)|((first|with_reducible refine zm ?_|guard_hyp hK);refine zY ?_ ?_;all_goals(intro hb;(try simp only [sn,sb] at hb);try exact ex0)))
     all_goals first|exact ret_tcc (l2:=[.int .i8 (0),.string (eS),.int .i64 0,.int .i64 0]) (l3:=[.int .i64 (21),.int .i64 0,.int .i64 0,.string (⟨#[34]⟩)]) rfl rfl tk99 rfl (Nat.zero_lt_succ _) rfl rfl tk25 rfl (Nat.zero_lt_succ _) rfl rfl|(exfalso;simp only [show Int.toNat 0=0 from rfl] at *;omega)
   ·rw [if_neg c5]
    cases hG:isSgn (chr s 0) with
    |true=>
     rw [hG] at hg
     rw [if_pos rfl]
     repeat'(first|(refine at_s ?_;intro hu)|(with_reducible first|(refine zz ?_;try intro K hK)|refine zI ?_|refine zt ?_|refine zf ?_)|((first|refine hK _ ?_|refine hK _ _ rfl ?_);clear hK K)|(guard_hyp hK;first|(refine zY ?zz ?_;case zz=>first|exact rfl|exact gI)|refine fresh_n ?_|refine freshO_n ?_|refine zW ?_|(refine zQ (hsk) ?_)|(refine zQ (hl) ?_)|(refine zQ (hd) ?_)|(refine zQ (hg) ?_)|intro b0 hb)|((first|with_reducible refine zm ?_|guard_hyp hK);refine zY ?_ ?_;all_goals(intro hb;(try simp only [sn,sb] at hb);try exact ex0)))
     all_goals first|exact ret_tcc (l2:=[.int .i8 (4),.string (s.extract 0 1),.int .i64 0,.int .i64 0]) (l3:=[.int .i64 (0),.int .i64 0,.int .i64 0,.string (eS)]) rfl rfl tk99 rfl (Nat.zero_lt_succ _) rfl rfl tk25 rfl (Nat.zero_lt_succ _) rfl rfl|(exfalso;simp only [show Int.toNat 0=0 from rfl] at *;omega)
    |false=>
     rw [hG] at hg
     rw [if_neg Bool.false_ne_true]
     repeat'(first|(refine at_s ?_;intro hu)|(with_reducible first|(refine zz ?_;try intro K hK)|refine zI ?_|refine zt ?_|refine zf ?_)|((first|refine hK _ ?_|refine hK _ _ rfl ?_);clear hK K)|(guard_hyp hK;first|(refine zY ?zz ?_;case zz=>first|exact rfl|exact gI)|refine fresh_n ?_|refine freshO_n ?_|refine zW ?_|(refine zQ (hsk) ?_)|(refine zQ (hl) ?_)|(refine zQ (hd) ?_)|(refine zQ (hg) ?_)|intro b0 hb)|((first|with_reducible refine zm ?_|guard_hyp hK);refine zY ?_ ?_;all_goals(intro hb;(try simp only [sn,sb] at hb);try exact ex0)))
     all_goals first|exact ret_tcc (l2:=[.int .i8 (0),.string (eS),.int .i64 0,.int .i64 0]) (l3:=[.int .i64 (20),.int .i64 0,.int .i64 0,.string (s.extract 0 1)]) rfl rfl tk99 rfl (Nat.zero_lt_succ _) rfl rfl tk25 rfl (Nat.zero_lt_succ _) rfl rfl|(exfalso;simp only [show Int.toNat 0=0 from rfl] at *;omega)
def placeF (s:ByteArray):Nat→Nat×Nat
 |0=>(1,1)
 |i+1=>if(chr s i).toNat=10 then((placeF s i).1+1,1) else((placeF s i).1,(placeF s i).2+1)
theorem placeF_le (s:ByteArray):∀i,(placeF s i).1≤i+1∧(placeF s i).2≤i+1
 |0=>⟨Nat.le_refl _,Nat.le_refl _⟩
 |i+1=>by
  have:=placeF_le s i
  rw [placeF]
  split<;>(simp only;omega)
theorem rPlace_ok (s:ByteArray)(i:Nat)(hs:s.size≤1073741824)(hi:i≤s.size):Ok Tryz.prog 61 [tS9 s,.con (.int .i64 i)] true (.tup [.con (.int .i64 (placeF s i).1),.con (.int .i64 (placeF s i).2)]):=by
 refine ok_of_ev hC0 mix Tryz.func61 rfl rfl (by kernel_rfl) (zO rfl) ?_
 repeat'(first|(with_reducible first|(refine zz ?_;try intro K hK)|refine zI ?_|refine zt ?_|refine zf ?_)|((first|refine hK _ ?_|refine hK _ _ rfl ?_);clear hK K)|(guard_hyp hK;first|(refine zY ?zz ?_;case zz=>first|exact rfl|exact gI)|refine fresh_n ?_|refine freshO_n ?_|refine zW ?_|intro b0 hb)|((first|with_reducible refine zm ?_|guard_hyp hK);refine zY ?_ ?_;all_goals(intro hb;(try simp only [sn,sb] at hb);try exact ex0)))
 refine loop_i Nat (fun k=>⟨Tryz.f61.ntmps,[(0,.con (.string s)),(1,.con (.int .i64 i)),(6,.con (.int .i64 (placeF s k).1)),(7,.con (.int .i64 (placeF s k).2)),(8,.con (.int .i64 k))],[]⟩) (fun k=>k≤i) (fun k=>i - k) [] 0 trivial (Nat.zero_le _) ⟨rfl,⟨rfl,trivial,rfl,trivial,rfl,trivial,rfl,trivial,rfl,trivial,trivial⟩,trivial,trivial⟩ ?_
 intro k hk
 have hpl:=placeF_le s k
 by_cases hlt:k < i
 ·repeat'(first|(refine at_s ?_;intro hu)|(with_reducible first|(refine zz ?_;try intro K hK)|refine zI ?_|refine zt ?_|refine zf ?_)|((first|refine hK _ ?_|refine hK _ _ rfl ?_);clear hK K)|(guard_hyp hK;first|(refine zY ?zz ?_;case zz=>first|exact rfl|exact gI)|refine fresh_n ?_|refine freshO_n ?_|refine zW ?_|intro b0 hb)|((first|with_reducible refine zm ?_|guard_hyp hK);refine zY ?_ ?_;all_goals(intro hb;(try simp only [sn,sb] at hb);try exact ex0)))
  ·refine⟨k+1,hlt,by omega,rfl,⟨rfl,trivial,rfl,trivial,?_,trivial,?_,trivial,rfl,trivial,trivial⟩,trivial,trivial⟩
   ·rw [placeF,if_pos (by omega)];rfl
   ·rw [placeF,if_pos (by omega)];rfl
  ·refine⟨k+1,hlt,by omega,rfl,⟨rfl,trivial,rfl,trivial,?_,trivial,?_,trivial,rfl,trivial,trivial⟩,trivial,trivial⟩
   ·rw [placeF,if_neg (by omega)];rfl
   ·rw [placeF,if_neg (by omega)];rfl
 ·repeat'(first|(with_reducible first|(refine zz ?_;try intro K hK)|refine zI ?_|refine zt ?_|refine zf ?_)|((first|refine hK _ ?_|refine hK _ _ rfl ?_);clear hK K)|(guard_hyp hK;first|(refine zY ?zz ?_;case zz=>first|exact rfl|exact gI)|refine fresh_n ?_|refine freshO_n ?_|refine zW ?_|intro b0 hb)|((first|with_reducible refine zm ?_|guard_hyp hK);refine zY ?_ ?_;all_goals(intro hb;(try simp only [sn,sb] at hb);try exact ex0)))
  obtain rfl:k=i:=by omega
  exact⟨trivial,_,_,rfl,fz_con rfl,fz_con rfl⟩
end Go.Ev
