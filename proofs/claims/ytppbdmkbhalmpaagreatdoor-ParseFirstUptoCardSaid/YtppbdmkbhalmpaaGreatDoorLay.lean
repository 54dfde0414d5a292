import Derived.Test.YtppbdmkbhalmpaaGreatDoorLar
import Derived.Test.YtppbdmkbhalmpaaGreatDoorLax
set_option linter.all false
set_option maxHeartbeats 4000000
set_option maxRecDepth 10000
namespace Go.Ev
open Go.Proofs
theorem blF_stop (s:ByteArray)(a:Nat)(ha:a≤s.size)(h:(blF s a).2=true)(hl:(blF s a).1 < s.size):skipF (s.extract (blF s a).1 s.size)=0:=by
 rw [blF] at h hl ⊢
 split at h
 ·rename_i hlt
  rw [dif_pos hlt] at hl ⊢
  split at h
  ·cases h
  ·rename_i h1
   rw [if_neg h1] at hl ⊢
   split at h
   ·rename_i h2
    rw [dif_pos h2] at hl ⊢
    have h3:=skipF_le (s:=s.extract a s.size) (by rw [ByteArray.size_extract];omega)
    rw [ByteArray.size_extract] at h3
    exact blF_stop s _ (by omega) h hl
   ·rename_i h2
    rw [dif_neg h2]
    simp only
    omega
 ·rename_i hlt
  rw [dif_neg hlt] at hl
  exact absurd hl hlt
termination_by s.size - a
def eoF : TkR:=⟨0,0,eS,0,eS⟩
def nxF (s:ByteArray)(a:Nat):TkR:=
 if(blF s a).2=true then(if(blF s a).1 < s.size then takeF (s.extract (blF s a).1 s.size) else eoF) else⟨0,0,eS,21,⟨#[47,42]⟩⟩
def nxE (s:ByteArray)(a:Nat):Nat:=if(nxF s a).code=0 then(blF s a).1+(nxF s a).n else(blF s a).1
def nxV (r:TkR)(l c:Int):V:=if r.code=0 then .tup [tkV r.kind r.text l c,.con .nilIface] else failV ⟨r.code,l,c,r.word⟩
theorem sgn_idx (b:UInt8):isSgn b=true↔0≤Lib.indexByte [123,125,40,41,91,93,44,59,124,61,43,45,42,47] b:=by
 have key:∀l:List UInt8,b ∈ l↔0≤Lib.indexByte l b:=by
  intro l
  induction l with
  |nil=>exact⟨fun h=>by simp at h,fun h=>absurd h (by rw [show Lib.indexByte [] b = -1 from rfl];decide)⟩
  |cons x r ih=>
   have hg:=ib_ge r b
   rw [ib_cons]
   by_cases h:x=b
   ·rw [if_pos h]
    exact⟨fun _=>by decide,fun _=>by rw [h];exact List.mem_cons_self ..⟩
   ·rw [if_neg h]
    constructor
    ·intro h2
     rcases List.mem_cons.1 h2 with h3|h3
     ·exact absurd h3.symm h
     ·have:=ih.1 h3
      rw [if_neg (by omega)];omega
    ·intro h2
     refine List.mem_cons_of_mem _ (ih.2 ?_)
     split at h2
     ·exact absurd h2 (by decide)
     ·omega
 unfold isSgn
 rw [decide_eq_true_eq,key];rfl
theorem run_at {p:UInt8→Bool}{s:ByteArray}{a i:Nat}(h:i < runF p s a):p (chr s (a+i))=true:=by
 unfold runF at h
 have h1:((bs s).drop a).takeWhile p=((bs s).drop a).take (((bs s).drop a).takeWhile p).length:=by
  exact List.prefix_iff_eq_take.1 (List.takeWhile_prefix p)
 have h2:(((bs s).drop a).takeWhile p)[i]?=some (((bs s).drop a).takeWhile p)[i]:=List.getElem?_eq_getElem h
 have h3:p (((bs s).drop a).takeWhile p)[i]=true:=List.all_takeWhile (p:=p) (l:=(bs s).drop a) |> fun hh=>(List.all_eq_true.1 hh) _ (List.getElem_mem h)
 have h4:(bs s)[a+i]?=some (((bs s).drop a).takeWhile p)[i]:=by
  rw [← h2,h1,List.getElem?_take_of_lt h,List.getElem?_drop]
 unfold chr
 rw [List.getD_eq_getElem?_getD,h4]
 exact h3
theorem takeF_0 {u:ByteArray}(h:skipF u=0):takeF u =
  (if isLet (chr u 0)=true then(if 64 < runF isWrd u 0 then⟨0,0,eS,20,u.extract 0 (runF isWrd u 0)⟩ else⟨runF isWrd u 0,1,u.extract 0 (runF isWrd u 0),0,eS⟩)
 else if isDig (chr u 0)=true then
  (if numB u=true∨isLet (chr u (numF u))=true then⟨0,0,eS,22,u.extract 0 (numF u+runF isWrd u (numF u))⟩ else⟨numF u,2,u.extract 0 (numF u),0,eS⟩)
 else if(chr u 0).toNat=34 then(if(quoF u 1 ⟨#[]⟩).2.2=true then⟨(quoF u 1 ⟨#[]⟩).1,3,(quoF u 1 ⟨#[]⟩).2.1,0,eS⟩ else⟨0,0,eS,21,⟨#[34]⟩⟩)
 else if isSgn (chr u 0)=true then⟨1,4,u.extract 0 1,0,eS⟩
 else⟨0,0,eS,20,u.extract 0 1⟩):=by
 unfold takeF
 rw [if_neg (by omega),if_neg (by omega)]
theorem expS_dig (s:ByteArray):allDig (expS s):=by
 intro i hi
 unfold expS at hi ⊢
 split
 ·rename_i h
  rw [if_pos h] at hi
  have hn:=runF_le (p:=isDig) (s:=s) (i:=numK s) (by
   rcases Nat.lt_or_ge (numK s) s.size with h9|h9
   ·omega
   ·have:=h.2;rw [runF_end h9] at this;omega)
  have hi2:i < runF isDig s (numK s):=by
   have e:(sub s (numK s) (runF isDig s (numK s))).size≤runF isDig s (numK s):=by unfold sub;rw [ByteArray.size_extract];omega
   omega
  have e2:chr (sub s (numK s) (runF isDig s (numK s))) i=chr s (numK s+i):=by
   unfold chr
   rw [sub_bs]
   simp only [List.getD_eq_getElem?_getD]
   rw [List.getElem?_take_of_lt hi2,List.getElem?_drop]
  rw [e2]
  exact run_at hi2
 ·rename_i h
  rw [if_neg h] at hi
  exact absurd hi (Nat.not_lt_zero _)
theorem numB_exp (s:ByteArray):numB s=decide (1000 < decV (bs (expS s))):=by
 unfold numB expS
 by_cases h:numE s
 ·rw [if_pos h,decide_eq_true h,Bool.true_and]
 ·rw [if_neg h,decide_eq_false h,Bool.false_and];rfl
theorem lr_retn {P:Program}{fn:Func}{t:St}{vs:List V}{s:ByteArray}{a l c a' l' c' np t1 t2 ty id ver sz:Nat}{ls:List Value}{v:V}{fs:List (Nat×Nat)}{z:List Value}(hr:fn.results.toList=[.cell t1 ty,.tmp t2])(ht:tk P ty=.st fs z)(hz:z.length=(ls.map V.con).length)(h0:0 < (ls.map V.con).length)
  (ha:eget t.env t1=.ref id ver 0 0) (ho:oget t.oh id=some ⟨sz,[.agg (ls.map .con)],ver,true⟩) (h2:eget t.env t2=v) (hv2:v.dat1) (hs:oget t.oh 0=some ⟨4,[lrV s a' l' c'],0,true⟩) (hnp:0 < np) (hv:vs[0]?=some (.ref 0 0 0 0)) (he:eget t.env 0=.ref 0 0 0 0) :
  RetG P fn np (lrO s a l c) vs (lrO s a' l' c') (.tup [.agg (ls.map .con),v]) .ret t:=by
 refine⟨trivial,false,t,rfl,lr_pin hs hnp hv he,lr_bm hs,?_⟩
 rw [hr]
 have h:resV P t (.cell t1 ty) (fun w=>resV P t (.tmp t2) fun u=>∃r1 r2,V.tup [.agg (ls.map .con),v]=.tup [r1,r2]∧BmA t.oh (lrO s a' l' c' ++ lrO s a l c) w r1∧BmA t.oh (lrO s a' l' c' ++ lrO s a l c) u r2):=by
  refine resc ht hz h0 ha ho ⟨_,_,rfl,bm_aggC ls,?_⟩
  show BmA _ _ (eget t.env t2) _
  rw [h2]
  obtain⟨x,rfl|⟨f,t,rfl⟩⟩:=hv2
  ·exact BmC.con _
  ·exact BmC.ro _ _
 exact h
def stNx (N:Nat)(s:ByteArray)(p l c:Nat)(u:ByteArray):St:=⟨N,[(0,.ref 0 0 0 0),(2,.ref 1 0 0 0),(5,.ref 2 0 0 0),(6,.wr (.fre 47) 2 0 0 0),(7,.con (.string u))],[(0,⟨4,[lrV s p l c],0,true⟩),(1,tkOb 0 eS 0 0),(2,tkOb 0 eS l c)]⟩
theorem next_ok (s:ByteArray)(a:Nat)(hs:s.size≤1073741824)(ha:a≤s.size) :
  OkG Tryz.prog 40 (lrP s a) [] [.ref 0 0 0 0] (lrP s (nxE s a)) (nxV (nxF s a) (placeF s (blF s a).1).1 (placeF s (blF s a).1).2):=by
 have hbl:=blanks_ok s a hs ha
 have hle:=blF_le s a ha
 have hpl:=placeF_le s (blF s a).1
 have hstop:=blF_stop s a ha
 unfold nxE nxF
 generalize blF s a=B at *
 obtain⟨p,op⟩:=B
 dsimp only at hle hpl hstop hbl ⊢
 have hfail:=fun k w code word=>fail_ok k w (placeF s p).1 (placeF s p).2 code word
 cases op with
 |false=>
  rw [if_neg Bool.false_ne_true,if_neg (by decide)]
  unfold nxV
  rw [if_neg (by decide)]
  unfold lrP at hbl ⊢
  refine okg_of_ev hC0 mix 1 (zO rfl) Tryz.func40 rfl rfl (by kernel_rfl) (by kernel_rfl) (zO rfl) ?wf ?vs ?po ?le ?_
  case wf=>exact lr_wf _ _ _ _
  case vs=>exact one_vs rfl
  case po=>exact lr_po _ _ _ _ _ _ _
  case le=>exact lr_le _ _ _ _ _ _ _
  repeat'(first|(with_reducible first|(refine zz ?_;try intro K hK)|refine zI ?_|refine zt ?_|refine zf ?_)|((first|refine hK _ ?_|refine hK _ _ rfl ?_);clear hK K)|(guard_hyp hK;first|(refine zY ?zz ?_;case zz=>first|exact rfl|exact gJ)|refine fresh_n ?_|refine freshO_n ?_|refine zW ?_|(refine' fail_call _ (hfail _ _ _ _) ?hga ?hgb ?_;(case hga=>rfl);(case hgb=>rfl))|refine zg ([]) (hbl) (lrO s a (placeF s a).1 (placeF s a).2) ([]) (lrO s p (placeF s p).1 (placeF s p).2) (.con (.bool false)) ?_|intro b0 hb)|((first|with_reducible refine zm ?_|guard_hyp hK);refine zY ?_ ?_;all_goals(intro hb;(try simp only [sn,sb] at hb);try exact ex0)))
  all_goals exact lr_retn (ls:=[.int .i8 0,.string eS,.int .i64 0,.int .i64 0]) rfl tk85 rfl (Nat.zero_lt_succ _) rfl rfl rfl ⟨default,.inr ⟨_,_,rfl⟩⟩ rfl (by decide) rfl rfl
 |true=>
  rw [if_pos rfl]
  unfold lrP at hbl ⊢
  refine okg_of_ev hC0 mix 1 (zO rfl) Tryz.func40 rfl rfl (by kernel_rfl) (by kernel_rfl) (zO rfl) ?wf ?vs ?po ?le ?_
  case wf=>exact lr_wf _ _ _ _
  case vs=>exact one_vs rfl
  case po=>exact lr_po _ _ _ _ _ _ _
  case le=>exact lr_le _ _ _ _ _ _ _
  repeat'(first|(refine seq_j (a:=Code.region 6 _ _) ByteArray (stNx Tryz.f40.ntmps s p (placeF s p).1 (placeF s p).2) (fun u=>u=s.extract p s.size) ?_ ?_)|(with_reducible first|(refine zz ?_;try intro K hK)|refine zI ?_|refine zt ?_|refine zf ?_)|((first|refine hK _ ?_|refine hK _ _ rfl ?_);clear hK K)|(guard_hyp hK;first|(refine zY ?zz ?_;case zz=>first|exact rfl|exact gJ)|refine fresh_n ?_|refine freshO_n ?_|refine zW ?_|refine zg ([]) (hbl) (lrO s a (placeF s a).1 (placeF s a).2) ([]) (lrO s p (placeF s p).1 (placeF s p).2) (.con (.bool true)) ?_|intro b0 hb)|((first|with_reducible refine zm ?_|guard_hyp hK);refine zY ?_ ?_;all_goals(intro hb;(try simp only [sn,sb] at hb);try exact ex0)))
  ·intro u hu
   have hul:u.size=s.size - p:=by rw [hu,ByteArray.size_extract];omega
   have us:u.size≤1073741824:=by omega
   have hemp:u.toList=(⟨#[]⟩:ByteArray).toList↔s.size≤p:=by
    constructor
    ·intro h
     have:=congrArg ByteArray.size (bq_inj h)
     rw [hul] at this
     have e:(⟨#[]⟩:ByteArray).size=0:=rfl
     omega
    ·intro h
     have:u=⟨#[]⟩:=by
      apply ByteArray.ext
      have h2:u.data.size=0:=by rw [show u.data.size=u.size from rfl,hul];omega
      exact Array.eq_empty_of_size_eq_zero h2
     rw [this]
   unfold stNx
   by_cases h0:p < s.size
   ·have hne:¬u.toList=(⟨#[]⟩:ByteArray).toList:=fun h=>by have:=hemp.1 h;omega
    have hsk:=hstop rfl h0
    rw [if_pos h0]
    rw [← hu] at hsk ⊢
    have hT:=takeF_0 hsk
    clear hsk hstop hu hemp
    have hl:=letter_ok (chr u 0)
    have hd:=ldigit_ok (chr u 0)
    cases hL:isLet (chr u 0) with
    |true=>
     rw [hL] at hl
     rw [if_pos hL] at hT
     have hrn:=run_ok u 0 50 isWrd inWord_ok us (by omega)
     have hr0:=runF_le (p:=isWrd) (s:=u) (i:=0) (Nat.zero_le _)
     by_cases c4:64 < runF isWrd u 0
     ·rw [if_pos c4] at hT
      have e1:(if(takeF u).code=0 then p+(takeF u).n else p)=p:=by rw [hT];rfl
      have e2:nxV (takeF u) (placeF s p).1 (placeF s p).2=failV ⟨20,(placeF s p).1,(placeF s p).2,u.extract 0 (runF isWrd u 0)⟩:=by rw [hT];rfl
      rw [e1,e2]
      repeat'(first|(refine at_s ?_;intro hu9)|(with_reducible first|(refine zz ?_;try intro K hK)|refine zI ?_|refine zt ?_|refine zf ?_)|((first|refine hK _ ?_|refine hK _ _ rfl ?_);clear hK K)|(guard_hyp hK;first|(refine zY ?zz ?_;case zz=>first|exact rfl|exact gJ)|refine fresh_n ?_|refine freshO_n ?_|refine zW ?_|(refine zQ (hl) ?_)|(refine zQ (hrn) ?_)|(refine' fail_call _ (hfail _ _ _ _) ?hga ?hgb ?_;(case hga=>rfl);(case hgb=>rfl))|intro b0 hb)|((first|with_reducible refine zm ?_|guard_hyp hK);refine zY ?_ ?_;all_goals(intro hb;(try simp only [sn,sb] at hb);try exact ex0)))
      all_goals first|exact absurd hb hne|exact lr_retn (ls:=[.int .i8 0,.string eS,.int .i64 0,.int .i64 0]) rfl tk85 rfl (Nat.zero_lt_succ _) rfl rfl rfl ⟨default,.inr ⟨_,_,rfl⟩⟩ rfl (by decide) rfl rfl
     ·rw [if_neg c4] at hT
      have e1:(if(takeF u).code=0 then p+(takeF u).n else p)=p+(runF isWrd u 0):=by rw [hT];rfl
      have e2:nxV (takeF u) (placeF s p).1 (placeF s p).2=.tup [tkV 1 (u.extract 0 (runF isWrd u 0)) (placeF s p).1 (placeF s p).2,.con .nilIface]:=by rw [hT];rfl
      rw [e1,e2]
      have hps:=passP_ok s p (runF isWrd u 0) hs (by omega)
      unfold lrP at hps
      repeat'(first|(refine at_s ?_;intro hu9)|(with_reducible first|(refine zz ?_;try intro K hK)|refine zI ?_|refine zt ?_|refine zf ?_)|((first|refine hK _ ?_|refine hK _ _ rfl ?_);clear hK K)|(guard_hyp hK;first|(refine zY ?zz ?_;case zz=>first|exact rfl|exact gJ)|refine fresh_n ?_|refine freshO_n ?_|refine zW ?_|(refine zQ (hl) ?_)|(refine zQ (hrn) ?_)|refine zg ([]) (hps) (lrO s p (placeF s p).1 (placeF s p).2) ([]) (lrO s (p+(runF isWrd u 0)) (placeF s (p+(runF isWrd u 0))).1 (placeF s (p+(runF isWrd u 0))).2) (.tup []) ?_|intro b0 hb)|((first|with_reducible refine zm ?_|guard_hyp hK);refine zY ?_ ?_;all_goals(intro hb;(try simp only [sn,sb] at hb);try exact ex0)))
      all_goals first|exact absurd hb hne|exact lr_retn (ls:=[.int .i8 1,.string (u.extract 0 (runF isWrd u 0)),.int .i64 (placeF s p).1,.int .i64 (placeF s p).2]) rfl tk85 rfl (Nat.zero_lt_succ _) rfl rfl rfl ⟨_,.inl rfl⟩ rfl (by decide) rfl rfl
    |false=>
     rw [hL] at hl
     rw [if_neg (by rw [hL];exact Bool.false_ne_true)] at hT
     cases hD:isDig (chr u 0) with
     |true=>
      rw [hD] at hd
      rw [if_pos hD] at hT
      have hn:=number_ok u us
      have hnF:=numF_le (s:=u)
      have hlg:=large_ok (expS u) (by have:(expS u).size≤u.size:=(by unfold expS;split;(unfold sub;rw [ByteArray.size_extract];omega);exact Nat.zero_le _);omega) (expS_dig u)
      rw [← numB_exp] at hlg
      have hrn:=run_ok u (numF u) 50 isWrd inWord_ok us (by omega)
      have hr0:=runF_le (p:=isWrd) (s:=u) hnF
      have hln:=letter_ok (chr u (numF u))
      have hlt9:isLet (chr u (numF u))=true→numF u < u.size:=fun h=>by
       rcases Nat.lt_or_ge (numF u) u.size with h9|h9
       ·exact h9
       ·rw [chr_end h9] at h;exact absurd h (by decide)
      cases hB:numB u with
      |true=>
       rw [hB] at hlg
       rw [if_pos (.inl hB)] at hT
       have e1:(if(takeF u).code=0 then p+(takeF u).n else p)=p:=by rw [hT];rfl
       have e2:nxV (takeF u) (placeF s p).1 (placeF s p).2=failV ⟨22,(placeF s p).1,(placeF s p).2,u.extract 0 (numF u+runF isWrd u (numF u))⟩:=by rw [hT];rfl
       rw [e1,e2]
       repeat'(first|(refine at_s ?_;intro hu9)|(with_reducible first|(refine zz ?_;try intro K hK)|refine zI ?_|refine zt ?_|refine zf ?_)|((first|refine hK _ ?_|refine hK _ _ rfl ?_);clear hK K)|(guard_hyp hK;first|(refine zY ?zz ?_;case zz=>first|exact rfl|exact gJ)|refine fresh_n ?_|refine freshO_n ?_|refine zW ?_|(refine zQ (hl) ?_)|(refine zQ (hd) ?_)|(refine zQ (hn) ?_)|(refine zQ (hlg) ?_)|(refine zQ (hrn) ?_)|(refine' fail_call _ (hfail _ _ _ _) ?hga ?hgb ?_;(case hga=>rfl);(case hgb=>rfl))|intro b0 hb)|((first|with_reducible refine zm ?_|guard_hyp hK);refine zY ?_ ?_;all_goals(intro hb;(try simp only [sn,sb] at hb);try exact ex0)))
       all_goals first|exact absurd hb hne|exact lr_retn (ls:=[.int .i8 0,.string eS,.int .i64 0,.int .i64 0]) rfl tk85 rfl (Nat.zero_lt_succ _) rfl rfl rfl ⟨default,.inr ⟨_,_,rfl⟩⟩ rfl (by decide) rfl rfl
      |false=>
       rw [hB] at hlg
       cases hN:isLet (chr u (numF u)) with
       |true=>
        have hlt8:=hlt9 hN
        rw [hN] at hln
        rw [if_pos (.inr hN)] at hT
        have e1:(if(takeF u).code=0 then p+(takeF u).n else p)=p:=by rw [hT];rfl
        have e2:nxV (takeF u) (placeF s p).1 (placeF s p).2=failV ⟨22,(placeF s p).1,(placeF s p).2,u.extract 0 (numF u+runF isWrd u (numF u))⟩:=by rw [hT];rfl
        rw [e1,e2]
        repeat'(first|(refine at_s ?_;intro hu9)|(with_reducible first|(refine zz ?_;try intro K hK)|refine zI ?_|refine zt ?_|refine zf ?_)|((first|refine hK _ ?_|refine hK _ _ rfl ?_);clear hK K)|(guard_hyp hK;first|(refine zY ?zz ?_;case zz=>first|exact rfl|exact gJ)|refine fresh_n ?_|refine freshO_n ?_|refine zW ?_|(refine zQ (hl) ?_)|(refine zQ (hd) ?_)|(refine zQ (hn) ?_)|(refine zQ (hlg) ?_)|(refine zQ (hln) ?_)|(refine zQ (hrn) ?_)|(refine' fail_call _ (hfail _ _ _ _) ?hga ?hgb ?_;(case hga=>rfl);(case hgb=>rfl))|intro b0 hb)|((first|with_reducible refine zm ?_|guard_hyp hK);refine zY ?_ ?_;all_goals(intro hb;(try simp only [sn,sb] at hb);try exact ex0)))
        all_goals first|exact absurd hb hne|exact lr_retn (ls:=[.int .i8 0,.string eS,.int .i64 0,.int .i64 0]) rfl tk85 rfl (Nat.zero_lt_succ _) rfl rfl rfl ⟨default,.inr ⟨_,_,rfl⟩⟩ rfl (by decide) rfl rfl
       |false=>
        rw [hN] at hln
        rw [if_neg (by rw [hB,hN];exact fun h=>h.elim Bool.false_ne_true Bool.false_ne_true)] at hT
        have e1:(if(takeF u).code=0 then p+(takeF u).n else p)=p+(numF u):=by rw [hT];rfl
        have e2:nxV (takeF u) (placeF s p).1 (placeF s p).2=.tup [tkV 2 (u.extract 0 (numF u)) (placeF s p).1 (placeF s p).2,.con .nilIface]:=by rw [hT];rfl
        rw [e1,e2]
        have hps:=passP_ok s p (numF u) hs (by omega)
        unfold lrP at hps
        repeat'(first|(refine at_s ?_;intro hu9)|(with_reducible first|(refine zz ?_;try intro K hK)|refine zI ?_|refine zt ?_|refine zf ?_)|((first|refine hK _ ?_|refine hK _ _ rfl ?_);clear hK K)|(guard_hyp hK;first|(refine zY ?zz ?_;case zz=>first|exact rfl|exact gJ)|refine fresh_n ?_|refine freshO_n ?_|refine zW ?_|(refine zQ (hl) ?_)|(refine zQ (hd) ?_)|(refine zQ (hn) ?_)|(refine zQ (hlg) ?_)|(refine zQ (hln) ?_)|refine zg ([]) (hps) (lrO s p (placeF s p).1 (placeF s p).2) ([]) (lrO s (p+(numF u)) (placeF s (p+(numF u))).1 (placeF s (p+(numF u))).2) (.tup []) ?_|intro b0 hb)|((first|with_reducible refine zm ?_|guard_hyp hK);refine zY ?_ ?_;all_goals(intro hb;(try simp only [sn,sb] at hb);try exact ex0)))
        all_goals first|exact absurd hb hne|exact lr_retn (ls:=[.int .i8 2,.string (u.extract 0 (numF u)),.int .i64 (placeF s p).1,.int .i64 (placeF s p).2]) rfl tk85 rfl (Nat.zero_lt_succ _) rfl rfl rfl ⟨_,.inl rfl⟩ rfl (by decide) rfl rfl
     |false=>
      rw [hD] at hd
      rw [if_neg (by rw [hD];exact Bool.false_ne_true)] at hT
      by_cases c5:(chr u 0).toNat=34
      ·rw [if_pos c5] at hT
       have hm:=meant_ok u us
       have hq1:=quoF_le u 1 ⟨#[]⟩
       generalize quoF u 1 ⟨#[]⟩=Q at *
       obtain⟨qn,qt,qb⟩:=Q
       cases qb with
       |true=>
        rw [if_pos rfl] at hT
        have hq2:=hq1 rfl
        dsimp only at hq2 hm hT
        have e1:(if(takeF u).code=0 then p+(takeF u).n else p)=p+(qn):=by rw [hT];rfl
        have e2:nxV (takeF u) (placeF s p).1 (placeF s p).2=.tup [tkV 3 (qt) (placeF s p).1 (placeF s p).2,.con .nilIface]:=by rw [hT];rfl
        rw [e1,e2]
        have hps:=passP_ok s p (qn) hs (by omega)
        unfold lrP at hps
        repeat'(first|(refine at_s ?_;intro hu9)|(with_reducible first|(refine zz ?_;try intro K hK)|refine zI ?_|refine zt ?_|refine zf ?_)|((first|refine hK _ ?_|refine hK _ _ rfl ?_);clear hK K)|(guard_hyp hK;first|(refine zY ?zz ?_;case zz=>first|exact rfl|exact gJ)|refine fresh_n ?_|refine freshO_n ?_|refine zW ?_|(refine zQ (hl) ?_)|(refine zQ (hd) ?_)|(refine zQ (hm) ?_)|refine zg ([]) (hps) (lrO s p (placeF s p).1 (placeF s p).2) ([]) (lrO s (p+(qn)) (placeF s (p+(qn))).1 (placeF s (p+(qn))).2) (.tup []) ?_|intro b0 hb)|((first|with_reducible refine zm ?_|guard_hyp hK);refine zY ?_ ?_;all_goals(intro hb;(try simp only [sn,sb] at hb);try exact ex0)))
        all_goals first|exact absurd hb hne|exact lr_retn (ls:=[.int .i8 3,.string (qt),.int .i64 (placeF s p).1,.int .i64 (placeF s p).2]) rfl tk85 rfl (Nat.zero_lt_succ _) rfl rfl rfl ⟨_,.inl rfl⟩ rfl (by decide) rfl rfl
       |false=>
        rw [if_neg Bool.false_ne_true] at hT
        dsimp only at hm
        have e9:u.extract 0 1=⟨#[34]⟩:=by
         refine ByteArray.ext (Array.toList_inj.1 ?_)
         have h1:=sub_bs u 0 1
         rw [drop_at (by omega)] at h1
         refine Eq.trans h1 ?_
         rw [(chr_n (b:=34)).2 c5];rfl
        rw [← e9] at hT
        have e1:(if(takeF u).code=0 then p+(takeF u).n else p)=p:=by rw [hT];rfl
        have e2:nxV (takeF u) (placeF s p).1 (placeF s p).2=failV ⟨21,(placeF s p).1,(placeF s p).2,u.extract 0 1⟩:=by rw [hT];rfl
        rw [e1,e2]
        repeat'(first|(refine at_s ?_;intro hu9)|(with_reducible first|(refine zz ?_;try intro K hK)|refine zI ?_|refine zt ?_|refine zf ?_)|((first|refine hK _ ?_|refine hK _ _ rfl ?_);clear hK K)|(guard_hyp hK;first|(refine zY ?zz ?_;case zz=>first|exact rfl|exact gJ)|refine fresh_n ?_|refine freshO_n ?_|refine zW ?_|(refine zQ (hl) ?_)|(refine zQ (hd) ?_)|(refine zQ (hm) ?_)|(refine' fail_call _ (hfail _ _ _ _) ?hga ?hgb ?_;(case hga=>rfl);(case hgb=>rfl))|intro b0 hb)|((first|with_reducible refine zm ?_|guard_hyp hK);refine zY ?_ ?_;all_goals(intro hb;(try simp only [sn,sb] at hb);try exact ex0)))
        all_goals first|exact absurd hb hne|exact lr_retn (ls:=[.int .i8 0,.string eS,.int .i64 0,.int .i64 0]) rfl tk85 rfl (Nat.zero_lt_succ _) rfl rfl rfl ⟨default,.inr ⟨_,_,rfl⟩⟩ rfl (by decide) rfl rfl
      ·rw [if_neg c5] at hT
       have hi:=IndexByte_ok sgS (chr u 0)
       have hbk:=sgn_idx (chr u 0)
       have e0:sgS.data.toList=[123,125,40,41,91,93,44,59,124,61,43,45,42,47]:=rfl
       rw [e0] at hi
       cases hG:isSgn (chr u 0) with
       |true=>
        have hbk:=hbk.1 hG
        rw [if_pos hG] at hT
        have e1:(if(takeF u).code=0 then p+(takeF u).n else p)=p+(1):=by rw [hT];rfl
        have e2:nxV (takeF u) (placeF s p).1 (placeF s p).2=.tup [tkV 4 (u.extract 0 1) (placeF s p).1 (placeF s p).2,.con .nilIface]:=by rw [hT];rfl
        rw [e1,e2]
        have hps:=passP_ok s p (1) hs (by omega)
        unfold lrP at hps
        repeat'(first|(refine at_s ?_;intro hu9)|(with_reducible first|(refine zz ?_;try intro K hK)|refine zI ?_|refine zt ?_|refine zf ?_)|((first|refine hK _ ?_|refine hK _ _ rfl ?_);clear hK K)|(guard_hyp hK;first|(refine zY ?zz ?_;case zz=>first|exact rfl|exact gJ)|refine fresh_n ?_|refine freshO_n ?_|refine zW ?_|(refine zQ (hl) ?_)|(refine zQ (hd) ?_)|(refine zQ (hi) ?_)|refine zg ([]) (hps) (lrO s p (placeF s p).1 (placeF s p).2) ([]) (lrO s (p+(1)) (placeF s (p+(1))).1 (placeF s (p+(1))).2) (.tup []) ?_|intro b0 hb)|((first|with_reducible refine zm ?_|guard_hyp hK);refine zY ?_ ?_;all_goals(intro hb;(try simp only [sn,sb] at hb);try exact ex0)))
        all_goals first|exact absurd hb hne|exact lr_retn (ls:=[.int .i8 4,.string (u.extract 0 1),.int .i64 (placeF s p).1,.int .i64 (placeF s p).2]) rfl tk85 rfl (Nat.zero_lt_succ _) rfl rfl rfl ⟨_,.inl rfl⟩ rfl (by decide) rfl rfl
       |false=>
        have hbk:¬0≤Lib.indexByte [123,125,40,41,91,93,44,59,124,61,43,45,42,47] (chr u 0):=fun h=>by rw [hbk.2 h] at hG;cases hG
        rw [if_neg (by rw [hG];exact Bool.false_ne_true)] at hT
        have e1:(if(takeF u).code=0 then p+(takeF u).n else p)=p:=by rw [hT];rfl
        have e2:nxV (takeF u) (placeF s p).1 (placeF s p).2=failV ⟨20,(placeF s p).1,(placeF s p).2,u.extract 0 1⟩:=by rw [hT];rfl
        rw [e1,e2]
        repeat'(first|(refine at_s ?_;intro hu9)|(with_reducible first|(refine zz ?_;try intro K hK)|refine zI ?_|refine zt ?_|refine zf ?_)|((first|refine hK _ ?_|refine hK _ _ rfl ?_);clear hK K)|(guard_hyp hK;first|(refine zY ?zz ?_;case zz=>first|exact rfl|exact gJ)|refine fresh_n ?_|refine freshO_n ?_|refine zW ?_|(refine zQ (hl) ?_)|(refine zQ (hd) ?_)|(refine zQ (hi) ?_)|(refine' fail_call _ (hfail _ _ _ _) ?hga ?hgb ?_;(case hga=>rfl);(case hgb=>rfl))|intro b0 hb)|((first|with_reducible refine zm ?_|guard_hyp hK);refine zY ?_ ?_;all_goals(intro hb;(try simp only [sn,sb] at hb);try exact ex0)))
        all_goals first|exact absurd hb hne|exact lr_retn (ls:=[.int .i8 0,.string eS,.int .i64 0,.int .i64 0]) rfl tk85 rfl (Nat.zero_lt_succ _) rfl rfl rfl ⟨default,.inr ⟨_,_,rfl⟩⟩ rfl (by decide) rfl rfl
   ·have he:=hemp.2 (by omega)
    rw [if_neg h0]
    have e1:(if eoF.code=0 then p+eoF.n else p)=p:=rfl
    have e2:nxV eoF (placeF s p).1 (placeF s p).2=.tup [tkV 0 eS (placeF s p).1 (placeF s p).2,.con .nilIface]:=rfl
    rw [e1,e2]
    repeat'(first|(with_reducible first|(refine zz ?_;try intro K hK)|refine zI ?_|refine zt ?_|refine zf ?_)|((first|refine hK _ ?_|refine hK _ _ rfl ?_);clear hK K)|(guard_hyp hK;first|(refine zY ?zz ?_;case zz=>first|exact rfl|exact gJ)|refine fresh_n ?_|refine freshO_n ?_|refine zW ?_|intro b0 hb)|((first|with_reducible refine zm ?_|guard_hyp hK);refine zY ?_ ?_;all_goals(intro hb;(try simp only [sn,sb] at hb);try exact ex0)))
    all_goals first|exact absurd he hb|(exact lr_retn (ls:=[.int .i8 0,.string eS,.int .i64 (placeF s p).1,.int .i64 (placeF s p).2]) rfl tk85 rfl (Nat.zero_lt_succ _) rfl rfl rfl ⟨_,.inl rfl⟩ rfl (by decide) rfl rfl)
  ·intro R hR
   repeat'(first|(with_reducible first|(refine zz ?_;try intro K hK)|refine zI ?_|refine zt ?_|refine zf ?_)|((first|refine hK _ ?_|refine hK _ _ rfl ?_);clear hK K)|(guard_hyp hK;first|(refine zY ?zz ?_;case zz=>first|exact rfl|exact gJ)|refine fresh_n ?_|refine freshO_n ?_|refine zW ?_|intro b0 hb)|((first|with_reducible refine zm ?_|guard_hyp hK);refine zY ?_ ?_;all_goals(intro hb;(try simp only [sn,sb] at hb);try exact ex0)))
   exact hR _ _ rfl ⟨rfl,⟨rfl,rfl,rfl,rfl,rfl,rfl,rfl,rfl,rfl,trivial,trivial⟩,⟨rfl,rfl,rfl,trivial⟩,⟨lr_one,fun v hv=>(tkOb_flat _ _ _ _ v hv).cl _,fun v hv=>(tkOb_flat _ _ _ _ v hv).cl _,trivial⟩⟩
def txO (s:ByteArray):Obj:=⟨1,[.con (.string s)],0,true⟩
theorem Each_ok (s:ByteArray):OkO Tryz.prog 25 [tS9 s] [(0,txO s)] (.wr (.fre 39) 0 0 0 0):=by
 refine oko_of_ev hC0 mix Tryz.func25 rfl rfl (by kernel_rfl) (zO rfl) ?_
 repeat'(first|(with_reducible first|(refine zz ?_;try intro K hK)|refine zI ?_|refine zt ?_|refine zf ?_)|((first|refine hK _ ?_|refine hK _ _ rfl ?_);clear hK K)|(guard_hyp hK;first|(refine zY ?zz ?_;case zz=>first|exact rfl|exact gJ)|refine fresh_n ?_|refine freshO_n ?_|refine zW ?_|intro b0 hb)|((first|with_reducible refine zm ?_|guard_hyp hK);refine zY ?_ ?_;all_goals(intro hb;(try simp only [sn,sb] at hb);try exact ex0)))
 refine⟨trivial,false,_,fun _=>0,rfl,ren_of inj1 ⟨⟨_,rfl,rfl,rfl,rfl,rfl,rfl,renE_one (.con _)⟩,trivial⟩,?_⟩
 exact RenC.wr _ 0 _ _ _ _ rfl rfl rfl
theorem allF_bl (s:ByteArray)(a:Nat)(ha:a≤s.size):((blF s a).2=false→allF s a=([],some ⟨21,(placeF s (blF s a).1).1,(placeF s (blF s a).1).2,⟨#[47,42]⟩⟩))∧((blF s a).2=true→allF s a=allF s (blF s a).1):=by
 rw [blF]
 split
 ·rename_i hlt
  split
  ·rename_i h1
   refine⟨fun _=>?_,fun h=>by cases h⟩
   have ht:takeF (s.extract a s.size)=⟨0,0,eS,21,⟨#[47,42]⟩⟩:=if_pos h1
   rw [allF,dif_pos hlt,ht]
   rfl
  ·rename_i h1
   split
   ·rename_i h2
    have ht:takeF (s.extract a s.size)=⟨(skipF (s.extract a s.size)).toNat,0,eS,0,eS⟩:=by unfold takeF;rw [if_neg h1,if_pos h2]
    have h3:=skipF_le (s:=s.extract a s.size) (by rw [ByteArray.size_extract];omega)
    rw [ByteArray.size_extract] at h3
    have e:allF s a=allF s (a+(skipF (s.extract a s.size)).toNat):=by
     rw [allF,dif_pos hlt,ht]
     rw [if_neg (by simp),dif_pos (by show 0 < (skipF _).toNat;omega),if_neg (by simp)]
    rw [e]
    exact allF_bl s _ (by omega)
   ·exact⟨fun h=>(by cases h),fun _=>rfl⟩
 ·exact⟨fun h=>(by cases h),fun _=>rfl⟩
termination_by s.size - a
theorem takeF_kind0 {s:ByteArray}(h1:1≤s.size)(hs:skipF s=0)(hc:(takeF s).code=0):(takeF s).kind≠0:=by
 unfold takeF at hc ⊢
 rw [if_neg (by omega),if_neg (by omega)] at hc ⊢
 split
 ·rename_i c1
  rw [if_pos c1] at hc
  split
  ·rename_i c2;rw [if_pos c2] at hc;exfalso;dsimp only at hc;revert hc;decide
  ·dsimp only;decide
 ·rename_i c1
  rw [if_neg c1] at hc
  split
  ·rename_i c2
   rw [if_pos c2] at hc
   split
   ·rename_i c3;rw [if_pos c3] at hc;exfalso;dsimp only at hc;revert hc;decide
   ·dsimp only;decide
  ·rename_i c2
   rw [if_neg c2] at hc
   split
   ·rename_i c3
    rw [if_pos c3] at hc
    split
    ·dsimp only;decide
    ·rename_i c4;rw [if_neg c4] at hc;exfalso;dsimp only at hc;revert hc;decide
   ·rename_i c3
    rw [if_neg c3] at hc
    split
    ·dsimp only;decide
    ·rename_i c4;rw [if_neg c4] at hc;exfalso;dsimp only at hc;revert hc;decide
theorem allF_step (s:ByteArray)(a:Nat)(ha:a≤s.size) :
  ((nxF s a).code≠0→allF s a=([],some ⟨(nxF s a).code,(placeF s (blF s a).1).1,(placeF s (blF s a).1).2,(nxF s a).word⟩))∧
  ((nxF s a).code=0→(nxF s a).kind=0→(nxF s a).text=eS∧allF s a=([⟨0,eS,(placeF s (blF s a).1).1,(placeF s (blF s a).1).2⟩],none))∧
  ((nxF s a).code=0→(nxF s a).kind≠0→a < nxE s a∧nxE s a≤s.size∧allF s a=(⟨(nxF s a).kind,(nxF s a).text,(placeF s (blF s a).1).1,(placeF s (blF s a).1).2⟩ :: (allF s (nxE s a)).1,(allF s (nxE s a)).2)):=by
 obtain⟨h1,h2⟩:=allF_bl s a ha
 obtain⟨l1,l2⟩:=blF_le s a ha
 cases hb:(blF s a).2 with
 |false=>
  have e:nxF s a=⟨0,0,eS,21,⟨#[47,42]⟩⟩:=by unfold nxF;rw [hb];rfl
  rw [e,h1 hb]
  exact⟨fun _=>rfl,fun h=>by(exfalso;revert h;decide),fun h=>by(exfalso;revert h;decide)⟩
 |true=>
  rw [h2 hb]
  by_cases hp:(blF s a).1 < s.size
  ·have e:nxF s a=takeF (s.extract (blF s a).1 s.size):=by unfold nxF;rw [hb,if_pos rfl,if_pos hp]
   have hsz:(s.extract (blF s a).1 s.size).size=s.size - (blF s a).1:=by rw [ByteArray.size_extract];omega
   have hk:=blF_stop s a ha hb hp
   have eE:nxE s a=if(nxF s a).code=0 then(blF s a).1+(nxF s a).n else(blF s a).1:=rfl
   rw [e] at eE ⊢
   generalize hT:takeF (s.extract (blF s a).1 s.size)=T at *
   refine⟨fun hc=>?_,fun hc hk0=>?_,fun hc hk0=>?_⟩
   ·rw [allF,dif_pos hp,hT,if_pos hc]
   ·exact absurd hk0 (by rw [← hT];exact_mod_cast takeF_kind0 (by omega) hk (by rw [hT];exact hc))
   ·have hpr:=takeF_prog (s:=s.extract (blF s a).1 s.size) (by omega) (by rw [hT];exact hc)
    rw [hT] at hpr
    rw [if_pos hc] at eE
    refine⟨by omega,by omega,?_⟩
    rw [allF,dif_pos hp,hT,if_neg (by rw [hc];exact fun h=>h rfl),dif_pos hpr.1,if_pos hk0,eE]
  ·have e:nxF s a=eoF:=by unfold nxF;rw [hb,if_pos rfl,if_neg hp]
   have e9:(blF s a).1=s.size:=by omega
   rw [e]
   refine⟨fun h=>absurd rfl h,fun _ _=>⟨rfl,?_⟩,fun _ h=>absurd rfl h⟩
   rw [allF,dif_neg hp,e9]
end Go.Ev
