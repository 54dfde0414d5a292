import Derived.Test.YtfdgaoihjedamaaGreatDoorLbe
import Derived.Test.YtfdgaoihjedamaaGreatDoorLbf
import Derived.Test.YtfdgaoihjedamaaGreatDoorLax
set_option linter.all false
set_option maxHeartbeats 4000000
set_option maxRecDepth 10000
namespace Go.Ev
open Go.Proofs
theorem HR.ext {g:Gh}{oh:OH}{w w1:World}(hx:w.Extends w1)(h:HR g oh w):HR g oh w1:=by
 refine⟨⟨fun b o c hc=>?_,h.hF,fun i o ho hl=>?_,h.inj,h.mp.of fun b ⟨i,o,ho,hm,hb⟩=>?_⟩,h.gl⟩
 ·have:=h.hG b o c hc
  rw [hx.cell ⟨b,o,none⟩ (lt_of_cell this)];exact this
 ·obtain⟨h1,h2⟩:=h.obj i o ho hl
  refine⟨h1,fun b hb=>?_⟩
  obtain⟨arr,ty,q1,q2,q3⟩:=h2 b hb
  exact⟨arr,ty,by rw [hx.block b (lt_of_heap q1)];exact q1,q2,q3⟩
 ·obtain⟨b2,es,clock,q1,q2,-⟩:=h.mp.at_ i o ho hm
  rw [hb] at q1
  obtain rfl:b=b2:=by simpa using q1
  exact hx.block b (lt_of_heap q2)
theorem Fr.ext {g:Gh}{oh:OH}{w w1:World}(hx:w.Extends w1):Fr g oh w g oh w1:=
 ⟨hx.os,hx.tape,hx.output,hx.size,fun b hb _ _=>hx.block b hb,fun _ h=>.inl h,fun _ _ _ h=>h,fun _ _ _ h=>h,fun _ _ _ h=>.inl h,fun _ _ _ h=>.inl h,fun b arr ty fz h=>⟨arr,by rw [hx.block b (lt_of_heap h)];exact h,rfl⟩,fun _ h=>.inl h⟩
def asOper (t:TypeId):Oper:={ dst:=none,op:=.store t (.tmp 0) (.tmp 1),type:=0,pos:= "",after:=#[],guard:=none }
def asEnv (r v:V):Operand→V
 |.tmp 0=>r
 |.tmp 1=>v
 |_=>.undef
def asVal (r v:Value):Operand→Value
 |.tmp 0=>r
 |.tmp 1=>v
 |_=>Go.undef
theorem as_ok : AsOK Tryz.prog 46 88 106:=by
 intro f
 have hst:Some Tryz.prog (asOper 88) (asEnv (.ref 0 0 0 0) (.ro false (.ptr (fTl f)))) (asO (.con (.pointer none))) (fun a=>a=⟨asO (.con (.pointer none)),[],asO (.ro false (.ptr (fTl f))),.undef⟩):=by
  refine step_ok (C:=OkR Tryz.prog) (fun _ _ _ h=>h) ?_
  unfold step asOper asO
  dsimp only [asEnv]
  rw [tk88]
  exact⟨rfl,rfl,_,rfl,rfl,by decide,rfl,by decide,rfl⟩
 obtain⟨acc,hok,hp,hn,rfl⟩:=hst
 have hpre:∀i o,oget (asO (.con (.pointer none))) i=some o→i=0∧o=⟨1,[.con (.pointer none)],0,true⟩:=fun i o h=>oget_one h
 have hpo:∀i o,oget (asO (.ro false (.ptr (fTl f))) ++ asO (.con (.pointer none))) i=some o→i=0∧o=⟨1,[.ro false (.ptr (fTl f))],0,true⟩:=by
  intro i o h
  by_cases h0:i=0
  ·subst h0;exact⟨rfl,(Option.some.inj h).symm⟩
  ·rw [show asO (.ro false (.ptr (fTl f))) ++ asO (.con (.pointer none))=[(0,_),(0,_)] from rfl,oget,if_neg (Ne.symm h0),oget,if_neg (Ne.symm h0)] at h
   cases h
 refine⟨⟨_,Tryz.func46,rfl,rfl⟩,fun i o h=>?_,two_vs trivial rfl,fun i o h=>?_,fun i o o' h h' _ _=>?_,fun g w args hr hsz hrd=>?_⟩
 ·obtain⟨rfl,rfl⟩:=hpre i o h
  exact⟨rfl,rfl,one_vs trivial⟩
 ·obtain⟨rfl,-⟩:=oget_one h
  exact .inl rfl
 ·obtain⟨rfl,rfl⟩:=hpre i o h
  obtain⟨-,rfl⟩:=hpo _ o' h'
  exact⟨rfl,Nat.le_refl _⟩
 obtain⟨x0,x1,rfl⟩:∃x0 x1,args=#[x0,x1]:=by
  obtain⟨l⟩:=args
  match l,hsz with
  | [a,b],_=>exact⟨a,b,rfl⟩
 have h0:=hrd 0 _ x0 rfl rfl
 have h1:=hrd 1 _ x1 rfl rfl
 obtain⟨h0,-⟩:=h0
 obtain⟨y,⟨-,o,ho,-,hy⟩,rfl⟩:=h1
 obtain⟨-,rfl⟩:=hpre 0 o ho
 obtain⟨b,hb,rfl⟩:=hy rfl rfl
 cases h0 with
 |ifc _ _ x h2 hx2=>
 obtain⟨be,off,c,rfl,hs,hc1,hrc⟩:=rdT_ptr hx2
 obtain⟨-,q2⟩:=hr.obj 0 _ rfl rfl
 obtain⟨arr,ty,hh,-,hba⟩:=q2 b hb
 obtain⟨old,hold,-,-⟩:=(hba.2.2.2 0 _ rfl).2 0 _ rfl
 have hcell:w.cell? ⟨b,0 * 1+0,none⟩=some old:=by simp [World.cell?,hh];exact hold
 have hfz:w.frozen? ⟨b,0 * 1+0,none⟩=false:=by simp [World.frozen?,hh]
 obtain⟨w1,hext,hcalls⟩:=Go.Proofs.YtfdgaoihjedamaaGreatDoor.as_law g.G hr.gl.2 ⟨be,off,none⟩ ⟨b,0 * 1+0,none⟩ old w hr.hG hcell hfz rfl
 have hr1:=hr.ext hext
 have hlt:=lt_of_heap hh
 have hcell1:w1.cell? ⟨b,0 * 1+0,none⟩=some old:=by rw [hext.cell _ hlt];exact hcell
 have hfz1:w1.frozen? ⟨b,0 * 1+0,none⟩=false:=by rw [hext.frozen _ hlt];exact hfz
 have hstore:=hok g _ w1 (asVal (.pointer (some ⟨b,0 * 1+0,none⟩)) (.pointer (some ⟨be,off,none⟩))) hr1 (by
  intro z hz
  have:z=.tmp 0∨z=.tmp 1:=by simpa [asOper,Op.operands] using hz
  rcases this with rfl|rfl
  ·exact⟨⟨rfl,fun o ho hm=>by obtain⟨-,rfl⟩:=hpre 0 o ho;cases hm.1⟩,_,rfl,Nat.le_refl _,fun _ _=>⟨b,hb,rfl⟩⟩
  ·exact⟨hx2,rfl⟩) hp (fun i hi=>by simp at hi)
 have hrun:(execOp (asVal (.pointer (some ⟨b,0 * 1+0,none⟩)) (.pointer (some ⟨be,off,none⟩))) (asOper 88)).run Tryz.prog w1=.ok .skip (w1.setCell ⟨b,0 * 1+0,none⟩ (.pointer (some ⟨be,off,none⟩))):=by
  have hs1:(storeVar 88 ⟨b,0 * 1+0,none⟩ (.pointer (some ⟨be,off,none⟩))).run Tryz.prog w1=.ok () (w1.setCell ⟨b,0 * 1+0,none⟩ (.pointer (some ⟨be,off,none⟩))):=by
   have h1:=tk_one tk88 (by simp) (by simp) w1
   simp [storeVar,h1,Value.cells,storeCells,Addr.add]
   rw [run_store Tryz.prog w1 _ _ _ (by rfl)]
   simp at hcell1 hfz1
   simp [hcell1,hfz1]
  simp only [execOp,asOper,asVal,Instr.storeAt,Instr.sureAddr]
  simp at hs1
  simp [hs1]
 rw [hrun] at hstore
 obtain⟨g',z1,-,z3,z4⟩:=hstore
 refine hcalls.mono fun ev w' he=>?_
 obtain⟨rfl,rfl⟩:=he
 have hfr:=(Fr.ext hext).trans z4
 refine⟨.bool true,g',rfl,z1,⟨rfl,rfl⟩,hfr,fun i o h=>?_,fun i o o' h h' _ _=>?_⟩
 ·obtain⟨-,rfl⟩:=hpo i o h;rfl
 ·obtain⟨rfl,rfl⟩:=hpre i o h
  exact pin_mono hr z1 z3 hfr rfl rfl (Nat.zero_lt_succ _) (by simp) rfl rfl rfl rfl
theorem blF_stop (s:ByteArray)(a:Nat)(ha:a≤s.size)(h:(blF s a).2=true)(hl:(blF s a).1 < s.size):skipF (s.extract (blF s a).1 s.size)=0:=by
 rw [blF] at h hl ⊢
 split at h
 ·rename_i hlt
  rw [dif_pos hlt] at hl ⊢
  split at h
  ·cases h
  ·rename_i h1
   rw [if_neg h1] at hl ⊢
   split at h
   ·rename_i h2
    rw [dif_pos h2] at hl ⊢
    have h3:=skipF_le (s:=s.extract a s.size) (by rw [ByteArray.size_extract];omega)
    rw [ByteArray.size_extract] at h3
    exact blF_stop s _ (by omega) h hl
   ·rename_i h2
    rw [dif_neg h2]
    simp only
    omega
 ·rename_i hlt
  rw [dif_neg hlt] at hl
  exact absurd hl hlt
termination_by s.size - a
def eoF : TkR:=⟨0,0,eS,0,eS⟩
def nxF (s:ByteArray)(a:Nat):TkR:=
 if(blF s a).2=true then(if(blF s a).1 < s.size then takeF (s.extract (blF s a).1 s.size) else eoF) else⟨0,0,eS,21,⟨#[47,42]⟩⟩
def nxE (s:ByteArray)(a:Nat):Nat:=if(nxF s a).code=0 then(blF s a).1+(nxF s a).n else(blF s a).1
def nxV (r:TkR)(l c:Int):V:=if r.code=0 then .tup [tkV r.kind r.text l c,.con .nilIface] else failV ⟨r.code,l,c,r.word⟩
theorem sgn_idx (b:UInt8):isSgn b=true↔0≤Lib.indexByte [123,125,40,41,91,93,44,59,124,61,43,45,42,47] b:=by
 have key:∀l:List UInt8,b ∈ l↔0≤Lib.indexByte l b:=by
  intro l
  induction l with
  |nil=>exact⟨fun h=>by simp at h,fun h=>absurd h (by rw [show Lib.indexByte [] b = -1 from rfl];decide)⟩
  |cons x r ih=>
   have hg:=ib_ge r b
   rw [ib_cons]
   by_cases h:x=b
   ·rw [if_pos h]
    exact⟨fun _=>by decide,fun _=>by rw [h];exact List.mem_cons_self ..⟩
   ·rw [if_neg h]
    constructor
    ·intro h2
     rcases List.mem_cons.1 h2 with h3|h3
     ·exact absurd h3.symm h
     ·have:=ih.1 h3
      rw [if_neg (by omega)];omega
    ·intro h2
     refine List.mem_cons_of_mem _ (ih.2 ?_)
     split at h2
     ·exact absurd h2 (by decide)
     ·omega
 unfold isSgn
 rw [decide_eq_true_eq,key];rfl
theorem run_at {p:UInt8→Bool}{s:ByteArray}{a i:Nat}(h:i < runF p s a):p (chr s (a+i))=true:=by
 unfold runF at h
 have h1:((bs s).drop a).takeWhile p=((bs s).drop a).take (((bs s).drop a).takeWhile p).length:=by
  exact List.prefix_iff_eq_take.1 (List.takeWhile_prefix p)
 have h2:(((bs s).drop a).takeWhile p)[i]?=some (((bs s).drop a).takeWhile p)[i]:=List.getElem?_eq_getElem h
 have h3:p (((bs s).drop a).takeWhile p)[i]=true:=List.all_takeWhile (p:=p) (l:=(bs s).drop a) |> fun hh=>(List.all_eq_true.1 hh) _ (List.getElem_mem h)
 have h4:(bs s)[a+i]?=some (((bs s).drop a).takeWhile p)[i]:=by
  rw [← h2,h1,List.getElem?_take_of_lt h,List.getElem?_drop]
 unfold chr
 rw [List.getD_eq_getElem?_getD,h4]
 exact h3
theorem takeF_0 {u:ByteArray}(h:skipF u=0):takeF u =
  (if isLet (chr u 0)=true then(if 64 < runF isWrd u 0 then⟨0,0,eS,20,u.extract 0 (runF isWrd u 0)⟩ else⟨runF isWrd u 0,1,u.extract 0 (runF isWrd u 0),0,eS⟩)
 else if isDig (chr u 0)=true then
  (if numB u=true∨isLet (chr u (numF u))=true then⟨0,0,eS,22,u.extract 0 (numF u+runF isWrd u (numF u))⟩ else⟨numF u,2,u.extract 0 (numF u),0,eS⟩)
 else if(chr u 0).toNat=34 then(if(quoF u 1 ⟨#[]⟩).2.2=true then⟨(quoF u 1 ⟨#[]⟩).1,3,(quoF u 1 ⟨#[]⟩).2.1,0,eS⟩ else⟨0,0,eS,21,⟨#[34]⟩⟩)
 else if isSgn (chr u 0)=true then⟨1,4,u.extract 0 1,0,eS⟩
 else⟨0,0,eS,20,u.extract 0 1⟩):=by
 unfold takeF
 rw [if_neg (by omega),if_neg (by omega)]
theorem expS_dig (s:ByteArray):allDig (expS s):=by
 intro i hi
 unfold expS at hi ⊢
 split
 ·rename_i h
  rw [if_pos h] at hi
  have hn:=runF_le (p:=isDig) (s:=s) (i:=numK s) (by
   rcases Nat.lt_or_ge (numK s) s.size with h9|h9
   ·omega
   ·have:=h.2;rw [runF_end h9] at this;omega)
  have hi2:i < runF isDig s (numK s):=by
   have e:(sub s (numK s) (runF isDig s (numK s))).size≤runF isDig s (numK s):=by unfold sub;rw [ByteArray.size_extract];omega
   omega
  have e2:chr (sub s (numK s) (runF isDig s (numK s))) i=chr s (numK s+i):=by
   unfold chr
   rw [sub_bs]
   simp only [List.getD_eq_getElem?_getD]
   rw [List.getElem?_take_of_lt hi2,List.getElem?_drop]
  rw [e2]
  exact run_at hi2
 ·rename_i h
  rw [if_neg h] at hi
  exact absurd hi (Nat.not_lt_zero _)
theorem numB_exp (s:ByteArray):numB s=decide (1000 < decV (bs (expS s))):=by
 unfold numB expS
 by_cases h:numE s
 ·rw [if_pos h,decide_eq_true h,Bool.true_and]
 ·rw [if_neg h,decide_eq_false h,Bool.false_and];rfl
theorem lr_retn {P:Program}{fn:Func}{t:St}{vs:List V}{s:ByteArray}{a l c a' l' c' np t1 t2 ty id ver sz:Nat}{ls:List Value}{v:V}{fs:List (Nat×Nat)}{z:List Value}(hr:fn.results.toList=[.cell t1 ty,.tmp t2])(ht:tk P ty=.st fs z)(hz:z.length=(ls.map V.con).length)(h0:0 < (ls.map V.con).length)
  (ha:eget t.env t1=.ref id ver 0 0) (ho:oget t.oh id=some ⟨sz,[.agg (ls.map .con)],ver,true⟩) (h2:eget t.env t2=v) (hv2:v.dat1) (hs:oget t.oh 0=some ⟨4,[lrV s a' l' c'],0,true⟩) (hnp:0 < np) (hv:vs[0]?=some (.ref 0 0 0 0)) (he:eget t.env 0=.ref 0 0 0 0) :
  RetG P fn np (lrO s a l c) vs (lrO s a' l' c') (.tup [.agg (ls.map .con),v]) .ret t:=by
 refine⟨trivial,false,t,rfl,lr_pin hs hnp hv he,lr_bm hs,?_⟩
 rw [hr]
 have h:resV P t (.cell t1 ty) (fun w=>resV P t (.tmp t2) fun u=>∃r1 r2,V.tup [.agg (ls.map .con),v]=.tup [r1,r2]∧BmA t.oh (lrO s a' l' c' ++ lrO s a l c) w r1∧BmA t.oh (lrO s a' l' c' ++ lrO s a l c) u r2):=by
  refine resc ht hz h0 ha ho ⟨_,_,rfl,bm_aggC ls,?_⟩
  show BmA _ _ (eget t.env t2) _
  rw [h2]
  obtain⟨x,rfl|⟨f,t,rfl⟩⟩:=hv2
  ·exact BmC.con _
  ·exact BmC.ro _ _
 exact h
def stNx (N:Nat)(s:ByteArray)(p l c:Nat)(u:ByteArray):St:=⟨N,[(0,.ref 0 0 0 0),(2,.ref 1 0 0 0),(5,.ref 2 0 0 0),(6,.wr (.fre 82) 2 0 0 0),(7,.con (.string u))],[(0,⟨4,[lrV s p l c],0,true⟩),(1,tkOb 0 eS 0 0),(2,tkOb 0 eS l c)]⟩
theorem next_ok (s:ByteArray)(a:Nat)(hs:s.size≤1073741824)(ha:a≤s.size) :
  OkG Tryz.prog 64 (lrP s a) [] [.ref 0 0 0 0] (lrP s (nxE s a)) (nxV (nxF s a) (placeF s (blF s a).1).1 (placeF s (blF s a).1).2):=by
 have hbl:=blanks_ok s a hs ha
 have hle:=blF_le s a ha
 have hpl:=placeF_le s (blF s a).1
 have hstop:=blF_stop s a ha
 unfold nxE nxF
 generalize blF s a=B at *
 obtain⟨p,op⟩:=B
 dsimp only at hle hpl hstop hbl ⊢
 have hfail:=fun k w code word=>fail_ok k w (placeF s p).1 (placeF s p).2 code word
 cases op with
 |false=>
  rw [if_neg Bool.false_ne_true,if_neg (by decide)]
  unfold nxV
  rw [if_neg (by decide)]
  unfold lrP at hbl ⊢
  refine okg_of_ev hC0 mix 1 (zO rfl) Tryz.func64 rfl rfl (by kernel_rfl) (by kernel_rfl) (zO rfl) ?wf ?vs ?po ?le ?_
  case wf=>exact lr_wf _ _ _ _
  case vs=>exact one_vs rfl
  case po=>exact lr_po _ _ _ _ _ _ _
  case le=>exact lr_le _ _ _ _ _ _ _
  repeat'(first|(with_reducible first|(refine zz ?_;try intro K hK)|refine zI ?_|refine zt ?_|refine zf ?_)|((first|refine hK _ ?_|refine hK _ _ rfl ?_);clear hK K)|(guard_hyp hK;first|(refine zY ?zz ?_;case zz=>first|exact rfl|exact gJ)|refine fresh_n ?_|refine freshO_n ?_|refine zW ?_|(refine' fail_call _ (hfail _ _ _ _) ?hga ?hgb ?_;(case hga=>rfl);(case hgb=>rfl))|refine zg ([]) (hbl) (lrO s a (placeF s a).1 (placeF s a).2) ([]) (lrO s p (placeF s p).1 (placeF s p).2) (.con (.bool false)) ?_|intro b0 hb)|((first|with_reducible refine zm ?_|guard_hyp hK);refine zY ?_ ?_;all_goals(intro hb;(try simp only [sn,sb] at hb);try exact ex0)))
  all_goals exact lr_retn (ls:=[.int .i8 0,.string eS,.int .i64 0,.int .i64 0]) rfl tk99 rfl (Nat.zero_lt_succ _) rfl rfl rfl ⟨default,.inr ⟨_,_,rfl⟩⟩ rfl (by decide) rfl rfl
 |true=>
  rw [if_pos rfl]
  unfold lrP at hbl ⊢
  refine okg_of_ev hC0 mix 1 (zO rfl) Tryz.func64 rfl rfl (by kernel_rfl) (by kernel_rfl) (zO rfl) ?wf ?vs ?po ?le ?_
  case wf=>exact lr_wf _ _ _ _
  case vs=>exact one_vs rfl
  case po=>exact lr_po _ _ _ _ _ _ _
  case le=>exact lr_le _ _ _ _ _ _ _
  repeat'(first|(refine seq_j (a:=Code.region 6 _ _) ByteArray (stNx Tryz.f64.ntmps s p (placeF s p).1 (placeF s p).2) (fun u=>u=s.extract p s.size) ?_ ?_)|(with_reducible first|(refine zz ?_;try intro K hK)|refine zI ?_|refine zt ?_|refine zf ?_)|((first|refine hK _ ?_|refine hK _ _ rfl ?_);clear hK K)|(guard_hyp hK;first|(refine zY ?zz ?_;case zz=>first|exact rfl|exact gJ)|refine fresh_n ?_|refine freshO_n ?_|refine zW ?_|refine zg ([]) (hbl) (lrO s a (placeF s a).1 (placeF s a).2) ([]) (lrO s p (placeF s p).1 (placeF s p).2) (.con (.bool true)) ?_|intro b0 hb)|((first|with_reducible refine zm ?_|guard_hyp hK);refine zY ?_ ?_;all_goals(intro hb;(try simp only [sn,sb] at hb);try exact ex0)))
  ·intro u hu
   have hul:u.size=s.size - p:=by rw [hu,ByteArray.size_extract];omega
   have us:u.size≤1073741824:=by omega
   have hemp:u.toList=(⟨#[]⟩:ByteArray).toList↔s.size≤p:=by
    constructor
    ·intro h
     have:=congrArg ByteArray.size (bq_inj h)
     rw [hul] at this
     have e:(⟨#[]⟩:ByteArray).size=0:=rfl
     omega
    ·intro h
     have:u=⟨#[]⟩:=by
      apply ByteArray.ext
      have h2:u.data.size=0:=by rw [show u.data.size=u.size from rfl,hul];omega
      exact Array.eq_empty_of_size_eq_zero h2
     rw [this]
   unfold stNx
   by_cases h0:p < s.size
   ·have hne:¬u.toList=(⟨#[]⟩:ByteArray).toList:=fun h=>by have:=hemp.1 h;omega
    have hsk:=hstop rfl h0
    rw [if_pos h0]
    rw [← hu] at hsk ⊢
    have hT:=takeF_0 hsk
    clear hsk hstop hu hemp
    have hl:=letter_ok (chr u 0)
    have hd:=ldigit_ok (chr u 0)
    cases hL:isLet (chr u 0) with
    |true=>
     rw [hL] at hl
     rw [if_pos hL] at hT
     have hrn:=run_ok u 0 85 isWrd inWord_ok us (by omega)
     have hr0:=runF_le (p:=isWrd) (s:=u) (i:=0) (Nat.zero_le _)
     by_cases c4:64 < runF isWrd u 0
     ·rw [if_pos c4] at hT
      have e1:(if(takeF u).code=0 then p+(takeF u).n else p)=p:=by rw [hT];rfl
      have e2:nxV (takeF u) (placeF s p).1 (placeF s p).2=failV ⟨20,(placeF s p).1,(placeF s p).2,u.extract 0 (runF isWrd u 0)⟩:=by rw [hT];rfl
      rw [e1,e2]
      repeat'(first|(refine at_s ?_;intro hu9)|(with_reducible first|(refine zz ?_;try intro K hK)|refine zI ?_|refine zt ?_|refine zf ?_)|((first|refine hK _ ?_|refine hK _ _ rfl ?_);clear hK K)|(guard_hyp hK;first|(refine zY ?zz ?_;case zz=>first|exact rfl|exact gJ)|refine fresh_n ?_|refine freshO_n ?_|refine zW ?_|(refine zQ (hl) ?_)|(refine zQ (hrn) ?_)|(refine' fail_call _ (hfail _ _ _ _) ?hga ?hgb ?_;(case hga=>rfl);(case hgb=>rfl))|intro b0 hb)|((first|with_reducible refine zm ?_|guard_hyp hK);refine zY ?_ ?_;all_goals(intro hb;(try simp only [sn,sb] at hb);try exact ex0)))
      all_goals first|exact absurd hb hne|exact lr_retn (ls:=[.int .i8 0,.string eS,.int .i64 0,.int .i64 0]) rfl tk99 rfl (Nat.zero_lt_succ _) rfl rfl rfl ⟨default,.inr ⟨_,_,rfl⟩⟩ rfl (by decide) rfl rfl
     ·rw [if_neg c4] at hT
      have e1:(if(takeF u).code=0 then p+(takeF u).n else p)=p+(runF isWrd u 0):=by rw [hT];rfl
      have e2:nxV (takeF u) (placeF s p).1 (placeF s p).2=.tup [tkV 1 (u.extract 0 (runF isWrd u 0)) (placeF s p).1 (placeF s p).2,.con .nilIface]:=by rw [hT];rfl
      rw [e1,e2]
      have hps:=passP_ok s p (runF isWrd u 0) hs (by omega)
      unfold lrP at hps
      repeat'(first|(refine at_s ?_;intro hu9)|(with_reducible first|(refine zz ?_;try intro K hK)|refine zI ?_|refine zt ?_|refine zf ?_)|((first|refine hK _ ?_|refine hK _ _ rfl ?_);clear hK K)|(guard_hyp hK;first|(refine zY ?zz ?_;case zz=>first|exact rfl|exact gJ)|refine fresh_n ?_|refine freshO_n ?_|refine zW ?_|(refine zQ (hl) ?_)|(refine zQ (hrn) ?_)|refine zg ([]) (hps) (lrO s p (placeF s p).1 (placeF s p).2) ([]) (lrO s (p+(runF isWrd u 0)) (placeF s (p+(runF isWrd u 0))).1 (placeF s (p+(runF isWrd u 0))).2) (.tup []) ?_|intro b0 hb)|((first|with_reducible refine zm ?_|guard_hyp hK);refine zY ?_ ?_;all_goals(intro hb;(try simp only [sn,sb] at hb);try exact ex0)))
      all_goals first|exact absurd hb hne|exact lr_retn (ls:=[.int .i8 1,.string (u.extract 0 (runF isWrd u 0)),.int .i64 (placeF s p).1,.int .i64 (placeF s p).2]) rfl tk99 rfl (Nat.zero_lt_succ _) rfl rfl rfl ⟨_,.inl rfl⟩ rfl (by decide) rfl rfl
    |false=>
     rw [hL] at hl
     rw [if_neg (by rw [hL];exact Bool.false_ne_true)] at hT
     cases hD:isDig (chr u 0) with
     |true=>
      rw [hD] at hd
      rw [if_pos hD] at hT
      have hn:=number_ok u us
      have hnF:=numF_le (s:=u)
      have hlg:=large_ok (expS u) (by have:(expS u).size≤u.size:=(by unfold expS;split;(unfold sub;rw [ByteArray.size_extract];omega);exact Nat.zero_le _);omega) (expS_dig u)
      rw [← numB_exp] at hlg
      have hrn:=run_ok u (numF u) 85 isWrd inWord_ok us (by omega)
      have hr0:=runF_le (p:=isWrd) (s:=u) hnF
      have hln:=letter_ok (chr u (numF u))
      have hlt9:isLet (chr u (numF u))=true→numF u < u.size:=fun h=>by
       rcases Nat.lt_or_ge (numF u) u.size with h9|h9
       ·exact h9
       ·rw [chr_end h9] at h;exact absurd h (by decide)
      cases hB:numB u with
      |true=>
       rw [hB] at hlg
       rw [if_pos (.inl hB)] at hT
       have e1:(if(takeF u).code=0 then p+(takeF u).n else p)=p:=by rw [hT];rfl
       have e2:nxV (takeF u) (placeF s p).1 (placeF s p).2=failV ⟨22,(placeF s p).1,(placeF s p).2,u.extract 0 (numF u+runF isWrd u (numF u))⟩:=by rw [hT];rfl
       rw [e1,e2]
       repeat'(first|(refine at_s ?_;intro hu9)|(with_reducible first|(refine zz ?_;try intro K hK)|refine zI ?_|refine zt ?_|refine zf ?_)|((first|refine hK _ ?_|refine hK _ _ rfl ?_);clear hK K)|(guard_hyp hK;first|(refine zY ?zz ?_;case zz=>first|exact rfl|exact gJ)|refine fresh_n ?_|refine freshO_n ?_|refine zW ?_|(refine zQ (hl) ?_)|(refine zQ (hd) ?_)|(refine zQ (hn) ?_)|(refine zQ (hlg) ?_)|(refine zQ (hrn) ?_)|(refine' fail_call _ (hfail _ _ _ _) ?hga ?hgb ?_;(case hga=>rfl);(case hgb=>rfl))|intro b0 hb)|((first|with_reducible refine zm ?_|guard_hyp hK);refine zY ?_ ?_;all_goals(intro hb;(try simp only [sn,sb] at hb);try exact ex0)))
       all_goals first|exact absurd hb hne|exact lr_retn (ls:=[.int .i8 0,.string eS,.int .i64 0,.int .i64 0]) rfl tk99 rfl (Nat.zero_lt_succ _) rfl rfl rfl ⟨default,.inr ⟨_,_,rfl⟩⟩ rfl (by decide) rfl rfl
      |false=>
       rw [hB] at hlg
       cases hN:isLet (chr u (numF u)) with
       |true=>
        have hlt8:=hlt9 hN
        rw [hN] at hln
        rw [if_pos (.inr hN)] at hT
        have e1:(if(takeF u).code=0 then p+(takeF u).n else p)=p:=by rw [hT];rfl
        have e2:nxV (takeF u) (placeF s p).1 (placeF s p).2=failV ⟨22,(placeF s p).1,(placeF s p).2,u.extract 0 (numF u+runF isWrd u (numF u))⟩:=by rw [hT];rfl
        rw [e1,e2]
        repeat'(first|(refine at_s ?_;intro hu9)|(with_reducible first|(refine zz ?_;try intro K hK)|refine zI ?_|refine zt ?_|refine zf ?_)|((first|refine hK _ ?_|refine hK _ _ rfl ?_);clear hK K)|(guard_hyp hK;first|(refine zY ?zz ?_;case zz=>first|exact rfl|exact gJ)|refine fresh_n ?_|refine freshO_n ?_|refine zW ?_|(refine zQ (hl) ?_)|(refine zQ (hd) ?_)|(refine zQ (hn) ?_)|(refine zQ (hlg) ?_)|(refine zQ (hln) ?_)|(refine zQ (hrn) ?_)|(refine' fail_call _ (hfail _ _ _ _) ?hga ?hgb ?_;(case hga=>rfl);(case hgb=>rfl))|intro b0 hb)|((first|with_reducible refine zm ?_|guard_hyp hK);refine zY ?_ ?_;all_goals(intro hb;(try simp only [sn,sb] at hb);try exact ex0)))
        all_goals first|exact absurd hb hne|exact lr_retn (ls:=[.int .i8 0,.string eS,.int .i64 0,.int .i64 0]) rfl tk99 rfl (Nat.zero_lt_succ _) rfl rfl rfl ⟨default,.inr ⟨_,_,rfl⟩⟩ rfl (by decide) rfl rfl
       |false=>
        rw [hN] at hln
        rw [if_neg (by rw [hB,hN];exact fun h=>h.elim Bool.false_ne_true Bool.false_ne_true)] at hT
        have e1:(if(takeF u).code=0 then p+(takeF u).n else p)=p+(numF u):=by rw [hT];rfl
        have e2:nxV (takeF u) (placeF s p).1 (placeF s p).2=.tup [tkV 2 (u.extract 0 (numF u)) (placeF s p).1 (placeF s p).2,.con .nilIface]:=by rw [hT];rfl
        rw [e1,e2]
        have hps:=passP_ok s p (numF u) hs (by omega)
        unfold lrP at hps
        repeat'(first|(refine at_s ?_;intro hu9)|(with_reducible first|(refine zz ?_;try intro K hK)|refine zI ?_|refine zt ?_|refine zf ?_)|((first|refine hK _ ?_|refine hK _ _ rfl ?_);clear hK K)|(guard_hyp hK;first|(refine zY ?zz ?_;case zz=>first|exact rfl|exact gJ)|refine fresh_n ?_|refine freshO_n ?_|refine zW ?_|(refine zQ (hl) ?_)|(refine zQ (hd) ?_)|(refine zQ (hn) ?_)|(refine zQ (hlg) ?_)|(refine zQ (hln) ?_)|refine zg ([]) (hps) (lrO s p (placeF s p).1 (placeF s p).2) ([]) (lrO s (p+(numF u)) (placeF s (p+(numF u))).1 (placeF s (p+(numF u))).2) (.tup []) ?_|intro b0 hb)|((first|with_reducible refine zm ?_|guard_hyp hK);refine zY ?_ ?_;all_goals(intro hb;(try simp only [sn,sb] at hb);try exact ex0)))
        all_goals first|exact absurd hb hne|exact lr_retn (ls:=[.int .i8 2,.string (u.extract 0 (numF u)),.int .i64 (placeF s p).1,.int .i64 (placeF s p).2]) rfl tk99 rfl (Nat.zero_lt_succ _) rfl rfl rfl ⟨_,.inl rfl⟩ rfl (by decide) rfl rfl
     |false=>
      rw [hD] at hd
      rw [if_neg (by rw [hD];exact Bool.false_ne_true)] at hT
      by_cases c5:(chr u 0).toNat=34
      ·rw [if_pos c5] at hT
       have hm:=meant_ok u us
       have hq1:=quoF_le u 1 ⟨#[]⟩
       generalize quoF u 1 ⟨#[]⟩=Q at *
       obtain⟨qn,qt,qb⟩:=Q
       cases qb with
       |true=>
        rw [if_pos rfl] at hT
        have hq2:=hq1 rfl
        dsimp only at hq2 hm hT
        have e1:(if(takeF u).code=0 then p+(takeF u).n else p)=p+(qn):=by rw [hT];rfl
        have e2:nxV (takeF u) (placeF s p).1 (placeF s p).2=.tup [tkV 3 (qt) (placeF s p).1 (placeF s p).2,.con .nilIface]:=by rw [hT];rfl
        rw [e1,e2]
        have hps:=passP_ok s p (qn) hs (by omega)
        unfold lrP at hps
        repeat'(first|(refine at_s ?_;intro hu9)|(with_reducible first|(refine zz ?_;try intro K hK)|refine zI ?_|refine zt ?_|refine zf ?_)|((first|refine hK _ ?_|refine hK _ _ rfl ?_);clear hK K)|(guard_hyp hK;first|(refine zY ?zz ?_;case zz=>first|exact rfl|exact gJ)|refine fresh_n ?_|refine freshO_n ?_|refine zW ?_|(refine zQ (hl) ?_)|(refine zQ (hd) ?_)|(refine zQ (hm) ?_)|refine zg ([]) (hps) (lrO s p (placeF s p).1 (placeF s p).2) ([]) (lrO s (p+(qn)) (placeF s (p+(qn))).1 (placeF s (p+(qn))).2) (.tup []) ?_|intro b0 hb)|((first|with_reducible refine zm ?_|guard_hyp hK);refine zY ?_ ?_;all_goals(intro hb;(try simp only [sn,sb] at hb);try exact ex0)))
        all_goals first|exact absurd hb hne|exact lr_retn (ls:=[.int .i8 3,.string (qt),.int .i64 (placeF s p).1,.int .i64 (placeF s p).2]) rfl tk99 rfl (Nat.zero_lt_succ _) rfl rfl rfl ⟨_,.inl rfl⟩ rfl (by decide) rfl rfl
       |false=>
        rw [if_neg Bool.false_ne_true] at hT
        dsimp only at hm
        have e9:u.extract 0 1=⟨#[34]⟩:=by
         refine ByteArray.ext (Array.toList_inj.1 ?_)
         have h1:=sub_bs u 0 1
         rw [drop_at (by omega)] at h1
         refine Eq.trans h1 ?_
         rw [(chr_n (b:=34)).2 c5];rfl
        rw [← e9] at hT
        have e1:(if(takeF u).code=0 then p+(takeF u).n else p)=p:=by rw [hT];rfl
        have e2:nxV (takeF u) (placeF s p).1 (placeF s p).2=failV ⟨21,(placeF s p).1,(placeF s p).2,u.extract 0 1⟩:=by rw [hT];rfl
        rw [e1,e2]
        repeat'(first|(refine at_s ?_;intro hu9)|(with_reducible first|(refine zz ?_;try intro K hK)|refine zI ?_|refine zt ?_|refine zf ?_)|((first|refine hK _ ?_|refine hK _ _ rfl ?_);clear hK K)|(guard_hyp hK;first|(refine zY ?zz ?_;case zz=>first|exact rfl|exact gJ)|refine fresh_n ?_|refine freshO_n ?_|refine zW ?_|(refine zQ (hl) ?_)|(refine zQ (hd) ?_)|(refine zQ (hm) ?_)|(refine' fail_call _ (hfail _ _ _ _) ?hga ?hgb ?_;(case hga=>rfl);(case hgb=>rfl))|intro b0 hb)|((first|with_reducible refine zm ?_|guard_hyp hK);refine zY ?_ ?_;all_goals(intro hb;(try simp only [sn,sb] at hb);try exact ex0)))
        all_goals first|exact absurd hb hne|exact lr_retn (ls:=[.int .i8 0,.string eS,.int .i64 0,.int .i64 0]) rfl tk99 rfl (Nat.zero_lt_succ _) rfl rfl rfl ⟨default,.inr ⟨_,_,rfl⟩⟩ rfl (by decide) rfl rfl
      ·rw [if_neg c5] at hT
       have hi:=IndexByte_ok sgS (chr u 0)
       have hbk:=sgn_idx (chr u 0)
       have e0:sgS.data.toList=[123,125,40,41,91,93,44,59,124,61,43,45,42,47]:=rfl
       rw [e0] at hi
       cases hG:isSgn (chr u 0) with
       |true=>
        have hbk:=hbk.1 hG
        rw [if_pos hG] at hT
        have e1:(if(takeF u).code=0 then p+(takeF u).n else p)=p+(1):=by rw [hT];rfl
        have e2:nxV (takeF u) (placeF s p).1 (placeF s p).2=.tup [tkV 4 (u.extract 0 1) (placeF s p).1 (placeF s p).2,.con .nilIface]:=by rw [hT];rfl
        rw [e1,e2]
        have hps:=passP_ok s p (1) hs (by omega)
        unfold lrP at hps
        repeat'(first|(refine at_s ?_;intro hu9)|(with_reducible first|(refine zz ?_;try intro K hK)|refine zI ?_|refine zt ?_|refine zf ?_)|((first|refine hK _ ?_|refine hK _ _ rfl ?_);clear hK K)|(guard_hyp hK;first|(refine zY ?zz ?_;case zz=>first|exact rfl|exact gJ)|refine fresh_n ?_|refine freshO_n ?_|refine zW ?_|(refine zQ (hl) ?_)|(refine zQ (hd) ?_)|(refine zQ (hi) ?_)|refine zg ([]) (hps) (lrO s p (placeF s p).1 (placeF s p).2) ([]) (lrO s (p+(1)) (placeF s (p+(1))).1 (placeF s (p+(1))).2) (.tup []) ?_|intro b0 hb)|((first|with_reducible refine zm ?_|guard_hyp hK);refine zY ?_ ?_;all_goals(intro hb;(try simp only [sn,sb] at hb);try exact ex0)))
        all_goals first|exact absurd hb hne|exact lr_retn (ls:=[.int .i8 4,.string (u.extract 0 1),.int .i64 (placeF s p).1,.int .i64 (placeF s p).2]) rfl tk99 rfl (Nat.zero_lt_succ _) rfl rfl rfl ⟨_,.inl rfl⟩ rfl (by decide) rfl rfl
       |false=>
        have hbk:¬0≤Lib.indexByte [123,125,40,41,91,93,44,59,124,61,43,45,42,47] (chr u 0):=fun h=>by rw [hbk.2 h] at hG;cases hG
        rw [if_neg (by rw [hG];exact Bool.false_ne_true)] at hT
        have e1:(if(takeF u).code=0 then p+(takeF u).n else p)=p:=by rw [hT];rfl
        have e2:nxV (takeF u) (placeF s p).1 (placeF s p).2=failV ⟨20,(placeF s p).1,(placeF s p).2,u.extract 0 1⟩:=by rw [hT];rfl
        rw [e1,e2]
        repeat'(first|(refine at_s ?_;intro hu9)|(with_reducible first|(refine zz ?_;try intro K hK)|refine zI ?_|refine zt ?_|refine zf ?_)|((first|refine hK _ ?_|refine hK _ _ rfl ?_);clear hK K)|(guard_hyp hK;first|(refine zY ?zz ?_;case zz=>first|exact rfl|exact gJ)|refine fresh_n ?_|refine freshO_n ?_|refine zW ?_|(refine zQ (hl) ?_)|(refine zQ (hd) ?_)|(refine zQ (hi) ?_)|(refine' fail_call _ (hfail _ _ _ _) ?hga ?hgb ?_;(case hga=>rfl);(case hgb=>rfl))|intro b0 hb)|((first|with_reducible refine zm ?_|guard_hyp hK);refine zY ?_ ?_;all_goals(intro hb;(try simp only [sn,sb] at hb);try exact ex0)))
        all_goals first|exact absurd hb hne|exact lr_retn (ls:=[.int .i8 0,.string eS,.int .i64 0,.int .i64 0]) rfl tk99 rfl (Nat.zero_lt_succ _) rfl rfl rfl ⟨default,.inr ⟨_,_,rfl⟩⟩ rfl (by decide) rfl rfl
   ·have he:=hemp.2 (by omega)
    rw [if_neg h0]
    have e1:(if eoF.code=0 then p+eoF.n else p)=p:=rfl
    have e2:nxV eoF (placeF s p).1 (placeF s p).2=.tup [tkV 0 eS (placeF s p).1 (placeF s p).2,.con .nilIface]:=rfl
    rw [e1,e2]
    repeat'(first|(with_reducible first|(refine zz ?_;try intro K hK)|refine zI ?_|refine zt ?_|refine zf ?_)|((first|refine hK _ ?_|refine hK _ _ rfl ?_);clear hK K)|(guard_hyp hK;first|(refine zY ?zz ?_;case zz=>first|exact rfl|exact gJ)|refine fresh_n ?_|refine freshO_n ?_|refine zW ?_|intro b0 hb)|((first|with_reducible refine zm ?_|guard_hyp hK);refine zY ?_ ?_;all_goals(intro hb;(try simp only [sn,sb] at hb);try exact ex0)))
    all_goals first|exact absurd he hb|(exact lr_retn (ls:=[.int .i8 0,.string eS,.int .i64 (placeF s p).1,.int .i64 (placeF s p).2]) rfl tk99 rfl (Nat.zero_lt_succ _) rfl rfl rfl ⟨_,.inl rfl⟩ rfl (by decide) rfl rfl)
  ·intro R hR
   repeat'(first|(with_reducible first|(refine zz ?_;try intro K hK)|refine zI ?_|refine zt ?_|refine zf ?_)|((first|refine hK _ ?_|refine hK _ _ rfl ?_);clear hK K)|(guard_hyp hK;first|(refine zY ?zz ?_;case zz=>first|exact rfl|exact gJ)|refine fresh_n ?_|refine freshO_n ?_|refine zW ?_|intro b0 hb)|((first|with_reducible refine zm ?_|guard_hyp hK);refine zY ?_ ?_;all_goals(intro hb;(try simp only [sn,sb] at hb);try exact ex0)))
   exact hR _ _ rfl ⟨rfl,⟨rfl,rfl,rfl,rfl,rfl,rfl,rfl,rfl,rfl,trivial,trivial⟩,⟨rfl,rfl,rfl,trivial⟩,⟨lr_one,fun v hv=>(tkOb_flat _ _ _ _ v hv).cl _,fun v hv=>(tkOb_flat _ _ _ _ v hv).cl _,trivial⟩⟩
def txO (s:ByteArray):Obj:=⟨1,[.con (.string s)],0,true⟩
theorem Each_ok (s:ByteArray):OkO Tryz.prog 45 [tS9 s] [(0,txO s)] (.wr (.fre 63) 0 0 0 0):=by
 refine oko_of_ev hC0 mix Tryz.func45 rfl rfl (by kernel_rfl) (zO rfl) ?_
 repeat'(first|(with_reducible first|(refine zz ?_;try intro K hK)|refine zI ?_|refine zt ?_|refine zf ?_)|((first|refine hK _ ?_|refine hK _ _ rfl ?_);clear hK K)|(guard_hyp hK;first|(refine zY ?zz ?_;case zz=>first|exact rfl|exact gJ)|refine fresh_n ?_|refine freshO_n ?_|refine zW ?_|intro b0 hb)|((first|with_reducible refine zm ?_|guard_hyp hK);refine zY ?_ ?_;all_goals(intro hb;(try simp only [sn,sb] at hb);try exact ex0)))
 refine⟨trivial,false,_,fun _=>0,rfl,ren_of inj1 ⟨⟨_,rfl,rfl,rfl,rfl,rfl,rfl,renE_one (.con _)⟩,trivial⟩,?_⟩
 exact RenC.wr _ 0 _ _ _ _ rfl rfl rfl
end Go.Ev
