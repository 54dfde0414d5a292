import Derived.Test.YthpoegdjffdojaaGreatDoorULbf
set_option linter.all false
set_option maxHeartbeats 4000000
set_option maxRecDepth 10000
namespace Go.Ev
open Go.Proofs
theorem vf (s:ByteArray)(a:Nat)(ha:a<=s.size)(h:(eG s a).2=true)(hl:(eG s a).1 < s.size):bf (s.extract (eG s a).1 s.size)=0:=by
 rw [eG] at h hl |-;split at h
 ·rename_i hlt;rw [I2 hlt] at hl |-;split at h
  ·cases h
  ·rename_i h1;rw [if_neg h1] at hl |-;split at h
   ·rename_i h2;rw [I2 h2] at hl |-;have h3:=jW (s:=s.extract a s.size) (by rw [F5];omega);rw [F5] at h3;exact vf s _ A8 h hl
   ·rename_i h2;rw [O4 h2];simp only;omega
 ·rename_i hlt;rw [O4 hlt] at hl;exact absurd hl hlt
termination_by s.size - a
def Vk : TM:=⟨0,0,eS,0,eS⟩
def jf (s:ByteArray)(a:Nat):TM:=
 if(eG s a).2=true then(if(eG s a).1 < s.size then aH (s.extract (eG s a).1 s.size) else Vk) else⟨0,0,eS,21,⟨#[47,42]⟩⟩
def rA (s:ByteArray)(a:Nat):Nat:=if(jf s a).code=0 then(eG s a).1+(jf s a).n else(eG s a).1
def FG (r:TM)(l c:Int):V:=if r.code=0 then .ba [IJ r.kind r.text l c,.af .nilIface] else my ⟨r.code,l,c,r.word⟩
theorem Oa (b:UInt8):Ri b=true↔0<=Lib.indexByte [123,125,40,41,91,93,44,59,124,61,43,45,42,47] b:=by
 have key:∀l:List UInt8,b ∈ l↔0<=Lib.indexByte l b:=by
  intro l
  induction l with
  |nil=>exact⟨fun h=>by simp at h,fun h=>absurd h (by rw [show Lib.indexByte [] b = -1 from rfl];decide)⟩
  |cons x r ih=>
   have hg:=xa r b;rw [jA];by_cases h:x=b
   ·rw [if_pos h];exact⟨fun _=>by decide,fun _=>by rw [h];exact D7 ..⟩
   ·rw [if_neg h];constructor
    ·intro h2;rcases B5.1 h2 with h3|h3
     ·exact absurd h3.symm h
     ·have:=ih.1 h3;rw [if_neg A8];omega
    ·intro h2;refine D5 _ (ih.2 ?_);split at h2
     ·exact absurd h2 B3
     ·omega
 unfold Ri;rw [E5,key];rfl
theorem RY {p:UInt8->Bool}{s:ByteArray}{a i:Nat}(h:i < ar p s a):p (ax s (a+i))=true:=by
 unfold ar at h
 have h1:((bs s).drop a).takeWhile p=((bs s).drop a).take (((bs s).drop a).takeWhile p).length:=by
  exact List.prefix_iff_eq_take.1 (List.takeWhile_prefix p)
 have h2:(((bs s).drop a).takeWhile p)[i]?=some (((bs s).drop a).takeWhile p)[i]:=uz h;have h3:p (((bs s).drop a).takeWhile p)[i]=true:=List.all_takeWhile (p:=p) (l:=(bs s).drop a) |> fun hh=>(F8.1 hh) _ (G9 h)
 have h4:(bs s)[a+i]?=some (((bs s).drop a).takeWhile p)[i]:=by
  rw [<- h2,h1,E8 h,G0]
 unfold ax;rw [C9,h4];exact h3
theorem NC {u:ByteArray}(h:bf u=0):aH u =
  (if isLet (ax u 0)=true then(if 64 < ar bp u 0 then⟨0,0,eS,20,u.extract 0 (ar bp u 0)⟩ else⟨ar bp u 0,1,u.extract 0 (ar bp u 0),0,eS⟩)
 else if ak (ax u 0)=true then
  (if kh u=true\/isLet (ax u (aS u))=true then⟨0,0,eS,22,u.extract 0 (aS u+ar bp u (aS u))⟩ else⟨aS u,2,u.extract 0 (aS u),0,eS⟩)
 else if(ax u 0).toNat=34 then(if(dv u 1 ⟨#[]⟩).2.2=true then⟨(dv u 1 ⟨#[]⟩).1,3,(dv u 1 ⟨#[]⟩).2.1,0,eS⟩ else⟨0,0,eS,21,⟨#[34]⟩⟩)
 else if Ri (ax u 0)=true then⟨1,4,u.extract 0 1,0,eS⟩
 else⟨0,0,eS,20,u.extract 0 1⟩):=by
 unfold aH;rw [if_neg A8,if_neg A8]
theorem Ma (s:ByteArray):jM (lG s):=by
 intro i hi;unfold lG at hi |-;split
 ·rename_i h;rw [if_pos h] at hi
  have hn:=fC (p:=ak) (s:=s) (i:=bJ s) (by
   rcases G8 (bJ s) s.size with h9|h9
   ·omega
   ·have:=h.2;rw [lT h9] at this;omega)
  have hi2:i < ar ak s (bJ s):=by
   have e:(sub s (bJ s) (ar ak s (bJ s))).size<=ar ak s (bJ s):=by unfold sub;rw [F5];omega
   omega
  have e2:ax (sub s (bJ s) (ar ak s (bJ s))) i=ax s (bJ s+i):=by
   unfold ax;rw [jH];simp only [C9];rw [E8 hi2,G0]
  rw [e2];exact RY hi2
 ·rename_i h;rw [if_neg h] at hi;exact absurd hi (P6 _)
theorem Lk (s:ByteArray):kh s=decide (1000 < eg (bs (lG s))):=by
 unfold kh lG;by_cases h:eM s
 ·rw [if_pos h,F9 h,L5]
 ·rw [if_neg h,G4 h,Y6];rfl
theorem gh {P:Program}{fn:Func}{t:St}{vs:List V}{s:ByteArray}{a l c a' l' c' np t1 t2 ty id ver sz:Nat}{ls:List Value}{v:V}{fs:List (Nat×Nat)}{z:List Value}(hr:fn.results.toList=[.cell t1 ty,.tmp t2])(ht:tk P ty=.st fs z)(hz:z.length=(ls.map V.af).length)(h0:0 < (ls.map V.af).length)
  (ha:aA t.env t1=.ref id ver 0 0) (ho:ae t.oh id=some ⟨sz,[.agg (ls.map .af)],ver,true⟩) (h2:aA t.env t2=v) (hv2:v.kx) (hs:ae t.oh 0=some ⟨4,[Ab s a' l' c'],0,true⟩) (hnp:0 < np) (hv:vs[0]?=some (.ref 0 0 0 0)) (he:aA t.env 0=.ref 0 0 0 0) :
  iR P fn np (iz s a l c) vs (iz s a' l' c') (.ba [.agg (ls.map .af),v]) .ret t:=by
 refine⟨trivial,false,t,rfl,DP hs hnp hv he,Lt hs,?_⟩;rw [hr]
 have h:ef P t (.cell t1 ty) (fun w=>ef P t (.tmp t2) fun u=>∃r1 r2,V.ba [.agg (ls.map .af),v]=.ba [r1,r2]/\vB t.oh (iz s a' l' c' ++ iz s a l c) w r1/\vB t.oh (iz s a' l' c' ++ iz s a l c) u r2):=by
  refine AY ht hz h0 ha ho ⟨_,_,rfl,Gw ls,?_⟩;show vB _ _ (aA t.env t2) _;rw [h2];obtain⟨x,rfl|⟨f,t,rfl⟩⟩:=hv2
  ·exact mO.af _
  ·exact mO.ro _ _
 exact h
def Uk (N:Nat)(s:ByteArray)(p l c:Nat)(u:ByteArray):St:=⟨N,[(0,.ref 0 0 0 0),(2,.ref 1 0 0 0),(5,.ref 2 0 0 0),(6,.wr (.TH 79) 2 0 0 0),(7,.af (.string u))],[(0,⟨4,[Ab s p l c],0,true⟩),(1,nU 0 eS 0 0),(2,nU 0 eS l c)]⟩
theorem FH (s:ByteArray)(a:Nat)(hs:s.size<=1073741824)(ha:a<=s.size) :
  jP Tryz.prog 67 (Cv s a) [] [.ref 0 0 0 0] (Cv s (rA s a)) (FG (jf s a) (aj s (eG s a).1).1 (aj s (eG s a).1).2):=by
 have hbl:=Iy s a hs ha;have hle:=Ep s a ha;have hpl:=qD s (eG s a).1;have hstop:=vf s a ha;unfold rA jf;generalize eG s a=B at *;obtain⟨p,op⟩:=B;dsimp only at hle hpl hstop hbl |-;have hfail:=fun k w code word=>PH k w (aj s p).1 (aj s p).2 code word
 cases op with
 |false=>
  rw [if_neg B6,if_neg B3];unfold FG;rw [if_neg B3];unfold Cv at hbl |-;refine di bN mix 1 (zO rfl) Tryz.func67 rfl rfl B1 B1 (zO rfl) ?wf ?vs ?po ?le ?_
  case wf=>exact FN _ _ _ _
  case vs=>exact bT rfl
  case po=>exact FO _ _ _ _ _ _ _
  case le=>exact FP _ _ _ _ _ _ _
  repeat'(first|(with_reducible first|(refine zz ?_;try intro K hK)|refine zi ?_|refine zh ?_)|((first|apply hK _ _ rfl|apply hK);clear hK K)|(guard_hyp hK;first|refine zx ?_|apply ab|apply aa|refine zW ?_|(refine' iY _ (hfail _ _ _ _) ?hga ?hgb ?_;(case hga=>rfl);(case hgb=>rfl))|refine zg ([]) (hbl) (iz s a (aj s a).1 (aj s a).2) ([]) (iz s p (aj s p).1 (aj s p).2) (.af (.bool false)) ?_|intro b0 hb)|((first|refine zj ?_|guard_hyp hK);refine zY ?_ ?_;all_goals(intro hb;(try simp only [sn,sb] at hb);try exact ao)))
  all_goals exact gh (ls:=[.int .i8 0,.string eS,.int .i64 0,.int .i64 0]) rfl nV rfl (D0 _) rfl rfl rfl ⟨default,.inr ⟨_,_,rfl⟩⟩ rfl B3 rfl rfl
 |true=>
  rw [if_pos rfl];unfold Cv at hbl |-;refine di bN mix 1 (zO rfl) Tryz.func67 rfl rfl B1 B1 (zO rfl) ?wf ?vs ?po ?le ?_
  case wf=>exact FN _ _ _ _
  case vs=>exact bT rfl
  case po=>exact FO _ _ _ _ _ _ _
  case le=>exact FP _ _ _ _ _ _ _
  repeat'(first|(refine dU (a:=Code.region 6 _ _) ByteArray (Uk Tryz.f67.ntmps s p (aj s p).1 (aj s p).2) (fun u=>u=s.extract p s.size) ?_ ?_)|(with_reducible first|(refine zz ?_;try intro K hK)|refine zi ?_|refine zh ?_)|((first|apply hK _ _ rfl|apply hK);clear hK K)|(guard_hyp hK;first|refine zx ?_|apply ab|apply aa|refine zW ?_|refine zg ([]) (hbl) (iz s a (aj s a).1 (aj s a).2) ([]) (iz s p (aj s p).1 (aj s p).2) (.af (.bool true)) ?_|intro b0 hb)|((first|refine zj ?_|guard_hyp hK);refine zY ?_ ?_;all_goals(intro hb;(try simp only [sn,sb] at hb);try exact ao)))
  ·intro u hu;have hul:u.size=s.size - p:=by rw [hu,F5];omega
   have us:u.size<=1073741824:=by omega
   have hemp:u.toList=(⟨#[]⟩:ByteArray).toList↔s.size<=p:=by
    constructor
    ·intro h;have:=B4 ByteArray.size (mF h);rw [hul] at this;have e:(⟨#[]⟩:ByteArray).size=0:=rfl;omega
    ·intro h
     have:u=⟨#[]⟩:=by
      apply P1;have h2:u.data.size=0:=by rw [show u.data.size=u.size from rfl,hul];omega
      exact O7 h2
     rw [this]
   unfold Uk;by_cases h0:p < s.size
   ·have hne:¬u.toList=(⟨#[]⟩:ByteArray).toList:=fun h=>by have:=hemp.1 h;omega
    have hsk:=hstop rfl h0;rw [if_pos h0];rw [<- hu] at hsk |-;have hT:=NC hsk;clear hsk hstop hu hemp;have hl:=nq (ax u 0);have hd:=iX (ax u 0)
    cases hL:isLet (ax u 0) with
    |true=>
     rw [hL] at hl;rw [if_pos hL] at hT;have hrn:=oc u 0 47 bp qT us A8;have hr0:=fC (p:=bp) (s:=u) (i:=0) (C0 _);by_cases c4:64 < ar bp u 0
     ·rw [if_pos c4] at hT;have e1:(if(aH u).code=0 then p+(aH u).n else p)=p:=by rw [hT];rfl
      have e2:FG (aH u) (aj s p).1 (aj s p).2=my ⟨20,(aj s p).1,(aj s p).2,u.extract 0 (ar bp u 0)⟩:=by rw [hT];rfl
      rw [e1,e2]
      repeat'(first|(refine fy ?_;intro hu9)|(with_reducible first|(refine zz ?_;try intro K hK)|refine zi ?_|refine zh ?_)|((first|apply hK _ _ rfl|apply hK);clear hK K)|(guard_hyp hK;first|refine zx ?_|apply ab|apply aa|refine zW ?_|(refine zQ (hl) ?_)|(refine zQ (hrn) ?_)|(refine' iY _ (hfail _ _ _ _) ?hga ?hgb ?_;(case hga=>rfl);(case hgb=>rfl))|intro b0 hb)|((first|refine zj ?_|guard_hyp hK);refine zY ?_ ?_;all_goals(intro hb;(try simp only [sn,sb] at hb);try exact ao)))
      all_goals first|exact absurd hb hne|exact gh (ls:=[.int .i8 0,.string eS,.int .i64 0,.int .i64 0]) rfl nV rfl (D0 _) rfl rfl rfl ⟨default,.inr ⟨_,_,rfl⟩⟩ rfl B3 rfl rfl
     ·rw [if_neg c4] at hT;have e1:(if(aH u).code=0 then p+(aH u).n else p)=p+(ar bp u 0):=by rw [hT];rfl
      have e2:FG (aH u) (aj s p).1 (aj s p).2=.ba [IJ 1 (u.extract 0 (ar bp u 0)) (aj s p).1 (aj s p).2,.af .nilIface]:=by rw [hT];rfl
      rw [e1,e2];have hps:=lZ s p (ar bp u 0) hs A8;unfold Cv at hps
      repeat'(first|(refine fy ?_;intro hu9)|(with_reducible first|(refine zz ?_;try intro K hK)|refine zi ?_|refine zh ?_)|((first|apply hK _ _ rfl|apply hK);clear hK K)|(guard_hyp hK;first|refine zx ?_|apply ab|apply aa|refine zW ?_|(refine zQ (hl) ?_)|(refine zQ (hrn) ?_)|refine zg ([]) (hps) (iz s p (aj s p).1 (aj s p).2) ([]) (iz s (p+(ar bp u 0)) (aj s (p+(ar bp u 0))).1 (aj s (p+(ar bp u 0))).2) (.ba []) ?_|intro b0 hb)|((first|refine zj ?_|guard_hyp hK);refine zY ?_ ?_;all_goals(intro hb;(try simp only [sn,sb] at hb);try exact ao)))
      all_goals first|exact absurd hb hne|exact gh (ls:=[.int .i8 1,.string (u.extract 0 (ar bp u 0)),.int .i64 (aj s p).1,.int .i64 (aj s p).2]) rfl nV rfl (D0 _) rfl rfl rfl ⟨_,.inl rfl⟩ rfl B3 rfl rfl
    |false=>
     rw [hL] at hl;rw [if_neg (by rw [hL];exact B6)] at hT
     cases hD:ak (ax u 0) with
     |true=>
      rw [hD] at hd;rw [if_pos hD] at hT;have hn:=HL u us;have hnF:=yD (s:=u);have hlg:=LC (lG u) (by have:(lG u).size<=u.size:=(by unfold lG;split;(unfold sub;rw [F5];omega);exact C0 _);omega) (Ma u);rw [<- Lk] at hlg;have hrn:=oc u (aS u) 47 bp qT us A8;have hr0:=fC (p:=bp) (s:=u) hnF;have hln:=nq (ax u (aS u))
      have hlt9:isLet (ax u (aS u))=true->aS u < u.size:=fun h=>by
       rcases G8 (aS u) u.size with h9|h9
       ·exact h9
       ·rw [bU h9] at h;exact absurd h B3
      cases hB:kh u with
      |true=>
       rw [hB] at hlg;rw [if_pos (.inl hB)] at hT;have e1:(if(aH u).code=0 then p+(aH u).n else p)=p:=by rw [hT];rfl
       have e2:FG (aH u) (aj s p).1 (aj s p).2=my ⟨22,(aj s p).1,(aj s p).2,u.extract 0 (aS u+ar bp u (aS u))⟩:=by rw [hT];rfl
       rw [e1,e2]
       repeat'(first|(refine fy ?_;intro hu9)|(with_reducible first|(refine zz ?_;try intro K hK)|refine zi ?_|refine zh ?_)|((first|apply hK _ _ rfl|apply hK);clear hK K)|(guard_hyp hK;first|refine zx ?_|apply ab|apply aa|refine zW ?_|(refine zQ (hl) ?_)|(refine zQ (hd) ?_)|(refine zQ (hn) ?_)|(refine zQ (hlg) ?_)|(refine zQ (hrn) ?_)|(refine' iY _ (hfail _ _ _ _) ?hga ?hgb ?_;(case hga=>rfl);(case hgb=>rfl))|intro b0 hb)|((first|refine zj ?_|guard_hyp hK);refine zY ?_ ?_;all_goals(intro hb;(try simp only [sn,sb] at hb);try exact ao)))
       all_goals first|exact absurd hb hne|exact gh (ls:=[.int .i8 0,.string eS,.int .i64 0,.int .i64 0]) rfl nV rfl (D0 _) rfl rfl rfl ⟨default,.inr ⟨_,_,rfl⟩⟩ rfl B3 rfl rfl
      |false=>
       rw [hB] at hlg
       cases hN:isLet (ax u (aS u)) with
       |true=>
        have hlt8:=hlt9 hN;rw [hN] at hln;rw [if_pos (.inr hN)] at hT;have e1:(if(aH u).code=0 then p+(aH u).n else p)=p:=by rw [hT];rfl
        have e2:FG (aH u) (aj s p).1 (aj s p).2=my ⟨22,(aj s p).1,(aj s p).2,u.extract 0 (aS u+ar bp u (aS u))⟩:=by rw [hT];rfl
        rw [e1,e2]
        repeat'(first|(refine fy ?_;intro hu9)|(with_reducible first|(refine zz ?_;try intro K hK)|refine zi ?_|refine zh ?_)|((first|apply hK _ _ rfl|apply hK);clear hK K)|(guard_hyp hK;first|refine zx ?_|apply ab|apply aa|refine zW ?_|(refine zQ (hl) ?_)|(refine zQ (hd) ?_)|(refine zQ (hn) ?_)|(refine zQ (hlg) ?_)|(refine zQ (hln) ?_)|(refine zQ (hrn) ?_)|(refine' iY _ (hfail _ _ _ _) ?hga ?hgb ?_;(case hga=>rfl);(case hgb=>rfl))|intro b0 hb)|((first|refine zj ?_|guard_hyp hK);refine zY ?_ ?_;all_goals(intro hb;(try simp only [sn,sb] at hb);try exact ao)))
        all_goals first|exact absurd hb hne|exact gh (ls:=[.int .i8 0,.string eS,.int .i64 0,.int .i64 0]) rfl nV rfl (D0 _) rfl rfl rfl ⟨default,.inr ⟨_,_,rfl⟩⟩ rfl B3 rfl rfl
       |false=>
        rw [hN] at hln;rw [if_neg (by rw [hB,hN];exact fun h=>h.elim B6 B6)] at hT;have e1:(if(aH u).code=0 then p+(aH u).n else p)=p+(aS u):=by rw [hT];rfl
        have e2:FG (aH u) (aj s p).1 (aj s p).2=.ba [IJ 2 (u.extract 0 (aS u)) (aj s p).1 (aj s p).2,.af .nilIface]:=by rw [hT];rfl
        rw [e1,e2];have hps:=lZ s p (aS u) hs A8;unfold Cv at hps
        repeat'(first|(refine fy ?_;intro hu9)|(with_reducible first|(refine zz ?_;try intro K hK)|refine zi ?_|refine zh ?_)|((first|apply hK _ _ rfl|apply hK);clear hK K)|(guard_hyp hK;first|refine zx ?_|apply ab|apply aa|refine zW ?_|(refine zQ (hl) ?_)|(refine zQ (hd) ?_)|(refine zQ (hn) ?_)|(refine zQ (hlg) ?_)|(refine zQ (hln) ?_)|refine zg ([]) (hps) (iz s p (aj s p).1 (aj s p).2) ([]) (iz s (p+(aS u)) (aj s (p+(aS u))).1 (aj s (p+(aS u))).2) (.ba []) ?_|intro b0 hb)|((first|refine zj ?_|guard_hyp hK);refine zY ?_ ?_;all_goals(intro hb;(try simp only [sn,sb] at hb);try exact ao)))
        all_goals first|exact absurd hb hne|exact gh (ls:=[.int .i8 2,.string (u.extract 0 (aS u)),.int .i64 (aj s p).1,.int .i64 (aj s p).2]) rfl nV rfl (D0 _) rfl rfl rfl ⟨_,.inl rfl⟩ rfl B3 rfl rfl
     |false=>
      rw [hD] at hd;rw [if_neg (by rw [hD];exact B6)] at hT;by_cases c5:(ax u 0).toNat=34
      ·rw [if_pos c5] at hT;have hm:=Ls u us;have hq1:=kO u 1 ⟨#[]⟩;generalize dv u 1 ⟨#[]⟩=Q at *;obtain⟨qn,qt,qb⟩:=Q
       cases qb with
       |true=>
        rw [if_pos rfl] at hT;have hq2:=hq1 rfl;dsimp only at hq2 hm hT;have e1:(if(aH u).code=0 then p+(aH u).n else p)=p+(qn):=by rw [hT];rfl
        have e2:FG (aH u) (aj s p).1 (aj s p).2=.ba [IJ 3 (qt) (aj s p).1 (aj s p).2,.af .nilIface]:=by rw [hT];rfl
        rw [e1,e2];have hps:=lZ s p (qn) hs A8;unfold Cv at hps
        repeat'(first|(refine fy ?_;intro hu9)|(with_reducible first|(refine zz ?_;try intro K hK)|refine zi ?_|refine zh ?_)|((first|apply hK _ _ rfl|apply hK);clear hK K)|(guard_hyp hK;first|refine zx ?_|apply ab|apply aa|refine zW ?_|(refine zQ (hl) ?_)|(refine zQ (hd) ?_)|(refine zQ (hm) ?_)|refine zg ([]) (hps) (iz s p (aj s p).1 (aj s p).2) ([]) (iz s (p+(qn)) (aj s (p+(qn))).1 (aj s (p+(qn))).2) (.ba []) ?_|intro b0 hb)|((first|refine zj ?_|guard_hyp hK);refine zY ?_ ?_;all_goals(intro hb;(try simp only [sn,sb] at hb);try exact ao)))
        all_goals first|exact absurd hb hne|exact gh (ls:=[.int .i8 3,.string (qt),.int .i64 (aj s p).1,.int .i64 (aj s p).2]) rfl nV rfl (D0 _) rfl rfl rfl ⟨_,.inl rfl⟩ rfl B3 rfl rfl
       |false=>
        rw [if_neg B6] at hT;dsimp only at hm
        have e9:u.extract 0 1=⟨#[34]⟩:=by
         refine P1 (W5.1 ?_);have h1:=jH u 0 1;rw [drop_at A8] at h1;refine Eq.trans h1 ?_;rw [(jB (b:=34)).2 c5];rfl
        rw [<- e9] at hT;have e1:(if(aH u).code=0 then p+(aH u).n else p)=p:=by rw [hT];rfl
        have e2:FG (aH u) (aj s p).1 (aj s p).2=my ⟨21,(aj s p).1,(aj s p).2,u.extract 0 1⟩:=by rw [hT];rfl
        rw [e1,e2]
        repeat'(first|(refine fy ?_;intro hu9)|(with_reducible first|(refine zz ?_;try intro K hK)|refine zi ?_|refine zh ?_)|((first|apply hK _ _ rfl|apply hK);clear hK K)|(guard_hyp hK;first|refine zx ?_|apply ab|apply aa|refine zW ?_|(refine zQ (hl) ?_)|(refine zQ (hd) ?_)|(refine zQ (hm) ?_)|(refine' iY _ (hfail _ _ _ _) ?hga ?hgb ?_;(case hga=>rfl);(case hgb=>rfl))|intro b0 hb)|((first|refine zj ?_|guard_hyp hK);refine zY ?_ ?_;all_goals(intro hb;(try simp only [sn,sb] at hb);try exact ao)))
        all_goals first|exact absurd hb hne|exact gh (ls:=[.int .i8 0,.string eS,.int .i64 0,.int .i64 0]) rfl nV rfl (D0 _) rfl rfl rfl ⟨default,.inr ⟨_,_,rfl⟩⟩ rfl B3 rfl rfl
      ·rw [if_neg c5] at hT;have hi:=lb Wy (ax u 0);have hbk:=Oa (ax u 0);have e0:Wy.data.toList=[123,125,40,41,91,93,44,59,124,61,43,45,42,47]:=rfl;rw [e0] at hi
       cases hG:Ri (ax u 0) with
       |true=>
        have hbk:=hbk.1 hG;rw [if_pos hG] at hT;have e1:(if(aH u).code=0 then p+(aH u).n else p)=p+(1):=by rw [hT];rfl
        have e2:FG (aH u) (aj s p).1 (aj s p).2=.ba [IJ 4 (u.extract 0 1) (aj s p).1 (aj s p).2,.af .nilIface]:=by rw [hT];rfl
        rw [e1,e2];have hps:=lZ s p (1) hs A8;unfold Cv at hps
        repeat'(first|(refine fy ?_;intro hu9)|(with_reducible first|(refine zz ?_;try intro K hK)|refine zi ?_|refine zh ?_)|((first|apply hK _ _ rfl|apply hK);clear hK K)|(guard_hyp hK;first|refine zx ?_|apply ab|apply aa|refine zW ?_|(refine zQ (hl) ?_)|(refine zQ (hd) ?_)|(refine zQ (hi) ?_)|refine zg ([]) (hps) (iz s p (aj s p).1 (aj s p).2) ([]) (iz s (p+(1)) (aj s (p+(1))).1 (aj s (p+(1))).2) (.ba []) ?_|intro b0 hb)|((first|refine zj ?_|guard_hyp hK);refine zY ?_ ?_;all_goals(intro hb;(try simp only [sn,sb] at hb);try exact ao)))
        all_goals first|exact absurd hb hne|exact gh (ls:=[.int .i8 4,.string (u.extract 0 1),.int .i64 (aj s p).1,.int .i64 (aj s p).2]) rfl nV rfl (D0 _) rfl rfl rfl ⟨_,.inl rfl⟩ rfl B3 rfl rfl
       |false=>
        have hbk:¬0<=Lib.indexByte [123,125,40,41,91,93,44,59,124,61,43,45,42,47] (ax u 0):=fun h=>by rw [hbk.2 h] at hG;cases hG
        rw [if_neg (by rw [hG];exact B6)] at hT;have e1:(if(aH u).code=0 then p+(aH u).n else p)=p:=by rw [hT];rfl
        have e2:FG (aH u) (aj s p).1 (aj s p).2=my ⟨20,(aj s p).1,(aj s p).2,u.extract 0 1⟩:=by rw [hT];rfl
        rw [e1,e2]
        repeat'(first|(refine fy ?_;intro hu9)|(with_reducible first|(refine zz ?_;try intro K hK)|refine zi ?_|refine zh ?_)|((first|apply hK _ _ rfl|apply hK);clear hK K)|(guard_hyp hK;first|refine zx ?_|apply ab|apply aa|refine zW ?_|(refine zQ (hl) ?_)|(refine zQ (hd) ?_)|(refine zQ (hi) ?_)|(refine' iY _ (hfail _ _ _ _) ?hga ?hgb ?_;(case hga=>rfl);(case hgb=>rfl))|intro b0 hb)|((first|refine zj ?_|guard_hyp hK);refine zY ?_ ?_;all_goals(intro hb;(try simp only [sn,sb] at hb);try exact ao)))
        all_goals first|exact absurd hb hne|exact gh (ls:=[.int .i8 0,.string eS,.int .i64 0,.int .i64 0]) rfl nV rfl (D0 _) rfl rfl rfl ⟨default,.inr ⟨_,_,rfl⟩⟩ rfl B3 rfl rfl
   ·have he:=hemp.2 A8;rw [if_neg h0];have e1:(if Vk.code=0 then p+Vk.n else p)=p:=rfl;have e2:FG Vk (aj s p).1 (aj s p).2=.ba [IJ 0 eS (aj s p).1 (aj s p).2,.af .nilIface]:=rfl;rw [e1,e2]
    repeat'(first|(with_reducible first|(refine zz ?_;try intro K hK)|refine zi ?_|refine zh ?_)|((first|apply hK _ _ rfl|apply hK);clear hK K)|(guard_hyp hK;first|refine zx ?_|apply ab|apply aa|refine zW ?_|intro b0 hb)|((first|refine zj ?_|guard_hyp hK);refine zY ?_ ?_;all_goals(intro hb;(try simp only [sn,sb] at hb);try exact ao)))
    all_goals first|exact absurd he hb|(exact gh (ls:=[.int .i8 0,.string eS,.int .i64 (aj s p).1,.int .i64 (aj s p).2]) rfl nV rfl (D0 _) rfl rfl rfl ⟨_,.inl rfl⟩ rfl B3 rfl rfl)
  ·intro R hR
   repeat'(first|(with_reducible first|(refine zz ?_;try intro K hK)|refine zi ?_|refine zh ?_)|((first|apply hK _ _ rfl|apply hK);clear hK K)|(guard_hyp hK;first|refine zx ?_|apply ab|apply aa|refine zW ?_|intro b0 hb)|((first|refine zj ?_|guard_hyp hK);refine zY ?_ ?_;all_goals(intro hb;(try simp only [sn,sb] at hb);try exact ao)))
   exact hR _ _ rfl ⟨rfl,⟨rfl,rfl,rfl,rfl,rfl,rfl,rfl,rfl,rfl,trivial,trivial⟩,⟨rfl,rfl,rfl,trivial⟩,⟨jI,fun v hv=>(iU _ _ _ _ v hv).cl _,fun v hv=>(iU _ _ _ _ v hv).cl _,trivial⟩⟩
def TW (s:ByteArray):Obj:=⟨1,[.af (.string s)],0,true⟩
theorem Qs (s:ByteArray):IG Tryz.prog 42 [gG s] [(0,TW s)] (.wr (.TH 66) 0 0 0 0):=by
 refine kf bN mix Tryz.func42 rfl rfl B1 (zO rfl) ?_
 repeat'(first|(with_reducible first|(refine zz ?_;try intro K hK)|refine zi ?_|refine zh ?_)|((first|apply hK _ _ rfl|apply hK);clear hK K)|(guard_hyp hK;first|refine zx ?_|apply ab|apply aa|refine zW ?_|intro b0 hb)|((first|refine zj ?_|guard_hyp hK);refine zY ?_ ?_;all_goals(intro hb;(try simp only [sn,sb] at hb);try exact ao)))
 refine⟨trivial,false,_,fun _=>0,rfl,Dk LI ⟨⟨_,rfl,rfl,rfl,rfl,rfl,rfl,Ba (.af _)⟩,trivial⟩,?_⟩;exact fg.wr _ 0 _ _ _ _ rfl rfl rfl
theorem GB (s:ByteArray)(a:Nat)(ha:a<=s.size):((eG s a).2=false->bQ s a=([],some ⟨21,(aj s (eG s a).1).1,(aj s (eG s a).1).2,⟨#[47,42]⟩⟩))/\((eG s a).2=true->bQ s a=bQ s (eG s a).1):=by
 rw [eG];split
 ·rename_i hlt;split
  ·rename_i h1;refine⟨fun _=>?_,fun h=>by cases h⟩;have ht:aH (s.extract a s.size)=⟨0,0,eS,21,⟨#[47,42]⟩⟩:=if_pos h1;rw [bQ,I2 hlt,ht];rfl
  ·rename_i h1;split
   ·rename_i h2;have ht:aH (s.extract a s.size)=⟨(bf (s.extract a s.size)).toNat,0,eS,0,eS⟩:=by unfold aH;rw [if_neg h1,if_pos h2]
    have h3:=jW (s:=s.extract a s.size) (by rw [F5];omega);rw [F5] at h3
    have e:bQ s a=bQ s (a+(bf (s.extract a s.size)).toNat):=by
     rw [bQ,I2 hlt,ht];rw [if_neg (by simp),I2 (by show 0 < (bf _).toNat;omega),if_neg (by simp)]
    rw [e];exact GB s _ A8
   ·exact⟨fun h=>(by cases h),fun _=>rfl⟩
 ·exact⟨fun h=>(by cases h),fun _=>rfl⟩
termination_by s.size - a
theorem Ay {s:ByteArray}(h1:1<=s.size)(hs:bf s=0)(hc:(aH s).code=0):(aH s).kind≠0:=by
 unfold aH at hc |-;rw [if_neg A8,if_neg A8] at hc |-;split
 ·rename_i c1;rw [if_pos c1] at hc;split
  ·rename_i c2;rw [if_pos c2] at hc;exfalso;dsimp only at hc;revert hc;decide
  ·dsimp only;decide
 ·rename_i c1;rw [if_neg c1] at hc;split
  ·rename_i c2;rw [if_pos c2] at hc;split
   ·rename_i c3;rw [if_pos c3] at hc;exfalso;dsimp only at hc;revert hc;decide
   ·dsimp only;decide
  ·rename_i c2;rw [if_neg c2] at hc;split
   ·rename_i c3;rw [if_pos c3] at hc;split
    ·dsimp only;decide
    ·rename_i c4;rw [if_neg c4] at hc;exfalso;dsimp only at hc;revert hc;decide
   ·rename_i c3;rw [if_neg c3] at hc;split
    ·dsimp only;decide
    ·rename_i c4;rw [if_neg c4] at hc;exfalso;dsimp only at hc;revert hc;decide
theorem IB (s:ByteArray)(a:Nat)(ha:a<=s.size) :
  ((jf s a).code≠0->bQ s a=([],some ⟨(jf s a).code,(aj s (eG s a).1).1,(aj s (eG s a).1).2,(jf s a).word⟩))/\
  ((jf s a).code=0->(jf s a).kind=0->(jf s a).text=eS/\bQ s a=([⟨0,eS,(aj s (eG s a).1).1,(aj s (eG s a).1).2⟩],none))/\
  ((jf s a).code=0->(jf s a).kind≠0->a < rA s a/\rA s a<=s.size/\bQ s a=(⟨(jf s a).kind,(jf s a).text,(aj s (eG s a).1).1,(aj s (eG s a).1).2⟩ :: (bQ s (rA s a)).1,(bQ s (rA s a)).2)):=by
 obtain⟨h1,h2⟩:=GB s a ha;obtain⟨l1,l2⟩:=Ep s a ha
 cases hb:(eG s a).2 with
 |false=>
  have e:jf s a=⟨0,0,eS,21,⟨#[47,42]⟩⟩:=by unfold jf;rw [hb];rfl
  rw [e,h1 hb];exact⟨fun _=>rfl,fun h=>by(exfalso;revert h;decide),fun h=>by(exfalso;revert h;decide)⟩
 |true=>
  rw [h2 hb];by_cases hp:(eG s a).1 < s.size
  ·have e:jf s a=aH (s.extract (eG s a).1 s.size):=by unfold jf;rw [hb,if_pos rfl,if_pos hp]
   have hsz:(s.extract (eG s a).1 s.size).size=s.size - (eG s a).1:=by rw [F5];omega
   have hk:=vf s a ha hb hp;have eE:rA s a=if(jf s a).code=0 then(eG s a).1+(jf s a).n else(eG s a).1:=rfl
   rw [e] at eE |-;generalize hT:aH (s.extract (eG s a).1 s.size)=T at *;refine⟨fun hc=>?_,fun hc hk0=>?_,fun hc hk0=>?_⟩
   ·rw [bQ,I2 hp,hT,if_pos hc]
   ·exact absurd hk0 (by rw [<- hT];exact_mod_cast Ay A8 hk (by rw [hT];exact hc))
   ·have hpr:=kH (s:=s.extract (eG s a).1 s.size) A8 (by rw [hT];exact hc);rw [hT] at hpr;rw [if_pos hc] at eE;refine⟨by omega,by omega,?_⟩;rw [bQ,I2 hp,hT,if_neg (by rw [hc];exact fun h=>h rfl),I2 hpr.1,if_pos hk0,eE]
  ·have e:jf s a=Vk:=by unfold jf;rw [hb,if_pos rfl,if_neg hp]
   have e9:(eG s a).1=s.size:=by omega
   rw [e];refine⟨fun h=>absurd rfl h,fun _ _=>⟨rfl,?_⟩,fun _ h=>absurd rfl h⟩;rw [bQ,O4 hp,e9]
end Go.Ev
