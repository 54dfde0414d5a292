import Derived.Test.YthpoegdjffdojaaGreatDoorUSpl
set_option linter.all false
set_option maxHeartbeats 60000000
set_option maxRecDepth 10000
namespace Go.Ev
open Go.Proofs
open PS (bV aE aF ft)
def AA (t:dT):T:=.agg [.af (.int .i8 t.kind),.af (.bool t.neg),.sl (t.nH.map bw),.sl (t.den.map bw)]
def fW (l:List dT):T:=.sl (l.map AA)
def lA (l:List dT):T:=
 match jT l with
 |some ws=>.ba [.sl (iD (ws.map fS)),.af (.bool true)]
 |none=>.ba [.sl [],.af (.bool false)]
def lO (st:fh):Nat:=(st.map fun x=>x.1.length).sum
structure IQ (l:List dT)(k:Nat)(st:fh):Prop where
 hk:k<=l.length
 run:nB l []=nB (l.drop k) st
 sz:st.length<=k
 EX:lO st<=3 * k
 dp:∀x ∈ st,x.2<=60
theorem IQ.nil (l:List dT):IQ l 0 []:=⟨C0 _,rfl,wU _,wU _,fun x h=>by cases h⟩
theorem IQ.at {l:List dT}{k:Nat}{st:fh}(h:IQ l k st)(hlt:k < l.length):nB l []=match fX st (l.getD k default) with|some st'=>nB (l.drop (k+1)) st'|none=>none:=by
 rw [h.run,F7 hlt,nB,List.getD,uz hlt];rfl
theorem IQ.none {l:List dT}{k:Nat}{st:fh}(h:IQ l k st)(hlt:k < l.length)(hs:fX st (l.getD k default)=none):lA l=.ba [.sl [],.af (.bool false)]:=by
 have:=h.at hlt;rw [hs] at this;unfold lA jT;rw [this]
theorem IQ.next {l:List dT}{k:Nat}{st st':fh}(h:IQ l k st)(hlt:k < l.length)(hs:fX st (l.getD k default)=some st')(h1:st'.length<=k+1)(h2:lO st'<=3 * (k+1))(h3:∀x ∈ st',x.2<=60):IQ l (k+1) st':=by
 refine⟨hlt,?_,h1,h2,h3⟩;rw [h.at hlt,hs]
theorem Av (a b:fh):lO (a ++ b)=lO a+lO b:=by unfold lO;rw [G7,List.sum_append_nat]
def JU (st:fh):OH:=(0,⟨1,iL 0 st,0,true⟩) :: (1,⟨1,lH st,0,true⟩) :: ko 0 st
def Xv (n:Nat)(l:List dT)(z:Nat×fh):St:=⟨n,[(0,.ro false (fW l)),(4,.own 0 0 0 z.2.length),(5,.own 1 0 0 z.2.length),(6,.af (.int .i64 z.1))],JU z.2⟩
def Xu (n:Nat)(l:List dT)(z:Nat×fh)(kd:Int):St:=⟨n,[(0,.ro false (fW l)),(4,.own 0 0 0 z.2.length),(5,.own 1 0 0 z.2.length),(6,.af (.int .i64 z.1)),(7,.af (.int .i64 z.2.length)),(8,.af (.int .i8 kd))],JU z.2⟩
theorem RI {l:List dT}{i:Nat}(h:i < l.length):(l.map AA)[i]?=some (AA (l.getD i default)):=by
 rw [Zf,List.getD,uz h];rfl
theorem yx : ∀(r:fh) (b:Nat) (oh:OH),(∀j,j < r.length->(ae oh (100+(b+j))).isSome=true)->∀v ∈ iL b r,v.cl oh
 | [],_,_,_,v,h=>by cases h
 |x :: r,b,oh,hs,v,h=>by
  rcases B5.1 h with rfl|h
  ·exact hs 0 (D0 _)
  ·refine yx r (b+1) oh (fun j hj=>?_) v h;rw [show b+1+j=b+(j+1) by omega];exact hs (j+1) (Nat.succ_lt_succ hj)
theorem Ml (st:fh)(oh:OH):∀v ∈ lH st,v.cl oh:=fun v hv=>by
 obtain⟨x,-,rfl⟩:=D4.1 hv;exact trivial
theorem Fx (w:bV)(oh:OH):∀v ∈ pW w,v.cl oh:=fun v hv=>by
 obtain⟨x,-,rfl⟩:=D4.1 hv;exact trivial
theorem DU {st:fh}{o0 o1:Obj}:∀j,j < st.length->(ae ((0,o0) :: (1,o1) :: ko 0 st) (100+(0+j))).isSome=true:=fun j hj=>by
 rw [ah _ _ A8,ah _ _ A8,kS st 0 j _ (uz hj)];rfl
theorem oE : ∀(st:fh) (b:Nat) (oh:OH),eV oh (ko b st)
 | [],_,_=>trivial
 |x :: r,b,oh=>⟨Fx _ _,oE r (b+1) oh⟩
theorem Qz (st:fh):eV (JU st) (JU st):=⟨yx st 0 _ DU,Ml _ _,oE _ _ _⟩
theorem yN : ∀(st:fh) (b:Nat) (oh:OH),(∀j x,st[j]?=some x->ae oh (100+(b+j))=some ⟨1,pW x.1,0,true⟩)->gi oh (ko b st)
 | [],_,_,_=>trivial
 |x :: r,b,oh,h=>⟨h 0 x rfl,yN r (b+1) oh fun j y hy=>by
   rw [show b+1+j=b+(j+1) by omega]
   exact h (j+1) y hy⟩
theorem NX {oh:OH}{st:fh}(h0:ae oh 0=some ⟨1,iL 0 st,0,true⟩)(h1:ae oh 1=some ⟨1,lH st,0,true⟩)(sk:∀i,100<=i->ae oh i=ae (ko 0 st) i):gi oh (JU st):=
 ⟨h0,h1,yN st 0 oh fun j x hx=>by rw [sk _ A8];exact kS st 0 j x hx⟩
theorem sF {e:Env}{l:List dT}{k:Nat}{b c:V}(h0:aA e 0=.ro false (fW l))(h6:aA e 6=.af (.int .i64 k)):SR e [(0,.ro false (fW l)),(4,b),(5,c),(6,.af (.int .i64 k))]:=by
 intro t n4 n5;by_cases e0:t=0
 ·subst e0;exact .inr ⟨trivial,h0⟩
 ·by_cases e6:t=6
  ·subst e6;exact .inr ⟨trivial,h6⟩
  ·refine .inl ?_;simp [aA,H5 n4,H5 n5,H5 e0,H5 e6]
theorem Sx {r:fh}{z:bV×Nat}{B:Nat}(h1:∀x ∈ r,x.2<=B)(h2:z.2<=B):∀x ∈ r ++ [z],x.2<=B:=by
 intro x hx;rcases D6.1 hx with h|h
 ·exact h1 x h
 ·rw [HQ.1 h];exact h2
theorem wg (r:fh)(z:bV×Nat):lO (r ++ [z])=lO r+z.1.length:=by rw [Av];simp [lO]
theorem WI {t:dT}(h:t.neg=true\/0 < t.nH.length\/0 < t.den.length):¬t.Pu:=by
 rintro⟨h1,h2,h3⟩;rw [h1,h2,h3] at h;simp at h
theorem VY {a:Int}(h0:0<=a)(h1:a<=4611686018427387904):a=IntKind.i64.wrap a:=jr (by simp only [px];omega) (by simp only [py];omega)
theorem oK {a b:Int}(h:b=a)(h0:0<=a)(h1:a<=4611686018427387904):b=IntKind.i64.wrap a:=h.trans (VY h0 h1)
def Wo (n:Nat)(l:List dT)(k:Nat)(r:fh)(x:bV×Nat)(kd:Int):St:=⟨n,[(0,.ro false (fW l)),(4,.own 0 0 0 (r.length+1)),(5,.own 1 0 0 (r.length+1)),(6,.af (.int .i64 k)),(7,.af (.int .i64 (r.length+1:Nat))),(8,.af (.int .i8 kd)),(113,.af (.bool true))],
 (0,⟨1,iL 0 r ++ [.own 2 0 0 x.1.length],0,true⟩) :: (1,⟨1,lH r ++ [.af (.int .i64 x.2)],0,true⟩) :: (2,⟨1,pW x.1,0,true⟩) :: ko 0 r⟩
def Wn (n:Nat)(l:List dT)(k:Nat)(r:fh)(x y:bV×Nat)(kd:Int):St:=⟨n,[(0,.ro false (fW l)),(4,.own 0 0 0 (r.length+2)),(5,.own 1 0 0 (r.length+2)),(6,.af (.int .i64 k)),(7,.af (.int .i64 (r.length+2:Nat))),(8,.af (.int .i8 kd)),(143,.af (.bool true))],
 (0,⟨1,iL 0 r ++ [.own 2 0 0 x.1.length,.own 3 0 0 y.1.length],0,true⟩) :: (1,⟨1,lH r ++ [.af (.int .i64 x.2),.af (.int .i64 y.2)],0,true⟩) :: (2,⟨1,pW x.1,0,true⟩) :: (3,⟨1,pW y.1,0,true⟩) :: ko 0 r⟩
theorem BS {e:Env}{l:List dT}{k kd:Int}{m q:Nat}{b c:V}(h0:aA e 0=.ro false (fW l))(h6:aA e 6=.af (.int .i64 k))(h7:aA e 7=.af (.int .i64 m))(h8:aA e 8=.af (.int .i8 kd))(hq:aA e q=.af (.bool true)):SR e [(0,.ro false (fW l)),(4,b),(5,c),(6,.af (.int .i64 k)),(7,.af (.int .i64 m)),(8,.af (.int .i8 kd)),(q,.af (.bool true))]:=by
 intro t n4 n5;by_cases e0:t=0
 ·subst e0;exact .inr ⟨trivial,h0⟩
 ·by_cases e6:t=6
  ·subst e6;exact .inr ⟨trivial,h6⟩
  ·by_cases e7:t=7
   ·subst e7;exact .inr ⟨trivial,h7⟩
   ·by_cases e8:t=8
    ·subst e8;exact .inr ⟨trivial,h8⟩
    ·by_cases eq:t=q
     ·subst eq;have:aA [(0,.ro false (fW l)),(4,b),(5,c),(6,.af (.int .i64 k)),(7,.af (.int .i64 m)),(8,.af (.int .i8 kd)),(t,.af (.bool true))] t=.af (.bool true):=by simp [aA,H5 n4,H5 n5,H5 e0,H5 e6,H5 e7,H5 e8]
      rw [this];exact .inr ⟨trivial,hq⟩
     ·refine .inl ?_;simp [aA,H5 n4,H5 n5,H5 e0,H5 e6,H5 e7,H5 e8,H5 eq]
def Wp (n:Nat)(l:List dT)(k:Nat)(r:fh)(x y:bV×Nat)(sg:ByteArray)(w:bV)(v:Nat):St:=⟨n,[(0,.ro false (fW l)),(4,.own 0 0 0 (r.length+2)),(5,.own 1 0 0 (r.length+2)),(6,.af (.int .i64 k)),(7,.af (.int .i64 (r.length+2:Nat))),(10,.af (.string sg)),(11,.own 50 v 0 w.length)],
 (50,⟨1,pW w,v,true⟩) :: (0,⟨1,iL 0 r ++ [.own 2 0 0 x.1.length,.own 3 0 0 y.1.length],0,true⟩) :: (1,⟨1,lH r ++ [.af (.int .i64 x.2),.af (.int .i64 y.2)],0,true⟩) :: (2,⟨1,pW x.1,0,true⟩) :: (3,⟨1,pW y.1,0,true⟩) :: ko 0 r⟩
theorem JV {n:Nat}{l:List dT}{k:Nat}{r:fh}{x y:bV×Nat}{sg:ByteArray}{w:bV}{v N:Nat}{W:List V}{s:St}(hn:s.n=n)(e0:aA s.env 0=.ro false (fW l))(e4:aA s.env 4=.own 0 0 0 (r.length+2))(e5:aA s.env 5=.own 1 0 0 (r.length+2))(e6:aA s.env 6=.af (.int .i64 k))(e7:aA s.env 7=.af (.int .i64 (r.length+2:Nat)))
  (e10:aA s.env 10=.af (.string sg)) (e11:aA s.env 11=.own 50 v 0 N) (hN:N=w.length) (o50:ae s.oh 50=some ⟨1,W,v,true⟩) (hW:W=pW w)
  (o0:ae s.oh 0=some ⟨1,iL 0 r ++ [.own 2 0 0 x.1.length,.own 3 0 0 y.1.length],0,true⟩) (o1:ae s.oh 1=some ⟨1,lH r ++ [.af (.int .i64 x.2),.af (.int .i64 y.2)],0,true⟩) (o2:ae s.oh 2=some ⟨1,pW x.1,0,true⟩) (o3:ae s.oh 3=some ⟨1,pW y.1,0,true⟩)
  (sk:∀i,100<=i->ae s.oh i=ae (ko 0 r) i):Le (Wp n l k r x y sg w v) s:=by
 subst hN hW;refine⟨hn.symm,⟨e0,trivial,e4,rfl,e5,rfl,e6,trivial,e7,trivial,e10,trivial,e11,rfl,trivial⟩,⟨o50,o0,o1,o2,o3,yN r 0 _ fun j z hz=>?_⟩,⟨Fx _ _,fun u hu=>?_,fun u hu=>?_,Fx _ _,Fx _ _,oE _ _ _⟩⟩
 ·rw [sk _ A8];exact kS r 0 j z hz
 ·rcases D6.1 hu with h|h
  ·refine yx r 0 _ (fun j hj=>?_) u h;show(ae ((50,_) :: (0,_) :: (1,_) :: (2,_) :: (3,_) :: ko 0 r) (100+(0+j))).isSome=true;rw [ah _ _ A8,ah _ _ A8,ah _ _ A8,ah _ _ A8,ah _ _ A8,kS r 0 j _ (uz hj)];rfl
  ·simp only [B5,K3,S2] at h;rcases h with rfl|rfl<;>rfl
 ·rcases D6.1 hu with h|h
  ·exact Ml r _ u h
  ·simp only [B5,K3,S2] at h;rcases h with rfl|rfl<;>trivial
theorem mb (w:bV):(pW w).length=w.length:=List.length_map _
theorem Dx (w:bV):∀v ∈ pW w,v.cells.length=1:=fun v hv=>by
 obtain⟨x,-,rfl⟩:=D4.1 hv;rfl
theorem xP {st:fh}(h:0 < st.length):∃r x,st=r ++ [x]:=by
 rcases List.eq_nil_or_concat st with e|⟨r,x,e⟩
 ·subst e;exact absurd h B3
 ·exact⟨r,x,by rw [e,List.concat_eq_append]⟩
theorem NK {st:fh}(h:1 < st.length):∃r x y,st=r ++ [x,y]:=by
 obtain⟨q,y,rfl⟩:=xP (st:=st) A8;obtain⟨r,x,rfl⟩:=xP (st:=q) (by simp at h;omega);exact⟨r,x,y,by simp⟩
theorem RE (l : List dT) (hT : ∀ m : List UInt32, m.length <= 1048576 -> Ok Tryz.prog 23 [.sl (m.map bw)] true (.af (.string (dh (val m))))) (hl : l.length <= 1073741824) (hm : ∀ t ∈ l, t.nH.length <= 1048576) :
    Ok Tryz.prog 37 [fW l] true (lA l) := by
  have hl2 : (l.map AA).length = l.length := List.length_map _;refine aw bN mix Tryz.func37 rfl rfl B1 (zO rfl) ?_
  repeat' (first|(with_reducible first|(refine zz ?_;try intro K hK)|refine zI ?_|refine zt ?_|refine zf ?_)|((first|refine hK _ ?_|refine hK _ _ rfl ?_);clear hK K)|(guard_hyp hK;first|(refine zY ?zz ?_;case zz=>first|exact rfl|exact gJ)|refine ab ?_|refine aa ?_|refine zW ?_|intro b0 hb)|((first|with_reducible refine zm ?_|guard_hyp hK);refine zY ?_ ?_;all_goals(intro hb;(try simp only [sn,sb] at hb);try exact ao)))
  refine UQ (Nat × fh) (Xv Tryz.f37.ntmps l) (fun z => IQ l z.1 z.2) (fun z => l.length - z.1) [(4, 0, 1), (5, 1, 1)] (0, []) ⟨rfl, rfl, rfl, rfl, trivial⟩ (IQ.nil l) ⟨rfl, ⟨rfl, trivial, rfl, rfl, rfl, rfl, rfl, trivial, trivial⟩, ⟨rfl, rfl, trivial⟩, Qz []⟩ ?_;rintro ⟨k, st⟩ hI;dsimp only at hI |-;obtain ⟨hk, hrun, hsz, htot, hdp⟩ := hI;have hI : IQ l k st := ⟨hk, hrun, hsz, htot, hdp⟩
  by_cases hlt : k < l.length
  · have hat := RI hlt;obtain ⟨t, ht⟩ : ∃ t, t = l.getD k default := ⟨_, rfl⟩
    have hst := hI.at hlt;rw [<- ht] at hat hst
    repeat' (first|(first | refine dU (a := (Code.region 8 _ _).seq (Code.cond _ _ _)) Unit (fun _ => Xu Tryz.f37.ntmps l (k, st) t.kind) (fun _ => t.kind = 1 \/ t.Pu) ?_ ?_ | (guard_hyp hK; refine Sk _ (UO hat ?_)))|(with_reducible first|(refine zz ?_;try intro K hK)|refine zI ?_|refine zt ?_|refine zf ?_)|((first|refine hK _ ?_|refine hK _ _ rfl ?_);clear hK K)|(guard_hyp hK;first|(refine zY ?zz ?_;case zz=>first|exact rfl|exact gJ)|refine ab ?_|refine aa ?_|refine zW ?_|intro b0 hb)|((first|with_reducible refine zm ?_|guard_hyp hK);refine zY ?_ ?_;all_goals(intro hb;(try simp only [sn,sb] at hb);try exact ao)))
    · rintro - hkz;clear hb;refine RM (a := Code.block 2 _) (fh × (bV × Nat)) (fun z => Xv Tryz.f37.ntmps l (k, z.1 ++ [z.2])) (fun z => (∀ x ∈ z.1, x.2 <= 60) /\ z.2.2 <= 62 /\ z.1.length <= k /\ lO z.1 + z.2.1.length <= 3 * (k + 1) /\ fX st t = uZ (z.1 ++ [z.2])) ?_ ?_
      · rintro ⟨r, z⟩ ⟨h1, h2, h3, h4, h5⟩;dsimp only at h1 h2 h3 h4 h5 |-;have ln : (r ++ [z]).length = r.length + 1 := by simp
        have hsub : ((r.length : Nat) : Int) = IntKind.i64.wrap ((((r ++ [z]).length : Nat) : Int) - 1) := oK A8 A8 A8
        have hidx : (lH (r ++ [z]))[0 + r.length]? = some (.af (.int .i64 z.2)) := by
          rw [C2, lH, G7, IX (by rw [List.length_map]; exact wU _), List.length_map, H6]; rfl
        have hlast : (r ++ [z]).getD ((r ++ [z]).length - 1) kI = z := by
          rw [ln, O5, List.getD, IX (wU _), H6]; rfl
        repeat' (first|(guard_hyp hK; first | refine Sk _ (UO hsub ?_) | refine Sk _ (UO hidx ?_))|(with_reducible first|(refine zz ?_;try intro K hK)|refine zI ?_|refine zt ?_|refine zf ?_)|((first|refine hK _ ?_|refine hK _ _ rfl ?_);clear hK K)|(guard_hyp hK;first|(refine zY ?zz ?_;case zz=>first|exact rfl|exact gJ)|refine ab ?_|refine aa ?_|refine zW ?_|intro b0 hb)|((first|with_reducible refine zm ?_|guard_hyp hK);refine zY ?_ ?_;all_goals(intro hb;(try simp only [sn,sb] at hb);try exact ao)))
        · rw [hI.none hlt (by rw [<- ht, h5, uZ, hlast, if_pos A8])];exact ⟨trivial, _, _, rfl, jK rfl, ay rfl⟩
        · exact ⟨(k + 1, r ++ [z]), hI.next hlt (by rw [<- ht, h5, uZ, hlast, if_neg A8]) (by rw [ln]; exact N0 h3) (by rw [wg]; exact h4) (Sx h1 A8), by show l.length - (k + 1) < l.length - k; omega, qE (ou rfl rfl) (ou rfl rfl) sI rfl (sF rfl rfl)⟩
      · intro R hR;have hnone : fX st t = none -> lA l = .ba [.sl [], .af (.bool false)] := fun h => hI.none hlt (by rw [<- ht]; exact h)
        have hmT : t.nH.length <= 1048576 := hm t (by rw [ht, List.getD, uz hlt]; exact G9 hlt);have h50 : ae (ko 0 st) 50 = none := eU B3;have h51 : ae (ko 0 st) 51 = none := eU B3;have h52 : ae (ko 0 st) 52 = none := eU B3;have h53 : ae (ko 0 st) 53 = none := eU B3;have hTx := hT t.nH hmT;clear ht hst hT hm;obtain ⟨kd, ng, mg, dn⟩ := t;dsimp only at hkz hmT hTx |-;have hml : (mg.map bw).length = mg.length := List.length_map _
        have rtn : lA l = .ba [.sl [], .af (.bool false)] -> ∀ s' : St, aA s'.env 2 = .emp -> aA s'.env 3 = .af (.bool false) -> kz Tryz.prog Tryz.f37 true (lA l) .ret s' := fun h s' e2 e3 => by
          rw [h];refine ⟨trivial, ?_⟩;show ∃ t1 t2, _ /\ gM s'.oh true (aA s'.env 2) t1 /\ gM s'.oh true (aA s'.env 3) t2;rw [e2, e3];exact ⟨_, _, rfl, jK rfl, ay rfl⟩
        by_cases k1 : kd = 1
        · subst k1;have hng : ¬ (dT.mk 1 ng mg dn).DT -> lA l = .ba [.sl [], .af (.bool false)] := fun h => hnone (by unfold fX; rw [if_neg (fun h => h.1 rfl), if_pos rfl, if_neg h])
          cases ng with
          | true =>
            have hnn := rtn (hng fun h => by cases h.1)
            repeat' (first|(guard_hyp hK; refine Sk _ (UO hat ?_))|(with_reducible first|(refine zz ?_;try intro K hK)|refine zI ?_|refine zt ?_|refine zf ?_)|((first|refine hK _ ?_|refine hK _ _ rfl ?_);clear hK K)|(guard_hyp hK;first|(refine zY ?zz ?_;case zz=>first|exact rfl|exact gJ)|(refine aC 50 h50 ?_)|refine aa ?_|refine zW ?_|intro b0 hb)|((first|with_reducible refine zm ?_|guard_hyp hK);refine zY ?_ ?_;all_goals(intro hb;(try simp only [sn,sb] at hb);try exact ao)))
            exact hnn _ rfl rfl
          | false =>
            rcases dn with _ | ⟨d, _ | ⟨d2, dr⟩⟩
            · have hnn := rtn (hng fun h => by cases h.2.1);have hne : ([] : List UInt32).length = 0 := rfl
              repeat' (first|(guard_hyp hK; refine Sk _ (UO hat ?_))|(with_reducible first|(refine zz ?_;try intro K hK)|refine zI ?_|refine zt ?_|refine zf ?_)|((first|refine hK _ ?_|refine hK _ _ rfl ?_);clear hK K)|(guard_hyp hK;first|(refine zY ?zz ?_;case zz=>first|exact rfl|exact gJ)|(refine aC 50 h50 ?_)|refine aa ?_|refine zW ?_|intro b0 hb)|((first|with_reducible refine zm ?_|guard_hyp hK);refine zY ?_ ?_;all_goals(intro hb;(try simp only [sn,sb] at hb);try exact ao)))
              exact hnn _ rfl rfl
            · by_cases d1 : d.toNat = 1
              · have fin : fX st ⟨1, false, mg, [d]⟩ = uZ (st ++ [([(2, dh (val mg))], 0)]) -> ∀ s' : St, s'.n = Tryz.f37.ntmps -> aA s'.env 0 = .ro false (fW l) -> aA s'.env 6 = .af (.int .i64 k) -> aA s'.env 4 = .own 0 1 0 (st.length + 1) -> aA s'.env 5 = .own 1 1 0 (st.length + 1) ->
                    ae s'.oh 0 = some ⟨1, (iL 0 st).take st.length ++ [.own 51 0 0 1], 1, true⟩ -> ae s'.oh 1 = some ⟨1, (lH st).take st.length ++ [.af (.int .i64 0)], 1, true⟩ -> ae s'.oh 51 = some ⟨1, [.af (.string (dh (val mg)))], 0, true⟩ -> (∀ i, 100 <= i -> ae s'.oh i = ae (ko 0 st) i) -> R s' := by
                  intro hs s' en e0 e6 e4 e5 o0 o1 o51 sk;refine hR s' (st, ([(2, dh (val mg))], 0)) ⟨hdp, C0 _, hsz, by show lO st + 1 <= _; omega, hs⟩ (qE (yt e4 rfl e5 rfl o0 ?_ o1 ?_ o51 rfl B3 B3 sk) (ou rfl rfl) sI en.symm (sF e0 e6))
                  · rw [B7 (by rw [bj]; exact wU _)]; rfl
                  · rw [B7 (by rw [lH, List.length_map]; exact wU _)]; rfl
                have hdd : d = 1 := M9.1 d1;rcases N5 mg.length with m0 | m0
                · have fin := fin (by unfold fX; rw [if_neg (fun h => h.1 rfl), if_pos rfl, if_pos ⟨rfl, by rw [hdd], Or.inl (C8 m0)⟩])
                  repeat' (first|(guard_hyp hK; refine Sk _ (UO hat ?_))|(with_reducible first|(refine zz ?_;try intro K hK)|refine zI ?_|refine zt ?_|refine zf ?_)|((first|refine hK _ ?_|refine hK _ _ rfl ?_);clear hK K)|(guard_hyp hK;first|(refine zY ?zz ?_;case zz=>first|exact rfl|exact gJ)|(refine aC 50 h50 ?_)|(refine aC 51 h51 ?_)|(refine aC 52 h52 ?_)|(refine aC 53 h53 ?_)|refine aa ?_|refine zW ?_|(refine zQ (hTx) ?_)|intro b0 hb)|((first|with_reducible refine zm ?_|guard_hyp hK);refine zY ?_ ?_;all_goals(intro hb;(try simp only [sn,sb] at hb);try exact ao)))
                  exact fin _ rfl rfl rfl rfl rfl rfl rfl rfl (by repeat' first | exact nY | refine ju B3 ?_)
                · have hsubm : ((mg.length - 1 : Nat) : Int) = IntKind.i64.wrap ((((mg.map bw).length : Nat) : Int) - 1) := oK (by rw [hml]; omega) (by rw [hml]; omega) (by rw [hml]; omega)
                  have hatm : (mg.map bw)[mg.length - 1]? = some (bw (mg.getD (mg.length - 1) 0)) := by
                    rw [Zf, List.getD, uz A8]; rfl
                  by_cases hz : (mg.getD (mg.length - 1) 0).toNat = 0
                  · have hnn := rtn (hng fun h => by
                      rcases h.2.2 with h | h
                      · have h : mg = [] := h;rw [h] at m0; exact absurd m0 (S8 _)
                      · exact h (M9.1 hz))
                    repeat' (first|(guard_hyp hK; first | refine Sk _ (UO hat ?_) | refine Sk _ (UO hsubm ?_) | refine Sk _ (UO hatm ?_))|(with_reducible first|(refine zz ?_;try intro K hK)|refine zI ?_|refine zt ?_|refine zf ?_)|((first|refine hK _ ?_|refine hK _ _ rfl ?_);clear hK K)|(guard_hyp hK;first|(refine zY ?zz ?_;case zz=>first|exact rfl|exact gJ)|(refine aC 50 h50 ?_)|refine aa ?_|refine zW ?_|intro b0 hb)|((first|with_reducible refine zm ?_|guard_hyp hK);refine zY ?_ ?_;all_goals(intro hb;(try simp only [sn,sb] at hb);try exact ao)))
                    exact hnn _ rfl rfl
                  · have fin := fin (by unfold fX; rw [if_neg (fun h => h.1 rfl), if_pos rfl, if_pos ⟨rfl, by rw [hdd], Or.inr (fun h => hz (by rw [show mg.getD (mg.length - 1) 0 = 0 from h]; rfl))⟩])
                    repeat' (first|(guard_hyp hK; first | refine Sk _ (UO hat ?_) | refine Sk _ (UO hsubm ?_) | refine Sk _ (UO hatm ?_))|(with_reducible first|(refine zz ?_;try intro K hK)|refine zI ?_|refine zt ?_|refine zf ?_)|((first|refine hK _ ?_|refine hK _ _ rfl ?_);clear hK K)|(guard_hyp hK;first|(refine zY ?zz ?_;case zz=>first|exact rfl|exact gJ)|(refine aC 50 h50 ?_)|(refine aC 51 h51 ?_)|(refine aC 52 h52 ?_)|(refine aC 53 h53 ?_)|refine aa ?_|refine zW ?_|(refine zQ (hTx) ?_)|intro b0 hb)|((first|with_reducible refine zm ?_|guard_hyp hK);refine zY ?_ ?_;all_goals(intro hb;(try simp only [sn,sb] at hb);try exact ao)))
                    exact fin _ rfl rfl rfl rfl rfl rfl rfl rfl (by repeat' first | exact nY | refine ju B3 ?_)
              · have hnn := rtn (hng fun h => d1 (by rw [(List.cons.inj h.2.1).1]; rfl))
                repeat' (first|(guard_hyp hK; refine Sk _ (UO hat ?_))|(with_reducible first|(refine zz ?_;try intro K hK)|refine zI ?_|refine zt ?_|refine zf ?_)|((first|refine hK _ ?_|refine hK _ _ rfl ?_);clear hK K)|(guard_hyp hK;first|(refine zY ?zz ?_;case zz=>first|exact rfl|exact gJ)|(refine aC 50 h50 ?_)|refine aa ?_|refine zW ?_|intro b0 hb)|((first|with_reducible refine zm ?_|guard_hyp hK);refine zY ?_ ?_;all_goals(intro hb;(try simp only [sn,sb] at hb);try exact ao)))
                exact hnn _ rfl rfl
            · have hnn := rtn (hng fun h => by cases h.2.1);have hne : (d :: d2 :: dr).length = dr.length + 2 := rfl
              repeat' (first|(guard_hyp hK; refine Sk _ (UO hat ?_))|(with_reducible first|(refine zz ?_;try intro K hK)|refine zI ?_|refine zt ?_|refine zf ?_)|((first|refine hK _ ?_|refine hK _ _ rfl ?_);clear hK K)|(guard_hyp hK;first|(refine zY ?zz ?_;case zz=>first|exact rfl|exact gJ)|(refine aC 50 h50 ?_)|refine aa ?_|refine zW ?_|intro b0 hb)|((first|with_reducible refine zm ?_|guard_hyp hK);refine zY ?_ ?_;all_goals(intro hb;(try simp only [sn,sb] at hb);try exact ao)))
              exact hnn _ rfl rfl
        · obtain ⟨z1, z2, z3⟩ : ng = false /\ mg = [] /\ dn = [] := by
            rcases hkz with h | h
            · exact absurd h k1
            · exact h
          subst z1 z2 z3
          have hS : fX st ⟨kd, false, [], []⟩ = if kd = 6 /\ 0 < st.length then uZ (st.take (st.length - 1) ++ [(sV (st.getD (st.length - 1) kI).1, (st.getD (st.length - 1) kI).2 + 2)])
              else if 2 <= kd /\ kd <= 5 /\ 1 < st.length then uZ (st.take (st.length - 2) ++ [(sW (st.getD (st.length - 2) kI).1 (st.getD (st.length - 1) kI).1 (rU kd), max (st.getD (st.length - 2) kI).2 (st.getD (st.length - 1) kI).2 + 1)]) else none := by
            show (if kd ≠ 1 /\ ¬ dT.Pu ⟨kd, false, [], []⟩ then none else if kd = 1 then _ else _) = _;rw [if_neg (fun h => h.2 ⟨rfl, rfl, rfl⟩), if_neg k1]
          by_cases k6 : kd = 6 /\ 0 < st.length
          · rw [if_pos k6] at hS;obtain ⟨rfl, hpos⟩ := k6;obtain ⟨r, x, rfl⟩ := xP hpos;have ln : (r ++ [x]).length = r.length + 1 := by simp
            rw [ln, O5, O1, show (r ++ [x]).getD r.length kI = x by rw [List.getD, IX (wU _), H6]; rfl] at hS;rw [ln] at hsz;rw [wg] at htot;have g50 : ae (ko 0 r) 50 = none := eU B3;have g51 : ae (ko 0 r) 51 = none := eU B3;have hwl := mb x.1
            repeat' (first|(refine RM (a := Code.region 17 _ _) Unit (fun _ => Wo Tryz.f37.ntmps l k r x 6) (fun _ => True) ?_ ?_)|(with_reducible first|(refine zz ?_;try intro K hK)|refine zI ?_|refine zt ?_|refine zf ?_)|((first|refine hK _ ?_|refine hK _ _ rfl ?_);clear hK K)|(guard_hyp hK;first|(refine zY ?zz ?_;case zz=>first|exact rfl|exact gJ)|refine ab ?_|refine aa ?_|refine zW ?_|intro b0 hb)|((first|with_reducible refine zm ?_|guard_hyp hK);refine zY ?_ ?_;all_goals(intro hb;(try simp only [sn,sb] at hb);try exact ao)))
            · rintro - -;have hsub : ((r.length : Nat) : Int) = IntKind.i64.wrap (((r.length + 1 : Nat) : Int) - 1) := oK A8 A8 A8
              have hE : (iL 0 r ++ [.own 2 0 0 x.1.length])[0 + r.length]? = some (.own 2 0 0 x.1.length) := by
                rw [C2, IX (by rw [bj]; exact wU _), bj, H6]; rfl
              have hD : (lH r ++ [.af (.int .i64 x.2)])[0 + r.length]? = some (.af (.int .i64 x.2)) := by
                rw [C2, lH, IX (by rw [List.length_map]; exact wU _), List.length_map, H6]; rfl
              have hx60 : x.2 <= 60 := hdp x (by simp);have b1 : x.1.length + 1 <= 9223372036854775807 := by omega
              have b2 : (x.1.length + 1) * 16 <= 140737488355328 := by omega
              have hcs : ∀ y ∈ (((pW x.1).take x.1.length ++ [V.af (.string aF)]).drop 0).take (x.1.length + 1), y.cells.length = 1 := fun y hy => by
                have hy := J5 hy;rcases D6.1 hy with h | h
                · exact Dx _ _ (J5 h)
                · rw [HQ.1 h]; rfl
              have hll : ((((pW x.1).take x.1.length ++ [V.af (.string aF)]).drop 0).take (x.1.length + 1)).length = x.1.length + 1 := by simp [hwl]
              have b3 : 2 + ((((pW x.1).take x.1.length ++ [V.af (.string aF)]).drop 0).take (x.1.length + 1)).length <= 9223372036854775807 := by rw [hll]; omega
              have b4 : (2 + ((((pW x.1).take x.1.length ++ [V.af (.string aF)]).drop 0).take (x.1.length + 1)).length) * 16 <= 140737488355328 := by rw [hll]; omega
              repeat' (first|(guard_hyp hK; first | refine Sk _ (UO hsub ?_) | refine Sk _ (UO hE ?_) | refine Sk _ (UO hD ?_) | refine bK b1 ?_ | refine bK b2 ?_ | refine bK b3 ?_ | refine bK b4 ?_ | refine bK hcs ?_)|(with_reducible first|(refine zz ?_;try intro K hK)|refine zI ?_|refine zt ?_|refine zf ?_)|((first|refine hK _ ?_|refine hK _ _ rfl ?_);clear hK K)|(guard_hyp hK;first|(refine zY ?zz ?_;case zz=>first|exact rfl|exact gJ)|(refine aC 50 g50 ?_)|(refine aC 51 g51 ?_)|refine aa ?_|refine zW ?_|intro b0 hb)|((first|with_reducible refine zm ?_|guard_hyp hK);refine zY ?_ ?_;all_goals(intro hb;(try simp only [sn,sb] at hb);try exact ao)))
              have e1 : (sV x.1).length = 2 + ((((pW x.1).take x.1.length ++ [V.af (.string aF)]).drop 0).take (x.1.length + 1)).length := by rw [hll]; simp [sV]; omega
              have e2 : (pW x.1).take x.1.length = pW x.1 := B7 (by rw [hwl]; exact wU _)
              have e3 : (((pW x.1).take x.1.length ++ [V.af (.string aF)]).drop 0).take (x.1.length + 1) = pW x.1 ++ [V.af (.string aF)] := by
                rw [e2, F4];exact B7 (by rw [List.length_append, hwl]; exact wU _)
              refine hR _ (r, (sV x.1, x.2 + 2)) ⟨fun y hy => hdp y (W8 _ hy), by show x.2 + 2 <= 62; omega, by show r.length <= k; omega, by show lO r + (sV x.1).length <= _; rw [e1, hll]; omega, hS⟩
                (qE (yt (a := 50) rfl rfl rfl rfl rfl ?_ rfl ?_ rfl ?_ B3 B3 (by repeat' first | exact nY | refine ju B3 ?_)) (ou rfl rfl) sI rfl (sF rfl rfl))
              · show (iL 0 r ++ [_]).set (0 + r.length) (V.own 50 1 0 (2 + ((((pW x.1).take x.1.length ++ [V.af (.string aF)]).drop 0).take (x.1.length + 1)).length)) = iL 0 r ++ [V.own 50 1 0 (sV x.1).length]
                rw [e1, C2, N3 _ _ (by rw [bj]; exact wU _), bj, H6]; rfl
              · show (lH r ++ [_]).set (0 + r.length) (V.af (.int .i64 ((x.2 : Int) + 2))) = lH r ++ [V.af (.int .i64 ((x.2 + 2 : Nat) : Int))]
                rw [C2, N3 _ _ (by rw [lH, List.length_map]; exact wU _), lH, List.length_map, H6]; rfl
              · show [V.af (.string aE), V.af (.string ft)] ++ ((((pW x.1).take x.1.length ++ [V.af (.string aF)]).drop 0).take (x.1.length + 1)) = pW (sV x.1);rw [e3];show _ = V.af _ :: V.af _ :: pW (x.1 ++ [(4, aF)]);rw [pW, pW, G7]; rfl
            · intro R2 hR2
              repeat' (first|(with_reducible first|(refine zz ?_;try intro K hK)|refine zI ?_|refine zt ?_|refine zf ?_)|((first|refine hK _ ?_|refine hK _ _ rfl ?_);clear hK K)|(guard_hyp hK;first|(refine zY ?zz ?_;case zz=>first|exact rfl|exact gJ)|refine ab ?_|refine aa ?_|refine zW ?_|intro b0 hb)|((first|with_reducible refine zm ?_|guard_hyp hK);refine zY ?_ ?_;all_goals(intro hb;(try simp only [sn,sb] at hb);try exact ao)))
              refine hR2 _ () trivial (qE (ou rfl rfl) (Sm (B4 (V.own 0 0 0) ln.symm) (B4 (V.own 1 0 0) ln.symm)) OO rfl (BS rfl rfl (B4 (fun n : Nat => V.af (.int .i64 n)) ln) rfl (B4 (fun b => V.af (.bool b)) (F9 (show (((r ++ [x]).length : Nat) : Int) > 0 by omega)))))
          · rw [if_neg k6] at hS;by_cases kB : 2 <= kd /\ kd <= 5 /\ 1 < st.length
            · rw [if_pos kB] at hS;obtain ⟨kb1, kb2, hpos⟩ := kB;obtain ⟨r, x, y, rfl⟩ := NK hpos;have ln : (r ++ [x, y]).length = r.length + 2 := by simp
              have gx : (r ++ [x, y]).getD r.length kI = x := by rw [List.getD, IX (wU _), H6]; rfl
              have gy : (r ++ [x, y]).getD (r.length + 1) kI = y := by rw [List.getD, IX A8, H4]; rfl
              rw [ln, show r.length + 2 - 2 = r.length by omega, show r.length + 2 - 1 = r.length + 1 by omega, O1, gx, gy] at hS;rw [ln] at hsz
              have htt : lO r + x.1.length + y.1.length <= 3 * k := by
                have e : lO (r ++ [x, y]) = lO r + (x.1.length + y.1.length) := by rw [Av]; simp [lO]
                rw [e] at htot; omega
              have g50 : ae (ko 0 r) 50 = none := eU B3;have g51 : ae (ko 0 r) 51 = none := eU B3;have g52 : ae (ko 0 r) 52 = none := eU B3;have g53 : ae (ko 0 r) 53 = none := eU B3;have g54 : ae (ko 0 r) 54 = none := eU B3;have hwx := mb x.1;have hwy := mb y.1;have hne6 : kd ≠ 6 := by omega
              repeat' (first|(refine RM (a := Code.region 20 _ _) Unit (fun _ => Wn Tryz.f37.ntmps l k r x y kd) (fun _ => True) ?_ ?_)|(with_reducible first|(refine zz ?_;try intro K hK)|refine zI ?_|refine zt ?_|refine zf ?_)|((first|refine hK _ ?_|refine hK _ _ rfl ?_);clear hK K)|(guard_hyp hK;first|(refine zY ?zz ?_;case zz=>first|exact rfl|exact gJ)|refine ab ?_|refine aa ?_|refine zW ?_|intro b0 hb)|((first|with_reducible refine zm ?_|guard_hyp hK);refine zY ?_ ?_;all_goals(intro hb;(try simp only [sn,sb] at hb);try exact ao)))
              · rintro - -;have hx60 : x.2 <= 60 := hdp x (by simp);have hy60 : y.2 <= 60 := hdp y (by simp);have hsub2 : ((r.length : Nat) : Int) = IntKind.i64.wrap (((r.length + 2 : Nat) : Int) - 2) := oK A8 A8 A8;have hsub1 : ((r.length + 1 : Nat) : Int) = IntKind.i64.wrap (((r.length + 2 : Nat) : Int) - 1) := oK A8 A8 A8
                have hE2 : (iL 0 r ++ [.own 2 0 0 x.1.length, .own 3 0 0 y.1.length])[0 + r.length]? = some (.own 2 0 0 x.1.length) := by
                  rw [C2, IX (by rw [bj]; exact wU _), bj, H6]; rfl
                have hE1 : (iL 0 r ++ [.own 2 0 0 x.1.length, .own 3 0 0 y.1.length])[0 + (r.length + 1)]? = some (.own 3 0 0 y.1.length) := by
                  rw [C2, IX (by rw [bj]; omega), bj, H4]; rfl
                have hD2 : (lH r ++ [.af (.int .i64 x.2), .af (.int .i64 y.2)])[0 + r.length]? = some (.af (.int .i64 x.2)) := by
                  rw [C2, lH, IX (by rw [List.length_map]; exact wU _), List.length_map, H6]; rfl
                have hD1 : (lH r ++ [.af (.int .i64 x.2), .af (.int .i64 y.2)])[0 + (r.length + 1)]? = some (.af (.int .i64 y.2)) := by
                  rw [C2, lH, IX (by rw [List.length_map]; omega), List.length_map, H4]; rfl
                have b0 : kd - 2 + 1 <= ((ByteArray.size ⟨#[43, 45, 42, 47]⟩ : Nat) : Int) := by
                  show kd - 2 + 1 <= (4 : Int);omega
                have hmax : ((max x.2 y.2 : Nat) : Int) = (if (x.2 : Int) < (y.2 : Int) then (y.2 : Int) else (x.2 : Int)) := by split <;> omega
                have hsg : (ByteArray.extract ⟨#[43, 45, 42, 47]⟩ (kd - 2).toNat (kd - 2 + 1).toNat) = rU kd := by
                  have hk4 : kd = 2 \/ kd = 3 \/ kd = 4 \/ kd = 5 := by omega
                  rcases hk4 with rfl | rfl | rfl | rfl <;> rfl
                have skp : ∀ i, 100 <= i -> ae (ko 0 r) i = ae (ko 0 r) i := fun _ _ => rfl
                have n1 : (((pW x.1).drop 0).take x.1.length).length = x.1.length := by simp [hwx]
                have c1 : ∀ v ∈ ((pW x.1).drop 0).take x.1.length, v.cells.length = 1 := fun v hv => Dx _ _ (J5 hv)
                have b1 : 1 + (((pW x.1).drop 0).take x.1.length).length <= 9223372036854775807 := by omega
                have b2 : (1 + (((pW x.1).drop 0).take x.1.length).length) * 16 <= 140737488355328 := by omega
                repeat' (first|(first | refine dU (a := Code.region 22 _ _) Unit (fun _ => Wp Tryz.f37.ntmps l k r x y (rU kd) ((4, aE) :: x.1) 1) (fun _ => True) ?_ ?_ | (guard_hyp hK; first | refine Sk _ (UO hsub2 ?_) | refine Sk _ (UO hE2 ?_) | refine bK b0 ?_ | refine bK b1 ?_ | refine bK b2 ?_ | refine bK c1 ?_))|(with_reducible first|(refine zz ?_;try intro K hK)|refine zI ?_|refine zt ?_|refine zf ?_)|((first|refine hK _ ?_|refine hK _ _ rfl ?_);clear hK K)|(guard_hyp hK;first|(refine zY ?zz ?_;case zz=>first|exact rfl|exact gJ)|(refine aC 50 g50 ?_)|(refine aC 51 g51 ?_)|(refine aC 52 g52 ?_)|(refine aC 53 g53 ?_)|(refine aC 54 g54 ?_)|refine aa ?_|refine zW ?_|intro b0 hb)|((first|with_reducible refine zm ?_|guard_hyp hK);refine zY ?_ ?_;all_goals(intro hb;(try simp only [sn,sb] at hb);try exact ao)))
                · rintro - -;clear b1 b2 c1 n1 hsub2 hE2;have hsub2 : ((r.length : Nat) : Int) = IntKind.i64.wrap (((r.length + 2 : Nat) : Int) - 2) := oK A8 A8 A8;have hw1 : ((4, aE) :: x.1).length = x.1.length + 1 := rfl;have hop : (pW ((4, aE) :: x.1)).length = x.1.length + 1 := by rw [mb]; rfl
                  obtain ⟨w1, e1⟩ : ∃ w1 : bV, w1 = (4, aE) :: x.1 := ⟨_, rfl⟩
                  rw [<- e1] at hw1 hop |-;have n3 : (((pW y.1).drop 0).take y.1.length).length = y.1.length := by simp [hwy]
                  have c3 : ∀ v ∈ ((pW y.1).drop 0).take y.1.length, v.cells.length = 1 := fun v hv => Dx _ _ (J5 hv)
                  have b3 : w1.length + 1 <= 9223372036854775807 := by omega
                  have b4 : (w1.length + 1) * 16 <= 140737488355328 := by omega
                  have b5 : w1.length + 1 + (((pW y.1).drop 0).take y.1.length).length <= 9223372036854775807 := by omega
                  have b6 : (w1.length + 1 + (((pW y.1).drop 0).take y.1.length).length) * 16 <= 140737488355328 := by omega
                  repeat' (first|(first | refine dU (a := Code.region 23 _ _) Unit (fun _ => Wp Tryz.f37.ntmps l k r x y (rU kd) (w1 ++ (4, rU kd) :: y.1) 3) (fun _ => True) ?_ ?_ | (guard_hyp hK; first | refine Sk _ (UO hsub1 ?_) | refine Sk _ (UO hE1 ?_) | refine bK b3 ?_ | refine bK b4 ?_ | refine bK b5 ?_ | refine bK b6 ?_ | refine bK c3 ?_))|(with_reducible first|(refine zz ?_;try intro K hK)|refine zI ?_|refine zt ?_|refine zf ?_)|((first|refine hK _ ?_|refine hK _ _ rfl ?_);clear hK K)|(guard_hyp hK;first|(refine zY ?zz ?_;case zz=>first|exact rfl|exact gJ)|(refine aC 51 g51 ?_)|(refine aC 52 g52 ?_)|(refine aC 53 g53 ?_)|(refine aC 54 g54 ?_)|refine aa ?_|refine zW ?_|intro b0 hb)|((first|with_reducible refine zm ?_|guard_hyp hK);refine zY ?_ ?_;all_goals(intro hb;(try simp only [sn,sb] at hb);try exact ao)))
                  · rintro - -;clear b3 b4 b5 b6 c3 n3 hsub1 hE1;have hw2 : (w1 ++ (4, rU kd) :: y.1).length = x.1.length + y.1.length + 2 := by rw [List.length_append, B9]; omega
                    have hwb : sW x.1 y.1 (rU kd) = (w1 ++ (4, rU kd) :: y.1) ++ [(4, aF)] := by rw [e1]; simp [sW]
                    obtain ⟨w2, e2⟩ : ∃ w2 : bV, w2 = w1 ++ (4, rU kd) :: y.1 := ⟨_, rfl⟩
                    rw [<- e2] at hw2 hwb |-;have hsub1 : ((r.length + 1 : Nat) : Int) = IntKind.i64.wrap (((r.length + 2 : Nat) : Int) - 1) := oK A8 A8 A8;have b7 : w2.length + 1 <= 9223372036854775807 := by omega
                    have b8 : (w2.length + 1) * 16 <= 140737488355328 := by omega
                    have b9 : ((r.length : Nat) : Int).toNat + 1 <= 9223372036854775807 := by omega
                    have b10 : (((r.length : Nat) : Int).toNat + 1) * 24 <= 140737488355328 := by omega
                    have b11 : (((r.length : Nat) : Int).toNat + 1) * 8 <= 140737488355328 := by omega
                    repeat' (first|(guard_hyp hK; first | refine Sk _ (UO hsub2 ?_) | refine Sk _ (UO hsub1 ?_) | refine Sk _ (UO hD2 ?_) | refine Sk _ (UO hD1 ?_) | refine Sk _ (UO hmax ?_) | refine bK b7 ?_ | refine bK b8 ?_ | refine bK b9 ?_ | refine bK b10 ?_ | refine bK b11 ?_)|(with_reducible first|(refine zz ?_;try intro K hK)|refine zI ?_|refine zt ?_|refine zf ?_)|((first|refine hK _ ?_|refine hK _ _ rfl ?_);clear hK K)|(guard_hyp hK;first|(refine zY ?zz ?_;case zz=>first|exact rfl|exact gJ)|(refine aC 51 g51 ?_)|(refine aC 52 g52 ?_)|(refine aC 53 g53 ?_)|(refine aC 54 g54 ?_)|refine aa ?_|refine zW ?_|intro b0 hb)|((first|with_reducible refine zm ?_|guard_hyp hK);refine zY ?_ ?_;all_goals(intro hb;(try simp only [sn,sb] at hb);try exact ao)))
                    refine hR _ (r, (sW x.1 y.1 (rU kd), max x.2 y.2 + 1)) ⟨fun z hz => hdp z (W8 _ hz), by show max x.2 y.2 + 1 <= 62; omega, by show r.length <= k; omega, by show lO r + (sW x.1 y.1 (rU kd)).length <= _; rw [hwb, List.length_append, hw2]; show _ + (_ + 1) <= _; omega, hS⟩
                      (qE (yt (a := 50) rfl (show ((r.length : Nat) : Int).toNat + 1 = r.length + 1 by omega) rfl (show ((r.length : Nat) : Int).toNat + 1 = r.length + 1 by omega) rfl ?_ rfl ?_ rfl ?_ B3 B3 (by repeat' first | exact nY | refine ju B3 ?_)) (ou rfl rfl) sI rfl (sF rfl rfl))
                    · show (iL 0 r ++ [_, _]).take ((r.length : Nat) : Int).toNat ++ [V.own 50 4 0 (w2.length + 1)] = iL 0 r ++ [V.own 50 4 0 (sW x.1 y.1 (rU kd)).length]
                      rw [hwb, List.length_append, show ((r.length : Nat) : Int).toNat = (iL 0 r).length by rw [bj]; omega, O1]; rfl
                    · show (lH r ++ [_, _]).take ((r.length : Nat) : Int).toNat ++ [V.af (.int .i64 (((max x.2 y.2 : Nat) : Int) + 1))] = lH r ++ [V.af (.int .i64 ((max x.2 y.2 + 1 : Nat) : Int))]
                      rw [show ((r.length : Nat) : Int).toNat = (lH r).length by rw [lH, List.length_map]; omega, O1]; rfl
                    · show (pW w2).take w2.length ++ [V.af (.string aF)] = pW (sW x.1 y.1 (rU kd));rw [hwb, B7 (by rw [mb]; exact wU _), pW, pW, G7]; rfl
                  · intro R2 hR2
                    repeat' (first|(guard_hyp hK; first | refine Sk _ (UO hsub1 ?_) | refine Sk _ (UO hE1 ?_) | refine bK b3 ?_ | refine bK b4 ?_ | refine bK b5 ?_ | refine bK b6 ?_ | refine bK c3 ?_)|(with_reducible first|(refine zz ?_;try intro K hK)|refine zI ?_|refine zt ?_|refine zf ?_)|((first|refine hK _ ?_|refine hK _ _ rfl ?_);clear hK K)|(guard_hyp hK;first|(refine zY ?zz ?_;case zz=>first|exact rfl|exact gJ)|(refine aC 51 g51 ?_)|(refine aC 52 g52 ?_)|refine aa ?_|refine zW ?_|intro b0 hb)|((first|with_reducible refine zm ?_|guard_hyp hK);refine zY ?_ ?_;all_goals(intro hb;(try simp only [sn,sb] at hb);try exact ao)))
                    refine hR2 _ () trivial (JV rfl rfl rfl rfl rfl rfl rfl rfl ?_ rfl ?_ rfl rfl rfl rfl (by repeat' first | exact nY | refine ju B3 ?_))
                    · show w1.length + 1 + (((pW y.1).drop 0).take y.1.length).length = (w1 ++ (4, rU kd) :: y.1).length;rw [List.length_append, B9, n3]; omega
                    · show ((pW w1).take w1.length ++ [V.af (.string (rU kd))]).take (w1.length + 1) ++ ((pW y.1).drop 0).take y.1.length = pW (w1 ++ (4, rU kd) :: y.1);rw [B7 (l := pW w1) (by rw [mb]; exact wU _), B7 (l := pW w1 ++ _) (by rw [List.length_append, mb]; exact wU _), F4, B7 (by rw [hwy]; exact wU _)];rw [pW, pW, pW, G7, E7, List.append_assoc]; rfl
                · intro R2 hR2
                  repeat' (first|(guard_hyp hK; first | refine Sk _ (UO hsub2 ?_) | refine Sk _ (UO hE2 ?_) | refine bK b0 ?_ | refine bK b1 ?_ | refine bK b2 ?_ | refine bK c1 ?_)|(with_reducible first|(refine zz ?_;try intro K hK)|refine zI ?_|refine zt ?_|refine zf ?_)|((first|refine hK _ ?_|refine hK _ _ rfl ?_);clear hK K)|(guard_hyp hK;first|(refine zY ?zz ?_;case zz=>first|exact rfl|exact gJ)|(refine aC 50 g50 ?_)|refine aa ?_|refine zW ?_|intro b0 hb)|((first|with_reducible refine zm ?_|guard_hyp hK);refine zY ?_ ?_;all_goals(intro hb;(try simp only [sn,sb] at hb);try exact ao)))
                  refine hR2 _ () trivial (JV rfl rfl rfl rfl rfl rfl (B4 (fun b => V.af (.string b)) hsg) rfl ?_ rfl ?_ rfl rfl rfl rfl (by repeat' first | exact nY | refine ju B3 ?_))
                  · show 1 + (((pW x.1).drop 0).take x.1.length).length = x.1.length + 1;omega
                  · show V.af (.string aE) :: ((pW x.1).drop 0).take x.1.length = pW ((4, aE) :: x.1);rw [F4, B7 (by rw [hwx]; exact wU _)]; rfl
              · intro R2 hR2
                repeat' (first|(with_reducible first|(refine zz ?_;try intro K hK)|refine zI ?_|refine zt ?_|refine zf ?_)|((first|refine hK _ ?_|refine hK _ _ rfl ?_);clear hK K)|(guard_hyp hK;first|(refine zY ?zz ?_;case zz=>first|exact rfl|exact gJ)|refine ab ?_|refine aa ?_|refine zW ?_|intro b0 hb)|((first|with_reducible refine zm ?_|guard_hyp hK);refine zY ?_ ?_;all_goals(intro hb;(try simp only [sn,sb] at hb);try exact ao)))
                exact hR2 _ () trivial (qE (ou rfl rfl) (Sl (B4 (V.own 0 0 0) ln.symm) (B4 (V.own 1 0 0) ln.symm)) Nz rfl (BS rfl rfl (B4 (fun n : Nat => V.af (.int .i64 n)) ln) rfl (B4 (fun b => V.af (.bool b)) (F9 (show (((r ++ [x, y]).length : Nat) : Int) > 1 by omega)))))
            · rw [if_neg kB] at hS;have hnn := rtn (hnone hS)
              repeat' (first|(with_reducible first|(refine zz ?_;try intro K hK)|refine zI ?_|refine zt ?_|refine zf ?_)|((first|refine hK _ ?_|refine hK _ _ rfl ?_);clear hK K)|(guard_hyp hK;first|(refine zY ?zz ?_;case zz=>first|exact rfl|exact gJ)|refine ab ?_|refine aa ?_|refine zW ?_|intro b0 hb)|((first|with_reducible refine zm ?_|guard_hyp hK);refine zY ?_ ?_;all_goals(intro hb;(try simp only [sn,sb] at hb);try exact ao)))
              all_goals exact hnn _ rfl rfl
    · intro R hR;have hle : ∀ s', Le (Xu Tryz.f37.ntmps l (k, st) t.kind) s' -> t.kind = 1 \/ t.Pu -> R s' := fun s' h1 h2 => hR s' () h2 h1
      clear hR;have hno : t.kind ≠ 1 -> ¬ t.Pu -> lA l = .ba [.sl [], .af (.bool false)] := fun h1 h2 => hI.none hlt (by rw [<- ht]; exact if_pos ⟨h1, h2⟩)
      repeat' (first|(guard_hyp hK; refine Sk _ (UO hat ?_))|(with_reducible first|(refine zz ?_;try intro K hK)|refine zI ?_|refine zt ?_|refine zf ?_)|((first|refine hK _ ?_|refine hK _ _ rfl ?_);clear hK K)|(guard_hyp hK;first|(refine zY ?zz ?_;case zz=>first|exact rfl|exact gJ)|refine ab ?_|refine aa ?_|refine zW ?_|intro b0 hb)|((first|with_reducible refine zm ?_|guard_hyp hK);refine zY ?_ ?_;all_goals(intro hb;(try simp only [sn,sb] at hb);try exact ao)))
      all_goals first
        | (rw [hno A8 (WI (by first | exact Or.inl (by assumption) | exact Or.inr (Or.inl A8) | exact Or.inr (Or.inr A8)))]
           exact ⟨trivial, _, _, rfl, jK rfl, ay rfl⟩)
        | (refine hle _ ⟨rfl, ⟨rfl, trivial, rfl, rfl, rfl, rfl, rfl, trivial, rfl, trivial, rfl, trivial, trivial⟩, NX rfl rfl (ju B3 (ju B3 nY)), Qz st⟩ ?_
           first
             | exact Or.inl ‹_›
             | exact Or.inr ⟨‹_›, C8 A8, C8 A8⟩)
  · obtain rfl : k = l.length := by omega
    have hst : nB l [] = some st := by rw [hrun, O6]; rfl
    have rtn : lA l = .ba [.sl [], .af (.bool false)] -> ∀ s' : St, aA s'.env 2 = .emp -> aA s'.env 3 = .af (.bool false) -> kz Tryz.prog Tryz.f37 true (lA l) .ret s' := fun h s' e2 e3 => by
      rw [h];refine ⟨trivial, ?_⟩;show ∃ t1 t2, _ /\ gM s'.oh true (aA s'.env 2) t1 /\ gM s'.oh true (aA s'.env 3) t2;rw [e2, e3];exact ⟨_, _, rfl, jK rfl, ay rfl⟩
    clear hI hrun hsz htot hdp;rcases st with _ | ⟨x, _ | ⟨y, q⟩⟩
    · have hnn := rtn (by unfold lA jT; rw [hst]);have hne : List.length (([] : fh)) = 0 := rfl
      repeat' (first|(with_reducible first|(refine zz ?_;try intro K hK)|refine zI ?_|refine zt ?_|refine zf ?_)|((first|refine hK _ ?_|refine hK _ _ rfl ?_);clear hK K)|(guard_hyp hK;first|(refine zY ?zz ?_;case zz=>first|exact rfl|exact gJ)|refine ab ?_|refine aa ?_|refine zW ?_|intro b0 hb)|((first|with_reducible refine zm ?_|guard_hyp hK);refine zY ?_ ?_;all_goals(intro hb;(try simp only [sn,sb] at hb);try exact ao)))
      exact hnn _ rfl rfl
    · have hR : lA l = .ba [.sl (iD (x.1.map fS)), .af (.bool true)] := by unfold lA jT; rw [hst]
      repeat' (first|(with_reducible first|(refine zz ?_;try intro K hK)|refine zI ?_|refine zt ?_|refine zf ?_)|((first|refine hK _ ?_|refine hK _ _ rfl ?_);clear hK K)|(guard_hyp hK;first|(refine zY ?zz ?_;case zz=>first|exact rfl|exact gJ)|refine ab ?_|refine aa ?_|refine zW ?_|intro b0 hb)|((first|with_reducible refine zm ?_|guard_hyp hK);refine zY ?_ ?_;all_goals(intro hb;(try simp only [sn,sb] at hb);try exact ao)))
      rw [hR];refine ⟨trivial, _, _, rfl, gW (F := fun w => V.af (.string (fS w))) (G := fun w => gG (fS w)) (l := x.1) rfl rfl rfl rfl ?_ (fun w _ => gp _) ?_, ay rfl⟩
      · show ((pW x.1).drop 0).take x.1.length = pW x.1;rw [F4];exact B7 (by rw [mb]; exact wU _)
      · rw [iD, List.map_map]; rfl
    · have hnn := rtn (by unfold lA jT; rw [hst]);have hne : List.length (x :: y :: q) = q.length + 2 := rfl
      repeat' (first|(with_reducible first|(refine zz ?_;try intro K hK)|refine zI ?_|refine zt ?_|refine zf ?_)|((first|refine hK _ ?_|refine hK _ _ rfl ?_);clear hK K)|(guard_hyp hK;first|(refine zY ?zz ?_;case zz=>first|exact rfl|exact gJ)|refine ab ?_|refine aa ?_|refine zW ?_|intro b0 hb)|((first|with_reducible refine zm ?_|guard_hyp hK);refine zY ?_ ?_;all_goals(intro hb;(try simp only [sn,sb] at hb);try exact ao)))
      exact hnn _ rfl rfl
end Go.Ev
