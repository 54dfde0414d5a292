import Derived.Test.YthpoegdjffdojaaGreatDoorULat
set_option linter.all false
set_option maxHeartbeats 8000000
set_option maxRecDepth 10000
namespace Go.Ev
open Go.Proofs
theorem lo {p:Prop}(h:p:=by first|omega|(simp only [ln];omega)):p:=h
theorem Pc (x:UInt32):Ok Tryz.prog 154 [bw x] true (.af (.int .i64 (32 - fM x.toNat:Nat))):=by
 refine aw bN mix Tryz.func154 rfl rfl B1 (zO rfl) ?_;have hl:=pw (E6 x)
 repeat'(first|(with_reducible first|(refine zz ?_;try intro K hK)|refine zi ?_|refine zh ?_)|((first|apply hK _ _ rfl|apply hK);clear hK K)|(guard_hyp hK;first|refine zy ?_|(refine aC 0 rfl ?_)|(refine aC 1 rfl ?_)|(refine aC 2 rfl ?_)|apply aa|(refine aY ?_;intro hu)|refine zP wA ?_|(refine aD ?_;intro hm1 hm2)|refine zP aZ ?_|refine zP rfl ?_|(refine zQ (Cs x) ?_)|intro b0 hb)|((first|refine zj ?_|guard_hyp hK);refine zY ?_ ?_;all_goals(intro hb;(try simp only [sn,sb] at hb);try exact ao)))
 exact UO trivial (ay (by rw [Int.natCast_sub hl];rfl))
theorem Nb (oh:OH)(l:List UInt32):∀v ∈ l.map cu,v.cl oh:=by
 intro v hv;obtain⟨x,-,rfl⟩:=D4.1 hv;trivial
def WG (l:List UInt32):Obj:=⟨1,l.map cu,0,true⟩
theorem yh {oh:OH}{id ver:Nat}{l:List UInt32}(h:ae oh id=some ⟨1,l.map cu,ver,true⟩):Ren oh [(0,WG l)] (fun _=>id):=by
 refine yg (ver:=ver) h fun e he=>?_
 obtain⟨x,-,rfl⟩:=D4.1 he;exact⟨_,rfl⟩
theorem yw (l:List UInt32)(hl:l.length<=2199023255552)(h0:norm l≠[]):IG Tryz.prog 49 [tn l] [(0,WG (norm l))] (.own 0 0 0 (norm l).length):=by
 refine kf bN mix Tryz.func49 rfl rfl B1 (zO rfl) ?_;have hn:=norm_le l;have h1:=G3.2 h0
 repeat'(first|(with_reducible first|(refine zz ?_;try intro K hK)|refine zi ?_|refine zh ?_)|((first|apply hK _ _ rfl|apply hK);clear hK K)|(guard_hyp hK;first|refine zy ?_|apply ab|apply aa|(refine aY ?_;intro hu)|refine zP wA ?_|(refine aD ?_;intro hm1 hm2)|refine zP aZ ?_|refine zP rfl ?_|(refine zQ (eo l A8) ?_)|(refine Or.inr (sy (xh (norm l) A8 h1) ?_))|intro b0 hb)|((first|refine zj ?_|guard_hyp hK);refine zY ?_ ?_;all_goals(intro hb;(try simp only [sn,sb] at hb);try exact ao)))
 exact⟨trivial,false,_,fun _=>0,rfl,yh (ver:=0) rfl,fg.own 0 0 0 _ _ rfl rfl rfl⟩
theorem II (a b:List UInt32)(ha:a.length<=2147483648)(hb9:b.length<=2147483648)(h0:val b≠0)(hlt:val a < val b):Ok Tryz.prog 138 [tn a,tn b] true (.ba [tn (lm (val a / val b)),tn (lm (val a % val b)),.af (.int .i64 0)]):=by
 have hna:=norm_le a;have hnb:=norm_le b;have hva:=bX a;have hvb:=bX b;rw [<- hva,<- hvb] at hlt |-;refine aw bN mix Tryz.func138 rfl rfl B1 (zO rfl) ?_
 repeat'(first|(with_reducible first|(refine zz ?_;try intro K hK)|refine zi ?_|refine zh ?_)|((first|apply hK _ _ rfl|apply hK);clear hK K)|(guard_hyp hK;first|refine zy ?_|(refine aC 0 rfl ?_)|(refine aC 1 rfl ?_)|(refine aC 2 rfl ?_)|apply aa|(refine aY ?_;intro hu)|refine zP wA ?_|(refine aD ?_;intro hm1 hm2)|refine zP aZ ?_|refine zP rfl ?_|(refine zQ (eo a A8) ?_)|(refine zQ (eo b A8) ?_)|intro b0 hb)|((first|refine zj ?_|guard_hyp hK);refine zY ?_ ?_;all_goals(intro hb;(try simp only [sn,sb] at hb);try exact ao)))
 ·exfalso;have h9:norm b=[]:=C8 A8;rw [h9] at hvb;exact h0 (by rw [<- hvb];rfl)
 generalize norm a=x at *;generalize norm b=y at *;clear hva hvb;have hc0:qW (val x) (val y) < 0:=by unfold qW;simp [hlt]
 repeat'(first|(with_reducible first|(refine zz ?_;try intro K hK)|refine zi ?_|refine zh ?_)|((first|apply hK _ _ rfl|apply hK);clear hK K)|(guard_hyp hK;first|refine zy ?_|(refine aC 0 rfl ?_)|(refine aC 1 rfl ?_)|(refine aC 2 rfl ?_)|apply aa|(refine aY ?_;intro hu)|refine zP wA ?_|(refine aD ?_;intro hm1 hm2)|refine zP aZ ?_|refine zP rfl ?_|(refine zQ (MW x y A8 A8) ?_)|(refine zQ (iu x A8) ?_)|intro b0 hb)|((first|refine zj ?_|guard_hyp hK);refine zY ?_ ?_;all_goals(intro hb;(try simp only [sn,sb] at hb);try exact ao)))
 rw [N6 hlt,E2 hlt];exact⟨trivial,_,_,_,rfl,jK (by rw [(gV 0).2 rfl];rfl),kr (by rw [bL]) fun h=>h,ay rfl⟩
theorem EF (a b:List UInt32)(ha:a.length<=2147483648)(hb9:b.length<=2147483648)(h0:val b≠0)(hle:val b<=val a):IG Tryz.prog 138 [tn a,tn b] [(0,WG (lm (val a / val b)))] (.ba [.own 0 0 0 (lm (val a / val b)).length,.ro true (tn (lm (val a % val b))),.af (.int .i64 0)]):=by
 have hna:=norm_le a;have hnb:=norm_le b;have hva:=bX a;have hvb:=bX b;have hcx:=jj a;have hcy:=jj b;rw [<- hva,<- hvb] at hle |-;refine kf bN mix Tryz.func138 rfl rfl B1 (zO rfl) ?_
 repeat'(first|(with_reducible first|(refine zz ?_;try intro K hK)|refine zi ?_|refine zh ?_)|((first|apply hK _ _ rfl|apply hK);clear hK K)|(guard_hyp hK;first|refine zy ?_|(refine aC 0 rfl ?_)|(refine aC 1 rfl ?_)|(refine aC 2 rfl ?_)|apply aa|(refine aY ?_;intro hu)|refine zP wA ?_|(refine aD ?_;intro hm1 hm2)|refine zP aZ ?_|refine zP rfl ?_|(refine zQ (eo a A8) ?_)|(refine zQ (eo b A8) ?_)|intro b0 hb)|((first|refine zj ?_|guard_hyp hK);refine zY ?_ ?_;all_goals(intro hb;(try simp only [sn,sb] at hb);try exact ao)))
 ·exfalso;have h9:norm b=[]:=C8 A8;rw [h9] at hvb;exact h0 (by rw [<- hvb];rfl)
 generalize norm a=x at *;generalize norm b=y at *;rw [<- hvb] at h0;clear hva hvb;have hy0:y≠[]:=fun e=>h0 (by rw [e];rfl)
 have hyt:(y.getD (y.length - 1) default).toNat≠0:=fun e=>(hcy.resolve_left hy0) (M9.1 e)
 have hx0:0<=qW (val x) (val y)->x≠[]:=fun h e=>by
  have:=Cc h;rw [e] at this;exact h0 (Nat.le_zero.1 this)
 repeat'(first|(with_reducible first|(refine zz ?_;try intro K hK)|refine zi ?_|refine zh ?_)|((first|apply hK _ _ rfl|apply hK);clear hK K)|(guard_hyp hK;first|refine zy ?_|(refine aC 0 rfl ?_)|(refine aC 1 rfl ?_)|(refine aC 2 rfl ?_)|apply aa|(refine aY ?_;intro hu)|refine zP wA ?_|(refine aD ?_;intro hm1 hm2)|refine zP aZ ?_|refine zP rfl ?_|(refine zQ (MW x y A8 A8) ?_)|(refine zQ (iu x A8) ?_)|(refine Or.inr (sy (xh x A8 (G3.2 (hx0 (by assumption)))) ?_))|intro b0 hb)|((first|refine zj ?_|guard_hyp hK);refine zY ?_ ?_;all_goals(intro hb;(try simp only [sn,sb] at hb);try exact ao)))
 ·clear hx0;have hlt:=Mq hb;exact absurd hlt (Nat.not_lt.2 hle)
 ·rename_i hcm;have hx1:=hx0 hcm;have hy1:(y.getD 0 default).toNat≠0:=by rwa [show y.length - 1=0 by omega] at hyt
  repeat'(first|(with_reducible first|(refine zz ?_;try intro K hK)|refine zi ?_|refine zh ?_)|((first|apply hK _ _ rfl|apply hK);clear hK K)|(guard_hyp hK;first|refine zy ?_|(refine aC 0 rfl ?_)|(refine aC 1 rfl ?_)|(refine aC 2 rfl ?_)|apply aa|(refine aY ?_;intro hu)|refine zP wA ?_|(refine aD ?_;intro hm1 hm2)|refine zP aZ ?_|refine zP rfl ?_|(refine Or.inr (Or.inl (FJ (0) (0) (JS x (y.getD 0 default) hy1 A8 hx1) ?hmo ?hmv ?hma rfl ?_));(case hmo=>rfl);(case hmv=>exact⟨⟨_,HQ.2 rfl,rfl⟩,trivial,trivial⟩);(case hma=>exact⟨.own 0 0 _,.af _,trivial⟩))|intro b0 hb)|((first|refine zj ?_|guard_hyp hK);refine zY ?_ ?_;all_goals(intro hb;(try simp only [sn,sb] at hb);try exact ao)))
  repeat'(first|(with_reducible first|(refine zz ?_;try intro K hK)|refine zi ?_|refine zh ?_)|((first|apply hK _ _ rfl|apply hK);clear hK K)|(guard_hyp hK;first|refine zy ?_|(refine aC 0 rfl ?_)|(refine aC 1 rfl ?_)|(refine aC 2 rfl ?_)|apply aa|(refine aY ?_;intro hu)|refine zP wA ?_|(refine aD ?_;intro hm1 hm2)|refine zP aZ ?_|refine zP rfl ?_|intro b0 hb)|((first|refine zj ?_|guard_hyp hK);refine zY ?_ ?_;all_goals(intro hb;(try simp only [sn,sb] at hb);try exact ao)))
  have hyv:val y=(y.getD 0 default).toNat:=by
   have:=gY (l:=y) (i:=0) A8;rw [F4,I7 A8] at this;simpa [val] using this
  have hqe:norm (ig x.length (val x / (y.getD 0 default).toNat))=lm (val x / (y.getD 0 default).toNat):=by rw [bL,ja _ _ (N4 (X2 _ _) (dZ x))]
  have hq0:norm (ig x.length (val x / (y.getD 0 default).toNat))≠[]:=by
   rw [hqe];exact fun e=>R0 (Nat.div_pos (by rw [<- hyv];exact hle) (I9 hy1)) ((gV _).1 e)
  have hpl:(ig x.length (val x / (y.getD 0 default).toNat)).length<=2199023255552:=by rw [eJ];omega
  repeat'(first|(with_reducible first|(refine zz ?_;try intro K hK)|refine zi ?_|refine zh ?_)|((first|apply hK _ _ rfl|apply hK);clear hK K)|(guard_hyp hK;first|refine zy ?_|(refine aC 0 rfl ?_)|(refine aC 1 rfl ?_)|(refine aC 2 rfl ?_)|apply aa|(refine aY ?_;intro hu)|refine zP wA ?_|(refine aD ?_;intro hm1 hm2)|refine zP aZ ?_|refine zP rfl ?_|(refine' Or.inr (Or.inr (Or.inr (BA (yw (ig x.length (val x / (y.getD 0 default).toNat)) hpl hq0) (0) ?lh ?lz ?_)));(case lh=>exact rfl);(case lz=>exact DZ (yW (l:=ig x.length (val x / (y.getD 0 default).toNat)) (ver:=0) (B4 some rfl:some _=some _) (eJ _ _))))|intro b0 hb)|((first|refine zj ?_|guard_hyp hK);refine zY ?_ ?_;all_goals(intro hb;(try simp only [sn,sb] at hb);try exact ao)))
  rw [hqe]
  repeat'(first|(with_reducible first|(refine zz ?_;try intro K hK)|refine zi ?_|refine zh ?_)|((first|apply hK _ _ rfl|apply hK);clear hK K)|(guard_hyp hK;first|refine zy ?_|(refine aC 0 rfl ?_)|(refine aC 1 rfl ?_)|(refine aC 2 rfl ?_)|apply aa|(refine aY ?_;intro hu)|refine zP wA ?_|(refine aD ?_;intro hm1 hm2)|refine zP aZ ?_|refine zP rfl ?_|intro b0 hb)|((first|refine zj ?_|guard_hyp hK);refine zY ?_ ?_;all_goals(intro hb;(try simp only [sn,sb] at hb);try exact ao)))
  refine Or.inl (Sk _ (Sk _ (Sk _ (UO (iu [UInt32.ofNat (val x % (y.getD 0 default).toNat)] (by simp)) (Sk [(2,?o)] (UO (uC ?ho) (UO ?z (UO rfl ?_))))))))
  case ho=>exact rfl
  case z=>
   refine DZ (yW (l:=[UInt32.ofNat (val x % (y.getD 0 default).toNat)]) (ver:=0) ?_ rfl);refine B4 (fun c=>some (Obj.mk 1 [V.af (.int .u32 c)] 0 true)) (?_:((val x % (y.getD 0 default).toNat:Nat):Int)=((UInt32.ofNat (val x % (y.getD 0 default).toNat)).toNat:Int));rw [E9,E2 (Nat.lt_trans (J9 _ (I9 hy1)) (E6 _))]
  repeat'(first|(with_reducible first|(refine zz ?_;try intro K hK)|refine zi ?_|refine zh ?_)|((first|apply hK _ _ rfl|apply hK);clear hK K)|(guard_hyp hK;first|refine zy ?_|apply ab|apply aa|(refine aY ?_;intro hu)|refine zP wA ?_|(refine aD ?_;intro hm1 hm2)|refine zP aZ ?_|refine zP rfl ?_|intro b0 hb)|((first|refine zj ?_|guard_hyp hK);refine zY ?_ ?_;all_goals(intro hb;(try simp only [sn,sb] at hb);try exact ao)))
  rw [hyv]
  have hre:norm [UInt32.ofNat (val x % (y.getD 0 default).toNat)]=lm (val x % (y.getD 0 default).toNat):=by
   rw [bL];show lm ((UInt32.ofNat _).toNat+4294967296 * 0)=_;rw [E9,E2 (Nat.lt_trans (J9 _ (I9 hy1)) (E6 _))];rfl
  rw [hre];exact⟨trivial,false,_,fun _=>1,rfl,yh (ver:=0) rfl,_,_,_,rfl,fg.own 0 0 0 _ _ rfl rfl rfl,fg.ro _ _,fg.af _⟩
 ·rename_i hcm;have hx1:=hx0 hcm
  have hlen:y.length<=x.length:=by
   rcases G8 x.length y.length with h|h
   ·have h1:=kX hcy h;have h2:=Cc hcm;omega
   ·exact h
  obtain⟨hs,htp,hup⟩:=GP hyt (E6 _);have lzY:=Pc (y.getD (y.length - 1) default);obtain⟨s,hsd⟩:∃s,32 - fM (y.getD (y.length - 1) default).toNat=s:=⟨_,rfl⟩
  rw [hsd] at lzY hs htp hup;rw [show y.length - 1=((List.map bw y).length - 1:Int).toNat by rw [List.length_map];omega] at lzY
  repeat'(first|(with_reducible first|(refine zz ?_;try intro K hK)|refine zi ?_|refine zh ?_)|((first|apply hK _ _ rfl|apply hK);clear hK K)|(guard_hyp hK;first|refine zy ?_|(refine aC 0 rfl ?_)|(refine aC 1 rfl ?_)|(refine aC 2 rfl ?_)|apply aa|(refine aY ?_;intro hu)|refine zP wA ?_|(refine aD ?_;intro hm1 hm2)|refine zP aZ ?_|refine zP rfl ?_|(refine zQ (lzY) ?_)|(refine Or.inr (sy (BB x s hs A8) ?_))|(refine zQ (Pj y s hs A8) ?_)|(refine zQ (eo (ig (y.length+1) (val y * 2 ^ s)) (by rw [eJ];omega)) ?_)|intro b0 hb)|((first|refine zj ?_|guard_hyp hK);refine zY ?_ ?_;all_goals(intro hb;(try simp only [sn,sb] at hb);try exact ao)))
  obtain⟨W,hV⟩:∃W,val y * 2 ^ s=W:=⟨_,rfl⟩
  obtain⟨n,hn⟩:∃n,y.length=n:=⟨_,rfl⟩
  have hn2:2<=n:=by
   have:y.length≠0:=fun e=>hy0 (C8 e)
   omega
  obtain⟨hV1,hV2⟩:=Io (b:=y) (s:=s) hn A8 (by rw [<- hn];exact htp) (by rw [<- hn];exact hup);rw [hV] at hV1 hV2 |-;rw [hn] at |- hlen;have hvl:val (ig (n+1) W)=W:=ja _ _ (by rw [H9];omega);obtain⟨v,hv⟩:∃v,norm (ig (n+1) W)=v:=⟨_,rfl⟩
  have hvV:val v=W:=by rw [<- hv,bX,hvl]
  have hvn:v.length=n:=by
   rw [<- hv,bL,hvl];exact HT A8 A8 hV2
  rw [hv];obtain⟨U,hU⟩:∃U,val x * 2 ^ s=U:=⟨_,rfl⟩
  have hUl:U < 4294967296 ^ x.length * 2 ^ s:=by rw [<- hU];exact T0 (dZ x) (M3 B3)
  have hm:((x.length:Int) - n+1).toNat=x.length - n+1:=by omega
  refine aT (Int×List UInt32×List UInt32) (fun(i,p,q)=>⟨Tryz.f138.ntmps,[(9,.af (.int .i64 s)),(10,.own 0 0 0 (x.length+1)),(11,.ro false (tn v)),(12,.own 1 0 0 (x.length - n+1)),(13,.af (.int .i64 i))],[(0,⟨1,p.map cu,0,true⟩),(1,⟨1,q.map cu,0,true⟩)]⟩)
   (fun(i,p,q)=>-1<=i/\i < (x.length - n+1:Nat)/\p.length=x.length+1/\q.length=x.length - n+1/\U=W * (4294967296 ^ (i+1).toNat * val (q.drop (i+1).toNat))+val p/\val (p.drop (i+1).toNat) < W) (fun(i,p,q)=>(i+1).toNat) []
   (((x.length - n+1:Nat):Int) - 1,ig (x.length+1) (val x * 2 ^ s),List.replicate (x.length - n+1) 0) trivial ⟨by omega,by omega,eJ _ _,by simp,?_,?_⟩ ⟨rfl,⟨rfl,trivial,rfl,rfl,?_,trivial,?_,rfl,?_,trivial,trivial⟩,⟨?_,?_,trivial⟩,?_⟩ ?_
  ·have e1:((x.length - n+1:Nat):Int) - 1+1=((x.length - n+1:Nat):Int):=by omega
   rw [e1,K4,List.drop_of_length_le (by simp),hU,ja _ _ (by rw [H9];have:=wJ hs;exact L0 hUl (H7 _ (O0 this)))];have e9:val ([]:List UInt32)=0:=rfl;rw [e9,O9,O9,C2]
  ·have e1:((x.length - n+1:Nat):Int) - 1+1=((x.length - n+1:Nat):Int):=by omega
   rw [e1,K4,<- jt,hU,ja _ _ (by rw [H9];have:=wJ hs;exact L0 hUl (H7 _ (O0 this))),N2 (M3 B3)];refine L0 hUl ?_;have e2:4294967296 ^ x.length=4294967296 ^ (n - 1) * 4294967296 ^ (x.length - n+1):=by rw [<- P3];congr 1;omega
   have h5:2 ^ s<=2147483648:=K8 B3 (show s<=31 by omega);rw [e2,Nat.mul_right_comm];exact F6 _ (G6 (H7 _ h5) hV1)
  ·rfl
  ·show V.own 1 0 0 (((x.map bw).length:Int) - ((y.map bw).length:Int)+1).toNat=_;rw [List.length_map,List.length_map,hn,hm]
  ·show V.af (.int .i64 (((((x.map bw).length:Int) - ((y.map bw).length:Int)+1).toNat:Int) - 1))=_;rw [List.length_map,List.length_map,hn,hm]
  ·rfl
  ·refine B4 (fun l=>some (Obj.mk 1 l 0 true)) (?_:List.replicate (((x.map bw).length:Int) - ((y.map bw).length:Int)+1).toNat (V.af (.int .u32 0))=_);rw [List.length_map,List.length_map,hn,hm,List.map_replicate];rfl
  ·exact⟨Nb _ _,Nb _ _,trivial⟩
  rintro⟨i,p,q⟩ ⟨h1,h2,h3,h4,h5,h6⟩;have kp0:=EE.mk (UO hup (UO htp (UO hUl (UO hU (UO hV1 (UO hV2 (UO hvl hvV)))))));clear lzY hsd hup;by_cases hi0:0<=i
  ·obtain⟨j,rfl⟩:∃k:Nat,i=k:=⟨i.toNat,by omega⟩
   have ej:((j:Int)+1).toNat=j+1:=rfl;rw [ej] at h5 h6;have hjl:j+(n+1)<=p.length:=by omega
   have hdj:=Ip (p:=p) (j:=j) (n:=n) (V:=W) hjl h6 hV2;have htop:=RA hvn A8 (by rw [hvV];exact hV1);have hdig:=Mn p v j (by clear kp0 htp hUl hU hV1 hV2 hvl hvV h5 h6;omega) (by clear kp0 htp hUl hU hV1 hV2 hvl hvV h5 h6;omega) (by rw [hvn];exact hjl) (by rw [hvn];exact htop) (by rw [hvn,hdj.1,hvV];exact hdj.2.1);rw [hvn,hdj.1,hvV] at hdig;have kp:=EE.mk (UO hdj (UO h5 h6));clear htp hUl hU hV1 hV2 hvl hvV h5 h6 hdj htop
   repeat'(first|(with_reducible first|(refine zz ?_;try intro K hK)|refine zi ?_|refine zh ?_)|((first|apply hK _ _ rfl|apply hK);clear hK K)|(guard_hyp hK;first|refine zy ?_|apply ab|apply aa|(refine aY ?_;intro hu)|refine zP wA ?_|(refine aD ?_;intro hm1 hm2)|refine zP aZ ?_|refine zP rfl ?_|(refine Or.inr (Or.inl (FJ (0) (0) (hdig) ?hmo ?hmv ?hma rfl ?_));(case hmo=>rfl);(case hmv=>exact⟨⟨_,HQ.2 rfl,rfl⟩,trivial,trivial⟩);(case hma=>exact⟨Qg 0 lo lo,.ro _ _,trivial⟩))|intro b0 hb)|((first|refine zj ?_|guard_hyp hK);refine zY ?_ ?_;all_goals(intro hb;(try simp only [sn,sb] at hb);try exact ao)))
   obtain⟨hup,htp,hUl,hU,hV1,hV2,hvl,hvV⟩:=kp0.out;obtain⟨⟨d1,d2,d3,d4⟩,h5,h6⟩:=kp.out;have hdl:val (p.drop j) / W < 4294967296:=by rw [N2 A8];exact d2
   refine⟨((j:Int) - 1,pG p j (n+1) (val (p.drop j) % W),q.set j (UInt32.ofNat (val (p.drop j) / W))),⟨by clear hup htp hUl hV1 hV2 h5;omega,by clear hup htp hUl hV1 hV2 h5;omega,by rw [BY hjl];exact h3,by rw [O3];exact h4,?ga,?gb⟩,by show((j:Int) - 1+1).toNat < ((j:Int)+1).toNat;clear hup htp hUl hV1 hV2 h5;omega,rfl,⟨rfl,trivial,rfl,rfl,rfl,trivial,rfl,rfl,rfl,trivial,trivial⟩,⟨rfl,?gc,trivial⟩,⟨Nb _ _,Nb _ _,trivial⟩⟩
   case ga=>
    rw [show((j:Int) - 1+1).toNat=j by clear hup htp hUl hV1 hV2 h5;omega];exact PL (by clear hup htp hUl hV1 hV2 h5;omega) h5 d3 d4 rfl hdl
   case gb=>
    rw [show((j:Int) - 1+1).toNat=j by clear hup htp hUl hV1 hV2 h5;omega,d4];exact J9 _ (by clear hup htp hUl h5;omega)
   case gc=>
    refine B4 (fun l=>some (Obj.mk 1 l 0 true)) (?_:(q.map cu).set (0+j) (V.af (.int .u32 ((val (p.drop j) / W:Nat):Int)))=_);rw [C2,qo hdl]
  ·clear htp hUl hU hV1 hV2 hvl hvV;rw [<- h3]
   repeat'(first|(with_reducible first|(refine zz ?_;try intro K hK)|refine zi ?_|refine zh ?_)|((first|apply hK _ _ rfl|apply hK);clear hK K)|(guard_hyp hK;first|refine zy ?_|apply ab|apply aa|(refine aY ?_;intro hu)|refine zP wA ?_|(refine aD ?_;intro hm1 hm2)|refine zP aZ ?_|refine zP rfl ?_|(refine Or.inr (Or.inr (Or.inl (uM ([(0,0,0)]) (Rz p A8) (pre':=[(0,⟨1,p.map cu,0,true⟩)]) (nw':=[]) (post':=[(0,⟨1,p.map cu,1,true⟩)]) (r':=.own 0 1 0 (norm p).length) ?hg1 rfl ?hg3 rfl rfl ?hgp ?hgn ?hgi ?_)));(case hg1=>exact yf _ _ _);(case hg3=>exact yf _ _ _);(case hgp=>(repeat'(first|exact gw|exact im|refine jC ?_ ?_|refine dY ?_ ?_|rfl)));(case hgn=>(repeat'(first|exact gw|exact im|refine jC ?_ ?_|refine dY ?_ ?_|rfl)));(case hgi=>(first|exact LI|exact yR B3|exact yR (K5 (D3 rfl))|exact yR (R0 (D3 rfl)))))|intro b0 hb)|((first|refine zj ?_|guard_hyp hK);refine zY ?_ ?_;all_goals(intro hb;(try simp only [sn,sb] at hb);try exact ao)))
   obtain⟨hup,htp,hUl,hU,hV1,hV2,hvl,hvV⟩:=kp0.out;rw [show(i+1).toNat=0 by omega,X8,Q1,F4] at h5;rw [show(i+1).toNat=0 by omega,F4] at h6;have hs2:0 < 2 ^ s:=M3 B3
   have hqv:val q=val x / val y:=by
    have:U / W=val q:=by rw [h5,X1 A8,N6 h6,H8]
    rw [<- this,<- hU,<- hV,Nat.mul_div_mul_right _ _ hs2]
   have hpv:val p=(val x % val y) * 2 ^ s:=by
    have:U % W=val p:=by rw [h5,U5,E2 h6]
    rw [<- this,<- hU,<- hV,Nat.mul_mod_mul_right]
   obtain⟨R,hR⟩:∃R,val x % val y=R:=⟨_,rfl⟩
   rw [hR] at hpv;rw [hR,<- hqv]
   have hq0:norm q≠[]:=by
    rw [bL,hqv];exact fun e=>R0 (Nat.div_pos hle (I9 h0)) ((gV _).1 e)
   have hnp:=norm_le p;have hnv:=bX p;have hnt:=qJ p;clear kp0 hup htp hUl hU hV1 hV2 hvl hvV h5 h6 hb hV hcm hlen
   refine aT (List UInt32) (fun r=>⟨Tryz.f138.ntmps,[(9,.af (.int .i64 s)),(10,.own 0 1 0 (norm p).length),(12,.own 1 0 0 (x.length - n+1)),(88,.af (.int .i64 (norm p).length)),(89,.af (.int .i64 r.length))],[(0,⟨1,(wq p 0 r).map cu,1,true⟩),(1,⟨1,q.map cu,0,true⟩)]⟩)
    (fun r=>r.length<=(norm p).length/\val r=R % 4294967296 ^ r.length) (fun r=>(norm p).length - r.length) [] [] trivial ⟨C0 _,(Nat.mod_one _).symm⟩ ⟨rfl,⟨rfl,trivial,rfl,rfl,rfl,rfl,rfl,trivial,rfl,trivial,trivial⟩,⟨?_,rfl,trivial⟩,⟨Nb _ _,Nb _ _,trivial⟩⟩ ?_
   ·rw [CA];rfl
   rintro r ⟨g1,g2⟩;have hwl:(wq p 0 r).length=p.length:=xr A8;have kp:=EE.mk (UO hpv (UO g2 (UO hR hs2)));clear hpv g2 hR hs2 hqv
   repeat'(first|(first|(refine AM A8 A8 ?_)|(refine Wq hs ?_))|(with_reducible first|(refine zz ?_;try intro K hK)|refine zi ?_|refine zh ?_)|((first|apply hK _ _ rfl|apply hK);clear hK K)|(guard_hyp hK;first|refine zy ?_|apply ab|apply aa|(refine aY ?_;intro hu)|refine zP wA ?_|(refine aD ?_;intro hm1 hm2)|refine zP aZ ?_|refine zP rfl ?_|intro b0 hb)|((first|refine zj ?_|guard_hyp hK);refine zY ?_ ?_;all_goals(intro hb;(try simp only [sn,sb] at hb);try exact ao)))
   ·obtain⟨hpv,g2,hR,hs2⟩:=kp.out;refine⟨r ++ [UInt32.ofNat ((((norm p).getD (r.length+1) default).toNat * 4294967296+((norm p).getD r.length default).toNat) / 2 ^ s % 4294967296)],⟨by rw [List.length_append];show r.length+1<=_;omega,?ga⟩,by rw [List.length_append];show _ - (r.length+1) < _;omega,rfl,⟨rfl,trivial,rfl,rfl,rfl,rfl,rfl,trivial,?gc,trivial,trivial⟩,⟨?gd,rfl,trivial⟩,⟨Nb _ _,Nb _ _,trivial⟩⟩
    case ga=>
     rw [List.length_append];exact xl hs (by rw [hnv];exact hpv) rfl g2 A8
    case gc=>
     show V.af (.int .i64 ((r.length:Int)+1))=_;rw [List.length_append];rfl
    case gd=>
     refine B4 (fun l=>some (Obj.mk 1 l 1 true)) (?_:((wq p 0 r).map cu).set (0+r.length) (V.af (.int .u32 (IntKind.u32.wrap ((IntKind.u64.wrap (((BitVec.ofInt 64 ((((wq p 0 r).getD (0+(r.length+1)) default).toNat:Int) * 4294967296) |||BitVec.ofInt 64 (((wq p 0 r).getD (0+r.length) default).toNat:Int)).toNat:Nat):Int)).fdiv ((2 ^ s:Nat):Int)))))=_);rw [C2 (r.length+1),xt (Nat.le_succ _),uq (j:=r.length+1) A8]
     conv=>lhs;arg 3;rw [C2,xt (wU _),uq (j:=r.length) A8]
     exact Cn (E6 _) (E6 _) A8
   ·obtain⟨hpv,g2,hR,hs2⟩:=kp.out;refine⟨r ++ [UInt32.ofNat ((((norm p).getD (r.length+1) default).toNat * 4294967296+((norm p).getD r.length default).toNat) / 2 ^ s % 4294967296)],⟨by rw [List.length_append];show r.length+1<=_;omega,?ga2⟩,by rw [List.length_append];show _ - (r.length+1) < _;omega,rfl,⟨rfl,trivial,rfl,rfl,rfl,rfl,rfl,trivial,?gc2,trivial,trivial⟩,⟨?gd2,rfl,trivial⟩,⟨Nb _ _,Nb _ _,trivial⟩⟩
    case ga2=>
     rw [List.length_append];exact xl hs (by rw [hnv];exact hpv) rfl g2 A8
    case gc2=>
     show V.af (.int .i64 ((r.length:Int)+1))=_;rw [List.length_append];rfl
    case gd2=>
     have e0:((norm p).getD (r.length+1) default).toNat=0:=by
      rw [List.getD,Q6 A8];rfl
     rw [e0];refine B4 (fun l=>some (Obj.mk 1 l 1 true)) (?_:((wq p 0 r).map cu).set (0+r.length) (V.af (.int .u32 (IntKind.u32.wrap ((IntKind.u64.wrap (((BitVec.ofInt 64 (((0:Nat):Int) * 4294967296) |||BitVec.ofInt 64 (((wq p 0 r).getD (0+r.length) default).toNat:Int)).toNat:Nat):Int)).fdiv ((2 ^ s:Nat):Int)))))=_)
     conv=>lhs;arg 3;rw [C2,xt (wU _),uq (j:=r.length) A8]
     exact Cn B3 (E6 _) A8
   ·obtain⟨hpv,g2,hR,hs2⟩:=kp.out;have hrl:r.length=(norm p).length:=by omega
    clear kp
    repeat'(first|(with_reducible first|(refine zz ?_;try intro K hK)|refine zi ?_|refine zh ?_)|((first|apply hK _ _ rfl|apply hK);clear hK K)|(guard_hyp hK;first|refine zy ?_|(refine aC 2 rfl ?_)|apply aa|(refine aY ?_;intro hu)|refine zP wA ?_|(refine aD ?_;intro hm1 hm2)|refine zP aZ ?_|refine zP rfl ?_|(refine' Or.inr (Or.inr (Or.inr (BA (yw q A8 hq0) (1) ?lh ?lz ?_)));(case lh=>exact rfl);(case lz=>exact DZ (yW (l:=q) (ver:=0) rfl h4)))|intro b0 hb)|((first|refine zj ?_|guard_hyp hK);refine zY ?_ ?_;all_goals(intro hb;(try simp only [sn,sb] at hb);try exact ao)))
    refine Or.inl (Sk _ (Sk _ (Sk _ (UO (iu r A8) (Sk [(0,?o2)] (UO (uC ?ho2) (UO ?z2 (UO rfl ?_))))))))
    case ho2=>exact rfl
    case z2=>
     refine DZ (gW (l:=r) (F:=cu) (G:=bw) rfl rfl rfl hrl ?_ (fun a _=>gp _) rfl);show List.take (norm p).length (List.drop 0 ((wq p 0 r).map cu))=_;rw [F4,<- List.map_take,<- hrl];unfold wq;rw [Q3,Q8,O1]
    repeat'(first|(with_reducible first|(refine zz ?_;try intro K hK)|refine zi ?_|refine zh ?_)|((first|apply hK _ _ rfl|apply hK);clear hK K)|(guard_hyp hK;first|refine zy ?_|apply ab|apply aa|(refine aY ?_;intro hu)|refine zP wA ?_|(refine aD ?_;intro hm1 hm2)|refine zP aZ ?_|refine zP rfl ?_|intro b0 hb)|((first|refine zj ?_|guard_hyp hK);refine zY ?_ ?_;all_goals(intro hb;(try simp only [sn,sb] at hb);try exact ao)))
    rw [<- bL q]
    have hRl:R < 4294967296 ^ r.length:=by
     have h1:=dZ (norm p);rw [hnv,hpv,<- hrl] at h1;exact N4 (V0 _ hs2) h1
    rw [bL r,g2,E2 hRl];exact⟨trivial,false,_,fun _=>2,rfl,yh (ver:=0) rfl,_,_,_,rfl,fg.own 0 0 0 _ _ rfl rfl rfl,fg.ro _ _,fg.af _⟩
theorem rf (a b:List UInt32)(ha:a.length<=2147483648)(hb9:b.length<=2147483648)(h0:val b≠0):Ok Tryz.prog 138 [tn a,tn b] true (.ba [tn (lm (val a / val b)),tn (lm (val a % val b)),.af (.int .i64 0)]):=by
 rcases G8 (val a) (val b) with h|h
 ·exact II a b ha hb9 h0 h
 ·exact DE (EF a b ha hb9 h0 h) rfl (WM (gW (l:=lm (val a / val b)) (F:=cu) (G:=bw) rfl rfl rfl rfl (by show List.take _ (List.drop 0 ((lm (val a / val b)).map cu))=_;rw [F4,B7 (by simp)]) (fun a _=>gp _) rfl) (kr rfl fun h=>h) (ay rfl))
end Go.Ev
