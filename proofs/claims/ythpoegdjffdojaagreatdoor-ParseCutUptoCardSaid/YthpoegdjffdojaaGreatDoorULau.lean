import Derived.Test.YthpoegdjffdojaaGreatDoorULal
import Derived.Test.YthpoegdjffdojaaGreatDoorUDivP
set_option linter.all false
set_option maxHeartbeats 60000000
set_option maxRecDepth 10000
namespace Go.Ev
open Go.Proofs
theorem NW (l r:List UInt32)(d:UInt32)(hd:d.toNat≠0)(hl:l.length<=1099511627776)(h0:l≠[]) :
  TP Tryz.prog 50 [⟨0,1,(l ++ r).map cu,(ig l.length (val l / d.toNat) ++ r).map cu⟩] [.own 0 0 0 l.length,.af (.int .u32 d.toNat)] true (.af (.int .u32 (val l % d.toNat:Nat))):=by
 have hdl:=E6 d;have hpos:0 < l.length:=G3.2 h0;refine nk bN mix Tryz.func50 rfl rfl B1 B1 (zO rfl) ?wf ?nd ?_
 case wf=>exact Jd (by rw [List.length_append,List.length_append,eJ])
 case nd=>exact yF _
 obtain⟨A,hA⟩:∃A,A=l ++ r:=⟨_,rfl⟩
 have hAl:A.length=l.length+r.length:=by rw [hA,List.length_append]
 have hAt:A.take l.length=l:=by rw [hA];exact O1
 have hAd:A.drop l.length=r:=by rw [hA];exact List.drop_left
 rw [<- hA]
 repeat'(first|(with_reducible first|(refine zz ?_;try intro K hK)|refine zi ?_|refine zh ?_)|((first|apply hK _ _ rfl|apply hK);clear hK K)|(guard_hyp hK;first|refine zy ?_|apply ab|apply aa|(refine aY ?_;intro hu)|refine zP wA ?_|(refine aD ?_;intro hm1 hm2)|refine zP aZ ?_|refine zP rfl ?_|intro b0 hb)|((first|refine zj ?_|guard_hyp hK);refine zY ?_ ?_;all_goals(intro hb;(try simp only [sn,sb] at hb);try exact ao)))
 refine aT (Int×List UInt32×Nat) (fun(i,q,r')=>⟨Tryz.f50.ntmps,[(0,.own 0 0 0 l.length),(1,.af (.int .u32 d.toNat)),(5,.af (.int .u64 r')),(6,.af (.int .i64 i))],[(0,⟨1,q.map cu,0,true⟩)]⟩)
  (fun(i,q,r')=>-1<=i/\i < l.length/\q.length=l.length+r.length/\r' < d.toNat/\q.drop l.length=r/\(q.take l.length).take (i+1).toNat=l.take (i+1).toNat/\val (l.drop (i+1).toNat)=d.toNat * val ((q.take l.length).drop (i+1).toNat)+r') (fun(i,q,r')=>(i+1).toNat) [] ((l.length:Int) - 1,A,0) trivial ⟨by omega,by omega,hAl,by omega,hAd,by rw [hAt],?_⟩ ⟨rfl,⟨rfl,rfl,rfl,trivial,rfl,trivial,rfl,trivial,trivial⟩,⟨rfl,trivial⟩,bc _ _⟩ ?_
 ·rw [hAt,show((l.length:Int) - 1+1).toNat=l.length by omega,O6];rfl
 clear hA hAl hAt hAd;rintro⟨i,q,r'⟩ ⟨h0,h1,hql,h2,hqd,h3,h4⟩
 repeat'(first|(refine AM A8 A8 ?_)|(with_reducible first|(refine zz ?_;try intro K hK)|refine zi ?_|refine zh ?_)|((first|apply hK _ _ rfl|apply hK);clear hK K)|(guard_hyp hK;first|refine zy ?_|apply ab|apply aa|(refine aY ?_;intro hu)|refine zP wA ?_|(refine aD ?_;intro hm1 hm2)|refine zP aZ ?_|refine zP rfl ?_|intro b0 hb)|((first|refine zj ?_|guard_hyp hK);refine zY ?_ ?_;all_goals(intro hb;(try simp only [sn,sb] at hb);try exact ao)))
 ·obtain⟨n,rfl⟩:∃n:Nat,i=n:=⟨i.toNat,by omega⟩
  obtain⟨p,hp⟩:∃p,p=q.take l.length:=⟨_,rfl⟩
  have hpl:p.length=l.length:=by rw [hp,List.length_take];omega
  have e1:((n:Int)+1).toNat=n+1:=by omega
  rw [e1,<- hp] at h3 h4
  have hxp:q.getD n default=p.getD n default:=by
   rw [hp,List.getD,List.getD,L7,if_pos A8]
  have hxl:q.getD n default=l.getD n default:=by
   rw [hxp];have:=B4 (fun q=>List.getD q n default) h3;simpa [List.getD,L7] using this
  obtain⟨x,hx⟩:∃x,(l.getD n default).toNat=x:=⟨_,rfl⟩
  have hxb:x < 4294967296:=by rw [<- hx];exact E6 _
  obtain⟨D,hD⟩:∃D,d.toNat=D:=⟨_,rfl⟩
  rw [hD] at hd h2 h4 hdl;have hT:=M0 (r' * 4294967296+x) D;have hm:=J9 (r' * 4294967296+x) (I9 hd)
  have hq:(r' * 4294967296+x) / D < 4294967296:=by
   rw [N2 (I9 hd)];have:(r'+1) * 4294967296<=D * 4294967296:=F6 _ h2;rw [E0 4294967296 D];omega
  obtain⟨Q,hQ⟩:∃Q,(r' * 4294967296+x) / D=Q:=⟨_,rfl⟩
  have hq2:Q < 4294967296:=by rw [<- hQ];exact hq
  have hor:=or_eq (a:=r') (x:=x) A8 hxb;have hts:(q.set n (UInt32.ofNat ((r' * 4294967296+x) / D))).take l.length=p.set n (UInt32.ofNat ((r' * 4294967296+x) / D)):=by rw [hp,List.take_set]
  refine⟨((n:Int) - 1,q.set n (UInt32.ofNat ((r' * 4294967296+x) / D)),(r' * 4294967296+x) % D),⟨by omega,by omega,by rw [O3];exact hql,by rw [hD];exact hm,by rw [List.drop_set_of_lt A8];exact hqd,?gt,?ga⟩,by show((n:Int) - 1+1).toNat < ((n:Int)+1).toNat;omega,rfl,⟨rfl,rfl,rfl,trivial,?gc,trivial,rfl,trivial,trivial⟩,⟨?gd,trivial⟩,bc _ _⟩
  case gt=>
   rw [hts,show((n:Int) - 1+1).toNat=n by omega,List.take_set_of_le (wU _)];have:=B4 (List.take n) h3
   rwa [J3,J3,I5 A8] at this
  case ga=>
   rw [hts,show((n:Int) - 1+1).toNat=n by omega,hD];exact BX (d:=D) (r:=r') A8 A8 h4 hq (by rw [hx];omega)
  case gc=>
   refine B4 (fun n=>V.af (.int .u64 n)) (?_:(IntKind.u64.wrap (((BitVec.ofInt 64 ((r':Int) * 4294967296) |||BitVec.ofInt 64 ((q.getD (0+n) default).toNat:Int)).toNat:Nat):Int)).tmod (d.toNat:Int)=_);rw [C2,hxl,hx,hor,hD,Js]
  case gd=>
   refine B4 (fun l=>some (Obj.mk 1 l 0 true)) (?_:(q.map cu).set (0+n) (V.af (.int .u32 (IntKind.u32.wrap (IntKind.u64.wrap ((IntKind.u64.wrap (((BitVec.ofInt 64 ((r':Int) * 4294967296) |||BitVec.ofInt 64 ((q.getD (0+n) default).toNat:Int)).toNat:Nat):Int)).tdiv (d.toNat:Int))))))=_);rw [C2,hxl,hx,hor,hD,Jy,hQ,<- fU (a:=((Q:Nat):Int)) A8 A8,wrap32 (L8 _),K4,oT]
 ·have e1:(i+1).toNat=0:=by omega
  rw [e1,F4,F4] at h4;have htl:(q.take l.length).length=l.length:=by rw [List.length_take];omega
  have hv:val (q.take l.length)=val l / d.toNat/\r'=val l % d.toNat:=by
   rw [h4];constructor
   ·rw [X1 (I9 hd),N6 h2,H8]
   ·rw [U5,E2 h2]
  have hp:q=ig l.length (val l / d.toNat) ++ r:=by
   have:=ma (q.take l.length);rw [htl,hv.1] at this;rw [this,<- hqd,L1]
  refine⟨trivial,?_,?_,⟨Tryz.f50.ntmps,[(4,.af (.int .u32 r'))],[]⟩,⟨rfl,⟨?_,trivial,trivial⟩,trivial,trivial⟩,?_,trivial,ay ?_⟩
  ·intro y hy;obtain rfl:=HQ.1 hy;exact B4 (fun l=>some (Obj.mk 1 (l.map cu) 0 true)) hp
  ·intro y hy;obtain rfl:=HQ.1 hy;exact⟨0,.own 0 0 0 l.length,rfl,rfl,rfl,rfl,hpos⟩
  ·rfl
  ·intro y hy;rfl
  ·rw [hv.2]
theorem Ry (L:List UInt32)(k:Nat)(hk:k<=L.length)(hl:L.length<=140737488355328):jP Tryz.prog 51 [(0,⟨1,L.map cu,0,true⟩)] [] [.own 0 0 0 k] [(0,⟨1,L.map cu,1,true⟩)] (.own 0 1 0 (norm (L.take k)).length):=by
 refine di bN mix 0 (zO rfl) Tryz.func51 rfl rfl B1 B1 (zO rfl) ?wf ?vs ?po ?le ?_
 case wf=>exact Je L
 case vs=>exact Jh L _
 case po=>intro i o h;obtain⟨rfl,rfl⟩:=aR h;exact .inl rfl
 case le=>intro i o o' h1 h2;obtain⟨rfl,rfl⟩:=aR h1;intro h3;simp [ae] at h2;subst h2;exact absurd (show(1:Nat)=0 from h3) B3
 have hkl:(L.take k).length=k:=by rw [List.length_take];omega
 repeat'(first|(with_reducible first|(refine zz ?_;try intro K hK)|refine zi ?_|refine zh ?_)|((first|apply hK _ _ rfl|apply hK);clear hK K)|(guard_hyp hK;first|refine zy ?_|apply ab|apply aa|(refine aY ?_;intro hu)|refine zP wA ?_|(refine aD ?_;intro hm1 hm2)|refine zP aZ ?_|refine zP rfl ?_|intro b0 hb)|((first|refine zj ?_|guard_hyp hK);refine zY ?_ ?_;all_goals(intro hb;(try simp only [sn,sb] at hb);try exact ao)))
 refine aT (List UInt32) (fun l'=>⟨21,[(0,.own 0 0 0 l'.length)],[(0,⟨1,L.map cu,0,true⟩)]⟩) (fun l'=>norm l'=norm (L.take k)/\l'.length<=L.length/\l'=L.take l'.length) (fun l'=>l'.length) [] (L.take k) trivial ⟨rfl,by rw [hkl];exact hk,by rw [hkl]⟩ ⟨rfl,⟨by rw [hkl];rfl,rfl,trivial⟩,⟨rfl,trivial⟩,bc _ _⟩ ?_;rintro l' ⟨hl',hle,htk⟩
 repeat'(first|(with_reducible first|(refine zz ?_;try intro K hK)|refine zi ?_|refine zh ?_)|((first|apply hK _ _ rfl|apply hK);clear hK K)|(guard_hyp hK;first|refine zy ?_|apply ab|apply aa|(refine aY ?_;intro hu)|refine zP wA ?_|(refine aD ?_;intro hm1 hm2)|refine zP aZ ?_|refine zP rfl ?_|intro b0 hb)|((first|refine zj ?_|guard_hyp hK);refine zY ?_ ?_;all_goals(intro hb;(try simp only [sn,sb] at hb);try exact ao)))
 ·have e:(↑l'.length - 1:Int).toNat=l'.length - 1:=by omega
  have e2:(l'.take (l'.length - 1)).length=l'.length - 1:=by rw [List.length_take];omega
  have e3:(L.getD (0+(l'.length - 1)) default)=l'.getD (l'.length - 1) default:=by
   rw [C2,List.getD,List.getD,htk,L7,List.length_take,if_pos A8]
  rw [e,e3] at hb;have hb:=qL (UInt32.toNat_inj.mp (W6 hb));refine⟨l'.take (l'.length - 1),⟨hb.trans hl',by rw [e2];omega,?_⟩,by rw [e2];omega,rfl,⟨?_,rfl,trivial⟩,⟨rfl,trivial⟩,bc _ _⟩
  ·rw [e2]
   have e5:∀n,n<=l'.length->l'.take n=L.take n:=by
    intro n hn;obtain⟨k,hk⟩:∃k,l'.length=k:=⟨_,rfl⟩
    rw [hk] at htk hn;rw [htk,J3,I5 hn]
   exact e5 _ A8
  ·show V.own 0 0 (0+Int.toNat 0) ((l'.length:Int) - 1 - 0).toNat=_;rw [e2,Int.sub_zero,e];rfl
 ·have e:(↑l'.length - 1:Int).toNat=l'.length - 1:=by omega
  have e3:(L.getD (0+(l'.length - 1)) default)=l'.getD (l'.length - 1) default:=by
   rw [C2,List.getD,List.getD,htk,L7,List.length_take,if_pos A8]
  rw [e,e3] at hb;rw [<- hl',qK fun h=>hb (B4 (fun x:UInt32=>Int.ofNat x.toNat) h)];exact⟨trivial,false,_,rfl,ph,Gv rfl rfl,mO.own 0 0 1 0 _ _ _ rfl rfl rfl rfl⟩
 ·have:l'=[]:=C8 A8;subst this;rw [<- hl'];exact⟨trivial,false,_,rfl,ph,Gv rfl rfl,mO.own 0 0 1 0 _ _ _ rfl rfl rfl rfl⟩
def cb (b:UInt8):V:=.af (.int .u8 b.toNat)
theorem Gt (l:List UInt8):∀e ∈ l.map cb,e.oU:=by
 intro e he;obtain⟨x,-,rfl⟩:=D4.1 he;trivial
theorem TV {l q:List UInt8}(h:q.length=l.length):∀x ∈ [(⟨0,1,l.map cb,q.map cb⟩:MO)],0 < x.sz/\x.a.length=x.b.length/\(∀e ∈ x.a,e.oU)/\(∀e ∈ x.b,e.oU):=by
 intro x hx;obtain rfl:=HQ.1 hx;exact⟨Nat.zero_lt_one,by simp [h],Gt l,Gt q⟩
theorem xj (oh:OH)(p:List UInt8)(v:Nat):eV oh [(0,⟨1,p.map cb,v,true⟩)]:=by
 refine⟨fun v hv=>?_,trivial⟩;obtain⟨u,_,rfl⟩:=D4.1 hv;trivial
theorem QS {l:List UInt8}{n:Nat}(h:n < l.length):(l.map cb)[0+n]?=some (cb (l.getD n 0)):=by
 rw [C2,Zf,List.getD,uz h];rfl
theorem JZ {p:List UInt8}{i:Nat}{q:UInt8}:(p.map cb).set i (cb q)=(p.set i q).map cb:=by
 rw [Y0]
def wh (l:List UInt8):Nat->List UInt8
 |0=>l
 |i+1=>((wh l i).set i ((wh l i).getD (l.length - 1 - i) 0)).set (l.length - 1 - i) ((wh l i).getD i 0)
theorem sj (l:List UInt8):∀i,(wh l i).length=l.length
 |0=>rfl
 |i+1=>by rw [wh,O3,O3,sj l i]
theorem JD (l:List UInt8):∀(i j:Nat),2 * i<=l.length+1->j < l.length->(wh l i)[j]?=if j < i\/l.length - 1 - j < i then l[l.length - 1 - j]? else l[j]?
 |0,j,hi,hj=>by rw [if_neg A8];rfl
 |i+1,j,hi,hj=>by
  have ih:=JD l i;have hil:i < l.length:=by omega
  have g1:(wh l i)[l.length - 1 - i]?=l[l.length - 1 - i]?:=by rw [ih _ A8 A8,if_neg A8]
  have g2:(wh l i)[i]?=l[i]?:=by rw [ih _ A8 hil,if_neg A8]
  have s1:(wh l i).getD (l.length - 1 - i) 0=l[l.length - 1 - i]'(by omega):=by rw [List.getD,g1,uz A8];rfl
  have s2:(wh l i).getD i 0=l[i]:=by rw [List.getD,g2,uz hil];rfl
  rw [wh,s1,s2,List.getElem?_set,List.getElem?_set,O3,sj];by_cases c1:l.length - 1 - i=j
  ·rw [if_pos c1,if_pos A8,if_pos A8];have e:l.length - 1 - j=i:=by omega
   rw [e,uz hil]
  ·rw [if_neg c1];by_cases c2:i=j
   ·subst c2;rw [if_pos rfl,if_pos hil,if_pos A8,uz A8]
   ·rw [if_neg c2,ih j A8 hj];by_cases c3:j < i\/l.length - 1 - j < i
    ·rw [if_pos c3,if_pos A8]
    ·rw [if_neg c3,if_neg A8]
theorem NG (l:List UInt8){i:Nat}(h1:l.length<=2 * i+1)(h2:2 * i<=l.length+1):wh l i=l.reverse:=by
 refine List.ext_getElem? fun j=>?_
 by_cases hj:j < l.length
 ·rw [JD l i j h2 hj,List.getElem?_reverse hj];by_cases c:j < i\/l.length - 1 - j < i
  ·rw [if_pos c]
  ·rw [if_neg c];have:j=l.length - 1 - j:=by omega
   rw [<- this]
 ·rw [Q6 (by rw [sj];omega),Q6 (by rw [Q0];omega)]
theorem Sd (l:List UInt8)(hl:l.length<=1099511627776)(h0:l≠[]) :
  TP Tryz.prog 52 [⟨0,1,l.map cb,l.reverse.map cb⟩] [.own 0 0 0 l.length] true (.ba []):=by
 have hpos:0 < l.length:=G3.2 h0;refine nk bN mix Tryz.func52 rfl rfl B1 B1 (zO rfl) ?wf ?nd ?_
 case wf=>exact TV (by rw [Q0])
 case nd=>exact yF _
 repeat'(first|(with_reducible first|(refine zz ?_;try intro K hK)|refine zi ?_|refine zh ?_)|((first|apply hK _ _ rfl|apply hK);clear hK K)|(guard_hyp hK;first|refine zy ?_|apply ab|apply aa|(refine aY ?_;intro hu)|refine zP wA ?_|(refine aD ?_;intro hm1 hm2)|refine zP aZ ?_|refine zP rfl ?_|intro b0 hb)|((first|refine zj ?_|guard_hyp hK);refine zY ?_ ?_;all_goals(intro hb;(try simp only [sn,sb] at hb);try exact ao)))
 refine aT Nat (fun i=>⟨Tryz.f52.ntmps,[(0,.own 0 0 0 l.length),(2,.af (.int .i64 i)),(3,.af (.int .i64 ((l.length - 1 - i:Nat):Int)))],[(0,⟨1,(wh l i).map cb,0,true⟩)]⟩)
  (fun i=>2 * i<=l.length) (fun i=>l.length - i) [] 0 trivial (C0 _) ⟨rfl,⟨rfl,rfl,rfl,trivial,?_,trivial,trivial⟩,⟨rfl,trivial⟩,xj _ _ _⟩ ?_
 ·exact B4 (fun n=>V.af (.int .i64 n)) (show((l.length:Int) - 1)=((l.length - 1 - 0:Nat):Int) by omega)
 intro i hi;have hsl:=sj l i;by_cases hlt:i < l.length - 1 - i
 ·have a1:=QS (l:=wh l i) (n:=i) A8;have a2:=QS (l:=wh l i) (n:=l.length - 1 - i) A8;have a3:∀v,(((wh l i).map cb).set (0+i) v)[0+(l.length - 1 - i)]?=some (cb ((wh l i).getD (l.length - 1 - i) 0)):=fun v=>by rw [W9 A8];exact a2
  repeat'(first|(guard_hyp hK;first|refine Sk _ (UO a1 ?_)|refine Sk _ (UO a2 ?_)|refine Sk _ (UO (a3 _) ?_))|(with_reducible first|(refine zz ?_;try intro K hK)|refine zi ?_|refine zh ?_)|((first|apply hK _ _ rfl|apply hK);clear hK K)|(guard_hyp hK;first|refine zy ?_|apply ab|apply aa|(refine aY ?_;intro hu)|refine zP wA ?_|(refine aD ?_;intro hm1 hm2)|refine zP aZ ?_|refine zP rfl ?_|intro b0 hb)|((first|refine zj ?_|guard_hyp hK);refine zY ?_ ?_;all_goals(intro hb;(try simp only [sn,sb] at hb);try exact ao)))
  refine⟨i+1,by omega,by omega,rfl,⟨rfl,rfl,rfl,trivial,?_,trivial,trivial⟩,⟨?_,trivial⟩,xj _ _ _⟩
  ·exact B4 (fun n=>V.af (.int .i64 n)) (show((l.length - 1 - i:Nat):Int) - 1=((l.length - 1 - (i+1):Nat):Int) by omega)
  ·refine B4 (fun L=>some (Obj.mk 1 L 0 true)) (?_:(((wh l i).map cb).set (0+i) (cb ((wh l i).getD (l.length - 1 - i) 0))).set (0+(l.length - 1 - i)) (cb ((wh l i).getD i 0))=_);rw [C2,C2,JZ,JZ];rfl
 ·have hr:=NG l (i:=i) A8 A8
  repeat'(first|(with_reducible first|(refine zz ?_;try intro K hK)|refine zi ?_|refine zh ?_)|((first|apply hK _ _ rfl|apply hK);clear hK K)|(guard_hyp hK;first|refine zy ?_|apply ab|apply aa|(refine aY ?_;intro hu)|refine zP wA ?_|(refine aD ?_;intro hm1 hm2)|refine zP aZ ?_|refine zP rfl ?_|intro b0 hb)|((first|refine zj ?_|guard_hyp hK);refine zY ?_ ?_;all_goals(intro hb;(try simp only [sn,sb] at hb);try exact ao)))
  refine⟨trivial,?_,?_,⟨Tryz.f52.ntmps,[],[]⟩,⟨rfl,trivial,trivial,trivial⟩,?_,?_⟩
  ·intro y hy;obtain rfl:=HQ.1 hy;exact B4 (fun l=>some (Obj.mk 1 (l.map cb) 0 true)) hr
  ·intro y hy;obtain rfl:=HQ.1 hy;exact⟨0,.own 0 0 0 l.length,rfl,rfl,rfl,rfl,hpos⟩
  ·intro y hy;rfl
  ·exact⟨trivial,rfl⟩
theorem qq : fE 0=[]:=by rw [fE,if_pos rfl]
theorem tK {n:Nat}(h:n≠0):fE n=UInt8.ofNat (48+n % 10) :: fE (n / 10):=by rw [fE,if_neg h]
def yo (v i p:Nat):Nat:=v * 10 ^ (9 - i)+p
theorem KJ {v i p:Nat}(hi:i < 9)(hp:p < 10 ^ (9 - i)):yo v i p % 10=p % 10/\yo v i p / 10=yo v (i+1) (p / 10)/\p / 10 < 10 ^ (9 - (i+1)):=by
 have e:9 - i=(9 - (i+1))+1:=by omega
 unfold yo;rw [e,H9] at hp |-;generalize 10 ^ (9 - (i+1))=k at hp |-;rw [<- J2];generalize v * k=m;omega
theorem Qh (D:List UInt8){n:Nat}(h:n≠0):D ++ fE n=(D ++ [UInt8.ofNat (48+n % 10)]) ++ fE (n / 10):=by
 rw [tK h,List.append_assoc];rfl
theorem AV : ∀(d n:Nat),n < 10 ^ d->(fE n).length<=d
 |0,n,h=>by
  obtain rfl:n=0:=by simpa using h
  rw [qq];exact wU _
 |d+1,n,h=>by
  by_cases h0:n=0
  ·subst h0;rw [qq];exact C0 _
  ·have:=AV d (n / 10) (by rw [H9] at h;exact P4 (by rw [E0];exact h));rw [tK h0,B9];omega
theorem Iq (m:List UInt32)(h:m.length<=1048576):(fE (val m)).length<=10485760:=by
 have hv:val m < 10 ^ (10 * m.length):=by
  have h1:=dZ m
  have h2:(4294967296:Nat) ^ m.length<=10 ^ (10 * m.length):=by
   rw [Nat.pow_mul];exact P9 B3 _
  omega
 have:=AV _ _ hv;omega
theorem TF {oh:OH}{L:List UInt32}{D:List UInt8}{v w:Nat}:eV oh [(0,⟨1,L.map cu,v,true⟩),(1,⟨1,D.map cb,w,true⟩)]:=by
 refine⟨fun x hx=>?_,fun x hx=>?_,trivial⟩
 ·obtain⟨u,_,rfl⟩:=D4.1 hx;trivial
 ·obtain⟨u,_,rfl⟩:=D4.1 hx;trivial
theorem Xc : (1000000000:UInt32).toNat=1000000000:=rfl
theorem Ta {q:Nat}:V.af (.int .u8 (IntKind.u8.wrap (48+IntKind.u8.wrap ((q:Int).tmod 10))))=cb (UInt8.ofNat (48+q % 10)):=by
 have h:=J9 q (show 0 < 10 by decide);unfold cb;rw [WW h];refine B4 (fun n=>V.af (.int .u8 n)) ?_;have e:((q:Int).tmod 10)=((q % 10:Nat):Int):=rfl;rw [e];have e2:IntKind.u8.wrap ((q % 10:Nat):Int)=((q % 10:Nat):Int):=(jr (by simp only [px];omega) (by simp only [py];omega)).symm;rw [e2];have e3:IntKind.u8.wrap (48+((q % 10:Nat):Int))=48+((q % 10:Nat):Int):=(jr (by simp only [px];omega) (by simp only [py];omega)).symm;rw [e3];rfl
theorem Ra {e:V}{n:Nat}(h:e.cells.length=n):∀y ∈ [e],y.cells.length=n:=by
 intro y hy;rw [HQ.1 hy];exact h
def Wb (n:Nat)(l r:List UInt32)(ver:Nat)(D:List UInt8):St:=⟨n,[(3,.own 0 ver 0 l.length),(4,.own 1 D.length 0 D.length)],[(0,⟨1,(l ++ r).map cu,ver,true⟩),(1,⟨1,D.map cb,D.length,true⟩)]⟩
def XM (n:Nat)(l r:List UInt32)(ver:Nat)(i p:Nat)(D:List UInt8):St:=⟨n,[(3,.own 0 ver 0 l.length),(4,.own 1 D.length 0 D.length),(5,.af (.int .u32 p)),(6,.af (.int .i64 i))],[(0,⟨1,(l ++ r).map cu,ver,true⟩),(1,⟨1,D.map cb,D.length,true⟩)]⟩
theorem UH (D:List UInt8)(x:UInt8):V.own 1 (D.length+1) 0 (D.length+1)=V.own 1 (D ++ [x]).length 0 (D ++ [x]).length:=by
 rw [List.length_append];rfl
theorem UJ (D:List UInt8)(q:Nat):some (Obj.mk 1 ((D.map cb).take D.length ++ [V.af (.int .u8 (IntKind.u8.wrap (48+IntKind.u8.wrap ((q:Int).tmod 10))))]) (D.length+1) true)=some (Obj.mk 1 ((D ++ [UInt8.ofNat (48+q % 10)]).map cb) (D ++ [UInt8.ofNat (48+q % 10)]).length true):=by
 rw [Ta,B7 (by rw [List.length_map];exact wU _),List.length_append,G7];rfl
theorem UD {p:Nat}(h:p < 1000000000):V.af (.int .u32 (IntKind.u32.wrap ((p:Int).tdiv 10)))=V.af (.int .u32 ((p / 10:Nat):Int)):=by
 refine B4 (fun n=>V.af (.int .u32 n)) ?_;show IntKind.u32.wrap ((p / 10:Nat):Int)=_;exact(jr (by simp only [px];omega) (by simp only [py];omega)).symm
theorem Qn (m:List UInt32)(hm:m.length<=1048576):Ok Tryz.prog 23 [.sl (m.map bw)] true (.af (.string (dh (val m)))):=by
 have hnm:=norm_le m;have hvn:=bX m;by_cases h0:norm m=[]
 ·have hv:val m=0:=by rw [<- hvn,h0];rfl
  have co:=iu m A8;rw [h0] at co;rw [hv];refine aw bN mix Tryz.func23 rfl rfl B1 (zO rfl) ?_
  repeat'(first|(with_reducible first|(refine zz ?_;try intro K hK)|refine zi ?_|refine zh ?_)|((first|apply hK _ _ rfl|apply hK);clear hK K)|(guard_hyp hK;first|refine zy ?_|apply ab|apply aa|(refine aY ?_;intro hu)|refine zP wA ?_|(refine aD ?_;intro hm1 hm2)|refine zP aZ ?_|refine zP rfl ?_|(refine zQ (co) ?_)|intro b0 hb)|((first|refine zj ?_|guard_hyp hK);refine zY ?_ ?_;all_goals(intro hb;(try simp only [sn,sb] at hb);try exact ao)))
  exact⟨trivial,ay rfl⟩
 ·have co:=yw m A8 h0;have hN:=Iq m hm;have hpos:=G3.2 h0;refine aw bN mix Tryz.func23 rfl rfl B1 (zO rfl) ?_
  repeat'(first|(with_reducible first|(refine zz ?_;try intro K hK)|refine zi ?_|refine zh ?_)|((first|apply hK _ _ rfl|apply hK);clear hK K)|(guard_hyp hK;first|refine zy ?_|apply ab|apply aa|(refine aY ?_;intro hu)|refine zP wA ?_|(refine aD ?_;intro hm1 hm2)|refine zP aZ ?_|refine zP rfl ?_|(refine Or.inr (sy (co) ?_))|intro b0 hb)|((first|refine zj ?_|guard_hyp hK);refine zY ?_ ?_;all_goals(intro hb;(try simp only [sn,sb] at hb);try exact ao)))
  refine aT (List UInt32×List UInt32×Nat×List UInt8) (fun z=>Wb Tryz.f23.ntmps z.1 z.2.1 z.2.2.1 z.2.2.2) (fun z=>norm z.1=z.1/\z.1.length+z.2.1.length<=1048576/\z.2.2.2 ++ fE (val z.1)=fE (val m)) (fun z=>val z.1) [(4,1,1)] (norm m,[],0,[]) ⟨rfl,rfl,trivial⟩ ⟨by rw [bL (norm m),hvn,<- bL],by show(norm m).length+0<=_;omega,by show [] ++ fE (val (norm m))=_;rw [hvn];rfl⟩ ⟨rfl,⟨rfl,rfl,rfl,rfl,trivial⟩,⟨?_,rfl,trivial⟩,TF⟩ ?_
  ·rw [J8];rfl
  rintro⟨l,r,ver,D⟩ ⟨hl,hlr,hD⟩;dsimp only at hl hlr hD |-;by_cases hl0:l=[]
  ·have hll:l.length=0:=by rw [hl0];rfl
   rw [hl0] at hD;rw [show val []=0 from rfl,qq,J8] at hD;have hv0:val m≠0:=fun h=>h0 (by rw [bL,h,lm,if_pos rfl])
   have hDn:D≠[]:=by rw [hD,tK hv0];simp
   have hDl:D.length<=10485760:=by rw [hD];exact hN
   have cR:=Sd D A8 hDn
   have hsx:((D.reverse.map cb).drop 0).take D.length=D.reverse.map (fun b=>V.af (.int .u8 b.toNat)):=by
    rw [F4,B7 (by rw [List.length_map,Q0];exact wU _)];rfl
   have hsl:D.reverse.length=D.length:=Q0
   repeat'(first|(guard_hyp hK;refine Sk D.reverse (UO hsx (UO hsl ?_)))|(with_reducible first|(refine zz ?_;try intro K hK)|refine zi ?_|refine zh ?_)|((first|apply hK _ _ rfl|apply hK);clear hK K)|(guard_hyp hK;first|refine zy ?_|apply ab|apply aa|(refine aY ?_;intro hu)|refine zP wA ?_|(refine aD ?_;intro hm1 hm2)|refine zP aZ ?_|refine zP rfl ?_|(refine Or.inr (Or.inl (FJ (1) (D.length) (cR) ?hmo ?hmv ?hma rfl ?_));(case hmo=>rfl);(case hmv=>exact⟨⟨_,HQ.2 rfl,rfl⟩,trivial⟩);(case hma=>exact⟨.own 0 0 _,trivial⟩))|intro b0 hb)|((first|refine zj ?_|guard_hyp hK);refine zY ?_ ?_;all_goals(intro hb;(try simp only [sn,sb] at hb);try exact ao)))
   refine⟨trivial,ay ?_⟩;refine B4 Value.string ?_;unfold dh OY;rw [if_neg hv0,hD];rfl
  ·have hll:=G3.2 hl0;have cs:=NW l r 1000000000 B3 A8 hl0;rw [Xc] at cs;have hq:=eJ l.length (val l / 1000000000);have hvl:val l≠0:=fun h=>hl0 (by rw [<- hl,bL,h,lm,if_pos rfl])
   have hvq:=ja l.length (val l / 1000000000) (N4 (X2 _ _) (dZ l));generalize ig l.length (val l / 1000000000)=q at *;have ct:=Ry (q ++ r) l.length (by rw [List.length_append,hq];omega) (by rw [List.length_append,hq];omega)
   have htk:(q ++ r).take l.length=q:=by
    have:=O1 (l₁:=q) (l₂:=r)
    rwa [hq] at this
   rw [htk] at ct;have hnq:=norm_le q;have hntq:=qJ q;have hvn2:=bX q;have hnn:norm (norm q)=norm q:=by rw [bL (norm q),hvn2,<- bL]
   have hspl:q ++ r=norm q ++ (q ++ r).drop (norm q).length:=by
    have h1:(q ++ r).take (norm q).length=norm q:=by rw [J4 hnq,hntq]
    conv=>lhs;rw [<- L1 (norm q).length (q ++ r),h1]
   have hrl:(norm q).length+((q ++ r).drop (norm q).length).length<=1048576:=by
    rw [List.length_drop,List.length_append];omega
   clear htk hntq
   repeat'(first|(with_reducible first|(refine zz ?_;try intro K hK)|refine zi ?_|refine zh ?_)|((first|apply hK _ _ rfl|apply hK);clear hK K)|(guard_hyp hK;first|refine zy ?_|apply ab|apply aa|(refine aY ?_;intro hu)|refine zP wA ?_|(refine aD ?_;intro hm1 hm2)|refine zP aZ ?_|refine zP rfl ?_|(refine Or.inr (Or.inl (FJ (0) (ver) (cs) ?hmo ?hmv ?hma rfl ?_));(case hmo=>rfl);(case hmv=>exact⟨⟨_,HQ.2 rfl,rfl⟩,trivial,trivial⟩);(case hma=>exact⟨.own 0 0 _,.af _,trivial⟩))|(refine Or.inr (Or.inr (Or.inl (uM ([(0,0,ver)]) (ct) (pre':=[(0,⟨1,(q ++ r).map cu,ver,true⟩)]) (nw':=[]) (post':=[(0,⟨1,(q ++ r).map cu,ver+1,true⟩)]) (r':=.own 0 (ver+1) 0 (norm q).length) ?hg1 rfl ?hg3 rfl rfl ?hgp ?hgn ?hgi ?_)));(case hg1=>exact yf _ _ _);(case hg3=>exact yf _ _ _);(case hgp=>(repeat'(first|exact gw|exact im|refine jC ?_ ?_|refine dY ?_ ?_|rfl)));(case hgn=>(repeat'(first|exact gw|exact im|refine jC ?_ ?_|refine dY ?_ ?_|rfl)));(case hgi=>(first|exact LI|exact yR B3|exact yR (K5 (D3 rfl))|exact yR (R0 (D3 rfl)))))|intro b0 hb)|((first|refine zj ?_|guard_hyp hK);refine zY ?_ ?_;all_goals(intro hb;(try simp only [sn,sb] at hb);try exact ao)))
   generalize (q ++ r).drop (norm q).length=r2 at *;generalize norm q=lq at *;rw [hvq] at hvn2;refine aT (Nat×Nat×List UInt8) (fun z=>XM Tryz.f23.ntmps lq r2 (ver+1) z.1 z.2.1 z.2.2) (fun z=>z.1<=9/\z.2.1 < 10 ^ (9 - z.1)/\z.2.2 ++ fE (yo (val lq) z.1 z.2.1)=fE (val m)) (fun z=>9 - z.1) [] (0,val l % 1000000000,D) trivial ⟨C0 _,J9 _ B3,?_⟩ ⟨rfl,⟨rfl,rfl,rfl,rfl,rfl,trivial,rfl,trivial,trivial⟩,⟨?_,rfl,trivial⟩,TF⟩ ?_
   ·have e:yo (val lq) 0 (val l % 1000000000)=val l:=by
     unfold yo;rw [hvn2];have:=M0 (val l) 1000000000;show val l / 1000000000 * 1000000000+val l % 1000000000=val l;omega
    show D ++ fE (yo (val lq) 0 (val l % 1000000000))=_;rw [e];exact hD
   ·rw [<- hspl];rfl
   clear cs ct hspl hq hnq hD;rintro⟨i,p,D'⟩ ⟨hi,hp,hD⟩;dsimp only at hi hp hD |-
   have hDl:D'.length<=10485760:=by
    have:=B4 List.length hD;rw [List.length_append] at this;omega
   have hexit:∀{s:St},yo (val lq) i p=val lq->Le (Wb Tryz.f23.ntmps lq r2 (ver+1) D') s->∃z':List UInt32×List UInt32×Nat×List UInt8,(norm (Prod.fst z')=z'.1/\z'.1.length+z'.2.1.length<=1048576/\z'.2.2.2 ++ fE (val z'.1)=fE (val m))/\val z'.1 < val l/\Le (Wb Tryz.f23.ntmps z'.1 z'.2.1 z'.2.2.1 z'.2.2.2) s:=fun he h=>
    ⟨(lq,r2,ver+1,D'),⟨hnn,hrl,by show D' ++ fE (val lq)=_;rw [<- he];exact hD⟩,by show val lq < val l;rw [hvn2];omega,h⟩
   by_cases c1:i < 9
   ·obtain⟨k1,k2,k3⟩:=KJ (v:=val lq) c1 hp;have hp9:p < 1000000000:=L0 hp ((show 10 ^ (9 - i)<=10 ^ 9 from K8 B3 A8))
    have hnx:yo (val lq) i p≠0->(D' ++ [UInt8.ofNat (48+p % 10)]) ++ fE (yo (val lq) (i+1) (p / 10))=fE (val m):=fun h=>by
     rw [<- hD,Qh D' h,k1,k2]
    by_cases c2:lq.length=0
    ·have hv0:val lq=0:=by rw [C8 c2];rfl
     by_cases c3:p=0
     ·have he:yo (val lq) i p=val lq:=by unfold yo;rw [hv0,c3,Nat.zero_mul]
      subst c3
      repeat'(first|(with_reducible first|(refine zz ?_;try intro K hK)|refine zi ?_|refine zh ?_)|((first|apply hK _ _ rfl|apply hK);clear hK K)|(guard_hyp hK;first|refine zy ?_|apply ab|apply aa|(refine aY ?_;intro hu)|refine zP wA ?_|(refine aD ?_;intro hm1 hm2)|refine zP aZ ?_|refine zP rfl ?_|intro b0 hb)|((first|refine zj ?_|guard_hyp hK);refine zY ?_ ?_;all_goals(intro hb;(try simp only [sn,sb] at hb);try exact ao)))
      exact hexit he ⟨rfl,⟨rfl,rfl,rfl,rfl,trivial⟩,⟨rfl,rfl,trivial⟩,TF⟩
     ·have hne:yo (val lq) i p≠0:=by unfold yo;omega
      repeat'(first|(refine UO (Ra rfl) ?_)|(with_reducible first|(refine zz ?_;try intro K hK)|refine zi ?_|refine zh ?_)|((first|apply hK _ _ rfl|apply hK);clear hK K)|(guard_hyp hK;first|refine zy ?_|apply ab|apply aa|(refine aY ?_;intro hu)|refine zP wA ?_|(refine aD ?_;intro hm1 hm2)|refine zP aZ ?_|refine zP rfl ?_|intro b0 hb)|((first|refine zj ?_|guard_hyp hK);refine zY ?_ ?_;all_goals(intro hb;(try simp only [sn,sb] at hb);try exact ao)))
      exact⟨(i+1,p / 10,D' ++ [UInt8.ofNat (48+p % 10)]),⟨c1,k3,hnx hne⟩,by show 9 - (i+1) < 9 - i;omega,rfl,⟨rfl,rfl,UH _ _,rfl,UD hp9,trivial,rfl,trivial,trivial⟩,⟨rfl,UJ _ _,trivial⟩,TF⟩
    ·have hne:yo (val lq) i p≠0:=by
      have h1:val lq≠0:=fun h=>c2 (by rw [<- hnn,bL,h,lm,if_pos rfl];rfl)
      have h2:0 < val lq * 10 ^ (9 - i):=Nat.mul_pos (I9 h1) (M3 B3);unfold yo;omega
     repeat'(first|(refine UO (Ra rfl) ?_)|(with_reducible first|(refine zz ?_;try intro K hK)|refine zi ?_|refine zh ?_)|((first|apply hK _ _ rfl|apply hK);clear hK K)|(guard_hyp hK;first|refine zy ?_|apply ab|apply aa|(refine aY ?_;intro hu)|refine zP wA ?_|(refine aD ?_;intro hm1 hm2)|refine zP aZ ?_|refine zP rfl ?_|intro b0 hb)|((first|refine zj ?_|guard_hyp hK);refine zY ?_ ?_;all_goals(intro hb;(try simp only [sn,sb] at hb);try exact ao)))
     exact⟨(i+1,p / 10,D' ++ [UInt8.ofNat (48+p % 10)]),⟨c1,k3,hnx hne⟩,by show 9 - (i+1) < 9 - i;omega,rfl,⟨rfl,rfl,UH _ _,rfl,UD hp9,trivial,rfl,trivial,trivial⟩,⟨rfl,UJ _ _,trivial⟩,TF⟩
   ·have he:yo (val lq) i p=val lq:=by
     obtain rfl:i=9:=by omega
     have:p=0:=by
      have:=hp;rw [H6,X8] at this;omega
     unfold yo;rw [this,H6,X8];omega
    repeat'(first|(with_reducible first|(refine zz ?_;try intro K hK)|refine zi ?_|refine zh ?_)|((first|apply hK _ _ rfl|apply hK);clear hK K)|(guard_hyp hK;first|refine zy ?_|apply ab|apply aa|(refine aY ?_;intro hu)|refine zP wA ?_|(refine aD ?_;intro hm1 hm2)|refine zP aZ ?_|refine zP rfl ?_|intro b0 hb)|((first|refine zj ?_|guard_hyp hK);refine zY ?_ ?_;all_goals(intro hb;(try simp only [sn,sb] at hb);try exact ao)))
    exact hexit he ⟨rfl,⟨rfl,rfl,rfl,rfl,trivial⟩,⟨rfl,rfl,trivial⟩,TF⟩
end Go.Ev
