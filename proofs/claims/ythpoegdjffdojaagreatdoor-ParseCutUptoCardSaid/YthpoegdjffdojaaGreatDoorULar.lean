import Derived.Test.YthpoegdjffdojaaGreatDoorULai
set_option linter.all false
set_option maxHeartbeats 4000000
set_option maxRecDepth 10000
namespace Go.Ev
open Go.Proofs
theorem wJ {s:Nat}(hs:s < 32):2 ^ s < 4294967296:=L0 (Nat.pow_lt_pow_right B3 hs) B3
theorem Wv {x s:Nat}{Q:Int->Prop}(hs:s < 32)(k:Q ((x * 2 ^ s % 4294967296:Nat):Int)):∃r,r=IntKind.u32.wrap ((x:Int) * 2 ^ (min ((s:Nat):Int).toNat IntKind.u32.bits))/\Q r:=by
 refine⟨_,?_,k⟩
 have e:(x:Int) * 2 ^ (min ((s:Nat):Int).toNat IntKind.u32.bits)=((x * 2 ^ s:Nat):Int):=by
  rw [K4,show IntKind.u32.bits=32 from rfl,I5 A8];simp
 rw [e,wrap32 (L8 _),K4,E9]
theorem Wu {x s:Nat}{Q:Int->Prop}(hs:s < 32)(hx:x < 4294967296)(k:Q ((x * 2 ^ s:Nat):Int)):∃r,r=IntKind.u64.wrap ((x:Int) * 2 ^ (min ((s:Nat):Int).toNat IntKind.u64.bits))/\Q r:=by
 refine⟨_,?_,k⟩
 have e:(x:Int) * 2 ^ (min ((s:Nat):Int).toNat IntKind.u64.bits)=((x * 2 ^ s:Nat):Int):=by
  rw [K4,show IntKind.u64.bits=64 from rfl,I5 A8];simp
 have h:x * 2 ^ s < 4294967296 * 4294967296:=Nat.mul_lt_mul_of_lt_of_lt hx (wJ hs);rw [e];exact fU (L8 _) A8
theorem Ut {a:Nat}{Q:Int->Prop}(k:Q ((a / 4294967296:Nat):Int)):∃r,r=((a:Nat):Int).fdiv (2 ^ (min (32:Int).toNat IntKind.u64.bits))/\Q r:=by
 refine⟨_,?_,k⟩;show _=((a:Nat):Int).fdiv 4294967296;rw [M6 _ B3];rfl
theorem OL {c x s:Nat}(hs:s < 32)(hc:c < 2 ^ s)(hx:x < 4294967296):IntKind.u32.wrap (((BitVec.ofInt 32 ((c:Nat):Int) |||BitVec.ofInt 32 ((x * 2 ^ s % 4294967296:Nat):Int)).toNat:Nat):Int)=((c+x * 2 ^ s % 4294967296:Nat):Int)/\c+x * 2 ^ s % 4294967296 < 4294967296:=by
 have hp:=wJ hs;have e4:(4294967296:Nat)=2 ^ s * 2 ^ (32 - s):=by rw [<- P3,show s+(32 - s)=32 by omega]
 obtain⟨m,hm⟩:∃m,x * 2 ^ s % 4294967296=m * 2 ^ s:=⟨x % 2 ^ (32 - s),by rw [e4,E0 x,Nat.mul_mod_mul_left,E0]⟩
 have hml:m * 2 ^ s < 4294967296:=by rw [<- hm];exact J9 _ B3
 have hlt:c+m * 2 ^ s < 4294967296:=by
  have h1:m < 2 ^ (32 - s):=by
   rw [e4,E0] at hml;exact Nat.lt_of_mul_lt_mul_left hml
  have h2:(m+1) * 2 ^ s<=2 ^ (32 - s) * 2 ^ s:=F6 _ h1;rw [E0 (2 ^ (32 - s)),<- e4,I8,Q1] at h2;omega
 have e1:BitVec.ofInt 32 ((c:Nat):Int)=BitVec.ofNat 32 c:=R8 ..;have e2:BitVec.ofInt 32 ((m * 2 ^ s:Nat):Int)=BitVec.ofNat 32 (m * 2 ^ s):=R8 ..
 have e3:c |||m * 2 ^ s=c+m * 2 ^ s:=by
  have:=Nat.shiftLeft_add_eq_or_of_lt (b:=c) (i:=s) hc m;rw [Nat.shiftLeft_eq] at this;rw [Nat.or_comm,<- this,Nat.add_comm]
 rw [hm];refine⟨?_,hlt⟩;rw [e1,e2,BitVec.toNat_or,Q5,Q5,E2 A8,E2 A8,e3,wrap32 (L8 _),K4,E9,E2 hlt]
theorem qp {l:List UInt32}{k:Nat}(h:k < l.length):val (l.take (k+1))=val (l.take k)+(l.getD k default).toNat * 4294967296 ^ k:=bO l k h
theorem Qf {L:List UInt32}{i j:Nat}{v:V}{Q:V->Prop}(h:j < L.length)(hne:i≠j)(k:Q (cu (L.getD j default))):∃e,((L.map cu).set i v)[j]?=some e/\Q e:=by
 refine⟨_,?_,k⟩;rw [W9 hne,Zf,uz h];simp [List.getD,h]
theorem Ob {q:List UInt32}{c a b:UInt32}{n:Nat}(hn:0 < n):(((q ++ c :: List.replicate n 0).set q.length a).set (q.length+1) b)=(q ++ [a]) ++ b :: List.replicate (n - 1) 0:=by
 obtain⟨m,rfl⟩:∃m,n=m+1:=⟨n - 1,by omega⟩
 rw [N3 _ _ (wU _),H6,U8,N3 _ _ A8,show q.length+1 - q.length=1 by omega,List.set_cons_succ,T9,U8,List.append_assoc];rfl
theorem BB (l:List UInt32)(s:Nat)(hs:s < 32)(hl:l.length<=10737418240):IG Tryz.prog 155 [tn l,.af (.int .i64 s)] [(0,⟨1,(ig (l.length+1) (val l * 2 ^ s)).map cu,0,true⟩)] (.own 0 0 0 (l.length+1)):=by
 refine kf bN mix Tryz.func155 rfl rfl B1 (zO rfl) ?_
 repeat'(first|(with_reducible first|(refine zz ?_;try intro K hK)|refine zi ?_|refine zh ?_)|((first|apply hK _ _ rfl|apply hK);clear hK K)|(guard_hyp hK;first|refine zy ?_|apply ab|apply aa|(refine aY ?_;intro hu)|refine zP wA ?_|(refine aD ?_;intro hm1 hm2)|refine zP aZ ?_|refine zP rfl ?_|intro b0 hb)|((first|refine zj ?_|guard_hyp hK);refine zY ?_ ?_;all_goals(intro hb;(try simp only [sn,sb] at hb);try exact ao)))
 refine aT (List UInt32×Nat) (fun(q,c)=>⟨Tryz.f155.ntmps,[(1,.af (.int .i64 s)),(5,.own 0 0 0 (l.length+1)),(12,.ro false (tn l)),(13,.af (.int .i64 l.length)),(14,.af (.int .i64 (q.length:Nat)))],[(0,⟨1,(q ++ UInt32.ofNat c :: List.replicate (l.length - q.length) 0).map cu,0,true⟩)]⟩)
  (fun(q,c)=>q.length<=l.length/\c < 2 ^ s/\val q+4294967296 ^ q.length * c=val (l.take q.length) * 2 ^ s) (fun(q,c)=>l.length - q.length) [] ([],0) trivial ⟨by simp,M3 B3,by simp [val]⟩ ⟨rfl,⟨rfl,trivial,?_,rfl,rfl,trivial,?_,trivial,rfl,trivial,trivial⟩,⟨?_,trivial⟩,bc _ _⟩ ?_
 ·show V.own _ _ _ _=_;simp only [List.length_map];rfl
 ·show V.af (.int .i64 ((l.map bw).length:Nat))=_;rw [List.length_map]
 ·show some _=some _
  congr 1
  congr 1
  simp only [List.length_map];show List.replicate ((l.length:Int)+1).toNat (V.af (.int .u32 0))=_;rw [show((l.length:Int)+1).toNat=l.length+1 by omega,T9];show _=cu 0 :: (List.replicate (l.length - 0) 0).map cu;rw [T6,List.map_replicate];rfl
 rintro⟨q,c⟩ ⟨h1,h2,h3⟩
 repeat'(first|(first|(refine Wv hs ?_)|(refine Wu hs (E6 _) ?_)|(refine Ut ?_)|(refine Qf (by simp;omega) A8 ?_))|(with_reducible first|(refine zz ?_;try intro K hK)|refine zi ?_|refine zh ?_)|((first|apply hK _ _ rfl|apply hK);clear hK K)|(guard_hyp hK;first|refine zy ?_|apply ab|apply aa|(refine aY ?_;intro hu)|refine zP wA ?_|(refine aD ?_;intro hm1 hm2)|refine zP aZ ?_|refine zP rfl ?_|intro b0 hb)|((first|refine zj ?_|guard_hyp hK);refine zY ?_ ?_;all_goals(intro hb;(try simp only [sn,sb] at hb);try exact ao)))
 ·obtain⟨x,hx⟩:∃x,(l.getD q.length default).toNat=x:=⟨_,rfl⟩
  have hxb:x < 4294967296:=by rw [<- hx];exact E6 _
  have hk:q.length < l.length:=by omega
  obtain⟨ho1,ho2⟩:=OL hs h2 hxb;have hp:=wJ hs;have hcb:c < 4294967296:=Nat.lt_trans h2 hp
  have hc2:x * 2 ^ s / 4294967296 < 2 ^ s:=by
   rw [N2 B3,E0];exact Nat.mul_lt_mul_of_pos_left hxb (M3 B3)
  have el:(q ++ [UInt32.ofNat (c+x * 2 ^ s % 4294967296)]).length=q.length+1:=by simp
  have hgc:(((q ++ UInt32.ofNat c :: List.replicate (l.length - q.length) 0).getD (0+q.length) default).toNat:Int)=((c:Nat):Int):=by
   rw [C2,List.getD,IX (wU _),H6];show((UInt32.ofNat c).toNat:Int)=_;rw [E9,E2 hcb]
  refine⟨(q ++ [UInt32.ofNat (c+x * 2 ^ s % 4294967296)],x * 2 ^ s / 4294967296),⟨by rw [el];omega,hc2,?ga⟩,by show l.length - (q ++ [_]).length < l.length - q.length;rw [List.length_append];show _ - (_+1) < _;omega,rfl,⟨rfl,trivial,rfl,rfl,rfl,trivial,rfl,trivial,?gc,trivial,trivial⟩,⟨?gd,trivial⟩,bc _ _⟩
  case ga=>
   rw [el,qp hk,hx,I8,<- h3,dN]
   have e1:val [UInt32.ofNat (c+x * 2 ^ s % 4294967296)]=c+x * 2 ^ s % 4294967296:=by
    show(UInt32.ofNat _).toNat+4294967296 * val []=_;rw [E9,E2 ho2];rfl
   have e2:=M0 (x * 2 ^ s) 4294967296;rw [e1,H9];generalize 4294967296 ^ q.length=w at *;generalize x * 2 ^ s / 4294967296=hi at *;generalize x * 2 ^ s % 4294967296=lo at *;have e3:x * w * 2 ^ s=w * (x * 2 ^ s):=by ac_rfl
   rw [e3,<- e2,H3,H3,J2 w 4294967296 hi];omega
  case gc=>
   show V.af (.int .i64 ((q.length:Int)+1))=V.af (.int .i64 (((q ++ [UInt32.ofNat (c+x * 2 ^ s % 4294967296)]).length:Nat):Int));rw [el];rfl
  case gd=>
   refine B4 (fun l=>some (Obj.mk 1 l 0 true)) (?_:(((q ++ UInt32.ofNat c :: List.replicate (l.length - q.length) 0).map cu).set (0+q.length) (V.af (.int .u32 (IntKind.u32.wrap (((BitVec.ofInt 32 (((q ++ UInt32.ofNat c :: List.replicate (l.length - q.length) 0).getD (0+q.length) default).toNat:Int) |||BitVec.ofInt 32 (((l.getD q.length default).toNat * 2 ^ s % 4294967296:Nat):Int)).toNat:Nat):Int))))).set (0+(q.length+1)) (V.af (.int .u32 (IntKind.u32.wrap (((l.getD q.length default).toNat * 2 ^ s / 4294967296:Nat):Int))))=_);rw [hgc,hx,ho1,C2,C2,wrap32 (L8 _),K4];have e9:(c+x * 2 ^ s % 4294967296)=(UInt32.ofNat (c+x * 2 ^ s % 4294967296)).toNat:=by rw [E9,E2 ho2]
   rw [show((c+x * 2 ^ s % 4294967296:Nat):Int)=(((UInt32.ofNat (c+x * 2 ^ s % 4294967296)).toNat:Nat):Int) from B4 _ e9,oT,oT,Ob A8,el,show l.length - q.length - 1=l.length - (q.length+1) by omega]
 ·have hql:q.length=l.length:=by omega
  rw [hql,J0] at h3;have hp:=wJ hs;have hcb:c < 4294967296:=Nat.lt_trans h2 hp
  have hv:val (q ++ [UInt32.ofNat c])=val l * 2 ^ s:=by
   rw [dN,hql,<- h3];show val q+4294967296 ^ l.length * ((UInt32.ofNat c).toNat+4294967296 * val [])=_;rw [E9,E2 hcb];rfl
  have hp2:ig (l.length+1) (val l * 2 ^ s)=q ++ [UInt32.ofNat c]:=by
   have:=ma (q ++ [UInt32.ofNat c])
   rwa [List.length_append,hql,hv] at this
  rw [hp2];have e9:q ++ UInt32.ofNat c :: List.replicate (l.length - q.length) 0=q ++ [UInt32.ofNat c]:=by rw [hql,H6];rfl
  have e8:=B4 (fun L=>some (Obj.mk 1 (List.map cu L) 0 true)) e9;refine⟨trivial,false,_,fun _=>0,rfl,yg (id:=0) (ver:=0) e8 (fun e he=>?_),fg.own 0 0 0 (l.length+1) _ e8 rfl rfl⟩
  ·obtain⟨x,-,rfl⟩:=D4.1 he;exact⟨_,rfl⟩
theorem Pj (l:List UInt32)(s:Nat)(hs:s < 32)(hl:l.length<=10737418240):Ok Tryz.prog 155 [tn l,.af (.int .i64 s)] false (tn (ig (l.length+1) (val l * 2 ^ s))):=by
 refine HI (BB l s hs hl) (gW (l:=ig (l.length+1) (val l * 2 ^ s)) (F:=cu) (G:=bw) rfl rfl rfl ?_ ?_ (fun a _=>gp _) rfl)
 ·rw [eJ]
 ·rw [F4,B7 (by rw [List.length_map,eJ];exact wU _)]
structure Kn (W v1 v2 vl top u2 ul V U:Nat):Prop where
 v:V=vl+W * v2+4294967296 * (W * v1)
 u:U=ul+W * u2+4294967296 * (W * top)
 vl:vl < W
 ul:ul < W
 v2:v2 < 4294967296
 u2:u2 < 4294967296
 v1:1<=v1
theorem Kn.low {W v1 v2 vl top u2 ul V U:Nat}(h:Kn W v1 v2 vl top u2 ul V U):vl+W * v2 < 4294967296 * W/\ul+W * u2 < 4294967296 * W:=by
 have h1:W * (v2+1)<=W * 4294967296:=H7 _ h.v2;have h2:W * (u2+1)<=W * 4294967296:=H7 _ h.u2;rw [H3,R4] at h1 h2;have:=h.vl;have:=h.ul;omega
theorem Kn.up {W v1 v2 vl top u2 ul V U q:Nat}(h:Kn W v1 v2 vl top u2 ul V U)(hq:q * V<=U):q * v1<=top:=by
 rcases G8 top (q * v1) with h1|h1
 ·exfalso;have h2:W * (top+1)<=W * (q * v1):=H7 _ h1;have h3:q * (4294967296 * (W * v1))<=q * V:=H7 _ (by rw [h.v];omega);have e1:q * (4294967296 * (W * v1))=4294967296 * (W * (q * v1)):=by ac_rfl
  have h4:=h.low.2;have h5:=h.u;rw [H3,R4] at h2;omega
 ·exact h1
theorem Kn.less {W v1 v2 vl top u2 ul V U q g r:Nat}(h:Kn W v1 v2 vl top u2 ul V U)(hq:q * V<=U)(hg:g * v1+r=top)(hl:r * 4294967296+u2 < g * v2):q+1<=g:=by
 rcases G8 q g with h1|h1
 ·exact h1
 ·exfalso;have h2:g * V<=q * V:=F6 _ h1;have h3:W * (r * 4294967296+u2+1)<=W * (g * v2):=H7 _ hl
  have e1:g * V=g * vl+W * (g * v2)+4294967296 * (W * (g * v1)):=by
   rw [h.v,H3,H3];have a1:g * (W * v2)=W * (g * v2):=by ac_rfl
   have a2:g * (4294967296 * (W * v1))=4294967296 * (W * (g * v1)):=by ac_rfl
   rw [a1,a2]
  have e2:W * top=W * (g * v1)+W * r:=by rw [<- hg,H3]
  have e3:W * (r * 4294967296+u2+1)=4294967296 * (W * r)+W * u2+W:=by
   rw [H3,H3,R4];have:W * (r * 4294967296)=4294967296 * (W * r):=by ac_rfl
   rw [this]
  have h5:=h.u;have h6:=h.ul;omega
theorem Kn.last {W v1 v2 vl top u2 ul V U g r:Nat}(h:Kn W v1 v2 vl top u2 ul V U)(hg:g * v1+r=top)(hb:g < 4294967296)(hl:4294967296<=r\/g * v2<=r * 4294967296+u2):g * V<=U+V:=by
 have e1:g * V=g * vl+W * (g * v2)+4294967296 * (W * (g * v1)):=by
  rw [h.v,H3,H3];have a1:g * (W * v2)=W * (g * v2):=by ac_rfl
  have a2:g * (4294967296 * (W * v1))=4294967296 * (W * (g * v1)):=by ac_rfl
  rw [a1,a2]
 have e2:W * top=W * (g * v1)+W * r:=by rw [<- hg,H3]
 have h5:=h.u;have h6:=h.v;rcases hl with hl|hl
 ·have h1:g * (vl+W * v2)<=4294967296 * (4294967296 * W):=V1 (O0 hb) (O0 h.low.1)
  have e3:g * (vl+W * v2)=g * vl+W * (g * v2):=by
   rw [H3];have a1:g * (W * v2)=W * (g * v2):=by ac_rfl
   rw [a1]
  have h2:W * 4294967296<=W * r:=H7 _ hl;omega
 ·have h1:W * (g * v2)<=W * (r * 4294967296+u2):=H7 _ hl
  have e3:W * (r * 4294967296+u2)=4294967296 * (W * r)+W * u2:=by
   rw [H3];have:W * (r * 4294967296)=4294967296 * (W * r):=by ac_rfl
   rw [this]
  have h2:g * vl<=4294967296 * W:=V1 (O0 hb) (O0 h.vl);have h3:W * 1<=W * v1:=H7 _ h.v1;omega
theorem SZ {U V g:Nat}(h1:g * V<=U)(h2:U < (g+1) * V):g=U / V:=by
 have hv:0 < V:=by
  rcases N5 V with h|h
  ·rw [h] at h2;simp at h2
  ·exact h
 refine(Nat.div_eq_of_lt_le ?_ ?_).symm
 ·exact h1
 ·exact h2
theorem Kn.dn {W v1 v2 vl top u2 ul V U g r:Nat}(h:Kn W v1 v2 vl top u2 ul V U)(hU:U < 4294967296 * V)(hg:g * v1+r=top)(hc:4294967296<=g\/r * 4294967296+u2 < g * v2):1<=g/\U < (g - 1+1) * V/\(g - 1) * v1+(r+v1)=top:=by
 have hlt:U < g * V:=by
  rcases hc with hc|hc
  ·exact L0 hU (F6 _ hc)
  ·have hV:0 < V:=by
    rcases N5 V with h0|h0
    ·rw [h0] at hU;omega
    ·exact h0
   have h1:=h.less (q:=U / V) (Nat.div_mul_le_self _ _) hg hc;have h2:(U / V+1) * V<=g * V:=F6 _ h1;have h3:=M0 U V;have h4:=J9 U hV;rw [I8,Q1,E0] at h2;omega
 obtain⟨k,rfl⟩:∃k,g=k+1:=by
  rcases g with _|k
  ·simp at hlt
  ·exact⟨k,rfl⟩
 refine⟨by omega,by simpa using hlt,?_⟩;rw [O5];rw [I8,Q1] at hg;omega
theorem Kn.br {W v1 v2 vl top u2 ul V U g r:Nat}(h:Kn W v1 v2 vl top u2 ul V U)(hU:U < 4294967296 * V)(hT:top < 4294967296 * v1+4294967296)(hg:g * v1+r=top)(hc:4294967296<=g\/r * 4294967296+u2 < g * v2)(hb:4294967296<=r+v1) :
  g - 1 < 4294967296/\(g - 1) * V<=U+V:=by
 have h1:g - 1 < 4294967296:=by
  rcases G8 (g - 1) 4294967296 with h1|h1
  ·exact h1
  ·exfalso;have h2:(4294967296+1) * v1<=g * v1:=F6 _ A8;rw [I8,Q1] at h2;omega
 exact⟨h1,h.last (h.dn hU hg hc).2.2 h1 (.inl hb)⟩
theorem CC {l:List UInt32}{k:Nat}(h:k+3<=l.length):val (l.take (k+3))=val (l.take k)+4294967296 ^ k * (l.getD k default).toNat+4294967296 * (4294967296 ^ k * ((l.getD (k+2) default).toNat * 4294967296+(l.getD (k+1) default).toNat)):=by
 rw [bO l (k+2) A8,bO l (k+1) A8,bO l k A8,show 4294967296 ^ (k+2)=4294967296 ^ k * 4294967296 * 4294967296 from rfl,show 4294967296 ^ (k+1)=4294967296 ^ k * 4294967296 from rfl];generalize 4294967296 ^ k=w;generalize (l.getD k default).toNat=a;generalize (l.getD (k+1) default).toNat=b;generalize (l.getD (k+2) default).toNat=c;rw [H3,H3];have e1:c * (w * 4294967296 * 4294967296)=4294967296 * (w * (c * 4294967296)):=by ac_rfl
 have e2:b * (w * 4294967296)=4294967296 * (w * b):=by ac_rfl
 rw [e1,e2,E0 a w];omega
theorem CD {l:List UInt32}{k:Nat}(h:k+2<=l.length):val (l.take (k+2))=val (l.take k)+4294967296 ^ k * (l.getD k default).toNat+4294967296 * (4294967296 ^ k * (l.getD (k+1) default).toNat):=by
 rw [bO l (k+1) A8,bO l k A8,H9];generalize 4294967296 ^ k=w;generalize (l.getD k default).toNat=a;generalize (l.getD (k+1) default).toNat=b;have e2:b * (w * 4294967296)=4294967296 * (w * b):=by ac_rfl
 rw [e2,E0 a w]
theorem getD_drop {l:List UInt32}{o k:Nat}:(l.drop o).getD k default=l.getD (o+k) default:=by simp [List.getD]
theorem UX {p v:List UInt32}{off n:Nat}(hn:v.length=n)(h2:2<=n)(ho:off+(n+1)<=p.length)(h1:1<=(v.getD (n - 1) default).toNat) :
  ∃w vl ul,Kn w (v.getD (n - 1) default).toNat (v.getD (n - 2) default).toNat vl ((p.getD (off+n) default).toNat * 4294967296+(p.getD (off+(n - 1)) default).toNat) (p.getD (off+(n - 2)) default).toNat ul (val v) (val ((p.drop off).take (n+1))):=by
 obtain⟨k,rfl⟩:∃k,n=k+2:=⟨n - 2,by omega⟩
 have hl:(p.drop off).length=p.length - off:=List.length_drop;refine⟨4294967296 ^ k,val (v.take k),val ((p.drop off).take k),?_⟩;have e1:val v=val (v.take (k+2)):=by rw [B7 A8]
 constructor
 ·rw [e1,CD A8];rfl
 ·rw [show k+2+1=k+3 from rfl,CC A8,getD_drop,getD_drop,getD_drop];rfl
 ·have:=dZ (v.take k);rwa [List.length_take,I5 A8] at this
 ·have:=dZ ((p.drop off).take k);rwa [List.length_take,I5 A8] at this
 ·exact E6 _
 ·exact E6 _
 ·exact h1
def qk (u low:Nat):Nat:=(u+4294967296 - low) % 4294967296
theorem sm {u low:Nat}(hu:u < 4294967296)(hl:low<=4294967296):qk u low+low=u+4294967296 * (if u < low then 1 else 0):=by
 unfold qk;split<;>omega
theorem mX (u low:Nat):qk u low < 4294967296:=J9 _ B3
theorem mB {x:List UInt32}{d:Nat}(hd:d < 4294967296):val (x ++ [UInt32.ofNat d])=val x+4294967296 ^ x.length * d:=by
 rw [dN]
 have e1:val [UInt32.ofNat d]=d:=by
  show(UInt32.ofNat _).toNat+4294967296 * val []=_;rw [E9,E2 hd];rfl
 rw [e1]
theorem wZ {X V g w c b u k t d b':Nat}{U:Nat}(h:X+g * V=U+w * (c+b))(ht:t=c+g * k)(hd:d+(t % 4294967296+b)=u+4294967296 * b') :
  (X+w * d)+g * (V+k * w)=(U+u * w)+(w * 4294967296) * (t / 4294967296+b'):=by
 have h1:=M0 t 4294967296;have e0:c+g * k+b+d=4294967296 * (t / 4294967296+b')+u:=by rw [H3];omega
 have e1:=B4 (fun x=>w * x) e0;simp only [H3] at e1;have e2:g * (k * w)=w * (g * k):=by ac_rfl
 rw [H3,e2,H3] at *;have e3:w * 4294967296 * (t / 4294967296)=w * (4294967296 * (t / 4294967296)):=by ac_rfl
 have e4:w * 4294967296 * b'=w * (4294967296 * b'):=by ac_rfl
 rw [e3,e4,E0 u w];omega
theorem HZ {Y V w c u k t:Nat}{U:Nat}(h:Y+w * c=U+V)(ht:t=c+(u+k)):(Y+w * (t % 4294967296))+(w * 4294967296) * (t / 4294967296)=(U+u * w)+(V+k * w):=by
 have h1:=M0 t 4294967296;have e1:=B4 (fun x=>w * x) h1;simp only [H3] at e1;rw [ht] at e1 |-;have e3:w * 4294967296 * ((c+(u+k)) / 4294967296)=w * (4294967296 * ((c+(u+k)) / 4294967296)):=by ac_rfl
 rw [e3,E0 u w,E0 k w];simp only [H3] at e1;omega
theorem Vs {vx vp w d c b u g W U:Nat}(s4:vx+g * W=vp+w * (c+b))(hd:d+(c+b)=u)(hU:U=vp+u * w):(vx+w * d)+g * W=U:=by
 have e1:=B4 (fun x=>w * x) hd;simp only [H3] at e1 s4;rw [hU,E0 u w];omega
theorem Vr {vx vp w d c b u g W U:Nat}(s4:vx+g * W=vp+w * (c+b))(hd:d+(c+b)=u+4294967296)(hU:U=vp+u * w):(vx+w * d)+g * W=U+w * 4294967296:=by
 have e1:=B4 (fun x=>w * x) hd;simp only [H3] at e1 s4;rw [hU,E0 u w];omega
theorem Vq {vx vy w d d1 ov k g W U:Nat}(t4:vy+w * k=vx+W)(hd1:d1+4294967296 * ov=d+k)(h:(vx+w * d)+g * W=U+w * 4294967296):(vy+w * d1)+w * 4294967296 * ov+g * W=U+w * 4294967296+W:=by
 have e1:=B4 (fun x=>w * x) hd1;simp only [H3] at e1;have e3:w * 4294967296 * ov=w * (4294967296 * ov):=by ac_rfl
 rw [e3];omega
theorem Vp {z wB ov g W U:Nat}(h:z+wB * ov+g * W=U+wB+W)(hz:z < wB)(ho:ov<=1)(hg:g * W<=U+W):z+g * W=U+W:=by
 rcases N5 ov with h0|h0
 ·subst h0;rw [O9] at h;omega
 ·have:ov=1:=by omega
  subst this;omega
theorem Gj {U W g r:Nat}(h:r+g * W=U)(h2:U < (g+1) * W):U / W=g/\U % W=r:=by
 have h3:=SZ (U:=U) (V:=W) (g:=g) A8 h2;refine⟨h3.symm,?_⟩;have:=M0 U W;rw [<- h3,E0] at this;omega
end Go.Ev
