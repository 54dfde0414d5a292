import Derived.Test.YtppbdmkbhalmpaaGreatDoorLaf
set_option linter.all false
set_option maxRecDepth 10000
namespace Go.Ev
structure Kn (W v1 v2 vl top u2 ul V U:Nat):Prop where
 v:V=vl+W * v2+4294967296 * (W * v1)
 u:U=ul+W * u2+4294967296 * (W * top)
 vl:vl < W
 ul:ul < W
 v2:v2 < 4294967296
 u2:u2 < 4294967296
 v1:1≤v1
theorem Kn.low {W v1 v2 vl top u2 ul V U:Nat}(h:Kn W v1 v2 vl top u2 ul V U):vl+W * v2 < 4294967296 * W∧ul+W * u2 < 4294967296 * W:=by
 have h1:W * (v2+1)≤W * 4294967296:=Nat.mul_le_mul_left _ h.v2
 have h2:W * (u2+1)≤W * 4294967296:=Nat.mul_le_mul_left _ h.u2
 rw [Nat.mul_add,Nat.mul_one] at h1 h2
 have:=h.vl
 have:=h.ul
 omega
theorem Kn.up {W v1 v2 vl top u2 ul V U q:Nat}(h:Kn W v1 v2 vl top u2 ul V U)(hq:q * V≤U):q * v1≤top:=by
 rcases Nat.lt_or_ge top (q * v1) with h1|h1
 ·exfalso
  have h2:W * (top+1)≤W * (q * v1):=Nat.mul_le_mul_left _ h1
  have h3:q * (4294967296 * (W * v1))≤q * V:=Nat.mul_le_mul_left _ (by rw [h.v];omega)
  have e1:q * (4294967296 * (W * v1))=4294967296 * (W * (q * v1)):=by ac_rfl
  have h4:=h.low.2
  have h5:=h.u
  rw [Nat.mul_add,Nat.mul_one] at h2
  omega
 ·exact h1
theorem Kn.less {W v1 v2 vl top u2 ul V U q g r:Nat}(h:Kn W v1 v2 vl top u2 ul V U)(hq:q * V≤U)(hg:g * v1+r=top)(hl:r * 4294967296+u2 < g * v2):q+1≤g:=by
 rcases Nat.lt_or_ge q g with h1|h1
 ·exact h1
 ·exfalso
  have h2:g * V≤q * V:=Nat.mul_le_mul_right _ h1
  have h3:W * (r * 4294967296+u2+1)≤W * (g * v2):=Nat.mul_le_mul_left _ hl
  have e1:g * V=g * vl+W * (g * v2)+4294967296 * (W * (g * v1)):=by
   rw [h.v,Nat.mul_add,Nat.mul_add]
   have a1:g * (W * v2)=W * (g * v2):=by ac_rfl
   have a2:g * (4294967296 * (W * v1))=4294967296 * (W * (g * v1)):=by ac_rfl
   rw [a1,a2]
  have e2:W * top=W * (g * v1)+W * r:=by rw [← hg,Nat.mul_add]
  have e3:W * (r * 4294967296+u2+1)=4294967296 * (W * r)+W * u2+W:=by
   rw [Nat.mul_add,Nat.mul_add,Nat.mul_one]
   have:W * (r * 4294967296)=4294967296 * (W * r):=by ac_rfl
   rw [this]
  have h5:=h.u
  have h6:=h.ul
  omega
theorem Kn.last {W v1 v2 vl top u2 ul V U g r:Nat}(h:Kn W v1 v2 vl top u2 ul V U)(hg:g * v1+r=top)(hb:g < 4294967296)(hl:4294967296≤r∨g * v2≤r * 4294967296+u2):g * V≤U+V:=by
 have e1:g * V=g * vl+W * (g * v2)+4294967296 * (W * (g * v1)):=by
  rw [h.v,Nat.mul_add,Nat.mul_add]
  have a1:g * (W * v2)=W * (g * v2):=by ac_rfl
  have a2:g * (4294967296 * (W * v1))=4294967296 * (W * (g * v1)):=by ac_rfl
  rw [a1,a2]
 have e2:W * top=W * (g * v1)+W * r:=by rw [← hg,Nat.mul_add]
 have h5:=h.u
 have h6:=h.v
 rcases hl with hl|hl
 ·have h1:g * (vl+W * v2)≤4294967296 * (4294967296 * W):=Nat.mul_le_mul (Nat.le_of_lt hb) (Nat.le_of_lt h.low.1)
  have e3:g * (vl+W * v2)=g * vl+W * (g * v2):=by
   rw [Nat.mul_add]
   have a1:g * (W * v2)=W * (g * v2):=by ac_rfl
   rw [a1]
  have h2:W * 4294967296≤W * r:=Nat.mul_le_mul_left _ hl
  omega
 ·have h1:W * (g * v2)≤W * (r * 4294967296+u2):=Nat.mul_le_mul_left _ hl
  have e3:W * (r * 4294967296+u2)=4294967296 * (W * r)+W * u2:=by
   rw [Nat.mul_add]
   have:W * (r * 4294967296)=4294967296 * (W * r):=by ac_rfl
   rw [this]
  have h2:g * vl≤4294967296 * W:=Nat.mul_le_mul (Nat.le_of_lt hb) (Nat.le_of_lt h.vl)
  have h3:W * 1≤W * v1:=Nat.mul_le_mul_left _ h.v1
  omega
theorem dig_eq {U V g:Nat}(h1:g * V≤U)(h2:U < (g+1) * V):g=U / V:=by
 have hv:0 < V:=by
  rcases Nat.eq_zero_or_pos V with h|h
  ·rw [h] at h2;simp at h2
  ·exact h
 refine(Nat.div_eq_of_lt_le ?_ ?_).symm
 ·exact h1
 ·exact h2
theorem Kn.dn {W v1 v2 vl top u2 ul V U g r:Nat}(h:Kn W v1 v2 vl top u2 ul V U)(hU:U < 4294967296 * V)(hg:g * v1+r=top)(hc:4294967296≤g∨r * 4294967296+u2 < g * v2):1≤g∧U < (g - 1+1) * V∧(g - 1) * v1+(r+v1)=top:=by
 have hlt:U < g * V:=by
  rcases hc with hc|hc
  ·exact Nat.lt_of_lt_of_le hU (Nat.mul_le_mul_right _ hc)
  ·have hV:0 < V:=by
    rcases Nat.eq_zero_or_pos V with h0|h0
    ·rw [h0] at hU;omega
    ·exact h0
   have h1:=h.less (q:=U / V) (Nat.div_mul_le_self _ _) hg hc
   have h2:(U / V+1) * V≤g * V:=Nat.mul_le_mul_right _ h1
   have h3:=Nat.div_add_mod U V
   have h4:=Nat.mod_lt U hV
   rw [Nat.add_mul,Nat.one_mul,Nat.mul_comm] at h2
   omega
 obtain⟨k,rfl⟩:∃k,g=k+1:=by
  rcases g with _|k
  ·simp at hlt
  ·exact⟨k,rfl⟩
 refine⟨by omega,by simpa using hlt,?_⟩
 rw [Nat.add_sub_cancel]
 rw [Nat.add_mul,Nat.one_mul] at hg
 omega
theorem Kn.br {W v1 v2 vl top u2 ul V U g r:Nat}(h:Kn W v1 v2 vl top u2 ul V U)(hU:U < 4294967296 * V)(hT:top < 4294967296 * v1+4294967296)(hg:g * v1+r=top)(hc:4294967296≤g∨r * 4294967296+u2 < g * v2)(hb:4294967296≤r+v1) :
  g - 1 < 4294967296∧(g - 1) * V≤U+V:=by
 have h1:g - 1 < 4294967296:=by
  rcases Nat.lt_or_ge (g - 1) 4294967296 with h1|h1
  ·exact h1
  ·exfalso
   have h2:(4294967296+1) * v1≤g * v1:=Nat.mul_le_mul_right _ (by omega)
   rw [Nat.add_mul,Nat.one_mul] at h2
   omega
 exact⟨h1,h.last (h.dn hU hg hc).2.2 h1 (.inl hb)⟩
theorem val_split3 {l:List UInt32}{k:Nat}(h:k+3≤l.length):val (l.take (k+3))=val (l.take k)+4294967296 ^ k * (l.getD k default).toNat+4294967296 * (4294967296 ^ k * ((l.getD (k+2) default).toNat * 4294967296+(l.getD (k+1) default).toNat)):=by
 rw [val_take_succ l (k+2) (by omega),val_take_succ l (k+1) (by omega),val_take_succ l k (by omega),show 4294967296 ^ (k+2)=4294967296 ^ k * 4294967296 * 4294967296 from rfl,show 4294967296 ^ (k+1)=4294967296 ^ k * 4294967296 from rfl]
 generalize 4294967296 ^ k=w
 generalize (l.getD k default).toNat=a
 generalize (l.getD (k+1) default).toNat=b
 generalize (l.getD (k+2) default).toNat=c
 rw [Nat.mul_add,Nat.mul_add]
 have e1:c * (w * 4294967296 * 4294967296)=4294967296 * (w * (c * 4294967296)):=by ac_rfl
 have e2:b * (w * 4294967296)=4294967296 * (w * b):=by ac_rfl
 rw [e1,e2,Nat.mul_comm a w]
 omega
theorem val_split2 {l:List UInt32}{k:Nat}(h:k+2≤l.length):val (l.take (k+2))=val (l.take k)+4294967296 ^ k * (l.getD k default).toNat+4294967296 * (4294967296 ^ k * (l.getD (k+1) default).toNat):=by
 rw [val_take_succ l (k+1) (by omega),val_take_succ l k (by omega),Nat.pow_succ]
 generalize 4294967296 ^ k=w
 generalize (l.getD k default).toNat=a
 generalize (l.getD (k+1) default).toNat=b
 have e2:b * (w * 4294967296)=4294967296 * (w * b):=by ac_rfl
 rw [e2,Nat.mul_comm a w]
theorem getD_drop {l:List UInt32}{o k:Nat}:(l.drop o).getD k default=l.getD (o+k) default:=by simp [List.getD]
theorem kn_of {p v:List UInt32}{off n:Nat}(hn:v.length=n)(h2:2≤n)(ho:off+(n+1)≤p.length)(h1:1≤(v.getD (n - 1) default).toNat) :
  ∃w vl ul,Kn w (v.getD (n - 1) default).toNat (v.getD (n - 2) default).toNat vl ((p.getD (off+n) default).toNat * 4294967296+(p.getD (off+(n - 1)) default).toNat) (p.getD (off+(n - 2)) default).toNat ul (val v) (val ((p.drop off).take (n+1))):=by
 obtain⟨k,rfl⟩:∃k,n=k+2:=⟨n - 2,by omega⟩
 have hl:(p.drop off).length=p.length - off:=List.length_drop
 refine⟨4294967296 ^ k,val (v.take k),val ((p.drop off).take k),?_⟩
 have e1:val v=val (v.take (k+2)):=by rw [List.take_of_length_le (by omega)]
 constructor
 ·rw [e1,val_split2 (by omega)];rfl
 ·rw [show k+2+1=k+3 from rfl,val_split3 (by omega),getD_drop,getD_drop,getD_drop];rfl
 ·have:=val_lt (v.take k);rwa [List.length_take,Nat.min_eq_left (by omega)] at this
 ·have:=val_lt ((p.drop off).take k);rwa [List.length_take,Nat.min_eq_left (by omega)] at this
 ·exact UInt32.toNat_lt _
 ·exact UInt32.toNat_lt _
 ·exact h1
def subd (u low:Nat):Nat:=(u+4294967296 - low) % 4294967296
theorem subd_eq {u low:Nat}(hu:u < 4294967296)(hl:low≤4294967296):subd u low+low=u+4294967296 * (if u < low then 1 else 0):=by
 unfold subd;split<;>omega
theorem subd_lt (u low:Nat):subd u low < 4294967296:=Nat.mod_lt _ (by decide)
theorem dg_val {x:List UInt32}{d:Nat}(hd:d < 4294967296):val (x ++ [UInt32.ofNat d])=val x+4294967296 ^ x.length * d:=by
 rw [val_append]
 have e1:val [UInt32.ofNat d]=d:=by
  show(UInt32.ofNat _).toNat+4294967296 * val []=_
  rw [UInt32.toNat_ofNat',Nat.mod_eq_of_lt hd];rfl
 rw [e1]
theorem ksub_step {X V g w c b u k t d b':Nat}{U:Nat}(h:X+g * V=U+w * (c+b))(ht:t=c+g * k)(hd:d+(t % 4294967296+b)=u+4294967296 * b') :
  (X+w * d)+g * (V+k * w)=(U+u * w)+(w * 4294967296) * (t / 4294967296+b'):=by
 have h1:=Nat.div_add_mod t 4294967296
 have e0:c+g * k+b+d=4294967296 * (t / 4294967296+b')+u:=by rw [Nat.mul_add];omega
 have e1:=congrArg (fun x=>w * x) e0
 simp only [Nat.mul_add] at e1
 have e2:g * (k * w)=w * (g * k):=by ac_rfl
 rw [Nat.mul_add,e2,Nat.mul_add] at *
 have e3:w * 4294967296 * (t / 4294967296)=w * (4294967296 * (t / 4294967296)):=by ac_rfl
 have e4:w * 4294967296 * b'=w * (4294967296 * b'):=by ac_rfl
 rw [e3,e4,Nat.mul_comm u w]
 omega
theorem kadd_step {Y V w c u k t:Nat}{U:Nat}(h:Y+w * c=U+V)(ht:t=c+(u+k)):(Y+w * (t % 4294967296))+(w * 4294967296) * (t / 4294967296)=(U+u * w)+(V+k * w):=by
 have h1:=Nat.div_add_mod t 4294967296
 have e1:=congrArg (fun x=>w * x) h1
 simp only [Nat.mul_add] at e1
 rw [ht] at e1 ⊢
 have e3:w * 4294967296 * ((c+(u+k)) / 4294967296)=w * (4294967296 * ((c+(u+k)) / 4294967296)):=by ac_rfl
 rw [e3,Nat.mul_comm u w,Nat.mul_comm k w]
 simp only [Nat.mul_add] at e1
 omega
theorem dig_a {vx vp w d c b u g W U:Nat}(s4:vx+g * W=vp+w * (c+b))(hd:d+(c+b)=u)(hU:U=vp+u * w):(vx+w * d)+g * W=U:=by
 have e1:=congrArg (fun x=>w * x) hd
 simp only [Nat.mul_add] at e1 s4
 rw [hU,Nat.mul_comm u w];omega
theorem dig_b {vx vp w d c b u g W U:Nat}(s4:vx+g * W=vp+w * (c+b))(hd:d+(c+b)=u+4294967296)(hU:U=vp+u * w):(vx+w * d)+g * W=U+w * 4294967296:=by
 have e1:=congrArg (fun x=>w * x) hd
 simp only [Nat.mul_add] at e1 s4
 rw [hU,Nat.mul_comm u w];omega
theorem dig_c {vx vy w d d1 ov k g W U:Nat}(t4:vy+w * k=vx+W)(hd1:d1+4294967296 * ov=d+k)(h:(vx+w * d)+g * W=U+w * 4294967296):(vy+w * d1)+w * 4294967296 * ov+g * W=U+w * 4294967296+W:=by
 have e1:=congrArg (fun x=>w * x) hd1
 simp only [Nat.mul_add] at e1
 have e3:w * 4294967296 * ov=w * (4294967296 * ov):=by ac_rfl
 rw [e3];omega
theorem dig_d {z wB ov g W U:Nat}(h:z+wB * ov+g * W=U+wB+W)(hz:z < wB)(ho:ov≤1)(hg:g * W≤U+W):z+g * W=U+W:=by
 rcases Nat.eq_zero_or_pos ov with h0|h0
 ·subst h0;rw [Nat.mul_zero] at h;omega
 ·have:ov=1:=by omega
  subst this;omega
theorem dig_fin {U W g r:Nat}(h:r+g * W=U)(h2:U < (g+1) * W):U / W=g∧U % W=r:=by
 have h3:=dig_eq (U:=U) (V:=W) (g:=g) (by omega) h2
 refine⟨h3.symm,?_⟩
 have:=Nat.div_add_mod U W
 rw [← h3,Nat.mul_comm] at this;omega
end Go.Ev
