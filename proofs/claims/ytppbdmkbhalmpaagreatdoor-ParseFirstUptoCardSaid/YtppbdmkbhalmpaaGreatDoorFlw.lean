import Derived.Test.YtppbdmkbhalmpaaGreatDoorLbb
import Derived.Test.YtppbdmkbhalmpaaGreatDoorLbc
set_option linter.all false
set_option maxHeartbeats 60000000
set_option maxRecDepth 10000
namespace Go.Ev
open Go.Proofs
open PS (Trm EntD VarD PrbD FilD)
def flC (c l k:Int)(w:ByteArray):Obj:=⟨4,[.agg [.con (.int .i64 c),.con (.int .i64 l),.con (.int .i64 k),.con (.string w)]],0,true⟩
theorem first_ok (txt0 o:ByteArray)(row:Bool)(ho:o.size≤1048576):Ok Tryz.prog 3 [tS9 txt0,tS9 o,.con (.bool row)] true (.con (.bool true)):=by
 have al:=alive_ok
 refine ok_of_ev hC0 mix Tryz.func3 rfl rfl (by kernel_rfl) (zO rfl) ?_
 repeat'(first|(refine seq_k (a:=Code.region 2 _ _) ByteArray (fun s=>⟨Tryz.f3.ntmps,[(0,.con (.string s)),(1,.con (.string o)),(2,.con (.bool row)),(7,.con (.bool true))],[]⟩) (fun s=>s.size≤2000) ?_ ?_)|(with_reducible first|(refine zz ?_;try intro K hK)|refine zI ?_|refine zt ?_|refine zf ?_)|((first|refine hK _ ?_|refine hK _ _ rfl ?_);clear hK K)|(guard_hyp hK;first|(refine zY ?zz ?_;case zz=>first|exact rfl|exact gJ)|refine fresh_n ?_|refine freshO_n ?_|refine zW ?_|(refine zQ (al) ?_)|intro b0 hb)|((first|with_reducible refine zm ?_|guard_hyp hK);refine zY ?_ ?_;all_goals(intro hb;(try simp only [sn,sb] at hb);try exact ex0)))
 rotate_left
 ·intro R hR
  repeat'(first|(with_reducible first|(refine zz ?_;try intro K hK)|refine zI ?_|refine zt ?_|refine zf ?_)|((first|refine hK _ ?_|refine hK _ _ rfl ?_);clear hK K)|(guard_hyp hK;first|(refine zY ?zz ?_;case zz=>first|exact rfl|exact gJ)|refine fresh_n ?_|refine freshO_n ?_|refine zW ?_|intro b0 hb)|((first|with_reducible refine zm ?_|guard_hyp hK);refine zY ?_ ?_;all_goals(intro hb;(try simp only [sn,sb] at hb);try exact ex0)))
  refine hR _ _ ?_ (lf_of0 ⟨Lc.same _ trivial,Lc.same _ trivial,Lc.same _ trivial,Lc.same _ trivial,trivial⟩ trivial)
  rw [ByteArray.size_extract]
  simp only
  split<;>omega
 intro s hs
 have p1:=pFile s (by omega)
 have q1:=pNums s (by omega)
 repeat'(first|(refine seq_k (a:=Code.region 3 _ _) Unit (fun _=>⟨Tryz.f3.ntmps,[(0,.con (.string s)),(1,.con (.string o)),(2,.con (.bool row)),(7,.con (.bool true)),(9,alEv (fileS decQ s).2)],[]⟩) (fun _=>True) ?_ ?_)|(with_reducible first|(refine zz ?_;try intro K hK)|refine zI ?_|refine zt ?_|refine zf ?_)|((first|refine hK _ ?_|refine hK _ _ rfl ?_);clear hK K)|(guard_hyp hK;first|(refine zY ?zz ?_;case zz=>first|exact rfl|exact gJ)|refine fresh_n ?_|refine freshO_n ?_|refine zW ?_|intro b0 hb)|((first|with_reducible refine zm ?_|guard_hyp hK);refine zY ?_ ?_;all_goals(intro hb;(try simp only [sn,sb] at hb);try exact ex0)))
 rotate_left
 ·intro R hR
  cases hq:(fileS decQ s).2 with
  |none=>
   rw [hq] at p1 hR
   repeat'(first|(with_reducible first|(refine zz ?_;try intro K hK)|refine zI ?_|refine zt ?_|refine zf ?_)|((first|refine hK _ ?_|refine hK _ _ rfl ?_);clear hK K)|(guard_hyp hK;first|(refine zY ?zz ?_;case zz=>first|exact rfl|exact gJ)|refine fresh_n ?_|refine freshO_n ?_|refine zW ?_|(refine zQ (p1) ?_)|intro b0 hb)|((first|with_reducible refine zm ?_|guard_hyp hK);refine zY ?_ ?_;all_goals(intro hb;(try simp only [sn,sb] at hb);try exact ex0)))
   exact hR _ () trivial (lf_of0 ⟨Lc.same _ trivial,Lc.same _ trivial,Lc.same _ trivial,Lc.same _ trivial,Lc.same _ trivial,trivial⟩ trivial)
  |some f=>
   rw [hq] at p1 hR
   repeat'(first|(with_reducible first|(refine zz ?_;try intro K hK)|refine zI ?_|refine zt ?_|refine zf ?_)|((first|refine hK _ ?_|refine hK _ _ rfl ?_);clear hK K)|(guard_hyp hK;first|(refine zY ?zz ?_;case zz=>first|exact rfl|exact gJ)|refine fresh_n ?_|refine freshO_n ?_|refine zW ?_|(refine zQ (p1) ?_)|intro b0 hb)|((first|with_reducible refine zm ?_|guard_hyp hK);refine zY ?_ ?_;all_goals(intro hb;(try simp only [sn,sb] at hb);try exact ex0)))
   exact hR _ () trivial (lf_of0 ⟨Lc.same _ trivial,Lc.same _ trivial,Lc.same _ trivial,Lc.same _ trivial,Lc.same _ trivial,trivial⟩ trivial)
 rintro - -
 repeat'(first|(refine seq_k (a:=(Code.region 4 _ _).seq (Code.cond _ _ _)) Unit (fun _=>⟨Tryz.f3.ntmps,[(0,.con (.string s)),(1,.con (.string o)),(2,.con (.bool row)),(7,.con (.bool true)),(9,alEv (outc row s))],[]⟩) (fun _=>True) ?_ ?_)|(with_reducible first|(refine zz ?_;try intro K hK)|refine zI ?_|refine zt ?_|refine zf ?_)|((first|refine hK _ ?_|refine hK _ _ rfl ?_);clear hK K)|(guard_hyp hK;first|(refine zY ?zz ?_;case zz=>first|exact rfl|exact gJ)|refine fresh_n ?_|refine freshO_n ?_|refine zW ?_|intro b0 hb)|((first|with_reducible refine zm ?_|guard_hyp hK);refine zY ?_ ?_;all_goals(intro hb;(try simp only [sn,sb] at hb);try exact ex0)))
 rotate_left
 ·intro R hR
  cases row with
  |false=>
   have e:outc false s=(fileS decQ s).2:=rfl
   rw [e] at hR
   clear p1 q1 e
   generalize (fileS decQ s).2=z at *
   cases z
   all_goals
    repeat'(first|(with_reducible first|(refine zz ?_;try intro K hK)|refine zI ?_|refine zt ?_|refine zf ?_)|((first|refine hK _ ?_|refine hK _ _ rfl ?_);clear hK K)|(guard_hyp hK;first|(refine zY ?zz ?_;case zz=>first|exact rfl|exact gJ)|refine fresh_n ?_|refine freshO_n ?_|refine zW ?_|intro b0 hb)|((first|with_reducible refine zm ?_|guard_hyp hK);refine zY ?_ ?_;all_goals(intro hb;(try simp only [sn,sb] at hb);try exact ex0)))
    exact hR _ () trivial (lf_of0 ⟨Lc.same _ trivial,Lc.same _ trivial,Lc.same _ trivial,Lc.same _ trivial,Lc.same _ trivial,trivial⟩ trivial)
  |true=>
   cases hq:(numS decQ s).2 with
   |none=>
    have e:outc true s=none:=hq
    rw [hq] at q1
    rw [e] at hR
    repeat'(first|(with_reducible first|(refine zz ?_;try intro K hK)|refine zI ?_|refine zt ?_|refine zf ?_)|((first|refine hK _ ?_|refine hK _ _ rfl ?_);clear hK K)|(guard_hyp hK;first|(refine zY ?zz ?_;case zz=>first|exact rfl|exact gJ)|refine fresh_n ?_|refine freshO_n ?_|refine zW ?_|(refine zQ (q1) ?_)|intro b0 hb)|((first|with_reducible refine zm ?_|guard_hyp hK);refine zY ?_ ?_;all_goals(intro hb;(try simp only [sn,sb] at hb);try exact ex0)))
    exact hR _ () trivial (lf_of0 ⟨Lc.same _ trivial,Lc.same _ trivial,Lc.same _ trivial,Lc.same _ trivial,Lc.same _ trivial,trivial⟩ trivial)
   |some f=>
    have e:outc true s=some f:=hq
    rw [hq] at q1
    rw [e] at hR
    repeat'(first|(with_reducible first|(refine zz ?_;try intro K hK)|refine zI ?_|refine zt ?_|refine zf ?_)|((first|refine hK _ ?_|refine hK _ _ rfl ?_);clear hK K)|(guard_hyp hK;first|(refine zY ?zz ?_;case zz=>first|exact rfl|exact gJ)|refine fresh_n ?_|refine freshO_n ?_|refine zW ?_|(refine zQ (q1) ?_)|intro b0 hb)|((first|with_reducible refine zm ?_|guard_hyp hK);refine zY ?_ ?_;all_goals(intro hb;(try simp only [sn,sb] at hb);try exact ex0)))
    exact hR _ () trivial (lf_of0 ⟨Lc.same _ trivial,Lc.same _ trivial,Lc.same _ trivial,Lc.same _ trivial,Lc.same _ trivial,trivial⟩ trivial)
 rintro - -
 cases hO:outc row s with
 |none=>
  repeat'(first|(with_reducible first|(refine zz ?_;try intro K hK)|refine zI ?_|refine zt ?_|refine zf ?_)|((first|refine hK _ ?_|refine hK _ _ rfl ?_);clear hK K)|(guard_hyp hK;first|(refine zY ?zz ?_;case zz=>first|exact rfl|exact gJ)|refine fresh_n ?_|refine freshO_n ?_|refine zW ?_|intro b0 hb)|((first|with_reducible refine zm ?_|guard_hyp hK);refine zY ?_ ?_;all_goals(intro hb;(try simp only [sn,sb] at hb);try exact ex0)))
  exact retb rfl rfl rfl
 |some f=>
  obtain⟨p,hp,hl,hk,hcase⟩:=first_plain row s f hO
  obtain⟨c,l,k,w⟩:=f
  dsimp only at hl hk hcase
  subst hl hk
  have fo:=fault_ok as_ok ⟨c,(placeF s p).1,(placeF s p).2,w⟩
  have of:=offset_ok s p hp (by omega)
  repeat'(first|(refine seq_k (a:=Code.region 8 _ _) Unit (fun _=>⟨Tryz.f3.ntmps,[(0,.con (.string s)),(1,.con (.string o)),(2,.con (.bool row)),(7,.con (.bool true)),(10,.ref 0 0 0 0),(11,.con (.bool true))],[(0,flC c (placeF s p).1 (placeF s p).2 w)]⟩) (fun _=>True) ?_ ?_)|(with_reducible first|(refine zz ?_;try intro K hK)|refine zI ?_|refine zt ?_|refine zf ?_)|((first|refine hK _ ?_|refine hK _ _ rfl ?_);clear hK K)|(guard_hyp hK;first|(refine zY ?zz ?_;case zz=>first|exact rfl|exact gJ)|refine fresh_n ?_|refine freshO_n ?_|refine zW ?_|intro b0 hb)|((first|with_reducible refine zm ?_|guard_hyp hK);refine zY ?_ ?_;all_goals(intro hb;(try simp only [sn,sb] at hb);try exact ex0)))
  rotate_left
  ·intro R hR
   repeat'(first|(with_reducible first|(refine zz ?_;try intro K hK)|refine zI ?_|refine zt ?_|refine zf ?_)|((first|refine hK _ ?_|refine hK _ _ rfl ?_);clear hK K)|(guard_hyp hK;first|(refine zY ?zz ?_;case zz=>first|exact rfl|exact gJ)|refine fresh_n ?_|refine freshO_n ?_|refine zW ?_|(refine zQ (fo) ?_)|intro b0 hb)|((first|with_reducible refine zm ?_|guard_hyp hK);refine zY ?_ ?_;all_goals(intro hb;(try simp only [sn,sb] at hb);try exact ex0)))
   exact hR _ () trivial (lf_of0 ⟨Lc.same _ trivial,Lc.same _ trivial,Lc.same _ trivial,Lc.same _ trivial,Lc.same _ rfl,Lc.same _ trivial,trivial⟩ ⟨agg_same rfl rfl,trivial⟩)
  rintro - -
  repeat'(first|(refine seq_k (a:=Code.region 9 _ _) Unit (fun _=>⟨Tryz.f3.ntmps,[(0,.con (.string s)),(1,.con (.string o)),(2,.con (.bool row)),(7,.con (.bool true)),(10,.ref 0 0 0 0),(11,.con (.bool true)),(12,.con (.int .i64 p))],[(0,flC c (placeF s p).1 (placeF s p).2 w)]⟩) (fun _=>True) ?_ ?_)|(with_reducible first|(refine zz ?_;try intro K hK)|refine zI ?_|refine zt ?_|refine zf ?_)|((first|refine hK _ ?_|refine hK _ _ rfl ?_);clear hK K)|(guard_hyp hK;first|(refine zY ?zz ?_;case zz=>first|exact rfl|exact gJ)|refine fresh_n ?_|refine freshO_n ?_|refine zW ?_|intro b0 hb)|((first|with_reducible refine zm ?_|guard_hyp hK);refine zY ?_ ?_;all_goals(intro hb;(try simp only [sn,sb] at hb);try exact ex0)))
  rotate_left
  ·intro R hR
   repeat'(first|(with_reducible first|(refine zz ?_;try intro K hK)|refine zI ?_|refine zt ?_|refine zf ?_)|((first|refine hK _ ?_|refine hK _ _ rfl ?_);clear hK K)|(guard_hyp hK;first|(refine zY ?zz ?_;case zz=>first|exact rfl|exact gJ)|refine fresh_n ?_|refine freshO_n ?_|refine zW ?_|(refine zQ (of) ?_)|intro b0 hb)|((first|with_reducible refine zm ?_|guard_hyp hK);refine zY ?_ ?_;all_goals(intro hb;(try simp only [sn,sb] at hb);try exact ex0)))
   exact hR _ () trivial (lf_of0 ⟨Lc.same _ trivial,Lc.same _ trivial,Lc.same _ trivial,Lc.same _ trivial,Lc.same _ rfl,Lc.same _ trivial,Lc.same _ trivial,trivial⟩ ⟨agg_same rfl rfl,trivial⟩)
  rintro - -
  rcases hcase with⟨h1,h2,h3⟩|⟨h1,h2⟩|⟨h1,h2,h3,h4,h5⟩
  ·subst h2 h3
   repeat'(first|(guard_hyp hK;refine at_s ?_;intro hu)|(with_reducible first|(refine zz ?_;try intro K hK)|refine zI ?_|refine zt ?_|refine zf ?_)|((first|refine hK _ ?_|refine hK _ _ rfl ?_);clear hK K)|(guard_hyp hK;first|(refine zY ?zz ?_;case zz=>first|exact rfl|exact gJ)|refine fresh_n ?_|refine freshO_n ?_|refine zW ?_|intro b0 hb)|((first|with_reducible refine zm ?_|guard_hyp hK);refine zY ?_ ?_;all_goals(intro hb;(try simp only [sn,sb] at hb);try exact ex0)))
   all_goals exact retb rfl rfl rfl
  ·repeat'(first|(guard_hyp hK;refine at_s ?_;intro hu)|(with_reducible first|(refine zz ?_;try intro K hK)|refine zI ?_|refine zt ?_|refine zf ?_)|((first|refine hK _ ?_|refine hK _ _ rfl ?_);clear hK K)|(guard_hyp hK;first|(refine zY ?zz ?_;case zz=>first|exact rfl|exact gJ)|refine fresh_n ?_|refine freshO_n ?_|refine zW ?_|intro b0 hb)|((first|with_reducible refine zm ?_|guard_hyp hK);refine zY ?_ ?_;all_goals(intro hb;(try simp only [sn,sb] at hb);try exact ex0)))
   all_goals exact retb rfl rfl rfl
  ·have h6:s.extract (Int.toNat p) (Int.toNat ((p:Int)+(w.size:Nat)))=w:=by
    rw [show Int.toNat ((p:Int)+(w.size:Nat))=p+w.size by omega];exact h4
   have z1:(s.extract (Int.toNat 0) (Int.toNat ((p:Int)+(w.size:Nat)))).size=p+w.size:=by
    rw [show Int.toNat ((p:Int)+(w.size:Nat))=p+w.size by omega]
    exact(ext_size h3).trans (Nat.sub_zero _)
   have k1:(s.extract (Int.toNat 0) (Int.toNat ((p:Int)+(w.size:Nat)))).size+ByteArray.size ⟨#[32]⟩≤9223372036854775807:=by
    rw [z1]
    show p+w.size+1≤_
    omega
   have k2:(s.extract (Int.toNat 0) (Int.toNat ((p:Int)+(w.size:Nat))) ++ ⟨#[32]⟩).size+o.size≤9223372036854775807:=by
    rw [ByteArray.size_append,z1]
    show p+w.size+1+o.size≤_
    omega
   repeat'(first|(first|refine seq_k (a:=(Code.region 16 _ _).seq (Code.cond _ _ _)) Unit (fun _=>⟨Tryz.f3.ntmps,[(0,.con (.string s)),(1,.con (.string o)),(2,.con (.bool row)),(10,.ref 0 0 0 0),(12,.con (.int .i64 p))],[(0,flC c (placeF s p).1 (placeF s p).2 w)]⟩) (fun _=>¬(c≠30∧c≠31)) ?_ ?_|(guard_hyp hK;refine at_s ?_;intro hu))|(with_reducible first|(refine zz ?_;try intro K hK)|refine zI ?_|refine zt ?_|refine zf ?_)|((first|refine hK _ ?_|refine hK _ _ rfl ?_);clear hK K)|(guard_hyp hK;first|(refine zY ?zz ?_;case zz=>first|exact rfl|exact gJ)|refine fresh_n ?_|refine freshO_n ?_|refine zW ?_|intro b0 hb)|((first|with_reducible refine zm ?_|guard_hyp hK);refine zY ?_ ?_;all_goals(intro hb;(try simp only [sn,sb] at hb);try exact ex0)))
   ·exact absurd (congrArg ByteArray.toList h6) hb
   ·intro _ hc
    have h7:=h5.resolve_left hc o
    repeat'(first|(refine seq_k (a:=Code.region 18 _ _) Unit (fun _=>⟨Tryz.f3.ntmps,[(2,.con (.bool row)),(10,.ref 0 0 0 0),(13,.con (.string (s.extract (Int.toNat 0) (Int.toNat ((p:Int)+(w.size:Nat))) ++ ⟨#[32]⟩ ++ o)))],[(0,flC c (placeF s p).1 (placeF s p).2 w)]⟩) (fun _=>True) ?_ ?_)|(with_reducible first|(refine zz ?_;try intro K hK)|refine zI ?_|refine zt ?_|refine zf ?_)|((first|refine hK _ ?_|refine hK _ _ rfl ?_);clear hK K)|(guard_hyp hK;first|(refine zY ?zz ?_;case zz=>first|exact rfl|exact gJ)|refine fresh_n ?_|refine freshO_n ?_|refine zW ?_|intro b0 hb)|((first|with_reducible refine zm ?_|guard_hyp hK);refine zY ?_ ?_;all_goals(intro hb;(try simp only [sn,sb] at hb);try exact ex0)))
    rotate_left
    ·intro R hR
     repeat'(first|(guard_hyp hK;first|refine and_b k1 ?_|refine and_b k2 ?_)|(with_reducible first|(refine zz ?_;try intro K hK)|refine zI ?_|refine zt ?_|refine zf ?_)|((first|refine hK _ ?_|refine hK _ _ rfl ?_);clear hK K)|(guard_hyp hK;first|(refine zY ?zz ?_;case zz=>first|exact rfl|exact gJ)|refine fresh_n ?_|refine freshO_n ?_|refine zW ?_|intro b0 hb)|((first|with_reducible refine zm ?_|guard_hyp hK);refine zY ?_ ?_;all_goals(intro hb;(try simp only [sn,sb] at hb);try exact ex0)))
     exact hR _ () trivial (lf_of0 ⟨Lc.same _ trivial,Lc.same _ rfl,Lc.same _ trivial,trivial⟩ ⟨agg_same rfl rfl,trivial⟩)
    rintro - -
    have hY:(s.extract 0 (p+w.size) ++ bA [32] ++ o).size≤1900000:=by
     rw [ByteArray.size_append,ByteArray.size_append,ext_size h3]
     show p+w.size - 0+1+o.size≤_
     omega
    have eY:s.extract (Int.toNat 0) (Int.toNat ((p:Int)+(w.size:Nat))) ++ ⟨#[32]⟩ ++ o=s.extract 0 (p+w.size) ++ bA [32] ++ o:=by
     rw [show Int.toNat ((p:Int)+(w.size:Nat))=p+w.size by omega];rfl
    rw [← eY] at h7 hY
    clear k1 k2 eY
    generalize s.extract (Int.toNat 0) (Int.toNat ((p:Int)+(w.size:Nat))) ++ ⟨#[32]⟩ ++ o=y at *
    have p2:=pFile _ hY
    have q2:=pNums _ hY
    repeat'(first|(refine seq_k (a:=Code.region 19 _ _) Unit (fun _=>⟨Tryz.f3.ntmps,[(2,.con (.bool row)),(10,.ref 0 0 0 0),(13,.con (.string y)),(15,alEv (fileS decQ y).2)],[(0,flC c (placeF s p).1 (placeF s p).2 w)]⟩) (fun _=>True) ?_ ?_)|(with_reducible first|(refine zz ?_;try intro K hK)|refine zI ?_|refine zt ?_|refine zf ?_)|((first|refine hK _ ?_|refine hK _ _ rfl ?_);clear hK K)|(guard_hyp hK;first|(refine zY ?zz ?_;case zz=>first|exact rfl|exact gJ)|refine fresh_n ?_|refine freshO_n ?_|refine zW ?_|intro b0 hb)|((first|with_reducible refine zm ?_|guard_hyp hK);refine zY ?_ ?_;all_goals(intro hb;(try simp only [sn,sb] at hb);try exact ex0)))
    rotate_left
    ·intro R hR
     clear q2 h7 q1 p1 hO
     generalize (fileS decQ y).2=z at *
     cases z
     all_goals
      repeat'(first|(with_reducible first|(refine zz ?_;try intro K hK)|refine zI ?_|refine zt ?_|refine zf ?_)|((first|refine hK _ ?_|refine hK _ _ rfl ?_);clear hK K)|(guard_hyp hK;first|(refine zY ?zz ?_;case zz=>first|exact rfl|exact gJ)|refine fresh_n ?_|refine freshO_n ?_|refine zW ?_|(refine zQ (p2) ?_)|intro b0 hb)|((first|with_reducible refine zm ?_|guard_hyp hK);refine zY ?_ ?_;all_goals(intro hb;(try simp only [sn,sb] at hb);try exact ex0)))
      exact hR _ () trivial (lf_of0 ⟨Lc.same _ trivial,Lc.same _ rfl,Lc.same _ trivial,Lc.same _ trivial,trivial⟩ ⟨agg_same rfl rfl,trivial⟩)
    rintro - -
    repeat'(first|(refine seq_k (a:=(Code.region 20 _ _).seq (Code.cond _ _ _)) Unit (fun _=>⟨Tryz.f3.ntmps,[(10,.ref 0 0 0 0),(15,alEv (some ⟨c,(placeF s p).1,(placeF s p).2,w⟩))],[(0,flC c (placeF s p).1 (placeF s p).2 w)]⟩) (fun _=>True) ?_ ?_)|(with_reducible first|(refine zz ?_;try intro K hK)|refine zI ?_|refine zt ?_|refine zf ?_)|((first|refine hK _ ?_|refine hK _ _ rfl ?_);clear hK K)|(guard_hyp hK;first|(refine zY ?zz ?_;case zz=>first|exact rfl|exact gJ)|refine fresh_n ?_|refine freshO_n ?_|refine zW ?_|intro b0 hb)|((first|with_reducible refine zm ?_|guard_hyp hK);refine zY ?_ ?_;all_goals(intro hb;(try simp only [sn,sb] at hb);try exact ex0)))
    rotate_left
    ·intro R hR
     clear p1 q1 hO p2 fo of
     cases row with
     |false=>
      have e:(fileS decQ y).2=some ⟨c,(placeF s p).1,(placeF s p).2,w⟩:=h7
      rw [e]
      repeat'(first|(with_reducible first|(refine zz ?_;try intro K hK)|refine zI ?_|refine zt ?_|refine zf ?_)|((first|refine hK _ ?_|refine hK _ _ rfl ?_);clear hK K)|(guard_hyp hK;first|(refine zY ?zz ?_;case zz=>first|exact rfl|exact gJ)|refine fresh_n ?_|refine freshO_n ?_|refine zW ?_|intro b0 hb)|((first|with_reducible refine zm ?_|guard_hyp hK);refine zY ?_ ?_;all_goals(intro hb;(try simp only [sn,sb] at hb);try exact ex0)))
      exact hR _ () trivial (lf_of0 ⟨Lc.same _ rfl,Lc.same _ trivial,trivial⟩ ⟨agg_same rfl rfl,trivial⟩)
     |true=>
      have e:(numS decQ y).2=some ⟨c,(placeF s p).1,(placeF s p).2,w⟩:=h7
      rw [e] at q2
      repeat'(first|(with_reducible first|(refine zz ?_;try intro K hK)|refine zI ?_|refine zt ?_|refine zf ?_)|((first|refine hK _ ?_|refine hK _ _ rfl ?_);clear hK K)|(guard_hyp hK;first|(refine zY ?zz ?_;case zz=>first|exact rfl|exact gJ)|refine fresh_n ?_|refine freshO_n ?_|refine zW ?_|(refine zQ (q2) ?_)|intro b0 hb)|((first|with_reducible refine zm ?_|guard_hyp hK);refine zY ?_ ?_;all_goals(intro hb;(try simp only [sn,sb] at hb);try exact ex0)))
      exact hR _ () trivial (lf_of0 ⟨Lc.same _ rfl,Lc.same _ trivial,trivial⟩ ⟨agg_same rfl rfl,trivial⟩)
    rintro - -
    have hv:veqL [.int .i64,.int .i64,.int .i64,.str] [.con (.int .i64 c),.con (.int .i64 (placeF s p).1),.con (.int .i64 (placeF s p).2),.con (.string w)] [.con (.int .i64 c),.con (.int .i64 (placeF s p).1),.con (.int .i64 (placeF s p).2),.con (.string w)]=some true:=by simp [veqL,veq1]
    repeat'(first|(guard_hyp hK;refine Exists.intro _ (Exists.intro true (And.intro eqF (And.intro rfl (And.intro rfl (And.intro hv ?_))))))|(with_reducible first|(refine zz ?_;try intro K hK)|refine zI ?_|refine zt ?_|refine zf ?_)|((first|refine hK _ ?_|refine hK _ _ rfl ?_);clear hK K)|(guard_hyp hK;first|(refine zY ?zz ?_;case zz=>first|exact rfl|exact gJ)|refine fresh_n ?_|refine freshO_n ?_|refine zW ?_|(refine zQ (fo) ?_)|intro b0 hb)|((first|with_reducible refine zm ?_|guard_hyp hK);refine zY ?_ ?_;all_goals(intro hb;(try simp only [sn,sb] at hb);try exact ex0)))
    all_goals exact retb rfl rfl rfl
   ·intro R hR
    repeat'(first|(with_reducible first|(refine zz ?_;try intro K hK)|refine zI ?_|refine zt ?_|refine zf ?_)|((first|refine hK _ ?_|refine hK _ _ rfl ?_);clear hK K)|(guard_hyp hK;first|(refine zY ?zz ?_;case zz=>first|exact rfl|exact gJ)|refine fresh_n ?_|refine freshO_n ?_|refine zW ?_|intro b0 hb)|((first|with_reducible refine zm ?_|guard_hyp hK);refine zY ?_ ?_;all_goals(intro hb;(try simp only [sn,sb] at hb);try exact ex0)))
    ·exact retb rfl rfl rfl
    all_goals exact hR _ () (by omega) (lf_of0 ⟨Lc.same _ trivial,Lc.same _ trivial,Lc.same _ trivial,Lc.same _ rfl,Lc.same _ trivial,trivial⟩ ⟨agg_same rfl rfl,trivial⟩)
end Go.Ev
