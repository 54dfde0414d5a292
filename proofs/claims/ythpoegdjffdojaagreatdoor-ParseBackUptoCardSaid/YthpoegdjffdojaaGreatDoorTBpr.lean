import Derived.Test.YthpoegdjffdojaaGreatDoorTLbj
import Derived.Test.YthpoegdjffdojaaGreatDoorCards
import Derived.Test.YthpoegdjffdojaaGreatDoorTie
import Derived.SevenTiedAt
import Derived.HandedShaped
import Derived.Deep.DeepHandedRow
set_option linter.all false
set_option maxRecDepth 100000
namespace Go.Ev
open Go.Proofs Go.Proofs.YthpoegdjffdojaaGreatDoor
theorem Mw {H:Type}(d:DataW H):1≤Rows.uptoBulk d:=by
 cases d with
 |lit l=>cases l<;>simp [Rows.uptoBulk]
 |_=>simp [Rows.uptoBulk]
theorem Cg {H:Type}(l:List (DataW H)):(l.map Rows.uptoBulk).sum=Rows.uptoBulkAll l:=by
 induction l with
 |nil=>rfl
 |cons x r ih=>simp only [Rows.uptoBulkAll,List.map_cons,List.sum_cons,ih]
theorem bB {H:Type}:Qt (H:=H) Rows.uptoBulk where
 one:=Mw
 str l:=Nat.le_refl _
 sl e s:=by have:=Cg e;simp only [Rows.uptoBulk];omega
 ag ps:=by have:=Cg ps;simp only [Rows.uptoBulk];omega
section
variable {H : Type} {enc : TypeId × Value → H}
theorem AD {α:Type}:∀l:List α,(l.map fun _=>1).sum=l.length
 | []=>rfl
 |a :: r=>by rw [List.map_cons,List.sum_cons,AD r,List.length_cons];omega
theorem kJ : oJ enc Tryz.prog Rows.uptoBulk 22 (fun l:List ByteArray=>T.sl (iD l)) iQ:=
 iJ (fun l=>l) (fun _=>rfl) (fun _=>Nat.le_refl _) (gP (sz:=1) bB Tryz.underlying22 Yz YA (fun _=>rfl) (kM bB Tryz.underlying9))
theorem Dh : oJ enc Tryz.prog Rows.uptoBulk 62 (fun l:List UInt32=>T.sl (l.map bw)) (fun l=>l.length+1):=
 iJ (fun l=>l) (fun _=>rfl) (fun l=>by rw [AD];exact Nat.le_refl _) (gP (sz:=1) bB Tryz.underlying62 Yz YA (fun _=>rfl) (Oq bB Tryz.underlying70))
theorem Of : oJ enc Tryz.prog Rows.uptoBulk 68 AA IA:=
 iJ (fun p:Int×(Bool×List UInt32)×List UInt32=>(⟨p.1,p.2.1.1,p.2.1.2,p.2.2⟩:dT)) (fun _=>rfl) (fun p=>by show 7+p.2.1.2.length+p.2.2.length≤_;omega)
  (lW (s0:=1) (s1:=3) bB Tryz.underlying68 rfl Yz rfl Yz Yz (Fo bB Tryz.underlying42)
   (lW (s0:=2) (s1:=1) bB Tryz.underlying66 rfl Yz rfl Yz Yz
    (lW (s0:=1) (s1:=1) bB Tryz.underlying64 rfl Yz rfl Yz Yz (Ky bB Tryz.underlying4) Dh) Dh))
theorem Kh : oJ enc Tryz.prog Rows.uptoBulk 71 fW Nc:=
 iJ (fun l=>l) (fun _=>rfl) (fun _=>Nat.le_refl _) (gP (sz:=4) bB Tryz.underlying71 Yz YA (fun _=>rfl) Of)
theorem RW : oJ enc Tryz.prog Rows.uptoBulk 43 (fun l:List (List dT)=>T.sl (l.map fW)) Cl:=
 iJ (fun l=>l) (fun _=>rfl) (fun _=>Nat.le_refl _) (gP (sz:=1) bB Tryz.underlying43 Yz YA (fun _=>rfl) Kh)
theorem RX : oJ enc Tryz.prog Rows.uptoBulk 45 tw Et:=
 iJ (fun p:Int×List ByteArray×List (List dT)=>(⟨p.1,p.2.1,p.2.2⟩:nt)) (fun _=>rfl) (fun p=>by show 2+iQ p.2.1+Cl p.2.2≤_;omega)
  (Bc (s0:=1) (s1:=1) (s2:=1) bB Tryz.underlying45 rfl Yz rfl Yz rfl Yz Yz (Fo bB Tryz.underlying42) kJ RW)
theorem Oi : oJ enc Tryz.prog Rows.uptoBulk 38 (fun l:List nt=>T.sl (l.map tw)) (fun l=>(l.map Et).sum+1):=
 gP (sz:=3) bB Tryz.underlying38 Yz YA (fun _=>rfl) RX
theorem Og : oJ enc Tryz.prog Rows.uptoBulk 40 xO Es:=
 iJ (fun p:ByteArray×List ByteArray×List nt×List ByteArray=>(⟨p.1,p.2.1,p.2.2.1,p.2.2.2⟩:pS)) (fun _=>rfl) (fun p=>by show 2+(p.1.size+1)+iQ p.2.1+(p.2.2.1.map Et).sum+iQ p.2.2.2≤_;omega)
  (lV (s0:=1) (s1:=1) (s2:=1) (s3:=1) bB Tryz.underlying40 rfl Yz rfl Yz rfl Yz rfl Yz Yz (kM bB Tryz.underlying9) kJ Oi kJ)
theorem RV : oJ enc Tryz.prog Rows.uptoBulk 79 Az Iz:=
 iJ (fun p:ByteArray×List UInt32×List ByteArray×List ByteArray=>(⟨p.1,p.2.1,p.2.2.1,p.2.2.2⟩:rX)) (fun _=>rfl) (fun p=>by show 2+(p.1.size+1)+p.2.1.length+iQ p.2.2.1+iQ p.2.2.2≤_;omega)
  (lV (s0:=1) (s1:=1) (s2:=1) (s3:=1) bB Tryz.underlying79 rfl Yz rfl Yz rfl Yz rfl Yz Yz (kM bB Tryz.underlying9) Dh kJ kJ)
theorem Oh : oJ enc Tryz.prog Rows.uptoBulk 26 CH MC:=
 iJ (fun p:ByteArray×List ByteArray×List rX×List pS=>(⟨p.1,p.2.1,p.2.2.1,p.2.2.2⟩:rY)) (fun _=>rfl) (fun p=>by show 3+(p.1.size+1)+iQ p.2.1+(p.2.2.1.map Iz).sum+(p.2.2.2.map Es).sum≤_;omega)
  (lV (s0:=1) (s1:=1) (s2:=1) (s3:=1) bB Tryz.underlying26 rfl Yz rfl Yz rfl Yz rfl Yz Yz (kM bB Tryz.underlying9) kJ
   (gP (sz:=4) bB Tryz.underlying23 Yz YA (fun _=>rfl) RV) (gP (sz:=4) bB Tryz.underlying24 Yz YA (fun _=>rfl) Og))
end
theorem kR {α:Type}{g:α→Nat}(h1:∀a,1≤g a):∀l:List α,l.length≤(l.map g).sum
 | []=>Nat.le_refl _
 |a :: r=>by
  have h2:=kR h1 r;have h3:=h1 a;rw [List.map_cons,List.sum_cons,List.length_cons];omega
theorem kZ (l:List ByteArray):l.length+1≤iQ l:=Nat.succ_le_succ (kR (fun s=>Nat.le_add_left _ _) l)
theorem kY {l:List ByteArray}{s:ByteArray}(h:s ∈ l):s.size≤iQ l:=by
 have h1:=gZ Er h;have h2:Er s=s.size+1:=rfl;have h3:iQ l=(l.map Er).sum+1:=rfl;omega
theorem Ol {l:List (List dT)}(h:Cl l≤1048576):zV l:=by
 have h1:Cl l=(l.map Nc).sum+1:=rfl;have h2:=kR (g:=Nc) (fun a=>Nat.le_add_left _ _) l;refine⟨by omega,fun a ha=>?_,fun a ha t ht=>?_⟩
 ·have h3:=gZ Nc ha;have h4:Nc a=(a.map IA).sum+1:=rfl;have h5:=kR (g:=IA) (fun t=>by show 1≤7+t.nH.length+t.den.length;omega) a;omega
 ·have h3:=gZ Nc ha;have h4:Nc a=(a.map IA).sum+1:=rfl;have h5:=gZ IA ht;have h6:IA t=7+t.nH.length+t.den.length:=rfl;omega
theorem Ow {p:pS}(h:Es p≤1048576):Ty p:=by
 have h4:Es p=2+(p.name.size+1)+iQ p.cX+(p.bg.map Et).sum+iQ p.aN:=rfl;have h5:=kZ p.cX;have h6:=kZ p.aN;have h7:=kR (g:=Et) (fun e=>by show 1≤2+iQ e.given+Cl e.nums;omega) p.bg
 have he:∀e ∈ p.bg,2+iQ e.given+Cl e.nums≤1048576:=fun e he=>by
  have:=gZ Et he;have h9:Et e=2+iQ e.given+Cl e.nums:=rfl;omega
 exact⟨by omega,by omega,fun s hs=>by have:=kY hs;omega,by omega,fun e hm=>by have:=he e hm;have:=kZ e.given;omega,fun e hm s hs=>by have:=he e hm;have:=kY hs;omega,fun e hm=>Ol (by have:=he e hm;omega),by omega,fun s hs=>by have:=kY hs;omega⟩
theorem Np {v:rX}(h:Iz v≤1048576):VD v:=by
 have h4:Iz v=2+(v.name.size+1)+v.count.length+iQ v.dL+iQ v.aN:=rfl;have h5:=kZ v.dL;have h6:=kZ v.aN;exact⟨by omega,by omega,by omega,fun s hs=>by have:=kY hs;omega,by omega,fun s hs=>by have:=kY hs;omega⟩
theorem PC {f:rY}(h:MC f≤1048576):Qr f:=by
 have h4:MC f=3+(f.name.size+1)+iQ f.aN+(f.vars.map Iz).sum+(f.bG.map Es).sum:=rfl;have h6:=kZ f.aN;have h7:=kR (g:=Iz) (fun v=>by show 1≤2+(v.name.size+1)+v.count.length+iQ v.dL+iQ v.aN;omega) f.vars;have h8:=kR (g:=Es) (fun p=>by show 1≤2+(p.name.size+1)+iQ p.cX+(p.bg.map Et).sum+iQ p.aN;omega) f.bG;exact⟨by omega,by omega,fun s hs=>by have:=kY hs;omega,by omega,fun v hv=>Np (by have:=gZ Iz hv;omega),by omega,fun p hp=>Ow (by have:=gZ Es hp;omega)⟩
end Go.Ev
namespace Go.Proofs.YthpoegdjffdojaaGreatDoor.FV
open Go.Ev Go.ChangeShapes Go.WideShapes Go.RowKit Go.ChangeMaps Go.ChangeAt
theorem own : ownKnob Tryz.prog.godebug=none:=by kernel_rfl
def kl : List (String×DataW Unit):=[("unicode/utf8.acceptRanges",Rows.laid_unicode_utf8_acceptRanges),("errors.errorType",Rows.laid_errors_errorType),("unicode/utf8.first",Rows.laid_unicode_utf8_first)]
theorem et : Tryz.prog.globalNamed "errors.errorType" = some 0:=by kernel_rfl
theorem rt : (Tryz.prog.cutTypes.find? (fun x=>x.1 == "internal/reflectlite.rtype")).map (fun x=>x.2)=some 149:=by kernel_rfl
theorem Sp : ((List.range Tryz.prog.types.size).filter fun t=>Tryz.prog.rowNamed t [101,114,114,111,114])=[34]:=by kernel_rfl
theorem uK {W:World}(h:laidMetH Tryz.prog kl W):W.cell? ⟨0,0,none⟩=some (.iface 149 (.agg #[.pointer (some ⟨4,34,none⟩)])):=by
 have h':laidMet Tryz.prog (kl.filter fun x=>x.2.handleName?.isNone) W∧handlesMet Tryz.prog [("errors.errorType",Rows.laid_errors_errorType)] W:=h;obtain⟨name,u,ty,e1,e2,e3,e4,e5⟩:=h'.2 _ (List.mem_singleton.2 rfl);have en:name=[101,114,114,111,114]:=(Option.some.inj e1).symm;subst en;obtain rfl:=Option.some.inj (rt.symm.trans e2);have hm:ty ∈ (List.range Tryz.prog.types.size).filter fun t=>Tryz.prog.rowNamed t [101,114,114,111,114]:=List.mem_filter.2 ⟨List.mem_range.2 e3,e4⟩
 rw [Sp] at hm;obtain rfl:=List.mem_singleton.1 hm;have hh:typeHandle Tryz.prog 34=.pointer (some ⟨4,34,none⟩):=by kernel_rfl
 rw [hh] at e5;simpa using World.var?_cell et e5 0
theorem Va {W:World}(h:laidMetH Tryz.prog kl W)(hs:W.ShapedOpen Tryz.prog):GL (fun b o=>W.cell? ⟨b,o,none⟩):=
 ⟨cell_of_shapedOpen_int (t:=3) (zero:=#[.int .i64 0]) hs (of_decide_eq_true Yz) Yz rfl Yz Yz Tryz.underlying3,uK h⟩
def LW : Nat→DataW Unit→List Value
 |0,_=>[]
 |_+1,.lit (.int k n)=>[.int k n]
 |_+1,.lit (.bool b)=>[.bool b]
 |_+1,.lit (.string b)=>[.string ⟨b.toArray⟩]
 |f+1,.agg l=>l.flatMap (LW f)
 |_+1,_=>[]
def LB (h:Array Go.Obj)(g:Nat)(cs:List Value):Array Go.Obj:=h.modify g fun
 |.cells _ t frozen=>.cells cs.toArray t frozen
 |o=>o
noncomputable def wY (os:Os):World:=
 let w0:=World.holding Tryz.prog os ⟨#[],#[],[]⟩
 { w0 with heap:=LB (LB (LB w0.heap 3 (LW 9 Rows.laid_unicode_utf8_acceptRanges)) 0 [.iface 149 (.agg #[.pointer (some ⟨4,34,none⟩)])]) 2 (LW 9 Rows.laid_unicode_utf8_first) }
theorem vL (os:Os)(args:Array Value):laidMetH Tryz.prog kl ((wY os).forCall (fun _ _=>0) ⟨#[],args,[]⟩).memory:=
 laidMetH_of_parts (laidMet_of_run' 12 Yz Yz) Yz
theorem laidOut : laidOutB Tryz.prog=true:=by kernel_rfl
theorem DF {P:Program}{W:World}{r:Reach}{base:Nat}{t:TypeId}{fs:Array Field}{v:Value}(ht:P.underlying t=some (.struct fs))(h:Value.okWide P W r base t v):∃cs,v=.agg cs:=by
 unfold Value.okWide at h;rw [ht] at h;obtain⟨cs,rfl,_,_⟩:=h;exact⟨cs,rfl⟩
theorem HK {P:Program}{W:World}{r:Reach}{base:Nat}{t e:TypeId}{v:Value}(ht:P.underlying t=some (.slice e))(h:Value.okWide P W r base t v):v.cells=#[v]:=by
 cases v with
 |agg cs=>simp [Value.okWide,Cell.okWide,ht,Cell.ok] at h
 |_=>rfl
theorem HG {H:Type}{enc:TypeId×Value→H}{W:World}{base:Nat}{v:Value}{d:DataW H}{p:List MemPlace}(hval:Value.okWide Tryz.prog W .any base 26 v)
  (h:DataW.Trod enc Tryz.prog W 0 (fun _=>true) true 26 v d p):∃f:rY,MC f≤Rows.uptoBulk d∧gD (yJ W) (CH f) v:=by
 obtain⟨cs,rfl⟩:=DF Tryz.underlying26 hval;obtain⟨fuel,hf⟩:=h;obtain⟨f,h1,h2⟩:=Oh (enc:=enc) W _ _ fuel _ d p hf;exact⟨f,h1,Sg h2⟩
theorem HF {H:Type}{enc:TypeId×Value→H}{W:World}{base:Nat}{v:Value}{d:DataW H}{p:List MemPlace}(hval:Value.okWide Tryz.prog W .any base 22 v)
  (h:DataW.Trod enc Tryz.prog W 0 (fun _=>true) true 22 v d p):∃l:List ByteArray,iQ l≤Rows.uptoBulk d∧gD (yJ W) (.sl (iD l)) v:=by
 have e:=HK Tryz.underlying22 hval;obtain⟨fuel,hf⟩:=h;rw [e] at hf;obtain⟨l,h1,h2⟩:=kJ (enc:=enc) W _ _ fuel _ d p hf;exact⟨l,h1,(h2.2 0 _ v rfl rfl).1⟩
end Go.Proofs.YthpoegdjffdojaaGreatDoor.FV
