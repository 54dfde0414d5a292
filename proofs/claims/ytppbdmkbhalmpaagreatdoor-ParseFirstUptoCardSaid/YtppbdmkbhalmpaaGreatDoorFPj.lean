/-
  THE LAW ParseFirst IS PROVED, WHERE WHAT IT READS IS OF BULK AT MOST 1048576: a fault's place is in the text, its word stands there, and what stands behind the word of a fault of syntax or depth does not matter; the arguments read as they did. Conditions: the card's own (the listed package-level variables start as the program's text lays them).
-/
import Derived.Test.YtppbdmkbhalmpaaGreatDoorFlw
import Derived.Test.YtppbdmkbhalmpaaGreatDoorRows
import Derived.Test.YtppbdmkbhalmpaaGreatDoorCards
import Derived.Test.YtppbdmkbhalmpaaGreatDoorTie
import Derived.SevenTiedAt
import Derived.ChangeSame
import Derived.ChangeVars
import Derived.ChangeMaps5
import Derived.JoinedOf
import Derived.RowKit
import Derived.RowKitTokens
import Derived.LaidLaws
import Derived.LaidHandle
import Derived.HandedShaped
import Derived.Shelf.Vars
import Derived.Below
import Derived.JoinedCond
import Derived.Deep.DeepHandedRow
import Derived.OpenShut
set_option linter.all false
set_option maxRecDepth 100000
namespace Go.Proofs.YtppbdmkbhalmpaaGreatDoor.lawParseFirst
open Go.Ev Go.ChangeShapes Go.WideShapes Go.RowKit Go.ChangeMaps
theorem own : ownKnob Tryz.prog.godebug=none:=by kernel_rfl
def laidList : List (String×DataW Unit):=[("unicode/utf8.acceptRanges",Rows.laid_unicode_utf8_acceptRanges),("errors.errorType",Rows.laid_errors_errorType),("unicode/utf8.first",Rows.laid_unicode_utf8_first)]
theorem et : Tryz.prog.globalNamed "errors.errorType" = some 0:=by kernel_rfl
theorem rt : (Tryz.prog.cutTypes.find? (fun x=>x.1 == "internal/reflectlite.rtype")).map (fun x=>x.2)=some 117:=by kernel_rfl
theorem oneRow : ((List.range Tryz.prog.types.size).filter fun t=>Tryz.prog.rowNamed t [101,114,114,111,114])=[29]:=by kernel_rfl
theorem handle_of_laid {W:World}(h:laidMetH Tryz.prog laidList W):W.cell? ⟨0,0,none⟩=some (.iface 117 (.agg #[.pointer (some ⟨4,29,none⟩)])):=by
 have h':laidMet Tryz.prog (laidList.filter fun x=>x.2.handleName?.isNone) W∧handlesMet Tryz.prog [("errors.errorType",Rows.laid_errors_errorType)] W:=h
 obtain⟨name,u,ty,e1,e2,e3,e4,e5⟩:=h'.2 _ (List.mem_singleton.2 rfl)
 have en:name=[101,114,114,111,114]:=(Option.some.inj e1).symm
 subst en
 obtain rfl:=Option.some.inj (rt.symm.trans e2)
 have hm:ty ∈ (List.range Tryz.prog.types.size).filter fun t=>Tryz.prog.rowNamed t [101,114,114,111,114]:=List.mem_filter.2 ⟨List.mem_range.2 e3,e4⟩
 rw [oneRow] at hm
 obtain rfl:=List.mem_singleton.1 hm
 have hh:typeHandle Tryz.prog 29=.pointer (some ⟨4,29,none⟩):=by kernel_rfl
 rw [hh] at e5
 simpa using World.var?_cell et e5 0
theorem gl_of {W:World}(h:laidMetH Tryz.prog laidList W)(hs:W.ShapedOpen Tryz.prog):GL (fun b o=>W.cell? ⟨b,o,none⟩):=
 ⟨cell_of_shapedOpen_int (t:=3) (zero:=#[.int .i64 0]) hs (of_decide_eq_true (by kernel_rfl)) (by kernel_rfl) rfl (by kernel_rfl) (by kernel_rfl) Tryz.underlying3,handle_of_laid h⟩
def flatD : Nat→DataW Unit→List Value
 |0,_=>[]
 |_+1,.lit (.int k n)=>[.int k n]
 |_+1,.lit (.bool b)=>[.bool b]
 |_+1,.lit (.string b)=>[.string ⟨b.toArray⟩]
 |f+1,.agg l=>l.flatMap (flatD f)
 |_+1,_=>[]
def layAt (h:Array Go.Obj)(g:Nat)(cs:List Value):Array Go.Obj:=h.modify g fun
 |.cells _ t frozen=>.cells cs.toArray t frozen
 |o=>o
noncomputable def laidWorld (os:Os):World:=
 let w0:=World.holding Tryz.prog os ⟨#[],#[],[]⟩
 { w0 with heap:=layAt (layAt (layAt w0.heap 3 (flatD 9 Rows.laid_unicode_utf8_acceptRanges)) 0 [.iface 117 (.agg #[.pointer (some ⟨4,29,none⟩)])]) 2 (flatD 9 Rows.laid_unicode_utf8_first) }
theorem laidWorld_met (os:Os)(args:Array Value):laidMetH Tryz.prog laidList ((laidWorld os).forCall (fun _ _=>0) ⟨#[],args,[]⟩).memory:=
 laidMetH_of_parts (laidMet_of_run' 12 (by kernel_rfl) (by kernel_rfl)) (by kernel_rfl)
theorem laidOut : laidOutB Tryz.prog=true:=by kernel_rfl
theorem contract (H:Type)(enc:TypeId×Value→H)(W:World)(base:Nat)(args:Array Value)(ds gs:List (DataW H))(before:List MemPlace)
  (hval:∀(j:Nat) t v,Tryz.f3.params[j]?=some t→args[j]?=some v→Value.okWide Tryz.prog W .any base t v)
  (hW:DataW.Whole enc Tryz.prog Tryz.f3.params.toList Rows.parseFirstSpec.vars false W args.toList ds gs before) (hk:Rows.uptoSmall H (ds ++ gs)=true) (hL:laidMetH Tryz.prog laidList W) (hsh:W.ShapedOpen Tryz.prog) :
  Calls Tryz.prog 3 args W fun e W'=>∃v,e=.returned v∧Rows.parseFirstSpec.post enc Tryz.prog Tryz.f3 false true false false W args v W':=by
 have hW':=hW
 obtain⟨p,q,hA0,hV,rfl,hfz,hnd⟩:=hW
 have hA:DataW.TrodAll enc Tryz.prog W 0 (fun _=>true) true Tryz.f3.params.toList args.toList ds p:=hA0
 rw [Tryz.params3] at hA hval
 obtain⟨v0,v1,v2,d0,d1,d2,p0,p1,p2,rfl,rfl,rfl,h0,h1,h2⟩:=trodAll_three hA
 obtain⟨rfl,rfl⟩:=trodVars_none hV
 obtain⟨s,rfl,rfl,rfl,z0⟩:=open_string Tryz.underlying9 (hval 0 _ v0 rfl rfl) h0
 obtain⟨o,rfl,rfl,rfl,z1⟩:=open_string Tryz.underlying9 (hval 1 _ v1 rfl rfl) h1
 obtain⟨b,rfl,rfl,rfl⟩:=open_bool Tryz.underlying4 (hval 2 _ v2 rfl rfl) h2
 have hb:Rows.uptoBulkAll [DataW.lit (.string s.data.toList),DataW.lit (.string o.data.toList),(DataW.lit (.bool b):DataW H)]≤1048576:=of_decide_eq_true hk
 simp only [Rows.uptoBulkAll,Rows.uptoBulk] at hb
 have ho:o.size≤1048576:=by
  have:o.data.toList.length=o.size:=bs_len o
  omega
 refine((first_ok s o b ho).2 (fun b o=>W.cell? ⟨b,o,none⟩) W #[.string s,.string o,.bool b] (fun b o c h=>h) (gl_of hL hsh) ⟨rfl,fun j u x hu hx=>?_⟩).mono fun e W' hp=>?_
 ·match j with
  |0=>simp at hu hx;subst hu;subst hx;exact RdT.con _ rfl
  |1=>simp at hu hx;subst hu;subst hx;exact RdT.con _ rfl
  |2=>simp at hu hx;subst hu;subst hx;exact RdT.con _ rfl
  |j+3=>simp at hu
 ·obtain⟨v,N,rfl,hbelow,_,hr⟩:=hp
  have hv:v=.bool true:=by cases hr;rfl
  subst hv
  refine⟨_,rfl,_,_,_,[],[],[],hW',?_,?_,?_,Below.frame hbelow _,fun h=>by cases h⟩
  ·exact trodAll_mk1 (shut_bool Tryz.underlying4 _)
  ·exact trodAll_mk3 (shut_string Tryz.underlying9 z0) (shut_string Tryz.underlying9 z1) (shut_bool Tryz.underlying4 b)
  ·rfl
theorem lifted (os:Os)(started:os.Started)(H:Type)(enc:TypeId×Value→H)(F:Stop.Interp) :
  ReturnsInHanded {} Tryz.checked os 3 .any ((Rows.OpenSpec.upto Rows.parseFirstSpec).preRow enc Tryz.prog Tryz.f3 [] false laidList)
   (((Rows.OpenSpec.upto Rows.parseFirstSpec).at F).post enc Tryz.prog Tryz.f3 false true false false):=by
 refine returnsInHanded_of_row (C:=Tryz.checked) (s:=Rows.OpenSpec.upto Rows.parseFirstSpec) own started (by kernel_rfl) Tryz.func3
  (witness_row_at (enc:=enc) (C:=Tryz.checked) (os:=os) (s:=Rows.OpenSpec.upto Rows.parseFirstSpec) false (laidWorld os) #[.string .empty,.string .empty,.bool false] rfl (by kernel_rfl) (by kernel_rfl) (by kernel_rfl)
   (OpenSpec.preRow_of_cond 8 (x:=([.lit (.string []),.lit (.string []),.lit (.bool false)],[],[])) (by kernel_rfl) rfl (fun k hk=>by cases hk;rfl) (by kernel_rfl) (laidWorld_met os _))) ?_
 intro W base args ds gs before hval hW _ hk _ hL hsh _
 exact contract H enc W base args ds gs before hval hW (hk _ rfl) hL hsh
theorem row_holds : Rows.ParseFirstUptoSaid:=
 OpenClaim.holds_of_cond 3 Tryz.f3 rfl rfl rfl rfl rfl rfl rfl ⟨rfl,rfl,rfl,rfl,rfl⟩ rfl rfl rfl rfl rfl (by kernel_rfl) Tryz.func3 (by kernel_rfl)
  (of_decide_eq_true (by kernel_rfl)) (by unfold Func.isWrapper;rw [if_neg (of_decide_eq_false (by kernel_rfl))];exact⟨rfl,rfl⟩)
  (fun os started H enc _ F=>by rw [OpenClaim.pre_eq_preRow];exact lifted os started H enc F)
theorem proved : Rows.ParseFirstUptoCardSaid:=
 Claim7.holds_tied_plain_at .later [] [.data,.handle,.pinned] true (true,"9efd1c74835d3a903cebece943eca716acbc416dafd7ed0818a9691f6bcd08d8") true
  row_holds (fun _ h=>by cases h) (by kernel_rfl) (fun _ h=>by cases h) parseFirstUpto_row_tie rfl ⟨rfl,rfl⟩ (by kernel_rfl) rfl
  (fun f fn hf hfn=>by
   obtain rfl:f=3:=Option.some.inj ((show Tryz.prog.funcNamed "credence/credencelaw07.ParseFirst" = some 3 by kernel_rfl).symm.trans hf) |>.symm
   obtain rfl:fn=Tryz.f3:=(Option.some.inj (Tryz.func3.symm.trans hfn)).symm
   exact⟨by kernel_rfl,fun j t ht=>by
    rw [Tryz.params3] at ht
    have e:t=9∨t=4:=by
     match j with
     |0=>exact Or.inl (Option.some.inj ht).symm
     |1=>exact Or.inl (Option.some.inj ht).symm
     |2=>exact Or.inr (Option.some.inj ht).symm
     |j+3=>simp at ht
    rcases e with rfl|rfl
    ·show Tryz.prog.wantsStandIn 9=false
     kernel_rfl
    ·show Tryz.prog.wantsStandIn 4=false
     kernel_rfl⟩)
  (by kernel_rfl)
end Go.Proofs.YtppbdmkbhalmpaaGreatDoor.lawParseFirst
