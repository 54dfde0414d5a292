/-
  THE LAW ParseFile IS PROVED: WHATEVER THE TWO TEXTS: what the program reads of each is what the document's reader reads, or both tell the same fault; the texts read as they did. Conditions: the card's own (the listed package-level variables start as the program's text lays them).
-/
import Derived.Test.YtfdgaoihjedamaaGreatDoorLbk
import Derived.Test.YtfdgaoihjedamaaGreatDoorRows
import Derived.Test.YtfdgaoihjedamaaGreatDoorCards
import Derived.Test.YtfdgaoihjedamaaGreatDoorTie
import Derived.SevenTiedAt
import Derived.ChangeSame
import Derived.ChangeVars
import Derived.ChangeMaps5
import Derived.JoinedOf
import Derived.RowKit
import Derived.RowKitTokens
import Derived.LaidLaws
import Derived.LaidHandle
import Derived.HandedShaped
import Derived.Shelf.Vars
import Derived.Below
set_option linter.all false
set_option maxRecDepth 100000
namespace Go.Ev
theorem handed_and {H:Type}{enc:TypeId×Value→H}{a:Assume}{C:Checked}{os:Os}{f:FuncId}{fn:Func}{s:ChangeSpec}{conds:List PathCond}{apart fresh handsOn again:Bool}{X:World→Array Value→Prop}
  (hX:∀(w w':World) (args:Array Value),w.heap=w'.heap→X w args→X w' args)
  (own:ownKnob C.prog.godebug=none) (started:os.Started) (noInit:C.prog.inits.idxOf? f=none) (hfn:C.prog.funcs[f]?=some fn)
  (witness:∃(w:World) (tape:Tape) (i:Input),w.os=os∧(w.forCall tape i).Shaped C.prog∧i.vars=[]∧Input.okWide C.prog (w.forCall tape i) .any w.heap.size f i∧
   ((s.pre enc C.prog fn conds apart (w.forCall tape i).memory i.args∧X (w.forCall tape i).memory i.args)∧sizedMet enc C.prog fn (OpenSpec.ofChange s) apart (w.forCall tape i).memory i.args)∧a.holds C.prog (lone (Frame.enter C.prog f i.args .normal) [] (w.forCall tape i)))
  (contract:∀(W:World) (base:Nat) (args:Array Value) (ds gs:List (DataW H)) (before:List MemPlace),
   (∀(j:Nat) t v,fn.params[j]?=some t→args[j]?=some v→Value.okWide C.prog W .any base t v)→
   DataW.Whole enc C.prog fn.params.toList s.vars apart W args.toList ds gs before→W.ShapedOpen C.prog→X W args→
   Calls C.prog f args W fun e W'=>∃v,e=.returned v∧s.post enc C.prog fn apart fresh handsOn again W args v W') :
  ReturnsInHanded a C os f .any (fun w args=>(s.pre enc C.prog fn conds apart w args∧X w args)∧sizedMet enc C.prog fn (OpenSpec.ofChange s) apart w args) (s.post enc C.prog fn apart fresh handsOn again):=by
 refine returnsInHanded_of_calls own started noInit witness ?_
 intro w tape i _ hsh _ hok hpre hholds
 obtain⟨_,_,_,fn',hfn',_,_,_,_,hval⟩:=hok
 have e:fn'=fn:=Option.some.inj (hfn'.symm.trans hfn)
 subst e
 obtain⟨⟨⟨ds,gs,before,hw,hc⟩,hx⟩,hz⟩:=hpre
 have hw':=DataW.Whole.of_heap (w':=w.forCall tape i) (by rfl) hw
 refine(contract (w.forCall tape i) w.heap.size i.args ds gs before hval hw' hsh (hX _ _ _ (by rfl) hx)).mono fun e W' ⟨v,he,hp⟩=>?_
 subst he
 exact ChangeSpec.post_blind hp
end Go.Ev
namespace Go.Proofs.YtfdgaoihjedamaaGreatDoor.lawParseFile
open Go.Ev Go.ChangeShapes Go.WideShapes Go.RowKit Go.ChangeMaps
theorem own : ownKnob Tryz.prog.godebug=none:=by kernel_rfl
def laidList : List (String×DataW Unit):=[("unicode/utf8.acceptRanges",Rows.laid_unicode_utf8_acceptRanges),("errors.errorType",Rows.laid_errors_errorType),("unicode/utf8.first",Rows.laid_unicode_utf8_first)]
theorem et : Tryz.prog.globalNamed "errors.errorType" = some 0:=by kernel_rfl
theorem rt : (Tryz.prog.cutTypes.find? (fun x=>x.1 == "internal/reflectlite.rtype")).map (fun x=>x.2)=some 156:=by kernel_rfl
theorem oneRow : ((List.range Tryz.prog.types.size).filter fun t=>Tryz.prog.rowNamed t [101,114,114,111,114])=[29]:=by kernel_rfl
theorem handle_of_laid {W:World}(h:laidMetH Tryz.prog laidList W):W.cell? ⟨0,0,none⟩=some (.iface 156 (.agg #[.pointer (some ⟨4,29,none⟩)])):=by
 have h':laidMet Tryz.prog (laidList.filter fun x=>x.2.handleName?.isNone) W∧handlesMet Tryz.prog [("errors.errorType",Rows.laid_errors_errorType)] W:=h
 obtain⟨name,u,ty,e1,e2,e3,e4,e5⟩:=h'.2 _ (List.mem_singleton.2 rfl)
 have en:name=[101,114,114,111,114]:=(Option.some.inj e1).symm
 subst en
 obtain rfl:=Option.some.inj (rt.symm.trans e2)
 have hm:ty ∈ (List.range Tryz.prog.types.size).filter fun t=>Tryz.prog.rowNamed t [101,114,114,111,114]:=List.mem_filter.2 ⟨List.mem_range.2 e3,e4⟩
 rw [oneRow] at hm
 obtain rfl:=List.mem_singleton.1 hm
 have hh:typeHandle Tryz.prog 29=.pointer (some ⟨4,29,none⟩):=by kernel_rfl
 rw [hh] at e5
 simpa using World.var?_cell et e5 0
theorem gl_of {W:World}(h:laidMetH Tryz.prog laidList W)(hs:W.ShapedOpen Tryz.prog):GL (fun b o=>W.cell? ⟨b,o,none⟩):=
 ⟨cell_of_shapedOpen_int (t:=3) (zero:=#[.int .i64 0]) hs (of_decide_eq_true (by kernel_rfl)) (by kernel_rfl) rfl (by kernel_rfl) (by kernel_rfl) Tryz.underlying3,handle_of_laid h⟩
def flatD : Nat→DataW Unit→List Value
 |0,_=>[]
 |_+1,.lit (.int k n)=>[.int k n]
 |_+1,.lit (.bool b)=>[.bool b]
 |_+1,.lit (.string b)=>[.string ⟨b.toArray⟩]
 |f+1,.agg l=>l.flatMap (flatD f)
 |_+1,_=>[]
def layAt (h:Array Go.Obj)(g:Nat)(cs:List Value):Array Go.Obj:=h.modify g fun
 |.cells _ t frozen=>.cells cs.toArray t frozen
 |o=>o
noncomputable def laidWorld (os:Os):World:=
 let w0:=World.holding Tryz.prog os ⟨#[],#[],[]⟩
 { w0 with heap:=layAt (layAt (layAt w0.heap 3 (flatD 9 Rows.laid_unicode_utf8_acceptRanges)) 0 [.iface 156 (.agg #[.pointer (some ⟨4,29,none⟩)])]) 2 (flatD 9 Rows.laid_unicode_utf8_first) }
theorem laidWorld_met (os:Os)(args:Array Value):laidMetH Tryz.prog laidList ((laidWorld os).forCall (fun _ _=>0) ⟨#[],args,[]⟩).memory:=
 laidMetH_of_parts (laidMet_of_run' 12 (by kernel_rfl) (by kernel_rfl)) (by kernel_rfl)
theorem lifted (os:Os)(started:os.Started)(H:Type)(enc:TypeId×Value→H) :
  ReturnsInHanded {} Tryz.checked os 4 .any (fun w args=>(Rows.parseFileSpec.pre enc Tryz.prog Tryz.f4 [] false w args∧laidMetH Tryz.prog laidList w)∧sizedMet enc Tryz.prog Tryz.f4 (OpenSpec.ofChange Rows.parseFileSpec) false w args)
   (Rows.parseFileSpec.post enc Tryz.prog Tryz.f4 false true false false):=by
 refine handed_and (C:=Tryz.checked) (X:=fun w _=>laidMetH Tryz.prog laidList w) (fun _ _ _ hh h=>h.of_heap hh) own started (by kernel_rfl) Tryz.func4
  (ChangeSpec.witness_at (enc:=enc) (C:=Tryz.checked) (os:=os) (X:=fun w _=>laidMetH Tryz.prog laidList w) false (laidWorld os) #[.string .empty,.string .empty] 8 rfl (by kernel_rfl) (by kernel_rfl) (by kernel_rfl) (by kernel_rfl) (by kernel_rfl) (laidWorld_met os _)) ?_
 intro W basev args ds gs before hval hW hsh hL
 have hW':=hW
 obtain⟨p,q,hA0,hV,rfl,hfz,hnd⟩:=hW
 have hA:DataW.TrodAll enc Tryz.prog W 0 (fun _=>true) true Tryz.f4.params.toList args.toList ds p:=hA0
 rw [Tryz.params4] at hA hval
 obtain⟨v0,v1,d0,d1,p0,p1,rfl,rfl,rfl,h0,h1⟩:=trodAll_two hA
 obtain⟨rfl,rfl⟩:=trodVars_none hV
 obtain⟨s,rfl,rfl,rfl,z0⟩:=open_string Tryz.underlying9 (hval 0 _ v0 rfl rfl) h0
 obtain⟨t,rfl,rfl,rfl,z1⟩:=open_string Tryz.underlying9 (hval 1 _ v1 rfl rfl) h1
 refine((law_ok s t).2 (fun b o=>W.cell? ⟨b,o,none⟩) W #[.string s,.string t] (fun b o c h=>h) (gl_of hL hsh) ⟨rfl,fun j u x hu hx=>?_⟩).mono fun e W' hp=>?_
 ·match j with
  |0=>simp at hu hx;subst hu;subst hx;exact RdT.con _ rfl
  |1=>simp at hu hx;subst hu;subst hx;exact RdT.con _ rfl
  |j+2=>simp at hu
 ·obtain⟨v,N,rfl,hbelow,_,hr⟩:=hp
  have hv:v=.bool true:=by cases hr;rfl
  subst hv
  refine⟨_,rfl,_,_,_,[],[],[],hW',?_,?_,?_,Below.frame hbelow _,fun h=>by cases h⟩
  ·exact trodAll_mk1 (shut_bool Tryz.underlying4 _)
  ·exact trodAll_mk2 (shut_string Tryz.underlying9 z0) (shut_string Tryz.underlying9 z1)
  ·rfl
theorem row_holds : Rows.ParseFileSaid:=
 OpenClaim.holds_of_wide 4 Tryz.f4 rfl rfl rfl rfl rfl rfl rfl ⟨rfl,rfl,rfl,rfl,rfl⟩ rfl rfl rfl rfl rfl (by kernel_rfl) Tryz.func4 (by kernel_rfl)
  (of_decide_eq_true (by kernel_rfl)) (by unfold Func.isWrapper;rw [if_neg (of_decide_eq_false (by kernel_rfl))];exact⟨rfl,rfl⟩)
  (fun os started H enc _=>lifted os started H enc)
theorem proved : Rows.ParseFileCardSaid:=
 Claim7.holds_tied_plain_at .later [] [.data,.handle,.pinned] true (true,"b90ed616026f139d2c7fc69401227a0d24a9bc8e3f663a60455152699b090594") true
  row_holds (fun _ h=>by cases h) (by kernel_rfl) (fun _ h=>by cases h) parseFile_row_tie rfl ⟨rfl,rfl⟩ (by kernel_rfl) rfl
  (fun f fn hf hfn=>by
   obtain rfl:f=4:=Option.some.inj ((show Tryz.prog.funcNamed "credence/credencelaw07.ParseFile" = some 4 by kernel_rfl).symm.trans hf) |>.symm
   obtain rfl:fn=Tryz.f4:=(Option.some.inj (Tryz.func4.symm.trans hfn)).symm
   exact⟨by kernel_rfl,fun j t ht=>by
    rw [Tryz.params4] at ht
    have e:t=9:=by
     match j with
     |0=>exact(Option.some.inj ht).symm
     |1=>exact(Option.some.inj ht).symm
     |j+2=>simp at ht
    subst e
    show Tryz.prog.wantsStandIn 9=false
    kernel_rfl⟩)
  (by kernel_rfl)
end Go.Proofs.YtfdgaoihjedamaaGreatDoor.lawParseFile
