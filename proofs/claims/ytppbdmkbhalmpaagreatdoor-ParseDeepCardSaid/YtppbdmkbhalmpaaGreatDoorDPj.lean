/-
  THE LAW ParseDeep IS PROVED: WHATEVER THE TURNS: up to 64 of them are read, of more the 65th is told; the turns read as they did. Conditions: the card's own (the listed package-level variables start as the program's text lays them).
-/
import Derived.Test.YtppbdmkbhalmpaaGreatDoorLbc
import Derived.Test.YtppbdmkbhalmpaaGreatDoorRows
import Derived.Test.YtppbdmkbhalmpaaGreatDoorCards
import Derived.Test.YtppbdmkbhalmpaaGreatDoorTie
import Derived.SevenTiedAt
import Derived.ChangeSame
import Derived.ChangeVars
import Derived.ChangeMaps5
import Derived.JoinedOf
import Derived.RowKit
import Derived.RowKitTokens
import Derived.LaidLaws
import Derived.LaidHandle
import Derived.HandedShaped
import Derived.Shelf.Vars
import Derived.Below
import Derived.OpenShut
set_option linter.all false
set_option maxRecDepth 100000
namespace Go.Ev
theorem handed_and {H:Type}{enc:TypeId×Value→H}{a:Assume}{C:Checked}{os:Os}{f:FuncId}{fn:Func}{s:ChangeSpec}{conds:List PathCond}{apart fresh handsOn again:Bool}{X:World→Array Value→Prop}
  (hX:∀(w w':World) (args:Array Value),w.heap=w'.heap→X w args→X w' args)
  (own:ownKnob C.prog.godebug=none) (started:os.Started) (noInit:C.prog.inits.idxOf? f=none) (hfn:C.prog.funcs[f]?=some fn)
  (witness:∃(w:World) (tape:Tape) (i:Input),w.os=os∧(w.forCall tape i).Shaped C.prog∧i.vars=[]∧Input.okWide C.prog (w.forCall tape i) .any w.heap.size f i∧
   ((s.pre enc C.prog fn conds apart (w.forCall tape i).memory i.args∧X (w.forCall tape i).memory i.args)∧sizedMet enc C.prog fn (OpenSpec.ofChange s) apart (w.forCall tape i).memory i.args)∧a.holds C.prog (lone (Frame.enter C.prog f i.args .normal) [] (w.forCall tape i)))
  (contract:∀(W:World) (base:Nat) (args:Array Value) (ds gs:List (DataW H)) (before:List MemPlace),
   (∀(j:Nat) t v,fn.params[j]?=some t→args[j]?=some v→Value.okWide C.prog W .any base t v)→
   DataW.Whole enc C.prog fn.params.toList s.vars apart W args.toList ds gs before→W.ShapedOpen C.prog→X W args→
   Calls C.prog f args W fun e W'=>∃v,e=.returned v∧s.post enc C.prog fn apart fresh handsOn again W args v W') :
  ReturnsInHanded a C os f .any (fun w args=>(s.pre enc C.prog fn conds apart w args∧X w args)∧sizedMet enc C.prog fn (OpenSpec.ofChange s) apart w args) (s.post enc C.prog fn apart fresh handsOn again):=by
 refine returnsInHanded_of_calls own started noInit witness ?_
 intro w tape i _ hsh _ hok hpre hholds
 obtain⟨_,_,_,fn',hfn',_,_,_,_,hval⟩:=hok
 have e:fn'=fn:=Option.some.inj (hfn'.symm.trans hfn)
 subst e
 obtain⟨⟨⟨ds,gs,before,hw,hc⟩,hx⟩,hz⟩:=hpre
 have hw':=DataW.Whole.of_heap (w':=w.forCall tape i) (by rfl) hw
 refine(contract (w.forCall tape i) w.heap.size i.args ds gs before hval hw' hsh (hX _ _ _ (by rfl) hx)).mono fun e W' ⟨v,he,hp⟩=>?_
 subst he
 exact ChangeSpec.post_blind hp
section
open Go.Proofs Go.Proofs.YtppbdmkbhalmpaaGreatDoor
theorem bulk_one {H:Type}(d:DataW H):1≤Rows.uptoBulk d:=by
 cases d with
 |lit l=>cases l<;>simp [Rows.uptoBulk]
 |_=>simp [Rows.uptoBulk]
theorem bulk_part {H:Type}{d:DataW H}{l:List (DataW H)}(h:d ∈ l):Rows.uptoBulk d≤Rows.uptoBulkAll l:=by
 induction l with
 |nil=>cases h
 |cons x r ih=>
  simp only [Rows.uptoBulkAll]
  rcases List.mem_cons.1 h with rfl|h
  ·omega
  ·have:=ih h;omega
theorem bulk_len {H:Type}(l:List (DataW H)):l.length≤Rows.uptoBulkAll l:=by
 induction l with
 |nil=>simp [Rows.uptoBulkAll]
 |cons x r ih=>have:=bulk_one x;simp only [Rows.uptoBulkAll,List.length_cons];omega
theorem bulk_sum {H:Type}(l:List (DataW H)):(l.map Rows.uptoBulk).sum=Rows.uptoBulkAll l:=by
 induction l with
 |nil=>rfl
 |cons x r ih=>simp only [Rows.uptoBulkAll,List.map_cons,List.sum_cons,ih]
theorem bulk_ok {H:Type}:Bulk (H:=H) Rows.uptoBulk where
 len e s:=by have:=bulk_len e;simp only [Rows.uptoBulk];omega
 mem e s d h:=by have:=bulk_part h;simp only [Rows.uptoBulk];omega
 part ps d h:=by have:=bulk_part h;simp only [Rows.uptoBulk];omega
 sum e s:=by have:=bulk_sum e;simp only [Rows.uptoBulk];omega
theorem okWide_sl {P:Program}{W:World}{r:Reach}{base:Nat}{t e:TypeId}{v:Value}(ht:P.underlying t=some (.slice e))(h:Value.okWide P W r base t v):v.cells=#[v]:=by
 cases v with
 |agg cs=>simp [Value.okWide,Cell.okWide,ht,Cell.ok] at h
 |_=>rfl
variable {H : Type} {enc : TypeId × Value → H}
theorem open_ints {W:World}{base:Nat}{v:Value}{d:DataW H}{p:List MemPlace}(hval:Value.okWide Tryz.prog W .any base 42 v)
  (h:DataW.Trod enc Tryz.prog W 0 (fun _=>true) true 42 v d p):∃l:List Int,RdT (memS W) (tIn l) v:=by
 have e:=okWide_sl Tryz.underlying42 hval
 obtain⟨fuel,hf⟩:=h
 rw [e] at hf
 obtain⟨l,-,h2⟩:=(rdr_slice (sz:=1) bulk_ok Tryz.underlying42 (by kernel_rfl) (by decide) (fun _=>rfl) (rdr_int Tryz.underlying3):Rdr enc Tryz.prog Rows.uptoBulk (Rows.uptoBulk d) 42 (fun l=>tIn l) _) W _ _ fuel _ d p hf (Nat.le_refl _)
 exact⟨l,(h2.2 0 _ v rfl rfl).1⟩
end
end Go.Ev
namespace Go.Proofs.YtppbdmkbhalmpaaGreatDoor.lawParseDeep
open Go.Ev Go.ChangeShapes Go.WideShapes Go.RowKit Go.ChangeMaps
theorem own : ownKnob Tryz.prog.godebug=none:=by kernel_rfl
def laidList : List (String×DataW Unit):=[("unicode/utf8.acceptRanges",Rows.laid_unicode_utf8_acceptRanges),("errors.errorType",Rows.laid_errors_errorType),("unicode/utf8.first",Rows.laid_unicode_utf8_first)]
theorem et : Tryz.prog.globalNamed "errors.errorType" = some 0:=by kernel_rfl
theorem rt : (Tryz.prog.cutTypes.find? (fun x=>x.1 == "internal/reflectlite.rtype")).map (fun x=>x.2)=some 117:=by kernel_rfl
theorem oneRow : ((List.range Tryz.prog.types.size).filter fun t=>Tryz.prog.rowNamed t [101,114,114,111,114])=[29]:=by kernel_rfl
theorem handle_of_laid {W:World}(h:laidMetH Tryz.prog laidList W):W.cell? ⟨0,0,none⟩=some (.iface 117 (.agg #[.pointer (some ⟨4,29,none⟩)])):=by
 have h':laidMet Tryz.prog (laidList.filter fun x=>x.2.handleName?.isNone) W∧handlesMet Tryz.prog [("errors.errorType",Rows.laid_errors_errorType)] W:=h
 obtain⟨name,u,ty,e1,e2,e3,e4,e5⟩:=h'.2 _ (List.mem_singleton.2 rfl)
 have en:name=[101,114,114,111,114]:=(Option.some.inj e1).symm
 subst en
 obtain rfl:=Option.some.inj (rt.symm.trans e2)
 have hm:ty ∈ (List.range Tryz.prog.types.size).filter fun t=>Tryz.prog.rowNamed t [101,114,114,111,114]:=List.mem_filter.2 ⟨List.mem_range.2 e3,e4⟩
 rw [oneRow] at hm
 obtain rfl:=List.mem_singleton.1 hm
 have hh:typeHandle Tryz.prog 29=.pointer (some ⟨4,29,none⟩):=by kernel_rfl
 rw [hh] at e5
 simpa using World.var?_cell et e5 0
theorem gl_of {W:World}(h:laidMetH Tryz.prog laidList W)(hs:W.ShapedOpen Tryz.prog):GL (fun b o=>W.cell? ⟨b,o,none⟩):=
 ⟨cell_of_shapedOpen_int (t:=3) (zero:=#[.int .i64 0]) hs (of_decide_eq_true (by kernel_rfl)) (by kernel_rfl) rfl (by kernel_rfl) (by kernel_rfl) Tryz.underlying3,handle_of_laid h⟩
def flatD : Nat→DataW Unit→List Value
 |0,_=>[]
 |_+1,.lit (.int k n)=>[.int k n]
 |_+1,.lit (.bool b)=>[.bool b]
 |_+1,.lit (.string b)=>[.string ⟨b.toArray⟩]
 |f+1,.agg l=>l.flatMap (flatD f)
 |_+1,_=>[]
def layAt (h:Array Go.Obj)(g:Nat)(cs:List Value):Array Go.Obj:=h.modify g fun
 |.cells _ t frozen=>.cells cs.toArray t frozen
 |o=>o
noncomputable def laidWorld (os:Os):World:=
 let w0:=World.holding Tryz.prog os ⟨#[],#[],[]⟩
 { w0 with heap:=layAt (layAt (layAt w0.heap 3 (flatD 9 Rows.laid_unicode_utf8_acceptRanges)) 0 [.iface 117 (.agg #[.pointer (some ⟨4,29,none⟩)])]) 2 (flatD 9 Rows.laid_unicode_utf8_first) }
theorem laidWorld_met (os:Os)(args:Array Value):laidMetH Tryz.prog laidList ((laidWorld os).forCall (fun _ _=>0) ⟨#[],args,[]⟩).memory:=
 laidMetH_of_parts (laidMet_of_run' 12 (by kernel_rfl) (by kernel_rfl)) (by kernel_rfl)
theorem laidOut : laidOutB Tryz.prog=true:=by kernel_rfl
theorem lifted (os:Os)(started:os.Started)(H:Type)(enc:TypeId×Value→H) :
  ReturnsInHanded {} Tryz.checked os 4 .any (fun w args=>(Rows.parseDeepSpec.pre enc Tryz.prog Tryz.f4 [] false w args∧laidMetH Tryz.prog laidList w)∧sizedMet enc Tryz.prog Tryz.f4 (OpenSpec.ofChange Rows.parseDeepSpec) false w args)
   (Rows.parseDeepSpec.post enc Tryz.prog Tryz.f4 false true false false):=by
 refine handed_and (C:=Tryz.checked) (X:=fun w _=>laidMetH Tryz.prog laidList w) (fun _ _ _ hh h=>h.of_heap hh) own started (by kernel_rfl) Tryz.func4
  (ChangeSpec.witness_at (enc:=enc) (C:=Tryz.checked) (os:=os) (X:=fun w _=>laidMetH Tryz.prog laidList w) false (laidWorld os) #[.slice none 0 0] 8 rfl (by kernel_rfl) (by kernel_rfl) (by kernel_rfl) (by kernel_rfl) (by kernel_rfl) (laidWorld_met os _)) ?_
 intro W basev args ds gs before hval hW hsh hL
 have hW':=hW
 obtain⟨p,q,hA0,hV,rfl,hfz,hnd⟩:=hW
 have hA:DataW.TrodAll enc Tryz.prog W 0 (fun _=>true) true Tryz.f4.params.toList args.toList ds p:=hA0
 rw [Tryz.params4] at hA hval
 obtain⟨v0,d0,rfl,rfl,h0⟩:=trodAll_one hA
 obtain⟨rfl,rfl⟩:=trodVars_none hV
 obtain⟨l,r0⟩:=open_ints (hval 0 _ v0 rfl rfl) h0
 have hlt:∀x ∈ p,x.block < W.heap.size:=fun x hx=>hW'.lt x (by simpa using hx)
 refine((deep_ok l).2 (memS W) W #[v0] (fun b o c h=>h) (gl_of hL hsh) ⟨rfl,fun j u x hu hx=>?_⟩).mono fun e W' hp=>?_
 ·match j with
  |0=>simp at hu hx;subst hu;subst hx;exact r0
  |j+1=>simp at hu
 ·obtain⟨v,N,rfl,hbelow,_,hr⟩:=hp
  have hv:v=.bool true:=by cases hr;rfl
  subst hv
  refine⟨_,rfl,_,_,_,[],p,[],hW',?_,?_,?_,World.keptBut_mono (fun p hp=>⟨hp,?_⟩) (hbelow.frame _),fun h=>by cases h⟩
  ·exact trodAll_mk1 (shut_bool Tryz.underlying4 _)
  ·exact trodAll_mk1 (Below.trod laidOut (by kernel_rfl) (of_decide_eq_true (by kernel_rfl)) h0 hbelow fun x hx=>hlt x hx)
  ·rfl
  ·exact .inr (.inl (by simpa using hp))
theorem row_holds : Rows.ParseDeepSaid:=
 OpenClaim.holds_of_wide 4 Tryz.f4 rfl rfl rfl rfl rfl rfl rfl ⟨rfl,rfl,rfl,rfl,rfl⟩ rfl rfl rfl rfl rfl (by kernel_rfl) Tryz.func4 (by kernel_rfl)
  (of_decide_eq_true (by kernel_rfl)) (by unfold Func.isWrapper;rw [if_neg (of_decide_eq_false (by kernel_rfl))];exact⟨rfl,rfl⟩)
  (fun os started H enc _=>lifted os started H enc)
theorem proved : Rows.ParseDeepCardSaid:=
 Claim7.holds_tied_plain_at .later [] [.data,.handle,.pinned] true (true,"9efd1c74835d3a903cebece943eca716acbc416dafd7ed0818a9691f6bcd08d8") true
  row_holds (fun _ h=>by cases h) (by kernel_rfl) (fun _ h=>by cases h) parseDeep_row_tie rfl ⟨rfl,rfl⟩ (by kernel_rfl) rfl
  (fun f fn hf hfn=>by
   obtain rfl:f=4:=Option.some.inj ((show Tryz.prog.funcNamed "credence/credencelaw07.ParseDeep" = some 4 by kernel_rfl).symm.trans hf) |>.symm
   obtain rfl:fn=Tryz.f4:=(Option.some.inj (Tryz.func4.symm.trans hfn)).symm
   exact⟨by kernel_rfl,fun j t ht=>by
    rw [Tryz.params4] at ht
    have e:t=42:=by
     match j with
     |0=>exact(Option.some.inj ht).symm
     |j+1=>simp at ht
    subst e
    show Tryz.prog.wantsStandIn 42=false
    kernel_rfl⟩)
  (by kernel_rfl)
end Go.Proofs.YtppbdmkbhalmpaaGreatDoor.lawParseDeep
