/-
  THE LAW ParseCut IS PROVED, WHERE WHAT IT READS IS OF BULK AT MOST 1048576: a laid file that lacks its end, from somewhere within its last part on, is none; nor is a whole file with a token behind, but where that begins a part; the arguments read as they did. Conditions: the card's own (the listed package-level variables start as the program's text lays them).
-/
import Derived.Test.YthpoegdjffdojaaGreatDoorULbn
import Derived.Test.YthpoegdjffdojaaGreatDoorULbo
set_option linter.all false
set_option maxRecDepth 100000
namespace Go.Proofs.YthpoegdjffdojaaGreatDoor.lawParseCut
open Go.Ev Go.ChangeShapes Go.WideShapes Go.RowKit Go.ChangeMaps Go.ChangeAt FV
theorem Mp (H:Type)(enc:TypeId×Value->H)(W:World)(base:Nat)(args:Array Value)(ds gs:List (DataW H))(before:List MemPlace)
  (hval:∀(j:Nat) t v,Tryz.f4.params[j]?=some t->args[j]?=some v->Value.okWide Tryz.prog W .any base t v)
  (hW:DataW.Whole enc Tryz.prog Tryz.f4.params.toList Rows.parseCutSpec.vars false W args.toList ds gs before) (hk:Rows.uptoSmall H (ds ++ gs)=true) (hL:laidMetH Tryz.prog kl W) (hsh:W.ShapedOpen Tryz.prog) :
  Calls Tryz.prog 4 args W fun e W'=>∃v,e=.returned v/\Rows.parseCutSpec.post enc Tryz.prog Tryz.f4 false true false false W args v W':=by
 have hW':=hW;obtain⟨p,q,hA0,hV,rfl,hfz,hnd⟩:=hW;have hA:DataW.TrodAll enc Tryz.prog W 0 (fun _=>true) true Tryz.f4.params.toList args.toList ds p:=hA0;rw [Tryz.params4] at hA hval;obtain⟨v0,v1,v2,v3,d0,d1,d2,d3,p0,p1,p2,p3,rfl,rfl,rfl,h0,h1,h2,h3⟩:=trodAll_four hA;obtain⟨rfl,rfl⟩:=trodVars_none hV;obtain⟨i,rfl,rfl,rfl,zi⟩:=open_int Tryz.underlying3 (hval 2 _ v2 rfl rfl) h2;obtain⟨o,rfl,rfl,rfl,z1⟩:=open_string Tryz.underlying9 (hval 3 _ v3 rfl rfl) h3;have hb:Rows.uptoBulkAll [d0,d1,(DataW.lit (.int .i64 i):DataW H),(DataW.lit (.string o.data.toList):DataW H)]<=1048576:=N8 hk;simp only [Rows.uptoBulkAll,Rows.uptoBulk] at hb
 have ho:o.size<=1048576:=by
  have:o.data.toList.length=o.size:=aU o;omega
 obtain⟨f,s0,r0⟩:=HG (hval 0 _ v0 rfl rfl) h0;obtain⟨l,s1,r1⟩:=HF (hval 1 _ v1 rfl rfl) h1;have hB:MC f<=1048576:=by omega
 have hi : -9223372036854775808<=i/\i<=9223372036854775807:=by simpa [Lit.wf,IntKind.min,IntKind.max,IntKind.signed,IntKind.bits] using zi
 have hl:=kZ l;have hlt:∀x ∈ p0 ++ p1,x.block < W.heap.size:=fun x hx=>hW'.lt x (by simp at hx;rcases hx with hx|hx<;>simp [hx])
 refine((x5 f l i o (PC hB) A8 (fun s hs=>by have:=kY hs;omega) hB ho hi.1 hi.2).2 (yJ W) W #[v0,v1,.int .i64 i,.string o] (fun b o c h=>h) (Va hL hsh) ⟨rfl,fun j t x ht hx=>?_⟩).mono fun e W' hp=>?_
 ·match j with
  |0=>simp at ht hx;subst ht;subst hx;exact r0
  |1=>simp at ht hx;subst ht;subst hx;exact r1
  |2=>simp at ht hx;subst ht;subst hx;exact gD.af _ rfl
  |3=>simp at ht hx;subst ht;subst hx;exact gD.af _ rfl
  |j+4=>simp at ht
 ·obtain⟨v,N,rfl,hbelow,_,hr⟩:=hp;have hv:v=.bool true:=by cases hr;rfl
  subst hv;refine⟨_,rfl,_,_,_,[],p0 ++ (p1 ++ ([] ++ [])),[],hW',?_,?_,?_,World.keptBut_mono (fun p hp=>⟨hp,?_⟩) (hbelow.frame _),fun h=>by cases h⟩
  ·exact trodAll_cons_mk (shut_bool Tryz.underlying4 _) trodAll_mk0
  ·exact trodAll_mk4 (Below.trod laidOut B1 (N8 B1) h0 hbelow fun x hx=>hlt x (by simp [hx])) (Below.trod laidOut B1 (N8 B1) h1 hbelow fun x hx=>hlt x (by simp [hx])) (shut_int Tryz.underlying3 zi) (shut_string Tryz.underlying9 z1)
  ·rfl
  ·exact .inr (.inl (by simpa using hp))
theorem lifted (os:Os)(started:os.Started)(H:Type)(enc:TypeId×Value->H)(F:Stop.Interp) :
  ReturnsInHanded {} Tryz.checked os 4 .any ((Rows.OpenSpec.upto Rows.parseCutSpec).preRow enc Tryz.prog Tryz.f4 [] false kl)
   (((Rows.OpenSpec.upto Rows.parseCutSpec).at F).post enc Tryz.prog Tryz.f4 false true false false):=by
 refine returnsInHanded_of_row (C:=Tryz.checked) (s:=Rows.OpenSpec.upto Rows.parseCutSpec) own started B1 Tryz.func4
  (witness_row_at (enc:=enc) (C:=Tryz.checked) (os:=os) (s:=Rows.OpenSpec.upto Rows.parseCutSpec) false (wY os) #[.agg #[.string .empty,.slice none 0 0,.slice none 0 0,.slice none 0 0],.slice none 0 0,.int .i64 0,.string .empty] rfl B1 B1 B1
   (OpenSpec.preRow_of_cond 8 (x:=([.agg [.lit (.string []),.nil,.nil,.nil],.nil,.lit (.int .i64 0),.lit (.string [])],[],[])) B1 rfl (fun k hk=>by cases hk;rfl) B1 (vL os _))) ?_
 intro W base args ds gs before hval hW _ hk _ hL hsh _;exact Mp H enc W base args ds gs before hval hW (hk _ rfl) hL hsh
theorem Hp : Rows.ParseCutUptoSaid:=
 OpenClaim.holds_of_cond 4 Tryz.f4 rfl rfl rfl rfl rfl rfl rfl ⟨rfl,rfl,rfl,rfl,rfl⟩ rfl rfl rfl rfl rfl B1 Tryz.func4 B1
  (N8 B1) (by unfold Func.isWrapper;rw [if_neg (U7 B1)];exact⟨rfl,rfl⟩)
  (fun os started H enc _ F=>by rw [OpenClaim.pre_eq_preRow];exact lifted os started H enc F)
theorem proved : Rows.ParseCutUptoCardSaid:=
 Claim7.holds_tied_plain_at .later [] [.data,.handle,.pinned] true (true,"d372c6c801fce6946ebc0c54ac187d60ee7f203998fd208e413bafd11af8e2b4") true
  Hp (fun _ h=>by cases h) B1 (fun _ h=>by cases h) parseCutUpto_row_tie rfl ⟨rfl,rfl⟩ B1 rfl
  (fun f fn hf hfn=>by
   obtain rfl:f=4:=C6 ((show Tryz.prog.funcNamed "credence/credencelaw07.ParseCut" = some 4 by kernel_rfl).symm.trans hf) |>.symm;obtain rfl:fn=Tryz.f4:=(C6 (Tryz.func4.symm.trans hfn)).symm
   exact⟨by kernel_rfl,fun j t ht=>by
    rw [Tryz.params4] at ht
    have e:t=26\/t=22\/t=3\/t=9:=by
     match j with
     |0=>exact Or.inl (C6 ht).symm
     |1=>exact Or.inr (Or.inl (C6 ht).symm)
     |2=>exact Or.inr (Or.inr (Or.inl (C6 ht).symm))
     |3=>exact Or.inr (Or.inr (Or.inr (C6 ht).symm))
     |j+4=>simp at ht
    rcases e with rfl|rfl|rfl|rfl
    ·show Tryz.prog.wantsStandIn 26=false;kernel_rfl
    ·show Tryz.prog.wantsStandIn 22=false;kernel_rfl
    ·show Tryz.prog.wantsStandIn 3=false;kernel_rfl
    ·show Tryz.prog.wantsStandIn 9=false
     kernel_rfl⟩)
   B1
end Go.Proofs.YthpoegdjffdojaaGreatDoor.lawParseCut
