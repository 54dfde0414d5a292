/-
  THE LAW ParseBack IS PROVED, WHERE WHAT IT READS IS OF BULK AT MOST 1048576: a file that is laid token by token, with anything that says nothing between, is read as just that, and its rows too; the arguments read as they did. Conditions: the card's own (the listed package-level variables start as the program's text lays them).
-/
import Derived.Test.YthpoegdjffdojaaGreatDoorTBpr
set_option linter.all false
set_option maxRecDepth 100000
namespace Go.Proofs.YthpoegdjffdojaaGreatDoor.lawParseBack
open Go.Ev Go.ChangeShapes Go.WideShapes Go.RowKit Go.ChangeMaps Go.ChangeAt FV
theorem Mp (H:Type)(enc:TypeId×Value→H)(W:World)(base:Nat)(args:Array Value)(ds gs:List (DataW H))(before:List MemPlace)
  (hval:∀(j:Nat) t v,Tryz.f3.params[j]?=some t→args[j]?=some v→Value.okWide Tryz.prog W .any base t v)
  (hW:DataW.Whole enc Tryz.prog Tryz.f3.params.toList Rows.parseBackSpec.vars false W args.toList ds gs before) (hk:Rows.uptoSmall H (ds ++ gs)=true) (hL:laidMetH Tryz.prog kl W) (hsh:W.ShapedOpen Tryz.prog) :
  Calls Tryz.prog 3 args W fun e W'=>∃v,e=.returned v∧Rows.parseBackSpec.post enc Tryz.prog Tryz.f3 false true false false W args v W':=by
 have hW':=hW;obtain⟨p,q,hA0,hV,rfl,hfz,hnd⟩:=hW;have hA:DataW.TrodAll enc Tryz.prog W 0 (fun _=>true) true Tryz.f3.params.toList args.toList ds p:=hA0;rw [Tryz.params3] at hA hval;obtain⟨v0,v1,d0,d1,p0,p1,rfl,rfl,rfl,h0,h1⟩:=trodAll_two hA;obtain⟨rfl,rfl⟩:=trodVars_none hV;have hb:Rows.uptoBulkAll [d0,d1]≤1048576:=of_decide_eq_true hk;simp only [Rows.uptoBulkAll] at hb;obtain⟨f,s0,r0⟩:=HG (hval 0 _ v0 rfl rfl) h0;obtain⟨l,s1,r1⟩:=HF (hval 1 _ v1 rfl rfl) h1;have hB:MC f≤1048576:=by omega
 have hl:=kZ l;have hlt:∀x ∈ p0 ++ p1,x.block < W.heap.size:=fun x hx=>hW'.lt x (by simpa using hx)
 refine((Qd f l (PC hB) Yy (fun s hs=>by have:=kY hs;omega) hB).2 (yJ W) W #[v0,v1] (fun b o c h=>h) (Va hL hsh) ⟨rfl,fun j t x ht hx=>?_⟩).mono fun e W' hp=>?_
 ·match j with
  |0=>simp at ht hx;subst ht;subst hx;exact r0
  |1=>simp at ht hx;subst ht;subst hx;exact r1
  |j+2=>simp at ht
 ·obtain⟨v,N,rfl,hbelow,_,hr⟩:=hp;have hv:v=.bool true:=by cases hr;rfl
  subst hv;refine⟨_,rfl,_,_,_,[],p0 ++ p1,[],hW',?_,?_,?_,World.keptBut_mono (fun p hp=>⟨hp,?_⟩) (hbelow.frame _),fun h=>by cases h⟩
  ·exact trodAll_cons_mk (shut_bool Tryz.underlying4 _) trodAll_mk0
  ·exact trodAll_mk2 (Below.trod laidOut Yz (of_decide_eq_true Yz) h0 hbelow fun x hx=>hlt x (by simp [hx])) (Below.trod laidOut Yz (of_decide_eq_true Yz) h1 hbelow fun x hx=>hlt x (by simp [hx]))
  ·rfl
  ·exact .inr (.inl (by simpa using hp))
theorem lifted (os:Os)(started:os.Started)(H:Type)(enc:TypeId×Value→H)(F:Stop.Interp) :
  ReturnsInHanded {} Tryz.checked os 3 .any ((Rows.OpenSpec.upto Rows.parseBackSpec).preRow enc Tryz.prog Tryz.f3 [] false kl)
   (((Rows.OpenSpec.upto Rows.parseBackSpec).at F).post enc Tryz.prog Tryz.f3 false true false false):=by
 refine returnsInHanded_of_row (C:=Tryz.checked) (s:=Rows.OpenSpec.upto Rows.parseBackSpec) own started Yz Tryz.func3
  (witness_row_at (enc:=enc) (C:=Tryz.checked) (os:=os) (s:=Rows.OpenSpec.upto Rows.parseBackSpec) false (wY os) #[.agg #[.string .empty,.slice none 0 0,.slice none 0 0,.slice none 0 0],.slice none 0 0] rfl Yz Yz Yz
   (OpenSpec.preRow_of_cond 8 (x:=([.agg [.lit (.string []),.nil,.nil,.nil],.nil],[],[])) Yz rfl (fun k hk=>by cases hk;rfl) Yz (vL os _))) ?_
 intro W base args ds gs before hval hW _ hk _ hL hsh _;exact Mp H enc W base args ds gs before hval hW (hk _ rfl) hL hsh
theorem Hp : Rows.ParseBackUptoSaid:=
 OpenClaim.holds_of_cond 3 Tryz.f3 rfl rfl rfl rfl rfl rfl rfl ⟨rfl,rfl,rfl,rfl,rfl⟩ rfl rfl rfl rfl rfl Yz Tryz.func3 Yz
  (of_decide_eq_true Yz) (by unfold Func.isWrapper;rw [if_neg (of_decide_eq_false Yz)];exact⟨rfl,rfl⟩)
  (fun os started H enc _ F=>by rw [OpenClaim.pre_eq_preRow];exact lifted os started H enc F)
theorem proved : Rows.ParseBackUptoCardSaid:=
 Claim7.holds_tied_plain_at .later [] [.data,.handle,.pinned] true (true,"d372c6c801fce6946ebc0c54ac187d60ee7f203998fd208e413bafd11af8e2b4") true
  Hp (fun _ h=>by cases h) Yz (fun _ h=>by cases h) parseBackUpto_row_tie rfl ⟨rfl,rfl⟩ Yz rfl
  (fun f fn hf hfn=>by
   obtain rfl:f=3:=Option.some.inj ((show Tryz.prog.funcNamed "credence/credencelaw07.ParseBack" = some 3 by kernel_rfl).symm.trans hf) |>.symm;obtain rfl:fn=Tryz.f3:=(Option.some.inj (Tryz.func3.symm.trans hfn)).symm
   exact⟨by kernel_rfl,fun j t ht=>by
    rw [Tryz.params3] at ht
    have e:t=26∨t=22:=by
     match j with
     |0=>exact Or.inl (Option.some.inj ht).symm
     |1=>exact Or.inr (Option.some.inj ht).symm
     |j+2=>simp at ht
    rcases e with rfl|rfl
    ·show Tryz.prog.wantsStandIn 26=false;kernel_rfl
    ·show Tryz.prog.wantsStandIn 22=false
     kernel_rfl⟩)
   Yz
end Go.Proofs.YthpoegdjffdojaaGreatDoor.lawParseBack
