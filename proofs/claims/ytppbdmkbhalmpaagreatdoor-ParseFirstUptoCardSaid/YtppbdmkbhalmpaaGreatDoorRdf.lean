import Derived.Test.YtppbdmkbhalmpaaGreatDoorLau
import Derived.Test.YtppbdmkbhalmpaaGreatDoorLav
set_option linter.all false
set_option maxHeartbeats 40000000
set_option maxRecDepth 10000
namespace Go.Ev
open Go.Proofs
open PS (Trm EntD VarD PrbD FilD)
def PS.begin (s:ByteArray):PS (txt s):=⟨0,none,0,fun h=>by
 obtain⟨l,t,e,-⟩:=(txt s).fine h
 rw [e,List.length_append];exact Nat.succ_pos _,fun _ h=>by cases h⟩
def fileS (dec:ByteArray→Int×Nat)(s:ByteArray):FilD×Option Flt:=
 match(PS.filD dec natP (PS.begin s)).2.bad with
 |some f=>(⟨eS,[],[],[]⟩,some f)
 |none=>((PS.filD dec natP (PS.begin s)).1,none)
def tVar (v:VarD):T:=.agg [.con (.string v.name),tn (lm v.count),tSs v.vals,tSs v.prps]
def tPrb (p:PrbD):T:=.agg [.con (.string p.name),tSs p.pars,tEs p.ents,tSs p.prps]
def tFil (f:FilD):T:=.agg [.con (.string f.name),tSs f.prps,.sl (f.vars.map tVar),.sl (f.prbs.map tPrb)]
theorem vVar_flat (v:VarD):(vVar v).flat:=by
 intro u hv
 simp at hv
 rcases hv with rfl|rfl|rfl|rfl<;>trivial
theorem vPrb_flat (v:PrbD):(vPrb v).flat:=by
 intro u hv
 simp at hv
 rcases hv with rfl|rfl|rfl|rfl<;>trivial
theorem vVs_flat (l:List VarD):∀e ∈ l.map vVar,e.flat:=by
 intro e he
 obtain⟨w,-,rfl⟩:=List.mem_map.1 he
 exact vVar_flat w
theorem vPs_flat (l:List PrbD):∀e ∈ l.map vPrb,e.flat:=by
 intro e he
 obtain⟨w,-,rfl⟩:=List.mem_map.1 he
 exact vPrb_flat w
theorem fze_Var {oh:OH}(v:VarD):FzE oh false (vVar v) (tVar v):=by
 refine⟨rfl,fun j x u h1 h2=>?_⟩
 match j with
 |0=>simp [vVar,V.cells] at h1;simp [tVar,T.cells] at h2;subst h1;subst h2;exact .con _
 |1=>simp [vVar,V.cells] at h1;simp [tVar,T.cells] at h2;subst h1;subst h2;exact .ro _ _ fun h=>Bool.noConfusion h
 |2=>simp [vVar,V.cells] at h1;simp [tVar,T.cells] at h2;subst h1;subst h2;exact .ro _ _ fun h=>Bool.noConfusion h
 |3=>simp [vVar,V.cells] at h1;simp [tVar,T.cells] at h2;subst h1;subst h2;exact .ro _ _ fun h=>Bool.noConfusion h
 |j+4=>simp [vVar,V.cells] at h1
theorem fze_Prb {oh:OH}(v:PrbD):FzE oh false (vPrb v) (tPrb v):=by
 refine⟨rfl,fun j x u h1 h2=>?_⟩
 match j with
 |0=>simp [vPrb,V.cells] at h1;simp [tPrb,T.cells] at h2;subst h1;subst h2;exact .con _
 |1=>simp [vPrb,V.cells] at h1;simp [tPrb,T.cells] at h2;subst h1;subst h2;exact .ro _ _ fun h=>Bool.noConfusion h
 |2=>simp [vPrb,V.cells] at h1;simp [tPrb,T.cells] at h2;subst h1;subst h2;exact .ro _ _ fun h=>Bool.noConfusion h
 |3=>simp [vPrb,V.cells] at h1;simp [tPrb,T.cells] at h2;subst h1;subst h2;exact .ro _ _ fun h=>Bool.noConfusion h
 |j+4=>simp [vPrb,V.cells] at h1
theorem fz_agg4 {oh:OH}{f:Bool}{v1 v2 v3 v4:V}{t1 t2 t3 t4:T}(h1:Fz1 oh f v1 t1)(h2:Fz1 oh f v2 t2)(h3:Fz1 oh f v3 t3)(h4:Fz1 oh f v4 t4):FzA oh f (.agg [v1,v2,v3,v4]) (.agg [t1,t2,t3,t4]):=by
 refine⟨rfl,fun j v t hv ht=>?_⟩
 match j with
 |0=>simp at hv ht;subst hv;subst ht;exact h1
 |1=>simp at hv ht;subst hv;subst ht;exact h2
 |2=>simp at hv ht;subst hv;subst ht;exact h3
 |3=>simp at hv ht;subst hv;subst ht;exact h4
 |j+4=>simp at hv
theorem fz_list {α:Type}{oh:OH}{F:α→V}{G:α→T}{l:List α}{id ver len sz:Nat}(ho:oget oh id=some ⟨sz,l.map F,ver,true⟩)(hn:l.length=len)(hFG:∀a,FzE oh false (F a) (G a)):Fz1 oh false (.own id ver 0 len) (.sl (l.map G)):=by
 have:FzA oh false (.own id ver 0 len) (.sl (l.map G)):=fz_own (F:=F) (G:=G) (l:=l) ho rfl rfl hn (by show((l.map F).drop 0).take len=_;rw [List.drop_zero,List.take_of_length_le (by rw [List.length_map];omega)]) (fun a _=>hFG a) rfl
 exact this
theorem by128 {n b m:Nat}(hb:b≤128)(h:n * 128≤m):n * b≤m:=Nat.le_trans (Nat.mul_le_mul_left _ hb) h
abbrev FiZ (W:Txt):=PS W×List VarD×List PrbD×(Nat×Nat)×(Nat×Nat)×Nat
end Go.Ev
