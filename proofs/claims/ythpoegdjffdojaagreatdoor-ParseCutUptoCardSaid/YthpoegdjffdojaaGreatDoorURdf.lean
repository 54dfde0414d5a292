import Derived.Test.YthpoegdjffdojaaGreatDoorULaj
set_option linter.all false
set_option maxHeartbeats 40000000
set_option maxRecDepth 10000
namespace Go.Ev
open Go.Proofs
open PS (cE eZ dW eY iS)
def PS.begin (s:ByteArray):PS (fQ s):=⟨0,none,0,fun h=>by
 obtain⟨l,t,e,-⟩:=(fQ s).SK h
 rw [e,List.length_append];exact Q9 _,fun _ h=>by cases h⟩
def mw (dec:ByteArray->Int×Nat)(s:ByteArray):iS×Option dy:=
 match(PS.Ec dec cg (PS.begin s)).2.bad with
 |some f=>(⟨eS,[],[],[]⟩,some f)
 |none=>((PS.Ec dec cg (PS.begin s)).1,none)
def qg (v:dW):T:=.agg [.af (.string v.name),tn (lm v.count),jO v.dL,jO v.aN]
def qi (p:eY):T:=.agg [.af (.string p.name),jO p.cX,NF p.bg,jO p.aN]
def tC (f:iS):T:=.agg [.af (.string f.name),jO f.aN,.sl (f.vars.map qg),.sl (f.bG.map qi)]
theorem pY (v:dW):(sZ v).flat:=by
 intro u hv;simp at hv;rcases hv with rfl|rfl|rfl|rfl<;>trivial
theorem qe (v:eY):(WB v).flat:=by
 intro u hv;simp at hv;rcases hv with rfl|rfl|rfl|rfl<;>trivial
theorem Jn (l:List dW):∀e ∈ l.map sZ,e.flat:=by
 intro e he;obtain⟨w,-,rfl⟩:=D4.1 he;exact pY w
theorem Jo (l:List eY):∀e ∈ l.map WB,e.flat:=by
 intro e he;obtain⟨w,-,rfl⟩:=D4.1 he;exact qe w
theorem Pz {oh:OH}(v:dW):Rg oh false (sZ v) (qg v):=by
 refine⟨rfl,fun j x u h1 h2=>?_⟩
 match j with
 |0=>simp [sZ,V.cells] at h1;simp [qg,T.cells] at h2;subst h1;subst h2;exact .af _
 |1=>simp [sZ,V.cells] at h1;simp [qg,T.cells] at h2;subst h1;subst h2;exact .ro _ _ fun h=>Bool.noConfusion h
 |2=>simp [sZ,V.cells] at h1;simp [qg,T.cells] at h2;subst h1;subst h2;exact .ro _ _ fun h=>Bool.noConfusion h
 |3=>simp [sZ,V.cells] at h1;simp [qg,T.cells] at h2;subst h1;subst h2;exact .ro _ _ fun h=>Bool.noConfusion h
 |j+4=>simp [sZ,V.cells] at h1
theorem PA {oh:OH}(v:eY):Rg oh false (WB v) (qi v):=by
 refine⟨rfl,fun j x u h1 h2=>?_⟩
 match j with
 |0=>simp [WB,V.cells] at h1;simp [qi,T.cells] at h2;subst h1;subst h2;exact .af _
 |1=>simp [WB,V.cells] at h1;simp [qi,T.cells] at h2;subst h1;subst h2;exact .ro _ _ fun h=>Bool.noConfusion h
 |2=>simp [WB,V.cells] at h1;simp [qi,T.cells] at h2;subst h1;subst h2;exact .ro _ _ fun h=>Bool.noConfusion h
 |3=>simp [WB,V.cells] at h1;simp [qi,T.cells] at h2;subst h1;subst h2;exact .ro _ _ fun h=>Bool.noConfusion h
 |j+4=>simp [WB,V.cells] at h1
theorem yX {oh:OH}{f:Bool}{v1 v2 v3 v4:V}{t1 t2 t3 t4:T}(h1:jF oh f v1 t1)(h2:jF oh f v2 t2)(h3:jF oh f v3 t3)(h4:jF oh f v4 t4):gM oh f (.agg [v1,v2,v3,v4]) (.agg [t1,t2,t3,t4]):=by
 refine⟨rfl,fun j v t hv ht=>?_⟩
 match j with
 |0=>simp at hv ht;subst hv;subst ht;exact h1
 |1=>simp at hv ht;subst hv;subst ht;exact h2
 |2=>simp at hv ht;subst hv;subst ht;exact h3
 |3=>simp at hv ht;subst hv;subst ht;exact h4
 |j+4=>simp at hv
theorem FZ {α:Type}{oh:OH}{F:α->V}{G:α->T}{l:List α}{id ver len sz:Nat}(ho:ae oh id=some ⟨sz,l.map F,ver,true⟩)(hn:l.length=len)(hFG:∀a,Rg oh false (F a) (G a)):jF oh false (.own id ver 0 len) (.sl (l.map G)):=by
 have:gM oh false (.own id ver 0 len) (.sl (l.map G)):=gW (F:=F) (G:=G) (l:=l) ho rfl rfl hn (by show((l.map F).drop 0).take len=_;rw [F4,B7 (by rw [List.length_map];omega)]) (fun a _=>hFG a) rfl;exact this
theorem QV {n b m:Nat}(hb:b<=128)(h:n * 128<=m):n * b<=m:=G6 (H7 _ hb) h
abbrev Xo (W:fA):=PS W×List dW×List eY×(Nat×Nat)×(Nat×Nat)×Nat
end Go.Ev
