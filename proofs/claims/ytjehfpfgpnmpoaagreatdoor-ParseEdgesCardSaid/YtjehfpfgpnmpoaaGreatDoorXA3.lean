/-
  OWN LAYER 'Ev', PART XA: THE SAME EVALUATION BY COMPUTATION (for closed calls: the kernel runs it).
-/
import Derived.Test.YtjehfpfgpnmpoaaGreatDoorEvA
set_option linter.all false
namespace Go.Ev

inductive Tr (α : Type) where
  | nil
  | node (v : Option α) (l r : Tr α)

noncomputable section
--GETSET
def Tr.get {α : Type} (t : Tr α) : Nat → Option α :=
  Tr.rec (motive := fun _ => Nat → Option α) (fun _ => none) (fun v _ _ l r n => Bool.rec (motive := fun _ => Option α) (Bool.rec (motive := fun _ => Option α) (r (Nat.pred (Nat.div n 2))) (l (Nat.div n 2)) (Nat.beq (Nat.mod n 2) 1)) v (Nat.beq n 0)) t

def Tr.setF {α : Type} (f : Nat) : Tr α → Nat → α → Tr α :=
  Nat.rec (motive := fun _ => Tr α → Nat → α → Tr α) (fun t _ _ => t) (fun _ ih t n x =>
    Tr.rec (motive := fun _ => Tr α)
      (Bool.rec (motive := fun _ => Tr α) (Bool.rec (motive := fun _ => Tr α) (.node none .nil (ih .nil (Nat.pred (Nat.div n 2)) x)) (.node none (ih .nil (Nat.div n 2) x) .nil) (Nat.beq (Nat.mod n 2) 1)) (.node (some x) .nil .nil) (Nat.beq n 0))
      (fun v l r _ _ => Bool.rec (motive := fun _ => Tr α) (Bool.rec (motive := fun _ => Tr α) (.node v l (ih r (Nat.pred (Nat.div n 2)) x)) (.node v (ih l (Nat.div n 2) x) r) (Nat.beq (Nat.mod n 2) 1)) (.node (some x) l r) (Nat.beq n 0)) t) f
def Tr.set {α : Type} (t : Tr α) (n : Nat) (x : α) : Tr α := Tr.setF (Nat.succ n) t n x
--END

/-! ### the run -/
inductive Df where
  | coll (d : Nat)
  | call (f : V) (args : List V)

/-- An activation: what function, in what round. -/
structure Cx where
  n : Nat
  rd : Option Nat

/-- What an operation touched: nothing; these objects (all, written); a call: these were written. -/
inductive Fp where
  | skip
  | op (all wr : List Nat)
  | call (nx : Nat) (wr : List Nat)

inductive Tk where
  | code (cx : Cx) (c : Code)
  | ops (cx : Cx) (ops : Array Oper) (l : List Oper)
  | opsD (cx : Cx) (ops : Array Oper) (l : List Oper) (tr : List (Fp × Nat))
  | call (f : V) (args : List V)
  | out (fn : Func) (df : List Df)
  | callD (f : V) (args : List V)
  | callE (f : V) (args : List V)
  | loopR (cx : Cx) (c : Code)

/-- A state: slots, deferred calls, heap, the next number, what was written. -/
structure Xs where
  env : Tr V
  df : List Df
  h : Tr Obj
  nx : Nat
  lg : List Nat

def xopd (e : Tr V) : Operand → V
  | .tmp t => (match e.get t with | some v => v | none => .undef)
  | .const v => V.ofConst v
  | .global g => .con (.pointer (some ⟨g, 0, none⟩))
  | .func f => .con (.func (.func f) #[] #[])

def putAll : OH → Tr Obj → Tr Obj
  | [], h => h
  | (i, o) :: r, h => Tr.set (putAll r h) i o

def forceN {R : Type} (n : Nat) (K : Nat → R) : R := Nat.casesOn (motive := fun _ => R) n (K 0) (fun m => K (Nat.succ m))
def forceI {R : Type} (i : Int) (K : Int → R) : R :=
  match i with
  | .ofNat n => forceN n fun n => K (.ofNat n)
  | .negSucc n => forceN n fun n => K (.negSucc n)
def forceV {R : Type} (v : V) (K : V → R) : R :=
  match v with
  | .con (.int k n) => forceI n fun n => K (.con (.int k n))
  | .con (.bool b) => (match b with | true => K (.con (.bool true)) | false => K (.con (.bool false)))
  | .con x => K (.con x)
  | .ref a b c d => forceN b fun b => forceN c fun c => forceN d fun d => K (.ref a b c d)
  | .own a b c d => forceN b fun b => forceN c fun c => forceN d fun d => K (.own a b c d)
  | v => K v

def argTr : Nat → List V → Tr V → Tr V
  | _, [], t => t
  | i, v :: r, t => argTr (i + 1) r (Tr.set t i v)

abbrev Kt := X → V → Xs → Bool
abbrev Rec := Tk → Xs → Kt → Bool

def putX (d : Option Tmp) (v : V) (s : Xs) (K : Xs → Bool) : Bool :=
  match d with
  | some t => forceV v fun v => K { s with env := Tr.set s.env t v }
  | none => K s

def nxAfter : OH → Nat → Nat
  | [], n => n
  | p :: r, n => nxAfter r (bif Nat.ble n p.1 then Nat.succ p.1 else n)

def applyA (a : Acc) (d : Option Tmp) (s : Xs) (K : Xs → Bool) : Bool :=
  match a.post with
  | [] => putX d a.v s K
  | post => forceN (nxAfter post s.nx) fun nx => putX d a.v { s with h := putAll post s.h, nx := nx, lg := post.map (·.1) ++ s.lg } K

def xwant (ops : Array Oper) (o : Oper) (e : Tr V) : Option Bool :=
  match o.guard with
  | none => some true
  | some (j, w) => (match (ops[j]?).bind (·.dst) with
     | some d => (match e.get d with | some (.con (.bool b)) => some (beqB b w) | some (.tup []) => some false | _ => none)
     | none => none)

def xthen (rec : Rec) (cx : Cx) (ops : Array Oper) (r : List Oper) (d : Option Tmp) (K : Kt) (a : Option Acc) (s : Xs) : Bool :=
  match a with
  | some a => applyA a d s fun s => rec (.ops cx ops r) s K
  | none => false
def xback (rec : Rec) (cx : Cx) (ops : Array Oper) (r : List Oper) (d : Option Tmp) (K : Kt) (s : Xs) : Kt :=
  fun _ v s' => putX d v { s' with env := s.env, df := s.df } fun s' => rec (.ops cx ops r) s' K
def xopCall (rec : Rec) (tb : Tb) (cx : Cx) (ops : Array Oper) (r : List Oper) (d : Option Tmp) (c : Call) (s : Xs) (K : Kt) : Bool :=
  match c.callee with
  | .value f => rec (.call (xopd s.env f) (c.args.toList.map (xopd s.env))) s (xback rec cx ops r d K s)
  | .invoke x m => (match xopd s.env x with
    | .ifc t v => (match tb.meth t m with
      | some f => rec (.call (.con (.func (.func f) #[] #[])) (v :: c.args.toList.map (xopd s.env))) s (xback rec cx ops r d K s)
      | none => false)
    | _ => false)
  | .builtin b => xthen rec cx ops r d K (xbuiltin tb b (c.args.toList.map (xopd s.env)) c.argTypes.toList s.h.get s.nx) s
def xopDefer (rec : Rec) (cx : Cx) (ops : Array Oper) (r : List Oper) (d : Option Tmp) (c : Call) (s : Xs) (K : Kt) : Bool :=
  match c.callee, cx.rd with
  | .value f, none => (match xopd s.env f with
    | .clo _ _ _ => putX d .undef { s with df := .call (xopd s.env f) (c.args.toList.map (xopd s.env)) :: s.df } fun s => rec (.ops cx ops r) s K
    | _ => false)
  | _, _ => false
def xop1 (rec : Rec) (tb : Tb) (cx : Cx) (ops : Array Oper) (r : List Oper) (d : Option Tmp) (op : Op) (ty : TypeId) (s : Xs) (K : Kt) : Bool :=
  match op with
  | .call c => xopCall rec tb cx ops r d c s K
  | .defer c => xopDefer rec cx ops r d c s K
  | op => xthen rec cx ops r d K (xstep tb op ty (xopd s.env) s.h.get s.nx) s
def xops (rec : Rec) (tb : Tb) (cx : Cx) (ops : Array Oper) (l : List Oper) (s : Xs) (K : Kt) : Bool :=
  match l with
  | [] => K .normal .undef s
  | o :: r =>
    (match xwant ops o s.env with
     | some true => xop1 rec tb cx ops r o.dst o.op o.type s K
     | some false => putX o.dst (.tup []) s fun s => rec (.ops cx ops r) s K
     | none => false)

def idsOf (p : OH) : List Nat := p.map (·.1)
def disjL : List Nat → List Nat → Bool
  | [], _ => true
  | a :: r, m => bif m.any (fun b => Nat.beq a b) then false else disjL r m
/-- those that stand ahead by chains of edges, as bits -/
def ancAt (tr : List (Fp × Nat)) (j on : Nat) : Nat := match tr[j - 1 - on]? with | some p => p.2 | none => 0
def ancOf (tr : List (Fp × Nat)) (j : Nat) : List Edge → Nat
  | [] => 0
  | e :: r => bif Region.binds .any e && Nat.blt e.on j then Nat.lor (Nat.lor (Nat.pow 2 e.on) (ancAt tr j e.on)) (ancOf tr j r) else ancOf tr j r
def Fp.quiet : Fp → Bool
  | .skip => true
  | .op _ wr => wr.isEmpty
  | .call _ _ => false
def allGe (n : Nat) : List Nat → Bool
  | [] => true
  | a :: r => bif Nat.ble n a then allGe n r else false
def indepF : Fp → Fp → Bool
  | .skip, _ => true
  | _, .skip => true
  | .op a w, .op b x => disjL w b && disjL x a
  | .op a w, .call _ x => w.isEmpty && disjL x a
  | .call n x, .op a w => allGe n w && disjL x a
  | .call _ _, .call _ _ => false
/-- the last one against those ahead of it, latest first -/
def commO (anc : Nat) (y : Fp) : List (Fp × Nat) → Nat → Bool
  | [], _ => true
  | x :: r, j => bif (x.1.quiet && y.quiet) || indepF x.1 y || Nat.testBit anc (j - 1) then commO anc y r (j - 1) else false

def allQuiet (tr : List (Fp × Nat)) : Bool := List.rec (motive := fun _ => Bool) true (fun p _ ih => Fp.rec (motive := fun _ => Bool) ih (fun _ wr => List.rec (motive := fun _ => Bool) ih (fun _ _ _ => false) wr) (fun _ _ => false) p.1) tr
def nextA (rec : Rec) (cx : Cx) (ops : Array Oper) (r : List Oper) (tr : List (Fp × Nat)) (f : Fp) (K : Kt) (s : Xs) (anc : Nat) : Bool :=
  bif commO anc f tr tr.length then rec (.opsD cx ops r ((f, anc) :: tr)) s K else false
def nextD (rec : Rec) (cx : Cx) (ops : Array Oper) (o : Oper) (r : List Oper) (tr : List (Fp × Nat)) (f : Fp) (K : Kt) (s : Xs) : Bool :=
  Bool.rec (motive := fun _ => Bool) (nextA rec cx ops r tr f K s (ancOf tr tr.length o.after.toList)) (rec (.opsD cx ops r ((f, ancOf tr tr.length o.after.toList) :: tr)) s K) (allQuiet ((f, 0) :: tr))
def thenD (rec : Rec) (cx : Cx) (ops : Array Oper) (o : Oper) (r : List Oper) (tr : List (Fp × Nat)) (K : Kt) (a : Option Acc) (s : Xs) : Bool :=
  match a with
  | some a => applyA a o.dst s (nextD rec cx ops o r tr (.op (idsOf a.pre ++ a.nw ++ idsOf a.post) (a.nw ++ idsOf a.post)) K)
  | none => false
def backD (rec : Rec) (cx : Cx) (ops : Array Oper) (o : Oper) (r : List Oper) (tr : List (Fp × Nat)) (K : Kt) (s : Xs) : Kt :=
  fun _ v s' => putX o.dst v { s' with env := s.env, df := s.df, lg := s'.lg ++ s.lg } (nextD rec cx ops o r tr (.call s.nx s'.lg) K)
def callD (rec : Rec) (tb : Tb) (cx : Cx) (ops : Array Oper) (o : Oper) (r : List Oper) (tr : List (Fp × Nat)) (c : Call) (s : Xs) (K : Kt) : Bool :=
  match c.callee with
  | .value f => rec (.call (xopd s.env f) (c.args.toList.map (xopd s.env))) { s with lg := [] } (backD rec cx ops o r tr K s)
  | .invoke x m => (match xopd s.env x with
    | .ifc t v => (match tb.meth t m with
      | some f => rec (.call (.con (.func (.func f) #[] #[])) (v :: c.args.toList.map (xopd s.env))) { s with lg := [] } (backD rec cx ops o r tr K s)
      | none => false)
    | _ => false)
  | .builtin b => thenD rec cx ops o r tr K (xbuiltin tb b (c.args.toList.map (xopd s.env)) c.argTypes.toList s.h.get s.nx) s
def opD (rec : Rec) (tb : Tb) (cx : Cx) (ops : Array Oper) (o : Oper) (r : List Oper) (tr : List (Fp × Nat)) (op : Op) (s : Xs) (K : Kt) : Bool :=
  match op with
  | .call c => callD rec tb cx ops o r tr c s K
  | .defer _ => false
  | op => thenD rec cx ops o r tr K (xstep tb op o.type (xopd s.env) s.h.get s.nx) s
def xopsD (rec : Rec) (tb : Tb) (cx : Cx) (ops : Array Oper) (l : List Oper) (tr : List (Fp × Nat)) (s : Xs) (K : Kt) : Bool :=
  match l with
  | [] => K .normal .undef s
  | o :: r =>
    (match xwant ops o s.env with
     | some true => opD rec tb cx ops o r tr o.op s K
     | some false => putX o.dst (.tup []) s (nextD rec cx ops o r tr .skip K)
     | none => false)

def notTup : V → Bool
  | .tup _ => false
  | _ => true
def xres (tb : Tb) (h : Tr Obj) (e : Tr V) : List ResultVar → Option (List V)
  | [] => some []
  | .tmp t :: r => (match e.get t, xres tb h e r with | some v, some l => bif notTup v then some (v :: l) else none | _, _ => none)
  | .cell a t :: r => (match e.get a with
     | some p => (match xload (tb.tk t) h.get p, xres tb h e r with | some acc, some l => bif notTup acc.v then some (acc.v :: l) else none | _, _ => none)
     | none => none)

def tupV : List V → V
  | [x] => x
  | l => .tup l

def getLoop (h : Tr Obj) (l : Nat) : Option (Obj × LoopState × Option Code × Array Tmp × Code × Code) :=
  match h.get l with
  | some o => (match o.live with | true => bif Nat.beq o.ver 0 then (match o.k with | .loop st p ps a b => some (o, st, p, ps, a, b) | _ => none) else none | false => none)
  | none => none

def getDfr (h : Tr Obj) (d : Nat) : Option Obj :=
  match h.get d with
  | some o => (match o.live with | true => bif Nat.beq o.ver 0 then (match o.k with | .dfr false => some o | _ => none) else none | false => none)
  | none => none

def setObj (s : Xs) (i : Nat) (o : Obj) : Xs := { s with h := Tr.set s.h i o, lg := i :: s.lg }

def zipSet : List Nat → List V → Tr V → Tr V
  | p :: ps, v :: vs, t => zipSet ps vs (Tr.set t p v)
  | _, _, t => t

def envList (t : Tr V) : Nat → Nat → List V
  | 0, _ => []
  | n + 1, i => (match t.get i with | some v => v | none => .undef) :: envList t n (i + 1)

def xcond (rec : Rec) (cx : Cx) (c : V) (a b : Code) (s : Xs) (K : Kt) : Bool :=
  match c with
  | .con (.bool t) => (match t with | true => rec (.code cx a) s K | false => rec (.code cx b) s K)
  | _ => false
def xseq (rec : Rec) (cx : Cx) (b : Code) (K : Kt) : Kt := fun x v s => match x with | .normal => rec (.code cx b) s K | .ret => K .ret v s | .exit i => K (.exit i) v s
def xagain (rec : Rec) (cx : Cx) (c : Code) (K : Kt) : Kt := fun x v s => match x with | .normal => rec (.loopR cx c) s K | .ret => K .ret v s | .exit i => K (.exit i) v s
def xblock (id : Nat) (K : Kt) : Kt := fun x v s => match x with | .exit j => bif Nat.beq j id then K .normal v s else K (.exit j) v s | .normal => K .normal v s | .ret => K .ret v s

def xrfEnd (l : Nat) (env : Tr V) (df : List Df) (K : Kt) : Kt := fun _ _ s2 =>
  match getLoop s2.h l with
  | some (o, st, p, ps', a', b') =>
    (match st with
     | .busy => false
     | _ =>
       let s3 := setObj { s2 with env := env, df := df } l { o with k := .loop .exhausted p ps' a' b' }
       (match p with
        | none => K .normal .undef s3
        | some .ret => K .ret .undef s3
        | some (.exit i) => K (.exit i) .undef s3
        | some _ => false))
  | none => false
def xrfGo (rec : Rec) (cx : Cx) (f : V) (ps : Array Tmp) (asg body : Code) (dref : V) (s : Xs) (K : Kt) : Bool :=
  forceN (Nat.succ s.nx) fun nx =>
    rec (.callE f [.yld s.nx])
      { s with h := Tr.set s.h s.nx ⟨0, dref :: envList s.env cx.n 0, 0, true, .loop .ready none ps asg body⟩, nx := nx, lg := s.nx :: s.lg }
      (xrfEnd s.nx s.env s.df K)
def xrf (rec : Rec) (cx : Cx) (f : V) (ps : Array Tmp) (asg body : Code) (s : Xs) (K : Kt) : Bool :=
  match cx.rd with
  | none =>
    forceN (Nat.succ s.nx) fun nx =>
      xrfGo rec cx f ps asg body (.ref s.nx 0 0 0) { s with df := .coll s.nx :: s.df, h := Tr.set s.h s.nx ⟨0, [], 0, true, .dfr false⟩, nx := nx, lg := s.nx :: s.lg } K
  | some l0 =>
    (match getLoop s.h l0 with
     | some (o, _) => (match o.el with | dref :: _ => xrfGo rec cx f ps asg body dref s K | [] => false)
     | none => false)
def xcode (tb : Tb) (rec : Rec) (cx : Cx) (c : Code) (s : Xs) (K : Kt) : Bool :=
  match c with
  | .skip => K .normal .undef s
  | .label _ => K .normal .undef s
  | .ret => K .ret .undef s
  | .exit id => K (.exit id) .undef s
  | .seq a b => rec (.code cx a) s (xseq rec cx b K)
  | .cond c a b => xcond rec cx (xopd s.env c) a b s K
  | .block id c => rec (.code cx c) s (xblock id K)
  | .loop c => rec (.loopR cx c) s K
  | .scope c => rec (.code cx c) s K
  | .region _ ops dr => (match dr with | false => rec (.ops cx ops ops.toList) s K | true => rec (.opsD cx ops ops.toList []) s K)
  | .rangeFunc f ps asg body => xrf rec cx (xopd s.env f) ps asg body s K
  | _ => false
def xout (tb : Tb) (rec : Rec) (fn : Func) (df : List Df) (s : Xs) (K : Kt) : Bool :=
  match df with
  | [] => (match xres tb s.h s.env fn.results.toList with | some l => K .normal (tupV l) s | none => false)
  | .coll d :: r => (match getDfr s.h d with
    | some o => rec (.out fn r) (setObj s d { o with k := .dfr true }) K
    | none => false)
  | .call f args :: r => rec (.callD f args) s fun _ _ s' => rec (.out fn r) { s' with env := s.env, df := s.df } K
def xleave (rec : Rec) (fn : Func) (K : Kt) : Kt := fun x _ s' => match x with | .exit _ => false | .normal => rec (.out fn s'.df) s' K | .ret => rec (.out fn s'.df) s' K
def xbodyF (rec : Rec) (fn : Func) (vs : List V) (s : Xs) (K : Kt) : Bool :=
  match fn.body with
  | some c => bif Nat.ble vs.length fn.ntmps then rec (.code ⟨fn.ntmps, none⟩ c) { s with env := argTr 0 vs .nil, df := [] } (xleave rec fn K) else false
  | none => false
def xenter (tb : Tb) (rec : Rec) (q : FuncId) (vs : List V) (s : Xs) (K : Kt) : Bool :=
  match tb.fn q with
  | some fn => xbodyF rec fn vs s K
  | none => false
def xcallF (tb : Tb) (rec : Rec) (q : FuncId) (vs : List V) (s : Xs) (K : Kt) : Bool :=
  match tb.lib q vs s.h.get with
  | some a => bif allGe s.nx a.nw then applyA a none s fun s => forceV a.v fun v => K .normal v s else false
  | none => xenter tb rec q vs s K
def xcallE (tb : Tb) (rec : Rec) (f : V) (args : List V) (s : Xs) (K : Kt) : Bool :=
  match f.callee with
  | some (.func q, first, cap) => xenter tb rec q (first ++ args ++ cap) s K
  | _ => false
def xroundEnd (l : Nat) (K : Kt) : Kt := fun x _ s2 =>
  match getLoop s2.h l with
  | some (o2, _, _, ps2, a2, b2) =>
    (match x with
     | .normal => K .normal (.con (.bool true)) (setObj s2 l { o2 with k := .loop .ready none ps2 a2 b2 })
     | .ret => K .normal (.con (.bool false)) (setObj s2 l { o2 with k := .loop .done (some .ret) ps2 a2 b2 })
     | .exit id => K .normal (.con (.bool false)) (setObj s2 l { o2 with k := .loop .done (some (.exit id)) ps2 a2 b2 }))
  | none => false
def xroundMid (rec : Rec) (cx : Cx) (l : Nat) (b : Code) (K : Kt) : Kt := fun x _ s1 =>
  match x with
  | .normal =>
    (match getLoop s1.h l with
     | some (o1, .ready, p1, ps1, a1, b1) => rec (.code cx b) (setObj s1 l { o1 with k := .loop .busy p1 ps1 a1 b1 }) (xroundEnd l K)
     | _ => false)
  | _ => false
def xround (rec : Rec) (l : Nat) (args : List V) (s : Xs) (K : Kt) : Bool :=
  match getLoop s.h l with
  | some (o, _, _, ps, a, b) =>
    bif Nat.beq ps.size args.length then
      rec (.code ⟨o.el.tail.length, some l⟩ a) { s with env := zipSet ps.toList args (argTr 0 o.el.tail .nil), df := [] } (xroundMid rec ⟨o.el.tail.length, some l⟩ l b K)
    else false
  | none => false
def xcallM (tb : Tb) (rec : Rec) (m : String) (args : List V) (s : Xs) (K : Kt) : Bool :=
  match args with
  | .ifc t v :: r => (match tb.meth t m with | some f => rec (.call (.con (.func (.func f) #[] #[])) (v :: r)) s K | none => false)
  | _ => false
def xcall (tb : Tb) (rec : Rec) (f : V) (args : List V) (s : Xs) (K : Kt) : Bool :=
  match f with
  | .yld l => xround rec l args s K
  | f => match f.callee with
  | some (.func q, first, cap) => xcallF tb rec q (first ++ args ++ cap) s K
  | some (.method m, first, _) => xcallM tb rec m (first ++ args) s K
  | _ => false
def xleaveD (tb : Tb) (fn : Func) (K : Kt) : Kt := fun x _ s' =>
  match x with
  | .exit _ => false
  | _ => (match s'.df with
    | [] => (match xres tb s'.h s'.env fn.results.toList with | some l => K .normal (tupV l) s' | none => false)
    | _ => false)
def xbodyD (tb : Tb) (rec : Rec) (fn : Func) (vs : List V) (s : Xs) (K : Kt) : Bool :=
  match fn.body with
  | some c => bif Nat.ble vs.length fn.ntmps then rec (.code ⟨fn.ntmps, none⟩ c) { s with env := argTr 0 vs .nil, df := [] } (xleaveD tb fn K) else false
  | none => false
def xcallDF (tb : Tb) (rec : Rec) (q : FuncId) (vs : List V) (s : Xs) (K : Kt) : Bool :=
  match tb.fn q with
  | some fn => xbodyD tb rec fn vs s K
  | none => false
def xcallD (tb : Tb) (rec : Rec) (f : V) (args : List V) (s : Xs) (K : Kt) : Bool :=
  match f.callee with
  | some (.func q, first, cap) => xcallDF tb rec q (first ++ args ++ cap) s K
  | _ => false
def xbody (tb : Tb) (rec : Rec) (t : Tk) (s : Xs) (K : Kt) : Bool :=
  match t with
  | .ops cx ops l => xops rec tb cx ops l s K
  | .opsD cx ops l tr => xopsD rec tb cx ops l tr s K
  | .code cx c => xcode tb rec cx c s K
  | .out fn df => xout tb rec fn df s K
  | .call f args => xcall tb rec f args s K
  | .callD f args => xcallD tb rec f args s K
  | .callE f args => xcallE tb rec f args s K
  | .loopR cx c => rec (.code cx c) s (xagain rec cx c K)

def xrun (tb : Tb) (n : Nat) : Rec := Nat.rec (fun _ _ _ => false) (fun _ ih => xbody tb ih) n

def xtop (tb : Tb) (fuel : Nat) (q : FuncId) : Bool :=
  xrun tb fuel (.call (.con (.func (.func q) #[] #[])) []) ⟨.nil, [], .nil, 0, []⟩ fun _ v _ => match v with | .con (.bool b) => b | _ => false

end
end Go.Ev
