import Derived.Test.YtekgeekghclfaaaGreatWhole
set_option linter.all false
namespace Go.Ev
open Go.Proofs
set_option maxRecDepth 10000
set_option maxHeartbeats 4000000
set_option linter.unusedSimpArgs false
set_option linter.unusedVariables false
def allEq {α : Type} (f : α → α → Bool) : List α → List α → Bool
  | [], [] => true
  | x :: r, y :: s => f x y && allEq f r s
  | _, _ => false
theorem allEq_len {α : Type} {f : α → α → Bool} : ∀ {a b : List α}, a.length ≠ b.length → allEq f a b = false
  | [], [], h => absurd rfl h
  | [], _ :: _, _ => rfl
  | _ :: _, [], _ => rfl
  | x :: r, y :: s, h => by
    simp only [allEq]
    rw [allEq_len (by simpa using h), Bool.and_false]
theorem allEq_step {α : Type} [Inhabited α] {f : α → α → Bool} {a b : List α} {i : Nat} (hl : a.length = b.length) (hi : i < a.length) :
    allEq f (a.drop i) (b.drop i) = (f (a.getD i default) (b.getD i default) && allEq f (a.drop (i + 1)) (b.drop (i + 1))) := by
  have hi' : i < b.length := by omega
  rw [List.drop_eq_getElem_cons hi, List.drop_eq_getElem_cons hi']
  simp [allEq, List.getD, hi, hi']
theorem allEq_end {α : Type} {f : α → α → Bool} {a b : List α} {i : Nat} (hl : a.length = b.length) (hi : a.length ≤ i) : allEq f (a.drop i) (b.drop i) = true := by
  rw [List.drop_eq_nil_of_le hi, List.drop_eq_nil_of_le (by omega)]; rfl
theorem allEq_refl {α : Type} {f : α → α → Bool} : ∀ (a : List α), (∀ x ∈ a, f x x = true) → allEq f a a = true
  | [], _ => rfl
  | x :: r, h => by simp only [allEq]; rw [h x (by simp), allEq_refl r fun y hy => h y (by simp [hy])]; rfl
theorem getD_mem {α : Type} [Inhabited α] {l : List α} {i : Nat} (h : i < l.length) : l.getD i default ∈ l := by
  rw [List.getD, List.getElem?_eq_getElem h]; simp
def tS (s : ByteArray) : T := .con (.string s)
def tSL (l : List ByteArray) : T := .sl (l.map tS)
def tSLL (l : List (List ByteArray)) : T := .sl (l.map tSL)
def tI64 (n : Int) : T := .con (.int .i64 n)
def tIL (l : List Int) : T := .sl (l.map tI64)
def tILL (l : List (List Int)) : T := .sl (l.map tIL)
structure Rt where
  neg : Bool
  mag : List UInt32
  den : List UInt32
instance : Inhabited Rt := ⟨⟨false, [], []⟩⟩
def tRt (r : Rt) : T := tR r.neg r.mag r.den
def tRL (l : List Rt) : T := .sl (l.map tRt)
def tRLL (l : List (List Rt)) : T := .sl (l.map tRL)
def strEq (a b : ByteArray) : Bool := a.toList == b.toList
def intEq (a b : Int) : Bool := a == b
def ratEq (a b : Rt) : Bool := signZ (iv a.neg a.mag * denv b.den - iv b.neg b.mag * denv a.den) == 0
def RtOK (a : Rt) : Prop := a.mag.length ≤ 137438953472 ∧ a.den.length ≤ 137438953472
theorem rEqS_ok (a b : List ByteArray) (ha : a.length ≤ 4611686018427387904) (hb : b.length ≤ 4611686018427387904) : Ok Tryz.prog 52 [tSL a, tSL b] true (.con (.bool (allEq strEq a b))) := by
  refine ok_of_ev (fun _ _ _ h => h) mix Tryz.func52 rfl rfl (by kernel_rfl) (Nat.le_of_ble_eq_true rfl) ?_
  repeat' (first|(with_reducible first|refine zA ?_|refine zB ?_|refine zC ?_|refine zD ?_|refine zE ?_|refine zF ?_|refine zG ?_|refine zH ?_|refine zI ?_|refine zJ ?_|refine zK ?_|refine zL ?_)|(with_reducible refine reg_i ?_;intro K hK)|(with_reducible refine drw_i ?_;intro K hK)|((with_reducible refine cond_t ?hc ?_);(case hc=>rfl))|((with_reducible refine cond_f ?hc ?_);(case hc=>rfl))|((with_reducible refine cond_m ?_);refine And.intro ?_ ?_;all_goals(intro hb;(try simp only [sb] at hb);try exact ex0))|(refine hK _ ?_;clear hK K)|(refine hK _ _ rfl ?_;clear hK K)|(have hg:=hK;clear hg;first|(refine And.intro ?zz ?_;case zz=>first|exact rfl|exact zO rfl|omega|exact gI)|(refine fresh_n ?_)|(refine freshO_n ?_)|(refine at_Q ?_;intro hu)|(refine zP wA ?_)|(refine mul_Q ?_;intro hm1 hm2)|(refine zP at_M ?_)|(refine zP rfl ?_)|(refine And.intro ?_ ?_;all_goals(intro hb;(try simp only [sb] at hb);try exact ex0))|(intro b0 hb)))
  · exact And.intro trivial (fz_con (by rw [allEq_len (by omega)]))
  have hl : a.length = b.length := by omega
  refine loop_i Nat (fun i => ⟨Tryz.f52.ntmps, [(0, .ro false (tSL a)), (1, .ro false (tSL b)), (5, .con (.int .i64 i))], []⟩) (fun i => i ≤ a.length ∧ allEq strEq a b = allEq strEq (a.drop i) (b.drop i)) (fun i => a.length - i) [] 0 trivial ⟨Nat.zero_le _, rfl⟩ ⟨rfl, ⟨rfl, trivial, rfl, trivial, rfl, trivial, trivial⟩, trivial, trivial⟩ ?_
  
  rintro i ⟨h0, h1⟩
  repeat' (first|(with_reducible first|refine zA ?_|refine zB ?_|refine zC ?_|refine zD ?_|refine zE ?_|refine zF ?_|refine zG ?_|refine zH ?_|refine zI ?_|refine zJ ?_|refine zK ?_|refine zL ?_)|(with_reducible refine reg_i ?_;intro K hK)|(with_reducible refine drw_i ?_;intro K hK)|((with_reducible refine cond_t ?hc ?_);(case hc=>rfl))|((with_reducible refine cond_f ?hc ?_);(case hc=>rfl))|((with_reducible refine cond_m ?_);refine And.intro ?_ ?_;all_goals(intro hb;(try simp only [sb] at hb);try exact ex0))|(refine hK _ ?_;clear hK K)|(refine hK _ _ rfl ?_;clear hK K)|(have hg:=hK;clear hg;first|(refine And.intro ?zz ?_;case zz=>first|exact rfl|exact zO rfl|omega|exact gI)|(refine fresh_n ?_)|(refine freshO_n ?_)|(refine at_Q ?_;intro hu)|(refine zP wA ?_)|(refine mul_Q ?_;intro hm1 hm2)|(refine zP at_M ?_)|(refine zP rfl ?_)|(refine And.intro ?_ ?_;all_goals(intro hb;(try simp only [sb] at hb);try exact ex0))|(intro b0 hb)))
  · refine And.intro trivial (fz_con ?_)
    rw [h1, allEq_step hl (by omega)]
    have : strEq (a.getD i default) (b.getD i default) = false := by simpa [strEq] using hb
    rw [this]; rfl
  · refine ⟨i + 1, ⟨by omega, ?_⟩, by omega, rfl, ⟨rfl, trivial, rfl, trivial, rfl, trivial, trivial⟩, trivial, trivial⟩
    rw [h1, allEq_step hl (by omega)]
    have : strEq (a.getD i default) (b.getD i default) = true := by simpa [strEq] using hb
    rw [this]; rfl
  · refine And.intro trivial (fz_con ?_)
    rw [h1, allEq_end hl (by omega)]
theorem rEqI_ok (a b : List Int) (ha : a.length ≤ 4611686018427387904) (hb : b.length ≤ 4611686018427387904) : Ok Tryz.prog 10 [tIL a, tIL b] true (.con (.bool (allEq intEq a b))) := by
  refine ok_of_ev (fun _ _ _ h => h) mix Tryz.func10 rfl rfl (by kernel_rfl) (Nat.le_of_ble_eq_true rfl) ?_
  repeat' (first|(with_reducible first|refine zA ?_|refine zB ?_|refine zC ?_|refine zD ?_|refine zE ?_|refine zF ?_|refine zG ?_|refine zH ?_|refine zI ?_|refine zJ ?_|refine zK ?_|refine zL ?_)|(with_reducible refine reg_i ?_;intro K hK)|(with_reducible refine drw_i ?_;intro K hK)|((with_reducible refine cond_t ?hc ?_);(case hc=>rfl))|((with_reducible refine cond_f ?hc ?_);(case hc=>rfl))|((with_reducible refine cond_m ?_);refine And.intro ?_ ?_;all_goals(intro hb;(try simp only [sb] at hb);try exact ex0))|(refine hK _ ?_;clear hK K)|(refine hK _ _ rfl ?_;clear hK K)|(have hg:=hK;clear hg;first|(refine And.intro ?zz ?_;case zz=>first|exact rfl|exact zO rfl|omega|exact gI)|(refine fresh_n ?_)|(refine freshO_n ?_)|(refine at_Q ?_;intro hu)|(refine zP wA ?_)|(refine mul_Q ?_;intro hm1 hm2)|(refine zP at_M ?_)|(refine zP rfl ?_)|(refine And.intro ?_ ?_;all_goals(intro hb;(try simp only [sb] at hb);try exact ex0))|(intro b0 hb)))
  · exact And.intro trivial (fz_con (by rw [allEq_len (by omega)]))
  have hl : a.length = b.length := by omega
  refine loop_i Nat (fun i => ⟨Tryz.f10.ntmps, [(0, .ro false (tIL a)), (1, .ro false (tIL b)), (5, .con (.int .i64 i))], []⟩) (fun i => i ≤ a.length ∧ allEq intEq a b = allEq intEq (a.drop i) (b.drop i)) (fun i => a.length - i) [] 0 trivial ⟨Nat.zero_le _, rfl⟩ ⟨rfl, ⟨rfl, trivial, rfl, trivial, rfl, trivial, trivial⟩, trivial, trivial⟩ ?_
  
  rintro i ⟨h0, h1⟩
  repeat' (first|(with_reducible first|refine zA ?_|refine zB ?_|refine zC ?_|refine zD ?_|refine zE ?_|refine zF ?_|refine zG ?_|refine zH ?_|refine zI ?_|refine zJ ?_|refine zK ?_|refine zL ?_)|(with_reducible refine reg_i ?_;intro K hK)|(with_reducible refine drw_i ?_;intro K hK)|((with_reducible refine cond_t ?hc ?_);(case hc=>rfl))|((with_reducible refine cond_f ?hc ?_);(case hc=>rfl))|((with_reducible refine cond_m ?_);refine And.intro ?_ ?_;all_goals(intro hb;(try simp only [sb] at hb);try exact ex0))|(refine hK _ ?_;clear hK K)|(refine hK _ _ rfl ?_;clear hK K)|(have hg:=hK;clear hg;first|(refine And.intro ?zz ?_;case zz=>first|exact rfl|exact zO rfl|omega|exact gI)|(refine fresh_n ?_)|(refine freshO_n ?_)|(refine at_Q ?_;intro hu)|(refine zP wA ?_)|(refine mul_Q ?_;intro hm1 hm2)|(refine zP at_M ?_)|(refine zP rfl ?_)|(refine And.intro ?_ ?_;all_goals(intro hb;(try simp only [sb] at hb);try exact ex0))|(intro b0 hb)))
  · refine And.intro trivial (fz_con ?_)
    rw [h1, allEq_step hl (by omega)]
    have : intEq (a.getD i default) (b.getD i default) = false := by simpa [intEq] using hb
    rw [this]; rfl
  · refine ⟨i + 1, ⟨by omega, ?_⟩, by omega, rfl, ⟨rfl, trivial, rfl, trivial, rfl, trivial, trivial⟩, trivial, trivial⟩
    rw [h1, allEq_step hl (by omega)]
    have : intEq (a.getD i default) (b.getD i default) = true := by simpa [intEq] using hb
    rw [this]; rfl
  · refine And.intro trivial (fz_con ?_)
    rw [h1, allEq_end hl (by omega)]
theorem rlists_ok (a b : List (List Int)) (ha : a.length ≤ 4611686018427387904) (hb : b.length ≤ 4611686018427387904) (hx : ∀ x ∈ a, x.length ≤ 4611686018427387904) (hy : ∀ x ∈ b, x.length ≤ 4611686018427387904) : Ok Tryz.prog 53 [tILL a, tILL b] true (.con (.bool (allEq (allEq intEq) a b))) := by
  refine ok_of_ev (fun _ _ _ h => h) mix Tryz.func53 rfl rfl (by kernel_rfl) (Nat.le_of_ble_eq_true rfl) ?_
  repeat' (first|(with_reducible first|refine zA ?_|refine zB ?_|refine zC ?_|refine zD ?_|refine zE ?_|refine zF ?_|refine zG ?_|refine zH ?_|refine zI ?_|refine zJ ?_|refine zK ?_|refine zL ?_)|(with_reducible refine reg_i ?_;intro K hK)|(with_reducible refine drw_i ?_;intro K hK)|((with_reducible refine cond_t ?hc ?_);(case hc=>rfl))|((with_reducible refine cond_f ?hc ?_);(case hc=>rfl))|((with_reducible refine cond_m ?_);refine And.intro ?_ ?_;all_goals(intro hb;(try simp only [sb] at hb);try exact ex0))|(refine hK _ ?_;clear hK K)|(refine hK _ _ rfl ?_;clear hK K)|(have hg:=hK;clear hg;first|(refine And.intro ?zz ?_;case zz=>first|exact rfl|exact zO rfl|omega|exact gI)|(refine fresh_n ?_)|(refine freshO_n ?_)|(refine at_Q ?_;intro hu)|(refine zP wA ?_)|(refine mul_Q ?_;intro hm1 hm2)|(refine zP at_M ?_)|(refine zP rfl ?_)|(refine And.intro ?_ ?_;all_goals(intro hb;(try simp only [sb] at hb);try exact ex0))|(intro b0 hb)))
  · exact And.intro trivial (fz_con (by rw [allEq_len (by omega)]))
  have hl : a.length = b.length := by omega
  refine loop_i Nat (fun i => ⟨Tryz.f53.ntmps, [(0, .ro false (tILL a)), (1, .ro false (tILL b)), (5, .con (.int .i64 i))], []⟩) (fun i => i ≤ a.length ∧ allEq (allEq intEq) a b = allEq (allEq intEq) (a.drop i) (b.drop i)) (fun i => a.length - i) [] 0 trivial ⟨Nat.zero_le _, rfl⟩ ⟨rfl, ⟨rfl, trivial, rfl, trivial, rfl, trivial, trivial⟩, trivial, trivial⟩ ?_
  rintro i ⟨h0, h1⟩
  repeat' (first|(with_reducible first|refine zA ?_|refine zB ?_|refine zC ?_|refine zD ?_|refine zE ?_|refine zF ?_|refine zG ?_|refine zH ?_|refine zI ?_|refine zJ ?_|refine zK ?_|refine zL ?_)|(with_reducible refine reg_i ?_;intro K hK)|(with_reducible refine drw_i ?_;intro K hK)|((with_reducible refine cond_t ?hc ?_);(case hc=>rfl))|((with_reducible refine cond_f ?hc ?_);(case hc=>rfl))|((with_reducible refine cond_m ?_);refine And.intro ?_ ?_;all_goals(intro hb;(try simp only [sb] at hb);try exact ex0))|(refine hK _ ?_;clear hK K)|(refine hK _ _ rfl ?_;clear hK K)|(have hg:=hK;clear hg;first|(refine And.intro ?zz ?_;case zz=>first|exact rfl|exact zO rfl|omega|exact gI)|(refine fresh_n ?_)|(refine freshO_n ?_)|(refine at_Q ?_;intro hu)|(refine zP wA ?_)|(refine mul_Q ?_;intro hm1 hm2)|(refine zP at_M ?_)|(refine zP rfl ?_)|(refine zQ (rEqI_ok (a.getD i default) (b.getD i default) (hx _ (getD_mem (by omega))) (hy _ (getD_mem (by omega)))) ?_)|(refine And.intro ?_ ?_;all_goals(intro hb;(try simp only [sb] at hb);try exact ex0))|(intro b0 hb)))
  · refine And.intro trivial (fz_con ?_)
    rw [h1, allEq_step hl (by omega)]
    have : allEq intEq (a.getD i default) (b.getD i default) = false := by simpa using hb
    rw [this]; rfl
  · refine ⟨i + 1, ⟨by omega, ?_⟩, by omega, rfl, ⟨rfl, trivial, rfl, trivial, rfl, trivial, trivial⟩, trivial, trivial⟩
    rw [h1, allEq_step hl (by omega)]
    have : allEq intEq (a.getD i default) (b.getD i default) = true := by simpa using hb
    rw [this]; rfl
  · refine And.intro trivial (fz_con ?_)
    rw [h1, allEq_end hl (by omega)]
