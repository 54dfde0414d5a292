import Derived.Test.YtekgeekghclfaaaGreatDagr
import Derived.Test.YtekgeekghclfaaaGreatDig
import Derived.Test.YtekgeekghclfaaaGreatRowsL
set_option linter.all false
namespace Go.Ev
open Go.Proofs
set_option maxRecDepth 10000
set_option maxHeartbeats 4000000
set_option linter.unusedSimpArgs false
set_option linter.unusedVariables false
def entO {α : Type} (K : α → Value) (x : α) : V := .agg [.con (K x), .con (.int .i64 1)]
theorem mFind_no {α : Type} {K : α → Value} (hK : ∀ a b, mkEq (K a) (K b) = true → a = b) {x : α} : ∀ {L : List α}, x ∉ L → mFind (K x) (L.map (entO K)) = none
  | [], _ => rfl
  | y :: r, h => by
    have h1 : mkEq (K x) (K y) = false := by
      cases e : mkEq (K x) (K y) with
      | false => rfl
      | true => exact absurd (hK _ _ e) fun e => h (by rw [e]; exact List.mem_cons_self)
    show (bif mkEq (K x) (K y) then some (0, Value.int .i64 1) else (mFind (K x) (r.map (entO K))).map fun p => (p.1 + 1, p.2)) = none
    rw [h1, cond_false, mFind_no hK fun hm => h (List.mem_cons_of_mem _ hm)]; rfl
theorem mFind_yes {α : Type} {K : α → Value} (hK : ∀ a, mkEq (K a) (K a) = true) {x : α} : ∀ {L : List α}, x ∈ L → ∃ i, mFind (K x) (L.map (entO K)) = some (i, .int .i64 1)
  | y :: r, h => by
    show ∃ i, (bif mkEq (K x) (K y) then some (0, Value.int .i64 1) else (mFind (K x) (r.map (entO K))).map fun p => (p.1 + 1, p.2)) = _
    cases e : mkEq (K x) (K y) with
    | true => exact ⟨0, rfl⟩
    | false =>
      rcases List.mem_cons.1 h with rfl | h
      · rw [hK] at e; cases e
      · obtain ⟨i, hi⟩ := mFind_yes hK h
        rw [cond_false, hi]; exact ⟨i + 1, rfl⟩
theorem mGet_no {α : Type} {K : α → Value} (hK : ∀ a b, mkEq (K a) (K b) = true → a = b) {x : α} {L : List α} (h : x ∉ L) : (mGet (K x) (L.map (entO K))).getD (.int .i64 0) = .int .i64 0 := by
  unfold mGet; rw [mFind_no hK h]; rfl
theorem mGet_yes {α : Type} {K : α → Value} (hK : ∀ a, mkEq (K a) (K a) = true) {x : α} {L : List α} (h : x ∈ L) : (mGet (K x) (L.map (entO K))).getD (.int .i64 0) = .int .i64 1 := by
  obtain ⟨i, hi⟩ := mFind_yes hK h
  unfold mGet; rw [hi]; rfl
theorem mPut_no {α : Type} {K : α → Value} (hK : ∀ a b, mkEq (K a) (K b) = true → a = b) {x : α} {L : List α} (h : x ∉ L) : mPut (K x) (.int .i64 1) (L.map (entO K)) = (L ++ [x]).map (entO K) := by
  unfold mPut; rw [mFind_no hK h, List.map_append]; rfl
theorem mEnt_map {α : Type} {K : α → Value} {kk : Option IntKind} (hk : ∀ a, mkOK kk (K a) = true) (L : List α) : ∀ v ∈ L.map (entO K), mEnt kk v := by
  intro v hv
  obtain ⟨x, -, rfl⟩ := List.mem_map.1 hv
  exact ⟨_, _, rfl, hk x, rfl⟩
def kI (n : Int) : Value := .int .i64 n
theorem kI_eq (a b : Int) (h : mkEq (kI a) (kI b) = true) : a = b := by simpa [mkEq, kI] using h
theorem kI_refl (a : Int) : mkEq (kI a) (kI a) = true := by simp [mkEq, kI]
theorem kI_ok (a : Int) : mkOK (some .i64) (kI a) = true := rfl
def stF1 (N : Nat) (P : PL) (i : Nat) : St := ⟨N, [(0, .ro false (tILL P)), (12, .ro false (tILL P)), (13, .con (.int .i64 P.length)), (14, .con (.int .i64 i))], []⟩
def stF2 (N : Nat) (P : PL) (i : Nat) (r : List Int) (k : Nat) : St := ⟨N, [(0, .ro false (tILL P)), (12, .ro false (tILL P)), (13, .con (.int .i64 P.length)), (14, .con (.int .i64 i)), (18, .ro false (tIL r)), (19, .con (.int .i64 r.length)), (20, .con (.int .i64 k))], []⟩
def stF3 (N : Nat) (P : PL) (i : Nat) : St := ⟨N, [(34, .ro false (tILL P)), (35, .con (.int .i64 P.length)), (36, .con (.int .i64 i))], []⟩
def stF4 (N : Nat) (P : PL) (i : Nat) (r : List Int) (k : Nat) : St := ⟨N, [(34, .ro false (tILL P)), (35, .con (.int .i64 P.length)), (36, .con (.int .i64 i)), (9, .ref 0 0 0 0), (43, .ro false (tIL r)), (44, .con (.int .i64 r.length)), (45, .con (.int .i64 k))], [(0, ⟨0, (r.take k).map (entO kI), 0, false⟩)]⟩
theorem clO_ent (L : List Int) : clObjs [(0, (⟨0, L.map (entO kI), 0, false⟩ : Obj))] [(0, ⟨0, L.map (entO kI), 0, false⟩)] := by
  refine ⟨fun v hv => ?_, trivial⟩
  obtain ⟨x, -, rfl⟩ := List.mem_map.1 hv
  intro u hu
  simp at hu
  rcases hu with rfl | rfl <;> trivial
theorem lenI {α β : Type} (f : α → β) (l : List α) : V.con (.int .i64 ((l.map f).length : Nat)) = .con (.int .i64 l.length) := by rw [List.length_map]
theorem take_onD {α : Type} [Inhabited α] {l : List α} {i : Nat} (h : i < l.length) : l.take (i + 1) = l.take i ++ [l.getD i default] := by
  rw [List.take_succ_eq_append_getElem h]; simp [List.getD, h]
theorem fits_ok (P : PL) (hP : P.length ≤ 1073741824) (hR : ∀ l ∈ P, l.length ≤ 1073741824) : Ok Tryz.prog 71 [tILL P] true (.con (.int .i64 (if inRng P = false then 3 else if noDup P = false then 40 else 0))) := by
  refine ok_of_ev (fun _ _ _ h => h) mix Tryz.func71 rfl rfl (by kernel_rfl) (Nat.le_of_ble_eq_true rfl) ?_
  repeat' (first|(with_reducible first|refine zA ?_|refine zB ?_|refine zC ?_|refine zD ?_|refine zE ?_|refine zF ?_|refine zG ?_|refine zH ?_|refine zI ?_|refine zJ ?_|refine zK ?_|refine zL ?_)|(with_reducible refine reg_i ?_;intro K hK)|(with_reducible refine drw_i ?_;intro K hK)|((with_reducible refine cond_t ?hc ?_);(case hc=>rfl))|((with_reducible refine cond_f ?hc ?_);(case hc=>rfl))|((with_reducible refine cond_m ?_);refine And.intro ?_ ?_;all_goals(intro hb;(try simp only [sn,sb] at hb);try exact ex0))|(refine hK _ ?_;clear hK K)|(refine hK _ _ rfl ?_;clear hK K)|(have hg:=hK;clear hg;first|(refine And.intro ?zz ?_;case zz=>first|exact rfl|exact zO rfl|omega|exact gJ)|(refine fresh_n ?_)|(refine freshO_n ?_)|(refine at_Q ?_;intro hu)|(refine zP wA ?_)|(refine mul_Q ?_;intro hm1 hm2)|(refine zP at_M ?_)|(refine zP rfl ?_)|(refine And.intro ?_ ?_;all_goals(intro hb;(try simp only [sn,sb] at hb);try exact ex0))|(intro b0 hb)))
  refine loop_i Nat (stF1 Tryz.f71.ntmps P) (fun i => i ≤ P.length ∧ ∀ l ∈ P.take i, ∀ p ∈ l, 0 ≤ p ∧ p < (P.length : Int)) (fun i => P.length - i) [] 0 trivial ⟨Nat.zero_le _, by simp⟩ ⟨rfl, ⟨rfl, trivial, rfl, trivial, lenI _ _, trivial, rfl, trivial, trivial⟩, trivial, trivial⟩ ?_
  rintro i ⟨h0, h1⟩
  repeat' (first|(with_reducible first|refine zA ?_|refine zB ?_|refine zC ?_|refine zD ?_|refine zE ?_|refine zF ?_|refine zG ?_|refine zH ?_|refine zI ?_|refine zJ ?_|refine zK ?_|refine zL ?_)|(with_reducible refine reg_i ?_;intro K hK)|(with_reducible refine drw_i ?_;intro K hK)|((with_reducible refine cond_t ?hc ?_);(case hc=>rfl))|((with_reducible refine cond_f ?hc ?_);(case hc=>rfl))|((with_reducible refine cond_m ?_);refine And.intro ?_ ?_;all_goals(intro hb;(try simp only [sn,sb] at hb);try exact ex0))|(refine hK _ ?_;clear hK K)|(refine hK _ _ rfl ?_;clear hK K)|(have hg:=hK;clear hg;first|(refine And.intro ?zz ?_;case zz=>first|exact rfl|exact zO rfl|omega|exact gJ)|(refine fresh_n ?_)|(refine freshO_n ?_)|(refine at_Q ?_;intro hu)|(refine zP wA ?_)|(refine mul_Q ?_;intro hm1 hm2)|(refine zP at_M ?_)|(refine zP rfl ?_)|(refine And.intro ?_ ?_;all_goals(intro hb;(try simp only [sn,sb] at hb);try exact ex0))|(intro b0 hb)))
  · have hi : i < P.length := by omega
    have hr := hR _ (getD_mem hi)
    refine loop_i Nat (stF2 Tryz.f71.ntmps P i (P.getD i default)) (fun k => k ≤ (P.getD i default).length ∧ ∀ p ∈ (P.getD i default).take k, 0 ≤ p ∧ p < (P.length : Int)) (fun k => (P.getD i default).length - k) [] 0 trivial ⟨Nat.zero_le _, by simp⟩ ⟨rfl, ⟨rfl, trivial, rfl, trivial, rfl, trivial, rfl, trivial, rfl, trivial, lenI _ _, trivial, rfl, trivial, trivial⟩, trivial, trivial⟩ ?_
    rintro k ⟨g0, g1⟩
    repeat' (first|(with_reducible first|refine zA ?_|refine zB ?_|refine zC ?_|refine zD ?_|refine zE ?_|refine zF ?_|refine zG ?_|refine zH ?_|refine zI ?_|refine zJ ?_|refine zK ?_|refine zL ?_)|(with_reducible refine reg_i ?_;intro K hK)|(with_reducible refine drw_i ?_;intro K hK)|((with_reducible refine cond_t ?hc ?_);(case hc=>rfl))|((with_reducible refine cond_f ?hc ?_);(case hc=>rfl))|((with_reducible refine cond_m ?_);refine And.intro ?_ ?_;all_goals(intro hb;(try simp only [sn,sb] at hb);try exact ex0))|(refine hK _ ?_;clear hK K)|(refine hK _ _ rfl ?_;clear hK K)|(have hg:=hK;clear hg;first|(refine And.intro ?zz ?_;case zz=>first|exact rfl|exact zO rfl|omega|exact gJ)|(refine fresh_n ?_)|(refine freshO_n ?_)|(refine at_Q ?_;intro hu)|(refine zP wA ?_)|(refine mul_Q ?_;intro hm1 hm2)|(refine zP at_M ?_)|(refine zP rfl ?_)|(refine And.intro ?_ ?_;all_goals(intro hb;(try simp only [sn,sb] at hb);try exact ex0))|(intro b0 hb)))
    · exact And.intro trivial (fz_con (congrArg (Value.int .i64) (by rw [inRng_no hi (k := k) (by omega) (by omega)]; rfl)))
    · exact And.intro trivial (fz_con (congrArg (Value.int .i64) (by rw [inRng_no hi (k := k) (by omega) (by omega)]; rfl)))
    · exact ⟨k + 1, ⟨by omega, all_step (by omega) g1 ⟨by omega, by omega⟩⟩, by omega, rfl, ⟨rfl, trivial, rfl, trivial, rfl, trivial, rfl, trivial, rfl, trivial, rfl, trivial, rfl, trivial, trivial⟩, trivial, trivial⟩
    · exact ⟨i + 1, ⟨by omega, all_step hi h1 (all_end (by omega) g1)⟩, by omega, rfl, ⟨rfl, trivial, rfl, trivial, rfl, trivial, rfl, trivial, trivial⟩, trivial, trivial⟩
  · rw [inRng_iff.2 (all_end (by omega) h1), if_neg (by decide)]
    refine loop_i Nat (stF3 Tryz.f71.ntmps P) (fun i => i ≤ P.length ∧ ∀ l ∈ P.take i, l.Nodup) (fun i => P.length - i) [] 0 trivial ⟨Nat.zero_le _, by simp⟩ ⟨rfl, ⟨rfl, trivial, lenI _ _, trivial, rfl, trivial, trivial⟩, trivial, trivial⟩ ?_
    clear hb h0 h1 i
    rintro i ⟨h0, h1⟩
    repeat' (first|(with_reducible first|refine zA ?_|refine zB ?_|refine zC ?_|refine zD ?_|refine zE ?_|refine zF ?_|refine zG ?_|refine zH ?_|refine zI ?_|refine zJ ?_|refine zK ?_|refine zL ?_)|(with_reducible refine reg_i ?_;intro K hK)|(with_reducible refine drw_i ?_;intro K hK)|((with_reducible refine cond_t ?hc ?_);(case hc=>rfl))|((with_reducible refine cond_f ?hc ?_);(case hc=>rfl))|((with_reducible refine cond_m ?_);refine And.intro ?_ ?_;all_goals(intro hb;(try simp only [sn,sb] at hb);try exact ex0))|(refine hK _ ?_;clear hK K)|(refine hK _ _ rfl ?_;clear hK K)|(have hg:=hK;clear hg;first|(refine And.intro ?zz ?_;case zz=>first|exact rfl|exact zO rfl|omega|exact gJ)|(refine fresh_c 0 rfl ?_)|(refine freshO_n ?_)|(refine at_Q ?_;intro hu)|(refine zP wA ?_)|(refine mul_Q ?_;intro hm1 hm2)|(refine zP at_M ?_)|(refine zP rfl ?_)|(refine And.intro ?_ ?_;all_goals(intro hb;(try simp only [sn,sb] at hb);try exact ex0))|(intro b0 hb)))
    · have hi : i < P.length := by omega
      have hr := hR _ (getD_mem hi)
      refine loop_i Nat (stF4 Tryz.f71.ntmps P i (P.getD i default)) (fun k => k ≤ (P.getD i default).length ∧ ((P.getD i default).take k).Nodup) (fun k => (P.getD i default).length - k) [] 0 trivial ⟨Nat.zero_le _, by simp⟩ ⟨rfl, ⟨rfl, trivial, rfl, trivial, rfl, trivial, rfl, rfl, rfl, trivial, lenI _ _, trivial, rfl, trivial, trivial⟩, ⟨rfl, trivial⟩, clO_ent _⟩ ?_
      rintro k ⟨g0, g1⟩
      by_cases hk : k < (P.getD i default).length
      · by_cases hm : (P.getD i default).getD k default ∈ (P.getD i default).take k
        · repeat' (first|(first | refine And.intro (mEnt_map kI_ok _) ?_ | refine Exists.intro _ (And.intro (mGet_yes kI_refl hm) ?_))|(with_reducible first|refine zA ?_|refine zB ?_|refine zC ?_|refine zD ?_|refine zE ?_|refine zF ?_|refine zG ?_|refine zH ?_|refine zI ?_|refine zJ ?_|refine zK ?_|refine zL ?_)|(with_reducible refine reg_i ?_;intro K hK)|(with_reducible refine drw_i ?_;intro K hK)|((with_reducible refine cond_t ?hc ?_);(case hc=>rfl))|((with_reducible refine cond_f ?hc ?_);(case hc=>rfl))|((with_reducible refine cond_m ?_);refine And.intro ?_ ?_;all_goals(intro hb;(try simp only [sn,sb] at hb);try exact ex0))|(refine hK _ ?_;clear hK K)|(refine hK _ _ rfl ?_;clear hK K)|(have hg:=hK;clear hg;first|(refine And.intro ?zz ?_;case zz=>first|exact rfl|exact zO rfl|omega|exact gJ)|(refine fresh_n ?_)|(refine freshO_n ?_)|(refine at_Q ?_;intro hu)|(refine zP wA ?_)|(refine mul_Q ?_;intro hm1 hm2)|(refine zP at_M ?_)|(refine zP rfl ?_)|(refine And.intro ?_ ?_;all_goals(intro hb;(try simp only [sn,sb] at hb);try exact ex0))|(intro b0 hb)))
          exact And.intro trivial (fz_con (congrArg (Value.int .i64) (by
            cases e : noDup P with
            | false => rfl
            | true => exact absurd (noDup_iff.1 e _ (getD_mem hi)) (nodup_no (by omega) hm))))
        · repeat' (first|(first | refine And.intro (mEnt_map kI_ok _) ?_ | refine Exists.intro _ (And.intro (mGet_no kI_eq hm) ?_) | refine Exists.intro _ (And.intro (mPut_no kI_eq hm) ?_))|(with_reducible first|refine zA ?_|refine zB ?_|refine zC ?_|refine zD ?_|refine zE ?_|refine zF ?_|refine zG ?_|refine zH ?_|refine zI ?_|refine zJ ?_|refine zK ?_|refine zL ?_)|(with_reducible refine reg_i ?_;intro K hK)|(with_reducible refine drw_i ?_;intro K hK)|((with_reducible refine cond_t ?hc ?_);(case hc=>rfl))|((with_reducible refine cond_f ?hc ?_);(case hc=>rfl))|((with_reducible refine cond_m ?_);refine And.intro ?_ ?_;all_goals(intro hb;(try simp only [sn,sb] at hb);try exact ex0))|(refine hK _ ?_;clear hK K)|(refine hK _ _ rfl ?_;clear hK K)|(have hg:=hK;clear hg;first|(refine And.intro ?zz ?_;case zz=>first|exact rfl|exact zO rfl|omega|exact gJ)|(refine fresh_n ?_)|(refine freshO_n ?_)|(refine at_Q ?_;intro hu)|(refine zP wA ?_)|(refine mul_Q ?_;intro hm1 hm2)|(refine zP at_M ?_)|(refine zP rfl ?_)|(refine And.intro ?_ ?_;all_goals(intro hb;(try simp only [sn,sb] at hb);try exact ex0))|(intro b0 hb)))
          refine ⟨k + 1, ⟨by omega, nodup_step hk g1 hm⟩, by omega, rfl, ⟨rfl, trivial, rfl, trivial, rfl, trivial, rfl, rfl, rfl, trivial, rfl, trivial, rfl, trivial, trivial⟩, ⟨?_, trivial⟩, clO_ent _⟩
          rw [take_onD hk]; rfl
      · repeat' (first|(with_reducible first|refine zA ?_|refine zB ?_|refine zC ?_|refine zD ?_|refine zE ?_|refine zF ?_|refine zG ?_|refine zH ?_|refine zI ?_|refine zJ ?_|refine zK ?_|refine zL ?_)|(with_reducible refine reg_i ?_;intro K hK)|(with_reducible refine drw_i ?_;intro K hK)|((with_reducible refine cond_t ?hc ?_);(case hc=>rfl))|((with_reducible refine cond_f ?hc ?_);(case hc=>rfl))|((with_reducible refine cond_m ?_);refine And.intro ?_ ?_;all_goals(intro hb;(try simp only [sn,sb] at hb);try exact ex0))|(refine hK _ ?_;clear hK K)|(refine hK _ _ rfl ?_;clear hK K)|(have hg:=hK;clear hg;first|(refine And.intro ?zz ?_;case zz=>first|exact rfl|exact zO rfl|omega|exact gJ)|(refine fresh_n ?_)|(refine freshO_n ?_)|(refine at_Q ?_;intro hu)|(refine zP wA ?_)|(refine mul_Q ?_;intro hm1 hm2)|(refine zP at_M ?_)|(refine zP rfl ?_)|(refine And.intro ?_ ?_;all_goals(intro hb;(try simp only [sn,sb] at hb);try exact ex0))|(intro b0 hb)))
        rw [List.take_of_length_le (by omega)] at g1
        exact ⟨i + 1, ⟨by omega, all_step hi h1 g1⟩, by omega, rfl, ⟨rfl, trivial, rfl, trivial, rfl, trivial, trivial⟩, trivial, trivial⟩
    · rw [noDup_iff.2 (all_end (by omega) h1)]
      exact And.intro trivial (fz_con rfl)
def stC1 (N : Nat) (P : PL) (i : Nat) (D : PL) : St := ⟨N, [(3, .own 0 0 0 P.length), (11, .ro false (tILL P)), (12, .con (.int .i64 P.length)), (13, .con (.int .i64 i))], [(0, ⟨1, chE 10 D, 0, true⟩)] ++ chO 1 ci 10 D⟩
def stC2 (N : Nat) (P : PL) (i k : Nat) (r : List Int) (D : PL) : St := ⟨N, [(3, .own 0 0 0 P.length), (4, .con (.int .i64 i)), (11, .ro false (tILL P)), (12, .con (.int .i64 P.length)), (13, .con (.int .i64 i)), (18, .ro false (tIL r)), (19, .con (.int .i64 r.length)), (20, .con (.int .i64 k))], [(0, ⟨1, chE 10 D, 0, true⟩)] ++ chO 1 ci 10 D⟩
theorem ci_flat1 (n : Int) : (ci n).flat := trivial
theorem chE_rep (n b : Nat) : chE b (List.replicate n ([] : List Int)) = List.replicate n V.emp := by
  induction n generalizing b with
  | zero => rfl
  | succ n ih => simp [List.replicate_succ, chE, cE, ih]
theorem chO_rep (n b : Nat) : chO 1 ci b (List.replicate n ([] : List Int)) = [] := by
  induction n generalizing b with
  | zero => rfl
  | succ n ih => simp [List.replicate_succ, chO, ih]
theorem lc_int2 {oh oh1 : OH} {n m : Int} (h : n = m) : Lc oh oh1 (.con (.int .i64 n)) (.con (.int .i64 m)) := by subst h; exact Lc.same _ trivial
theorem fz_chld {oh : OH} {D : PL} {len : Nat} {f : Bool} (ho : oget oh 0 = some ⟨1, chE 10 D, 0, true⟩) (hD : ∀ i o, oget (chO 1 ci 10 D) i = some o → oget oh i = some o) (hl : D.length = len) : FzA oh f (.own 0 0 0 len) (tILL D) :=
  chE_fz (F := ci) (G := tI64) (sz := 1) ho (fun j hj he => hD _ _ (chO_some hj he)) hl (fun _ => rfl) (fun a j v u h1 h2 => by
    cases j with
    | succ j => simp [ci, V.cells] at h1
    | zero => simp [ci, V.cells] at h1; simp [tI64, T.cells] at h2; subst h1; subst h2; exact .con _)
theorem lenN {α β : Type} (f : α → β) (l : List α) : ((l.map f).length : Int) = (l.length : Int) := by rw [List.length_map]
theorem lc_own {oh oh1 : OH} {i v a n m : Nat} (h : n = m) (h2 : (oget oh1 i).isSome = true) : Lc oh oh1 (.own i v a n) (.own i v a m) := by subst h; exact Lc.same _ h2
theorem chE_lv0 {oh : OH} {D : PL} {A : OH} (hA : ∀ j, 10 ≤ j → oget A j = none) : ∀ x ∈ chE 10 D, LV oh (A ++ chO 1 ci 10 D) x x :=
  chE_lv fun j hj he => by rw [og_app_none (hA _ (by omega)), chO_some hj he]; rfl
theorem cO_app (x : Int) (r : List Int) (i : Int) : some (⟨1, ((x :: r).map ci).take (r.length + 1) ++ [ci i], r.length + 1, true⟩ : Obj) = some (cO 1 ci (x :: r ++ [i])) := by
  rw [List.take_of_length_le (by simp)]; simp [cO]
theorem children_ok (P : PL) (hP : P.length ≤ 1073741824) (hR : ∀ l ∈ P, l.length ≤ 1073741824) (hO : OkP P) : Ok Tryz.prog 73 [tILL P] true (tILL (childF P)) := by
  refine ok_of_ev (fun _ _ _ h => h) mix Tryz.func73 rfl rfl (by kernel_rfl) (Nat.le_of_ble_eq_true rfl) ?_
  repeat' (first|(with_reducible first|refine zA ?_|refine zB ?_|refine zC ?_|refine zD ?_|refine zE ?_|refine zF ?_|refine zG ?_|refine zH ?_|refine zI ?_|refine zJ ?_|refine zK ?_|refine zL ?_)|(with_reducible refine reg_i ?_;intro K hK)|(with_reducible refine drw_i ?_;intro K hK)|((with_reducible refine cond_t ?hc ?_);(case hc=>rfl))|((with_reducible refine cond_f ?hc ?_);(case hc=>rfl))|((with_reducible refine cond_m ?_);refine And.intro ?_ ?_;all_goals(intro hb;(try simp only [sn,sb] at hb);try exact ex0))|(refine hK _ ?_;clear hK K)|(refine hK _ _ rfl ?_;clear hK K)|(have hg:=hK;clear hg;first|(refine And.intro ?zz ?_;case zz=>first|exact rfl|exact zO rfl|omega|exact gJ)|(refine fresh_c 0 rfl ?_)|(refine freshO_n ?_)|(refine at_Q ?_;intro hu)|(refine zP wA ?_)|(refine mul_Q ?_;intro hm1 hm2)|(refine zP at_M ?_)|(refine zP rfl ?_)|(refine And.intro ?_ ?_;all_goals(intro hb;(try simp only [sn,sb] at hb);try exact ex0))|(intro b0 hb)))
  refine loop_f Nat (fun i => stC1 Tryz.f73.ntmps P i (chTo P i)) (fun i => i ≤ P.length) (fun i => P.length - i) 0 (Nat.zero_le _) (lf_of ?_ ?_ ?_ ?_) ?_
  · exact ⟨lc_own (by rw [Int.toNat_natCast, List.length_map]) rfl, Lc.same _ trivial, lc_int2 (by rw [List.length_map]), Lc.same _ trivial, trivial⟩
  · refine ⟨lfOb_keep ?_ (chE_lv0 fun j hj => on_skip (by omega) rfl), trivial⟩
    show some (⟨1, List.replicate (Int.toNat ((P.map tIL).length : Nat)) V.emp, 0, true⟩ : Obj) = some ⟨1, chE 10 (List.replicate P.length []), 0, true⟩
    rw [chE_rep, Int.toNat_natCast, List.length_map]
  · exact chO_flat ci_flat1 _ _
  · intro i o h
    rw [show chTo P 0 = List.replicate P.length [] from rfl, chO_rep] at h
    cases h
  intro i h0
  have hlen : ∀ j, j ≤ P.length → (chTo P j).length = P.length := fun j hj => (chAt_inv hO j hj).1.len
  repeat' (first|(with_reducible first|refine zA ?_|refine zB ?_|refine zC ?_|refine zD ?_|refine zE ?_|refine zF ?_|refine zG ?_|refine zH ?_|refine zI ?_|refine zJ ?_|refine zK ?_|refine zL ?_)|(with_reducible refine reg_i ?_;intro K hK)|(with_reducible refine drw_i ?_;intro K hK)|((with_reducible refine cond_t ?hc ?_);(case hc=>rfl))|((with_reducible refine cond_f ?hc ?_);(case hc=>rfl))|((with_reducible refine cond_m ?_);refine And.intro ?_ ?_;all_goals(intro hb;(try simp only [sn,sb] at hb);try exact ex0))|(refine hK _ ?_;clear hK K)|(refine hK _ _ rfl ?_;clear hK K)|(have hg:=hK;clear hg;first|(refine And.intro ?zz ?_;case zz=>first|exact rfl|exact zO rfl|omega|exact gJ)|(refine fresh_n ?_)|(refine freshO_n ?_)|(refine at_Q ?_;intro hu)|(refine zP wA ?_)|(refine mul_Q ?_;intro hm1 hm2)|(refine zP at_M ?_)|(refine zP rfl ?_)|(refine And.intro ?_ ?_;all_goals(intro hb;(try simp only [sn,sb] at hb);try exact ex0))|(intro b0 hb)))
  · have hi : i < P.length := by omega
    have hr := hR _ (getD_mem hi)
    refine loop_f Nat (fun k => stC2 Tryz.f73.ntmps P i k (P.getD i default) (chAt P i k)) (fun k => k ≤ (P.getD i default).length) (fun k => (P.getD i default).length - k) 0 (Nat.zero_le _) (lf_of ?_ ?_ ?_ ?_) ?_
    · exact ⟨Lc.same _ rfl, Lc.same _ trivial, Lc.same _ trivial, Lc.same _ trivial, Lc.same _ trivial, Lc.same _ trivial, lc_int2 (lenN _ _), Lc.same _ trivial, trivial⟩
    · exact ⟨lfOb_keep rfl (chE_lv0 fun j hj => on_skip (by omega) rfl), trivial⟩
    · exact chO_flat ci_flat1 _ _
    · intro j o h
      exact og_skip (by have := (chO_get h).1; omega) h
    intro k g0
    by_cases hk : k < (P.getD i default).length
    · have hinv := (chAt_inv hO i (by omega)).2 hi k (by exact g0)
      obtain ⟨h1, h2, h3⟩ := hinv.step hO hi hk
      have hDl := hinv.len
      have hsucc := chAt_succ (P := P) (i := i) (k := k) hk
      obtain ⟨D, hD⟩ : ∃ D, chAt P i k = D := ⟨_, rfl⟩
      have hrl := hinv.rowlen ((P.getD i default).getD k default).toNat
      rw [hD] at hDl hsucc hrl ⊢
      have h1 : 0 ≤ (P.getD i default).getD k default := h1
      have h2 : ((P.getD i default).getD k default).toNat < P.length := h2
      have hsucc : chAt P i (k + 1) = chAdd D ((P.getD i default).getD k default).toNat i := hsucc
      have hel : (chE 10 D)[0 + ((P.getD i default).getD k default).toNat]? = some (cE (10 + ((P.getD i default).getD k default).toNat) (D.getD ((P.getD i default).getD k default).toNat default)) := by rw [Nat.zero_add]; exact chE_get (by omega)
      cases hrow : D.getD ((P.getD i default).getD k default).toNat default with
      | nil =>
        rw [hrow] at hel
        have hno := chO_nil (sz := 1) (F := ci) (b := 10) hrow
        repeat' (first|(first | refine Exists.intro _ (And.intro hel ?_))|(with_reducible first|refine zA ?_|refine zB ?_|refine zC ?_|refine zD ?_|refine zE ?_|refine zF ?_|refine zG ?_|refine zH ?_|refine zI ?_|refine zJ ?_|refine zK ?_|refine zL ?_)|(with_reducible refine reg_i ?_;intro K hK)|(with_reducible refine drw_i ?_;intro K hK)|((with_reducible refine cond_t ?hc ?_);(case hc=>rfl))|((with_reducible refine cond_f ?hc ?_);(case hc=>rfl))|((with_reducible refine cond_m ?_);refine And.intro ?_ ?_;all_goals(intro hb;(try simp only [sn,sb] at hb);try exact ex0))|(refine hK _ ?_;clear hK K)|(refine hK _ _ rfl ?_;clear hK K)|(have hg:=hK;clear hg;first|(refine And.intro ?zz ?_;case zz=>first|exact rfl|exact zO rfl|omega|exact gJ)|(refine fresh_c 1 (on_skip (by omega) (chO_none (.inl (by omega)))) ?_)|(refine fresh_c (10 + ((P.getD i default).getD k default).toNat) (on_skip (by omega) (on_skip (by omega) hno)) ?_)|(refine freshO_n ?_)|(refine at_Q ?_;intro hu)|(refine zP wA ?_)|(refine mul_Q ?_;intro hm1 hm2)|(refine zP at_M ?_)|(refine zP rfl ?_)|(refine And.intro ?_ ?_;all_goals(intro hb;(try simp only [sn,sb] at hb);try exact ex0))|(intro b0 hb))|((refine use_s (o := ?hob) ?hog ?hov ?hol ?_; (case hog => ((repeat refine og_skip (by omega) ?_); exact og_here _ _ _)); (case hov => rfl); (case hol => rfl))))
        have hset : (chE 10 D).set (0 + ((P.getD i default).getD k default).toNat) (V.own (10 + ((P.getD i default).getD k default).toNat) (0) 0 (1)) = chE 10 (chAt P i (k + 1)) := by
          rw [hsucc, chAdd, ← chE_set, Nat.zero_add, show row D ((P.getD i default).getD k default).toNat = [] from hrow]; rfl
        refine ⟨k + 1, hk, by omega, lf_of ?e ⟨lfOb_keep ((og_here _ _ _).trans (congrArg (fun e => some (⟨1, e, 0, true⟩ : Obj)) hset)) (chE_lv0 fun j hj => on_skip (by omega) rfl), trivial⟩ (chO_flat ci_flat1 _ _) fun j o h => ?_⟩
        case e => exact ⟨Lc.same _ rfl, Lc.same _ trivial, Lc.same _ trivial, Lc.same _ trivial, Lc.same _ trivial, Lc.same _ trivial, Lc.same _ trivial, Lc.same _ trivial, trivial⟩
        rw [hsucc, chAdd, show row D ((P.getD i default).getD k default).toNat = [] from hrow] at h
        obtain ⟨h5, ⟨rfl, rfl⟩ | ⟨h6, h7⟩⟩ := chO_upd h
        · exact og_skip (by omega) ((og_here _ _ _).trans rfl)
        · exact og_skip (by omega) (og_skip h6 (og_skip (by omega) (og_skip (by omega) h7)))
      | cons x r =>
        rw [hrow] at hel
        have hso := chO_some (sz := 1) (F := ci) (b := 10) (D := D) (j := ((P.getD i default).getD k default).toNat) (by omega) (by rw [hrow]; simp)
        rw [hrow] at hso
        have hrl : (x :: r).length ≤ P.length := by rw [← hrow]; exact hrl
        rw [List.length_cons] at hrl
        repeat' (first|(first | refine Exists.intro _ (And.intro hel ?_) | refine use_s (og_skip (by omega) (og_skip (by omega) hso)) rfl rfl ?_)|(with_reducible first|refine zA ?_|refine zB ?_|refine zC ?_|refine zD ?_|refine zE ?_|refine zF ?_|refine zG ?_|refine zH ?_|refine zI ?_|refine zJ ?_|refine zK ?_|refine zL ?_)|(with_reducible refine reg_i ?_;intro K hK)|(with_reducible refine drw_i ?_;intro K hK)|((with_reducible refine cond_t ?hc ?_);(case hc=>rfl))|((with_reducible refine cond_f ?hc ?_);(case hc=>rfl))|((with_reducible refine cond_m ?_);refine And.intro ?_ ?_;all_goals(intro hb;(try simp only [sn,sb] at hb);try exact ex0))|(refine hK _ ?_;clear hK K)|(refine hK _ _ rfl ?_;clear hK K)|(have hg:=hK;clear hg;first|(refine And.intro ?zz ?_;case zz=>first|exact rfl|exact zO rfl|omega|exact gJ)|(refine fresh_c 1 (on_skip (by omega) (chO_none (.inl (by omega)))) ?_)|(refine freshO_n ?_)|(refine at_Q ?_;intro hu)|(refine zP wA ?_)|(refine mul_Q ?_;intro hm1 hm2)|(refine zP at_M ?_)|(refine zP rfl ?_)|(refine And.intro ?_ ?_;all_goals(intro hb;(try simp only [sn,sb] at hb);try exact ex0))|(intro b0 hb))|((refine use_s (o := ?hob) ?hog ?hov ?hol ?_; (case hog => ((repeat refine og_skip (by omega) ?_); exact og_here _ _ _)); (case hov => rfl); (case hol => rfl))))
        have hset : (chE 10 D).set (0 + ((P.getD i default).getD k default).toNat) (V.own (10 + ((P.getD i default).getD k default).toNat) (r.length + 1) 0 (r.length + 1 + 1)) = chE 10 (chAt P i (k + 1)) := by
          rw [hsucc, chAdd, ← chE_set, Nat.zero_add, show row D ((P.getD i default).getD k default).toNat = x :: r from hrow]
          simp [cE]
        refine ⟨k + 1, hk, by omega, lf_of ?e ⟨lfOb_keep ((og_here _ _ _).trans (congrArg (fun e => some (⟨1, e, 0, true⟩ : Obj)) hset)) (chE_lv0 fun j hj => on_skip (by omega) rfl), trivial⟩ (chO_flat ci_flat1 _ _) fun j o h => ?_⟩
        case e => exact ⟨Lc.same _ rfl, Lc.same _ trivial, Lc.same _ trivial, Lc.same _ trivial, Lc.same _ trivial, Lc.same _ trivial, Lc.same _ trivial, Lc.same _ trivial, trivial⟩
        rw [hsucc, chAdd, show row D ((P.getD i default).getD k default).toNat = x :: r from hrow] at h
        obtain ⟨h5, ⟨rfl, rfl⟩ | ⟨h6, h7⟩⟩ := chO_upd h
        · exact og_skip (by omega) ((og_here _ _ _).trans (cO_app x r i))
        · exact og_skip (by omega) (og_skip h6 (og_skip (by omega) (og_skip (by omega) h7)))
    · repeat' (first|(with_reducible first|refine zA ?_|refine zB ?_|refine zC ?_|refine zD ?_|refine zE ?_|refine zF ?_|refine zG ?_|refine zH ?_|refine zI ?_|refine zJ ?_|refine zK ?_|refine zL ?_)|(with_reducible refine reg_i ?_;intro K hK)|(with_reducible refine drw_i ?_;intro K hK)|((with_reducible refine cond_t ?hc ?_);(case hc=>rfl))|((with_reducible refine cond_f ?hc ?_);(case hc=>rfl))|((with_reducible refine cond_m ?_);refine And.intro ?_ ?_;all_goals(intro hb;(try simp only [sn,sb] at hb);try exact ex0))|(refine hK _ ?_;clear hK K)|(refine hK _ _ rfl ?_;clear hK K)|(have hg:=hK;clear hg;first|(refine And.intro ?zz ?_;case zz=>first|exact rfl|exact zO rfl|omega|exact gJ)|(refine fresh_n ?_)|(refine freshO_n ?_)|(refine at_Q ?_;intro hu)|(refine zP wA ?_)|(refine mul_Q ?_;intro hm1 hm2)|(refine zP at_M ?_)|(refine zP rfl ?_)|(refine And.intro ?_ ?_;all_goals(intro hb;(try simp only [sn,sb] at hb);try exact ex0))|(intro b0 hb)))
      rw [← chTo_succ (P := P) (i := i) (k := k) (by show (P.getD i default).length ≤ k; omega)]
      refine ⟨i + 1, by omega, by omega, lf_of ?_ ⟨lfOb_keep rfl (chE_lv0 fun j hj => on_skip (by omega) rfl), trivial⟩ (chO_flat ci_flat1 _ _) fun j o h => ?_⟩
      · exact ⟨Lc.same _ rfl, Lc.same _ trivial, Lc.same _ trivial, Lc.same _ trivial, trivial⟩
      · exact og_skip (by have := (chO_get h).1; omega) h
  · have e : i = P.length := by omega
    subst e
    exact And.intro trivial (fz_chld (og_here _ _ _) (fun i o h => og_skip (by have := (chO_get h).1; omega) h) (hlen _ (Nat.le_refl _)))
end Go.Ev
