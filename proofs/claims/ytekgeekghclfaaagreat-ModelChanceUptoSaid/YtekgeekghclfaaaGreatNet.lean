import Derived.Test.YtekgeekghclfaaaGreatEq
set_option linter.all false
namespace Go.Ev
open Go.Proofs
set_option maxRecDepth 10000
set_option maxHeartbeats 4000000
set_option linter.unusedSimpArgs false
set_option linter.unusedVariables false
structure Nt where
  name : ByteArray
  names : List ByteArray
  values : List (List ByteArray)
  parents : List (List Int)
  tables : List (List Rt)
def tNt (n : Nt) : T := .agg [tS n.name, tSL n.names, tSLL n.values, tILL n.parents, tRLL n.tables]
structure NtOK (n : Nt) : Prop where
  names : n.names.length ≤ 1073741824
  values : n.values.length ≤ 1073741824
  value : ∀ x ∈ n.values, x.length ≤ 1073741824
  parents : n.parents.length ≤ 1073741824
  parent : ∀ x ∈ n.parents, x.length ≤ 1073741824
  tables : n.tables.length ≤ 1073741824
  table : ∀ x ∈ n.tables, x.length ≤ 1073741824
  rat : ∀ x ∈ n.tables, ∀ y ∈ x, RtOK y
def sameNt (a b : Nt) : Bool :=
  strEq a.name b.name && (allEq strEq a.names b.names && (allEq (allEq strEq) a.values b.values && (allEq (allEq intEq) a.parents b.parents && allEq (allEq ratEq) a.tables b.tables)))
theorem le62 {n : Nat} (h : n ≤ 1073741824) : n ≤ 4611686018427387904 := Nat.le_trans h (by decide)
theorem at_x {α β : Type} [Inhabited α] {f : α → β} {l x : List α} {k : Nat} {Q : β → Prop} (hx : l = x) (h : k < x.length) (c : k < x.length → Q (f (x.getD k default))) : ∃ t, (l.map f)[k]? = some t ∧ Q t :=
  by subst hx; exact ⟨_, at_map h, c h⟩
def vNt (n : Nt) : V := .agg [.con (.string n.name), .ro false (tSL n.names), .ro false (tSLL n.values), .ro false (tILL n.parents), .ro false (tRLL n.tables)]
def bxNt (n : Nt) : Obj := ⟨5, [vNt n], 0, true⟩
theorem bx_cl {oh : OH} (n : Nt) : ∀ v ∈ (bxNt n).el, v.cl oh := by
  intro v hv
  obtain rfl : v = vNt n := by simpa [bxNt] using hv
  intro u hu
  simp [vNt] at hu
  rcases hu with rfl | rfl | rfl | rfl | rfl <;> trivial
theorem rSameNt_ok (a b : Nt) (na : NtOK a) (nb : NtOK b) : Ok Tryz.prog 29 [tNt a, tNt b] true (.con (.bool (sameNt a b))) := by
  have na2 := na.values
  have na4 := na.tables
  have nb2 := nb.values
  have nb4 := nb.tables
  refine ok_of_ev (fun _ _ _ h => h) mix Tryz.func29 rfl rfl (by kernel_rfl) (Nat.le_of_ble_eq_true rfl) ?_
  repeat' (first|(refine seq_j (a := Code.region 3 _ _) Bool (fun s => ⟨Tryz.f29.ntmps, [(2, .ref 0 0 0 0), (3, .ref 1 0 0 0), (5, .con (.bool s))], [(1, bxNt b), (0, bxNt a)]⟩) (fun s => strEq a.name b.name = true ∧ a.values.length = b.values.length ∧ a.tables.length = b.tables.length ∧ s = (allEq strEq a.names b.names && allEq (allEq intEq) a.parents b.parents)) (fun s0 ⟨hn0, hl2, hl4, hs0⟩ => ?_) (fun R hR => ?_))|(with_reducible first|refine zA ?_|refine zB ?_|refine zC ?_|refine zD ?_|refine zE ?_|refine zF ?_|refine zG ?_|refine zH ?_|refine zI ?_|refine zJ ?_|refine zK ?_|refine zL ?_)|(with_reducible refine reg_i ?_;intro K hK)|(with_reducible refine drw_i ?_;intro K hK)|((with_reducible refine cond_t ?hc ?_);(case hc=>rfl))|((with_reducible refine cond_f ?hc ?_);(case hc=>rfl))|((with_reducible refine cond_m ?_);refine And.intro ?_ ?_;all_goals(intro hb;(try simp only [sb] at hb);try exact ex0))|(refine hK _ ?_;clear hK K)|(refine hK _ _ rfl ?_;clear hK K)|(have hg:=hK;clear hg;first|(refine And.intro ?zz ?_;case zz=>first|exact rfl|exact zO rfl|omega|exact gI)|(refine fresh_n ?_)|(refine freshO_n ?_)|(refine at_Q ?_;intro hu)|(refine zP wA ?_)|(refine mul_Q ?_;intro hm1 hm2)|(refine zP at_M ?_)|(refine zP rfl ?_)|(refine zQ (rEqS_ok a.names b.names (le62 na.names) (le62 nb.names)) ?_)|(refine zQ (rlists_ok a.parents b.parents (le62 na.parents) (le62 nb.parents) (fun x h => le62 (na.parent x h)) (fun x h => le62 (nb.parent x h))) ?_)|(refine And.intro ?_ ?_;all_goals(intro hb;(try simp only [sb] at hb);try exact ex0))|(intro b0 hb)))
  · exact And.intro trivial (fz_con (congrArg Value.bool (by
      have : strEq a.name b.name = false := by simpa [strEq] using (by assumption : ¬ a.name.toList = b.name.toList)
      simp [sameNt, this])))
  · exact And.intro trivial (fz_con (congrArg Value.bool (by
      have : allEq (allEq strEq) a.values b.values = false := allEq_len (by omega)
      simp [sameNt, this])))
  · exact And.intro trivial (fz_con (congrArg Value.bool (by
      have : allEq (allEq ratEq) a.tables b.tables = false := allEq_len (by omega)
      simp [sameNt, this])))
  · refine loop_i (Nat × Bool) (fun z => ⟨Tryz.f29.ntmps, [(2, .ref 0 0 0 0), (3, .ref 1 0 0 0), (5, .con (.bool z.2)), (6, .con (.int .i64 z.1))], [(1, bxNt b), (0, bxNt a)]⟩)
      (fun z => z.1 ≤ a.values.length ∧ (z.2 && allEq (allEq strEq) (a.values.drop z.1) (b.values.drop z.1)) = (allEq strEq a.names b.names && allEq (allEq intEq) a.parents b.parents && allEq (allEq strEq) a.values b.values))
      (fun z => a.values.length - z.1) [] (0, s0) trivial ⟨Nat.zero_le _, by rw [hs0]; rfl⟩ ⟨rfl, ⟨rfl, rfl, rfl, rfl, rfl, trivial, rfl, trivial, trivial⟩, ⟨rfl, rfl, trivial⟩, ⟨bx_cl b, bx_cl a, trivial⟩⟩ ?_
    rintro ⟨i, s⟩ ⟨h0, h1⟩
    dsimp only at h0 h1
    repeat' (first|(with_reducible first|refine zA ?_|refine zB ?_|refine zC ?_|refine zD ?_|refine zE ?_|refine zF ?_|refine zG ?_|refine zH ?_|refine zI ?_|refine zJ ?_|refine zK ?_|refine zL ?_)|(with_reducible refine reg_i ?_;intro K hK)|(with_reducible refine drw_i ?_;intro K hK)|((with_reducible refine cond_t ?hc ?_);(case hc=>rfl))|((with_reducible refine cond_f ?hc ?_);(case hc=>rfl))|((with_reducible refine cond_m ?_);refine And.intro ?_ ?_;all_goals(intro hb;(try simp only [sb] at hb);try exact ex0))|(refine hK _ ?_;clear hK K)|(refine hK _ _ rfl ?_;clear hK K)|(have hg:=hK;clear hg;first|(refine And.intro ?zz ?_;case zz=>first|exact rfl|exact zO rfl|omega|exact gI)|(refine fresh_n ?_)|(refine freshO_n ?_)|(refine at_Q ?_;intro hu)|(refine zP wA ?_)|(refine mul_Q ?_;intro hm1 hm2)|(refine zP at_M ?_)|(refine zP rfl ?_)|(refine zQ (rEqS_ok (a.values.getD i default) (b.values.getD i default) (le62 (na.value _ (getD_mem (by omega)))) (le62 (nb.value _ (getD_mem (by omega))))) ?_)|(refine And.intro ?_ ?_;all_goals(intro hb;(try simp only [sb] at hb);try exact ex0))|(intro b0 hb)))
    · exact ⟨(i + 1, allEq strEq (a.values.getD i default) (b.values.getD i default)), ⟨by show i + 1 ≤ _; omega, by
        dsimp only; rw [← h1, allEq_step (i := i) hl2 (by omega), hb, Bool.true_and]⟩, by show _ - (i + 1) < _ - i; omega, rfl, ⟨rfl, rfl, rfl, rfl, rfl, trivial, rfl, trivial, trivial⟩, ⟨rfl, rfl, trivial⟩, ⟨bx_cl b, bx_cl a, trivial⟩⟩
    · exact ⟨(i + 1, false), ⟨by show i + 1 ≤ _; omega, by
        dsimp only; rw [← h1, hb, Bool.false_and, Bool.false_and]⟩, by show _ - (i + 1) < _ - i; omega, rfl, ⟨rfl, rfl, rfl, rfl, rfl, trivial, rfl, trivial, trivial⟩, ⟨rfl, rfl, trivial⟩, ⟨bx_cl b, bx_cl a, trivial⟩⟩
    rw [allEq_end hl2 (by omega), Bool.and_true] at h1
    clear hb
    refine loop_i (Nat × Bool) (fun z => ⟨Tryz.f29.ntmps, [(2, .ref 0 0 0 0), (3, .ref 1 0 0 0), (5, .con (.bool z.2)), (7, .con (.int .i64 z.1))], [(1, bxNt b), (0, bxNt a)]⟩)
      (fun z => z.1 ≤ a.tables.length ∧ (z.2 && allEq (allEq ratEq) (a.tables.drop z.1) (b.tables.drop z.1)) = sameNt a b)
      (fun z => a.tables.length - z.1) [] (0, s) trivial ⟨Nat.zero_le _, by rw [h1]; show (_ && allEq (allEq ratEq) a.tables b.tables) = _; rw [sameNt, hn0]; simp only [Bool.true_and, Bool.and_assoc]; rw [Bool.and_left_comm (allEq (allEq intEq) _ _)]⟩ ⟨rfl, ⟨rfl, rfl, rfl, rfl, rfl, trivial, rfl, trivial, trivial⟩, ⟨rfl, rfl, trivial⟩, ⟨bx_cl b, bx_cl a, trivial⟩⟩ ?_
    clear h0 h1
    rintro ⟨i, s⟩ ⟨h0, h1⟩
    dsimp only at h0 h1
    repeat' (first|(refine seq_j (a := Code.region 11 _ _) Bool (fun s' => ⟨Tryz.f29.ntmps, [(2, .ref 0 0 0 0), (3, .ref 1 0 0 0), (5, .con (.bool s')), (7, .con (.int .i64 i))], [(1, bxNt b), (0, bxNt a)]⟩) (fun s' => i < a.tables.length ∧ (s' = true → (a.tables.getD i default).length = (b.tables.getD i default).length) ∧ (s' && allEq ratEq (a.tables.getD i default) (b.tables.getD i default)) = (s && allEq ratEq (a.tables.getD i default) (b.tables.getD i default))) (fun s0 ⟨hi, hs1, hs2⟩ => ?_) (fun R hR => ?_))|(with_reducible first|refine zA ?_|refine zB ?_|refine zC ?_|refine zD ?_|refine zE ?_|refine zF ?_|refine zG ?_|refine zH ?_|refine zI ?_|refine zJ ?_|refine zK ?_|refine zL ?_)|(with_reducible refine reg_i ?_;intro K hK)|(with_reducible refine drw_i ?_;intro K hK)|((with_reducible refine cond_t ?hc ?_);(case hc=>rfl))|((with_reducible refine cond_f ?hc ?_);(case hc=>rfl))|((with_reducible refine cond_m ?_);refine And.intro ?_ ?_;all_goals(intro hb;(try simp only [sb] at hb);try exact ex0))|(refine hK _ ?_;clear hK K)|(refine hK _ _ rfl ?_;clear hK K)|(have hg:=hK;clear hg;first|(refine And.intro ?zz ?_;case zz=>first|exact rfl|exact zO rfl|omega|exact gI)|(refine fresh_n ?_)|(refine freshO_n ?_)|(refine at_Q ?_;intro hu)|(refine zP wA ?_)|(refine mul_Q ?_;intro hm1 hm2)|(refine zP at_M ?_)|(refine zP rfl ?_)|(refine And.intro ?_ ?_;all_goals(intro hb;(try simp only [sb] at hb);try exact ex0))|(intro b0 hb)))
    · obtain ⟨x, hx⟩ : ∃ x, a.tables.getD i default = x := ⟨_, rfl⟩
      obtain ⟨y, hy⟩ : ∃ y, b.tables.getD i default = y := ⟨_, rfl⟩
      have hxl := na.table _ (getD_mem hi)
      have hyl := nb.table _ (getD_mem (l := b.tables) (i := i) (by omega))
      have hxr := na.rat _ (getD_mem hi)
      have hyr := nb.rat _ (getD_mem (l := b.tables) (i := i) (by omega))
      rw [hx] at hxl hxr
      rw [hy] at hyl hyr
      rw [hx, hy] at hs1 hs2
      refine loop_i (Nat × Bool) (fun z => ⟨Tryz.f29.ntmps, [(2, .ref 0 0 0 0), (3, .ref 1 0 0 0), (5, .con (.bool z.2)), (7, .con (.int .i64 i)), (8, .con (.int .i64 z.1))], [(1, bxNt b), (0, bxNt a)]⟩)
        (fun z => z.1 ≤ x.length ∧ (z.2 = true → x.length = y.length) ∧ (z.2 && allEq ratEq (x.drop z.1) (y.drop z.1)) = (s && allEq ratEq x y))
        (fun z => x.length - z.1) [] (0, s0) trivial ⟨Nat.zero_le _, hs1, hs2⟩ ⟨rfl, ⟨rfl, rfl, rfl, rfl, rfl, trivial, rfl, trivial, rfl, trivial, trivial⟩, ⟨rfl, rfl, trivial⟩, ⟨bx_cl b, bx_cl a, trivial⟩⟩ ?_
      clear hs1 hs2
      rintro ⟨k, s2⟩ ⟨g0, g1, g2⟩
      dsimp only at g0 g1 g2
      repeat' (first|(first | (refine at_x hx (by rw [← hx]; have h9 := (by assumption : (k : Int) < ((a.tables.getD i default).length : Nat)); omega) ?_; intro hk) | (refine at_x hy (by have h9 := g1 (by assumption); omega) ?_; intro hk2))|(with_reducible first|refine zA ?_|refine zB ?_|refine zC ?_|refine zD ?_|refine zE ?_|refine zF ?_|refine zG ?_|refine zH ?_|refine zI ?_|refine zJ ?_|refine zK ?_|refine zL ?_)|(with_reducible refine reg_i ?_;intro K hK)|(with_reducible refine drw_i ?_;intro K hK)|((with_reducible refine cond_t ?hc ?_);(case hc=>rfl))|((with_reducible refine cond_f ?hc ?_);(case hc=>rfl))|((with_reducible refine cond_m ?_);refine And.intro ?_ ?_;all_goals(intro hb;(try simp only [sb] at hb);try exact ex0))|(refine hK _ ?_;clear hK K)|(refine hK _ _ rfl ?_;clear hK K)|(have hg:=hK;clear hg;first|(refine And.intro ?zz ?_;case zz=>first|exact rfl|exact zO rfl|omega|exact gI)|(refine fresh_n ?_)|(refine freshO_n ?_)|(refine at_Q ?_;intro hu)|(refine zP wA ?_)|(refine mul_Q ?_;intro hm1 hm2)|(refine zP at_M ?_)|(refine zP rfl ?_)|(refine zQ (rCmpR_ok (x.getD k default).neg (y.getD k default).neg (x.getD k default).mag (x.getD k default).den (y.getD k default).mag (y.getD k default).den (hxr _ (getD_mem (by omega))).1 (hxr _ (getD_mem (by omega))).2 (hyr _ (getD_mem (by omega))).1 (hyr _ (getD_mem (by omega))).2) ?_)|(refine And.intro ?_ ?_;all_goals(intro hb;(try simp only [sb] at hb);try exact ex0))|(intro b0 hb)))
      · refine ⟨(k + 1, ratEq (x.getD k default) (y.getD k default)), ⟨by show k + 1 ≤ _; omega, fun _ => g1 (by assumption), ?_⟩, by show _ - (k + 1) < _ - k; omega, rfl, ⟨rfl, rfl, rfl, rfl, rfl, trivial, rfl, trivial, rfl, trivial, trivial⟩, ⟨rfl, rfl, trivial⟩, ⟨bx_cl b, bx_cl a, trivial⟩⟩
        rw [← g2, (by assumption : s2 = true), allEq_step (i := k) (g1 (by assumption)) hk, Bool.true_and]
      · have hk : x.length ≤ k := by rw [← hx]; have h9 := (by assumption : ((a.tables.getD i default).length : Nat) ≤ (k : Int)); omega
        refine ⟨(i + 1, s2), ⟨by show i + 1 ≤ _; omega, ?_⟩, by show _ - (i + 1) < _ - i; omega, rfl, ⟨rfl, rfl, rfl, rfl, rfl, trivial, rfl, trivial, trivial⟩, ⟨rfl, rfl, trivial⟩, ⟨bx_cl b, bx_cl a, trivial⟩⟩
        rw [allEq_end (g1 (by assumption)) hk, Bool.and_true] at g2
        dsimp only
        rw [← h1, allEq_step (i := i) hl4 hi, g2, hx, hy, Bool.and_assoc]
      · refine ⟨(i + 1, s2), ⟨by show i + 1 ≤ _; omega, ?_⟩, by show _ - (i + 1) < _ - i; omega, rfl, ⟨rfl, rfl, rfl, rfl, rfl, trivial, rfl, trivial, trivial⟩, ⟨rfl, rfl, trivial⟩, ⟨bx_cl b, bx_cl a, trivial⟩⟩
        rw [hb, Bool.false_and] at g2
        dsimp only
        rw [← h1, allEq_step (i := i) hl4 hi, ← Bool.and_assoc, hx, hy, ← g2, hb, Bool.false_and]
    · refine hR _ _ ⟨by omega, ?_, ?_⟩ ⟨rfl, ⟨rfl, rfl, rfl, rfl, rfl, trivial, rfl, trivial, trivial⟩, ⟨rfl, rfl, trivial⟩, ⟨bx_cl b, bx_cl a, trivial⟩⟩
      · intro h
        have h := beq_iff_eq.1 h
        rw [List.length_map, List.length_map] at h
        exact Int.ofNat.inj h
      · rw [hb, Bool.true_and]
        cases h : (((List.map tRt (a.tables.getD i default)).length : Int) == ((List.map tRt (b.tables.getD i default)).length : Int)) with
        | true => exact (congrArg (fun z => z && allEq ratEq (a.tables.getD i default) (b.tables.getD i default)) h).trans (Bool.true_and _)
        | false =>
          refine (congrArg (fun z => z && allEq ratEq (a.tables.getD i default) (b.tables.getD i default)) h).trans ?_
          have h := beq_eq_false_iff_ne.1 h
          rw [List.length_map, List.length_map] at h
          rw [allEq_len fun h9 => h (congrArg Int.ofNat h9)]
          rfl
    · exact hR _ false ⟨by omega, fun h => Bool.noConfusion h, by simp [hb]⟩ ⟨rfl, ⟨rfl, rfl, rfl, rfl, rfl, trivial, rfl, trivial, trivial⟩, ⟨rfl, rfl, trivial⟩, ⟨bx_cl b, bx_cl a, trivial⟩⟩
    · refine And.intro trivial (fz_con (congrArg Value.bool ?_))
      rw [← h1, allEq_end hl4 (by omega), Bool.and_true]
  · exact hR _ (allEq (allEq intEq) a.parents b.parents) ⟨by simpa [strEq] using (by assumption : a.name.toList = b.name.toList), by omega, by omega, by simp [hb]⟩ ⟨rfl, ⟨rfl, rfl, rfl, rfl, rfl, trivial, trivial⟩, ⟨rfl, rfl, trivial⟩, ⟨bx_cl b, bx_cl a, trivial⟩⟩
  · exact hR _ false ⟨by simpa [strEq] using (by assumption : a.name.toList = b.name.toList), by omega, by omega, by simp [hb]⟩ ⟨rfl, ⟨rfl, rfl, rfl, rfl, rfl, trivial, trivial⟩, ⟨rfl, rfl, trivial⟩, ⟨bx_cl b, bx_cl a, trivial⟩⟩
