import Derived.Test.YtekgeekghclfaaaGreatLe
import Derived.Test.YtekgeekghclfaaaGreatTy
set_option linter.all false
namespace Go.Ev
open Go.Proofs
set_option maxRecDepth 10000
set_option maxHeartbeats 4000000
set_option linter.unusedSimpArgs false
set_option linter.unusedVariables false
theorem mix : Tryz.prog.follows .mixedOrders = true := by kernel_rfl
theorem wrapI {a : Int} (h0 : -9223372036854775808 ≤ a) (h1 : a ≤ 9223372036854775807) : a = IntKind.i64.wrap a := by rw [IntKind.wrap_i64]; omega
theorem wrapU32 {a : Int} (h0 : 0 ≤ a) (h1 : a < 4294967296) : a = IntKind.u32.wrap a := by
  simp [IntKind.wrap, IntKind.bits, IntKind.signed]; omega
theorem wrapU64 {a : Int} (h0 : 0 ≤ a) (h1 : a < 18446744073709551616) : a = IntKind.u64.wrap a := by
  simp [IntKind.wrap, IntKind.bits, IntKind.signed]; omega
def kmin : IntKind → Int
  | .i8 => -128 | .i16 => -32768 | .i32 => -2147483648 | .i64 => -9223372036854775808 | _ => 0
def kmax : IntKind → Int
  | .i8 => 127 | .i16 => 32767 | .i32 => 2147483647 | .i64 => 9223372036854775807 | .u8 => 255 | .u16 => 65535 | .u32 => 4294967295 | .u64 => 18446744073709551615
theorem wrapAny {k : IntKind} {a : Int} (h0 : kmin k ≤ a) (h1 : a ≤ kmax k) : a = k.wrap a := by
  cases k <;> simp only [kmin, kmax] at h0 h1 <;> simp [IntKind.wrap, IntKind.bits, IntKind.signed] <;> omega
theorem wA {k : IntKind} {a : Int} (h0 : kmin k ≤ a := by first|(simp only [kmin,kmax];omega)|(simp only [kmin,kmax,ln];omega)) (h1 : a ≤ kmax k := by first|(simp only [kmin,kmax];omega)|(simp only [kmin,kmax,ln];omega)) : a = k.wrap a := wrapAny h0 h1
def tu32 (x : UInt32) : T := .con (.int .u32 x.toNat)
def cu (x : UInt32) : V := .con (.int .u32 x.toNat)
def tn (l : List UInt32) : T := .sl (l.map tu32)
theorem trim_ok (l : List UInt32) (hl : l.length ≤ 140737488355328) : Ok Tryz.prog 86 [.sl (l.map tu32)] false (.sl ((norm l).map tu32)) := by
  refine ok_of_ev (fun _ _ _ h => h) mix Tryz.func86 rfl rfl (by kernel_rfl) (Nat.le_of_ble_eq_true rfl) ?_
  repeat' (first|(with_reducible first|refine zA ?_|refine zB ?_|refine zC ?_|refine zD ?_|refine zE ?_|refine zF ?_|refine zG ?_|refine zH ?_|refine zI ?_|refine zJ ?_|refine zK ?_|refine zL ?_)|(with_reducible refine reg_i ?_;intro K hK)|(with_reducible refine drw_i ?_;intro K hK)|((with_reducible refine cond_t ?hc ?_);(case hc=>rfl))|((with_reducible refine cond_f ?hc ?_);(case hc=>rfl))|((with_reducible refine cond_m ?_);refine And.intro ?_ ?_;all_goals(intro hb;(try simp only [sb] at hb);try exact ex0))|(refine hK _ ?_;clear hK K)|(refine hK _ _ rfl ?_;clear hK K)|(have hg:=hK;clear hg;first|(refine And.intro ?zz ?_;case zz=>first|exact rfl|exact zO rfl|omega|exact gI)|(refine fresh_n ?_)|(refine freshO_n ?_)|(refine at_Q ?_;intro hu)|(refine zP wA ?_)|(refine mul_Q ?_;intro hm1 hm2)|(refine zP at_M ?_)|(refine zP rfl ?_)|(refine And.intro ?_ ?_;all_goals(intro hb;(try simp only [sb] at hb);try exact ex0))|(intro b0 hb)))
  refine loop_i (List UInt32) (fun l' => ⟨21, [(0, .ro false (.sl (l'.map tu32)))], []⟩) (fun l' => norm l' = norm l ∧ l'.length ≤ l.length) (fun l' => l'.length) [] l trivial ⟨rfl, Nat.le_refl _⟩ ⟨rfl, ⟨rfl, trivial, trivial⟩, trivial, trivial⟩ ?_
  rintro l' ⟨hl', hle⟩
  repeat' (first|(with_reducible first|refine zA ?_|refine zB ?_|refine zC ?_|refine zD ?_|refine zE ?_|refine zF ?_|refine zG ?_|refine zH ?_|refine zI ?_|refine zJ ?_|refine zK ?_|refine zL ?_)|(with_reducible refine reg_i ?_;intro K hK)|(with_reducible refine drw_i ?_;intro K hK)|((with_reducible refine cond_t ?hc ?_);(case hc=>rfl))|((with_reducible refine cond_f ?hc ?_);(case hc=>rfl))|((with_reducible refine cond_m ?_);refine And.intro ?_ ?_;all_goals(intro hb;(try simp only [sb] at hb);try exact ex0))|(refine hK _ ?_;clear hK K)|(refine hK _ _ rfl ?_;clear hK K)|(have hg:=hK;clear hg;first|(refine And.intro ?zz ?_;case zz=>first|exact rfl|exact zO rfl|omega|exact gI)|(refine fresh_n ?_)|(refine freshO_n ?_)|(refine at_Q ?_;intro hu)|(refine zP wA ?_)|(refine mul_Q ?_;intro hm1 hm2)|(refine zP at_M ?_)|(refine zP rfl ?_)|(refine And.intro ?_ ?_;all_goals(intro hb;(try simp only [sb] at hb);try exact ex0))|(intro b0 hb)))
  · rename_i h0
    have e : (↑l'.length - 1 : Int).toNat = l'.length - 1 := by omega
    rw [e] at hb
    have hb := norm_drop (UInt32.toNat_inj.mp (Int.ofNat.inj hb))
    refine ⟨l'.take (l'.length - 1), ⟨hb.trans hl', by simp; omega⟩, by simp; omega, rfl, ⟨?_, trivial, trivial⟩, trivial, trivial⟩
    refine congrArg (fun x => V.ro false (.sl x)) ?_
    simp [List.map_take]
    try congr 1
    try omega
  · rename_i h0
    refine And.intro trivial (fz_ro (congrArg T.sl (congrArg _ ?_)) fun h => h)
    have e : (↑l'.length - 1 : Int).toNat = l'.length - 1 := by omega
    rw [e] at hb
    rw [← hl', norm_last fun h => hb (congrArg (fun x : UInt32 => Int.ofNat x.toNat) h)]
  · refine And.intro trivial (fz_ro (congrArg T.sl (congrArg _ ?_)) fun h => h)
    have : l' = [] := List.eq_nil_of_length_eq_zero (by omega)
    subst this; rw [← hl']; rfl
theorem clone_ok (l : List UInt32) (hl : l.length ≤ 2199023255552) : Ok Tryz.prog 104 [tn l] true (tn l) := by
  refine ok_of_ev (fun _ _ _ h => h) mix Tryz.func104 rfl rfl (by kernel_rfl) (Nat.le_of_ble_eq_true rfl) ?_
  repeat' (first|(with_reducible first|refine zA ?_|refine zB ?_|refine zC ?_|refine zD ?_|refine zE ?_|refine zF ?_|refine zG ?_|refine zH ?_|refine zI ?_|refine zJ ?_|refine zK ?_|refine zL ?_)|(with_reducible refine reg_i ?_;intro K hK)|(with_reducible refine drw_i ?_;intro K hK)|((with_reducible refine cond_t ?hc ?_);(case hc=>rfl))|((with_reducible refine cond_f ?hc ?_);(case hc=>rfl))|((with_reducible refine cond_m ?_);refine And.intro ?_ ?_;all_goals(intro hb;(try simp only [sb] at hb);try exact ex0))|(refine hK _ ?_;clear hK K)|(refine hK _ _ rfl ?_;clear hK K)|(have hg:=hK;clear hg;first|(refine And.intro ?zz ?_;case zz=>first|exact rfl|exact zO rfl|omega|exact gI)|(refine fresh_n ?_)|(refine freshO_n ?_)|(refine at_Q ?_;intro hu)|(refine zP wA ?_)|(refine mul_Q ?_;intro hm1 hm2)|(refine zP at_M ?_)|(refine zP rfl ?_)|(refine And.intro ?_ ?_;all_goals(intro hb;(try simp only [sb] at hb);try exact ex0))|(intro b0 hb)))
  · rename_i h
    refine And.intro trivial (fz_emp ?_)
    simpa [tn] using (h hb).symm
  · refine And.intro trivial (fz_own (l := l) (F := fun x => V.con (.int .u32 x.toNat)) (G := tu32) rfl rfl rfl ?_ ?_ (fun a _ => fze_con _) rfl)
    · simp
    · show List.take _ (List.drop 0 (List.take 0 [] ++ _)) = _
      simp [Function.comp_def, tu32, V.ofA, V.ofT1, List.take_of_length_le]
theorem own_ok (l : List UInt32) (hl : l.length ≤ 2199023255552) : Ok Tryz.prog 87 [tn l] true (tn (norm l)) := by
  refine ok_of_ev (fun _ _ _ h => h) mix Tryz.func87 rfl rfl (by kernel_rfl) (Nat.le_of_ble_eq_true rfl) ?_
  have hn := norm_le l
  repeat' (first|(with_reducible first|refine zA ?_|refine zB ?_|refine zC ?_|refine zD ?_|refine zE ?_|refine zF ?_|refine zG ?_|refine zH ?_|refine zI ?_|refine zJ ?_|refine zK ?_|refine zL ?_)|(with_reducible refine reg_i ?_;intro K hK)|(with_reducible refine drw_i ?_;intro K hK)|((with_reducible refine cond_t ?hc ?_);(case hc=>rfl))|((with_reducible refine cond_f ?hc ?_);(case hc=>rfl))|((with_reducible refine cond_m ?_);refine And.intro ?_ ?_;all_goals(intro hb;(try simp only [sb] at hb);try exact ex0))|(refine hK _ ?_;clear hK K)|(refine hK _ _ rfl ?_;clear hK K)|(have hg:=hK;clear hg;first|(refine And.intro ?zz ?_;case zz=>first|exact rfl|exact zO rfl|omega|exact gI)|(refine fresh_n ?_)|(refine freshO_n ?_)|(refine at_Q ?_;intro hu)|(refine zP wA ?_)|(refine mul_Q ?_;intro hm1 hm2)|(refine zP at_M ?_)|(refine zP rfl ?_)|(refine zQ (trim_ok l (by omega)) ?_)|(refine zQ (clone_ok (norm l) (by omega)) ?_)|(refine And.intro ?_ ?_;all_goals(intro hb;(try simp only [sb] at hb);try exact ex0))|(intro b0 hb)))
  · refine And.intro trivial (fz_emp ?_)
    have : norm l = [] := List.eq_nil_of_length_eq_zero (by omega)
    rw [this]; rfl
  · refine And.intro trivial (fz_ro rfl fun h => h)
theorem Norm_ok (l : List UInt32) (hl : l.length ≤ 2199023255552) : Ok Tryz.prog 60 [tn l] true (tn (norm l)) := by
  refine ok_of_ev (fun _ _ _ h => h) mix Tryz.func60 rfl rfl (by kernel_rfl) (Nat.le_of_ble_eq_true rfl) ?_
  repeat' (first|(with_reducible first|refine zA ?_|refine zB ?_|refine zC ?_|refine zD ?_|refine zE ?_|refine zF ?_|refine zG ?_|refine zH ?_|refine zI ?_|refine zJ ?_|refine zK ?_|refine zL ?_)|(with_reducible refine reg_i ?_;intro K hK)|(with_reducible refine drw_i ?_;intro K hK)|((with_reducible refine cond_t ?hc ?_);(case hc=>rfl))|((with_reducible refine cond_f ?hc ?_);(case hc=>rfl))|((with_reducible refine cond_m ?_);refine And.intro ?_ ?_;all_goals(intro hb;(try simp only [sb] at hb);try exact ex0))|(refine hK _ ?_;clear hK K)|(refine hK _ _ rfl ?_;clear hK K)|(have hg:=hK;clear hg;first|(refine And.intro ?zz ?_;case zz=>first|exact rfl|exact zO rfl|omega|exact gI)|(refine fresh_n ?_)|(refine freshO_n ?_)|(refine at_Q ?_;intro hu)|(refine zP wA ?_)|(refine mul_Q ?_;intro hm1 hm2)|(refine zP at_M ?_)|(refine zP rfl ?_)|(refine zQ (own_ok l hl) ?_)|(refine And.intro ?_ ?_;all_goals(intro hb;(try simp only [sb] at hb);try exact ex0))|(intro b0 hb)))
  · refine And.intro trivial (fz_ro rfl fun h => h)
theorem Of_ok (u : UInt64) : Ok Tryz.prog 61 [.con (.int .u64 u.toNat)] true (tn (norm [u.toUInt32, (u >>> 32).toUInt32])) := by
  refine ok_of_ev (fun _ _ _ h => h) mix Tryz.func61 rfl rfl (by kernel_rfl) (Nat.le_of_ble_eq_true rfl) ?_
  repeat' (first|(with_reducible first|refine zA ?_|refine zB ?_|refine zC ?_|refine zD ?_|refine zE ?_|refine zF ?_|refine zG ?_|refine zH ?_|refine zI ?_|refine zJ ?_|refine zK ?_|refine zL ?_)|(with_reducible refine reg_i ?_;intro K hK)|(with_reducible refine drw_i ?_;intro K hK)|((with_reducible refine cond_t ?hc ?_);(case hc=>rfl))|((with_reducible refine cond_f ?hc ?_);(case hc=>rfl))|((with_reducible refine cond_m ?_);refine And.intro ?_ ?_;all_goals(intro hb;(try simp only [sb] at hb);try exact ex0))|(refine hK _ ?_;clear hK K)|(refine hK _ _ rfl ?_;clear hK K)|(have hg:=hK;clear hg;first|(refine And.intro ?zz ?_;case zz=>first|exact rfl|exact zO rfl|omega|exact gI)|(refine fresh_n ?_)|(refine freshO_n ?_)|(refine at_Q ?_;intro hu)|(refine zP wA ?_)|(refine mul_Q ?_;intro hm1 hm2)|(refine zP at_M ?_)|(refine zP rfl ?_)|(refine And.intro ?_ ?_;all_goals(intro hb;(try simp only [sb] at hb);try exact ex0))|(intro b0 hb)))
  refine Or.inl (Exists.intro _ (Exists.intro _ (Exists.intro _ (And.intro (own_ok [u.toUInt32, (u >>> 32).toUInt32] (by simp)) (Exists.intro [(0, ?o)] (And.intro (lpre1 ?ho) (And.intro ?z (And.intro rfl ?_))))))))
  case ho => exact rfl
  case z =>
    refine fzl1 (fz_own (l := [u.toUInt32, (u >>> 32).toUInt32]) (F := fun x => V.con (.int .u32 x.toNat)) (G := tu32) rfl rfl rfl rfl ?_ (fun a _ => fze_con _) rfl)
    have e1 : IntKind.u32.wrap u.toNat = u.toUInt32.toNat := by simp [IntKind.wrap, IntKind.bits, IntKind.signed]
    have e2 : IntKind.u32.wrap ((u.toNat : Int).fdiv (2 ^ 32)) = ((u >>> 32).toUInt32).toNat := by
      simp [IntKind.wrap, IntKind.bits, IntKind.signed, Int.fdiv_eq_ediv, Nat.shiftRight_eq_div_pow]
    show [V.con (.int .u32 (IntKind.u32.wrap u.toNat)), V.con (.int .u32 (IntKind.u32.wrap ((u.toNat : Int).fdiv (2 ^ 32))))] = _
    rw [e1, e2]; rfl
  repeat' (first|(with_reducible first|refine zA ?_|refine zB ?_|refine zC ?_|refine zD ?_|refine zE ?_|refine zF ?_|refine zG ?_|refine zH ?_|refine zI ?_|refine zJ ?_|refine zK ?_|refine zL ?_)|(with_reducible refine reg_i ?_;intro K hK)|(with_reducible refine drw_i ?_;intro K hK)|((with_reducible refine cond_t ?hc ?_);(case hc=>rfl))|((with_reducible refine cond_f ?hc ?_);(case hc=>rfl))|((with_reducible refine cond_m ?_);refine And.intro ?_ ?_;all_goals(intro hb;(try simp only [sb] at hb);try exact ex0))|(refine hK _ ?_;clear hK K)|(refine hK _ _ rfl ?_;clear hK K)|(have hg:=hK;clear hg;first|(refine And.intro ?zz ?_;case zz=>first|exact rfl|exact zO rfl|omega|exact gI)|(refine fresh_n ?_)|(refine freshO_n ?_)|(refine at_Q ?_;intro hu)|(refine zP wA ?_)|(refine mul_Q ?_;intro hm1 hm2)|(refine zP at_M ?_)|(refine zP rfl ?_)|(refine And.intro ?_ ?_;all_goals(intro hb;(try simp only [sb] at hb);try exact ex0))|(intro b0 hb)))
  · exact And.intro trivial (fz_ro rfl fun h => h)
theorem Cmp_ok (a b : List UInt32) (ha : a.length ≤ 2199023255552) (hb : b.length ≤ 2199023255552) : Ok Tryz.prog 98 [tn a, tn b] false (.con (.int .i64 (cmpN (val a) (val b)))) := by
  refine ok_of_ev (fun _ _ _ h => h) mix Tryz.func98 rfl rfl (by kernel_rfl) (Nat.le_of_ble_eq_true rfl) ?_
  have hna := norm_le a
  have hnb := norm_le b
  repeat' (first|(with_reducible first|refine zA ?_|refine zB ?_|refine zC ?_|refine zD ?_|refine zE ?_|refine zF ?_|refine zG ?_|refine zH ?_|refine zI ?_|refine zJ ?_|refine zK ?_|refine zL ?_)|(with_reducible refine reg_i ?_;intro K hK)|(with_reducible refine drw_i ?_;intro K hK)|((with_reducible refine cond_t ?hc ?_);(case hc=>rfl))|((with_reducible refine cond_f ?hc ?_);(case hc=>rfl))|((with_reducible refine cond_m ?_);refine And.intro ?_ ?_;all_goals(intro hb;(try simp only [sb] at hb);try exact ex0))|(refine hK _ ?_;clear hK K)|(refine hK _ _ rfl ?_;clear hK K)|(have hg:=hK;clear hg;first|(refine And.intro ?zz ?_;case zz=>first|exact rfl|exact zO rfl|omega|exact gI)|(refine fresh_n ?_)|(refine freshO_n ?_)|(refine at_Q ?_;intro hu)|(refine zP wA ?_)|(refine mul_Q ?_;intro hm1 hm2)|(refine zP at_M ?_)|(refine zP rfl ?_)|(refine zQ (trim_ok a (by omega)) ?_)|(refine zQ (trim_ok b (by omega)) ?_)|(refine And.intro ?_ ?_;all_goals(intro hb;(try simp only [sb] at hb);try exact ex0))|(intro b0 hb)))
  · exact And.intro trivial (fz_con (by rw [← val_norm a, ← val_norm b, cmpN_lt (can_len_lt (can_norm b) (by omega))]))
  · exact And.intro trivial (fz_con (by rw [← val_norm a, ← val_norm b, cmpN_gt (can_len_lt (can_norm a) (by omega))]))
  rw [← val_norm a, ← val_norm b]
  have hl : (norm a).length = (norm b).length := by omega
  have hx : (norm a).length ≤ 2199023255552 := by omega
  clear hna hnb hb
  generalize norm a = x at *
  generalize norm b = y at *
  refine loop_i Int (fun i => ⟨Tryz.f98.ntmps, [(0, .ro false (tn x)), (1, .ro false (tn y)), (5, .con (.int .i64 i))], []⟩) (fun i => -1 ≤ i ∧ i < x.length ∧ x.drop (i + 1).toNat = y.drop (i + 1).toNat) (fun i => (i + 1).toNat) [] (x.length - 1 : Int) trivial ⟨by omega, by omega, ?_⟩ ⟨rfl, ⟨rfl, trivial, rfl, trivial, ?_, trivial, trivial⟩, trivial, trivial⟩ ?_
  · have e : (↑x.length - 1 + 1 : Int).toNat = x.length := by omega
    rw [e, List.drop_eq_nil_of_le (Nat.le_refl _), List.drop_eq_nil_of_le (by omega)]
  · show V.con (.int .i64 (((x.map tu32).length : Int) - 1)) = _; rw [List.length_map]
  rintro i ⟨h0, h1, h2⟩
  repeat' (first|(with_reducible first|refine zA ?_|refine zB ?_|refine zC ?_|refine zD ?_|refine zE ?_|refine zF ?_|refine zG ?_|refine zH ?_|refine zI ?_|refine zJ ?_|refine zK ?_|refine zL ?_)|(with_reducible refine reg_i ?_;intro K hK)|(with_reducible refine drw_i ?_;intro K hK)|((with_reducible refine cond_t ?hc ?_);(case hc=>rfl))|((with_reducible refine cond_f ?hc ?_);(case hc=>rfl))|((with_reducible refine cond_m ?_);refine And.intro ?_ ?_;all_goals(intro hb;(try simp only [sb] at hb);try exact ex0))|(refine hK _ ?_;clear hK K)|(refine hK _ _ rfl ?_;clear hK K)|(have hg:=hK;clear hg;first|(refine And.intro ?zz ?_;case zz=>first|exact rfl|exact zO rfl|omega|exact gI)|(refine fresh_n ?_)|(refine freshO_n ?_)|(refine at_Q ?_;intro hu)|(refine zP wA ?_)|(refine mul_Q ?_;intro hm1 hm2)|(refine zP at_M ?_)|(refine zP rfl ?_)|(refine And.intro ?_ ?_;all_goals(intro hb;(try simp only [sb] at hb);try exact ex0))|(intro b0 hb)))
  · have e : i.toNat + 1 = (i + 1).toNat := by omega
    exact And.intro trivial (fz_con (by rw [cmpN_lt (val_top i.toNat x y hl (by omega) (by rw [e]; exact h2) (by omega))]))
  · have e : i.toNat + 1 = (i + 1).toNat := by omega
    exact And.intro trivial (fz_con (by rw [cmpN_gt (val_top i.toNat y x hl.symm (by omega) (by rw [e]; exact h2.symm) (by omega))]))
  · have e : i.toNat + 1 = (i + 1).toNat := by omega
    refine ⟨i - 1, ⟨by omega, by omega, ?_⟩, by omega, rfl, ⟨rfl, trivial, rfl, trivial, rfl, trivial, trivial⟩, trivial, trivial⟩
    rw [show i - 1 + 1 = i by omega]
    exact drop_eq_step hl (by omega) (by rw [e]; exact h2) (by omega)
  · rw [show (i + 1).toNat = 0 by omega] at h2
    have h2 : x = y := h2
    subst h2
    exact And.intro trivial (fz_con (by rw [cmpN_eq]))
