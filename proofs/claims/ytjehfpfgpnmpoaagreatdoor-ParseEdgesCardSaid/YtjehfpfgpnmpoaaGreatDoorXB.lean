/-
  OWN LAYER 'Ev', PART XB: WHAT IS COMPUTED IS WHAT THE STEPS SAY (scalars, memory).
-/
import Derived.Test.YtjehfpfgpnmpoaaGreatDoorEvI
set_option linter.all false
namespace Go.Ev

theorem ile_iff (a b : Int) : ile a b = decide (a ≤ b) := by
  cases a <;> cases b <;> simp only [ile, Int.ofNat_eq_natCast] <;> (rw [Bool.eq_iff_iff]; simp [Nat.ble_eq]; try omega)
theorem ieq_iff (a b : Int) : ieq a b = (a == b) := by
  cases a <;> cases b <;> simp only [ieq, Int.ofNat_eq_natCast] <;> (rw [Bool.eq_iff_iff]; simp [Nat.beq_eq]) <;> omega
theorem ilt_iff (a b : Int) : ilt a b = decide (a < b) := by
  unfold ilt; rw [ile_iff]; rw [Bool.eq_iff_iff]; simp
theorem keq_iff {a b : IntKind} (h : keq a b = true) : a = b := by cases a <;> cases b <;> first | rfl | cases h
theorem beqB_iff (a b : Bool) : beqB a b = (a == b) := by cases a <;> cases b <;> rfl

theorem xwrap_eq (k : IntKind) (n : Int) : xwrap k n = k.wrap n := by
  unfold xwrap
  split
  · rename_i m
    cases h : Nat.ble m 9223372036854775807 with
    | true =>
      have h := Nat.le_of_ble_eq_true h
      simp only [cond_true]
      rw [IntKind.wrap_i64]; simp only [Int.ofNat_eq_natCast]; omega
    | false => rfl
  · simp [IntKind.wrap, IntKind.bits, IntKind.signed]
  · simp [IntKind.wrap, IntKind.bits, IntKind.signed]
  · simp [IntKind.wrap, IntKind.bits, IntKind.signed]
  · rfl

theorem xint_s {op : BinOp} {k : IntKind} {a b : Int} {v : Value} (h : xint op k a b = some v) : sint op k a b (fun u => u = v) := by
  cases op <;> simp only [xint, Option.some.injEq] at h <;> simp only [sint]
  case add => subst h; exact ⟨_, rfl, by rw [xwrap_eq]⟩
  case sub => subst h; exact ⟨_, rfl, by rw [xwrap_eq]⟩
  case mul => subst h; exact ⟨_, rfl, by rw [xwrap_eq]⟩
  case quo =>
    cases hb : ieq b 0 with
    | true => rw [hb] at h; cases h
    | false =>
      rw [hb] at h
      simp only [cond_false, Option.some.injEq] at h
      subst h
      exact ⟨fun e => by rw [ieq_iff, e] at hb; simp at hb, _, rfl, by rw [xwrap_eq]⟩
  case rem =>
    cases hb : ieq b 0 with
    | true => rw [hb] at h; cases h
    | false =>
      rw [hb] at h
      simp only [cond_false, Option.some.injEq] at h
      subst h
      exact ⟨fun e => by rw [ieq_iff, e] at hb; simp at hb, _, rfl, rfl⟩
  case and => exact h
  case or => exact h
  case xor => exact h
  case eql => subst h; rw [ieq_iff]
  case neq => subst h; rw [ieq_iff]; rfl
  case lss => subst h; rw [ilt_iff]
  case leq => subst h; rw [ile_iff]
  case gtr => subst h; rw [ilt_iff]
  case geq => subst h; rw [ile_iff]
  all_goals cases h

theorem bytesEq_iff : ∀ (a b : List UInt8), bytesEq a b = (a == b)
  | [], [] => rfl
  | [], _ :: _ => rfl
  | _ :: _, [] => rfl
  | a :: r, b :: s => by
    unfold bytesEq
    rw [bytesEq_iff r s]
    cases h : Nat.beq a.toNat b.toNat with
    | true =>
      have : a = b := UInt8.toNat_inj.1 (Nat.eq_of_beq_eq_true h)
      subst this; simp
    | false =>
      have : a ≠ b := fun e => by subst e; simp [Nat.beq_eq] at h
      simp [this]

theorem bytesLt_iff : ∀ (a b : List UInt8), bytesLt a b = Op.bytesLess a b
  | [], [] => rfl
  | _ :: _, [] => rfl
  | [], _ :: _ => rfl
  | a :: r, b :: s => by
    unfold bytesLt Op.bytesLess
    rw [bytesLt_iff r s]
    by_cases h : a.toNat < b.toNat
    · have h1 : Nat.blt a.toNat b.toNat = true := by rw [Nat.blt_eq]; exact h
      have : a < b := UInt8.lt_iff_toNat_lt.2 h
      simp [h1, this]
    · have h1 : Nat.blt a.toNat b.toNat = false := by rw [← Bool.not_eq_true, Nat.blt_eq]; exact h
      have hn : ¬ a < b := fun e => h (UInt8.lt_iff_toNat_lt.1 e)
      cases h2 : Nat.beq a.toNat b.toNat with
      | true =>
        have : a = b := UInt8.toNat_inj.1 (Nat.eq_of_beq_eq_true h2)
        subst this; simp [h1]
      | false =>
        have : a ≠ b := fun e => by subst e; simp [Nat.beq_eq] at h2
        simp [hn, this, h1]

end Go.Ev
