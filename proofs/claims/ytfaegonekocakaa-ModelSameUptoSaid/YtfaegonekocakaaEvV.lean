/-
  PLAIN LAW: NATURAL NUMBERS AS LISTS OF LIMBS. No program in sight.
-/
set_option linter.all false
namespace Go.Ev

def norm (l : List UInt32) : List UInt32 := (l.reverse.dropWhile (· == 0)).reverse

theorem norm_last {l : List UInt32} (h : l.getD (l.length - 1) 0 ≠ 0) : norm l = l := by
  have hl : l ≠ [] := by rintro rfl; simp at h
  obtain ⟨y, x, rfl⟩ : ∃ y x, l = y ++ [x] := ⟨_, _, (List.dropLast_concat_getLast hl).symm⟩
  simp at h
  simp [norm, h]
theorem norm_nil : norm [] = [] := rfl
theorem norm_drop {l : List UInt32} (h : l.getD (l.length - 1) 0 = 0) : norm (l.take (l.length - 1)) = norm l := by
  rcases List.eq_nil_or_concat l with rfl | ⟨y, x, rfl⟩
  · rfl
  · simp at h; subst h; simp [norm]
theorem norm_le (l : List UInt32) : (norm l).length ≤ l.length := by
  have := (List.dropWhile_sublist (fun x : UInt32 => x == 0) (l := l.reverse)).length_le
  simpa [norm] using this

def val : List UInt32 → Nat
  | [] => 0
  | x :: r => x.toNat + 4294967296 * val r

theorem val_append : ∀ (a b : List UInt32), val (a ++ b) = val a + 4294967296 ^ a.length * val b
  | [], b => by simp [val]
  | x :: r, b => by simp only [List.cons_append, val, val_append r b, List.length_cons, Nat.pow_succ]; rw [Nat.mul_add, Nat.add_assoc, Nat.mul_comm (4294967296 ^ r.length) 4294967296, Nat.mul_assoc]

theorem val_lt : ∀ (a : List UInt32), val a < 4294967296 ^ a.length
  | [] => by simp [val]
  | x :: r => by
    have h1 := val_lt r; have h2 := x.toNat_lt
    simp only [val, List.length_cons, Nat.pow_succ]
    generalize 4294967296 ^ r.length = p at *
    omega

theorem val_norm (l : List UInt32) : val (norm l) = val l := by
  obtain ⟨r, rfl⟩ : ∃ r : List UInt32, l = r.reverse := ⟨l.reverse, by simp⟩
  simp only [norm, List.reverse_reverse]
  induction r with
  | nil => rfl
  | cons x r ih =>
    rw [List.dropWhile_cons]
    split
    · rename_i h
      have : x = 0 := by simpa using h
      subst this
      simp [val_append, val, ih]
    · rfl

/-- without noughts at its end -/
def Can (l : List UInt32) : Prop := l = [] ∨ l.getD (l.length - 1) 0 ≠ 0

theorem can_norm (l : List UInt32) : Can (norm l) := by
  obtain ⟨r, rfl⟩ : ∃ r : List UInt32, l = r.reverse := ⟨l.reverse, by simp⟩
  simp only [norm, List.reverse_reverse]
  induction r with
  | nil => exact .inl rfl
  | cons x r ih =>
    rw [List.dropWhile_cons]
    split
    · exact ih
    · rename_i h; right; simpa using h

theorem can_low {l : List UInt32} (h : Can l) (hl : l ≠ []) : 4294967296 ^ (l.length - 1) ≤ val l := by
  rcases h with h | h
  · exact absurd h hl
  · obtain ⟨y, x, rfl⟩ : ∃ y x, l = y ++ [x] := ⟨_, _, (List.dropLast_concat_getLast hl).symm⟩
    simp at h
    rw [val_append]
    have : 1 ≤ x.toNat := Nat.one_le_iff_ne_zero.2 fun h' => h (UInt32.toNat_inj.1 h')
    simp only [val, List.length_append, List.length_cons, List.length_nil, Nat.zero_add, Nat.add_sub_cancel, Nat.mul_zero, Nat.add_zero]
    have := Nat.mul_le_mul_left (4294967296 ^ y.length) this
    omega

theorem can_len_lt {a b : List UInt32} (hb : Can b) (h : a.length < b.length) : val a < val b := by
  have h1 := val_lt a
  have h2 := can_low hb (by rintro rfl; simp at h)
  have h3 : 4294967296 ^ a.length ≤ 4294967296 ^ (b.length - 1) := Nat.pow_le_pow_right (by decide) (by omega)
  omega

theorem val_top : ∀ (i : Nat) (a b : List UInt32), a.length = b.length → i < a.length → a.drop (i + 1) = b.drop (i + 1) → (a.getD i default).toNat < (b.getD i default).toNat → val a < val b
  | 0, x :: r, y :: s, _, _, h, h2 => by
    simp at h h2; subst h; simp only [val]; omega
  | i + 1, x :: r, y :: s, hl, hi, h, h2 => by
    have := val_top i r s (by simpa using hl) (by simpa using hi) (by simpa using h) (by simpa using h2)
    have := x.toNat_lt
    simp only [val]; omega
  | _, [], _, _, h, _, _ => absurd h (by simp)
  | 0, _ :: _, [], h, _, _, _ => absurd h (by simp)
  | _ + 1, _ :: _, [], h, _, _, _ => absurd h (by simp)

theorem drop_eq_step {a b : List UInt32} {i : Nat} (hl : a.length = b.length) (hi : i < a.length) (h : a.drop (i + 1) = b.drop (i + 1)) (he : (a.getD i default).toNat = (b.getD i default).toNat) : a.drop i = b.drop i := by
  have hi' : i < b.length := by omega
  rw [List.drop_eq_getElem_cons hi, List.drop_eq_getElem_cons hi', h]
  have := UInt32.toNat_inj.1 he
  simp [List.getD, hi, hi'] at this
  rw [this]

theorem can_unique : ∀ {a b : List UInt32}, Can a → Can b → val a = val b → a = b
  | [], [], _, _, _ => rfl
  | [], y :: s, _, hb, h => by
    have := can_low hb (by simp)
    have h2 : 0 < 4294967296 ^ ((y :: s).length - 1) := Nat.pow_pos (by decide)
    simp [val] at h this h2; omega
  | x :: r, [], ha, _, h => by
    have := can_low ha (by simp)
    have h2 : 0 < 4294967296 ^ ((x :: r).length - 1) := Nat.pow_pos (by decide)
    simp [val] at h this h2; omega
  | x :: r, y :: s, ha, hb, h => by
    have tl : ∀ (x : UInt32) (r : List UInt32), Can (x :: r) → Can r := by
      intro x r h
      rcases h with h | h
      · cases h
      · cases r with
        | nil => exact .inl rfl
        | cons y r => right; simpa using h
    have h1 := x.toNat_lt; have h2 := y.toNat_lt
    simp only [val] at h
    have hx : x.toNat = y.toNat := by omega
    rw [UInt32.toNat_inj.1 hx, can_unique (tl _ _ ha) (tl _ _ hb) (by omega)]

/-- a number's limbs -/
def lm (n : Nat) : List UInt32 := if n = 0 then [] else UInt32.ofNat n :: lm (n / 4294967296)
decreasing_by omega

theorem val_lm (n : Nat) : val (lm n) = n := by
  induction n using Nat.strongRecOn with
  | _ n ih =>
    rw [lm]; split
    · simp [val, *]
    · simp only [val, ih _ (by omega : n / 4294967296 < n)]
      simp; omega

theorem can_lm (n : Nat) : Can (lm n) := by
  induction n using Nat.strongRecOn with
  | _ n ih =>
    rw [lm]; split
    · exact .inl rfl
    · right
      rcases ih _ (by omega : n / 4294967296 < n) with h | h
      · rw [h]
        have h0 : val (lm (n / 4294967296)) = 0 := by rw [h]; rfl
        rw [val_lm] at h0
        simp
        intro h'
        have := congrArg UInt32.toNat h'
        simp at this; omega
      · have hne : lm (n / 4294967296) ≠ [] := by intro h'; rw [h'] at h; simp at h
        obtain ⟨y, r, hr⟩ := List.exists_cons_of_ne_nil hne
        rw [hr] at h ⊢
        simpa using h

theorem norm_lm (l : List UInt32) : norm l = lm (val l) := can_unique (can_norm l) (can_lm _) (by rw [val_norm, val_lm])

theorem val_set : ∀ (p : List UInt32) (j : Nat) (c : UInt32), j < p.length → val (p.set j c) + (p.getD j default).toNat * 4294967296 ^ j = val p + c.toNat * 4294967296 ^ j
  | [], _, _, h => absurd h (by simp)
  | x :: r, 0, c, _ => by simp [val]; omega
  | x :: r, j + 1, c, h => by
    have := val_set r j c (by simpa using h)
    simp only [List.set_cons_succ, val, List.getD_cons_succ, Nat.pow_succ]
    have e : ∀ n, n * (4294967296 ^ j * 4294967296) = 4294967296 * (n * 4294967296 ^ j) := fun n => by rw [← Nat.mul_assoc, Nat.mul_comm]
    rw [e, e]; omega

theorem val_take_succ (l : List UInt32) (k : Nat) (h : k < l.length) : val (l.take (k + 1)) = val (l.take k) + (l.getD k default).toNat * 4294967296 ^ k := by
  have : l.take (k + 1) = l.take k ++ [l.getD k default] := by rw [List.take_add_one]; simp [List.getD, h]
  rw [this, val_append, List.length_take, Nat.min_eq_left (Nat.le_of_lt h)]; simp only [val, Nat.mul_zero, Nat.add_zero]; rw [Nat.mul_comm]

theorem val_small_zero : ∀ (p : List UInt32) (j : Nat), val p < 4294967296 ^ j → (p.getD j default).toNat = 0
  | [], j, _ => rfl
  | x :: r, 0, h => by simp [val] at h ⊢; omega
  | x :: r, j + 1, h => by
    refine val_small_zero r j ?_
    simp only [val, Nat.pow_succ] at h
    omega

theorem val_replicate (n : Nat) : val (List.replicate n 0) = 0 := by
  induction n with
  | zero => rfl
  | succ n ih => simp [List.replicate_succ, val, ih]

theorem drop_getD {p q : List UInt32} {j : Nat} (h : p.drop j = q.drop j) : p.getD j default = q.getD j default := by
  have := congrArg (fun l => l.getD 0 default) h
  simpa [List.getD, List.getElem?_drop] using this
theorem drop_set_succ {p q : List UInt32} {j : Nat} {c : UInt32} (h : p.drop j = q.drop j) : (p.set j c).drop (j + 1) = q.drop (j + 1) := by
  rw [List.drop_set_of_lt (by omega)]
  have := congrArg (List.drop 1) h
  simpa [List.drop_drop, Nat.add_comm] using this

theorem mul_step {p p' y : List UInt32} {xi c i k t : Nat} (hj : i + k < p'.length) (hk : k < y.length) (h : val p' + c * 4294967296 ^ (i + k) = val p + xi * val (y.take k) * 4294967296 ^ i)
    (ht : t = c + (xi * (y.getD k default).toNat + (p'.getD (i + k) default).toNat)) :
    val (p'.set (i + k) (UInt32.ofNat t)) + t / 4294967296 * 4294967296 ^ (i + k + 1) = val p + xi * val (y.take (k + 1)) * 4294967296 ^ i := by
  have h1 := val_set p' (i + k) (UInt32.ofNat t) hj
  rw [val_take_succ y k hk]
  have e1 : (UInt32.ofNat t).toNat = t % 4294967296 := by simp
  rw [e1] at h1
  have h2 : t % 4294967296 * 4294967296 ^ (i + k) + t / 4294967296 * 4294967296 ^ (i + k + 1) = t * 4294967296 ^ (i + k) := by
    rw [Nat.pow_succ, Nat.mul_comm (4294967296 ^ (i + k)) 4294967296, ← Nat.mul_assoc, ← Nat.add_mul, Nat.mul_comm (t / 4294967296), Nat.mod_add_div]
  have h3 : t * 4294967296 ^ (i + k) = c * 4294967296 ^ (i + k) + (xi * (y.getD k default).toNat * 4294967296 ^ (i + k) + (p'.getD (i + k) default).toNat * 4294967296 ^ (i + k)) := by
    rw [ht, Nat.add_mul, Nat.add_mul]
  have h4 : xi * (val (y.take k) + (y.getD k default).toNat * 4294967296 ^ k) * 4294967296 ^ i = xi * val (y.take k) * 4294967296 ^ i + xi * (y.getD k default).toNat * 4294967296 ^ (i + k) := by
    rw [Nat.mul_add, Nat.add_mul, Nat.pow_add, Nat.mul_comm (4294967296 ^ i) (4294967296 ^ k), Nat.mul_assoc xi (_ * _), Nat.mul_assoc xi (UInt32.toNat _) (_ * _), Nat.mul_assoc (UInt32.toNat _)]
  omega

theorem mul_end {p p' x y : List UInt32} {c : UInt32} {i : Nat} (hi : i < x.length) (hl : i + y.length < p'.length) (hp : val p = val (x.take i) * val y)
    (h : val p' + c.toNat * 4294967296 ^ (i + y.length) = val p + (x.getD i default).toNat * val y * 4294967296 ^ i) (hd : p'.drop (i + y.length) = p.drop (i + y.length)) :
    val (p'.set (i + y.length) c) = val (x.take (i + 1)) * val y := by
  have h1 := val_set p' (i + y.length) c hl
  have hb : val p < 4294967296 ^ (i + y.length) := by
    rw [hp, Nat.pow_add]
    have a1 := val_lt (x.take i)
    rw [List.length_take, Nat.min_eq_left (Nat.le_of_lt hi)] at a1
    have a2 := val_lt y
    exact Nat.mul_lt_mul'' a1 a2
  have h0 : (p'.getD (i + y.length) default).toNat = 0 := by rw [drop_getD hd]; exact val_small_zero p _ hb
  rw [h0] at h1
  rw [val_take_succ x i hi, Nat.add_mul, Nat.mul_right_comm]
  omega

/-- -1, 0 or 1 -/
def cmpN (a b : Nat) : Int := if a < b then -1 else if b < a then 1 else 0

theorem cmpN_lt {a b : Nat} (h : a < b) : cmpN a b = -1 := by simp [cmpN, h]
theorem cmpN_gt {a b : Nat} (h : b < a) : cmpN a b = 1 := by have : ¬ a < b := by omega
                                                             simp [cmpN, this, h]
theorem cmpN_eq (a : Nat) : cmpN a a = 0 := by simp [cmpN]

end Go.Ev
