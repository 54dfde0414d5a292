/-
  OWN LAYER 'Ev', PART XC: WHAT IS COMPUTED IS WHAT THE STEPS SAY (memory).
-/
import Derived.Test.YtjehfpfgpnmpoaaGreatDoorXB
set_option linter.all false
namespace Go.Ev

theorem bifO {α : Type} {c : Bool} {x : Option α} {b : α} : ((bif c then x else none) = some b) ↔ (c = true ∧ x = some b) := by cases c <;> simp
theorem bifO' {α : Type} {c : Bool} {x : Option α} {b : α} : ((bif c then none else x) = some b) ↔ (c = false ∧ x = some b) := by cases c <;> simp

theorem xuse_spec {h : Hp} {id ver : Nat} {o : Obj} (hu : xuse h id ver = some o) : h id = some o ∧ o.ver = ver ∧ o.live = true ∧ o.k.row = true := by
  unfold xuse at hu
  split at hu
  · rename_i ob hob
    split at hu
    · rename_i hl
      rw [bifO] at hu
      obtain ⟨hv, hu⟩ := hu
      split at hu
      all_goals first | cases hu; done | skip
      all_goals
        rename_i hk
        cases hu
        exact ⟨hob, Nat.eq_of_beq_eq_true hv, hl, by rw [hk]; rfl⟩
    · cases hu
  · cases hu
theorem xuseW_spec {h : Hp} {id ver : Nat} {o : Obj} (hu : xuseW h id ver = some o) : h id = some o ∧ o.ver = ver ∧ o.live = true ∧ o.k.wr = true := by
  unfold xuseW at hu
  split at hu
  · rename_i ob hob
    split at hu
    · rename_i hl
      rw [bifO] at hu
      obtain ⟨hv, hu⟩ := hu
      split at hu
      all_goals first | cases hu; done | skip
      all_goals
        rename_i hk
        cases hu
        exact ⟨hob, Nat.eq_of_beq_eq_true hv, hl, by rw [hk]; rfl⟩
    · cases hu
  · cases hu
theorem xuseC_spec {h : Hp} {id ver : Nat} {o : Obj} (hu : xuseC h id ver = some o) : h id = some o ∧ o.ver = ver ∧ o.live = true ∧ o.k.ap = true := by
  unfold xuseC at hu
  split at hu
  · rename_i ob hob
    split at hu
    · rename_i hl
      rw [bifO] at hu
      obtain ⟨hv, hu⟩ := hu
      split at hu
      all_goals first | cases hu; done | skip
      all_goals
        rename_i hk
        cases hu
        exact ⟨hob, Nat.eq_of_beq_eq_true hv, hl, by rw [hk]; rfl⟩
    · cases hu
  · cases hu

section
variable {h : Hp} {oh : OH} (hh : ∀ i, oget oh i = h i)
include hh

theorem use_of {id ver : Nat} {o : Obj} {K : Obj → Prop} (hu : xuse h id ver = some o) (hk : K o) : use oh id ver K := by
  obtain ⟨h1, h2, h3, h4⟩ := xuse_spec hu
  unfold use
  rw [hh, h1]
  exact ⟨h2, h3, h4, hk⟩
theorem useC_of {id ver : Nat} {o : Obj} {K : Obj → Prop} (hu : xuseC h id ver = some o) (hk : K o) : useC oh id ver K := by
  obtain ⟨h1, h2, h3, h4⟩ := xuseC_spec hu
  unfold useC
  rw [hh, h1]
  exact ⟨h2, h3, h4, hk⟩
theorem useW_of {id ver : Nat} {o : Obj} {K : Obj → Prop} (hu : xuseW h id ver = some o) (hk : K o) : useW oh id ver K := by
  obtain ⟨h1, h2, h3, h4⟩ := xuseW_spec hu
  unfold useW
  rw [hh, h1]
  exact ⟨h2, h3, h4, hk⟩

theorem xload_s {d : TK} {x : V} {a : Acc} (hx : xload d h x = some a) : sload d oh x (fun b => b = a) := by
  unfold xload at hx
  split at hx
  · split at hx
    · rename_i id ver i foff o hu
      split at hx
      · rename_i e he
        rw [bifO] at hx
        obtain ⟨hc, hx⟩ := hx
        simp only [Bool.and_eq_true, Nat.ble_eq, Nat.blt_eq] at hc
        cases hx
        exact use_of hh hu ⟨e, he, hc.2, hc.1, rfl⟩
      · cases hx
    · cases hx
  · cases hx

theorem xstore_s {d : TK} {x v : V} {a : Acc} (hx : xstore d h x v = some a) : sstore d oh x v (fun b => b = a) := by
  unfold xstore at hx
  split at hx
  · split at hx
    · rename_i id ver i foff o hu
      split at hx
      · rename_i e he
        rw [bifO] at hx
        obtain ⟨hc, hx⟩ := hx
        simp only [Bool.and_eq_true, Nat.ble_eq, Nat.blt_eq, Nat.beq_eq] at hc
        cases hx
        exact useW_of hh hu ⟨e, he, hc.1.1.1, hc.2, hc.1.1.2, hc.1.2, rfl⟩
      · cases hx
    · cases hx
  · cases hx

theorem xfield_s {d : TK} {x : V} {f : Nat} {a : Acc} (hx : xfield d h x f = some a) : sfield d oh x f (fun b => b = a) := by
  unfold xfield at hx
  split at hx
  · rename_i fs z id ver i foff
    split at hx
    · rename_i off sz hf
      rw [bifO] at hx
      obtain ⟨hc, hx⟩ := hx
      simp only [Nat.blt_eq] at hc
      split at hx
      · rename_i o hu
        cases hx
        unfold sfield
        simp only [hf]
        exact ⟨by omega, use_of hh hu rfl⟩
      · cases hx
    · cases hx
  · cases hx

theorem xlen_s {d : TK} {x : V} {a : Acc} (hx : xlen d h x = some a) (hm : ∀ k e, d ≠ .map k e) : slen d oh x (fun b => b = a) := by
  unfold xlen at hx
  split at hx
  · split at hx
    · split at hx
      · rename_i o hu
        cases hx
        exact use_of hh hu rfl
      · cases hx
    · cases hx; rfl
    · cases hx
  · split at hx
    · rename_i s
      cases hx
      show (_ : Acc) = _
      have : s.size = s.data.toList.length := by rw [Array.length_toList]; rfl
      rw [this]
    · cases hx
  · exact absurd rfl (hm _ _)
  · cases hx

theorem xindex_s {d : TK} {x i : V} {a : Acc} (hx : xindex d h x i = some a) (hm : ∀ n el e z, d ≠ .arr n el e z) : sindex d oh x i (fun b => b = a) := by
  unfold xindex at hx
  split at hx
  · rename_i e1 sz by1 ag z id ver off len k n
    rw [bifO] at hx
    obtain ⟨hc, hx⟩ := hx
    simp only [Nat.blt_eq] at hc
    split at hx
    · rename_i o hu
      rw [bifO] at hx
      obtain ⟨hs, hx⟩ := hx
      cases hx
      exact ⟨Int.natCast_nonneg _, Int.ofNat_lt.2 hc, use_of hh hu ⟨Nat.eq_of_beq_eq_true hs, rfl⟩⟩
    · cases hx
  · exact absurd rfl (hm _ _ _ _)
  · cases hx

omit hh in
theorem xbd_s {x : Option V} {a n : Nat} {K : Int → Prop} (hx : xbd x a = some n) (hk : K n) : sbd x a K := by
  unfold xbd at hx
  split at hx
  · cases hx; exact hk
  · cases hx; exact hk
  · cases hx

theorem xslice2_s {d : TK} {x : V} {lo hi : Option V} {a : Acc} (hx : xslice2 d h x lo hi = some a) : sslice d oh x lo hi none (fun b => b = a) := by
  unfold xslice2 at hx
  split at hx
  · split at hx
    · rename_i e1 sz by1 ag z id ver off len
      split at hx
      · rename_i o p q hu h1 h2
        rw [bifO] at hx
        obtain ⟨hc, hx⟩ := hx
        simp only [Bool.and_eq_true, Nat.ble_eq, Nat.beq_eq] at hc
        cases hx
        refine use_of hh hu ⟨hc.2, xbd_s (a := 0) h1 (xbd_s h2 ⟨by omega, by omega, by omega, ?_⟩)⟩
        simp
      · cases hx
    · split at hx
      · rename_i p q h1 h2
        rw [bifO] at hx
        obtain ⟨hc, hx⟩ := hx
        simp only [Bool.and_eq_true, Nat.beq_eq] at hc
        cases hx
        refine xbd_s (a := 0) (K := fun a => sbd hi 0 fun b => a = 0 ∧ b = 0 ∧ free (fun c => c = _) _) h1 (xbd_s (a := 0) (K := fun b => _ ∧ b = 0 ∧ _) h2 ?_)
        exact ⟨by omega, by omega, rfl⟩
      · cases hx
    · cases hx
  · split at hx
    · rename_i s
      split at hx
      · rename_i p q h1 h2
        rw [bifO] at hx
        obtain ⟨hc, hx⟩ := hx
        simp only [Bool.and_eq_true, Nat.ble_eq] at hc
        cases hx
        have hsz : s.size = s.data.toList.length := by rw [Array.length_toList]; rfl
        refine xbd_s (a := 0) (K := fun a => sbd hi s.size fun b => 0 ≤ a ∧ a ≤ b ∧ b ≤ s.size ∧ free (fun c => c = _) (.con (.string (s.extract a.toNat b.toNat)))) h1 ?_
        rw [hsz]
        refine xbd_s (K := fun b => _ ∧ _ ≤ b ∧ b ≤ _ ∧ free _ (.con (.string (s.extract _ b.toNat)))) h2 ⟨by omega, by omega, by omega, ?_⟩
        show (⟨[], [], [], _⟩ : Acc) = _
        congr 3
        apply ByteArray.ext
        apply Array.ext'
        simp [ByteArray.data_extract, List.extract_eq_take_drop]
      · cases hx
    · cases hx
  · cases hx

omit hh in
theorem xbox_s {t : TypeId} {nx : Nat} {v : V} {a : Acc} (hx : xbox t nx v = some a) : sbox t nx v (fun b => b = a) := by
  unfold xbox xnew at hx
  rw [bifO] at hx
  obtain ⟨hc, hx⟩ := hx
  cases hx
  exact ⟨hc, rfl⟩

omit hh in
theorem xfill_s {fs : List (Nat × Nat)} : ∀ (ps : List (Nat × V)) (cs us : List V), xfill fs cs ps = some us → ∀ {K : List V → Prop}, K us → sfill fs cs ps K
  | [], cs, us, hx, K, hk => by simp only [xfill, Option.some.injEq] at hx; subst hx; exact hk
  | (i, v) :: r, cs, us, hx, K, hk => by
    unfold xfill at hx
    unfold sfill
    split at hx
    · rename_i off sz hf
      rw [bifO] at hx
      obtain ⟨hc, hx⟩ := hx
      simp only [Bool.and_eq_true, Nat.ble_eq, Nat.beq_eq] at hc
      exact ⟨hc.1.1, hc.1.2, hc.2, xfill_s r _ us hx hk⟩
    · cases hx

omit hh in
theorem xbuild_s {d : TK} {ps : List (Nat × V)} {a : Acc} (hx : xbuild d ps = some a) (hm : ∀ n el e z, d ≠ .arr n el e z) : sbuild d ps (fun b => b = a) := by
  unfold xbuild at hx
  split at hx
  · split at hx
    · rename_i cs hf
      cases hx
      exact xfill_s _ _ _ hf rfl
    · cases hx
  · exact absurd rfl (hm _ _ _ _)
  · cases hx

omit hh in
theorem xmake_s {d : TK} {nx : Nat} {l c : V} {a : Acc} (hx : xmake d nx l c = some a) : smake d nx l c (fun b => b = a) := by
  unfold xmake xnew at hx
  split at hx
  · rw [bifO] at hx
    obtain ⟨hc, hx⟩ := hx
    simp only [Bool.and_eq_true] at hc
    cases hx
    obtain ⟨⟨⟨⟨c1, c2⟩, c3⟩, c4⟩, c5⟩ := hc
    have c1 := Nat.le_of_ble_eq_true c1
    have c2 := Nat.le_of_ble_eq_true c2
    have c3 := Nat.le_of_ble_eq_true c3
    have c4 := Nat.eq_of_beq_eq_true c4
    have c5 := Nat.le_of_ble_eq_true c5
    refine ⟨Int.natCast_nonneg _, Int.ofNat_le.2 c1, by simp only [Int.ofNat_eq_natCast]; omega, ?_, c4, c5, rfl⟩
    rename_i m by1 _ _ _ _ _
    have c6 := Int.ofNat_le.2 c3
    rw [Int.natCast_mul] at c6
    exact c6
  · cases hx

omit hh in
theorem allSz_spec {sz : Nat} : ∀ {ys : List V}, allSz sz ys = true → ∀ y ∈ ys, y.cells.length = sz
  | [], _, y, hy => by cases hy
  | z :: r, ha, y, hy => by
    unfold allSz at ha
    cases hb : Nat.beq z.cells.length sz with
    | false => rw [hb] at ha; cases ha
    | true =>
      rw [hb] at ha
      cases hy with
      | head => exact Nat.eq_of_beq_eq_true hb
      | tail _ hm => exact allSz_spec ha y hm

theorem xappend_s {d d2 : TK} {nx : Nat} {x y : V} {a : Acc} (hx : xappend d d2 h nx x y = some a) (hm : d2 ≠ .str) : sappend d oh nx x y (fun b => b = a) := by
  unfold xappend at hx
  split at hx
  · rename_i e1 sz by1 ag z
    rw [bifO] at hx
    obtain ⟨hc, hx⟩ := hx
    simp only [Bool.and_eq_true, Nat.beq_eq, Nat.blt_eq] at hc
    refine ⟨hc.1, hc.2, ?_⟩
    split at hx
    · exact absurd rfl hm
    · rename_i e2 sz2 by2 ag2 z2 _
      split at hx
      · rename_i pre ys he
        have key : sapp e1 sz by1 oh nx x (fun b => b = a) pre ys := by
          cases x with
          | emp n =>
            simp only [xapp] at hx
            rw [bifO] at hx
            obtain ⟨hc, hx⟩ := hx
            simp only [Bool.and_eq_true, Nat.ble_eq] at hc
            exact ⟨hc.1.2, hc.1.1, allSz_spec hc.2, by simpa using hx⟩
          | own id ver off len =>
            simp only [xapp] at hx
            split at hx
            · rename_i o hu
              rw [bifO] at hx
              obtain ⟨hc, hx⟩ := hx
              simp only [Bool.and_eq_true, Nat.ble_eq, Nat.beq_eq] at hc
              obtain ⟨⟨⟨⟨c1, c2⟩, c3⟩, c4⟩, c5⟩ := hc
              subst c1
              exact useC_of hh hu ⟨c2, c4, c3, allSz_spec c5, by simpa using hx⟩
            · cases hx
          | _ => simp [xapp] at hx
        unfold xelems at he
        unfold elems
        split at he
        · cases he; exact key
        · split at he
          · rename_i o hu
            cases he
            exact use_of hh hu key
          · cases he
        · cases he
      · cases hx
    · cases hx
  · cases hx

omit hh in
theorem xextract_s {x : V} {i : Nat} {a : Acc} (hx : xextract x i = some a) : sextract x i (fun b => b = a) := by
  unfold xextract at hx
  split at hx
  · split at hx
    · rename_i v hv; cases hx; exact ⟨v, hv, rfl⟩
    · cases hx
  · cases hx

omit hh in
theorem xbuildSlice_s {d : TK} {nx len : Nat} {ps : List (Nat × V)} {a : Acc} (hx : xbuildSlice d nx len ps = some a) : sbuildSlice d nx len ps (fun b => b = a) := by
  unfold xbuildSlice xnew at hx
  split at hx
  · rw [bifO] at hx
    obtain ⟨hc, hx⟩ := hx
    simp only [Bool.and_eq_true, Nat.ble_eq, Nat.beq_eq, Nat.blt_eq] at hc
    split at hx
    · rename_i us hf
      cases hx
      exact ⟨hc.1.1, hc.1.2, hc.2, xfill_s _ _ _ hf rfl⟩
    · cases hx
  · cases hx

omit hh in
theorem xidx_s {tt : TypeId → TK} {d : TK} {x i : V} {a : Acc} (hx : xidx tt d x i = some a) (hm : ∀ n el e z, d ≠ .arr n el e z) : sidx d x i (fun b => b = a) := by
  unfold xidx at hx
  split at hx
  · exact absurd rfl (hm _ _ _ _)
  · rename_i s k n
    split at hx
    · rename_i b hb
      cases hx
      refine ⟨Int.natCast_nonneg _, b, ?_, rfl⟩
      have hlt : n < s.data.toList.length := (List.getElem?_eq_some_iff.1 hb).1
      have hn : (Int.ofNat n).toNat = n := rfl
      rw [hn]
      have hlt2 : n < s.size := by rw [Array.length_toList] at hlt; exact hlt
      have h1 : s[n]? = some s[n] := getElem?_pos s n hlt2
      rw [h1]
      congr 1
      have := (List.getElem?_eq_some_iff.1 hb).2
      rw [← this]
      simp [ByteArray.getElem_eq_getElem_data]
    · cases hx
  · cases hx
end

end Go.Ev
