/-
  OWN LAYER 'Ev', PART XE: OPERATIONS BY COMPUTATION ARE SOUND, ONE BY ONE.
-/
import Derived.Test.YtjehfpfgpnmpoaaGreatDoorXD
import Derived.Laws.IdiomStrings
import Derived.Laws.RangeString
import Derived.Laws.Build
set_option linter.all false
namespace Go.Ev

section
variable {P : Program}

theorem xbin_s {d : TK} {op : BinOp} {x y : V} {v : Value} (h : xbin d op x y = some v) : sbin d op x y fun u => u = v := by
  unfold xbin at h
  split at h
  · rename_i k a k' b
    split at h
    · rw [bifO] at h
      obtain ⟨h0, h⟩ := h
      rw [ile_iff] at h0
      cases h
      exact ⟨by simpa using h0, _, rfl, by rw [xwrap_eq]⟩
    · rw [bifO] at h
      obtain ⟨h0, h⟩ := h
      rw [ile_iff] at h0
      cases h
      exact ⟨by simpa using h0, _, rfl, rfl⟩
    · rename_i h1 h2
      rw [bifO] at h
      obtain ⟨h0, h⟩ := h
      have := keq_iff h0
      subst this
      cases op <;> first | exact ⟨rfl, xint_s h⟩ | exact (h1 rfl).elim | exact (h2 rfl).elim
  · rename_i a b
    have hla : a.data.toList = a.toList := (ByteArray.toList_eq a).symm
    have hlb : b.data.toList = b.toList := (ByteArray.toList_eq b).symm
    split at h
    · rw [bifO] at h
      obtain ⟨h0, h⟩ := h
      cases h
      have h0 := Nat.le_of_ble_eq_true h0
      have e1 : a.size = a.data.toList.length := by rw [Array.length_toList]; rfl
      have e2 : b.size = b.data.toList.length := by rw [Array.length_toList]; rfl
      refine ⟨by omega, ?_⟩
      show Value.string _ = _
      congr 1
    · cases h; show Value.bool _ = _; rw [bytesEq_iff, hla, hlb]
    · cases h; show Value.bool _ = _; rw [bytesEq_iff, hla, hlb]
    · cases h; show Value.bool _ = _; rw [bytesLt_iff, hla, hlb]
    · cases h
  · rename_i a b
    split at h
    · split at h
      · cases h; exact ⟨rfl, by rw [beqB_iff]⟩
      · cases h; exact ⟨rfl, by rw [beqB_iff]⟩
      · cases h
    · cases h
  · cases h

theorem step_cmp {o : Oper} {op : BinOp} {t t2 : TypeId} {x y : Operand} {e : Operand → V} {oh : OH} {h : Hp} {eqst : Option (List TK)} {acc : Acc} (hh : ∀ i, oget oh i = h i) (ho : o.op = .binOp op t x y t2) (hst : ∀ q, eqst = some q → EqSt P t q) {tt : TypeId → TK} (htt : ∀ t, tt t = tk P t)
    (hx : xcmpOp op (xcmp tt (tk P t) eqst (isCst x || isCst y) h (e x) (e y)) = some acc) : Some P o e oh fun b => b = acc := by
  unfold xcmpOp at hx
  split at hx
  · rename_i p b hc
    obtain ⟨hp, hall⟩ := xcmp_ok htt hh hc hst
    have key : ∀ (r : Bool), (op = .eql ∧ r = b ∨ op = .neq ∧ r = !b) → Some P o e oh fun c => c = ⟨p, [], [], .con (.bool r)⟩ := by
      intro r hr
      refine some_pre hp fun g oh' w ρ hr' hρ hp' => ⟨.bool r, ?_, con_of rfl⟩
      obtain ⟨c1, c2, c3⟩ := hall g oh' w (ρ x) (ρ y) (hρ x (by simp [ho, Op.operands])) (hρ y (by simp [ho, Op.operands])) hp'
      simp only [execOp, ho]
      refine run_val _ w w _ ?_
      rcases hr with ⟨rfl, rfl⟩ | ⟨rfl, rfl⟩
      · simp [c1 _ x y (fun h => h), c2]
      · simp [c1 _ x y (fun h => h), c3]
    split at hx
    · cases hx; exact key _ (.inl ⟨rfl, rfl⟩)
    · cases hx; exact key _ (.inr ⟨rfl, rfl⟩)
    · cases hx
  · cases hx

theorem step_nil {o : Oper} {x : Operand} {e : Operand → V} {oh : OH} {h : Hp} {acc : Acc} (hh : ∀ i, oget oh i = h i) (ho : o.op = .nilCheck x) (hx : xnil h (e x) = some acc) : Some P o e oh fun b => b = acc := by
  have hmem : x ∈ o.op.operands := by simp [ho, Op.operands]
  unfold xnil at hx
  split at hx
  · rename_i id ver c d hv
    split at hx
    · rename_i ob hl
      cases hx
      obtain ⟨h1, h2, h3⟩ := xlive_spec hl
      refine some_pre (fun i ob' hm => by
        have hm : i = id ∧ ob' = ob := by simpa using hm
        rw [hm.1, hm.2, hh]; exact h1) fun g oh' w ρ hr hρ hp => ?_
      have hρx := hρ x hmem
      rw [hv] at hρx
      obtain ⟨b, _, hb⟩ := ref_val hρx (hp id ob (by simp)) h2 h3
      exact ⟨ρ x, by simp only [execOp, ho, hb]; rfl, hρx⟩
    · cases hx
  · rename_i f a b hv
    rw [bifO] at hx
    obtain ⟨hf, hx⟩ := hx
    cases hx
    refine some_pre (by simp) fun g oh' w ρ hr hρ hp => ?_
    have hρx := hρ x hmem
    rw [hv] at hρx
    refine ⟨ρ x, ?_, hρx⟩
    obtain ⟨e1, _⟩ := hρx
    cases f with
    | func q => simp only [execOp, ho, e1]; rfl
    | _ => cases hf
  · rename_i f a b hv
    rw [bifO] at hx
    obtain ⟨hf, hx⟩ := hx
    cases hx
    refine some_pre (by simp) fun g oh' w ρ hr hρ hp => ?_
    have hρx := hρ x hmem
    rw [hv] at hρx
    refine ⟨ρ x, ?_, hρx⟩
    obtain ⟨fs, cs, e1⟩ := rdN_clo hρx
    cases f with
    | func q => simp only [execOp, ho, e1]; rfl
    | _ => cases hf
  · rename_i t v hv
    cases hx
    refine some_pre (by simp) fun g oh' w ρ hr hρ hp => ?_
    have hρx := hρ x hmem
    rw [hv] at hρx
    refine ⟨ρ x, ?_, hρx⟩
    obtain ⟨y, e1, _⟩ := ifc_val hρx
    simp only [execOp, ho, e1]; rfl
  · cases hx

theorem step_mkI {o : Oper} {t : TypeId} {x : Operand} {e : Operand → V} {oh : OH} {acc : Acc} (ho : o.op = .makeInterface t x) (hx : xmkI (tk P t) t (e x) = some acc) : Some P o e oh fun b => b = acc := by
  have hconc : P.concrete t = true ∧ (e x).solid = true ∧ acc = ⟨[], [], [], .ifc t (e x)⟩ := by
    have gen : tk P t ≠ .other → tk P t ≠ .ifc → P.concrete t = true := by
      intro h1 h2
      unfold Program.concrete
      cases hu : P.underlying t with
      | none => exact absurd (by simp [tk, hu]) h1
      | some d =>
        cases d with
        | interface m =>
          exfalso
          unfold tk at h1 h2
          rw [hu] at h1 h2
          simp only [tk1] at h1 h2
          split at h2
          · exact h2 rfl
          · exact h1 (if_neg ‹_›)
        | _ => rfl
    unfold xmkI at hx
    split at hx
    · cases hx
    · cases hx
    · rename_i n1 n2
      rw [bifO] at hx
      obtain ⟨hs, hx⟩ := hx
      cases hx
      exact ⟨gen (fun e => n1 e) (fun e => n2 e), hs, rfl⟩
  obtain ⟨hc, hs, rfl⟩ := hconc
  refine some_pre (by simp) fun g oh' w ρ hr hρ _ => ?_
  have hρx := hρ x (by simp [ho, Op.operands])
  obtain ⟨s1, s2, s3⟩ := solid_val hρx hs
  exact ⟨.iface t (ρ x), by simp only [execOp, ho]; exact run_val _ w w _ (run_makeInterface w t (ρ x) hc), RdN.ifc t _ _ (rdN_of_V hρx s3) s1 s2⟩

theorem step_mkF {o : Oper} {f : Fn} {a b : Array Operand} {e : Operand → V} {oh : OH} {acc : Acc} (ho : o.op = .makeFunc f a b) (hx : xmkF f (a.toList.map e) (b.toList.map e) = some acc) : Some P o e oh fun b => b = acc := by
  unfold xmkF at hx
  rw [bifO] at hx
  obtain ⟨hn, hx⟩ := hx
  cases hx
  rw [Bool.and_eq_true] at hn
  refine some_pre (by simp) fun g oh' w ρ hr hρ _ => ⟨.func f (a.map ρ) (b.map ρ), by simp only [execOp, ho]; exact run_val _ w w _ rfl, ?_⟩
  have nt : ∀ v, noTup v = notTup v := fun v => by cases v <;> rfl
  have key : ∀ (l : Array Operand), (∀ z, z ∈ l → z ∈ o.op.operands) → (l.toList.map e).all noTup = true → ∀ (j : Nat) (v : V) (x : Value), (l.toList.map e)[j]? = some v → (l.map ρ)[j]? = some x → RdN g oh' v x := by
    intro l hm hl j v x hv hx
    rw [List.getElem?_map] at hv
    rw [Array.getElem?_map] at hx
    obtain ⟨y, hy, rfl⟩ := Option.map_eq_some_iff.1 hv
    have hyl : y ∈ l := Array.mem_of_getElem? (by rw [Array.getElem?_toList] at hy; exact hy)
    rw [Array.getElem?_toList] at hy
    rw [hy] at hx
    obtain rfl : ρ y = x := by simpa using hx
    have := List.all_eq_true.1 hl (e y) (List.mem_map.2 ⟨y, by simpa using hyl, rfl⟩)
    exact rdN_of_V (hρ y (hm y hyl)) (by rw [← nt]; exact this)
  exact RdN.clo f _ _ _ _ (by simp) (by simp) (key a (fun z hz => by simp [ho, Op.operands, hz]) hn.1) (key b (fun z hz => by simp [ho, Op.operands, hz]) hn.2)

theorem step_range {o : Oper} {t : TypeId} {x : Operand} {e : Operand → V} {oh : OH} {nx : Nat} (hnx : oget oh nx = none) {acc : Acc} (ho : o.op = .range t x) (hx : xrange (tk P t) nx (e x) = some acc) : Some P o e oh fun b => b = acc := by
  unfold xrange at hx
  split at hx
  · rename_i s ht hv
    cases hx
    refine ⟨_, ?_, by simp, by simpa using hnx, rfl⟩
    intro g oh' w ρ hr hρ _ hn
    have hρx := hρ x (by simp [ho, Op.operands])
    rw [hv] at hρx
    obtain ⟨e1, _⟩ := hρx
    have hrun : (execOp ρ o).run P w = .ok (.value (.pointer (some ⟨w.heap.size, 0, none⟩))) (w.iter s 0) := by
      simp only [execOp, ho, e1]
      exact run_val _ w _ _ (run_range_string w t s (tk_str ht))
    rw [hrun]
    have hnone := hn nx (by simp)
    obtain ⟨p1, p2, p3⟩ := hr.place nx 0 ⟨0, [], 0, true, .sit s 0⟩ (.stringIter s 0) (by simp [hnone]) ⟨rfl, rfl⟩
    exact ⟨_, p1, rdB_new nx w.heap.size 0 _ rfl, p2, p3⟩
  · cases hx

end
end Go.Ev
