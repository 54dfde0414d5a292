/-
  OWN LAYER 'Ev', PART G: SLICES OF SLICES, make, append, CALLS.
-/
import Derived.Test.YtfaegonekocakaaEvF
set_option linter.all false
namespace Go.Ev

section
variable {P : Program} {g : Gh} {oh : OH} {w : World}

theorem rdT_drop {S : Sto} {l : List T} {b off esz : Nat} {c : Nat → Nat → Value} (a k : Nat)
    (hz : ∀ (i : Nat) (t : T), l[i]? = some t → t.cells.length = esz)
    (hs : ∀ (i : Nat) (t : T) (j : Nat), l[i]? = some t → j < t.cells.length → S b (off + i * esz + j) = some (c i j))
    (h1 : ∀ (i : Nat) (t : T) (j : Nat), l[i]? = some t → j < t.cells.length → (c i j).oneCell' = true)
    (hr : ∀ (i : Nat) (t : T) (j : Nat) (u : T), l[i]? = some t → t.cells[j]? = some u → RdT S u (c i j))
    (ad : Option Addr) (cap : Nat) (hc : ((l.drop a).take k).length ≤ cap) (hm : cap ≤ maxLen) (ha : (l.drop a).take k ≠ [] → ad = some ⟨b, off + a * esz, none⟩) :
    RdT S (.sl ((l.drop a).take k)) (.slice ad ((l.drop a).take k).length cap) := by
  have key : ∀ (i : Nat) (t : T), ((l.drop a).take k)[i]? = some t → l[a + i]? = some t := by
    intro i t h
    have hi : i < k := by
      have := (List.getElem?_eq_some_iff.1 h).1
      simp at this; omega
    rw [List.getElem?_take_of_lt hi, List.getElem?_drop] at h
    exact h
  refine .sl _ ad cap esz b (off + a * esz) (fun i j => c (a + i) j) hc hm ha (fun i t h => hz _ _ (key i t h)) (fun i t j h hj => ?_) (fun i t j h hj => h1 _ _ _ (key i t h) hj) (fun i t j u h hu => hr _ _ _ _ (key i t h) hu)
  have := hs _ _ _ (key i t h) hj
  rw [← this]; congr 1; rw [Nat.add_mul]; omega

theorem step_slice {o : Oper} {t : TypeId} {x : Operand} {lo hi mx : Option Operand} {e : Operand → V} {oh : OH} {k : Acc → Prop} (ho : o.op = .slice t x lo hi mx)
    (h : sslice (tk P t) oh (e x) (lo.map e) (hi.map e) (mx.map e) k) : Some P o e oh k := by
  have hmx : x ∈ o.op.operands := by simp [ho, Op.operands]
  have hml : ∀ y, lo = some y → y ∈ o.op.operands := by intro y hy; simp [ho, Op.operands, hy]
  have hmh : ∀ y, hi = some y → y ∈ o.op.operands := by intro y hy; simp [ho, Op.operands, hy]
  have hmm : ∀ y, mx = some y → y ∈ o.op.operands := by intro y hy; simp [ho, Op.operands, hy]
  unfold sslice at h
  split at h
  · -- three bounds, all nought
    rename_i m hm'
    split at h
    · rename_i d1 v1 w1 e1 sz by1 ag1 z1 f l hh hd hx hhi
      obtain ⟨inf, zv, hu, hinf, _⟩ := tk_sl hd
      obtain ⟨a, h, hA⟩ := bound_run lo e h
      have h2 : sbd (hi.map e) 0 fun b => sbd (mx.map e) 0 fun c => a = 0 ∧ b = 0 ∧ c = 0 ∧ free k .emp := by rw [hhi, hm']; exact h
      obtain ⟨b, h, hB⟩ := bound_run hi e h2
      obtain ⟨c, ⟨rfl, rfl, rfl, hk⟩, hC⟩ := bound_run mx e h
      refine some_free hk fun g oh w ρ hr hρ => ?_
      have hrx := hρ x hmx; rw [hx] at hrx
      obtain ⟨ad, cap, esz, b, off, c', hxe, _⟩ := rdT_sl hrx.1
      have hcc : ∃ y q, mx = some y ∧ ρ y = .int q 0 := by
        rcases hC g oh ρ (fun y hy => hρ y (hmm y hy)) with ⟨hn, _⟩ | h
        · simp [hn] at hm'
        · exact h
      have hbb : ∃ y q, hi = some y ∧ ρ y = .int q 0 := by
        rcases hB g oh ρ (fun y hy => hρ y (hmh y hy)) with ⟨hn, _⟩ | h
        · simp [hn] at hhi
        · exact h
      obtain ⟨y, q, rfl, hy⟩ := hcc
      obtain ⟨y', q', rfl, hy'⟩ := hbb
      have b1 : ∀ (n : Nat) (code : BoundsCode), (Instr.sliceBound (.int q 0) n code).run P w = .ok 0 w := fun n code => run_bound (P := P) (w := w) q 0 n code (by omega) (by omega)
      have b2 : ∀ (n : Nat) (code : BoundsCode), (Instr.sliceBound (.int q' 0) n code).run P w = .ok 0 w := fun n code => run_bound (P := P) (w := w) q' 0 n code (by omega) (by omega)
      have hrun : (Instr.sliceBounds true l.length cap (lo.map ρ) (some (ρ y')) (some (ρ y))).run P w = .ok (0, 0, 0) w := by
        rcases hA g oh ρ (fun y hy => hρ y (hml y hy)) with ⟨rfl, _⟩ | ⟨y2, q2, rfl, hy2⟩
        · simp [Instr.sliceBounds, hy, hy', b1, b2]
        · have b3 : ∀ (n : Nat) (code : BoundsCode), (Instr.sliceBound (.int q2 0) n code).run P w = .ok 0 w := fun n code => run_bound (P := P) (w := w) q2 0 n code (by omega) (by omega)
          simp [Instr.sliceBounds, hy, hy', hy2, b1, b2, b3]
      refine ⟨.slice ad 0 0, ?_, ad, rfl⟩
      simp only [execOp, ho]
      refine run_val _ w w _ ?_
      rw [hxe]
      simp only [Option.map_some]
      simp [Instr.sliceAt, Instr.slice, run_underlying hu, hrun, sizeOf, typeInfo, hinf]
    · exact h.elim
  · split at h
    · rename_i d1 v1 e1 sz by1 ag1 z1 f l hd hx
      obtain ⟨hall, h⟩ := h
      obtain ⟨inf, zv, hu, hinf, _, hsz, _⟩ := tk_sl hd
      obtain ⟨a, h, hA⟩ := bound_run lo e h
      obtain ⟨b, ⟨h0, hab, hbl, hk⟩, hB⟩ := bound_run hi e h
      have hmx0 : mx = none := by cases mx <;> simp_all
      subst hmx0
      refine some_free hk fun g oh w ρ hr hρ => ?_
      have hrx := hρ x hmx; rw [hx] at hrx
      obtain ⟨ad, cap, esz, bb, off, c', hxe, hlc, hm, ha, hz, hS, h1, hR⟩ := rdT_sl hrx.1
      have hrun := slice_run (P := P) (w := w) true l.length cap hlc a b h0 hab hbl (hA g oh ρ (fun y hy => hρ y (hml y hy))) (hB g oh ρ (fun y hy => hρ y (hmh y hy)))
      have hlen : ((l.drop a.toNat).take (b - a).toNat).length = b.toNat - a.toNat := by simp; omega
      refine ⟨.slice (if cap = a.toNat then ad else ad.map (·.add (a.toNat * inf.size))) (b.toNat - a.toNat) (cap - a.toNat), ?_, ?_, rfl⟩
      · simp only [execOp, ho]
        refine run_val _ w w _ ?_
        rw [hxe]
        simp only [Option.map_none]
        simp [Instr.sliceAt, Instr.slice, run_underlying hu, hrun, sizeOf, typeInfo, hinf]
      · rw [← hlen]
        refine rdT_drop a.toNat (b - a).toNat hz hS h1 hR _ _ (by rw [hlen]; omega) (by omega) fun hne => ?_
        have hpos : 0 < ((l.drop a.toNat).take (b - a).toNat).length := List.length_pos_iff.2 hne
        have hl0 : l ≠ [] := fun e => by simp [e] at hpos
        have hcap : ¬ cap = a.toNat := by omega
        rw [if_neg hcap, ha hl0]
        have h0l : 0 < l.length := List.length_pos_iff.2 hl0
        have : esz = sz := by
          have e1 := hz 0 l[0] (by simp)
          have e2 := hall l[0] (List.getElem_mem _)
          omega
        simp [Addr.add_lit, hsz, this]
    · rename_i d1 v1 e1 sz by1 ag1 z1 id ver off len hd hx
      obtain ⟨ob, hob, hv, hl, hosz, h⟩ := use_elim h
      obtain ⟨inf, zv, hu, hinf, _, hsz, _⟩ := tk_sl hd
      obtain ⟨a, h, hA⟩ := bound_run lo e h
      obtain ⟨b, ⟨h0, hab, hbl, hk⟩, hB⟩ := bound_run hi e h
      have hmx0 : mx = none := by cases mx <;> simp_all
      subst hmx0
      refine some_use hob hk fun g oh w ρ hr hρ hob' => ?_
      have hrx := hρ x hmx; rw [hx] at hrx
      obtain ⟨_, ob', hob2, _, hat⟩ := hrx
      rw [hob'] at hob2
      obtain rfl : ob = ob' := by simpa using hob2
      obtain ⟨ad, cap, hxe, hlc, hoff, hcap⟩ := hat hv hl
      have hrun := slice_run (P := P) (w := w) true len cap hlc a b h0 hab hbl (hA g oh ρ (fun y hy => hρ y (hml y hy))) (hB g oh ρ (fun y hy => hρ y (hmh y hy)))
      refine ⟨.slice (if cap = a.toNat then ad else ad.map (·.add (a.toNat * inf.size))) (b.toNat - a.toNat) (cap - a.toNat), ?_, rfl, ob, hob', by omega, fun _ _ => ⟨(if cap = a.toNat then ad else ad.map (·.add (a.toNat * inf.size))), cap - a.toNat, ?_, ?_, ?_, ?_⟩⟩
      · simp only [execOp, ho]
        refine run_val _ w w _ ?_
        rw [hxe]
        simp only [Option.map_none]
        simp [Instr.sliceAt, Instr.slice, run_underlying hu, hrun, sizeOf, typeInfo, hinf]
      · rw [show (b - a).toNat = b.toNat - a.toNat by omega]
      · omega
      · omega
      · intro hne
        obtain ⟨bb, hb, had, hcp⟩ := hcap (by omega)
        refine ⟨bb, hb, ?_, by omega⟩
        rw [if_neg (by omega), had]
        simp [Addr.add_lit, hsz, ← hosz, Nat.add_mul]
    · rename_i d1 v1 e1 sz by1 ag1 z1 hd hx
      obtain ⟨inf, zv, hu, hinf, _, hsz, _⟩ := tk_sl hd
      obtain ⟨a, h, hA⟩ := bound_run lo e h
      obtain ⟨b, ⟨rfl, rfl, hk⟩, hB⟩ := bound_run hi e h
      have hmx0 : mx = none := by cases mx <;> simp_all
      subst hmx0
      refine some_free hk fun g oh w ρ hr hρ => ?_
      have hrx := hρ x hmx; rw [hx] at hrx
      obtain ⟨ad, hxe⟩ := hrx
      have hrun := slice_run (P := P) (w := w) true 0 0 (Nat.le_refl _) 0 0 (by omega) (by omega) (by omega) (hA g oh ρ (fun y hy => hρ y (hml y hy))) (hB g oh ρ (fun y hy => hρ y (hmh y hy)))
      refine ⟨.slice ad 0 0, ?_, ad, rfl⟩
      simp only [execOp, ho]
      refine run_val _ w w _ ?_
      rw [hxe]
      simp only [Option.map_none]
      simp [Instr.sliceAt, Instr.slice, run_underlying hu, hrun, sizeOf, typeInfo, hinf]
    · rename_i d1 v1 s hd hx
      obtain ⟨a, h, hA⟩ := bound_run lo e h
      obtain ⟨b, ⟨h0, hab, hbl, hk⟩, hB⟩ := bound_run hi e h
      have hmx0 : mx = none := by cases mx <;> simp_all
      subst hmx0
      refine some_free hk fun g oh w ρ hr hρ => ⟨_, ?_, con_of rfl⟩
      have hrx := hρ x hmx; rw [hx] at hrx
      obtain ⟨hxe, _⟩ := hrx
      have hrun := slice_run (P := P) (w := w) false s.size s.size (Nat.le_refl _) a b h0 hab hbl (hA g oh ρ (fun y hy => hρ y (hml y hy))) (hB g oh ρ (fun y hy => hρ y (hmh y hy)))
      simp only [execOp, ho]
      refine run_val _ w w _ ?_
      rw [hxe]
      simp only [Option.map_none]
      simp [Instr.sliceAt, Instr.slice, run_underlying (tk_str hd), hrun]
    · exact h.elim

end
end Go.Ev
