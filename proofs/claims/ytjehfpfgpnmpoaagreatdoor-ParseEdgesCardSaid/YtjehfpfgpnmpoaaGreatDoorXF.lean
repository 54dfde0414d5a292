/-
  OWN LAYER 'Ev', PART XF: OPERATIONS BY COMPUTATION ARE SOUND, ONE BY ONE (memory).
-/
import Derived.Test.YtjehfpfgpnmpoaaGreatDoorXE
set_option linter.all false
namespace Go.Ev

section
variable {P : Program}

theorem run_next_at {w : World} {b : Nat} {s : ByteArray} {pos : Nat} (ty : TypeId) (hh : w.heap[b]? = some (.stringIter s pos)) (h : pos < s.size) (ha : (s[pos]'h).toNat < 128) :
    (Instr.next (.pointer (some ⟨b, 0, none⟩)) true ty).run P w = .ok (.tuple #[.bool true, .int .i64 pos, .int .i32 (s[pos]'h).toNat]) (w.putObj b (.stringIter s (pos + 1))) := by
  simp only [Instr.next, getObj, setObj, Sem.run_bind, Sem.run, hh, Result.andThen, h, if_true, decode_ascii s pos h ha]
  simp [goInt, Go.setObj, Sem.run, hh, World.putObj]
theorem run_next_no {w : World} {b : Nat} {s : ByteArray} {pos : Nat} (ty : TypeId) (hh : w.heap[b]? = some (.stringIter s pos)) (h : ¬ pos < s.size) :
    (Instr.next (.pointer (some ⟨b, 0, none⟩)) true ty).run P w = .ok (.tuple #[.bool false]) w := by
  simp [Instr.next, getObj, Sem.run, hh, h]

theorem rd_tup {g : Gh} {oh : OH} {l : List V} {vs : List Value} (h : l.length = vs.length) (hr : ∀ (j : Nat) (v : V) (x : Value), l[j]? = some v → vs[j]? = some x → RdA g oh v x) : RdV g oh (.tup l) (.tuple vs.toArray) :=
  ⟨vs.toArray, rfl, by simp [h], fun j v c a b => hr j v c a (by simpa using b)⟩

theorem step_next {o : Oper} {x : Operand} {e : Operand → V} {oh : OH} {h : Hp} {acc : Acc} (hh : ∀ i, oget oh i = h i) (ho : o.op = .next x true) (hx : xnext h (e x) = some acc) : Some P o e oh fun b => b = acc := by
  unfold xnext at hx
  split at hx
  · rename_i id ver i hv
    split at hx
    · rename_i ob hl
      rw [bifO] at hx
      obtain ⟨hsz, hx⟩ := hx
      have hsz := Nat.eq_of_beq_eq_true hsz
      obtain ⟨h1, h2, h3⟩ := xlive_spec hl
      have hpre : ∀ j ob', (j, ob') ∈ [(id, ob)] → oget oh j = some ob' := fun j ob' hm => by
        have hm : j = id ∧ ob' = ob := by simpa using hm
        rw [hm.1, hm.2, hh]; exact h1
      unfold xnext1 at hx
      split at hx
      · rename_i s pos hk
        have hs : s.size = s.data.toList.length := by rw [Array.length_toList]; rfl
        -- the block
        have blk : ∀ (g : Gh) (oh' : OH) (w : World) (ρ : Operand → Value), HR g oh' w → (∀ z, z ∈ o.op.operands → RdV g oh' (e z) (ρ z)) → oget oh' id = some ob →
            ∃ b, g.m id = some b ∧ ρ x = .pointer (some ⟨b, 0, none⟩) ∧ w.heap[b]? = some (.stringIter s pos) ∧ ob.el = [] := by
          intro g oh' w ρ hr hρ hob
          have hρx := hρ x (by simp [ho, Op.operands])
          rw [hv] at hρx
          obtain ⟨b, hb, hbx⟩ := ref_val hρx hob h2 h3
          obtain ⟨go, q1, q2, q3⟩ := (hr.obj id ob hob h3).2 b hb
          unfold KindAt at q3
          rw [hk] at q3
          obtain ⟨rfl, hel⟩ := q3
          exact ⟨b, hb, by rw [hbx, hsz]; simp, q1, hel⟩
        split at hx
        · rename_i c hc
          rw [bifO] at hx
          obtain ⟨hasc, hx⟩ := hx
          rw [Nat.blt_eq] at hasc
          cases hx
          have hlt : pos < s.size := by rw [hs]; exact (List.getElem?_eq_some_iff.1 hc).1
          have hcc : s[pos]'hlt = c := by
            have := (List.getElem?_eq_some_iff.1 hc).2
            rw [← this]; simp [ByteArray.getElem_eq_getElem_data]
          refine ⟨_, ?_, hpre, by simp, rfl⟩
          intro g oh' w ρ hr hρ hp _
          have hob := hp id ob (by simp)
          obtain ⟨b, hb, hbx, hheap, hel⟩ := blk g oh' w ρ hr hρ hob
          have hrun : (execOp ρ o).run P w = .ok (.value (.tuple #[.bool true, .int .i64 pos, .int .i32 c.toNat])) (w.putObj b (.stringIter s (pos + 1))) := by
            simp only [execOp, ho, hbx]
            refine run_val _ w _ _ ?_
            have := run_next_at (P := P) o.type hheap hlt (by rw [hcc]; exact hasc)
            rw [hcc] at this; exact this
          rw [hrun]
          obtain ⟨p1, p2, p3⟩ := hr.put id b ob ⟨ob.sz, ob.el, ob.ver, ob.live, .sit s (pos + 1)⟩ _ (.stringIter s (pos + 1)) hob h3 hb hheap rfl (Nat.le_refl _) (fun _ => Nat.le_refl _) ⟨rfl, hel⟩
          refine ⟨g, p1, ?_, p2, p3⟩
          refine rd_tup (vs := [.bool true, .int .i64 pos, .int .i32 c.toNat]) rfl fun j v y a b => ?_
          match j with
          | 0 => simp at a b; subst a; subst b; exact ⟨rfl, rfl⟩
          | 1 => simp at a b; subst a; subst b; exact ⟨rfl, rfl⟩
          | 2 => simp at a b; subst a; subst b; exact ⟨rfl, rfl⟩
          | j + 3 => simp at a
        · rename_i hc
          cases hx
          have hlt : ¬ pos < s.size := by rw [hs]; have := List.getElem?_eq_none_iff.1 hc; omega
          refine some_pre hpre fun g oh' w ρ hr hρ hp => ?_
          obtain ⟨b, hb, hbx, hheap, hel⟩ := blk g oh' w ρ hr hρ (hp id ob (by simp))
          refine ⟨.tuple #[.bool false], ?_, ?_⟩
          · simp only [execOp, ho, hbx]
            exact run_val _ w w _ (run_next_no o.type hheap hlt)
          · refine rd_tup (vs := [.bool false]) rfl fun j v y a b => ?_
            match j with
            | 0 => simp at a b; subst a; subst b; exact ⟨rfl, rfl⟩
            | j + 1 => simp at a
      · cases hx
    · cases hx
  · cases hx

theorem bytesRow_size (s : ByteArray) (cap : Nat) (h : s.size ≤ cap) : (bytesRow s cap).size = cap := by
  have : s.data.size = s.size := rfl
  simp [bytesRow, this]; omega

theorem step_bytes {o : Oper} {src dst : TypeId} {x : Operand} {e : Operand → V} {oh : OH} {nx : Nat} {s : ByteArray} {e1 sz by1 : Nat} {ag : Bool} {z : List Value} (hnx : oget oh nx = none) (ho : o.op = .convert src dst x)
    (hs : tk P src = .str) (hd : tk P dst = .sl e1 sz by1 ag z) (he : tk P e1 = .int .u8) (hv : e x = .con (.string s)) (hlen : s.data.toList.length ≤ 140737488355328) :
    Some P o e oh fun b => b = ⟨[], [nx], [(nx, ⟨1, s.data.toList.map fun b => .con (.int .u8 (.ofNat b.toNat)), 0, true, .bytes⟩)], .own nx 0 0 s.data.toList.length⟩ := by
  refine ⟨_, ?_, by simp, by simpa using hnx, rfl⟩
  intro g oh' w ρ hr hρ _ hn
  obtain ⟨_, _, hu, _⟩ := tk_sl hd
  have hsz : s.size = s.data.toList.length := by rw [Array.length_toList]; rfl
  have hρx := hρ x (by simp [ho, Op.operands])
  rw [hv] at hρx
  obtain ⟨hx1, _⟩ := hρx
  have hge := grownCap_ge w s.size 0 e1
  have hmx : grownCap w s.size 0 e1 ≤ maxLen := grownCap_le_maxLen w s.size 0 e1 (by simp only [maxLen]; omega)
  have hrun : (execOp ρ o).run P w = .ok (.value (.slice (some ⟨w.heap.size, 0, none⟩) s.size (grownCap w s.size 0 e1)))
      (w.drew.alloc (.cells (bytesRow s (grownCap w s.size 0 e1)) e1 ((bytesRow s (grownCap w s.size 0 e1)).size, (bytesRow s (grownCap w s.size 0 e1)).size + 1))) := by
    simp only [execOp, ho, hx1]
    exact run_val _ w _ _ (run_bytes_of_string w src dst e1 s (tk_str hs) hu (tk_int he))
  rw [hrun]
  have hnone := hn nx (by simp)
  have hbs := bytesRow_size s _ hge
  have hblk : BlockAt g oh' ⟨1, s.data.toList.map fun b => .con (.int .u8 (.ofNat b.toNat)), 0, true, .bytes⟩ (grownCap w s.size 0 e1) (bytesRow s (grownCap w s.size 0 e1)) := by
    refine ⟨by simp [hbs], by simp only [List.length_map]; omega, hmx, fun k el hk => ?_⟩
    rw [List.getElem?_map] at hk
    obtain ⟨c, hc, rfl⟩ := Option.map_eq_some_iff.1 hk
    have hkl : k < s.data.size := by have := (List.getElem?_eq_some_iff.1 hc).1; simpa using this
    refine ⟨rfl, fun j v hj => ?_⟩
    cases j with
    | succ j => simp [V.cells] at hj
    | zero =>
      have : V.con (.int .u8 (.ofNat c.toNat)) = v := by simpa [V.cells] using hj
      subst this
      refine ⟨.int .u8 (.ofNat c.toNat), ?_, rfl, ⟨rfl, rfl⟩⟩
      have hc' : s.data[k]? = some c := by rw [Array.getElem?_toList] at hc; exact hc
      simp only [Nat.mul_one, Nat.add_zero, bytesRow]
      rw [Array.getElem?_append_left (by simpa using hkl), Array.getElem?_map, hc']
      rfl
  obtain ⟨p1, p2, p3⟩ := (hr.same (w' := w.drew) rfl).place nx (grownCap w s.size 0 e1) ⟨1, s.data.toList.map fun b => .con (.int .u8 (.ofNat b.toNat)), 0, true, .bytes⟩
    (.cells (bytesRow s (grownCap w s.size 0 e1)) e1 ((bytesRow s (grownCap w s.size 0 e1)).size, (bytesRow s (grownCap w s.size 0 e1)).size + 1)) (by simp [hnone]) ⟨_, _, rfl, hblk⟩
  refine ⟨_, p1, ?_, p2, p3.drew⟩
  refine ⟨rfl, _, oget_cons_same _ _ _, Nat.zero_le _, fun _ _ => ⟨some ⟨w.heap.size, 0, none⟩, grownCap w s.size 0 e1, ?_, ?_, ?_, ?_⟩⟩
  · rw [show s.data.toList.length = s.size from hsz.symm]
  · omega
  · simp
  · exact fun _ => ⟨w.heap.size, by simp [Gh.at], by simp, by simp [Gh.at]⟩

theorem slice3_run {w : World} {lo : Option Operand} {hi mx : Operand} {ρ : Operand → Value} (len cap : Nat) (hlc : len ≤ cap) (a b c : Int) (h0 : 0 ≤ a) (hab : a ≤ b) (hbc : b ≤ c) (hc : c ≤ len)
    (hlo : (lo = none ∧ a = 0) ∨ ∃ y q, lo = some y ∧ ρ y = .int q a) (hhi : ∃ q, ρ hi = .int q b) (hmx : ∃ q, ρ mx = .int q c) :
    (Instr.sliceBounds true len cap (lo.map ρ) (some (ρ hi)) (some (ρ mx))).run P w = .ok (a.toNat, b.toNat, c.toNat) w := by
  obtain ⟨q1, hhi⟩ := hhi
  obtain ⟨q2, hmx⟩ := hmx
  rcases hlo with ⟨rfl, rfl⟩ | ⟨y, q, rfl, hy⟩
  · simp only [Instr.sliceBounds, Option.map_none, hhi, hmx]
    rw [Sem.run_bind, run_bound _ _ _ _ (by omega) (by omega)]
    simp only [Result.andThen_ok]
    rw [Sem.run_bind, run_bound _ _ _ _ (by omega) (by omega)]
    simp
  · simp only [Instr.sliceBounds, Option.map_some, hhi, hmx, hy]
    rw [Sem.run_bind, run_bound _ _ _ _ (by omega) (by omega)]
    simp only [Result.andThen_ok]
    rw [Sem.run_bind, run_bound _ _ _ _ (by omega) (by omega)]
    simp only [Result.andThen_ok]
    rw [Sem.run_bind, run_bound _ _ _ _ (by omega) (by omega)]
    simp

theorem xbd_val {x : Option Operand} {e : Operand → V} {a n : Nat} (h : xbd (x.map e) a = some n) : ∀ (g : Gh) (oh : OH) (ρ : Operand → Value), (∀ y, x = some y → RdV g oh (e y) (ρ y)) → (x = none ∧ (n : Int) = a) ∨ ∃ y q, x = some y ∧ ρ y = .int q n := by
  intro g oh ρ hr
  cases x with
  | none => simp only [Option.map_none, xbd, Option.some.injEq] at h; exact .inl ⟨rfl, by rw [h]⟩
  | some y =>
    right
    simp only [Option.map_some] at h
    unfold xbd at h
    split at h
    · rename_i hq; cases hq
    · rename_i q m hq
      cases h
      have := hr y rfl
      have hy : e y = .con (.int q (.ofNat n)) := by simpa using hq
      rw [hy] at this
      exact ⟨y, q, rfl, this.1⟩
    · cases h

theorem step_slice3 {o : Oper} {t : TypeId} {x : Operand} {lo : Option Operand} {hi mx : Operand} {e : Operand → V} {oh : OH} {h : Hp} {acc : Acc} {id ver off len : Nat} (hh : ∀ i, oget oh i = h i) (ho : o.op = .slice t x lo (some hi) (some mx))
    (hv : e x = .own id ver off len) (hx : xslice3 (tk P t) h (e x) (lo.map e) (e hi) (e mx) = some acc) : Some P o e oh fun b => b = acc := by
  rw [hv] at hx
  unfold xslice3 at hx
  split at hx
  · rename_i e1 sz by1 ag z ht
    obtain ⟨inf, zv, hu, hinf, _, hsz, _⟩ := tk_sl ht
    simp only at hx
    split at hx
    · rename_i ob a b c hus h1 h2 h3
      rw [bifO] at hx
      obtain ⟨hc, hx⟩ := hx
      simp only [Bool.and_eq_true, Nat.ble_eq, Nat.beq_eq] at hc
      obtain ⟨⟨⟨c1, c2⟩, c3⟩, c4⟩ := hc
      cases hx
      obtain ⟨u1, u2, u3, _⟩ := xuse_spec hus
      refine some_pre (fun j ob' hm => by
        have hm : j = id ∧ ob' = ob := by simpa using hm
        rw [hm.1, hm.2, hh]; exact u1) fun g oh' w ρ hr hρ hp => ?_
      have hob := hp id ob (by simp)
      have hρx := hρ x (by simp [ho, Op.operands])
      rw [hv] at hρx
      obtain ⟨ad, cap, hxe, hlc, hoff, hcap⟩ := own_val hρx hob u2 u3
      have v1 := xbd_val (x := lo) h1 g oh' ρ (fun y hy => hρ y (by simp [ho, Op.operands, hy]))
      have m2 : hi ∈ o.op.operands := by simp [ho, Op.operands]
      have m3 : mx ∈ o.op.operands := by simp [ho, Op.operands]
      have v2 := xbd_val (x := some hi) (e := e) h2 g oh' ρ (fun y hy => by cases hy; exact hρ _ m2)
      have v3 := xbd_val (x := some mx) (e := e) h3 g oh' ρ (fun y hy => by cases hy; exact hρ _ m3)
      have w2 : ∃ q, ρ hi = .int q b := by
        rcases v2 with ⟨e, _⟩ | ⟨y, q, e, hq⟩
        · cases e
        · cases e; exact ⟨q, hq⟩
      have w3 : ∃ q, ρ mx = .int q c := by
        rcases v3 with ⟨e, _⟩ | ⟨y, q, e, hq⟩
        · cases e
        · cases e; exact ⟨q, hq⟩
      have hrun := slice3_run (P := P) (w := w) len cap hlc a b c (by omega) (by omega) (by omega) (by omega) v1 w2 w3
      refine ⟨.slice (if c = a then ad else ad.map (·.add (a * inf.size))) (b - a) (c - a), ?_, rfl, ob, hob, by omega, fun _ _ => ⟨(if c = a then ad else ad.map (·.add (a * inf.size))), c - a, rfl, by omega, by omega, ?_⟩⟩
      · simp only [execOp, ho]
        refine run_val _ w w _ ?_
        rw [hxe]
        simp only [Option.map_some]
        simp [Instr.sliceAt, Instr.slice, run_underlying hu, hrun, sizeOf, typeInfo, hinf]
      · intro hne
        obtain ⟨bb, hb, had, hcp⟩ := hcap (by omega)
        refine ⟨bb, hb, ?_, by omega⟩
        rw [if_neg (by omega), had]
        simp [Addr.add_lit, hsz, ← c4, Nat.add_mul]
    · cases hx
  · cases hx
end
end Go.Ev
