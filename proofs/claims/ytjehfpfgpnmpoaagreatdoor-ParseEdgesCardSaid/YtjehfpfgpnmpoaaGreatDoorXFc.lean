/-
  OWN LAYER 'Ev', PART XFc: OPERATIONS BY COMPUTATION ARE SOUND (maps).
-/
import Derived.Test.YtjehfpfgpnmpoaaGreatDoorXFb
set_option linter.all false
namespace Go.Ev

section
variable {P : Program}

theorem xmap_spec {h : Hp} {id : Nat} {o : Obj} {ks : List Value} (hu : xmap h id = some (o, ks)) : h id = some o ∧ o.ver = 0 ∧ o.live = true ∧ o.k = .map ks := by
  unfold xmap at hu
  split at hu
  · rename_i ob hob
    split at hu
    · rename_i hl
      rw [bifO] at hu
      obtain ⟨hv, hu⟩ := hu
      split at hu
      · rename_i ks' hk
        cases hu
        exact ⟨hob, Nat.eq_of_beq_eq_true hv, hl, hk⟩
      · cases hu
    · cases hu
  · cases hu

theorem map_at {g : Gh} {oh : OH} {w : World} {id : Nat} {o : Obj} {ks : List Value} {b : Nat} (hr : HR g oh w) (ho : oget oh id = some o) (hl : o.live = true) (hk : o.k = .map ks) (hb : g.m id = some b) :
    ∃ es clock, w.heap[b]? = some (.map es clock) ∧ ks = es.toList.map (·.key) ∧ o.el.length = ks.length ∧ ∀ (j : Nat) (e : MapEntry) (v : V), es[j]? = some e → o.el[j]? = some v → RdA g oh v e.val := by
  obtain ⟨go, q1, q2, q3⟩ := (hr.obj id o ho hl).2 b hb
  unfold KindAt at q3
  rw [hk] at q3
  obtain ⟨es, clock, rfl, h1, h2, h3⟩ := q3
  refine ⟨es, clock, q1, ?_, h2, fun j e v he hv => (h3 j e he).2 v hv⟩
  apply List.ext_getElem?
  intro j
  rw [List.getElem?_map, show es.toList[j]? = es[j]? from Array.getElem?_toList]
  by_cases hj : j < es.size
  · have he := Array.getElem?_eq_getElem hj
    rw [he]
    exact (h3 j _ he).1
  · rw [show es[j]? = none from Array.getElem?_eq_none (by omega), show ks[j]? = none from List.getElem?_eq_none (by omega)]; rfl

theorem mp_val {g : Gh} {oh : OH} {id : Nat} {o : Obj} {x : Value} (h : RdV g oh (.mp id) x) (ho : oget oh id = some o) (hv : o.ver = 0) (hl : o.live = true) : ∃ b, g.m id = some b ∧ x = .map (some b) := by
  obtain ⟨_, o2, ho2, hat⟩ := h
  rw [ho] at ho2
  obtain rfl : o = o2 := by simpa using ho2
  exact hat hv hl

theorem ba_beq (s t : ByteArray) : (s == t) = (s.data.toList == t.data.toList) := by
  show (s.data == t.data) = _
  rw [Bool.eq_iff_iff, beq_iff_eq, beq_iff_eq]
  exact ⟨fun e => by rw [e], fun e => Array.ext' e⟩

theorem keyOK_spec {k : TypeId} {key : Value} (h : keyOK (tk P k) key = true) :
    ∃ d, P.underlying k = some d ∧ (∀ v b, keyEq key v = some b → Instr.sameNow d key v = some b) ∧ (∀ v, keyEq key v = some true → v = key) ∧ (∀ n, Instr.sameBits n key key = true) ∧ (∀ w b n, (Instr.checkKey b (n + 1) k key).run P w = .ok () w) := by
  unfold keyOK at h
  split at h
  · rename_i k1 k2 a hk
    have hu := tk_int hk
    refine ⟨_, hu, fun v b hb => ?_, fun v hb => ?_, fun n => by cases n <;> simp [Instr.sameBits], fun w b n => by simp [Instr.checkKey, run_underlying hu]⟩
    · unfold keyEq at hb
      split at hb
      · rename_i he; cases he
        rw [bifO] at hb
        obtain ⟨hq, hb⟩ := hb
        have := keq_iff hq
        cases hb
        simp [Instr.sameNow, this, ieq_iff]
      · rename_i he; cases he
      · rename_i he; cases he
      · cases hb
    · unfold keyEq at hb
      split at hb
      · rename_i he; cases he
        rw [bifO] at hb
        obtain ⟨hq, hb⟩ := hb
        have := keq_iff hq
        rw [ieq_iff] at hb
        simp only [Option.some.injEq, beq_iff_eq] at hb
        rw [this, hb]
      · rename_i he; cases he
      · rename_i he; cases he
      · cases hb
  · rename_i s hk
    have hu := tk_str hk
    refine ⟨_, hu, fun v b hb => ?_, fun v hb => ?_, fun n => by cases n <;> simp [Instr.sameBits, ba_beq], fun w b n => by simp [Instr.checkKey, run_underlying hu]⟩
    · unfold keyEq at hb
      split at hb
      · rename_i he; cases he
      · rename_i s' t he; cases he
        cases hb
        simp only [Instr.sameNow]
        rw [bytesEq_iff, ba_beq]
      · rename_i he; cases he
      · cases hb
    · unfold keyEq at hb
      split at hb
      · rename_i he; cases he
      · rename_i s' t he; cases he
        rw [bytesEq_iff] at hb
        simp only [Option.some.injEq, beq_iff_eq] at hb
        congr 1
        cases s; cases t; congr 1; exact (Array.ext' hb).symm
      · rename_i he; cases he
      · cases hb
  · rename_i b0 hk
    have hu := tk_bool hk
    refine ⟨_, hu, fun v b hb => ?_, fun v hb => ?_, fun n => by cases n <;> simp [Instr.sameBits], fun w b n => by simp [Instr.checkKey, run_underlying hu]⟩
    · unfold keyEq at hb
      split at hb
      · rename_i he; cases he
      · rename_i he; cases he
      · rename_i he; cases he
        cases hb
        simp [Instr.sameNow, beqB_iff]
      · cases hb
    · unfold keyEq at hb
      split at hb
      · rename_i he; cases he
      · rename_i he; cases he
      · rename_i he; cases he
        rw [beqB_iff] at hb
        simp only [Option.some.injEq, beq_iff_eq] at hb
        rw [hb]
      · cases hb
  · cases h

theorem findNow_ok {d : TypeDesc} {key : Value} (hs : ∀ v b, keyEq key v = some b → Instr.sameNow d key v = some b) : ∀ (es : List MapEntry) (i : Nat) (r : Option Nat), keyFind key (es.map (·.key)) i = some r →
    (r = none → Instr.findNow d key es i = some none) ∧ ∀ j, r = some j → i ≤ j ∧ ∃ e, es[j - i]? = some e ∧ Instr.findNow d key es i = some (some (j, e.val)) ∧ keyEq key e.key = some true
  | [], i, r, h => by
    simp only [List.map_nil, keyFind, Option.some.injEq] at h
    subst h
    exact ⟨fun _ => rfl, fun j hj => by cases hj⟩
  | x :: es, i, r, h => by
    simp only [List.map_cons, keyFind] at h
    split at h
    · rename_i he
      cases h
      refine ⟨fun e => (nomatch e), fun j hj => ?_⟩
      cases hj
      exact ⟨Nat.le_refl _, x, by simp, by simp [Instr.findNow, hs _ _ he], he⟩
    · rename_i he
      obtain ⟨h1, h2⟩ := findNow_ok hs es (i + 1) r h
      refine ⟨fun e => by simp [Instr.findNow, hs _ _ he, h1 e], fun j hj => ?_⟩
      obtain ⟨h3, e, h4, h5, h6⟩ := h2 j hj
      refine ⟨by omega, e, ?_, by simp [Instr.findNow, hs _ _ he, h5], h6⟩
      rw [show j - i = (j - (i + 1)) + 1 by omega]
      simpa using h4
    · cases h

theorem run_findKey {k : TypeId} {d : TypeDesc} {key : Value} {es : List MapEntry} {r : Option (Nat × Value)} (w : World) (hu : P.underlying k = some d) (h : Instr.findNow d key es 0 = some r) : (Instr.findKey k key es).run P w = .ok r w := by
  simp [Instr.findKey, run_underlying hu, h]

theorem run_getMap {w : World} {b : Nat} {es : Array MapEntry} {clock : Nat} (h : w.heap[b]? = some (.map es clock)) : (getObj b).run P w = .ok (.map es clock) w := by
  simp [getObj, Sem.run, h]

theorem zero_of {e : TypeId} {z : V} (hz : z = tz P e ∨ z = .undef) (hs : z.solid = true) (w : World) : ∃ x, (zeroValue e).run P w = .ok x w ∧ ∀ g oh, RdV g oh z x := by
  rcases hz with rfl | rfl
  · unfold tz at hs ⊢
    cases hi : P.info? e with
    | none => simp [hi, V.solid] at hs
    | some i =>
      cases hz : i.zero with
      | none => simp [hi, hz, V.solid] at hs
      | some z => exact ⟨z, by simp [zeroValue, typeInfo, hi, hz], fun g oh => by simpa [hz] using ofConst_ok z⟩
  · cases hs

theorem rdA_of_solid {g : Gh} {oh : OH} {v : V} {x : Value} (h : RdV g oh v x) (hs : v.solid = true) : RdA g oh v x := by
  cases v <;> first | exact h | cases hs
theorem rdV_of_solid {g : Gh} {oh : OH} {v : V} {x : Value} (h : RdA g oh v x) (hs : v.solid = true) : RdV g oh v x := by
  cases v <;> first | exact h | cases hs

theorem rd_withOk {g : Gh} {oh : OH} {v : V} {x : Value} {ok b : Bool} (h : RdV g oh v x) (hs : v.solid = true) : RdV g oh (withOk ok b v) (if ok then .tuple #[x, .bool b] else x) := by
  cases ok with
  | false => exact h
  | true =>
    refine ⟨#[x, .bool b], by simp, rfl, fun j u c hu hc => ?_⟩
    match j with
    | 0 => simp at hu hc; subst hu; subst hc; exact rdA_of_solid h hs
    | 1 => simp at hu hc; subst hu; subst hc; exact ⟨rfl, rfl⟩
    | j + 2 => simp at hu

theorem step_lookup {tb : Tb} (htk : ∀ t, tb.tk t = tk P t) (htz : ∀ t, tb.tz t = tz P t ∨ tb.tz t = .undef) {o : Oper} {t : TypeId} {x i : Operand} {ok : Bool} {e : Operand → V} {oh : OH} {h : Hp} {acc : Acc} (hh : ∀ i, oget oh i = h i) (ho : o.op = .lookup t x i ok)
    (hx : xlookup tb (tk P t) h (e x) (e i) ok = some acc) : Some P o e oh fun b => b = acc := by
  unfold xlookup at hx
  split at hx
  · rename_i k el key hd hvi
    have hu := tk_map hd
    rw [bifO] at hx
    obtain ⟨hkey, hx⟩ := hx
    rw [htk] at hkey
    obtain ⟨d, hku, hsame, _, _, hchk⟩ := keyOK_spec hkey
    split at hx
    · rename_i hvx
      rw [bifO] at hx
      obtain ⟨hs, hx⟩ := hx
      cases hx
      refine some_pre (by simp) fun g oh' w ρ hr hρ hp => ?_
      have hρx := hρ x (by simp [ho, Op.operands])
      have hρi := hρ i (by simp [ho, Op.operands])
      rw [hvx] at hρx
      rw [hvi] at hρi
      obtain ⟨z, hz, hrd⟩ := zero_of (htz el) hs w
      refine ⟨_, ?_, rd_withOk (ok := ok) (b := false) (hrd g oh') hs⟩
      simp only [execOp, ho]
      refine run_val _ w w _ ?_
      rw [hρx.1, hρi.1]
      have hf : Instr.findNow d key [] 0 = some none := rfl
      simp [Instr.lookup, run_underlying hu, hchk w _ 9999, run_findKey w hku hf, hz]
    · rename_i id hvx
      split at hx
      · rename_i ob ks hmap
        obtain ⟨h1, h2, h3, h4⟩ := xmap_spec hmap
        have hpre : ∀ j ob', (j, ob') ∈ [(id, ob)] → oget oh j = some ob' := fun j ob' hm => by
          have hm : j = id ∧ ob' = ob := by simpa using hm
          rw [hm.1, hm.2, hh]; exact h1
        have gen : ∀ (g : Gh) (oh' : OH) (w : World) (ρ : Operand → Value), HR g oh' w → (∀ z, z ∈ o.op.operands → RdV g oh' (e z) (ρ z)) → oget oh' id = some ob →
            ∃ (es : Array MapEntry) (clock : Nat), ks = es.toList.map (·.key) ∧ ob.el.length = ks.length ∧ (∀ (j : Nat) (e : MapEntry) (v : V), es[j]? = some e → ob.el[j]? = some v → RdA g oh' v e.val) ∧
              ∀ r x b, Instr.findNow d key es.toList 0 = some r → (match r with | some (_, v) => x = v ∧ b = true | none => (zeroValue el).run P w = .ok x w ∧ b = false) →
                (execOp ρ o).run P w = .ok (.value (if ok then .tuple #[x, .bool b] else x)) w := by
          intro g oh' w ρ hr hρ hob
          have hρx := hρ x (by simp [ho, Op.operands])
          have hρi := hρ i (by simp [ho, Op.operands])
          rw [hvx] at hρx
          rw [hvi] at hρi
          obtain ⟨b, hb, hbx⟩ := mp_val hρx hob h2 h3
          obtain ⟨es, clock, q1, q2, q3, q4⟩ := map_at hr hob h3 h4 hb
          refine ⟨es, clock, q2, q3, q4, fun r y bb hf hy => ?_⟩
          simp only [execOp, ho]
          refine run_val _ w w _ ?_
          rw [hbx, hρi.1]
          cases r with
          | none =>
            obtain ⟨hz, rfl⟩ := hy
            simp [Instr.lookup, run_underlying hu, run_getMap q1, hchk w _ 9999, run_findKey w hku hf, hz]
          | some p =>
            obtain ⟨jj, v⟩ := p
            obtain ⟨rfl, rfl⟩ := hy
            simp [Instr.lookup, run_underlying hu, run_getMap q1, hchk w _ 9999, run_findKey w hku hf]
        unfold xfound at hx
        split at hx
        · rename_i hkf
          rw [bifO] at hx
          obtain ⟨hs, hx⟩ := hx
          cases hx
          refine some_pre hpre fun g oh' w ρ hr hρ hp => ?_
          obtain ⟨es, clock, q1, q2, q3, q4⟩ := gen g oh' w ρ hr hρ (hp id ob (by simp))
          rw [q1] at hkf
          have hf := (findNow_ok hsame es.toList 0 none hkf).1 rfl
          obtain ⟨z, hz, hrd⟩ := zero_of (htz el) hs w
          exact ⟨_, q4 none z false hf ⟨hz, rfl⟩, rd_withOk (hrd g oh') hs⟩
        · rename_i j hkf
          split at hx
          · rename_i v hv
            rw [bifO] at hx
            obtain ⟨hs, hx⟩ := hx
            cases hx
            refine some_pre hpre fun g oh' w ρ hr hρ hp => ?_
            obtain ⟨es, clock, q1, q2, q3, q4⟩ := gen g oh' w ρ hr hρ (hp id ob (by simp))
            rw [q1] at hkf
            obtain ⟨_, en, he, hf, _⟩ := (findNow_ok hsame es.toList 0 (some j) hkf).2 j rfl
            refine ⟨_, q4 (some (j, en.val)) en.val true hf ⟨rfl, rfl⟩, rd_withOk (rdV_of_solid (q3 j en v (by simpa using he) hv) hs) hs⟩
          · cases hx
        · cases hx
      · cases hx
    · cases hx
  · cases hx

theorem step_mkMap {o : Oper} {t : TypeId} {r : Option Operand} {e : Operand → V} {oh : OH} {nx : Nat} (hnx : oget oh nx = none) {acc : Acc} (ho : o.op = .makeMap t r) (hx : xmkMap (tk P t) nx (r.map e) = some acc) : Some P o e oh fun b => b = acc := by
  have key : (∀ (g : Gh) (oh : OH) (w : World) (ρ : Operand → Value), (∀ z, z ∈ o.op.operands → RdV g oh (e z) (ρ z)) → (execOp ρ o).run P w = .ok (.value (.map (some w.heap.size))) (w.alloc (.map #[] 0))) →
      acc = ⟨[], [nx], [(nx, ⟨0, [], 0, true, .map []⟩)], .mp nx⟩ → Some P o e oh fun b => b = acc := by
    rintro hrun rfl
    refine ⟨_, ?_, by simp, by simpa using hnx, rfl⟩
    intro g oh' w ρ hr hρ _ hn
    rw [hrun g oh' w ρ hρ]
    have hnone := hn nx (by simp)
    obtain ⟨p1, p2, p3⟩ := hr.place nx 0 ⟨0, [], 0, true, .map []⟩ (.map #[] 0) (by simp [hnone]) ⟨#[], 0, rfl, rfl, rfl, fun j e he => by simp at he⟩
    exact ⟨_, p1, ⟨rfl, _, oget_cons_same _ _ _, fun _ _ => ⟨w.heap.size, by simp [Gh.at], rfl⟩⟩, p2, p3⟩
  unfold xmkMap xnew at hx
  split at hx
  · rename_i k el hd hr
    cases hx
    obtain rfl : r = none := by cases r <;> first | rfl | cases hr
    refine key (fun g oh w ρ hρ => ?_) rfl
    simp only [execOp, ho]
    exact run_val _ w _ _ rfl
  · rename_i k el q n hd hr
    cases hx
    obtain ⟨y, rfl, hy⟩ := Option.map_eq_some_iff.1 hr
    refine key (fun g oh w ρ hρ => ?_) rfl
    have hρy := hρ y (by simp [ho, Op.operands])
    rw [hy] at hρy
    simp only [execOp, ho]
    refine run_val _ w _ _ ?_
    simp [Instr.makeMap, run_underlying (tk_map hd), hρy.1, asInt, asIntOf, newObj, Sem.run]
  · cases hx

theorem step_mapUp {tt : TypeId → TK} (htt : ∀ t, tt t = tk P t) {o : Oper} {t : TypeId} {x i v : Operand} {e : Operand → V} {oh : OH} {h : Hp} {acc : Acc} (hh : ∀ i, oget oh i = h i) (ho : o.op = .mapUpdate t x i v)
    (hx : xupdate tt (tk P t) h (e x) (e i) (e v) = some acc) : Some P o e oh fun b => b = acc := by
  unfold xupdate at hx
  split at hx
  · rename_i k el key id hd hvi hvx
    have hu := tk_map hd
    rw [bifO] at hx
    obtain ⟨hc, hx⟩ := hx
    simp only [Bool.and_eq_true] at hc
    obtain ⟨hkey, hs⟩ := hc
    rw [htt] at hkey
    obtain ⟨d, hku, hsame, hsk, hbits, hchk⟩ := keyOK_spec hkey
    split at hx
    · rename_i ob ks hmap
      obtain ⟨h1, h2, h3, h4⟩ := xmap_spec hmap
      have hpre : ∀ j ob', (j, ob') ∈ [(id, ob)] → oget oh j = some ob' := fun j ob' hm => by
        have hm : j = id ∧ ob' = ob := by simpa using hm
        rw [hm.1, hm.2, hh]; exact h1
      unfold xput at hx
      split at hx
      · rename_i hkf
        cases hx
        refine ⟨_, ?_, hpre, by simp, rfl⟩
        intro g oh' w ρ hr hρ hp _
        have hob := hp id ob (by simp)
        have hρx := hρ x (by simp [ho, Op.operands])
        have hρi := hρ i (by simp [ho, Op.operands])
        have hρv := hρ v (by simp [ho, Op.operands])
        rw [hvx] at hρx
        rw [hvi] at hρi
        obtain ⟨b, hb, hbx⟩ := mp_val hρx hob h2 h3
        obtain ⟨es, clock, q1, q2, q3, q4⟩ := map_at hr hob h3 h4 hb
        rw [q2] at hkf
        have hf := (findNow_ok hsame es.toList 0 none hkf).1 rfl
        have hrun : (execOp ρ o).run P w = .ok .skip (w.putObj b (.map (es.push { key, val := ρ v, born := clock }) (clock + 1))) := by
          simp only [execOp, ho]
          rw [hbx, hρi.1]
          simp [Instr.mapUpdate, run_underlying hu, run_getMap q1, hchk w _ 9999, run_findKey w hku hf, Go.setObj, Sem.run, World.putObj, q1]
        rw [hrun]
        obtain ⟨p1, p2, p3⟩ := hr.put id b ob ⟨ob.sz, ob.el ++ [e v], ob.ver, ob.live, .map (ks ++ [key])⟩ _ (.map (es.push { key, val := ρ v, born := clock }) (clock + 1)) hob h3 hb q1 rfl (Nat.le_refl _) (fun _ => by simp) (by
          have hks : ks.length = es.size := by rw [q2]; simp
          refine ⟨_, _, rfl, by simp [hks], by simp [q3], fun j en hen => ?_⟩
          rw [Array.getElem?_push] at hen
          by_cases hj : j = es.size
          · subst hj
            rw [if_pos rfl] at hen
            cases hen
            refine ⟨by simp [← hks], fun u huu => ?_⟩
            have : u = e v := by
              rw [List.getElem?_append_right (by omega), q3, hks] at huu
              simpa using huu.symm
            subst this
            exact rdA_of_solid hρv hs
          · rw [if_neg hj] at hen
            have hlt : j < es.size := (Array.getElem?_eq_some_iff.1 hen).1
            refine ⟨?_, fun u huu => q4 j en u hen ?_⟩
            · rw [List.getElem?_append_left (by omega), q2, List.getElem?_map, Array.getElem?_toList, hen]; rfl
            · rw [List.getElem?_append_left (by omega)] at huu; exact huu)
        exact ⟨g, p1, trivial, p2, p3⟩
      · rename_i j hkf
        cases hx
        refine ⟨_, ?_, hpre, by simp, rfl⟩
        intro g oh' w ρ hr hρ hp _
        have hob := hp id ob (by simp)
        have hρx := hρ x (by simp [ho, Op.operands])
        have hρi := hρ i (by simp [ho, Op.operands])
        have hρv := hρ v (by simp [ho, Op.operands])
        rw [hvx] at hρx
        rw [hvi] at hρi
        obtain ⟨b, hb, hbx⟩ := mp_val hρx hob h2 h3
        obtain ⟨es, clock, q1, q2, q3, q4⟩ := map_at hr hob h3 h4 hb
        rw [q2] at hkf
        obtain ⟨_, en, he, hf, heq⟩ := (findNow_ok hsame es.toList 0 (some j) hkf).2 j rfl
        have hekey : en.key = key := hsk _ heq
        have he' : es[j]? = some en := by simpa using he
        have hrun : (execOp ρ o).run P w = .ok .skip (w.putObj b (.map (es.modify j fun e => { e with key, val := ρ v }) clock)) := by
          simp only [execOp, ho]
          rw [hbx, hρi.1]
          simp [Instr.mapUpdate, run_underlying hu, run_getMap q1, hchk w _ 9999, run_findKey w hku hf, Go.setObj, Sem.run, World.putObj, q1, he', hekey, Instr.keyThatStays, hbits]
        rw [hrun]
        obtain ⟨p1, p2, p3⟩ := hr.put id b ob ⟨ob.sz, ob.el.set j (e v), ob.ver, ob.live, .map ks⟩ _ (.map (es.modify j fun e => { e with key, val := ρ v }) clock) hob h3 hb q1 rfl (Nat.le_refl _) (fun _ => by simp) (by
          have hks : ks.length = es.size := by rw [q2]; simp
          refine ⟨_, _, rfl, by simp [hks], by simp [q3], fun j2 en2 hen => ?_⟩
          rw [Array.getElem?_modify] at hen
          by_cases hj : j = j2
          · subst hj
            rw [if_pos rfl, he'] at hen
            simp only [Option.map_some, Option.some.injEq] at hen
            subst hen
            refine ⟨?_, fun u huu => ?_⟩
            · rw [q2, List.getElem?_map, show es.toList[j]? = es[j]? from Array.getElem?_toList, he']; simp [hekey]
            · have hlt : j < es.size := (Array.getElem?_eq_some_iff.1 he').1
              rw [List.getElem?_set_self (by omega)] at huu
              obtain rfl : e v = u := by simpa using huu
              exact rdA_of_solid hρv hs
          · rw [if_neg hj] at hen
            refine ⟨?_, fun u huu => q4 j2 en2 u hen ?_⟩
            · rw [q2, List.getElem?_map, Array.getElem?_toList, hen]; rfl
            · rw [List.getElem?_set_ne hj] at huu; exact huu)
        exact ⟨g, p1, trivial, p2, p3⟩
      · cases hx
    · cases hx
  · cases hx

theorem step_mapLen {o : Oper} {c : Call} {x : Operand} {t k el : TypeId} {e : Operand → V} {oh : OH} {h : Hp} {acc : Acc} (hh : ∀ i, oget oh i = h i) (ho : o.op = .call c) (hc : c.callee = .builtin .len)
    (ha : c.args.toList = [x]) (ht : c.argTypes.toList = [t]) (hd : tk P t = .map k el) (hx : xlen (.map k el) h (e x) = some acc) : Some P o e oh fun b => b = acc := by
  have ha' : c.args = #[x] := by rw [← Array.toArray_toList (xs := c.args), ha]
  have ht' : c.argTypes = #[t] := by rw [← Array.toArray_toList (xs := c.argTypes), ht]
  have hmx : x ∈ o.op.operands := by simp [ho, Op.operands, Call.operands, hc, ha']
  have hu := tk_map hd
  have run : ∀ (ρ : Operand → Value) (w w' : World) (v : Value), (Builtin.len_ #[t] o.type #[ρ x]).run P w = .ok v w' → (execOp ρ o).run P w = .ok (.value v) w' := by
    intro ρ w w' v hv
    simp [execOp, ho, resolve, hc, ha', ht', invoke, builtin, hv]
  unfold xlen at hx
  simp only at hx
  split at hx
  · rename_i hvx
    cases hx
    refine some_pre (by simp) fun g oh' w ρ hr hρ hp => ?_
    have hρx := hρ x hmx
    rw [hvx] at hρx
    refine ⟨_, run ρ w w _ ?_, con_of rfl⟩
    rw [hρx.1]
    simp [Builtin.len_, run_underlying hu, goInt]
  · rename_i id hvx
    split at hx
    · rename_i ob ks hmap
      cases hx
      obtain ⟨h1, h2, h3, h4⟩ := xmap_spec hmap
      refine some_pre (fun j ob' hm => by
        have hm : j = id ∧ ob' = ob := by simpa using hm
        rw [hm.1, hm.2, hh]; exact h1) fun g oh' w ρ hr hρ hp => ?_
      have hob := hp id ob (by simp)
      have hρx := hρ x hmx
      rw [hvx] at hρx
      obtain ⟨b, hb, hbx⟩ := mp_val hρx hob h2 h3
      obtain ⟨es, clock, q1, q2, q3, q4⟩ := map_at hr hob h3 h4 hb
      refine ⟨_, run ρ w w _ ?_, con_of rfl⟩
      rw [hbx]
      simp [Builtin.len_, run_underlying hu, run_getMap q1, goInt, q2]
    · cases hx
  · cases hx

end
end Go.Ev
