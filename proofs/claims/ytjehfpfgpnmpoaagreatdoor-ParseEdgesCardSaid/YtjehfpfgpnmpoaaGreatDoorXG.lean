/-
  OWN LAYER 'Ev', PART XG: THE STEPS BY COMPUTATION ARE SOUND.
-/
import Derived.Test.YtjehfpfgpnmpoaaGreatDoorXFc
import Derived.Lib.Builder
set_option linter.all false
namespace Go.Ev

/-- The tables' types. -/
structure TbF (P : Program) (tb : Tb) : Prop where
  tk : ∀ t, tb.tk t = Go.Ev.tk P t
  tz : ∀ t, tb.tz t = Go.Ev.tz P t ∨ tb.tz t = .undef
  eqst : ∀ t q, tb.eqst t = some q → EqSt P t q
  lies : ∀ t u n, tb.lies t u n = true → liesAt P P.depth t (n / P.cellsOf t) 0 u 1 = true ∧ ∃ j, P.info? u = some j

section
variable {P : Program} {tb : Tb}

theorem xtypedOf_spec {h : Hp} {id ver : Nat} {o : Obj} {t : TypeId} (hu : xtypedOf h id ver = some (o, t)) : h id = some o ∧ o.ver = ver ∧ o.live = true ∧ o.k = .typed t := by
  unfold xtypedOf at hu
  split at hu
  · rename_i o' hl
    obtain ⟨h1, h2, h3⟩ := xlive_spec hl
    split at hu
    · rename_i t' hk
      cases hu
      exact ⟨h1, h2, h3, hk⟩
    · cases hu
  · cases hu

theorem typed_at {g : Gh} {oh : OH} {w : World} {id : Nat} {o : Obj} {t : TypeId} {b : Nat} (hr : HR g oh w) (ho : oget oh id = some o) (hl : o.live = true) (hk : o.k = .typed t) (hb : g.m id = some b) : w.shape? b = some (t, o.sz) := by
  obtain ⟨go, q1, q2, q3⟩ := (hr.obj id o ho hl).2 b hb
  unfold KindAt at q3
  rw [hk] at q3
  obtain ⟨arr, rfl, hba, hn⟩ := q3
  have := hba.1
  rw [hn, Nat.one_mul] at this
  simp [World.shape?, q1, this]

theorem step_toU {o : Oper} {src dst el : TypeId} {x : Operand} {e : Operand → V} {oh : OH} {h : Hp} {acc : Acc} (hh : ∀ i, oget oh i = h i) (ho : o.op = .convert src dst x) (hs : tk P src = .ptr el) (hd : tk P dst = .uptr)
    (hx : xtoU (tk P el) h (e x) = some acc) : Some P o e oh fun b => b = acc := by
  unfold xtoU at hx
  split at hx
  · rename_i fs z id ver hel hv
    split at hx
    · rename_i ob t hty
      rw [bifO] at hx
      obtain ⟨hc, hx⟩ := hx
      simp only [Bool.and_eq_true, Nat.blt_eq] at hc
      cases hx
      obtain ⟨h1, h2, h3, h4⟩ := xtypedOf_spec hty
      refine some_pre (fun j ob' hm => by
        have hm : j = id ∧ ob' = ob := by simpa using hm
        rw [hm.1, hm.2, hh]; exact h1) fun g oh' w ρ hr hρ hp => ?_
      have hob := hp id ob (by simp)
      have hρx := hρ x (by simp [ho, Op.operands])
      rw [hv] at hρx
      obtain ⟨b, hb, hbx⟩ := ref_val hρx hob h2 h3
      have hbx' : ρ x = .pointer (some ⟨b, 0, none⟩) := by rw [hbx]; simp
      obtain ⟨_, i, _, hi, _, hsz, _⟩ := tk_st hel
      refine ⟨ρ x, ?_, hρx⟩
      simp only [execOp, ho]
      refine run_val _ w w _ ?_
      rw [hbx']
      exact Lib.run_to_unsafe w ⟨b, 0, none⟩ (tk_ptr hs) (tk_uptr hd) hi (by rw [hsz]; omega) (typed_at hr hob h3 h4 hb) hc.1
    · cases hx
  · cases hx

theorem step_ofU (tf : TbF P tb) {o : Oper} {src dst u : TypeId} {x : Operand} {e : Operand → V} {oh : OH} {h : Hp} {acc : Acc} (hh : ∀ i, oget oh i = h i) (ho : o.op = .convert src dst x) (hs : tk P src = .uptr) (hd : tk P dst = .ptr u)
    (hx : xofU tb u h (e x) = some acc) : Some P o e oh fun b => b = acc := by
  unfold xofU at hx
  split at hx
  · rename_i id ver hv
    split at hx
    · rename_i ob t hty
      rw [bifO] at hx
      obtain ⟨hc, hx⟩ := hx
      cases hx
      obtain ⟨hlies, j, hj⟩ := tf.lies _ _ _ hc
      obtain ⟨h1, h2, h3, h4⟩ := xtypedOf_spec hty
      refine some_pre (fun j ob' hm => by
        have hm : j = id ∧ ob' = ob := by simpa using hm
        rw [hm.1, hm.2, hh]; exact h1) fun g oh' w ρ hr hρ hp => ?_
      have hob := hp id ob (by simp)
      have hρx := hρ x (by simp [ho, Op.operands])
      rw [hv] at hρx
      obtain ⟨b, hb, hbx⟩ := ref_val hρx hob h2 h3
      have hbx' : ρ x = .pointer (some ⟨b, 0, none⟩) := by rw [hbx]; simp
      refine ⟨ρ x, ?_, hρx⟩
      simp only [execOp, ho]
      refine run_val _ w w _ ?_
      rw [hbx']
      exact Lib.run_from_unsafe w ⟨b, 0, none⟩ (tk_uptr hs) (tk_ptr hd) hj (typed_at hr hob h3 h4 hb) hlies
    · cases hx
  · cases hx

theorem byteOf_spec {x : V} {b : UInt8} (h : byteOf x = some b) : x = .con (.int .u8 (b.toNat : Nat)) := by
  unfold byteOf at h
  split at h
  · rename_i n
    rw [bifO] at h
    obtain ⟨hc, h⟩ := h
    simp only [Nat.blt_eq] at hc
    cases h
    have : (UInt8.ofNat n).toNat = n := by simp [UInt8.toNat_ofNat']; omega
    rw [this]; rfl
  · cases h

theorem bytesOf_spec : ∀ {xs : List V} {l : List UInt8}, bytesOf xs = some l → xs = l.map fun b => V.con (.int .u8 (b.toNat : Nat))
  | [], l, h => by simp [bytesOf] at h; subst h; rfl
  | x :: r, l, h => by
    unfold bytesOf at h
    split at h
    · rename_i b l' hb hl
      cases h
      rw [byteOf_spec hb, bytesOf_spec hl]; rfl
    · cases h

theorem isU8_spec {d : TK} (h : isU8 d = true) : d = .int .u8 := by
  unfold isU8 at h
  split at h
  · rfl
  · cases h

/-- A slice's elements that are bytes: its cells. -/
theorem bytes_cells {g : Gh} {oh : OH} {w : World} {id off len : Nat} {o : Obj} {b : Nat} {l : List UInt8} (hr : HR g oh w) (ho : oget oh id = some o) (hl : o.live = true) (hk : o.k.row = true) (hb : g.m id = some b)
    (hsz : o.sz = 1) (hx : (o.el.drop off).take len = l.map fun b => V.con (.int .u8 (b.toNat : Nat))) : ∀ j x, l[j]? = some x → w.cell? ⟨b, off + j, none⟩ = some (.int .u8 x.toNat) := by
  intro j x hj
  obtain ⟨arr, ty, fz, h1, _, hba⟩ := hr.cellsR ho hl hk hb
  have hjl : j < l.length := (List.getElem?_eq_some_iff.1 hj).1
  have hlen : ((o.el.drop off).take len).length = l.length := by rw [hx, List.length_map]
  have hjn : j < len := by simp at hlen; omega
  have he : o.el[off + j]? = some (V.con (.int .u8 (x.toNat : Nat))) := by
    have := congrArg (fun q : List V => q[j]?) hx
    simp only [List.getElem?_map, hj, Option.map_some] at this
    rw [List.getElem?_take_of_lt hjn, List.getElem?_drop] at this
    exact this
  obtain ⟨_, hq⟩ := hba.2.2.2 (off + j) _ he
  obtain ⟨cc, hcc, _, hrd⟩ := hq 0 _ (by simp [V.cells]; rfl)
  rw [cell_of_row w b _ arr ty fz h1]
  rw [hsz, Nat.mul_one, Nat.add_zero] at hcc
  rw [hcc, hrd.1]

theorem step_strOf {o : Oper} {src dst e1 : TypeId} {x : Operand} {e : Operand → V} {oh : OH} {h : Hp} {acc : Acc} {sz by1 : Nat} {ag : Bool} {z : List Value} (hh : ∀ i, oget oh i = h i) (ho : o.op = .convert src dst x) (hs : tk P src = .sl e1 sz by1 ag z) (hd : tk P dst = .str)
    (hx : xstrOf (isU8 (tk P e1)) h (e x) = some acc) : Some P o e oh fun b => b = acc := by
  obtain ⟨_, _, hu, _⟩ := tk_sl hs
  unfold xstrOf at hx
  split at hx
  · rename_i id ver off len hv
    split at hx
    · rename_i ob hus
      rw [bifO] at hx
      obtain ⟨hc, hx⟩ := hx
      simp only [Bool.and_eq_true, Nat.blt_eq, Nat.beq_eq] at hc
      obtain ⟨⟨hu8, hsz⟩, hlen⟩ := hc
      split at hx
      · rename_i l hl
        rw [bifO] at hx
        obtain ⟨hln, hx⟩ := hx
        have hln := Nat.eq_of_beq_eq_true hln
        cases hx
        obtain ⟨h1, h2, h3, h4⟩ := xuse_spec hus
        refine some_pre (fun j ob' hm => by
          have hm : j = id ∧ ob' = ob := by simpa using hm
          rw [hm.1, hm.2, hh]; exact h1) fun g oh' w ρ hr hρ hp => ?_
        have hob := hp id ob (by simp)
        have hρx := hρ x (by simp [ho, Op.operands])
        rw [hv] at hρx
        obtain ⟨a, cap, hxe, hlc, hoff, hcap⟩ := own_val hρx hob h2 h3
        obtain ⟨b, hb, rfl, hcp⟩ := hcap (by omega)
        refine ⟨.string ⟨l.toArray⟩, ?_, con_of rfl⟩
        simp only [execOp, ho]
        refine run_val _ w w _ ?_
        rw [hxe, ← hln]
        refine run_convert_bytes_back w src dst e1 _ cap l hu (tk_int (isU8_spec hu8)) (tk_str hd) fun j hj => ?_
        have := bytes_cells hr hob h3 h4 hb hsz (bytesOf_spec hl) j l[j] (by simp [hj])
        rw [Addr.add_lit, hsz, Nat.mul_one]
        exact this
      · cases hx
    · cases hx
  · rename_i hv
    rw [bifO] at hx
    obtain ⟨hu8, hx⟩ := hx
    have hu8 := isU8_spec hu8
    cases hx
    refine some_pre (by simp) fun g oh' w ρ hr hρ hp => ?_
    have hρx := hρ x (by simp [ho, Op.operands])
    rw [hv] at hρx
    obtain ⟨a, hxe, hn⟩ := hρx
    obtain rfl := hn rfl
    refine ⟨.string ⟨#[]⟩, ?_, con_of rfl⟩
    simp only [execOp, ho]
    refine run_val _ w w _ ?_
    rw [hxe, run_convert_bytes_string w src dst e1 none 0 0 hu (tk_int hu8) (tk_str hd)]
    simp [Conv.bytesToString]
    rfl
  · cases hx

theorem xstep_eq (tb : Tb) (op : Op) (ty : TypeId) (e : Operand → V) (h : Hp) (nx : Nat) : xstep tb op ty e h nx = xstepS tb op ty e h nx := by
  cases op with
  | binOp op t x y u => unfold xstep xstepB xstepS xbinB; cases (e x).scal <;> rfl
  | next x b => cases b <;> rfl
  | _ => rfl

theorem xstep_ok (tf : TbF P tb) {o : Oper} {e : Operand → V} {oh : OH} {h : Hp} {nx : Nat} {acc : Acc} (hh : ∀ i, oget oh i = h i) (hnx : oget oh nx = none) (hx : xstep tb o.op o.type e h nx = some acc) :
    Some P o e oh fun b => b = acc := by
  rw [xstep_eq] at hx
  unfold xstepS at hx
  simp only [tf.tk] at hx
  split at hx
  · rename_i x ho; cases hx; exact step_move (.inl ho) rfl
  · rename_i x ho; cases hx; exact step_move (.inr ho) rfl
  · rename_i c a b ho; 
    refine step_pick ho ?_
    unfold xpick at hx
    split at hx
    · rename_i t hv
      rw [hv]
      cases t <;> (cases hx; exact rfl)
    · cases hx
  · rename_i op t x y t2 ho
    split at hx
    · unfold oneC' at hx
      split at hx
      · rename_i v hv
        cases hx
        refine step_bin ho ?_
        have := xbin_s hv
        have e : (fun u => free (fun b => b = (⟨[], [], [], .con v⟩ : Acc)) (.con u)) = fun u => u = v := by
          funext u
          simp [free]
        rw [e]; exact this
      · cases hx
    · exact step_cmp hh ho (fun q hq => tf.eqst _ _ hq) (fun _ => tf.tk _) hx
  · rename_i op t x ho
    unfold oneC' at hx
    split at hx
    · rename_i v hv
      cases hx
      refine step_un ho ?_
      unfold xun at hv
      split at hv
      · rename_i b hxe; cases hv; rw [hxe]; exact rfl
      · rename_i k n hxe; cases hv; rw [hxe]; exact ⟨_, rfl, by show (⟨[], [], [], _⟩ : Acc) = _; rw [xwrap_eq]⟩
      · cases hv
    · cases hx
  · rename_i s d x ho
    unfold xconv at hx
    split at hx
    · rename_i k0 k hs hd
      split at hx
      · rename_i k1 n hv
        cases hx
        refine step_conv ho ?_
        rw [hs, hd, hv]
        exact ⟨_, rfl, by show (⟨[], [], [], _⟩ : Acc) = _; rw [xwrap_eq]⟩
      · cases hx
    · rename_i hs hd
      split at hx
      · rename_i b hv
        cases hx
        refine step_conv ho ?_
        rw [hs, hd, hv]
        exact rfl
      · cases hx
    · rename_i e1 sz by1 ag z hs hd
      split at hx
      · rename_i b hv
        rw [bifO] at hx
        obtain ⟨hc, hx⟩ := hx
        simp only [Bool.and_eq_true, Nat.ble_eq, tf.tk] at hc
        cases hx
        have he : tk P e1 = .int .u8 := by
          have := hc.1.1
          unfold isU8 at this
          split at this
          · assumption
          · cases this
        exact step_bytes hnx ho hs hd he hv hc.2
      · cases hx
    · rename_i e1 sz by1 ag z hs hd; simp only [tf.tk] at hx; exact step_strOf hh ho hs hd hx
    · rename_i el hs hd; simp only [tf.tk] at hx; exact step_toU hh ho hs hd hx
    · rename_i u hs hd; exact step_ofU tf hh ho hs hd hx
    · cases hx
  · rename_i t x i ho
    cases hd : tk P t with
    | arr n el esz z => rw [hd] at hx; exact step_indexA hh ho hd hx
    | _ => exact step_index ho (xindex_s hh hx fun n el e z he => by rw [hd] at he; cases he)
  · rename_i t x ho; exact step_load ho (xload_s hh hx)
  · rename_i t x v ho; exact step_store ho (xstore_s hh hx)
  · rename_i t x f ho; exact step_field ho (xfield_s hh hx)
  · rename_i t x ho; exact step_box hnx ho (xbox_s hx)
  · rename_i t ho
    rcases tf.tz t with hz | hz
    · rw [hz] at hx; exact step_alloc hnx ho (xbox_s hx)
    · rw [hz] at hx; simp [xbox, V.solid] at hx
  · rename_i t ps ho
    cases hd : tk P t with
    | arr n el esz z => rw [hd] at hx; exact step_buildA ho hd hx
    | _ => exact step_build ho (xbuild_s hx fun n el e z he => by rw [hd] at he; cases he)
  · rename_i t x i ho
    cases hd : tk P t with
    | arr n el esz z => rw [hd] at hx; exact step_idxA (fun _ => tf.tk _) ho hd hx
    | _ => exact step_idx ho (xidx_s hx fun n el e z he => by rw [hd] at he; cases he)
  · rename_i x i ho; exact step_extract ho (xextract_s hx)
  · rename_i x ho; exact step_nil hh ho hx
  · rename_i t len ps ho; exact step_buildSlice hnx ho (xbuildSlice_s hx)
  · rename_i t x lo hi mx ho
    unfold xslice at hx
    split at hx
    · rename_i hm
      refine step_slice ho ?_
      rw [hm]
      exact xslice2_s hh hx
    · rename_i m hm
      split at hx
      · rename_i hv hhi
        obtain ⟨mo, rfl, rfl⟩ := Option.map_eq_some_iff.1 hm
        obtain ⟨ho', rfl, rfl⟩ := Option.map_eq_some_iff.1 hhi
        cases hxe : e x with
        | own id ver off len => exact step_slice3 hh ho hxe hx
        | _ => rw [hxe] at hx; unfold xslice3 at hx; split at hx <;> cases hx
      · cases hx
  · rename_i t l c ho; exact step_make hnx ho (xmake_s hx)
  · rename_i t x ho; exact step_range hnx ho hx
  · rename_i x ho; exact step_next hh ho hx
  · rename_i t x ho; exact step_mkI ho hx
  · rename_i f a b ho; exact step_mkF ho hx
  · rename_i t r ho; exact step_mkMap hnx ho hx
  · rename_i t x i ok ho; exact step_lookup tf.tk tf.tz hh ho hx
  · rename_i t x i v ho; exact step_mapUp (fun _ => tf.tk _) hh ho hx
  · cases hx

end
end Go.Ev
