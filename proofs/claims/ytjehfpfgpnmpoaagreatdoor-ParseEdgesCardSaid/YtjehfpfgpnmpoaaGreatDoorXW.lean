/-
  OWN LAYER 'Ev', PART XW: REGIONS.
-/
import Derived.Test.YtjehfpfgpnmpoaaGreatDoorXV
set_option linter.all false
namespace Go.Ev

section
variable {P : Program} {B : Sto} {tb : Tb}

theorem trOK_snoc {ops : Array Oper} {hist : List (Option Acc)} {tr : List (Fp × Nat)} {f : Fp} {r0 : Option Acc} {o : Oper} {r : List Oper} (h : TrOK ops hist tr) (hdr : ops.toList.drop hist.length = o :: r) (hf : FpOK f r0) :
    TrOK ops (hist ++ [r0]) ((f, ancOf tr tr.length o.after.toList) :: tr) := by
  obtain ⟨hl, hk⟩ := h
  have hoi : ops[hist.length]? = some o := by
    have : (ops.toList.drop hist.length)[0]? = some o := by rw [hdr]; rfl
    rw [List.getElem?_drop] at this; simpa using this
  refine ⟨by simp [hl], fun k p hlt hp => ?_⟩
  by_cases e : k = tr.length
  · subst e
    have : p = (f, ancOf tr tr.length o.after.toList) := by
      have : ((f, ancOf tr tr.length o.after.toList) :: tr).length - 1 - tr.length = 0 := by simp
      rw [this] at hp; simpa using hp.symm
    subst this
    refine ⟨⟨r0, by rw [hl]; simp, hf⟩, fun i hi => ?_⟩
    obtain ⟨e, he, hb, hlt, hcase⟩ := ancOf_spec hi
    have hedge : edge ops e.on tr.length = true := by
      unfold edge
      rw [hl, hoi]
      simp only [List.any_eq_true]
      exact ⟨e, he, by simp [hb]⟩
    rcases hcase with rfl | hb2
    · exact .one hedge
    · unfold ancAt at hb2
      split at hb2
      · rename_i q hq
        exact .more ((hk e.on q hlt hq).2 i hb2) hedge
      · simp at hb2
  · have hlt' : k < tr.length := by simp at hlt; omega
    have : ((f, ancOf tr tr.length o.after.toList) :: tr).length - 1 - k = (tr.length - 1 - k) + 1 := by simp; omega
    rw [this, List.getElem?_cons_succ] at hp
    obtain ⟨⟨a, h1, h2⟩, h3⟩ := hk k p hlt' hp
    exact ⟨⟨a, by rw [List.getElem?_append_left (by rw [← hl]; exact hlt')]; exact h1, h2⟩, h3⟩

theorem pairs_snoc {ops : Array Oper} {hist rs : List (Option Acc)} {tr : List (Fp × Nat)} {f : Fp} {r0 : Option Acc} {o : Oper} {r : List Oper} (h : TrOK ops hist tr) (hdr : ops.toList.drop hist.length = o :: r) (hf : FpOK f r0)
    (hc : commO (ancOf tr tr.length o.after.toList) f tr tr.length = true) (hrest : PairsF ops (hist ++ [r0]).length (hist ++ [r0] ++ rs)) : PairsF ops hist.length (hist ++ r0 :: rs) := by
  have e : hist ++ r0 :: rs = hist ++ [r0] ++ rs := by simp
  rw [e]
  intro i j a b hij hj ha hb
  by_cases hjj : j = hist.length
  · subst hjj
    have hl := h.1
    have hb' : b = r0 := by
      rw [List.append_assoc, List.getElem?_append_right (Nat.le_refl _)] at hb
      simpa using hb.symm
    subst hb'
    have ha' : hist[i]? = some a := by
      rw [List.append_assoc, List.getElem?_append_left hij] at ha; exact ha
    have hi : i < tr.length := by rw [hl]; exact hij
    obtain ⟨p, hp⟩ : ∃ p, tr[tr.length - 1 - i]? = some p := ⟨_, List.getElem?_eq_getElem (by omega)⟩
    obtain ⟨⟨a2, h1, h2⟩, _⟩ := h.2 i p hi hp
    rw [ha'] at h1
    obtain rfl : a = a2 := by simpa using h1
    have hsnoc := trOK_snoc h hdr hf
    rcases commO_spec hc _ p hp with hq | hq | hq
    · exact .inr (fp_indep h2 hf (.inl hq))
    · exact .inr (fp_indep h2 hf (.inr hq))
    · left
      have hz : tr.length - 1 - (tr.length - 1 - i) = i := by omega
      rw [hz] at hq
      have := (hsnoc.2 tr.length (f, ancOf tr tr.length o.after.toList) (by simp) (by simp)).2 i hq
      rw [hl] at this; exact this
  · exact hrest i j a b hij (by simp; omega) ha hb

theorem allQuiet_cons {p : Fp × Nat} {tr : List (Fp × Nat)} (h : allQuiet (p :: tr) = true) : p.1.quiet = true ∧ allQuiet tr = true := by
  obtain ⟨f, n⟩ := p
  cases f with
  | skip => exact ⟨rfl, h⟩
  | op a wr =>
    cases wr with
    | nil => exact ⟨rfl, h⟩
    | cons x r => exact absurd h (by intro e; cases e)
  | call a b => exact absurd h (by intro e; cases e)
theorem commO_quiet {anc : Nat} {f : Fp} (hf : f.quiet = true) : ∀ (tr : List (Fp × Nat)) (j : Nat), allQuiet tr = true → commO anc f tr j = true
  | [], _, _ => rfl
  | p :: tr, j, h => by
    obtain ⟨h1, h2⟩ := allQuiet_cons h
    simp only [commO, h1, hf, Bool.and_true, Bool.true_or, cond_true]
    exact commO_quiet hf tr (j - 1) h2
theorem nextD_spec {rec : Rec} {cx : Cx} {ops : Array Oper} {o : Oper} {r : List Oper} {tr : List (Fp × Nat)} {f : Fp} {K : Kt} {s : Xs} (h : nextD rec cx ops o r tr f K s = true) :
    commO (ancOf tr tr.length o.after.toList) f tr tr.length = true ∧ rec (.opsD cx ops r ((f, ancOf tr tr.length o.after.toList) :: tr)) s K = true := by
  unfold nextD at h
  cases hq : allQuiet ((f, 0) :: tr) with
  | true =>
    rw [hq] at h
    obtain ⟨h1, h2⟩ := allQuiet_cons hq
    exact ⟨commO_quiet h1 tr _ h2, h⟩
  | false =>
    rw [hq] at h
    have h : nextA rec cx ops r tr f K s (ancOf tr tr.length o.after.toList) = true := h
    unfold nextA at h
    cases hc : commO (ancOf tr tr.length o.after.toList) f tr tr.length with
    | false => rw [hc] at h; cases h
    | true => rw [hc, cond_true] at h; exact ⟨rfl, h⟩

theorem x_opsD {rec : Rec} (ih : Sound P B rec) (ht : TbOK P tb B) {cx : Cx} {ops : Array Oper} {l : List Oper} {tr : List (Fp × Nat)} {s : Xs} {K : Kt} {st : St} (hx : XR s st)
    (h : xopsD rec tb cx ops l tr s K = true) : Goal P B (.opsD cx ops l tr) s K st := by
  unfold xopsD at h
  split at h
  · refine ⟨.normal, .undef, s, st, [], hx, Grow.refl _, rfl, h, fun _ => ⟨rfl, rfl, rfl, fun _ => ⟨[], rfl, Eqv.refl _, fun hist _ _ i j a b hij hj ha hb => ?_⟩⟩⟩
    rw [List.append_nil] at hb
    rw [List.getElem?_eq_none (by omega)] at hb; cases hb
  · rename_i o r
    have go : ∀ (f : Fp) (r0 : Option Acc) (s1 : Xs) (L : List Nat), XR s1 (st.go (o, r0)) → Grow L st.oh (st.go (o, r0)).oh → s1.lg = L ++ s.lg → s1.df = s.df → FpOK f r0 →
        ((∀ d, o.dst = some d → d < st.n) → (∀ c, o.op ≠ .defer c) → ∀ g a w, Rel g st a w → g.B = B → CondAt B P ops o st r0 ∧ ∃ g a w, Rel g (st.go (o, r0)) a w ∧ g.B = B) →
        nextD rec cx ops o r tr f K s1 = true → Goal P B (.opsD cx ops (o :: r) tr) s K st := by
      intro f r0 s1 L hx1 hg1 hl1 hdf1 hf hsem hk
      obtain ⟨hc, hk⟩ := nextD_spec hk
      · obtain ⟨x, v, s2, st2, M, hx2, hg2, hl2, hk2, hs2⟩ := ih _ _ _ hk _ hx1
        refine ⟨x, v, s2, st2, M ++ L, hx2, hg1.trans hg2, by rw [hl2, hl1, List.append_assoc], hk2, fun hp => ?_⟩
        obtain ⟨hn, hd, hnd⟩ := hp
        obtain ⟨hdo, hdr⟩ := dst_of hd
        obtain ⟨hn2, hxn, hdf2, hs2⟩ := hs2 ⟨hn, hdr, fun o ho => hnd o (by simp [ho])⟩
        refine ⟨hn2, hxn, hdf2.trans hdf1, ?_⟩
        rintro ⟨g, a, w, hr, hB⟩
        obtain ⟨hcond, hnext⟩ := hsem (fun d e => by rw [hn]; exact hdo d e) (hnd o (by simp)) g a w hr hB
        obtain ⟨rs, hrl, hruns, hpairs⟩ := hs2 hnext
        refine ⟨r0 :: rs, by simp [hrl], ⟨hcond, hruns⟩, fun hist htr hdrop => ?_⟩
        have hdrop' : ops.toList.drop (hist ++ [r0]).length = r := by
          have : (ops.toList.drop hist.length).drop 1 = r := by rw [hdrop]; rfl
          rw [List.drop_drop] at this; simpa using this
        exact pairs_snoc htr hdrop hf hc (hpairs _ (trOK_snoc htr hdrop hf) hdrop')
    split at h
    · rename_i hw
      have hW := (want_spec hx hw).1 rfl
      have hfresh : oget st.oh s.nx = none := hx.fresh _ (Nat.le_refl _)
      have hthen : ∀ (oa : Option Acc), (∀ acc, oa = some acc → Some P o (opd st.env) st.oh fun b => b = acc) → thenD rec cx ops o r tr K oa s = true → Goal P B (.opsD cx ops (o :: r) tr) s K st := by
        intro oa hsome hk
        unfold thenD at hk
        split at hk
        · rename_i acc
          rw [applyA_eq] at hk
          have hdf : (aft acc o.dst s).df = s.df := by unfold aft; rw [(putS_h _ _ _).2.2.1]
          have hlg : (aft acc o.dst s).lg = idsOf acc.post ++ s.lg := by unfold aft; rw [(putS_h _ _ _).2.2.2]
          refine go (.op (idsOf acc.pre ++ acc.nw ++ idsOf acc.post) (acc.nw ++ idsOf acc.post)) (some acc) _ (idsOf acc.post) (hx.app o acc) (Grow.app acc.post st.oh) hlg hdf ⟨rfl, rfl⟩ (fun hdo hnd g a w hr hB => ?_) hk
          obtain ⟨b, hok, hp, hn, rfl⟩ := hsome acc rfl
          exact ⟨⟨hW, hok.toB, hp, hn⟩, okB_next hr hB hdo hok.toB hp hn⟩
        · cases hk
      unfold opD at h
      split at h
      · rename_i c ho
        unfold callD at h
        split at h
        · rename_i f hc
          have hargs : c.args.toList.map (xopd s.env) = c.args.toList.map (opd st.env) := by rw [hx.opdf]
          rw [hx.operand, hargs] at h
          have hx0 : XR { s with lg := [] } st := ⟨hx.env, hx.oh, hx.fresh⟩
          obtain ⟨x, v, s1, st1, L, hx1, hg1, hl1, hk1, hs1⟩ := ih _ _ _ h st hx0
          have hs1 := hs1 trivial
          simp only [backD, putX_eq] at hk1
          have hl1' : s1.lg = L := by rw [hl1]; simp
          have hsub : ∀ i o, oget st.oh i = some o → oget st.oh i = some o := fun _ _ h => h
          have hpo : ∀ i, oget (pickO L st1.oh ++ st.oh) i = oget st1.oh i := by
            intro i
            rw [pick_over hg1 hsub i]
            cases he : oget st1.oh i with
            | some o => rfl
            | none =>
              have : i ∉ L := fun hi => by have := hg1.some_ i hi; rw [he] at this; cases this
              rw [hg1.same i this] at he; exact he
          have hx1' : XR { s1 with env := s.env, df := s.df, lg := s1.lg ++ s.lg } ⟨st.n, st.env, pickO L st1.oh ++ st.oh⟩ := ⟨hx.env, fun i => by rw [hpo]; exact hx1.oh i, fun i hi => by rw [hpo]; exact hx1.fresh i hi⟩
          have hx2 := hx1'.put o v
          have hgo : st.go (o, some (callAcc st.oh st1.oh L v)) = St.app ⟨st.n, st.env, pickO L st1.oh ++ st.oh⟩ o v [] := by
            unfold St.go St.app; rfl
          have hdf : (putS o.dst v { s1 with env := s.env, df := s.df, lg := s1.lg ++ s.lg }).df = s.df := by rw [(putS_h _ _ _).2.2.1]
          have hlg : (putS o.dst v { s1 with env := s.env, df := s.df, lg := s1.lg ++ s.lg }).lg = L ++ s.lg := by rw [(putS_h _ _ _).2.2.2, hl1']
          have hids := pickO_ids hg1.some_
          refine go (.call s.nx s1.lg) (some (callAcc st.oh st1.oh L v)) _ L (by rw [hgo]; exact hx2) ⟨fun i hi => ?_, fun i hi => ?_⟩ hlg hdf ⟨fun i hi => ?_, fun i hi => ?_⟩ (fun hdo hnd g a w hr hB => ?_) hk1
          · show oget (pickO L st1.oh ++ st.oh) i = _
            rw [hpo, hg1.same i hi]
          · show (oget (pickO L st1.oh ++ st.oh) i).isSome = true
            rw [hpo]; exact hg1.some_ i hi
          · rw [hl1']
            unfold Acc.wr at hi
            rcases List.mem_append.1 hi with hi | hi
            · exact (List.mem_filter.1 hi).1
            · have : i ∈ idsOf (pickO L st1.oh) := hi
              rw [hids] at this; exact this
          · obtain ⟨p, hp, rfl⟩ := List.mem_map.1 hi
            obtain ⟨i, ob⟩ := p
            have := normO_1 hp
            by_cases hlt : i < s.nx
            · exact hlt
            · rw [hx.fresh i (by omega)] at this; cases this
          · have hok := call_okB ho hc hr hg1 hs1
            have h1 : ∀ i ob, (i, ob) ∈ (callAcc st.oh st1.oh L v).pre → oget st.oh i = some ob := fun i ob hm => normO_1 hm
            have h2 : ∀ i, i ∈ (callAcc st.oh st1.oh L v).nw → oget st.oh i = none := fun i hm => by
              have := (List.mem_filter.1 hm).2
              simpa using this
            exact ⟨⟨hW, hok, h1, h2⟩, okB_next hr hB hdo hok h1 h2⟩
        · split at h
          · rw [ht.meth] at h; cases h
          · cases h
        · rename_i b hc
          refine hthen _ (fun acc hacc => ?_) h
          rw [hx.opdf] at hacc
          exact ht.blt o c b _ st.oh s.h.get s.nx acc hx.oh hfresh ho hc hacc
      · cases h
      · rename_i hnc hnd
        refine hthen _ (fun acc hacc => ?_) h
        rw [hx.opdf] at hacc
        exact ht.step o _ st.oh s.h.get s.nx acc hx.oh hfresh (fun c' e => hnc c' e) hacc
    · rename_i hw
      have hW := (want_spec hx hw).2 rfl
      rw [putX_eq] at h
      have hdf : (putS o.dst (.tup []) s).df = s.df := by rw [(putS_h _ _ _).2.2.1]
      have hlg : (putS o.dst (.tup []) s).lg = s.lg := by rw [(putS_h _ _ _).2.2.2]
      exact go .skip none _ [] (hx.put o (.tup [])) (Grow.refl _) hlg hdf trivial (fun hdo hnd g a w hr hB => ⟨hW, g, _, w, hr.skip skip_val, hB⟩) h
    · cases h

theorem zip_fst {α β : Type} : ∀ {l : List α} {m : List β}, m.length = l.length → ∀ {i : Nat} {p : α × β}, (l.zip m)[i]? = some p → l[i]? = some p.1 ∧ m[i]? = some p.2
  | [], [], _, i, p, h => by simp at h
  | a :: l, b :: m, hl, 0, p, h => by simp at h; subst h; exact ⟨rfl, rfl⟩
  | a :: l, b :: m, hl, i + 1, p, h => by
    simp only [List.zip_cons_cons, List.getElem?_cons_succ] at h ⊢
    exact zip_fst (by simpa using hl) h

theorem x_region {rec : Rec} (ih : Sound P B rec) (ht : TbOK P tb B) {cx : Cx} {id : Nat} {ops : Array Oper} {s : Xs} {K : Kt} {st : St} (hx : XR s st)
    (h : rec (.ops cx ops ops.toList) s K = true) : Goal P B (.code cx (.region id ops false)) s K st := by
  obtain ⟨x, v, s1, st1, L, hx1, hg1, hl1, hk1, hs1⟩ := ih _ _ _ h st hx
  refine ⟨x, v, s1, st1, L, hx1, hg1, hl1, hk1, fun hp => ?_⟩
  obtain ⟨hn, hok⟩ := hp
  have hok' : dstB cx.n ops.toList = true := by simpa [okX] using hok
  obtain ⟨hn1, hxn, hs2⟩ := hs1 ⟨hn, hok'⟩
  subst hxn
  refine ⟨hn1, fun g a w rd hr hd hrd hB => wpIn_region ?_⟩
  have := hs2 0 g a w rd (PostX .normal st1 s1.df g st.oh w) rfl hr hd hrd hB fun a' w' h => h
  rw [List.range_eq_range']
  simpa using this

theorem x_drawn {rec : Rec} (ih : Sound P B rec) (ht : TbOK P tb B) {cx : Cx} {id : Nat} {ops : Array Oper} {s : Xs} {K : Kt} {st : St} (hx : XR s st)
    (h : rec (.opsD cx ops ops.toList []) s K = true) : Goal P B (.code cx (.region id ops true)) s K st := by
  obtain ⟨x, v, s1, st1, L, hx1, hg1, hl1, hk1, hs1⟩ := ih _ _ _ h st hx
  refine ⟨x, v, s1, st1, L, hx1, hg1, hl1, hk1, fun hp => ?_⟩
  obtain ⟨hn, hok⟩ := hp
  have hok' : dstB cx.n ops.toList = true ∧ apartB ops = true ∧ backB ops = true ∧ (ops.toList.all fun o => match o.op with | .defer _ => false | _ => true) = true := by
    simp only [okX, Bool.not_true, Bool.false_or, Bool.and_eq_true] at hok
    exact ⟨hok.1, hok.2.1.1, hok.2.1.2, hok.2.2⟩
  obtain ⟨ok1, ok2, ok3, ok4⟩ := hok'
  have hnd : ∀ o ∈ ops.toList, ∀ c, o.op ≠ .defer c := by
    intro o ho c e
    have := List.all_eq_true.1 ok4 o ho
    rw [e] at this; cases this
  obtain ⟨hn1, hxn, hdf, hs2⟩ := hs1 ⟨hn, ok1, hnd⟩
  subst hxn
  refine ⟨hn1, fun g a w rd hr hd hrd hB => wpIn_region_any ht.mix ?_⟩
  obtain ⟨rs, hrl, hruns, hpairs⟩ := hs2 ⟨g, a, w, hr, hB⟩
  have hpairs := hpairs [] ⟨rfl, fun k p hk => by simp at hk⟩ rfl
  rw [List.nil_append] at hpairs
  let evs : List Ev := ops.toList.zip rs
  let LL : List (Nat × Ev) := (List.range ops.size).zip evs
  have hel : evs.length = ops.size := by show (ops.toList.zip rs).length = _; rw [List.length_zip, hrl]; simp
  have hll : LL.length = ops.size := by show ((List.range ops.size).zip evs).length = _; rw [List.length_zip, hel]; simp
  have hget : ∀ (i : Nat) (p : Nat × Ev), LL[i]? = some p → p.1 = i ∧ ops[i]? = some p.2.1 ∧ rs[i]? = some p.2.2 := by
    intro i p hp
    obtain ⟨h1, h2⟩ := zip_fst (by rw [hel]; simp) hp
    have hi : i < ops.size := by have := (List.getElem?_eq_some_iff.1 hp).1; rw [hll] at this; exact this
    rw [List.getElem?_range hi] at h1
    obtain ⟨h3, h4⟩ := zip_fst hrl h2
    exact ⟨by simpa using h1.symm, by simpa using h3, h4⟩
  have hL : Left P ops (Array.replicate ops.size false) LL := by
    refine ⟨by simp, fun x hx => ?_, fun i hi => ?_, ?_, ?_, fun i j hj hl => ?_⟩
    · obtain ⟨i, hi⟩ := List.getElem?_of_mem hx
      obtain ⟨h1, h2, _⟩ := hget i x hi
      rw [h1]; exact h2
    · constructor
      · intro _
        have hlt : i < LL.length := by rw [hll]; exact hi
        exact ⟨LL[i], List.getElem_mem hlt, (hget i _ (List.getElem?_eq_getElem hlt)).1⟩
      · intro _
        simp [Array.getD_eq_getD_getElem?, hi]
    · rw [List.pairwise_iff_getElem]
      intro i j hi hj hij
      rw [(hget i _ (List.getElem?_eq_getElem hi)).1, (hget j _ (List.getElem?_eq_getElem hj)).1]
      exact hij
    · rw [List.pairwise_iff_getElem]
      intro i j hi hj hij
      obtain ⟨a1, a2, a3⟩ := hget i _ (List.getElem?_eq_getElem hi)
      obtain ⟨b1, b2, b3⟩ := hget j _ (List.getElem?_eq_getElem hj)
      rw [a1, b1]
      have hj' : j < ops.size := by rw [← hll]; exact hj
      have hap := List.all_eq_true.1 (List.all_eq_true.1 ok2 j (by simpa using hj')) i (by simpa using hij)
      rw [a2, b2] at hap
      simp only [Bool.or_eq_true] at hap
      rcases hap with he | hap
      · exact .inl (.one he)
      · rcases hpairs i j _ _ hij (Nat.zero_le _) a3 b3 with hc | hi
        · exact .inl hc
        · exact .inr ⟨hap, hi⟩
    · have hh : (Array.replicate ops.size false).getD j true = false := by simp [Array.getD_eq_getD_getElem?, hj]
      rw [hh] at hl; cases hl
  have hmap : LL.map (·.2) = evs := by
    apply List.ext_getElem?
    intro i
    rw [List.getElem?_map]
    cases hp : LL[i]? with
    | none =>
      have : ops.size ≤ i := by have := List.getElem?_eq_none_iff.1 hp; rw [hll] at this; exact this
      rw [List.getElem?_eq_none (by rw [hel]; exact this)]; rfl
    | some p =>
      obtain ⟨_, h2⟩ := zip_fst (by rw [hel]; simp) hp
      rw [h2]; rfl
  have hw0 : Rel g st a { w with drawn := w.drawn + 1 } := ⟨hr.hr.same rfl, hr.sz, hr.env⟩
  have hf0 : Fr g st.oh w g st.oh { w with drawn := w.drawn + 1 } := ⟨rfl, rfl, rfl, rfl, Nat.le_refl _, fun _ _ _ => rfl, fun _ h => .inl h, fun _ _ _ h => h, fun _ _ _ h => h, fun _ _ _ h => .inl h, fun _ _ _ h => .inl h⟩
  refine any_ok (Bs := B) (g0 := g) (oh0 := st.oh) (w0 := w) (send := st1) (ds := a.defers) ok1 hB ok3 hnd ?_ ops.size _ LL st g a _ hll hL (by rw [hmap]; exact hruns) hw0 hf0 (Mono.refl _ _) hn rfl
  intro g' a' w' s' he hr' hf' hm' hds
  refine ⟨rfl, g', hr'.eqv he, ?_, hm'.trans (mono_eqv he.2.2), hf'.eqv he.2.2⟩
  rw [hdf, hds]
  exact hd.mono (hm'.trans (mono_eqv he.2.2))

end
end Go.Ev
