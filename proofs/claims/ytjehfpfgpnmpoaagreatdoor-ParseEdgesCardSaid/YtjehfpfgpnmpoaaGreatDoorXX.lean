/-
  OWN LAYER 'Ev', PART XX: THE RUN IS SOUND.
-/
import Derived.Test.YtjehfpfgpnmpoaaGreatDoorXW
set_option linter.all false
namespace Go.Ev

section
variable {P : Program} {B : Sto} {tb : Tb}

theorem x_body {rec : Rec} (ih : Sound P B rec) (ht : TbOK P tb B) : Sound P B (xbody tb rec) := by
  intro t s K h st hx
  unfold xbody at h
  split at h
  · exact x_ops ih ht hx h
  · exact x_opsD ih ht hx h
  · rename_i cx c
    unfold xcode at h
    split at h
    · exact x_skip (.inl rfl) hx h
    · exact x_skip (.inr ⟨_, rfl⟩) hx h
    · exact x_ret hx h
    · exact x_exit hx h
    · exact x_seq ih hx h
    · exact x_cond ih hx h
    · exact x_block ih hx h
    · exact x_loop ih hx h
    · exact x_scope ih hx h
    · rename_i id ops dr
      cases dr with
      | false => exact x_region ih ht hx h
      | true => exact x_drawn ih ht hx h
    · exact x_rangeFunc ih hx h
    · cases h
  · exact x_out ih ht hx h
  · unfold xcall at h
    split at h
    · exact x_yield ih hx h
    · split at h
      · rename_i hc; exact x_callFn ih ht hc hx h
      · unfold xcallM at h
        split at h
        · rw [ht.meth] at h; cases h
        · cases h
      · cases h
  · exact x_callD ih ht hx h
  · exact x_callE ih ht hx h
  · exact x_round ih hx h

theorem x_sound (ht : TbOK P tb B) : ∀ n, Sound P B (xrun tb n)
  | 0 => fun _ _ _ h => by cases h
  | n + 1 => x_body (x_sound ht n) ht

/-- What is the same behind a run that was begun from nothing. -/
structure Kept (w w' : World) : Prop where
  os : w'.os = w.os
  tape : w'.tape = w.tape
  output : w'.output = w.output
  size : w.heap.size ≤ w'.heap.size
  heap : ∀ b, b < w.heap.size → w'.heap[b]? = w.heap[b]?

/-- A CLOSED CALL, BY COMPUTATION. -/
theorem xtop_calls (ht : TbOK P tb B) {fuel : Nat} {q : FuncId} (h : xtop tb fuel q = true) {w : World} (hB : ∀ b o c, B b o = some c → w.cell? ⟨b, o, none⟩ = some c) :
    ∃ ys, (∀ w, (callFunc q #[]).run P w = .ok (.enter q #[]) w → ys = (#[] : Array Value)) ∧ Out P (fun x w' => x = .bool true ∧ Kept w w') ((callFunc q #[]).run P w) := by
  refine ⟨#[], fun _ _ => rfl, ?_⟩
  unfold xtop at h
  have hx : XR ⟨.nil, [], .nil, 0, []⟩ ⟨0, [], []⟩ := ⟨fun _ => rfl, fun _ => rfl, fun _ _ => rfl⟩
  obtain ⟨x, v, s1, st1, L, hx1, hg1, hl1, hk1, hs1⟩ := x_sound ht fuel _ _ _ h _ hx
  have hs1 := hs1 trivial
  have hv : v = .con (.bool true) := by
    simp only at hk1
    split at hk1
    · rw [hk1]
    · cases hk1
  subst hv
  let g : Gh := ⟨B, B, fun _ _ => none, fun _ => none, fun _ => 0⟩
  have hr : HR g [] w := ⟨fun _ _ _ h => h, hB, (fun _ _ _ h => by cases h), (fun i o ho => by simp [oget] at ho), (fun i j oi oj b hi => by simp [oget] at hi)⟩
  have := hs1 g w (.func (.func q) #[] #[]) #[] hr rfl ⟨rfl, rfl⟩ ⟨rfl, by simp⟩
  have e : (callSem (.func (.func q) #[] #[]) #[]).run P w = (callFunc q #[]).run P w := by
    unfold callSem
    rw [Sem.run_bind]
    simp [Deferred.ofValue, invoke, Result.andThen]
  rw [e] at this
  refine this.mono fun x w' hz => ?_
  obtain ⟨g', z1, z2, z3, z4⟩ := hz
  exact ⟨z2.1, z4.os, z4.tape, z4.output, z4.size, fun b hb => z4.keep b hb fun ⟨i, o, ho, _⟩ => by simp [oget] at ho⟩

/-- The same, of a function with code. -/
theorem xtop_fn (ht : TbOK P tb B) {fuel : Nat} {q : FuncId} {fn : Func} {c : Code} (hf : P.funcs[q]? = some fn) (hn : (fn.name == "runtime.NumGoroutine") = false) (hb : fn.body = some c)
    (h : xtop tb fuel q = true) {w : World} (hB : ∀ b o c, B b o = some c → w.cell? ⟨b, o, none⟩ = some c) : Calls P q #[] w fun e w' => e = .returned (.bool true) ∧ Kept w w' := by
  obtain ⟨_, _, hout⟩ := xtop_calls ht h hB
  rw [callFunc_enter hf hn hb] at hout
  have hc : Calls P q #[] w fun e w' => ∃ v, e = .returned v ∧ (v = .bool true ∧ Kept w w') := hout
  refine hc.mono fun e w' he => ?_
  obtain ⟨v, h1, h2, h3⟩ := he
  exact ⟨by rw [h1, h2], h3⟩

end
end Go.Ev
