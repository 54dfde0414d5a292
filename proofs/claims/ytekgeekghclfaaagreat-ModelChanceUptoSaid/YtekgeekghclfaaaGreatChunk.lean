import Derived.Test.YtekgeekghclfaaaGreatChk1
import Derived.RangeFuncNested
import Derived.RangeFuncBound
import Derived.RangeFuncCalls
import Derived.RangeFuncLeaves
import Derived.Shelf.Abstract
import Derived.Shelf.RegionOpen
import Derived.WalkKit
import Derived.OwnWalkIn
import Derived.TacticsInMore
import Derived.LoopNIn
import Derived.LoopIn
set_option linter.all false
namespace Go.Proofs
open Go.RowKit Go.Shelf
attribute [local go_sem] Oper.semAt_some
set_option maxRecDepth 100000
set_option maxHeartbeats 4000000
theorem chunk_in (F : Fence) (n : Nat) (hF : F.fn 50) (hro : F.round = none) (a : Option Addr) (len cap : Nat) (v : Int) (hv : 1 ≤ v) (w : World) :
    CallsIn F n Tryz.prog 50 #[.slice a len cap, .int .i64 v] w fun e w' => e = .returned (.func (.func 77) #[] #[.pointer (some ⟨w.heap.size, 0, none⟩), .pointer (some ⟨w.heap.size + 1, 0, none⟩)]) ∧
      w' = (w.alloc (.cells #[.slice a len cap] 48)).alloc (.cells #[.int .i64 v] 3) := by
  refine callsIn_of_wp Tryz.func50 rfl hF ?_ hro
  simp only [Tryz.ntmps50, List.size_toArray, List.length_cons, List.length_nil, Nat.reduceAdd, Nat.reduceSub, Array.replicate_succ, Array.replicate_zero, List.push_toArray, List.append_toArray, List.nil_append, List.cons_append]
  gi_wp2
  go_ret
  exact ⟨rfl, rfl⟩
def cutV (a : Option Addr) (len v : Nat) (k : Nat) : Value := .slice (a.map fun x => x.add (k * v * 3)) (min v (len - k * v)) (min v (len - k * v))
def cutN (len v : Nat) : Nat := (len + v - 1) / v
theorem cutN_lt {len v k : Nat} (hv : 1 ≤ v) : k < cutN len v ↔ k * v < len := by
  unfold cutN
  rw [Nat.lt_div_iff_mul_lt (by omega)]
  omega
abbrev CutK (len v : Nat) := { k : Nat // k * v < len }
theorem chunk1_in (F : Fence) (n : Nat) (hF : F.fn 77) (hro : F.round = none) (hn : 1 ≤ n) (l Bs Bn n₀ len cap v : Nat) (a : Option Addr) (hv : 1 ≤ v) (hb : Bs < n₀) (hb2 : Bn < n₀) (hlc : len ≤ cap) (hlen : len ≤ 1048576) (hvl : v ≤ 1048576) (J Jx : List (CutK len v) → World → Prop) (hJd : ∀ pre W, J pre W → J pre W.drew)
    (hY : ∀ pre x W, J pre W → pre.length < cutN len v → YieldAt F (n - 1) Tryz.prog l #[cutV a len v x.1] W fun e W' =>
      (e = .returned (.bool true) ∧ J (pre ++ [x]) W' ∧ Below n₀ W W') ∨ (e = .returned (.bool false) ∧ Jx (pre ++ [x]) W'))
    (W : World) (hBs : W.cell? ⟨Bs, 0, none⟩ = some (.slice a len cap)) (hBn : W.cell? ⟨Bn, 0, none⟩ = some (.int .i64 v)) (h0 : J [] W) :
    CallsIn F n Tryz.prog 77 #[.func (.yield l) #[] #[], .pointer (some ⟨Bs, 0, none⟩), .pointer (some ⟨Bn, 0, none⟩)] W fun e W' => (∃ v, e = .returned v) ∧
      ((∃ ys, ys.map (·.1) = List.range (cutN len v) ∧ J ys W') ∨ (∃ pre, (∃ k, k ≤ cutN len v ∧ pre.map (·.1) = List.range k) ∧ Jx pre W')) := by
  refine callsIn_of_wp Tryz.func77 rfl hF ?_ hro
  simp only [Tryz.ntmps77, List.size_toArray, List.length_cons, List.length_nil, Nat.reduceAdd, Nat.reduceSub, Array.replicate_succ, Array.replicate_zero, List.push_toArray, List.append_toArray, List.nil_append, List.cons_append]
  gi_wp2
  gi_loopw [4] (fun i wr => ∃ (k j : Nat) (pr : List (CutK len v)), k ≤ cutN len v ∧ Go.Ev.Keep (k * v = j) ∧ Go.Ev.Keep (pr.map (·.1) = List.range k) ∧ i = .int .i64 (j : Nat) ∧ J pr wr ∧ Below n₀ W wr)
    (fun i _ => len + v - (intOf i).toNat)
  case atStart => exact ⟨0, 0, [], Nat.zero_le _, Go.Ev.Keep.mk (Nat.zero_mul _), Go.Ev.Keep.mk rfl, rfl, h0, Below.refl _ _⟩
  case round =>
    obtain ⟨k, j, pr, hk, hkj, hpr, rfl, hJs, hnx⟩ := hrel
    have c1 : wr.cell? ⟨Bs, 0, none⟩ = some (.slice a len cap) := (hnx.cell (p := ⟨Bs, 0, none⟩) hb).trans hBs
    have c2 : wr.cell? ⟨Bn, 0, none⟩ = some (.int .i64 v) := (hnx.cell (p := ⟨Bn, 0, none⟩) hb2).trans hBn
    have hmx : Tryz.prog.follows .mixedOrders = true := by kernel_rfl
    have hkN : Go.Ev.Keep (k < cutN len v ↔ j < len) := Go.Ev.Keep.mk (by rw [← hkj.out]; exact cutN_lt hv)
    by_cases hlt : j < len
    · obtain ⟨fn, tmps, assign, body, hy, hR⟩ := hY pr ⟨k, by rw [hkj.out]; exact hlt⟩ wr.drew (hJd _ _ hJs) (by have := congrArg List.length hpr.out; rw [List.length_map, List.length_range] at this; rw [this]; exact hkN.out.2 hlt)
      unfold cutV at hy
      rw [hkj.out] at hy
      have e1 : Go.Ev.Keep ((((j : Int) + ((len - j : Nat) : Int)).toNat - j) = len - j) := Go.Ev.Keep.mk (by omega)
      have e2 : Go.Ev.Keep ((((j : Int) + (v : Int)).toNat - j) = v) := Go.Ev.Keep.mk (by omega)
      gi_wp2
      gi_region_o
      all_goals gi_wp2
      all_goals (rename_i h; first | (have hm : min v (len - j) = len - j := by omega); rw [hm] at hy; rw [e1.out, hy] | (have hm : min v (len - j) = v := by omega); rw [hm] at hy; rw [e2.out, hy])
      all_goals gi_wp2
      all_goals refine hR.mono ?_
      all_goals (rintro e W3 (⟨rfl, hJ3, hk3⟩ | ⟨rfl, hJx3⟩))
      all_goals (try have c3 : W3.cell? ⟨Bn, 0, none⟩ = some (.int .i64 v) := (hk3.cell (p := ⟨Bn, 0, none⟩) hb2).trans c2)
      all_goals gi_wp2
      all_goals first
        | exact ⟨⟨k + 1, j + v, _, hkN.out.2 hlt, Go.Ev.Keep.mk (by rw [Nat.succ_mul, hkj.out]), Go.Ev.Keep.mk (by rw [List.map_append, hpr.out, List.range_succ]; rfl), by simp, hJ3, hnx.drew.trans hk3⟩, by simp [intOf]; omega⟩
        | exact bodyPost_ret (results_none rfl _ _ _) rfl ⟨⟨_, rfl⟩, .inr ⟨_, ⟨k + 1, hkN.out.2 hlt, by rw [List.map_append, hpr.out, List.range_succ]; rfl⟩, hJx3⟩⟩
    · gi_wp2
      go_end0
      have hk2 : k = cutN len v := by
        have : ¬ k < cutN len v := fun h => hlt (hkN.out.1 h)
        omega
      exact ⟨⟨_, rfl⟩, .inl ⟨_, by rw [← hk2]; exact hpr.out, hJs⟩⟩
theorem chunk_stops (F : Fence) (n : Nat) (hF : F.fn 77) (hro : F.round = none) (hn : 1 ≤ n) (Bs Bn n₀ len cap v : Nat) (a : Option Addr) (hv : 1 ≤ v) (hb : Bs < n₀) (hb2 : Bn < n₀) (hlc : len ≤ cap) (hlen : len ≤ 1048576) (hvl : v ≤ 1048576)
    (w : World) (hw : n₀ ≤ w.heap.size) (hBs : w.cell? ⟨Bs, 0, none⟩ = some (.slice a len cap)) (hBn : w.cell? ⟨Bn, 0, none⟩ = some (.int .i64 v)) :
    SeqStopsK F n Tryz.prog 77 #[.pointer (some ⟨Bs, 0, none⟩), .pointer (some ⟨Bn, 0, none⟩)] (fun k : CutK len v => #[cutV a len v k.1]) (Below n₀) (fun ys => ys.map (·.1) = List.range (cutN len v)) (fun pre => ∃ k, k ≤ cutN len v ∧ pre.map (·.1) = List.range k) (cutN len v) w := fun l J Jx W hW hJ _ hY h0 =>
  chunk1_in F n hF hro hn l Bs Bn n₀ len cap v a hv hb hb2 hlc hlen hvl J Jx (fun pre W1 h => hJ pre W1 W1.drew none h ⟨rfl, rfl, rfl, Nat.le_refl _, fun _ _ _ => rfl⟩ (fun r e => by cases e)) hY W ((hW.cell (p := ⟨Bs, 0, none⟩) (by show Bs < _; omega)).trans hBs) ((hW.cell (p := ⟨Bn, 0, none⟩) (by show Bn < _; omega)).trans hBn) h0
end Go.Proofs
