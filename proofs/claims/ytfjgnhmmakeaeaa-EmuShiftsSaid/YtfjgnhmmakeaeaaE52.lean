/- Walk of law EmuShifts. -/
import Derived.Test.YtfjgnhmmakeaeaaE51
import Derived.Test.YtfjgnhmmakeaeaaEc
import Derived.Test.YtfjgnhmmakeaeaaE39
namespace Go.Proofs.Ytfjgnhmmakeaeaa
open Go.RowKit
set_option linter.unusedVariables false
set_option linter.unusedSimpArgs false
set_option maxRecDepth 100000
open Mc
/-- The registers, so many of them set. -/
def rgA (k : Nat) (x0 x1 x2 x3 : Int) : Array Value := stC (if 0 < k then x0 else 0) (if 1 < k then x1 else 0) (if 2 < k then x2 else 0) (if 3 < k then x3 else 0) 0 0 0 0 false false false false 0 (.slice none 0 0)
theorem rgA_next (k : Nat) (hk : k < 4) (x0 x1 x2 x3 : Int) : (rgA k x0 x1 x2 x3).setIfInBounds k (.int .i64 ([x0, x1, x2, x3].getD k 0)) = rgA (k + 1) x0 x1 x2 x3 ∧ (rgA k x0 x1 x2 x3)[k]? = some (.int .i64 0) := by
  rcases (show k = 0 ∨ k = 1 ∨ k = 2 ∨ k = 3 by omega) with rfl | rfl | rfl | rfl <;> exact ⟨rfl, rfl⟩
theorem upR_next (k : Nat) : upR (k + 1) = upR k ++ [⟨15, k, 0, 0⟩] := by unfold upR; rw [List.range_succ, List.map_append]; rfl
def dnP (n k : Nat) : List U.In := (List.range k).map fun i : Nat => ⟨18, ((n - 1 - i : Nat) : Int), 0, 0⟩
theorem dnP_next (n k : Nat) : dnP n (k + 1) = dnP n k ++ [⟨18, ((n - 1 - k : Nat) : Int), 0, 0⟩] := by unfold dnP; rw [List.range_succ, List.map_append]; rfl
theorem up_first {n : Nat} (hn : n = 1 ∨ n = 2 ∨ n = 4) : (insR (upR n)).set 0 (.int .i64 14) = insR (upS n) ∧ (insR (upR n))[0]? = some (.int .i64 15) ∧ 0 < (insR (upR n)).length := by
  rcases hn with rfl | rfl | rfl <;> exact ⟨rfl, rfl, by decide⟩
theorem dn_first {n : Nat} (f : Int) (hn : n = 1 ∨ n = 2 ∨ n = 4) : (insR (dnP n n)).set 0 (.int .i64 f) = insR (dnS f n) ∧ (insR (dnP n n))[0]? = some (.int .i64 18) ∧ 0 < (insR (dnP n n)).length := by
  rcases hn with rfl | rfl | rfl <;> exact ⟨rfl, rfl, by decide⟩
theorem own_first {w : World} {B n : Nat} {v : Value} {xs : List Value} {u : Value} (h : w.ownsRow B 43 4 v n xs) (h0 : xs[0]? = some u) (hp : 0 < xs.length) : ∃ g cap, v = .slice (some ⟨g, 0, none⟩) n cap ∧ B ≤ g ∧ g < w.heap.size ∧ w.cell? ⟨g, 0, none⟩ = some u ∧ w.frozen? ⟨g, 0, none⟩ = false := by
  obtain ⟨g, cap, cur, hv, hg, hb, _, _, hcs, ht⟩ := own_open h hp
  refine ⟨g, cap, hv, hg, hb.lt, ?_, hb.frozen 0⟩
  rw [hb.cell, ← Array.getElem?_toList]
  rw [← ht, List.getElem?_take] at h0
  split at h0
  · exact h0
  · cases h0
theorem ran_regs {w : World} {g : Nat} {F : St} {a b : Value} (h : Blk w g 30 (ranL F a b).toArray) (n : Nat) (hn : n ≤ 4) : Rd w 1 (.slice (some ⟨g, 5, none⟩) n 8) n (([F.r 0, F.r 1, F.r 2, F.r 3].take n).map (Value.int .i64)) := by
  refine ⟨by simp; omega, by unfold maxLen; omega, _, _, rfl, by omega, fun _ => ⟨g, 5, rfl, fun j u hj => ?_⟩⟩
  rw [h.cell]
  rw [List.getElem?_map, List.getElem?_take] at hj
  split at hj
  · rename_i hjn
    rcases (show j = 0 ∨ j = 1 ∨ j = 2 ∨ j = 3 by omega) with rfl | rfl | rfl | rfl <;> exact hj
  · cases hj
end Go.Proofs.Ytfjgnhmmakeaeaa
