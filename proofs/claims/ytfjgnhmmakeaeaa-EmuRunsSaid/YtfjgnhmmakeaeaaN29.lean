/- The reference's low, view, one, Flags, Sum, Difference. -/
import Derived.Test.YtfjgnhmmakeaeaaB0
namespace Go.Proofs.Ytfjgnhmmakeaeaa
open Go.RowKit
set_option linter.unusedVariables false
set_option linter.unusedSimpArgs false
set_option maxRecDepth 100000

theorem low_cases (x : Int) : (decide (x.tmod 65536 < 0) = true ∧ wrap64 (x.tmod 65536 + 65536) = x % 65536) ∨ (decide (x.tmod 65536 < 0) = false ∧ x.tmod 65536 = x % 65536) := by
  by_cases h : 0 ≤ x
  · refine .inr ?_
    rw [Int.tmod_eq_emod_of_nonneg h]
    exact ⟨by simp; omega, rfl⟩
  · have e : x.tmod 65536 = -((-x) % 65536) := by
      rw [← Int.tmod_eq_emod_of_nonneg (by omega : 0 ≤ -x), Int.neg_tmod, Int.neg_neg]
    rw [e]
    by_cases hz : (-x) % 65536 = 0
    · exact .inr ⟨by simp; omega, by omega⟩
    · exact .inl ⟨by simp; omega, by unfold wrap64; omega⟩
theorem tmod_bd (x : Int) : -65536 < x.tmod 65536 ∧ x.tmod 65536 < 65536 := by
  by_cases h : 0 ≤ x
  · rw [Int.tmod_eq_emod_of_nonneg h]; omega
  · have e : x.tmod 65536 = -((-x) % 65536) := by
      rw [← Int.tmod_eq_emod_of_nonneg (by omega : 0 ≤ -x), Int.neg_tmod, Int.neg_neg]
    omega
set_option maxHeartbeats 400000 in
theorem refLow_ok (x : Int) (w : World) : Calls Try.prog 84 #[.int .i64 x] w fun e w' => e = .returned (.int .i64 (x % 65536)) ∧ w = w' := by
  have hw : wrap64 (x.tmod 65536) = x.tmod 65536 := by
    have := tmod_bd x; unfold wrap64; omega
  rcases low_cases x with ⟨h1, h2⟩ | ⟨h1, h2⟩
  all_goals
    go_enter Try.func84, Try.ntmps84
    go_wp2
    go_ret
    exact ⟨W.ret1 (W.i64 (by first | exact h2 | (rw [hw]; exact h2) | simp [hw, h2])), rfl⟩
set_option maxHeartbeats 400000 in
theorem refOne_ok (c : Bool) (w : World) : Calls Try.prog 85 #[.bool c] w fun e w' => e = .returned (.int .i64 (W.cy c)) ∧ w = w' := by
  cases c
  all_goals
    go_enter Try.func85, Try.ntmps85
    go_wp2
    go_ret
    exact ⟨rfl, rfl⟩
set_option maxHeartbeats 400000 in
theorem refView_ok (x : Int) (h0 : 0 ≤ x) (h1 : x < 65536) (w : World) : Calls Try.prog 87 #[.int .i64 x] w fun e w' => e = .returned (.int .i64 (W.view x)) ∧ w = w' := by
  unfold W.view
  by_cases h : 32768 ≤ x
  · have t : decide (x ≥ 32768) = true := by simpa using h
    rw [if_pos h]
    go_enter Try.func87, Try.ntmps87
    go_wp2
    go_ret
    exact ⟨rfl, rfl⟩
  · have t : decide (x ≥ 32768) = false := by simpa using h
    rw [if_neg h]
    go_enter Try.func87, Try.ntmps87
    go_wp2
    go_ret
    exact ⟨rfl, rfl⟩
set_option maxHeartbeats 1000000 in
theorem refFlags_core (r m V : Int) (c : Bool) (hv : ∀ w : World, Calls Try.prog 87 #[.int .i64 r] w fun e w' => e = .returned (.int .i64 V) ∧ w = w') (w : World) :
    Calls Try.prog 86 #[.int .i64 r, .bool c, .int .i64 m] w fun e w' => e = .returned (.agg #[.bool c, .bool (r == 0), .bool (decide (32768 ≤ r)), .bool (V != m)]) ∧ Below w.heap.size w w' := by
  have HV := Lib.hid hv; clear hv
  go_enter Try.func86, Try.ntmps86
  go_wp2_with (first | (go_at_call 87; refine (HV.out _).mono ?_; rintro e w' ⟨rfl, rfl⟩))
  exact bodyPost_ret (v := .agg #[.bool c, .bool (r == 0), .bool (decide (32768 ≤ r)), .bool (V != m)]) (by simp [results, Try.results86, go_sem]) rfl ⟨rfl, by repeat (first | exact Below.refl _ _ | refine Ext.alloc ?_ _ | refine Ext.setCell ?_ (by simp) _)⟩
theorem refFlags_ok (r m : Int) (c : Bool) (h0 : 0 ≤ r) (h1 : r < 65536) (w : World) :
    Calls Try.prog 86 #[.int .i64 r, .bool c, .int .i64 m] w fun e w' => e = .returned (W.flags c r (decide (W.view r ≠ m))) ∧ Below w.heap.size w w' := by
  refine (refFlags_core r m (W.view r) c (fun w => refView_ok r h0 h1 w) w).mono ?_
  rintro e w' ⟨rfl, hb⟩
  refine ⟨W.ret1 (W.aggV (r' := r) rfl ?_ rfl ?_), hb⟩
  · unfold W.fZ; rw [Bool.eq_iff_iff]; simp
  · rw [Bool.eq_iff_iff]; simp
end Go.Proofs.Ytfjgnhmmakeaeaa
