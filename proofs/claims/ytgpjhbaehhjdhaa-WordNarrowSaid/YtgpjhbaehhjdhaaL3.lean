/- WordNarrow: what is cut is cut at any time. -/
import Derived.Test.YtgpjhbaehhjdhaaL1
namespace Go.Proofs.Ytgpjhbaehhjdhaa
open Go.ChangeShapes Go.WideShapes Go.ChangeAt Go.RowKit
set_option linter.unusedVariables false
set_option maxRecDepth 100000
namespace narrow

theorem add_n (v u a b : Int) (hv : W.ok v) (hu : W.ok u) (h : v ≤ u) : (W.add v a b != W.cut v (W.add u a b)) = false := by
  have : W.cut v (W.add u a b) = W.add v a b := W.narrow v u _ hv hu h
  rw [this]; simp
theorem sub_n (v u a b : Int) (hv : W.ok v) (hu : W.ok u) (h : v ≤ u) : (W.sub v a b != W.cut v (W.sub u a b)) = false := by
  have : W.cut v (W.sub u a b) = W.sub v a b := W.narrow v u _ hv hu h
  rw [this]; simp
theorem mul_n (v u a b : Int) (hv : W.ok v) (hu : W.ok u) (h : v ≤ u) : (W.mul v a b != W.cut v (W.mul u a b)) = false := by
  have : W.cut v (W.mul u a b) = W.mul v a b := W.narrow v u _ hv hu h
  rw [this]; simp

set_option maxHeartbeats 1000000 in
theorem walk_ok (a b v u : Int) (hv : W.ok v) (hu : W.ok u) (hvu : ¬ u < v) (ha : W.U a) (hb : W.U b) (w : World) :
    Calls Try.prog 6 #[.int .u64 a, .int .u64 b, .int .i64 v, .int .i64 u] w fun e w' => e = .returned (.bool true) ∧ Below w.heap.size w w' := by
  have q1 := add_n v u a b hv hu (by omega)
  have q2 := sub_n v u a b hv hu (by omega)
  have q3 := mul_n v u a b hv hu (by omega)
  go_enter Try.func6, Try.ntmps6
  go_wp2_with (first | (go_at_call 33; refine (alive1 _).mono ?_; rintro e w1 ⟨rfl, hb1⟩; have HB1 := Lib.hid hb1; clear hb1) | (go_at_call 34; refine (width_ok _ (by assumption) _).mono ?_; rintro e w' ⟨rfl, rfl⟩))
  refine wp_loop_rounds 4 ?_
  rw [rounds_succ]
  go_wp2_with (first | (go_at_call 35; refine (add_ok _ _ _ (by assumption) ha hb _).mono ?_; rintro e w' ⟨rfl, rfl⟩) | (go_at_call 36; refine (cut_ok _ _ (by assumption) (W.U_add _ _ _) _).mono ?_; rintro e w' ⟨rfl, rfl⟩))
  rw [rounds_succ]
  go_wp2_with (first | (go_at_call 40; refine (sub_ok _ _ _ (by assumption) ha hb _).mono ?_; rintro e w' ⟨rfl, rfl⟩) | (go_at_call 36; refine (cut_ok _ _ (by assumption) (W.U_sub _ _ _) _).mono ?_; rintro e w' ⟨rfl, rfl⟩))
  rw [rounds_succ]
  go_wp2_with (first | (go_at_call 39; refine (mul_ok _ _ _ (by assumption) ha hb _).mono ?_; rintro e w' ⟨rfl, rfl⟩) | (go_at_call 36; refine (cut_ok _ _ (by assumption) (W.U_mul _ _ _) _).mono ?_; rintro e w' ⟨rfl, rfl⟩))
  rw [rounds_succ]
  go_wp2
  go_ret
  exact ⟨rfl, by repeat (first | exact HB1.out | refine Ext.alloc ?_ _)⟩
set_option maxHeartbeats 1000000 in
theorem walk_no (a b v u : Int) (h : ¬ W.ok v) (w : World) :
    Calls Try.prog 6 #[.int .u64 a, .int .u64 b, .int .i64 v, .int .i64 u] w fun e w' => e = .returned (.bool true) ∧ Below w.heap.size w w' := by
  go_enter Try.func6, Try.ntmps6
  go_wp2_with (first | (go_at_call 33; refine (alive1 _).mono ?_; rintro e w1 ⟨rfl, hb1⟩; have HB1 := Lib.hid hb1; clear hb1) | (go_at_call 34; refine (width_no _ h _).mono ?_; rintro e w' ⟨rfl, rfl⟩))
  go_ret
  exact ⟨rfl, HB1.out⟩
set_option maxHeartbeats 1000000 in
theorem walk_no2 (a b v u : Int) (hv : W.ok v) (h : ¬ W.ok u) (w : World) :
    Calls Try.prog 6 #[.int .u64 a, .int .u64 b, .int .i64 v, .int .i64 u] w fun e w' => e = .returned (.bool true) ∧ Below w.heap.size w w' := by
  go_enter Try.func6, Try.ntmps6
  go_wp2_with (first | (go_at_call 33; refine (alive1 _).mono ?_; rintro e w1 ⟨rfl, hb1⟩; have HB1 := Lib.hid hb1; clear hb1) | (go_at_call_of 34 (Value.int IntKind.i64 v); refine (width_ok _ hv _).mono ?_; rintro e w' ⟨rfl, rfl⟩) | (go_at_call_of 34 (Value.int IntKind.i64 u); refine (width_no _ h _).mono ?_; rintro e w' ⟨rfl, rfl⟩))
  go_ret
  exact ⟨rfl, HB1.out⟩
set_option maxHeartbeats 1000000 in
theorem walk_no3 (a b v u : Int) (hv : W.ok v) (hu : W.ok u) (h : u < v) (w : World) :
    Calls Try.prog 6 #[.int .u64 a, .int .u64 b, .int .i64 v, .int .i64 u] w fun e w' => e = .returned (.bool true) ∧ Below w.heap.size w w' := by
  go_enter Try.func6, Try.ntmps6
  go_wp2_with (first | (go_at_call 33; refine (alive1 _).mono ?_; rintro e w1 ⟨rfl, hb1⟩; have HB1 := Lib.hid hb1; clear hb1) | (go_at_call 34; refine (width_ok _ (by assumption) _).mono ?_; rintro e w' ⟨rfl, rfl⟩))
  go_ret
  exact ⟨rfl, HB1.out⟩
theorem walk (a : Int) (ha : (Lit.int .u64 a).wf = true) (b : Int) (hb : (Lit.int .u64 b).wf = true) (v : Int) (_ : (Lit.int .i64 v).wf = true) (u : Int) (_ : (Lit.int .i64 u).wf = true) (w : World) :
    Calls Try.prog 6 #[.int .u64 a, .int .u64 b, .int .i64 v, .int .i64 u] w fun e w' => e = .returned (.bool true) ∧ Below w.heap.size w w' := by
  by_cases hv : W.ok v
  · by_cases hu : W.ok u
    · by_cases h : u < v
      · exact walk_no3 a b v u hv hu h w
      · exact walk_ok a b v u hv hu h (W.U_wf ha) (W.U_wf hb) w
    · exact walk_no2 a b v u hv hu w
  · exact walk_no a b v u hv w
end narrow
end Go.Proofs.Ytgpjhbaehhjdhaa
