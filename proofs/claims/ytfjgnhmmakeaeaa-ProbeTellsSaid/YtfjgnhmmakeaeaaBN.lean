/- The reference's low, view, one, Flags, Sum, Difference. -/
import Derived.Test.YtfjgnhmmakeaeaaB0
namespace Go.Proofs.Ytfjgnhmmakeaeaa
open Go.RowKit
set_option linter.unusedVariables false
set_option linter.unusedSimpArgs false
set_option maxRecDepth 100000

theorem low_cases (x : Int) : (decide (x.tmod 65536 < 0) = true ∧ wrap64 (x.tmod 65536 + 65536) = x % 65536) ∨ (decide (x.tmod 65536 < 0) = false ∧ x.tmod 65536 = x % 65536) := by
  by_cases h : 0 ≤ x
  · refine .inr ?_
    rw [Int.tmod_eq_emod_of_nonneg h]
    exact ⟨by simp; omega, rfl⟩
  · have e : x.tmod 65536 = -((-x) % 65536) := by
      rw [← Int.tmod_eq_emod_of_nonneg (by omega : 0 ≤ -x), Int.neg_tmod, Int.neg_neg]
    rw [e]
    by_cases hz : (-x) % 65536 = 0
    · exact .inr ⟨by simp; omega, by omega⟩
    · exact .inl ⟨by simp; omega, by unfold wrap64; omega⟩
theorem tmod_bd (x : Int) : -65536 < x.tmod 65536 ∧ x.tmod 65536 < 65536 := by
  by_cases h : 0 ≤ x
  · rw [Int.tmod_eq_emod_of_nonneg h]; omega
  · have e : x.tmod 65536 = -((-x) % 65536) := by
      rw [← Int.tmod_eq_emod_of_nonneg (by omega : 0 ≤ -x), Int.neg_tmod, Int.neg_neg]
    omega
set_option maxHeartbeats 400000 in
theorem refLow_ok (x : Int) (w : World) : Calls Try.prog 84 #[.int .i64 x] w fun e w' => e = .returned (.int .i64 (x % 65536)) ∧ w = w' := by
  have hw : wrap64 (x.tmod 65536) = x.tmod 65536 := by
    have := tmod_bd x; unfold wrap64; omega
  rcases low_cases x with ⟨h1, h2⟩ | ⟨h1, h2⟩
  all_goals
    go_enter Try.func84, Try.ntmps84
    go_wp2
    go_ret
    exact ⟨W.ret1 (W.i64 (by first | exact h2 | (rw [hw]; exact h2) | simp [hw, h2])), rfl⟩
set_option maxHeartbeats 400000 in
theorem refOne_ok (c : Bool) (w : World) : Calls Try.prog 85 #[.bool c] w fun e w' => e = .returned (.int .i64 (W.cy c)) ∧ w = w' := by
  cases c
  all_goals
    go_enter Try.func85, Try.ntmps85
    go_wp2
    go_ret
    exact ⟨rfl, rfl⟩
set_option maxHeartbeats 400000 in
theorem refView_ok (x : Int) (h0 : 0 ≤ x) (h1 : x < 65536) (w : World) : Calls Try.prog 87 #[.int .i64 x] w fun e w' => e = .returned (.int .i64 (W.view x)) ∧ w = w' := by
  unfold W.view
  by_cases h : 32768 ≤ x
  · have t : decide (x ≥ 32768) = true := by simpa using h
    rw [if_pos h]
    go_enter Try.func87, Try.ntmps87
    go_wp2
    go_ret
    exact ⟨rfl, rfl⟩
  · have t : decide (x ≥ 32768) = false := by simpa using h
    rw [if_neg h]
    go_enter Try.func87, Try.ntmps87
    go_wp2
    go_ret
    exact ⟨rfl, rfl⟩
set_option maxHeartbeats 1000000 in
theorem refFlags_core (r m V : Int) (c : Bool) (hv : ∀ w : World, Calls Try.prog 87 #[.int .i64 r] w fun e w' => e = .returned (.int .i64 V) ∧ w = w') (w : World) :
    Calls Try.prog 86 #[.int .i64 r, .bool c, .int .i64 m] w fun e w' => e = .returned (.agg #[.bool c, .bool (r == 0), .bool (decide (32768 ≤ r)), .bool (V != m)]) ∧ Below w.heap.size w w' := by
  have HV := Lib.hid hv; clear hv
  go_enter Try.func86, Try.ntmps86
  go_wp2_with (first | (go_at_call 87; refine (HV.out _).mono ?_; rintro e w' ⟨rfl, rfl⟩))
  exact bodyPost_ret (v := .agg #[.bool c, .bool (r == 0), .bool (decide (32768 ≤ r)), .bool (V != m)]) (by simp [results, Try.results86, go_sem]) rfl ⟨rfl, by repeat (first | exact Below.refl _ _ | refine Ext.alloc ?_ _ | refine Ext.setCell ?_ (by simp) _)⟩
theorem refFlags_ok (r m : Int) (c : Bool) (h0 : 0 ≤ r) (h1 : r < 65536) (w : World) :
    Calls Try.prog 86 #[.int .i64 r, .bool c, .int .i64 m] w fun e w' => e = .returned (W.flags c r (decide (W.view r ≠ m))) ∧ Below w.heap.size w w' := by
  refine (refFlags_core r m (W.view r) c (fun w => refView_ok r h0 h1 w) w).mono ?_
  rintro e w' ⟨rfl, hb⟩
  refine ⟨W.ret1 (W.aggV (r' := r) rfl ?_ rfl ?_), hb⟩
  · unfold W.fZ; rw [Bool.eq_iff_iff]; simp
  · rw [Bool.eq_iff_iff]; simp
end Go.Proofs.Ytfjgnhmmakeaeaa
/- The reference's Sum and Difference. -/
namespace Go.Proofs.Ytfjgnhmmakeaeaa
open Go.RowKit
set_option linter.unusedVariables false
set_option linter.unusedSimpArgs false
set_option maxRecDepth 100000

theorem view_bd (x : Int) (h0 : 0 ≤ x) (h1 : x < 65536) : -32768 ≤ W.view x ∧ W.view x ≤ 32767 := by unfold W.view; split <;> omega
set_option maxHeartbeats 2000000 in
theorem refSum_core (x y A B K VA VB R : Int) (c C Z N V : Bool) (hC : decide (A + B + K ≥ 65536) = C) (hA0 : 0 ≤ A) (hA1 : A < 65536) (hB0 : 0 ≤ B) (hB1 : B < 65536) (hK0 : 0 ≤ K) (hK1 : K ≤ 1) (ha0 : -32768 ≤ VA) (ha1 : VA ≤ 32767) (hb0 : -32768 ≤ VB) (hb1 : VB ≤ 32767)
    (h1 : ∀ w : World, Calls Try.prog 84 #[.int .i64 x] w fun e w' => e = .returned (.int .i64 A) ∧ w = w')
    (h2 : ∀ w : World, Calls Try.prog 84 #[.int .i64 y] w fun e w' => e = .returned (.int .i64 B) ∧ w = w')
    (h3 : ∀ w : World, Calls Try.prog 85 #[.bool c] w fun e w' => e = .returned (.int .i64 K) ∧ w = w')
    (h4 : ∀ w : World, Calls Try.prog 84 #[.int .i64 (A + B + K)] w fun e w' => e = .returned (.int .i64 R) ∧ w = w')
    (h5 : ∀ w : World, Calls Try.prog 87 #[.int .i64 A] w fun e w' => e = .returned (.int .i64 VA) ∧ w = w')
    (h6 : ∀ w : World, Calls Try.prog 87 #[.int .i64 B] w fun e w' => e = .returned (.int .i64 VB) ∧ w = w')
    (h7 : ∀ w : World, Calls Try.prog 86 #[.int .i64 R, .bool C, .int .i64 (VA + VB + K)] w fun e w' => e = .returned (.agg #[.bool C, .bool Z, .bool N, .bool V]) ∧ Below w.heap.size w w') (w : World) :
    Calls Try.prog 64 #[.int .i64 x, .int .i64 y, .bool c] w fun e w' => e = .returned (.tuple #[.int .i64 R, Value.agg #[.bool C, .bool Z, .bool N, .bool V]]) ∧ Below w.heap.size w w' := by
  have H1 := Lib.hid h1; have H2 := Lib.hid h2; have H3 := Lib.hid h3; have H4 := Lib.hid h4; have H5 := Lib.hid h5; have H6 := Lib.hid h6; have H7 := Lib.hid h7
  clear h1 h2 h3 h4 h5 h6 h7
  go_enter Try.func64, Try.ntmps64
  go_wp2_with (first | (go_at_call_of 84 (Value.int IntKind.i64 x); refine (H1.out _).mono ?_; rintro e w' ⟨rfl, rfl⟩) | (go_at_call_of 84 (Value.int IntKind.i64 y); refine (H2.out _).mono ?_; rintro e w' ⟨rfl, rfl⟩) | (go_at_call 85; refine (H3.out _).mono ?_; rintro e w' ⟨rfl, rfl⟩) | (go_at_call 84; refine (H4.out _).mono ?_; rintro e w' ⟨rfl, rfl⟩) | (go_at_call_of 87 (Value.int IntKind.i64 A); refine (H5.out _).mono ?_; rintro e w' ⟨rfl, rfl⟩) | (go_at_call 87; refine (H6.out _).mono ?_; rintro e w' ⟨rfl, rfl⟩) | (go_at_call 86; refine (H7.out _).mono ?_; rintro e w1 ⟨rfl, hb1⟩; obtain ⟨z1, k0, k1, k2, k3, g0, g1, g2, g3⟩ := own4 hb1; have HB1 := Lib.hid hb1; clear hb1))
  exact bodyPost_ret (v := .tuple #[.int .i64 R, Value.agg #[.bool C, .bool Z, .bool N, .bool V]]) (by simp [results, Try.results64, go_sem, k0, k1, k2, k3, g0, g1, g2, g3, z1]) rfl ⟨rfl, by repeat (first | exact Below.refl _ _ | exact Ext.trans (Ext.alloc (Below.refl _ _) _) HB1.out | refine Ext.drew ?_ | refine Ext.alloc ?_ _ | refine Ext.setCell ?_ (Nat.le_refl _) _)⟩
set_option maxHeartbeats 2000000 in
theorem refDiff_core (x y A B K VA VB R : Int) (c C Z N V : Bool) (hC : decide (A - B - K < 0) = C) (hA0 : 0 ≤ A) (hA1 : A < 65536) (hB0 : 0 ≤ B) (hB1 : B < 65536) (hK0 : 0 ≤ K) (hK1 : K ≤ 1) (ha0 : -32768 ≤ VA) (ha1 : VA ≤ 32767) (hb0 : -32768 ≤ VB) (hb1 : VB ≤ 32767)
    (h1 : ∀ w : World, Calls Try.prog 84 #[.int .i64 x] w fun e w' => e = .returned (.int .i64 A) ∧ w = w')
    (h2 : ∀ w : World, Calls Try.prog 84 #[.int .i64 y] w fun e w' => e = .returned (.int .i64 B) ∧ w = w')
    (h3 : ∀ w : World, Calls Try.prog 85 #[.bool c] w fun e w' => e = .returned (.int .i64 K) ∧ w = w')
    (h4 : ∀ w : World, Calls Try.prog 84 #[.int .i64 (A - B - K)] w fun e w' => e = .returned (.int .i64 R) ∧ w = w')
    (h5 : ∀ w : World, Calls Try.prog 87 #[.int .i64 A] w fun e w' => e = .returned (.int .i64 VA) ∧ w = w')
    (h6 : ∀ w : World, Calls Try.prog 87 #[.int .i64 B] w fun e w' => e = .returned (.int .i64 VB) ∧ w = w')
    (h7 : ∀ w : World, Calls Try.prog 86 #[.int .i64 R, .bool C, .int .i64 (VA - VB - K)] w fun e w' => e = .returned (.agg #[.bool C, .bool Z, .bool N, .bool V]) ∧ Below w.heap.size w w') (w : World) :
    Calls Try.prog 65 #[.int .i64 x, .int .i64 y, .bool c] w fun e w' => e = .returned (.tuple #[.int .i64 R, Value.agg #[.bool C, .bool Z, .bool N, .bool V]]) ∧ Below w.heap.size w w' := by
  have H1 := Lib.hid h1; have H2 := Lib.hid h2; have H3 := Lib.hid h3; have H4 := Lib.hid h4; have H5 := Lib.hid h5; have H6 := Lib.hid h6; have H7 := Lib.hid h7
  clear h1 h2 h3 h4 h5 h6 h7
  go_enter Try.func65, Try.ntmps65
  go_wp2_with (first | (go_at_call_of 84 (Value.int IntKind.i64 x); refine (H1.out _).mono ?_; rintro e w' ⟨rfl, rfl⟩) | (go_at_call_of 84 (Value.int IntKind.i64 y); refine (H2.out _).mono ?_; rintro e w' ⟨rfl, rfl⟩) | (go_at_call 85; refine (H3.out _).mono ?_; rintro e w' ⟨rfl, rfl⟩) | (go_at_call 84; refine (H4.out _).mono ?_; rintro e w' ⟨rfl, rfl⟩) | (go_at_call_of 87 (Value.int IntKind.i64 A); refine (H5.out _).mono ?_; rintro e w' ⟨rfl, rfl⟩) | (go_at_call 87; refine (H6.out _).mono ?_; rintro e w' ⟨rfl, rfl⟩) | (go_at_call 86; refine (H7.out _).mono ?_; rintro e w1 ⟨rfl, hb1⟩; obtain ⟨z1, k0, k1, k2, k3, g0, g1, g2, g3⟩ := own4 hb1; have HB1 := Lib.hid hb1; clear hb1))
  exact bodyPost_ret (v := .tuple #[.int .i64 R, Value.agg #[.bool C, .bool Z, .bool N, .bool V]]) (by simp [results, Try.results65, go_sem, k0, k1, k2, k3, g0, g1, g2, g3, z1]) rfl ⟨rfl, by repeat (first | exact Below.refl _ _ | exact Ext.trans (Ext.alloc (Below.refl _ _) _) HB1.out | refine Ext.drew ?_ | refine Ext.alloc ?_ _ | refine Ext.setCell ?_ (Nat.le_refl _) _)⟩
theorem refSum_ok (x y : Int) (c : Bool) (w : World) :
    Calls Try.prog 64 #[.int .i64 x, .int .i64 y, .bool c] w fun e w' => e = .returned (.tuple #[.int .i64 (W.sR x y c), W.flags (W.sC x y c) (W.sR x y c) (W.sV x y c)]) ∧ Below w.heap.size w w' := by
  have hk := W.cy_bd c
  have hA0 : 0 ≤ x % 65536 := by omega
  have hA1 : x % 65536 < 65536 := by omega
  have hB0 : 0 ≤ y % 65536 := by omega
  have hB1 : y % 65536 < 65536 := by omega
  have va := view_bd _ hA0 hA1; have vb := view_bd _ hB0 hB1
  have hr := W.sR_bd x y c
  exact refSum_core x y (x % 65536) (y % 65536) (W.cy c) (W.view (x % 65536)) (W.view (y % 65536)) (W.sR x y c) c (W.sC x y c) _ _ _ (by unfold W.sC; rfl) hA0 hA1 hB0 hB1 hk.1 hk.2 va.1 va.2 vb.1 vb.2
    (fun w => refLow_ok x w) (fun w => refLow_ok y w) (fun w => refOne_ok c w) (fun w => refLow_ok _ w) (fun w => refView_ok _ hA0 hA1 w) (fun w => refView_ok _ hB0 hB1 w) (fun w => refFlags_ok _ _ _ hr.1 hr.2 w) w
theorem refDiff_ok (x y : Int) (c : Bool) (w : World) :
    Calls Try.prog 65 #[.int .i64 x, .int .i64 y, .bool c] w fun e w' => e = .returned (.tuple #[.int .i64 (W.dR x y c), W.flags (W.dC x y c) (W.dR x y c) (W.dV x y c)]) ∧ Below w.heap.size w w' := by
  have hk := W.cy_bd c
  have hA0 : 0 ≤ x % 65536 := by omega
  have hA1 : x % 65536 < 65536 := by omega
  have hB0 : 0 ≤ y % 65536 := by omega
  have hB1 : y % 65536 < 65536 := by omega
  have va := view_bd _ hA0 hA1; have vb := view_bd _ hB0 hB1
  have hr := W.dR_bd x y c
  exact refDiff_core x y (x % 65536) (y % 65536) (W.cy c) (W.view (x % 65536)) (W.view (y % 65536)) (W.dR x y c) c (W.dC x y c) _ _ _ (by unfold W.dC; rfl) hA0 hA1 hB0 hB1 hk.1 hk.2 va.1 va.2 vb.1 vb.2
    (fun w => refLow_ok x w) (fun w => refLow_ok y w) (fun w => refOne_ok c w) (fun w => refLow_ok _ w) (fun w => refView_ok _ hA0 hA1 w) (fun w => refView_ok _ hB0 hB1 w) (fun w => refFlags_ok _ _ _ hr.1 hr.2 w) w
end Go.Proofs.Ytfjgnhmmakeaeaa
