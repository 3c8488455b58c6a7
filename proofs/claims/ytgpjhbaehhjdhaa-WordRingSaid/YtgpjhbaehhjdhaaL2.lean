/- WordRing: numbers of a width are a ring: the law answers true at every input. -/
import Derived.Test.YtgpjhbaehhjdhaaL1
namespace Go.Proofs.Ytgpjhbaehhjdhaa
open Go.ChangeShapes Go.WideShapes Go.ChangeAt Go.RowKit
set_option linter.unusedVariables false
set_option maxRecDepth 100000
namespace ring

set_option maxHeartbeats 400000 in
theorem add_c (a b v : Int) (p : Addr) (h : W.ok v) (ha : W.U a) (hb : W.U b) (w : World) (hc : w.cell? p = some (.int .i64 v)) :
    Calls Try.prog 37 #[.int .u64 a, .int .u64 b, .pointer (some p)] w fun e w' => e = .returned (.int .u64 (W.add v a b)) ∧ w' = w := by
  go_enter Try.func37, Try.ntmps37
  go_wp2_with (first | (go_at_call 35; refine (add_ok _ _ _ h ha hb _).mono ?_; rintro e w' ⟨rfl, rfl⟩))
  go_ret
  exact ⟨rfl, rfl⟩
set_option maxHeartbeats 400000 in
theorem mul_c (a b v : Int) (p : Addr) (h : W.ok v) (ha : W.U a) (hb : W.U b) (w : World) (hc : w.cell? p = some (.int .i64 v)) :
    Calls Try.prog 38 #[.int .u64 a, .int .u64 b, .pointer (some p)] w fun e w' => e = .returned (.int .u64 (W.mul v a b)) ∧ w' = w := by
  go_enter Try.func38, Try.ntmps38
  go_wp2_with (first | (go_at_call 39; refine (mul_ok _ _ _ h ha hb _).mono ?_; rintro e w' ⟨rfl, rfl⟩))
  go_ret
  exact ⟨rfl, rfl⟩

set_option maxHeartbeats 1000000 in
theorem walk_no (a b c v : Int) (h : ¬ W.ok v) (w : World) :
    Calls Try.prog 5 #[.int .u64 a, .int .u64 b, .int .u64 c, .int .i64 v] w fun e w' => e = .returned (.bool true) ∧ Below w.heap.size w w' := by
  go_enter Try.func5, Try.ntmps5
  go_wp2_with (first | (go_at_call 33; refine (alive1 _).mono ?_; rintro e w' ⟨rfl, hb⟩; have hc := (bcell hb).1 w.heap.size 0 (by simp); simp at hc; have HB := Lib.hid hb; clear hb) | (go_at_call 34; refine (width_no v h _).mono ?_; rintro e w' ⟨rfl, rfl⟩) | (go_at_call 35; refine (add_no _ _ _ h _).mono ?_; rintro e w' ⟨rfl, rfl⟩))
  go_ret
  exact ⟨rfl, ((Below.refl _ _).alloc (Nat.le_refl _) _).trans (HB.out.mono (by simp))⟩

set_option maxHeartbeats 4000000 in
theorem walk_ok (a b c v : Int) (h : W.ok v) (ha : W.U a) (hb : W.U b) (hc : W.U c) (w : World) :
    Calls Try.prog 5 #[.int .u64 a, .int .u64 b, .int .u64 c, .int .i64 v] w fun e w' => e = .returned (.bool true) ∧ Below w.heap.size w w' := by
  obtain ⟨A, hA⟩ : ∃ A, W.cut v a = A := ⟨_, rfl⟩
  have hAU : W.U A := by rw [← hA]; exact W.U_cut _ _
  have hAA : W.cut v A = A := by rw [← hA, W.cut_cut]
  have q1 : (W.add v A b == W.add v b A) = true := by rw [W.add_comm]; simp
  have q2 : (W.mul v A b == W.mul v b A) = true := by rw [W.mul_comm]; simp
  have q3 : (W.add v (W.add v A b) c == W.add v A (W.add v b c)) = true := by rw [W.add_assoc]; simp
  have q4 : (W.mul v (W.mul v A b) c == W.mul v A (W.mul v b c)) = true := by rw [W.mul_assoc]; simp
  have q5 : (W.mul v A (W.add v b c) == W.add v (W.mul v A b) (W.mul v A c)) = true := by rw [W.distrib]; simp
  have q6 : (W.sub v (W.add v A b) b == A) = true := by rw [W.back, hAA]; simp
  have q7 : (W.mul v A 1 == A) = true := by rw [W.mul_one, hAA]; simp
  have q8 : (W.add v A 0 == A) = true := by rw [W.add_zero, hAA]; simp
  have u0 : W.U 0 := ⟨by omega, by omega⟩
  have u1 : W.U 1 := ⟨by omega, by omega⟩
  have HAA := Lib.hid hAA; clear hAA
  go_enter Try.func5, Try.ntmps5
  go_wp2_with (first | (go_at_call 33; refine (alive1 _).mono ?_; rintro e w' ⟨rfl, hb⟩; have hcc := (bcell hb).1 w.heap.size 0 (by simp); simp at hcc; have HB := Lib.hid hb; clear hb) | (go_at_call 34; refine (width_ok v h _).mono ?_; rintro e w' ⟨rfl, rfl⟩) | (go_at_call 36; refine (cut_ok _ _ h ha _).mono ?_; rintro e w' ⟨rfl, rfl⟩))
  have K1 : ∀ (x y : Int) (n : Nat), W.U x → W.U y → Calls Try.prog 37 #[.int .u64 x, .int .u64 y, .pointer (some { block := w.heap.size, off := 0 })] (w'.drewN n) fun e w'' => e = .returned (.int .u64 (W.add v x y)) ∧ ∃ m, w'' = w'.drewN m := fun x y n hx hy => Calls.quiet_of_same (add_c x y v _ h hx hy _ hcc)
  have K2 : ∀ (x y : Int) (n : Nat), W.U x → W.U y → Calls Try.prog 38 #[.int .u64 x, .int .u64 y, .pointer (some { block := w.heap.size, off := 0 })] (w'.drewN n) fun e w'' => e = .returned (.int .u64 (W.mul v x y)) ∧ ∃ m, w'' = w'.drewN m := fun x y n hx hy => Calls.quiet_of_same (mul_c x y v _ h hx hy _ hcc)
  have K3 : ∀ (x y : Int) (n : Nat), W.U x → W.U y → Calls Try.prog 40 #[.int .u64 x, .int .u64 y, .int .i64 v] (w'.drewN n) fun e w'' => e = .returned (.tuple #[.int .u64 (W.sub v x y), .int .i64 0]) ∧ ∃ m, w'' = w'.drewN m := fun x y n hx hy => Calls.quiet_of_same ((sub_ok x y v h hx hy _).mono fun _ _ ⟨he, hw⟩ => ⟨he, hw.symm⟩)
  have HK1 := Lib.hid K1; have HK2 := Lib.hid K2; have HK3 := Lib.hid K3
  clear K1 K2 K3
  go_quiet ((first | (go_at_call 37; refine HK1.out _ _ _ ?_ ?_) | (go_at_call 38; refine HK2.out _ _ _ ?_ ?_) | (go_at_call 40; refine HK3.out _ _ _ ?_ ?_)) <;> (first | assumption | exact W.U_add _ _ _ | exact W.U_mul _ _ _ | exact W.U_sub _ _ _))
  have P1 : ∀ (x y : Int) (W1 : World), W.U x → W.U y → W1.cell? { block := w.heap.size, off := 0 } = some (.int .i64 v) → Calls Try.prog 37 #[.int .u64 x, .int .u64 y, .pointer (some { block := w.heap.size, off := 0 })] W1 fun e w' => e = .returned (.int .u64 (W.add v x y)) ∧ W1 = w' := fun x y W1 hx hy hk => (add_c x y v _ h hx hy W1 hk).mono fun _ _ ⟨he, hw⟩ => ⟨he, hw.symm⟩
  have P2 : ∀ (x y : Int) (W1 : World), W.U x → W.U y → W1.cell? { block := w.heap.size, off := 0 } = some (.int .i64 v) → Calls Try.prog 38 #[.int .u64 x, .int .u64 y, .pointer (some { block := w.heap.size, off := 0 })] W1 fun e w' => e = .returned (.int .u64 (W.mul v x y)) ∧ W1 = w' := fun x y W1 hx hy hk => (mul_c x y v _ h hx hy W1 hk).mono fun _ _ ⟨he, hw⟩ => ⟨he, hw.symm⟩
  have HP1 := Lib.hid P1; have HP2 := Lib.hid P2
  clear P1 P2
  go_wp2_with (first | (go_at_call 37; refine (HP1.out _ _ _ (by first | exact hcc | assumption | exact W.U_add _ _ _ | exact W.U_mul _ _ _ | exact W.U_sub _ _ _) (by first | exact hcc | assumption | exact W.U_add _ _ _ | exact W.U_mul _ _ _ | exact W.U_sub _ _ _) (by first | exact hcc | assumption | exact W.U_add _ _ _ | exact W.U_mul _ _ _ | exact W.U_sub _ _ _)).mono ?_; rintro e w' ⟨rfl, rfl⟩) | (go_at_call 38; refine (HP2.out _ _ _ (by first | exact hcc | assumption | exact W.U_add _ _ _ | exact W.U_mul _ _ _ | exact W.U_sub _ _ _) (by first | exact hcc | assumption | exact W.U_add _ _ _ | exact W.U_mul _ _ _ | exact W.U_sub _ _ _) (by first | exact hcc | assumption | exact W.U_add _ _ _ | exact W.U_mul _ _ _ | exact W.U_sub _ _ _)).mono ?_; rintro e w' ⟨rfl, rfl⟩))
  go_ret
  exact ⟨rfl, ((Below.refl _ _).alloc (Nat.le_refl _) _).trans (below_drewN (HB.out.mono (by simp)) _)⟩
theorem walk (a : Int) (ha : (Lit.int .u64 a).wf = true) (b : Int) (hb : (Lit.int .u64 b).wf = true) (c : Int) (hc : (Lit.int .u64 c).wf = true) (v : Int) (hv : (Lit.int .i64 v).wf = true) (w : World) :
    Calls Try.prog 5 #[.int .u64 a, .int .u64 b, .int .u64 c, .int .i64 v] w fun e w' => e = .returned (.bool true) ∧ Below w.heap.size w w' := by
  by_cases h : W.ok v
  · exact walk_ok a b c v h (W.U_wf ha) (W.U_wf hb) (W.U_wf hc) w
  · exact walk_no a b c v h w
end ring
end Go.Proofs.Ytgpjhbaehhjdhaa
