/- The reference's Do: an operator of what bits mean. -/
import Derived.Test.YtkmcniaaecijdaaN24
import Derived.Test.YtkmcniaaecijdaaN21
namespace Go.Proofs.Ytkmcniaaecijdaa
open Go.RowKit
set_option linter.unusedVariables false
set_option linter.unusedSimpArgs false
set_option maxRecDepth 100000

theorem W.mn_bd (v x : Int) (s : Bool) : (W.mn v x s).natAbs < 18446744073709551616 := by
  have h1 := W.mod_lo x v; have h2 := W.mod_hi x v; have h3 := W.md_le v
  unfold W.mn
  cases s
  · simp only [Bool.false_eq_true, if_false]; omega
  · simp only [if_true]; unfold W.sg; split <;> omega
theorem W.mn_sm (v x : Int) (s : Bool) : Sm (W.mn v x s).natAbs := Sm.of_lt (Nat.lt_of_lt_of_le (W.mn_bd v x s) (by decide))
theorem N.ln_lt {a k : Nat} (h : a < N.B ^ k) (hk : k ≤ 28) : N.ln a ≤ 28 := Nat.le_trans (N.ln_le h) hk
theorem W.add_ln (v a b : Int) (s : Bool) : N.ln (W.mn v a s + W.mn v b s).natAbs ≤ 28 := N.ln_lt (k := 3) (Nat.lt_of_lt_of_le (m := 2 * 18446744073709551616) (by have := W.mn_bd v a s; have := W.mn_bd v b s; omega) (by decide)) (by omega)
theorem W.sub_ln (v a b : Int) (s : Bool) : N.ln (W.mn v a s - W.mn v b s).natAbs ≤ 28 := N.ln_lt (k := 3) (Nat.lt_of_lt_of_le (m := 2 * 18446744073709551616) (by have := W.mn_bd v a s; have := W.mn_bd v b s; omega) (by decide)) (by omega)
theorem W.mul_ln (v a b : Int) (s : Bool) : N.ln (W.mn v a s * W.mn v b s).natAbs ≤ 28 := by
  refine N.ln_lt (k := 4) ?_ (by omega)
  rw [Int.natAbs_mul]
  refine Nat.lt_of_lt_of_le (Nat.mul_lt_mul'' (W.mn_bd v a s) (W.mn_bd v b s)) (by decide)
theorem W.quo_ln (v a b : Int) (s : Bool) : N.ln ((W.mn v a s).tdiv (W.mn v b s)).natAbs ≤ 28 := by
  refine N.ln_lt (k := 2) ?_ (by omega)
  rw [quo_abs]
  exact Nat.lt_of_le_of_lt (Nat.div_le_self _ _) (Nat.lt_of_lt_of_le (W.mn_bd v a s) (by decide))
theorem W.rem_ln (v a b : Int) (s : Bool) : N.ln ((W.mn v a s).tmod (W.mn v b s)).natAbs ≤ 28 := by
  refine N.ln_lt (k := 2) ?_ (by omega)
  rw [rem_abs]
  exact Nat.lt_of_le_of_lt (Nat.mod_le _ _) (Nat.lt_of_lt_of_le (W.mn_bd v a s) (by decide))
theorem W.mn_divin (v a b : Int) (s : Bool) (h : W.mn v b s ≠ 0) : DivIn (W.mn v a s).natAbs (W.mn v b s).natAbs :=
  ⟨by omega, N.ln_lt (k := 2) (Nat.lt_of_lt_of_le (W.mn_bd v a s) (by decide)) (by omega), .inr (.inl (N.ln_le (Nat.lt_of_lt_of_le (W.mn_bd v a s) (by decide))))⟩
set_option maxHeartbeats 4000000 in
theorem do_add (a b v : Int) (s : Bool) (h : W.ok v) (ha : W.U a) (hb : W.U b) (w : World) :
    Calls Try.prog 77 #[.int .u8 43, .int .u64 a, .int .u64 b, .int .i64 v, .bool s] w fun e w' => e = .returned (.tuple #[.int .u64 ((W.mn v a s + W.mn v b s) % W.md v), .int .i64 0]) ∧ Below w.heap.size w w' := by
  have CW : Hid (∀ w : World, Calls Try.prog 54 #[.int .i64 v] w fun e w' => e = .returned (.bool true) ∧ Below w.heap.size w w') := fun w => by rw [← W.okB_t h]; exact refWidth_ok v w
  obtain ⟨X, hX⟩ : ∃ X, X = W.mn v a s := ⟨_, rfl⟩
  obtain ⟨Y, hY⟩ : ∃ Y, Y = W.mn v b s := ⟨_, rfl⟩
  have CA : Hid (∀ w : World, Calls Try.prog 51 #[.int .u64 a, .int .i64 v, .bool s] w (NewIo w X)) := fun w => by rw [hX]; exact meant_ok a v s h ha w
  have CB : Hid (∀ w : World, Calls Try.prog 51 #[.int .u64 b, .int .i64 v, .bool s] w (NewIo w Y)) := fun w => by rw [hY]; exact meant_ok b v s h hb w
  have CO : Hid (∀ (w : World) (g1 g2 : Nat), Io w g1 X → Io w g2 Y → Calls Try.prog 102 #[P w.heap.size, P g1, P g2] (w.alloc (.cells #[.bool false, .slice none 0 0] 96)) fun e w' => e = .returned (P w.heap.size) ∧ Below w.heap.size w w' ∧ Io w' w.heap.size (X + Y)) := fun w g1 g2 h1 h2 =>
    (intAdd_ok w.heap.size g1 g2 0 X Y (by rw [hX]; exact W.mn_sm v a s) (by rw [hY]; exact W.mn_sm v b s) _ (Io.new w) (h1.below (Ext.alloc (Below.refl _ _) _)) (h2.below (Ext.alloc (Below.refl _ _) _))).mono fun e w' ⟨he, hc, hi⟩ => ⟨he, new_chg (Ext.alloc (Below.refl _ _) _) (Nat.le_refl _) hc, hi⟩
  have CF : Hid (∀ (w : World) (g : Nat), Io w g (X + Y) → Calls Try.prog 70 #[P g, .int .i64 v] w fun e w' => e = .returned (.int .u64 ((X + Y) % W.md v)) ∧ Below w.heap.size w w') := fun w g hi => fit_ok g _ v h (by rw [hX, hY]; exact W.add_ln v a b s) w hi
  rw [← hX, ← hY]
  obtain ⟨R, hR⟩ : ∃ R, R = (X + Y) % W.md v := ⟨_, rfl⟩
  rw [← hR] at CF ⊢
  clear hX hY h ha hb hR
  go_enter Try.func77, Try.ntmps77
  go_wp2_with (first | (go_at_call 54; refine (CW.out _).mono ?_; rintro e w1 ⟨rfl, hb1⟩; have HB1 := Lib.hid hb1; clear hb1) | (go_at_call_of 51 (Value.int IntKind.u64 a); refine (CA.out _).mono ?_; rintro e w2 ⟨g1, rfl, hg1, hb2, hi2⟩; have HB2 := Lib.hid hb2; have HI2 := Lib.hid hi2; clear hb2 hi2 hg1) | (go_at_call_of 51 (Value.int IntKind.u64 b); refine (CB.out _).mono ?_; rintro e w3 ⟨g2, rfl, hg2, hb3, hi3⟩; have HB3 := Lib.hid hb3; have HY3 := Lib.hid hi3; have HX3 := Lib.hid (HI2.out.below hb3); have HB := Lib.hid (Ext.trans (Ext.trans HB1.out HB2.out) HB3.out); clear hb3 hi3 hg2) | (go_at_call 102; refine (CO.out _ _ _ HX3.out HY3.out).mono ?_; rintro e w5 ⟨rfl, hb5, hi5⟩; have HB5 := Lib.hid hb5; have HR5 := Lib.hid hi5; clear hb5 hi5) | (go_at_call 70; refine (CF.out _ _ HR5.out).mono ?_; rintro e w6 ⟨rfl, hb6⟩; have HB6 := Lib.hid hb6; clear hb6))
  go_ret2
  exact ⟨rfl, Ext.trans (Ext.trans HB.out HB5.out) HB6.out⟩
set_option maxHeartbeats 4000000 in
theorem do_sub (a b v : Int) (s : Bool) (h : W.ok v) (ha : W.U a) (hb : W.U b) (w : World) :
    Calls Try.prog 77 #[.int .u8 45, .int .u64 a, .int .u64 b, .int .i64 v, .bool s] w fun e w' => e = .returned (.tuple #[.int .u64 ((W.mn v a s - W.mn v b s) % W.md v), .int .i64 0]) ∧ Below w.heap.size w w' := by
  have CW : Hid (∀ w : World, Calls Try.prog 54 #[.int .i64 v] w fun e w' => e = .returned (.bool true) ∧ Below w.heap.size w w') := fun w => by rw [← W.okB_t h]; exact refWidth_ok v w
  obtain ⟨X, hX⟩ : ∃ X, X = W.mn v a s := ⟨_, rfl⟩
  obtain ⟨Y, hY⟩ : ∃ Y, Y = W.mn v b s := ⟨_, rfl⟩
  have CA : Hid (∀ w : World, Calls Try.prog 51 #[.int .u64 a, .int .i64 v, .bool s] w (NewIo w X)) := fun w => by rw [hX]; exact meant_ok a v s h ha w
  have CB : Hid (∀ w : World, Calls Try.prog 51 #[.int .u64 b, .int .i64 v, .bool s] w (NewIo w Y)) := fun w => by rw [hY]; exact meant_ok b v s h hb w
  have CO : Hid (∀ (w : World) (g1 g2 : Nat), Io w g1 X → Io w g2 Y → Calls Try.prog 85 #[P w.heap.size, P g1, P g2] (w.alloc (.cells #[.bool false, .slice none 0 0] 96)) fun e w' => e = .returned (P w.heap.size) ∧ Below w.heap.size w w' ∧ Io w' w.heap.size (X - Y)) := fun w g1 g2 h1 h2 =>
    (intSub_ok w.heap.size g1 g2 0 X Y (by rw [hX]; exact W.mn_sm v a s) (by rw [hY]; exact W.mn_sm v b s) _ (Io.new w) (h1.below (Ext.alloc (Below.refl _ _) _)) (h2.below (Ext.alloc (Below.refl _ _) _))).mono fun e w' ⟨he, hc, hi⟩ => ⟨he, new_chg (Ext.alloc (Below.refl _ _) _) (Nat.le_refl _) hc, hi⟩
  have CF : Hid (∀ (w : World) (g : Nat), Io w g (X - Y) → Calls Try.prog 70 #[P g, .int .i64 v] w fun e w' => e = .returned (.int .u64 ((X - Y) % W.md v)) ∧ Below w.heap.size w w') := fun w g hi => fit_ok g _ v h (by rw [hX, hY]; exact W.sub_ln v a b s) w hi
  rw [← hX, ← hY]
  obtain ⟨R, hR⟩ : ∃ R, R = (X - Y) % W.md v := ⟨_, rfl⟩
  rw [← hR] at CF ⊢
  clear hX hY h ha hb hR
  go_enter Try.func77, Try.ntmps77
  go_wp2_with (first | (go_at_call 54; refine (CW.out _).mono ?_; rintro e w1 ⟨rfl, hb1⟩; have HB1 := Lib.hid hb1; clear hb1) | (go_at_call_of 51 (Value.int IntKind.u64 a); refine (CA.out _).mono ?_; rintro e w2 ⟨g1, rfl, hg1, hb2, hi2⟩; have HB2 := Lib.hid hb2; have HI2 := Lib.hid hi2; clear hb2 hi2 hg1) | (go_at_call_of 51 (Value.int IntKind.u64 b); refine (CB.out _).mono ?_; rintro e w3 ⟨g2, rfl, hg2, hb3, hi3⟩; have HB3 := Lib.hid hb3; have HY3 := Lib.hid hi3; have HX3 := Lib.hid (HI2.out.below hb3); have HB := Lib.hid (Ext.trans (Ext.trans HB1.out HB2.out) HB3.out); clear hb3 hi3 hg2) | (go_at_call 85; refine (CO.out _ _ _ HX3.out HY3.out).mono ?_; rintro e w5 ⟨rfl, hb5, hi5⟩; have HB5 := Lib.hid hb5; have HR5 := Lib.hid hi5; clear hb5 hi5) | (go_at_call 70; refine (CF.out _ _ HR5.out).mono ?_; rintro e w6 ⟨rfl, hb6⟩; have HB6 := Lib.hid hb6; clear hb6))
  go_ret2
  exact ⟨rfl, Ext.trans (Ext.trans HB.out HB5.out) HB6.out⟩
set_option maxHeartbeats 4000000 in
theorem do_mul (a b v : Int) (s : Bool) (h : W.ok v) (ha : W.U a) (hb : W.U b) (w : World) :
    Calls Try.prog 77 #[.int .u8 42, .int .u64 a, .int .u64 b, .int .i64 v, .bool s] w fun e w' => e = .returned (.tuple #[.int .u64 ((W.mn v a s * W.mn v b s) % W.md v), .int .i64 0]) ∧ Below w.heap.size w w' := by
  have CW : Hid (∀ w : World, Calls Try.prog 54 #[.int .i64 v] w fun e w' => e = .returned (.bool true) ∧ Below w.heap.size w w') := fun w => by rw [← W.okB_t h]; exact refWidth_ok v w
  obtain ⟨X, hX⟩ : ∃ X, X = W.mn v a s := ⟨_, rfl⟩
  obtain ⟨Y, hY⟩ : ∃ Y, Y = W.mn v b s := ⟨_, rfl⟩
  have CA : Hid (∀ w : World, Calls Try.prog 51 #[.int .u64 a, .int .i64 v, .bool s] w (NewIo w X)) := fun w => by rw [hX]; exact meant_ok a v s h ha w
  have CB : Hid (∀ w : World, Calls Try.prog 51 #[.int .u64 b, .int .i64 v, .bool s] w (NewIo w Y)) := fun w => by rw [hY]; exact meant_ok b v s h hb w
  have CO : Hid (∀ (w : World) (g1 g2 : Nat), Io w g1 X → Io w g2 Y → Calls Try.prog 103 #[P w.heap.size, P g1, P g2] (w.alloc (.cells #[.bool false, .slice none 0 0] 96)) fun e w' => e = .returned (P w.heap.size) ∧ Below w.heap.size w w' ∧ Io w' w.heap.size (X * Y)) := fun w g1 g2 h1 h2 =>
    (intMul_ok w.heap.size g1 g2 0 X Y (Nat.ne_of_lt h1.lt) (Nat.ne_of_lt h2.lt) (by rw [hX]; exact W.mn_sm v a s) (by rw [hY]; exact W.mn_sm v b s) _ (Io.new w) (h1.below (Ext.alloc (Below.refl _ _) _)) (h2.below (Ext.alloc (Below.refl _ _) _))).mono fun e w' ⟨he, hc, hi⟩ => ⟨he, new_chg (Ext.alloc (Below.refl _ _) _) (Nat.le_refl _) hc, hi⟩
  have CF : Hid (∀ (w : World) (g : Nat), Io w g (X * Y) → Calls Try.prog 70 #[P g, .int .i64 v] w fun e w' => e = .returned (.int .u64 ((X * Y) % W.md v)) ∧ Below w.heap.size w w') := fun w g hi => fit_ok g _ v h (by rw [hX, hY]; exact W.mul_ln v a b s) w hi
  rw [← hX, ← hY]
  obtain ⟨R, hR⟩ : ∃ R, R = (X * Y) % W.md v := ⟨_, rfl⟩
  rw [← hR] at CF ⊢
  clear hX hY h ha hb hR
  go_enter Try.func77, Try.ntmps77
  go_wp2_with (first | (go_at_call 54; refine (CW.out _).mono ?_; rintro e w1 ⟨rfl, hb1⟩; have HB1 := Lib.hid hb1; clear hb1) | (go_at_call_of 51 (Value.int IntKind.u64 a); refine (CA.out _).mono ?_; rintro e w2 ⟨g1, rfl, hg1, hb2, hi2⟩; have HB2 := Lib.hid hb2; have HI2 := Lib.hid hi2; clear hb2 hi2 hg1) | (go_at_call_of 51 (Value.int IntKind.u64 b); refine (CB.out _).mono ?_; rintro e w3 ⟨g2, rfl, hg2, hb3, hi3⟩; have HB3 := Lib.hid hb3; have HY3 := Lib.hid hi3; have HX3 := Lib.hid (HI2.out.below hb3); have HB := Lib.hid (Ext.trans (Ext.trans HB1.out HB2.out) HB3.out); clear hb3 hi3 hg2) | (go_at_call 103; refine (CO.out _ _ _ HX3.out HY3.out).mono ?_; rintro e w5 ⟨rfl, hb5, hi5⟩; have HB5 := Lib.hid hb5; have HR5 := Lib.hid hi5; clear hb5 hi5) | (go_at_call 70; refine (CF.out _ _ HR5.out).mono ?_; rintro e w6 ⟨rfl, hb6⟩; have HB6 := Lib.hid hb6; clear hb6))
  go_ret2
  exact ⟨rfl, Ext.trans (Ext.trans HB.out HB5.out) HB6.out⟩
set_option maxHeartbeats 4000000 in
theorem do_quo (a b v : Int) (s : Bool) (h : W.ok v) (ha : W.U a) (hb : W.U b) (hz : W.mn v b s ≠ 0) (w : World) :
    Calls Try.prog 77 #[.int .u8 47, .int .u64 a, .int .u64 b, .int .i64 v, .bool s] w fun e w' => e = .returned (.tuple #[.int .u64 (((W.mn v a s).tdiv (W.mn v b s)) % W.md v), .int .i64 0]) ∧ Below w.heap.size w w' := by
  have CW : Hid (∀ w : World, Calls Try.prog 54 #[.int .i64 v] w fun e w' => e = .returned (.bool true) ∧ Below w.heap.size w w') := fun w => by rw [← W.okB_t h]; exact refWidth_ok v w
  obtain ⟨X, hX⟩ : ∃ X, X = W.mn v a s := ⟨_, rfl⟩
  obtain ⟨Y, hY⟩ : ∃ Y, Y = W.mn v b s := ⟨_, rfl⟩
  have CA : Hid (∀ w : World, Calls Try.prog 51 #[.int .u64 a, .int .i64 v, .bool s] w (NewIo w X)) := fun w => by rw [hX]; exact meant_ok a v s h ha w
  have CB : Hid (∀ w : World, Calls Try.prog 51 #[.int .u64 b, .int .i64 v, .bool s] w (NewIo w Y)) := fun w => by rw [hY]; exact meant_ok b v s h hb w
  have CO : Hid (∀ (w : World) (g h g1 g2 : Nat), g ≠ h → Io w g 0 → Io w h 0 → Io w g1 X → Io w g2 Y → Calls Try.prog 104 #[P g, P g1, P g2, P h] w fun e w' => e = .returned (.tuple #[P g, P h]) ∧ Two2 w g h (X.tdiv Y) (X.tmod Y) w') := fun w g k g1 g2 hne h1 h2 h3 h4 =>
    quoRem_ok g k g1 g2 0 0 X Y hne (by rw [hX, hY]; exact W.mn_divin v a b s hz) w h1 h2 h3 h4
  have CF : Hid (∀ (w : World) (g : Nat), Io w g (X.tdiv Y) → Calls Try.prog 70 #[P g, .int .i64 v] w fun e w' => e = .returned (.int .u64 ((X.tdiv Y) % W.md v)) ∧ Below w.heap.size w w') := fun w g hi => fit_ok g _ v h (by rw [hX, hY]; exact W.quo_ln v a b s) w hi
  have CS : Hid (∀ (w : World) (g : Nat), Io w g Y → Calls Try.prog 74 #[P g] w fun e w' => ∃ C : Int, (C == 0) = false ∧ e = .returned (.int .i64 C) ∧ w = w') := fun w g hi =>
    (sign_ok g Y w hi).mono fun e w' ⟨h1, h2⟩ => ⟨_, by rw [← hY] at hz; unfold sgnI; rw [if_neg hz]; split <;> rfl, h1, h2⟩
  have HA : Hid (∀ w0 : World, Io (w0.alloc (.cells #[.bool false, .slice none 0 0] 96)) w0.heap.size 0) := fun w0 => Io.new w0
  rw [← hX, ← hY]
  obtain ⟨R, hR⟩ : ∃ R, R = (X.tdiv Y) % W.md v := ⟨_, rfl⟩
  rw [← hR] at CF ⊢
  clear hX hY h ha hb hR hz
  go_enter Try.func77, Try.ntmps77
  go_wp2_with (first | (go_at_call 54; refine (CW.out _).mono ?_; rintro e w1 ⟨rfl, hb1⟩; have HB1 := Lib.hid hb1; clear hb1) | (go_at_call_of 51 (Value.int IntKind.u64 a); refine (CA.out _).mono ?_; rintro e w2 ⟨g1, rfl, hg1, hb2, hi2⟩; have HB2 := Lib.hid hb2; have HI2 := Lib.hid hi2; clear hb2 hi2 hg1) | (go_at_call_of 51 (Value.int IntKind.u64 b); refine (CB.out _).mono ?_; rintro e w3 ⟨g2, rfl, hg2, hb3, hi3⟩; have HB3 := Lib.hid hb3; have HY3 := Lib.hid hi3; have HX3 := Lib.hid (HI2.out.below hb3); have HB := Lib.hid (Ext.trans (Ext.trans HB1.out HB2.out) HB3.out); clear hb3 hi3 hg2) | (go_at_call 74; refine (CS.out _ _ (HY3.out.below (Ext.alloc (Below.refl _ _) _))).mono ?_; rintro e w4 ⟨C, hC, rfl, rfl⟩; have e1 := Lib.hid (Ext.alloc (Below.refl w3.heap.size w3) (.cells #[.bool false, .slice none 0 0] 96))) | (go_at_call 104; refine (CO.out _ w3.heap.size (w3.heap.size + 1) _ _ (by omega) ((HA.out w3).below (Ext.alloc (Below.refl _ _) _)) (by have := HA.out (w3.alloc (.cells #[.bool false, .slice none 0 0] 96)); simpa using this) ((HX3.out.below e1.out).below (Ext.alloc (Below.refl _ _) _)) ((HY3.out.below e1.out).below (Ext.alloc (Below.refl _ _) _))).mono ?_; rintro e w5 ⟨rfl, hq5⟩; have HQ5 := Lib.hid hq5; have HR5 := Lib.hid (hq5.2.1); have HB5 : Hid (Below w3.heap.size w3 w5) := (hq5.1.ext (Ext.alloc e1.out _) (fun k hk => by rcases hk with rfl | rfl <;> omega)); clear hq5) | (go_at_call 70; refine (CF.out _ _ HR5.out).mono ?_; rintro e w6 ⟨rfl, hb6⟩; have HB6 := Lib.hid hb6; clear hb6))
  go_ret2
  exact ⟨rfl, Ext.trans (Ext.trans HB.out HB5.out) HB6.out⟩
set_option maxHeartbeats 4000000 in
theorem do_rem (a b v : Int) (s : Bool) (h : W.ok v) (ha : W.U a) (hb : W.U b) (hz : W.mn v b s ≠ 0) (w : World) :
    Calls Try.prog 77 #[.int .u8 37, .int .u64 a, .int .u64 b, .int .i64 v, .bool s] w fun e w' => e = .returned (.tuple #[.int .u64 (((W.mn v a s).tmod (W.mn v b s)) % W.md v), .int .i64 0]) ∧ Below w.heap.size w w' := by
  have CW : Hid (∀ w : World, Calls Try.prog 54 #[.int .i64 v] w fun e w' => e = .returned (.bool true) ∧ Below w.heap.size w w') := fun w => by rw [← W.okB_t h]; exact refWidth_ok v w
  obtain ⟨X, hX⟩ : ∃ X, X = W.mn v a s := ⟨_, rfl⟩
  obtain ⟨Y, hY⟩ : ∃ Y, Y = W.mn v b s := ⟨_, rfl⟩
  have CA : Hid (∀ w : World, Calls Try.prog 51 #[.int .u64 a, .int .i64 v, .bool s] w (NewIo w X)) := fun w => by rw [hX]; exact meant_ok a v s h ha w
  have CB : Hid (∀ w : World, Calls Try.prog 51 #[.int .u64 b, .int .i64 v, .bool s] w (NewIo w Y)) := fun w => by rw [hY]; exact meant_ok b v s h hb w
  have CO : Hid (∀ (w : World) (g h g1 g2 : Nat), g ≠ h → Io w g 0 → Io w h 0 → Io w g1 X → Io w g2 Y → Calls Try.prog 104 #[P g, P g1, P g2, P h] w fun e w' => e = .returned (.tuple #[P g, P h]) ∧ Two2 w g h (X.tdiv Y) (X.tmod Y) w') := fun w g k g1 g2 hne h1 h2 h3 h4 =>
    quoRem_ok g k g1 g2 0 0 X Y hne (by rw [hX, hY]; exact W.mn_divin v a b s hz) w h1 h2 h3 h4
  have CF : Hid (∀ (w : World) (g : Nat), Io w g (X.tmod Y) → Calls Try.prog 70 #[P g, .int .i64 v] w fun e w' => e = .returned (.int .u64 ((X.tmod Y) % W.md v)) ∧ Below w.heap.size w w') := fun w g hi => fit_ok g _ v h (by rw [hX, hY]; exact W.rem_ln v a b s) w hi
  have CS : Hid (∀ (w : World) (g : Nat), Io w g Y → Calls Try.prog 74 #[P g] w fun e w' => ∃ C : Int, (C == 0) = false ∧ e = .returned (.int .i64 C) ∧ w = w') := fun w g hi =>
    (sign_ok g Y w hi).mono fun e w' ⟨h1, h2⟩ => ⟨_, by rw [← hY] at hz; unfold sgnI; rw [if_neg hz]; split <;> rfl, h1, h2⟩
  have HA : Hid (∀ w0 : World, Io (w0.alloc (.cells #[.bool false, .slice none 0 0] 96)) w0.heap.size 0) := fun w0 => Io.new w0
  rw [← hX, ← hY]
  obtain ⟨R, hR⟩ : ∃ R, R = (X.tmod Y) % W.md v := ⟨_, rfl⟩
  rw [← hR] at CF ⊢
  clear hX hY h ha hb hR hz
  go_enter Try.func77, Try.ntmps77
  go_wp2_with (first | (go_at_call 54; refine (CW.out _).mono ?_; rintro e w1 ⟨rfl, hb1⟩; have HB1 := Lib.hid hb1; clear hb1) | (go_at_call_of 51 (Value.int IntKind.u64 a); refine (CA.out _).mono ?_; rintro e w2 ⟨g1, rfl, hg1, hb2, hi2⟩; have HB2 := Lib.hid hb2; have HI2 := Lib.hid hi2; clear hb2 hi2 hg1) | (go_at_call_of 51 (Value.int IntKind.u64 b); refine (CB.out _).mono ?_; rintro e w3 ⟨g2, rfl, hg2, hb3, hi3⟩; have HB3 := Lib.hid hb3; have HY3 := Lib.hid hi3; have HX3 := Lib.hid (HI2.out.below hb3); have HB := Lib.hid (Ext.trans (Ext.trans HB1.out HB2.out) HB3.out); clear hb3 hi3 hg2) | (go_at_call 74; refine (CS.out _ _ (HY3.out.below (Ext.alloc (Below.refl _ _) _))).mono ?_; rintro e w4 ⟨C, hC, rfl, rfl⟩; have e1 := Lib.hid (Ext.alloc (Below.refl w3.heap.size w3) (.cells #[.bool false, .slice none 0 0] 96))) | (go_at_call 104; refine (CO.out _ w3.heap.size (w3.heap.size + 1) _ _ (by omega) ((HA.out w3).below (Ext.alloc (Below.refl _ _) _)) (by have := HA.out (w3.alloc (.cells #[.bool false, .slice none 0 0] 96)); simpa using this) ((HX3.out.below e1.out).below (Ext.alloc (Below.refl _ _) _)) ((HY3.out.below e1.out).below (Ext.alloc (Below.refl _ _) _))).mono ?_; rintro e w5 ⟨rfl, hq5⟩; have HQ5 := Lib.hid hq5; have HR5 := Lib.hid (hq5.2.2); have HB5 : Hid (Below w3.heap.size w3 w5) := (hq5.1.ext (Ext.alloc e1.out _) (fun k hk => by rcases hk with rfl | rfl <;> omega)); clear hq5) | (go_at_call 70; refine (CF.out _ _ HR5.out).mono ?_; rintro e w6 ⟨rfl, hb6⟩; have HB6 := Lib.hid hb6; clear hb6))
  go_ret2
  exact ⟨rfl, Ext.trans (Ext.trans HB.out HB5.out) HB6.out⟩
end Go.Proofs.Ytkmcniaaecijdaa
