/- The reference's Shift. -/
import Derived.Test.YtkmcniaaecijdaaN24
import Derived.Test.YtkmcniaaecijdaaN21
namespace Go.Proofs.Ytkmcniaaecijdaa
open Go.RowKit
set_option linter.unusedVariables false
set_option linter.unusedSimpArgs false
set_option maxRecDepth 100000

theorem W.mn_lt (v x : Int) (s : Bool) : (W.mn v x s).natAbs < 18446744073709551616 := by
  have h1 := W.mod_lo x v; have h2 := W.mod_hi x v; have h3 := W.md_le v
  unfold W.mn
  cases s
  · simp only [Bool.false_eq_true, if_false]; omega
  · simp only [if_true]; unfold W.sg; split <;> omega
theorem shl_ln (x : Int) (m : Nat) (h : x.natAbs < 18446744073709551616) (hm : m ≤ 64) : N.ln (x * 2 ^ m).natAbs ≤ 28 := by
  refine Nat.le_trans (N.ln_le (k := 4) ?_) (by omega)
  rw [Int.natAbs_mul]
  have h2 : ((2 : Int) ^ m).natAbs ≤ 18446744073709551616 := by
    rw [Int.natAbs_pow]
    exact Nat.le_trans (Nat.pow_le_pow_right (by decide) hm) (by decide)
  exact Nat.lt_of_lt_of_le (Nat.mul_lt_mul_of_lt_of_le h h2 (by decide)) (by decide)
theorem shr_ln (x : Int) (m : Nat) (h : x.natAbs < 18446744073709551616) : N.ln (x / 2 ^ m).natAbs ≤ 28 := by
  refine Nat.le_trans (N.ln_le (k := 3) ?_) (by omega)
  have h2 : (x / 2 ^ m).natAbs ≤ x.natAbs := by
    have hp : (0 : Int) < 2 ^ m := Int.pow_pos (by decide)
    by_cases h0 : 0 ≤ x
    · have a1 := Int.ediv_nonneg h0 (Int.le_of_lt hp); have a2 := Int.ediv_le_self (2 ^ m) h0; omega
    · have a1 : x / 2 ^ m < 0 := Int.ediv_neg_of_neg_of_pos (by omega) hp
      have a2 : x ≤ x / 2 ^ m := by
        rw [Int.le_ediv_iff_mul_le hp]
        have : x * (2 ^ m) ≤ x * 1 := Int.mul_le_mul_of_nonpos_left (by omega) (by omega)
        omega
      omega
  exact Nat.lt_of_lt_of_le (Nat.lt_of_le_of_lt h2 h) (by decide)
theorem pow_sm (m : Nat) (hm : m ≤ 64) : Sm ((2 : Int) ^ m).natAbs := by
  refine Sm.of_lt ?_
  rw [Int.natAbs_pow]
  exact Nat.lt_of_le_of_lt (Nat.pow_le_pow_right (by decide) hm) (by decide)
theorem pow_divin (x : Int) (m : Nat) (h : x.natAbs < 18446744073709551616) : DivIn x.natAbs ((2 : Int) ^ m).natAbs := by
  refine ⟨?_, Nat.le_trans (N.ln_le (k := 2) (Nat.lt_of_lt_of_le h (by decide))) (by omega), .inr (.inl (N.ln_le (Nat.lt_of_lt_of_le h (by decide))))⟩
  have hp : (0 : Int) < 2 ^ m := Int.pow_pos (by decide)
  omega
theorem shift_cases (n : Int) (hn : 0 ≤ n) : ∃ q : Int, q = ((min n.toNat 64 : Nat) : Int) ∧ ((decide (n > 64) = true ∧ q = 64) ∨ (decide (n > 64) = false ∧ q = n)) := by
  refine ⟨_, rfl, ?_⟩
  by_cases h : n > 64
  · exact .inl ⟨by simpa using h, by omega⟩
  · exact .inr ⟨by simpa using h, by omega⟩
set_option maxHeartbeats 4000000 in
theorem refShift_up (a n v : Int) (s : Bool) (h : W.ok v) (ha : W.U a) (hn : 0 ≤ n) (w : World) :
    Calls Try.prog 75 #[.int .u64 a, .int .u64 n, .int .i64 v, .bool true, .bool s] w fun e w' => e = .returned (.tuple #[.int .u64 ((W.mn v a s * 2 ^ min n.toNat 64) % W.md v), .int .i64 0]) ∧ Below w.heap.size w w' := by
  have CW : Hid (∀ w : World, Calls Try.prog 54 #[.int .i64 v] w fun e w' => e = .returned (.bool true) ∧ Below w.heap.size w w') := fun w => by rw [← W.okB_t h]; exact refWidth_ok v w
  obtain ⟨m, hm⟩ : ∃ m, m = min n.toNat 64 := ⟨_, rfl⟩
  have hm64 : m ≤ 64 := by omega
  obtain ⟨q, hq, hc⟩ := shift_cases n hn
  rw [← hm] at hq ⊢
  obtain ⟨X, hX⟩ : ∃ X, X = W.mn v a s := ⟨_, rfl⟩
  have hXl : X.natAbs < 18446744073709551616 := by rw [hX]; exact W.mn_lt v a s
  have CA : Hid (∀ w : World, Calls Try.prog 51 #[.int .u64 a, .int .i64 v, .bool s] w (NewIo w X)) := fun w => by rw [hX]; exact meant_ok a v s h ha w
  have CL : Hid (∀ (w : World) (g : Nat), Io w g X → Calls Try.prog 100 #[P g, P g, .int .u64 q] w fun e w' => e = .returned (P g) ∧ Chg g w w' ∧ Io w' g (X * 2 ^ m)) := fun w g hi =>
    lsh_ok g g X X m (by omega) (Sm.of_lt (Nat.lt_of_lt_of_le hXl (by decide))) w hi hi q hq
  have CF : Hid (∀ (w : World) (g : Nat), Io w g (X * 2 ^ m) → Calls Try.prog 70 #[P g, .int .i64 v] w fun e w' => e = .returned (.int .u64 ((X * 2 ^ m) % W.md v)) ∧ Below w.heap.size w w') := fun w g hi => fit_ok g _ v h (shl_ln X m hXl hm64) w hi
  rw [← hX]
  obtain ⟨R, hR⟩ : ∃ R, R = (X * 2 ^ m) % W.md v := ⟨_, rfl⟩
  rw [← hR] at CF ⊢
  clear hX h ha hR hq hm hm64 hXl hn
  rcases hc with ⟨ht, rfl⟩ | ⟨ht, hq⟩
  all_goals try subst hq
  all_goals
    go_enter Try.func75, Try.ntmps75
    go_wp2_with (first | (go_at_call 54; refine (CW.out _).mono ?_; rintro e w1 ⟨rfl, hb1⟩; have HB1 := Lib.hid hb1; clear hb1) | (go_at_call 51; refine (CA.out _).mono ?_; rintro e w2 ⟨g1, rfl, hg1, hb2, hi2⟩; have HB2 := Lib.hid (Ext.trans HB1.out hb2); have HG := Lib.hid (Nat.le_trans HB1.out.size hg1); have HI2 := Lib.hid hi2; clear hb2 hi2 hg1) | (go_at_call 100; refine (CL.out _ _ HI2.out).mono ?_; rintro e w3 ⟨rfl, hc3, hi3⟩; have HB3 := Lib.hid (new_chg HB2.out HG.out hc3); have HI3 := Lib.hid hi3; clear hc3 hi3) | (go_at_call 70; refine (CF.out _ _ HI3.out).mono ?_; rintro e w6 ⟨rfl, hb6⟩; have HB6 := Lib.hid (Ext.trans HB3.out hb6); clear hb6))
    go_ret2
    exact ⟨rfl, HB6.out⟩
theorem new_two (w : World) : Io ((w.alloc (.cells #[.bool false, .slice none 0 0] 96)).alloc (.cells #[.bool false, .slice none 0 0] 96)) w.heap.size 0 ∧ Io ((w.alloc (.cells #[.bool false, .slice none 0 0] 96)).alloc (.cells #[.bool false, .slice none 0 0] 96)) (w.heap.size + 1) 0 ∧ Below w.heap.size w ((w.alloc (.cells #[.bool false, .slice none 0 0] 96)).alloc (.cells #[.bool false, .slice none 0 0] 96)) := by
  refine ⟨(Io.new w).below (Ext.alloc (Below.refl _ _) _), ?_, Ext.alloc (Ext.alloc (Below.refl _ _) _) _⟩
  have := Io.new (w.alloc (.cells #[.bool false, .slice none 0 0] 96))
  simpa using this
set_option maxHeartbeats 4000000 in
theorem refShift_down (a n v : Int) (s : Bool) (h : W.ok v) (ha : W.U a) (hn : 0 ≤ n) (w : World) :
    Calls Try.prog 75 #[.int .u64 a, .int .u64 n, .int .i64 v, .bool false, .bool s] w fun e w' => e = .returned (.tuple #[.int .u64 ((W.mn v a s / 2 ^ min n.toNat 64) % W.md v), .int .i64 0]) ∧ Below w.heap.size w w' := by
  have CW : Hid (∀ w : World, Calls Try.prog 54 #[.int .i64 v] w fun e w' => e = .returned (.bool true) ∧ Below w.heap.size w w') := fun w => by rw [← W.okB_t h]; exact refWidth_ok v w
  obtain ⟨m, hm⟩ : ∃ m, m = min n.toNat 64 := ⟨_, rfl⟩
  have hm64 : m ≤ 64 := by omega
  obtain ⟨q, hq, hc⟩ := shift_cases n hn
  have hw : wrap64 q = q := by unfold wrap64; omega
  rw [← hm] at hq ⊢
  obtain ⟨X, hX⟩ : ∃ X, X = W.mn v a s := ⟨_, rfl⟩
  have hXl : X.natAbs < 18446744073709551616 := by rw [hX]; exact W.mn_lt v a s
  have CA : Hid (∀ w : World, Calls Try.prog 51 #[.int .u64 a, .int .i64 v, .bool s] w (NewIo w X)) := fun w => by rw [hX]; exact meant_ok a v s h ha w
  have CT : Hid (∀ w : World, Calls Try.prog 84 #[.int .i64 q] w (NewIo w (2 ^ m))) := fun w => two_ok m (by omega) q hq w
  have CD : Hid (∀ (w : World) (g gx gr g2 : Nat), g ≠ gr → Io w g 0 → Io w gx X → Io w gr 0 → Io w g2 (2 ^ m) → Calls Try.prog 101 #[P g, P gx, P g2, P gr] w fun e w' => e = .returned (.tuple #[P g, P gr]) ∧ Two2 w g gr (X / 2 ^ m) (X % 2 ^ m) w') := fun w g gx gr g2 hne h1 h2 h3 h4 =>
    divMod_ok g gr gx g2 0 0 X (2 ^ m) hne (Int.pow_pos (by decide)) (pow_sm m hm64) (pow_divin X m hXl) w h1 h3 h2 h4
  have CF : Hid (∀ (w : World) (g : Nat), Io w g (X / 2 ^ m) → Calls Try.prog 70 #[P g, .int .i64 v] w fun e w' => e = .returned (.int .u64 ((X / 2 ^ m) % W.md v)) ∧ Below w.heap.size w w') := fun w g hi => fit_ok g _ v h (shr_ln X m hXl) w hi
  rw [← hX]
  obtain ⟨R, hR⟩ : ∃ R, R = (X / 2 ^ m) % W.md v := ⟨_, rfl⟩
  rw [← hR] at CF ⊢
  clear hX h ha hR hq hm hm64 hXl hn
  have NT := Lib.hid new_two
  rcases hc with ⟨ht, hq⟩ | ⟨ht, hq⟩
  all_goals subst hq
  all_goals
    go_enter Try.func75, Try.ntmps75
    go_wp2_with (first | (go_at_call 54; refine (CW.out _).mono ?_; rintro e w1 ⟨rfl, hb1⟩; have HB1 := Lib.hid hb1; clear hb1) | (go_at_call 51; refine (CA.out _).mono ?_; rintro e w2 ⟨g1, rfl, hg1, hb2, hi2⟩; have HB2 := Lib.hid (Ext.trans HB1.out hb2); have HI2 := Lib.hid hi2; clear hb2 hi2 hg1) | (go_at_call 84; refine (CT.out _).mono ?_; rintro e w5 ⟨g2, rfl, hg2, hb5, hi5⟩; have HI5 := Lib.hid hi5; have HX5 := Lib.hid ((HI2.out.below (NT.out w2).2.2).below hb5); have HQ5 := Lib.hid ((NT.out w2).1.below hb5); have HR5 := Lib.hid ((NT.out w2).2.1.below hb5); have HB5 := Lib.hid (Ext.trans (NT.out w2).2.2 hb5); clear hb5 hi5 hg2) | (go_at_call 101; refine (CD.out _ w2.heap.size g1 (w2.heap.size + 1) _ (by omega) HQ5.out HX5.out HR5.out HI5.out).mono ?_; rintro e w6 ⟨rfl, ht6⟩; have HI6 := Lib.hid ht6.2.1; have HB6 := Lib.hid (ht6.1.ext HB5.out (fun k hk => by rcases hk with rfl | rfl <;> omega)); clear ht6 HQ5 HX5 HR5 HI5) | (go_at_call 70; refine (CF.out _ _ HI6.out).mono ?_; rintro e w7 ⟨rfl, hb7⟩; have HB7 := Lib.hid hb7; clear hb7))
    go_ret2
    exact ⟨rfl, Ext.trans (Ext.trans HB2.out HB6.out) HB7.out⟩
set_option maxHeartbeats 400000 in
theorem refShift_no (a n v : Int) (u s : Bool) (h : ¬ W.ok v) (w : World) :
    Calls Try.prog 75 #[.int .u64 a, .int .u64 n, .int .i64 v, .bool u, .bool s] w fun e w' => e = .returned (.tuple #[.int .u64 0, .int .i64 1]) ∧ Below w.heap.size w w' := by
  have CW : Hid (∀ w : World, Calls Try.prog 54 #[.int .i64 v] w fun e w' => e = .returned (.bool false) ∧ Below w.heap.size w w') := fun w => by rw [← W.okB_f h]; exact refWidth_ok v w
  clear h
  go_enter Try.func75, Try.ntmps75
  go_wp2_with (first | (go_at_call 54; refine (CW.out _).mono ?_; rintro e w1 ⟨rfl, hb1⟩; have HB1 := Lib.hid hb1; clear hb1))
  go_ret2
  exact ⟨rfl, HB1.out⟩
end Go.Proofs.Ytkmcniaaecijdaa
