/- The reference's Do: by nought, less, of no width. -/
import Derived.Test.YtkmcniaaecijdaaN25
namespace Go.Proofs.Ytkmcniaaecijdaa
open Go.RowKit
set_option linter.unusedVariables false
set_option linter.unusedSimpArgs false
set_option maxRecDepth 100000

set_option maxHeartbeats 4000000 in
theorem do_quo_zero (a b v : Int) (s : Bool) (h : W.ok v) (ha : W.U a) (hb : W.U b) (hz : W.mn v b s = 0) (w : World) :
    Calls Try.prog 77 #[.int .u8 47, .int .u64 a, .int .u64 b, .int .i64 v, .bool s] w fun e w' => e = .returned (.tuple #[.int .u64 0, .int .i64 10]) ∧ Below w.heap.size w w' := by
  have CW : Hid (∀ w : World, Calls Try.prog 54 #[.int .i64 v] w fun e w' => e = .returned (.bool true) ∧ Below w.heap.size w w') := fun w => by rw [← W.okB_t h]; exact refWidth_ok v w
  obtain ⟨X, hX⟩ : ∃ X, X = W.mn v a s := ⟨_, rfl⟩
  obtain ⟨Y, hY⟩ : ∃ Y, Y = W.mn v b s := ⟨_, rfl⟩
  have CA : Hid (∀ w : World, Calls Try.prog 51 #[.int .u64 a, .int .i64 v, .bool s] w (NewIo w X)) := fun w => by rw [hX]; exact meant_ok a v s h ha w
  have CB : Hid (∀ w : World, Calls Try.prog 51 #[.int .u64 b, .int .i64 v, .bool s] w (NewIo w Y)) := fun w => by rw [hY]; exact meant_ok b v s h hb w
  have CS : Hid (∀ (w : World) (g : Nat), Io w g Y → Calls Try.prog 74 #[P g] w fun e w' => e = .returned (.int .i64 0) ∧ w = w') := fun w g hi => by
    have := sign_ok g Y w hi
    have e : sgnI Y = 0 := by rw [hY, hz]; rfl
    rwa [e] at this
  clear hX hY h ha hb hz
  go_enter Try.func77, Try.ntmps77
  go_wp2_with (first | (go_at_call 54; refine (CW.out _).mono ?_; rintro e w1 ⟨rfl, hb1⟩; have HB1 := Lib.hid hb1; clear hb1) | (go_at_call_of 51 (Value.int IntKind.u64 a); refine (CA.out _).mono ?_; rintro e w2 ⟨g1, rfl, hg1, hb2, hi2⟩; have HB2 := Lib.hid hb2; have HI2 := Lib.hid hi2; clear hb2 hi2 hg1) | (go_at_call_of 51 (Value.int IntKind.u64 b); refine (CB.out _).mono ?_; rintro e w3 ⟨g2, rfl, hg2, hb3, hi3⟩; have HB3 := Lib.hid hb3; have HY3 := Lib.hid hi3; have HX3 := Lib.hid (HI2.out.below hb3); have HB := Lib.hid (Ext.trans (Ext.trans HB1.out HB2.out) HB3.out); clear hb3 hi3 hg2) | (go_at_call 74; refine (CS.out _ _ (HY3.out.below (Ext.alloc (Below.refl _ _) _))).mono ?_; rintro e w4 ⟨rfl, rfl⟩))
  go_ret2
  exact ⟨rfl, Ext.alloc HB.out _⟩
set_option maxHeartbeats 4000000 in
theorem do_rem_zero (a b v : Int) (s : Bool) (h : W.ok v) (ha : W.U a) (hb : W.U b) (hz : W.mn v b s = 0) (w : World) :
    Calls Try.prog 77 #[.int .u8 37, .int .u64 a, .int .u64 b, .int .i64 v, .bool s] w fun e w' => e = .returned (.tuple #[.int .u64 0, .int .i64 10]) ∧ Below w.heap.size w w' := by
  have CW : Hid (∀ w : World, Calls Try.prog 54 #[.int .i64 v] w fun e w' => e = .returned (.bool true) ∧ Below w.heap.size w w') := fun w => by rw [← W.okB_t h]; exact refWidth_ok v w
  obtain ⟨X, hX⟩ : ∃ X, X = W.mn v a s := ⟨_, rfl⟩
  obtain ⟨Y, hY⟩ : ∃ Y, Y = W.mn v b s := ⟨_, rfl⟩
  have CA : Hid (∀ w : World, Calls Try.prog 51 #[.int .u64 a, .int .i64 v, .bool s] w (NewIo w X)) := fun w => by rw [hX]; exact meant_ok a v s h ha w
  have CB : Hid (∀ w : World, Calls Try.prog 51 #[.int .u64 b, .int .i64 v, .bool s] w (NewIo w Y)) := fun w => by rw [hY]; exact meant_ok b v s h hb w
  have CS : Hid (∀ (w : World) (g : Nat), Io w g Y → Calls Try.prog 74 #[P g] w fun e w' => e = .returned (.int .i64 0) ∧ w = w') := fun w g hi => by
    have := sign_ok g Y w hi
    have e : sgnI Y = 0 := by rw [hY, hz]; rfl
    rwa [e] at this
  clear hX hY h ha hb hz
  go_enter Try.func77, Try.ntmps77
  go_wp2_with (first | (go_at_call 54; refine (CW.out _).mono ?_; rintro e w1 ⟨rfl, hb1⟩; have HB1 := Lib.hid hb1; clear hb1) | (go_at_call_of 51 (Value.int IntKind.u64 a); refine (CA.out _).mono ?_; rintro e w2 ⟨g1, rfl, hg1, hb2, hi2⟩; have HB2 := Lib.hid hb2; have HI2 := Lib.hid hi2; clear hb2 hi2 hg1) | (go_at_call_of 51 (Value.int IntKind.u64 b); refine (CB.out _).mono ?_; rintro e w3 ⟨g2, rfl, hg2, hb3, hi3⟩; have HB3 := Lib.hid hb3; have HY3 := Lib.hid hi3; have HX3 := Lib.hid (HI2.out.below hb3); have HB := Lib.hid (Ext.trans (Ext.trans HB1.out HB2.out) HB3.out); clear hb3 hi3 hg2) | (go_at_call 74; refine (CS.out _ _ (HY3.out.below (Ext.alloc (Below.refl _ _) _))).mono ?_; rintro e w4 ⟨rfl, rfl⟩))
  go_ret2
  exact ⟨rfl, Ext.alloc HB.out _⟩
set_option maxHeartbeats 4000000 in
theorem do_less (a b v : Int) (s : Bool) (h : W.ok v) (ha : W.U a) (hb : W.U b) (w : World) :
    Calls Try.prog 77 #[.int .u8 60, .int .u64 a, .int .u64 b, .int .i64 v, .bool s] w fun e w' => e = .returned (.tuple #[.int .u64 (if W.mn v a s < W.mn v b s then 1 else 0), .int .i64 0]) ∧ Below w.heap.size w w' := by
  have CW : Hid (∀ w : World, Calls Try.prog 54 #[.int .i64 v] w fun e w' => e = .returned (.bool true) ∧ Below w.heap.size w w') := fun w => by rw [← W.okB_t h]; exact refWidth_ok v w
  obtain ⟨X, hX⟩ : ∃ X, X = W.mn v a s := ⟨_, rfl⟩
  obtain ⟨Y, hY⟩ : ∃ Y, Y = W.mn v b s := ⟨_, rfl⟩
  have CA : Hid (∀ w : World, Calls Try.prog 51 #[.int .u64 a, .int .i64 v, .bool s] w (NewIo w X)) := fun w => by rw [hX]; exact meant_ok a v s h ha w
  have CB : Hid (∀ w : World, Calls Try.prog 51 #[.int .u64 b, .int .i64 v, .bool s] w (NewIo w Y)) := fun w => by rw [hY]; exact meant_ok b v s h hb w
  have hm1 : (1 : Int) % W.md v = 1 := by rcases h with rfl | rfl | rfl | rfl <;> decide
  have CC : Hid (∀ (w : World) (g g2 : Nat), Io w g X → Io w g2 Y → Calls Try.prog 52 #[P g, P g2] w fun e w' => ∃ C : Int, C = cmpZ X Y ∧ e = .returned (.int .i64 C) ∧ ∃ m, w' = w.drewN m) := fun w g g2 a b =>
    (intCmp_ok g g2 X Y w a b).mono fun e w' ⟨h1, h2⟩ => ⟨_, rfl, h1, h2⟩
  have CI : Hid (∀ (w : World) (g : Nat), Io w g 0 → Calls Try.prog 105 #[P g, .int .i64 1] w fun e w' => e = .returned (P g) ∧ Chg g w w' ∧ Io w' g 1) := fun w g hi => setI_ok g 0 1 (by omega) (by omega) w hi
  have CF1 : Hid (∀ (w : World) (g : Nat), Io w g 1 → Calls Try.prog 70 #[P g, .int .i64 v] w fun e w' => e = .returned (.int .u64 1) ∧ Below w.heap.size w w') := fun w g hi => by
    have := fit_ok g 1 v h (N.ln_lt (k := 1) (by decide) (by omega)) w hi
    rwa [hm1] at this
  have CF0 : Hid (∀ (w : World) (g : Nat), Io w g 0 → Calls Try.prog 70 #[P g, .int .i64 v] w fun e w' => e = .returned (.int .u64 0) ∧ Below w.heap.size w w') := fun w g hi => by
    have := fit_ok g 0 v h (N.ln_lt (k := 1) (by decide) (by omega)) w hi
    rwa [Int.zero_emod] at this
  have HA : Hid (∀ w0 : World, Io (w0.alloc (.cells #[.bool false, .slice none 0 0] 96)) w0.heap.size 0) := fun w0 => Io.new w0
  rw [← hX, ← hY]
  by_cases hlt : X < Y
  · have HC : Hid (cmpZ X Y < 0) := by show cmpZ X Y < 0; unfold cmpZ; rw [if_pos hlt]; omega
    rw [if_pos hlt]
    clear hX hY h ha hb hm1 hlt
    go_enter Try.func77, Try.ntmps77
    go_wp2_with (first | (go_at_call 54; refine (CW.out _).mono ?_; rintro e w1 ⟨rfl, hb1⟩; have HB1 := Lib.hid hb1; clear hb1) | (go_at_call_of 51 (Value.int IntKind.u64 a); refine (CA.out _).mono ?_; rintro e w2 ⟨g1, rfl, hg1, hb2, hi2⟩; have HB2 := Lib.hid hb2; have HI2 := Lib.hid hi2; clear hb2 hi2 hg1) | (go_at_call_of 51 (Value.int IntKind.u64 b); refine (CB.out _).mono ?_; rintro e w3 ⟨g2, rfl, hg2, hb3, hi3⟩; have HB3 := Lib.hid hb3; have HY3 := Lib.hid hi3; have HX3 := Lib.hid (HI2.out.below hb3); have HB := Lib.hid (Ext.trans (Ext.trans HB1.out HB2.out) HB3.out); clear hb3 hi3 hg2) | (go_at_call 52; refine (CC.out _ _ _ (HX3.out.below (Ext.alloc (Below.refl _ _) _)) (HY3.out.below (Ext.alloc (Below.refl _ _) _))).mono ?_; rintro e w4 ⟨C, hC, rfl, m, rfl⟩; have hC0 : C < 0 := (by rw [hC]; exact HC.out); clear hC) | (go_at_call 105; refine (CI.out _ _ ((HA.out w3).drewN m)).mono ?_; rintro e w5 ⟨rfl, hc5, hi5⟩; have HC5 := Lib.hid hc5; have HR5 := Lib.hid hi5; clear hc5 hi5) | (go_at_call 70; refine (CF1.out _ _ HR5.out).mono ?_; rintro e w6 ⟨rfl, hb6⟩; have HB6 := Lib.hid hb6; clear hb6))
    go_ret2
    exact ⟨rfl, Ext.trans (new_chg (below_drewN (Ext.alloc HB.out _) m) HB.out.size HC5.out) HB6.out⟩
  · have HC : Hid (0 ≤ cmpZ X Y) := cmpZ_ge.2 (by omega)
    rw [if_neg hlt]
    clear hX hY h ha hb hm1 hlt
    go_enter Try.func77, Try.ntmps77
    go_wp2_with (first | (go_at_call 54; refine (CW.out _).mono ?_; rintro e w1 ⟨rfl, hb1⟩; have HB1 := Lib.hid hb1; clear hb1) | (go_at_call_of 51 (Value.int IntKind.u64 a); refine (CA.out _).mono ?_; rintro e w2 ⟨g1, rfl, hg1, hb2, hi2⟩; have HB2 := Lib.hid hb2; have HI2 := Lib.hid hi2; clear hb2 hi2 hg1) | (go_at_call_of 51 (Value.int IntKind.u64 b); refine (CB.out _).mono ?_; rintro e w3 ⟨g2, rfl, hg2, hb3, hi3⟩; have HB3 := Lib.hid hb3; have HY3 := Lib.hid hi3; have HX3 := Lib.hid (HI2.out.below hb3); have HB := Lib.hid (Ext.trans (Ext.trans HB1.out HB2.out) HB3.out); clear hb3 hi3 hg2) | (go_at_call 52; refine (CC.out _ _ _ (HX3.out.below (Ext.alloc (Below.refl _ _) _)) (HY3.out.below (Ext.alloc (Below.refl _ _) _))).mono ?_; rintro e w4 ⟨C, hC, rfl, m, rfl⟩; have hC0 : 0 ≤ C := (by rw [hC]; exact HC.out); clear hC) | (go_at_call 70; refine (CF0.out _ _ ((HA.out w3).drewN m)).mono ?_; rintro e w6 ⟨rfl, hb6⟩; have HB6 := Lib.hid hb6; clear hb6))
    go_ret2
    exact ⟨rfl, Ext.trans (below_drewN (Ext.alloc HB.out _) m) HB6.out⟩
set_option maxHeartbeats 1000000 in
theorem do_no (o a b v : Int) (s : Bool) (h : ¬ W.ok v) (w : World) :
    Calls Try.prog 77 #[.int .u8 o, .int .u64 a, .int .u64 b, .int .i64 v, .bool s] w fun e w' => e = .returned (.tuple #[.int .u64 0, .int .i64 1]) ∧ Below w.heap.size w w' := by
  have CW : Hid (∀ w : World, Calls Try.prog 54 #[.int .i64 v] w fun e w' => e = .returned (.bool false) ∧ Below w.heap.size w w') := fun w => by rw [← W.okB_f h]; exact refWidth_ok v w
  clear h
  go_enter Try.func77, Try.ntmps77
  go_wp2_with (first | (go_at_call 54; refine (CW.out _).mono ?_; rintro e w1 ⟨rfl, hb1⟩; have HB1 := Lib.hid hb1; clear hb1))
  go_ret2
  exact ⟨rfl, HB1.out⟩
end Go.Proofs.Ytkmcniaaecijdaa
