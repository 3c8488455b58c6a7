/- The reference's numbers: Whole, Two, Fit, Meant. -/
import Derived.Test.YtkmcniaaecijdaaN19
import Derived.Test.YtkmcniaaecijdaaB0
namespace Go.Proofs.Ytkmcniaaecijdaa
open Go.RowKit
set_option linter.unusedVariables false
set_option linter.unusedSimpArgs false
set_option maxRecDepth 100000

set_option maxHeartbeats 1000000 in
theorem whole_ok (x : Int) (h0 : 0 ≤ x) (h1 : x < 18446744073709551616) (w : World) : Calls Try.prog 79 #[.int .u64 x] w (NewIo w x) := by
  obtain ⟨n, rfl⟩ := Int.eq_ofNat_of_zero_le h0
  have CS : Hid (∀ w0 : World, Calls Try.prog 108 #[P w0.heap.size, .int .u64 (n : Int)] (w0.alloc (.cells #[.bool false, .slice none 0 0] 96)) fun e w' => e = .returned (P w0.heap.size) ∧ Below w0.heap.size w0 w' ∧ Io w' w0.heap.size (n : Int)) := fun w0 =>
    (setU_ok w0.heap.size 0 n (by omega) _ (Io.new w0)).mono fun e w' ⟨he, hc, hi⟩ => ⟨he, new_chg (Ext.alloc (Below.refl _ _) _) (Nat.le_refl _) hc, hi⟩
  clear h0 h1
  go_enter Try.func79, Try.ntmps79
  go_wp2_with (first | (go_at_call 108; refine (CS.out _).mono ?_; rintro e w2 ⟨rfl, hb2, hi2⟩; have HB2 := Lib.hid hb2; have HI2 := Lib.hid hi2; clear hb2 hi2))
  go_ret
  exact ⟨_, rfl, Nat.le_refl _, HB2.out, HI2.out⟩
set_option maxHeartbeats 2000000 in
theorem two_ok (n : Nat) (hn : n ≤ 900) (z : Int) (hz : z = (n : Nat)) (w : World) : Calls Try.prog 84 #[.int .i64 z] w (NewIo w (2 ^ n)) := by
  have CN : Hid (∀ w : World, Calls Try.prog 99 #[.int .i64 1] w (NewIo w 1)) := fun w => newInt_ok 1 (by omega) (by omega) w
  have CL : Hid (∀ (w : World) (g g1 : Nat), Io w g 0 → Io w g1 1 → Calls Try.prog 100 #[P g, P g1, .int .u64 z] w fun e w' => e = .returned (P g) ∧ Chg g w w' ∧ Io w' g (2 ^ n)) := fun w g g1 h1 h2 => by
    have := lsh_ok g g1 0 1 n hn Sm.one w h1 h2 z hz
    rwa [Int.one_mul] at this
  have bz : 0 ≤ z ∧ z ≤ 900 := by omega
  obtain ⟨bz0, bz1⟩ := bz
  have HA : Hid (∀ w0 : World, Io (w0.alloc (.cells #[.bool false, .slice none 0 0] 96)) w0.heap.size 0) := fun w0 => Io.new w0
  clear hz
  go_enter Try.func84, Try.ntmps84
  go_wp2_with (first | (go_at_call 99; refine (CN.out _).mono ?_; rintro e w2 ⟨g1, rfl, hg1, hb2, hi2⟩; have HB2 := Lib.hid hb2; have HI2 := Lib.hid hi2; have HZ2 := Lib.hid ((HA.out w).below hb2); clear hb2 hi2) | (go_at_call 100; refine (CL.out _ _ _ HZ2.out HI2.out).mono ?_; rintro e w3 ⟨rfl, hc3, hi3⟩; have HC3 := Lib.hid hc3; have HI3 := Lib.hid hi3; clear hc3 hi3))
  go_ret
  exact ⟨_, rfl, Nat.le_refl _, new_chg (Ext.trans (Ext.alloc (Below.refl _ _) _) HB2.out) (Nat.le_refl _) HC3.out, HI3.out⟩
theorem W.md_two (v : Int) (h : W.ok v) : ∃ n : Nat, n ≤ 64 ∧ v = (n : Nat) ∧ (2 : Int) ^ n = W.md v ∧ 1 ≤ n ∧ (2 : Int) ^ (n - 1) * 2 = W.md v := by
  rcases h with rfl | rfl | rfl | rfl
  · exact ⟨8, by omega, rfl, by decide, by omega, by decide⟩
  · exact ⟨16, by omega, rfl, by decide, by omega, by decide⟩
  · exact ⟨32, by omega, rfl, by decide, by omega, by decide⟩
  · exact ⟨64, by omega, rfl, by decide, by omega, by decide⟩
theorem W.divin (v : Int) (h : W.ok v) (a : Nat) (ha : N.ln a ≤ 28) : DivIn a (W.md v).natAbs := by
  rcases h with rfl | rfl | rfl | rfl
  · exact ⟨by decide, ha, .inr (.inr (.inl (N.ln_of (by decide) (.inr (by decide)))))⟩
  · exact ⟨by decide, ha, .inr (.inr (.inl (N.ln_of (by decide) (.inr (by decide)))))⟩
  · exact ⟨by decide, ha, .inr (.inr (.inr ⟨1, by omega, by omega, by decide⟩))⟩
  · exact ⟨by decide, ha, .inr (.inr (.inr ⟨2, by omega, by omega, by decide⟩))⟩
theorem W.md_sm (v : Int) (h : W.ok v) : Sm (W.md v).natAbs := by
  refine Sm.of_lt ?_
  have h1 := W.md_pos v; have h2 := W.md_le v
  have : (18446744073709551616 : Nat) < N.B ^ 30 := by decide
  omega
set_option maxHeartbeats 2000000 in
theorem fit_ok (gx : Nat) (x v : Int) (hv : W.ok v) (hx : N.ln x.natAbs ≤ 28) (w : World) (hi : Io w gx x) :
    Calls Try.prog 70 #[P gx, .int .i64 v] w fun e w' => e = .returned (.int .u64 (x % W.md v)) ∧ Below w.heap.size w w' := by
  obtain ⟨n, hn1, hn2, hn3, hn4, hn5⟩ := W.md_two v hv
  have CT : Hid (∀ w : World, Calls Try.prog 84 #[.int .i64 v] w (NewIo w (W.md v))) := fun w => by rw [← hn3]; exact two_ok n (by omega) v hn2 w
  have CM : Hid (∀ (w : World) (g g2 : Nat), Io w g 0 → Io w gx x → Io w g2 (W.md v) → Calls Try.prog 96 #[P g, P gx, P g2] w fun e w' => e = .returned (P g) ∧ Moved (fun k => k = g) w w' ∧ Io w' g (x % W.md v)) := fun w g g2 h1 h2 h3 =>
    mod_ok g gx g2 0 x (W.md v) (W.md_pos v) (W.md_sm v hv) (W.divin v hv _ hx) w h1 h2 h3
  have CU : Hid (∀ (w : World) (g : Nat), Io w g (x % W.md v) → Calls Try.prog 82 #[P g] w fun e w' => e = .returned (.int .u64 (x % W.md v)) ∧ w = w') := fun w g h => by
    have := uint64_ok g _ w h
    have e : (((x % W.md v).natAbs % 18446744073709551616 : Nat) : Int) = x % W.md v := by
      have h1 := W.mod_lo x v; have h2 := W.mod_le x v
      omega
    rwa [e] at this
  have HA : Hid (∀ w0 : World, Io (w0.alloc (.cells #[.bool false, .slice none 0 0] 96)) w0.heap.size 0) := fun w0 => Io.new w0
  have HI := Lib.hid hi
  clear hi hn1 hn2 hn3 hn4 hn5 hx
  go_enter Try.func70, Try.ntmps70
  go_wp2_with (first | (go_at_call 84; refine (CT.out _).mono ?_; rintro e w2 ⟨g2, rfl, hg2, hb2, hi2⟩; have HB2 := Lib.hid hb2; have HI2 := Lib.hid hi2; have HZ2 := Lib.hid ((HA.out w).below hb2); have HX2 := Lib.hid ((HI.out.below (Ext.alloc (Below.refl _ _) _)).below hb2); clear hb2 hi2) | (go_at_call 96; refine (CM.out _ _ _ HZ2.out HX2.out HI2.out).mono ?_; rintro e w3 ⟨rfl, hm3, hi3⟩; have HM3 := Lib.hid hm3; have HI3 := Lib.hid hi3; clear hm3 hi3) | (go_at_call 82; refine (CU.out _ _ HI3.out).mono ?_; rintro e w4 ⟨rfl, rfl⟩))
  go_ret
  exact ⟨rfl, HM3.out.ext (Ext.trans (Ext.alloc (Below.refl _ _) _) HB2.out) (fun k hk => by rw [hk]; exact Nat.le_refl _)⟩
/-- What bits mean. -/
def W.mn (v x : Int) (s : Bool) : Int := if s then W.sg v x else x % W.md v
theorem N.ln_64 {x : Int} (h0 : 0 ≤ x) (h1 : x < 18446744073709551616) : N.ln x.natAbs ≤ 28 := by
  refine N.ln_le (Nat.lt_of_lt_of_le (m := 18446744073709551616) (by omega) (by decide))
end Go.Proofs.Ytkmcniaaecijdaa
