/- Walks of word.Sum and word.Difference. -/
import Derived.Test.YtfjgnhmmakeaeaaW1
import Derived.Test.YtfjgnhmmakeaeaaWc
import Derived.Test.YtfjgnhmmakeaeaaSm
import Derived.Deep.RegionHeld3
import Derived.Deep.RegionWith
namespace Go.Proofs.Ytfjgnhmmakeaeaa
open Go.RowKit
set_option linter.unusedSimpArgs false
set_option linter.unusedVariables false
set_option maxRecDepth 100000

/-- Flags as a value. -/
def W.flags (c : Bool) (r : Int) (v : Bool) : Value := .agg #[.bool c, .bool (W.fZ r), .bool (W.fN r), .bool v]
theorem W.aggV {c c' : Bool} {r r' : Int} {z n v v' : Bool} (h1 : c = c') (h2 : z = W.fZ r) (h3 : n = W.fN r) (h4 : v = v') : Value.agg #[.bool c, .bool z, .bool n, .bool v] = W.flags c' r v' := by
  subst h1; subst h2; subst h3; subst h4; rfl

set_option maxHeartbeats 1000000 in
theorem sum_core (x y A B R K : Int) (c V : Bool) (hA : bits .and .i64 x 65535 = A) (hB : bits .and .i64 y 65535 = B) (hA0 : 0 ≤ A) (hA1 : A < 65536) (hB0 : 0 ≤ B) (hB1 : B < 65536)
    (hK : K = W.cy c) (hR : bits .and .i64 (A + B + K) 65535 = R) (hV : (bits .and .i64 (bits .and .i64 (bits .xor .i64 A R) (bits .xor .i64 B R)) 32768 != 0) = V) (w : World) :
    Calls Try.prog 91 #[.int .i64 x, .int .i64 y, .bool c] w fun e w' => e = .returned (.tuple #[.int .i64 R, .agg #[.bool (decide (65535 < A + B + K)), .bool (R == 0), .bool (decide (32767 < R)), .bool V]]) ∧ Below w.heap.size w w' := by
  cases c
  · obtain rfl : K = 0 := hK
    rw [Int.add_zero] at hR ⊢
    go_enter Try.func91, Try.ntmps91
    go_wp2
    exact bodyPost_ret (v := .tuple #[.int .i64 R, .agg #[.bool (decide (65535 < A + B)), .bool (R == 0), .bool (decide (32767 < R)), .bool V]]) (by simp [results, Try.results91, go_sem]) rfl ⟨rfl, by repeat (first | exact Below.refl _ _ | refine Ext.alloc ?_ _ | refine Ext.setCell ?_ (by simp) _)⟩
  · obtain rfl : K = 1 := hK
    go_enter Try.func91, Try.ntmps91
    go_wp2
    exact bodyPost_ret (v := .tuple #[.int .i64 R, .agg #[.bool (decide (65535 < A + B + 1)), .bool (R == 0), .bool (decide (32767 < R)), .bool V]]) (by simp [results, Try.results91, go_sem]) rfl ⟨rfl, by repeat (first | exact Below.refl _ _ | refine Ext.alloc ?_ _ | refine Ext.setCell ?_ (by simp) _)⟩
theorem sum_ok (x y : Int) (c : Bool) (w : World) :
    Calls Try.prog 91 #[.int .i64 x, .int .i64 y, .bool c] w fun e w' => e = .returned (.tuple #[.int .i64 (W.sR x y c), W.flags (W.sC x y c) (W.sR x y c) (W.sV x y c)]) ∧ Below w.heap.size w w' := by
  have hk := W.cy_bd c
  refine (sum_core x y (x % 65536) (y % 65536) (W.sR x y c) (W.cy c) c (W.sV x y c) (W.i64_and65535 x) (W.i64_and65535 y) (by omega) (by omega) (by omega) (by omega) rfl (by rw [W.i64_and65535]; rfl) (W.sV_over x y c) w).mono ?_
  rintro e w' ⟨rfl, hb⟩
  refine ⟨W.ret2 rfl (W.aggV (r' := W.sR x y c) ?_ ?_ ?_ rfl), hb⟩
  · unfold W.sC; rw [decide_eq_decide]; omega
  · unfold W.fZ; rw [Bool.eq_iff_iff]; simp
  · unfold W.fN; rw [decide_eq_decide]; omega

theorem W.xor_neg (y : Int) (h : W.I y) : bits .xor .i64 (-1) y = -y - 1 := by
  have e : (BitVec.ofInt 64 (-1) ^^^ BitVec.ofInt 64 y) = BitVec.ofInt 64 (-y - 1) := by
    have e1 : BitVec.ofInt 64 (-1) = BitVec.allOnes 64 := by decide
    rw [e1, BitVec.allOnes_xor, BitVec.not_eq_neg_add, ← BitVec.ofInt_neg, show (1#64) = BitVec.ofInt 64 1 from rfl, BitVec.sub_eq_add_neg, ← BitVec.ofInt_neg, ← BitVec.ofInt_add]; rfl
  show IntKind.i64.wrap ((BitVec.ofInt 64 (-1) ^^^ BitVec.ofInt 64 y).toNat : Int) = _
  rw [e, BitVec.toNat_ofInt, Int.toNat_of_nonneg (Int.emod_nonneg _ (by decide)), IntKind.wrap_i64]
  have := h.1; have := h.2
  rw [show ((2 ^ 64 : Nat) : Int) = 18446744073709551616 from rfl]
  omega
set_option maxHeartbeats 1000000 in
theorem diff_core (x y Y R : Int) (c b C Z N V : Bool) (hb : (!c) = b) (hY : bits .xor .i64 (-1) y = Y) (hs : Hid (∀ w : World, Calls Try.prog 91 #[.int .i64 x, .int .i64 Y, .bool b] w fun e w' => e = .returned (.tuple #[.int .i64 R, .agg #[.bool C, .bool Z, .bool N, .bool V]]) ∧ Below w.heap.size w w')) (w : World) :
    Calls Try.prog 92 #[.int .i64 x, .int .i64 y, .bool c] w fun e w' => e = .returned (.tuple #[.int .i64 R, .agg #[.bool (!C), .bool Z, .bool N, .bool V]]) ∧ Below w.heap.size w w' := by
  have hsg : IntKind.i64.signed = true := rfl
  go_enter Try.func92, Try.ntmps92
  go_wp2_with (first | (go_at_call 91; refine (hs.out _).mono ?_; rintro e w1 ⟨rfl, hb1⟩; obtain ⟨z1, k0, k1, k2, k3, g0, g1, g2, g3⟩ := own4 hb1; have HB1 := Lib.hid hb1; clear hb1))
  go_region
  go_wp2
  exact bodyPost_ret (v := .tuple #[.int .i64 R, .agg #[.bool (!C), .bool Z, .bool N, .bool V]]) (by simp [results, Try.results92, go_sem, k0, k1, k2, k3, g0, g1, g2, g3, z1]) rfl ⟨rfl, by repeat (first | exact Below.refl _ _ | exact Ext.trans (Ext.alloc (Below.refl _ _) _) HB1.out | refine Ext.drew ?_ | refine Ext.alloc ?_ _ | refine Ext.setCell ?_ (Nat.le_refl _) _)⟩
theorem diff_ok (x y : Int) (c : Bool) (hy : W.I y) (w : World) :
    Calls Try.prog 92 #[.int .i64 x, .int .i64 y, .bool c] w fun e w' => e = .returned (.tuple #[.int .i64 (W.dR x y c), W.flags (W.dC x y c) (W.dR x y c) (W.dV x y c)]) ∧ Below w.heap.size w w' := by
  obtain ⟨e1, e2, e3⟩ := W.diff_sum x y c
  refine (diff_core x y (-y - 1) (W.dR x y c) c (!c) (!W.dC x y c) (W.fZ (W.dR x y c)) (W.fN (W.dR x y c)) (W.dV x y c) rfl (W.xor_neg y hy) ?_ w).mono ?_
  · intro w
    have := sum_ok x (-y - 1) (!c) w
    rw [e1, e3, show W.sC x (-y - 1) (!c) = !W.dC x y c by rw [← e2]; simp] at this
    exact this
  · rintro e w' ⟨rfl, hb⟩
    exact ⟨W.ret2 rfl (W.aggV (r' := W.dR x y c) (by simp) rfl rfl rfl), hb⟩
end Go.Proofs.Ytfjgnhmmakeaeaa
