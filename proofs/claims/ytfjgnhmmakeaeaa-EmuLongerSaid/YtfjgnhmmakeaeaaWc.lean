/- Plain facts on sums of words with a carry, and their flags. No condition. -/
import Derived.Test.YtfjgnhmmakeaeaaWq
namespace Go.Proofs.Ytfjgnhmmakeaeaa
open Go.RowKit
set_option linter.unusedSimpArgs false
set_option linter.unusedVariables false
set_option maxRecDepth 100000
namespace W

theorem i64_and65535 (n : Int) : bits .and .i64 n 65535 = n % 65536 := by
  have h : (BitVec.ofInt 64 n &&& BitVec.ofInt 64 65535).toNat = (BitVec.ofInt 64 n).toNat % 65536 := by
    rw [BitVec.toNat_and, show (BitVec.ofInt 64 65535).toNat = 2 ^ 16 - 1 from rfl, Nat.and_two_pow_sub_one_eq_mod]
  show IntKind.i64.wrap ((BitVec.ofInt 64 n &&& BitVec.ofInt 64 65535).toNat : Int) = _
  rw [h, BitVec.toNat_ofInt, IntKind.wrap_i64]
  have e : ((n % ((2 ^ 64 : Nat) : Int)).toNat : Int) = n % 18446744073709551616 := by
    rw [Int.toNat_of_nonneg (Int.emod_nonneg _ (by decide))]; rfl
  omega
/-- A word as a number with a sign. -/
def view (x : Int) : Int := if 32768 ≤ x then x - 65536 else x
def cy (c : Bool) : Int := if c then 1 else 0
/-- Sum and flags, of words that are cut. -/
def sR (a b : Int) (c : Bool) : Int := (a % 65536 + b % 65536 + cy c) % 65536
def sC (a b : Int) (c : Bool) : Bool := decide (65536 ≤ a % 65536 + b % 65536 + cy c)
def sV (a b : Int) (c : Bool) : Bool := decide (view (sR a b c) ≠ view (a % 65536) + view (b % 65536) + cy c)
def dR (a b : Int) (c : Bool) : Int := (a % 65536 - b % 65536 - cy c) % 65536
def dC (a b : Int) (c : Bool) : Bool := decide (a % 65536 - b % 65536 - cy c < 0)
def dV (a b : Int) (c : Bool) : Bool := decide (view (dR a b c) ≠ view (a % 65536) - view (b % 65536) - cy c)
def fZ (r : Int) : Bool := decide (r = 0)
def fN (r : Int) : Bool := decide (32768 ≤ r)
theorem cy_bd (c : Bool) : 0 ≤ cy c ∧ cy c ≤ 1 := by cases c <;> decide
theorem sR_bd (a b : Int) (c : Bool) : 0 ≤ sR a b c ∧ sR a b c < 65536 := by unfold sR; omega
theorem dR_bd (a b : Int) (c : Bool) : 0 ≤ dR a b c ∧ dR a b c < 65536 := by unfold dR; omega

theorem i64_nat (k : Nat) (h : k < 65536) (x y : Nat) (hx : x < 65536) (hy : y < 65536) : bits .and .i64 (x : Int) (y : Int) = ((x &&& y : Nat) : Int) ∧ bits .xor .i64 (x : Int) (y : Int) = ((x ^^^ y : Nat) : Int) := by
  have ex : (BitVec.ofInt 64 (x : Int)).toNat = x := by rw [BitVec.ofInt_natCast, BitVec.toNat_ofNat]; omega
  have ey : (BitVec.ofInt 64 (y : Int)).toNat = y := by rw [BitVec.ofInt_natCast, BitVec.toNat_ofNat]; omega
  have ha : x &&& y < 2 ^ 16 := Nat.and_lt_two_pow _ (by omega)
  have hb : x ^^^ y < 2 ^ 16 := Nat.xor_lt_two_pow (by omega) (by omega)
  constructor
  · show IntKind.i64.wrap ((BitVec.ofInt 64 (x : Int) &&& BitVec.ofInt 64 (y : Int)).toNat : Int) = _
    rw [BitVec.toNat_and, ex, ey, IntKind.wrap_i64]; omega
  · show IntKind.i64.wrap ((BitVec.ofInt 64 (x : Int) ^^^ BitVec.ofInt 64 (y : Int)).toNat : Int) = _
    rw [BitVec.toNat_xor, ex, ey, IntKind.wrap_i64]; omega
theorem top_bit (x : Nat) (h : x < 65536) : x.testBit 15 = decide (32768 ≤ x) := by
  rw [Nat.testBit_eq_decide_div_mod_eq, show (2 : Nat) ^ 15 = 32768 from rfl]
  by_cases hx : 32768 ≤ x
  · simp only [hx, decide_true, decide_eq_true_eq]; omega
  · simp only [hx, decide_false, decide_eq_false_iff_not]; omega
theorem and_top (x : Nat) (h : x < 65536) : (x &&& 32768 ≠ 0) ↔ x.testBit 15 = true := by
  have e : x &&& 32768 = x / 2 ^ 15 % 2 * 2 ^ 15 := nat_bit 15 x
  rw [e, Nat.testBit_eq_decide_div_mod_eq]
  simp only [decide_eq_true_eq]
  omega
/-- Overflow as the code asks for it. -/
theorem over_nat (A B R : Nat) (hA : A < 65536) (hB : B < 65536) (hR : R < 65536) :
    (((A ^^^ R) &&& (B ^^^ R)) &&& 32768 ≠ 0) ↔ (decide (32768 ≤ A) = decide (32768 ≤ B) ∧ decide (32768 ≤ A) ≠ decide (32768 ≤ R)) := by
  have h1 : A ^^^ R < 2 ^ 16 := Nat.xor_lt_two_pow (by omega) (by omega)
  have h2 : (A ^^^ R) &&& (B ^^^ R) < 2 ^ 16 := Nat.lt_of_le_of_lt Nat.and_le_left h1
  rw [and_top _ (by omega), Nat.testBit_and, Nat.testBit_xor, Nat.testBit_xor, top_bit A hA, top_bit B hB, top_bit R hR]
  cases decide (32768 ≤ A) <;> cases decide (32768 ≤ B) <;> cases decide (32768 ≤ R) <;> simp
theorem over_int (A B R : Int) (hA : 0 ≤ A ∧ A < 65536) (hB : 0 ≤ B ∧ B < 65536) (hR : 0 ≤ R ∧ R < 65536) :
    (bits .and .i64 (bits .and .i64 (bits .xor .i64 A R) (bits .xor .i64 B R)) 32768 != 0) = decide ((32768 ≤ A ↔ 32768 ≤ B) ∧ ¬ (32768 ≤ A ↔ 32768 ≤ R)) := by
  obtain ⟨a, rfl⟩ := Int.eq_ofNat_of_zero_le hA.1
  obtain ⟨b, rfl⟩ := Int.eq_ofNat_of_zero_le hB.1
  obtain ⟨r, rfl⟩ := Int.eq_ofNat_of_zero_le hR.1
  have ha : a < 65536 := by omega
  have hb : b < 65536 := by omega
  have hr : r < 65536 := by omega
  have h1 : a ^^^ r < 2 ^ 16 := Nat.xor_lt_two_pow (by omega) (by omega)
  have h1' : b ^^^ r < 2 ^ 16 := Nat.xor_lt_two_pow (by omega) (by omega)
  have h2 : (a ^^^ r) &&& (b ^^^ r) < 2 ^ 16 := Nat.lt_of_le_of_lt Nat.and_le_left h1
  rw [(i64_nat 0 (by omega) a r ha hr).2, (i64_nat 0 (by omega) b r hb hr).2, (i64_nat 0 (by omega) _ _ (by omega) (by omega)).1,
    show (32768 : Int) = ((32768 : Nat) : Int) from rfl, (i64_nat 0 (by omega) _ _ (by omega) (by omega)).1]
  have h := over_nat a b r ha hb hr
  rw [Bool.eq_iff_iff, decide_eq_true_eq, bne_iff_ne]
  constructor
  · intro k
    have := h.1 (by omega)
    simp only [ne_eq, decide_eq_decide] at this
    constructor <;> omega
  · intro k
    have := h.2 (by simp only [ne_eq, decide_eq_decide]; omega)
    omega
theorem sV_over (x y : Int) (c : Bool) :
    (bits .and .i64 (bits .and .i64 (bits .xor .i64 (x % 65536) (sR x y c)) (bits .xor .i64 (y % 65536) (sR x y c))) 32768 != 0) = sV x y c := by
  rw [over_int _ _ _ (by omega) (by omega) (sR_bd x y c)]
  have hc := cy_bd c
  unfold sV
  rw [decide_eq_decide]
  have hR : sR x y c = x % 65536 + y % 65536 + cy c ∨ sR x y c = x % 65536 + y % 65536 + cy c - 65536 := by unfold sR; omega
  have hb := sR_bd x y c
  generalize sR x y c = R at *
  generalize cy c = k at *
  have h1 : 0 ≤ x % 65536 ∧ x % 65536 < 65536 := by omega
  have h2 : 0 ≤ y % 65536 ∧ y % 65536 < 65536 := by omega
  generalize x % 65536 = a at *
  generalize y % 65536 = b at *
  unfold view
  split <;> split <;> split <;> omega
/-- A difference is a sum with what is turned round. -/
theorem diff_sum (x y : Int) (c : Bool) : sR x (-y - 1) (!c) = dR x y c ∧ (!sC x (-y - 1) (!c)) = dC x y c ∧ sV x (-y - 1) (!c) = dV x y c := by
  have e : (-y - 1) % 65536 = 65535 - y % 65536 := by omega
  have hcy : cy (!c) = 1 - cy c := by cases c <;> rfl
  have hc := cy_bd c
  have e1 : sR x (-y - 1) (!c) = dR x y c := by unfold sR dR; rw [e, hcy]; omega
  refine ⟨e1, ?_, ?_⟩
  · unfold sC dC; rw [e, hcy, ← decide_not, decide_eq_decide]; omega
  · unfold sV dV; rw [e1, e, hcy, decide_eq_decide]
    have : view (65535 - y % 65536) = -1 - view (y % 65536) := by unfold view; split <;> split <;> omega
    rw [this]
    constructor <;> intro h k <;> apply h <;> omega
end W
end Go.Proofs.Ytfjgnhmmakeaeaa
