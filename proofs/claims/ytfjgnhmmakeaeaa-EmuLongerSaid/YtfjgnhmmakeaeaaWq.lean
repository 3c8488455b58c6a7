/- Plain facts on signs, quotients, rests and shifts of numbers of 8, 16, 32 and 64 bits. No condition. -/
import Derived.Test.YtfjgnhmmakeaeaaWp
namespace Go.Proofs.Ytfjgnhmmakeaeaa
open Go.RowKit
set_option linter.unusedVariables false
namespace W

/-- The width's mask. -/
def mk (w : Int) : Int := md w - 1
theorem mk8 : mk 8 = 255 := rfl
theorem mk16 : mk 16 = 65535 := rfl
theorem mk32 : mk 32 = 4294967295 := rfl
theorem mk64 : mk 64 = 18446744073709551615 := rfl
theorem msk (w : Int) (h : ok w) : Msk w (mk w) := by
  rcases h with rfl | rfl | rfl | rfl
  · exact msk8
  · exact msk16
  · exact msk32
  · exact msk64

theorem sg8 (a : Int) : wrap64 (IntKind.u64.wrap (a * 72057594037927936)) / 72057594037927936 = sg 8 a := by
  rw [IntKind.wrap_u64]; unfold sg wrap64; rw [md8]; split <;> omega
theorem sg16 (a : Int) : wrap64 (IntKind.u64.wrap (a * 281474976710656)) / 281474976710656 = sg 16 a := by
  rw [IntKind.wrap_u64]; unfold sg wrap64; rw [md16]; split <;> omega
theorem sg32 (a : Int) : wrap64 (IntKind.u64.wrap (a * 4294967296)) / 4294967296 = sg 32 a := by
  rw [IntKind.wrap_u64]; unfold sg wrap64; rw [md32]; split <;> omega
theorem sg64 (a : Int) : wrap64 (IntKind.u64.wrap a) = sg 64 a := by
  rw [IntKind.wrap_u64]; unfold sg wrap64; rw [md64]; split <;> omega
theorem sg_mod (w a : Int) : sg w a % md w = a % md w := by
  unfold sg; split
  · rw [Int.emod_emod]
  · rw [Int.sub_emod, Int.emod_self, Int.sub_zero, Int.emod_emod, Int.emod_emod]
theorem sg_cut (w a : Int) : sg w (cut w a) = sg w a := by unfold sg cut; rw [Int.emod_emod]
theorem sg_I (w a : Int) : I (sg w a) := by
  have h1 := mod_lo a w; have h2 := mod_hi a w; have h3 := md_le w
  unfold sg I; split <;> constructor <;> omega

/-- The size of bits that have a sign, and whether it is below nought (of a number that is cut). -/
def ng (w x : Int) : Bool := decide (md w ≤ x * 2)
def mag (w x : Int) : Int := if md w ≤ x * 2 then md w - x else x
theorem mag_lo (w x : Int) (h0 : 0 ≤ x) (h1 : x < md w) : 0 ≤ mag w x := by unfold mag; split <;> omega
theorem mag_hi (w x : Int) (h0 : 0 ≤ x) (h1 : x < md w) : mag w x < md w := by unfold mag; split <;> omega
theorem mag_pos (w x : Int) (h0 : 0 ≤ x) (h1 : x < md w) (h : x ≠ 0) : 1 ≤ mag w x := by unfold mag; split <;> omega
theorem sg_ng (w a : Int) (h : ng w (a % md w) = true) : sg w a = - mag w (a % md w) := by
  unfold ng at h; simp only [decide_eq_true_eq] at h
  unfold sg mag; rw [if_neg (by omega), if_pos h]; omega
theorem sg_nn (w a : Int) (h : ng w (a % md w) = false) : sg w a = mag w (a % md w) := by
  unfold ng at h; simp only [decide_eq_false_iff_not] at h
  unfold sg mag; rw [if_pos (by omega), if_neg h]

/-- Quotient and rest, with or without signs. -/
def quo (w : Int) (s : Bool) (a b : Int) : Int := if s then (sg w a).tdiv (sg w b) % md w else a % md w / (b % md w)
def rem (w : Int) (s : Bool) (a b : Int) : Int := if s then (sg w a).tmod (sg w b) % md w else a % md w % (b % md w)
theorem div_le {x y : Int} (h0 : 0 ≤ x) (hy : 0 ≤ y) : x / y ≤ x := Int.ediv_le_self _ h0
theorem quo_U (w : Int) (s : Bool) (a b : Int) : U (quo w s a b) := by
  unfold quo; split
  · exact ⟨mod_lo _ _, mod_le _ _⟩
  · have h1 := mod_lo a w; have h2 := mod_lo b w; have h3 := mod_le a w
    have := div_le h1 h2
    exact ⟨Int.ediv_nonneg h1 h2, by omega⟩
theorem rem_U (w : Int) (s : Bool) (a b : Int) : U (rem w s a b) := by
  unfold rem; split
  · exact ⟨mod_lo _ _, mod_le _ _⟩
  · have h1 := mod_lo a w; have h2 := mod_lo b w; have h3 := mod_le a w
    have hle : a % md w % (b % md w) ≤ a % md w := by
      have e1 := Int.emod_add_mul_ediv (a % md w) (b % md w)
      have e2 := Int.mul_nonneg h2 (Int.ediv_nonneg h1 h2)
      omega
    by_cases hb : b % md w = 0
    · rw [hb, Int.emod_zero]; exact ⟨h1, h3⟩
    · exact ⟨Int.emod_nonneg _ hb, by omega⟩

theorem quo_pp (w a b X Y : Int) (hX : mag w (a % md w) = X) (hY : mag w (b % md w) = Y) (ha : ng w (a % md w) = false) (hb : ng w (b % md w) = false) (h0 : 0 ≤ X) (h1 : 0 ≤ Y) :
    quo w true a b = X / Y % md w ∧ rem w true a b = X % Y % md w := by
  unfold quo rem; rw [if_pos rfl, if_pos rfl, sg_nn w a ha, sg_nn w b hb, hX, hY, Int.tdiv_eq_ediv_of_nonneg h0, Int.tmod_eq_emod_of_nonneg h0]; exact ⟨rfl, rfl⟩
theorem quo_pn (w a b X Y : Int) (hX : mag w (a % md w) = X) (hY : mag w (b % md w) = Y) (ha : ng w (a % md w) = false) (hb : ng w (b % md w) = true) (h0 : 0 ≤ X) (h1 : 0 ≤ Y) :
    quo w true a b = (-(X / Y)) % md w ∧ rem w true a b = X % Y % md w := by
  unfold quo rem; rw [if_pos rfl, if_pos rfl, sg_nn w a ha, sg_ng w b hb, hX, hY, Int.tdiv_neg, Int.tmod_neg, Int.tdiv_eq_ediv_of_nonneg h0, Int.tmod_eq_emod_of_nonneg h0]; exact ⟨rfl, rfl⟩
theorem quo_np (w a b X Y : Int) (hX : mag w (a % md w) = X) (hY : mag w (b % md w) = Y) (ha : ng w (a % md w) = true) (hb : ng w (b % md w) = false) (h0 : 0 ≤ X) (h1 : 0 ≤ Y) :
    quo w true a b = (-(X / Y)) % md w ∧ rem w true a b = (-(X % Y)) % md w := by
  unfold quo rem; rw [if_pos rfl, if_pos rfl, sg_ng w a ha, sg_nn w b hb, hX, hY, Int.neg_tdiv, Int.neg_tmod, Int.tdiv_eq_ediv_of_nonneg h0, Int.tmod_eq_emod_of_nonneg h0]; exact ⟨rfl, rfl⟩
theorem quo_nn (w a b X Y : Int) (hX : mag w (a % md w) = X) (hY : mag w (b % md w) = Y) (ha : ng w (a % md w) = true) (hb : ng w (b % md w) = true) (h0 : 0 ≤ X) (h1 : 0 ≤ Y) :
    quo w true a b = X / Y % md w ∧ rem w true a b = (-(X % Y)) % md w := by
  unfold quo rem; rw [if_pos rfl, if_pos rfl, sg_ng w a ha, sg_ng w b hb, hX, hY, Int.tdiv_neg, Int.neg_tdiv, Int.neg_neg, Int.tmod_neg, Int.neg_tmod, Int.tdiv_eq_ediv_of_nonneg h0, Int.tmod_eq_emod_of_nonneg h0]; exact ⟨rfl, rfl⟩

/-- What is shifted up, and down. -/
def shl (w a n : Int) : Int := (a * 2 ^ min n.toNat 64) % md w
def shr (w : Int) (s : Bool) (a n : Int) : Int := if s then (sg w a / 2 ^ min n.toNat 64) % md w else a % md w / 2 ^ min n.toNat 64
theorem shl_U (w a n : Int) : U (shl w a n) := ⟨mod_lo _ _, mod_le _ _⟩
theorem pow_pos (k : Nat) : (0 : Int) < 2 ^ k := Int.pow_pos (by decide)
theorem shr_U (w : Int) (s : Bool) (a n : Int) : U (shr w s a n) := by
  unfold shr; split
  · exact ⟨mod_lo _ _, mod_le _ _⟩
  · have h1 := mod_lo a w; have h3 := mod_le a w; have hp := pow_pos (min n.toNat 64)
    have := div_le h1 (Int.le_of_lt hp)
    exact ⟨Int.ediv_nonneg h1 (Int.le_of_lt hp), by omega⟩
theorem both_shl {w m a : Int} (n : Nat) (hm : Msk w m) (ha : U a) : bits .and .u64 (IntKind.u64.wrap (bits .and .u64 a m * 2 ^ min n 64)) m = (a * 2 ^ min n 64) % md w := by
  rw [hm _ (U_wrap _), hm a ha, wrap_u64_mod, Int.mul_emod, Int.emod_emod, ← Int.mul_emod]
/-- Which one is less. -/
def less (w : Int) (s : Bool) (a b : Int) : Bool := if s then decide (sg w a < sg w b) else decide (a % md w < b % md w)
end W
end Go.Proofs.Ytfjgnhmmakeaeaa
