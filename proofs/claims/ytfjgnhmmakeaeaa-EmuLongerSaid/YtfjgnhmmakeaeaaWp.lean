/- Plain facts on numbers of 8, 16, 32 and 64 bits, and on the walk's bit operations. No condition. -/
import Derived.WalkKit
import Derived.Laws.BitsAllLaws
import Derived.Laws.BitsLemmas
namespace Go.Proofs.Ytfjgnhmmakeaeaa
namespace W

/-- The four widths. -/
def ok (w : Int) : Prop := w = 8 ∨ w = 16 ∨ w = 32 ∨ w = 64
/-- 2 to the width. -/
def md (w : Int) : Int := if w = 8 then 256 else if w = 16 then 65536 else if w = 32 then 4294967296 else 18446744073709551616
theorem md8 : md 8 = 256 := rfl
theorem md16 : md 16 = 65536 := rfl
theorem md32 : md 32 = 4294967296 := rfl
theorem md64 : md 64 = 18446744073709551616 := rfl
theorem md_pos (w : Int) : 0 < md w := by unfold md; split <;> (try split) <;> (try split) <;> omega
theorem md_le (w : Int) : md w ≤ 18446744073709551616 := by unfold md; split <;> (try split) <;> (try split) <;> omega
theorem md_dvd (w : Int) : md w ∣ 18446744073709551616 := by
  unfold md; split <;> (try split) <;> (try split) <;> decide
theorem mod_mod (x w : Int) : x % 18446744073709551616 % md w = x % md w := Int.emod_emod_of_dvd x (md_dvd w)
theorem mod_lo (x w : Int) : 0 ≤ x % md w := Int.emod_nonneg _ (by have := md_pos w; omega)
theorem mod_hi (x w : Int) : x % md w < md w := Int.emod_lt_of_pos _ (md_pos w)
theorem mod_le (x w : Int) : x % md w < 18446744073709551616 := by have := mod_hi x w; have := md_le w; omega

theorem wrap_u64_mod (x w : Int) : IntKind.u64.wrap x % md w = x % md w := by rw [IntKind.wrap_u64, mod_mod]

theorem u64_wraps (n : Int) (h₀ : 0 ≤ n) (h₁ : n < 2 ^ 64) : IntKind.u64.wrap n = n := by rw [IntKind.wrap_u64]; omega
theorem u64_mask (i : Nat) (hi : i ≤ 64) (x : Int) (h₀ : 0 ≤ x) (h₁ : x < 18446744073709551616) : bits .and .u64 x (2 ^ i - 1) = x % 2 ^ i :=
  bits_mask .u64 64 (by decide) u64_wraps i hi x h₀ (by omega)
theorem and255 (x : Int) (h₀ : 0 ≤ x) (h₁ : x < 18446744073709551616) : bits .and .u64 x 255 = x % md 8 := u64_mask 8 (by decide) x h₀ h₁
theorem and65535 (x : Int) (h₀ : 0 ≤ x) (h₁ : x < 18446744073709551616) : bits .and .u64 x 65535 = x % md 16 := u64_mask 16 (by decide) x h₀ h₁
theorem and32 (x : Int) (h₀ : 0 ≤ x) (h₁ : x < 18446744073709551616) : bits .and .u64 x 4294967295 = x % md 32 := u64_mask 32 (by decide) x h₀ h₁
theorem and64 (x : Int) (h₀ : 0 ≤ x) (h₁ : x < 18446744073709551616) : bits .and .u64 x 18446744073709551615 = x % md 64 := u64_mask 64 (by decide) x h₀ h₁
theorem wrap_lo (x : Int) : 0 ≤ IntKind.u64.wrap x := by rw [IntKind.wrap_u64]; omega
theorem wrap_hi (x : Int) : IntKind.u64.wrap x < 18446744073709551616 := by rw [IntKind.wrap_u64]; omega

theorem add_mods (a b w : Int) : (a % md w + b % md w) % md w = (a + b) % md w := by rw [← Int.add_emod]
theorem sub_mods (a b w : Int) : (a % md w - b % md w) % md w = (a - b) % md w := by rw [← Int.sub_emod]
theorem mul_mods (a b w : Int) : (a % md w * (b % md w)) % md w = (a * b) % md w := by rw [← Int.mul_emod]

/-- The sum, the difference, the product of a width. -/
def add (w a b : Int) : Int := (a + b) % md w
def sub (w a b : Int) : Int := (a - b) % md w
def mul (w a b : Int) : Int := (a * b) % md w
def cut (w a : Int) : Int := a % md w
/-- With a sign. -/
def sg (w x : Int) : Int := if x % md w * 2 < md w then x % md w else x % md w - md w

theorem add_lo (w a b : Int) : 0 ≤ add w a b := mod_lo _ _
theorem add_hi (w a b : Int) : add w a b < 18446744073709551616 := mod_le _ _
theorem sub_lo (w a b : Int) : 0 ≤ sub w a b := mod_lo _ _
theorem sub_hi (w a b : Int) : sub w a b < 18446744073709551616 := mod_le _ _
theorem mul_lo (w a b : Int) : 0 ≤ mul w a b := mod_lo _ _
theorem mul_hi (w a b : Int) : mul w a b < 18446744073709551616 := mod_le _ _
theorem cut_lo (w a : Int) : 0 ≤ cut w a := mod_lo _ _
theorem cut_hi (w a : Int) : cut w a < 18446744073709551616 := mod_le _ _

theorem add_mod_l (w x b : Int) : add w (x % md w) b = add w x b := by unfold add; rw [Int.emod_add_emod]
theorem add_mod_r (w a x : Int) : add w a (x % md w) = add w a x := by unfold add; rw [Int.add_emod_emod]
theorem mul_mod_l (w x b : Int) : mul w (x % md w) b = mul w x b := by unfold mul; rw [Int.mul_emod, Int.emod_emod, ← Int.mul_emod]
theorem mul_mod_r (w a x : Int) : mul w a (x % md w) = mul w a x := by unfold mul; rw [Int.mul_emod, Int.emod_emod, ← Int.mul_emod]
theorem sub_mod_l (w x b : Int) : sub w (x % md w) b = sub w x b := by unfold sub; rw [Int.emod_sub_emod]
theorem sub_mod_r (w a x : Int) : sub w a (x % md w) = sub w a x := by unfold sub; rw [Int.sub_emod, Int.emod_emod, ← Int.sub_emod]

theorem add_comm (w a b : Int) : add w a b = add w b a := by unfold add; rw [Int.add_comm]
theorem mul_comm (w a b : Int) : mul w a b = mul w b a := by unfold mul; rw [Int.mul_comm]
theorem add_assoc (w a b c : Int) : add w (add w a b) c = add w a (add w b c) := by
  show add w ((a + b) % md w) c = add w a ((b + c) % md w)
  rw [add_mod_l, add_mod_r]; unfold add; rw [Int.add_assoc]
theorem mul_assoc (w a b c : Int) : mul w (mul w a b) c = mul w a (mul w b c) := by
  show mul w ((a * b) % md w) c = mul w a ((b * c) % md w)
  rw [mul_mod_l, mul_mod_r]; unfold mul; rw [Int.mul_assoc]
theorem distrib (w a b c : Int) : mul w a (add w b c) = add w (mul w a b) (mul w a c) := by
  show mul w a ((b + c) % md w) = add w ((a * b) % md w) ((a * c) % md w)
  rw [mul_mod_r, add_mod_l, add_mod_r]; unfold add mul; rw [Int.mul_add]
theorem back (w a b : Int) : sub w (add w a b) b = cut w a := by
  show sub w ((a + b) % md w) b = cut w a
  rw [sub_mod_l]; unfold sub cut; rw [Int.add_sub_cancel]
theorem cut_cut (w a : Int) : cut w (cut w a) = cut w a := by unfold cut; rw [Int.emod_emod]
theorem mul_one (w a : Int) : mul w a 1 = cut w a := by unfold mul cut; rw [Int.mul_one]
theorem add_zero (w a : Int) : add w a 0 = cut w a := by unfold add cut; rw [Int.add_zero]

/-- A narrower width's modulus divides a wider one's. -/
theorem md_dvd_md (w v : Int) (hw : ok w) (hv : ok v) (h : w ≤ v) : md w ∣ md v := by
  rcases hw with rfl | rfl | rfl | rfl <;> rcases hv with rfl | rfl | rfl | rfl <;> first | (exfalso; omega) | decide
theorem narrow (w v x : Int) (hw : ok w) (hv : ok v) (h : w ≤ v) : x % md v % md w = x % md w := Int.emod_emod_of_dvd x (md_dvd_md w v hw hv h)

/-- It is a number of 64 bits without a sign; of 64 bits with one. -/
def U (a : Int) : Prop := 0 ≤ a ∧ a < 18446744073709551616
def I (a : Int) : Prop := -9223372036854775808 ≤ a ∧ a ≤ 9223372036854775807
theorem U_add (w a b : Int) : U (add w a b) := ⟨add_lo _ _ _, add_hi _ _ _⟩
theorem U_sub (w a b : Int) : U (sub w a b) := ⟨sub_lo _ _ _, sub_hi _ _ _⟩
theorem U_mul (w a b : Int) : U (mul w a b) := ⟨mul_lo _ _ _, mul_hi _ _ _⟩
theorem U_cut (w a : Int) : U (cut w a) := ⟨cut_lo _ _, cut_hi _ _⟩
theorem U_wrap (a : Int) : U (IntKind.u64.wrap a) := ⟨wrap_lo _, wrap_hi _⟩
theorem U_wf {a : Int} (h : (Lit.int .u64 a).wf = true) : U a := by
  have hmin : IntKind.u64.min = 0 := rfl
  have hmax : IntKind.u64.max = 18446744073709551615 := rfl
  simp only [Lit.wf, Bool.and_eq_true, decide_eq_true_eq] at h
  exact ⟨by omega, by omega⟩
theorem I_wf {a : Int} (h : (Lit.int .i64 a).wf = true) : I a := by
  have hmin : IntKind.i64.min = -9223372036854775808 := rfl
  have hmax : IntKind.i64.max = 9223372036854775807 := rfl
  simp only [Lit.wf, Bool.and_eq_true, decide_eq_true_eq] at h
  exact ⟨by omega, by omega⟩
/-- 'm' is the width's mask. -/
def Msk (w m : Int) : Prop := ∀ x, U x → bits .and .u64 x m = x % md w
theorem msk8 : Msk 8 255 := fun x h => and255 x h.1 h.2
theorem msk16 : Msk 16 65535 := fun x h => and65535 x h.1 h.2
theorem msk32 : Msk 32 4294967295 := fun x h => and32 x h.1 h.2
theorem msk64 : Msk 64 18446744073709551615 := fun x h => and64 x h.1 h.2
theorem both_add {w m a b : Int} (hm : Msk w m) (ha : U a) (hb : U b) : bits .and .u64 (IntKind.u64.wrap (bits .and .u64 a m + bits .and .u64 b m)) m = add w a b := by
  rw [hm _ (U_wrap _), hm a ha, hm b hb, wrap_u64_mod, add_mods]; rfl
theorem both_sub {w m a b : Int} (hm : Msk w m) (ha : U a) (hb : U b) : bits .and .u64 (IntKind.u64.wrap (bits .and .u64 a m - bits .and .u64 b m)) m = sub w a b := by
  rw [hm _ (U_wrap _), hm a ha, hm b hb, wrap_u64_mod, sub_mods]; rfl
theorem both_mul {w m a b : Int} (hm : Msk w m) (ha : U a) (hb : U b) : bits .and .u64 (IntKind.u64.wrap (bits .and .u64 a m * bits .and .u64 b m)) m = mul w a b := by
  rw [hm _ (U_wrap _), hm a ha, hm b hb, wrap_u64_mod, mul_mods]; rfl

/-- What comes back: two values, three. -/
theorem ret1 {u u' : Value} (h : u = u') : Ending.returned u = .returned u' := by rw [h]
theorem ret2 {u v u' v' : Value} (h : u = u') (k : v = v') : Ending.returned (.tuple #[u, v]) = .returned (.tuple #[u', v']) := by rw [h, k]
theorem ret3 {u v z u' v' z' : Value} (h : u = u') (k : v = v') (l : z = z') : Ending.returned (.tuple #[u, v, z]) = .returned (.tuple #[u', v', z']) := by rw [h, k, l]
theorem u64 {a b : Int} (h : a = b) : Value.int .u64 a = .int .u64 b := by rw [h]
theorem i64 {a b : Int} (h : a = b) : Value.int .i64 a = .int .i64 b := by rw [h]
theorem bool {a b : Bool} (h : a = b) : Value.bool a = .bool b := by rw [h]
end W
end Go.Proofs.Ytfjgnhmmakeaeaa
