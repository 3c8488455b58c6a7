/- Division by a power of the base: plain facts, and the walk of length. -/
import Derived.Test.YtkmcniaaecijdaaNA
import Derived.Test.YtkmcniaaecijdaaN10
namespace Go.Proofs.Ytkmcniaaecijdaa
open Go.RowKit
set_option linter.unusedVariables false
set_option linter.unusedSimpArgs false
set_option maxRecDepth 100000

theorem N.wd_pow (K : Nat) : N.wd (N.B ^ K) K = 1 := by
  unfold N.wd; rw [Nat.div_self (N.Bk_pos K)]; rfl
theorem N.ln_pow (K : Nat) : N.ln (N.B ^ K) = K + 1 := by
  refine N.ln_of ?_ (.inr ?_)
  · rw [Nat.pow_succ]
    have h : N.B ^ K * 1 < N.B ^ K * N.B := Nat.mul_lt_mul_of_pos_left (by decide) (N.Bk_pos K)
    omega
  · rw [Nat.add_sub_cancel, N.wd_pow]; decide
/-- The divisor made ready: its top bit is 1. -/
theorem N.ln_top31 (K : Nat) : N.ln (N.B ^ K * 2 ^ 31) = K + 1 := by
  refine N.ln_of ?_ (.inr ?_)
  · rw [Nat.pow_succ]; exact Nat.mul_lt_mul_of_pos_left (by decide) (N.Bk_pos K)
  · rw [Nat.add_sub_cancel]
    unfold N.wd; rw [Nat.mul_div_cancel_left _ (N.Bk_pos K)]; decide
theorem N.wd_top31 (K : Nat) : N.wd (N.B ^ K * 2 ^ 31) K = 2147483648 := by
  unfold N.wd; rw [Nat.mul_div_cancel_left _ (N.Bk_pos K)]; decide
theorem N.wd_low31 {K i : Nat} (h : i < K) : N.wd (N.B ^ K * 2 ^ 31) i = 0 := by
  unfold N.wd
  obtain ⟨d, rfl⟩ : ∃ d, K = i + (1 + d) := ⟨K - i - 1, by omega⟩
  rw [Nat.pow_add, Nat.mul_assoc, Nat.mul_div_cancel_left _ (N.Bk_pos i), Nat.pow_add, Nat.pow_one, Nat.mul_assoc, Nat.mul_mod_right]
/-- What is left while it divides: 2^31 times the lower words. -/
def N.kU (a K k : Nat) : Nat := 2 ^ 31 * (a % N.B ^ (k + K))
theorem N.kU_lt (a K k : Nat) : N.kU a K k < N.B ^ (k + K + 1) := by
  unfold N.kU
  rw [Nat.pow_succ, Nat.mul_comm]
  exact Nat.mul_lt_mul'' (Nat.mod_lt _ (N.Bk_pos _)) (by decide)
theorem N.kU_step (a K k : Nat) : N.kU a K (k + 1) = N.kU a K k + 2 ^ 31 * N.wd a (k + K) * N.B ^ (k + K) := by
  unfold N.kU
  rw [show k + 1 + K = k + K + 1 by omega, N.mod_succ, Nat.mul_add, Nat.mul_assoc]
/-- Its two highest words, and the rest's one. -/
theorem N.kU_words (a K k : Nat) : ∃ r, r < 2147483648 ∧ N.wd (N.kU a K (k + 1)) (k + K + 1) * 4294967296 + N.wd (N.kU a K (k + 1)) (k + K) = 2147483648 * N.wd a (k + K) + r ∧ r = N.wd (N.kU a K k) (k + K) := by
  refine ⟨N.kU a K k / N.B ^ (k + K), ?_, ?_, ?_⟩
  · rw [Nat.div_lt_iff_lt_mul (N.Bk_pos _)]
    unfold N.kU
    exact Nat.mul_lt_mul_of_pos_left (Nat.mod_lt _ (N.Bk_pos _)) (by decide)
  · have h1 := N.two_mod (N.kU a K (k + 1)) (k + K)
    have h2 : N.kU a K (k + 1) / N.B ^ (k + K) < N.B * N.B := by
      rw [Nat.div_lt_iff_lt_mul (N.Bk_pos _)]
      have := N.kU_lt a K (k + 1)
      rw [show k + 1 + K + 1 = k + K + 1 + 1 by omega, Nat.pow_succ, Nat.pow_succ, Nat.mul_comm (N.B ^ (k + K) * N.B), Nat.mul_comm (N.B ^ (k + K)), ← Nat.mul_assoc] at this
      exact this
    have hdiv : N.kU a K (k + 1) / N.B ^ (k + K) = N.kU a K k / N.B ^ (k + K) + 2 ^ 31 * N.wd a (k + K) := by rw [N.kU_step, Nat.add_mul_div_right _ _ (N.Bk_pos _)]
    rw [Nat.mod_eq_of_lt h2, hdiv] at h1
    have hB : N.wd (N.kU a K (k + 1)) (k + K + 1) * N.B = N.wd (N.kU a K (k + 1)) (k + K + 1) * 4294967296 := rfl
    have e : (2 : Nat) ^ 31 = 2147483648 := by decide
    rw [e] at h1
    omega
  · unfold N.wd
    rw [Nat.mod_eq_of_lt]
    rw [Nat.div_lt_iff_lt_mul (N.Bk_pos _), Nat.mul_comm, ← Nat.pow_succ]
    exact N.kU_lt a K k
/-- Both words written anew: one number less. -/
theorem N.kU_set {a K k L r : Nat} (hr : r = N.wd (N.kU a K k) (k + K)) (hL : k + K + 1 < L) (hw : N.wd (N.kU a K (k + 1)) (k + K + 1) * 4294967296 + N.wd (N.kU a K (k + 1)) (k + K) = 2147483648 * N.wd a (k + K) + r) :
    ((arr (N.kU a K (k + 1)) L).setIfInBounds (k + K) (.int .u32 (r : Int))).setIfInBounds (k + K + 1) (.int .u32 0) = arr (N.kU a K k) L := by
  have hrB : r < N.B := by rw [hr]; exact N.wd_lt _ _
  rw [arr_set hrB (by omega)]
  have h1 := arr_set (n := N.kU a K (k + 1) - N.wd (N.kU a K (k + 1)) (k + K) * N.B ^ (k + K) + r * N.B ^ (k + K)) (k := k + K + 1) (L := L) (x := 0) N.B_pos hL
  rw [show ((0 : Nat) : Int) = 0 from rfl] at h1
  rw [h1]
  apply arr_congr
  have hp := N.parts (N.kU a K (k + 1)) (k + K)
  have hs : N.wd (N.kU a K (k + 1) - N.wd (N.kU a K (k + 1)) (k + K) * N.B ^ (k + K) + r * N.B ^ (k + K)) (k + K + 1) = N.wd (N.kU a K (k + 1)) (k + K + 1) := by
    have e2 : N.kU a K (k + 1) - N.wd (N.kU a K (k + 1)) (k + K) * N.B ^ (k + K) + r * N.B ^ (k + K) = N.kU a K (k + 1) / N.B ^ (k + K + 1) * N.B ^ (k + K + 1) + r * N.B ^ (k + K) + N.kU a K (k + 1) % N.B ^ (k + K) := by
      have h : ∀ M A W g X : Nat, M = A + W + g → M - W + X = A + X + g := by intros; omega
      exact h _ _ _ _ _ hp
    rw [e2, N.wd_parts _ _ _ _ hrB (Nat.mod_lt _ (N.Bk_pos _)), if_neg (by omega), if_neg (by omega), Nat.sub_self, N.wd_zero]
    rfl
  rw [hs]
  have hst := N.kU_step a K k
  have e : N.B ^ (k + K + 1) = 4294967296 * N.B ^ (k + K) := by rw [Nat.pow_succ, Nat.mul_comm, N.B_eq]
  rw [e]
  generalize hu1 : N.wd (N.kU a K (k + 1)) (k + K + 1) = u1 at *
  generalize hu0 : N.wd (N.kU a K (k + 1)) (k + K) = u0 at *
  generalize N.wd a (k + K) = g at *
  have h3 : u1 * (4294967296 * N.B ^ (k + K)) + u0 * N.B ^ (k + K) = 2 ^ 31 * g * N.B ^ (k + K) + r * N.B ^ (k + K) := by
    rw [← Nat.mul_assoc, ← Nat.add_mul, hw, Nat.add_mul]
  have h4 : u0 * N.B ^ (k + K) ≤ N.kU a K (k + 1) := by
    have h : ∀ A W g X : Nat, X = A + W + g → W ≤ X := by intros; omega
    exact h _ _ _ _ hp
  rw [Nat.zero_mul, Nat.add_zero]
  generalize u1 * (4294967296 * N.B ^ (k + K)) = A1 at *
  generalize u0 * N.B ^ (k + K) = A0 at *
  generalize 2 ^ 31 * g * N.B ^ (k + K) = Gg at *
  generalize r * N.B ^ (k + K) = Rr at *
  omega
/-- The quotient's next word. -/
theorem N.kQ_step (a K k : Nat) : a / N.B ^ K / N.B ^ k * N.B ^ k = a / N.B ^ K / N.B ^ (k + 1) * N.B ^ (k + 1) + N.wd a (k + K) * N.B ^ k := by
  rw [N.div_succ (a / N.B ^ K) k, Nat.add_mul, Nat.mul_assoc, Nat.mul_comm N.B, ← Nat.pow_succ]
  congr 2
  unfold N.wd
  rw [Nat.div_div_eq_div_mul, ← Nat.pow_add, Nat.add_comm K]

set_option maxHeartbeats 1000000 in
theorem length_pow (v : Value) (K : Nat) (hK : K ≤ 20) (w : World) (hv : Nm w v (N.B ^ K)) :
    Calls Try.prog 121 #[v] w fun e w' => e = .returned (.int .i64 ((32 * K + 1 : Nat) : Int)) ∧ w = w' := by
  obtain ⟨hm, A, cap, rfl, _, hcell⟩ := hv.open_
  obtain ⟨bx, ox, rfl, hc⟩ := hcell (by rw [N.ln_pow]; omega)
  have c0 := hc K (by rw [N.ln_pow]; omega)
  rw [N.wd_pow] at c0
  rw [N.ln_pow] at hm ⊢
  obtain ⟨L, hL⟩ : ∃ L, L = K + 1 := ⟨_, rfl⟩
  rw [← hL]
  have nL : ((L : Int) == 0) = false := by simp; omega
  have eL : (L : Int) - 1 = (K : Int) := by omega
  have i0 : (0 : Int) ≤ (K : Int) := by omega
  have i1 : (K : Int) < (L : Int) := by omega
  have c1 : w.cell? ⟨bx, ox + K, none⟩ = some (.int .u32 1) := c0
  have i2 : K < L := by omega
  clear hv hcell hc hL hm c0
  go_enter Try.func121, Try.ntmps121
  go_wp2
  go_loop [3, 4] (fun n t => (n = .int .i64 0 ∧ t = .int .u32 1) ∨ (n = .int .i64 1 ∧ t = .int .u32 0)) (fun _ t => (intOf t).toNat)
  case atStart => exact .inl ⟨rfl, rfl⟩
  case round =>
    rcases hrel with ⟨rfl, rfl⟩ | ⟨rfl, rfl⟩
    · go_wp2
      go_round
      case rel => exact .inr ⟨rfl, rfl⟩
      case measure => decide
    · go_wp2
      go_ret
      exact ⟨W.ret1 (W.i64 (by omega)), rfl⟩
end Go.Proofs.Ytkmcniaaecijdaa
