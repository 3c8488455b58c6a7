/- Plain facts on numbers as words of 32 bits. No condition. -/
import Derived.Test.YtgpjhbaehhjdhaaSl
namespace Go.Proofs.Ytgpjhbaehhjdhaa
open Go.RowKit
set_option linter.unusedVariables false
namespace N

/-- The base, as a letter. -/
def B : Nat := 4294967296
theorem B_eq : B = 4294967296 := rfl
theorem B_pos : 0 < B := by decide
theorem B_pow : B = 2 ^ 32 := by decide
theorem Bk_pos (k : Nat) : 0 < B ^ k := Nat.pow_pos B_pos
/-- Word i of n. -/
def wd (n i : Nat) : Nat := n / B ^ i % B
theorem wd_lt (n i : Nat) : wd n i < 4294967296 := Nat.mod_lt _ B_pos
theorem wd_zero (n : Nat) : wd n 0 = n % B := by unfold wd; rw [Nat.pow_zero, Nat.div_one]
theorem div_succ (n i : Nat) : n / B ^ i = n / B ^ (i + 1) * B + wd n i := by
  unfold wd
  rw [Nat.pow_succ, ← Nat.div_div_eq_div_mul, Nat.div_add_mod']
theorem mod_succ (n i : Nat) : n % B ^ (i + 1) = n % B ^ i + wd n i * B ^ i := by
  unfold wd
  rw [Nat.pow_succ, Nat.mod_mul, Nat.mul_comm]
theorem wd_high {n i k : Nat} (h : n < B ^ k) (hk : k ≤ i) : wd n i = 0 := by
  unfold wd
  rw [Nat.div_eq_of_lt (Nat.lt_of_lt_of_le h (Nat.pow_le_pow_right B_pos hk)), Nat.zero_mod]
theorem wd_mod {n i k : Nat} (h : i < k) : wd (n % B ^ k) i = wd n i := by
  unfold wd
  obtain ⟨d, rfl⟩ : ∃ d, k = i + 1 + d := ⟨k - i - 1, by omega⟩
  rw [Nat.pow_add, Nat.pow_succ, Nat.mul_assoc, Nat.mod_mul_right_div_self, Nat.mod_mul_right_mod]
/-- Its lowest L words, as whole numbers. -/
def lv (n L : Nat) : List Int := (List.range L).map fun i => ((wd n i : Nat) : Int)
theorem lv_length (n L : Nat) : (lv n L).length = L := by simp [lv]
theorem lv_get {n L i : Nat} (h : i < L) : (lv n L)[i]? = some ((wd n i : Nat) : Int) := by simp [lv, h]
theorem lv_getD {n L i : Nat} (h : i < L) : (lv n L).getD i 0 = ((wd n i : Nat) : Int) := by
  rw [List.getD_eq_getElem?_getD, lv_get h]; rfl
theorem lv_take {n L k : Nat} (h : k ≤ L) : (lv n L).take k = lv n k := by
  apply List.ext_getElem?
  intro i
  rw [List.getElem?_take]
  split
  · rw [lv_get (by omega), lv_get (by omega)]
  · rw [List.getElem?_eq_none (by rw [lv_length]; omega)]
theorem lv_congr {n m L : Nat} (h : ∀ i, i < L → wd n i = wd m i) : lv n L = lv m L := by
  unfold lv
  apply List.map_congr_left
  intro i hi
  rw [h i (by simpa using hi)]
theorem lv_mod (n L : Nat) : lv (n % B ^ L) L = lv n L := lv_congr fun i hi => wd_mod hi
theorem lv_zero (L : Nat) : lv 0 L = List.replicate L 0 := by
  apply List.ext_getElem?
  intro i
  by_cases h : i < L
  · rw [lv_get h]; simp [h, wd]
  · rw [List.getElem?_eq_none (by rw [lv_length]; omega), List.getElem?_eq_none (by simp; omega)]

/-- A number in parts: above, at, and below a word. -/
theorem parts (n k : Nat) : n = n / B ^ (k + 1) * B ^ (k + 1) + wd n k * B ^ k + n % B ^ k := by
  have h1 := Nat.div_add_mod' n (B ^ (k + 1))
  rw [mod_succ] at h1
  omega
theorem wd_parts (hi x lo k : Nat) (hx : x < B) (hlo : lo < B ^ k) (i : Nat) :
    wd (hi * B ^ (k + 1) + x * B ^ k + lo) i = if i < k then wd lo i else if i = k then x else wd hi (i - (k + 1)) := by
  have e : hi * B ^ (k + 1) + x * B ^ k + lo = lo + B ^ k * (x + B * hi) := by
    rw [Nat.pow_succ, Nat.mul_add, Nat.mul_comm (B ^ k) x, show hi * (B ^ k * B) = B ^ k * (B * hi) from by rw [Nat.mul_left_comm, Nat.mul_comm hi B]]; omega
  rw [e]
  split
  · rename_i h
    rw [← wd_mod h, Nat.add_mul_mod_self_left, wd_mod h]
  split
  · rename_i h1 h2
    subst h2
    unfold wd
    rw [Nat.add_mul_div_left _ _ (Bk_pos i), Nat.div_eq_of_lt hlo, Nat.zero_add, Nat.add_mul_mod_self_left, Nat.mod_eq_of_lt hx]
  · rename_i h1 h2
    unfold wd
    obtain ⟨d, rfl⟩ : ∃ d, i = k + (1 + d) := ⟨i - (k + 1), by omega⟩
    rw [Nat.pow_add, ← Nat.div_div_eq_div_mul, Nat.add_mul_div_left _ _ (Bk_pos k), Nat.div_eq_of_lt hlo, Nat.zero_add, Nat.pow_add, Nat.pow_one, ← Nat.div_div_eq_div_mul, Nat.add_mul_div_left _ _ B_pos, Nat.div_eq_of_lt hx, Nat.zero_add,
      show k + (1 + d) - (k + 1) = d from by omega]
/-- Word k put in. -/
theorem lv_set {n k L x : Nat} (hx : x < B) (hk : k < L) : (lv n L).set k (x : Int) = lv (n - wd n k * B ^ k + x * B ^ k) L := by
  have e1 := parts n k
  have e2 : n - wd n k * B ^ k + x * B ^ k = n / B ^ (k + 1) * B ^ (k + 1) + x * B ^ k + n % B ^ k := by
    have h : ∀ N A W g X : Nat, N = A + W + g → N - W + X = A + X + g := by intros; omega
    exact h _ _ _ _ _ e1
  rw [e2]
  apply List.ext_getElem?
  intro i
  by_cases h : i < L
  · rw [lv_get h, wd_parts _ _ _ _ hx (Nat.mod_lt _ (Bk_pos k))]
    rw [List.getElem?_set]
    by_cases h2 : k = i
    · subst h2; simp [lv_length, hk]
    · rw [if_neg h2, lv_get h]
      congr 2
      conv => lhs; rw [e1]
      rw [wd_parts _ _ _ _ (show wd n k < B from wd_lt n k) (Nat.mod_lt _ (Bk_pos k))]
      by_cases h3 : i < k
      · rw [if_pos h3, if_pos h3]
      · rw [if_neg h3, if_neg h3, if_neg (Ne.symm h2), if_neg (Ne.symm h2)]
  · rw [List.getElem?_eq_none (by rw [List.length_set, lv_length]; omega), List.getElem?_eq_none (by rw [lv_length]; omega)]
theorem lv_put {n k L x : Nat} (h0 : wd n k = 0) (hx : x < B) (hk : k < L) : (lv n L).set k (x : Int) = lv (n + x * B ^ k) L := by
  rw [lv_set hx hk, h0, Nat.zero_mul, Nat.sub_zero]

/-- How many words a number has. -/
def ln (n : Nat) : Nat := if n = 0 then 0 else Nat.log2 n / 32 + 1
theorem ln_zero : ln 0 = 0 := rfl
theorem Bk (k : Nat) : B ^ k = 2 ^ (32 * k) := by rw [B_pow, ← Nat.pow_mul]
theorem lt_ln (n : Nat) : n < B ^ ln n := by
  unfold ln
  split
  · rename_i h; subst h; decide
  · rename_i h
    rw [Bk]
    refine Nat.lt_of_lt_of_le Nat.lt_log2_self (Nat.pow_le_pow_right (by decide) ?_)
    have := Nat.div_add_mod (Nat.log2 n) 32
    have := Nat.mod_lt (Nat.log2 n) (show 0 < 32 by decide)
    omega
theorem ln_pos {n : Nat} (h : n ≠ 0) : 0 < ln n := by unfold ln; rw [if_neg h]; omega
theorem ln_top {n : Nat} (h : n ≠ 0) : B ^ (ln n - 1) ≤ n := by
  unfold ln
  rw [if_neg h, Bk]
  refine Nat.le_trans (Nat.pow_le_pow_right (by decide) ?_) (Nat.log2_self_le h)
  have := Nat.div_add_mod (Nat.log2 n) 32
  omega
theorem ln_le {n k : Nat} (h : n < B ^ k) : ln n ≤ k := by
  rcases Nat.lt_or_ge k (ln n) with h' | h'
  · exfalso
    have hn : n ≠ 0 := by intro e; subst e; rw [ln_zero] at h'; omega
    have := ln_top hn
    have := Nat.pow_le_pow_right B_pos (show k ≤ ln n - 1 by omega)
    omega
  · exact h'
theorem ln_of {n k : Nat} (h : n < B ^ k) (h0 : k = 0 ∨ wd n (k - 1) ≠ 0) : ln n = k := by
  refine Nat.le_antisymm (ln_le h) ?_
  rcases h0 with h0 | h0
  · omega
  · rcases Nat.lt_or_ge (ln n) k with h' | h'
    · exact absurd (wd_high (lt_ln n) (show ln n ≤ k - 1 by omega)) h0
    · exact h'
theorem lt_of_ln {a b : Nat} (h : ln a < ln b) : a < b := by
  have hb : b ≠ 0 := by intro e; subst e; rw [ln_zero] at h; omega
  have h1 := lt_ln a
  have h2 := ln_top hb
  have := Nat.pow_le_pow_right B_pos (show ln a ≤ ln b - 1 by omega)
  omega
theorem ln_mono {a b : Nat} (h : a ≤ b) : ln a ≤ ln b := ln_le (Nat.lt_of_le_of_lt h (lt_ln b))
theorem wd_top {n : Nat} (h : n ≠ 0) : wd n (ln n - 1) ≠ 0 := by
  intro e
  have h1 := ln_top h
  have h2 := lt_ln n
  have h3 := ln_pos h
  have h4 := mod_succ n (ln n - 1)
  rw [show ln n - 1 + 1 = ln n from by omega, Nat.mod_eq_of_lt h2, e, Nat.zero_mul, Nat.add_zero] at h4
  have := Nat.mod_lt n (Bk_pos (ln n - 1))
  omega
/-- Comparing from above. -/
theorem cmp_step {a b i : Nat} (h : a / B ^ (i + 1) = b / B ^ (i + 1)) (hw : wd a i < wd b i) : a < b := by
  have h1 := div_succ a i
  have h2 := div_succ b i
  have h3 : a / B ^ i < b / B ^ i := by rw [h1, h2, h]; omega
  rcases Nat.lt_or_ge a b with h' | h'
  · exact h'
  · have := Nat.div_le_div_right (c := B ^ i) h'; omega
theorem cmp_same {a b i : Nat} (h : a / B ^ (i + 1) = b / B ^ (i + 1)) (hw : wd a i = wd b i) : a / B ^ i = b / B ^ i := by
  rw [div_succ a i, div_succ b i, h, hw]

/-- Adding: the carry behind k words. -/
def cy (a b k : Nat) : Nat := (a % B ^ k + b % B ^ k) / B ^ k
theorem cy_zero (a b : Nat) : cy a b 0 = 0 := by simp [cy, Nat.mod_one]
theorem cy_le (a b k : Nat) : cy a b k ≤ 1 := by
  unfold cy
  have h1 := Nat.mod_lt a (Bk_pos k); have h2 := Nat.mod_lt b (Bk_pos k)
  have : (a % B ^ k + b % B ^ k) / B ^ k < 2 := by rw [Nat.div_lt_iff_lt_mul (Bk_pos k)]; omega
  omega
theorem add_mod_cy (a b k : Nat) : a % B ^ k + b % B ^ k = (a + b) % B ^ k + cy a b k * B ^ k := by
  unfold cy
  rw [Nat.add_mod a b, Nat.mul_comm, Nat.mod_add_div]
theorem add_step (a b k : Nat) : (wd a k + wd b k + cy a b k) % B = wd (a + b) k ∧ (wd a k + wd b k + cy a b k) / B = cy a b (k + 1) := by
  have h1 := add_mod_cy a b k
  have h2 := add_mod_cy a b (k + 1)
  rw [mod_succ, mod_succ, mod_succ] at h2
  have hw := wd_lt (a + b) k
  have key : (wd a k + wd b k + cy a b k) = wd (a + b) k + B * cy a b (k + 1) := by
    have e : B ^ (k + 1) = B ^ k * B := Nat.pow_succ _ _
    have h3 : B ^ k * (wd a k + wd b k + cy a b k) = B ^ k * (wd (a + b) k + B * cy a b (k + 1)) := by
      rw [Nat.mul_add, Nat.mul_add, Nat.mul_add, ← Nat.mul_assoc]
      rw [e] at h2
      have c1 := Nat.mul_comm (wd a k) (B ^ k); have c2 := Nat.mul_comm (wd b k) (B ^ k); have c3 := Nat.mul_comm (wd (a + b) k) (B ^ k); have c4 := Nat.mul_comm (cy a b k) (B ^ k); have c5 := Nat.mul_comm (cy a b (k + 1)) (B ^ k * B)
      omega
    exact Nat.eq_of_mul_eq_mul_left (Bk_pos k) h3
  rw [key]
  refine ⟨?_, ?_⟩
  · rw [Nat.add_mul_mod_self_left]; exact Nat.mod_eq_of_lt hw
  · rw [Nat.add_mul_div_left _ _ B_pos, Nat.div_eq_of_lt (show wd (a + b) k < B from hw), Nat.zero_add]
theorem add_end {a b L : Nat} (ha : a < B ^ L) (hb : b < B ^ L) : a + b = (a + b) % B ^ L + cy a b L * B ^ L := by
  rw [← add_mod_cy, Nat.mod_eq_of_lt ha, Nat.mod_eq_of_lt hb]

/-- Taking away: the borrow behind k words. -/
def bw (a b k : Nat) : Nat := if a % B ^ k < b % B ^ k then 1 else 0
theorem bw_zero (a b : Nat) : bw a b 0 = 0 := by simp [bw, Nat.mod_one]
theorem bw_le (a b k : Nat) : bw a b k ≤ 1 := by unfold bw; split <;> omega
theorem sub_mod_bw {a b : Nat} (h : b ≤ a) (k : Nat) : a % B ^ k + bw a b k * B ^ k = (a - b) % B ^ k + b % B ^ k := by
  have h1 := add_mod_cy (a - b) b k
  rw [Nat.sub_add_cancel h] at h1
  have h2 := cy_le (a - b) b k
  have ha := Nat.mod_lt a (Bk_pos k); have hb := Nat.mod_lt b (Bk_pos k); have hc := Nat.mod_lt (a - b) (Bk_pos k)
  unfold bw
  generalize a % B ^ k = p at *; generalize b % B ^ k = q at *; generalize (a - b) % B ^ k = r at *; generalize B ^ k = m at *
  rcases (show cy (a - b) b k = 0 ∨ cy (a - b) b k = 1 by omega) with e | e <;> rw [e] at h1
  · rw [if_neg (by omega)]; omega
  · rw [if_pos (by omega)]; omega
theorem sub_step {a b : Nat} (h : b ≤ a) (k : Nat) : wd a k + bw a b (k + 1) * B = wd (a - b) k + wd b k + bw a b k := by
  have h1 := sub_mod_bw h k
  have h2 := sub_mod_bw h (k + 1)
  rw [mod_succ, mod_succ, mod_succ] at h2
  have e : B ^ (k + 1) = B ^ k * B := Nat.pow_succ _ _
  have h3 : B ^ k * (wd a k + bw a b (k + 1) * B) = B ^ k * (wd (a - b) k + wd b k + bw a b k) := by
    rw [Nat.mul_add, Nat.mul_add, Nat.mul_add]
    rw [e] at h2
    have c1 := Nat.mul_comm (wd a k) (B ^ k); have c2 := Nat.mul_comm (wd b k) (B ^ k); have c3 := Nat.mul_comm (wd (a - b) k) (B ^ k); have c4 := Nat.mul_comm (bw a b k) (B ^ k)
    have c5 : bw a b (k + 1) * (B ^ k * B) = B ^ k * (bw a b (k + 1) * B) := by rw [← Nat.mul_assoc, Nat.mul_comm (bw a b (k + 1)), Nat.mul_assoc]
    omega
  exact Nat.eq_of_mul_eq_mul_left (Bk_pos k) h3
end N
end Go.Proofs.Ytgpjhbaehhjdhaa
