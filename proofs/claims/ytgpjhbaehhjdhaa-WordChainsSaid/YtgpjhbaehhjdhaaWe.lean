/- The plain law of carry chains: words added or taken away one by one are the words of the wide sum and difference, and the flags tell the order. No condition. -/
import Derived.Test.YtgpjhbaehhjdhaaW8
namespace Go.Proofs.Ytgpjhbaehhjdhaa
open Go.RowKit
set_option linter.unusedSimpArgs false
set_option linter.unusedVariables false
set_option maxRecDepth 100000
theorem W.emod_split (x a b : Int) (ha : 0 < a) : x % a + a * (x / a % b) = x % (a * b) := by
  have e1 := Int.emod_add_mul_ediv x a
  have e2 := Int.emod_add_mul_ediv (x / a) b
  have e3 := Int.emod_add_mul_ediv x (a * b)
  have e4 : x / a / b = x / (a * b) := by rw [Int.ediv_ediv, if_neg (by omega), Int.sub_zero]
  rw [e4] at e2
  have e5 : a * (x / a) = a * (x / a % b) + a * b * (x / (a * b)) := by
    rw [Int.mul_assoc, ← Int.mul_add, e2]
  omega
namespace W

theorem pw_pos (k : Nat) : (0 : Int) < 65536 ^ k := Int.pow_pos (by decide)
theorem split_getD (n k : Nat) (X : Int) (h : k < n) : (split n X).getD k 0 = dn k X % 65536 := by
  induction n with
  | zero => omega
  | succ n ih =>
    rw [split, List.getD_eq_getElem?_getD]
    by_cases hk : k < n
    · rw [List.getElem?_append_left (by rw [split_len]; exact hk), ← List.getD_eq_getElem?_getD]; exact ih hk
    · obtain rfl : k = n := by omega
      rw [List.getElem?_append_right (by rw [split_len]; exact Nat.le_refl _), split_len]; simp
theorem div_add' (X Y P : Int) (hP : 0 < P) : (X + Y) / P = X / P + Y / P + (if P ≤ X % P + Y % P then 1 else 0) := by
  have e1 := Int.emod_add_mul_ediv X P; have e2 := Int.emod_add_mul_ediv Y P
  have a0 := Int.emod_nonneg X (show P ≠ 0 by omega); have a1 := Int.emod_lt_of_pos X hP
  have b0 := Int.emod_nonneg Y (show P ≠ 0 by omega); have b1 := Int.emod_lt_of_pos Y hP
  by_cases h : P ≤ X % P + Y % P
  · rw [if_pos h]
    refine ((Int.ediv_emod_unique hP (a := X + Y) (r := X % P + Y % P - P) (q := X / P + Y / P + 1)).2 ⟨?_, by omega, by omega⟩).1
    rw [Int.mul_add, Int.mul_add, Int.mul_one]; omega
  · rw [if_neg h]
    refine ((Int.ediv_emod_unique hP (a := X + Y) (r := X % P + Y % P) (q := X / P + Y / P + 0)).2 ⟨?_, by omega, by omega⟩).1
    rw [Int.mul_add, Int.mul_add, Int.mul_zero]; omega
theorem div_sub' (X Y P : Int) (hP : 0 < P) : (X - Y) / P = X / P - Y / P - (if X % P < Y % P then 1 else 0) := by
  have e1 := Int.emod_add_mul_ediv X P; have e2 := Int.emod_add_mul_ediv Y P
  have a0 := Int.emod_nonneg X (show P ≠ 0 by omega); have a1 := Int.emod_lt_of_pos X hP
  have b0 := Int.emod_nonneg Y (show P ≠ 0 by omega); have b1 := Int.emod_lt_of_pos Y hP
  by_cases h : X % P < Y % P
  · rw [if_pos h]
    refine ((Int.ediv_emod_unique hP (a := X - Y) (r := X % P - Y % P + P) (q := X / P - Y / P - 1)).2 ⟨?_, by omega, by omega⟩).1
    rw [Int.mul_sub, Int.mul_sub, Int.mul_one]; omega
  · rw [if_neg h]
    refine ((Int.ediv_emod_unique hP (a := X - Y) (r := X % P - Y % P) (q := X / P - Y / P - 0)).2 ⟨?_, by omega, by omega⟩).1
    rw [Int.mul_sub, Int.mul_sub, Int.mul_zero]; omega
theorem scale_le (P m t r : Int) (hP : 0 < P) (h0 : 0 ≤ r) (h1 : r < P) : (P * m ≤ P * t + r) ↔ m ≤ t := by
  constructor
  · intro h
    by_cases hm : m ≤ t
    · exact hm
    · have : P * (t + 1) ≤ P * m := Int.mul_le_mul_of_nonneg_left (by omega) (by omega)
      rw [Int.mul_add, Int.mul_one] at this; omega
  · intro h
    have := Int.mul_le_mul_of_nonneg_left h (show 0 ≤ P by omega); omega
theorem scale_lt (P t r : Int) (hP : 0 < P) (h0 : 0 ≤ r) (h1 : r < P) : (P * t + r < 0) ↔ t < 0 := by
  have h := scale_le P 0 t r hP h0 h1
  rw [Int.mul_zero] at h
  omega

theorem add_carry (n : Nat) (X Y : Int) : ∀ k, k ≤ n → cC addS (split n X) (split n Y) k = decide (65536 ^ k ≤ X % 65536 ^ k + Y % 65536 ^ k) := by
  intro k
  induction k with
  | zero => intro _; simp [cC, Int.emod_one]
  | succ k ih =>
    intro h
    have hP := pw_pos k
    rw [cC, ih (by omega), split_getD n k X (by omega), split_getD n k Y (by omega)]
    show sC _ _ _ = _
    unfold sC cy
    rw [Int.pow_succ, ← emod_split X _ 65536 hP, ← emod_split Y _ 65536 hP]
    show _ = decide (_ ≤ X % 65536 ^ k + 65536 ^ k * (dn k X % 65536) + (Y % 65536 ^ k + 65536 ^ k * (dn k Y % 65536)))
    generalize dn k X = x; generalize dn k Y = y
    have a0 := Int.emod_nonneg X (show (65536 : Int) ^ k ≠ 0 by omega); have a1 := Int.emod_lt_of_pos X hP
    have b0 := Int.emod_nonneg Y (show (65536 : Int) ^ k ≠ 0 by omega); have b1 := Int.emod_lt_of_pos Y hP
    generalize X % 65536 ^ k = A at *; generalize Y % 65536 ^ k = B at *
    generalize (65536 : Int) ^ k = P at *
    rw [decide_eq_decide, Int.emod_emod, Int.emod_emod]
    by_cases hc : P ≤ A + B
    · simp only [hc, decide_true, if_true]
      have := scale_le P 65536 (x % 65536 + y % 65536 + 1) (A + B - P) hP (by omega) (by omega)
      rw [Int.mul_add, Int.mul_add, Int.mul_one] at this
      omega
    · simp only [hc, decide_false, Bool.false_eq_true, if_false]
      have := scale_le P 65536 (x % 65536 + y % 65536 + 0) (A + B) hP (by omega) (by omega)
      rw [Int.mul_add, Int.mul_add, Int.mul_zero] at this
      omega
theorem sub_carry (n : Nat) (X Y : Int) : ∀ k, k ≤ n → cC subS (split n X) (split n Y) k = decide (X % 65536 ^ k < Y % 65536 ^ k) := by
  intro k
  induction k with
  | zero => intro _; simp [cC, Int.emod_one]
  | succ k ih =>
    intro h
    have hP := pw_pos k
    rw [cC, ih (by omega), split_getD n k X (by omega), split_getD n k Y (by omega)]
    show dC _ _ _ = _
    unfold dC cy
    rw [Int.pow_succ, ← emod_split X _ 65536 hP, ← emod_split Y _ 65536 hP]
    show _ = decide (X % 65536 ^ k + 65536 ^ k * (dn k X % 65536) < Y % 65536 ^ k + 65536 ^ k * (dn k Y % 65536))
    generalize dn k X = x; generalize dn k Y = y
    have a0 := Int.emod_nonneg X (show (65536 : Int) ^ k ≠ 0 by omega); have a1 := Int.emod_lt_of_pos X hP
    have b0 := Int.emod_nonneg Y (show (65536 : Int) ^ k ≠ 0 by omega); have b1 := Int.emod_lt_of_pos Y hP
    generalize X % 65536 ^ k = A at *; generalize Y % 65536 ^ k = B at *
    generalize (65536 : Int) ^ k = P at *
    rw [decide_eq_decide, Int.emod_emod, Int.emod_emod]
    by_cases hc : A < B
    · simp only [hc, decide_true, if_true]
      have := scale_lt P (x % 65536 - y % 65536 - 1) (A - B + P) hP (by omega) (by omega)
      rw [Int.mul_sub, Int.mul_sub, Int.mul_one] at this
      omega
    · simp only [hc, decide_false, Bool.false_eq_true, if_false]
      have := scale_lt P (x % 65536 - y % 65536 - 0) (A - B) hP (by omega) (by omega)
      rw [Int.mul_sub, Int.mul_sub, Int.mul_zero] at this
      omega
theorem add_word (n k : Nat) (X Y : Int) (h : k < n) : cR addS (split n X) (split n Y) k = dn k (X + Y) % 65536 := by
  unfold cR
  rw [add_carry n X Y k (by omega), split_getD n k X h, split_getD n k Y h]
  show sR _ _ _ = _
  unfold sR cy dn
  rw [div_add' X Y _ (pw_pos k)]
  by_cases hc : 65536 ^ k ≤ X % 65536 ^ k + Y % 65536 ^ k
  · simp only [hc, decide_true, if_true]; omega
  · simp only [hc, decide_false, Bool.false_eq_true, if_false]; omega
theorem sub_word (n k : Nat) (X Y : Int) (h : k < n) : cR subS (split n X) (split n Y) k = dn k (X - Y) % 65536 := by
  unfold cR
  rw [sub_carry n X Y k (by omega), split_getD n k X h, split_getD n k Y h]
  show dR _ _ _ = _
  unfold dR cy dn
  rw [div_sub' X Y _ (pw_pos k)]
  by_cases hc : X % 65536 ^ k < Y % 65536 ^ k
  · simp only [hc, decide_true, if_true]; omega
  · simp only [hc, decide_false, Bool.false_eq_true, if_false]; omega
theorem add_out (n : Nat) (X Y : Int) : ∀ k, k ≤ n → cO addS (split n X) (split n Y) k = split k (X + Y) := by
  intro k
  induction k with
  | zero => intro _; rfl
  | succ k ih => intro h; rw [cO, split, ih (by omega), add_word n k X Y (by omega)]
theorem sub_out (n : Nat) (X Y : Int) : ∀ k, k ≤ n → cO subS (split n X) (split n Y) k = split k (X - Y) := by
  intro k
  induction k with
  | zero => intro _; rfl
  | succ k ih => intro h; rw [cO, split, ih (by omega), sub_word n k X Y (by omega)]
theorem zero_step (Z : Int) (k : Nat) : (Z % 65536 ^ (k + 1) = 0) ↔ (Z % 65536 ^ k = 0 ∧ dn k Z % 65536 = 0) := by
  have hP := pw_pos k
  rw [Int.pow_succ, ← emod_split Z _ 65536 hP]
  show (Z % 65536 ^ k + 65536 ^ k * (dn k Z % 65536) = 0) ↔ _
  have a0 := Int.emod_nonneg Z (show (65536 : Int) ^ k ≠ 0 by omega)
  generalize Z % 65536 ^ k = A at *; generalize dn k Z = z
  generalize (65536 : Int) ^ k = P at *
  have : 0 ≤ P * (z % 65536) := Int.mul_nonneg (by omega) (by omega)
  constructor
  · intro h
    have h1 : P * (z % 65536) = 0 := by omega
    rcases Int.mul_eq_zero.1 h1 with h2 | h2
    · omega
    · exact ⟨by omega, h2⟩
  · rintro ⟨h1, h2⟩; rw [h2, Int.mul_zero]; omega
theorem add_zero' (n : Nat) (X Y : Int) : ∀ k, k ≤ n → cZ addS (split n X) (split n Y) k = decide ((X + Y) % 65536 ^ k = 0) := by
  intro k
  induction k with
  | zero => intro _; simp [cZ, Int.emod_one]
  | succ k ih =>
    intro h
    rw [cZ, ih (by omega), add_word n k X Y (by omega)]
    unfold fZ
    rw [← Bool.decide_and, decide_eq_decide]; exact (zero_step _ k).symm
theorem sub_zero' (n : Nat) (X Y : Int) : ∀ k, k ≤ n → cZ subS (split n X) (split n Y) k = decide ((X - Y) % 65536 ^ k = 0) := by
  intro k
  induction k with
  | zero => intro _; simp [cZ, Int.emod_one]
  | succ k ih =>
    intro h
    rw [cZ, ih (by omega), sub_word n k X Y (by omega)]
    unfold fZ
    rw [← Bool.decide_and, decide_eq_decide]; exact (zero_step _ k).symm
/-- The sign lies just where there is overflow. -/
theorem sign_lies (x y : Int) (c : Bool) (hx : 0 ≤ x ∧ x < 65536) (hy : 0 ≤ y ∧ y < 65536) : (fN (dR x y c) != dV x y c) = decide (view x - view y - cy c < 0) := by
  have hc := cy_bd c
  have hr := dR_bd x y c
  have hR : dR x y c = x - y - cy c ∨ dR x y c = x - y - cy c + 65536 := by unfold dR; omega
  unfold dV fN
  generalize dR x y c = r at *
  rw [Int.emod_eq_of_lt hx.1 hx.2, Int.emod_eq_of_lt hy.1 hy.2]
  generalize cy c = k at *
  rw [Bool.eq_iff_iff, bne_iff_ne, decide_eq_true_eq, ne_eq, decide_eq_decide]
  unfold view
  split <;> split <;> split <;> omega
/-- A number with a sign, by its highest word. -/
theorem sg_top (m : Nat) (w X : Int) (hw : md w = 65536 ^ (m + 1)) (h0 : 0 ≤ X) (h1 : X < md w) : sg w X = 65536 ^ m * view (dn m X % 65536) + X % 65536 ^ m := by
  have hP := pw_pos m
  have e := emod_split X (65536 ^ m) 65536 hP
  rw [← Int.pow_succ, ← hw, Int.emod_eq_of_lt h0 h1] at e
  have a0 := Int.emod_nonneg X (show (65536 : Int) ^ m ≠ 0 by omega); have a1 := Int.emod_lt_of_pos X hP
  unfold sg
  rw [Int.emod_eq_of_lt h0 h1]
  change X % 65536 ^ m + 65536 ^ m * (dn m X % 65536) = X at e
  have hd : 0 ≤ dn m X % 65536 ∧ dn m X % 65536 < 65536 := by omega
  rw [hw, Int.pow_succ] at h1 ⊢
  generalize dn m X % 65536 = d at *
  generalize X % 65536 ^ m = r at *
  generalize (65536 : Int) ^ m = P at *
  have s1 := scale_le P 32768 d r hP a0 a1
  unfold view
  by_cases h : 32768 ≤ d
  · rw [if_pos h, if_neg (by have := s1.2 h; omega), Int.mul_sub]; omega
  · rw [if_neg h, if_pos (by have : ¬ (P * 32768 ≤ P * d + r) := fun k => h (s1.1 k); omega)]; omega
theorem sub_less (m : Nat) (w X Y : Int) (hw : md w = 65536 ^ (m + 1)) (hx : 0 ≤ X ∧ X < md w) (hy : 0 ≤ Y ∧ Y < md w) :
    (cN subS (split (m + 1) X) (split (m + 1) Y) (m + 1) != cV subS (split (m + 1) X) (split (m + 1) Y) (m + 1)) = decide (sg w X < sg w Y) := by
  have hP := pw_pos m
  rw [cN, cV]
  unfold cR
  rw [sub_carry (m + 1) X Y m (by omega), split_getD (m + 1) m X (by omega), split_getD (m + 1) m Y (by omega)]
  show (fN (dR _ _ _) != dV _ _ _) = _
  rw [sign_lies _ _ _ (by omega) (by omega), sg_top m w X hw hx.1 hx.2, sg_top m w Y hw hy.1 hy.2, decide_eq_decide]
  have a0 := Int.emod_nonneg X (show (65536 : Int) ^ m ≠ 0 by omega); have a1 := Int.emod_lt_of_pos X hP
  have b0 := Int.emod_nonneg Y (show (65536 : Int) ^ m ≠ 0 by omega); have b1 := Int.emod_lt_of_pos Y hP
  generalize view (dn m X % 65536) = x; generalize view (dn m Y % 65536) = y
  generalize X % 65536 ^ m = A at *; generalize Y % 65536 ^ m = B at *
  generalize (65536 : Int) ^ m = P at *
  unfold cy
  by_cases hc : A < B
  · simp only [hc, decide_true, if_true]
    have := scale_lt P (x - y - 1) (A - B + P) hP (by omega) (by omega)
    rw [Int.mul_sub, Int.mul_sub, Int.mul_one] at this
    omega
  · simp only [hc, decide_false, Bool.false_eq_true, if_false]
    have := scale_lt P (x - y - 0) (A - B) hP (by omega) (by omega)
    rw [Int.mul_sub, Int.mul_sub, Int.mul_zero] at this
    omega
end W
end Go.Proofs.Ytgpjhbaehhjdhaa
