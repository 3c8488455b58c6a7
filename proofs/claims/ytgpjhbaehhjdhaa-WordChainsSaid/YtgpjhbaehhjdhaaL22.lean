/- The plain law of chains of words: they tell what the numbers' sum and difference tell, with all flags. No condition but that the lists are as long as they are. -/
import Derived.Test.YtgpjhbaehhjdhaaWe
import Derived.Test.YtgpjhbaehhjdhaaN32
namespace Go.Proofs.Ytgpjhbaehhjdhaa
namespace W
set_option linter.unusedVariables false

theorem p16 (m : Nat) : (2 : Int) ^ (16 * m) = 65536 ^ m := by rw [Int.pow_mul]; rfl
theorem p16s (m : Nat) : (2 : Int) ^ (16 * (m + 1)) = 65536 ^ m * 65536 := by rw [p16, Int.pow_succ]
theorem p16p (m : Nat) : (2 : Int) ^ (16 * (m + 1) - 1) = 65536 ^ m * 32768 := by
  rw [show 16 * (m + 1) - 1 = 16 * m + 15 by omega, Int.pow_add, p16]; rfl

theorem split_mod' (k : Nat) (x y : Int) (h : x % 65536 ^ k = y % 65536 ^ k) : W.split k x = W.split k y := by
  induction k with
  | zero => rfl
  | succ k ih =>
    have hP := W.pw_pos k
    have ex := W.emod_split x _ 65536 hP; have ey := W.emod_split y _ 65536 hP
    rw [← Int.pow_succ] at ex ey
    change x % 65536 ^ k + 65536 ^ k * (x / 65536 ^ k % 65536) = x % 65536 ^ (k + 1) at ex
    change y % 65536 ^ k + 65536 ^ k * (y / 65536 ^ k % 65536) = y % 65536 ^ (k + 1) at ey
    have h1 : x % 65536 ^ k = y % 65536 ^ k := by
      have d : (65536 : Int) ^ k ∣ 65536 ^ (k + 1) := ⟨65536, Int.pow_succ _ _⟩
      rw [← Int.emod_emod_of_dvd x d, ← Int.emod_emod_of_dvd y d, h]
    have h2 : x / 65536 ^ k % 65536 = y / 65536 ^ k % 65536 := by
      have : 65536 ^ k * (x / 65536 ^ k % 65536) = 65536 ^ k * (y / 65536 ^ k % 65536) := by omega
      exact Int.eq_of_mul_eq_mul_left (by omega) this
    rw [W.split, W.split, ih h1]
    show _ ++ [x / 65536 ^ k % 65536] = _ ++ [y / 65536 ^ k % 65536]
    rw [h2]
theorem split_join_fine (xs : List Int) (h : ∀ x ∈ xs, fine x) : split xs.length (join xs) = xs := by
  have key : ∀ (k : Nat) (xs : List Int), xs.length = k → (∀ x ∈ xs, fine x) → split k (join xs) = xs := by
    intro k
    induction k with
    | zero => intro xs hl _; rw [List.eq_nil_of_length_eq_zero hl]; rfl
    | succ k ih =>
      intro xs hl hf
      obtain ⟨ys, y, rfl⟩ : ∃ ys y, xs = ys ++ [y] := by
        rcases List.eq_nil_or_concat xs with h | ⟨ys, y, h⟩
        · subst h; simp at hl
        · exact ⟨ys, y, by simpa using h⟩
      have hlk : ys.length = k := by simp at hl; exact hl
      have hys : ∀ x ∈ ys, fine x := fun x hx => hf x (by simp [hx])
      have hy : fine y := hf y (by simp)
      have hb := join_bd ys hys
      rw [hlk] at hb
      rw [join_snoc, hlk]
      show split k _ ++ [dn k _ % 65536] = _
      rw [split_mod' k (join ys + y * 65536 ^ k) (join ys) (Int.add_mul_emod_self_right ..), ih ys hlk hys]
      unfold dn
      rw [Int.add_mul_ediv_right _ _ (by have := pw_pos k; omega), Int.ediv_eq_zero_of_lt hb.1 hb.2, Int.zero_add]
      have := hy.1; have := hy.2
      rw [Int.emod_eq_of_lt (by omega) (by omega)]
  exact key _ xs rfl h
theorem low_fine (xs : List Int) : ∀ x ∈ xs.map (· % 65536), fine x := by
  intro x hx
  obtain ⟨y, _, rfl⟩ := List.mem_map.1 hx
  unfold fine; omega
theorem split_number (xs : List Int) : split xs.length (number xs) = xs.map (· % 65536) := by
  have := split_join_fine (xs.map (· % 65536)) (low_fine xs)
  rwa [List.length_map] at this
theorem number_lt (xs : List Int) : 0 ≤ number xs ∧ number xs < 65536 ^ xs.length := by
  have := join_bd (xs.map (· % 65536)) (low_fine xs)
  rwa [List.length_map] at this

/-- Steps look at the low bits alone. -/
structure Low (f : Step) : Prop where
  R : ∀ x y c, f.R (x % 65536) (y % 65536) c = f.R x y c
  C : ∀ x y c, f.C (x % 65536) (y % 65536) c = f.C x y c
  V : ∀ x y c, f.V (x % 65536) (y % 65536) c = f.V x y c
theorem low_add : Low addS := ⟨fun x y c => by show sR _ _ _ = sR _ _ _; unfold sR; simp only [Int.emod_emod], fun x y c => by show sC _ _ _ = sC _ _ _; unfold sC; simp only [Int.emod_emod], fun x y c => by show sV _ _ _ = sV _ _ _; unfold sV sR; simp only [Int.emod_emod]⟩
theorem low_sub : Low subS := ⟨fun x y c => by show dR _ _ _ = dR _ _ _; unfold dR; simp only [Int.emod_emod], fun x y c => by show dC _ _ _ = dC _ _ _; unfold dC; simp only [Int.emod_emod], fun x y c => by show dV _ _ _ = dV _ _ _; unfold dV dR; simp only [Int.emod_emod]⟩
theorem getD_low (xs : List Int) (k : Nat) : (xs.map (· % 65536)).getD k 0 = xs.getD k 0 % 65536 := by
  simp only [List.getD_eq_getElem?_getD, List.getElem?_map]
  cases xs[k]? <;> simp
section
variable {f : Step} (h : Low f) (xs ys : List Int)
include h
theorem cC_low (k : Nat) : cC f (xs.map (· % 65536)) (ys.map (· % 65536)) k = cC f xs ys k := by
  induction k with
  | zero => rfl
  | succ k ih => rw [cC, cC, ih, getD_low, getD_low, h.C]
theorem cR_low (k : Nat) : cR f (xs.map (· % 65536)) (ys.map (· % 65536)) k = cR f xs ys k := by
  unfold cR; rw [cC_low h, getD_low, getD_low, h.R]
theorem cV_low (k : Nat) : cV f (xs.map (· % 65536)) (ys.map (· % 65536)) k = cV f xs ys k := by
  cases k with
  | zero => rfl
  | succ k => rw [cV, cV, cC_low h, getD_low, getD_low, h.V]
theorem cN_low (k : Nat) : cN f (xs.map (· % 65536)) (ys.map (· % 65536)) k = cN f xs ys k := by
  cases k with
  | zero => rfl
  | succ k => rw [cN, cN, cR_low h]
theorem cZ_low (k : Nat) : cZ f (xs.map (· % 65536)) (ys.map (· % 65536)) k = cZ f xs ys k := by
  induction k with
  | zero => rfl
  | succ k ih => rw [cZ, cZ, ih, cR_low h]
theorem cO_low (k : Nat) : cO f (xs.map (· % 65536)) (ys.map (· % 65536)) k = cO f xs ys k := by
  induction k with
  | zero => rfl
  | succ k ih => rw [cO, cO, ih, cR_low h]
end

/-- A number with a sign, by its highest word. -/
theorem sgn_top (m : Nat) (X : Int) (h0 : 0 ≤ X) (h1 : X < 65536 ^ (m + 1)) : sgn (16 * (m + 1)) X = 65536 ^ m * view (dn m X % 65536) + X % 65536 ^ m := by
  have hP := pw_pos m
  have e := emod_split X (65536 ^ m) 65536 hP
  rw [← Int.pow_succ, Int.emod_eq_of_lt h0 h1] at e
  have a0 := Int.emod_nonneg X (show (65536 : Int) ^ m ≠ 0 by omega); have a1 := Int.emod_lt_of_pos X hP
  unfold sgn
  rw [p16s, p16p]
  change X % 65536 ^ m + 65536 ^ m * (dn m X % 65536) = X at e
  have hd : 0 ≤ dn m X % 65536 ∧ dn m X % 65536 < 65536 := by omega
  generalize dn m X % 65536 = d at *
  generalize X % 65536 ^ m = r at *
  rw [Int.pow_succ] at h1
  generalize (65536 : Int) ^ m = P at *
  have s1 := scale_le P 32768 d r hP a0 a1
  unfold view
  by_cases h : 32768 ≤ d
  · rw [if_pos h, if_pos (by have := s1.2 h; omega), Int.mul_sub]; omega
  · rw [if_neg h, if_neg (by have : ¬ (P * 32768 ≤ P * d + r) := fun k => h (s1.1 k); omega)]; omega
/-- The highest bit, by the highest word. -/
theorem top_bit16 (m : Nat) (Z : Int) : decide (2 ^ (16 * (m + 1) - 1) ≤ Z % 65536 ^ (m + 1)) = fN (dn m Z % 65536) := by
  have hP := pw_pos m
  have e := emod_split Z (65536 ^ m) 65536 hP
  rw [← Int.pow_succ] at e
  change Z % 65536 ^ m + 65536 ^ m * (dn m Z % 65536) = Z % 65536 ^ (m + 1) at e
  have a0 := Int.emod_nonneg Z (show (65536 : Int) ^ m ≠ 0 by omega); have a1 := Int.emod_lt_of_pos Z hP
  unfold fN
  rw [p16p, ← e, decide_eq_decide, Int.add_comm]
  exact scale_le _ 32768 _ _ hP a0 a1
theorem sgn_mod (m : Nat) (Z : Int) : sgn (16 * (m + 1)) (Z % 65536 ^ (m + 1)) = 65536 ^ m * view (dn m Z % 65536) + Z % 65536 ^ m := by
  have hP := pw_pos m; have hQ := pw_pos (m + 1)
  have a0 := Int.emod_nonneg Z (show (65536 : Int) ^ (m + 1) ≠ 0 by omega); have a1 := Int.emod_lt_of_pos Z hQ
  rw [sgn_top m _ a0 a1]
  have e := emod_split Z (65536 ^ m) 65536 hP
  rw [← Int.pow_succ] at e
  have r0 := Int.emod_nonneg Z (show (65536 : Int) ^ m ≠ 0 by omega); have r1 := Int.emod_lt_of_pos Z hP
  have e1 : Z % 65536 ^ (m + 1) % 65536 ^ m = Z % 65536 ^ m := by
    rw [← e, Int.add_mul_emod_self_left, Int.emod_emod]
  have e2 : dn m (Z % 65536 ^ (m + 1)) % 65536 = dn m Z % 65536 := by
    unfold dn
    rw [← e, Int.add_mul_ediv_left _ _ (by omega : (65536 : Int) ^ m ≠ 0), Int.ediv_eq_zero_of_lt r0 r1, Int.zero_add, Int.emod_emod]
  rw [e1, e2]
/-- What is carried, as a number. -/
theorem add_rest (P A B : Int) (hP : 0 < P) (a0 : 0 ≤ A) (a1 : A < P) (b0 : 0 ≤ B) (b1 : B < P) : (A + B) % P = A + B - P * cy (decide (P ≤ A + B)) := by
  by_cases h : P ≤ A + B
  · simp only [h, decide_true, cy, if_true, Int.mul_one]
    rw [← Int.sub_emod_right (A + B) P]; exact Int.emod_eq_of_lt (by omega) (by omega)
  · simp only [h, decide_false, cy, Bool.false_eq_true, if_false, Int.mul_zero, Int.sub_zero]
    exact Int.emod_eq_of_lt (by omega) (by omega)
theorem sub_rest (P A B : Int) (hP : 0 < P) (a0 : 0 ≤ A) (a1 : A < P) (b0 : 0 ≤ B) (b1 : B < P) : (A - B) % P = A - B + P * cy (decide (A < B)) := by
  by_cases h : A < B
  · simp only [h, decide_true, cy, if_true, Int.mul_one]
    rw [← Int.add_emod_right (A - B) P]; exact Int.emod_eq_of_lt (by omega) (by omega)
  · simp only [h, decide_false, cy, Bool.false_eq_true, if_false, Int.mul_zero, Int.add_zero]
    exact Int.emod_eq_of_lt (by omega) (by omega)
theorem mul_zero_iff {P t : Int} (hP : 0 < P) : P * t = 0 ↔ t = 0 := by
  constructor
  · intro h; rcases Int.mul_eq_zero.1 h with h | h <;> omega
  · rintro rfl; simp

section
variable (m : Nat) (xs ys : List Int) (hx : xs.length = m + 1) (hy : ys.length = m + 1)
include hx hy
theorem chain_add : cC addS xs ys (m + 1) = (decide (number xs + number ys < 0) || decide (2 ^ (16 * (m + 1)) ≤ number xs + number ys)) ∧
    cZ addS xs ys (m + 1) = ((number xs + number ys) % 65536 ^ (m + 1) == 0) ∧ cN addS xs ys (m + 1) = decide (2 ^ (16 * (m + 1) - 1) ≤ (number xs + number ys) % 65536 ^ (m + 1)) ∧
    cV addS xs ys (m + 1) = decide (sgn (16 * (m + 1)) ((number xs + number ys) % 65536 ^ (m + 1)) ≠ sgn (16 * (m + 1)) (number xs) + sgn (16 * (m + 1)) (number ys)) ∧
    cO addS xs ys (m + 1) = split (m + 1) ((number xs + number ys) % 65536 ^ (m + 1)) := by
  have bx := number_lt xs; have byy := number_lt ys
  rw [hx] at bx; rw [hy] at byy
  have sx := split_number xs; have sy := split_number ys
  rw [hx] at sx; rw [hy] at sy
  have hP := pw_pos m
  generalize number xs = X at *; generalize number ys = Y at *
  rw [← cC_low low_add, ← cZ_low low_add, ← cN_low low_add, ← cV_low low_add, ← cO_low low_add, ← sx, ← sy]
  refine ⟨?_, ?_, ?_, ?_, ?_⟩
  · rw [add_carry (m + 1) X Y _ (Nat.le_refl _), Int.emod_eq_of_lt bx.1 bx.2, Int.emod_eq_of_lt byy.1 byy.2, p16]
    rw [show decide (X + Y < 0) = false from decide_eq_false (by omega), Bool.false_or]
  · rw [add_zero' (m + 1) X Y _ (Nat.le_refl _), Bool.eq_iff_iff]; simp
  · rw [cN, add_word (m + 1) m X Y (by omega), top_bit16]
  · have e0 := sgn_top m X bx.1 bx.2; have e1 := sgn_top m Y byy.1 byy.2; have e2 := sgn_mod m (X + Y)
    have hc := add_carry (m + 1) X Y m (by omega)
    have hw := add_word (m + 1) m X Y (by omega)
    unfold cR at hw
    rw [hc, split_getD _ _ _ (by omega), split_getD _ _ _ (by omega)] at hw
    rw [cV, hc, split_getD _ _ _ (by omega), split_getD _ _ _ (by omega)]
    show sV _ _ _ = _
    change sR _ _ _ = _ at hw
    unfold sV
    rw [hw, e0, e1, e2, Int.emod_emod, Int.emod_emod]
    have a0 := Int.emod_nonneg X (show (65536 : Int) ^ m ≠ 0 by omega); have a1 := Int.emod_lt_of_pos X hP
    have b0 := Int.emod_nonneg Y (show (65536 : Int) ^ m ≠ 0 by omega); have b1 := Int.emod_lt_of_pos Y hP
    have e3 : (X + Y) % 65536 ^ m = X % 65536 ^ m + Y % 65536 ^ m - 65536 ^ m * cy (decide (65536 ^ m ≤ X % 65536 ^ m + Y % 65536 ^ m)) := by
      rw [Int.add_emod]; exact add_rest _ _ _ hP a0 a1 b0 b1
    rw [e3]
    generalize view (dn m (X + Y) % 65536) = vz; generalize view (dn m X % 65536) = vx; generalize view (dn m Y % 65536) = vy
    generalize cy (decide (65536 ^ m ≤ X % 65536 ^ m + Y % 65536 ^ m)) = c
    generalize X % 65536 ^ m = A at *; generalize Y % 65536 ^ m = B at *
    generalize (65536 : Int) ^ m = P at *
    have hk := mul_zero_iff (t := vz - (vx + vy + c)) hP
    rw [Int.mul_sub, Int.mul_add, Int.mul_add] at hk
    rw [decide_eq_decide]
    omega
  · rw [add_out (m + 1) X Y _ (Nat.le_refl _)]
    exact split_mod' _ _ _ (by rw [Int.emod_emod])
theorem chain_sub : cC subS xs ys (m + 1) = (decide (number xs - number ys < 0) || decide (2 ^ (16 * (m + 1)) ≤ number xs - number ys)) ∧
    cZ subS xs ys (m + 1) = ((number xs - number ys) % 65536 ^ (m + 1) == 0) ∧ cN subS xs ys (m + 1) = decide (2 ^ (16 * (m + 1) - 1) ≤ (number xs - number ys) % 65536 ^ (m + 1)) ∧
    cV subS xs ys (m + 1) = decide (sgn (16 * (m + 1)) ((number xs - number ys) % 65536 ^ (m + 1)) ≠ sgn (16 * (m + 1)) (number xs) - sgn (16 * (m + 1)) (number ys)) ∧
    cO subS xs ys (m + 1) = split (m + 1) ((number xs - number ys) % 65536 ^ (m + 1)) := by
  have bx := number_lt xs; have byy := number_lt ys
  rw [hx] at bx; rw [hy] at byy
  have sx := split_number xs; have sy := split_number ys
  rw [hx] at sx; rw [hy] at sy
  have hP := pw_pos m
  generalize number xs = X at *; generalize number ys = Y at *
  rw [← cC_low low_sub, ← cZ_low low_sub, ← cN_low low_sub, ← cV_low low_sub, ← cO_low low_sub, ← sx, ← sy]
  refine ⟨?_, ?_, ?_, ?_, ?_⟩
  · rw [sub_carry (m + 1) X Y _ (Nat.le_refl _), Int.emod_eq_of_lt bx.1 bx.2, Int.emod_eq_of_lt byy.1 byy.2, p16]
    rw [show decide (65536 ^ (m + 1) ≤ X - Y) = false from decide_eq_false (by omega), Bool.or_false, decide_eq_decide]; omega
  · rw [sub_zero' (m + 1) X Y _ (Nat.le_refl _), Bool.eq_iff_iff]; simp
  · rw [cN, sub_word (m + 1) m X Y (by omega), top_bit16]
  · have e0 := sgn_top m X bx.1 bx.2; have e1 := sgn_top m Y byy.1 byy.2; have e2 := sgn_mod m (X - Y)
    have hc := sub_carry (m + 1) X Y m (by omega)
    have hw := sub_word (m + 1) m X Y (by omega)
    unfold cR at hw
    rw [hc, split_getD _ _ _ (by omega), split_getD _ _ _ (by omega)] at hw
    rw [cV, hc, split_getD _ _ _ (by omega), split_getD _ _ _ (by omega)]
    show dV _ _ _ = _
    change dR _ _ _ = _ at hw
    unfold dV
    rw [hw, e0, e1, e2, Int.emod_emod, Int.emod_emod]
    have a0 := Int.emod_nonneg X (show (65536 : Int) ^ m ≠ 0 by omega); have a1 := Int.emod_lt_of_pos X hP
    have b0 := Int.emod_nonneg Y (show (65536 : Int) ^ m ≠ 0 by omega); have b1 := Int.emod_lt_of_pos Y hP
    have e3 : (X - Y) % 65536 ^ m = X % 65536 ^ m - Y % 65536 ^ m + 65536 ^ m * cy (decide (X % 65536 ^ m < Y % 65536 ^ m)) := by
      rw [Int.sub_emod]; exact sub_rest _ _ _ hP a0 a1 b0 b1
    rw [e3]
    generalize view (dn m (X - Y) % 65536) = vz; generalize view (dn m X % 65536) = vx; generalize view (dn m Y % 65536) = vy
    generalize cy (decide (X % 65536 ^ m < Y % 65536 ^ m)) = c
    generalize X % 65536 ^ m = A at *; generalize Y % 65536 ^ m = B at *
    generalize (65536 : Int) ^ m = P at *
    have hk := mul_zero_iff (t := vz - (vx - vy - c)) hP
    rw [Int.mul_sub, Int.mul_sub, Int.mul_sub] at hk
    rw [decide_eq_decide]
    omega
  · rw [sub_out (m + 1) X Y _ (Nat.le_refl _)]
    exact split_mod' _ _ _ (by rw [Int.emod_emod])
end
end W
end Go.Proofs.Ytgpjhbaehhjdhaa
