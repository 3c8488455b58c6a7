/- A text's tokens, plain: how the step is met. No condition. -/
import Derived.Test.YtkmcniaaecijdaaKA
import Derived.Lib.Bytealg
import Derived.Lib.Strings
namespace Go.Proofs.Ytkmcniaaecijdaa
open Go.RowKit
set_option linter.unusedVariables false
set_option linter.unusedSimpArgs false
set_option maxRecDepth 100000
namespace Tk
def nl (x : Nat) : Bool := x != 10
theorem u8_ne {b : UInt8} : (b == 10) = !nl b.toNat := by
  unfold nl
  rw [Bool.eq_iff_iff]
  simp only [beq_iff_eq, Bool.not_eq_true', bne_eq_false_iff_eq]
  constructor
  · rintro rfl; rfl
  · intro h; exact UInt8.toNat_inj.1 h
/-- The library's way to a line's end. -/
theorem ib_run : ∀ l : List UInt8, Lib.indexByte l 10 = if run nl l = l.length then -1 else (run nl l : Int)
  | [] => rfl
  | b :: l => by
    have hle := run_le nl l
    unfold Lib.indexByte run
    rw [u8_ne, ib_run l]
    cases h : nl b.toNat with
    | false => simp
    | true =>
      simp only [Bool.not_true, Bool.false_eq_true, if_false, if_true, List.length_cons]
      by_cases hl : run nl l = l.length
      · simp [hl]
      · have e1 : ((run nl l : Int) == -1) = false := by simp
        rw [if_neg hl, e1, if_neg Bool.false_ne_true, if_neg (show ¬ run nl l + 1 = l.length + 1 by omega)]
        omega
theorem drop_cons (L : List UInt8) (a : Nat) (h : a < L.length) : L.drop a = L[a] :: L.drop (a + 1) := List.drop_eq_getElem_cons h
theorem head_drop (L : List UInt8) (a : Nat) : (L.drop a).head? = L[a]? := by rw [List.head?_drop]
/-- Is a remark there? -/
theorem hit_remark (c : UInt8) (r : List UInt8) : Lib.hasPrefix (c :: r) [47, 47] = decide (c.toNat = 47 ∧ r.head? = some 47) := by
  unfold Lib.hasPrefix
  have e : (47 == c) = decide (c.toNat = 47) := by
    rw [Bool.eq_iff_iff]; simp only [beq_iff_eq, decide_eq_true_eq]
    constructor
    · rintro rfl; rfl
    · intro h; exact (UInt8.toNat_inj.1 h).symm
  cases r with
  | nil => simp [List.isPrefixOf]
  | cons d r =>
    simp only [List.isPrefixOf, Bool.and_true, e, List.head?_cons]
    rw [Bool.eq_iff_iff]; simp only [Bool.and_eq_true, decide_eq_true_eq, beq_iff_eq, Option.some.injEq]
    constructor
    · rintro ⟨h1, rfl⟩; exact ⟨h1, rfl⟩
    · rintro ⟨h1, rfl⟩; exact ⟨h1, rfl⟩
theorem step_blank (a : Nat) (c : UInt8) (r : List UInt8) (h : c.toNat = 32 ∨ c.toNat = 9 ∨ c.toNat = 10) : step a c r = .skip 1 := by unfold step; rw [if_pos h]
theorem step_remark (a : Nat) (c : UInt8) (r : List UInt8) (h : ¬ (c.toNat = 32 ∨ c.toNat = 9 ∨ c.toNat = 10)) (h2 : c.toNat = 47 ∧ r.head? = some 47) : step a c r = .skip (run nl (c :: r)) := by unfold step; rw [if_neg h, if_pos h2]; rfl
theorem step_name (a : Nat) (c : UInt8) (r : List UInt8) (h : isL c.toNat = true) : step a c r = .tok ⟨1, (c :: r).take (run isW (c :: r)), 0, 0, false, a⟩ (run isW (c :: r)) := by
  have h1 : ¬ (c.toNat = 32 ∨ c.toNat = 9 ∨ c.toNat = 10) := by
    unfold isL at h; simp only [Bool.or_eq_true, decide_eq_true_eq] at h; omega
  have h2 : ¬ (c.toNat = 47 ∧ r.head? = some 47) := by
    unfold isL at h; simp only [Bool.or_eq_true, decide_eq_true_eq] at h; omega
  unfold step; rw [if_neg h1, if_neg h2, if_pos h]
theorem step_num (a : Nat) (c : UInt8) (r : List UInt8) (h : isD c.toNat = true) (v : Nat) (hv : v = val 0 ((c :: r).take (run isD (c :: r)))) (u : Bool) (hu : ((c :: r)[run isD (c :: r)]? == some 117) = u) (b : Int) (s : Bool) (z : Int) (hl : lit v u = (b, s, z)) :
    step a c r = if 18446744073709551616 ≤ v then .err 3 else if z ≠ 0 then .err z else .tok ⟨2, (c :: r).take (run isD (c :: r)), v, b, s, a⟩ (run isD (c :: r) + if u then 1 else 0) := by
  have hc : 48 ≤ c.toNat ∧ c.toNat ≤ 57 := by unfold isD at h; simpa using h
  have h0 : isL c.toNat = false := by
    unfold isL; simp only [Bool.or_eq_false_iff, decide_eq_false_iff_not]; omega
  unfold step
  rw [if_neg (by omega), if_neg (by omega), h0, if_neg (by decide), if_pos h, hu, ← hv, hl]
theorem step_sign (a : Nat) (c : UInt8) (r : List UInt8) (h : ¬ (c.toNat = 32 ∨ c.toNat = 9 ∨ c.toNat = 10)) (h2 : ¬ (c.toNat = 47 ∧ r.head? = some 47)) (h3 : isL c.toNat = false) (h4 : isD c.toNat = false) :
    step a c r = if sgn (c :: r) = 0 then .err 2 else .tok ⟨3, (c :: r).take (sgn (c :: r)), 0, 0, false, a⟩ (sgn (c :: r)) := by
  unfold step
  rw [if_neg h, if_neg h2, h3, if_neg (by decide), h4, if_neg (by decide)]
end Tk
end Go.Proofs.Ytkmcniaaecijdaa
