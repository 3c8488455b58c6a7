/- A text's tokens, plain: what comes at a place. No condition. -/
import Derived.Test.YtkmcniaaecijdaaB0
import Derived.Deep.Cut
import Derived.LoopTactic
import Derived.Lib.SlicesS
import Derived.Lib.Strings
import Derived.Lib.Slices
import Derived.Lib.Walk
import Derived.Lib.Bytealg
namespace Go.Proofs.Ytkmcniaaecijdaa
open Go.RowKit
set_option linter.unusedVariables false
set_option linter.unusedSimpArgs false
set_option maxRecDepth 100000
namespace Tk
def isL (c : Nat) : Bool := decide (97 ≤ c ∧ c ≤ 122) || decide (65 ≤ c ∧ c ≤ 90) || decide (c = 95)
def isD (c : Nat) : Bool := decide (48 ≤ c ∧ c ≤ 57)
def isW (c : Nat) : Bool := isL c || isD c
/-- How many at the beginning are such. -/
def run (p : Nat → Bool) : List UInt8 → Nat
  | [] => 0
  | c :: r => if p c.toNat then run p r + 1 else 0
theorem run_le (p : Nat → Bool) : ∀ l : List UInt8, run p l ≤ l.length
  | [] => Nat.le_refl _
  | c :: r => by unfold run; have := run_le p r; simp only [List.length_cons]; split <;> omega
/-- Those ahead are such. -/
theorem runs_at (p : Nat → Bool) : ∀ (l : List UInt8) (j : Nat), j < run p l → ∃ c, l[j]? = some c ∧ p c.toNat = true
  | [], j, h => absurd h (Nat.not_lt_zero _)
  | c :: r, j, h => by
    unfold run at h
    split at h
    · rename_i hp
      cases j with
      | zero => exact ⟨c, rfl, hp⟩
      | succ j => exact runs_at p r j (by omega)
    · omega
/-- The one behind is not. -/
theorem run_out (p : Nat → Bool) : ∀ (l : List UInt8) (c : UInt8), l[run p l]? = some c → p c.toNat = false
  | [], c, h => by simp at h
  | d :: r, c, h => by
    unfold run at h
    split at h
    · exact run_out p r c (by simpa using h)
    · rename_i hp
      simp at h; subst h; simpa using hp
theorem run_is (p : Nat → Bool) (l : List UInt8) (k : Nat) (hk : k ≤ l.length) (h1 : ∀ j, j < k → ∃ c, l[j]? = some c ∧ p c.toNat = true) (h2 : ∀ c, l[k]? = some c → p c.toNat = false) : run p l = k := by
  rcases Nat.lt_trichotomy (run p l) k with h | h | h
  · obtain ⟨c, hc, hp⟩ := h1 _ h
    rw [run_out p l c hc] at hp; cases hp
  · exact h
  · obtain ⟨c, hc, hp⟩ := runs_at p l k h
    rw [h2 c hc] at hp; cases hp
/-- What digits say. -/
def val : Nat → List UInt8 → Nat
  | n, [] => n
  | n, c :: r => val (10 * n + (c.toNat - 48)) r
theorem val_ge : ∀ (l : List UInt8) (n : Nat), n ≤ val n l
  | [], n => Nat.le_refl _
  | c :: r, n => Nat.le_trans (by omega) (val_ge r _)
theorem val_mono : ∀ (l : List UInt8) (n m : Nat), n ≤ m → val n l ≤ val m l
  | [], n, m, h => h
  | c :: r, n, m, h => val_mono r _ _ (by omega)
theorem val_snoc : ∀ (l : List UInt8) (n : Nat) (c : UInt8), val n (l ++ [c]) = 10 * val n l + (c.toNat - 48)
  | [], n, c => rfl
  | d :: r, n, c => val_snoc r _ c
theorem val_take (l : List UInt8) (k : Nat) (c : UInt8) (h : l[k]? = some c) : val 0 (l.take (k + 1)) = 10 * val 0 (l.take k) + (c.toNat - 48) := by
  have hk : k < l.length := (List.getElem?_eq_some_iff.1 h).1
  rw [List.take_add_one, h]; exact val_snoc _ _ _
theorem val_le_all (l : List UInt8) (k m : Nat) (h : k ≤ m) : val 0 (l.take k) ≤ val 0 (l.take m) := by
  induction m with
  | zero => obtain rfl : k = 0 := by omega
            exact Nat.le_refl _
  | succ m ih =>
    rcases Nat.lt_or_ge k (m + 1) with h1 | h1
    · refine Nat.le_trans (ih (by omega)) ?_
      rcases hc : l[m]? with _ | c
      · rw [List.take_add_one, hc]; simp
      · rw [val_take l m c hc]; omega
    · obtain rfl : k = m + 1 := by omega
      exact Nat.le_refl _
/-- A token. -/
structure Tok where
  kind : Int
  text : List UInt8
  n : Int
  bits : Int
  sg : Bool
  pos : Nat
inductive Stp
  | skip (k : Nat)
  | tok (t : Tok) (k : Nat)
  | err (e : Int)
/-- The program's list: two bytes first. -/
def sgL : List (List UInt8) := [[60, 60], [62, 62], [60, 61], [62, 61], [61, 61], [33, 61], [38, 38], [124, 124], [43], [45], [42], [47], [37], [38], [124], [94], [126], [33], [60], [62], [61], [40], [41], [123], [125], [91], [93], [44], [59]]
def hit (p l : List UInt8) : Bool := p.isPrefixOf l
/-- How long the sign is that stands ahead (0: none does). -/
def sgn (l : List UInt8) : Nat := if (sgL.take 8).any (fun p => hit p l) = true then 2 else if (sgL.drop 8).any (fun p => hit p l) = true then 1 else 0
theorem any_of {l : List (List UInt8)} {f : List UInt8 → Bool} (k : Nat) (hk : k < l.length) (h : f (l.getD k []) = true) : l.any f = true := by
  rw [List.any_eq_true]
  exact ⟨l[k], List.getElem_mem _, by rw [List.getD_eq_getElem?_getD, List.getElem?_eq_getElem hk] at h; exact h⟩
theorem any_is {l : List (List UInt8)} {f : List UInt8 → Bool} (h : l.any f = true) : ∃ k, k < l.length ∧ f (l.getD k []) = true := by
  rw [List.any_eq_true] at h
  obtain ⟨x, hx, hf⟩ := h
  obtain ⟨k, hk, rfl⟩ := List.mem_iff_getElem.1 hx
  exact ⟨k, hk, by rw [List.getD_eq_getElem?_getD, List.getElem?_eq_getElem hk]; exact hf⟩
theorem any_no {l : List (List UInt8)} {f : List UInt8 → Bool} (h : ∀ k, k < l.length → f (l.getD k []) = false) : l.any f = false := by
  cases e : l.any f with
  | false => rfl
  | true => obtain ⟨k, hk, hf⟩ := any_is e; rw [h k hk] at hf; cases hf
theorem sg_len (k : Nat) (hk : k < 29) : (sgL.getD k []).length = if k < 8 then 2 else 1 := by
  have : ∀ k, k < 29 → (sgL.getD k []).length = if k < 8 then 2 else 1 := by decide
  exact this k hk
theorem getD_take8 (k : Nat) (hk : k < 8) : (sgL.take 8).getD k [] = sgL.getD k [] := by
  rw [List.getD_eq_getElem?_getD, List.getD_eq_getElem?_getD, List.getElem?_take_of_lt hk]
theorem getD_drop8 (k : Nat) : (sgL.drop 8).getD k [] = sgL.getD (8 + k) [] := by
  rw [List.getD_eq_getElem?_getD, List.getD_eq_getElem?_getD, List.getElem?_drop]
theorem hit_len {p l : List UInt8} (h : hit p l = true) : p.length ≤ l.length := (List.isPrefixOf_iff_prefix.1 h).length_le
theorem hit_take {p l : List UInt8} (h : hit p l = true) : l.take p.length = p := by
  obtain ⟨r, rfl⟩ := List.isPrefixOf_iff_prefix.1 h; simp
theorem sgn_le (l : List UInt8) : sgn l ≤ 2 ∧ sgn l ≤ l.length := by
  unfold sgn
  split
  · rename_i h
    obtain ⟨k, hk, hf⟩ := any_is h
    have hk8 : k < 8 := hk
    rw [getD_take8 k hk8] at hf
    have := hit_len hf
    rw [sg_len k (by omega), if_pos hk8] at this
    exact ⟨by omega, this⟩
  · split
    · rename_i h
      obtain ⟨k, hk, hf⟩ := any_is h
      have hk8 : k < 21 := hk
      rw [getD_drop8 k] at hf
      have := hit_len hf
      rw [sg_len (8 + k) (by omega), if_neg (by omega)] at this
      exact ⟨by omega, this⟩
    · exact ⟨by omega, by omega⟩
def lit (n : Int) (u : Bool) : Int × Bool × Int :=
  if u then (if n ≤ 65535 then (16, false, 0) else if n ≤ 4294967295 then (32, false, 0) else (64, false, 0))
  else (if n ≤ 32767 then (16, true, 0) else if n ≤ 2147483647 then (32, true, 0) else if n ≤ 9223372036854775807 then (64, true, 0) else (0, false, 3))
/-- What comes where c stands ahead of r, at a place. -/
def step (a : Nat) (c : UInt8) (r : List UInt8) : Stp :=
  if c.toNat = 32 ∨ c.toNat = 9 ∨ c.toNat = 10 then .skip 1
  else if c.toNat = 47 ∧ r.head? = some 47 then .skip (run (fun x => x != 10) (c :: r))
  else if isL c.toNat then .tok ⟨1, (c :: r).take (run isW (c :: r)), 0, 0, false, a⟩ (run isW (c :: r))
  else if isD c.toNat then
    (if 18446744073709551616 ≤ val 0 ((c :: r).take (run isD (c :: r))) then .err 3
     else if (lit (val 0 ((c :: r).take (run isD (c :: r)))) ((c :: r)[run isD (c :: r)]? == some 117)).2.2 ≠ 0 then .err (lit (val 0 ((c :: r).take (run isD (c :: r)))) ((c :: r)[run isD (c :: r)]? == some 117)).2.2
     else .tok ⟨2, (c :: r).take (run isD (c :: r)), val 0 ((c :: r).take (run isD (c :: r))), (lit (val 0 ((c :: r).take (run isD (c :: r)))) ((c :: r)[run isD (c :: r)]? == some 117)).1, (lit (val 0 ((c :: r).take (run isD (c :: r)))) ((c :: r)[run isD (c :: r)]? == some 117)).2.1, a⟩
       (run isD (c :: r) + if (c :: r)[run isD (c :: r)]? == some 117 then 1 else 0))
  else if sgn (c :: r) = 0 then .err 2 else .tok ⟨3, (c :: r).take (sgn (c :: r)), 0, 0, false, a⟩ (sgn (c :: r))
/-- All tokens from a place on: them, or what is wrong and where. -/
def all : Nat → Nat → List UInt8 → Except (Int × Nat) (List Tok)
  | 0, _, _ => .ok []
  | _ + 1, _, [] => .ok []
  | n + 1, a, c :: r => match step a c r with
    | .skip k => all n (a + k) ((c :: r).drop k)
    | .tok t k => match all n (a + k) ((c :: r).drop k) with
      | .ok l => .ok (t :: l)
      | .error e => .error e
    | .err e => .error (e, a)
end Tk
end Go.Proofs.Ytkmcniaaecijdaa
/- A sign that stands ahead: the first one of a list, and the longest one, are the same. No condition. -/
namespace Go.Proofs.Ytkmcniaaecijdaa
open Go.RowKit
set_option linter.unusedVariables false
set_option linter.unusedSimpArgs false
set_option maxRecDepth 100000
namespace Tk
/-- The document's list. -/
def dgL : List (List UInt8) := [[43], [45], [42], [47], [37], [38], [124], [94], [126], [33], [60], [62], [61], [40], [41], [123], [125], [91], [93], [44], [59], [60, 60], [62, 62], [60, 61], [62, 61], [61, 61], [33, 61], [38, 38], [124, 124]]
/-- The first one that stands ahead. -/
theorem first_hit (l : List UInt8) (k : Nat) (hk : k < 29) (h : ∀ j, j < k → hit (sgL.getD j []) l = false) (hh : hit (sgL.getD k []) l = true) : sgn l = (sgL.getD k []).length := by
  rw [sg_len k hk]
  unfold sgn
  rcases Nat.lt_or_ge k 8 with h8 | h8
  · rw [if_pos h8, any_of k (by exact h8) (by rw [getD_take8 k h8]; exact hh)]; rfl
  · rw [if_neg (show ¬ k < 8 by omega), any_no (fun j hj => by have hj8 : j < 8 := hj; rw [getD_take8 j hj8]; exact h j (by omega)), if_neg (by decide)]
    rw [any_of (k - 8) (by show _ < 21; omega) (by rw [getD_drop8, show 8 + (k - 8) = k by omega]; exact hh)]; rfl
theorem no_hit (l : List UInt8) (h : ∀ j, j < 29 → hit (sgL.getD j []) l = false) : sgn l = 0 := by
  unfold sgn
  rw [any_no (fun j hj => by have hj8 : j < 8 := hj; rw [getD_take8 j hj8]; exact h j (by omega)), if_neg (by decide), any_no (fun j hj => by have hj8 : j < 21 := hj; rw [getD_drop8]; exact h _ (by omega))]; rfl
/-- The longest one, of the first so many. -/
def best (l : List UInt8) : Nat → Nat
  | 0 => 0
  | k + 1 => if hit (dgL.getD k []) l = true ∧ best l k < (dgL.getD k []).length then (dgL.getD k []).length else best l k
theorem dg_sg (k : Nat) (hk : k < 29) : dgL.getD k [] = sgL.getD (if k < 21 then k + 8 else k - 21) [] := by
  have : ∀ k, k < 29 → dgL.getD k [] = sgL.getD (if k < 21 then k + 8 else k - 21) [] := by decide
  exact this k hk
theorem best_one (l : List UInt8) : ∀ k, k ≤ 21 → best l k = if (∃ j, j < k ∧ hit (sgL.getD (j + 8) []) l = true) then 1 else 0
  | 0, _ => by rw [if_neg (by rintro ⟨j, h, _⟩; omega)]; rfl
  | k + 1, hk => by
    have ih := best_one l k (by omega)
    unfold best
    rw [ih, dg_sg k (by omega), if_pos (show k < 21 by omega), sg_len (k + 8) (by omega), if_neg (show ¬ k + 8 < 8 by omega)]
    by_cases hh : hit (sgL.getD (k + 8) []) l = true
    · rw [if_pos (show ∃ j, j < k + 1 ∧ hit (sgL.getD (j + 8) []) l = true from ⟨k, by omega, hh⟩)]
      by_cases h2 : ∃ j, j < k ∧ hit (sgL.getD (j + 8) []) l = true
      · rw [if_pos h2, if_neg (by omega)]
      · rw [if_neg h2, if_pos ⟨hh, by omega⟩]
    · rw [if_neg (fun h => hh h.1)]
      by_cases h2 : ∃ j, j < k ∧ hit (sgL.getD (j + 8) []) l = true
      · rw [if_pos h2, if_pos (by obtain ⟨j, h3, h4⟩ := h2; exact ⟨j, by omega, h4⟩)]
      · rw [if_neg h2, if_neg (by rintro ⟨j, h3, h4⟩; exact (Nat.lt_or_ge j k).elim (fun h5 => h2 ⟨j, h5, h4⟩) (fun h5 => by obtain rfl : j = k := (by omega); exact hh h4))]
theorem best_two (l : List UInt8) : ∀ k, k ≤ 8 → best l (21 + k) = if (∃ j, j < k ∧ hit (sgL.getD j []) l = true) then 2 else best l 21
  | 0, _ => by rw [if_neg (by rintro ⟨j, h, _⟩; omega)]
  | k + 1, hk => by
    have ih := best_two l k (by omega)
    have h1 : best l 21 ≤ 1 := by rw [best_one l 21 (by omega)]; split <;> omega
    show (if hit (dgL.getD (21 + k) []) l = true ∧ best l (21 + k) < (dgL.getD (21 + k) []).length then (dgL.getD (21 + k) []).length else best l (21 + k)) = _
    rw [ih, dg_sg (21 + k) (by omega), if_neg (show ¬ 21 + k < 21 by omega), show 21 + k - 21 = k by omega, sg_len k (by omega), if_pos (show k < 8 by omega)]
    by_cases hh : hit (sgL.getD k []) l = true
    · rw [if_pos (show ∃ j, j < k + 1 ∧ hit (sgL.getD j []) l = true from ⟨k, by omega, hh⟩)]
      by_cases h2 : ∃ j, j < k ∧ hit (sgL.getD j []) l = true
      · rw [if_pos h2, if_neg (by omega)]
      · rw [if_neg h2, if_pos ⟨hh, by omega⟩]
    · rw [if_neg (fun h => hh h.1)]
      by_cases h2 : ∃ j, j < k ∧ hit (sgL.getD j []) l = true
      · rw [if_pos h2, if_pos (by obtain ⟨j, h3, h4⟩ := h2; exact ⟨j, by omega, h4⟩)]
      · rw [if_neg h2, if_neg (by rintro ⟨j, h3, h4⟩; exact (Nat.lt_or_ge j k).elim (fun h5 => h2 ⟨j, h5, h4⟩) (fun h5 => by obtain rfl : j = k := (by omega); exact hh h4))]
/-- Both find the same. -/
theorem best_all (l : List UInt8) : best l 29 = sgn l := by
  have e := best_two l 8 (by omega)
  rw [show 21 + 8 = 29 from rfl] at e
  rw [e, best_one l 21 (by omega)]
  by_cases h2 : ∃ j, j < 8 ∧ hit (sgL.getD j []) l = true
  · rw [if_pos h2]
    -- the first of them
    have : ∀ n, n ≤ 8 → (∃ j, j < n ∧ hit (sgL.getD j []) l = true) → sgn l = 2 := by
      intro n
      induction n with
      | zero => rintro _ ⟨j, h, _⟩; omega
      | succ n ih =>
        rintro hn ⟨j, hj, hh⟩
        by_cases h3 : ∃ j, j < n ∧ hit (sgL.getD j []) l = true
        · exact ih (by omega) h3
        · have hj2 : j = n := by
            rcases Nat.lt_or_ge j n with h5 | h5
            · exact absurd ⟨j, h5, hh⟩ h3
            · omega
          subst hj2
          rw [first_hit l j (by omega) (fun i hi => by cases hc : hit (sgL.getD i []) l with | false => rfl | true => exact absurd ⟨i, hi, hc⟩ h3) hh, sg_len j (by omega), if_pos (by omega)]
    exact (this 8 (Nat.le_refl _) h2).symm
  · rw [if_neg h2]
    have n2 : ∀ j, j < 8 → hit (sgL.getD j []) l = false := fun j hj => by cases hc : hit (sgL.getD j []) l with | false => rfl | true => exact absurd ⟨j, hj, hc⟩ h2
    have : ∀ n, n ≤ 21 → (∃ j, j < n ∧ hit (sgL.getD (j + 8) []) l = true) → sgn l = 1 := by
      intro n
      induction n with
      | zero => rintro _ ⟨j, h, _⟩; omega
      | succ n ih =>
        rintro hn ⟨j, hj, hh⟩
        by_cases h3 : ∃ j, j < n ∧ hit (sgL.getD (j + 8) []) l = true
        · exact ih (by omega) h3
        · have hj2 : j = n := by
            rcases Nat.lt_or_ge j n with h5 | h5
            · exact absurd ⟨j, h5, hh⟩ h3
            · omega
          subst hj2
          rw [first_hit l (j + 8) (by omega) (fun i hi => by
            rcases Nat.lt_or_ge i 8 with h8 | h8
            · exact n2 i h8
            · cases hc : hit (sgL.getD i []) l with
              | false => rfl
              | true => exact absurd ⟨i - 8, by omega, by rw [show i - 8 + 8 = i by omega]; exact hc⟩ h3) hh, sg_len (j + 8) (by omega), if_neg (by omega)]
    by_cases h1 : ∃ j, j < 21 ∧ hit (sgL.getD (j + 8) []) l = true
    · rw [if_pos h1, this 21 (Nat.le_refl _) h1]
    · rw [if_neg h1, no_hit l (fun i hi => by
        rcases Nat.lt_or_ge i 8 with h8 | h8
        · exact n2 i h8
        · cases hc : hit (sgL.getD i []) l with
          | false => rfl
          | true => exact absurd ⟨i - 8, by omega, by rw [show i - 8 + 8 = i by omega]; exact hc⟩ h1)]
end Tk
end Go.Proofs.Ytkmcniaaecijdaa

/- A text's tokens, plain: the way through a text. No condition. -/
namespace Go.Proofs.Ytkmcniaaecijdaa
open Go.RowKit
set_option linter.unusedVariables false
set_option linter.unusedSimpArgs false
set_option maxRecDepth 100000
namespace Tk
theorem run_pos (p : Nat → Bool) (c : UInt8) (r : List UInt8) (h : p c.toNat = true) : 1 ≤ run p (c :: r) := by
  unfold run; rw [if_pos h]; omega
theorem isL_W {c : Nat} (h : isL c = true) : isW c = true := by unfold isW; rw [h]; rfl
def Stp.long : Stp → Option Nat
  | .skip k => some k
  | .tok _ k => some k
  | .err _ => none
theorem digits_len (c : UInt8) (r : List UInt8) : run isD (c :: r) + (if (c :: r)[run isD (c :: r)]? == some 117 then 1 else 0) ≤ (c :: r).length := by
  have h := run_le isD (c :: r)
  split
  · rename_i hu
    have : run isD (c :: r) < (c :: r).length := by
      rcases Nat.lt_or_ge (run isD (c :: r)) (c :: r).length with h1 | h1
      · exact h1
      · rw [List.getElem?_eq_none h1] at hu; cases hu
    omega
  · omega
/-- Each step goes on, and not beyond the end. -/
theorem step_long (a : Nat) (c : UInt8) (r : List UInt8) (k : Nat) (h : (step a c r).long = some k) : 1 ≤ k ∧ k ≤ (c :: r).length := by
  have hl : (c :: r).length = r.length + 1 := rfl
  unfold step at h
  split at h
  · simp only [Stp.long, Option.some.injEq] at h; omega
  split at h
  · rename_i hc
    simp only [Stp.long, Option.some.injEq] at h; subst h
    exact ⟨run_pos _ c r (by rw [hc.1]; rfl), run_le _ _⟩
  split at h
  · rename_i hc
    simp only [Stp.long, Option.some.injEq] at h; subst h
    exact ⟨run_pos _ c r (isL_W hc), run_le _ _⟩
  split at h
  · rename_i hc
    split at h
    · cases h
    split at h
    · cases h
    · simp only [Stp.long, Option.some.injEq] at h; subst h
      have := run_pos _ c r hc
      exact ⟨by omega, digits_len c r⟩
  split at h
  · cases h
  · rename_i hc
    simp only [Stp.long, Option.some.injEq] at h; subst h
    exact ⟨by omega, (sgn_le _).2⟩
theorem all_fuel : ∀ (n m a : Nat) (l : List UInt8), l.length < n → l.length < m → all n a l = all m a l
  | 0, _, _, _, h, _ => absurd h (Nat.not_lt_zero _)
  | _ + 1, 0, _, _, _, h => absurd h (Nat.not_lt_zero _)
  | n + 1, m + 1, a, [], _, _ => rfl
  | n + 1, m + 1, a, c :: r, h, h' => by
    have hl : (c :: r).length = r.length + 1 := rfl
    show (match step a c r with | .skip k => all n (a + k) ((c :: r).drop k) | .tok t k => (match all n (a + k) ((c :: r).drop k) with | .ok l => .ok (t :: l) | .error e => .error e) | .err e => .error (e, a)) = (match step a c r with | .skip k => all m (a + k) ((c :: r).drop k) | .tok t k => (match all m (a + k) ((c :: r).drop k) with | .ok l => .ok (t :: l) | .error e => .error e) | .err e => .error (e, a) : Except (Int × Nat) (List Tok))
    cases hs : step a c r with
    | skip k =>
      have := step_long a c r k (by rw [hs]; rfl)
      exact all_fuel n m _ _ (by rw [List.length_drop]; omega) (by rw [List.length_drop]; omega)
    | tok t k =>
      have := step_long a c r k (by rw [hs]; rfl)
      show (match all n (a + k) ((c :: r).drop k) with | .ok l => .ok (t :: l) | .error e => .error e) = (match all m (a + k) ((c :: r).drop k) with | .ok l => .ok (t :: l) | .error e => .error e : Except (Int × Nat) (List Tok))
      rw [all_fuel n m (a + k) ((c :: r).drop k) (by rw [List.length_drop]; omega) (by rw [List.length_drop]; omega)]
    | err e => rfl
/-- The tokens from a place of a text on. -/
def frm (L : List UInt8) (a : Nat) : Except (Int × Nat) (List Tok) := all (L.length + 1) a (L.drop a)
def cons (t : Tok) : Except (Int × Nat) (List Tok) → Except (Int × Nat) (List Tok)
  | .ok l => .ok (t :: l)
  | .error e => .error e
def ahead (ts : List Tok) : Except (Int × Nat) (List Tok) → Except (Int × Nat) (List Tok)
  | .ok l => .ok (ts ++ l)
  | .error e => .error e
theorem ahead_nil (x : Except (Int × Nat) (List Tok)) : ahead [] x = x := by cases x <;> rfl
theorem ahead_cons (ts : List Tok) (t : Tok) (x : Except (Int × Nat) (List Tok)) : ahead ts (cons t x) = ahead (ts ++ [t]) x := by
  cases x with
  | ok l => show Except.ok (ts ++ (t :: l)) = .ok ((ts ++ [t]) ++ l); rw [List.append_assoc]; rfl
  | error e => rfl
theorem frm_end (L : List UInt8) (a : Nat) (h : L.length ≤ a) : frm L a = .ok [] := by
  unfold frm; rw [List.drop_of_length_le h]; rfl
theorem frm_step (L : List UInt8) (a : Nat) (c : UInt8) (r : List UInt8) (h : L.drop a = c :: r) : frm L a = match step a c r with
    | .skip k => frm L (a + k)
    | .tok t k => cons t (frm L (a + k))
    | .err e => .error (e, a) := by
  have hl : (c :: r).length = r.length + 1 := rfl
  have hd : (L.drop a).length = L.length - a := List.length_drop
  rw [h] at hd
  have e : frm L a = all (L.length + 1) a (c :: r) := by unfold frm; rw [h]
  have hx : ∀ k, 1 ≤ k → all L.length (a + k) ((c :: r).drop k) = frm L (a + k) := fun k hk => by
    unfold frm
    rw [← h, List.drop_drop]
    exact all_fuel _ _ _ _ (by rw [List.length_drop]; omega) (by rw [List.length_drop]; omega)
  rw [e]
  show (match step a c r with | .skip k => all L.length (a + k) ((c :: r).drop k) | .tok t k => (match all L.length (a + k) ((c :: r).drop k) with | .ok l => .ok (t :: l) | .error e => .error e) | .err e => .error (e, a) : Except (Int × Nat) (List Tok)) = _
  cases hs : step a c r with
  | skip k => exact hx k (step_long a c r k (by rw [hs]; rfl)).1
  | tok t k => show cons t (all L.length (a + k) ((c :: r).drop k)) = _; rw [hx k (step_long a c r k (by rw [hs]; rfl)).1]
  | err e => rfl
/-- Both ways to see that a number grows too large. -/
theorem much_prog (n d : Int) (hn : 0 ≤ n) (hd : 0 ≤ d ∧ d ≤ 9) : (n > (18446744073709551615 - d) / 10) ↔ 18446744073709551616 ≤ 10 * n + d := by omega
theorem much_doc (n d : Int) (hn : 0 ≤ n) (hd : 0 ≤ d ∧ d ≤ 9) : (n > 1844674407370955161 ∨ n = 1844674407370955161 ∧ d > 5) ↔ 18446744073709551616 ≤ 10 * n + d := by omega
/-- The language's words. -/
def words : List (List UInt8) := [[118, 111, 105, 100], [105, 102], [101, 108, 115, 101], [119, 104, 105, 108, 101], [102, 111, 114], [114, 101, 116, 117, 114, 110], [98, 114, 101, 97, 107], [99, 111, 110, 116, 105, 110, 117, 101]]
end Tk
end Go.Proofs.Ytkmcniaaecijdaa

/- Walks of letter and digit, on both sides. No condition. -/
namespace Go.Proofs.Ytkmcniaaecijdaa
open Go.RowKit
set_option linter.unusedVariables false
set_option linter.unusedSimpArgs false
set_option maxRecDepth 100000
set_option maxHeartbeats 8000000 in
theorem letter_ok (c : Nat) (w : World) : Calls Try.prog 20 #[.int .u8 (c : Int)] w fun e w' => e = .returned (.bool (Tk.isL c)) ∧ w = w' := by
  obtain ⟨V, hV⟩ : ∃ V, V = Tk.isL c := ⟨_, rfl⟩
  rw [← hV]
  unfold Tk.isL at hV
  rcases h1 : decide ((c : Int) ≥ 97) with _ | _ <;> rcases h2 : decide ((c : Int) ≤ 122) with _ | _ <;> rcases h3 : decide ((c : Int) ≥ 65) with _ | _ <;> rcases h4 : decide ((c : Int) ≤ 90) with _ | _ <;> rcases h5 : ((c : Int) == 95) with _ | _
  all_goals first
    | (exfalso; simp only [decide_eq_true_eq, decide_eq_false_iff_not, beq_iff_eq, beq_eq_false_iff_ne] at h1 h2 h3 h4 h5; omega)
    | (have HV : Hid (V = true) := (by show V = true; rw [hV]; simp only [decide_eq_true_eq, decide_eq_false_iff_not, beq_iff_eq, beq_eq_false_iff_ne] at h1 h2 h3 h4 h5; simp only [Bool.or_eq_true, decide_eq_true_eq]; omega)
       clear hV
       go_enter Try.func20, Try.ntmps20
       go_wp2
       go_ret
       exact ⟨by rw [HV.out]; rfl, rfl⟩)
    | (have HV : Hid (V = false) := (by show V = false; rw [hV]; simp only [decide_eq_true_eq, decide_eq_false_iff_not, beq_iff_eq, beq_eq_false_iff_ne] at h1 h2 h3 h4 h5; simp only [Bool.or_eq_false_iff, decide_eq_false_iff_not]; omega)
       clear hV
       go_enter Try.func20, Try.ntmps20
       go_wp2
       go_ret
       exact ⟨by rw [HV.out]; rfl, rfl⟩)
set_option maxHeartbeats 8000000 in
theorem digit_ok (c : Nat) (w : World) : Calls Try.prog 21 #[.int .u8 (c : Int)] w fun e w' => e = .returned (.bool (Tk.isD c)) ∧ w = w' := by
  obtain ⟨V, hV⟩ : ∃ V, V = Tk.isD c := ⟨_, rfl⟩
  rw [← hV]
  unfold Tk.isD at hV
  rcases h1 : decide ((c : Int) ≥ 48) with _ | _ <;> rcases h2 : decide ((c : Int) ≤ 57) with _ | _
  all_goals first
    | (exfalso; simp only [decide_eq_true_eq, decide_eq_false_iff_not, beq_iff_eq, beq_eq_false_iff_ne] at h1 h2; omega)
    | (have HV : Hid (V = true) := (by show V = true; rw [hV]; simp only [decide_eq_true_eq, decide_eq_false_iff_not, beq_iff_eq, beq_eq_false_iff_ne] at h1 h2; simp only [decide_eq_true_eq]; omega)
       clear hV
       go_enter Try.func21, Try.ntmps21
       go_wp2
       go_ret
       exact ⟨by rw [HV.out]; rfl, rfl⟩)
    | (have HV : Hid (V = false) := (by show V = false; rw [hV]; simp only [decide_eq_true_eq, decide_eq_false_iff_not, beq_iff_eq, beq_eq_false_iff_ne] at h1 h2; simp only [decide_eq_false_iff_not]; omega)
       clear hV
       go_enter Try.func21, Try.ntmps21
       go_wp2
       go_ret
       exact ⟨by rw [HV.out]; rfl, rfl⟩)
set_option maxHeartbeats 8000000 in
theorem letter8_ok (c : Nat) (w : World) : Calls Try.prog 22 #[.int .u8 (c : Int)] w fun e w' => e = .returned (.bool (Tk.isL c)) ∧ w = w' := by
  obtain ⟨V, hV⟩ : ∃ V, V = Tk.isL c := ⟨_, rfl⟩
  rw [← hV]
  unfold Tk.isL at hV
  rcases h1 : decide ((c : Int) ≥ 97) with _ | _ <;> rcases h2 : decide ((c : Int) ≤ 122) with _ | _ <;> rcases h3 : decide ((c : Int) ≥ 65) with _ | _ <;> rcases h4 : decide ((c : Int) ≤ 90) with _ | _ <;> rcases h5 : ((c : Int) == 95) with _ | _
  all_goals first
    | (exfalso; simp only [decide_eq_true_eq, decide_eq_false_iff_not, beq_iff_eq, beq_eq_false_iff_ne] at h1 h2 h3 h4 h5; omega)
    | (have HV : Hid (V = true) := (by show V = true; rw [hV]; simp only [decide_eq_true_eq, decide_eq_false_iff_not, beq_iff_eq, beq_eq_false_iff_ne] at h1 h2 h3 h4 h5; simp only [Bool.or_eq_true, decide_eq_true_eq]; omega)
       clear hV
       go_enter Try.func22, Try.ntmps22
       go_wp2
       go_ret
       exact ⟨by rw [HV.out]; rfl, rfl⟩)
    | (have HV : Hid (V = false) := (by show V = false; rw [hV]; simp only [decide_eq_true_eq, decide_eq_false_iff_not, beq_iff_eq, beq_eq_false_iff_ne] at h1 h2 h3 h4 h5; simp only [Bool.or_eq_false_iff, decide_eq_false_iff_not]; omega)
       clear hV
       go_enter Try.func22, Try.ntmps22
       go_wp2
       go_ret
       exact ⟨by rw [HV.out]; rfl, rfl⟩)
set_option maxHeartbeats 8000000 in
theorem digit8_ok (c : Nat) (w : World) : Calls Try.prog 23 #[.int .u8 (c : Int)] w fun e w' => e = .returned (.bool (Tk.isD c)) ∧ w = w' := by
  obtain ⟨V, hV⟩ : ∃ V, V = Tk.isD c := ⟨_, rfl⟩
  rw [← hV]
  unfold Tk.isD at hV
  rcases h1 : decide ((c : Int) ≥ 48) with _ | _ <;> rcases h2 : decide ((c : Int) ≤ 57) with _ | _
  all_goals first
    | (exfalso; simp only [decide_eq_true_eq, decide_eq_false_iff_not, beq_iff_eq, beq_eq_false_iff_ne] at h1 h2; omega)
    | (have HV : Hid (V = true) := (by show V = true; rw [hV]; simp only [decide_eq_true_eq, decide_eq_false_iff_not, beq_iff_eq, beq_eq_false_iff_ne] at h1 h2; simp only [decide_eq_true_eq]; omega)
       clear hV
       go_enter Try.func23, Try.ntmps23
       go_wp2
       go_ret
       exact ⟨by rw [HV.out]; rfl, rfl⟩)
    | (have HV : Hid (V = false) := (by show V = false; rw [hV]; simp only [decide_eq_true_eq, decide_eq_false_iff_not, beq_iff_eq, beq_eq_false_iff_ne] at h1 h2; simp only [decide_eq_false_iff_not]; omega)
       clear hV
       go_enter Try.func23, Try.ntmps23
       go_wp2
       go_ret
       exact ⟨by rw [HV.out]; rfl, rfl⟩)
end Go.Proofs.Ytkmcniaaecijdaa

/- Walks of source.signs and of what the library tells of texts. No condition. -/
namespace Go.Proofs.Ytkmcniaaecijdaa
open Go.RowKit
set_option linter.unusedVariables false
set_option linter.unusedSimpArgs false
set_option maxRecDepth 100000
def Tk.strV (l : List UInt8) : Value := .string ⟨l.toArray⟩
theorem signs_ok (w : World) : Calls Try.prog 24 #[] w fun e w' => ∃ g, e = .returned (.slice (some ⟨g, 0, none⟩) 29 29) ∧ Blk w' g 9 (Tk.sgL.map Tk.strV).toArray ∧ Below w.heap.size w w' := by
  go_enter Try.func24, Try.ntmps24
  go_wp2
  go_ret
  exact ⟨_, rfl, Blk.new _ _ _, Ext.alloc (Below.refl _ _) _⟩
set_option maxHeartbeats 1000000 in
theorem prefix_ok (s p : ByteArray) (w : World) : Calls Try.prog 25 #[.string s, .string p] w fun e w' => e = .returned (.bool (Lib.hasPrefix s.data.toList p.data.toList)) ∧ w' = w := by
  rw [← Lib.hasPrefix_of_take, ← Lib.size_eq, ← Lib.size_eq]
  go_enter Try.func25, Try.ntmps25
  go_wp2
  · rename_i h
    go_ret
    refine ⟨?_, rfl⟩
    show Ending.returned (Value.bool ((s.extract 0 p.size).toList == p.toList)) = _
    rw [Lib.extract_toList, Lib.toList_data]
    simp [h]
  · rename_i h
    go_ret
    refine ⟨?_, rfl⟩
    show Ending.returned (Value.bool false) = _
    simp [h]
set_option maxHeartbeats 1000000 in
theorem stringslite_IndexByteL (s : ByteArray) (c : Int) (w : World) :
    Calls Try.prog 49 #[.string s, .int .u8 c] w fun e w' => e = .returned (.int .i64 (Lib.indexByte s.data.toList c.toNat.toUInt8)) ∧ w' = w := by
  go_enter Try.func49, Try.ntmps49
  go_wp2
  rw [run_callFunc_extern Try.func83 (by kernel_rfl) (by kernel_rfl) (by kernel_rfl) (e := Extern.BytealgIndexByte.indexByte) (by kernel_rfl), Lib.run_indexByteString]
  simp only [Result.andThen]
  rw [Oper.upon_value]
  go_wp2
  go_ret
  exact ⟨rfl, rfl⟩
set_option maxHeartbeats 1000000 in
theorem strings_IndexByteL (s : ByteArray) (c : Int) (w : World) :
    Calls Try.prog 26 #[.string s, .int .u8 c] w fun e w' => e = .returned (.int .i64 (Lib.indexByte s.data.toList c.toNat.toUInt8)) ∧ w' = w := by
  go_enter Try.func26, Try.ntmps26
  go_wp2_with (go_at_call 49; refine (stringslite_IndexByteL _ _ _).mono ?_; rintro e w' ⟨rfl, rfl⟩)
  go_ret
  exact ⟨rfl, rfl⟩
set_option maxHeartbeats 1000000 in
theorem slices_Index_stringL (b off n c : Nat) (zs : List ByteArray) (x : ByteArray) (w : World) (hz : n ≤ zs.length) (hbig : n ≤ 9223372036854775807) (hc : ∀ j, j < zs.length → w.cell? ⟨b, off + j, none⟩ = some (.string (zs.getD j ByteArray.empty))) :
    Calls Try.prog 46 #[.slice (some ⟨b, off, none⟩) n c, .string x] w fun e w' => e = .returned (.int .i64 (Lib.idxOfS (zs.take n) x)) ∧ w' = w := by
  go_enter Try.func46, Try.ntmps46
  go_wp2
  go_loop [5, 8] (fun _ i => ∃ k : Nat, k ≤ n ∧ i = .int .i64 k ∧ ∀ j, j < k → zs.getD j ByteArray.empty ≠ x) (fun _ i => n - (intOf i).toNat)
  case atStart => exact ⟨0, Nat.zero_le _, rfl, fun j hj => absurd hj (Nat.not_lt_zero _)⟩
  case round =>
    obtain ⟨k, hk, rfl, hne⟩ := hrel
    have hcell : k < n → w.cell? ⟨b, off + k, none⟩ = some (.string (zs.getD k ByteArray.empty)) := fun _ => hc k (by omega)
    go_wp2
    · have hlt : k < n := by assumption
      have heq : (x.toList == (zs[k]?.getD ByteArray.empty).toList) = true := by assumption
      go_ret
      refine ⟨?_, rfl⟩
      rw [Lib.idxOfS_hit zs n k x hlt hz (by simp only [List.getD]; exact ((Lib.bytes_beq_iff _ _).1 heq).symm) hne]
      rfl
    · have hlt : k < n := by assumption
      have hneq : (x.toList == (zs[k]?.getD ByteArray.empty).toList) = false := by assumption
      go_round
      case rel =>
        refine ⟨k + 1, by omega, by go_num, fun j hj => ?_⟩
        by_cases e : j = k
        · subst e
          intro he
          exact (Lib.bytes_beq_false_iff _ _).1 hneq (by simpa [List.getD] using he.symm)
        · have := hne j (by omega)
          simpa [List.getD] using this
      case measure => simp [intOf]; omega
    · have hge : ¬ k < n := by assumption
      have : k = n := by omega
      subst this
      go_ret
      refine ⟨?_, rfl⟩
      rw [Lib.idxOfS_miss zs k x hne]
      rfl
theorem slices_Contains_stringL (b off n c : Nat) (zs : List ByteArray) (x : ByteArray) (w : World) (hz : n ≤ zs.length) (hbig : n ≤ 9223372036854775807) (hc : ∀ j, j < zs.length → w.cell? ⟨b, off + j, none⟩ = some (.string (zs.getD j ByteArray.empty))) :
    Calls Try.prog 18 #[.slice (some ⟨b, off, none⟩) n c, .string x] w fun e w' => e = .returned (.bool (Lib.containsS (zs.take n) x)) ∧ w' = w := by
  unfold Lib.containsS
  go_enter Try.func18, Try.ntmps18
  go_wp2_with (go_at_call 46; refine (slices_Index_stringL b off n c zs x _ hz hbig hc).mono ?_; rintro e w' ⟨rfl, rfl⟩)
  go_ret
  exact ⟨rfl, rfl⟩
end Go.Proofs.Ytkmcniaaecijdaa

/- Walk of ref8.Sign: the longest sign at a place. No condition. -/
namespace Go.Proofs.Ytkmcniaaecijdaa
open Go.RowKit
set_option linter.unusedVariables false
set_option linter.unusedSimpArgs false
set_option maxRecDepth 100000
theorem Tk.dg_len (k : Nat) (hk : k < 29) : 1 ≤ (Tk.dgL.getD k []).length ∧ (Tk.dgL.getD k []).length ≤ 2 := by
  have : ∀ k, k < 29 → 1 ≤ (Tk.dgL.getD k []).length ∧ (Tk.dgL.getD k []).length ≤ 2 := by decide
  exact this k hk
theorem Tk.size_is (s : ByteArray) : s.size = s.data.toList.length := by
  obtain ⟨d⟩ := s
  exact Array.length_toList.symm
/-- What is cut out is the sign. -/
theorem Tk.cut_is (s : ByteArray) (a : Nat) (X : List UInt8) (h : a + X.length ≤ s.size) : ((s.extract a (a + X.length)).toList == (⟨X.toArray⟩ : ByteArray).toList) = Tk.hit X (s.data.toList.drop a) := by
  rw [Lib.extract_toList, Lib.toList_data]
  show ((s.data.toList.drop a).take (a + X.length - a) == X) = X.isPrefixOf (s.data.toList.drop a)
  rw [Nat.add_sub_cancel_left, Bool.eq_iff_iff, beq_iff_eq, List.isPrefixOf_iff_prefix]
  constructor
  · intro e; rw [← e]; exact List.take_prefix _ _
  · rintro ⟨r, e⟩; rw [← e]; simp
theorem Tk.no_room (s : ByteArray) (a : Nat) (X : List UInt8) (h : ¬ a + X.length ≤ s.size) (ha : a ≤ s.size) : Tk.hit X (s.data.toList.drop a) = false := by
  cases e : Tk.hit X (s.data.toList.drop a) with
  | false => rfl
  | true =>
    have := Tk.hit_len e
    rw [List.length_drop] at this
    have hs := Tk.size_is s
    omega
theorem Tk.best_le (l : List UInt8) : ∀ k, Tk.best l k ≤ l.length
  | 0 => Nat.zero_le _
  | k + 1 => by
    unfold Tk.best; split
    · rename_i h; exact Tk.hit_len h.1
    · exact Tk.best_le l k
set_option maxHeartbeats 4000000 in
theorem sign8_ok (s : ByteArray) (a : Nat) (ha : a ≤ s.size) (hs : s.size ≤ 65536) (w : World) : Calls Try.prog 29 #[.string s, .int .i64 (a : Int)] w fun e w' => e = .returned (Tk.strV ((s.data.toList.drop a).take (Tk.sgn (s.data.toList.drop a)))) ∧ Below w.heap.size w w' := by
  obtain ⟨l, hl⟩ : ∃ l, l = s.data.toList.drop a := ⟨_, rfl⟩
  rw [← hl, ← Tk.best_all]
  have HL := Lib.hid hl
  have HA := Lib.hid ha
  clear hl
  go_enter Try.func29, Try.ntmps29
  go_upto_region 3 with (fail)
  generalize hwb : World.alloc w _ = wb
  have HBK := Lib.hid ((by rw [← hwb]; exact Blk.new w _ _ : Blk wb w.heap.size 9 (Tk.dgL.map Tk.strV).toArray))
  have HBW := Lib.hid ((by rw [← hwb]; exact Ext.alloc (Below.refl _ _) _ : Below w.heap.size w wb))
  clear hwb
  go_loop [5, 10] (fun b i => ∃ k : Nat, k ≤ 29 ∧ i = .int .i64 (k : Int) ∧ b = .string ⟨(l.take (Tk.best l k)).toArray⟩) (fun _ i => 29 - (intOf i).toNat)
  case atStart => exact ⟨0, Nat.zero_le _, rfl, rfl⟩
  case round =>
    obtain ⟨k, hk, rfl, rfl⟩ := hrel
    obtain ⟨BB, hBB⟩ : ∃ B : ByteArray, B = ⟨(l.take (Tk.best l k)).toArray⟩ := ⟨_, rfl⟩
    have hBs : BB.size = Tk.best l k := by rw [Tk.size_is, hBB]; show (l.take _).length = _; rw [List.length_take, Nat.min_eq_left (Tk.best_le l k)]
    rw [← hBB]
    by_cases hlt : k < 29
    · obtain ⟨n1, hn1⟩ : ∃ n, n = (Tk.dgL.getD k []).length := ⟨_, rfl⟩
      obtain ⟨XB, hXB⟩ : ∃ B : ByteArray, B = ⟨(Tk.dgL.getD k []).toArray⟩ := ⟨_, rfl⟩
      obtain ⟨m, hm⟩ : ∃ m, m = Tk.best l k := ⟨_, rfl⟩
      have hXs : XB.size = n1 := by rw [Tk.size_is, hXB, hn1]
      rw [← hm] at hBs
      have hcell : wb.cell? ⟨w.heap.size, k, none⟩ = some (.string XB) := by
        rw [HBK.out.cell, List.getElem?_toArray, List.getElem?_map, hXB, List.getD_eq_getElem?_getD, List.getElem?_eq_getElem (show k < Tk.dgL.length from hlt)]; rfl
      have hb := Tk.dg_len k hlt
      rw [← hn1] at hb
      obtain ⟨hb1, hb2⟩ := hb
      have HNX : Hid (Tk.best l (k + 1) = if Tk.hit (Tk.dgL.getD k []) l = true ∧ m < n1 then n1 else m) := by show _ = _; rw [hm, hn1]; rfl
      have hml : m ≤ 65536 := by
        have := Tk.best_le l k
        have hll : l.length ≤ s.size := by rw [HL.out, List.length_drop, ← Tk.size_is]; omega
        omega
      have HX : Hid (XB = ⟨(Tk.dgL.getD k []).toArray⟩) := hXB
      have HB2 : Hid (BB = ⟨(l.take m).toArray⟩) := by show _ = _; rw [hBB, hm]
      have HN1 := Lib.hid hn1; have HLT := Lib.hid hlt
      by_cases hf : a + n1 ≤ s.size
      · have hd : decide ((a : Int) + (n1 : Int) ≤ (s.size : Int)) = true := by simp; omega
        obtain ⟨b1, hb⟩ : ∃ b, b = Tk.hit (Tk.dgL.getD k []) l := ⟨_, rfl⟩
        have heq : ((s.extract a (a + n1)).toList == XB.toList) = b1 := by rw [hb, HL.out, hXB, hn1]; exact Tk.cut_is s a _ (by rw [← hn1]; exact hf)
        rw [← hb] at HNX
        have HBE := Lib.hid hb
        clear hb hn1 hXB hm hBB
        cases b1
        · go_wp2
          go_round
          case rel => exact ⟨k + 1, HLT.out, by go_num, by rw [HNX.out, if_neg (fun h => Bool.false_ne_true h.1), HB2.out]⟩
          case measure => have := HLT.out; simp [intOf]; omega
        · by_cases hg : m < n1
          · have hd2 : decide ((n1 : Int) > (m : Int)) = true := by simp; omega
            have HG := Lib.hid hg
            clear hg
            go_wp2
            go_round
            case rel => exact ⟨k + 1, HLT.out, by go_num, by
              rw [HNX.out, if_pos ⟨rfl, HG.out⟩, HX.out, HN1.out, Tk.hit_take HBE.out.symm]⟩
            case measure => have := HLT.out; simp [intOf]; omega
          · have hd2 : decide ((n1 : Int) > (m : Int)) = false := by simp; omega
            have HG := Lib.hid hg
            clear hg
            go_wp2
            go_round
            case rel => exact ⟨k + 1, HLT.out, by go_num, by rw [HNX.out, if_neg (fun h => HG.out h.2), HB2.out]⟩
            case measure => have := HLT.out; simp [intOf]; omega
      · have hd : decide ((a : Int) + (n1 : Int) ≤ (s.size : Int)) = false := by simp; omega
        have hno : Tk.hit (Tk.dgL.getD k []) l = false := by rw [HL.out]; exact Tk.no_room s a _ (by rw [← hn1]; exact hf) HA.out
        rw [hno] at HNX
        clear hno hn1 hXB hm hBB
        go_wp2
        go_round
        case rel => exact ⟨k + 1, HLT.out, by go_num, by rw [HNX.out, if_neg (fun h => Bool.false_ne_true h.1), HB2.out]⟩
        case measure => have := HLT.out; simp [intOf]; omega
    · obtain rfl : k = 29 := by omega
      have HB2 : Hid (BB = ⟨(l.take (Tk.best l 29)).toArray⟩) := hBB
      clear hBB hBs
      go_wp2
      go_ret
      exact ⟨by rw [HB2.out]; rfl, HBW.out⟩
end Go.Proofs.Ytkmcniaaecijdaa

/- Walks of Reserved on both sides, what types.Named and ref7.Named tell being known. -/
namespace Go.Proofs.Ytkmcniaaecijdaa
open Go.RowKit
set_option linter.unusedVariables false
set_option linter.unusedSimpArgs false
set_option maxRecDepth 100000
/-- Is it one of the language's words? -/
def Tk.isWord (l : List UInt8) : Bool := Tk.words.contains l
theorem Tk.word_eq (s : ByteArray) (k : Nat) : (s.toList == (⟨(Tk.words.getD k []).toArray⟩ : ByteArray).toList) = (s.data.toList == Tk.words.getD k []) := by
  rw [Lib.toList_data, Lib.toList_data]
theorem Tk.word_hit (l : List UInt8) (k : Nat) (hk : k < 8) (h : (l == Tk.words.getD k []) = true) : Tk.isWord l = true := by
  have e : l = Tk.words.getD k [] := by simpa using h
  unfold Tk.isWord
  rw [List.contains_iff_mem, e, List.getD_eq_getElem?_getD, List.getElem?_eq_getElem (show k < Tk.words.length from hk)]
  exact List.getElem_mem _
theorem Tk.word_no (l : List UInt8) (h : ∀ k, k < 8 → (l == Tk.words.getD k []) = false) : Tk.isWord l = false := by
  unfold Tk.isWord
  rw [Bool.eq_false_iff, Ne, List.contains_iff_mem]
  intro hm
  obtain ⟨k, hk, e⟩ := List.mem_iff_getElem.1 hm
  have := h k hk
  rw [List.getD_eq_getElem?_getD, List.getElem?_eq_getElem hk] at this
  simp [e] at this
set_option maxHeartbeats 4000000 in
theorem reserved8_at (s : ByteArray) (tb : Int) (ts b : Bool) (w : World) (CN : ∀ w1 : World, Calls Try.prog 19 #[.string s] w1 fun e w' => e = .returned (.tuple #[.agg #[.int .i64 tb, .bool ts], .bool b]) ∧ Below w1.heap.size w1 w') :
    Calls Try.prog 7 #[.string s] w fun e w' => e = .returned (.bool (Tk.isWord s.data.toList || b)) ∧ Below w.heap.size w w' := by
  have HCN := Lib.hid CN
  clear CN
  obtain ⟨V, hV⟩ : ∃ V, V = (Tk.isWord s.data.toList || b) := ⟨_, rfl⟩
  rw [← hV]
  have HV := Lib.hid hV
  clear hV
  go_enter Try.func7, Try.ntmps7
  go_upto_region 2 with (fail)
  generalize hwb : World.alloc w _ = wb
  have HBK := Lib.hid ((by rw [← hwb]; exact Blk.new w _ _ : Blk wb w.heap.size 9 (Tk.words.map Tk.strV).toArray))
  have HBW := Lib.hid ((by rw [← hwb]; exact Ext.alloc (Below.refl _ _) _ : Below w.heap.size w wb))
  clear hwb
  go_loop [9] (fun i => ∃ k : Nat, k ≤ 8 ∧ i = .int .i64 (k : Int) ∧ Hid (∀ j, j < k → (s.data.toList == Tk.words.getD j []) = false)) (fun i => 8 - (intOf i).toNat)
  case atStart => exact ⟨0, Nat.zero_le _, rfl, fun j hj => absurd hj (Nat.not_lt_zero _)⟩
  case round =>
    obtain ⟨k, hk, rfl, hno⟩ := hrel
    by_cases hlt : k < 8
    · obtain ⟨XB, hXB⟩ : ∃ B : ByteArray, B = ⟨(Tk.words.getD k []).toArray⟩ := ⟨_, rfl⟩
      have hcell : wb.cell? ⟨w.heap.size, k, none⟩ = some (.string XB) := by
        rw [HBK.out.cell, List.getElem?_toArray, List.getElem?_map, hXB, List.getD_eq_getElem?_getD, List.getElem?_eq_getElem (show k < Tk.words.length from hlt)]; rfl
      obtain ⟨b1, hb⟩ : ∃ b, b = (s.data.toList == Tk.words.getD k []) := ⟨_, rfl⟩
      have heq : (s.toList == XB.toList) = b1 := by rw [hXB, Tk.word_eq, hb]
      have HBE := Lib.hid hb
      have HLT := Lib.hid hlt
      clear hb hXB
      cases b1
      · have HN : Hid (∀ j, j < k + 1 → (s.data.toList == Tk.words.getD j []) = false) := fun j hj => by
          rcases Nat.lt_or_ge j k with h | h
          · exact hno.out j h
          · obtain rfl : j = k := by omega
            exact HBE.out.symm
        go_wp2
        go_round
        case rel => exact ⟨k + 1, HLT.out, by go_num, HN⟩
        case measure => have := HLT.out; simp [intOf]; omega
      · have HT : Hid (V = true) := by show V = true; rw [HV.out, Tk.word_hit _ k hlt HBE.out.symm]; rfl
        go_wp2
        go_ret
        exact ⟨by rw [HT.out]; rfl, HBW.out⟩
    · obtain rfl : k = 8 := by omega
      have HT : Hid (V = b) := by show V = b; rw [HV.out, Tk.word_no _ hno.out]; rfl
      go_wp2_with (first | (go_at_call 19; refine (HCN.out _).mono ?_; rintro e w1 ⟨rfl, hb1⟩; have HB1 := Lib.hid (Ext.trans HBW.out hb1); clear hb1))
      go_ret
      exact ⟨by rw [HT.out]; rfl, by first | exact HB1.out | exact Ext.alloc HB1.out _⟩
def Tk.wordsB : List ByteArray := Tk.words.map (fun l => ⟨l.toArray⟩)
theorem Tk.words_in (s : ByteArray) : Lib.containsS (Tk.wordsB.take 8) s = Tk.isWord s.data.toList := by
  rw [Bool.eq_iff_iff, Lib.containsS_iff]
  unfold Tk.isWord
  rw [List.contains_iff_mem]
  show s ∈ Tk.words.map (fun l => (⟨l.toArray⟩ : ByteArray)) ↔ _
  rw [List.mem_map]
  constructor
  · rintro ⟨l, hl, rfl⟩; exact hl
  · intro h; exact ⟨_, h, by obtain ⟨⟨l⟩⟩ := s; rfl⟩
theorem Tk.wordsB_at (wb : World) (g : Nat) (h : Blk wb g 9 (Tk.words.map Tk.strV).toArray) : ∀ j, j < Tk.wordsB.length → wb.cell? ⟨g, 0 + j, none⟩ = some (.string (Tk.wordsB.getD j ByteArray.empty)) := by
  intro j hj
  have hj8 : j < Tk.words.length := by simpa [Tk.wordsB] using hj
  rw [Nat.zero_add, h.cell, List.getElem?_toArray, List.getElem?_map, List.getElem?_eq_getElem hj8, List.getD_eq_getElem?_getD, List.getElem?_eq_getElem hj]
  simp [Tk.wordsB, Tk.strV]
set_option maxHeartbeats 4000000 in
theorem reserved_at (s : ByteArray) (tb : Int) (ts b : Bool) (w : World) (CN : ∀ w1 : World, Calls Try.prog 17 #[.string s] w1 fun e w' => e = .returned (.tuple #[.agg #[.int .i64 tb, .bool ts], .bool b]) ∧ Below w1.heap.size w1 w') :
    Calls Try.prog 6 #[.string s] w fun e w' => e = .returned (.bool (Tk.isWord s.data.toList || b)) ∧ Below w.heap.size w w' := by
  have HCN := Lib.hid CN
  clear CN
  obtain ⟨V, hV⟩ : ∃ V, V = (Tk.isWord s.data.toList || b) := ⟨_, rfl⟩
  rw [← hV]
  have HV := Lib.hid hV
  clear hV
  go_enter Try.func6, Try.ntmps6
  go_upto_region 2 with (first | (go_at_call 17; refine (HCN.out _).mono ?_; rintro e w1 ⟨rfl, hb1⟩; have HB1 := Lib.hid hb1; clear hb1))
  generalize hw2 : World.alloc w1 _ = w2
  have HB2 := Lib.hid ((by rw [← hw2]; exact Ext.trans HB1.out (Ext.alloc (Below.refl _ _) _) : Below w.heap.size w w2))
  clear hw2
  cases b
  · have CC : Hid (∀ wb : World, Blk wb w2.heap.size 9 (Tk.words.map Tk.strV).toArray → Calls Try.prog 18 #[.slice (some ⟨w2.heap.size, 0, none⟩) 8 8, .string s] wb fun e w' => e = .returned (.bool V) ∧ w' = wb) := fun wb h => by
      have := slices_Contains_stringL w2.heap.size 0 8 8 Tk.wordsB s wb (Nat.le_refl _) (by decide) (Tk.wordsB_at wb _ h)
      rw [Tk.words_in] at this
      rw [HV.out, Bool.or_false]; exact this
    go_wp2_with (first | (go_at_call 18; refine (CC.out _ (Blk.new w2 _ _)).mono ?_; rintro e w3 ⟨rfl, rfl⟩))
    go_ret
    exact ⟨rfl, Ext.alloc HB2.out _⟩
  · have HT : Hid (V = true) := by show V = true; rw [HV.out, Bool.or_true]
    go_wp2
    go_ret
    exact ⟨by rw [HT.out]; rfl, by first | exact HB2.out | exact Ext.alloc HB2.out _⟩
end Go.Proofs.Ytkmcniaaecijdaa
