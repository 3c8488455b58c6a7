/- Walks of types.Literal, Words, Result. -/
import Derived.Test.YthdckndjggljpaaTB
import Derived.Test.YthdckndjggljpaaT3
import Derived.Handy
namespace Go.Proofs.Ythdckndjggljpaa
open Go.RowKit
set_option linter.unusedVariables false
set_option linter.unusedSimpArgs false
set_option maxRecDepth 100000

/-- The type of a number as it is written: the type, and what is wrong. -/
def W.lit (n : Int) (u : Bool) : Int × Bool × Int :=
  if u then (if n ≤ 65535 then (16, false, 0) else if n ≤ 4294967295 then (32, false, 0) else (64, false, 0))
  else (if n ≤ 32767 then (16, true, 0) else if n ≤ 2147483647 then (32, true, 0) else if n ≤ 9223372036854775807 then (64, true, 0) else (0, false, 3))
/-- A type and what is wrong come back. -/
def LitR (b : Int) (s : Bool) (k : Int) (w : World) (e : Ending) (w' : World) : Prop := e = .returned (.tuple #[W.ty b s, .int .i64 k]) ∧ Below w.heap.size w w'

set_option maxHeartbeats 2000000 in
theorem literal_u1 (n : Int) (h : n ≤ 65535) (w : World) : Calls Try.prog 55 #[.int .u64 n, .bool true] w (LitR 16 false 0 w) := by
  go_enter Try.func55, Try.ntmps55
  go_wp2
  go_rounds 1
  exact bodyPost_ret (v := .tuple #[W.ty 16 false, .int .i64 0]) (by simp [results, Try.results55, go_sem]) rfl ⟨rfl, by repeat (first | exact Below.refl _ _ | refine Ext.setCell ?_ (by simp) _ | refine Ext.alloc ?_ _)⟩
set_option maxHeartbeats 2000000 in
theorem literal_u2 (n : Int) (h1 : 65535 < n) (h : n ≤ 4294967295) (w : World) : Calls Try.prog 55 #[.int .u64 n, .bool true] w (LitR 32 false 0 w) := by
  go_enter Try.func55, Try.ntmps55
  go_wp2
  go_rounds 2
  exact bodyPost_ret (v := .tuple #[W.ty 32 false, .int .i64 0]) (by simp [results, Try.results55, go_sem]) rfl ⟨rfl, by repeat (first | exact Below.refl _ _ | refine Ext.setCell ?_ (by simp) _ | refine Ext.alloc ?_ _)⟩
set_option maxHeartbeats 2000000 in
theorem literal_u3 (n : Int) (h1 : 4294967295 < n) (h : n ≤ 18446744073709551615) (w : World) : Calls Try.prog 55 #[.int .u64 n, .bool true] w (LitR 64 false 0 w) := by
  have h0 : 65535 < n := by omega
  go_enter Try.func55, Try.ntmps55
  go_wp2
  go_rounds 3
  exact bodyPost_ret (v := .tuple #[W.ty 64 false, .int .i64 0]) (by simp [results, Try.results55, go_sem]) rfl ⟨rfl, by repeat (first | exact Below.refl _ _ | refine Ext.setCell ?_ (by simp) _ | refine Ext.alloc ?_ _)⟩
set_option maxHeartbeats 2000000 in
theorem literal_s1 (n : Int) (h : n ≤ 32767) (w : World) : Calls Try.prog 55 #[.int .u64 n, .bool false] w (LitR 16 true 0 w) := by
  go_enter Try.func55, Try.ntmps55
  go_wp2
  go_rounds 1
  exact bodyPost_ret (v := .tuple #[W.ty 16 true, .int .i64 0]) (by simp [results, Try.results55, go_sem]) rfl ⟨rfl, by repeat (first | exact Below.refl _ _ | refine Ext.setCell ?_ (by simp) _ | refine Ext.alloc ?_ _)⟩
set_option maxHeartbeats 2000000 in
theorem literal_s2 (n : Int) (h1 : 32767 < n) (h : n ≤ 2147483647) (w : World) : Calls Try.prog 55 #[.int .u64 n, .bool false] w (LitR 32 true 0 w) := by
  go_enter Try.func55, Try.ntmps55
  go_wp2
  go_rounds 2
  exact bodyPost_ret (v := .tuple #[W.ty 32 true, .int .i64 0]) (by simp [results, Try.results55, go_sem]) rfl ⟨rfl, by repeat (first | exact Below.refl _ _ | refine Ext.setCell ?_ (by simp) _ | refine Ext.alloc ?_ _)⟩
set_option maxHeartbeats 2000000 in
theorem literal_s3 (n : Int) (h1 : 2147483647 < n) (h : n ≤ 9223372036854775807) (w : World) : Calls Try.prog 55 #[.int .u64 n, .bool false] w (LitR 64 true 0 w) := by
  have h0 : 32767 < n := by omega
  go_enter Try.func55, Try.ntmps55
  go_wp2
  go_rounds 3
  exact bodyPost_ret (v := .tuple #[W.ty 64 true, .int .i64 0]) (by simp [results, Try.results55, go_sem]) rfl ⟨rfl, by repeat (first | exact Below.refl _ _ | refine Ext.setCell ?_ (by simp) _ | refine Ext.alloc ?_ _)⟩
set_option maxHeartbeats 2000000 in
theorem literal_s4 (n : Int) (h1 : 9223372036854775807 < n) (w : World) : Calls Try.prog 55 #[.int .u64 n, .bool false] w (LitR 0 false 3 w) := by
  have h0 : 32767 < n := by omega
  have h2 : 2147483647 < n := by omega
  go_enter Try.func55, Try.ntmps55
  go_wp2
  go_rounds 4
  exact bodyPost_ret (v := .tuple #[W.ty 0 false, .int .i64 3]) (by simp [results, Try.results55, go_sem]) rfl ⟨rfl, by repeat (first | exact Below.refl _ _ | refine Ext.setCell ?_ (by simp) _ | refine Ext.alloc ?_ _)⟩
theorem literal_ok (n : Int) (u : Bool) (h : W.U n) (w : World) : Calls Try.prog 55 #[.int .u64 n, .bool u] w (LitR (W.lit n u).1 (W.lit n u).2.1 (W.lit n u).2.2 w) := by
  unfold W.lit
  have h2 := h.2
  cases u
  · by_cases a : n ≤ 32767
    · simp only [Bool.false_eq_true, if_false, if_pos a]; exact literal_s1 n a w
    by_cases b : n ≤ 2147483647
    · simp only [Bool.false_eq_true, if_false, if_neg a, if_pos b]; exact literal_s2 n (by omega) b w
    by_cases c : n ≤ 9223372036854775807
    · simp only [Bool.false_eq_true, if_false, if_neg a, if_neg b, if_pos c]; exact literal_s3 n (by omega) c w
    · simp only [Bool.false_eq_true, if_false, if_neg a, if_neg b, if_neg c]; exact literal_s4 n (by omega) w
  · by_cases a : n ≤ 65535
    · simp only [if_true, if_pos a]; exact literal_u1 n a w
    by_cases b : n ≤ 4294967295
    · simp only [if_true, if_neg a, if_pos b]; exact literal_u2 n (by omega) b w
    · simp only [if_true, if_neg a, if_neg b]; exact literal_u3 n (by omega) (by omega) w

/-- How many words. -/
def W.wds (b : Int) : Int := if b = 8 then 1 else b / 16
set_option maxHeartbeats 2000000 in
theorem words7_ok (b : Int) (s : Bool) (h : W.ok b) (w : World) : Calls Try.prog 28 #[W.ty b s] w fun e w' => e = .returned (.int .i64 (W.wds b)) ∧ Below w.heap.size w w' := by
  rcases h with rfl | rfl | rfl | rfl
  all_goals
    go_enter Try.func28, Try.ntmps28
    go_wp2
    go_ret
    exact ⟨rfl, Ext.alloc (Below.refl _ _) _⟩

/-- The type of what an operator makes. -/
def W.rb (k a b : Int) : Int := if k = 14 ∨ k = 15 then W.pb a else if 16 ≤ k ∧ k ≤ 21 then 16 else W.cb a b
def W.rs (k a : Int) (s : Bool) (b : Int) (t : Bool) : Bool := if k = 14 ∨ k = 15 then W.ps a s else if 16 ≤ k ∧ k ≤ 21 then true else W.cs a s b t
set_option maxHeartbeats 4000000 in
theorem result_ok (k a b : Int) (s t : Bool) (w : World) : Calls Try.prog 47 #[.int .i64 k, W.ty a s, W.ty b t] w fun e w' => e = .returned (W.ty (W.rb k a b) (W.rs k a s b t)) ∧ Below w.heap.size w w' := by
  have PA : Hid (∀ w : World, Calls Try.prog 61 #[W.ty a s] w fun e w' => e = .returned (W.ty (W.pb a) (W.ps a s)) ∧ Below w.heap.size w w') := fun w => promote_ok a s w
  have PC : Hid (∀ w : World, Calls Try.prog 67 #[W.ty a s, W.ty b t] w fun e w' => e = .returned (W.ty (W.cb a b) (W.cs a s b t)) ∧ Below w.heap.size w w') := fun w => common_ok a b s t w
  unfold W.rb W.rs
  by_cases h1 : k = 14 ∨ k = 15
  · rw [if_pos h1, if_pos h1]
    generalize W.pb a = A at *
    generalize W.ps a s = S at *
    rcases h1 with rfl | rfl
    all_goals
      go_enter Try.func47, Try.ntmps47
      go_wp2_with (first | (go_at_call 61; refine (PA.out _).mono ?_; rintro e w1 ⟨rfl, hb⟩; have HB := Lib.hid hb; obtain ⟨k0, k1, g0, g1⟩ := Ty.below (Ty.new _ (B := w.heap.size + 1 + 1) (by simp) 0 false _) hb; clear hb))
      exact bodyPost_ret (v := W.ty A S) (by simp [results, Try.results47, go_sem, k0, k1, g0, g1]) rfl ⟨rfl, Ext.setCell (Ext.setCell (Ext.trans (Ext.alloc (Ext.alloc (Ext.alloc (Below.refl _ _) _) _) _) HB.out) (Nat.le_add_right _ 2) _) (Nat.le_add_right _ 2) _⟩
  rw [if_neg h1, if_neg h1]
  have h14 : (k == 14) = false := by simp; omega
  have h15 : (k == 15) = false := by simp; omega
  by_cases h2 : 16 ≤ k ∧ k ≤ 21
  · rw [if_pos h2, if_pos h2]
    obtain ⟨ha, hb⟩ := h2
    clear h1
    go_enter Try.func47, Try.ntmps47
    go_wp2_with (first | (go_at_call 43; refine (tint_ok _).mono ?_; rintro e w1 ⟨rfl, hb⟩; have HB := Lib.hid hb; obtain ⟨k0, k1, g0, g1⟩ := Ty.below (Ty.new _ (B := w.heap.size + 1 + 1) (by simp) 0 false _) hb; clear hb))
    exact bodyPost_ret (v := W.ty 16 true) (by simp [results, Try.results47, go_sem, k0, k1, g0, g1]) rfl ⟨rfl, Ext.setCell (Ext.setCell (Ext.trans (Ext.alloc (Ext.alloc (Ext.alloc (Below.refl _ _) _) _) _) HB.out) (Nat.le_add_right _ 2) _) (Nat.le_add_right _ 2) _⟩
  · rw [if_neg h2, if_neg h2]
    generalize W.cb a b = A at *
    generalize W.cs a s b t = S at *
    by_cases h3 : k < 16
    · clear h1 h2
      go_enter Try.func47, Try.ntmps47
      go_wp2_with (first | (go_at_call 67; refine (PC.out _).mono ?_; rintro e w1 ⟨rfl, hb⟩; have HB := Lib.hid hb; obtain ⟨k0, k1, g0, g1⟩ := Ty.below (Ty.new _ (B := w.heap.size + 1 + 1) (by simp) 0 false _) hb; clear hb))
      exact bodyPost_ret (v := W.ty A S) (by simp [results, Try.results47, go_sem, k0, k1, g0, g1]) rfl ⟨rfl, Ext.setCell (Ext.setCell (Ext.trans (Ext.alloc (Ext.alloc (Ext.alloc (Below.refl _ _) _) _) _) HB.out) (Nat.le_add_right _ 2) _) (Nat.le_add_right _ 2) _⟩
    · have h4 : 21 < k := by omega
      clear h1 h2
      go_enter Try.func47, Try.ntmps47
      go_wp2_with (first | (go_at_call 67; refine (PC.out _).mono ?_; rintro e w1 ⟨rfl, hb⟩; have HB := Lib.hid hb; obtain ⟨k0, k1, g0, g1⟩ := Ty.below (Ty.new _ (B := w.heap.size + 1 + 1) (by simp) 0 false _) hb; clear hb))
      exact bodyPost_ret (v := W.ty A S) (by simp [results, Try.results47, go_sem, k0, k1, g0, g1]) rfl ⟨rfl, Ext.setCell (Ext.setCell (Ext.trans (Ext.alloc (Ext.alloc (Ext.alloc (Below.refl _ _) _) _) _) HB.out) (Nat.le_add_right _ 2) _) (Nat.le_add_right _ 2) _⟩
end Go.Proofs.Ythdckndjggljpaa
