/- WordUp: to shift is to multiply by two. -/
import Derived.Test.YtgpjhbaehhjdhaaL1
namespace Go.Proofs.Ytgpjhbaehhjdhaa
open Go.ChangeShapes Go.WideShapes Go.ChangeAt Go.RowKit
set_option linter.unusedVariables false
set_option maxRecDepth 100000
namespace up

/-- n doublings. -/
def dbl (v a : Int) (k : Nat) : Int := (a * 2 ^ k) % W.md v
theorem two64 (v : Int) (k : Nat) (h : 64 ≤ k) (a : Int) : (a * 2 ^ k) % W.md v = 0 := by
  obtain ⟨c, hc⟩ := W.md_dvd v
  obtain ⟨j, rfl⟩ : ∃ j, k = 64 + j := ⟨k - 64, by omega⟩
  rw [Int.pow_add, show (2 : Int) ^ 64 = 18446744073709551616 from rfl, hc]
  exact Int.emod_eq_zero_of_dvd ⟨a * (c * 2 ^ j), by rw [Int.mul_left_comm, Int.mul_assoc (W.md v), Int.mul_left_comm a]⟩
theorem shl_dbl (v a : Int) (k : Nat) : W.shl v a (k : Int) = dbl v a k := by
  unfold W.shl dbl
  rw [Int.toNat_natCast]
  by_cases h : k ≤ 64
  · rw [Nat.min_eq_left h]
  · rw [Nat.min_eq_right (by omega), two64 v 64 (Nat.le_refl _), two64 v k (by omega)]
theorem dbl_zero (v a : Int) : dbl v a 0 = W.cut v a := by unfold dbl W.cut; rw [Int.pow_zero, Int.mul_one]
theorem dbl_succ (v a : Int) (k : Nat) : W.add v (dbl v a k) (dbl v a k) = dbl v a (k + 1) := by
  unfold dbl; rw [W.add_mod_l, W.add_mod_r]; unfold W.add
  rw [Int.pow_succ, ← Int.mul_assoc]; congr 1; omega
theorem dbl_U (v a : Int) (k : Nat) : W.U (dbl v a k) := ⟨W.mod_lo _ _, W.mod_le _ _⟩
theorem dbl_dbl (v a : Int) (n m : Nat) : dbl v (dbl v a n) m = dbl v a (n + m) := by
  unfold dbl; rw [Int.mul_emod, Int.emod_emod, ← Int.mul_emod, Int.mul_assoc, ← Int.pow_add]
theorem md_pow (v : Int) (h : W.ok v) : W.md v = 2 ^ v.toNat := by rcases h with rfl | rfl | rfl | rfl <;> rfl
theorem down_big (v a : Int) (n : Nat) (h : W.ok v) (hn : v ≤ n) : W.shl v (W.shr v false a n) n = 0 := by
  have hv : v.toNat ≤ 64 := by rcases h with rfl | rfl | rfl | rfl <;> decide
  have e : W.shr v false a n = 0 := by
    unfold W.shr; rw [if_neg (by decide), Int.toNat_natCast]
    refine Int.ediv_eq_zero_of_lt (W.mod_lo _ _) (Int.lt_of_lt_of_le (W.mod_hi _ _) ?_)
    rw [md_pow v h]
    exact_mod_cast Nat.pow_le_pow_right (by decide) (show v.toNat ≤ min n 64 by omega)
  rw [e]; unfold W.shl; rw [Int.zero_mul, Int.zero_emod]
theorem down_up (v a : Int) (n : Nat) (h : W.ok v) (hn : n < v) : W.shl v (W.shr v false a n) n = IntKind.u64.wrap (W.cut v a / 2 ^ min n 64 * 2 ^ min n 64) := by
  have h0 := W.cut_lo v a
  have h1 : W.cut v a < W.md v := W.mod_hi a v
  have h2 := W.md_le v
  have hp := W.pow_pos (min n 64)
  have hle : W.cut v a / 2 ^ min n 64 * 2 ^ min n 64 ≤ W.cut v a := Int.ediv_mul_le _ (by omega)
  have hge : 0 ≤ W.cut v a / 2 ^ min n 64 * 2 ^ min n 64 := Int.mul_nonneg (Int.ediv_nonneg h0 (by omega)) (by omega)
  rw [IntKind.wrap_u64, Int.emod_eq_of_lt hge (by omega)]
  unfold W.shl W.shr
  rw [if_neg (by decide), Int.toNat_natCast]
  exact Int.emod_eq_of_lt hge (by show W.cut v a / 2 ^ min n 64 * 2 ^ min n 64 < _; omega)

set_option maxHeartbeats 4000000 in
theorem walk_ok (a v : Int) (n m : Nat) (h : W.ok v) (ha : W.U a) (hn : (n : Int) ≤ 200) (hm : (m : Int) ≤ 200) (w : World) :
    Calls Try.prog 8 #[.int .u64 a, .int .i64 n, .int .i64 m, .int .i64 v] w fun e w' => e = .returned (.bool true) ∧ Below w.heap.size w w' := by
  have n0 : ¬ (n : Int) < 0 := by omega
  have m0 : ¬ (m : Int) < 0 := by omega
  have n2 : ¬ 200 < (n : Int) := by omega
  have m2 : ¬ 200 < (m : Int) := by omega
  have u1 : W.U (W.shl v a n) := W.shl_U _ _ _
  have u2 : W.U (W.shr v false a n) := W.shr_U _ _ _ _
  have q1 : (W.shl v a n != dbl v a n) = false := by rw [shl_dbl]; simp
  have q2 : (W.shl v (W.shl v a n) m != W.shl v a ((n : Int) + (m : Int))) = false := by
    rw [show ((n : Int) + (m : Int)) = ((n + m : Nat) : Int) by omega, shl_dbl, shl_dbl, shl_dbl, dbl_dbl]; simp
  have hnn : (0 : Int) ≤ (n : Int) := by omega
  have hmm : (0 : Int) ≤ (m : Int) := by omega
  have hnm : (0 : Int) ≤ (n : Int) + (m : Int) := by omega
  have hnm2 : (n : Int) + (m : Int) ≤ 400 := by omega
  by_cases hv : v ≤ n
  · have q3 : (W.shl v (W.shr v false a n) n == 0) = true := by rw [down_big v a n h hv]; rfl
    go_enter Try.func8, Try.ntmps8
    go_wp2_with (first | (go_at_call 33; refine (alive1 _).mono ?_; rintro e w1 ⟨rfl, hb1⟩; have HB1 := Lib.hid hb1; clear hb1) | (go_at_call 34; refine (width_ok _ h _).mono ?_; rintro e w' ⟨rfl, rfl⟩) | (go_at_call 41; refine (shl_ok _ _ _ h ha hnn _).mono ?_; rintro e w' ⟨rfl, rfl⟩) | (go_at_call 36; refine (cut_ok _ _ h ha _).mono ?_; rintro e w' ⟨rfl, rfl⟩))
    go_loop [11, 13] (fun y i => ∃ k : Nat, k ≤ n ∧ i = .int .i64 k ∧ y = .int .u64 (dbl v a k)) (fun _ i => n - (intOf i).toNat)
    case atStart => exact ⟨0, Nat.zero_le _, rfl, by rw [dbl_zero]⟩
    case round =>
      obtain ⟨k, hk, rfl, rfl⟩ := hrel
      have hk2 : (k : Int) ≤ 200 := by omega
      have HS := Lib.hid (dbl_succ v a k)
      by_cases hlt : k < n
      · go_wp2_with (first | (go_at_call 35; refine (add_ok _ _ _ h (dbl_U _ _ _) (dbl_U _ _ _) _).mono ?_; rintro e w' ⟨rfl, rfl⟩))
        go_round
        case rel => exact ⟨k + 1, by omega, by go_num, W.u64 HS.out⟩
        case measure => simp [intOf]; omega
      · obtain rfl : k = n := by omega
        go_wp2_with (first | (go_at_call_of 41 (Value.int IntKind.u64 a); refine (shl_ok _ _ _ h ha hnm _).mono ?_; rintro e w' ⟨rfl, rfl⟩) | (go_at_call_of 41 (Value.int IntKind.u64 (W.shl v a k)); refine (shl_ok _ _ _ h u1 hmm _).mono ?_; rintro e w' ⟨rfl, rfl⟩) | (go_at_call_of 41 (Value.int IntKind.u64 (W.shr v false a k)); refine (shl_ok _ _ _ h u2 hnn _).mono ?_; rintro e w' ⟨rfl, rfl⟩) | (go_at_call 42; refine (shr_any _ _ _ _ h ha hnn _).mono ?_; rintro e w' ⟨rfl, rfl⟩) | (go_at_call 36; refine (cut_ok _ _ h ha _).mono ?_; rintro e w' ⟨rfl, rfl⟩))
        go_ret
        exact ⟨rfl, by repeat (first | exact HB1.out | refine Ext.alloc ?_ _)⟩
  · have q3 : (W.shl v (W.shr v false a n) n == IntKind.u64.wrap (W.cut v a / 2 ^ min n 64 * 2 ^ min n 64)) = true := by rw [down_up v a n h (by omega)]; simp
    go_enter Try.func8, Try.ntmps8
    go_wp2_with (first | (go_at_call 33; refine (alive1 _).mono ?_; rintro e w1 ⟨rfl, hb1⟩; have HB1 := Lib.hid hb1; clear hb1) | (go_at_call 34; refine (width_ok _ h _).mono ?_; rintro e w' ⟨rfl, rfl⟩) | (go_at_call 41; refine (shl_ok _ _ _ h ha hnn _).mono ?_; rintro e w' ⟨rfl, rfl⟩) | (go_at_call 36; refine (cut_ok _ _ h ha _).mono ?_; rintro e w' ⟨rfl, rfl⟩))
    go_loop [11, 13] (fun y i => ∃ k : Nat, k ≤ n ∧ i = .int .i64 k ∧ y = .int .u64 (dbl v a k)) (fun _ i => n - (intOf i).toNat)
    case atStart => exact ⟨0, Nat.zero_le _, rfl, by rw [dbl_zero]⟩
    case round =>
      obtain ⟨k, hk, rfl, rfl⟩ := hrel
      have hk2 : (k : Int) ≤ 200 := by omega
      have HS := Lib.hid (dbl_succ v a k)
      by_cases hlt : k < n
      · go_wp2_with (first | (go_at_call 35; refine (add_ok _ _ _ h (dbl_U _ _ _) (dbl_U _ _ _) _).mono ?_; rintro e w' ⟨rfl, rfl⟩))
        go_round
        case rel => exact ⟨k + 1, by omega, by go_num, W.u64 HS.out⟩
        case measure => simp [intOf]; omega
      · obtain rfl : k = n := by omega
        go_wp2_with (first | (go_at_call_of 41 (Value.int IntKind.u64 a); refine (shl_ok _ _ _ h ha hnm _).mono ?_; rintro e w' ⟨rfl, rfl⟩) | (go_at_call_of 41 (Value.int IntKind.u64 (W.shl v a k)); refine (shl_ok _ _ _ h u1 hmm _).mono ?_; rintro e w' ⟨rfl, rfl⟩) | (go_at_call_of 41 (Value.int IntKind.u64 (W.shr v false a k)); refine (shl_ok _ _ _ h u2 hnn _).mono ?_; rintro e w' ⟨rfl, rfl⟩) | (go_at_call 42; refine (shr_any _ _ _ _ h ha hnn _).mono ?_; rintro e w' ⟨rfl, rfl⟩) | (go_at_call 36; refine (cut_ok _ _ h ha _).mono ?_; rintro e w' ⟨rfl, rfl⟩))
        go_ret
        exact ⟨rfl, by repeat (first | exact HB1.out | refine Ext.alloc ?_ _)⟩
set_option maxHeartbeats 1000000 in
theorem walk_no (a v n m : Int) (h : ¬ W.ok v) (w : World) :
    Calls Try.prog 8 #[.int .u64 a, .int .i64 n, .int .i64 m, .int .i64 v] w fun e w' => e = .returned (.bool true) ∧ Below w.heap.size w w' := by
  go_enter Try.func8, Try.ntmps8
  go_wp2_with (first | (go_at_call 33; refine (alive1 _).mono ?_; rintro e w1 ⟨rfl, hb1⟩; have HB1 := Lib.hid hb1; clear hb1) | (go_at_call 34; refine (width_no _ h _).mono ?_; rintro e w' ⟨rfl, rfl⟩))
  go_ret
  exact ⟨rfl, HB1.out⟩
set_option maxHeartbeats 1000000 in
theorem walk_out (a v n m : Int) (h : W.ok v) (hh : n < 0 ∨ m < 0 ∨ 200 < n ∨ 200 < m) (w : World) :
    Calls Try.prog 8 #[.int .u64 a, .int .i64 n, .int .i64 m, .int .i64 v] w fun e w' => e = .returned (.bool true) ∧ Below w.heap.size w w' := by
  by_cases c1 : n < 0
  · go_enter Try.func8, Try.ntmps8
    go_wp2_with (first | (go_at_call 33; refine (alive1 _).mono ?_; rintro e w1 ⟨rfl, hb1⟩; have HB1 := Lib.hid hb1; clear hb1) | (go_at_call 34; refine (width_ok _ h _).mono ?_; rintro e w' ⟨rfl, rfl⟩))
    go_ret
    exact ⟨rfl, HB1.out⟩
  · by_cases c2 : m < 0
    · go_enter Try.func8, Try.ntmps8
      go_wp2_with (first | (go_at_call 33; refine (alive1 _).mono ?_; rintro e w1 ⟨rfl, hb1⟩; have HB1 := Lib.hid hb1; clear hb1) | (go_at_call 34; refine (width_ok _ h _).mono ?_; rintro e w' ⟨rfl, rfl⟩))
      go_ret
      exact ⟨rfl, HB1.out⟩
    · by_cases c3 : 200 < n
      · go_enter Try.func8, Try.ntmps8
        go_wp2_with (first | (go_at_call 33; refine (alive1 _).mono ?_; rintro e w1 ⟨rfl, hb1⟩; have HB1 := Lib.hid hb1; clear hb1) | (go_at_call 34; refine (width_ok _ h _).mono ?_; rintro e w' ⟨rfl, rfl⟩))
        go_ret
        exact ⟨rfl, HB1.out⟩
      · have c4 : 200 < m := by omega
        clear hh
        go_enter Try.func8, Try.ntmps8
        go_wp2_with (first | (go_at_call 33; refine (alive1 _).mono ?_; rintro e w1 ⟨rfl, hb1⟩; have HB1 := Lib.hid hb1; clear hb1) | (go_at_call 34; refine (width_ok _ h _).mono ?_; rintro e w' ⟨rfl, rfl⟩))
        go_ret
        exact ⟨rfl, HB1.out⟩
theorem walk (a : Int) (ha : (Lit.int .u64 a).wf = true) (n : Int) (_ : (Lit.int .i64 n).wf = true) (m : Int) (_ : (Lit.int .i64 m).wf = true) (v : Int) (_ : (Lit.int .i64 v).wf = true) (w : World) :
    Calls Try.prog 8 #[.int .u64 a, .int .i64 n, .int .i64 m, .int .i64 v] w fun e w' => e = .returned (.bool true) ∧ Below w.heap.size w w' := by
  by_cases h : W.ok v
  · by_cases hh : n < 0 ∨ m < 0 ∨ 200 < n ∨ 200 < m
    · exact walk_out a v n m h hh w
    · obtain ⟨n', rfl⟩ := Int.eq_ofNat_of_zero_le (show 0 ≤ n by omega)
      obtain ⟨m', rfl⟩ := Int.eq_ofNat_of_zero_le (show 0 ≤ m by omega)
      exact walk_ok a v n' m' h (W.U_wf ha) (by omega) (by omega) w
  · exact walk_no a v n m h w
end up
end Go.Proofs.Ytgpjhbaehhjdhaa
