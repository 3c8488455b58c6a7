/- Walks of word.size, parts, Div, Rem: what each call hands back, at every argument. -/
import Derived.Test.YtgpjhbaehhjdhaaW2
namespace Go.Proofs.Ytgpjhbaehhjdhaa
open Go.RowKit
set_option linter.unusedVariables false

theorem W.bit8 (x : Int) (h0 : 0 ≤ x) (h1 : x < 256) : bits .and .u64 (x / 128) 1 = x / 128 := by
  have := W.u64_mask 1 (by decide) (x / 128) (by omega) (by omega)
  rw [show ((2 : Int) ^ 1 - 1) = 1 from rfl] at this; rw [this]; omega
theorem W.bit16 (x : Int) (h0 : 0 ≤ x) (h1 : x < 65536) : bits .and .u64 (x / 32768) 1 = x / 32768 := by
  have := W.u64_mask 1 (by decide) (x / 32768) (by omega) (by omega)
  rw [show ((2 : Int) ^ 1 - 1) = 1 from rfl] at this; rw [this]; omega
theorem W.bit32 (x : Int) (h0 : 0 ≤ x) (h1 : x < 4294967296) : bits .and .u64 (x / 2147483648) 1 = x / 2147483648 := by
  have := W.u64_mask 1 (by decide) (x / 2147483648) (by omega) (by omega)
  rw [show ((2 : Int) ^ 1 - 1) = 1 from rfl] at this; rw [this]; omega
theorem W.bit64 (x : Int) (h0 : 0 ≤ x) (h1 : x < 18446744073709551616) : bits .and .u64 (x / 9223372036854775808) 1 = x / 9223372036854775808 := by
  have := W.u64_mask 1 (by decide) (x / 9223372036854775808) (by omega) (by omega)
  rw [show ((2 : Int) ^ 1 - 1) = 1 from rfl] at this; rw [this]; omega
/-- The sign as the walk asks for it. -/
def W.Top (v x s : Int) : Prop := bits .and .u64 (x / s) 1 = if W.ng v x then 1 else 0
theorem W.top8 (x : Int) (h0 : 0 ≤ x) (h1 : x < 256) : W.Top 8 x 128 := by
  unfold W.Top W.ng; rw [W.bit8 x h0 h1, W.md8]; simp only [decide_eq_true_eq]; split <;> omega
theorem W.top16 (x : Int) (h0 : 0 ≤ x) (h1 : x < 65536) : W.Top 16 x 32768 := by
  unfold W.Top W.ng; rw [W.bit16 x h0 h1, W.md16]; simp only [decide_eq_true_eq]; split <;> omega
theorem W.top32 (x : Int) (h0 : 0 ≤ x) (h1 : x < 4294967296) : W.Top 32 x 2147483648 := by
  unfold W.Top W.ng; rw [W.bit32 x h0 h1, W.md32]; simp only [decide_eq_true_eq]; split <;> omega
theorem W.top64 (x : Int) (h0 : 0 ≤ x) (h1 : x < 18446744073709551616) : W.Top 64 x 9223372036854775808 := by
  unfold W.Top W.ng; rw [W.bit64 x h0 h1, W.md64]; simp only [decide_eq_true_eq]; split <;> omega
theorem W.neg_mag (v x : Int) (h : W.ok v) (hx : 0 ≤ x) (hx1 : x < W.md v) (hn : W.ng v x = true) : bits .and .u64 (IntKind.u64.wrap (-x)) (W.mk v) = W.mag v x := by
  rw [W.msk v h _ (W.U_wrap _), W.wrap_u64_mod]
  unfold W.ng at hn; simp only [decide_eq_true_eq] at hn
  unfold W.mag; rw [if_pos hn]
  have := W.md_pos v
  have e : -x = (W.md v - x) - W.md v := by omega
  rw [e, Int.sub_emod, Int.emod_self, Int.sub_zero, Int.emod_emod]
  exact Int.emod_eq_of_lt (by omega) (by omega)
theorem W.nneg_mag (v x : Int) (hn : W.ng v x = false) : x = W.mag v x := by
  unfold W.ng at hn; simp only [decide_eq_false_iff_not] at hn
  unfold W.mag; rw [if_neg hn]
theorem W.topT {v x s : Int} (h : W.Top v x s) (hn : W.ng v x = true) : (bits .and .u64 (x / s) 1 == 1) = true := by rw [h, hn]; rfl
theorem W.topF {v x s : Int} (h : W.Top v x s) (hn : W.ng v x = false) : (bits .and .u64 (x / s) 1 == 1) = false := by rw [h, hn]; rfl

set_option maxHeartbeats 1000000 in
theorem size_t8 (x : Int) (ht : (bits .and .u64 (x / 128) 1 == 1) = true) (w : World) :
    Calls Try.prog 128 #[.int .u64 x, .int .i64 8] w fun e w' => e = .returned (.tuple #[.int .u64 (bits .and .u64 (IntKind.u64.wrap (-x)) 255), .bool true]) ∧ w = w' := by
  go_enter Try.func128, Try.ntmps128
  go_wp2
  go_ret2
  exact ⟨rfl, rfl⟩
set_option maxHeartbeats 1000000 in
theorem size_f8 (x : Int) (ht : (bits .and .u64 (x / 128) 1 == 1) = false) (w : World) :
    Calls Try.prog 128 #[.int .u64 x, .int .i64 8] w fun e w' => e = .returned (.tuple #[.int .u64 x, .bool false]) ∧ w = w' := by
  go_enter Try.func128, Try.ntmps128
  go_wp2
  go_ret2
  exact ⟨rfl, rfl⟩
set_option maxHeartbeats 1000000 in
theorem size_t16 (x : Int) (ht : (bits .and .u64 (x / 32768) 1 == 1) = true) (w : World) :
    Calls Try.prog 128 #[.int .u64 x, .int .i64 16] w fun e w' => e = .returned (.tuple #[.int .u64 (bits .and .u64 (IntKind.u64.wrap (-x)) 65535), .bool true]) ∧ w = w' := by
  go_enter Try.func128, Try.ntmps128
  go_wp2
  go_ret2
  exact ⟨rfl, rfl⟩
set_option maxHeartbeats 1000000 in
theorem size_f16 (x : Int) (ht : (bits .and .u64 (x / 32768) 1 == 1) = false) (w : World) :
    Calls Try.prog 128 #[.int .u64 x, .int .i64 16] w fun e w' => e = .returned (.tuple #[.int .u64 x, .bool false]) ∧ w = w' := by
  go_enter Try.func128, Try.ntmps128
  go_wp2
  go_ret2
  exact ⟨rfl, rfl⟩
set_option maxHeartbeats 1000000 in
theorem size_t32 (x : Int) (ht : (bits .and .u64 (x / 2147483648) 1 == 1) = true) (w : World) :
    Calls Try.prog 128 #[.int .u64 x, .int .i64 32] w fun e w' => e = .returned (.tuple #[.int .u64 (bits .and .u64 (IntKind.u64.wrap (-x)) 4294967295), .bool true]) ∧ w = w' := by
  go_enter Try.func128, Try.ntmps128
  go_wp2
  go_ret2
  exact ⟨rfl, rfl⟩
set_option maxHeartbeats 1000000 in
theorem size_f32 (x : Int) (ht : (bits .and .u64 (x / 2147483648) 1 == 1) = false) (w : World) :
    Calls Try.prog 128 #[.int .u64 x, .int .i64 32] w fun e w' => e = .returned (.tuple #[.int .u64 x, .bool false]) ∧ w = w' := by
  go_enter Try.func128, Try.ntmps128
  go_wp2
  go_ret2
  exact ⟨rfl, rfl⟩
set_option maxHeartbeats 1000000 in
theorem size_t64 (x : Int) (ht : (bits .and .u64 (x / 9223372036854775808) 1 == 1) = true) (w : World) :
    Calls Try.prog 128 #[.int .u64 x, .int .i64 64] w fun e w' => e = .returned (.tuple #[.int .u64 (bits .and .u64 (IntKind.u64.wrap (-x)) 18446744073709551615), .bool true]) ∧ w = w' := by
  go_enter Try.func128, Try.ntmps128
  go_wp2
  go_ret2
  exact ⟨rfl, rfl⟩
set_option maxHeartbeats 1000000 in
theorem size_f64 (x : Int) (ht : (bits .and .u64 (x / 9223372036854775808) 1 == 1) = false) (w : World) :
    Calls Try.prog 128 #[.int .u64 x, .int .i64 64] w fun e w' => e = .returned (.tuple #[.int .u64 x, .bool false]) ∧ w = w' := by
  go_enter Try.func128, Try.ntmps128
  go_wp2
  go_ret2
  exact ⟨rfl, rfl⟩

theorem size_ok (x v X : Int) (n : Bool) (h : W.ok v) (h0 : 0 ≤ x) (h1 : x < W.md v) (hX : W.mag v x = X) (hn : W.ng v x = n) (w : World) :
    Calls Try.prog 128 #[.int .u64 x, .int .i64 v] w fun e w' => e = .returned (.tuple #[.int .u64 X, .bool n]) ∧ w = w' := by
  subst hX
  cases n
  · have e := W.nneg_mag v x hn
    rw [← e]
    rcases h with rfl | rfl | rfl | rfl
    · exact size_f8 x (W.topF (W.top8 x h0 h1) hn) w
    · exact size_f16 x (W.topF (W.top16 x h0 h1) hn) w
    · exact size_f32 x (W.topF (W.top32 x h0 h1) hn) w
    · exact size_f64 x (W.topF (W.top64 x h0 h1) hn) w
  · have e := W.neg_mag v x h h0 h1 hn
    rw [← e]
    rcases h with rfl | rfl | rfl | rfl
    · exact size_t8 x (W.topT (W.top8 x h0 h1) hn) w
    · exact size_t16 x (W.topT (W.top16 x h0 h1) hn) w
    · exact size_t32 x (W.topT (W.top32 x h0 h1) hn) w
    · exact size_t64 x (W.topT (W.top64 x h0 h1) hn) w

set_option maxHeartbeats 400000 in
theorem parts_no (a b v : Int) (s : Bool) (h : ¬ W.ok v) (w : World) :
    Calls Try.prog 104 #[.int .u64 a, .int .u64 b, .int .i64 v, .bool s] w fun e w' => e = .returned (.tuple #[.int .u64 0, .int .u64 0, .int .i64 1]) ∧ w = w' := by
  go_enter Try.func104, Try.ntmps104
  go_wp2_with (first | (go_at_call 34; refine (width_no _ h _).mono ?_; rintro e w' ⟨rfl, rfl⟩))
  go_ret3
  exact ⟨rfl, rfl⟩
set_option maxHeartbeats 400000 in
theorem parts_zero (a b v : Int) (s : Bool) (h : W.ok v) (hB : bits .and .u64 b (W.mk v) = 0) (w : World) :
    Calls Try.prog 104 #[.int .u64 a, .int .u64 b, .int .i64 v, .bool s] w fun e w' => e = .returned (.tuple #[.int .u64 0, .int .u64 0, .int .i64 10]) ∧ w = w' := by
  go_enter Try.func104, Try.ntmps104
  go_wp2_with (first | (go_at_call 34; refine (width_ok _ h _).mono ?_; rintro e w' ⟨rfl, rfl⟩) | (go_at_call 79; refine (mask_ok _ h _).mono ?_; rintro e w' ⟨rfl, rfl⟩))
  go_ret3
  exact ⟨rfl, rfl⟩
/-- After some draws. -/
def Drawn (w w' : World) : Prop := ∃ n, w' = w.drewN n
set_option maxHeartbeats 1000000 in
theorem parts_plain (a b v A B : Int) (h : W.ok v) (hA : bits .and .u64 a (W.mk v) = A) (hB : bits .and .u64 b (W.mk v) = B) (hB1 : 1 ≤ B) (hA0 : 0 ≤ A) (hA1 : A ≤ 18446744073709551615) (hB2 : (B == 0) = false) (w : World) :
    Calls Try.prog 104 #[.int .u64 a, .int .u64 b, .int .i64 v, .bool false] w fun e w' => e = .returned (.tuple #[.int .u64 (A / B), .int .u64 (A % B), .int .i64 0]) ∧ Drawn w w' := by
  go_enter Try.func104, Try.ntmps104
  go_wp2_with (first | (go_at_call 34; refine (width_ok _ h _).mono ?_; rintro e w' ⟨rfl, rfl⟩) | (go_at_call 79; refine (mask_ok _ h _).mono ?_; rintro e w' ⟨rfl, rfl⟩))
  go_quiet (fail)
  go_wp2
  go_ret3
  exact ⟨rfl, _, rfl⟩
end Go.Proofs.Ytgpjhbaehhjdhaa
