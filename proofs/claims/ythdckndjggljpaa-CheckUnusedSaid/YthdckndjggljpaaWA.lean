/- Walks of word.Signed, size, parts, Div, Rem, Shl, Shr, Less: what each call hands back, at every argument. -/
import Derived.Test.YthdckndjggljpaaB0
import Derived.Deep.QuietTactic
import Derived.BigQuiet
import Derived.Lib.Hide
import Derived.Deep.RegionWith
namespace Go.Proofs.Ythdckndjggljpaa
open Go.RowKit
set_option linter.unusedVariables false

set_option maxHeartbeats 400000 in
theorem mask_ok (v : Int) (h : W.ok v) (w : World) : Calls Try.prog 89 #[.int .i64 v] w fun e w' => e = .returned (.int .u64 (W.mk v)) ∧ w = w' := by
  rcases h with rfl | rfl | rfl | rfl
  all_goals
    go_enter Try.func89, Try.ntmps89
    go_wp2
    go_ret
    exact ⟨rfl, rfl⟩
set_option maxHeartbeats 1000000 in
theorem signed_ok (a v : Int) (h : W.ok v) (w : World) : Calls Try.prog 59 #[.int .u64 a, .int .i64 v] w fun e w' => e = .returned (.tuple #[.int .i64 (W.sg v a), .int .i64 0]) ∧ w = w' := by
  rcases h with rfl | rfl | rfl | rfl
  · go_enter Try.func59, Try.ntmps59
    go_wp2
    go_ret2
    exact ⟨W.ret2 (W.i64 (W.sg8 a)) rfl, rfl⟩
  · go_enter Try.func59, Try.ntmps59
    go_wp2
    go_ret2
    exact ⟨W.ret2 (W.i64 (W.sg16 a)) rfl, rfl⟩
  · go_enter Try.func59, Try.ntmps59
    go_wp2
    go_ret2
    exact ⟨W.ret2 (W.i64 (W.sg32 a)) rfl, rfl⟩
  · go_enter Try.func59, Try.ntmps59
    go_wp2
    go_ret2
    exact ⟨W.ret2 (W.i64 (W.sg64 a)) rfl, rfl⟩
set_option maxHeartbeats 400000 in
theorem signed_no (a v : Int) (h : ¬ W.ok v) (w : World) : Calls Try.prog 59 #[.int .u64 a, .int .i64 v] w fun e w' => e = .returned (.tuple #[.int .i64 0, .int .i64 1]) ∧ w = w' := by
  go_enter Try.func59, Try.ntmps59
  go_wp2_with (first | (go_at_call 56; refine (width_no v h _).mono ?_; rintro e w' ⟨rfl, rfl⟩) | go_in)
  go_ret2
  exact ⟨rfl, rfl⟩

set_option maxHeartbeats 1000000 in
theorem less_ok (a b v A B : Int) (s : Bool) (h : W.ok v) (hA : bits .and .u64 a (W.mk v) = A) (hB : bits .and .u64 b (W.mk v) = B) (w : World) :
    Calls Try.prog 96 #[.int .u64 a, .int .u64 b, .int .i64 v, .bool s] w fun e w' => e = .returned (.tuple #[.bool (if s then decide (W.sg v a < W.sg v b) else decide (A < B)), .int .i64 0]) ∧ w = w' := by
  cases s
  · go_enter Try.func96, Try.ntmps96
    go_wp2_with (first | (go_at_call 59; refine (signed_ok _ _ h _).mono ?_; rintro e w' ⟨rfl, rfl⟩) | (go_at_call 89; refine (mask_ok _ h _).mono ?_; rintro e w' ⟨rfl, rfl⟩))
    go_ret2
    exact ⟨rfl, rfl⟩
  · go_enter Try.func96, Try.ntmps96
    go_wp2_with (first | (go_at_call 59; refine (signed_ok _ _ h _).mono ?_; rintro e w' ⟨rfl, rfl⟩) | (go_at_call 89; refine (mask_ok _ h _).mono ?_; rintro e w' ⟨rfl, rfl⟩))
    go_ret2
    exact ⟨rfl, rfl⟩
theorem less_any (a b v : Int) (s : Bool) (h : W.ok v) (ha : W.U a) (hb : W.U b) (w : World) :
    Calls Try.prog 96 #[.int .u64 a, .int .u64 b, .int .i64 v, .bool s] w fun e w' => e = .returned (.tuple #[.bool (W.less v s a b), .int .i64 0]) ∧ w = w' :=
  less_ok a b v _ _ s h (W.msk v h a ha) (W.msk v h b hb) w
set_option maxHeartbeats 400000 in
theorem less_no (a b v : Int) (s : Bool) (h : ¬ W.ok v) (w : World) : Calls Try.prog 96 #[.int .u64 a, .int .u64 b, .int .i64 v, .bool s] w fun e w' => e = .returned (.tuple #[.bool false, .int .i64 1]) ∧ w = w' := by
  go_enter Try.func96, Try.ntmps96
  go_wp2_with (first | (go_at_call 59; refine (signed_no _ _ h _).mono ?_; rintro e w' ⟨rfl, rfl⟩))
  go_ret2
  exact ⟨rfl, rfl⟩

set_option maxHeartbeats 1000000 in
theorem shr_ok (a n v A : Int) (s : Bool) (h : W.ok v) (hn : 0 ≤ n) (hA : bits .and .u64 a (W.mk v) = A) (w : World) :
    Calls Try.prog 66 #[.int .u64 a, .int .u64 n, .int .i64 v, .bool s] w fun e w' => e = .returned (.tuple #[.int .u64 (if s then bits .and .u64 (IntKind.u64.wrap (W.sg v a / 2 ^ min n.toNat 64)) (W.mk v) else A / 2 ^ min n.toNat 64), .int .i64 0]) ∧ w = w' := by
  cases s
  · go_enter Try.func66, Try.ntmps66
    go_wp2_with (first | (go_at_call 59; refine (signed_ok _ _ h _).mono ?_; rintro e w' ⟨rfl, rfl⟩) | (go_at_call 89; refine (mask_ok _ h _).mono ?_; rintro e w' ⟨rfl, rfl⟩))
    go_ret2
    exact ⟨rfl, rfl⟩
  · go_enter Try.func66, Try.ntmps66
    go_wp2_with (first | (go_at_call 59; refine (signed_ok _ _ h _).mono ?_; rintro e w' ⟨rfl, rfl⟩) | (go_at_call 89; refine (mask_ok _ h _).mono ?_; rintro e w' ⟨rfl, rfl⟩))
    go_ret2
    exact ⟨rfl, rfl⟩
theorem shr_any (a n v : Int) (s : Bool) (h : W.ok v) (ha : W.U a) (hn : 0 ≤ n) (w : World) :
    Calls Try.prog 66 #[.int .u64 a, .int .u64 n, .int .i64 v, .bool s] w fun e w' => e = .returned (.tuple #[.int .u64 (W.shr v s a n), .int .i64 0]) ∧ w = w' := by
  refine (shr_ok a n v _ s h hn (W.msk v h a ha) w).mono ?_
  rintro e w' ⟨rfl, rfl⟩
  refine ⟨W.ret2 (W.u64 ?_) rfl, rfl⟩
  unfold W.shr
  cases s
  · rfl
  · simp only [if_true]
    rw [W.msk v h _ (W.U_wrap _), W.wrap_u64_mod]
set_option maxHeartbeats 400000 in
theorem shr_no (a n v : Int) (s : Bool) (h : ¬ W.ok v) (w : World) : Calls Try.prog 66 #[.int .u64 a, .int .u64 n, .int .i64 v, .bool s] w fun e w' => e = .returned (.tuple #[.int .u64 0, .int .i64 1]) ∧ w = w' := by
  go_enter Try.func66, Try.ntmps66
  go_wp2_with (first | (go_at_call 59; refine (signed_no _ _ h _).mono ?_; rintro e w' ⟨rfl, rfl⟩))
  go_ret2
  exact ⟨rfl, rfl⟩

set_option maxHeartbeats 1000000 in
theorem shl_ok (a n v : Int) (h : W.ok v) (ha : W.U a) (hn : 0 ≤ n) (w : World) :
    Calls Try.prog 65 #[.int .u64 a, .int .u64 n, .int .i64 v] w fun e w' => e = .returned (.tuple #[.int .u64 (W.shl v a n), .int .i64 0]) ∧ w' = w.alloc (.cells #[.int .u64 n] 60) := by
  go_enter Try.func65, Try.ntmps65
  go_wp2_with (first | (go_at_call 56; refine (width_ok _ h _).mono ?_; rintro e w' ⟨rfl, rfl⟩) | (go_at_call 89; refine (mask_ok _ h _).mono ?_; rintro e w' ⟨rfl, rfl⟩) | go_in)
  go_ret2
  exact ⟨W.ret2 (W.u64 (W.both_shl _ (W.msk v h) ha)) rfl, rfl⟩
set_option maxHeartbeats 400000 in
theorem shl_no (a n v : Int) (h : ¬ W.ok v) (w : World) :
    Calls Try.prog 65 #[.int .u64 a, .int .u64 n, .int .i64 v] w fun e w' => e = .returned (.tuple #[.int .u64 0, .int .i64 1]) ∧ w' = w.alloc (.cells #[.int .u64 n] 60) := by
  go_enter Try.func65, Try.ntmps65
  go_wp2_with (first | (go_at_call 56; refine (width_no _ h _).mono ?_; rintro e w' ⟨rfl, rfl⟩) | go_in)
  go_ret2
  exact ⟨rfl, rfl⟩
end Go.Proofs.Ythdckndjggljpaa
/- Walks of word.size, parts, Div, Rem: what each call hands back, at every argument. -/
namespace Go.Proofs.Ythdckndjggljpaa
open Go.RowKit
set_option linter.unusedVariables false

theorem W.bit8 (x : Int) (h0 : 0 ≤ x) (h1 : x < 256) : bits .and .u64 (x / 128) 1 = x / 128 := by
  have := W.u64_mask 1 (by decide) (x / 128) (by omega) (by omega)
  rw [show ((2 : Int) ^ 1 - 1) = 1 from rfl] at this; rw [this]; omega
theorem W.bit16 (x : Int) (h0 : 0 ≤ x) (h1 : x < 65536) : bits .and .u64 (x / 32768) 1 = x / 32768 := by
  have := W.u64_mask 1 (by decide) (x / 32768) (by omega) (by omega)
  rw [show ((2 : Int) ^ 1 - 1) = 1 from rfl] at this; rw [this]; omega
theorem W.bit32 (x : Int) (h0 : 0 ≤ x) (h1 : x < 4294967296) : bits .and .u64 (x / 2147483648) 1 = x / 2147483648 := by
  have := W.u64_mask 1 (by decide) (x / 2147483648) (by omega) (by omega)
  rw [show ((2 : Int) ^ 1 - 1) = 1 from rfl] at this; rw [this]; omega
theorem W.bit64 (x : Int) (h0 : 0 ≤ x) (h1 : x < 18446744073709551616) : bits .and .u64 (x / 9223372036854775808) 1 = x / 9223372036854775808 := by
  have := W.u64_mask 1 (by decide) (x / 9223372036854775808) (by omega) (by omega)
  rw [show ((2 : Int) ^ 1 - 1) = 1 from rfl] at this; rw [this]; omega
/-- The sign as the walk asks for it. -/
def W.Top (v x s : Int) : Prop := bits .and .u64 (x / s) 1 = if W.ng v x then 1 else 0
theorem W.top8 (x : Int) (h0 : 0 ≤ x) (h1 : x < 256) : W.Top 8 x 128 := by
  unfold W.Top W.ng; rw [W.bit8 x h0 h1, W.md8]; simp only [decide_eq_true_eq]; split <;> omega
theorem W.top16 (x : Int) (h0 : 0 ≤ x) (h1 : x < 65536) : W.Top 16 x 32768 := by
  unfold W.Top W.ng; rw [W.bit16 x h0 h1, W.md16]; simp only [decide_eq_true_eq]; split <;> omega
theorem W.top32 (x : Int) (h0 : 0 ≤ x) (h1 : x < 4294967296) : W.Top 32 x 2147483648 := by
  unfold W.Top W.ng; rw [W.bit32 x h0 h1, W.md32]; simp only [decide_eq_true_eq]; split <;> omega
theorem W.top64 (x : Int) (h0 : 0 ≤ x) (h1 : x < 18446744073709551616) : W.Top 64 x 9223372036854775808 := by
  unfold W.Top W.ng; rw [W.bit64 x h0 h1, W.md64]; simp only [decide_eq_true_eq]; split <;> omega
theorem W.neg_mag (v x : Int) (h : W.ok v) (hx : 0 ≤ x) (hx1 : x < W.md v) (hn : W.ng v x = true) : bits .and .u64 (IntKind.u64.wrap (-x)) (W.mk v) = W.mag v x := by
  rw [W.msk v h _ (W.U_wrap _), W.wrap_u64_mod]
  unfold W.ng at hn; simp only [decide_eq_true_eq] at hn
  unfold W.mag; rw [if_pos hn]
  have := W.md_pos v
  have e : -x = (W.md v - x) - W.md v := by omega
  rw [e, Int.sub_emod, Int.emod_self, Int.sub_zero, Int.emod_emod]
  exact Int.emod_eq_of_lt (by omega) (by omega)
theorem W.nneg_mag (v x : Int) (hn : W.ng v x = false) : x = W.mag v x := by
  unfold W.ng at hn; simp only [decide_eq_false_iff_not] at hn
  unfold W.mag; rw [if_neg hn]
theorem W.topT {v x s : Int} (h : W.Top v x s) (hn : W.ng v x = true) : (bits .and .u64 (x / s) 1 == 1) = true := by rw [h, hn]; rfl
theorem W.topF {v x s : Int} (h : W.Top v x s) (hn : W.ng v x = false) : (bits .and .u64 (x / s) 1 == 1) = false := by rw [h, hn]; rfl

set_option maxHeartbeats 1000000 in
theorem size_t8 (x : Int) (ht : (bits .and .u64 (x / 128) 1 == 1) = true) (w : World) :
    Calls Try.prog 100 #[.int .u64 x, .int .i64 8] w fun e w' => e = .returned (.tuple #[.int .u64 (bits .and .u64 (IntKind.u64.wrap (-x)) 255), .bool true]) ∧ w = w' := by
  go_enter Try.func100, Try.ntmps100
  go_wp2
  go_ret2
  exact ⟨rfl, rfl⟩
set_option maxHeartbeats 1000000 in
theorem size_f8 (x : Int) (ht : (bits .and .u64 (x / 128) 1 == 1) = false) (w : World) :
    Calls Try.prog 100 #[.int .u64 x, .int .i64 8] w fun e w' => e = .returned (.tuple #[.int .u64 x, .bool false]) ∧ w = w' := by
  go_enter Try.func100, Try.ntmps100
  go_wp2
  go_ret2
  exact ⟨rfl, rfl⟩
set_option maxHeartbeats 1000000 in
theorem size_t16 (x : Int) (ht : (bits .and .u64 (x / 32768) 1 == 1) = true) (w : World) :
    Calls Try.prog 100 #[.int .u64 x, .int .i64 16] w fun e w' => e = .returned (.tuple #[.int .u64 (bits .and .u64 (IntKind.u64.wrap (-x)) 65535), .bool true]) ∧ w = w' := by
  go_enter Try.func100, Try.ntmps100
  go_wp2
  go_ret2
  exact ⟨rfl, rfl⟩
set_option maxHeartbeats 1000000 in
theorem size_f16 (x : Int) (ht : (bits .and .u64 (x / 32768) 1 == 1) = false) (w : World) :
    Calls Try.prog 100 #[.int .u64 x, .int .i64 16] w fun e w' => e = .returned (.tuple #[.int .u64 x, .bool false]) ∧ w = w' := by
  go_enter Try.func100, Try.ntmps100
  go_wp2
  go_ret2
  exact ⟨rfl, rfl⟩
set_option maxHeartbeats 1000000 in
theorem size_t32 (x : Int) (ht : (bits .and .u64 (x / 2147483648) 1 == 1) = true) (w : World) :
    Calls Try.prog 100 #[.int .u64 x, .int .i64 32] w fun e w' => e = .returned (.tuple #[.int .u64 (bits .and .u64 (IntKind.u64.wrap (-x)) 4294967295), .bool true]) ∧ w = w' := by
  go_enter Try.func100, Try.ntmps100
  go_wp2
  go_ret2
  exact ⟨rfl, rfl⟩
set_option maxHeartbeats 1000000 in
theorem size_f32 (x : Int) (ht : (bits .and .u64 (x / 2147483648) 1 == 1) = false) (w : World) :
    Calls Try.prog 100 #[.int .u64 x, .int .i64 32] w fun e w' => e = .returned (.tuple #[.int .u64 x, .bool false]) ∧ w = w' := by
  go_enter Try.func100, Try.ntmps100
  go_wp2
  go_ret2
  exact ⟨rfl, rfl⟩
set_option maxHeartbeats 1000000 in
theorem size_t64 (x : Int) (ht : (bits .and .u64 (x / 9223372036854775808) 1 == 1) = true) (w : World) :
    Calls Try.prog 100 #[.int .u64 x, .int .i64 64] w fun e w' => e = .returned (.tuple #[.int .u64 (bits .and .u64 (IntKind.u64.wrap (-x)) 18446744073709551615), .bool true]) ∧ w = w' := by
  go_enter Try.func100, Try.ntmps100
  go_wp2
  go_ret2
  exact ⟨rfl, rfl⟩
set_option maxHeartbeats 1000000 in
theorem size_f64 (x : Int) (ht : (bits .and .u64 (x / 9223372036854775808) 1 == 1) = false) (w : World) :
    Calls Try.prog 100 #[.int .u64 x, .int .i64 64] w fun e w' => e = .returned (.tuple #[.int .u64 x, .bool false]) ∧ w = w' := by
  go_enter Try.func100, Try.ntmps100
  go_wp2
  go_ret2
  exact ⟨rfl, rfl⟩

theorem size_ok (x v X : Int) (n : Bool) (h : W.ok v) (h0 : 0 ≤ x) (h1 : x < W.md v) (hX : W.mag v x = X) (hn : W.ng v x = n) (w : World) :
    Calls Try.prog 100 #[.int .u64 x, .int .i64 v] w fun e w' => e = .returned (.tuple #[.int .u64 X, .bool n]) ∧ w = w' := by
  subst hX
  cases n
  · have e := W.nneg_mag v x hn
    rw [← e]
    rcases h with rfl | rfl | rfl | rfl
    · exact size_f8 x (W.topF (W.top8 x h0 h1) hn) w
    · exact size_f16 x (W.topF (W.top16 x h0 h1) hn) w
    · exact size_f32 x (W.topF (W.top32 x h0 h1) hn) w
    · exact size_f64 x (W.topF (W.top64 x h0 h1) hn) w
  · have e := W.neg_mag v x h h0 h1 hn
    rw [← e]
    rcases h with rfl | rfl | rfl | rfl
    · exact size_t8 x (W.topT (W.top8 x h0 h1) hn) w
    · exact size_t16 x (W.topT (W.top16 x h0 h1) hn) w
    · exact size_t32 x (W.topT (W.top32 x h0 h1) hn) w
    · exact size_t64 x (W.topT (W.top64 x h0 h1) hn) w

set_option maxHeartbeats 400000 in
theorem parts_no (a b v : Int) (s : Bool) (h : ¬ W.ok v) (w : World) :
    Calls Try.prog 94 #[.int .u64 a, .int .u64 b, .int .i64 v, .bool s] w fun e w' => e = .returned (.tuple #[.int .u64 0, .int .u64 0, .int .i64 1]) ∧ w = w' := by
  go_enter Try.func94, Try.ntmps94
  go_wp2_with (first | (go_at_call 56; refine (width_no _ h _).mono ?_; rintro e w' ⟨rfl, rfl⟩))
  go_ret3
  exact ⟨rfl, rfl⟩
set_option maxHeartbeats 400000 in
theorem parts_zero (a b v : Int) (s : Bool) (h : W.ok v) (hB : bits .and .u64 b (W.mk v) = 0) (w : World) :
    Calls Try.prog 94 #[.int .u64 a, .int .u64 b, .int .i64 v, .bool s] w fun e w' => e = .returned (.tuple #[.int .u64 0, .int .u64 0, .int .i64 10]) ∧ w = w' := by
  go_enter Try.func94, Try.ntmps94
  go_wp2_with (first | (go_at_call 56; refine (width_ok _ h _).mono ?_; rintro e w' ⟨rfl, rfl⟩) | (go_at_call 89; refine (mask_ok _ h _).mono ?_; rintro e w' ⟨rfl, rfl⟩))
  go_ret3
  exact ⟨rfl, rfl⟩
/-- After some draws. -/
def Drawn (w w' : World) : Prop := ∃ n, w' = w.drewN n
set_option maxHeartbeats 1000000 in
theorem parts_plain (a b v A B : Int) (h : W.ok v) (hA : bits .and .u64 a (W.mk v) = A) (hB : bits .and .u64 b (W.mk v) = B) (hB1 : 1 ≤ B) (hA0 : 0 ≤ A) (hA1 : A ≤ 18446744073709551615) (hB2 : (B == 0) = false) (w : World) :
    Calls Try.prog 94 #[.int .u64 a, .int .u64 b, .int .i64 v, .bool false] w fun e w' => e = .returned (.tuple #[.int .u64 (A / B), .int .u64 (A % B), .int .i64 0]) ∧ Drawn w w' := by
  go_enter Try.func94, Try.ntmps94
  go_wp2_with (first | (go_at_call 56; refine (width_ok _ h _).mono ?_; rintro e w' ⟨rfl, rfl⟩) | (go_at_call 89; refine (mask_ok _ h _).mono ?_; rintro e w' ⟨rfl, rfl⟩))
  go_quiet (fail)
  go_wp2
  go_ret3
  exact ⟨rfl, _, rfl⟩
end Go.Proofs.Ythdckndjggljpaa

/- Walks of word.parts with signs, Div, Rem: what each call hands back, at every argument. -/
namespace Go.Proofs.Ythdckndjggljpaa
open Go.RowKit
set_option linter.unusedVariables false

set_option maxHeartbeats 1000000 in
theorem parts_ff (a b v A B X Y : Int) (h : W.ok v) (hA : bits .and .u64 a (W.mk v) = A) (hB : bits .and .u64 b (W.mk v) = B) (hA0 : 0 ≤ A) (hA1 : A < W.md v) (hB0 : 0 ≤ B) (hB1 : B < W.md v) (hB2 : (B == 0) = false)
    (hX : W.mag v A = X) (hY : W.mag v B = Y) (ha : W.ng v A = false) (hb : W.ng v B = false) (hX0 : 0 ≤ X) (hX1 : X ≤ 18446744073709551615) (hY0 : 1 ≤ Y) (w : World) :
    Calls Try.prog 94 #[.int .u64 a, .int .u64 b, .int .i64 v, .bool true] w fun e w' => e = .returned (.tuple #[.int .u64 (bits .and .u64 (X / Y) (W.mk v)), .int .u64 (bits .and .u64 (X % Y) (W.mk v)), .int .i64 0]) ∧ Drawn w w' := by
  have HX := Lib.hid hX; have HY := Lib.hid hY; have Ha := Lib.hid ha; have Hb := Lib.hid hb
  clear hX hY ha hb
  go_enter Try.func94, Try.ntmps94
  go_wp2_with (first | (go_at_call 56; refine (width_ok _ h _).mono ?_; rintro e w' ⟨rfl, rfl⟩) | (go_at_call 89; refine (mask_ok _ h _).mono ?_; rintro e w' ⟨rfl, rfl⟩) | (go_at_call_of 100 (Value.int IntKind.u64 A); refine (size_ok A v X false h hA0 hA1 HX.out Ha.out _).mono ?_; rintro e w' ⟨rfl, rfl⟩) | (go_at_call_of 100 (Value.int IntKind.u64 B); refine (size_ok B v Y false h hB0 hB1 HY.out Hb.out _).mono ?_; rintro e w' ⟨rfl, rfl⟩))
  go_quiet (fail)
  go_wp2_with (first | (go_at_call 89; refine (mask_ok _ h _).mono ?_; rintro e w' ⟨rfl, rfl⟩))
  go_ret3
  exact ⟨rfl, _, rfl⟩
set_option maxHeartbeats 1000000 in
theorem parts_ft (a b v A B X Y : Int) (h : W.ok v) (hA : bits .and .u64 a (W.mk v) = A) (hB : bits .and .u64 b (W.mk v) = B) (hA0 : 0 ≤ A) (hA1 : A < W.md v) (hB0 : 0 ≤ B) (hB1 : B < W.md v) (hB2 : (B == 0) = false)
    (hX : W.mag v A = X) (hY : W.mag v B = Y) (ha : W.ng v A = false) (hb : W.ng v B = true) (hX0 : 0 ≤ X) (hX1 : X ≤ 18446744073709551615) (hY0 : 1 ≤ Y) (w : World) :
    Calls Try.prog 94 #[.int .u64 a, .int .u64 b, .int .i64 v, .bool true] w fun e w' => e = .returned (.tuple #[.int .u64 (bits .and .u64 (IntKind.u64.wrap (-(X / Y))) (W.mk v)), .int .u64 (bits .and .u64 (X % Y) (W.mk v)), .int .i64 0]) ∧ Drawn w w' := by
  have HX := Lib.hid hX; have HY := Lib.hid hY; have Ha := Lib.hid ha; have Hb := Lib.hid hb
  clear hX hY ha hb
  go_enter Try.func94, Try.ntmps94
  go_wp2_with (first | (go_at_call 56; refine (width_ok _ h _).mono ?_; rintro e w' ⟨rfl, rfl⟩) | (go_at_call 89; refine (mask_ok _ h _).mono ?_; rintro e w' ⟨rfl, rfl⟩) | (go_at_call_of 100 (Value.int IntKind.u64 A); refine (size_ok A v X false h hA0 hA1 HX.out Ha.out _).mono ?_; rintro e w' ⟨rfl, rfl⟩) | (go_at_call_of 100 (Value.int IntKind.u64 B); refine (size_ok B v Y true h hB0 hB1 HY.out Hb.out _).mono ?_; rintro e w' ⟨rfl, rfl⟩))
  go_quiet (fail)
  go_wp2_with (first | (go_at_call 89; refine (mask_ok _ h _).mono ?_; rintro e w' ⟨rfl, rfl⟩))
  go_ret3
  exact ⟨rfl, _, rfl⟩
set_option maxHeartbeats 1000000 in
theorem parts_tf (a b v A B X Y : Int) (h : W.ok v) (hA : bits .and .u64 a (W.mk v) = A) (hB : bits .and .u64 b (W.mk v) = B) (hA0 : 0 ≤ A) (hA1 : A < W.md v) (hB0 : 0 ≤ B) (hB1 : B < W.md v) (hB2 : (B == 0) = false)
    (hX : W.mag v A = X) (hY : W.mag v B = Y) (ha : W.ng v A = true) (hb : W.ng v B = false) (hX0 : 0 ≤ X) (hX1 : X ≤ 18446744073709551615) (hY0 : 1 ≤ Y) (w : World) :
    Calls Try.prog 94 #[.int .u64 a, .int .u64 b, .int .i64 v, .bool true] w fun e w' => e = .returned (.tuple #[.int .u64 (bits .and .u64 (IntKind.u64.wrap (-(X / Y))) (W.mk v)), .int .u64 (bits .and .u64 (IntKind.u64.wrap (-(X % Y))) (W.mk v)), .int .i64 0]) ∧ Drawn w w' := by
  have HX := Lib.hid hX; have HY := Lib.hid hY; have Ha := Lib.hid ha; have Hb := Lib.hid hb
  clear hX hY ha hb
  go_enter Try.func94, Try.ntmps94
  go_wp2_with (first | (go_at_call 56; refine (width_ok _ h _).mono ?_; rintro e w' ⟨rfl, rfl⟩) | (go_at_call 89; refine (mask_ok _ h _).mono ?_; rintro e w' ⟨rfl, rfl⟩) | (go_at_call_of 100 (Value.int IntKind.u64 A); refine (size_ok A v X true h hA0 hA1 HX.out Ha.out _).mono ?_; rintro e w' ⟨rfl, rfl⟩) | (go_at_call_of 100 (Value.int IntKind.u64 B); refine (size_ok B v Y false h hB0 hB1 HY.out Hb.out _).mono ?_; rintro e w' ⟨rfl, rfl⟩))
  go_quiet (fail)
  go_wp2_with (first | (go_at_call 89; refine (mask_ok _ h _).mono ?_; rintro e w' ⟨rfl, rfl⟩))
  go_ret3
  exact ⟨rfl, _, rfl⟩
set_option maxHeartbeats 1000000 in
theorem parts_tt (a b v A B X Y : Int) (h : W.ok v) (hA : bits .and .u64 a (W.mk v) = A) (hB : bits .and .u64 b (W.mk v) = B) (hA0 : 0 ≤ A) (hA1 : A < W.md v) (hB0 : 0 ≤ B) (hB1 : B < W.md v) (hB2 : (B == 0) = false)
    (hX : W.mag v A = X) (hY : W.mag v B = Y) (ha : W.ng v A = true) (hb : W.ng v B = true) (hX0 : 0 ≤ X) (hX1 : X ≤ 18446744073709551615) (hY0 : 1 ≤ Y) (w : World) :
    Calls Try.prog 94 #[.int .u64 a, .int .u64 b, .int .i64 v, .bool true] w fun e w' => e = .returned (.tuple #[.int .u64 (bits .and .u64 (X / Y) (W.mk v)), .int .u64 (bits .and .u64 (IntKind.u64.wrap (-(X % Y))) (W.mk v)), .int .i64 0]) ∧ Drawn w w' := by
  have HX := Lib.hid hX; have HY := Lib.hid hY; have Ha := Lib.hid ha; have Hb := Lib.hid hb
  clear hX hY ha hb
  go_enter Try.func94, Try.ntmps94
  go_wp2_with (first | (go_at_call 56; refine (width_ok _ h _).mono ?_; rintro e w' ⟨rfl, rfl⟩) | (go_at_call 89; refine (mask_ok _ h _).mono ?_; rintro e w' ⟨rfl, rfl⟩) | (go_at_call_of 100 (Value.int IntKind.u64 A); refine (size_ok A v X true h hA0 hA1 HX.out Ha.out _).mono ?_; rintro e w' ⟨rfl, rfl⟩) | (go_at_call_of 100 (Value.int IntKind.u64 B); refine (size_ok B v Y true h hB0 hB1 HY.out Hb.out _).mono ?_; rintro e w' ⟨rfl, rfl⟩))
  go_quiet (fail)
  go_wp2_with (first | (go_at_call 89; refine (mask_ok _ h _).mono ?_; rintro e w' ⟨rfl, rfl⟩))
  go_ret3
  exact ⟨rfl, _, rfl⟩

/-- THE CONTRACT OF parts, where there is a quotient. -/
theorem parts_ok (a b v : Int) (s : Bool) (h : W.ok v) (ha : W.U a) (hb : W.U b) (hz : b % W.md v ≠ 0) (w : World) :
    Calls Try.prog 94 #[.int .u64 a, .int .u64 b, .int .i64 v, .bool s] w fun e w' => e = .returned (.tuple #[.int .u64 (W.quo v s a b), .int .u64 (W.rem v s a b), .int .i64 0]) ∧ Drawn w w' := by
  have hA := W.msk v h a ha
  have hB := W.msk v h b hb
  have a0 := W.mod_lo a v; have a1 := W.mod_hi a v; have a2 := W.mod_le a v
  have b0 := W.mod_lo b v; have b1 := W.mod_hi b v; have b2 := W.mod_le b v
  have hz' : (b % W.md v == 0) = false := by rw [beq_eq_false_iff_ne]; exact hz
  have x0 := W.mag_lo v _ a0 a1; have x1 := W.mag_hi v _ a0 a1
  have y0 := W.mag_pos v _ b0 b1 hz; have hmd := W.md_le v
  have hm := W.msk v h
  have ux : W.U (W.mag v (a % W.md v) / W.mag v (b % W.md v)) := ⟨Int.ediv_nonneg x0 (by omega), by have := W.div_le x0 (show 0 ≤ W.mag v (b % W.md v) by omega); omega⟩
  have uy : W.U (W.mag v (a % W.md v) % W.mag v (b % W.md v)) := ⟨Int.emod_nonneg _ (by omega), by
    have e1 := Int.emod_add_mul_ediv (W.mag v (a % W.md v)) (W.mag v (b % W.md v))
    have e2 := Int.mul_nonneg (show 0 ≤ W.mag v (b % W.md v) by omega) (Int.ediv_nonneg x0 (show 0 ≤ W.mag v (b % W.md v) by omega))
    omega⟩
  cases s
  · refine (parts_plain a b v _ _ h hA hB (by omega) a0 (by omega) hz' w).mono ?_
    rintro e w' ⟨rfl, hd⟩
    exact ⟨W.ret3 (W.u64 rfl) (W.u64 rfl) rfl, hd⟩
  · rcases hna : W.ng v (a % W.md v) with _ | _ <;> rcases hnb : W.ng v (b % W.md v) with _ | _
    · refine (parts_ff a b v _ _ _ _ h hA hB a0 a1 b0 b1 hz' rfl rfl hna hnb x0 (by omega) y0 w).mono ?_
      rintro e w' ⟨rfl, hd⟩
      obtain ⟨e1, e2⟩ := W.quo_pp v a b _ _ rfl rfl hna hnb x0 (by omega)
      exact ⟨W.ret3 (W.u64 (by rw [hm _ ux, e1])) (W.u64 (by rw [hm _ uy, e2])) rfl, hd⟩
    · refine (parts_ft a b v _ _ _ _ h hA hB a0 a1 b0 b1 hz' rfl rfl hna hnb x0 (by omega) y0 w).mono ?_
      rintro e w' ⟨rfl, hd⟩
      obtain ⟨e1, e2⟩ := W.quo_pn v a b _ _ rfl rfl hna hnb x0 (by omega)
      exact ⟨W.ret3 (W.u64 (by rw [hm _ (W.U_wrap _), W.wrap_u64_mod, e1])) (W.u64 (by rw [hm _ uy, e2])) rfl, hd⟩
    · refine (parts_tf a b v _ _ _ _ h hA hB a0 a1 b0 b1 hz' rfl rfl hna hnb x0 (by omega) y0 w).mono ?_
      rintro e w' ⟨rfl, hd⟩
      obtain ⟨e1, e2⟩ := W.quo_np v a b _ _ rfl rfl hna hnb x0 (by omega)
      exact ⟨W.ret3 (W.u64 (by rw [hm _ (W.U_wrap _), W.wrap_u64_mod, e1])) (W.u64 (by rw [hm _ (W.U_wrap _), W.wrap_u64_mod, e2])) rfl, hd⟩
    · refine (parts_tt a b v _ _ _ _ h hA hB a0 a1 b0 b1 hz' rfl rfl hna hnb x0 (by omega) y0 w).mono ?_
      rintro e w' ⟨rfl, hd⟩
      obtain ⟨e1, e2⟩ := W.quo_nn v a b _ _ rfl rfl hna hnb x0 (by omega)
      exact ⟨W.ret3 (W.u64 (by rw [hm _ ux, e1])) (W.u64 (by rw [hm _ (W.U_wrap _), W.wrap_u64_mod, e2])) rfl, hd⟩

set_option maxHeartbeats 400000 in
theorem div_ok (a b v : Int) (s : Bool) (h : W.ok v) (ha : W.U a) (hb : W.U b) (hz : b % W.md v ≠ 0) (w : World) :
    Calls Try.prog 69 #[.int .u64 a, .int .u64 b, .int .i64 v, .bool s] w fun e w' => e = .returned (.tuple #[.int .u64 (W.quo v s a b), .int .i64 0]) ∧ Drawn w w' := by
  have Hz := Lib.hid hz; clear hz
  go_enter Try.func69, Try.ntmps69
  go_wp2_with (first | (go_at_call 94; refine (parts_ok _ _ _ _ h ha hb Hz.out _).mono ?_; rintro e w' ⟨rfl, hd⟩; have Hd := Lib.hid hd; clear hd))
  go_ret2
  exact ⟨rfl, Hd.out⟩
set_option maxHeartbeats 400000 in
theorem div_zero (a b v : Int) (s : Bool) (h : W.ok v) (hb : W.U b) (hz : b % W.md v = 0) (w : World) :
    Calls Try.prog 69 #[.int .u64 a, .int .u64 b, .int .i64 v, .bool s] w fun e w' => e = .returned (.tuple #[.int .u64 0, .int .i64 10]) ∧ w = w' := by
  have Hz := Lib.hid hz; clear hz
  go_enter Try.func69, Try.ntmps69
  go_wp2_with (first | (go_at_call 94; refine (parts_zero _ _ _ _ h (by rw [W.msk v h b hb]; exact Hz.out) _).mono ?_; rintro e w' ⟨rfl, rfl⟩))
  go_ret2
  exact ⟨rfl, rfl⟩
set_option maxHeartbeats 400000 in
theorem div_no (a b v : Int) (s : Bool) (h : ¬ W.ok v) (w : World) :
    Calls Try.prog 69 #[.int .u64 a, .int .u64 b, .int .i64 v, .bool s] w fun e w' => e = .returned (.tuple #[.int .u64 0, .int .i64 1]) ∧ w = w' := by
  go_enter Try.func69, Try.ntmps69
  go_wp2_with (first | (go_at_call 94; refine (parts_no _ _ _ _ h _).mono ?_; rintro e w' ⟨rfl, rfl⟩))
  go_ret2
  exact ⟨rfl, rfl⟩

set_option maxHeartbeats 400000 in
theorem rem_ok (a b v : Int) (s : Bool) (h : W.ok v) (ha : W.U a) (hb : W.U b) (hz : b % W.md v ≠ 0) (w : World) :
    Calls Try.prog 70 #[.int .u64 a, .int .u64 b, .int .i64 v, .bool s] w fun e w' => e = .returned (.tuple #[.int .u64 (W.rem v s a b), .int .i64 0]) ∧ Drawn w w' := by
  have Hz := Lib.hid hz; clear hz
  go_enter Try.func70, Try.ntmps70
  go_wp2_with (first | (go_at_call 94; refine (parts_ok _ _ _ _ h ha hb Hz.out _).mono ?_; rintro e w' ⟨rfl, hd⟩; have Hd := Lib.hid hd; clear hd))
  go_ret2
  exact ⟨rfl, Hd.out⟩
set_option maxHeartbeats 400000 in
theorem rem_zero (a b v : Int) (s : Bool) (h : W.ok v) (hb : W.U b) (hz : b % W.md v = 0) (w : World) :
    Calls Try.prog 70 #[.int .u64 a, .int .u64 b, .int .i64 v, .bool s] w fun e w' => e = .returned (.tuple #[.int .u64 0, .int .i64 10]) ∧ w = w' := by
  have Hz := Lib.hid hz; clear hz
  go_enter Try.func70, Try.ntmps70
  go_wp2_with (first | (go_at_call 94; refine (parts_zero _ _ _ _ h (by rw [W.msk v h b hb]; exact Hz.out) _).mono ?_; rintro e w' ⟨rfl, rfl⟩))
  go_ret2
  exact ⟨rfl, rfl⟩
set_option maxHeartbeats 400000 in
theorem rem_no (a b v : Int) (s : Bool) (h : ¬ W.ok v) (w : World) :
    Calls Try.prog 70 #[.int .u64 a, .int .u64 b, .int .i64 v, .bool s] w fun e w' => e = .returned (.tuple #[.int .u64 0, .int .i64 1]) ∧ w = w' := by
  go_enter Try.func70, Try.ntmps70
  go_wp2_with (first | (go_at_call 94; refine (parts_no _ _ _ _ h _).mono ?_; rintro e w' ⟨rfl, rfl⟩))
  go_ret2
  exact ⟨rfl, rfl⟩
end Go.Proofs.Ythdckndjggljpaa

/- Walk of word.Split: the words of a number. -/
namespace Go.Proofs.Ythdckndjggljpaa
open Go.RowKit
set_option linter.unusedVariables false
set_option maxRecDepth 100000

theorem Try.infoI : (Try.prog.info? 3).map (fun i => (i.zero, i.size, i.bytes)) = some (some (.int .i64 0), 1, 8) := by kernel_rfl

/-- A number without its lowest j words; its lowest k words. -/
def W.dn (j : Nat) (x : Int) : Int := x / 65536 ^ j
def W.split : Nat → Int → List Int
  | 0, _ => []
  | k + 1, x => W.split k x ++ [W.dn k x % 65536]
/-- How many words a width takes. -/
def W.nw (v : Int) : Nat := if v = 32 then 2 else if v = 64 then 4 else 1
theorem W.split_len (k : Nat) (x : Int) : (W.split k x).length = k := by
  induction k with
  | zero => rfl
  | succ k ih => simp [W.split, ih]
theorem W.dn_zero (x : Int) : W.dn 0 x = x := by simp [W.dn]
theorem W.dn_succ (j : Nat) (x : Int) : W.dn (j + 1) x = W.dn j x / 65536 := by
  have hp : (0 : Int) < 65536 ^ j := Int.pow_pos (by decide)
  unfold W.dn; rw [Int.pow_succ, Int.ediv_ediv, if_neg (by omega), Int.sub_zero]
theorem W.dn_U (j : Nat) (x : Int) (h : W.U x) : W.U (W.dn j x) := by
  have hp : (0 : Int) < 65536 ^ j := Int.pow_pos (by decide)
  have := W.div_le h.1 (Int.le_of_lt hp)
  exact ⟨Int.ediv_nonneg h.1 (Int.le_of_lt hp), by have := h.2; unfold W.dn; omega⟩

end Go.Proofs.Ythdckndjggljpaa
