/- Walks of word.Signed, size, parts, Div, Rem, Shl, Shr, Less: what each call hands back, at every argument. -/
import Derived.Test.YtfjgnhmmakeaeaaB0
import Derived.Deep.QuietTactic
import Derived.BigQuiet
namespace Go.Proofs.Ytfjgnhmmakeaeaa
open Go.RowKit
set_option linter.unusedVariables false

set_option maxHeartbeats 400000 in
theorem mask_ok (v : Int) (h : W.ok v) (w : World) : Calls Try.prog 49 #[.int .i64 v] w fun e w' => e = .returned (.int .u64 (W.mk v)) ∧ w = w' := by
  rcases h with rfl | rfl | rfl | rfl
  all_goals
    go_enter Try.func49, Try.ntmps49
    go_wp2
    go_ret
    exact ⟨rfl, rfl⟩
set_option maxHeartbeats 1000000 in
theorem signed_ok (a v : Int) (h : W.ok v) (w : World) : Calls Try.prog 52 #[.int .u64 a, .int .i64 v] w fun e w' => e = .returned (.tuple #[.int .i64 (W.sg v a), .int .i64 0]) ∧ w = w' := by
  rcases h with rfl | rfl | rfl | rfl
  · go_enter Try.func52, Try.ntmps52
    go_wp2
    go_ret2
    exact ⟨W.ret2 (W.i64 (W.sg8 a)) rfl, rfl⟩
  · go_enter Try.func52, Try.ntmps52
    go_wp2
    go_ret2
    exact ⟨W.ret2 (W.i64 (W.sg16 a)) rfl, rfl⟩
  · go_enter Try.func52, Try.ntmps52
    go_wp2
    go_ret2
    exact ⟨W.ret2 (W.i64 (W.sg32 a)) rfl, rfl⟩
  · go_enter Try.func52, Try.ntmps52
    go_wp2
    go_ret2
    exact ⟨W.ret2 (W.i64 (W.sg64 a)) rfl, rfl⟩
set_option maxHeartbeats 400000 in
theorem signed_no (a v : Int) (h : ¬ W.ok v) (w : World) : Calls Try.prog 52 #[.int .u64 a, .int .i64 v] w fun e w' => e = .returned (.tuple #[.int .i64 0, .int .i64 1]) ∧ w = w' := by
  go_enter Try.func52, Try.ntmps52
  go_wp2_with (first | (go_at_call 48; refine (width_no v h _).mono ?_; rintro e w' ⟨rfl, rfl⟩) | go_in)
  go_ret2
  exact ⟨rfl, rfl⟩

set_option maxHeartbeats 1000000 in
theorem less_ok (a b v A B : Int) (s : Bool) (h : W.ok v) (hA : bits .and .u64 a (W.mk v) = A) (hB : bits .and .u64 b (W.mk v) = B) (w : World) :
    Calls Try.prog 34 #[.int .u64 a, .int .u64 b, .int .i64 v, .bool s] w fun e w' => e = .returned (.tuple #[.bool (if s then decide (W.sg v a < W.sg v b) else decide (A < B)), .int .i64 0]) ∧ w = w' := by
  cases s
  · go_enter Try.func34, Try.ntmps34
    go_wp2_with (first | (go_at_call 52; refine (signed_ok _ _ h _).mono ?_; rintro e w' ⟨rfl, rfl⟩) | (go_at_call 49; refine (mask_ok _ h _).mono ?_; rintro e w' ⟨rfl, rfl⟩))
    go_ret2
    exact ⟨rfl, rfl⟩
  · go_enter Try.func34, Try.ntmps34
    go_wp2_with (first | (go_at_call 52; refine (signed_ok _ _ h _).mono ?_; rintro e w' ⟨rfl, rfl⟩) | (go_at_call 49; refine (mask_ok _ h _).mono ?_; rintro e w' ⟨rfl, rfl⟩))
    go_ret2
    exact ⟨rfl, rfl⟩
theorem less_any (a b v : Int) (s : Bool) (h : W.ok v) (ha : W.U a) (hb : W.U b) (w : World) :
    Calls Try.prog 34 #[.int .u64 a, .int .u64 b, .int .i64 v, .bool s] w fun e w' => e = .returned (.tuple #[.bool (W.less v s a b), .int .i64 0]) ∧ w = w' :=
  less_ok a b v _ _ s h (W.msk v h a ha) (W.msk v h b hb) w
set_option maxHeartbeats 400000 in
theorem less_no (a b v : Int) (s : Bool) (h : ¬ W.ok v) (w : World) : Calls Try.prog 34 #[.int .u64 a, .int .u64 b, .int .i64 v, .bool s] w fun e w' => e = .returned (.tuple #[.bool false, .int .i64 1]) ∧ w = w' := by
  go_enter Try.func34, Try.ntmps34
  go_wp2_with (first | (go_at_call 52; refine (signed_no _ _ h _).mono ?_; rintro e w' ⟨rfl, rfl⟩))
  go_ret2
  exact ⟨rfl, rfl⟩

set_option maxHeartbeats 1000000 in
theorem shr_ok (a n v A : Int) (s : Bool) (h : W.ok v) (hn : 0 ≤ n) (hA : bits .and .u64 a (W.mk v) = A) (w : World) :
    Calls Try.prog 30 #[.int .u64 a, .int .u64 n, .int .i64 v, .bool s] w fun e w' => e = .returned (.tuple #[.int .u64 (if s then bits .and .u64 (IntKind.u64.wrap (W.sg v a / 2 ^ min n.toNat 64)) (W.mk v) else A / 2 ^ min n.toNat 64), .int .i64 0]) ∧ w = w' := by
  cases s
  · go_enter Try.func30, Try.ntmps30
    go_wp2_with (first | (go_at_call 52; refine (signed_ok _ _ h _).mono ?_; rintro e w' ⟨rfl, rfl⟩) | (go_at_call 49; refine (mask_ok _ h _).mono ?_; rintro e w' ⟨rfl, rfl⟩))
    go_ret2
    exact ⟨rfl, rfl⟩
  · go_enter Try.func30, Try.ntmps30
    go_wp2_with (first | (go_at_call 52; refine (signed_ok _ _ h _).mono ?_; rintro e w' ⟨rfl, rfl⟩) | (go_at_call 49; refine (mask_ok _ h _).mono ?_; rintro e w' ⟨rfl, rfl⟩))
    go_ret2
    exact ⟨rfl, rfl⟩
theorem shr_any (a n v : Int) (s : Bool) (h : W.ok v) (ha : W.U a) (hn : 0 ≤ n) (w : World) :
    Calls Try.prog 30 #[.int .u64 a, .int .u64 n, .int .i64 v, .bool s] w fun e w' => e = .returned (.tuple #[.int .u64 (W.shr v s a n), .int .i64 0]) ∧ w = w' := by
  refine (shr_ok a n v _ s h hn (W.msk v h a ha) w).mono ?_
  rintro e w' ⟨rfl, rfl⟩
  refine ⟨W.ret2 (W.u64 ?_) rfl, rfl⟩
  unfold W.shr
  cases s
  · rfl
  · simp only [if_true]
    rw [W.msk v h _ (W.U_wrap _), W.wrap_u64_mod]
set_option maxHeartbeats 400000 in
theorem shr_no (a n v : Int) (s : Bool) (h : ¬ W.ok v) (w : World) : Calls Try.prog 30 #[.int .u64 a, .int .u64 n, .int .i64 v, .bool s] w fun e w' => e = .returned (.tuple #[.int .u64 0, .int .i64 1]) ∧ w = w' := by
  go_enter Try.func30, Try.ntmps30
  go_wp2_with (first | (go_at_call 52; refine (signed_no _ _ h _).mono ?_; rintro e w' ⟨rfl, rfl⟩))
  go_ret2
  exact ⟨rfl, rfl⟩

set_option maxHeartbeats 1000000 in
theorem shl_ok (a n v : Int) (h : W.ok v) (ha : W.U a) (hn : 0 ≤ n) (w : World) :
    Calls Try.prog 29 #[.int .u64 a, .int .u64 n, .int .i64 v] w fun e w' => e = .returned (.tuple #[.int .u64 (W.shl v a n), .int .i64 0]) ∧ w' = w.alloc (.cells #[.int .u64 n] 55) := by
  go_enter Try.func29, Try.ntmps29
  go_wp2_with (first | (go_at_call 48; refine (width_ok _ h _).mono ?_; rintro e w' ⟨rfl, rfl⟩) | (go_at_call 49; refine (mask_ok _ h _).mono ?_; rintro e w' ⟨rfl, rfl⟩) | go_in)
  go_ret2
  exact ⟨W.ret2 (W.u64 (W.both_shl _ (W.msk v h) ha)) rfl, rfl⟩
set_option maxHeartbeats 400000 in
theorem shl_no (a n v : Int) (h : ¬ W.ok v) (w : World) :
    Calls Try.prog 29 #[.int .u64 a, .int .u64 n, .int .i64 v] w fun e w' => e = .returned (.tuple #[.int .u64 0, .int .i64 1]) ∧ w' = w.alloc (.cells #[.int .u64 n] 55) := by
  go_enter Try.func29, Try.ntmps29
  go_wp2_with (first | (go_at_call 48; refine (width_no _ h _).mono ?_; rintro e w' ⟨rfl, rfl⟩) | go_in)
  go_ret2
  exact ⟨rfl, rfl⟩
end Go.Proofs.Ytfjgnhmmakeaeaa
