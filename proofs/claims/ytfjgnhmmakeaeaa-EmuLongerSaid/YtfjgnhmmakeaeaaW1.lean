/- Walks of word.Width, mask, Cut, Add, Sub, Mul: what each call hands back, at every argument. -/
import Derived.Test.YtfjgnhmmakeaeaaWp
import Derived.Test.YtfjgnhmmakeaeaaRows
import Derived.WalkSpells
import Derived.WalkLawsBesides
namespace Go.Proofs.Ytfjgnhmmakeaeaa
open Go.RowKit

set_option maxHeartbeats 400000 in
theorem width_ok (v : Int) (h : W.ok v) (w : World) : Calls Try.prog 48 #[.int .i64 v] w fun e w' => e = .returned (.bool true) ∧ w = w' := by
  rcases h with rfl | rfl | rfl | rfl
  all_goals
    go_enter Try.func48, Try.ntmps48
    go_wp2
    go_ret
    exact ⟨rfl, rfl⟩
set_option maxHeartbeats 400000 in
theorem width_no (v : Int) (h : ¬ W.ok v) (w : World) : Calls Try.prog 48 #[.int .i64 v] w fun e w' => e = .returned (.bool false) ∧ w = w' := by
  have h1 : (v == 8) = false := by rw [beq_eq_false_iff_ne]; intro e; exact h (.inl e)
  have h2 : (v == 16) = false := by rw [beq_eq_false_iff_ne]; intro e; exact h (.inr (.inl e))
  have h3 : (v == 32) = false := by rw [beq_eq_false_iff_ne]; intro e; exact h (.inr (.inr (.inl e)))
  have h4 : (v == 64) = false := by rw [beq_eq_false_iff_ne]; intro e; exact h (.inr (.inr (.inr e)))
  go_enter Try.func48, Try.ntmps48
  go_wp2
  go_ret
  exact ⟨rfl, rfl⟩

set_option maxHeartbeats 1000000 in
theorem add_ok (a b v : Int) (h : W.ok v) (ha : W.U a) (hb : W.U b) (w : World) : Calls Try.prog 31 #[.int .u64 a, .int .u64 b, .int .i64 v] w fun e w' => e = .returned (.tuple #[.int .u64 (W.add v a b), .int .i64 0]) ∧ w = w' := by
  rcases h with rfl | rfl | rfl | rfl
  · go_enter Try.func31, Try.ntmps31
    go_wp2
    go_ret2
    exact ⟨W.ret2 (W.u64 (W.both_add W.msk8 ha hb)) rfl, rfl⟩
  · go_enter Try.func31, Try.ntmps31
    go_wp2
    go_ret2
    exact ⟨W.ret2 (W.u64 (W.both_add W.msk16 ha hb)) rfl, rfl⟩
  · go_enter Try.func31, Try.ntmps31
    go_wp2
    go_ret2
    exact ⟨W.ret2 (W.u64 (W.both_add W.msk32 ha hb)) rfl, rfl⟩
  · go_enter Try.func31, Try.ntmps31
    go_wp2
    go_ret2
    exact ⟨W.ret2 (W.u64 (W.both_add W.msk64 ha hb)) rfl, rfl⟩
set_option maxHeartbeats 1000000 in
theorem sub_ok (a b v : Int) (h : W.ok v) (ha : W.U a) (hb : W.U b) (w : World) : Calls Try.prog 32 #[.int .u64 a, .int .u64 b, .int .i64 v] w fun e w' => e = .returned (.tuple #[.int .u64 (W.sub v a b), .int .i64 0]) ∧ w = w' := by
  rcases h with rfl | rfl | rfl | rfl
  · go_enter Try.func32, Try.ntmps32
    go_wp2
    go_ret2
    exact ⟨W.ret2 (W.u64 (W.both_sub W.msk8 ha hb)) rfl, rfl⟩
  · go_enter Try.func32, Try.ntmps32
    go_wp2
    go_ret2
    exact ⟨W.ret2 (W.u64 (W.both_sub W.msk16 ha hb)) rfl, rfl⟩
  · go_enter Try.func32, Try.ntmps32
    go_wp2
    go_ret2
    exact ⟨W.ret2 (W.u64 (W.both_sub W.msk32 ha hb)) rfl, rfl⟩
  · go_enter Try.func32, Try.ntmps32
    go_wp2
    go_ret2
    exact ⟨W.ret2 (W.u64 (W.both_sub W.msk64 ha hb)) rfl, rfl⟩
set_option maxHeartbeats 1000000 in
theorem add_no (a b v : Int) (h : ¬ W.ok v) (w : World) : Calls Try.prog 31 #[.int .u64 a, .int .u64 b, .int .i64 v] w fun e w' => e = .returned (.tuple #[.int .u64 0, .int .i64 1]) ∧ w = w' := by
  go_enter Try.func31, Try.ntmps31
  go_wp2_with (first | (go_at_call 48; refine (width_no v h _).mono ?_; rintro e w' ⟨rfl, rfl⟩) | go_in)
  go_ret2
  exact ⟨rfl, rfl⟩
set_option maxHeartbeats 1000000 in
theorem sub_no (a b v : Int) (h : ¬ W.ok v) (w : World) : Calls Try.prog 32 #[.int .u64 a, .int .u64 b, .int .i64 v] w fun e w' => e = .returned (.tuple #[.int .u64 0, .int .i64 1]) ∧ w = w' := by
  go_enter Try.func32, Try.ntmps32
  go_wp2_with (first | (go_at_call 48; refine (width_no v h _).mono ?_; rintro e w' ⟨rfl, rfl⟩) | go_in)
  go_ret2
  exact ⟨rfl, rfl⟩
set_option maxHeartbeats 1000000 in
theorem cut_ok (a v : Int) (h : W.ok v) (ha : W.U a) (w : World) : Calls Try.prog 33 #[.int .u64 a, .int .i64 v] w fun e w' => e = .returned (.tuple #[.int .u64 (W.cut v a), .int .i64 0]) ∧ w = w' := by
  rcases h with rfl | rfl | rfl | rfl
  · go_enter Try.func33, Try.ntmps33
    go_wp2
    go_ret2
    exact ⟨W.ret2 (W.u64 (W.msk8 a ha)) rfl, rfl⟩
  · go_enter Try.func33, Try.ntmps33
    go_wp2
    go_ret2
    exact ⟨W.ret2 (W.u64 (W.msk16 a ha)) rfl, rfl⟩
  · go_enter Try.func33, Try.ntmps33
    go_wp2
    go_ret2
    exact ⟨W.ret2 (W.u64 (W.msk32 a ha)) rfl, rfl⟩
  · go_enter Try.func33, Try.ntmps33
    go_wp2
    go_ret2
    exact ⟨W.ret2 (W.u64 (W.msk64 a ha)) rfl, rfl⟩
set_option maxHeartbeats 1000000 in
theorem cut_no (a v : Int) (h : ¬ W.ok v) (w : World) : Calls Try.prog 33 #[.int .u64 a, .int .i64 v] w fun e w' => e = .returned (.tuple #[.int .u64 0, .int .i64 1]) ∧ w = w' := by
  go_enter Try.func33, Try.ntmps33
  go_wp2_with (first | (go_at_call 48; refine (width_no v h _).mono ?_; rintro e w' ⟨rfl, rfl⟩) | go_in)
  go_ret2
  exact ⟨rfl, rfl⟩
end Go.Proofs.Ytfjgnhmmakeaeaa
