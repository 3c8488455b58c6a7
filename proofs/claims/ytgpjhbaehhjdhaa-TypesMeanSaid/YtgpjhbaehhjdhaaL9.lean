/- The closed fact that the laws of chapter 7 ask first; TypesTurn: its walk. -/
import Derived.Test.YtgpjhbaehhjdhaaT5
import Derived.Test.YtgpjhbaehhjdhaaTq
import Derived.Test.YtgpjhbaehhjdhaaFr
namespace Go.Proofs.Ytgpjhbaehhjdhaa
open Go.ChangeShapes Go.WideShapes Go.ChangeAt Go.RowKit
set_option linter.unusedVariables false
set_option linter.unusedSimpArgs false
set_option maxRecDepth 100000

set_option maxHeartbeats 4000000 in
theorem alive7 (w : World) : Calls Try.prog 73 #[] w fun e w' => e = .returned (.bool true) ∧ Below w.heap.size w w' := by
  have NB : Hid (∀ w : World, Calls Try.prog 75 #[.int .i64 12, .int .u64 250, .int .u64 10, .agg #[.int .i64 8, .bool false], .agg #[.int .i64 8, .bool false]] w fun e w' => e = .returned (.tuple #[.int .u64 260, .int .i64 0]) ∧ Below w.heap.size w w') := fun w =>
    binary_add 250 10 8 8 16 false false true (by simp [W.ok]) (by simp [W.ok]) (by simp [W.ok]) (by decide) (by decide) ⟨by omega, by omega⟩ ⟨by omega, by omega⟩ 250 10 (by decide) (by decide) w
  have NN : Hid (∀ w : World, Calls Try.prog 58 #[.agg #[.int .i64 32, .bool false]] w fun e w' => e = .returned (.string ⟨#[117, 51, 50]⟩) ∧ Below w.heap.size w w') := fun w => name_ok 32 false w
  go_enter Try.func73, Try.ntmps73
  go_wp2_with (first | (go_at_call 75; refine (NB.out _).mono ?_; rintro e w1 ⟨rfl, hb1⟩; have HB1 := Lib.hid hb1; clear hb1) | (go_at_call 58; refine (NN.out _).mono ?_; rintro e w2 ⟨rfl, hb2⟩; have HB2 := Lib.hid hb2; clear hb2))
  go_ret
  exact ⟨rfl, Ext.trans HB1.out HB2.out⟩
end Go.Proofs.Ytgpjhbaehhjdhaa
