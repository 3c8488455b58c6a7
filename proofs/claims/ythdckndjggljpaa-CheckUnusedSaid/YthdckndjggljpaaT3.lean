/- The contract of types.Common. -/
import Derived.Test.YthdckndjggljpaaT3a
import Derived.Test.YthdckndjggljpaaT3b
import Derived.Test.YthdckndjggljpaaT3c
import Derived.Test.YthdckndjggljpaaT3d
namespace Go.Proofs.Ythdckndjggljpaa
open Go.RowKit
set_option linter.unusedVariables false
set_option linter.unusedSimpArgs false
set_option maxRecDepth 100000

theorem W.cell_lt {w : World} {B o : Nat} {v : Value} (h : w.cell? ⟨B, o, none⟩ = some v) : B < w.heap.size := World.block_lt_of_cell? w ⟨B, o, none⟩ h
/-- The common type of two. -/
def W.cb (a b : Int) : Int := if W.pb b < W.pb a then W.pb a else W.pb b
def W.cs (a : Int) (s : Bool) (b : Int) (t : Bool) : Bool := if W.pb b < W.pb a then W.ps a s else if W.pb a < W.pb b then W.ps b t else W.ps a s && W.ps b t

theorem common_ok (a b : Int) (s t : Bool) (w : World) : Calls Try.prog 67 #[W.ty a s, W.ty b t] w fun e w' => e = .returned (W.ty (W.cb a b) (W.cs a s b t)) ∧ Below w.heap.size w w' := by
  unfold W.cb W.cs
  by_cases h1 : W.pb b < W.pb a
  · rw [if_pos h1, if_pos h1]; exact common_gt a b _ _ s t _ _ rfl rfl rfl rfl h1 w
  rw [if_neg h1, if_neg h1]
  by_cases h2 : W.pb a < W.pb b
  · rw [if_pos h2]; exact common_lt a b _ _ s t _ _ rfl rfl rfl rfl h1 h2 w
  rw [if_neg h2]
  have e : W.pb b = W.pb a := by omega
  rw [e]
  rcases Bool.eq_false_or_eq_true (W.ps a s) with hS | hS
  · rw [hS]; exact common_et a b _ _ s t _ rfl e hS rfl (by omega) (by omega) w
  · rw [hS]; exact common_ef a b _ _ s t _ rfl e hS rfl (by omega) (by omega) w
end Go.Proofs.Ythdckndjggljpaa
