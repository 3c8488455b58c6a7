/- Const tells what constant expressions have, and their types. Condition: none beyond the statement's own. -/
import Derived.Test.YtkmcniaaecijdaaX11
import Derived.Test.YtkmcniaaecijdaaXA
import Derived.Test.YtkmcniaaecijdaaB0
namespace Go.Proofs.Ytkmcniaaecijdaa.checkConst
open Go.ChangeShapes Go.WideShapes Go.ChangeAt Go.RowKit
set_option linter.unusedVariables false
set_option maxRecDepth 100000

theorem walks : Walks 4 Try.f4 := by
  intro H enc W base args ds ps hval hA hsz
  have hA0 := hA
  rw [Try.params4] at hA hval
  obtain ⟨v0, vs0, d0, ds0, p0, q0, hargs, rfl, rfl, h0, r0⟩ := trodAll_cons hA
  obtain ⟨rfl, rfl, rfl⟩ := trodAll_nil r0
  obtain rfl : args = #[v0] := by cases args; simp_all
  obtain ⟨e0, cs0, rfl, x0, w0⟩ := op_expr (hval 0 36 v0 rfl rfl) h0
  exact const_walk e0 cs0 W x0 w0

theorem lifted (os : Os) (started : os.Started) (H : Type) (enc : TypeId × Value → H) :
    ReturnsInHanded {} Try.checked os 4 .any (Rows.checkConstSpec.pre6 enc Try.prog Try.f4 Rows.checkConstRow.domain false) (Rows.checkConstSpec.post enc Try.prog Try.f4 false true false false) :=
  law_lifted 4 Try.f4 Rows.checkConstSpec Try.func4 (by kernel_rfl) rfl rfl (all_of_B (by kernel_rfl)) (fun H ds h => by match ds, h with | [d0], _ => exact ⟨rfl, rfl, rfl⟩) os started H enc
    (ChangeSpec.witness6 (enc := enc) (C := Try.checked) false ⟨#[], #[.agg #[.int .i64 0, .int .u64 0, .int .i64 0, .bool false, .string ⟨#[]⟩, .slice none 0 0]], []⟩ 8 (by kernel_rfl) (by kernel_rfl) (by kernel_rfl) (by kernel_rfl)) walks

theorem kNamed : Try.pinned.checked.prog.funcNamed Rows.checkConstRow.func = some 4 := by kernel_rfl
theorem kJoined : joinedFacts Try.pinned.checked.prog 4 Try.f4 Rows.checkConstSpec Rows.checkConstRow = true := by kernel_rfl
theorem kInst : Try.f4.isInstance Try.pinned.checked.prog Rows.checkConstRow.origin Rows.checkConstRow.targs := of_decide_eq_true (by kernel_rfl)
theorem kWrap : Try.f4.isWrapper Try.pinned.checked.prog Rows.checkConstRow.wrapper Rows.checkConstRow.mainSum := by
  unfold Func.isWrapper; first | (rw [if_pos (by decide +kernel)]; kernel_rfl) | (rw [if_neg (by decide +kernel)]; exact ⟨rfl, rfl⟩)
theorem over : Rows.checkConstRow.holds Try.pinned (OpenSpec.ofChange Rows.checkConstSpec) :=
  OpenClaim.holds_of_wide 4 Try.f4 rfl rfl rfl rfl rfl rfl rfl ⟨rfl, rfl, rfl, rfl, rfl⟩ rfl rfl rfl rfl rfl kNamed Try.func4 kJoined kInst kWrap
    (fun os started H enc _ => lifted os started H enc)

/-- THE STATEMENT. -/
theorem proved : Rows.CheckConstSaid := over
#print axioms proved
end Go.Proofs.Ytkmcniaaecijdaa.checkConst
