/- TypesReckon: Binary and Unary answer as the reference does, at every input. No condition. -/
import Derived.Test.YtgpjhbaehhjdhaaO9
import Derived.Test.YtgpjhbaehhjdhaaOq
import Derived.Test.YtgpjhbaehhjdhaaOp
namespace Go.Proofs.Ytgpjhbaehhjdhaa.typesReckon
open Go.ChangeShapes Go.WideShapes Go.ChangeAt Go.RowKit
set_option linter.unusedVariables false
set_option maxRecDepth 100000

theorem walks : Walks 18 Try.f18 := by
  intro H enc W base args ds ps hval hA hsz
  have hA0 := hA
  rw [Try.params18] at hA hval
  obtain ⟨v0, vs0, d0, ds0, p0, q0, hargs, rfl, rfl, h0, r0⟩ := trodAll_cons hA
  obtain ⟨v1, vs1, d1, ds1, p1, q1, rfl, rfl, rfl, h1, r1⟩ := trodAll_cons r0
  obtain ⟨v2, vs2, d2, ds2, p2, q2, rfl, rfl, rfl, h2, r2⟩ := trodAll_cons r1
  obtain ⟨v3, vs3, d3, ds3, p3, q3, rfl, rfl, rfl, h3, r3⟩ := trodAll_cons r2
  obtain ⟨v4, vs4, d4, ds4, p4, q4, rfl, rfl, rfl, h4, r4⟩ := trodAll_cons r3
  obtain ⟨rfl, rfl, rfl⟩ := trodAll_nil r4
  obtain rfl : args = #[v0, v1, v2, v3, v4] := by cases args; simp_all
  obtain ⟨a0, rfl, rfl, rfl, w0⟩ := open_int Try.underlying3 (hval 0 3 v0 rfl rfl) h0
  obtain ⟨a1, rfl, rfl, rfl, w1⟩ := open_int Try.underlying22 (hval 1 22 v1 rfl rfl) h1
  obtain ⟨a2, rfl, rfl, rfl, w2⟩ := open_int Try.underlying22 (hval 2 22 v2 rfl rfl) h2
  obtain ⟨a3, b3, rfl, w3⟩ := op_type (hval 3 66 v3 rfl rfl) h3
  obtain ⟨a4, b4, rfl, w4⟩ := op_type (hval 4 66 v4 rfl rfl) h4
  exact reckon_walk a0 w0 a1 w1 a2 w2 a3 b3 w3 a4 b4 w4 W

theorem lifted (os : Os) (started : os.Started) (H : Type) (enc : TypeId × Value → H) :
    ReturnsInHanded {} Try.checked os 18 .any (Rows.typesReckonSpec.pre6 enc Try.prog Try.f18 Rows.typesReckonRow.domain false) (Rows.typesReckonSpec.post enc Try.prog Try.f18 false true false false) :=
  law_lifted 18 Try.f18 Rows.typesReckonSpec Try.func18 (by kernel_rfl) rfl rfl (all_of_B (by kernel_rfl)) (fun H ds h => by match ds, h with | [d0, d1, d2, d3, d4], _ => exact ⟨rfl, rfl, rfl⟩) os started H enc
    (ChangeSpec.witness6 (enc := enc) (C := Try.checked) false ⟨#[], #[.int .i64 0, .int .u64 0, .int .u64 0, .agg #[.int .i64 0, .bool false], .agg #[.int .i64 0, .bool false]], []⟩ 8 (by kernel_rfl) (by kernel_rfl) (by kernel_rfl) (by kernel_rfl)) walks

theorem kNamed : Try.pinned.checked.prog.funcNamed Rows.typesReckonRow.func = some 18 := by kernel_rfl
theorem kJoined : joinedFacts Try.pinned.checked.prog 18 Try.f18 Rows.typesReckonSpec Rows.typesReckonRow = true := by kernel_rfl
theorem kInst : Try.f18.isInstance Try.pinned.checked.prog Rows.typesReckonRow.origin Rows.typesReckonRow.targs := of_decide_eq_true (by kernel_rfl)
theorem kWrap : Try.f18.isWrapper Try.pinned.checked.prog Rows.typesReckonRow.wrapper Rows.typesReckonRow.mainSum := by
  unfold Func.isWrapper; first | (rw [if_pos (by decide +kernel)]; kernel_rfl) | (rw [if_neg (by decide +kernel)]; exact ⟨rfl, rfl⟩)
theorem over : Rows.typesReckonRow.holds Try.pinned (OpenSpec.ofChange Rows.typesReckonSpec) :=
  OpenClaim.holds_of_wide 18 Try.f18 rfl rfl rfl rfl rfl rfl rfl ⟨rfl, rfl, rfl, rfl, rfl⟩ rfl rfl rfl rfl rfl kNamed Try.func18 kJoined kInst kWrap
    (fun os started H enc _ => lifted os started H enc)

/-- THE STATEMENT. -/
theorem proved : Rows.TypesReckonSaid := over
#print axioms proved
end Go.Proofs.Ytgpjhbaehhjdhaa.typesReckon
