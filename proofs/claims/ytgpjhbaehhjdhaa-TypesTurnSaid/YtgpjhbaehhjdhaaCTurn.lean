/- TypesTurn: names tell types, at every input. No condition. -/
import Derived.Test.YtgpjhbaehhjdhaaL10
import Derived.Test.YtgpjhbaehhjdhaaOq
import Derived.Test.YtgpjhbaehhjdhaaOp
namespace Go.Proofs.Ytgpjhbaehhjdhaa.typesTurn
open Go.ChangeShapes Go.WideShapes Go.ChangeAt Go.RowKit
set_option linter.unusedVariables false
set_option maxRecDepth 100000

theorem walks : Walks 19 Try.f19 := by
  intro H enc W base args ds ps hval hA hsz
  have hA0 := hA
  rw [Try.params19] at hA hval
  obtain ⟨v0, vs0, d0, ds0, p0, q0, hargs, rfl, rfl, h0, r0⟩ := trodAll_cons hA
  obtain ⟨v1, vs1, d1, ds1, p1, q1, rfl, rfl, rfl, h1, r1⟩ := trodAll_cons r0
  obtain ⟨rfl, rfl, rfl⟩ := trodAll_nil r1
  obtain rfl : args = #[v0, v1] := by cases args; simp_all
  obtain ⟨a0, b0, rfl, w0⟩ := op_type (hval 0 66 v0 rfl rfl) h0
  obtain ⟨a1, rfl, rfl, rfl, w1⟩ := Go.ChangeMaps.open_string Try.underlying9 (hval 1 9 v1 rfl rfl) h1
  exact turn_walk a0 b0 w0 a1 w1 W

theorem lifted (os : Os) (started : os.Started) (H : Type) (enc : TypeId × Value → H) :
    ReturnsInHanded {} Try.checked os 19 .any (Rows.typesTurnSpec.pre6 enc Try.prog Try.f19 Rows.typesTurnRow.domain false) (Rows.typesTurnSpec.post enc Try.prog Try.f19 false true false false) :=
  law_lifted 19 Try.f19 Rows.typesTurnSpec Try.func19 (by kernel_rfl) rfl rfl (all_of_B (by kernel_rfl)) (fun H ds h => by match ds, h with | [d0, d1], _ => exact ⟨rfl, rfl, rfl⟩) os started H enc
    (ChangeSpec.witness6 (enc := enc) (C := Try.checked) false ⟨#[], #[.agg #[.int .i64 0, .bool false], .string ByteArray.empty], []⟩ 8 (by kernel_rfl) (by kernel_rfl) (by kernel_rfl) (by kernel_rfl)) walks

theorem over : Rows.typesTurnRow.holds Try.pinned (OpenSpec.ofChange Rows.typesTurnSpec) :=
  OpenClaim.holds_of_wide 19 Try.f19 rfl rfl rfl rfl rfl rfl rfl ⟨rfl, rfl, rfl, rfl, rfl⟩ rfl rfl rfl rfl rfl (by kernel_rfl) Try.func19 (by kernel_rfl)
    (of_decide_eq_true (by kernel_rfl)) (by unfold Func.isWrapper; first | (rw [if_pos (by decide +kernel)]; kernel_rfl) | (rw [if_neg (by decide +kernel)]; exact ⟨rfl, rfl⟩))
    (fun os started H enc _ => lifted os started H enc)

/-- THE STATEMENT. -/
theorem proved : Rows.TypesTurnSaid := over
#print axioms proved
end Go.Proofs.Ytgpjhbaehhjdhaa.typesTurn
